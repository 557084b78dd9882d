/- The drawing machine of the laws (spec.l00Src): what it draws lies in bounds. -/
import Derived.Test.YthgnpepchedpbaaGreatK0
import Derived.Test.YthgnpepchedpbaaGreatLsl
import Derived.Test.YthgnpepchedpbaaGreatLp7
import Derived.Test.YthgnpepchedpbaaGreatLk54
import Derived.Test.YthgnpepchedpbaaGreatLs2
set_option linter.unusedVariables false
set_option linter.unusedSimpArgs false
namespace Go.Sx
open Go.Proofs
set_option maxRecDepth 100000
set_option maxHeartbeats 1000000

/-- Bytes. -/
def Byt' (xs : List Int) : Prop := ∀ x ∈ xs, 0 ≤ x ∧ x < 256
theorem wrapU {k : IntKind} {n : Int} (hk : k.signed = false) (h1 : 0 ≤ n) (h2 : n < 2 ^ k.bits) : k.wrap n = n := by
  unfold IntKind.wrap
  rw [hk]
  exact Int.emod_eq_of_lt h1 h2
/-- A machine over bytes that are read. -/
def Src (h0 h : Heap) (L : List Blk) (g : Nat) (cb : Option Addr) (cl cc K : Nat) : Prop :=
  ∃ (p : Nat) (st : Int), p ≤ K ∧ Mem h0 h ((g, T_spec_l00Src, ⟨[.slice cb cl cc, .int .i64 (p : Int), .int .u64 st]⟩) :: L)
section
variable {h0 h h' : Heap} {L W : List Blk} {g : Nat} {cb : Option Addr} {cl cc K K' : Nat} {xs : List Int} {n : Int}
theorem Src.mem (S : Src h0 h L g cb cl cc K) : Mem h0 h L := by
  obtain ⟨_, _, _, M⟩ := S; exact M.drop
theorem Src.grow (S : Src h0 h L g cb cl cc K) (x : Ext h h') : Src h0 h' L g cb cl cc K := by
  obtain ⟨p, st, hp, M⟩ := S; exact ⟨p, st, hp, M.grow x⟩
theorem Src.mono (S : Src h0 h L g cb cl cc K) (hk : K ≤ K') : Src h0 h L g cb cl cc K' := by
  obtain ⟨p, st, hp, M⟩ := S; exact ⟨p, st, by omega, M⟩
theorem Src.cnt (S : Src h0 h L g cb cl cc K) (hc : ∀ p, Sx.cnt p W ≤ Sx.cnt p L) : Src h0 h W g cb cl cc K := by
  obtain ⟨p, st, hp, M⟩ := S; exact ⟨p, st, hp, M.cnt fun q => by have := hc q; simp only [cnt_cons]; omega⟩
theorem and255 (x : Int) : 0 ≤ bitI .and .u64 x 255 ∧ bitI .and .u64 x 255 < 256 := by
  simp only [bitI]
  have h1 : (BitVec.ofInt IntKind.u64.bits x &&& BitVec.ofInt IntKind.u64.bits 255).toNat ≤ 255 := by
    rw [BitVec.toNat_and]
    exact Nat.and_le_right
  have e : (2 : Int) ^ IntKind.u64.bits = 18446744073709551616 := by decide
  rw [wrapU rfl (by omega) (by rw [e]; omega)]
  omega
theorem next_c (S : Src h0 h L g cb xs.length cc K) (C : Cells h0 cb (iv .u8 xs)) (hb : Byt' xs) (hK : K ≤ 1152921504606846976) :
    CALL prg f_p_spec_l00Src_next #[.pointer (some ⟨g, 0, none⟩)] (fun u h' => ∃ v : Int, u = .int .i64 v ∧ 0 ≤ v ∧ v < 256 ∧ Src h0 h' L g cb xs.length cc (K + 1)) h := by
  obtain ⟨p, st, hp, M⟩ := S
  refine p_spec_l00Src_next.call ?_
  have j4 : ∀ v : Int, 0 ≤ v ∧ v < 256 → p_spec_l00Src_next.J4 (fun u h' => ∃ v : Int, u = .int .i64 v ∧ 0 ≤ v ∧ v < 256 ∧ Src h0 h' L g cb xs.length cc (K + 1)) ⟨g, 0, none⟩ v h := by
    intro v hv
    unfold p_spec_l00Src_next.J4
    simp only [add_none, Nat.zero_add]
    refine M.oI (by repeat constructor) rfl ?_
    rw [wrap64_succ (by omega)]
    refine M.st1 (by repeat constructor) (by simp) (by repeat constructor) fun h1 M => ?_
    refine M.oI (by repeat constructor) rfl ?_
    refine M.st1 (by repeat constructor) (by simp) (by repeat constructor) fun h2 M => ?_
    refine M.oI (by repeat constructor) rfl (M.oL (by repeat constructor) rfl ?_)
    have S' : ∀ st' : Int, Mem h0 h2 ((g, T_spec_l00Src, ⟨[.slice cb xs.length cc, .int .i64 ((p + 1 : Nat) : Int), .int .u64 st']⟩) :: L) → Src h0 h2 L g cb xs.length cc (K + 1) := fun st' M => ⟨p + 1, st', by omega, M⟩
    refine brd (fun _ => ⟨v, rfl, hv.1, hv.2, S' _ M⟩) fun _ => ?_
    refine M.oI (by repeat constructor) rfl (nn (by omega) ⟨_, rfl, ?_, ?_, S' _ M⟩)
    · have := and255 (shrI .u64 (IntKind.u64.wrap (IntKind.u64.wrap (IntKind.u64.wrap (st * 6364136223846793005) + IntKind.u64.wrap v) + 1442695040888963407)) 40)
      rw [wrap64 (by omega) (by omega)]; omega
    · have := and255 (shrI .u64 (IntKind.u64.wrap (IntKind.u64.wrap (IntKind.u64.wrap (st * 6364136223846793005) + IntKind.u64.wrap v) + 1442695040888963407)) 40)
      rw [wrap64 (by omega) (by omega)]; omega
  unfold p_spec_l00Src_next.S
  simp only [add_none, Nat.zero_add]
  refine M.oI (by repeat constructor) rfl (M.oL (by repeat constructor) rfl ?_)
  refine brd (fun hc => ?_) fun hc => j4 0 (by omega)
  refine M.oL (by repeat constructor) rfl (M.oI (by repeat constructor) rfl ?_)
  have C' := C.ext M.ext
  obtain ⟨a, rfl⟩ := C'.base (by rw [iv_len]; omega)
  refine idxs (by omega) (by omega) ?_
  rw [Int.toNat_natCast, Nat.mul_one]
  refine o_i (C'.get (iv_get (by omega))) ?_
  have := hb _ (List.getElem_mem (show p < xs.length by omega))
  rw [wrap64 (by omega) (by omega)]
  exact j4 _ this
/-- What pick tells. -/
def Picked (h0 : Heap) (L : List Blk) (g : Nat) (cb : Option Addr) (cl cc K : Nat) (n : Int) (u : Value) (h' : Heap) : Prop := ∃ v : Int, u = .int .i64 v ∧ 0 ≤ v ∧ (v < n ∨ v = 0) ∧ v < 65536 ∧ Src h0 h' L g cb cl cc (K + 2)
theorem pick_c (S : Src h0 h L g cb xs.length cc K) (C : Cells h0 cb (iv .u8 xs)) (hb : Byt' xs) (hK : K ≤ 1048576) :
    CALL prg f_p_spec_l00Src_pick #[.pointer (some ⟨g, 0, none⟩), .int .i64 n] (Picked h0 L g cb xs.length cc K n) h := by
  refine p_spec_l00Src_pick.call ?_
  refine brd (fun h1 => ⟨0, rfl, by omega, .inr rfl, by omega, S.mono (by omega)⟩) fun h1 => ?_
  refine (next_c S C hb (by omega)).mono ?_
  rintro _ h2 ⟨a, rfl, a1, a2, S⟩
  refine as_i ?_
  have md : ∀ x : Int, 0 ≤ x → 0 ≤ Int.tmod x n ∧ Int.tmod x n < n ∧ Int.tmod x n ≤ x := fun x hx => by
    rw [Int.tmod_eq_emod_of_nonneg hx]
    refine ⟨Int.emod_nonneg _ (by omega), Int.emod_lt_of_pos _ (by omega), ?_⟩
    have e1 := Int.emod_add_mul_ediv x n
    have e2 : 0 ≤ n * (x / n) := Int.mul_nonneg (by omega) (Int.ediv_nonneg hx (by omega))
    omega
  refine brd (fun h3 => ?_) fun h3 => ?_
  · refine (next_c S C hb (by omega)).mono ?_
    rintro _ h4 ⟨b, rfl, b1, b2, S⟩
    refine as_i (nz (by omega) ?_)
    rw [wrap64 (n := a * 256) (by omega) (by omega), wrap64 (by omega) (by omega)]
    have := md (a * 256 + b) (by omega)
    exact ⟨_, rfl, this.1, .inl this.2.1, by omega, S⟩
  · have := md a a1
    exact nz (by omega) ⟨_, rfl, this.1, .inl this.2.1, by omega, S.mono (by omega)⟩
theorem l00From_c (M : Mem h0 h L) : CALL prg f_spec_l00From #[.slice cb cl cc] (fun u h' => ∃ g, u = .pointer (some ⟨g, 0, none⟩) ∧ Src h0 h' L g cb cl cc 0) h :=
  spec_l00From.call (M.alc fun g h1 _ M => ⟨g, rfl, 0, 0, Nat.le_refl _, M⟩)
theorem P6Pick_c (M : Mem h0 h L) (C : Cells h0 cb (iv .u8 xs)) (hb : Byt' xs) :
    CALL prg f_spec_P6Pick #[.slice cb xs.length cc, .int .i64 n] (fun u h' => ∃ v : Int, u = .int .i64 v ∧ 0 ≤ v ∧ (v < n ∨ v = 0) ∧ v < 65536 ∧ Mem h0 h' L) h := by
  refine spec_P6Pick.call ?_
  refine (l00From_c M).mono ?_
  rintro _ h1 ⟨g, rfl, S⟩
  refine as_p ?_
  refine (pick_c S C hb (by omega)).mono ?_
  rintro _ h2 ⟨v, rfl, v1, v2, v3, S⟩
  exact as_i ⟨v, rfl, v1, v2, v3, S.mem⟩
theorem f6big_c {l c : Nat} : CALL prg f_laws_f6big #[.slice cb l c] (fun u h' => u = .bool (decide (4096 < l)) ∧ Ext h h') h :=
  laws_f6big.call ⟨by congr 1; rw [decide_eq_decide]; omega, Ext.refl _⟩
/-- A small multiple of a sixty-fourth. -/
def plainW (v : Int) : Nat := fdiv .f32 (FloatKind.f32.nearest (v - 128)) 1115684864
theorem l01Plain_c (S : Src h0 h L g cb xs.length cc K) (C : Cells h0 cb (iv .u8 xs)) (hb : Byt' xs) (hK : K ≤ 1048576) :
    CALL prg f_spec_l01Plain #[.pointer (some ⟨g, 0, none⟩)] (fun u h' => ∃ y v, u = .float .f32 y ∧ 0 ≤ v ∧ v < 257 ∧ FW .f32 y (plainW v) ∧ Src h0 h' L g cb xs.length cc (K + 2)) h := by
  refine spec_l01Plain.call ((pick_c S C hb hK).mono ?_)
  rintro _ h1 ⟨v, rfl, v1, v2, v3, S⟩
  refine as_i ?_
  rw [wrap64 (n := v - 128) (by omega) (by omega)]
  exact fD (fw_nearest _ _) (fw_c32 (by decide) (by decide)) fun y hy => ⟨y, v, rfl, v1, by omega, hy, S⟩
theorem P6Plain_c (M : Mem h0 h L) (C : Cells h0 cb (iv .u8 xs)) (hb : Byt' xs) :
    CALL prg f_spec_P6Plain #[.slice cb xs.length cc] (fun u h' => ∃ y v, u = .float .f32 y ∧ 0 ≤ v ∧ v < 257 ∧ FW .f32 y (plainW v) ∧ Mem h0 h' L) h := by
  refine spec_P6Plain.call ?_
  refine (l00From_c M).mono ?_
  rintro _ h1 ⟨g, rfl, S⟩
  refine as_p ((l01Plain_c S C hb (by omega)).mono ?_)
  rintro _ h2 ⟨y, v, rfl, v1, v2, hy, S⟩
  exact as_f ⟨y, v, rfl, v1, v2, hy, S.mem⟩
theorem one_c (S : Src h0 h L g cb xs.length cc K) (C : Cells h0 cb (iv .u8 xs)) (hb : Byt' xs) (hK : K ≤ 1048576) :
    CALL prg f_p_spec_l00Src_one #[.pointer (some ⟨g, 0, none⟩), .int .i64 n] (fun u h' => ∃ b, u = .bool b ∧ Src h0 h' L g cb xs.length cc (K + 2)) h := by
  refine p_spec_l00Src_one.call ((pick_c S C hb hK).mono ?_)
  rintro _ h1 ⟨v, rfl, v1, v2, v3, S⟩
  exact as_i ⟨_, rfl, S⟩
end
end Go.Sx
/- Rooms that stay valid; how long a room sounds, told by what it plays; gains of drawn rooms. -/
set_option linter.unusedVariables false
set_option linter.unusedSimpArgs false
namespace Go.Sx
open Go.Proofs
set_option maxRecDepth 100000
set_option maxHeartbeats 1000000

theorem comb_step_ok {c : GComb} {a : Nat} (h : c.ok = true) : (c.step a).1.ok = true := by
  unfold GComb.ok at *
  rw [Bool.and_eq_true] at *
  exact ⟨push_okf h.1, h.2⟩
theorem all_mem {α : Type} [Inhabited α] {l : List α} {p : α → Bool} (h : l.all p = true) {i : Nat} (hi : i < l.length) : p l[i]! = true := List.all_eq_true.1 h _ (mem_get hi)
theorem room_step_ok {x : GRoom} (h : x.ok = true) (c2 : x.Combs.length = 2) (l4 : x.Loops.length = 4) (d4 : x.Damps.length = 4) (a : Nat) : (x.step a).1.ok = true := by
  rw [room_ok] at h ⊢
  simp only [Bool.and_eq_true] at h
  obtain ⟨⟨⟨⟨⟨⟨⟨⟨h1, h2⟩, h3⟩, h4⟩, h5⟩, h6⟩, h7⟩, h8⟩, h9⟩ := h
  have e1 : (x.step a).1.Early = x.Early.push (kept a) := rfl
  have e2 : (x.step a).1.Taps = x.Taps := rfl
  have e3 : (x.step a).1.Combs = [(x.Combs[0]!.step (fadd .f32 a x.early)).1, (x.Combs[1]!.step (x.Combs[0]!.step (fadd .f32 a x.early)).2).1] := rfl
  have ek : x.Early.ok = true := by unfold GRing.okf at h1; rw [Bool.and_eq_true] at h1; exact h1.1
  simp only [Bool.and_eq_true]
  refine ⟨⟨⟨⟨⟨⟨⟨⟨?_, h2⟩, ?_⟩, ?_⟩, ?_⟩, ?_⟩, h7⟩, h8⟩, h9⟩
  · rw [e1]; exact push_okf h1
  · rw [e3]
    simp only [List.all_cons, List.all_nil, Bool.and_true, Bool.and_eq_true]
    exact ⟨comb_step_ok (all_mem h3 (by omega)), comb_step_ok (all_mem h3 (by omega))⟩
  · rw [List.all_eq_true]
    intro r hr
    unfold GRoom.step at hr
    simp only [List.mem_map, List.mem_range] at hr
    obtain ⟨i, hi, rfl⟩ := hr
    exact push_okf (all_mem h4 (by omega))
  · rw [List.all_eq_true]
    intro f hf
    unfold GRoom.step at hf
    simp only [List.mem_map, List.mem_range] at hf
    obtain ⟨g, ⟨i, hi, rfl⟩, rfl⟩ := hf
    exact filter_step1 (all_mem (p := fun f : GFilter => f.ok && f.Kind == 1) h5 (by omega))
  · rw [e1, e2, (push_ok ek).2]; exact h6
theorem plain_fin {v : Int} (h0 : 0 ≤ v) (h1 : v < 257) : fin (plainW v) = true := by
  have A : (List.range 257).all (fun v => fin (plainW (v : Int))) = true := by decide +kernel
  obtain ⟨n, rfl⟩ := Int.eq_ofNat_of_zero_le h0
  exact List.all_eq_true.1 A n (List.mem_range.2 (by omega))
def keepW (v : Int) : Nat := fdiv .f32 (FloatKind.f32.nearest v) 1090519040
theorem keep_place {v : Int} (h0 : 0 ≤ v) (h1 : v < 8) : place (keepW v) = true := by
  have A : (List.range 8).all (fun v => place (keepW (v : Int))) = true := by decide +kernel
  obtain ⟨n, rfl⟩ := Int.eq_ofNat_of_zero_le h0
  exact List.all_eq_true.1 A n (List.mem_range.2 (by omega))
def tailW (t : Int) : Nat := FloatKind.f32.nearest t
def tailOk (a : Nat) : Bool := fge .f32 a 1065353216 && fle .f32 a 1232348160
theorem tail_ok {t : Int} (h0 : 10 ≤ t) (h1 : t < 210) : tailOk (tailW t) = true := by
  have A : (List.range 200).all (fun v => tailOk (tailW ((v : Int) + 10))) = true := by decide +kernel
  obtain ⟨n, hn⟩ := Int.eq_ofNat_of_zero_le (show 0 ≤ t - 10 by omega)
  have := List.all_eq_true.1 A n (List.mem_range.2 (by omega))
  rwa [show ((n : Nat) : Int) + 10 = t by omega] at this
def gainE (l t : Int) : Nat := fdiv .f64 (fmul .f64 4619463459138379574 (FloatKind.f64.nearest l)) (wid (tailW t))
def gainX (l t : Int) : Nat := fadd .f64 (fsub .f64 4607182418800017408 (gainE l t)) (fdiv .f64 (fmul .f64 (gainE l t) (gainE l t)) 4611686018427387904)
def gainOk (l t : Int) : Bool := fgt .f64 (gainE l t) 4607182418800017408 || (fits (gainX l t) && fin (nar (gainX l t)))
theorem gain_ok {l t : Int} (l0 : 1 ≤ l) (l1 : l ≤ 8) (h0 : 10 ≤ t) (h1 : t < 210) : gainOk l t = true := by
  have A : (List.range 8).all (fun l => (List.range 200).all fun v => gainOk ((l : Int) + 1) ((v : Int) + 10)) = true := by decide +kernel
  obtain ⟨m, hm⟩ := Int.eq_ofNat_of_zero_le (show 0 ≤ l - 1 by omega)
  obtain ⟨n, hn⟩ := Int.eq_ofNat_of_zero_le (show 0 ≤ t - 10 by omega)
  have := List.all_eq_true.1 (List.all_eq_true.1 A m (List.mem_range.2 (by omega))) n (List.mem_range.2 (by omega))
  rwa [show ((n : Nat) : Int) + 10 = t by omega, show ((m : Nat) : Int) + 1 = l by omega] at this
def gainW (l t : Int) : Nat := if fgt .f64 (gainE l t) 4607182418800017408 then 0 else nar (gainX l t)
theorem gain_fin {l t : Int} (l0 : 1 ≤ l) (l1 : l ≤ 8) (h0 : 10 ≤ t) (h1 : t < 210) : fin (gainW l t) = true := by
  have := gain_ok l0 l1 h0 h1
  unfold gainOk at this
  unfold gainW
  split
  · decide +kernel
  · next hn =>
    rw [Bool.eq_false_iff.2 hn, Bool.false_or, Bool.and_eq_true] at this
    exact this.2
end Go.Sx
/- A room's step, as the program makes it. -/
set_option linter.unusedVariables false
set_option linter.unusedSimpArgs false
namespace Go.Sx
open Go.Proofs
set_option maxRecDepth 100000
set_option maxHeartbeats 1000000

section
variable {h0 h : Heap} {q : Addr} {F : Fr} {L : List Blk} {x : GRoom} {w a : Nat}
theorem foc_dmp (i : Nat) (hi : i < 4) : Foc rRoom rFilter (17 + i * 6) (fun a => a.Damps[i]!) (fun a b => { a with Damps := a.Damps.set i b }) := (foc_Room_Damps.trans (Foc.arr rFilter i hi)).at rfl
theorem RStep.of {y : Nat} (R : x.Runs) (hy : FW .f32 y (x.sv a)) (P : Pt rRoom h0 h q F L (x.s3 a 4)) : RStep h0 h q F L x a (.float .f32 y) := by
  unfold RStep
  rw [step_eq R]
  exact ⟨⟨y, rfl, hy⟩, P⟩
/-- The last sum, in whatever order. -/
theorem early_c (P : Pt rRoom h0 h q F L x) (R : x.Runs) : CALL prg f_p_impl_Room_early #[.pointer (some q)] (fun u h' => (∃ y, u = .float .f32 y ∧ FW .f32 y x.early) ∧ Ext h h') h := by
  refine p_impl_Room_early.call (P.rd.oL fun b l c S => ?_)
  have hl := S.len
  have k1 := S.2.1
  have k2 := S.2.2.1
  have k3 := maxLen_lt
  have R0 := P.rd
  refine loop (fun y hh => ∃ (n m : Nat), y = (q, m, b, l, c, (l : Int), (n : Int)) ∧ n ≤ l ∧ FW .f32 m (x.earlyL (x.Taps.take n)) ∧ Ext h hh) (fun y => (l - y.2.2.2.2.2.2).toNat) ⟨0, 0, rfl, by omega, fw0, Ext.refl _⟩ ?_
  rintro y hh ⟨n, m, rfl, hn, hm, X⟩
  refine brd (fun hc => ?_) fun hc => ?_
  · refine (S.ext X).idx tap_sz (by omega) (by omega) fun p Rp => Rp.lda1 rfl fun cs Rc => (Mem.start hh).alc fun g h1 x1 M => M.sta0 .here (rsz Rc rfl) (rTap.rone Rc) rfl .here fun h2 M => ?_
    have Rt : RdP rTap h2 ⟨g, 0, none⟩ x.Taps[n]! := M.rdp .here (rTap.ext M.ext Rc)
    have X2 := X.trans M.ext
    refine Rt.oF2 fun z hz => ((R0.ext X2).fst foc_Room_Early).lda1 rfl fun ce Re => Rt.oI2 ?_
    refine (Ring_back_c Re R.e (R.t _ (mem_get (by omega)))).mono ?_
    rintro _ h3 ⟨⟨y, rfl, hy⟩, x3⟩
    refine as_f (Rt.pin2 (by decide) x3 (fM hz hy fun r hr => br (fun hb => ?_) fun hb => ?_))
    · have e : n = 0 := by simpa using hb
      refine ⟨⟨n + 1, r, by rw [wrap64_succ (by omega)], by omega, ?_, X2.trans x3⟩, by rw [wrap64_succ (by omega)]; show _ < _; simp; omega⟩
      rw [early_step (by omega), if_pos e]; exact hr
    · have e : n ≠ 0 := by simpa using hb
      refine fA hm hr fun r2 hr2 => ⟨⟨n + 1, r2, by rw [wrap64_succ (by omega)], by omega, ?_, X2.trans x3⟩, by rw [wrap64_succ (by omega)]; show _ < _; simp; omega⟩
      rw [early_step (by omega), if_neg e]; exact hr2
  · obtain rfl : n = l := by omega
    rw [← hl, List.take_length, ← early_eq] at hm
    exact ⟨⟨m, rfl, hm⟩, X⟩
theorem Room_step_c (P : Pt rRoom h0 h q F L x) (R : x.Runs) (hx : FW .f32 w a) : CALL prg f_p_impl_Room_step #[.pointer (some q), .float .f32 w] (fun u h' => RStep h0 h' q F L x a u) h := by
  refine p_impl_Room_step.call ((early_c P R).mono ?_)
  rintro _ h1 ⟨⟨m, rfl, hm⟩, x1⟩
  refine as_f ((kept_c hx).go fun h2 k x2 hk => as_f ?_)
  have P := P.grow (x1.trans x2)
  obtain ⟨F', L', P', hs, close⟩ := P.foc foc_Room_Early
  rw [add0] at P' close
  refine (Ring_push_c P' R.e hk).mono ?_
  rintro _ h3 ⟨⟨y2, rfl, _⟩, P2⟩
  have P := close _ _ _ P2
  clear P' hs close P2
  refine as_f (idx (by omega) (by omega) (idx (by omega) (by omega) (fA hx hm fun r1 hr1 => ?_)))
  obtain ⟨F', L', P', hs, close⟩ := P.foc ((foc_comb 0 (by decide)).at (off' := 3) rfl)
  refine (Comb_step_c P' (R.c _ (mem_get (by rw [R.c2]; decide))) hr1).mono ?_
  rintro _ h4 ⟨⟨r2, rfl, hr2⟩, P2⟩
  have P := close _ _ _ P2
  clear P' hs close P2
  obtain ⟨F', L', P', hs, close⟩ := P.foc ((foc_comb 1 (by decide)).at (off' := 6) rfl)
  have e1 : (x.Combs.set 0 (x.c0 a).1)[1]! = x.Combs[1]! := by
    obtain ⟨u, v, e⟩ := is2 R.c2
    rw [e]; rfl
  have e2 : (x.Combs.set 0 (x.c0 a).1).set 1 (x.c1 a).1 = [(x.c0 a).1, (x.c1 a).1] := by
    obtain ⟨u, v, e⟩ := is2 R.c2
    generalize (x.c0 a).1 = p1
    generalize (x.c1 a).1 = p2
    rw [e]; rfl
  have P' : Pt rComb h0 h4 (q.add 6) F' L' (x.Combs.set 0 (x.c0 a).1)[1]! := P'
  rw [e1] at P'
  refine as_f ((Comb_step_c P' (R.c _ (mem_get (by rw [R.c2]; decide))) hr2).mono ?_)
  rintro _ h5 ⟨⟨f, rfl, hf⟩, P2⟩
  have P : Pt rRoom h0 h5 q F L { x with Early := x.Early.push (kept a), Combs := (x.Combs.set 0 (x.c0 a).1).set 1 (x.c1 a).1 } := close _ _ _ P2
  rw [e2] at P
  have hf : FW .f32 f (x.c1 a).2 := hf
  clear P' hs close P2 e1 e2
  refine as_f ((Mem.start h5).alc fun g1 h6 x6 N => N.alc fun g2 h7 x7 N => ?_)
  have P : Pt rRoom h0 h7 q F ((g2, T_4_float32, ⟨Z_4_float32⟩) :: (g1, T_4_float32, ⟨Z_4_float32⟩) :: L) (x.s1 a) := P.join N
  refine loop (fun y hh => ∃ (n : Nat) (co cd : Array Value), y = (q, w, f, ⟨g1, 0, none⟩, ⟨g2, 0, none⟩, (n : Int)) ∧ n ≤ 4 ∧ F4 co (mapI x.fo zeros4 n) ∧ F4 cd (mapI (fun i => (x.fg i).2) zeros4 n) ∧ Pt rRoom h0 hh q F ((g2, T_4_float32, cd) :: (g1, T_4_float32, co) :: L) (x.s2 a n))
    (fun y => (4 - y.2.2.2.2.2).toNat) ⟨0, _, _, rfl, by omega, by rw [mapI_zero]; exact F4.zero, by rw [mapI_zero]; exact F4.zero, by rw [s2_zero]; exact P⟩ ?_
  rintro y hh ⟨n, co, cd, rfl, hn, Fo, Fd, P⟩
  refine brd (fun hc => ?_) fun hc => ?_
  · have hL : n < x.Loops.length := by rw [R.l4]; omega
    have hD : n < x.Damps.length := by rw [R.d4]; omega
    have Rl : RdP rRing hh ((q.add 9).add (n * 2)) x.Loops[n]! := (P.rd.foc foc_Room_Loops).elem (i := n) (by omega)
    refine idx (by omega) (by omega) (Rl.lda1 rfl fun cs Rc => (oldest_c Rc (R.l _ (mem_get hL))).mono ?_)
    rintro _ h8 ⟨⟨o, rfl, ho⟩, x8⟩
    have ho : FW .f32 o (x.fo n) := ho
    refine as_f (idx (by omega) (by omega) ((P.grow x8).blkF (.there .here) (.there .here) Fo (by omega) ho fun h9 co' Fo' P => ?_))
    have Fo' : F4 co' ((mapI x.fo zeros4 n).set n (x.fo n)) := Fo'
    rw [dist4 x.fo (by omega)] at Fo'
    refine idx (by omega) (by omega) (idx (by omega) (by omega) (((P.rd.foc foc_Room_Gains).elem (i := n) (by omega)).oF1 fun g hg => idx (by omega) (by omega) ((Look.here).oF P.mem Fo' (by omega) fun o' ho' => ?_)))
    rw [mapI_lt (by show _ < 4; omega) (by omega)] at ho'
    refine fM hg ho' fun r hr => ?_
    have hr : FW .f32 r (fmul .f32 x.Gains[n]! (x.fo n)) := hr
    rw [add_add']
    obtain ⟨F', L', P', hs, close⟩ := P.foc (foc_dmp n (by omega))
    have e : (x.s2 a n).Damps[n]! = x.Damps[n]! := mapI_ge hD (Nat.le_refl _)
    have P' : Pt rFilter h0 h9 (q.add (17 + n * 6)) F' L' (x.s2 a n).Damps[n]! := P'
    rw [e] at P'
    refine (Filter_step_c P' hr).mono ?_
    rintro _ h10 ⟨⟨d, rfl, hd⟩, P2⟩
    have P := close _ _ _ P2
    have hd : FW .f32 d ((fun i => (x.fg i).2) n) := hd
    refine as_f (idx (by omega) (by omega) (P.blkF (.there .here) (.there .here) Fd (by omega) hd fun h11 cd' Fd' P => ?_))
    have Fd' : F4 cd' ((mapI (fun i => (x.fg i).2) zeros4 n).set n ((fun i => (x.fg i).2) n)) := Fd'
    rw [dist4 (fun i => (x.fg i).2) (by omega)] at Fd'
    have P : Pt rRoom h0 h11 q F ((g2, T_4_float32, cd') :: (g1, T_4_float32, co') :: L) { x.s2 a n with Damps := (x.s2 a n).Damps.set n (x.fg n).1 } := P
    rw [s2_step hD] at P
    exact ⟨⟨n + 1, co', cd', by rw [wrap64_succ (by omega)], by omega, Fo', Fd', P⟩, by rw [wrap64_succ (by omega)]; show _ < _; simp; omega⟩
  obtain rfl : n = 4 := by omega
  refine P.mem.lda0 .here Fd.size ((impl_MixFour_c (Fd.rd _)).mono ?_)
  rintro _ h8 ⟨ch, rfl, Rh, x8⟩
  rw [hs_eq] at Rh
  have P := P.grow x8
  refine as_a (loop (fun y hh => ∃ n : Nat, y = (q, w, f, ⟨g1, 0, none⟩, ch, (n : Int)) ∧ n ≤ 4 ∧ Pt rRoom h0 hh q F ((g2, T_4_float32, cd) :: (g1, T_4_float32, co) :: L) (x.s3 a n))
    (fun y => (4 - y.2.2.2.2.2).toNat) ⟨0, rfl, by omega, by rw [s3_zero]; exact P⟩ ?_)
  rintro y hh ⟨n, rfl, hn, P⟩
  refine brd (fun hc => ?_) fun hc => ?_
  · have hL : n < x.Loops.length := by rw [R.l4]; omega
    refine idx (by omega) (by omega) (arr_oF Rh (by omega) fun v hv => idx (by omega) (by omega) (fA hf hv fun r hr => (kept_c hr).go fun h9 k x9 hk => as_f ?_))
    rw [add_add']
    obtain ⟨F', L', P', hs, close⟩ := (P.grow x9).foc (foc_loop n (by omega))
    have e : (x.s3 a n).Loops[n]! = x.Loops[n]! := mapI_ge hL (Nat.le_refl _)
    have P' : Pt rRing h0 h9 (q.add (9 + n * 2)) F' L' (x.s3 a n).Loops[n]! := P'
    rw [e] at P'
    refine (Ring_push_c P' (R.l _ (mem_get hL)) hk).mono ?_
    rintro _ h10 ⟨⟨y3, rfl, _⟩, P2⟩
    have P : Pt rRoom h0 h10 q F ((g2, T_4_float32, cd) :: (g1, T_4_float32, co) :: L) { x.s3 a n with Loops := (x.s3 a n).Loops.set n (x.fl a n) } := close _ _ _ P2
    rw [s3_step hL] at P
    exact as_f ⟨⟨n + 1, by rw [wrap64_succ (by omega)], by omega, P⟩, by rw [wrap64_succ (by omega)]; show _ < _; simp; omega⟩
  obtain rfl : n = 4 := by omega
  have Ro : RdP (rArr 4 (rF .f32)) hh ⟨g1, 0, none⟩ (mapI x.fo zeros4 4) := P.mem.rdp (.there .here) (Fo.rd _)
  have eo : ∀ i, i < 4 → (mapI x.fo zeros4 4)[i]! = x.fo i := fun i hi => mapI_lt hi hi
  refine P.rd.oF fun d hd => P.rd.oF fun e he => idx (by omega) (by omega) (Ro.oF1 fun o0 k0 => idx (by omega) (by omega) (Ro.oF fun o1 k1 => idx (by omega) (by omega) (Ro.oF fun o2 k2 => idx (by omega) (by omega) (Ro.oF fun o3 k3 => ?_))))
  rw [eo _ (by decide)] at k0 k1 k2 k3
  replace hd : FW .f32 d x.Dry := hd
  replace he : FW .f32 e x.Wet := he
  have P := P.sub (L2 := L) (.cons _ (.cons _ (List.Sublist.refl _)))
  have fin : ∀ {r : Nat}, FW .f32 r (fadd .f32 (fmul .f32 x.Dry a) (fmul .f32 x.Wet (fadd .f32 (fadd .f32 (x.fo 0) (x.fo 1)) (fadd .f32 (x.fo 2) (x.fo 3))))) → RStep h0 hh q F L x a (.float .f32 r) := fun hr => RStep.of R hr P
  (repeat' (first
    | refine pin_same ?_
    | exact fin (by assumption)
    | refine And.intro ?_ ?_
    | refine fA (by assumption) (by assumption) fun _ _ => ?_
    | refine fM (by assumption) (by assumption) fun _ _ => ?_))
end
end Go.Sx
