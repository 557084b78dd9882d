/- Voices moved on: the rule's and the program's. -/
import Derived.Test.YtkgmfiloghhibaaGreatDoorLk16
import Derived.Test.YtkgmfiloghhibaaGreatDoorLk10
import Derived.Test.YtkgmfiloghhibaaGreatDoorTab
import Derived.Test.YtkgmfiloghhibaaGreatDoorTabE
import Derived.Test.YtkgmfiloghhibaaGreatDoorLg
import Derived.Test.YtkgmfiloghhibaaGreatDoorLp5
import Derived.Test.YtkgmfiloghhibaaGreatDoorK2
import Derived.Test.YtkgmfiloghhibaaGreatDoorLf8
import Derived.Test.YtkgmfiloghhibaaGreatDoorLgn
import Derived.Test.YtkgmfiloghhibaaGreatDoorLk1
import Derived.Test.YtkgmfiloghhibaaGreatDoorLk21
import Derived.Test.YtkgmfiloghhibaaGreatDoorLk3
set_option linter.unusedVariables false
set_option linter.unusedSimpArgs false
namespace Go.Sx
open Go.Proofs
set_option maxRecDepth 100000
set_option maxHeartbeats 1000000

def GVoice.sound (k : Int) (v : GVoice) : GVoice × Nat :=
  if k = 1 then ({ v with String := (v.String.step 0).1 }, (v.String.step 0).2)
  else if k = 2 then ({ v with Pipe := (v.Pipe.step v.Drive).1 }, (v.Pipe.step v.Drive).2)
  else ({ v with Bow := (v.Bow.step v.Drive).1 }, (v.Bow.step v.Drive).2)
def GVoice.quiet (k : Int) (v : GVoice) : Bool := if k = 1 then v.String.silent else if k = 2 then v.Pipe.silent else v.Bow.silent
def bodyRuns (k : Int) (v : GVoice) : Prop := if k = 1 then v.String.Loop.ok = true else if k = 2 then v.Pipe.Runs else v.Bow.ok = true
theorem kept_fin (a : Nat) : fin (kept a) = true := by
  unfold kept
  split
  · next h =>
    unfold flush
    split
    · decide +kernel
    · exact h
  · decide +kernel
theorem push_okf {r : GRing} {a : Nat} (h : r.okf = true) : (r.push (kept a)).okf = true := by
  unfold GRing.okf at *
  rw [Bool.and_eq_true] at *
  refine ⟨(push_ok h.1).1, ?_⟩
  have h2 := h.2
  unfold allFin at *
  rw [List.all_eq_true] at *
  intro x hx
  rcases List.mem_or_eq_of_mem_set hx with hx | rfl
  · exact h2 x hx
  · exact kept_fin a
theorem used_set0 {l : List Nat} {n : Int} {a : Nat} (h : used l n = true) (hn : 1 ≤ n) : used (l.set 0 (kept a)) n = true := by
  unfold used at *
  rw [List.all_eq_true] at *
  intro i hi
  rw [List.mem_range, List.length_set] at hi
  have := h i (List.mem_range.2 hi)
  rw [Bool.and_eq_true] at *
  by_cases e : i = 0
  · subst e
    rw [getElem!_pos _ 0 (by rw [List.length_set]; exact hi), List.getElem_set_self]
    exact ⟨kept_fin a, by rw [decide_eq_true (by omega)]; rfl⟩
  · rw [getElem!_pos _ i (by rw [List.length_set]; exact hi), List.getElem_set_ne (by omega), ← getElem!_pos l i hi]
    exact this
end Go.Sx
/- What functions of this seat's program compute, told in words (a predicate over heaps for each), and the proofs that the words are no more than the code's own weakest precondition. -/
namespace Go.Sx
open Go.Proofs
set_option linter.unusedVariables false
set_option maxRecDepth 100000

def p_spec_l00Src_next.J4 (Post : Value → Heap → Prop) (s_0 : Addr) (b_3 : Int) (h : Heap) : Prop :=
    oI .i64 (cell h (Addr.add s_0 1)) fun n9 =>
    ST1 h (Addr.add s_0 1) (.int .i64 ((IntKind.i64.wrap (n9 + (1 : Int))))) fun h10 =>
    oI .u64 (cell h10 (Addr.add s_0 2)) fun n11 =>
    ST1 h10 (Addr.add s_0 2) (.int .u64 ((IntKind.u64.wrap ((IntKind.u64.wrap ((IntKind.u64.wrap (n11 * (6364136223846793005 : Int))) + (IntKind.u64.wrap b_3))) + (1442695040888963407 : Int))))) fun h12 =>
    oI .i64 (cell h12 (Addr.add s_0 1)) fun n13 =>
    oL (cell h12 s_0) fun l14b l14l l14c =>
    BIF ((decide (n13 ≤ (l14l : Int)))) (
    Post (.int .i64 b_3) h12) (
    oI .u64 (cell h12 (Addr.add s_0 2)) fun n17 =>
    NN (40 : Int) <|
    Post (.int .i64 ((IntKind.i64.wrap ((bitI .and .u64 (shrI .u64 n17 (40 : Int)) (255 : Int)))))) h12)
def p_spec_l00Src_next.j4 (Post : Value → Heap → Prop) : Frame → Heap → Prop := fun fr h => GRD (shape (kds 62 [(0, .p), (3, .i .i64)]) fr) (p_spec_l00Src_next.J4 Post (gP (lget fr 0)) (gI (lget fr 3)) h)
def p_spec_l00Src_next.S (s_0 : Addr) (Post : Value → Heap → Prop) (h : Heap) : Prop :=
    oI .i64 (cell h (Addr.add s_0 1)) fun n1 =>
    oL (cell h s_0) fun l2b l2l l2c =>
    BIF ((decide (n1 < (l2l : Int)))) (
    oL (cell h s_0) fun l5b l5l l5c =>
    oI .i64 (cell h (Addr.add s_0 1)) fun n6 =>
    IDXS l5b n6 l5l fun p7 =>
    oI .u8 (cell h ((Addr.add p7 ((Int.toNat n6) * 1)))) fun n8 =>
    p_spec_l00Src_next.J4 Post s_0 (IntKind.i64.wrap n8) h) (
    p_spec_l00Src_next.J4 Post s_0 (0 : Int) h)
noncomputable def p_spec_l00Src_next.code : Code := (Tryz.f149.body).getD .skip
theorem p_spec_l00Src_next.call {s_0 : Addr} {Post : Value → Heap → Prop} {h : Heap} (H : p_spec_l00Src_next.S s_0 Post h) : CALL prg f_p_spec_l00Src_next #[.pointer (some s_0)] Post h :=
  fn_call tau_ok mixed (c := p_spec_l00Src_next.code) (Λ := lookL [(4, p_spec_l00Src_next.j4 Post)]) Tryz.func149 (by kernel_rfl) (by kernel_rfl)
    (Rq.seq (by kernel_rfl) (Rq.free (by kernel_rfl)) (Rq.seq (by kernel_rfl) (Rq.free (by kernel_rfl)) (Rq.seqJ (p_spec_l00Src_next.j4 Post) (by kernel_rfl) (seg (fun _ _ => by kernel_rfl)) (Rq.free (by kernel_rfl))
(Rq.free (by kernel_rfl)))))
    (Eq.mp (by kernel_rfl) H)

def p_spec_l00Src_pick.S (s_0 : Addr) (n_1 : Int) (Post : Value → Heap → Prop) (h : Heap) : Prop :=
    BIF ((decide (n_1 ≤ (1 : Int)))) (
    Post (.int .i64 (0 : Int)) h) (
    CALL prg f_p_spec_l00Src_next #[.pointer (some s_0)] (fun q1 h2 =>
    asI .i64 q1 fun n3 =>
    BIF ((decide ((200 : Int) < n_1))) (
    CALL prg f_p_spec_l00Src_next #[.pointer (some s_0)] (fun q4 h5 =>
    asI .i64 q4 fun n6 =>
    NZ n_1 <|
    Post (.int .i64 ((Int.tmod ((IntKind.i64.wrap ((IntKind.i64.wrap (n3 * (256 : Int))) + n6))) n_1))) h5) h2) (
    NZ n_1 <|
    Post (.int .i64 (Int.tmod n3 n_1)) h2)) h)
noncomputable def p_spec_l00Src_pick.code : Code := (Tryz.f71.body).getD .skip
theorem p_spec_l00Src_pick.call {s_0 : Addr} {n_1 : Int} {Post : Value → Heap → Prop} {h : Heap} (H : p_spec_l00Src_pick.S s_0 n_1 Post h) : CALL prg f_p_spec_l00Src_pick #[.pointer (some s_0), .int .i64 n_1] Post h :=
  fn_call tau_ok mixed (c := p_spec_l00Src_pick.code) (Λ := lookL []) Tryz.func71 (by kernel_rfl) (by kernel_rfl)
    (Rq.free (by kernel_rfl))
    (Eq.mp (by kernel_rfl) H)

def p_spec_l00Src_one.S (s_0 : Addr) (n_1 : Int) (Post : Value → Heap → Prop) (h : Heap) : Prop :=
    CALL prg f_p_spec_l00Src_pick #[.pointer (some s_0), .int .i64 n_1] (fun q1 h2 =>
    asI .i64 q1 fun n3 =>
    Post (.bool (n3 == (0 : Int))) h2) h
noncomputable def p_spec_l00Src_one.code : Code := (Tryz.f93.body).getD .skip
theorem p_spec_l00Src_one.call {s_0 : Addr} {n_1 : Int} {Post : Value → Heap → Prop} {h : Heap} (H : p_spec_l00Src_one.S s_0 n_1 Post h) : CALL prg f_p_spec_l00Src_one #[.pointer (some s_0), .int .i64 n_1] Post h :=
  fn_call tau_ok mixed (c := p_spec_l00Src_one.code) (Λ := lookL []) Tryz.func93 (by kernel_rfl) (by kernel_rfl)
    (Rq.free (by kernel_rfl))
    (Eq.mp (by kernel_rfl) H)

def spec_l00From.S (code_0b : Option Addr) (code_0l code_0c : Nat) (Post : Value → Heap → Prop) (h : Heap) : Prop :=
    ALC (⟨[.slice code_0b code_0l code_0c, .int .i64 (0 : Int), .int .u64 (0 : Int)]⟩ : Array Value) T_spec_l00Src (fun g1 h2 =>
    Post (.pointer (some ⟨g1, 0, none⟩)) h2) h
noncomputable def spec_l00From.code : Code := (Tryz.f35.body).getD .skip
theorem spec_l00From.call {code_0b : Option Addr} {code_0l code_0c : Nat} {Post : Value → Heap → Prop} {h : Heap} (H : spec_l00From.S code_0b code_0l code_0c Post h) : CALL prg f_spec_l00From #[.slice code_0b code_0l code_0c] Post h :=
  fn_call tau_ok mixed (c := spec_l00From.code) (Λ := lookL []) Tryz.func35 (by kernel_rfl) (by kernel_rfl)
    (Rq.free (by kernel_rfl))
    (Eq.mp (by kernel_rfl) H)

def spec_l01Plain.S (s_0 : Addr) (Post : Value → Heap → Prop) (h : Heap) : Prop :=
    CALL prg f_p_spec_l00Src_pick #[.pointer (some s_0), .int .i64 (257 : Int)] (fun q1 h2 =>
    asI .i64 q1 fun n3 =>
    FOP .f32 (FloatKind.f32.format.div ((FloatKind.f32.nearest ((IntKind.i64.wrap (n3 - (128 : Int)))))) 1115684864) fun r4 =>
    Post (.float .f32 r4) h2) h
noncomputable def spec_l01Plain.code : Code := (Tryz.f65.body).getD .skip
theorem spec_l01Plain.call {s_0 : Addr} {Post : Value → Heap → Prop} {h : Heap} (H : spec_l01Plain.S s_0 Post h) : CALL prg f_spec_l01Plain #[.pointer (some s_0)] Post h :=
  fn_call tau_ok mixed (c := spec_l01Plain.code) (Λ := lookL []) Tryz.func65 (by kernel_rfl) (by kernel_rfl)
    (Rq.free (by kernel_rfl))
    (Eq.mp (by kernel_rfl) H)

def laws_f6big.S (code_0b : Option Addr) (code_0l code_0c : Nat) (Post : Value → Heap → Prop) (h : Heap) : Prop :=
    Post (.bool ((decide ((4096 : Int) < (code_0l : Int))))) h
noncomputable def laws_f6big.code : Code := (Tryz.f5.body).getD .skip
theorem laws_f6big.call {code_0b : Option Addr} {code_0l code_0c : Nat} {Post : Value → Heap → Prop} {h : Heap} (H : laws_f6big.S code_0b code_0l code_0c Post h) : CALL prg f_laws_f6big #[.slice code_0b code_0l code_0c] Post h :=
  fn_call tau_ok mixed (c := laws_f6big.code) (Λ := lookL []) Tryz.func5 (by kernel_rfl) (by kernel_rfl)
    (Rq.free (by kernel_rfl))
    (Eq.mp (by kernel_rfl) H)

end Go.Sx
/- The drawing machine of the laws (spec.l00Src): what it draws lies in bounds. -/
set_option linter.unusedVariables false
set_option linter.unusedSimpArgs false
namespace Go.Sx
open Go.Proofs
set_option maxRecDepth 100000
set_option maxHeartbeats 1000000

/-- Bytes. -/
def Byt' (xs : List Int) : Prop := ∀ x ∈ xs, 0 ≤ x ∧ x < 256
theorem wrapU {k : IntKind} {n : Int} (hk : k.signed = false) (h1 : 0 ≤ n) (h2 : n < 2 ^ k.bits) : k.wrap n = n := by
  unfold IntKind.wrap
  rw [hk]
  exact Int.emod_eq_of_lt h1 h2
/-- A machine over bytes that are read. -/
def Src (h0 h : Heap) (L : List Blk) (g : Nat) (cb : Option Addr) (cl cc K : Nat) : Prop :=
  ∃ (p : Nat) (st : Int), p ≤ K ∧ Mem h0 h ((g, T_spec_l00Src, ⟨[.slice cb cl cc, .int .i64 (p : Int), .int .u64 st]⟩) :: L)
section
variable {h0 h h' : Heap} {L W : List Blk} {g : Nat} {cb : Option Addr} {cl cc K K' : Nat} {xs : List Int} {n : Int}
theorem Src.mem (S : Src h0 h L g cb cl cc K) : Mem h0 h L := by
  obtain ⟨_, _, _, M⟩ := S; exact M.drop
theorem Src.grow (S : Src h0 h L g cb cl cc K) (x : Ext h h') : Src h0 h' L g cb cl cc K := by
  obtain ⟨p, st, hp, M⟩ := S; exact ⟨p, st, hp, M.grow x⟩
theorem Src.mono (S : Src h0 h L g cb cl cc K) (hk : K ≤ K') : Src h0 h L g cb cl cc K' := by
  obtain ⟨p, st, hp, M⟩ := S; exact ⟨p, st, by omega, M⟩
theorem Src.cnt (S : Src h0 h L g cb cl cc K) (hc : ∀ p, Sx.cnt p W ≤ Sx.cnt p L) : Src h0 h W g cb cl cc K := by
  obtain ⟨p, st, hp, M⟩ := S; exact ⟨p, st, hp, M.cnt fun q => by have := hc q; simp only [cnt_cons]; omega⟩
theorem and255 (x : Int) : 0 ≤ bitI .and .u64 x 255 ∧ bitI .and .u64 x 255 < 256 := by
  simp only [bitI]
  have h1 : (BitVec.ofInt IntKind.u64.bits x &&& BitVec.ofInt IntKind.u64.bits 255).toNat ≤ 255 := by
    rw [BitVec.toNat_and]
    exact Nat.and_le_right
  have e : (2 : Int) ^ IntKind.u64.bits = 18446744073709551616 := by decide
  rw [wrapU rfl (by omega) (by rw [e]; omega)]
  omega
theorem next_c (S : Src h0 h L g cb xs.length cc K) (C : Cells h0 cb (iv .u8 xs)) (hb : Byt' xs) (hK : K ≤ 1152921504606846976) :
    CALL prg f_p_spec_l00Src_next #[.pointer (some ⟨g, 0, none⟩)] (fun u h' => ∃ v : Int, u = .int .i64 v ∧ 0 ≤ v ∧ v < 256 ∧ Src h0 h' L g cb xs.length cc (K + 1)) h := by
  obtain ⟨p, st, hp, M⟩ := S
  refine p_spec_l00Src_next.call ?_
  have j4 : ∀ v : Int, 0 ≤ v ∧ v < 256 → p_spec_l00Src_next.J4 (fun u h' => ∃ v : Int, u = .int .i64 v ∧ 0 ≤ v ∧ v < 256 ∧ Src h0 h' L g cb xs.length cc (K + 1)) ⟨g, 0, none⟩ v h := by
    intro v hv
    unfold p_spec_l00Src_next.J4
    simp only [add_none, Nat.zero_add]
    refine M.oI (by repeat constructor) rfl ?_
    rw [wrap64_succ (by omega)]
    refine M.st1 (by repeat constructor) (by simp) (by repeat constructor) fun h1 M => ?_
    refine M.oI (by repeat constructor) rfl ?_
    refine M.st1 (by repeat constructor) (by simp) (by repeat constructor) fun h2 M => ?_
    refine M.oI (by repeat constructor) rfl (M.oL (by repeat constructor) rfl ?_)
    have S' : ∀ st' : Int, Mem h0 h2 ((g, T_spec_l00Src, ⟨[.slice cb xs.length cc, .int .i64 ((p + 1 : Nat) : Int), .int .u64 st']⟩) :: L) → Src h0 h2 L g cb xs.length cc (K + 1) := fun st' M => ⟨p + 1, st', by omega, M⟩
    refine brd (fun _ => ⟨v, rfl, hv.1, hv.2, S' _ M⟩) fun _ => ?_
    refine M.oI (by repeat constructor) rfl (nn (by omega) ⟨_, rfl, ?_, ?_, S' _ M⟩)
    · have := and255 (shrI .u64 (IntKind.u64.wrap (IntKind.u64.wrap (IntKind.u64.wrap (st * 6364136223846793005) + IntKind.u64.wrap v) + 1442695040888963407)) 40)
      rw [wrap64 (by omega) (by omega)]; omega
    · have := and255 (shrI .u64 (IntKind.u64.wrap (IntKind.u64.wrap (IntKind.u64.wrap (st * 6364136223846793005) + IntKind.u64.wrap v) + 1442695040888963407)) 40)
      rw [wrap64 (by omega) (by omega)]; omega
  unfold p_spec_l00Src_next.S
  simp only [add_none, Nat.zero_add]
  refine M.oI (by repeat constructor) rfl (M.oL (by repeat constructor) rfl ?_)
  refine brd (fun hc => ?_) fun hc => j4 0 (by omega)
  refine M.oL (by repeat constructor) rfl (M.oI (by repeat constructor) rfl ?_)
  have C' := C.ext M.ext
  obtain ⟨a, rfl⟩ := C'.base (by rw [iv_len]; omega)
  refine idxs (by omega) (by omega) ?_
  rw [Int.toNat_natCast, Nat.mul_one]
  refine o_i (C'.get (iv_get (by omega))) ?_
  have := hb _ (List.getElem_mem (show p < xs.length by omega))
  rw [wrap64 (by omega) (by omega)]
  exact j4 _ this
/-- What pick tells. -/
def Picked (h0 : Heap) (L : List Blk) (g : Nat) (cb : Option Addr) (cl cc K : Nat) (n : Int) (u : Value) (h' : Heap) : Prop := ∃ v : Int, u = .int .i64 v ∧ 0 ≤ v ∧ (v < n ∨ v = 0) ∧ v < 65536 ∧ Src h0 h' L g cb cl cc (K + 2)
theorem pick_c (S : Src h0 h L g cb xs.length cc K) (C : Cells h0 cb (iv .u8 xs)) (hb : Byt' xs) (hK : K ≤ 1048576) :
    CALL prg f_p_spec_l00Src_pick #[.pointer (some ⟨g, 0, none⟩), .int .i64 n] (Picked h0 L g cb xs.length cc K n) h := by
  refine p_spec_l00Src_pick.call ?_
  refine brd (fun h1 => ⟨0, rfl, by omega, .inr rfl, by omega, S.mono (by omega)⟩) fun h1 => ?_
  refine (next_c S C hb (by omega)).mono ?_
  rintro _ h2 ⟨a, rfl, a1, a2, S⟩
  refine as_i ?_
  have md : ∀ x : Int, 0 ≤ x → 0 ≤ Int.tmod x n ∧ Int.tmod x n < n ∧ Int.tmod x n ≤ x := fun x hx => by
    rw [Int.tmod_eq_emod_of_nonneg hx]
    refine ⟨Int.emod_nonneg _ (by omega), Int.emod_lt_of_pos _ (by omega), ?_⟩
    have e1 := Int.emod_add_mul_ediv x n
    have e2 : 0 ≤ n * (x / n) := Int.mul_nonneg (by omega) (Int.ediv_nonneg hx (by omega))
    omega
  refine brd (fun h3 => ?_) fun h3 => ?_
  · refine (next_c S C hb (by omega)).mono ?_
    rintro _ h4 ⟨b, rfl, b1, b2, S⟩
    refine as_i (nz (by omega) ?_)
    rw [wrap64 (n := a * 256) (by omega) (by omega), wrap64 (by omega) (by omega)]
    have := md (a * 256 + b) (by omega)
    exact ⟨_, rfl, this.1, .inl this.2.1, by omega, S⟩
  · have := md a a1
    exact nz (by omega) ⟨_, rfl, this.1, .inl this.2.1, by omega, S.mono (by omega)⟩
theorem l00From_c (M : Mem h0 h L) : CALL prg f_spec_l00From #[.slice cb cl cc] (fun u h' => ∃ g, u = .pointer (some ⟨g, 0, none⟩) ∧ Src h0 h' L g cb cl cc 0) h :=
  spec_l00From.call (M.alc fun g h1 _ M => ⟨g, rfl, 0, 0, Nat.le_refl _, M⟩)
theorem f6big_c {l c : Nat} : CALL prg f_laws_f6big #[.slice cb l c] (fun u h' => u = .bool (decide (4096 < l)) ∧ Ext h h') h :=
  laws_f6big.call ⟨by congr 1; rw [decide_eq_decide]; omega, Ext.refl _⟩
/-- A small multiple of a sixty-fourth. -/
def plainW (v : Int) : Nat := fdiv .f32 (FloatKind.f32.nearest (v - 128)) 1115684864
theorem l01Plain_c (S : Src h0 h L g cb xs.length cc K) (C : Cells h0 cb (iv .u8 xs)) (hb : Byt' xs) (hK : K ≤ 1048576) :
    CALL prg f_spec_l01Plain #[.pointer (some ⟨g, 0, none⟩)] (fun u h' => ∃ y v, u = .float .f32 y ∧ 0 ≤ v ∧ v < 257 ∧ FW .f32 y (plainW v) ∧ Src h0 h' L g cb xs.length cc (K + 2)) h := by
  refine spec_l01Plain.call ((pick_c S C hb hK).mono ?_)
  rintro _ h1 ⟨v, rfl, v1, v2, v3, S⟩
  refine as_i ?_
  rw [wrap64 (n := v - 128) (by omega) (by omega)]
  exact fD (fw_nearest _ _) (fw_c32 (by decide) (by decide)) fun y hy => ⟨y, v, rfl, v1, by omega, hy, S⟩
theorem one_c (S : Src h0 h L g cb xs.length cc K) (C : Cells h0 cb (iv .u8 xs)) (hb : Byt' xs) (hK : K ≤ 1048576) :
    CALL prg f_p_spec_l00Src_one #[.pointer (some ⟨g, 0, none⟩), .int .i64 n] (fun u h' => ∃ b, u = .bool b ∧ Src h0 h' L g cb xs.length cc (K + 2)) h := by
  refine p_spec_l00Src_one.call ((pick_c S C hb hK).mono ?_)
  rintro _ h1 ⟨v, rfl, v1, v2, v3, S⟩
  exact as_i ⟨_, rfl, S⟩
end
end Go.Sx
/- Rooms that stay valid; how long a room sounds, told by what it plays; gains of drawn rooms. -/
set_option linter.unusedVariables false
set_option linter.unusedSimpArgs false
namespace Go.Sx
open Go.Proofs
set_option maxRecDepth 100000
set_option maxHeartbeats 1000000

theorem plain_fin {v : Int} (h0 : 0 ≤ v) (h1 : v < 257) : fin (plainW v) = true := by
  have A : (List.range 257).all (fun v => fin (plainW (v : Int))) = true := by decide +kernel
  obtain ⟨n, rfl⟩ := Int.eq_ofNat_of_zero_le h0
  exact List.all_eq_true.1 A n (List.mem_range.2 (by omega))
def keepW (v : Int) : Nat := fdiv .f32 (FloatKind.f32.nearest v) 1090519040
theorem keep_place {v : Int} (h0 : 0 ≤ v) (h1 : v < 8) : place (keepW v) = true := by
  have A : (List.range 8).all (fun v => place (keepW (v : Int))) = true := by decide +kernel
  obtain ⟨n, rfl⟩ := Int.eq_ofNat_of_zero_le h0
  exact List.all_eq_true.1 A n (List.mem_range.2 (by omega))
end Go.Sx
/- Finite numbers: what reads as a number is finite; one less a part of one. -/
set_option linter.unusedVariables false
set_option linter.unusedSimpArgs false
namespace Go.Sx
open Ieee

theorem word_fin (t : Bool) : feq .f32 (cn .f32 (FloatKind.f32.format.word t 0)) 0 = true := by cases t <;> decide +kernel
theorem sub_self_word {a m : Nat} {s : Bool} {e : Int} (h : FloatKind.f32.format.read a = .number s m e) : ∃ t, FloatKind.f32.format.sub a a = some (FloatKind.f32.format.word t 0) := by
  have hsum : ∃ t, (Datum.number s m e).sum (Datum.number s m e).opposite = some (.number t (signed s m (e - min e e).toNat + signed (!s) m (e - min e e).toNat).natAbs (min e e)) := ⟨_, rfl⟩
  obtain ⟨t, hsum⟩ := hsum
  have z : ∀ k, signed s m k + signed (!s) m k = 0 := fun k => by
    cases s
    · rw [signed_f]; show _ + signed true m k = 0; rw [signed_t]; omega
    · rw [signed_t]; show _ + signed false m k = 0; rw [signed_f]; omega
  rw [z] at hsum
  refine ⟨t, ?_⟩
  unfold Format.sub
  rw [h, hsum]
  exact congrArg some (nearest_zero _ _ _)
theorem fin_read {a m : Nat} {s : Bool} {e : Int} (h : FloatKind.f32.format.read a = .number s m e) : fin a = true := by
  obtain ⟨t, ht⟩ := sub_self_word h
  unfold fin fsub
  rw [ht, Option.getD_some]
  exact word_fin t
theorem inside_fin {a c d n k : Nat} {j i : Int} (hc : FloatKind.f32.format.read c = .number false n j) (hd : FloatKind.f32.format.read d = .number false k i) (h : inside a c d = true) : fin a = true := by
  obtain ⟨B, hB⟩ : ∃ B : Nat, 1100 ≤ B := ⟨1100, Nat.le_refl _⟩
  obtain ⟨s, m, e, hr, _⟩ := inside_read hB hc hd h
  exact fin_read hr
theorem rd_c0 : FloatKind.f32.format.read 0 = .number false 0 (-149) := by decide +kernel
theorem rd_c1 : FloatKind.f32.format.read 1065353216 = .number false (2 ^ 23) (-23) := by decide +kernel
theorem place_inside {k : Nat} (h : place k = true) : inside k 0 1065353216 = true := by
  unfold place at h
  unfold inside fle
  rw [Bool.and_eq_true] at *
  exact ⟨h.1, by rw [show (FloatKind.f32.format.order k 1065353216 == some .lt) = true from h.2]; rfl⟩
theorem one_sub {k : Nat} (h : place k = true) : fin (fsub .f32 1065353216 k) = true := by
  obtain ⟨B, hB⟩ : ∃ B : Nat, 1100 ≤ B := ⟨1100, Nat.le_refl _⟩
  obtain ⟨s', m', e', hr', hs', h1', h2'⟩ := inside_read hB rd_c0 rd_c1 (place_inside h)
  have v1 : sv B (2 ^ 23) (-23) = 2 ^ B := by unfold sv; rw [← Nat.pow_add]; congr 1; omega
  have hb2 := read_single k hr'
  have hm : ∃ m, m = (2 : Nat) ^ 23 := ⟨_, rfl⟩
  obtain ⟨m, hm⟩ := hm
  have hr := rd_c1
  rw [← hm] at hr v1 h2'
  have he : ∃ e : Int, e = -23 := ⟨_, rfl⟩
  obtain ⟨e, he⟩ := he
  rw [← he] at hr v1 h2'
  have hbase : ∃ b : Int, b = min e e' := ⟨_, rfl⟩
  obtain ⟨b, hbase⟩ := hbase
  have w1 : sv B m e = m * 2 ^ (e - b).toNat * 2 ^ (b + (B : Int)).toNat := by unfold sv; rw [Nat.mul_assoc, ← Nat.pow_add]; congr 2; omega
  have w2 : sv B m' e' = m' * 2 ^ (e' - b).toNat * 2 ^ (b + (B : Int)).toNat := by unfold sv; rw [Nat.mul_assoc, ← Nat.pow_add]; congr 2; omega
  have hneg : signed (!s') m' (e' - b).toNat = -((m' * 2 ^ (e' - b).toNat : Nat) : Int) := by
    cases s'
    · exact signed_t _ _
    · rw [hs' rfl, Nat.zero_mul]
      show signed false 0 _ = _
      rw [signed_f, Nat.zero_mul]; rfl
  have hT : ∃ T : Nat, m * 2 ^ (e - b).toNat = T + m' * 2 ^ (e' - b).toNat ∧ T * 2 ^ (b + (B : Int)).toNat ≤ 2 ^ B := by
    rw [w1, w2] at h2'
    rw [w1] at v1
    have hle := Nat.le_of_mul_le_mul_right h2' (Nat.two_pow_pos _)
    refine ⟨m * 2 ^ (e - b).toNat - m' * 2 ^ (e' - b).toNat, by omega, ?_⟩
    rw [← v1]
    exact Nat.mul_le_mul_right _ (Nat.sub_le _ _)
  obtain ⟨T, hT1, hT3⟩ := hT
  have hsum : ∃ t, (Datum.number false m e).sum (Datum.number s' m' e').opposite = some (.number t T b) := by
    have : ∃ t, (Datum.number false m e).sum (Datum.number s' m' e').opposite = some (.number t (signed false m (e - min e e').toNat + signed (!s') m' (e' - min e e').toNat).natAbs (min e e')) := ⟨_, rfl⟩
    obtain ⟨t, this⟩ := this
    refine ⟨t, ?_⟩
    rw [this, ← hbase, hneg, signed_f, hT1]
    have : ((T + m' * 2 ^ (e' - b).toNat : Nat) : Int) + -((m' * 2 ^ (e' - b).toNat : Nat) : Int) = (T : Int) := by push_cast; omega
    rw [this, Int.natAbs_natCast]
  obtain ⟨t, hsum⟩ := hsum
  have hsub : FloatKind.f32.format.sub 1065353216 k = some (FloatKind.f32.format.nearest t T b) := by
    unfold Format.sub
    rw [hr, hr', hsum]; rfl
  have hf : fsub .f32 1065353216 k = cn .f32 (FloatKind.f32.format.nearest t T b) := by
    unfold fsub
    rw [hsub, Option.getD_some]
  have fromR : ∀ {w n : Nat} {q : Int}, FloatKind.f32.format.read w = .number t n q → fin (cn .f32 w) = true := fun {w n q} hw => by
    rw [number_cn hw]; exact fin_read hw
  rw [hf]
  by_cases hT0 : T = 0
  · subst hT0
    rw [nearest_zero]
    exact fromR (zero32 t)
  obtain ⟨e1, e2, e3, e4⟩ := f32_consts
  have hle : VLE T b 0 := sv_vle hB hT0 (by omega) (by omega) (by rw [show ((0 : Int) + (B : Int)).toNat = B by omega]; exact hT3)
  obtain ⟨m2, p2, hr2, _⟩ := nearest_read FloatKind.f32.format t hT0 hle (by rw [e1, e2]; omega) (by rw [e1, e2, e3, e4]; decide)
  exact fromR hr2
end Go.Sx
/- Own data as elements of an own slice: written whole, the blocks of what is written taken out of the frame. -/
set_option linter.unusedVariables false
set_option linter.unusedSimpArgs false
namespace Go.Sx

section
variable {α β : Type} {r : Rep α} {h0 h : Heap} {q : Addr} {F : Fr} {L : List Blk} {a : α} {off : Nat}
/-- A part, whatever frame it has. -/
theorem Pt.focX {p : Rep β} {get : α → β} {put : α → β → α} (P : Pt r h0 h q F L a) (Fc : Foc r p off get put) : ∃ F' C, Pt p h0 h (q.add off) F' (C ++ L) (get a) ∧ ∀ h0' h' L' b', Pt p h0' h' (q.add off) F' (C ++ L') b' → Pt r h0' h' q F L' (put a b') ∧ ∀ k, (k < off ∨ off + p.sz ≤ k) → cell h' (q.add k) = cell h (q.add k) := by
  obtain ⟨rfl, mid, B, M, O⟩ := P
  obtain ⟨pre, md, post, B1, Bm, B2, e1, rfl, rfl, O1, O2⟩ := Fc.fo O
  refine ⟨⟨F.g, F.T, F.pre ++ pre, post ++ F.post⟩, B1 ++ B2, ⟨?_, md, Bm, ?_, O1⟩, fun h0' h' L' b' P' => ?_⟩
  · rw [add_none]; simp [e1]
  · have := M.perm (perm_out _ _ _ _ _)
    simpa using this
  · obtain ⟨_, md', B', M', O'⟩ := P'
    have M'' : Mem h0' h' ((F.g, F.T, ⟨(F.pre ++ pre) ++ (md' ++ (post ++ F.post))⟩) :: (B' ++ (B1 ++ (B2 ++ L')))) := by simpa using M'
    have M2 := M''.perm (perm_out _ _ _ _ _).symm
    refine ⟨⟨rfl, pre ++ (md' ++ post), B1 ++ (B' ++ B2), by simpa using M2, O2 B' md' b' O'⟩, fun k hk => ?_⟩
    have l1 := p.olen O1
    have l2 := p.olen O'
    rw [add_none, M.cell .here, M2.cell .here]
    simp only [List.getElem?_toArray, List.append_assoc]
    rw [List.getElem?_append_right (Nat.le_add_right _ _), List.getElem?_append_right (Nat.le_add_right _ _)]
    rw [Nat.add_sub_cancel_left]
    rcases hk with hk | hk
    · rw [List.getElem?_append_left (by omega), List.getElem?_append_left (by omega)]
    · rw [List.getElem?_append_right (l₁ := pre) (by omega), List.getElem?_append_right (l₁ := pre) (by omega), List.getElem?_append_right (l₁ := md') (by omega), List.getElem?_append_right (l₁ := md) (by omega), l1, l2]
/-- An element, whatever frame its slice has. -/
theorem SlO.elemX [Inhabited β] {e : Nat} {s : Rep β} {B : List Blk} {b : Option Addr} {l c i : Nat} {els : List β} (S : SlO e s B b l c els) (hi : i < l) :
    ∃ a0 F' C, b = some a0 ∧ (∀ h0 h L, Mem h0 h (B ++ L) → Pt s h0 h (a0.add (i * s.sz)) F' (C ++ L) els[i]!) ∧ ∀ h0' h' L' x, Pt s h0' h' (a0.add (i * s.sz)) F' (C ++ L') x → ∃ B', SlO e s B' b l c (els.set i x) ∧ Mem h0' h' (B' ++ L') := by
  obtain ⟨h1, ws, B1, B2, rfl, O, h3⟩ := S
  rcases O.2 with ⟨_, _, h4, _⟩ | ⟨g, cs, rfl, rfl, h5, h6, h7, h8⟩
  · omega
  obtain ⟨pre, mid, post, C1, Cm, C2, e1, e2, rfl, O1, O2⟩ := h3.at (i := i) (by omega)
  have hc : cs = ⟨pre ++ (mid ++ (post ++ cs.toList.drop (l * s.sz)))⟩ := by
    have : cs.toList = ws ++ cs.toList.drop (l * s.sz) := by rw [← h8, List.take_append_drop]
    rw [e2] at this
    cases cs; simpa using this
  refine ⟨_, ⟨g, e, pre, post ++ cs.toList.drop (l * s.sz)⟩, C1 ++ C2, rfl, fun h0 h L M => ⟨?_, mid, Cm, ?_, by rw [getElem!_pos _ i (by omega)]; exact O1⟩, fun h0' h' L' x P' => ?_⟩
  · rw [add_none]; simp [e1]
  · rw [← hc]
    have : Mem h0 h ((g, e, cs) :: ((C1 ++ (Cm ++ C2)) ++ L)) := by simpa using M
    have := this.perm (perm_out _ _ _ _ _)
    simpa using this
  · obtain ⟨_, md', B', M', O'⟩ := P'
    have hm := s.olen O'
    have hm0 := s.olen O1
    have hws : ws.length = l * s.sz := O.1
    have hlen : (pre ++ (md' ++ post)).length = l * s.sz := by rw [← hws, e2]; simp [hm, hm0]
    refine ⟨(g, e, ⟨pre ++ (md' ++ (post ++ cs.toList.drop (l * s.sz)))⟩) :: (C1 ++ (B' ++ C2)), ⟨by simpa using h1, pre ++ (md' ++ post), [_], _, rfl, ⟨hlen, .inr ⟨g, _, rfl, rfl, h5, h6, ?_, ?_⟩⟩, O2 _ _ _ O'⟩, ?_⟩
    · have : cs.toList.length = c * s.sz := by simpa using h7
      have hle := Nat.mul_le_mul_right s.sz h5
      simp only [List.size_toArray]
      have : (pre ++ (md' ++ (post ++ cs.toList.drop (l * s.sz)))).length = (pre ++ (md' ++ post)).length + (cs.toList.drop (l * s.sz)).length := by simp; omega
      rw [this, hlen, List.length_drop]; omega
    · show List.take _ (pre ++ (md' ++ (post ++ _))) = _
      have e5 : pre ++ (md' ++ (post ++ cs.toList.drop (l * s.sz))) = (pre ++ (md' ++ post)) ++ cs.toList.drop (l * s.sz) := by simp
      rw [e5, ← hlen]
      exact List.take_left
    · have M'' : Mem h0' h' ((g, e, ⟨pre ++ (md' ++ (post ++ cs.toList.drop (l * s.sz)))⟩) :: (B' ++ (C1 ++ (C2 ++ L')))) := by simpa using M'
      have := M''.perm (perm_out _ _ _ _ _).symm
      simpa using this
theorem Pt.elemX [Inhabited β] {e : Nat} {s : Rep β} {get : α → List β} {put : α → List β → α} {i l c : Nat} {b : Option Addr} (P : Pt r h0 h q F L a) [Fc : FocC r off (rSl e s) get put] (hb : cell h (q.add off) = some (.slice b l c)) (hi : i < l) :
    ∃ a0 F' C, b = some a0 ∧ Pt s h0 h (a0.add (i * s.sz)) F' (C ++ L) (get a)[i]! ∧ ∀ h0' h' L' x, Pt s h0' h' (a0.add (i * s.sz)) F' (C ++ L') x → Pt r h0' h' q F L' (put a ((get a).set i x)) ∧ ∀ k, cell h' (q.add k) = cell h (q.add k) := by
  obtain ⟨F1, C1, P1, close⟩ := P.focX Fc.f
  obtain ⟨eq, mid, B, M, b', l', c', rfl, S⟩ := P1
  have e0 : cell h (q.add off) = some (.slice b' l' c') := by
    rw [eq, M.cell .here]; simp
  rw [hb] at e0
  cases e0
  obtain ⟨a0, F2, C2, rfl, P2, close2⟩ := S.elemX hi
  refine ⟨a0, F2, C2 ++ ((F1.g, F1.T, ⟨F1.pre ++ ([.slice (some a0) l c] ++ F1.post)⟩) :: C1), rfl, ?_, fun h0' h' L' x P' => ?_⟩
  · have := P2 h0 h ((F1.g, F1.T, ⟨F1.pre ++ ([.slice (some a0) l c] ++ F1.post)⟩) :: (C1 ++ L)) (M.perm List.perm_middle.symm)
    simpa using this
  · have P'' : Pt s h0' h' (a0.add (i * s.sz)) F2 (C2 ++ ((F1.g, F1.T, ⟨F1.pre ++ ([.slice (some a0) l c] ++ F1.post)⟩) :: (C1 ++ L'))) x := by simpa using P'
    obtain ⟨B', S', M'⟩ := close2 h0' h' _ x P''
    have M2 := M'.perm List.perm_middle
    obtain ⟨P3, hk⟩ := close h0' h' _ _ ⟨eq, [.slice (some a0) l c], B', M2, _, _, _, rfl, S'⟩
    refine ⟨P3, fun k => ?_⟩
    by_cases h1 : k < off ∨ off + (rSl e s).sz ≤ k
    · exact hk k h1
    · obtain rfl : k = off := by
        have : (rSl e s).sz = 1 := rfl
        omega
      rw [hb, eq, M2.cell .here]; simp
end
end Go.Sx
/- An event happens: the rule's and the program's. -/
set_option linter.unusedVariables false
set_option linter.unusedSimpArgs false
namespace Go.Sx
open Go.Proofs
set_option maxRecDepth 100000
set_option maxHeartbeats 2000000

def eldest (vs : List GVoice) : Nat → Nat
  | 0 => 0
  | i + 1 => if vs[i]!.Born < vs[eldest vs i]!.Born then i else eldest vs i
def isFreeV (v : GVoice) : Bool := v.Note == -1
def placeOf (vs : List GVoice) : Nat := if firstAt isFreeV vs = -1 then eldest vs vs.length else (firstAt isFreeV vs).toNat
theorem eldest_lt {vs : List GVoice} (h : 1 ≤ vs.length) : ∀ i, i ≤ vs.length → eldest vs i < vs.length
  | 0, _ => h
  | i + 1, hi => by
    unfold eldest
    split
    · omega
    · exact eldest_lt h i (by omega)
theorem placeOf_lt {vs : List GVoice} (h : 1 ≤ vs.length) : placeOf vs < vs.length := by
  unfold placeOf
  split
  · exact eldest_lt h _ (Nat.le_refl _)
  · next hf =>
    rcases first_cases isFreeV vs with ⟨e, _⟩ | ⟨n, hn, e, _⟩
    · exact absurd e hf
    · rw [e]; exact hn
def GScore.kind (s : GScore) (v : GVoice) : Int := s.Instruments[v.Instrument.toNat]!.Kind
def goneV (s : GScore) (v : GVoice) : GVoice := if s.kind v = 1 then { v with Gone := true, Drive := 0, String := { v.String with Loss := fmul .f32 v.String.Loss half } } else { v with Gone := true, Drive := 0 }
def stopV (s : GScore) (n : Int) (v : GVoice) : GVoice := if v.Note = n then goneV s v else v
def GPlayer.happen (p : GPlayer) (e : GEvent) : GPlayer :=
  if e.Kind = 2 then match voiceOf p.Score e with | some v => { p with Voices := p.Voices.set (placeOf p.Voices) v } | none => { p with Skipped := p.Skipped + 1 }
  else { p with Voices := p.Voices.map (stopV p.Score e.Note) }
/-- The event of a player that lies at a place. -/
def EvAt (h : Heap) (q e1 : Addr) (n : Nat) : Prop := ∃ a5 l5 c5, cell h (q.add 5) = some (.slice (some a5) l5 c5) ∧ e1 = a5.add (n * 6) ∧ n < l5
section
variable {h0 h : Heap} {q e1 : Addr} {F : Fr} {L : List Blk} {p : GPlayer} {n : Nat}
theorem EvAt.ext {h' : Heap} (E : EvAt h q e1 n) (x : Ext h h') : EvAt h' q e1 n := by
  obtain ⟨a5, l5, c5, e, r⟩ := E
  exact ⟨a5, l5, c5, x.cell e, r⟩
end
end Go.Sx
/- An event happens: both walks. -/
set_option linter.unusedVariables false
set_option linter.unusedSimpArgs false
namespace Go.Sx
open Go.Proofs
set_option maxRecDepth 100000
set_option maxHeartbeats 2000000

section
variable {h0 h : Heap} {q e1 : Addr} {F : Fr} {L : List Blk} {p : GPlayer} {n : Nat} {e : GEvent}
theorem happen_start (hk : e.Kind = 2) : p.happen e = match voiceOf p.Score e with | some v => { p with Voices := p.Voices.set (placeOf p.Voices) v } | none => { p with Skipped := p.Skipped + 1 } := by unfold GPlayer.happen; rw [if_pos hk] <;> (cases voiceOf p.Score e <;> rfl)
theorem happen_stop (hk : ¬ e.Kind = 2) : p.happen e = { p with Voices := p.Voices.map (stopV p.Score e.Note) } := by unfold GPlayer.happen; rw [if_neg hk]
end
end Go.Sx
/- New players. -/
set_option linter.unusedVariables false
set_option linter.unusedSimpArgs false
namespace Go.Sx
open Go.Proofs
set_option maxRecDepth 100000
set_option maxHeartbeats 1000000

def freeV : GVoice := { z_Voice with Note := -1 }
end Go.Sx
