/- The voice of a start, plain; periods have no sign. -/
import Derived.Test.YtnhcoeogejgidabGreatDoorLf8
import Derived.Test.YtnhcoeogejgidabGreatDoorShlS
import Derived.Test.YtnhcoeogejgidabGreatDoorTabE
import Derived.Test.YtnhcoeogejgidabGreatDoorLk30
import Derived.Test.YtnhcoeogejgidabGreatDoorTab
import Derived.Test.YtnhcoeogejgidabGreatDoorLk24
import Derived.Test.YtnhcoeogejgidabGreatDoorLm22
import Derived.Test.YtnhcoeogejgidabGreatDoorLm26
import Derived.Test.YtnhcoeogejgidabGreatDoorLg
import Derived.Test.YtnhcoeogejgidabGreatDoorLp5
set_option linter.unusedVariables false
set_option linter.unusedSimpArgs false
namespace Go.Sx
open Go.Proofs Ieee
set_option maxRecDepth 100000
set_option maxHeartbeats 1000000

def by2 (c : Nat) : Nat := if feq .f32 c 1065353216 then 1073741824 else 1082130432
def baseV (e : GEvent) : GVoice := { z_Voice with Note := e.Note, Instrument := e.Instrument, Born := e.At }
def voiceOf (s : GScore) (e : GEvent) : Option GVoice :=
  let x := s.Instruments[e.Instrument.toNat]!
  let p := s.Tuning.period e.Key s.Rate
  if p.2 = 0 then
    if x.Kind = 1 then
      if (newString p.1 x.A x.B).2 = 0 then
        if ((newString p.1 x.A x.B).1.pluck x.C e.Force).2 = 0 then some { baseV e with String := ((newString p.1 x.A x.B).1.pluck x.C e.Force).1 } else none
      else none
    else if x.Kind = 2 then
      if (newPipe (floorZ (fdiv .f32 p.1 (by2 x.C))) (feq .f32 x.C 1065353216) x.A x.B).2 = 0 then some { baseV e with Pipe := (newPipe (floorZ (fdiv .f32 p.1 (by2 x.C))) (feq .f32 x.C 1065353216) x.A x.B).1, Drive := e.Force } else none
    else if (newBow (floorZ p.1) x.A x.B x.C).2 = 0 then some { baseV e with Bow := (newBow (floorZ p.1) x.A x.B x.C).1, Drive := e.Force } else none
  else none
end Go.Sx
/- A pipe's step, as the rule makes it. -/
set_option linter.unusedVariables false
set_option linter.unusedSimpArgs false
namespace Go.Sx
open Go.Proofs
set_option maxRecDepth 100000
set_option maxHeartbeats 1000000

/-- What a step of a pipe asks for. -/
structure GPipe.Runs (x : GPipe) : Prop where
  n1 : 1 ≤ x.Right.length
  n3 : x.Right.length ≤ 3
  ll : x.Left.length = x.Right.length
  sl : x.Scatter.length + 1 = x.Right.length
  r : ∀ r ∈ x.Right, r.ok = true
  l : ∀ r ∈ x.Left, r.ok = true
theorem map_get {α β : Type} [Inhabited α] [Inhabited β] {f : α → β} {l : List α} {i : Nat} (h : i < l.length) : (l.map f)[i]! = f l[i]! := by
  rw [getElem!_pos _ i (by rw [List.length_map]; exact h), List.getElem_map, getElem!_pos l i h]
/-- A pipe within a step: the first i rings that run right and j that run left are moved. -/
def GPipe.at (x : GPipe) (b i j : Nat) (e : GFilter) : GPipe := { x with Right := mapI (x.rt b) x.Right i, Left := mapI x.lf x.Left j, End := e }
end Go.Sx
/- A pipe's step, as the program makes it. -/
set_option linter.unusedVariables false
set_option linter.unusedSimpArgs false
namespace Go.Sx
open Go.Proofs
set_option maxRecDepth 100000
set_option maxHeartbeats 1000000

section
variable {h0 h : Heap} {q : Addr} {F : Fr} {L : List Blk} {x : GPipe} {b : Nat}
theorem Pt.head {α β : Type} {r : Rep α} {e : Nat} {s : Rep β} {get : α → List β} {put : α → List β → α} {a : α} {off : Nat} (P : Pt r h0 h q F L a) [Fc : FocC r off (rSl e s) get put] : ∃ bb l c, cell h (q.add off) = some (.slice bb l c) ∧ SlR s h bb l c (get a) := P.hdr
end
end Go.Sx
/- Bodies that are silent: the rule's and the program's. -/
set_option linter.unusedVariables false
set_option linter.unusedSimpArgs false
namespace Go.Sx
open Go.Proofs
set_option maxRecDepth 100000
set_option maxHeartbeats 1000000

/-- Pointers to rings, and the rings. -/
def PR (h : Heap) (ps : List Addr) (rs : List GRing) : Prop := ps.length = rs.length ∧ ∀ i, i < ps.length → RdP rRing h ps[i]! rs[i]! ∧ rs[i]!.ok = true
theorem PR.ext {h h' : Heap} {ps : List Addr} {rs : List GRing} (H : PR h ps rs) (x : Ext h h') : PR h' ps rs := ⟨H.1, fun i hi => ⟨(H.2 i hi).1.ext x, (H.2 i hi).2⟩⟩
end Go.Sx
/- Voices moved on: the rule's and the program's. -/
set_option linter.unusedVariables false
set_option linter.unusedSimpArgs false
namespace Go.Sx
open Go.Proofs
set_option maxRecDepth 100000
set_option maxHeartbeats 1000000

def GVoice.sound (k : Int) (v : GVoice) : GVoice × Nat :=
  if k = 1 then ({ v with String := (v.String.step 0).1 }, (v.String.step 0).2)
  else if k = 2 then ({ v with Pipe := (v.Pipe.step v.Drive).1 }, (v.Pipe.step v.Drive).2)
  else ({ v with Bow := (v.Bow.step v.Drive).1 }, (v.Bow.step v.Drive).2)
def GVoice.quiet (k : Int) (v : GVoice) : Bool := if k = 1 then v.String.silent else if k = 2 then v.Pipe.silent else v.Bow.silent
def bodyRuns (k : Int) (v : GVoice) : Prop := if k = 1 then v.String.Loop.ok = true else if k = 2 then v.Pipe.Runs else v.Bow.ok = true
end Go.Sx
/- What functions of this seat's program compute, told in words (a predicate over heaps for each), and the proofs that the words are no more than the code's own weakest precondition. -/
namespace Go.Sx
open Go.Proofs
set_option linter.unusedVariables false
set_option maxRecDepth 100000

def p_spec_l00Src_next.J4 (Post : Value → Heap → Prop) (s_0 : Addr) (b_3 : Int) (h : Heap) : Prop :=
    oI .i64 (cell h (Addr.add s_0 1)) fun n9 =>
    ST1 h (Addr.add s_0 1) (.int .i64 ((IntKind.i64.wrap (n9 + (1 : Int))))) fun h10 =>
    oI .u64 (cell h10 (Addr.add s_0 2)) fun n11 =>
    ST1 h10 (Addr.add s_0 2) (.int .u64 ((IntKind.u64.wrap ((IntKind.u64.wrap ((IntKind.u64.wrap (n11 * (6364136223846793005 : Int))) + (IntKind.u64.wrap b_3))) + (1442695040888963407 : Int))))) fun h12 =>
    oI .i64 (cell h12 (Addr.add s_0 1)) fun n13 =>
    oL (cell h12 s_0) fun l14b l14l l14c =>
    BIF ((decide (n13 ≤ (l14l : Int)))) (
    Post (.int .i64 b_3) h12) (
    oI .u64 (cell h12 (Addr.add s_0 2)) fun n17 =>
    NN (40 : Int) <|
    Post (.int .i64 ((IntKind.i64.wrap ((bitI .and .u64 (shrI .u64 n17 (40 : Int)) (255 : Int)))))) h12)
def p_spec_l00Src_next.j4 (Post : Value → Heap → Prop) : Frame → Heap → Prop := fun fr h => GRD (shape (kds 62 [(0, .p), (3, .i .i64)]) fr) (p_spec_l00Src_next.J4 Post (gP (lget fr 0)) (gI (lget fr 3)) h)
def p_spec_l00Src_next.S (s_0 : Addr) (Post : Value → Heap → Prop) (h : Heap) : Prop :=
    oI .i64 (cell h (Addr.add s_0 1)) fun n1 =>
    oL (cell h s_0) fun l2b l2l l2c =>
    BIF ((decide (n1 < (l2l : Int)))) (
    oL (cell h s_0) fun l5b l5l l5c =>
    oI .i64 (cell h (Addr.add s_0 1)) fun n6 =>
    IDXS l5b n6 l5l fun p7 =>
    oI .u8 (cell h ((Addr.add p7 ((Int.toNat n6) * 1)))) fun n8 =>
    p_spec_l00Src_next.J4 Post s_0 (IntKind.i64.wrap n8) h) (
    p_spec_l00Src_next.J4 Post s_0 (0 : Int) h)
noncomputable def p_spec_l00Src_next.code : Code := (Tryz.f71.body).getD .skip
theorem p_spec_l00Src_next.call {s_0 : Addr} {Post : Value → Heap → Prop} {h : Heap} (H : p_spec_l00Src_next.S s_0 Post h) : CALL prg f_p_spec_l00Src_next #[.pointer (some s_0)] Post h :=
  fn_call tau_ok mixed (c := p_spec_l00Src_next.code) (Λ := lookL [(4, p_spec_l00Src_next.j4 Post)]) Tryz.func71 (by kernel_rfl) (by kernel_rfl)
    (Rq.seq (by kernel_rfl) (Rq.free (by kernel_rfl)) (Rq.seq (by kernel_rfl) (Rq.free (by kernel_rfl)) (Rq.seqJ (p_spec_l00Src_next.j4 Post) (by kernel_rfl) (seg (fun _ _ => by kernel_rfl)) (Rq.free (by kernel_rfl))
(Rq.free (by kernel_rfl)))))
    (Eq.mp (by kernel_rfl) H)

def p_spec_l00Src_pick.S (s_0 : Addr) (n_1 : Int) (Post : Value → Heap → Prop) (h : Heap) : Prop :=
    BIF ((decide (n_1 ≤ (1 : Int)))) (
    Post (.int .i64 (0 : Int)) h) (
    CALL prg f_p_spec_l00Src_next #[.pointer (some s_0)] (fun q1 h2 =>
    asI .i64 q1 fun n3 =>
    BIF ((decide ((200 : Int) < n_1))) (
    CALL prg f_p_spec_l00Src_next #[.pointer (some s_0)] (fun q4 h5 =>
    asI .i64 q4 fun n6 =>
    NZ n_1 <|
    Post (.int .i64 ((Int.tmod ((IntKind.i64.wrap ((IntKind.i64.wrap (n3 * (256 : Int))) + n6))) n_1))) h5) h2) (
    NZ n_1 <|
    Post (.int .i64 (Int.tmod n3 n_1)) h2)) h)
noncomputable def p_spec_l00Src_pick.code : Code := (Tryz.f37.body).getD .skip
theorem p_spec_l00Src_pick.call {s_0 : Addr} {n_1 : Int} {Post : Value → Heap → Prop} {h : Heap} (H : p_spec_l00Src_pick.S s_0 n_1 Post h) : CALL prg f_p_spec_l00Src_pick #[.pointer (some s_0), .int .i64 n_1] Post h :=
  fn_call tau_ok mixed (c := p_spec_l00Src_pick.code) (Λ := lookL []) Tryz.func37 (by kernel_rfl) (by kernel_rfl)
    (Rq.free (by kernel_rfl))
    (Eq.mp (by kernel_rfl) H)

def spec_l00From.S (code_0b : Option Addr) (code_0l code_0c : Nat) (Post : Value → Heap → Prop) (h : Heap) : Prop :=
    ALC (⟨[.slice code_0b code_0l code_0c, .int .i64 (0 : Int), .int .u64 (0 : Int)]⟩ : Array Value) T_spec_l00Src (fun g1 h2 =>
    Post (.pointer (some ⟨g1, 0, none⟩)) h2) h
noncomputable def spec_l00From.code : Code := (Tryz.f36.body).getD .skip
theorem spec_l00From.call {code_0b : Option Addr} {code_0l code_0c : Nat} {Post : Value → Heap → Prop} {h : Heap} (H : spec_l00From.S code_0b code_0l code_0c Post h) : CALL prg f_spec_l00From #[.slice code_0b code_0l code_0c] Post h :=
  fn_call tau_ok mixed (c := spec_l00From.code) (Λ := lookL []) Tryz.func36 (by kernel_rfl) (by kernel_rfl)
    (Rq.free (by kernel_rfl))
    (Eq.mp (by kernel_rfl) H)

end Go.Sx
/- The drawing machine of the laws (spec.l00Src): what it draws lies in bounds. -/
set_option linter.unusedVariables false
set_option linter.unusedSimpArgs false
namespace Go.Sx
open Go.Proofs
set_option maxRecDepth 100000
set_option maxHeartbeats 1000000

/-- Bytes. -/
def Byt' (xs : List Int) : Prop := ∀ x ∈ xs, 0 ≤ x ∧ x < 256
theorem wrapU {k : IntKind} {n : Int} (hk : k.signed = false) (h1 : 0 ≤ n) (h2 : n < 2 ^ k.bits) : k.wrap n = n := by
  unfold IntKind.wrap
  rw [hk]
  exact Int.emod_eq_of_lt h1 h2
/-- A machine over bytes that are read. -/
def Src (h0 h : Heap) (L : List Blk) (g : Nat) (cb : Option Addr) (cl cc K : Nat) : Prop :=
  ∃ (p : Nat) (st : Int), p ≤ K ∧ Mem h0 h ((g, T_spec_l00Src, ⟨[.slice cb cl cc, .int .i64 (p : Int), .int .u64 st]⟩) :: L)
section
variable {h0 h h' : Heap} {L W : List Blk} {g : Nat} {cb : Option Addr} {cl cc K K' : Nat} {xs : List Int} {n : Int}
theorem Src.mem (S : Src h0 h L g cb cl cc K) : Mem h0 h L := by
  obtain ⟨_, _, _, M⟩ := S; exact M.drop
theorem Src.grow (S : Src h0 h L g cb cl cc K) (x : Ext h h') : Src h0 h' L g cb cl cc K := by
  obtain ⟨p, st, hp, M⟩ := S; exact ⟨p, st, hp, M.grow x⟩
theorem Src.mono (S : Src h0 h L g cb cl cc K) (hk : K ≤ K') : Src h0 h L g cb cl cc K' := by
  obtain ⟨p, st, hp, M⟩ := S; exact ⟨p, st, by omega, M⟩
theorem Src.cnt (S : Src h0 h L g cb cl cc K) (hc : ∀ p, Sx.cnt p W ≤ Sx.cnt p L) : Src h0 h W g cb cl cc K := by
  obtain ⟨p, st, hp, M⟩ := S; exact ⟨p, st, hp, M.cnt fun q => by have := hc q; simp only [cnt_cons]; omega⟩
theorem and255 (x : Int) : 0 ≤ bitI .and .u64 x 255 ∧ bitI .and .u64 x 255 < 256 := by
  simp only [bitI]
  have h1 : (BitVec.ofInt IntKind.u64.bits x &&& BitVec.ofInt IntKind.u64.bits 255).toNat ≤ 255 := by
    rw [BitVec.toNat_and]
    exact Nat.and_le_right
  have e : (2 : Int) ^ IntKind.u64.bits = 18446744073709551616 := by decide
  rw [wrapU rfl (by omega) (by rw [e]; omega)]
  omega
theorem next_c (S : Src h0 h L g cb xs.length cc K) (C : Cells h0 cb (iv .u8 xs)) (hb : Byt' xs) (hK : K ≤ 1152921504606846976) :
    CALL prg f_p_spec_l00Src_next #[.pointer (some ⟨g, 0, none⟩)] (fun u h' => ∃ v : Int, u = .int .i64 v ∧ 0 ≤ v ∧ v < 256 ∧ Src h0 h' L g cb xs.length cc (K + 1)) h := by
  obtain ⟨p, st, hp, M⟩ := S
  refine p_spec_l00Src_next.call ?_
  have j4 : ∀ v : Int, 0 ≤ v ∧ v < 256 → p_spec_l00Src_next.J4 (fun u h' => ∃ v : Int, u = .int .i64 v ∧ 0 ≤ v ∧ v < 256 ∧ Src h0 h' L g cb xs.length cc (K + 1)) ⟨g, 0, none⟩ v h := by
    intro v hv
    unfold p_spec_l00Src_next.J4
    simp only [add_none, Nat.zero_add]
    refine M.oI (by repeat constructor) rfl ?_
    rw [wrap64_succ (by omega)]
    refine M.st1 (by repeat constructor) (by simp) (by repeat constructor) fun h1 M => ?_
    refine M.oI (by repeat constructor) rfl ?_
    refine M.st1 (by repeat constructor) (by simp) (by repeat constructor) fun h2 M => ?_
    refine M.oI (by repeat constructor) rfl (M.oL (by repeat constructor) rfl ?_)
    have S' : ∀ st' : Int, Mem h0 h2 ((g, T_spec_l00Src, ⟨[.slice cb xs.length cc, .int .i64 ((p + 1 : Nat) : Int), .int .u64 st']⟩) :: L) → Src h0 h2 L g cb xs.length cc (K + 1) := fun st' M => ⟨p + 1, st', by omega, M⟩
    refine brd (fun _ => ⟨v, rfl, hv.1, hv.2, S' _ M⟩) fun _ => ?_
    refine M.oI (by repeat constructor) rfl (nn (by omega) ⟨_, rfl, ?_, ?_, S' _ M⟩)
    · have := and255 (shrI .u64 (IntKind.u64.wrap (IntKind.u64.wrap (IntKind.u64.wrap (st * 6364136223846793005) + IntKind.u64.wrap v) + 1442695040888963407)) 40)
      rw [wrap64 (by omega) (by omega)]; omega
    · have := and255 (shrI .u64 (IntKind.u64.wrap (IntKind.u64.wrap (IntKind.u64.wrap (st * 6364136223846793005) + IntKind.u64.wrap v) + 1442695040888963407)) 40)
      rw [wrap64 (by omega) (by omega)]; omega
  unfold p_spec_l00Src_next.S
  simp only [add_none, Nat.zero_add]
  refine M.oI (by repeat constructor) rfl (M.oL (by repeat constructor) rfl ?_)
  refine brd (fun hc => ?_) fun hc => j4 0 (by omega)
  refine M.oL (by repeat constructor) rfl (M.oI (by repeat constructor) rfl ?_)
  have C' := C.ext M.ext
  obtain ⟨a, rfl⟩ := C'.base (by rw [iv_len]; omega)
  refine idxs (by omega) (by omega) ?_
  rw [Int.toNat_natCast, Nat.mul_one]
  refine o_i (C'.get (iv_get (by omega))) ?_
  have := hb _ (List.getElem_mem (show p < xs.length by omega))
  rw [wrap64 (by omega) (by omega)]
  exact j4 _ this
/-- What pick tells. -/
def Picked (h0 : Heap) (L : List Blk) (g : Nat) (cb : Option Addr) (cl cc K : Nat) (n : Int) (u : Value) (h' : Heap) : Prop := ∃ v : Int, u = .int .i64 v ∧ 0 ≤ v ∧ (v < n ∨ v = 0) ∧ v < 65536 ∧ Src h0 h' L g cb cl cc (K + 2)
theorem pick_c (S : Src h0 h L g cb xs.length cc K) (C : Cells h0 cb (iv .u8 xs)) (hb : Byt' xs) (hK : K ≤ 1048576) :
    CALL prg f_p_spec_l00Src_pick #[.pointer (some ⟨g, 0, none⟩), .int .i64 n] (Picked h0 L g cb xs.length cc K n) h := by
  refine p_spec_l00Src_pick.call ?_
  refine brd (fun h1 => ⟨0, rfl, by omega, .inr rfl, by omega, S.mono (by omega)⟩) fun h1 => ?_
  refine (next_c S C hb (by omega)).mono ?_
  rintro _ h2 ⟨a, rfl, a1, a2, S⟩
  refine as_i ?_
  have md : ∀ x : Int, 0 ≤ x → 0 ≤ Int.tmod x n ∧ Int.tmod x n < n ∧ Int.tmod x n ≤ x := fun x hx => by
    rw [Int.tmod_eq_emod_of_nonneg hx]
    refine ⟨Int.emod_nonneg _ (by omega), Int.emod_lt_of_pos _ (by omega), ?_⟩
    have e1 := Int.emod_add_mul_ediv x n
    have e2 : 0 ≤ n * (x / n) := Int.mul_nonneg (by omega) (Int.ediv_nonneg hx (by omega))
    omega
  refine brd (fun h3 => ?_) fun h3 => ?_
  · refine (next_c S C hb (by omega)).mono ?_
    rintro _ h4 ⟨b, rfl, b1, b2, S⟩
    refine as_i (nz (by omega) ?_)
    rw [wrap64 (n := a * 256) (by omega) (by omega), wrap64 (by omega) (by omega)]
    have := md (a * 256 + b) (by omega)
    exact ⟨_, rfl, this.1, .inl this.2.1, by omega, S⟩
  · have := md a a1
    exact nz (by omega) ⟨_, rfl, this.1, .inl this.2.1, by omega, S.mono (by omega)⟩
theorem l00From_c (M : Mem h0 h L) : CALL prg f_spec_l00From #[.slice cb cl cc] (fun u h' => ∃ g, u = .pointer (some ⟨g, 0, none⟩) ∧ Src h0 h' L g cb cl cc 0) h :=
  spec_l00From.call (M.alc fun g h1 _ M => ⟨g, rfl, 0, 0, Nat.le_refl _, M⟩)
end
end Go.Sx
