/- A player's step: the rule's. -/
import Derived.Test.YtnhcoeogejgidabGreatDoorLk72
import Derived.Test.YtnhcoeogejgidabGreatDoorTabE
import Derived.Test.YtnhcoeogejgidabGreatDoorLk30
import Derived.Test.YtnhcoeogejgidabGreatDoorTab
import Derived.Test.YtnhcoeogejgidabGreatDoorLk24
import Derived.Test.YtnhcoeogejgidabGreatDoorLm26
import Derived.Test.YtnhcoeogejgidabGreatDoorLk50
import Derived.Test.YtnhcoeogejgidabGreatDoorLpx
import Derived.Test.YtnhcoeogejgidabGreatDoorLm22
import Derived.Test.YtnhcoeogejgidabGreatDoorLp5
set_option linter.unusedVariables false
set_option linter.unusedSimpArgs false
namespace Go.Sx
open Go.Proofs
set_option maxRecDepth 100000
set_option maxHeartbeats 2000000

section
variable {h0 h : Heap} {q : Addr} {F : Fr} {L : List Blk} {p : GPlayer}
/-- A player within the loop over events. -/
structure RunsTo (p0 p : GPlayer) : Prop where
  r : p.Runs
  n : p.Now = p0.Now
  e : GPlayer.run (p.Score.Events.length - p.Next.toNat) p = GPlayer.run (p0.Score.Events.length - p0.Next.toNat) p0
  s : p.Score = p0.Score
theorem RunsTo.next {p0 p : GPlayer} (R : RunsTo p0 p) (h : p.now1 = true) : RunsTo p0 p.next := by
  obtain ⟨g1, g2, g3⟩ := next_score p
  exact ⟨next_runs R.r (now1_iff h).1, by rw [g2, R.n], by rw [← run_step R.r h, R.e], by rw [g1, R.s]⟩
theorem RunsTo.done {p0 p : GPlayer} (R : RunsTo p0 p) (h : p.now1 = false) : p.sounded = p0.step := by
  unfold GPlayer.step
  rw [← R.e, run_done h]
end
end Go.Sx
/- Bows muted, played, pulled and moved on. -/
set_option linter.unusedVariables false
set_option linter.unusedSimpArgs false
namespace Go.Sx
open Go.Proofs
set_option maxRecDepth 100000
set_option maxHeartbeats 1000000

/-- A thing, a slice of floats and a code, told by a call. -/
def TriG {α : Type} (r : Rep α) (h h' : Heap) (u : Value) (x : α) (ys : List Nat) (code : Int) : Prop := ∃ cs B b l c C, u = .tuple ⟨[.agg cs, .slice b l c, .int .i64 code]⟩ ∧ r.ow B cs.toList x ∧ SlO T_float32 (rF .f32) C b l c ys ∧ Mem h h' (B ++ C)
theorem TriG.go {α : Type} {r : Rep α} {P : Program} {f : FuncId} {args : Array Value} {x : α} {ys : List Nat} {code : Int} {hb h : Heap} {L : List Blk} {K : Value → Heap → Prop} (M : Mem hb h L) (k : CALL P f args (fun u h' => TriG r h h' u x ys code) h)
    (H : ∀ h' cs B b l c C, Mem hb h' ((B ++ C) ++ L) → r.ow B cs.toList x → SlO T_float32 (rF .f32) C b l c ys → K (.tuple ⟨[.agg cs, .slice b l c, .int .i64 code]⟩) h') : CALL P f args K h :=
  k.mono fun u h' ⟨cs, B, b, l, c, C, e, O, S, N⟩ => by subst e; exact H h' cs B b l c C (M.join N) O S
section
variable {h : Heap} {q : Addr} {x : GBow} {xs : List Nat} {b : Option Addr} {l c : Nat} {cs : Array Value}
/-- A thing, a float and a code, told by a call. -/
def MidG {α : Type} (r : Rep α) (h h' : Heap) (u : Value) (x : α) (y : Nat) (code : Int) : Prop := ∃ cs B w, u = .tuple ⟨[.agg cs, .float .f32 w, .int .i64 code]⟩ ∧ r.ow B cs.toList x ∧ FW .f32 w y ∧ Mem h h' B
theorem MidG.go {α : Type} {r : Rep α} {P : Program} {f : FuncId} {args : Array Value} {x : α} {y : Nat} {code : Int} {hb h : Heap} {L : List Blk} {K : Value → Heap → Prop} (M : Mem hb h L) (k : CALL P f args (fun u h' => MidG r h h' u x y code) h)
    (H : ∀ h' cs B w, Mem hb h' (B ++ L) → r.ow B cs.toList x → FW .f32 w y → K (.tuple ⟨[.agg cs, .float .f32 w, .int .i64 code]⟩) h') : CALL P f args K h :=
  k.mono fun u h' ⟨cs, B, w, e, O, S, N⟩ => by subst e; exact H h' cs B w (M.join N) O S
end
end Go.Sx
/- What functions of this seat's program compute, told in words (a predicate over heaps for each), and the proofs that the words are no more than the code's own weakest precondition. -/
namespace Go.Sx
open Go.Proofs
set_option linter.unusedVariables false
set_option maxRecDepth 100000

def laws_a2Long.S (code_0b : Option Addr) (code_0l code_0c : Nat) (more_1b : Option Addr) (more_1l more_1c : Nat) (Post : Value → Heap → Prop) (h : Heap) : Prop :=
    BIF ((decide ((3000 : Int) < (code_0l : Int)))) (
    Post (.bool true) h) (
    Post (.bool ((decide ((3000 : Int) < (more_1l : Int))))) h)
noncomputable def laws_a2Long.code : Code := (Tryz.f10.body).getD .skip
theorem laws_a2Long.call {code_0b : Option Addr} {code_0l code_0c : Nat} {more_1b : Option Addr} {more_1l more_1c : Nat} {Post : Value → Heap → Prop} {h : Heap} (H : laws_a2Long.S code_0b code_0l code_0c more_1b more_1l more_1c Post h) : CALL prg f_laws_a2Long #[.slice code_0b code_0l code_0c, .slice more_1b more_1l more_1c] Post h :=
  fn_call tau_ok mixed (c := laws_a2Long.code) (Λ := lookL []) Tryz.func10 (by kernel_rfl) (by kernel_rfl)
    (Rq.free (by kernel_rfl))
    (Eq.mp (by kernel_rfl) H)

def spec_A2Digit.J3 (Post : Value → Heap → Prop) (code_0b : Option Addr) (code_0l : Nat) (code_0c : Nat) (at_1 : Int) (n_2 : Int) (h : Heap) : Prop :=
    IDXS code_0b at_1 code_0l fun p3 =>
    oI .u8 (cell h ((Addr.add p3 ((Int.toNat at_1) * 1)))) fun n4 =>
    NZ n_2 <|
    Post (.int .i64 (Int.tmod (IntKind.i64.wrap n4) n_2)) h
def spec_A2Digit.j3 (Post : Value → Heap → Prop) : Frame → Heap → Prop := fun fr h => GRD (shape (kds 22 [(0, .l), (1, .i .i64), (2, .i .i64)]) fr) (spec_A2Digit.J3 Post (gLb (lget fr 0)) (gLl (lget fr 0)) (gLc (lget fr 0)) (gI (lget fr 1)) (gI (lget fr 2)) h)
def spec_A2Digit.S (code_0b : Option Addr) (code_0l code_0c : Nat) (at_1 : Int) (n_2 : Int) (Post : Value → Heap → Prop) (h : Heap) : Prop :=
    BIF ((decide ((code_0l : Int) ≤ at_1))) (
    Post (.int .i64 (0 : Int)) h) (
    BIF ((decide (n_2 < (1 : Int)))) (
    Post (.int .i64 (0 : Int)) h) (
    spec_A2Digit.J3 Post code_0b code_0l code_0c at_1 n_2 h))
noncomputable def spec_A2Digit.code : Code := (Tryz.f12.body).getD .skip
theorem spec_A2Digit.call {code_0b : Option Addr} {code_0l code_0c : Nat} {at_1 : Int} {n_2 : Int} {Post : Value → Heap → Prop} {h : Heap} (H : spec_A2Digit.S code_0b code_0l code_0c at_1 n_2 Post h) : CALL prg f_spec_A2Digit #[.slice code_0b code_0l code_0c, .int .i64 at_1, .int .i64 n_2] Post h :=
  fn_call tau_ok mixed (c := spec_A2Digit.code) (Λ := lookL [(3, spec_A2Digit.j3 Post)]) Tryz.func12 (by kernel_rfl) (by kernel_rfl)
    (Rq.seq (by kernel_rfl) (Rq.free (by kernel_rfl)) (Rq.seqJ (spec_A2Digit.j3 Post) (by kernel_rfl) (seg (fun _ _ => by kernel_rfl)) (Rq.free (by kernel_rfl))
(Rq.free (by kernel_rfl))))
    (Eq.mp (by kernel_rfl) H)

end Go.Sx
/- Samples and blocks drawn: anything at all. -/
set_option linter.unusedVariables false
set_option linter.unusedSimpArgs false
namespace Go.Sx
open Go.Proofs Ieee
set_option maxRecDepth 100000
set_option maxHeartbeats 1000000

section
variable {h0 h : Heap} {L : List Blk} {g : Nat} {cb : Option Addr} {cc K : Nat} {xs : List Int}
theorem a2Long_c {mb : Option Addr} {l c l' c' : Nat} : CALL prg f_laws_a2Long #[.slice cb l c, .slice mb l' c'] (fun u h' => ∃ b, u = .bool b ∧ Ext h h') h :=
  laws_a2Long.call (br (fun _ => ⟨_, rfl, Ext.refl _⟩) fun _ => ⟨_, rfl, Ext.refl _⟩)
theorem A2Digit_c {n i : Int} (M : Mem h0 h L) (C : Cells h0 cb (iv .u8 xs)) (hb : Byt' xs) (hn : 0 < n) (hi : 0 ≤ i) : CALL prg f_spec_A2Digit #[.slice cb xs.length cc, .int .i64 i, .int .i64 n] (fun u h' => ∃ v : Int, u = .int .i64 v ∧ 0 ≤ v ∧ v < n ∧ Mem h0 h' L) h := by
  refine spec_A2Digit.call (brd (fun _ => ⟨0, rfl, by omega, hn, M⟩) fun hc => brd (fun _ => ⟨0, rfl, by omega, hn, M⟩) fun hd => ?_)
  unfold spec_A2Digit.J3
  obtain ⟨k, rfl⟩ := Int.eq_ofNat_of_zero_le hi
  have C' := C.ext M.ext
  obtain ⟨a, rfl⟩ := C'.base (by rw [iv_len]; omega)
  refine idxs (by omega) (by omega) ?_
  rw [Int.toNat_natCast, Nat.mul_one]
  refine o_i (C'.get (iv_get (by omega))) (nz (by omega) ?_)
  have := hb _ (List.getElem_mem (show k < xs.length by omega))
  rw [wrap64 (by omega) (by omega), Int.tmod_eq_emod_of_nonneg this.1]
  exact ⟨_, rfl, Int.emod_nonneg _ (by omega), Int.emod_lt_of_pos _ hn, M⟩
end
end Go.Sx
/- New values kept in blocks, and what is read of them. -/
set_option linter.unusedVariables false
set_option linter.unusedSimpArgs false
namespace Go.Sx
open Go.Proofs
set_option maxRecDepth 100000
set_option maxHeartbeats 2000000

/-- Bytes that are read. -/
structure Reads (h : Heap) (cb mb : Option Addr) (code more : List Int) : Prop where
  c : Cells h cb (iv .u8 code)
  m : Cells h mb (iv .u8 more)
  bc : Byt' code
  bm : Byt' more
theorem Reads.ext {h h' : Heap} {cb mb : Option Addr} {code more : List Int} (G : Reads h cb mb code more) (X : Ext h h') : Reads h' cb mb code more := ⟨G.c.ext X, G.m.ext X, G.bc, G.bm⟩
end Go.Sx
/- What functions of this seat's program compute, told in words (a predicate over heaps for each), and the proofs that the words are no more than the code's own weakest precondition. -/
namespace Go.Sx
open Go.Proofs
set_option linter.unusedVariables false
set_option maxRecDepth 100000

def p_spec_l00Src_text.S (s_0 : Addr) (list_1b : Option Addr) (list_1l list_1c : Nat) (Post : Value → Heap → Prop) (h : Heap) : Prop :=
    CALL prg f_p_spec_l00Src_pick #[.pointer (some s_0), .int .i64 (list_1l : Int)] (fun q3 h4 =>
    asI .i64 q3 fun n5 =>
    IDXS list_1b n5 list_1l fun p6 =>
    oS (cell h4 ((Addr.add p6 ((Int.toNat n5) * 1)))) fun s7 =>
    Post (.string s7) h4) h
noncomputable def p_spec_l00Src_text.code : Code := (Tryz.f38.body).getD .skip
theorem p_spec_l00Src_text.call {s_0 : Addr} {list_1b : Option Addr} {list_1l list_1c : Nat} {Post : Value → Heap → Prop} {h : Heap} (H : p_spec_l00Src_text.S s_0 list_1b list_1l list_1c Post h) : CALL prg f_p_spec_l00Src_text #[.pointer (some s_0), .slice list_1b list_1l list_1c] Post h :=
  fn_call tau_ok mixed (c := p_spec_l00Src_text.code) (Λ := lookL []) Tryz.func38 (by kernel_rfl) (by kernel_rfl)
    (Rq.free (by kernel_rfl))
    (Eq.mp (by kernel_rfl) H)

def spec_A2Text.B4 (Post : Value → Heap → Prop) (N4 : (Addr × ByteArray × Int) → Heap → Prop) : Addr × ByteArray × Int → Heap → Prop
  | (s_5, out_6, k_7), h =>
    BIF ((decide ((0 : Int) < k_7))) (
    ALC ⟨[.string (⟨#[48]⟩ : ByteArray), .string (⟨#[55]⟩ : ByteArray), .string (⟨#[45, 49, 50]⟩ : ByteArray)]⟩ T_string (fun g7 h8 =>
    CALL prg f_p_spec_l00Src_text #[.pointer (some s_5), .slice (some ⟨g7, 0, none⟩) 3 3] (fun q9 h10 =>
    asS q9 fun s11 =>
    ((ByteArray.size (⟨#[112, 108, 97, 121, 32, 97, 32]⟩ : ByteArray) + ByteArray.size s11 : Nat) : Int) ≤ 9223372036854775807 ∧ (
    ((ByteArray.size ((⟨#[112, 108, 97, 121, 32, 97, 32]⟩ : ByteArray) ++ s11) + ByteArray.size (⟨#[32, 49, 47, 50, 32]⟩ : ByteArray) : Nat) : Int) ≤ 9223372036854775807 ∧ (
    CALL prg f_p_spec_l00Src_pick #[.pointer (some s_5), .int .i64 (40 : Int)] (fun q12 h13 =>
    asI .i64 q12 fun n14 =>
    CALL prg f_spec_Decimal #[.int .i64 n14] (fun q15 h16 =>
    asS q15 fun s17 =>
    ((ByteArray.size ((((⟨#[112, 108, 97, 121, 32, 97, 32]⟩ : ByteArray) ++ s11) ++ (⟨#[32, 49, 47, 50, 32]⟩ : ByteArray))) + ByteArray.size s17 : Nat) : Int) ≤ 9223372036854775807 ∧ (
    ((ByteArray.size (((((⟨#[112, 108, 97, 121, 32, 97, 32]⟩ : ByteArray) ++ s11) ++ (⟨#[32, 49, 47, 50, 32]⟩ : ByteArray)) ++ s17)) + ByteArray.size (⟨#[10, 119, 97, 105, 116, 32]⟩ : ByteArray) : Nat) : Int) ≤ 9223372036854775807 ∧ (
    CALL prg f_p_spec_l00Src_pick #[.pointer (some s_5), .int .i64 (20 : Int)] (fun q18 h19 =>
    asI .i64 q18 fun n20 =>
    CALL prg f_spec_Decimal #[.int .i64 n20] (fun q21 h22 =>
    asS q21 fun s23 =>
    ((ByteArray.size ((((((⟨#[112, 108, 97, 121, 32, 97, 32]⟩ : ByteArray) ++ s11) ++ (⟨#[32, 49, 47, 50, 32]⟩ : ByteArray)) ++ s17) ++ (⟨#[10, 119, 97, 105, 116, 32]⟩ : ByteArray))) + ByteArray.size s23 : Nat) : Int) ≤ 9223372036854775807 ∧ (
    ((ByteArray.size (((((((⟨#[112, 108, 97, 121, 32, 97, 32]⟩ : ByteArray) ++ s11) ++ (⟨#[32, 49, 47, 50, 32]⟩ : ByteArray)) ++ s17) ++ (⟨#[10, 119, 97, 105, 116, 32]⟩ : ByteArray)) ++ s23)) + ByteArray.size (⟨#[10]⟩ : ByteArray) : Nat) : Int) ≤ 9223372036854775807 ∧ (
    ((ByteArray.size out_6 + ByteArray.size ((((((((⟨#[112, 108, 97, 121, 32, 97, 32]⟩ : ByteArray) ++ s11) ++ (⟨#[32, 49, 47, 50, 32]⟩ : ByteArray)) ++ s17) ++ (⟨#[10, 119, 97, 105, 116, 32]⟩ : ByteArray)) ++ s23) ++ (⟨#[10]⟩ : ByteArray))) : Nat) : Int) ≤ 9223372036854775807 ∧ (
    N4 (s_5, ((out_6 ++ (((((((⟨#[112, 108, 97, 121, 32, 97, 32]⟩ : ByteArray) ++ s11) ++ (⟨#[32, 49, 47, 50, 32]⟩ : ByteArray)) ++ s17) ++ (⟨#[10, 119, 97, 105, 116, 32]⟩ : ByteArray)) ++ s23) ++ (⟨#[10]⟩ : ByteArray)))), ((IntKind.i64.wrap (k_7 - (1 : Int))))) h22)))) h19) h16))) h13) h10))) h8) h) (
    Post (.string out_6) h)
def spec_A2Text.g4 (fr : Frame) : Addr × ByteArray × Int := ((gP (lget fr 5)), (gS (lget fr 6)), (gI (lget fr 7)))
def spec_A2Text.l4 (Post : Value → Heap → Prop) : Frame → Heap → Prop := fun fr h => GRD (shape (kds 36 [(5, .p), (6, .s), (7, .i .i64)]) fr) (LOOP (spec_A2Text.B4 Post) (spec_A2Text.g4 fr) h)
def spec_A2Text.S (code_0b : Option Addr) (code_0l code_0c : Nat) (most_1 : Int) (Post : Value → Heap → Prop) (h : Heap) : Prop :=
    CALL prg f_spec_l00From #[.slice code_0b code_0l code_0c] (fun q1 h2 =>
    asP q1 fun p3 =>
    CALL prg f_p_spec_l00Src_pick #[.pointer (some p3), .int .i64 ((IntKind.i64.wrap (most_1 + (1 : Int))))] (fun q4 h5 =>
    asI .i64 q4 fun n6 =>
    LOOP (spec_A2Text.B4 Post) (p3, (⟨#[]⟩ : ByteArray), n6) h5) h2) h
noncomputable def spec_A2Text.code : Code := (Tryz.f11.body).getD .skip
theorem spec_A2Text.call {code_0b : Option Addr} {code_0l code_0c : Nat} {most_1 : Int} {Post : Value → Heap → Prop} {h : Heap} (H : spec_A2Text.S code_0b code_0l code_0c most_1 Post h) : CALL prg f_spec_A2Text #[.slice code_0b code_0l code_0c, .int .i64 most_1] Post h :=
  fn_call tau_ok mixed (c := spec_A2Text.code) (Λ := lookL [(1000004, spec_A2Text.l4 Post)]) Tryz.func11 (by kernel_rfl) (by kernel_rfl)
    (Rq.seq (by kernel_rfl) (Rq.free (by kernel_rfl)) (Rq.seq (by kernel_rfl) (Rq.free (by kernel_rfl)) (Rq.seq (by kernel_rfl) (Rq.free (by kernel_rfl)) (Rq.seq (by kernel_rfl) (Rq.seq (by kernel_rfl) (Rq.free (by kernel_rfl)) (Rq.block (Rq.loop (spec_A2Text.l4 Post) (by kernel_rfl) (segL (g := spec_A2Text.g4) tau_ok mixed (Λ := fun N4 => lookL []) (fun _ _ _ => by kernel_rfl) (fun N4 => (Rq.free (by kernel_rfl))))))) (Rq.free (by kernel_rfl))))))
    (Eq.mp (by kernel_rfl) H)

end Go.Sx
/- What functions of this seat's program compute, told in words (a predicate over heaps for each), and the proofs that the words are no more than the code's own weakest precondition. -/
namespace Go.Sx
open Go.Proofs
set_option linter.unusedVariables false
set_option maxRecDepth 100000

def impl_ReadFraction.S (text_0 : ByteArray) (Post : Value → Heap → Prop) (h : Heap) : Prop :=
    CALL prg f_impl_readFraction #[.string text_0] (fun q1 h2 =>
    TUP2 q1 fun q3 q4 =>
    asF .f32 q3 fun r5 =>
    asB q4 fun b6 =>
    BIF (!b6) (
    Post (.tuple ⟨[.float .f32 0, .int .i64 (5 : Int)]⟩) h2) (
    Post (.tuple ⟨[.float .f32 r5, .int .i64 (0 : Int)]⟩) h2)) h
noncomputable def impl_ReadFraction.code : Code := (Tryz.f13.body).getD .skip
theorem impl_ReadFraction.call {text_0 : ByteArray} {Post : Value → Heap → Prop} {h : Heap} (H : impl_ReadFraction.S text_0 Post h) : CALL prg f_impl_ReadFraction #[.string text_0] Post h :=
  fn_call tau_ok mixed (c := impl_ReadFraction.code) (Λ := lookL []) Tryz.func13 (by kernel_rfl) (by kernel_rfl)
    (Rq.free (by kernel_rfl))
    (Eq.mp (by kernel_rfl) H)

def laws_FnCompileErrors.J17 (Post : Value → Heap → Prop) (more_1b : Option Addr) (more_1l : Nat) (more_1c : Nat) (h : Heap) : Prop :=
    CALL prg f_spec_A2Digit #[.slice more_1b more_1l more_1c, .int .i64 (0 : Int), .int .i64 (256 : Int)] (fun q42 h43 =>
    asI .i64 q42 fun n44 =>
    CALL prg f_spec_A2Digit #[.slice more_1b more_1l more_1c, .int .i64 (1 : Int), .int .i64 (10 : Int)] (fun q45 h46 =>
    asI .i64 q45 fun n47 =>
    NN ((IntKind.u64.wrap ((IntKind.i64.wrap ((1 : Int) + n47))))) <|
    CALL prg f_spec_Decimal #[.int .i64 n44] (fun q48 h49 =>
    asS q48 fun s50 =>
    ((ByteArray.size (⟨#[45]⟩ : ByteArray) + ByteArray.size s50 : Nat) : Int) ≤ 9223372036854775807 ∧ (
    ((ByteArray.size ((⟨#[45]⟩ : ByteArray) ++ s50) + ByteArray.size (⟨#[47]⟩ : ByteArray) : Nat) : Int) ≤ 9223372036854775807 ∧ (
    CALL prg f_spec_Decimal #[.int .i64 ((shlI .i64 (1 : Int) ((IntKind.u64.wrap ((IntKind.i64.wrap ((1 : Int) + n47)))))))] (fun q51 h52 =>
    asS q51 fun s53 =>
    ((ByteArray.size ((((⟨#[45]⟩ : ByteArray) ++ s50) ++ (⟨#[47]⟩ : ByteArray))) + ByteArray.size s53 : Nat) : Int) ≤ 9223372036854775807 ∧ (
    CALL prg f_impl_ReadFraction #[.string (((((⟨#[45]⟩ : ByteArray) ++ s50) ++ (⟨#[47]⟩ : ByteArray)) ++ s53))] (fun q54 h55 =>
    TUP2 q54 fun q56 q57 =>
    asF .f32 q56 fun r58 =>
    asI .i64 q57 fun n59 =>
    CALL prg f_spec_Decimal #[.int .i64 n44] (fun q60 h61 =>
    asS q60 fun s62 =>
    ((ByteArray.size s62 + ByteArray.size (⟨#[47]⟩ : ByteArray) : Nat) : Int) ≤ 9223372036854775807 ∧ (
    CALL prg f_spec_Decimal #[.int .i64 ((IntKind.i64.wrap ((shlI .i64 (1 : Int) ((IntKind.u64.wrap ((IntKind.i64.wrap ((1 : Int) + n47)))))) + (1 : Int))))] (fun q63 h64 =>
    asS q63 fun s65 =>
    ((ByteArray.size (s62 ++ (⟨#[47]⟩ : ByteArray)) + ByteArray.size s65 : Nat) : Int) ≤ 9223372036854775807 ∧ (
    CALL prg f_impl_ReadFraction #[.string (((s62 ++ (⟨#[47]⟩ : ByteArray)) ++ s65))] (fun q66 h67 =>
    TUP2 q66 fun q68 q69 =>
    asF .f32 q68 fun r70 =>
    asI .i64 q69 fun n71 =>
    BIF (n59 == (0 : Int)) (
    FOP .f32 (FloatKind.f32.format.mul r58 ((FloatKind.f32.nearest ((shlI .i64 (1 : Int) ((IntKind.u64.wrap ((IntKind.i64.wrap ((1 : Int) + n47)))))))))) fun r72 =>
    BIF ((FloatKind.f32.format.order r72 (Op.negFloat .f32 (FloatKind.f32.nearest n44)) == some .eq)) (
    Post (.bool (n71 == (5 : Int))) h67) (
    Post (.bool false) h67)) (
    Post (.bool false) h67)) h64)) h61)) h55) h52)) h49))) h46) h43) h
def laws_FnCompileErrors.j17 (Post : Value → Heap → Prop) : Frame → Heap → Prop := fun fr h => GRD (shape (kds 149 [(1, .l)]) fr) (laws_FnCompileErrors.J17 Post (gLb (lget fr 1)) (gLl (lget fr 1)) (gLc (lget fr 1)) h)
def laws_FnCompileErrors.J15 (Post : Value → Heap → Prop) (more_1b : Option Addr) (more_1l : Nat) (more_1c : Nat) (lines_6 : Int) (none_15 : Int) (three_16 : Int) (h : Heap) : Prop :=
    BIF ((decide ((0 : Int) < lines_6))) (
    BIF (three_16 != (6 : Int)) (
    Post (.bool false) h) (
    BIF (none_15 != (0 : Int)) (
    Post (.bool false) h) (
    BIF (lines_6 == (0 : Int)) (
    BIF (three_16 != (4 : Int)) (
    Post (.bool false) h) (
    BIF (none_15 != (0 : Int)) (
    Post (.bool false) h) (
    laws_FnCompileErrors.J17 Post more_1b more_1l more_1c h))) (
    laws_FnCompileErrors.J17 Post more_1b more_1l more_1c h)))) (
    BIF (lines_6 == (0 : Int)) (
    BIF (three_16 != (4 : Int)) (
    Post (.bool false) h) (
    BIF (none_15 != (0 : Int)) (
    Post (.bool false) h) (
    laws_FnCompileErrors.J17 Post more_1b more_1l more_1c h))) (
    laws_FnCompileErrors.J17 Post more_1b more_1l more_1c h))
def laws_FnCompileErrors.j15 (Post : Value → Heap → Prop) : Frame → Heap → Prop := fun fr h => GRD (shape (kds 149 [(1, .l), (6, .i .i64), (15, .i .i64), (16, .i .i64)]) fr) (laws_FnCompileErrors.J15 Post (gLb (lget fr 1)) (gLl (lget fr 1)) (gLc (lget fr 1)) (gI (lget fr 6)) (gI (lget fr 15)) (gI (lget fr 16)) h)
def laws_FnCompileErrors.B6 (Post : Value → Heap → Prop) (N6 : (Option Addr × Nat × Nat × ByteArray × Int × Int) → Heap → Prop) : Option Addr × Nat × Nat × ByteArray × Int × Int → Heap → Prop
  | (more_1b, more_1l, more_1c, body_5, lines_6, i_7), h =>
    BIF ((decide (i_7 < ((ByteArray.size body_5) : Int)))) (
    IDX i_7 (ByteArray.size body_5) <|
    BIF ((byteAt body_5 i_7) == (10 : Int)) (
    N6 (more_1b, more_1l, more_1c, body_5, ((IntKind.i64.wrap (lines_6 + (1 : Int)))), ((IntKind.i64.wrap (i_7 + (1 : Int))))) h) (
    N6 (more_1b, more_1l, more_1c, body_5, lines_6, ((IntKind.i64.wrap (i_7 + (1 : Int))))) h)) (
    ((ByteArray.size (⟨#[115, 116, 114, 105, 110, 103, 32, 97, 32, 48, 32, 48, 32, 48, 10]⟩ : ByteArray) + ByteArray.size body_5 : Nat) : Int) ≤ 9223372036854775807 ∧ (
    ((ByteArray.size ((⟨#[115, 116, 114, 105, 110, 103, 32, 97, 32, 48, 32, 48, 32, 48, 10]⟩ : ByteArray) ++ body_5) + ByteArray.size (⟨#[119, 104, 97, 116, 32, 105, 115, 32, 116, 104, 105, 115, 10]⟩ : ByteArray) : Nat) : Int) ≤ 9223372036854775807 ∧ (
    ((ByteArray.size ((((⟨#[115, 116, 114, 105, 110, 103, 32, 97, 32, 48, 32, 48, 32, 48, 10]⟩ : ByteArray) ++ body_5) ++ (⟨#[119, 104, 97, 116, 32, 105, 115, 32, 116, 104, 105, 115, 10]⟩ : ByteArray))) + ByteArray.size body_5 : Nat) : Int) ≤ 9223372036854775807 ∧ (
    CALL prg f_impl_CompileScore #[.string (((((⟨#[115, 116, 114, 105, 110, 103, 32, 97, 32, 48, 32, 48, 32, 48, 10]⟩ : ByteArray) ++ body_5) ++ (⟨#[119, 104, 97, 116, 32, 105, 115, 32, 116, 104, 105, 115, 10]⟩ : ByteArray)) ++ body_5))] (fun q9 h10 =>
    TUP3 q9 fun q11 q12 q13 =>
    asA q11 fun a14 =>
    asI .i64 q12 fun n15 =>
    asI .i64 q13 fun n16 =>
    ALC ⟨Z_impl_Score⟩ T_impl_Score (fun g17 h18 =>
    STA 6 h18 ⟨g17, 0, none⟩ a14 fun h19 =>
    ((ByteArray.size (⟨#[115, 116, 114, 105, 110, 103, 32, 97, 32, 48, 32, 48, 32, 48, 10, 114, 101, 112, 101, 97, 116, 32, 49, 10]⟩ : ByteArray) + ByteArray.size body_5 : Nat) : Int) ≤ 9223372036854775807 ∧ (
    CALL prg f_impl_CompileScore #[.string ((⟨#[115, 116, 114, 105, 110, 103, 32, 97, 32, 48, 32, 48, 32, 48, 10, 114, 101, 112, 101, 97, 116, 32, 49, 10]⟩ : ByteArray) ++ body_5)] (fun q20 h21 =>
    TUP3 q20 fun q22 q23 q24 =>
    asA q22 fun a25 =>
    asI .i64 q23 fun n26 =>
    asI .i64 q24 fun n27 =>
    ALC ⟨Z_impl_Score⟩ T_impl_Score (fun g28 h29 =>
    STA 6 h29 ⟨g28, 0, none⟩ a25 fun h30 =>
    ((ByteArray.size body_5 + ByteArray.size (⟨#[101, 110, 100, 10]⟩ : ByteArray) : Nat) : Int) ≤ 9223372036854775807 ∧ (
    CALL prg f_impl_CompileScore #[.string (body_5 ++ (⟨#[101, 110, 100, 10]⟩ : ByteArray))] (fun q31 h32 =>
    TUP3 q31 fun q33 q34 q35 =>
    asA q33 fun a36 =>
    asI .i64 q34 fun n37 =>
    asI .i64 q35 fun n38 =>
    ALC ⟨Z_impl_Score⟩ T_impl_Score (fun g39 h40 =>
    STA 6 h40 ⟨g39, 0, none⟩ a36 fun h41 =>
    BIF (n16 != (5 : Int)) (
    Post (.bool false) h41) (
    BIF ((n15 != (IntKind.i64.wrap (lines_6 + (1 : Int))))) (
    Post (.bool false) h41) (
    BIF (n27 != (4 : Int)) (
    Post (.bool false) h41) (
    BIF ((n26 != (IntKind.i64.wrap (lines_6 + (2 : Int))))) (
    Post (.bool false) h41) (
    laws_FnCompileErrors.J15 Post more_1b more_1l more_1c lines_6 n37 n38 h41))))) h32) h30)) h21) h19)) h10) h))))
def laws_FnCompileErrors.g6 (fr : Frame) : Option Addr × Nat × Nat × ByteArray × Int × Int := ((gLb (lget fr 1)), (gLl (lget fr 1)), (gLc (lget fr 1)), (gS (lget fr 5)), (gI (lget fr 6)), (gI (lget fr 7)))
def laws_FnCompileErrors.l6 (Post : Value → Heap → Prop) : Frame → Heap → Prop := fun fr h => GRD (shape (kds 149 [(1, .l), (5, .s), (6, .i .i64), (7, .i .i64)]) fr) (LOOP (laws_FnCompileErrors.B6 Post) (laws_FnCompileErrors.g6 fr) h)
def laws_FnCompileErrors.S (code_0b : Option Addr) (code_0l code_0c : Nat) (more_1b : Option Addr) (more_1l more_1c : Nat) (Post : Value → Heap → Prop) (h : Heap) : Prop :=
    CALL prg f_laws_a2Long #[.slice code_0b code_0l code_0c, .slice more_1b more_1l more_1c] (fun q1 h2 =>
    asB q1 fun b3 =>
    BIF b3 (
    Post (.bool true) h2) (
    CALL prg f_spec_A2Text #[.slice code_0b code_0l code_0c, .int .i64 (4 : Int)] (fun q4 h5 =>
    asS q4 fun s6 =>
    LOOP (laws_FnCompileErrors.B6 Post) (more_1b, more_1l, more_1c, s6, (0 : Int), (0 : Int)) h5) h2)) h
noncomputable def laws_FnCompileErrors.code : Code := (Tryz.f4.body).getD .skip
theorem laws_FnCompileErrors.call {code_0b : Option Addr} {code_0l code_0c : Nat} {more_1b : Option Addr} {more_1l more_1c : Nat} {Post : Value → Heap → Prop} {h : Heap} (H : laws_FnCompileErrors.S code_0b code_0l code_0c more_1b more_1l more_1c Post h) : CALL prg f_laws_FnCompileErrors #[.slice code_0b code_0l code_0c, .slice more_1b more_1l more_1c] Post h :=
  fn_call tau_ok mixed (c := laws_FnCompileErrors.code) (Λ := lookL [(1000006, laws_FnCompileErrors.l6 Post), (15, laws_FnCompileErrors.j15 Post), (17, laws_FnCompileErrors.j17 Post)]) Tryz.func4 (by kernel_rfl) (by kernel_rfl)
    (Rq.seq (by kernel_rfl) (Rq.free (by kernel_rfl)) (Rq.seq (by kernel_rfl) (Rq.free (by kernel_rfl)) (Rq.seq (by kernel_rfl) (Rq.free (by kernel_rfl)) (Rq.seq (by kernel_rfl) (Rq.free (by kernel_rfl)) (Rq.seq (by kernel_rfl) (Rq.seq (by kernel_rfl) (Rq.free (by kernel_rfl)) (Rq.block (Rq.loop (laws_FnCompileErrors.l6 Post) (by kernel_rfl) (segL (g := laws_FnCompileErrors.g6) tau_ok mixed (Λ := fun N6 => lookL []) (fun _ _ _ => by kernel_rfl) (fun N6 => (Rq.free (by kernel_rfl))))))) (Rq.seq (by kernel_rfl) (Rq.free (by kernel_rfl)) (Rq.seq (by kernel_rfl) (Rq.free (by kernel_rfl)) (Rq.seq (by kernel_rfl) (Rq.free (by kernel_rfl)) (Rq.seqJ (laws_FnCompileErrors.j15 Post) (by kernel_rfl) (seg (fun _ _ => by kernel_rfl)) (Rq.free (by kernel_rfl))
(Rq.seqJ (laws_FnCompileErrors.j17 Post) (by kernel_rfl) (seg (fun _ _ => by kernel_rfl)) (Rq.free (by kernel_rfl))
(Rq.free (by kernel_rfl))))))))))))
    (Eq.mp (by kernel_rfl) H)

end Go.Sx
