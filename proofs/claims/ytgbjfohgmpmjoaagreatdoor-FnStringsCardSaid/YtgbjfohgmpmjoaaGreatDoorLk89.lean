/- A silent string: no step to silence. -/
import Derived.Test.YtgbjfohgmpmjoaaGreatDoorSP
import Derived.Test.YtgbjfohgmpmjoaaGreatDoorLp6
import Derived.Test.YtgbjfohgmpmjoaaGreatDoorLk4
import Derived.Test.YtgbjfohgmpmjoaaGreatDoorLdr
import Derived.Test.YtgbjfohgmpmjoaaGreatDoorLk21
import Derived.Test.YtgbjfohgmpmjoaaGreatDoorLk59
import Derived.Test.YtgbjfohgmpmjoaaGreatDoorTab
import Derived.Test.YtgbjfohgmpmjoaaGreatDoorLvk
set_option linter.unusedVariables false
set_option linter.unusedSimpArgs false
namespace Go.Sx
open Go.Proofs
set_option maxRecDepth 100000
set_option maxHeartbeats 1000000

theorem str_nil {x : GString} (h : x.ok = true) : x.mute.silent = true ∧ x.mute.ok = true := by
  have hl := str_loop h
  unfold GString.ok at *
  rw [Bool.and_eq_true, Bool.and_eq_true, Bool.and_eq_true] at *
  obtain ⟨⟨⟨h1, h2⟩, h3⟩, h4⟩ := h
  have r1 := rest_mute h2
  have r2 := rest_mute h3
  have hz : x.Loop.mute.zero = true := by
    unfold GRing.zero GRing.mute
    rw [List.all_eq_true]
    intro a ha
    have ha := List.eq_of_mem_replicate ha
    subst ha
    decide +kernel
  refine ⟨?_, ?_, ?_⟩
  · unfold GString.silent
    rw [Bool.and_eq_true, Bool.and_eq_true]
    exact ⟨⟨hz, rest_still r1⟩, rest_still r2⟩
  · rw [Bool.and_eq_true, Bool.and_eq_true]
    have m2 := mute_ok1 h2
    have m3 := mute_ok1 h3
    rw [Bool.and_eq_true] at m2 m3
    refine ⟨⟨?_, m2⟩, m3⟩
    show (x.Loop.mute).ok = true
    unfold GRing.ok GRing.len GRing.mute at *
    dsimp only
    rw [List.length_replicate]
    exact h1
  · exact h4
section
variable {h0 h : Heap} {x : GString} {cs : Array Value}
theorem still_c {g : Nat} (R : RdP rString h ⟨g, 0, none⟩ x) : CALL prg f_impl_StepsToSilence_c1 #[.pointer (some ⟨g, 0, none⟩)] (fun u h' => u = .bool (x.Tune.still && x.Damp.still) ∧ Ext h h') h := by
  refine impl_StepsToSilence_c1.call (R.lda foc_String_Tune rfl fun c1 R1 => goX (Filter_isStill_c R1) fun h1 x1 => as_b (br (fun b1 => ?_) fun b1 => ⟨by rw [b1]; rfl, x1⟩))
  exact (R.ext x1).lda foc_String_Damp rfl fun c2 R2 => goX (Filter_isStill_c R2) fun h2 x2 => as_b ⟨by rw [b1]; rfl, x1.trans x2⟩
theorem steps0_c {g1 g15 : Nat} {B : List Blk} (O : rString.ow B cs.toList x) (hok : x.ok = true) (hs : x.silent = true) (M : Mem h0 h ((g15, T_p_impl_Ring, ⟨[.pointer (some ⟨g1, 0, none⟩)]⟩) :: (g1, T_impl_String, cs) :: B)) :
    CALL prg f_impl_steps #[.int .i64 0, .slice (some ⟨g15, 0, none⟩) 1 1, .func (.func f_impl_StepsToSilence_c1) #[] #[.pointer (some ⟨g1, 0, none⟩)], .func (.func f_impl_StepsToSilence_c2) #[] #[.pointer (some ⟨g1, 0, none⟩)]] (fun u h' => u = .tuple ⟨[.int .i64 0, .int .i64 0]⟩ ∧ Ext h0 h') h := by
  have z0 : (rI .i64).ow [] [.int .i64 0] 0 := ⟨rfl, rfl⟩
  have hl := str_loop hok
  have k : x.Loop.zero = true ∧ (x.Tune.still && x.Damp.still) = true := by
    unfold GString.silent at hs
    simp only [Bool.and_eq_true] at hs ⊢
    exact ⟨hs.1.1, hs.1.2, hs.2⟩
  have hq := (quiet_zero hl).2 k.1
  refine impl_steps.call (make_sl (n := 1) z0 rfl rfl (by decide) (Mem.start h) (by decide) (by decide) fun gr h1 x1 N _ => ?_)
  have M : Mem h0 h1 ((gr, T_int64, ⟨[.int .i64 0]⟩) :: (g15, T_p_impl_Ring, ⟨[.pointer (some ⟨g1, 0, none⟩)]⟩) :: (g1, T_impl_String, cs) :: B) := M.join N
  have ptr : ∀ {hh : Heap} {rs : Array Value}, Mem h0 hh ((gr, T_int64, rs) :: (g15, T_p_impl_Ring, ⟨[.pointer (some ⟨g1, 0, none⟩)]⟩) :: (g1, T_impl_String, cs) :: B) → cell hh ((⟨g15, 0, none⟩ : Addr).add ((Int.toNat ((0 : Nat) : Int)) * 1)) = some (.pointer (some ⟨g1, 0, none⟩)) := fun M => by
    rw [add_none, M.cell (.there .here)]; rfl
  have rd : ∀ {hh : Heap} {rs : Array Value}, Mem h0 hh ((gr, T_int64, rs) :: (g15, T_p_impl_Ring, ⟨[.pointer (some ⟨g1, 0, none⟩)]⟩) :: (g1, T_impl_String, cs) :: B) → RdP rString hh ⟨g1, 0, none⟩ x := fun M =>
    M.rdp (.there (.there .here)) (rString.look O M ((List.sublist_cons_self _ _).trans ((List.sublist_cons_self _ _).trans (List.sublist_cons_self _ _))))
  refine loop (fun y hh => ∃ n : Nat, y = (0, some ⟨g15, 0, none⟩, 1, 1, .func (.func f_impl_StepsToSilence_c1) #[] #[.pointer (some ⟨g1, 0, none⟩)], .func (.func f_impl_StepsToSilence_c2) #[] #[.pointer (some ⟨g1, 0, none⟩)], some ⟨gr, 0, none⟩, 1, 1, some ⟨g15, 0, none⟩, 1, 1, ((1 : Nat) : Int), (n : Int)) ∧ n ≤ 1 ∧
    Mem h0 hh ((gr, T_int64, ⟨[.int .i64 (if n = 0 then 0 else (x.Loop.quiet : Int))]⟩) :: (g15, T_p_impl_Ring, ⟨[.pointer (some ⟨g1, 0, none⟩)]⟩) :: (g1, T_impl_String, cs) :: B)) (fun y => (1 - y.2.2.2.2.2.2.2.2.2.2.2.2.2).toNat) ⟨0, rfl, by omega, M⟩ ?_
  clear M
  rintro y hh ⟨n, rfl, hn, M⟩
  refine brd (fun hc => ?_) fun hc => ?_
  · obtain rfl : n = 0 := by omega
    refine idxs (by omega) (by omega) (o_p (ptr M) (((rd M).fst foc_String_Loop).lda1 rfl fun c1 R1 => goM M (Ring_quiet_c R1 hl) fun h2 M => as_i (idxs (by omega) (by omega) ?_)))
    rw [add_none]
    exact M.st1 .here (show 0 + 0 * 1 < 1 by decide) .here fun h3 M => ⟨⟨1, by rw [wrap64 (by omega) (by omega)]; rfl, by omega, M⟩, by rw [wrap64 (by omega) (by omega)]; show ((1 : Int) - (((0 : Nat) : Int) + 1)).toNat < ((1 : Int) - ((0 : Nat) : Int)).toNat; decide⟩
  obtain rfl : n = 1 := by omega
  have M : Mem h0 hh ((gr, T_int64, ⟨[.int .i64 (x.Loop.quiet : Int)]⟩) :: (g15, T_p_impl_Ring, ⟨[.pointer (some ⟨g1, 0, none⟩)]⟩) :: (g1, T_impl_String, cs) :: B) := M
  refine loop (fun y hh => ∃ m : Nat, y = (0, some ⟨g15, 0, none⟩, 1, 1, .func (.func f_impl_StepsToSilence_c1) #[] #[.pointer (some ⟨g1, 0, none⟩)], .func (.func f_impl_StepsToSilence_c2) #[] #[.pointer (some ⟨g1, 0, none⟩)], some ⟨gr, 0, none⟩, 1, 1, (m : Int)) ∧ m = 0 ∧
    Mem h0 hh ((gr, T_int64, ⟨[.int .i64 (x.Loop.quiet : Int)]⟩) :: (g15, T_p_impl_Ring, ⟨[.pointer (some ⟨g1, 0, none⟩)]⟩) :: (g1, T_impl_String, cs) :: B)) (fun y => 0) ⟨0, rfl, rfl, M⟩ ?_
  clear M
  rintro y hh ⟨m, rfl, hm0, M⟩
  refine brd (fun hc => ?_) fun hc => by omega
  show CALL prg f_impl_StepsToSilence_c1 #[.pointer (some ⟨g1, 0, none⟩)] _ hh
  refine goM M (still_c (rd M)) fun h2 M => as_b ?_
  rw [k.2]
  refine loop (fun y hh => ∃ n : Nat, y = (0, some ⟨g15, 0, none⟩, 1, 1, .func (.func f_impl_StepsToSilence_c1) #[] #[.pointer (some ⟨g1, 0, none⟩)], .func (.func f_impl_StepsToSilence_c2) #[] #[.pointer (some ⟨g1, 0, none⟩)], some ⟨gr, 0, none⟩, 1, 1, (m : Int), true, some ⟨g15, 0, none⟩, 1, 1, ((1 : Nat) : Int), (n : Int)) ∧ n ≤ 1 ∧
    Mem h0 hh ((gr, T_int64, ⟨[.int .i64 (x.Loop.quiet : Int)]⟩) :: (g15, T_p_impl_Ring, ⟨[.pointer (some ⟨g1, 0, none⟩)]⟩) :: (g1, T_impl_String, cs) :: B)) (fun y => (1 - y.2.2.2.2.2.2.2.2.2.2.2.2.2.2.2).toNat) ⟨0, rfl, by omega, M⟩ ?_
  clear M
  rintro y hh ⟨n, rfl, hn, M⟩
  refine brd (fun hc => ?_) fun hc => br_t rfl ⟨by rw [hm0]; rfl, M.ext⟩
  obtain rfl : n = 0 := by omega
  refine idxs (by omega) (by omega) (o_p (ptr M) (br_t rfl (idxs (by omega) (by omega) ?_)))
  have cr : ∀ {hh : Heap}, Mem h0 hh ((gr, T_int64, ⟨[.int .i64 (x.Loop.quiet : Int)]⟩) :: (g15, T_p_impl_Ring, ⟨[.pointer (some ⟨g1, 0, none⟩)]⟩) :: (g1, T_impl_String, cs) :: B) → cell hh ((⟨gr, 0, none⟩ : Addr).add ((Int.toNat ((0 : Nat) : Int)) * 1)) = some (.int .i64 (x.Loop.quiet : Int)) := fun M => by
    rw [add_none, M.cell .here]; rfl
  refine o_i (cr M) ((rd M).oL1 fun b3 l3 c3 S3 => goX (length_f32_c _ _ _ _) fun h9 x9 => as_i ?_)
  have hl3 : x.Loop.Samples.length = l3 := S3.len
  refine Sx.pin x9 (fun j hj => ⟨_, by obtain rfl : j = 0 := by omega
                                       rw [add0]; exact cr M⟩) ⟨⟨1, ?_, by omega, M.grow x9⟩, by rw [wrap64 (by omega) (by omega)]; show ((1 : Int) - (((0 : Nat) : Int) + 1)).toNat < ((1 : Int) - ((0 : Nat) : Int)).toNat; decide⟩
  rw [wrap64 (by omega) (by omega), hq, hl3]
  simp
theorem impl_StepsToSilence_c0 (R0 : rString.rd h cs.toList x) (hok : x.ok = true) (hs : x.silent = true) : CALL prg f_impl_StepsToSilence #[.agg cs, .int .i64 0] (fun u h' => u = .tuple ⟨[.int .i64 0, .int .i64 0]⟩ ∧ Ext h h') h := by
  refine impl_StepsToSilence.call ((Mem.start h).alc fun g1 h1 x1 M => M.lda0 .here (rsz R0 rfl) ?_)
  refine goM M (ValidString_c (rString.ext M.ext R0)) fun h3 M => as_b ?_
  rw [hok]
  refine br_f rfl (goM M (within_c _ _ _ _) fun h4 M => as_b (br_f (by decide) ?_))
  refine M.lda0 .here (rsz R0 rfl) (NewR.go M (String_clone_c (rString.ext M.ext R0) (str_small hok)) fun h5 c5 B5 M O5 s5 => as_a ?_)
  have M := M.cnt (W := (g1, T_impl_String, cs) :: (B5 ++ [])) (fun p => by simp only [cnt_app, cnt_cons, cnt_nil] at *; omega)
  refine M.sta0 .here s5 (rString.oone O5) (rsz R0 rfl) .here fun h6 M => M.alc fun g15 h7 x7 M => ?_
  have M : Mem h h7 ((g15, T_p_impl_Ring, ⟨[.pointer (some ⟨g1, 0, none⟩)]⟩) :: (g1, T_impl_String, c5) :: B5) := M.cnt fun p => by simp only [cnt_app, cnt_cons, cnt_nil]; omega
  refine (steps0_c O5 hok hs M).mono ?_
  rintro _ h8 ⟨rfl, X⟩
  exact tup2 (as_i (as_i ⟨rfl, X⟩))
end
end Go.Sx
/- A slice that is read, appended to an own one. -/
set_option linter.unusedVariables false
set_option linter.unusedSimpArgs false
namespace Go.Sx
section
variable {α : Type} {P : Program} {r : Rep α} {h0 h : Heap} {L : List Blk} {t e bytes ty : Nat} {b b2 : Option Addr} {l c l2 c2 : Nat} {xs ys : List α} {K : Value → Heap → Prop}
theorem app_slr {B : List Blk} (E : ElemT P t e r.sz bytes) (hz : 0 < r.sz) (hf : Flat r) (O : SlO e r B b l c xs) (S : SlR r h b2 l2 c2 ys) (M : Mem h0 h (B ++ L)) (hm : l + l2 ≤ maxLen) (hb : (l + l2) * bytes ≤ 140737488355328)
    (H : ∀ b' c' h' B', SlO e r B' b' (l + l2) c' (xs ++ ys) → Mem h0 h' (B' ++ L) → K (.slice b' (l + l2) c') h') : SEMV P (Builtin.append_ #[t, t] ty #[.slice b l c, .slice b2 l2 c2]) K h := by
  obtain ⟨h1, h2, h3, ws, C, R⟩ := S
  cases b2 with
  | some a => exact O.app (Bn := []) E (by simpa using M) h1 (flat_rds hf R) (fun j v hj => C.get hj) hm hb fun b' c' h' B' O' M' => H b' c' h' B' O' M'
  | none =>
    have hw : ws = [] := by
      cases ws with
      | nil => rfl
      | cons w ws => obtain ⟨a, e, _⟩ := C 0 (by simp); cases e
    subst hw
    have hx : ys.length * r.sz = 0 := by rw [← R.len]; rfl
    have hl : l2 = 0 := by
      rcases Nat.mul_eq_zero.1 hx with h | h <;> omega
    subst hl
    obtain rfl : ys = [] := List.eq_nil_of_length_eq_zero h1
    obtain ⟨i, z, hi, hz', e1, e2, hzs⟩ := E.hi
    have hlc : l ≤ c := by
      obtain ⟨_, _, _, _, _, O1, _⟩ := O
      exact O1.le
    have HH := H b c h B (by rw [List.append_nil]; exact O) M
    rw [Nat.add_zero] at HH
    refine semv fun w hw => ⟨.slice b l c, w, ?_, Same.refl _, by rw [hw]; exact HH⟩
    simp [Builtin.append_, run_underlying E.ht, sizeOf, typeInfo, hi, Builtin.lenOf, Builtin.firstCells, loadCells, loadCellsFrom, storeCells, hlc]
    cases b <;> rfl
end
end Go.Sx
/- New values kept in blocks, and what is read of them. -/
set_option linter.unusedVariables false
set_option linter.unusedSimpArgs false
namespace Go.Sx
open Go.Proofs
set_option maxRecDepth 100000
set_option maxHeartbeats 2000000

/-- Bytes that are read. -/
structure Reads (h : Heap) (cb mb : Option Addr) (code more : List Int) : Prop where
  c : Cells h cb (iv .u8 code)
  m : Cells h mb (iv .u8 more)
  bc : Byt' code
  bm : Byt' more
theorem Reads.ext {h h' : Heap} {cb mb : Option Addr} {code more : List Int} (G : Reads h cb mb code more) (X : Ext h h') : Reads h' cb mb code more := ⟨G.c.ext X, G.m.ext X, G.bc, G.bm⟩
theorem keepIn {α : Type} {r : Rep α} {h hh : Heap} {B W : List Blk} {cs Z : Array Value} {x : α} {T n : Nat} {F : Nat → Heap → Prop} (O : r.ow B cs.toList x) (hn : r.sz = n) (hz : Z.size = n) (M : Mem h hh W) (H : ∀ g h2, Mem h h2 ((g, T, cs) :: W) → F g h2) : ALC Z T (fun g h1 => STA n h1 ⟨g, 0, none⟩ cs fun h2 => F g h2) hh :=
  M.alc fun g h1 _ M => M.sta0 .here (by rw [← hn]; simpa using r.olen O) (r.oone O) hz .here fun h2 M => H g h2 M
theorem keepR {α : Type} {r : Rep α} {h hh : Heap} {B : List Blk} {cs Z : Array Value} {x : α} {T n : Nat} {F : Nat → Heap → Prop} (O : r.ow B cs.toList x) (hn : r.sz = n) (hz : Z.size = n) (M : Mem h hh B) (H : ∀ g h2, Ext h h2 → RdP r h2 ⟨g, 0, none⟩ x → F g h2) : ALC Z T (fun g h1 => STA n h1 ⟨g, 0, none⟩ cs fun h2 => F g h2) hh :=
  keepIn O hn hz M fun g h2 M => H g h2 M.ext (M.rdp .here (r.look O M (List.sublist_cons_self _ _)))
/-- A thing kept, beside a slice of floats. -/
theorem keepS {α : Type} {r : Rep α} {h hh : Heap} {B C : List Blk} {cs Z : Array Value} {x : α} {T n : Nat} {b : Option Addr} {l c : Nat} {ys : List Nat} {F : Nat → Heap → Prop} (O : r.ow B cs.toList x) (S : SlO T_float32 (rF .f32) C b l c ys) (hn : r.sz = n) (hz : Z.size = n) (M : Mem h hh (B ++ C)) (H : ∀ g h2, Ext h h2 → RdP r h2 ⟨g, 0, none⟩ x → SlR (rF .f32) h2 b l c ys → F g h2) : ALC Z T (fun g h1 => STA n h1 ⟨g, 0, none⟩ cs fun h2 => F g h2) hh :=
  keepIn O hn hz M fun g h2 M => H g h2 M.ext (M.rdp .here (r.look O M ((List.sublist_append_left _ _).trans (List.sublist_cons_self _ _)))) (S.look M ((List.sublist_append_right _ _).trans (List.sublist_cons_self _ _)))
abbrev TB2 (h : Heap) : Value → Heap → Prop := fun u h' => u = .bool true ∧ Ext h h'
end Go.Sx
/- Two things that are the same, looked at by a call. -/
set_option linter.unusedVariables false
namespace Go.Sx
open Go.Proofs
theorem same_t {α : Type} {a : α} {P : Program} {f : FuncId} {args : Array Value} {hh : Heap} {K : Value → Heap → Prop} (c : CALL P f args (fun u h' => u = .bool (same a a) ∧ Ext hh h') hh) (H : ∀ h', Ext hh h' → K (.bool true) h') : CALL P f args K hh :=
  goX c fun h' x => by rw [same_refl]; exact H h' x
end Go.Sx
/- Blocks and filters kept. -/
set_option linter.unusedVariables false
set_option linter.unusedSimpArgs false
namespace Go.Sx
open Go.Proofs
theorem out_get {α : Type} {st : α → Nat → α × Nat} {x : α} {xs : List Nat} (h : xs.length = 16) {i : Nat} (hi : i < 16) : (playG st x xs).2[i]! = outN st x xs i := by
  rw [← outN_all h, mapI_all (by decide), getElem!_pos _ i (by rw [List.length_map, List.length_range]; exact hi)]
  simp
abbrev rBlk : Rep (List Nat) := rArr 16 (rF .f32)
section
variable {h : Heap} {q : Addr} {xs : List Nat}
theorem RdP.ldB {K : Array Value → Prop} (R : RdP rBlk h q xs) (H : ∀ ca, FA 16 ca xs → K ca) : LDA 16 h q K := R.lda1 rfl fun c R1 => H c (FA.of R1)
theorem keepB {hh : Heap} {ca Z : Array Value} {F : Nat → Heap → Prop} (R : FA 16 ca xs) (hz : Z.size = 16) (H : ∀ g h2, Ext hh h2 → RdP rBlk h2 ⟨g, 0, none⟩ xs → F g h2) : ALC Z T_impl_Block (fun g h1 => STA 16 h1 ⟨g, 0, none⟩ ca fun h2 => F g h2) hh :=
  (Mem.start hh).alc fun g h1 _ M => M.sta0 .here R.size R.one hz .here fun h2 M => H g h2 M.ext (M.rdp .here (R.rd _))
theorem add1 (q : Addr) (i : Nat) : (q.add (Int.toNat (i : Int) * 1)) = q.add (i * (rF .f32).sz) := by rw [Int.toNat_natCast]; rfl
end
end Go.Sx
/- What functions of this seat's program compute, told in words (a predicate over heaps for each), and the proofs that the words are no more than the code's own weakest precondition. -/
namespace Go.Sx
open Go.Proofs
set_option linter.unusedVariables false
set_option maxRecDepth 100000

def laws_FnStrings.J11 (N8 : (Option Addr × Nat × Nat × Addr × Addr × Addr × Addr × Int × Addr × Int) → Heap → Prop) (Post : Value → Heap → Prop) (more_1b : Option Addr) (more_1l : Nat) (more_1c : Nat) (x_5 : Addr) (in_6 : Addr) (y_7 : Addr) (out_8 : Addr) (one_9 : Int) (z_10 : Addr) (i_11 : Int) (next_12 : Addr) (a_13 : Nat) (two_14 : Int) (h : Heap) : Prop :=
    BIF (two_14 != (0 : Int)) (
    Post (.bool false) h) (
    IDX i_11 16 <|
    oF .f32 (cell h ((Addr.add out_8 ((Int.toNat i_11) * 1)))) fun r69 =>
    CALL prg f_impl_SameSample #[.float .f32 a_13, .float .f32 r69] (fun q70 h71 =>
    asB q70 fun b72 =>
    BIF (!b72) (
    Post (.bool false) h71) (
    LDA 15 h71 next_12 fun a73 =>
    STA 15 h71 z_10 a73 fun h74 =>
    N8 (more_1b, more_1l, more_1c, x_5, in_6, y_7, out_8, one_9, z_10, ((IntKind.i64.wrap (i_11 + (1 : Int))))) h74)) h)
def laws_FnStrings.j11 (N8 : (Option Addr × Nat × Nat × Addr × Addr × Addr × Addr × Int × Addr × Int) → Heap → Prop) (Post : Value → Heap → Prop) : Frame → Heap → Prop := fun fr h => GRD (shape (kds 181 [(1, .l), (5, .p), (6, .p), (7, .p), (8, .p), (9, .i .i64), (10, .p), (11, .i .i64), (12, .p), (13, .f .f32), (14, .i .i64)]) fr) (laws_FnStrings.J11 N8 Post (gLb (lget fr 1)) (gLl (lget fr 1)) (gLc (lget fr 1)) (gP (lget fr 5)) (gP (lget fr 6)) (gP (lget fr 7)) (gP (lget fr 8)) (gI (lget fr 9)) (gP (lget fr 10)) (gI (lget fr 11)) (gP (lget fr 12)) (gF (lget fr 13)) (gI (lget fr 14)) h)
def laws_FnStrings.J22 (Post : Value → Heap → Prop) (x_5 : Addr) (h : Heap) : Prop :=
    LDA 15 h x_5 fun a130 =>
    CALL prg f_impl_StringText #[.agg a130] (fun q131 h132 =>
    asS q131 fun s133 =>
    CALL prg f_impl_ReadString #[.string s133] (fun q134 h135 =>
    TUP2 q134 fun q136 q137 =>
    asA q136 fun a138 =>
    asI .i64 q137 fun n139 =>
    ALC ⟨Z_impl_String⟩ T_impl_String (fun g140 h141 =>
    STA 15 h141 ⟨g140, 0, none⟩ a138 fun h142 =>
    LDA 15 h142 x_5 fun a143 =>
    CALL prg f_impl_MuteString #[.agg a143] (fun q144 h145 =>
    TUP2 q144 fun q146 q147 =>
    asA q146 fun a148 =>
    asI .i64 q147 fun n149 =>
    ALC ⟨Z_impl_String⟩ T_impl_String (fun g150 h151 =>
    STA 15 h151 ⟨g150, 0, none⟩ a148 fun h152 =>
    LDA 15 h152 ⟨g150, 0, none⟩ fun a153 =>
    CALL prg f_impl_IsSilentString #[.agg a153] (fun q154 h155 =>
    TUP2 q154 fun q156 q157 =>
    asB q156 fun b158 =>
    asI .i64 q157 fun n159 =>
    LDA 15 h155 ⟨g150, 0, none⟩ fun a160 =>
    CALL prg f_impl_StepsToSilence #[.agg a160, .int .i64 (0 : Int)] (fun q161 h162 =>
    TUP2 q161 fun q163 q164 =>
    asI .i64 q163 fun n165 =>
    asI .i64 q164 fun n166 =>
    BIF (n139 == (0 : Int)) (
    LDA 15 h162 ⟨g140, 0, none⟩ fun a167 =>
    LDA 15 h162 x_5 fun a168 =>
    CALL prg f_spec_SameString #[.agg a167, .agg a168] (fun q169 h170 =>
    asB q169 fun b171 =>
    BIF b171 (
    BIF (n149 == (0 : Int)) (
    BIF (n159 == (0 : Int)) (
    BIF b158 (
    BIF (n166 == (0 : Int)) (
    Post (.bool (n165 == (0 : Int))) h170) (
    Post (.bool false) h170)) (
    Post (.bool false) h170)) (
    Post (.bool false) h170)) (
    Post (.bool false) h170)) (
    Post (.bool false) h170)) h162) (
    Post (.bool false) h162)) h155) h152) h145) h142) h135) h132) h
def laws_FnStrings.j22 (Post : Value → Heap → Prop) : Frame → Heap → Prop := fun fr h => GRD (shape (kds 181 [(5, .p)]) fr) (laws_FnStrings.J22 Post (gP (lget fr 5)) h)
def laws_FnStrings.J16 (Post : Value → Heap → Prop) (more_1b : Option Addr) (more_1l : Nat) (more_1c : Nat) (x_5 : Addr) (h : Heap) : Prop :=
    CALL prg f_spec_A2Digit #[.slice more_1b more_1l more_1c, .int .i64 (0 : Int), .int .i64 (30 : Int)] (fun q75 h76 =>
    asI .i64 q75 fun n77 =>
    LDA 15 h76 x_5 fun a78 =>
    CALL prg f_impl_PlayString #[.agg a78, .int .i64 n77] (fun q79 h80 =>
    TUP3 q79 fun q81 q82 q83 =>
    asA q81 fun a84 =>
    asL q82 fun l85b l85l l85c =>
    asI .i64 q83 fun n86 =>
    ALC ⟨Z_impl_String⟩ T_impl_String (fun g87 h88 =>
    STA 15 h88 ⟨g87, 0, none⟩ a84 fun h89 =>
    LDA 15 h89 ⟨g87, 0, none⟩ fun a90 =>
    CALL prg f_impl_PlayString #[.agg a90, .int .i64 ((IntKind.i64.wrap ((30 : Int) - n77)))] (fun q91 h92 =>
    TUP3 q91 fun q93 q94 q95 =>
    asA q93 fun a96 =>
    asL q94 fun l97b l97l l97c =>
    asI .i64 q95 fun n98 =>
    ALC ⟨Z_impl_String⟩ T_impl_String (fun g99 h100 =>
    STA 15 h100 ⟨g99, 0, none⟩ a96 fun h101 =>
    LDA 15 h101 x_5 fun a102 =>
    CALL prg f_impl_PlayString #[.agg a102, .int .i64 (30 : Int)] (fun q103 h104 =>
    TUP3 q103 fun q105 q106 q107 =>
    asA q105 fun a108 =>
    asL q106 fun l109b l109l l109c =>
    asI .i64 q107 fun n110 =>
    ALC ⟨Z_impl_String⟩ T_impl_String (fun g111 h112 =>
    STA 15 h112 ⟨g111, 0, none⟩ a108 fun h113 =>
    BIF (n86 != (0 : Int)) (
    Post (.bool false) h113) (
    BIF (n98 != (0 : Int)) (
    Post (.bool false) h113) (
    BIF (n110 != (0 : Int)) (
    Post (.bool false) h113) (
    LDA 15 h113 ⟨g99, 0, none⟩ fun a114 =>
    LDA 15 h113 ⟨g111, 0, none⟩ fun a115 =>
    CALL prg f_spec_SameString #[.agg a114, .agg a115] (fun q116 h117 =>
    asB q116 fun b118 =>
    BIF (!b118) (
    Post (.bool false) h117) (
    ALC ⟨[]⟩ T_float32 (fun g119 h120 =>
    SEMV prg (Builtin.append_ #[T_sl_float32, T_sl_float32] T_sl_float32 #[.slice (some ⟨g119, 0, none⟩) 0 0, .slice l85b l85l l85c]) (fun q121 h122 =>
    asL q121 fun l123b l123l l123c =>
    SEMV prg (Builtin.append_ #[T_sl_float32, T_sl_float32] T_sl_float32 #[.slice l123b l123l l123c, .slice l97b l97l l97c]) (fun q124 h125 =>
    asL q124 fun l126b l126l l126c =>
    CALL prg f_spec_SameSamples #[.slice l126b l126l l126c, .slice l109b l109l l109c] (fun q127 h128 =>
    asB q127 fun b129 =>
    BIF (!b129) (
    Post (.bool false) h128) (
    laws_FnStrings.J22 Post x_5 h128)) h125) h122) h120) h117)) h113)))) h104) h101) h92) h89) h80) h76) h
def laws_FnStrings.j16 (Post : Value → Heap → Prop) : Frame → Heap → Prop := fun fr h => GRD (shape (kds 181 [(1, .l), (5, .p)]) fr) (laws_FnStrings.J16 Post (gLb (lget fr 1)) (gLl (lget fr 1)) (gLc (lget fr 1)) (gP (lget fr 5)) h)
def laws_FnStrings.B8 (Post : Value → Heap → Prop) (N8 : (Option Addr × Nat × Nat × Addr × Addr × Addr × Addr × Int × Addr × Int) → Heap → Prop) : Option Addr × Nat × Nat × Addr × Addr × Addr × Addr × Int × Addr × Int → Heap → Prop
  | (more_1b, more_1l, more_1c, x_5, in_6, y_7, out_8, one_9, z_10, i_11), h =>
    BIF ((decide (i_11 < (16 : Int)))) (
    LDA 15 h z_10 fun a36 =>
    IDX i_11 16 <|
    oF .f32 (cell h ((Addr.add in_6 ((Int.toNat i_11) * 1)))) fun r37 =>
    (CALL prg f_impl_StepString #[.agg a36, .float .f32 r37] (fun q38 h39 =>
    TUP3 q38 fun q40 q41 q42 =>
    asA q40 fun a43 =>
    asF .f32 q41 fun r44 =>
    asI .i64 q42 fun n45 =>
    ALC ⟨Z_impl_String⟩ T_impl_String (fun g46 h47 =>
    PIN h ((Addr.add in_6 ((Int.toNat i_11) * 1))) 1 h47 <|
    PIN h z_10 15 h47 <|
    STA 15 h47 ⟨g46, 0, none⟩ a43 fun h48 =>
    laws_FnStrings.J11 N8 Post more_1b more_1l more_1c x_5 in_6 y_7 out_8 one_9 z_10 i_11 ⟨g46, 0, none⟩ r44 n45 h48) h39) h) ∧ (ALC ⟨Z_impl_String⟩ T_impl_String (fun g49 h50 =>
    PIN h ((Addr.add in_6 ((Int.toNat i_11) * 1))) 1 h50 <|
    PIN h z_10 15 h50 <|
    CALL prg f_impl_StepString #[.agg a36, .float .f32 r37] (fun q51 h52 =>
    TUP3 q51 fun q53 q54 q55 =>
    asA q53 fun a56 =>
    asF .f32 q54 fun r57 =>
    asI .i64 q55 fun n58 =>
    STA 15 h52 ⟨g49, 0, none⟩ a56 fun h59 =>
    laws_FnStrings.J11 N8 Post more_1b more_1l more_1c x_5 in_6 y_7 out_8 one_9 z_10 i_11 ⟨g49, 0, none⟩ r57 n58 h59) h50) h)) (
    BIF (one_9 != (0 : Int)) (
    Post (.bool false) h) (
    LDA 15 h y_7 fun a60 =>
    LDA 15 h z_10 fun a61 =>
    CALL prg f_impl_SameString #[.agg a60, .agg a61] (fun q62 h63 =>
    asB q62 fun b64 =>
    BIF (!b64) (
    Post (.bool false) h63) (
    LDA 15 h63 y_7 fun a65 =>
    CALL prg f_impl_ValidString #[.agg a65] (fun q66 h67 =>
    asB q66 fun b68 =>
    BIF (!b68) (
    Post (.bool false) h67) (
    laws_FnStrings.J16 Post more_1b more_1l more_1c x_5 h67)) h63)) h))
def laws_FnStrings.g8 (fr : Frame) : Option Addr × Nat × Nat × Addr × Addr × Addr × Addr × Int × Addr × Int := ((gLb (lget fr 1)), (gLl (lget fr 1)), (gLc (lget fr 1)), (gP (lget fr 5)), (gP (lget fr 6)), (gP (lget fr 7)), (gP (lget fr 8)), (gI (lget fr 9)), (gP (lget fr 10)), (gI (lget fr 11)))
def laws_FnStrings.l8 (Post : Value → Heap → Prop) : Frame → Heap → Prop := fun fr h => GRD (shape (kds 181 [(1, .l), (5, .p), (6, .p), (7, .p), (8, .p), (9, .i .i64), (10, .p), (11, .i .i64)]) fr) (LOOP (laws_FnStrings.B8 Post) (laws_FnStrings.g8 fr) h)
def laws_FnStrings.S (code_0b : Option Addr) (code_0l code_0c : Nat) (more_1b : Option Addr) (more_1l more_1c : Nat) (Post : Value → Heap → Prop) (h : Heap) : Prop :=
    CALL prg f_laws_a2Long #[.slice code_0b code_0l code_0c, .slice more_1b more_1l more_1c] (fun q1 h2 =>
    asB q1 fun b3 =>
    BIF b3 (
    Post (.bool true) h2) (
    CALL prg f_spec_A2String #[.slice code_0b code_0l code_0c] (fun q4 h5 =>
    asA q4 fun a6 =>
    ALC ⟨Z_impl_String⟩ T_impl_String (fun g7 h8 =>
    STA 15 h8 ⟨g7, 0, none⟩ a6 fun h9 =>
    CALL prg f_spec_A2Block #[.slice more_1b more_1l more_1c, .bool true] (fun q10 h11 =>
    asA q10 fun a12 =>
    ALC ⟨Z_impl_Block⟩ T_impl_Block (fun g13 h14 =>
    STA 16 h14 ⟨g13, 0, none⟩ a12 fun h15 =>
    LDA 15 h15 ⟨g7, 0, none⟩ fun a16 =>
    LDA 16 h15 ⟨g13, 0, none⟩ fun a17 =>
    CALL prg f_impl_BlockOfString #[.agg a16, .agg a17] (fun q18 h19 =>
    TUP3 q18 fun q20 q21 q22 =>
    asA q20 fun a23 =>
    asA q21 fun a24 =>
    asI .i64 q22 fun n25 =>
    ALC ⟨Z_impl_String⟩ T_impl_String (fun g26 h27 =>
    ALC ⟨Z_impl_Block⟩ T_impl_Block (fun g28 h29 =>
    STA 15 h29 ⟨g26, 0, none⟩ a23 fun h30 =>
    STA 16 h30 ⟨g28, 0, none⟩ a24 fun h31 =>
    LDA 15 h31 ⟨g7, 0, none⟩ fun a32 =>
    ALC ⟨Z_impl_String⟩ T_impl_String (fun g33 h34 =>
    STA 15 h34 ⟨g33, 0, none⟩ a32 fun h35 =>
    LOOP (laws_FnStrings.B8 Post) (more_1b, more_1l, more_1c, ⟨g7, 0, none⟩, ⟨g13, 0, none⟩, ⟨g26, 0, none⟩, ⟨g28, 0, none⟩, n25, ⟨g33, 0, none⟩, (0 : Int)) h35) h31) h27) h19) h15) h11) h9) h5) h2)) h
noncomputable def laws_FnStrings.code : Code := (Tryz.f4.body).getD .skip
theorem laws_FnStrings.call {code_0b : Option Addr} {code_0l code_0c : Nat} {more_1b : Option Addr} {more_1l more_1c : Nat} {Post : Value → Heap → Prop} {h : Heap} (H : laws_FnStrings.S code_0b code_0l code_0c more_1b more_1l more_1c Post h) : CALL prg f_laws_FnStrings #[.slice code_0b code_0l code_0c, .slice more_1b more_1l more_1c] Post h :=
  fn_call tau_ok mixed (c := laws_FnStrings.code) (Λ := lookL [(1000008, laws_FnStrings.l8 Post), (16, laws_FnStrings.j16 Post), (22, laws_FnStrings.j22 Post)]) Tryz.func4 (by kernel_rfl) (by kernel_rfl)
    (Rq.seq (by kernel_rfl) (Rq.free (by kernel_rfl)) (Rq.seq (by kernel_rfl) (Rq.free (by kernel_rfl)) (Rq.seq (by kernel_rfl) (Rq.free (by kernel_rfl)) (Rq.seq (by kernel_rfl) (Rq.free (by kernel_rfl)) (Rq.seq (by kernel_rfl) (Rq.free (by kernel_rfl)) (Rq.seq (by kernel_rfl) (Rq.free (by kernel_rfl)) (Rq.seq (by kernel_rfl) (Rq.seq (by kernel_rfl) (Rq.free (by kernel_rfl)) (Rq.block (Rq.loop (laws_FnStrings.l8 Post) (by kernel_rfl) (segL (g := laws_FnStrings.g8) tau_ok mixed (Λ := fun N8 => lookL [(11, laws_FnStrings.j11 N8 Post)]) (fun _ _ _ => by kernel_rfl) (fun N8 => (Rq.seq (by kernel_rfl) (Rq.free (by kernel_rfl)) (Rq.seq (by kernel_rfl) (Rq.block (Rq.seqJ (laws_FnStrings.j11 N8 Post) (by kernel_rfl) (seg (fun _ _ => by kernel_rfl)) (Rq.free (by kernel_rfl))
(Rq.free (by kernel_rfl)))) (Rq.free (by kernel_rfl))))))))) (Rq.seqJ (laws_FnStrings.j16 Post) (by kernel_rfl) (seg (fun _ _ => by kernel_rfl)) (Rq.free (by kernel_rfl))
(Rq.seq (by kernel_rfl) (Rq.free (by kernel_rfl)) (Rq.seq (by kernel_rfl) (Rq.free (by kernel_rfl)) (Rq.seq (by kernel_rfl) (Rq.free (by kernel_rfl)) (Rq.seq (by kernel_rfl) (Rq.free (by kernel_rfl)) (Rq.seqJ (laws_FnStrings.j22 Post) (by kernel_rfl) (seg (fun _ _ => by kernel_rfl)) (Rq.free (by kernel_rfl))
(Rq.free (by kernel_rfl)))))))))))))))
    (Eq.mp (by kernel_rfl) H)

end Go.Sx
