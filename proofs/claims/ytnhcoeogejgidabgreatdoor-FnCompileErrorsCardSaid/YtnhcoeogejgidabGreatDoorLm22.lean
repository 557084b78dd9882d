/- What a score that is being compiled keeps: its numbers stay small and sound. -/
import Derived.Test.YtnhcoeogejgidabGreatDoorLm21
import Derived.Test.YtnhcoeogejgidabGreatDoorTabE
import Derived.Test.YtnhcoeogejgidabGreatDoorTab
import Derived.Test.YtnhcoeogejgidabGreatDoorLk24
import Derived.Test.YtnhcoeogejgidabGreatDoorLr7
import Derived.Laws.BytesString
import Derived.Lib.ItoaLen
import Derived.Test.YtnhcoeogejgidabGreatDoorLx1
import Derived.Sort.Grow
import Derived.Deep.Draws
set_option linter.unusedVariables false
set_option linter.unusedSimpArgs false
namespace Go.Sx

structure CInv (s : GComp) : Prop where
  k6 : s.kinds.length ≤ 6
  kok : instOk s.kinds = true
  n64 : s.notes.length ≤ 64
  n0 : 0 ≤ s.now
  n1 : s.now ≤ 100000
  l3 : s.loops.length ≤ 3
  each : ∀ x ∈ s.loops, x.1 ≤ 100000 ∧ x.2 ≤ 15
  d31 : s.tune.Degrees.length ≤ 31
def GComp.work (s : GComp) : GWork := ⟨s.rate, s.tune, s.kinds, s.notes, s.now, s.loops.map fun x => ((x.1 + 1 : Nat) : Int), s.loops.map fun x => (x.2 : Int)⟩
def GComp.comp (s : GComp) (p : Nat) : GCompiler := ⟨⟨s.rate, s.tune, s.kinds, evsOf s.notes⟩, s.now, s.loops.map fun x => ⟨(x.1 : Int), (x.2 : Int)⟩, (p : Int)⟩
theorem cond_ok {c : Prop} [Decidable c] {a b : CRes} {r : GComp × Nat} (h : (if c then a else b) = .ok r) : (c ∧ a = .ok r) ∨ (¬ c ∧ b = .ok r) := by
  by_cases hc : c
  · rw [if_pos hc] at h; exact .inl ⟨hc, h⟩
  · rw [if_neg hc] at h; exact .inr ⟨hc, h⟩
theorem word_ok {o : Option Nat} {f : Nat → CRes} {r : GComp × Nat} (h : (match o with | some n => f n | none => .error 5) = .ok r) : ∃ m, o = some m ∧ f m = .ok r := by
  cases o with
  | none => cases h
  | some m => exact ⟨m, rfl, h⟩
theorem inst_snoc {ks : List GInstrument} {x : GInstrument} (h : instOk ks = true) (hx : x.ok = true) (hn : (ks.any fun k => decide (k.Name = x.Name)) = false) : instOk (ks ++ [x]) = true := by
  unfold instOk at *
  rw [List.all_eq_true] at *
  intro i hi
  rw [List.mem_range, List.length_append, List.length_singleton] at hi
  have old : ∀ j, j < ks.length → (ks ++ [x])[j]! = ks[j]! := fun j hj => by
    rw [getElem!_pos _ j (by simp; omega), getElem!_pos ks j hj, List.getElem_append_left hj]
  unfold instAt
  by_cases e : i < ks.length
  · have := h i (List.mem_range.2 e)
    unfold instAt at this
    simp only [Bool.and_eq_true, List.all_eq_true, List.mem_range] at this ⊢
    rw [old i e]
    exact ⟨this.1, fun j hj => by rw [old j (by omega)]; exact this.2 j hj⟩
  · have hi2 : i = ks.length := by omega
    have ex : (ks ++ [x])[i]! = x := by
      subst hi2
      rw [getElem!_pos _ _ (by simp), List.getElem_append_right (Nat.le_refl _)]
      simp
    simp only [Bool.and_eq_true, List.all_eq_true, List.mem_range]
    rw [ex]
    refine ⟨hx, fun j hj => ?_⟩
    rw [old j (by omega)]
    have := List.any_eq_false.1 hn ks[j]! (by rw [getElem!_pos ks j (by omega)]; exact List.getElem_mem _)
    simpa using this
theorem line_inv {s s' : GComp} {p p' : Nat} {ws : List (List UInt8)} (hp : p < 100000) (I : CInv s) (e : s.line p ws = .ok (s', p')) : CInv s' := by
  unfold GComp.line at e
  have goto : ∀ {m : Int}, 0 ≤ m → s.goto p m = .ok (s', p') → CInv s' := fun {m} h0 e => by
    unfold GComp.goto at e
    rcases cond_ok e with ⟨_, e⟩ | ⟨h1, e⟩
    · cases e
    · cases e; exact ⟨I.k6, I.kok, I.n64, h0, by show m ≤ 100000; omega, I.l3, I.each, I.d31⟩
  have sound : ∀ {k : Int}, s.sound p k ws = .ok (s', p') → CInv s' := fun {k} e => by
    unfold GComp.sound at e
    split at e
    · rcases cond_ok e with ⟨_, e⟩ | ⟨_, e⟩
      · unfold GComp.add at e
        rcases cond_ok e with ⟨hx, e⟩ | ⟨_, e⟩
        · rcases cond_ok e with ⟨_, e⟩ | ⟨hn, e⟩
          · cases e
          · rcases cond_ok e with ⟨h6, e⟩ | ⟨_, e⟩
            · cases e
              refine ⟨by show (s.kinds ++ [_]).length ≤ 6; simp; omega, inst_snoc I.kok hx (Bool.eq_false_iff.2 hn), I.n64, I.n0, I.n1, I.l3, I.each, I.d31⟩
            · cases e
        · cases e
      · cases e
    · cases e
  rcases cond_ok e with ⟨_, e⟩ | ⟨_, e⟩
  · obtain ⟨m, _, e⟩ := word_ok e
    unfold GComp.setRate at e
    rcases cond_ok e with ⟨_, e⟩ | ⟨_, e⟩
    · rcases cond_ok e with ⟨_, e⟩ | ⟨_, e⟩
      · cases e; exact ⟨I.k6, I.kok, I.n64, I.n0, I.n1, I.l3, I.each, I.d31⟩
      · cases e
    · cases e
  rcases cond_ok e with ⟨_, e⟩ | ⟨_, e⟩
  · split at e
    · unfold GComp.setTune at e
      rcases cond_ok e with ⟨hr, e⟩ | ⟨_, e⟩
      · rcases cond_ok e with ⟨_, e⟩ | ⟨_, e⟩
        · cases e
          unfold inR at hr
          simp only [Bool.and_eq_true, decide_eq_true_eq] at hr
          exact ⟨I.k6, I.kok, I.n64, I.n0, I.n1, I.l3, I.each, by show (List.map _ (List.range _)).length ≤ 31; rw [List.length_map, List.length_range]; omega⟩
        · cases e
      · cases e
    · cases e
  rcases cond_ok e with ⟨_, e⟩ | ⟨_, e⟩
  · exact sound e
  rcases cond_ok e with ⟨_, e⟩ | ⟨_, e⟩
  · exact sound e
  rcases cond_ok e with ⟨_, e⟩ | ⟨_, e⟩
  · exact sound e
  rcases cond_ok e with ⟨_, e⟩ | ⟨_, e⟩
  · obtain ⟨m, _, e⟩ := word_ok (f := fun m => s.goto p (m : Int)) e; exact goto (by omega) e
  rcases cond_ok e with ⟨_, e⟩ | ⟨_, e⟩
  · obtain ⟨m, _, e⟩ := word_ok (f := fun m => s.goto p (s.now + (m : Int))) e; exact goto (by have := I.n0; omega) e
  rcases cond_ok e with ⟨_, e⟩ | ⟨_, e⟩
  · unfold GComp.playL at e
    split at e
    · rename_i key force long h1 h2 h3
      rcases cond_ok e with ⟨_, e⟩ | ⟨_, e⟩
      · unfold GComp.note at e
        rcases cond_ok e with ⟨_, e⟩ | ⟨hk, e⟩
        · cases e
        · rcases cond_ok e with ⟨_, e⟩ | ⟨hn, e⟩
          · cases e
          · rcases cond_ok e with ⟨h64, e⟩ | ⟨_, e⟩
            · cases e
              exact ⟨I.k6, I.kok, by show (s.notes ++ [_]).length ≤ 64; simp; omega, I.n0, I.n1, I.l3, I.each, I.d31⟩
            · cases e
      · cases e
    · cases e
  rcases cond_ok e with ⟨_, e⟩ | ⟨_, e⟩
  · obtain ⟨m, _, e⟩ := word_ok e
    unfold GComp.open_ at e
    rcases cond_ok e with ⟨hm, e⟩ | ⟨_, e⟩
    · rcases cond_ok e with ⟨_, e⟩ | ⟨h3, e⟩
      · cases e
      · cases e
        unfold inR at hm
        simp only [Bool.and_eq_true, decide_eq_true_eq] at hm
        refine ⟨I.k6, I.kok, I.n64, I.n0, I.n1, by have := I.l3; show (s.loops ++ [(p, m - 1)]).length ≤ 3; simp; omega, fun x hx => ?_, I.d31⟩
        rcases List.mem_append.1 hx with h | h
        · exact I.each x h
        · rw [List.mem_singleton] at h
          subst h
          exact ⟨by show p ≤ 100000; omega, by show m - 1 ≤ 15; omega⟩
    · cases e
  rcases cond_ok e with ⟨_, e⟩ | ⟨_, e⟩
  · unfold GComp.close at e
    rcases cond_ok e with ⟨_, e⟩ | ⟨h0, e⟩
    · cases e
    · have h1 : 1 ≤ s.loops.length := List.length_pos_iff.2 h0
      have hx := I.each s.loops[s.loops.length - 1]! (by rw [getElem!_pos s.loops _ (by omega)]; exact List.getElem_mem _)
      rcases cond_ok e with ⟨_, e⟩ | ⟨_, e⟩
      · cases e
        exact ⟨I.k6, I.kok, I.n64, I.n0, I.n1, by have := I.l3; show (s.loops.take _).length ≤ 3; rw [List.length_take]; omega, (fun x hx => I.each x (List.mem_of_mem_take hx)), I.d31⟩
      · cases e
        refine ⟨I.k6, I.kok, I.n64, I.n0, I.n1, by have := I.l3; show (s.loops.set _ _).length ≤ 3; rw [List.length_set]; exact this, fun x hx' => ?_, I.d31⟩
        rcases List.mem_or_eq_of_mem_set hx' with h | h
        · exact I.each x h
        · subst h
          exact ⟨hx.1, by have := hx.2; show _ - 1 ≤ 15; omega⟩
  · cases e
theorem exists_least {P : Nat → Prop} (h : ∃ n, P n) : ∃ n, P n ∧ ∀ m, P m → n ≤ m := by
  obtain ⟨n, hn⟩ := h
  induction n using Nat.strongRecOn with
  | _ n ih =>
    by_cases e : ∃ m, m < n ∧ P m
    · obtain ⟨m, hm, hp⟩ := e
      exact ih m hm hp
    · exact ⟨n, hn, fun m hm => by
        apply Classical.byContradiction
        intro hc
        exact e ⟨m, by omega, hm⟩⟩
noncomputable def leastN {X : Type} (J : Nat → X → Heap → Prop) (x : X) (h : Heap) : Nat := @dite _ (∃ n, J n x h) (Classical.propDecidable _) (fun e => Classical.choose (exists_least e)) fun _ => 0
theorem least_spec {X : Type} {J : Nat → X → Heap → Prop} {x : X} {h : Heap} (e : ∃ n, J n x h) : J (leastN J x h) x h ∧ ∀ m, J m x h → leastN J x h ≤ m := by
  unfold leastN
  rw [dif_pos e]
  exact Classical.choose_spec (exists_least e)
/-- A loop with a measure that the invariant bears. -/
theorem loopN {X : Type} {B : (X → Heap → Prop) → X → Heap → Prop} {x : X} {h : Heap} (J : Nat → X → Heap → Prop) {n0 : Nat} (h0 : J n0 x h)
    (hb : ∀ n x h, J n x h → ∀ N : X → Heap → Prop, (∀ n' x' h', n' < n → J n' x' h' → N x' h') → B N x h) : LOOP B x h :=
  ⟨fun x h => ∃ n, J n x h, leastN J, ⟨n0, h0⟩, fun x h e => by
    obtain ⟨h1, h2⟩ := least_spec e
    exact hb _ x h h1 _ fun n' x' h' hn hj => ⟨⟨n', hj⟩, Nat.lt_of_le_of_lt ((least_spec ⟨n', hj⟩).2 n' hj) hn⟩⟩
end Go.Sx
/- Floats in blocks beside own data; blocks made sample by sample. -/
set_option linter.unusedVariables false
set_option linter.unusedSimpArgs false
namespace Go.Sx
open Go.Proofs
set_option maxRecDepth 100000
set_option maxHeartbeats 1000000

theorem rdsF_any {k : FloatKind} {h h' : Heap} : ∀ {xs : List Nat} {vs : List Value}, rds (rF k) h vs xs → rds (rF k) h' vs xs
  | [], vs, R => R
  | a :: xs, vs, R => by
    obtain ⟨v1, v2, rfl, R1, R2⟩ := R
    exact ⟨v1, v2, rfl, R1, rdsF_any R2⟩
/-- n floats, wherever they lie. -/
def FA (n : Nat) (cs : Array Value) (xs : List Nat) : Prop := (rArr n (rF .f32)).rd #[] cs.toList xs
section
variable {n : Nat} {cs : Array Value} {xs : List Nat}
theorem FA.rd (R : FA n cs xs) (h : Heap) : (rArr n (rF .f32)).rd h cs.toList xs := ⟨R.1, rdsF_any R.2⟩
theorem FA.of {h : Heap} (R : (rArr n (rF .f32)).rd h cs.toList xs) : FA n cs xs := ⟨R.1, rdsF_any R.2⟩
theorem FA.size (R : FA n cs xs) : cs.size = n := by have := rsz R rfl; rw [this]; exact Nat.mul_one n
theorem FA.one (R : FA n cs xs) : ∀ v ∈ cs.toList, v.oneCell' = true := (rArr n (rF .f32)).rone R
end
end Go.Sx
/- What the laws have in common: values marked and compared among others. -/
set_option linter.unusedVariables false
set_option linter.unusedSimpArgs false
namespace Go.Sx
open Go.Proofs
set_option maxRecDepth 100000

theorem PairR.go {α : Type} {r : Rep α} {P : Program} {f : FuncId} {args : Array Value} {a : α} {code : Int} {hb h : Heap} {L : List Blk} {K : Value → Heap → Prop} (M : Mem hb h L) (c : CALL P f args (fun u h' => PairR r h h' u a code) h)
    (H : ∀ h' cs B, Mem hb h' (B ++ L) → r.ow B cs.toList a → cs.size = r.sz → K (.tuple ⟨[.agg cs, .int .i64 code]⟩) h') : CALL P f args K h :=
  c.mono fun u h' ⟨cs, B, e, O, N⟩ => by subst e; exact H h' cs B (M.join N) O (by simpa using r.olen O)
theorem eqB {a : Int} {p q : Prop} (H : q) : BIF (a != a) p q := by
  rw [show (a != a) = false by simp]; exact H
end Go.Sx
/- The texts that mark strings: 'm' and a number. -/
set_option linter.unusedVariables false
set_option linter.unusedSimpArgs false
namespace Go.Sx
open Go.Proofs
set_option maxRecDepth 100000

theorem conv_one {g : Nat} {h : Heap} {n : Int} {K : Value → Heap → Prop} (hc : cell h ⟨g, 0, none⟩ = some (.int .u8 n)) (H : K (.string ⟨#[UInt8.ofNat n.toNat]⟩) h) : SEMV prg (convert T_sl_uint8 T_string (.slice (some ⟨g, 0, none⟩) 1 1)) K h := by
  refine semv fun w hw => ⟨.string ⟨#[UInt8.ofNat n.toNat]⟩, w, ?_, Same.refl _, by rw [hw]; exact H⟩
  have hc' : w.cell? ⟨g, 0, none⟩ = some (.int .u8 n) := by rw [cell_eq, hw]; exact hc
  rw [run_convert_bytes_string w _ _ _ _ _ _ U_sl_uint8 U_uint8 U_string, run_bytesToString w _ 1 1 [n] ?_]
  · rfl
  · simp [loadCells, loadCellsFrom, hc', Addr.add, Sem.run_pure]
end Go.Sx
/- What functions of this seat's program compute, told in words (a predicate over heaps for each), and the proofs that the words are no more than the code's own weakest precondition. -/
namespace Go.Sx
open Go.Proofs
set_option linter.unusedVariables false
set_option maxRecDepth 100000

def impl_decimal.S (n_0 : Int) (Post : Value → Heap → Prop) (h : Heap) : Prop :=
    CALL prg f_strconv_FormatInt #[.int .i64 n_0, .int .i64 (10 : Int)] (fun q1 h2 =>
    asS q1 fun s3 =>
    Post (.string s3) h2) h
noncomputable def impl_decimal.code : Code := (Tryz.f123.body).getD .skip
theorem impl_decimal.call {n_0 : Int} {Post : Value → Heap → Prop} {h : Heap} (H : impl_decimal.S n_0 Post h) : CALL prg f_impl_decimal #[.int .i64 n_0] Post h :=
  fn_call tau_ok mixed (c := impl_decimal.code) (Λ := lookL []) Tryz.func123 (by kernel_rfl) (by kernel_rfl)
    (Rq.free (by kernel_rfl))
    (Eq.mp (by kernel_rfl) H)

def spec_Decimal.S (n_0 : Int) (Post : Value → Heap → Prop) (h : Heap) : Prop :=
    BIF ((decide ((10 : Int) ≤ n_0))) (
    NZ (10 : Int) <|
    NZ (10 : Int) <|
    (CALL prg f_spec_Decimal #[.int .i64 ((IntKind.i64.wrap (Int.tdiv n_0 (10 : Int))))] (fun q1 h2 =>
    asS q1 fun s3 =>
    ALC ⟨[.int .u8 ((IntKind.u8.wrap ((IntKind.i64.wrap ((48 : Int) + (Int.tmod n_0 (10 : Int)))))))]⟩ T_uint8 (fun g4 h5 =>
    SEMV prg (convert T_sl_uint8 T_string (.slice (some ⟨g4, 0, none⟩) 1 1)) (fun q6 h7 =>
    asS q6 fun s8 =>
    ((ByteArray.size s3 + ByteArray.size s8 : Nat) : Int) ≤ 9223372036854775807 ∧ (
    Post (.string (s3 ++ s8)) h7)) h5) h2) h) ∧ (ALC ⟨[.int .u8 ((IntKind.u8.wrap ((IntKind.i64.wrap ((48 : Int) + (Int.tmod n_0 (10 : Int)))))))]⟩ T_uint8 (fun g9 h10 =>
    (CALL prg f_spec_Decimal #[.int .i64 ((IntKind.i64.wrap (Int.tdiv n_0 (10 : Int))))] (fun q11 h12 =>
    asS q11 fun s13 =>
    SEMV prg (convert T_sl_uint8 T_string (.slice (some ⟨g9, 0, none⟩) 1 1)) (fun q14 h15 =>
    asS q14 fun s16 =>
    ((ByteArray.size s13 + ByteArray.size s16 : Nat) : Int) ≤ 9223372036854775807 ∧ (
    Post (.string (s13 ++ s16)) h15)) h12) h10) ∧ (SEMV prg (convert T_sl_uint8 T_string (.slice (some ⟨g9, 0, none⟩) 1 1)) (fun q17 h18 =>
    asS q17 fun s19 =>
    CALL prg f_spec_Decimal #[.int .i64 ((IntKind.i64.wrap (Int.tdiv n_0 (10 : Int))))] (fun q20 h21 =>
    asS q20 fun s22 =>
    ((ByteArray.size s22 + ByteArray.size s19 : Nat) : Int) ≤ 9223372036854775807 ∧ (
    Post (.string (s22 ++ s19)) h21)) h18) h10)) h)) (
    ALC ⟨[.int .u8 ((IntKind.u8.wrap ((IntKind.i64.wrap ((48 : Int) + n_0)))))]⟩ T_uint8 (fun g23 h24 =>
    SEMV prg (convert T_sl_uint8 T_string (.slice (some ⟨g23, 0, none⟩) 1 1)) (fun q25 h26 =>
    asS q25 fun s27 =>
    Post (.string s27) h26) h24) h)
noncomputable def spec_Decimal.code : Code := (Tryz.f14.body).getD .skip
theorem spec_Decimal.call {n_0 : Int} {Post : Value → Heap → Prop} {h : Heap} (H : spec_Decimal.S n_0 Post h) : CALL prg f_spec_Decimal #[.int .i64 n_0] Post h :=
  fn_call tau_ok mixed (c := spec_Decimal.code) (Λ := lookL []) Tryz.func14 (by kernel_rfl) (by kernel_rfl)
    (Rq.free (by kernel_rfl))
    (Eq.mp (by kernel_rfl) H)

end Go.Sx
/- Decimals: the rule's, digit by digit. -/
set_option linter.unusedVariables false
set_option linter.unusedSimpArgs false
namespace Go.Sx
open Go.Proofs
set_option maxRecDepth 100000

/-- A whole number's digits. -/
def decB (m : Nat) : ByteArray := ⟨(Lib.decDigits m).toArray⟩
theorem ba_app (a b : List UInt8) : (⟨a.toArray⟩ : ByteArray) ++ ⟨b.toArray⟩ = ⟨(a ++ b).toArray⟩ := by
  apply ByteArray.ext
  rw [ByteArray.data_append]
  simp
theorem decB_small {m : Nat} (h : m < 10) : decB m = ⟨#[UInt8.ofNat (48 + m)]⟩ := by unfold decB; rw [Lib.decDigits_one h]
theorem decB_step {m : Nat} (h : ¬ m < 10) : decB (m / 10) ++ ⟨#[UInt8.ofNat (48 + m % 10)]⟩ = decB m := by
  unfold decB
  rw [show (⟨#[UInt8.ofNat (48 + m % 10)]⟩ : ByteArray) = ⟨[UInt8.ofNat (48 + m % 10)].toArray⟩ from rfl, ba_app]
  rw [Lib.decDigits.eq_def m, dif_neg h]
theorem decB_size {m : Nat} (h : m < 18446744073709551616) : (decB m).size ≤ 20 := by
  show (Lib.decDigits m).toArray.size ≤ 20
  rw [List.size_toArray, Lib.decDigits_length]
  exact Lib.nDigits_le20 m h
theorem one_size (a : UInt8) : (⟨#[a]⟩ : ByteArray).size = 1 := rfl
theorem spec_Decimal_c : ∀ (m : Nat), m < 9223372036854775808 → Ret prg f_spec_Decimal #[.int .i64 (m : Int)] (.string (decB m)) := by
  intro m
  induction m using Nat.strongRecOn with
  | _ m ih =>
  intro hm h
  have eN : Int.tmod (m : Int) 10 = ((m % 10 : Nat) : Int) := by rw [Int.ofNat_tmod]; rfl
  have eD : Int.tdiv (m : Int) 10 = ((m / 10 : Nat) : Int) := by rw [Int.ofNat_tdiv]; rfl
  have hw : ∀ k : Nat, k < 10 → IntKind.u8.wrap (IntKind.i64.wrap (48 + (k : Int))) = ((48 + k : Nat) : Int) := fun k hk => by
    rw [wrap64 (by omega) (by omega)]
    unfold IntKind.wrap
    show (48 + (k : Int)) % 2 ^ 8 = _
    omega
  refine spec_Decimal.call (brd (fun hc => ?_) fun hc => ?_)
  · have hlt : ¬ m < 10 := by omega
    rw [eN, eD, hw _ (Nat.mod_lt _ (by omega)), wrap64 (n := ((m / 10 : Nat) : Int)) (by omega) (by omega)]
    have R := ih (m / 10) (Nat.div_lt_self (by omega) (by decide)) (by omega)
    have sz : ((ByteArray.size (decB (m / 10)) + ByteArray.size (⟨#[UInt8.ofNat ((48 + m % 10 : Nat) : Int).toNat]⟩ : ByteArray) : Nat) : Int) ≤ 9223372036854775807 := by
      have := decB_size (m := m / 10) (by omega)
      rw [one_size]; omega
    have ev : decB (m / 10) ++ (⟨#[UInt8.ofNat ((48 + m % 10 : Nat) : Int).toNat]⟩ : ByteArray) = decB m := by rw [Int.toNat_natCast]; exact decB_step hlt
    refine nz (by omega) (nz (by omega) ⟨?_, ?_⟩)
    · refine Ret.go R fun h1 x1 => as_s ((Mem.start h1).alc fun g h2 x2 M => conv_one (M.cell .here 0) (as_s ⟨sz, ?_⟩))
      exact ⟨by rw [ev], x1.trans x2⟩
    · refine (Mem.start h).alc fun g h2 x2 M => ⟨?_, ?_⟩
      · refine Ret.go R fun h1 x1 => as_s (conv_one ((M.grow x1).cell .here 0) (as_s ⟨sz, ?_⟩))
        exact ⟨by rw [ev], x2.trans x1⟩
      · refine conv_one (M.cell .here 0) (as_s (Ret.go R fun h1 x1 => as_s ⟨sz, ?_⟩))
        exact ⟨by rw [ev], x2.trans x1⟩
  · rw [hw m (by omega)]
    refine (Mem.start h).alc fun g h2 x2 M => conv_one (M.cell .here 0) (as_s ⟨?_, x2⟩)
    rw [Int.toNat_natCast, decB_small (by omega)]
end Go.Sx
/- Contracts of the kit's shelf, taken as calls of ours. -/
set_option linter.unusedVariables false
namespace Go.Sx

/-- A call whose contract tells a value and new blocks alone. -/
theorem CALL_of_calls {P : Program} {f : FuncId} {fn : Func} {args : Array Value} {K : Value → Heap → Prop} {h : Heap} (hf : P.funcs[f]? = some fn) (hb : fn.body.isNone = false) (hn : (fn.name == "runtime.NumGoroutine") = false)
    (c : ∀ w : World, w.heap = h → Calls P f args w fun e w' => ∃ v, e = .returned v ∧ Same w w' ∧ K v w'.heap) : CALL P f args K h := by
  intro w hw
  have hrun : (callFunc f args).run P w = .ok (.enter f args) w := by
    unfold callFunc
    simp only [Sem.run_bind, run_program, Result.andThen_ok, hf, hn, hb, Bool.false_eq_true, if_false]
    rfl
  rw [hrun]
  exact c w hw
theorem grow_same (w : World) (k : Nat) (os : Array Obj) : Same w (Sort.grow (w.drewN k) os) := ⟨rfl, rfl, rfl, fun e => by cases e⟩
theorem grow_ext (w : World) (k : Nat) (os : Array Obj) : Ext w.heap (Sort.grow (w.drewN k) os).heap := by
  show Ext w.heap (w.heap ++ os)
  refine ⟨by simp, fun i hi => ?_⟩
  rw [Array.getElem?_append_left hi]
end Go.Sx
