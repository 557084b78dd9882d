/- Filters: what the functions compute. -/
import Derived.Test.YthhepeklpgefkaaGreatDoorLk1
import Derived.Test.YthhepeklpgefkaaGreatDoorLp5
import Derived.Test.YthhepeklpgefkaaGreatDoorLp7
import Derived.Test.YthhepeklpgefkaaGreatDoorLg
import Derived.Test.YthhepeklpgefkaaGreatDoorTabE
set_option linter.unusedVariables false
set_option linter.unusedSimpArgs false
namespace Go.Sx
open Go.Proofs
set_option maxRecDepth 100000

theorem l02Uses_c (k : Int) : Ret prg f_spec_l02Uses #[.int .i64 k] (.tuple ⟨[.int .i64 (usesC k), .int .i64 (usesS k)]⟩) := fun h => by
  refine spec_l02Uses.call ?_
  unfold spec_l02Uses.S
  repeat' refine br (fun _ => ?_) (fun _ => ?_)
  all_goals (refine ⟨?_, Ext.refl _⟩; simp_all [usesC, usesS])
def usesI (k : Int) : Int := if inR k 1 5 then usesC k else 0
def usesJ (k : Int) : Int := if inR k 1 5 then usesS k else 0
theorem uses_c (k : Int) : Ret prg f_impl_uses #[.int .i64 k] (.tuple ⟨[.int .i64 (usesI k), .int .i64 (usesJ k)]⟩) := fun h => by
  refine impl_uses.call ?_
  unfold impl_uses.S
  repeat' refine br (fun _ => ?_) (fun _ => ?_)
  all_goals (refine ⟨?_, Ext.refl _⟩; simp_all [usesI, usesJ, usesC, usesS, inR])
  all_goals omega
def usedAt (l : List Nat) (n : Int) (i : Nat) : Bool := fin l[i]! && (decide ((i : Int) < n) || l[i]! == 0)
theorem isUsed_c {h : Heap} {b : Option Addr} {l c : Nat} {xs : List Nat} (S : SlR (rF .f32) h b l c xs) (n : Int) : CALL prg f_impl_isUsed #[.slice b l c, .int .i64 n] (fun u h' => u = .bool (used xs n) ∧ Ext h h') h := by
  refine impl_isUsed.call ?_
  have hm2 := S.2.2.1
  have hm3 := S.2.1
  have := maxLen_lt
  have hl := S.len
  refine loop (fun x hh => ∃ m : Nat, x = (n, b, l, c, (l : Int), (m : Int)) ∧ m ≤ l ∧ Ext h hh ∧ ∀ i, i < m → usedAt xs n i = true) (fun x => (l - x.2.2.2.2.2).toNat) ⟨0, rfl, by omega, Ext.refl _, fun i hi => by omega⟩ ?_
  rintro x hh ⟨m, rfl, hn, X, hf⟩
  refine brd (fun hc => ?_) fun hc => ?_
  · refine (S.ext X).idx (by decide) (by omega) (by omega) fun a Ra => Ra.oF1 fun y hy => ?_
    have no : ∀ {h'}, Ext h h' → usedAt xs n m = false → ((Value.bool false = .bool (used xs n)) ∧ Ext h h') := fun x e => ⟨by rw [show used xs n = false from all_false (i := m) (by omega) e], x⟩
    have go : ∀ {h'}, Ext h h' → usedAt xs n m = true → (∃ m_1 : Nat, ((n, b, l, c, (l : Int), IntKind.i64.wrap ((m : Int) + 1)) : Int × Option Addr × Nat × Nat × Int × Int) = (n, b, l, c, (l : Int), (m_1 : Int)) ∧ m_1 ≤ l ∧ Ext h h' ∧ ∀ i, i < m_1 → usedAt xs n i = true) ∧ ((l : Int) - IntKind.i64.wrap ((m : Int) + 1)).toNat < ((l : Int) - (m : Int)).toNat := by
      intro h' x e
      rw [wrap64_succ (by omega)]
      refine ⟨⟨m + 1, rfl, by omega, x, fun i hi => ?_⟩, by omega⟩
      by_cases e' : i = m
      · subst e'; exact e
      · exact hf i (by omega)
    refine (isFinite_c hy).go fun h1 x1 => as_b (br (fun hb => no (X.trans x1) ?_) fun hb => ?_)
    · rw [usedAt, show fin xs[m]! = false by simpa using hb]; rfl
    have hb : fin xs[m]! = true := by simpa using hb
    refine brd (fun h2 => ?_) fun h2 => go (X.trans x1) ?_
    · refine (bitsOf_c hy).go fun h3 x3 => as_i (br (fun hb3 => no ((X.trans x1).trans x3) ?_) fun hb3 => go ((X.trans x1).trans x3) ?_)
      · rw [usedAt, hb, decide_eq_false (by omega), Bool.true_and, Bool.false_or]
        have hb3 : (xs[m]! : Int) ≠ 0 := by simpa using hb3
        exact beq_false_of_ne (by omega)
      · rw [usedAt, hb, decide_eq_false (by omega), Bool.true_and, Bool.false_or]
        have hb3 : (xs[m]! : Int) = 0 := by simpa using hb3
        exact beq_iff_eq.2 (by omega)
    · rw [usedAt, hb, decide_eq_true (by omega)]; rfl
  · refine ⟨?_, X⟩
    rw [show used xs n = true from all_true fun i hi => hf i (by omega)]
theorem usesI_pos (k : Int) : decide (0 < usesI k) = inR k 1 5 := by
  unfold usesI
  split
  · next h => rw [h]; apply decide_eq_true; unfold usesC; split <;> (try split) <;> omega
  · next h => rw [Bool.not_eq_true] at h; rw [h]; rfl
theorem ValidFilter_c {h : Heap} {cs : Array Value} {f : GFilter} (R : rFilter.rd h cs.toList f) : CALL prg f_impl_ValidFilter #[.agg cs] (fun u h' => u = .bool f.ok ∧ Ext h h') h := by
  refine impl_ValidFilter.call (alcR R fun g h1 x1 R1 => R1.oI2 ((uses_c _).go fun h2 x2 => tup2 (as_i (as_i ?_))))
  rw [usesI_pos]
  have X2 := x1.trans x2
  have R2 := R1.ext x2
  refine br (fun hb => ?_) fun hb => ⟨by rw [GFilter.ok, hb]; rfl, X2⟩
  have e1 : usesI f.Kind = usesC f.Kind := by rw [usesI, if_pos hb]
  have e2 : usesJ f.Kind = usesS f.Kind := by rw [usesJ, if_pos hb]
  rw [e1, e2]
  refine slb (by omega) (by omega) (by omega) ?_
  rw [slP_zero]
  refine (isUsed_c ((R2.foc0 foc_Filter_C).arr (by decide)) _).mono ?_
  rintro _ h3 ⟨rfl, x3⟩
  refine as_b (br (fun hc => ?_) fun hc => ⟨by rw [GFilter.ok, hb, hc]; rfl, X2.trans x3⟩)
  refine slb (by omega) (by omega) (by omega) ?_
  rw [slP_zero]
  refine (isUsed_c (((R2.ext x3).foc0 foc_Filter_S).arr (by decide)) _).mono ?_
  rintro _ h4 ⟨rfl, x4⟩
  exact as_b ⟨by rw [GFilter.ok, hb, hc]; rfl, (X2.trans x3).trans x4⟩
theorem isFilter_c {h : Heap} {cs : Array Value} {f : GFilter} (R : rFilter.rd h cs.toList f) (k : Int) : CALL prg f_impl_isFilter #[.agg cs, .int .i64 k] (fun u h' => u = .bool (f.ok && f.Kind == k) ∧ Ext h h') h := by
  refine impl_isFilter.call (alcR R fun g h1 x1 R1 => R1.lda1 rfl fun cs' Rc => (ValidFilter_c Rc).mono ?_)
  rintro _ h2 ⟨rfl, x2⟩
  refine as_b (br (fun hb => (R1.ext x2).oI2 ⟨by rw [hb]; rfl, x1.trans x2⟩) fun hb => ⟨by rw [hb]; rfl, x1.trans x2⟩)
theorem l02Ok_c {h : Heap} {q : Addr} {f : GFilter} (R : RdP rFilter h q f) : CALL prg f_spec_l02Ok #[.pointer (some q)] (fun u h' => u = .bool f.ok ∧ Ext h h') h := by
  have hC := (R.foc foc_Filter_C).len
  have hS := (R.foc foc_Filter_S).len
  refine spec_l02Ok.call (R.oI1 ((l00In_c _ _ _).go fun h1 x1 => as_b (br (fun hb => ⟨by rw [GFilter.ok, show inR f.Kind 1 5 = false by simpa using hb]; rfl, x1⟩) fun hb => ?_)))
  have hb : inR f.Kind 1 5 = true := by simpa using hb
  refine (R.ext x1).oI1 ((l02Uses_c _).go fun h2 x2 => tup2 (as_i (as_i ?_)))
  have X2 := x1.trans x2
  refine loop (fun x hh => ∃ m : Nat, x = (q, usesC f.Kind, usesS f.Kind, (m : Int)) ∧ m ≤ 3 ∧ Ext h hh ∧ ∀ i, i < m → usedAt f.C (usesC f.Kind) i = true) (fun x => (3 - x.2.2.2).toNat) ⟨0, rfl, by omega, X2, fun i hi => by omega⟩ ?_
  rintro x hh ⟨m, rfl, hn, X, hf⟩
  refine brd (fun hc => ?_) fun hc => ?_
  · refine idx (by omega) (by omega) ?_
    have Ra := ((R.ext X).foc foc_Filter_C).elem (i := m) (by omega)
    refine Ra.oF1 fun y hy => ?_
    have no : ∀ {h'}, Ext h h' → usedAt f.C (usesC f.Kind) m = false → ((Value.bool false = .bool f.ok) ∧ Ext h h') := fun x e => ⟨by rw [GFilter.ok, hb, show used f.C _ = false from all_false (i := m) (by omega) e]; rfl, x⟩
    have go : ∀ {h'}, Ext h h' → usedAt f.C (usesC f.Kind) m = true → (∃ m_1 : Nat, ((q, usesC f.Kind, usesS f.Kind, IntKind.i64.wrap ((m : Int) + 1)) : Addr × Int × Int × Int) = (q, usesC f.Kind, usesS f.Kind, (m_1 : Int)) ∧ m_1 ≤ 3 ∧ Ext h h' ∧ ∀ i, i < m_1 → usedAt f.C (usesC f.Kind) i = true) ∧ ((3 : Int) - IntKind.i64.wrap ((m : Int) + 1)).toNat < ((3 : Int) - (m : Int)).toNat := by
      intro h' x e
      rw [wrap64_succ (by omega)]
      refine ⟨⟨m + 1, rfl, by omega, x, fun i hi => ?_⟩, by omega⟩
      by_cases e' : i = m
      · subst e'; exact e
      · exact hf i (by omega)
    refine (l01Finite_c hy).go fun h1 x1 => as_b (br (fun hb => no (X.trans x1) ?_) fun hb => ?_)
    · rw [usedAt, show fin f.C[m]! = false by simpa using hb]; rfl
    have hb : fin f.C[m]! = true := by simpa using hb
    refine brd (fun h2 => ?_) fun h2 => go (X.trans x1) ?_
    · refine idx (by omega) (by omega) ((Ra.ext x1).oF1 fun y hy => (l01Same_c hy fw0).go fun h3 x3 => as_b (br (fun hb3 => no ((X.trans x1).trans x3) ?_) fun hb3 => go ((X.trans x1).trans x3) ?_))
      · rw [usedAt, hb, decide_eq_false (by omega), Bool.true_and, Bool.false_or]
        simpa using hb3
      · rw [usedAt, hb, decide_eq_false (by omega), Bool.true_and, Bool.false_or]
        simpa using hb3
    · rw [usedAt, hb, decide_eq_true (by omega)]; rfl
  have hCu : used f.C (usesC f.Kind) = true := all_true fun i hi => hf i (by omega)
  refine loop (fun x hh => ∃ m : Nat, x = (q, usesS f.Kind, (m : Int)) ∧ m ≤ 2 ∧ Ext h hh ∧ ∀ i, i < m → usedAt f.S (usesS f.Kind) i = true) (fun x => (2 - x.2.2).toNat) ⟨0, rfl, by omega, X, fun i hi => by omega⟩ ?_
  rintro x hh ⟨m, rfl, hn, X, hf⟩
  refine brd (fun hc => ?_) fun hc => ?_
  · refine idx (by omega) (by omega) ?_
    have Ra := ((R.ext X).foc foc_Filter_S).elem (i := m) (by omega)
    refine Ra.oF1 fun y hy => ?_
    have no : ∀ {h'}, Ext h h' → usedAt f.S (usesS f.Kind) m = false → ((Value.bool false = .bool f.ok) ∧ Ext h h') := fun x e => ⟨by rw [GFilter.ok, hb, show used f.S _ = false from all_false (i := m) (by omega) e, Bool.and_false], x⟩
    have go : ∀ {h'}, Ext h h' → usedAt f.S (usesS f.Kind) m = true → (∃ m_1 : Nat, ((q, usesS f.Kind, IntKind.i64.wrap ((m : Int) + 1)) : Addr × Int × Int) = (q, usesS f.Kind, (m_1 : Int)) ∧ m_1 ≤ 2 ∧ Ext h h' ∧ ∀ i, i < m_1 → usedAt f.S (usesS f.Kind) i = true) ∧ ((2 : Int) - IntKind.i64.wrap ((m : Int) + 1)).toNat < ((2 : Int) - (m : Int)).toNat := by
      intro h' x e
      rw [wrap64_succ (by omega)]
      refine ⟨⟨m + 1, rfl, by omega, x, fun i hi => ?_⟩, by omega⟩
      by_cases e' : i = m
      · subst e'; exact e
      · exact hf i (by omega)
    refine (l01Finite_c hy).go fun h1 x1 => as_b (br (fun hb => no (X.trans x1) ?_) fun hb => ?_)
    · rw [usedAt, show fin f.S[m]! = false by simpa using hb]; rfl
    have hb : fin f.S[m]! = true := by simpa using hb
    refine brd (fun h2 => ?_) fun h2 => go (X.trans x1) ?_
    · refine idx (by omega) (by omega) ((Ra.ext x1).oF1 fun y hy => (l01Same_c hy fw0).go fun h3 x3 => as_b (br (fun hb3 => no ((X.trans x1).trans x3) ?_) fun hb3 => go ((X.trans x1).trans x3) ?_))
      · rw [usedAt, hb, decide_eq_false (by omega), Bool.true_and, Bool.false_or]
        simpa using hb3
      · rw [usedAt, hb, decide_eq_false (by omega), Bool.true_and, Bool.false_or]
        simpa using hb3
    · rw [usedAt, hb, decide_eq_true (by omega)]; rfl
  · refine ⟨?_, X⟩
    rw [GFilter.ok, hb, hCu, show used f.S _ = true from all_true fun i hi => hf i (by omega)]; rfl
end Go.Sx
/- Filters moved on; blocks made by a function of their places. -/
set_option linter.unusedVariables false
set_option linter.unusedSimpArgs false
namespace Go.Sx
open Go.Proofs
set_option maxRecDepth 100000

/-- What a step of a filter leaves. -/
def FStep (h0 h' : Heap) (q : Addr) (F : Fr) (L : List Blk) (f : GFilter) (a : Nat) (u : Value) : Prop := (∃ y, u = .float .f32 y ∧ FW .f32 y (f.step a).2) ∧ Pt rFilter h0 h' q F L (f.step a).1
section
variable {h0 h : Heap} {q : Addr} {F : Fr} {L : List Blk} {f : GFilter} {x a : Nat}
theorem FStep.of {f' : GFilter} {b y : Nat} (e : f.step a = (f', b)) (hy : FW .f32 y b) (P : Pt rFilter h0 h q F L f') : FStep h0 h q F L f a (.float .f32 y) := by
  unfold FStep
  rw [e]
  exact ⟨⟨y, rfl, hy⟩, P⟩
set_option maxHeartbeats 2000000 in
end
end Go.Sx
/- A slice that lies in own data taken out with its blocks, and put back changed. -/
set_option linter.unusedVariables false
set_option linter.unusedSimpArgs false
namespace Go.Sx
section
variable {α β : Type} {r : Rep α} {h0 h : Heap} {q : Addr} {F : Fr} {L : List Blk} {a : α} {off e : Nat} {s : Rep β} {get : α → List β} {put : α → List β → α}
theorem Pt.slg (P : Pt r h0 h q F L a) (Fc : Foc r (rSl e s) off get put) : ∃ b l c B N, cell h (q.add off) = some (.slice b l c) ∧ Mem h0 h (B ++ N) ∧ SlO e s B b l c (get a) ∧ L.Sublist N ∧
    ∀ h0' h' B' ys, SlO e s B' b l c ys → Mem h0' h' (B' ++ N) → Pt r h0' h' q F L (put a ys) ∧ cell h' (q.add off) = some (.slice b l c) := by
  obtain ⟨F1, L1, P1, hs, close⟩ := P.foc Fc
  obtain ⟨eq, mid, B, M, b, l, c, rfl, S⟩ := P1
  refine ⟨b, l, c, B, (F1.g, F1.T, ⟨F1.pre ++ ([.slice b l c] ++ F1.post)⟩) :: L1, ?_, M.perm List.perm_middle.symm, S, hs.trans (List.sublist_cons_self _ _), fun h0' h' B' ys S' M' => ?_⟩
  · rw [eq, M.cell .here]; simp
  · have M2 := M'.perm List.perm_middle
    refine ⟨close _ _ _ ⟨eq, [.slice b l c], B', M2, b, l, c, rfl, S'⟩, ?_⟩
    rw [eq, M2.cell .here]; simp
theorem Pt.sl1 (P : Pt r h0 h q F L a) (Fc : Foc r (rSl e s) 0 get put) : ∃ b l c B, ∃ N, cell h q = some (.slice b l c) ∧ Mem h0 h (B ++ N) ∧ SlO e s B b l c (get a) ∧ L.Sublist N ∧
    ∀ h0' h' B' ys, SlO e s B' b l c ys → Mem h0' h' (B' ++ N) → Pt r h0' h' q F L (put a ys) ∧ cell h' q = some (.slice b l c) := by
  have := P.slg Fc
  simpa only [add0] using this
end
end Go.Sx
/- What several structs' contracts have in common: slices of floats made, pairs answered, lists changed place by place. -/
set_option linter.unusedVariables false
set_option linter.unusedSimpArgs false
namespace Go.Sx
open Go.Proofs
set_option maxRecDepth 100000

section
variable {h : Heap} {q : Addr}
theorem take_snoc {α : Type} [Inhabited α] {l : List α} {n : Nat} (h : n < l.length) : l.take (n + 1) = l.take n ++ [l[n]!] := by
  rw [List.take_succ_eq_append_getElem h, getElem!_pos l n h]
theorem zeros_fl (n : Nat) : ows (rF .f32) [] (List.replicate n (.float .f32 0)) (List.replicate n 0) := by
  induction n with
  | zero => exact ⟨rfl, rfl⟩
  | succ n ih => exact ⟨[], [], [.float .f32 0], List.replicate n (.float .f32 0), rfl, rfl, ⟨rfl, 0, rfl, fw0⟩, ih⟩
/-- A slice of zeros, made. -/
theorem make_floats {h0 : Heap} {L : List Blk} {n : Nat} {F : Nat → Heap → Prop} (M : Mem h0 h L) (hn : n ≤ 1048576)
    (H : ∀ g h', Ext h h' → Mem h0 h' ((g, T_float32, ⟨List.replicate n (.float .f32 0)⟩) :: L) → SlO T_float32 (rF .f32) [(g, T_float32, ⟨List.replicate n (.float .f32 0)⟩)] (some ⟨g, 0, none⟩) n n (List.replicate n 0) → F g h') : MKS ti_float32 T_float32 (n : Int) (n : Int) F h := by
  refine mks1 M rfl rfl (by show 4 * n ≤ 2 ^ 48; omega) (by omega) fun g h' x' M' => H g h' x' M' ?_
  have : n ≤ maxLen := by have : (1048576 : Nat) ≤ maxLen := by decide
                          omega
  exact ⟨by simp, List.replicate n (.float .f32 0), [_], [], rfl, ⟨by rw [List.length_replicate, show (rF .f32).sz = 1 from rfl, Nat.mul_one], .inr ⟨g, _, rfl, rfl, Nat.le_refl _, this, by rw [List.size_toArray, List.length_replicate, show (rF .f32).sz = 1 from rfl, Nat.mul_one], by
    rw [List.take_of_length_le]
    show (List.replicate n (Value.float .f32 0)).length ≤ n * 1
    simp⟩⟩, zeros_fl n⟩
end
/-- A pair of a value and a code, told by a call. -/
def PairR {α : Type} (r : Rep α) (h h' : Heap) (u : Value) (a : α) (code : Int) : Prop := ∃ cs B, u = .tuple ⟨[.agg cs, .int .i64 code]⟩ ∧ r.ow B cs.toList a ∧ Mem h h' B
theorem is2 {α : Type} {l : List α} (h : l.length = 2) : ∃ a b, l = [a, b] := by
  match l, h with
  | [a, b], _ => exact ⟨a, b, rfl⟩
end Go.Sx
/- How Pipe lie in cells; their parts; given ones opened. -/
set_option linter.unusedVariables false
set_option linter.unusedSimpArgs false
namespace Go.Sx
open Go.Proofs
def rPipe : Rep GPipe := (Rep.seq (rSl T_impl_Ring rRing) (Rep.seq (rSl T_impl_Ring rRing) (Rep.seq (rSl T_float32 (rF .f32)) (Rep.seq rFilter (Rep.seq rB (Rep.seq (rF .f32) (Rep.seq (rF .f32) ((rF .f32))))))))).via fun a => (a.Right, a.Left, a.Scatter, a.End, a.Open, a.Loss, a.Rest, a.Slope)
theorem foc_Pipe_Right : Foc rPipe (rSl T_impl_Ring rRing) 0 (fun a => a.Right) (fun a b => { a with Right := b }) := (Foc.via (f := fun a : GPipe => (a.Right, a.Left, a.Scatter, a.End, a.Open, a.Loss, a.Rest, a.Slope)) (get' := fun a => a.Right) (put' := fun a b => { a with Right := b }) (Foc.fst (Foc.here (rSl T_impl_Ring rRing))) (fun _ => rfl) (fun _ _ => rfl)).at rfl
theorem foc_Pipe_Left : Foc rPipe (rSl T_impl_Ring rRing) 1 (fun a => a.Left) (fun a b => { a with Left := b }) := (Foc.via (f := fun a : GPipe => (a.Right, a.Left, a.Scatter, a.End, a.Open, a.Loss, a.Rest, a.Slope)) (get' := fun a => a.Left) (put' := fun a b => { a with Left := b }) (Foc.snd (Foc.fst (Foc.here (rSl T_impl_Ring rRing)))) (fun _ => rfl) (fun _ _ => rfl)).at rfl
theorem foc_Pipe_Scatter : Foc rPipe (rSl T_float32 (rF .f32)) 2 (fun a => a.Scatter) (fun a b => { a with Scatter := b }) := (Foc.via (f := fun a : GPipe => (a.Right, a.Left, a.Scatter, a.End, a.Open, a.Loss, a.Rest, a.Slope)) (get' := fun a => a.Scatter) (put' := fun a b => { a with Scatter := b }) (Foc.snd (Foc.snd (Foc.fst (Foc.here (rSl T_float32 (rF .f32)))))) (fun _ => rfl) (fun _ _ => rfl)).at rfl
theorem foc_Pipe_End : Foc rPipe rFilter 3 (fun a => a.End) (fun a b => { a with End := b }) := (Foc.via (f := fun a : GPipe => (a.Right, a.Left, a.Scatter, a.End, a.Open, a.Loss, a.Rest, a.Slope)) (get' := fun a => a.End) (put' := fun a b => { a with End := b }) (Foc.snd (Foc.snd (Foc.snd (Foc.fst (Foc.here rFilter))))) (fun _ => rfl) (fun _ _ => rfl)).at rfl
theorem foc_Pipe_Open : Foc rPipe rB 9 (fun a => a.Open) (fun a b => { a with Open := b }) := (Foc.via (f := fun a : GPipe => (a.Right, a.Left, a.Scatter, a.End, a.Open, a.Loss, a.Rest, a.Slope)) (get' := fun a => a.Open) (put' := fun a b => { a with Open := b }) (Foc.snd (Foc.snd (Foc.snd (Foc.snd (Foc.fst (Foc.here rB)))))) (fun _ => rfl) (fun _ _ => rfl)).at rfl
theorem foc_Pipe_Loss : Foc rPipe (rF .f32) 10 (fun a => a.Loss) (fun a b => { a with Loss := b }) := (Foc.via (f := fun a : GPipe => (a.Right, a.Left, a.Scatter, a.End, a.Open, a.Loss, a.Rest, a.Slope)) (get' := fun a => a.Loss) (put' := fun a b => { a with Loss := b }) (Foc.snd (Foc.snd (Foc.snd (Foc.snd (Foc.snd (Foc.fst (Foc.here (rF .f32)))))))) (fun _ => rfl) (fun _ _ => rfl)).at rfl
theorem foc_Pipe_Rest : Foc rPipe (rF .f32) 11 (fun a => a.Rest) (fun a b => { a with Rest := b }) := (Foc.via (f := fun a : GPipe => (a.Right, a.Left, a.Scatter, a.End, a.Open, a.Loss, a.Rest, a.Slope)) (get' := fun a => a.Rest) (put' := fun a b => { a with Rest := b }) (Foc.snd (Foc.snd (Foc.snd (Foc.snd (Foc.snd (Foc.snd (Foc.fst (Foc.here (rF .f32))))))))) (fun _ => rfl) (fun _ _ => rfl)).at rfl
theorem foc_Pipe_Slope : Foc rPipe (rF .f32) 12 (fun a => a.Slope) (fun a b => { a with Slope := b }) := (Foc.via (f := fun a : GPipe => (a.Right, a.Left, a.Scatter, a.End, a.Open, a.Loss, a.Rest, a.Slope)) (get' := fun a => a.Slope) (put' := fun a b => { a with Slope := b }) (Foc.snd (Foc.snd (Foc.snd (Foc.snd (Foc.snd (Foc.snd (Foc.snd (Foc.here (rF .f32))))))))) (fun _ => rfl) (fun _ _ => rfl)).at rfl
def z_Pipe : GPipe := ⟨[], [], [], z_Filter, false, 0, 0, 0⟩
theorem zow_Pipe : rPipe.ow [] [Value.slice none 0 0, Value.slice none 0 0, Value.slice none 0 0, Value.int .i64 (0 : Int), Value.float .f32 0, Value.float .f32 0, Value.float .f32 0, Value.float .f32 0, Value.float .f32 0, Value.bool false, Value.float .f32 0, Value.float .f32 0, Value.float .f32 0] z_Pipe := ⟨[], [], [Value.slice none 0 0], [Value.slice none 0 0, Value.slice none 0 0, Value.int .i64 (0 : Int), Value.float .f32 0, Value.float .f32 0, Value.float .f32 0, Value.float .f32 0, Value.float .f32 0, Value.bool false, Value.float .f32 0, Value.float .f32 0, Value.float .f32 0], rfl, rfl, ⟨none, 0, 0, rfl, SlO.nil⟩, ⟨[], [], [Value.slice none 0 0], [Value.slice none 0 0, Value.int .i64 (0 : Int), Value.float .f32 0, Value.float .f32 0, Value.float .f32 0, Value.float .f32 0, Value.float .f32 0, Value.bool false, Value.float .f32 0, Value.float .f32 0, Value.float .f32 0], rfl, rfl, ⟨none, 0, 0, rfl, SlO.nil⟩, ⟨[], [], [Value.slice none 0 0], [Value.int .i64 (0 : Int), Value.float .f32 0, Value.float .f32 0, Value.float .f32 0, Value.float .f32 0, Value.float .f32 0, Value.bool false, Value.float .f32 0, Value.float .f32 0, Value.float .f32 0], rfl, rfl, ⟨none, 0, 0, rfl, SlO.nil⟩, ⟨[], [], [Value.int .i64 (0 : Int), Value.float .f32 0, Value.float .f32 0, Value.float .f32 0, Value.float .f32 0, Value.float .f32 0], [Value.bool false, Value.float .f32 0, Value.float .f32 0, Value.float .f32 0], rfl, rfl, zow_Filter, ⟨[], [], [Value.bool false], [Value.float .f32 0, Value.float .f32 0, Value.float .f32 0], rfl, rfl, ⟨rfl, rfl⟩, ⟨[], [], [Value.float .f32 0], [Value.float .f32 0, Value.float .f32 0], rfl, rfl, ⟨rfl, 0, rfl, fw_c32 (by decide) (by decide)⟩, ⟨[], [], [Value.float .f32 0], [Value.float .f32 0], rfl, rfl, ⟨rfl, 0, rfl, fw_c32 (by decide) (by decide)⟩, ⟨rfl, 0, rfl, fw_c32 (by decide) (by decide)⟩⟩⟩⟩⟩⟩⟩⟩
instance lf_Pipe_0 : FocC rPipe 0 (rSl T_impl_Ring rRing) (fun a => a.Right) (fun a b => { a with Right := b }) := ⟨Foc.at foc_Pipe_Right rfl⟩
instance lf_Pipe_1 : FocC rPipe 1 (rSl T_impl_Ring rRing) (fun a => a.Left) (fun a b => { a with Left := b }) := ⟨Foc.at foc_Pipe_Left rfl⟩
instance lf_Pipe_2 : FocC rPipe 2 (rSl T_float32 (rF .f32)) (fun a => a.Scatter) (fun a b => { a with Scatter := b }) := ⟨Foc.at foc_Pipe_Scatter rfl⟩
instance lf_Pipe_3 : FocC rPipe 3 (rI .i64) (fun a => a.End.Kind) (fun a b => { a with End := { a.End with Kind := b } }) := ⟨Foc.at (foc_Pipe_End.trans lf_Filter_0.f) rfl⟩
instance lf_Pipe_4 : FocC rPipe 4 (rF .f32) (fun a => a.End.C[0]!) (fun a b => { a with End := { a.End with C := a.End.C.set 0 b } }) := ⟨Foc.at (foc_Pipe_End.trans lf_Filter_1.f) rfl⟩
instance lf_Pipe_5 : FocC rPipe 5 (rF .f32) (fun a => a.End.C[1]!) (fun a b => { a with End := { a.End with C := a.End.C.set 1 b } }) := ⟨Foc.at (foc_Pipe_End.trans lf_Filter_2.f) rfl⟩
instance lf_Pipe_6 : FocC rPipe 6 (rF .f32) (fun a => a.End.C[2]!) (fun a b => { a with End := { a.End with C := a.End.C.set 2 b } }) := ⟨Foc.at (foc_Pipe_End.trans lf_Filter_3.f) rfl⟩
instance lf_Pipe_7 : FocC rPipe 7 (rF .f32) (fun a => a.End.S[0]!) (fun a b => { a with End := { a.End with S := a.End.S.set 0 b } }) := ⟨Foc.at (foc_Pipe_End.trans lf_Filter_4.f) rfl⟩
instance lf_Pipe_8 : FocC rPipe 8 (rF .f32) (fun a => a.End.S[1]!) (fun a b => { a with End := { a.End with S := a.End.S.set 1 b } }) := ⟨Foc.at (foc_Pipe_End.trans lf_Filter_5.f) rfl⟩
instance lf_Pipe_9 : FocC rPipe 9 rB (fun a => a.Open) (fun a b => { a with Open := b }) := ⟨Foc.at foc_Pipe_Open rfl⟩
instance lf_Pipe_10 : FocC rPipe 10 (rF .f32) (fun a => a.Loss) (fun a b => { a with Loss := b }) := ⟨Foc.at foc_Pipe_Loss rfl⟩
instance lf_Pipe_11 : FocC rPipe 11 (rF .f32) (fun a => a.Rest) (fun a b => { a with Rest := b }) := ⟨Foc.at foc_Pipe_Rest rfl⟩
instance lf_Pipe_12 : FocC rPipe 12 (rF .f32) (fun a => a.Slope) (fun a b => { a with Slope := b }) := ⟨Foc.at foc_Pipe_Slope rfl⟩
end Go.Sx
