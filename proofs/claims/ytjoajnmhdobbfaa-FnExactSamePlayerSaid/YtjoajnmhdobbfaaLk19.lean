/- The rule's comparisons of bows, instruments. -/
import Derived.Test.YtjoajnmhdobbfaaLk18
set_option linter.unusedVariables false
set_option linter.unusedSimpArgs false
namespace Go.Sx
open Go.Proofs
set_option maxRecDepth 100000
set_option maxHeartbeats 1000000

section
variable {h : Heap}
theorem rings2 {h : Heap} {ca cb : Array Value} {a b : GRing} (Ra : rRing.rd h ca.toList a) (Rb : rRing.rd h cb.toList b) {T : Nat} {K : Nat → Heap → Prop} (H : ∀ g h', Ext h h' → SlR rRing h' (some ⟨g, 0, none⟩) 2 2 [a, b] → K g h') :
    ALC ⟨(splice 2 2 cb (splice 0 2 ca [.slice none 0 0, .int .i64 (0 : Int), .slice none 0 0, .int .i64 (0 : Int)]))⟩ T K h := by
  have sa : ca.toList.length = 2 := by have := rRing.rlen Ra; exact this
  have sb : cb.toList.length = 2 := by have := rRing.rlen Rb; exact this
  obtain ⟨a1, a2, ea⟩ := is2 sa
  obtain ⟨b1, b2, eb⟩ := is2 sb
  have e : splice 2 2 cb (splice 0 2 ca [.slice none 0 0, .int .i64 (0 : Int), .slice none 0 0, .int .i64 (0 : Int)]) = ca.toList ++ (cb.toList ++ []) := by unfold splice; rw [ea, eb]; rfl
  rw [e]
  exact rArr_slr (r := rRing) (n := 2) (xs := [a, b]) ⟨rfl, _, _, rfl, Ra, _, _, rfl, Rb, rfl⟩ (by decide) H
theorem l04SameRings2_c {b1 b2 : Option Addr} {l1 c1 l2 c2 : Nat} {a b c d : GRing} (S1 : SlR rRing h b1 l1 c1 [a, b]) (S2 : SlR rRing h b2 l2 c2 [c, d]) :
    CALL prg f_spec_l04SameRings #[.slice b1 l1 c1, .slice b2 l2 c2] (fun u h' => u = .bool (same a c && same b d) ∧ Ext h h') h := by
  rw [← same_R2]; exact l04SameRings_c S1 S2
theorem l05SameBow_c {p q : Addr} {x y : GBow} (A0 : RdP rBow h p x) (B0 : RdP rBow h q y) : CALL prg f_spec_l05SameBow #[.pointer (some p), .pointer (some q)] (fun u h' => u = .bool (same x y) ∧ Ext h h') h := by
  have X0 := Ext.refl h
  have E0 := Ext.refl h
  have A : ∀ {hh : Heap}, Ext h hh → RdP rBow hh p x := fun e => A0.ext e
  have B : ∀ {hh : Heap}, Ext h hh → RdP rBow hh q y := fun e => B0.ext e
  refine spec_l05SameBow.call ((A0.fst foc_Bow_Neck).lda1 rfl fun c1 R1 => A0.lda foc_Bow_Bridge rfl fun c2 R2 => (B0.fst foc_Bow_Neck).lda1 rfl fun c3 R3 => B0.lda foc_Bow_Bridge rfl fun c4 R4 => ?_)
  have s1 : c1.size = 2 := rsz R1 rfl
  have s2 : c2.size = 2 := rsz R2 rfl
  have s3 : c3.size = 2 := rsz R3 rfl
  have s4 : c4.size = 2 := rsz R4 rfl
  refine ⟨siz s1 (siz s2 (rings2 R1 R2 fun g5 h6 x6 S5 => B0.pinO (off := 2) (by decide) x6 (B0.pin0 (by decide) x6 (siz s3 (siz s4 (rings2 (rRing.ext x6 R3) (rRing.ext x6 R4) fun g7 h8 x8 S7 => A0.pinO (off := 2) (by decide) (x6.trans x8) (A0.pin0 (by decide) (x6.trans x8) ?_))))))),
    siz s3 (siz s4 (rings2 R3 R4 fun g5 h6 x6 S5 => A0.pinO (off := 2) (by decide) x6 (A0.pin0 (by decide) x6 (siz s1 (siz s2 (rings2 (rRing.ext x6 R1) (rRing.ext x6 R2) fun g7 h8 x8 S7 => B0.pinO (off := 2) (by decide) (x6.trans x8) (B0.pin0 (by decide) (x6.trans x8) ?_)))))))⟩
  all_goals
    replace S5 := S5.ext x8
    have E8 := x6.trans x8
    clear x6 x8
    (repeat' (first
      | exact (Bool.false_ne_true hb).elim
      | refine as_b ?_
      | refine pin_same ?_
      | refine RdP.lda1 ((A (by assumption)).fst foc_Bow_Neck) rfl fun _ _ => ?_
      | refine RdP.lda (A (by assumption)) foc_Bow_Bridge rfl fun _ _ => ?_
      | refine RdP.lda (A (by assumption)) foc_Bow_Damp rfl fun _ _ => ?_
      | refine RdP.oF (A (by assumption)) fun _ _ => ?_
      | refine RdP.lda1 ((B (by assumption)).fst foc_Bow_Neck) rfl fun _ _ => ?_
      | refine RdP.lda (B (by assumption)) foc_Bow_Bridge rfl fun _ _ => ?_
      | refine RdP.lda (B (by assumption)) foc_Bow_Damp rfl fun _ _ => ?_
      | refine RdP.oF (B (by assumption)) fun _ _ => ?_
      | refine RdP.lda1 (A (by assumption)) rfl fun _ _ => ?_
      | refine RdP.lda1 (B (by assumption)) rfl fun _ _ => ?_
      | refine goE (by assumption) (l01Same_c (by assumption) (by assumption) _) fun _ _ => ?_
      | refine goE (by assumption) (l04SameRings2_c (by assumption) (by assumption)) fun _ _ => ?_
      | refine goE (by assumption) (l02Same_c ((A (by assumption)).foc foc_Bow_Damp) ((B (by assumption)).foc foc_Bow_Damp)) fun _ _ => ?_
      | refine brN (fun hb => ?_) (fun hb => ?_)
      | refine br (fun hb => ?_) (fun hb => ?_)
      | exact ⟨by rw [same_Bow]; simp [*], X0.trans (by assumption)⟩))
theorem l08SameInstruments_c {b1 b2 : Option Addr} {l1 c1 l2 c2 : Nat} {xs ys : List GInstrument} (S1 : SlR rInstrument h b1 l1 c1 xs) (S2 : SlR rInstrument h b2 l2 c2 ys) :
    CALL prg f_spec_l08SameInstruments #[.slice b1 l1 c1, .slice b2 l2 c2] (fun u h' => u = .bool (same xs ys) ∧ Ext h h') h := by
  have e1 := S1.len
  have e2 := S2.len
  have h2 := S1.2.1
  have h3 := S1.2.2.1
  have := maxLen_lt
  refine spec_l08SameInstruments.call (br (fun hb => ⟨by rw [same_len (by simp at hb; omega)], Ext.refl _⟩) fun hb => ?_)
  obtain rfl : l1 = l2 := by simp at hb; omega
  clear hb
  refine loop (fun x hh => ∃ n : Nat, x = (b1, l1, c1, b2, l1, c2, (n : Int)) ∧ n ≤ l1 ∧ Ext h hh ∧ ∀ i, i < n → same xs[i]! ys[i]! = true) (fun x => (l1 - x.2.2.2.2.2.2).toNat) ⟨0, rfl, by omega, Ext.refl _, fun i hi => by omega⟩ ?_
  rintro x hh ⟨n, rfl, hn, X, hs⟩
  refine brd (fun hc => ?_) fun hc => ⟨by rw [same_all (by omega) fun i hi => hs i (by omega)], X⟩
  have A : ∀ {h' : Heap} {K : Addr → Prop}, Ext h h' → (∀ a, RdP rInstrument h' (a.add (n * 5)) xs[n]! → K a) → IDXS b1 (n : Int) l1 K := fun e H => (S1.ext e).idx (by decide) (by omega) (by omega) H
  have B : ∀ {h' : Heap} {K : Addr → Prop}, Ext h h' → (∀ a, RdP rInstrument h' (a.add (n * 5)) ys[n]! → K a) → IDXS b2 (n : Int) l1 K := fun e H => (S2.ext e).idx (by decide) (by omega) (by omega) H
  have no : ∀ {h' : Heap}, Ext h h' → same xs[n]! ys[n]! = false → (Value.bool false = .bool (same xs ys) ∧ Ext h h') := fun e hb => ⟨by rw [same_at hb], e⟩
  have ok : ∀ {h' : Heap}, Ext h h' → same xs[n]! ys[n]! = true → (∃ m : Nat, ((b1, l1, c1, b2, l1, c2, IntKind.i64.wrap ((n : Int) + 1)) : Option Addr × Nat × Nat × Option Addr × Nat × Nat × Int) = (b1, l1, c1, b2, l1, c2, (m : Int)) ∧ m ≤ l1 ∧ Ext h h' ∧ ∀ i, i < m → same xs[i]! ys[i]! = true) ∧ ((l1 : Int) - IntKind.i64.wrap ((n : Int) + 1)).toNat < ((l1 : Int) - (n : Int)).toNat := fun e hb => by
    refine ⟨⟨n + 1, by rw [wrap64_succ (by omega)], by omega, e, fun i hi => ?_⟩, by rw [wrap64_succ (by omega)]; omega⟩
    by_cases e : i = n
    · subst e; exact hb
    · exact hs i (by omega)
  have d1 := same_Instrument xs[n]! ys[n]!
  clear hs
  simp only [bne]
  refine A X fun a R1 => R1.oS1 fun _ => B X fun b R2 => R2.oS1 fun _ => br (fun hb => no X (by rw [d1, nt hb]; rfl)) fun k1 => ?_
  refine A X fun a R1 => R1.oI (B X fun b R2 => R2.oI (br (fun hb => no X (by rw [d1, nf k1, show (xs[n]!.Kind == ys[n]!.Kind) = false from nt hb]; rfl)) fun k2 => ?_))
  refine A X fun a R1 => R1.oF fun w1 j1 => B X fun b R2 => R2.oF fun w2 j2 => goE X (l01Same_c j1 j2 _) fun h8 X => as_b (br (fun hb => no X (by rw [d1, nf k1, show (xs[n]!.Kind == ys[n]!.Kind) = true from nf k2, nt hb]; rfl)) fun k3 => ?_)
  refine A X fun a R1 => R1.oF fun w1 j1 => B X fun b R2 => R2.oF fun w2 j2 => goE X (l01Same_c j1 j2 _) fun h8 X => as_b (br (fun hb => no X (by rw [d1, nf k1, show (xs[n]!.Kind == ys[n]!.Kind) = true from nf k2, nf k3, nt hb]; rfl)) fun k4 => ?_)
  refine A X fun a R1 => R1.oF fun w1 j1 => B X fun b R2 => R2.oF fun w2 j2 => goE X (l01Same_c j1 j2 _) fun h8 X => as_b (br (fun hb => no X (by rw [d1, nf k1, show (xs[n]!.Kind == ys[n]!.Kind) = true from nf k2, nf k3, nf k4, nt hb]; rfl)) fun k5 => ok X (by rw [d1, nf k1, show (xs[n]!.Kind == ys[n]!.Kind) = true from nf k2, nf k3, nf k4, nf k5]; rfl))
end
end Go.Sx
