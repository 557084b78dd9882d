/- The rule's comparisons of rings, filters, strings, pipes. -/
import Derived.Test.YthgnpepchedpbaaGreatLr4
import Derived.Test.YthgnpepchedpbaaGreatLk32
import Derived.Test.YthgnpepchedpbaaGreatLk7
import Derived.Test.YthgnpepchedpbaaGreatLq2
import Derived.Test.YthgnpepchedpbaaGreatTab
import Derived.Test.YthgnpepchedpbaaGreatLf8
import Derived.Test.YthgnpepchedpbaaGreatLk3
import Derived.Test.YthgnpepchedpbaaGreatLp7
set_option linter.unusedVariables false
set_option linter.unusedSimpArgs false
namespace Go.Sx
open Go.Proofs
set_option maxRecDepth 100000
set_option maxHeartbeats 1000000

section
variable {h : Heap}
theorem l02SameList_c {b1 b2 : Option Addr} {l1 c1 l2 c2 : Nat} {xs ys : List Nat} (S1 : SlR (rF .f32) h b1 l1 c1 xs) (S2 : SlR (rF .f32) h b2 l2 c2 ys) :
    CALL prg f_spec_l02SameList #[.slice b1 l1 c1, .slice b2 l2 c2] (fun u h' => u = .bool (same xs ys) ∧ Ext h h') h := by
  have e1 := S1.len
  have e2 := S2.len
  have h2 := S1.2.1
  have h3 := S1.2.2.1
  have := maxLen_lt
  refine spec_l02SameList.call (br (fun hb => ⟨by rw [same_len (by simp at hb; omega)], Ext.refl _⟩) fun hb => ?_)
  obtain rfl : l1 = l2 := by simp at hb; omega
  refine loop (fun x hh => ∃ n : Nat, x = (b1, l1, c1, b2, l1, c2, (n : Int)) ∧ n ≤ l1 ∧ Ext h hh ∧ ∀ i, i < n → same xs[i]! ys[i]! = true) (fun x => (l1 - x.2.2.2.2.2.2).toNat) ⟨0, rfl, by omega, Ext.refl _, fun i hi => by omega⟩ ?_
  rintro x hh ⟨n, rfl, hn, X, hs⟩
  refine brd (fun hc => ?_) fun hc => ⟨by rw [same_all (by omega) fun i hi => hs i (by omega)], X⟩
  refine (S1.ext X).idx (by decide) (by omega) (by omega) fun a Ra => Ra.oF1 fun y hy => (S2.ext X).idx (by decide) (by omega) (by omega) fun a' Rb => Rb.oF1 fun z hz => goE X (l01Same_c hy hz _) fun h8 x8 => as_b (br (fun hb => ⟨?_, x8⟩) fun hb => ?_)
  · have hb := nt hb
    rw [same_nat] at hb
    rw [same_at hb]
  · have hb := nf hb
    rw [same_nat] at hb
    refine ⟨⟨n + 1, by rw [wrap64_succ (by omega)], by omega, x8, fun i hi => ?_⟩, by rw [wrap64_succ (by omega)]; show _ < _; simp; omega⟩
    by_cases e : i = n
    · subst e; exact hb
    · exact hs i (by omega)
theorem l04SameRings_c {b1 b2 : Option Addr} {l1 c1 l2 c2 : Nat} {xs ys : List GRing} (S1 : SlR rRing h b1 l1 c1 xs) (S2 : SlR rRing h b2 l2 c2 ys) :
    CALL prg f_spec_l04SameRings #[.slice b1 l1 c1, .slice b2 l2 c2] (fun u h' => u = .bool (same xs ys) ∧ Ext h h') h := by
  have e1 := S1.len
  have e2 := S2.len
  have h2 := S1.2.1
  have h3 := S1.2.2.1
  have := maxLen_lt
  refine spec_l04SameRings.call (br (fun hb => ⟨by rw [same_len (by simp at hb; omega)], Ext.refl _⟩) fun hb => ?_)
  obtain rfl : l1 = l2 := by simp at hb; omega
  refine loop (fun x hh => ∃ n : Nat, x = (b1, l1, c1, b2, l1, c2, (n : Int)) ∧ n ≤ l1 ∧ Ext h hh ∧ ∀ i, i < n → same xs[i]! ys[i]! = true) (fun x => (l1 - x.2.2.2.2.2.2).toNat) ⟨0, rfl, by omega, Ext.refl _, fun i hi => by omega⟩ ?_
  rintro x hh ⟨n, rfl, hn, X, hs⟩
  refine brd (fun hc => ?_) fun hc => ⟨by rw [same_all (by omega) fun i hi => hs i (by omega)], X⟩
  refine (S1.ext X).idx (by decide) (by omega) (by omega) fun a Ra => Ra.oI ((S2.ext X).idx (by decide) (by omega) (by omega) fun a' Rb => Rb.oI (br (fun hb => ⟨?_, X⟩) fun hb => ?_))
  · have hb : (xs[n]!.At == ys[n]!.At) = false := nt hb
    rw [same_at (i := n) (by rw [same_Ring, hb, Bool.and_false])]
  · have hb : (xs[n]!.At == ys[n]!.At) = true := nf hb
    refine (S1.ext X).idx (by decide) (by omega) (by omega) fun a Ra => Ra.oL1 fun b3 l3 c3 S3 => (S2.ext X).idx (by decide) (by omega) (by omega) fun a' Rb => Rb.oL1 fun b4 l4 c4 S4 => goE X (l02SameList_c S3 S4) fun h8 x8 => as_b (br (fun hb2 => ⟨?_, x8⟩) fun hb2 => ?_)
    · have hb2 : same xs[n]!.Samples ys[n]!.Samples = false := nt hb2
      rw [same_at (i := n) (by rw [same_Ring, hb2, Bool.false_and])]
    · have hb2 : same xs[n]!.Samples ys[n]!.Samples = true := nf hb2
      refine ⟨⟨n + 1, by rw [wrap64_succ (by omega)], by omega, x8, fun i hi => ?_⟩, by rw [wrap64_succ (by omega)]; show _ < _; simp; omega⟩
      by_cases e : i = n
      · subst e; rw [same_Ring, hb, hb2]; rfl
      · exact hs i (by omega)
theorem l02Same_c {p q : Addr} {x y : GFilter} (A0 : RdP rFilter h p x) (B0 : RdP rFilter h q y) : CALL prg f_spec_l02Same #[.pointer (some p), .pointer (some q)] (fun u h' => u = .bool (same x y) ∧ Ext h h') h := by
  have hC := (A0.foc foc_Filter_C).len
  have hC' := (B0.foc foc_Filter_C).len
  have hS := same_S2 (A0.foc foc_Filter_S).len (B0.foc foc_Filter_S).len
  refine spec_l02Same.call (A0.oI1 (B0.oI1 (br (fun hb => ⟨by rw [same_Filter, show (x.Kind == y.Kind) = false from nt hb]; rfl, Ext.refl _⟩) fun hk => ?_)))
  have hk : (x.Kind == y.Kind) = true := nf hk
  refine loop (fun z hh => ∃ n : Nat, z = (p, q, (n : Int)) ∧ n ≤ 3 ∧ Ext h hh ∧ ∀ i, i < n → same x.C[i]! y.C[i]! = true) (fun z => (3 - z.2.2).toNat) ⟨0, rfl, by omega, Ext.refl _, fun i hi => by omega⟩ ?_
  rintro z hh ⟨n, rfl, hn, X, hs⟩
  refine brd (fun hc => ?_) fun hc => ?_
  · refine idx (by omega) (by omega) ((((A0.ext X).foc foc_Filter_C).elem (i := n) (by omega)).oF1 fun a ha => idx (by omega) (by omega) ((((B0.ext X).foc foc_Filter_C).elem (i := n) (by omega)).oF1 fun b hb => goE X (l01Same_c ha hb _) fun h8 x8 => as_b (br (fun hb => ⟨?_, x8⟩) fun hb => ?_)))
    · have hb := nt hb
      rw [same_nat] at hb
      rw [same_Filter, same_at hb, Bool.and_false, Bool.false_and]
    · have hb := nf hb
      rw [same_nat] at hb
      refine ⟨⟨n + 1, by rw [wrap64_succ (by omega)], by omega, x8, fun i hi => ?_⟩, by rw [wrap64_succ (by omega)]; show _ < _; simp; omega⟩
      by_cases e : i = n
      · subst e; exact hb
      · exact hs i (by omega)
  · have hCC : same x.C y.C = true := same_all (by omega) fun i hi => hs i (by omega)
    refine idx (by omega) (by omega) ((A0.ext X).oF fun a ha => idx (by omega) (by omega) ((B0.ext X).oF fun b hb => goE X (l01Same_c ha hb _) fun h8 x8 => as_b (br (fun hz => ?_) fun hz => ⟨?_, x8⟩)))
    · refine idx (by omega) (by omega) ((A0.ext x8).oF fun a ha => idx (by omega) (by omega) ((B0.ext x8).oF fun b hb => goE x8 (l01Same_c ha hb _) fun h9 x9 => as_b ⟨?_, x9⟩))
      rw [same_Filter, hk, hCC, hS, hz]; rfl
    · rw [same_Filter, hk, hCC, hS, hz]; rfl
end
end Go.Sx
/- Bodies of voices: none there, or good ones. -/
set_option linter.unusedVariables false
set_option linter.unusedSimpArgs false
namespace Go.Sx
open Go.Proofs
set_option maxRecDepth 100000
set_option maxHeartbeats 1000000

section
variable {h : Heap} {q : Addr}
def GString.ok (x : GString) : Bool := x.Loop.ok && (x.Tune.ok && x.Tune.Kind == 3) && (x.Damp.ok && x.Damp.Kind == 2) && fin x.Loss
def GBow.ok (x : GBow) : Bool := x.Neck.okf && x.Bridge.okf && (x.Damp.ok && x.Damp.Kind == 1) && (fin x.Slope && fin x.Loss)
end
end Go.Sx
/- Voices: the rule's and the program's. -/
set_option linter.unusedVariables false
set_option linter.unusedSimpArgs false
namespace Go.Sx
open Go.Proofs
set_option maxRecDepth 100000
set_option maxHeartbeats 2000000

noncomputable def freeOk (v : GVoice) : Bool := same v.String z_String && same v.Pipe z_Pipe && same v.Bow z_Bow && (v.Instrument == 0) && (v.Born == 0) && !v.Gone && (v.Drive == 0)
noncomputable def bodyOk (s : GScore) (v : GVoice) : Bool :=
  if s.Instruments[v.Instrument.toNat]!.Kind = 1 then v.String.ok && same v.Pipe z_Pipe && same v.Bow z_Bow else if s.Instruments[v.Instrument.toNat]!.Kind = 2 then same v.String z_String && v.Pipe.ok && same v.Bow z_Bow else same v.String z_String && same v.Pipe z_Pipe && v.Bow.ok
noncomputable def voiceOk (s : GScore) (v : GVoice) : Bool := if v.Note = -1 then freeOk v else match startEv s.Events v.Note with | none => false | some e => (e.Instrument == v.Instrument) && (e.At == v.Born) && fin v.Drive && bodyOk s v
theorem score_ev {s : GScore} (h : s.ok = true) : EvGood s.Events s.Instruments.length := by
  unfold GScore.ok at h
  rw [Bool.and_eq_true] at h
  exact evOk_iff.1 h.2
section
variable {h : Heap}
theorem flat_Event : Flat rEvent := flat_via (flat_seq (flat_I _) (flat_seq (flat_I _) (flat_seq (flat_I _) (flat_seq (flat_I _) (flat_seq (flat_I _) (flat_F _))))))
/-- What a search for a note's start answers. -/
def StartR (h : Heap) (es : List GEvent) (n : Int) (u : Value) : Prop := ∃ cs : Array Value, u = .tuple ⟨[.agg cs, .bool (startEv es n).isSome]⟩ ∧ rEvent.rd h cs.toList ((startEv es n).getD z_Event)
theorem StartR.no {es : List GEvent} {n : Int} (e : startEv es n = none) : StartR h es n (.tuple ⟨[.agg ⟨[.int .i64 (0 : Int), .int .i64 (0 : Int), .int .i64 (0 : Int), .int .i64 (0 : Int), .int .i64 (0 : Int), .float .f32 0]⟩, .bool false]⟩) :=
  ⟨_, by rw [e]; rfl, by rw [e]; exact rEvent.look zow_Event (Mem.start h) (List.nil_sublist _)⟩
theorem StartR.yes {es : List GEvent} {n : Int} {e : GEvent} {cs : Array Value} {h0 : Heap} (he : startEv es n = some e) (R : rEvent.rd h0 cs.toList e) : StartR h es n (.tuple ⟨[.agg cs, .bool true]⟩) :=
  ⟨cs, by rw [he]; rfl, by rw [he]; exact rEvent.look (flat_Event _ _ _ R) (Mem.start h) (List.nil_sublist _)⟩
end
end Go.Sx
/- Strings plucked. -/
set_option linter.unusedVariables false
set_option linter.unusedSimpArgs false
namespace Go.Sx
open Go.Proofs Ieee
set_option maxRecDepth 100000
set_option maxHeartbeats 1000000

/-- Where the sample lies that is the i-th, the oldest being the first. -/
def turnAt (r : GRing) (i : Nat) : Nat := ((r.At + (i : Int)) % r.len).toNat
/-- A ring whose first i samples are changed. -/
def chg (f : Nat → Nat → Nat) (r : GRing) : Nat → GRing
  | 0 => r
  | i + 1 => ⟨(chg f r i).Samples.set (turnAt r i) (f i (chg f r i).Samples[turnAt r i]!), r.At⟩
def pluckD (n p f i : Nat) : Nat := fmul .f32 f (if flt .f32 (FloatKind.f32.nearest ((i : Nat) : Int)) p then fdiv .f32 (FloatKind.f32.nearest ((i : Nat) : Int)) p else fdiv .f32 (fsub .f32 n (FloatKind.f32.nearest ((i : Nat) : Int))) (fsub .f32 n p))
def pluckF (n p f i a : Nat) : Nat := fadd .f32 a (pluckD n p f i)
def GString.plucked (x : GString) (pl f : Nat) : GString := { x with Loop := chg (pluckF (FloatKind.f32.nearest ((x.Loop.Samples.length : Nat) : Int)) (fmul .f32 pl (FloatKind.f32.nearest ((x.Loop.Samples.length : Nat) : Int))) f) x.Loop x.Loop.Samples.length }
def GString.pluck (x : GString) (pl f : Nat) : GString × Int := if x.ok then if place pl then if fin f then (x.plucked pl f, 0) else (z_String, 2) else (z_String, 2) else (z_String, 1)
end Go.Sx
/- Whole parts of periods; new bows. -/
set_option linter.unusedVariables false
set_option linter.unusedSimpArgs false
namespace Go.Sx
open Go.Proofs Ieee
set_option maxRecDepth 100000
set_option maxHeartbeats 1000000

def floorZ (a : Nat) : Int := if flt .f32 a 1232348160 then ((floorN a : Nat) : Int) else 0
def bowN (p : Int) : Int := if p / 8 < 1 then 1 else p / 8
def bowOf (p : Int) (k l s : Nat) : GBow := { Neck := ⟨List.replicate (p - bowN p).toNat 0, 0⟩, Bridge := ⟨List.replicate (bowN p).toNat 0, 0⟩, Damp := onePole k, Slope := s, Loss := l }
def newBow (p : Int) (k l s : Nat) : GBow × Int := if inR p 2 1024 then if place k then if inside l 0 1065353216 then if fin s then (bowOf p k l s, 0) else (z_Bow, 2) else (z_Bow, 2) else (z_Bow, 2) else (z_Bow, 2)
theorem c8 : FW .f32 1040187392 1040187392 := fw_c32 (by decide) (by decide)
end Go.Sx
/- New bows: the rule's and the program's. -/
set_option linter.unusedVariables false
set_option linter.unusedSimpArgs false
namespace Go.Sx
open Go.Proofs Ieee
set_option maxRecDepth 100000
set_option maxHeartbeats 2000000

section
variable {h : Heap} {x a : Nat}
theorem l00Max_c (a b : Int) : Ret prg f_spec_l00Max #[.int .i64 a, .int .i64 b] (.int .i64 (if b < a then a else b)) := fun h =>
  spec_l00Max.call (brd (fun k => ⟨by rw [if_pos k], Ext.refl _⟩) fun k => ⟨by rw [if_neg k], Ext.refl _⟩)
end
end Go.Sx
/- Cells that stay; blocks changed behind others. -/
set_option linter.unusedVariables false
set_option linter.unusedSimpArgs false
namespace Go.Sx
section
variable {h : Heap}
theorem Mem.pin1 {h0 h' : Heap} {L : List Blk} {g j : Nat} {cs : Array Value} {p : Prop} (M : Mem h0 h L) (l : Look L g cs) (hj : j < cs.size) (X : Ext h h') (H : p) : PIN h ⟨g, j, none⟩ 1 h' p := by
  refine Sx.pin X (fun k hk => ⟨cs[j], ?_⟩) H
  obtain rfl : k = 0 := by omega
  rw [add0, M.cell l]
  simp [hj]
theorem Upd.skip {B L L' : List Blk} {g : Nat} {cs : Array Value} (k : Upd L g cs L') : Upd (B ++ L) g cs (B ++ L') := by
  induction B with
  | nil => exact k
  | cons p B ih => exact .there ih
end
end Go.Sx
