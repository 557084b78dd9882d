/- Texts cut and numbers read: the program's, by the shelf's contracts. -/
import Derived.Test.YthgnpepchedpbaaDoorLvd
import Derived.Test.YthgnpepchedpbaaDoorT2
set_option linter.unusedVariables false
set_option linter.unusedSimpArgs false
namespace Go.Sx
open Go.Proofs Go.RowKit
set_option maxRecDepth 100000
set_option maxHeartbeats 1000000

/-- Texts in cells. -/
def strV (ls : List (List UInt8)) : Array Value := ⟨ls.map fun l => .string (mkB l)⟩
section
variable {h0 h : Heap} {L : List Blk}
theorem Split_c {s : ByteArray} {c : UInt8} {K : Value → Heap → Prop} (B : Libs h) (hs : s.size ≤ 1048576) (M : Mem h0 h L)
    (H : ∀ g h', Ext h h' → Mem h0 h' ((g, T_string, strV (cutL c s.data.toList)) :: L) → K (.slice (some ⟨g, 0, none⟩) (cutL c s.data.toList).length (cutL c s.data.toList).length) h') : CALL prg f_strings_Split #[.string s, .string ⟨#[c]⟩] K h := by
  refine CALL_of_calls L146.f146 rfl rfl fun w hw => ?_
  subst hw
  obtain ⟨m, hm⟩ := B.mx
  refine (Any.strings_Split { L146 with } L146.i9 s ⟨#[c]⟩ m w (by omega) hm (Nat.le_refl 1)).mono ?_
  rintro e w' ⟨rfl, rfl⟩
  refine ⟨_, rfl, ⟨rfl, rfl, rfl⟩, ?_⟩
  have e1 : ((Lib.splitB ⟨#[c]⟩ 0 (Lib.countB s ⟨#[c]⟩) s).map Value.string).toArray = strV (cutL c s.data.toList) := by
    rw [splitB_cut c _ s rfl, List.map_map]; rfl
  rw [e1, ← cut_count c s]
  exact H w.heap.size _ (Ext.push _ _) (M.push _ _)
theorem byte_get {s : ByteArray} {i : Nat} (hi : i < s.size) : ∃ h : i < s.data.toList.length, byteAt s (i : Int) = ((s.data.toList[i]'h).toNat : Int) := by
  rw [Lib.size_eq] at hi
  refine ⟨hi, ?_⟩
  have e : s = ⟨⟨s.data.toList⟩⟩ := by cases s; simp
  have : byteAt ⟨⟨s.data.toList⟩⟩ (i : Int) = ((s.data.toList[i]?).map fun b => (b.toNat : Int)).getD 0 := by
    unfold byteAt
    rw [Int.toNat_natCast]
    congr 2
    rw [List.getElem?_eq_getElem hi]
    exact getElem?_pos (⟨⟨s.data.toList⟩⟩ : ByteArray) i hi
  rw [← e, List.getElem?_eq_getElem hi] at this
  exact this
/-- A number, told by the rule. -/
def numV (o : Option Nat) : Value := match o with | some n => .tuple ⟨[.int .i64 (n : Int), .bool true]⟩ | none => .tuple ⟨[.int .i64 (0 : Int), .bool false]⟩
theorem l01Number_c (s : ByteArray) : Ret prg f_spec_l01Number #[.string s] (numV (numL s.data.toList)) := fun h => by
  have hl := Lib.size_eq s
  have J : ∀ {h : Heap}, 1 ≤ s.size → s.size ≤ 9 → numL s.data.toList = digs 0 s.data.toList → spec_l01Number.J3 (fun u h' => u = numV (numL s.data.toList) ∧ Ext h h') s h := fun {h} h1 h9 e => by
    unfold spec_l01Number.J3
    refine loop (fun y hh => ∃ i n : Nat, y = (s, (n : Int), (i : Int)) ∧ i ≤ s.size ∧ n < 10 ^ i ∧ digs n (s.data.toList.drop i) = digs 0 s.data.toList ∧ hh = h) (fun y => (s.size - y.2.2).toNat) ⟨0, 0, rfl, by omega, by simp, by simp, rfl⟩ ?_
    rintro y hh ⟨i, n, rfl, hi, hn, hd, rfl⟩
    refine brd (fun hc => ?_) fun hc => ?_
    · have hi' : i < s.size := by omega
      obtain ⟨hj, hb⟩ := byte_get hi'
      have hdr : s.data.toList.drop i = s.data.toList[i] :: s.data.toList.drop (i + 1) := List.drop_eq_getElem_cons hj
      rw [hdr, digs] at hd
      have hp : (10 : Nat) ^ i ≤ 100000000 := Nat.le_trans (Nat.pow_le_pow_right (by omega) (show i ≤ 8 by omega)) (by decide)
      refine idx (by omega) (by omega) ?_
      rw [hb]
      refine brd (fun h48 => ⟨by rw [e, ← hd, if_neg (by omega)]; rfl, Ext.refl _⟩) fun h48 => idx (by omega) (by omega) (brd (fun h57 => ⟨by rw [e, ← hd, if_neg (by omega)]; rfl, Ext.refl _⟩) fun h57 => ?_)
      rw [if_pos (by omega)] at hd
      unfold spec_l01Number.J9
      refine idx (by omega) (by omega) ?_
      rw [hb]
      have w1 : IntKind.u8.wrap (((s.data.toList[i]).toNat : Int) - 48) = (((s.data.toList[i]).toNat - 48 : Nat) : Int) := by
        unfold IntKind.wrap
        show (((s.data.toList[i]).toNat : Int) - 48) % 2 ^ 8 = _
        omega
      rw [w1, wrap64 (n := (n : Int) * 10) (by omega) (by omega), wrap64 (n := (((s.data.toList[i]).toNat - 48 : Nat) : Int)) (by omega) (by omega), wrap64 (by omega) (by omega), wrap64_succ (by omega)]
      refine ⟨⟨i + 1, n * 10 + ((s.data.toList[i]).toNat - 48), ?_, by omega, ?_, hd, rfl⟩, by show _ < _; simp; omega⟩
      · congr 2
      · rw [Nat.pow_succ]; omega
    · obtain rfl : i = s.size := by omega
      rw [hl, List.drop_length] at hd
      exact ⟨by rw [e, ← hd]; rfl, Ext.refl _⟩
  refine spec_l01Number.call (brd (fun h1 => ?_) fun h1 => brd (fun h9 => ?_) fun h9 => idx (by omega) (by omega) ?_)
  · exact ⟨by unfold numL; rw [if_pos (by omega)]; rfl, Ext.refl _⟩
  · exact ⟨by unfold numL; rw [if_pos (by omega)]; rfl, Ext.refl _⟩
  · obtain ⟨hj, hb⟩ := byte_get (s := s) (i := 0) (by omega)
    have hb : byteAt s 0 = ((s.data.toList[0]'hj).toNat : Int) := hb
    have hh : s.data.toList.head? = some (s.data.toList[0]'hj) := by rw [List.head?_eq_getElem?, List.getElem?_eq_getElem hj]
    have h48 : (48 : UInt8).toNat = 48 := rfl
    rw [hb]
    refine br (fun c => brd (fun h2 => ⟨?_, Ext.refl _⟩) fun h2 => J (by omega) (by omega) ?_) fun c => J (by omega) (by omega) ?_
    · have c : ((s.data.toList[0]'hj).toNat : Int) = 48 := by simpa using c
      unfold numL
      rw [if_neg (by omega), if_pos ⟨by rw [hh]; congr 1; apply UInt8.toNat_inj.1; omega, by omega⟩]; rfl
    · unfold numL
      rw [if_neg (by omega), if_neg (by omega)]
    · have c : ¬ ((s.data.toList[0]'hj).toNat : Int) = 48 := by simpa using c
      unfold numL
      rw [if_neg (by omega), if_neg]
      rintro ⟨e, _⟩
      rw [hh] at e
      have e := Option.some.inj e
      rw [e] at c
      exact c (by rw [h48]; rfl)
end
end Go.Sx
