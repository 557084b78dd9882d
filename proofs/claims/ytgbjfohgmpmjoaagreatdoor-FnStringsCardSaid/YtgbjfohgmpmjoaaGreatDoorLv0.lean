/- Deeds: valid ones, their words. -/
import Derived.Test.YtgbjfohgmpmjoaaGreatDoorLx2
import Derived.Test.YtgbjfohgmpmjoaaGreatDoorK0
import Derived.Test.YtgbjfohgmpmjoaaGreatDoorTab
import Derived.Test.YtgbjfohgmpmjoaaGreatDoorLv2
import Derived.Test.YtgbjfohgmpmjoaaGreatDoorLp6
import Derived.Test.YtgbjfohgmpmjoaaGreatDoorLk4
import Derived.Test.YtgbjfohgmpmjoaaGreatDoorTF
import Derived.Test.YtgbjfohgmpmjoaaGreatDoorLvp
import Derived.Test.YtgbjfohgmpmjoaaGreatDoorLg
import Derived.Test.YtgbjfohgmpmjoaaGreatDoorLp3
import Derived.Test.YtgbjfohgmpmjoaaGreatDoorTabE
namespace Go.Sx
set_option maxRecDepth 100000
open Go.Proofs
set_option linter.unusedVariables false

def dd (k a b : Int) : Array Value := ⟨[.int .i64 k, .int .i64 a, .int .i64 b]⟩
def numbers (k : Int) : Int := if k = 7 ∨ k = 8 then 0 else if k = 6 then 2 else 1
def validDeed (k a b : Int) : Bool := inR k 1 9 && inR a 0 999 && inR b 0 999 && (decide (0 < numbers k) || a == 0) && (decide (1 < numbers k) || b == 0)
def by_ (l : List UInt8) : ByteArray := ⟨⟨l⟩⟩
def wordOf (k : Int) : ByteArray := if k = 1 then by_ [103, 105, 118, 101] else if k = 2 then by_ [119, 111, 114, 107] else if k = 3 then by_ [100, 101, 108, 105, 118, 101, 114] else if k = 4 then by_ [99, 111, 112, 121]
  else if k = 5 then by_ [100, 114, 111, 112] else if k = 6 then by_ [115, 112, 111, 105, 108] else if k = 7 then by_ [115, 121, 110, 99] else if k = 8 then by_ [99, 114, 97, 115, 104] else if k = 9 then by_ [113, 117, 105, 116] else by_ []
end Go.Sx
/- Deeds' texts: the rule's and the program's. -/
set_option linter.unusedVariables false
set_option linter.unusedSimpArgs false
namespace Go.Sx
open Go.Proofs
set_option maxRecDepth 100000
set_option maxHeartbeats 1000000

def spB (t : ByteArray) (n : Int) : ByteArray := t ++ ((⟨#[32]⟩ : ByteArray) ++ decB n.toNat)
def deedText (k a b : Int) : ByteArray :=
  if validDeed k a b then
    let t := if 0 < numbers k then spB (wordOf k) a else wordOf k
    if 1 < numbers k then spB t b else t
  else ⟨#[]⟩
theorem valid_in {k a b : Int} (h : validDeed k a b = true) : (1 ≤ k ∧ k ≤ 9) ∧ (0 ≤ a ∧ a ≤ 999) ∧ (0 ≤ b ∧ b ≤ 999) := by
  unfold validDeed inR at h
  simp only [Bool.and_eq_true, decide_eq_true_eq] at h
  exact ⟨h.1.1.1.1, h.1.1.1.2, h.1.1.2⟩
theorem ba_len (s t : ByteArray) : (s ++ t).size = s.size + t.size := by simp
end Go.Sx
/- One element appended to an own slice beside own data. -/
set_option linter.unusedVariables false
set_option linter.unusedSimpArgs false
namespace Go.Sx
open Go.Proofs
set_option maxRecDepth 100000
set_option maxHeartbeats 1000000

section
variable {α β : Type} {r : Rep α} {s : Rep β} {P : Program} {h0 h : Heap} {q : Addr} {F : Fr} {B L : List Blk} {d : α} {t e bytes ty : Nat} {b : Option Addr} {l c : Nat} {xs : List β} {K : Value → Heap → Prop}
/-- One element appended to an own slice beside own data. -/
theorem Pt.push {cs : Array Value} {x : β} (Pa : Pt r h0 h q F (B ++ L) d) (E : ElemT P t e s.sz bytes) (O : SlO e s B b l c xs) (Ox : s.ow [] cs.toList x) (hmax : l + 1 ≤ maxLen) (hbytes : (l + 1) * bytes ≤ 140737488355328)
    (H : ∀ b' c' h' B', SlO e s B' b' (l + 1) c' (xs ++ [x]) → Pt r h0 h' q F (B' ++ L) d → K (.slice b' (l + 1) c') h') :
    ALC cs e (fun g h => SEMV P (Builtin.append_ #[t, t] ty #[.slice b l c, .slice (some ⟨g, 0, none⟩) 1 1]) K h) h := by
  obtain ⟨e1, mid, BR, M, OR⟩ := Pa
  refine push_own (Bn := []) (L := (F.g, F.T, ⟨F.pre ++ (mid ++ F.post)⟩) :: (BR ++ L)) E O (M.cnt fun p => by simp only [cnt_app, cnt_cons, cnt_nil]; omega) Ox hmax hbytes fun b' c' h' B' O' M' => H b' c' h' B' O' ⟨e1, mid, BR, M'.cnt fun p => ?_, OR⟩
  simp only [cnt_app, cnt_cons, cnt_nil]; omega
end
end Go.Sx
/- Texts cut and deeds read: the rule's. -/
set_option linter.unusedVariables false
set_option linter.unusedSimpArgs false
namespace Go.Sx
open Go.Proofs
set_option maxRecDepth 100000
set_option maxHeartbeats 1000000

section
variable {h : Heap}
theorem mk_size (l : List UInt8) : (mkB l).size = l.length := by simp [ByteArray.size]
theorem str_ow {s : ByteArray} (h : s.size ≤ maxLen) : rS.ow [] [.string s] s := ⟨rfl, rfl, h⟩
end
theorem no32 (k : Int) : ∀ x ∈ (wordOf k).data.toList, x ≠ 32 := by
  unfold wordOf
  repeat' split
  all_goals decide
theorem word_inj {k j : Int} (hk : 1 ≤ k ∧ k ≤ 9) (hj : 1 ≤ j ∧ j ≤ 9) (e : wordOf k = wordOf j) : k = j := by
  rcases (show k = 1 ∨ k = 2 ∨ k = 3 ∨ k = 4 ∨ k = 5 ∨ k = 6 ∨ k = 7 ∨ k = 8 ∨ k = 9 by omega) with rfl | rfl | rfl | rfl | rfl | rfl | rfl | rfl | rfl <;>
  rcases (show j = 1 ∨ j = 2 ∨ j = 3 ∨ j = 4 ∨ j = 5 ∨ j = 6 ∨ j = 7 ∨ j = 8 ∨ j = 9 by omega) with rfl | rfl | rfl | rfl | rfl | rfl | rfl | rfl | rfl <;>
  first | rfl | exact absurd e (by decide)
theorem decB_data (m : Nat) : (decB m).data.toList = Lib.decDigits m := by unfold decB; simp
theorem spB_data (t : ByteArray) (n : Int) : (spB t n).data.toList = t.data.toList ++ 32 :: Lib.decDigits n.toNat := by
  unfold spB
  rw [ByteArray.data_append, ByteArray.data_append, Array.toList_append, Array.toList_append, decB_data]
  rfl
theorem dec32 (m : Nat) : ∀ x ∈ Lib.decDigits m, x ≠ 32 := dec_no m (.inl (by decide))
/-- The pieces of a valid deed's text. -/
def pieces (k a b : Int) : List (List UInt8) :=
  (wordOf k).data.toList :: ((if 0 < numbers k then [Lib.decDigits a.toNat] else []) ++ if 1 < numbers k then [Lib.decDigits b.toNat] else [])
theorem num_le (k : Int) : 1 < numbers k → 0 < numbers k := by omega
theorem cut_text {k a b : Int} (h : validDeed k a b = true) : cutL 32 (deedText k a b).data.toList = pieces k a b := by
  unfold deedText pieces
  rw [h, if_pos rfl]
  dsimp only
  by_cases h0 : 0 < numbers k
  · rw [if_pos h0, if_pos h0]
    by_cases h1 : 1 < numbers k
    · rw [if_pos h1, if_pos h1, spB_data, spB_data, List.append_assoc, List.cons_append, cut_pre (no32 k), cut_pre (dec32 _), cut_none (dec32 _)]; rfl
    · rw [if_neg h1, if_neg h1, spB_data, cut_pre (no32 k), cut_none (dec32 _)]; rfl
  · rw [if_neg h0, if_neg h0, if_neg (by omega), if_neg (by omega), cut_none (no32 k)]; rfl
theorem valid_zero {k a b : Int} (h : validDeed k a b = true) : (¬ 0 < numbers k → a = 0) ∧ (¬ 1 < numbers k → b = 0) := by
  unfold validDeed at h
  simp only [Bool.and_eq_true, Bool.or_eq_true, decide_eq_true_eq, beq_iff_eq] at h
  exact ⟨fun h0 => h.1.2.resolve_left h0, fun h1 => h.2.resolve_left h1⟩
theorem text_inj {k a b k' a' b' : Int} (h : validDeed k a b = true) (h' : validDeed k' a' b' = true) (e : deedText k a b = deedText k' a' b') : k = k' ∧ a = a' ∧ b = b' := by
  have c := cut_text h
  rw [e, cut_text h'] at c
  obtain ⟨hk, ha, hb⟩ := valid_in h
  obtain ⟨hk', ha', hb'⟩ := valid_in h'
  unfold pieces at c
  injection c with c1 c2
  have ek : k = k' := by
    refine word_inj hk hk' ?_
    have := congrArg mkB c1
    rw [mkB_list, mkB_list] at this
    exact this.symm
  subst ek
  obtain ⟨z1, z2⟩ := valid_zero h
  obtain ⟨z1', z2'⟩ := valid_zero h'
  refine ⟨rfl, ?_, ?_⟩
  · by_cases h0 : 0 < numbers k
    · rw [if_pos h0, if_pos h0] at c2
      injection c2 with c2 c3
      have := dec_inj c2
      omega
    · rw [z1 h0, z1' h0]
  · by_cases h1 : 1 < numbers k
    · rw [if_pos (num_le k h1), if_pos (num_le k h1), if_pos h1, if_pos h1] at c2
      injection c2 with c2 c3
      injection c3 with c3 c4
      have := dec_inj c3
      omega
    · rw [z2 h1, z2' h1]
/-- What reading a text gives. -/
def Read (text : ByteArray) (u : Value) : Prop :=
  (∃ k a b, validDeed k a b = true ∧ deedText k a b = text ∧ u = .tuple ⟨[.agg (dd k a b), .int .i64 (0 : Int)]⟩) ∨ ((∀ k a b, validDeed k a b = true → deedText k a b ≠ text) ∧ u = .tuple ⟨[.agg (dd 0 0 0), .int .i64 (5 : Int)]⟩)
theorem Read.same {text : ByteArray} {u v : Value} (h : Read text u) (h' : Read text v) : ∃ k a b c, u = .tuple ⟨[.agg (dd k a b), .int .i64 c]⟩ ∧ v = .tuple ⟨[.agg (dd k a b), .int .i64 c]⟩ := by
  rcases h with ⟨k, a, b, hv, ht, rfl⟩ | ⟨hn, rfl⟩
  · rcases h' with ⟨k', a', b', hv', ht', rfl⟩ | ⟨hn', rfl⟩
    · obtain ⟨rfl, rfl, rfl⟩ := text_inj hv hv' (ht.trans ht'.symm)
      exact ⟨_, _, _, _, rfl, rfl⟩
    · exact absurd ht (hn' _ _ _ hv)
  · rcases h' with ⟨k', a', b', hv', ht', rfl⟩ | ⟨hn', rfl⟩
    · exact absurd ht' (hn _ _ _ hv')
    · exact ⟨_, _, _, _, rfl, rfl⟩
end Go.Sx
/- Texts repeated and joined: the shelf's contracts. -/
set_option linter.unusedVariables false
set_option linter.unusedSimpArgs false
namespace Go.Sx
open Go.Proofs
set_option maxRecDepth 100000
set_option maxHeartbeats 1000000

theorem X156 : Builder.Extra prg R156 where
  sizeBuilder := by kernel_rfl
  liesBuilder := by kernel_rfl
  t5 := L105.t5
  a5 := L105.a5
  z5 := L105.z5
  v5 := L105.v5
  infoByte := by kernel_rfl
  cellsByte := by kernel_rfl
  sizeByte := by kernel_rfl
  neB5 := by decide
theorem X105 : Builder.Extra prg R105 where
  sizeBuilder := by kernel_rfl
  liesBuilder := by kernel_rfl
  t5 := L105.t5
  a5 := L105.a5
  z5 := L105.z5
  v5 := L105.v5
  infoByte := by kernel_rfl
  cellsByte := by kernel_rfl
  sizeByte := by kernel_rfl
  neB5 := by decide
theorem repeat_one (b : UInt8) : ∀ c : Nat, Lib.repeatL [b] c = List.replicate c b
  | 0 => rfl
  | c + 1 => by
    show [b] ++ Lib.repeatL [b] c = _
    rw [repeat_one b c, List.replicate_succ]; rfl
section
variable {h0 h : Heap} {L : List Blk}
theorem Repeat_c {c : Nat} (hc : c ≤ 8) : CALL prg f_strings_Repeat #[.string ⟨#[48]⟩, .int .i64 (c : Int)] (fun u h' => u = .string (mkB (List.replicate c 48)) ∧ Ext h h') h := by
  refine CALL_of_calls L105.f105 rfl rfl fun w hw => ?_
  subst hw
  refine (Any.strings_Repeat L105 X105 ⟨#[48]⟩ c w (by omega) (by show 1 * c ≤ _; omega)).mono ?_
  rintro e w' ⟨rfl, b⟩
  refine ⟨_, rfl, below_same b, ?_, below_ext b⟩
  show Value.string ⟨(Lib.repeatL [48] c).toArray⟩ = _
  rw [repeat_one]
theorem str_cell {a : Addr} {s : ByteArray} (R : RdP rS h a s) : cell h a = some (.string s) := by
  obtain ⟨vs, h1, rfl, _⟩ := R
  have := h1 0 _ rfl
  rwa [add0] at this
theorem Join_c {B : List Blk} {b : Option Addr} {l c : Nat} {xs : List ByteArray} {sep : ByteArray} (O : SlO T_string rS B b l c xs) (M : Mem h0 h L) (s : B.Sublist L) (hl : l ≤ 140737488355328) (hN : (Lib.join (xs.map (·.data.toList)) sep.data.toList).length ≤ 140737488355328) :
    CALL prg f_strings_Join #[.slice b l c, .string sep] (fun u h' => u = .string (mkB (Lib.join (xs.map (·.data.toList)) sep.data.toList)) ∧ Ext h h') h := by
  have e := O.len
  have S := O.look M s
  have hlc := S.2.1
  refine CALL_of_calls L156.f156 rfl rfl fun w hw => ?_
  subst hw
  by_cases h0 : l = 0
  · subst h0
    obtain rfl := List.eq_nil_of_length_eq_zero e
    refine (Any.strings_Join_none L156 X156 b c sep w).mono ?_
    rintro e w' ⟨rfl, rfl⟩
    exact ⟨_, rfl, Same.refl _, rfl, Ext.refl _⟩
  · obtain ⟨_, ws, B1, B2, _, O1, _⟩ := O
    obtain ⟨g, rfl⟩ := O1.base (by omega)
    have hc : ∀ (j : Nat) x, xs[j]? = some x → w.cell? ⟨g, 0 + j, none⟩ = some (.string x) := fun j x hx => by
      obtain ⟨hj, hx⟩ := List.getElem?_eq_some_iff.1 hx
      obtain ⟨a, ha, R⟩ := S.elem (i := j) (by omega) (by decide)
      cases ha
      have := str_cell R
      rw [getElem!_pos xs j hj, hx] at this
      have e2 : (⟨g, 0, none⟩ : Addr).add (j * rS.sz) = ⟨g, 0 + j, none⟩ := by rw [add_none]; show (⟨g, 0 + j * 1, none⟩ : Addr) = _; rw [Nat.mul_one]
      rw [e2] at this
      exact this
    have hb : g < w.heap.size := by
      obtain ⟨hj, hx⟩ : ∃ h : 0 < xs.length, xs[0]? = some xs[0] := ⟨by omega, List.getElem?_eq_getElem _⟩
      exact cell_lt (hc 0 _ hx)
    subst e
    refine (Any.strings_Join L156 X156 g 0 c xs sep w hc hb hl hlc hN).mono ?_
    rintro e w' ⟨rfl, b⟩
    exact ⟨_, rfl, below_same b, rfl, below_ext b⟩
end
end Go.Sx
/- How Comb, Tap, Room lie in cells; their parts; given ones opened. -/
set_option linter.unusedVariables false
set_option linter.unusedSimpArgs false
namespace Go.Sx
open Go.Proofs
def rComb : Rep GComb := (Rep.seq rRing ((rF .f32))).via fun a => (a.Ring, a.Gain)
theorem foc_Comb_Ring : Foc rComb rRing 0 (fun a => a.Ring) (fun a b => { a with Ring := b }) := (Foc.via (f := fun a : GComb => (a.Ring, a.Gain)) (get' := fun a => a.Ring) (put' := fun a b => { a with Ring := b }) (Foc.fst (Foc.here rRing)) (fun _ => rfl) (fun _ _ => rfl)).at rfl
theorem foc_Comb_Gain : Foc rComb (rF .f32) 2 (fun a => a.Gain) (fun a b => { a with Gain := b }) := (Foc.via (f := fun a : GComb => (a.Ring, a.Gain)) (get' := fun a => a.Gain) (put' := fun a b => { a with Gain := b }) (Foc.snd (Foc.here (rF .f32))) (fun _ => rfl) (fun _ _ => rfl)).at rfl
def z_Comb : GComb := ⟨z_Ring, 0⟩
instance lf_Comb_0 : FocC rComb 0 (rSl T_float32 (rF .f32)) (fun a => a.Ring.Samples) (fun a b => { a with Ring := { a.Ring with Samples := b } }) := ⟨Foc.at (foc_Comb_Ring.trans lf_Ring_0.f) rfl⟩
instance lf_Comb_1 : FocC rComb 1 (rI .i64) (fun a => a.Ring.At) (fun a b => { a with Ring := { a.Ring with At := b } }) := ⟨Foc.at (foc_Comb_Ring.trans lf_Ring_1.f) rfl⟩
instance lf_Comb_2 : FocC rComb 2 (rF .f32) (fun a => a.Gain) (fun a b => { a with Gain := b }) := ⟨Foc.at foc_Comb_Gain rfl⟩
def z_Room : GRoom := ⟨z_Ring, [], [z_Comb, z_Comb], [z_Ring, z_Ring, z_Ring, z_Ring], [z_Filter, z_Filter, z_Filter, z_Filter], [0, 0, 0, 0], 0, 0⟩
end Go.Sx
