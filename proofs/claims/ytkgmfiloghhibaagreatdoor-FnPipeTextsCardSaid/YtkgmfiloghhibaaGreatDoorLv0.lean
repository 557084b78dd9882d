/- Deeds: valid ones, their words. -/
import Derived.Test.YtkgmfiloghhibaaGreatDoorLx2
import Derived.Test.YtkgmfiloghhibaaGreatDoorTabE
import Derived.Test.YtkgmfiloghhibaaGreatDoorTab
import Derived.Test.YtkgmfiloghhibaaGreatDoorLv2
import Derived.Test.YtkgmfiloghhibaaGreatDoorLk3
import Derived.Test.YtkgmfiloghhibaaGreatDoorLgn
import Derived.Test.YtkgmfiloghhibaaGreatDoorTF
import Derived.Test.YtkgmfiloghhibaaGreatDoorLvp
import Derived.Test.YtkgmfiloghhibaaGreatDoorLg
import Derived.Test.YtkgmfiloghhibaaGreatDoorLp2
import Derived.Test.YtkgmfiloghhibaaGreatDoorLp5
namespace Go.Sx
set_option maxRecDepth 100000
open Go.Proofs
set_option linter.unusedVariables false

def dd (k a b : Int) : Array Value := ⟨[.int .i64 k, .int .i64 a, .int .i64 b]⟩
def numbers (k : Int) : Int := if k = 7 ∨ k = 8 then 0 else if k = 6 then 2 else 1
def validDeed (k a b : Int) : Bool := inR k 1 9 && inR a 0 999 && inR b 0 999 && (decide (0 < numbers k) || a == 0) && (decide (1 < numbers k) || b == 0)
def by_ (l : List UInt8) : ByteArray := ⟨⟨l⟩⟩
def wordOf (k : Int) : ByteArray := if k = 1 then by_ [103, 105, 118, 101] else if k = 2 then by_ [119, 111, 114, 107] else if k = 3 then by_ [100, 101, 108, 105, 118, 101, 114] else if k = 4 then by_ [99, 111, 112, 121]
  else if k = 5 then by_ [100, 114, 111, 112] else if k = 6 then by_ [115, 112, 111, 105, 108] else if k = 7 then by_ [115, 121, 110, 99] else if k = 8 then by_ [99, 114, 97, 115, 104] else if k = 9 then by_ [113, 117, 105, 116] else by_ []
end Go.Sx
/- Deeds' texts: the rule's and the program's. -/
set_option linter.unusedVariables false
set_option linter.unusedSimpArgs false
namespace Go.Sx
open Go.Proofs
set_option maxRecDepth 100000
set_option maxHeartbeats 1000000

def spB (t : ByteArray) (n : Int) : ByteArray := t ++ ((⟨#[32]⟩ : ByteArray) ++ decB n.toNat)
def deedText (k a b : Int) : ByteArray :=
  if validDeed k a b then
    let t := if 0 < numbers k then spB (wordOf k) a else wordOf k
    if 1 < numbers k then spB t b else t
  else ⟨#[]⟩
theorem valid_in {k a b : Int} (h : validDeed k a b = true) : (1 ≤ k ∧ k ≤ 9) ∧ (0 ≤ a ∧ a ≤ 999) ∧ (0 ≤ b ∧ b ≤ 999) := by
  unfold validDeed inR at h
  simp only [Bool.and_eq_true, decide_eq_true_eq] at h
  exact ⟨h.1.1.1.1, h.1.1.1.2, h.1.1.2⟩
theorem ba_len (s t : ByteArray) : (s ++ t).size = s.size + t.size := by simp
end Go.Sx
/- One element appended to an own slice beside own data. -/
set_option linter.unusedVariables false
set_option linter.unusedSimpArgs false
namespace Go.Sx
open Go.Proofs
set_option maxRecDepth 100000
set_option maxHeartbeats 1000000

section
variable {α β : Type} {r : Rep α} {s : Rep β} {P : Program} {h0 h : Heap} {q : Addr} {F : Fr} {B L : List Blk} {d : α} {t e bytes ty : Nat} {b : Option Addr} {l c : Nat} {xs : List β} {K : Value → Heap → Prop}
/-- One element appended to an own slice beside own data. -/
theorem Pt.push {cs : Array Value} {x : β} (Pa : Pt r h0 h q F (B ++ L) d) (E : ElemT P t e s.sz bytes) (O : SlO e s B b l c xs) (Ox : s.ow [] cs.toList x) (hmax : l + 1 ≤ maxLen) (hbytes : (l + 1) * bytes ≤ 140737488355328)
    (H : ∀ b' c' h' B', SlO e s B' b' (l + 1) c' (xs ++ [x]) → Pt r h0 h' q F (B' ++ L) d → K (.slice b' (l + 1) c') h') :
    ALC cs e (fun g h => SEMV P (Builtin.append_ #[t, t] ty #[.slice b l c, .slice (some ⟨g, 0, none⟩) 1 1]) K h) h := by
  obtain ⟨e1, mid, BR, M, OR⟩ := Pa
  refine push_own (Bn := []) (L := (F.g, F.T, ⟨F.pre ++ (mid ++ F.post)⟩) :: (BR ++ L)) E O (M.cnt fun p => by simp only [cnt_app, cnt_cons, cnt_nil]; omega) Ox hmax hbytes fun b' c' h' B' O' M' => H b' c' h' B' O' ⟨e1, mid, BR, M'.cnt fun p => ?_, OR⟩
  simp only [cnt_app, cnt_cons, cnt_nil]; omega
end
end Go.Sx
/- Texts cut and deeds read: the rule's. -/
set_option linter.unusedVariables false
set_option linter.unusedSimpArgs false
namespace Go.Sx
open Go.Proofs
set_option maxRecDepth 100000
set_option maxHeartbeats 1000000

section
variable {h : Heap}
theorem mk_size (l : List UInt8) : (mkB l).size = l.length := by simp [ByteArray.size]
theorem str_ow {s : ByteArray} (h : s.size ≤ maxLen) : rS.ow [] [.string s] s := ⟨rfl, rfl, h⟩
end
theorem no32 (k : Int) : ∀ x ∈ (wordOf k).data.toList, x ≠ 32 := by
  unfold wordOf
  repeat' split
  all_goals decide
theorem word_inj {k j : Int} (hk : 1 ≤ k ∧ k ≤ 9) (hj : 1 ≤ j ∧ j ≤ 9) (e : wordOf k = wordOf j) : k = j := by
  rcases (show k = 1 ∨ k = 2 ∨ k = 3 ∨ k = 4 ∨ k = 5 ∨ k = 6 ∨ k = 7 ∨ k = 8 ∨ k = 9 by omega) with rfl | rfl | rfl | rfl | rfl | rfl | rfl | rfl | rfl <;>
  rcases (show j = 1 ∨ j = 2 ∨ j = 3 ∨ j = 4 ∨ j = 5 ∨ j = 6 ∨ j = 7 ∨ j = 8 ∨ j = 9 by omega) with rfl | rfl | rfl | rfl | rfl | rfl | rfl | rfl | rfl <;>
  first | rfl | exact absurd e (by decide)
theorem decB_data (m : Nat) : (decB m).data.toList = Lib.decDigits m := by unfold decB; simp
theorem spB_data (t : ByteArray) (n : Int) : (spB t n).data.toList = t.data.toList ++ 32 :: Lib.decDigits n.toNat := by
  unfold spB
  rw [ByteArray.data_append, ByteArray.data_append, Array.toList_append, Array.toList_append, decB_data]
  rfl
theorem dec32 (m : Nat) : ∀ x ∈ Lib.decDigits m, x ≠ 32 := dec_no m (.inl (by decide))
/-- The pieces of a valid deed's text. -/
def pieces (k a b : Int) : List (List UInt8) :=
  (wordOf k).data.toList :: ((if 0 < numbers k then [Lib.decDigits a.toNat] else []) ++ if 1 < numbers k then [Lib.decDigits b.toNat] else [])
theorem num_le (k : Int) : 1 < numbers k → 0 < numbers k := by omega
theorem cut_text {k a b : Int} (h : validDeed k a b = true) : cutL 32 (deedText k a b).data.toList = pieces k a b := by
  unfold deedText pieces
  rw [h, if_pos rfl]
  dsimp only
  by_cases h0 : 0 < numbers k
  · rw [if_pos h0, if_pos h0]
    by_cases h1 : 1 < numbers k
    · rw [if_pos h1, if_pos h1, spB_data, spB_data, List.append_assoc, List.cons_append, cut_pre (no32 k), cut_pre (dec32 _), cut_none (dec32 _)]; rfl
    · rw [if_neg h1, if_neg h1, spB_data, cut_pre (no32 k), cut_none (dec32 _)]; rfl
  · rw [if_neg h0, if_neg h0, if_neg (by omega), if_neg (by omega), cut_none (no32 k)]; rfl
theorem valid_zero {k a b : Int} (h : validDeed k a b = true) : (¬ 0 < numbers k → a = 0) ∧ (¬ 1 < numbers k → b = 0) := by
  unfold validDeed at h
  simp only [Bool.and_eq_true, Bool.or_eq_true, decide_eq_true_eq, beq_iff_eq] at h
  exact ⟨fun h0 => h.1.2.resolve_left h0, fun h1 => h.2.resolve_left h1⟩
theorem text_inj {k a b k' a' b' : Int} (h : validDeed k a b = true) (h' : validDeed k' a' b' = true) (e : deedText k a b = deedText k' a' b') : k = k' ∧ a = a' ∧ b = b' := by
  have c := cut_text h
  rw [e, cut_text h'] at c
  obtain ⟨hk, ha, hb⟩ := valid_in h
  obtain ⟨hk', ha', hb'⟩ := valid_in h'
  unfold pieces at c
  injection c with c1 c2
  have ek : k = k' := by
    refine word_inj hk hk' ?_
    have := congrArg mkB c1
    rw [mkB_list, mkB_list] at this
    exact this.symm
  subst ek
  obtain ⟨z1, z2⟩ := valid_zero h
  obtain ⟨z1', z2'⟩ := valid_zero h'
  refine ⟨rfl, ?_, ?_⟩
  · by_cases h0 : 0 < numbers k
    · rw [if_pos h0, if_pos h0] at c2
      injection c2 with c2 c3
      have := dec_inj c2
      omega
    · rw [z1 h0, z1' h0]
  · by_cases h1 : 1 < numbers k
    · rw [if_pos (num_le k h1), if_pos (num_le k h1), if_pos h1, if_pos h1] at c2
      injection c2 with c2 c3
      injection c3 with c3 c4
      have := dec_inj c3
      omega
    · rw [z2 h1, z2' h1]
/-- What reading a text gives. -/
def Read (text : ByteArray) (u : Value) : Prop :=
  (∃ k a b, validDeed k a b = true ∧ deedText k a b = text ∧ u = .tuple ⟨[.agg (dd k a b), .int .i64 (0 : Int)]⟩) ∨ ((∀ k a b, validDeed k a b = true → deedText k a b ≠ text) ∧ u = .tuple ⟨[.agg (dd 0 0 0), .int .i64 (5 : Int)]⟩)
theorem Read.same {text : ByteArray} {u v : Value} (h : Read text u) (h' : Read text v) : ∃ k a b c, u = .tuple ⟨[.agg (dd k a b), .int .i64 c]⟩ ∧ v = .tuple ⟨[.agg (dd k a b), .int .i64 c]⟩ := by
  rcases h with ⟨k, a, b, hv, ht, rfl⟩ | ⟨hn, rfl⟩
  · rcases h' with ⟨k', a', b', hv', ht', rfl⟩ | ⟨hn', rfl⟩
    · obtain ⟨rfl, rfl, rfl⟩ := text_inj hv hv' (ht.trans ht'.symm)
      exact ⟨_, _, _, _, rfl, rfl⟩
    · exact absurd ht (hn' _ _ _ hv)
  · rcases h' with ⟨k', a', b', hv', ht', rfl⟩ | ⟨hn', rfl⟩
    · exact absurd ht' (hn _ _ _ hv')
    · exact ⟨_, _, _, _, rfl, rfl⟩
end Go.Sx
/- Texts repeated and joined: the shelf's contracts. -/
set_option linter.unusedVariables false
set_option linter.unusedSimpArgs false
namespace Go.Sx
open Go.Proofs
set_option maxRecDepth 100000
set_option maxHeartbeats 1000000

theorem X156 : Builder.Extra prg R156 where
  sizeBuilder := by kernel_rfl
  liesBuilder := by kernel_rfl
  t5 := L105.t5
  a5 := L105.a5
  z5 := L105.z5
  v5 := L105.v5
  infoByte := by kernel_rfl
  cellsByte := by kernel_rfl
  sizeByte := by kernel_rfl
  neB5 := by decide
theorem X105 : Builder.Extra prg R105 where
  sizeBuilder := by kernel_rfl
  liesBuilder := by kernel_rfl
  t5 := L105.t5
  a5 := L105.a5
  z5 := L105.z5
  v5 := L105.v5
  infoByte := by kernel_rfl
  cellsByte := by kernel_rfl
  sizeByte := by kernel_rfl
  neB5 := by decide
theorem repeat_one (b : UInt8) : ∀ c : Nat, Lib.repeatL [b] c = List.replicate c b
  | 0 => rfl
  | c + 1 => by
    show [b] ++ Lib.repeatL [b] c = _
    rw [repeat_one b c, List.replicate_succ]; rfl
section
variable {h0 h : Heap} {L : List Blk}
theorem Repeat_c {c : Nat} (hc : c ≤ 8) : CALL prg f_strings_Repeat #[.string ⟨#[48]⟩, .int .i64 (c : Int)] (fun u h' => u = .string (mkB (List.replicate c 48)) ∧ Ext h h') h := by
  refine CALL_of_calls L105.f105 rfl rfl fun w hw => ?_
  subst hw
  refine (Any.strings_Repeat L105 X105 ⟨#[48]⟩ c w (by omega) (by show 1 * c ≤ _; omega)).mono ?_
  rintro e w' ⟨rfl, b⟩
  refine ⟨_, rfl, below_same b, ?_, below_ext b⟩
  show Value.string ⟨(Lib.repeatL [48] c).toArray⟩ = _
  rw [repeat_one]
theorem str_cell {a : Addr} {s : ByteArray} (R : RdP rS h a s) : cell h a = some (.string s) := by
  obtain ⟨vs, h1, rfl, _⟩ := R
  have := h1 0 _ rfl
  rwa [add0] at this
theorem Join_c {B : List Blk} {b : Option Addr} {l c : Nat} {xs : List ByteArray} {sep : ByteArray} (O : SlO T_string rS B b l c xs) (M : Mem h0 h L) (s : B.Sublist L) (hl : l ≤ 140737488355328) (hN : (Lib.join (xs.map (·.data.toList)) sep.data.toList).length ≤ 140737488355328) :
    CALL prg f_strings_Join #[.slice b l c, .string sep] (fun u h' => u = .string (mkB (Lib.join (xs.map (·.data.toList)) sep.data.toList)) ∧ Ext h h') h := by
  have e := O.len
  have S := O.look M s
  have hlc := S.2.1
  refine CALL_of_calls L156.f156 rfl rfl fun w hw => ?_
  subst hw
  by_cases h0 : l = 0
  · subst h0
    obtain rfl := List.eq_nil_of_length_eq_zero e
    refine (Any.strings_Join_none L156 X156 b c sep w).mono ?_
    rintro e w' ⟨rfl, rfl⟩
    exact ⟨_, rfl, Same.refl _, rfl, Ext.refl _⟩
  · obtain ⟨_, ws, B1, B2, _, O1, _⟩ := O
    obtain ⟨g, rfl⟩ := O1.base (by omega)
    have hc : ∀ (j : Nat) x, xs[j]? = some x → w.cell? ⟨g, 0 + j, none⟩ = some (.string x) := fun j x hx => by
      obtain ⟨hj, hx⟩ := List.getElem?_eq_some_iff.1 hx
      obtain ⟨a, ha, R⟩ := S.elem (i := j) (by omega) (by decide)
      cases ha
      have := str_cell R
      rw [getElem!_pos xs j hj, hx] at this
      have e2 : (⟨g, 0, none⟩ : Addr).add (j * rS.sz) = ⟨g, 0 + j, none⟩ := by rw [add_none]; show (⟨g, 0 + j * 1, none⟩ : Addr) = _; rw [Nat.mul_one]
      rw [e2] at this
      exact this
    have hb : g < w.heap.size := by
      obtain ⟨hj, hx⟩ : ∃ h : 0 < xs.length, xs[0]? = some xs[0] := ⟨by omega, List.getElem?_eq_getElem _⟩
      exact cell_lt (hc 0 _ hx)
    subst e
    refine (Any.strings_Join L156 X156 g 0 c xs sep w hc hb hl hlc hN).mono ?_
    rintro e w' ⟨rfl, b⟩
    exact ⟨_, rfl, below_same b, rfl, below_ext b⟩
end
end Go.Sx
/- How Comb, Tap, Room lie in cells; their parts; given ones opened. -/
set_option linter.unusedVariables false
set_option linter.unusedSimpArgs false
namespace Go.Sx
open Go.Proofs
def rComb : Rep GComb := (Rep.seq rRing ((rF .f32))).via fun a => (a.Ring, a.Gain)
theorem foc_Comb_Ring : Foc rComb rRing 0 (fun a => a.Ring) (fun a b => { a with Ring := b }) := (Foc.via (f := fun a : GComb => (a.Ring, a.Gain)) (get' := fun a => a.Ring) (put' := fun a b => { a with Ring := b }) (Foc.fst (Foc.here rRing)) (fun _ => rfl) (fun _ _ => rfl)).at rfl
theorem foc_Comb_Gain : Foc rComb (rF .f32) 2 (fun a => a.Gain) (fun a b => { a with Gain := b }) := (Foc.via (f := fun a : GComb => (a.Ring, a.Gain)) (get' := fun a => a.Gain) (put' := fun a b => { a with Gain := b }) (Foc.snd (Foc.here (rF .f32))) (fun _ => rfl) (fun _ _ => rfl)).at rfl
def z_Comb : GComb := ⟨z_Ring, 0⟩
instance lf_Comb_0 : FocC rComb 0 (rSl T_float32 (rF .f32)) (fun a => a.Ring.Samples) (fun a b => { a with Ring := { a.Ring with Samples := b } }) := ⟨Foc.at (foc_Comb_Ring.trans lf_Ring_0.f) rfl⟩
instance lf_Comb_1 : FocC rComb 1 (rI .i64) (fun a => a.Ring.At) (fun a b => { a with Ring := { a.Ring with At := b } }) := ⟨Foc.at (foc_Comb_Ring.trans lf_Ring_1.f) rfl⟩
instance lf_Comb_2 : FocC rComb 2 (rF .f32) (fun a => a.Gain) (fun a b => { a with Gain := b }) := ⟨Foc.at foc_Comb_Gain rfl⟩
def rTap : Rep GTap := (Rep.seq (rI .i64) ((rF .f32))).via fun a => (a.Back, a.Gain)
theorem foc_Tap_Back : Foc rTap (rI .i64) 0 (fun a => a.Back) (fun a b => { a with Back := b }) := (Foc.via (f := fun a : GTap => (a.Back, a.Gain)) (get' := fun a => a.Back) (put' := fun a b => { a with Back := b }) (Foc.fst (Foc.here (rI .i64))) (fun _ => rfl) (fun _ _ => rfl)).at rfl
theorem foc_Tap_Gain : Foc rTap (rF .f32) 1 (fun a => a.Gain) (fun a b => { a with Gain := b }) := (Foc.via (f := fun a : GTap => (a.Back, a.Gain)) (get' := fun a => a.Gain) (put' := fun a b => { a with Gain := b }) (Foc.snd (Foc.here (rF .f32))) (fun _ => rfl) (fun _ _ => rfl)).at rfl
instance lf_Tap_0 : FocC rTap 0 (rI .i64) (fun a => a.Back) (fun a b => { a with Back := b }) := ⟨Foc.at foc_Tap_Back rfl⟩
instance lf_Tap_1 : FocC rTap 1 (rF .f32) (fun a => a.Gain) (fun a b => { a with Gain := b }) := ⟨Foc.at foc_Tap_Gain rfl⟩
def rRoom : Rep GRoom := (Rep.seq rRing (Rep.seq (rSl T_impl_Tap rTap) (Rep.seq (rArr 2 rComb) (Rep.seq (rArr 4 rRing) (Rep.seq (rArr 4 rFilter) (Rep.seq (rArr 4 (rF .f32)) (Rep.seq (rF .f32) ((rF .f32))))))))).via fun a => (a.Early, a.Taps, a.Combs, a.Loops, a.Damps, a.Gains, a.Dry, a.Wet)
theorem foc_Room_Early : Foc rRoom rRing 0 (fun a => a.Early) (fun a b => { a with Early := b }) := (Foc.via (f := fun a : GRoom => (a.Early, a.Taps, a.Combs, a.Loops, a.Damps, a.Gains, a.Dry, a.Wet)) (get' := fun a => a.Early) (put' := fun a b => { a with Early := b }) (Foc.fst (Foc.here rRing)) (fun _ => rfl) (fun _ _ => rfl)).at rfl
theorem foc_Room_Taps : Foc rRoom (rSl T_impl_Tap rTap) 2 (fun a => a.Taps) (fun a b => { a with Taps := b }) := (Foc.via (f := fun a : GRoom => (a.Early, a.Taps, a.Combs, a.Loops, a.Damps, a.Gains, a.Dry, a.Wet)) (get' := fun a => a.Taps) (put' := fun a b => { a with Taps := b }) (Foc.snd (Foc.fst (Foc.here (rSl T_impl_Tap rTap)))) (fun _ => rfl) (fun _ _ => rfl)).at rfl
theorem foc_Room_Combs : Foc rRoom (rArr 2 rComb) 3 (fun a => a.Combs) (fun a b => { a with Combs := b }) := (Foc.via (f := fun a : GRoom => (a.Early, a.Taps, a.Combs, a.Loops, a.Damps, a.Gains, a.Dry, a.Wet)) (get' := fun a => a.Combs) (put' := fun a b => { a with Combs := b }) (Foc.snd (Foc.snd (Foc.fst (Foc.here (rArr 2 rComb))))) (fun _ => rfl) (fun _ _ => rfl)).at rfl
theorem foc_Room_Loops : Foc rRoom (rArr 4 rRing) 9 (fun a => a.Loops) (fun a b => { a with Loops := b }) := (Foc.via (f := fun a : GRoom => (a.Early, a.Taps, a.Combs, a.Loops, a.Damps, a.Gains, a.Dry, a.Wet)) (get' := fun a => a.Loops) (put' := fun a b => { a with Loops := b }) (Foc.snd (Foc.snd (Foc.snd (Foc.fst (Foc.here (rArr 4 rRing)))))) (fun _ => rfl) (fun _ _ => rfl)).at rfl
theorem foc_Room_Damps : Foc rRoom (rArr 4 rFilter) 17 (fun a => a.Damps) (fun a b => { a with Damps := b }) := (Foc.via (f := fun a : GRoom => (a.Early, a.Taps, a.Combs, a.Loops, a.Damps, a.Gains, a.Dry, a.Wet)) (get' := fun a => a.Damps) (put' := fun a b => { a with Damps := b }) (Foc.snd (Foc.snd (Foc.snd (Foc.snd (Foc.fst (Foc.here (rArr 4 rFilter))))))) (fun _ => rfl) (fun _ _ => rfl)).at rfl
theorem foc_Room_Gains : Foc rRoom (rArr 4 (rF .f32)) 41 (fun a => a.Gains) (fun a b => { a with Gains := b }) := (Foc.via (f := fun a : GRoom => (a.Early, a.Taps, a.Combs, a.Loops, a.Damps, a.Gains, a.Dry, a.Wet)) (get' := fun a => a.Gains) (put' := fun a b => { a with Gains := b }) (Foc.snd (Foc.snd (Foc.snd (Foc.snd (Foc.snd (Foc.fst (Foc.here (rArr 4 (rF .f32))))))))) (fun _ => rfl) (fun _ _ => rfl)).at rfl
theorem foc_Room_Dry : Foc rRoom (rF .f32) 45 (fun a => a.Dry) (fun a b => { a with Dry := b }) := (Foc.via (f := fun a : GRoom => (a.Early, a.Taps, a.Combs, a.Loops, a.Damps, a.Gains, a.Dry, a.Wet)) (get' := fun a => a.Dry) (put' := fun a b => { a with Dry := b }) (Foc.snd (Foc.snd (Foc.snd (Foc.snd (Foc.snd (Foc.snd (Foc.fst (Foc.here (rF .f32))))))))) (fun _ => rfl) (fun _ _ => rfl)).at rfl
theorem foc_Room_Wet : Foc rRoom (rF .f32) 46 (fun a => a.Wet) (fun a b => { a with Wet := b }) := (Foc.via (f := fun a : GRoom => (a.Early, a.Taps, a.Combs, a.Loops, a.Damps, a.Gains, a.Dry, a.Wet)) (get' := fun a => a.Wet) (put' := fun a b => { a with Wet := b }) (Foc.snd (Foc.snd (Foc.snd (Foc.snd (Foc.snd (Foc.snd (Foc.snd (Foc.here (rF .f32))))))))) (fun _ => rfl) (fun _ _ => rfl)).at rfl
def z_Room : GRoom := ⟨z_Ring, [], [z_Comb, z_Comb], [z_Ring, z_Ring, z_Ring, z_Ring], [z_Filter, z_Filter, z_Filter, z_Filter], [0, 0, 0, 0], 0, 0⟩
instance lf_Room_0 : FocC rRoom 0 (rSl T_float32 (rF .f32)) (fun a => a.Early.Samples) (fun a b => { a with Early := { a.Early with Samples := b } }) := ⟨Foc.at (foc_Room_Early.trans lf_Ring_0.f) rfl⟩
instance lf_Room_1 : FocC rRoom 1 (rI .i64) (fun a => a.Early.At) (fun a b => { a with Early := { a.Early with At := b } }) := ⟨Foc.at (foc_Room_Early.trans lf_Ring_1.f) rfl⟩
instance lf_Room_2 : FocC rRoom 2 (rSl T_impl_Tap rTap) (fun a => a.Taps) (fun a b => { a with Taps := b }) := ⟨Foc.at foc_Room_Taps rfl⟩
instance lf_Room_3 : FocC rRoom 3 (rSl T_float32 (rF .f32)) (fun a => a.Combs[0]!.Ring.Samples) (fun a b => { a with Combs := a.Combs.set 0 ({ a.Combs[0]! with Ring := { a.Combs[0]!.Ring with Samples := b } }) }) := ⟨Foc.at (foc_Room_Combs.trans ((Foc.arr rComb 0 (by decide)).trans (foc_Comb_Ring.trans lf_Ring_0.f))) rfl⟩
instance lf_Room_4 : FocC rRoom 4 (rI .i64) (fun a => a.Combs[0]!.Ring.At) (fun a b => { a with Combs := a.Combs.set 0 ({ a.Combs[0]! with Ring := { a.Combs[0]!.Ring with At := b } }) }) := ⟨Foc.at (foc_Room_Combs.trans ((Foc.arr rComb 0 (by decide)).trans (foc_Comb_Ring.trans lf_Ring_1.f))) rfl⟩
instance lf_Room_5 : FocC rRoom 5 (rF .f32) (fun a => a.Combs[0]!.Gain) (fun a b => { a with Combs := a.Combs.set 0 ({ a.Combs[0]! with Gain := b }) }) := ⟨Foc.at (foc_Room_Combs.trans ((Foc.arr rComb 0 (by decide)).trans foc_Comb_Gain)) rfl⟩
instance lf_Room_6 : FocC rRoom 6 (rSl T_float32 (rF .f32)) (fun a => a.Combs[1]!.Ring.Samples) (fun a b => { a with Combs := a.Combs.set 1 ({ a.Combs[1]! with Ring := { a.Combs[1]!.Ring with Samples := b } }) }) := ⟨Foc.at (foc_Room_Combs.trans ((Foc.arr rComb 1 (by decide)).trans (foc_Comb_Ring.trans lf_Ring_0.f))) rfl⟩
instance lf_Room_7 : FocC rRoom 7 (rI .i64) (fun a => a.Combs[1]!.Ring.At) (fun a b => { a with Combs := a.Combs.set 1 ({ a.Combs[1]! with Ring := { a.Combs[1]!.Ring with At := b } }) }) := ⟨Foc.at (foc_Room_Combs.trans ((Foc.arr rComb 1 (by decide)).trans (foc_Comb_Ring.trans lf_Ring_1.f))) rfl⟩
instance lf_Room_8 : FocC rRoom 8 (rF .f32) (fun a => a.Combs[1]!.Gain) (fun a b => { a with Combs := a.Combs.set 1 ({ a.Combs[1]! with Gain := b }) }) := ⟨Foc.at (foc_Room_Combs.trans ((Foc.arr rComb 1 (by decide)).trans foc_Comb_Gain)) rfl⟩
instance lf_Room_9 : FocC rRoom 9 (rSl T_float32 (rF .f32)) (fun a => a.Loops[0]!.Samples) (fun a b => { a with Loops := a.Loops.set 0 ({ a.Loops[0]! with Samples := b }) }) := ⟨Foc.at (foc_Room_Loops.trans ((Foc.arr rRing 0 (by decide)).trans foc_Ring_Samples)) rfl⟩
instance lf_Room_10 : FocC rRoom 10 (rI .i64) (fun a => a.Loops[0]!.At) (fun a b => { a with Loops := a.Loops.set 0 ({ a.Loops[0]! with At := b }) }) := ⟨Foc.at (foc_Room_Loops.trans ((Foc.arr rRing 0 (by decide)).trans foc_Ring_At)) rfl⟩
instance lf_Room_11 : FocC rRoom 11 (rSl T_float32 (rF .f32)) (fun a => a.Loops[1]!.Samples) (fun a b => { a with Loops := a.Loops.set 1 ({ a.Loops[1]! with Samples := b }) }) := ⟨Foc.at (foc_Room_Loops.trans ((Foc.arr rRing 1 (by decide)).trans foc_Ring_Samples)) rfl⟩
instance lf_Room_12 : FocC rRoom 12 (rI .i64) (fun a => a.Loops[1]!.At) (fun a b => { a with Loops := a.Loops.set 1 ({ a.Loops[1]! with At := b }) }) := ⟨Foc.at (foc_Room_Loops.trans ((Foc.arr rRing 1 (by decide)).trans foc_Ring_At)) rfl⟩
instance lf_Room_13 : FocC rRoom 13 (rSl T_float32 (rF .f32)) (fun a => a.Loops[2]!.Samples) (fun a b => { a with Loops := a.Loops.set 2 ({ a.Loops[2]! with Samples := b }) }) := ⟨Foc.at (foc_Room_Loops.trans ((Foc.arr rRing 2 (by decide)).trans foc_Ring_Samples)) rfl⟩
instance lf_Room_14 : FocC rRoom 14 (rI .i64) (fun a => a.Loops[2]!.At) (fun a b => { a with Loops := a.Loops.set 2 ({ a.Loops[2]! with At := b }) }) := ⟨Foc.at (foc_Room_Loops.trans ((Foc.arr rRing 2 (by decide)).trans foc_Ring_At)) rfl⟩
instance lf_Room_15 : FocC rRoom 15 (rSl T_float32 (rF .f32)) (fun a => a.Loops[3]!.Samples) (fun a b => { a with Loops := a.Loops.set 3 ({ a.Loops[3]! with Samples := b }) }) := ⟨Foc.at (foc_Room_Loops.trans ((Foc.arr rRing 3 (by decide)).trans foc_Ring_Samples)) rfl⟩
instance lf_Room_16 : FocC rRoom 16 (rI .i64) (fun a => a.Loops[3]!.At) (fun a b => { a with Loops := a.Loops.set 3 ({ a.Loops[3]! with At := b }) }) := ⟨Foc.at (foc_Room_Loops.trans ((Foc.arr rRing 3 (by decide)).trans foc_Ring_At)) rfl⟩
instance lf_Room_17 : FocC rRoom 17 (rI .i64) (fun a => a.Damps[0]!.Kind) (fun a b => { a with Damps := a.Damps.set 0 ({ a.Damps[0]! with Kind := b }) }) := ⟨Foc.at (foc_Room_Damps.trans ((Foc.arr rFilter 0 (by decide)).trans foc_Filter_Kind)) rfl⟩
instance lf_Room_18 : FocC rRoom 18 (rF .f32) (fun a => a.Damps[0]!.C[0]!) (fun a b => { a with Damps := a.Damps.set 0 ({ a.Damps[0]! with C := a.Damps[0]!.C.set 0 b }) }) := ⟨Foc.at (foc_Room_Damps.trans ((Foc.arr rFilter 0 (by decide)).trans (foc_Filter_C.trans (Foc.arr (rF .f32) 0 (by decide))))) rfl⟩
instance lf_Room_19 : FocC rRoom 19 (rF .f32) (fun a => a.Damps[0]!.C[1]!) (fun a b => { a with Damps := a.Damps.set 0 ({ a.Damps[0]! with C := a.Damps[0]!.C.set 1 b }) }) := ⟨Foc.at (foc_Room_Damps.trans ((Foc.arr rFilter 0 (by decide)).trans (foc_Filter_C.trans (Foc.arr (rF .f32) 1 (by decide))))) rfl⟩
instance lf_Room_20 : FocC rRoom 20 (rF .f32) (fun a => a.Damps[0]!.C[2]!) (fun a b => { a with Damps := a.Damps.set 0 ({ a.Damps[0]! with C := a.Damps[0]!.C.set 2 b }) }) := ⟨Foc.at (foc_Room_Damps.trans ((Foc.arr rFilter 0 (by decide)).trans (foc_Filter_C.trans (Foc.arr (rF .f32) 2 (by decide))))) rfl⟩
instance lf_Room_21 : FocC rRoom 21 (rF .f32) (fun a => a.Damps[0]!.S[0]!) (fun a b => { a with Damps := a.Damps.set 0 ({ a.Damps[0]! with S := a.Damps[0]!.S.set 0 b }) }) := ⟨Foc.at (foc_Room_Damps.trans ((Foc.arr rFilter 0 (by decide)).trans (foc_Filter_S.trans (Foc.arr (rF .f32) 0 (by decide))))) rfl⟩
instance lf_Room_22 : FocC rRoom 22 (rF .f32) (fun a => a.Damps[0]!.S[1]!) (fun a b => { a with Damps := a.Damps.set 0 ({ a.Damps[0]! with S := a.Damps[0]!.S.set 1 b }) }) := ⟨Foc.at (foc_Room_Damps.trans ((Foc.arr rFilter 0 (by decide)).trans (foc_Filter_S.trans (Foc.arr (rF .f32) 1 (by decide))))) rfl⟩
instance lf_Room_23 : FocC rRoom 23 (rI .i64) (fun a => a.Damps[1]!.Kind) (fun a b => { a with Damps := a.Damps.set 1 ({ a.Damps[1]! with Kind := b }) }) := ⟨Foc.at (foc_Room_Damps.trans ((Foc.arr rFilter 1 (by decide)).trans foc_Filter_Kind)) rfl⟩
instance lf_Room_24 : FocC rRoom 24 (rF .f32) (fun a => a.Damps[1]!.C[0]!) (fun a b => { a with Damps := a.Damps.set 1 ({ a.Damps[1]! with C := a.Damps[1]!.C.set 0 b }) }) := ⟨Foc.at (foc_Room_Damps.trans ((Foc.arr rFilter 1 (by decide)).trans (foc_Filter_C.trans (Foc.arr (rF .f32) 0 (by decide))))) rfl⟩
instance lf_Room_25 : FocC rRoom 25 (rF .f32) (fun a => a.Damps[1]!.C[1]!) (fun a b => { a with Damps := a.Damps.set 1 ({ a.Damps[1]! with C := a.Damps[1]!.C.set 1 b }) }) := ⟨Foc.at (foc_Room_Damps.trans ((Foc.arr rFilter 1 (by decide)).trans (foc_Filter_C.trans (Foc.arr (rF .f32) 1 (by decide))))) rfl⟩
instance lf_Room_26 : FocC rRoom 26 (rF .f32) (fun a => a.Damps[1]!.C[2]!) (fun a b => { a with Damps := a.Damps.set 1 ({ a.Damps[1]! with C := a.Damps[1]!.C.set 2 b }) }) := ⟨Foc.at (foc_Room_Damps.trans ((Foc.arr rFilter 1 (by decide)).trans (foc_Filter_C.trans (Foc.arr (rF .f32) 2 (by decide))))) rfl⟩
instance lf_Room_27 : FocC rRoom 27 (rF .f32) (fun a => a.Damps[1]!.S[0]!) (fun a b => { a with Damps := a.Damps.set 1 ({ a.Damps[1]! with S := a.Damps[1]!.S.set 0 b }) }) := ⟨Foc.at (foc_Room_Damps.trans ((Foc.arr rFilter 1 (by decide)).trans (foc_Filter_S.trans (Foc.arr (rF .f32) 0 (by decide))))) rfl⟩
instance lf_Room_28 : FocC rRoom 28 (rF .f32) (fun a => a.Damps[1]!.S[1]!) (fun a b => { a with Damps := a.Damps.set 1 ({ a.Damps[1]! with S := a.Damps[1]!.S.set 1 b }) }) := ⟨Foc.at (foc_Room_Damps.trans ((Foc.arr rFilter 1 (by decide)).trans (foc_Filter_S.trans (Foc.arr (rF .f32) 1 (by decide))))) rfl⟩
instance lf_Room_29 : FocC rRoom 29 (rI .i64) (fun a => a.Damps[2]!.Kind) (fun a b => { a with Damps := a.Damps.set 2 ({ a.Damps[2]! with Kind := b }) }) := ⟨Foc.at (foc_Room_Damps.trans ((Foc.arr rFilter 2 (by decide)).trans foc_Filter_Kind)) rfl⟩
instance lf_Room_30 : FocC rRoom 30 (rF .f32) (fun a => a.Damps[2]!.C[0]!) (fun a b => { a with Damps := a.Damps.set 2 ({ a.Damps[2]! with C := a.Damps[2]!.C.set 0 b }) }) := ⟨Foc.at (foc_Room_Damps.trans ((Foc.arr rFilter 2 (by decide)).trans (foc_Filter_C.trans (Foc.arr (rF .f32) 0 (by decide))))) rfl⟩
instance lf_Room_31 : FocC rRoom 31 (rF .f32) (fun a => a.Damps[2]!.C[1]!) (fun a b => { a with Damps := a.Damps.set 2 ({ a.Damps[2]! with C := a.Damps[2]!.C.set 1 b }) }) := ⟨Foc.at (foc_Room_Damps.trans ((Foc.arr rFilter 2 (by decide)).trans (foc_Filter_C.trans (Foc.arr (rF .f32) 1 (by decide))))) rfl⟩
instance lf_Room_32 : FocC rRoom 32 (rF .f32) (fun a => a.Damps[2]!.C[2]!) (fun a b => { a with Damps := a.Damps.set 2 ({ a.Damps[2]! with C := a.Damps[2]!.C.set 2 b }) }) := ⟨Foc.at (foc_Room_Damps.trans ((Foc.arr rFilter 2 (by decide)).trans (foc_Filter_C.trans (Foc.arr (rF .f32) 2 (by decide))))) rfl⟩
instance lf_Room_33 : FocC rRoom 33 (rF .f32) (fun a => a.Damps[2]!.S[0]!) (fun a b => { a with Damps := a.Damps.set 2 ({ a.Damps[2]! with S := a.Damps[2]!.S.set 0 b }) }) := ⟨Foc.at (foc_Room_Damps.trans ((Foc.arr rFilter 2 (by decide)).trans (foc_Filter_S.trans (Foc.arr (rF .f32) 0 (by decide))))) rfl⟩
instance lf_Room_34 : FocC rRoom 34 (rF .f32) (fun a => a.Damps[2]!.S[1]!) (fun a b => { a with Damps := a.Damps.set 2 ({ a.Damps[2]! with S := a.Damps[2]!.S.set 1 b }) }) := ⟨Foc.at (foc_Room_Damps.trans ((Foc.arr rFilter 2 (by decide)).trans (foc_Filter_S.trans (Foc.arr (rF .f32) 1 (by decide))))) rfl⟩
instance lf_Room_35 : FocC rRoom 35 (rI .i64) (fun a => a.Damps[3]!.Kind) (fun a b => { a with Damps := a.Damps.set 3 ({ a.Damps[3]! with Kind := b }) }) := ⟨Foc.at (foc_Room_Damps.trans ((Foc.arr rFilter 3 (by decide)).trans foc_Filter_Kind)) rfl⟩
instance lf_Room_36 : FocC rRoom 36 (rF .f32) (fun a => a.Damps[3]!.C[0]!) (fun a b => { a with Damps := a.Damps.set 3 ({ a.Damps[3]! with C := a.Damps[3]!.C.set 0 b }) }) := ⟨Foc.at (foc_Room_Damps.trans ((Foc.arr rFilter 3 (by decide)).trans (foc_Filter_C.trans (Foc.arr (rF .f32) 0 (by decide))))) rfl⟩
instance lf_Room_37 : FocC rRoom 37 (rF .f32) (fun a => a.Damps[3]!.C[1]!) (fun a b => { a with Damps := a.Damps.set 3 ({ a.Damps[3]! with C := a.Damps[3]!.C.set 1 b }) }) := ⟨Foc.at (foc_Room_Damps.trans ((Foc.arr rFilter 3 (by decide)).trans (foc_Filter_C.trans (Foc.arr (rF .f32) 1 (by decide))))) rfl⟩
instance lf_Room_38 : FocC rRoom 38 (rF .f32) (fun a => a.Damps[3]!.C[2]!) (fun a b => { a with Damps := a.Damps.set 3 ({ a.Damps[3]! with C := a.Damps[3]!.C.set 2 b }) }) := ⟨Foc.at (foc_Room_Damps.trans ((Foc.arr rFilter 3 (by decide)).trans (foc_Filter_C.trans (Foc.arr (rF .f32) 2 (by decide))))) rfl⟩
instance lf_Room_39 : FocC rRoom 39 (rF .f32) (fun a => a.Damps[3]!.S[0]!) (fun a b => { a with Damps := a.Damps.set 3 ({ a.Damps[3]! with S := a.Damps[3]!.S.set 0 b }) }) := ⟨Foc.at (foc_Room_Damps.trans ((Foc.arr rFilter 3 (by decide)).trans (foc_Filter_S.trans (Foc.arr (rF .f32) 0 (by decide))))) rfl⟩
instance lf_Room_40 : FocC rRoom 40 (rF .f32) (fun a => a.Damps[3]!.S[1]!) (fun a b => { a with Damps := a.Damps.set 3 ({ a.Damps[3]! with S := a.Damps[3]!.S.set 1 b }) }) := ⟨Foc.at (foc_Room_Damps.trans ((Foc.arr rFilter 3 (by decide)).trans (foc_Filter_S.trans (Foc.arr (rF .f32) 1 (by decide))))) rfl⟩
instance lf_Room_41 : FocC rRoom 41 (rF .f32) (fun a => a.Gains[0]!) (fun a b => { a with Gains := a.Gains.set 0 b }) := ⟨Foc.at (foc_Room_Gains.trans (Foc.arr (rF .f32) 0 (by decide))) rfl⟩
instance lf_Room_42 : FocC rRoom 42 (rF .f32) (fun a => a.Gains[1]!) (fun a b => { a with Gains := a.Gains.set 1 b }) := ⟨Foc.at (foc_Room_Gains.trans (Foc.arr (rF .f32) 1 (by decide))) rfl⟩
instance lf_Room_43 : FocC rRoom 43 (rF .f32) (fun a => a.Gains[2]!) (fun a b => { a with Gains := a.Gains.set 2 b }) := ⟨Foc.at (foc_Room_Gains.trans (Foc.arr (rF .f32) 2 (by decide))) rfl⟩
instance lf_Room_44 : FocC rRoom 44 (rF .f32) (fun a => a.Gains[3]!) (fun a b => { a with Gains := a.Gains.set 3 b }) := ⟨Foc.at (foc_Room_Gains.trans (Foc.arr (rF .f32) 3 (by decide))) rfl⟩
instance lf_Room_45 : FocC rRoom 45 (rF .f32) (fun a => a.Dry) (fun a b => { a with Dry := b }) := ⟨Foc.at foc_Room_Dry rfl⟩
instance lf_Room_46 : FocC rRoom 46 (rF .f32) (fun a => a.Wet) (fun a b => { a with Wet := b }) := ⟨Foc.at foc_Room_Wet rfl⟩
end Go.Sx
