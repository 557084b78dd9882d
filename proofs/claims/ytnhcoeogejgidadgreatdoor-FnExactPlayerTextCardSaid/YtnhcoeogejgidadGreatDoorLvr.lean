/- The text of a sample's bits: eight hexadecimal digits. What is read from it is what was told. -/
import Derived.Lib.ConvBytes
import Derived.Laws.Build
import Derived.Test.YtnhcoeogejgidadGreatDoorTF
import Derived.Test.YtnhcoeogejgidadGreatDoorLgw
import Derived.Test.YtnhcoeogejgidadGreatDoorTab
import Derived.Lib.Join
import Derived.Test.YtnhcoeogejgidadGreatDoorLx1
import Derived.Test.YtnhcoeogejgidadGreatDoorTabE
import Derived.Test.YtnhcoeogejgidadGreatDoorLk1
set_option linter.unusedVariables false
set_option linter.unusedSimpArgs false
namespace Go.Sx
open Go.Proofs Go.RowKit
set_option maxRecDepth 100000
set_option maxHeartbeats 1000000

/-- The eight digits of a sample's bits. -/
def bitL (n : Nat) : List UInt8 := List.replicate (8 - (hexL n).length) 48 ++ hexL n
theorem bitL_len {n : Nat} (h : n < 4294967296) : (bitL n).length = 8 := by
  have := hexL_le 7 n (by simpa using h)
  unfold bitL
  rw [List.length_append, List.length_replicate]
  omega
/-- Every byte of it is a digit or one of the letters a to f: never a blank, a new line or a bar. -/
theorem hexD_ne {k : Nat} (h : k < 16) : 48 ≤ (hexD k).toNat ∧ (hexD k).toNat ≤ 102 ∧ ((hexD k).toNat ≤ 57 ∨ 97 ≤ (hexD k).toNat) := by
  have : ∀ k : Fin 16, 48 ≤ (hexD k.val).toNat ∧ (hexD k.val).toNat ≤ 102 ∧ ((hexD k.val).toNat ≤ 57 ∨ 97 ≤ (hexD k.val).toNat) := by decide +kernel
  exact this ⟨k, h⟩
theorem hexL_mem : ∀ (k u : Nat), u < 16 ^ (k + 1) → ∀ b ∈ hexL u, 48 ≤ b.toNat ∧ b.toNat ≤ 102 ∧ (b.toNat ≤ 57 ∨ 97 ≤ b.toNat)
  | 0, u, h, b, hb => by
    have : u < 16 := by simpa using h
    rw [hexL_small this, List.mem_singleton] at hb
    rw [hb]; exact hexD_ne this
  | k + 1, u, h, b, hb => by
    by_cases c : u < 16
    · rw [hexL_small c, List.mem_singleton] at hb
      rw [hb]; exact hexD_ne c
    · rw [hexL_step c, List.mem_append, List.mem_singleton] at hb
      rcases hb with hb | hb
      · exact hexL_mem k (u / 16) (by rw [Nat.pow_succ] at h; omega) b hb
      · rw [hb]; exact hexD_ne (by omega)
theorem bitL_mem {n : Nat} (h : n < 4294967296) : ∀ b ∈ bitL n, 48 ≤ b.toNat ∧ b.toNat ≤ 102 ∧ (b.toNat ≤ 57 ∨ 97 ≤ b.toNat) := by
  intro b hb
  unfold bitL at hb
  rw [List.mem_append] at hb
  rcases hb with hb | hb
  · rw [(List.mem_replicate.mp hb).2]; decide
  · exact hexL_mem 7 n (by simpa using h) b hb
end Go.Sx
/- Texts of samples, rings and filters as lists of bytes, and what cutting and reading them gives. -/
set_option linter.unusedVariables false
set_option linter.unusedSimpArgs false
namespace Go.Sx
open Go.Proofs Go.RowKit
set_option maxRecDepth 100000
set_option maxHeartbeats 1000000

theorem join_two (x y : List UInt8) (r : List (List UInt8)) (c : UInt8) : Lib.join (x :: y :: r) [c] = x ++ c :: Lib.join (y :: r) [c] := by
  rw [Lib.join_cons, Lib.join_cons]
  simp [Lib.joinTail]
theorem cut_join {c : UInt8} : ∀ (x : List UInt8) (r : List (List UInt8)), (∀ y ∈ x :: r, ∀ b ∈ y, b ≠ c) → cutL c (Lib.join (x :: r) [c]) = x :: r
  | x, [], h => by rw [Lib.join_one]; exact cut_none (h x (List.mem_cons_self ..))
  | x, y :: r, h => by
    rw [join_two, cut_pre (h x (List.mem_cons_self ..)), cut_join y r fun z hz => h z (List.mem_cons_of_mem _ hz)]
theorem cut_join_app {c : UInt8} (t : List UInt8) : ∀ (x : List UInt8) (r : List (List UInt8)), (∀ y ∈ x :: r, ∀ b ∈ y, b ≠ c) → cutL c (Lib.join (x :: r) [c] ++ c :: t) = (x :: r) ++ cutL c t
  | x, [], h => by rw [Lib.join_one, cut_pre (h x (List.mem_cons_self ..))]; rfl
  | x, y :: r, h => by
    rw [join_two, List.append_assoc, List.cons_append, cut_pre (h x (List.mem_cons_self ..)), cut_join_app t y r fun z hz => h z (List.mem_cons_of_mem _ hz)]
    rfl
theorem join_mem {c b : UInt8} : ∀ (xs : List (List UInt8)), b ∈ Lib.join xs [c] → b = c ∨ ∃ x ∈ xs, b ∈ x
  | [], h => by rw [Lib.join_nil] at h; simp at h
  | [x], h => by rw [Lib.join_one] at h; exact .inr ⟨x, List.mem_cons_self .., h⟩
  | x :: y :: r, h => by
    rw [join_two, List.mem_append, List.mem_cons] at h
    rcases h with h | h | h
    · exact .inr ⟨x, List.mem_cons_self .., h⟩
    · exact .inl h
    · rcases join_mem (y :: r) h with k | ⟨z, hz, k⟩
      · exact .inl k
      · exact .inr ⟨z, List.mem_cons_of_mem _ hz, k⟩
/-- Bits of single precision. -/
def B32 (ns : List Nat) : Prop := ∀ n ∈ ns, n < 4294967296
/-- Samples, told. -/
def smpL (ns : List Nat) : List UInt8 := Lib.join (ns.map bitL) [32]
theorem bitL_ne {n : Nat} (h : n < 4294967296) {c : UInt8} (hc : c.toNat < 48) : ∀ b ∈ bitL n, b ≠ c := by
  intro b hb e
  have := bitL_mem h b hb
  subst e
  omega
theorem bits_ne {ns : List Nat} (h : B32 ns) {c : UInt8} (hc : c.toNat < 48) : ∀ y ∈ ns.map bitL, ∀ b ∈ y, b ≠ c := by
  intro y hy
  obtain ⟨n, hn, rfl⟩ := List.mem_map.mp hy
  exact bitL_ne (h n hn) hc
theorem smp_cut {ns : List Nat} (h : B32 ns) (hn : ns ≠ []) : cutL 32 (smpL ns) = ns.map bitL := by
  cases ns with
  | nil => exact absurd rfl hn
  | cons n r => exact cut_join (bitL n) (r.map bitL) (bits_ne (ns := n :: r) h (by decide))
theorem smp_cut_app {ns : List Nat} (h : B32 ns) (hn : ns ≠ []) (t : List UInt8) : cutL 32 (smpL ns ++ 32 :: t) = ns.map bitL ++ cutL 32 t := by
  cases ns with
  | nil => exact absurd rfl hn
  | cons n r => exact cut_join_app t (bitL n) (r.map bitL) (bits_ne (ns := n :: r) h (by decide))
theorem smp_mem {ns : List Nat} (h : B32 ns) : ∀ b ∈ smpL ns, b ≠ 10 := by
  intro b hb e
  rcases join_mem _ hb with k | ⟨x, hx, k⟩
  · rw [e] at k; exact absurd k (by decide)
  · exact bits_ne h (c := 10) (by decide) x hx b k e
theorem smp_len : ∀ {ns : List Nat}, B32 ns → ns ≠ [] → (smpL ns).length + 1 = 9 * ns.length
  | [], h, hn => absurd rfl hn
  | [n], h, _ => by
    show (Lib.join [bitL n] [32]).length + 1 = _
    rw [Lib.join_one, bitL_len (h n (List.mem_cons_self ..))]
    rfl
  | n :: m :: r, h, _ => by
    have ih := smp_len (ns := m :: r) (fun k hk => h k (List.mem_cons_of_mem _ hk)) (by simp)
    show (Lib.join (bitL n :: bitL m :: r.map bitL) [32]).length + 1 = _
    rw [join_two, List.length_append, List.length_cons, bitL_len (h n (List.mem_cons_self ..))]
    have e : (Lib.join (bitL m :: r.map bitL) [32]).length + 1 = 9 * (m :: r).length := ih
    simp only [List.length_cons] at e ⊢
    omega
theorem smp_le {ns : List Nat} (h : B32 ns) : (smpL ns).length ≤ 9 * ns.length := by
  cases ns with
  | nil => show (Lib.join [] [32]).length ≤ _; rw [Lib.join_nil]; simp
  | cons n r => have := smp_len h (by simp); omega
/-- A ring, told in one line. -/
def ringL (at_ : Nat) (ns : List Nat) : List UInt8 := Lib.decDigits ns.length ++ 32 :: (Lib.decDigits at_ ++ 32 :: smpL ns)
theorem ring_cut {a : Nat} {ns : List Nat} (h : B32 ns) (hn : ns ≠ []) : cutL 32 (ringL a ns) = Lib.decDigits ns.length :: Lib.decDigits a :: ns.map bitL := by
  unfold ringL
  rw [cut_pre (dec_no _ (.inl (by decide))), cut_pre (dec_no _ (.inl (by decide))), smp_cut h hn]
theorem ring_mem {a : Nat} {ns : List Nat} (h : B32 ns) : ∀ b ∈ ringL a ns, b ≠ 10 := by
  intro b hb
  unfold ringL at hb
  simp only [List.mem_append, List.mem_cons] at hb
  rcases hb with hb | rfl | hb | rfl | hb
  · exact dec_no _ (c := 10) (.inl (by decide)) b hb
  · decide
  · exact dec_no _ (c := 10) (.inl (by decide)) b hb
  · decide
  · exact smp_mem h b hb
/-- A filter, told in one line. -/
def fwL : List UInt8 := [102, 105, 108, 116, 101, 114]
def filtL (k : Nat) (cs ss : List Nat) : List UInt8 := fwL ++ 32 :: (Lib.decDigits k ++ 32 :: (smpL cs ++ 32 :: smpL ss))
theorem filt_cut {k : Nat} {cs ss : List Nat} (hc : B32 cs) (hs : B32 ss) (nc : cs ≠ []) (ns : ss ≠ []) : cutL 32 (filtL k cs ss) = fwL :: Lib.decDigits k :: (cs ++ ss).map bitL := by
  unfold filtL
  rw [cut_pre (by decide), cut_pre (dec_no _ (.inl (by decide))), smp_cut_app hc nc, smp_cut hs ns, List.map_append]
theorem filt_mem {k : Nat} {cs ss : List Nat} (hc : B32 cs) (hs : B32 ss) : ∀ b ∈ filtL k cs ss, b ≠ 10 := by
  intro b hb
  unfold filtL at hb
  simp only [List.mem_append, List.mem_cons] at hb
  rcases hb with hb | rfl | hb | rfl | hb | rfl | hb
  · have : ∀ b ∈ fwL, b ≠ 10 := by decide
    exact this b hb
  · decide
  · exact dec_no _ (c := 10) (.inl (by decide)) b hb
  · decide
  · exact smp_mem hc b hb
  · decide
  · exact smp_mem hs b hb
/-- Lines, each of which ends with a new line. -/
def linL : List (List UInt8) → List UInt8
  | [] => []
  | l :: r => l ++ 10 :: linL r
theorem lin_cut : ∀ {ls : List (List UInt8)}, (∀ l ∈ ls, ∀ b ∈ l, b ≠ 10) → cutL 10 (linL ls) = ls ++ [[]]
  | [], _ => rfl
  | l :: r, h => by
    rw [linL, cut_pre (h l (List.mem_cons_self ..)), lin_cut fun k hk => h k (List.mem_cons_of_mem _ hk)]
    rfl
theorem lin_app : ∀ (a b : List (List UInt8)), linL (a ++ b) = linL a ++ linL b
  | [], b => rfl
  | l :: r, b => by rw [List.cons_append, linL, linL, lin_app r b, List.append_assoc, List.cons_append]
end Go.Sx
/- Deeds: valid ones, their words. -/
namespace Go.Sx
set_option maxRecDepth 100000
open Go.Proofs
set_option linter.unusedVariables false

def dd (k a b : Int) : Array Value := ⟨[.int .i64 k, .int .i64 a, .int .i64 b]⟩
def numbers (k : Int) : Int := if k = 7 ∨ k = 8 then 0 else if k = 6 then 2 else 1
def validDeed (k a b : Int) : Bool := inR k 1 9 && inR a 0 999 && inR b 0 999 && (decide (0 < numbers k) || a == 0) && (decide (1 < numbers k) || b == 0)
def by_ (l : List UInt8) : ByteArray := ⟨⟨l⟩⟩
def wordOf (k : Int) : ByteArray := if k = 1 then by_ [103, 105, 118, 101] else if k = 2 then by_ [119, 111, 114, 107] else if k = 3 then by_ [100, 101, 108, 105, 118, 101, 114] else if k = 4 then by_ [99, 111, 112, 121]
  else if k = 5 then by_ [100, 114, 111, 112] else if k = 6 then by_ [115, 112, 111, 105, 108] else if k = 7 then by_ [115, 121, 110, 99] else if k = 8 then by_ [99, 114, 97, 115, 104] else if k = 9 then by_ [113, 117, 105, 116] else by_ []
end Go.Sx
/- Deeds' texts: the rule's and the program's. -/
set_option linter.unusedVariables false
set_option linter.unusedSimpArgs false
namespace Go.Sx
open Go.Proofs
set_option maxRecDepth 100000
set_option maxHeartbeats 1000000

def spB (t : ByteArray) (n : Int) : ByteArray := t ++ ((⟨#[32]⟩ : ByteArray) ++ decB n.toNat)
def deedText (k a b : Int) : ByteArray :=
  if validDeed k a b then
    let t := if 0 < numbers k then spB (wordOf k) a else wordOf k
    if 1 < numbers k then spB t b else t
  else ⟨#[]⟩
theorem valid_in {k a b : Int} (h : validDeed k a b = true) : (1 ≤ k ∧ k ≤ 9) ∧ (0 ≤ a ∧ a ≤ 999) ∧ (0 ≤ b ∧ b ≤ 999) := by
  unfold validDeed inR at h
  simp only [Bool.and_eq_true, decide_eq_true_eq] at h
  exact ⟨h.1.1.1.1, h.1.1.1.2, h.1.1.2⟩
theorem ba_len (s t : ByteArray) : (s ++ t).size = s.size + t.size := by simp
end Go.Sx
/- One element appended to an own slice beside own data. -/
set_option linter.unusedVariables false
set_option linter.unusedSimpArgs false
namespace Go.Sx
open Go.Proofs
set_option maxRecDepth 100000
set_option maxHeartbeats 1000000

section
variable {α β : Type} {r : Rep α} {s : Rep β} {P : Program} {h0 h : Heap} {q : Addr} {F : Fr} {B L : List Blk} {d : α} {t e bytes ty : Nat} {b : Option Addr} {l c : Nat} {xs : List β} {K : Value → Heap → Prop}
/-- One element appended to an own slice beside own data. -/
theorem Pt.push {cs : Array Value} {x : β} (Pa : Pt r h0 h q F (B ++ L) d) (E : ElemT P t e s.sz bytes) (O : SlO e s B b l c xs) (Ox : s.ow [] cs.toList x) (hmax : l + 1 ≤ maxLen) (hbytes : (l + 1) * bytes ≤ 140737488355328)
    (H : ∀ b' c' h' B', SlO e s B' b' (l + 1) c' (xs ++ [x]) → Pt r h0 h' q F (B' ++ L) d → K (.slice b' (l + 1) c') h') :
    ALC cs e (fun g h => SEMV P (Builtin.append_ #[t, t] ty #[.slice b l c, .slice (some ⟨g, 0, none⟩) 1 1]) K h) h := by
  obtain ⟨e1, mid, BR, M, OR⟩ := Pa
  refine push_own (Bn := []) (L := (F.g, F.T, ⟨F.pre ++ (mid ++ F.post)⟩) :: (BR ++ L)) E O (M.cnt fun p => by simp only [cnt_app, cnt_cons, cnt_nil]; omega) Ox hmax hbytes fun b' c' h' B' O' M' => H b' c' h' B' O' ⟨e1, mid, BR, M'.cnt fun p => ?_, OR⟩
  simp only [cnt_app, cnt_cons, cnt_nil]; omega
end
end Go.Sx
/- Texts cut and deeds read: the rule's. -/
set_option linter.unusedVariables false
set_option linter.unusedSimpArgs false
namespace Go.Sx
open Go.Proofs
set_option maxRecDepth 100000
set_option maxHeartbeats 1000000

section
variable {h : Heap}
theorem mk_size (l : List UInt8) : (mkB l).size = l.length := by simp [ByteArray.size]
theorem str_ow {s : ByteArray} (h : s.size ≤ maxLen) : rS.ow [] [.string s] s := ⟨rfl, rfl, h⟩
end
theorem no32 (k : Int) : ∀ x ∈ (wordOf k).data.toList, x ≠ 32 := by
  unfold wordOf
  repeat' split
  all_goals decide
theorem word_inj {k j : Int} (hk : 1 ≤ k ∧ k ≤ 9) (hj : 1 ≤ j ∧ j ≤ 9) (e : wordOf k = wordOf j) : k = j := by
  rcases (show k = 1 ∨ k = 2 ∨ k = 3 ∨ k = 4 ∨ k = 5 ∨ k = 6 ∨ k = 7 ∨ k = 8 ∨ k = 9 by omega) with rfl | rfl | rfl | rfl | rfl | rfl | rfl | rfl | rfl <;>
  rcases (show j = 1 ∨ j = 2 ∨ j = 3 ∨ j = 4 ∨ j = 5 ∨ j = 6 ∨ j = 7 ∨ j = 8 ∨ j = 9 by omega) with rfl | rfl | rfl | rfl | rfl | rfl | rfl | rfl | rfl <;>
  first | rfl | exact absurd e (by decide)
theorem decB_data (m : Nat) : (decB m).data.toList = Lib.decDigits m := by unfold decB; simp
theorem spB_data (t : ByteArray) (n : Int) : (spB t n).data.toList = t.data.toList ++ 32 :: Lib.decDigits n.toNat := by
  unfold spB
  rw [ByteArray.data_append, ByteArray.data_append, Array.toList_append, Array.toList_append, decB_data]
  rfl
theorem dec32 (m : Nat) : ∀ x ∈ Lib.decDigits m, x ≠ 32 := dec_no m (.inl (by decide))
/-- The pieces of a valid deed's text. -/
def pieces (k a b : Int) : List (List UInt8) :=
  (wordOf k).data.toList :: ((if 0 < numbers k then [Lib.decDigits a.toNat] else []) ++ if 1 < numbers k then [Lib.decDigits b.toNat] else [])
theorem num_le (k : Int) : 1 < numbers k → 0 < numbers k := by omega
theorem cut_text {k a b : Int} (h : validDeed k a b = true) : cutL 32 (deedText k a b).data.toList = pieces k a b := by
  unfold deedText pieces
  rw [h, if_pos rfl]
  dsimp only
  by_cases h0 : 0 < numbers k
  · rw [if_pos h0, if_pos h0]
    by_cases h1 : 1 < numbers k
    · rw [if_pos h1, if_pos h1, spB_data, spB_data, List.append_assoc, List.cons_append, cut_pre (no32 k), cut_pre (dec32 _), cut_none (dec32 _)]; rfl
    · rw [if_neg h1, if_neg h1, spB_data, cut_pre (no32 k), cut_none (dec32 _)]; rfl
  · rw [if_neg h0, if_neg h0, if_neg (by omega), if_neg (by omega), cut_none (no32 k)]; rfl
theorem valid_zero {k a b : Int} (h : validDeed k a b = true) : (¬ 0 < numbers k → a = 0) ∧ (¬ 1 < numbers k → b = 0) := by
  unfold validDeed at h
  simp only [Bool.and_eq_true, Bool.or_eq_true, decide_eq_true_eq, beq_iff_eq] at h
  exact ⟨fun h0 => h.1.2.resolve_left h0, fun h1 => h.2.resolve_left h1⟩
theorem text_inj {k a b k' a' b' : Int} (h : validDeed k a b = true) (h' : validDeed k' a' b' = true) (e : deedText k a b = deedText k' a' b') : k = k' ∧ a = a' ∧ b = b' := by
  have c := cut_text h
  rw [e, cut_text h'] at c
  obtain ⟨hk, ha, hb⟩ := valid_in h
  obtain ⟨hk', ha', hb'⟩ := valid_in h'
  unfold pieces at c
  injection c with c1 c2
  have ek : k = k' := by
    refine word_inj hk hk' ?_
    have := congrArg mkB c1
    rw [mkB_list, mkB_list] at this
    exact this.symm
  subst ek
  obtain ⟨z1, z2⟩ := valid_zero h
  obtain ⟨z1', z2'⟩ := valid_zero h'
  refine ⟨rfl, ?_, ?_⟩
  · by_cases h0 : 0 < numbers k
    · rw [if_pos h0, if_pos h0] at c2
      injection c2 with c2 c3
      have := dec_inj c2
      omega
    · rw [z1 h0, z1' h0]
  · by_cases h1 : 1 < numbers k
    · rw [if_pos (num_le k h1), if_pos (num_le k h1), if_pos h1, if_pos h1] at c2
      injection c2 with c2 c3
      injection c3 with c3 c4
      have := dec_inj c3
      omega
    · rw [z2 h1, z2' h1]
/-- What reading a text gives. -/
def Read (text : ByteArray) (u : Value) : Prop :=
  (∃ k a b, validDeed k a b = true ∧ deedText k a b = text ∧ u = .tuple ⟨[.agg (dd k a b), .int .i64 (0 : Int)]⟩) ∨ ((∀ k a b, validDeed k a b = true → deedText k a b ≠ text) ∧ u = .tuple ⟨[.agg (dd 0 0 0), .int .i64 (5 : Int)]⟩)
theorem Read.same {text : ByteArray} {u v : Value} (h : Read text u) (h' : Read text v) : ∃ k a b c, u = .tuple ⟨[.agg (dd k a b), .int .i64 c]⟩ ∧ v = .tuple ⟨[.agg (dd k a b), .int .i64 c]⟩ := by
  rcases h with ⟨k, a, b, hv, ht, rfl⟩ | ⟨hn, rfl⟩
  · rcases h' with ⟨k', a', b', hv', ht', rfl⟩ | ⟨hn', rfl⟩
    · obtain ⟨rfl, rfl, rfl⟩ := text_inj hv hv' (ht.trans ht'.symm)
      exact ⟨_, _, _, _, rfl, rfl⟩
    · exact absurd ht (hn' _ _ _ hv)
  · rcases h' with ⟨k', a', b', hv', ht', rfl⟩ | ⟨hn', rfl⟩
    · exact absurd ht' (hn _ _ _ hv')
    · exact ⟨_, _, _, _, rfl, rfl⟩
end Go.Sx
