/- What several structs' contracts have in common: slices of floats made, pairs answered, lists changed place by place. -/
import Derived.Test.YtkgmfiloghhibaaGreatDoorLk3
import Derived.Test.YtkgmfiloghhibaaGreatDoorLg
import Derived.Test.YtkgmfiloghhibaaGreatDoorLp2
import Derived.Test.YtkgmfiloghhibaaGreatDoorLp5
import Derived.Test.YtkgmfiloghhibaaGreatDoorTabE
import Derived.Test.YtkgmfiloghhibaaGreatDoorTab
import Derived.Laws.BytesString
import Derived.Lib.ItoaLen
import Derived.Test.YtkgmfiloghhibaaGreatDoorLx1
import Derived.Sort.Grow
import Derived.Deep.Draws
set_option linter.unusedVariables false
set_option linter.unusedSimpArgs false
namespace Go.Sx
open Go.Proofs
set_option maxRecDepth 100000

section
variable {h : Heap} {q : Addr}
theorem drop_cons {α : Type} [Inhabited α] {l : List α} {n : Nat} (h : n < l.length) : l.drop n = l[n]! :: l.drop (n + 1) := by
  rw [List.drop_eq_getElem_cons h, getElem!_pos l n h]
theorem take_snoc {α : Type} [Inhabited α] {l : List α} {n : Nat} (h : n < l.length) : l.take (n + 1) = l.take n ++ [l[n]!] := by
  rw [List.take_succ_eq_append_getElem h, getElem!_pos l n h]
theorem zeros_fl (n : Nat) : ows (rF .f32) [] (List.replicate n (.float .f32 0)) (List.replicate n 0) := by
  induction n with
  | zero => exact ⟨rfl, rfl⟩
  | succ n ih => exact ⟨[], [], [.float .f32 0], List.replicate n (.float .f32 0), rfl, rfl, ⟨rfl, 0, rfl, fw0⟩, ih⟩
/-- A slice of zeros, made. -/
theorem make_floats {h0 : Heap} {L : List Blk} {n : Nat} {F : Nat → Heap → Prop} (M : Mem h0 h L) (hn : n ≤ 1048576)
    (H : ∀ g h', Ext h h' → Mem h0 h' ((g, T_float32, ⟨List.replicate n (.float .f32 0)⟩) :: L) → SlO T_float32 (rF .f32) [(g, T_float32, ⟨List.replicate n (.float .f32 0)⟩)] (some ⟨g, 0, none⟩) n n (List.replicate n 0) → F g h') : MKS ti_float32 T_float32 (n : Int) (n : Int) F h := by
  refine mks1 M rfl rfl (by show 4 * n ≤ 2 ^ 48; omega) (by omega) fun g h' x' M' => H g h' x' M' ?_
  have : n ≤ maxLen := by
    have : (1048576 : Nat) ≤ maxLen := by decide
    omega
  exact ⟨by simp, List.replicate n (.float .f32 0), [_], [], rfl, ⟨by rw [List.length_replicate, show (rF .f32).sz = 1 from rfl, Nat.mul_one], .inr ⟨g, _, rfl, rfl, Nat.le_refl _, this, by rw [List.size_toArray, List.length_replicate, show (rF .f32).sz = 1 from rfl, Nat.mul_one], by
    rw [List.take_of_length_le]
    show (List.replicate n (Value.float .f32 0)).length ≤ n * 1
    simp⟩⟩, zeros_fl n⟩
theorem Pt.stL {α β : Type} {r : Rep α} {h0 : Heap} {F : Fr} {L B : List Blk} {a : α} {e : Nat} {s : Rep β} {get : α → List β} {put : α → List β → α} {b : Option Addr} {l c : Nat} {xs : List β} {K : Heap → Prop} (P : Pt r h0 h q F (B ++ L) a) [Fc : FocC r 0 (rSl e s) get put] (O : SlO e s B b l c xs)
    (H : ∀ h', Pt r h0 h' q F L (put a xs) → K h') : ST1 h q (.slice b l c) K := by
  have := Pt.st P Fc.f rfl ⟨b, l, c, rfl, O⟩ H
  rwa [add0] at this
end
/-- A pair of a value and a code, told by a call. -/
def PairR {α : Type} (r : Rep α) (h h' : Heap) (u : Value) (a : α) (code : Int) : Prop := ∃ cs B, u = .tuple ⟨[.agg cs, .int .i64 code]⟩ ∧ r.ow B cs.toList a ∧ Mem h h' B
/-- Pointers. -/
def rP : Rep Addr := rOne (fun a => .pointer (some a)) fun _ => rfl
theorem RdP.oP1 {h : Heap} {q a : Addr} {K : Addr → Prop} (R : RdP rP h q a) (H : K a) : Sx.oP (Sx.cell h q) K := by
  obtain ⟨vs, h1, e⟩ := R
  have := h1 0 (.pointer (some a)) (by rw [show vs = [.pointer (some a)] from e]; rfl)
  rw [add0] at this
  rw [this]; exact H
theorem is2 {α : Type} {l : List α} (h : l.length = 2) : ∃ a b, l = [a, b] := by
  match l, h with
  | [a, b], _ => exact ⟨a, b, rfl⟩
/-- A list of which the first n elements have been changed. -/
def mapN {α : Type} (f : α → α) (l : List α) (n : Nat) : List α := (l.take n).map f ++ l.drop n
section
variable {α : Type} {f : α → α} {l : List α} {n : Nat}
theorem mapN_zero : mapN f l 0 = l := by simp [mapN]
theorem mapN_all (h : n = l.length) : mapN f l n = l.map f := by subst h; simp [mapN]
theorem mapN_len : (mapN f l n).length = l.length := by simp only [mapN, List.length_append, List.length_map, List.length_take, List.length_drop]; omega
theorem mapN_get [Inhabited α] (hn : n < l.length) : (mapN f l n)[n]! = l[n]! := by
  rw [getElem!_pos _ n (by rw [mapN_len]; exact hn), getElem!_pos l n hn]
  unfold mapN
  have hl : ((l.take n).map f).length = n := by rw [List.length_map, List.length_take]; omega
  rw [List.getElem_append_right (by omega)]
  simp only [hl, Nat.sub_self, List.getElem_drop, Nat.add_zero]
theorem mapN_step [Inhabited α] (hn : n < l.length) : (mapN f l n).set n (f l[n]!) = mapN f l (n + 1) := by
  unfold mapN
  have hl : ((l.take n).map f).length = n := by rw [List.length_map, List.length_take]; omega
  rw [List.set_append_right _ _ (by omega), hl, Nat.sub_self, drop_cons hn, List.set_cons_zero, take_snoc hn, List.map_append]
  simp
end
/-- A list of which the first n elements have been made anew. -/
def mapI {α : Type} [Inhabited α] (f : Nat → α) (l : List α) (n : Nat) : List α := (List.range l.length).map fun i => if i < n then f i else l[i]!
section
variable {α : Type} [Inhabited α] {f : Nat → α} {l : List α} {n i : Nat}
theorem mapI_len : (mapI f l n).length = l.length := by simp [mapI]
theorem mapI_get? (hi : i < l.length) : (mapI f l n)[i]? = some (if i < n then f i else l[i]!) := by
  unfold mapI
  rw [List.getElem?_map, List.getElem?_range hi]; rfl
theorem mapI_get (hi : i < l.length) : (mapI f l n)[i]! = if i < n then f i else l[i]! := by
  rw [List.getElem!_eq_getElem?_getD, mapI_get? hi]; rfl
theorem mapI_ge (hi : i < l.length) (h : n ≤ i) : (mapI f l n)[i]! = l[i]! := by rw [mapI_get hi, if_neg (by omega)]
theorem mapI_zero : mapI f l 0 = l := by
  apply List.ext_getElem?
  intro i
  by_cases hi : i < l.length
  · rw [mapI_get? hi, if_neg (by omega), getElem!_pos l i hi, List.getElem?_eq_getElem hi]
  · rw [List.getElem?_eq_none (by rw [mapI_len]; omega), List.getElem?_eq_none (by omega)]
theorem mapI_all (h : l.length ≤ n) : mapI f l n = (List.range l.length).map f := by
  unfold mapI
  refine List.map_congr_left fun i hi => ?_
  rw [if_pos (by have := List.mem_range.1 hi; omega)]
theorem mapI_set (hn : n < l.length) : (mapI f l n).set n (f n) = mapI f l (n + 1) := by
  apply List.ext_getElem?
  intro i
  by_cases hi : i < l.length
  · rw [mapI_get? hi, List.getElem?_set]
    by_cases e : n = i
    · subst e
      rw [if_pos rfl, if_pos (by rw [mapI_len]; exact hn), if_pos (by omega)]
    · rw [if_neg e, mapI_get? hi]
      congr 1
      by_cases h : i < n
      · rw [if_pos h, if_pos (by omega)]
      · rw [if_neg h, if_neg (by omega)]
  · rw [List.getElem?_eq_none (by rw [List.length_set, mapI_len]; omega), List.getElem?_eq_none (by rw [mapI_len]; omega)]
end
theorem push_ok {r : GRing} {a : Nat} (h : r.ok = true) : (r.push a).ok = true ∧ (r.push a).len = r.len := by
  have k := at_lt h
  have e : (r.push a).len = r.len := by simp [GRing.push, GRing.len]
  refine ⟨?_, e⟩
  have hl : r.len = r.Samples.length := rfl
  have h1 : (r.push a).At = (r.At + 1) % r.len := rfl
  have h2 := Int.emod_nonneg (r.At + 1) (show r.len ≠ 0 by omega)
  have h3 := Int.emod_lt_of_pos (r.At + 1) (show 0 < r.len by omega)
  unfold GRing.ok inR
  rw [e, h1]
  simp only [Bool.and_eq_true, decide_eq_true_eq]
  omega
theorem mem_get {α : Type} [Inhabited α] {l : List α} {i : Nat} (h : i < l.length) : l[i]! ∈ l := by rw [getElem!_pos l i h]; exact List.getElem_mem h
/-- A slice answered, new. -/
theorem goS {α : Type} {e : Nat} {r : Rep α} {P : Program} {f : FuncId} {args : Array Value} {xs : List α} {hb h : Heap} {L : List Blk} {l : Nat} {K : Value → Heap → Prop} (M : Mem hb h L)
    (k : CALL P f args (fun u h' => ∃ b' c' B, u = .slice b' l c' ∧ SlO e r B b' l c' xs ∧ Mem h h' B) h) (H : ∀ h' b' c' B, Mem hb h' (B ++ L) → SlO e r B b' l c' xs → K (.slice b' l c') h') : CALL P f args K h :=
  k.mono fun u h' ⟨b', c', B, e, O, N⟩ => by subst e; exact H h' b' c' B (M.join N) O
end Go.Sx
/- How Pipe lie in cells; their parts; given ones opened. -/
set_option linter.unusedVariables false
set_option linter.unusedSimpArgs false
namespace Go.Sx
open Go.Proofs
def rPipe : Rep GPipe := (Rep.seq (rSl T_impl_Ring rRing) (Rep.seq (rSl T_impl_Ring rRing) (Rep.seq (rSl T_float32 (rF .f32)) (Rep.seq rFilter (Rep.seq rB (Rep.seq (rF .f32) (Rep.seq (rF .f32) ((rF .f32))))))))).via fun a => (a.Right, a.Left, a.Scatter, a.End, a.Open, a.Loss, a.Rest, a.Slope)
theorem foc_Pipe_Right : Foc rPipe (rSl T_impl_Ring rRing) 0 (fun a => a.Right) (fun a b => { a with Right := b }) := (Foc.via (f := fun a : GPipe => (a.Right, a.Left, a.Scatter, a.End, a.Open, a.Loss, a.Rest, a.Slope)) (get' := fun a => a.Right) (put' := fun a b => { a with Right := b }) (Foc.fst (Foc.here (rSl T_impl_Ring rRing))) (fun _ => rfl) (fun _ _ => rfl)).at rfl
theorem foc_Pipe_Left : Foc rPipe (rSl T_impl_Ring rRing) 1 (fun a => a.Left) (fun a b => { a with Left := b }) := (Foc.via (f := fun a : GPipe => (a.Right, a.Left, a.Scatter, a.End, a.Open, a.Loss, a.Rest, a.Slope)) (get' := fun a => a.Left) (put' := fun a b => { a with Left := b }) (Foc.snd (Foc.fst (Foc.here (rSl T_impl_Ring rRing)))) (fun _ => rfl) (fun _ _ => rfl)).at rfl
theorem foc_Pipe_Scatter : Foc rPipe (rSl T_float32 (rF .f32)) 2 (fun a => a.Scatter) (fun a b => { a with Scatter := b }) := (Foc.via (f := fun a : GPipe => (a.Right, a.Left, a.Scatter, a.End, a.Open, a.Loss, a.Rest, a.Slope)) (get' := fun a => a.Scatter) (put' := fun a b => { a with Scatter := b }) (Foc.snd (Foc.snd (Foc.fst (Foc.here (rSl T_float32 (rF .f32)))))) (fun _ => rfl) (fun _ _ => rfl)).at rfl
theorem foc_Pipe_End : Foc rPipe rFilter 3 (fun a => a.End) (fun a b => { a with End := b }) := (Foc.via (f := fun a : GPipe => (a.Right, a.Left, a.Scatter, a.End, a.Open, a.Loss, a.Rest, a.Slope)) (get' := fun a => a.End) (put' := fun a b => { a with End := b }) (Foc.snd (Foc.snd (Foc.snd (Foc.fst (Foc.here rFilter))))) (fun _ => rfl) (fun _ _ => rfl)).at rfl
theorem foc_Pipe_Open : Foc rPipe rB 9 (fun a => a.Open) (fun a b => { a with Open := b }) := (Foc.via (f := fun a : GPipe => (a.Right, a.Left, a.Scatter, a.End, a.Open, a.Loss, a.Rest, a.Slope)) (get' := fun a => a.Open) (put' := fun a b => { a with Open := b }) (Foc.snd (Foc.snd (Foc.snd (Foc.snd (Foc.fst (Foc.here rB)))))) (fun _ => rfl) (fun _ _ => rfl)).at rfl
theorem foc_Pipe_Loss : Foc rPipe (rF .f32) 10 (fun a => a.Loss) (fun a b => { a with Loss := b }) := (Foc.via (f := fun a : GPipe => (a.Right, a.Left, a.Scatter, a.End, a.Open, a.Loss, a.Rest, a.Slope)) (get' := fun a => a.Loss) (put' := fun a b => { a with Loss := b }) (Foc.snd (Foc.snd (Foc.snd (Foc.snd (Foc.snd (Foc.fst (Foc.here (rF .f32)))))))) (fun _ => rfl) (fun _ _ => rfl)).at rfl
theorem foc_Pipe_Rest : Foc rPipe (rF .f32) 11 (fun a => a.Rest) (fun a b => { a with Rest := b }) := (Foc.via (f := fun a : GPipe => (a.Right, a.Left, a.Scatter, a.End, a.Open, a.Loss, a.Rest, a.Slope)) (get' := fun a => a.Rest) (put' := fun a b => { a with Rest := b }) (Foc.snd (Foc.snd (Foc.snd (Foc.snd (Foc.snd (Foc.snd (Foc.fst (Foc.here (rF .f32))))))))) (fun _ => rfl) (fun _ _ => rfl)).at rfl
theorem foc_Pipe_Slope : Foc rPipe (rF .f32) 12 (fun a => a.Slope) (fun a b => { a with Slope := b }) := (Foc.via (f := fun a : GPipe => (a.Right, a.Left, a.Scatter, a.End, a.Open, a.Loss, a.Rest, a.Slope)) (get' := fun a => a.Slope) (put' := fun a b => { a with Slope := b }) (Foc.snd (Foc.snd (Foc.snd (Foc.snd (Foc.snd (Foc.snd (Foc.snd (Foc.here (rF .f32))))))))) (fun _ => rfl) (fun _ _ => rfl)).at rfl
def z_Pipe : GPipe := ⟨[], [], [], z_Filter, false, 0, 0, 0⟩
theorem zow_Pipe : rPipe.ow [] [Value.slice none 0 0, Value.slice none 0 0, Value.slice none 0 0, Value.int .i64 (0 : Int), Value.float .f32 0, Value.float .f32 0, Value.float .f32 0, Value.float .f32 0, Value.float .f32 0, Value.bool false, Value.float .f32 0, Value.float .f32 0, Value.float .f32 0] z_Pipe := ⟨[], [], [Value.slice none 0 0], [Value.slice none 0 0, Value.slice none 0 0, Value.int .i64 (0 : Int), Value.float .f32 0, Value.float .f32 0, Value.float .f32 0, Value.float .f32 0, Value.float .f32 0, Value.bool false, Value.float .f32 0, Value.float .f32 0, Value.float .f32 0], rfl, rfl, ⟨none, 0, 0, rfl, SlO.nil⟩, ⟨[], [], [Value.slice none 0 0], [Value.slice none 0 0, Value.int .i64 (0 : Int), Value.float .f32 0, Value.float .f32 0, Value.float .f32 0, Value.float .f32 0, Value.float .f32 0, Value.bool false, Value.float .f32 0, Value.float .f32 0, Value.float .f32 0], rfl, rfl, ⟨none, 0, 0, rfl, SlO.nil⟩, ⟨[], [], [Value.slice none 0 0], [Value.int .i64 (0 : Int), Value.float .f32 0, Value.float .f32 0, Value.float .f32 0, Value.float .f32 0, Value.float .f32 0, Value.bool false, Value.float .f32 0, Value.float .f32 0, Value.float .f32 0], rfl, rfl, ⟨none, 0, 0, rfl, SlO.nil⟩, ⟨[], [], [Value.int .i64 (0 : Int), Value.float .f32 0, Value.float .f32 0, Value.float .f32 0, Value.float .f32 0, Value.float .f32 0], [Value.bool false, Value.float .f32 0, Value.float .f32 0, Value.float .f32 0], rfl, rfl, zow_Filter, ⟨[], [], [Value.bool false], [Value.float .f32 0, Value.float .f32 0, Value.float .f32 0], rfl, rfl, ⟨rfl, rfl⟩, ⟨[], [], [Value.float .f32 0], [Value.float .f32 0, Value.float .f32 0], rfl, rfl, ⟨rfl, 0, rfl, fw_c32 (by decide) (by decide)⟩, ⟨[], [], [Value.float .f32 0], [Value.float .f32 0], rfl, rfl, ⟨rfl, 0, rfl, fw_c32 (by decide) (by decide)⟩, ⟨rfl, 0, rfl, fw_c32 (by decide) (by decide)⟩⟩⟩⟩⟩⟩⟩⟩
instance lf_Pipe_0 : FocC rPipe 0 (rSl T_impl_Ring rRing) (fun a => a.Right) (fun a b => { a with Right := b }) := ⟨Foc.at foc_Pipe_Right rfl⟩
instance lf_Pipe_1 : FocC rPipe 1 (rSl T_impl_Ring rRing) (fun a => a.Left) (fun a b => { a with Left := b }) := ⟨Foc.at foc_Pipe_Left rfl⟩
instance lf_Pipe_2 : FocC rPipe 2 (rSl T_float32 (rF .f32)) (fun a => a.Scatter) (fun a b => { a with Scatter := b }) := ⟨Foc.at foc_Pipe_Scatter rfl⟩
instance lf_Pipe_3 : FocC rPipe 3 (rI .i64) (fun a => a.End.Kind) (fun a b => { a with End := { a.End with Kind := b } }) := ⟨Foc.at (foc_Pipe_End.trans lf_Filter_0.f) rfl⟩
instance lf_Pipe_4 : FocC rPipe 4 (rF .f32) (fun a => a.End.C[0]!) (fun a b => { a with End := { a.End with C := a.End.C.set 0 b } }) := ⟨Foc.at (foc_Pipe_End.trans lf_Filter_1.f) rfl⟩
instance lf_Pipe_5 : FocC rPipe 5 (rF .f32) (fun a => a.End.C[1]!) (fun a b => { a with End := { a.End with C := a.End.C.set 1 b } }) := ⟨Foc.at (foc_Pipe_End.trans lf_Filter_2.f) rfl⟩
instance lf_Pipe_6 : FocC rPipe 6 (rF .f32) (fun a => a.End.C[2]!) (fun a b => { a with End := { a.End with C := a.End.C.set 2 b } }) := ⟨Foc.at (foc_Pipe_End.trans lf_Filter_3.f) rfl⟩
instance lf_Pipe_7 : FocC rPipe 7 (rF .f32) (fun a => a.End.S[0]!) (fun a b => { a with End := { a.End with S := a.End.S.set 0 b } }) := ⟨Foc.at (foc_Pipe_End.trans lf_Filter_4.f) rfl⟩
instance lf_Pipe_8 : FocC rPipe 8 (rF .f32) (fun a => a.End.S[1]!) (fun a b => { a with End := { a.End with S := a.End.S.set 1 b } }) := ⟨Foc.at (foc_Pipe_End.trans lf_Filter_5.f) rfl⟩
instance lf_Pipe_9 : FocC rPipe 9 rB (fun a => a.Open) (fun a b => { a with Open := b }) := ⟨Foc.at foc_Pipe_Open rfl⟩
instance lf_Pipe_10 : FocC rPipe 10 (rF .f32) (fun a => a.Loss) (fun a b => { a with Loss := b }) := ⟨Foc.at foc_Pipe_Loss rfl⟩
instance lf_Pipe_11 : FocC rPipe 11 (rF .f32) (fun a => a.Rest) (fun a b => { a with Rest := b }) := ⟨Foc.at foc_Pipe_Rest rfl⟩
instance lf_Pipe_12 : FocC rPipe 12 (rF .f32) (fun a => a.Slope) (fun a b => { a with Slope := b }) := ⟨Foc.at foc_Pipe_Slope rfl⟩
end Go.Sx
/- Floats in blocks beside own data; blocks made sample by sample. -/
set_option linter.unusedVariables false
set_option linter.unusedSimpArgs false
namespace Go.Sx
open Go.Proofs
set_option maxRecDepth 100000
set_option maxHeartbeats 1000000

theorem rdsF_any {k : FloatKind} {h h' : Heap} : ∀ {xs : List Nat} {vs : List Value}, rds (rF k) h vs xs → rds (rF k) h' vs xs
  | [], vs, R => R
  | a :: xs, vs, R => by
    obtain ⟨v1, v2, rfl, R1, R2⟩ := R
    exact ⟨v1, v2, rfl, R1, rdsF_any R2⟩
/-- n floats, wherever they lie. -/
def FA (n : Nat) (cs : Array Value) (xs : List Nat) : Prop := (rArr n (rF .f32)).rd #[] cs.toList xs
section
variable {n : Nat} {cs : Array Value} {xs : List Nat}
theorem FA.rd (R : FA n cs xs) (h : Heap) : (rArr n (rF .f32)).rd h cs.toList xs := ⟨R.1, rdsF_any R.2⟩
theorem FA.of {h : Heap} (R : (rArr n (rF .f32)).rd h cs.toList xs) : FA n cs xs := ⟨R.1, rdsF_any R.2⟩
theorem FA.size (R : FA n cs xs) : cs.size = n := by have := rsz R rfl; rw [this]; exact Nat.mul_one n
theorem FA.one (R : FA n cs xs) : ∀ v ∈ cs.toList, v.oneCell' = true := (rArr n (rF .f32)).rone R
end
def zeros16 : List Nat := List.replicate 16 0
theorem FA.zero : FA 16 ⟨Z_impl_Block⟩ zeros16 := ⟨rfl, rdsF_any (h := #[]) ((zeros_fl 16).look (Mem.start #[]) (List.Sublist.refl _))⟩
section
variable {h0 h : Heap} {q : Addr} {F : Fr} {L : List Blk} {n : Nat}
theorem Mem.pin2 {h0' h' : Heap} {L' : List Blk} {g m : Nat} {cs : Array Value} {p : Prop} (M : Mem h0 h L) (l : Look L g cs) (M' : Mem h0' h' L') (l' : Look L' g cs) (H : p) : PIN h ⟨g, 0, none⟩ m h' p :=
  ⟨fun j _ => by rw [add_g, M.cell l, M'.cell l'], H⟩
end
end Go.Sx
/- How String, Bow lie in cells; their parts; given ones opened. -/
set_option linter.unusedVariables false
set_option linter.unusedSimpArgs false
namespace Go.Sx
open Go.Proofs
def z_String : GString := ⟨z_Ring, z_Filter, z_Filter, 0⟩
def z_Bow : GBow := ⟨z_Ring, z_Ring, z_Filter, 0, 0⟩
end Go.Sx
/- How Tuning, Instrument, Event, Score lie in cells; their parts; given ones opened. -/
set_option linter.unusedVariables false
set_option linter.unusedSimpArgs false
namespace Go.Sx
open Go.Proofs
def rEvent : Rep GEvent := (Rep.seq (rI .i64) (Rep.seq (rI .i64) (Rep.seq (rI .i64) (Rep.seq (rI .i64) (Rep.seq (rI .i64) ((rF .f32))))))).via fun a => (a.At, a.Kind, a.Note, a.Instrument, a.Key, a.Force)
theorem foc_Event_At : Foc rEvent (rI .i64) 0 (fun a => a.At) (fun a b => { a with At := b }) := (Foc.via (f := fun a : GEvent => (a.At, a.Kind, a.Note, a.Instrument, a.Key, a.Force)) (get' := fun a => a.At) (put' := fun a b => { a with At := b }) (Foc.fst (Foc.here (rI .i64))) (fun _ => rfl) (fun _ _ => rfl)).at rfl
theorem foc_Event_Kind : Foc rEvent (rI .i64) 1 (fun a => a.Kind) (fun a b => { a with Kind := b }) := (Foc.via (f := fun a : GEvent => (a.At, a.Kind, a.Note, a.Instrument, a.Key, a.Force)) (get' := fun a => a.Kind) (put' := fun a b => { a with Kind := b }) (Foc.snd (Foc.fst (Foc.here (rI .i64)))) (fun _ => rfl) (fun _ _ => rfl)).at rfl
theorem foc_Event_Note : Foc rEvent (rI .i64) 2 (fun a => a.Note) (fun a b => { a with Note := b }) := (Foc.via (f := fun a : GEvent => (a.At, a.Kind, a.Note, a.Instrument, a.Key, a.Force)) (get' := fun a => a.Note) (put' := fun a b => { a with Note := b }) (Foc.snd (Foc.snd (Foc.fst (Foc.here (rI .i64))))) (fun _ => rfl) (fun _ _ => rfl)).at rfl
theorem foc_Event_Instrument : Foc rEvent (rI .i64) 3 (fun a => a.Instrument) (fun a b => { a with Instrument := b }) := (Foc.via (f := fun a : GEvent => (a.At, a.Kind, a.Note, a.Instrument, a.Key, a.Force)) (get' := fun a => a.Instrument) (put' := fun a b => { a with Instrument := b }) (Foc.snd (Foc.snd (Foc.snd (Foc.fst (Foc.here (rI .i64)))))) (fun _ => rfl) (fun _ _ => rfl)).at rfl
theorem foc_Event_Key : Foc rEvent (rI .i64) 4 (fun a => a.Key) (fun a b => { a with Key := b }) := (Foc.via (f := fun a : GEvent => (a.At, a.Kind, a.Note, a.Instrument, a.Key, a.Force)) (get' := fun a => a.Key) (put' := fun a b => { a with Key := b }) (Foc.snd (Foc.snd (Foc.snd (Foc.snd (Foc.fst (Foc.here (rI .i64))))))) (fun _ => rfl) (fun _ _ => rfl)).at rfl
theorem foc_Event_Force : Foc rEvent (rF .f32) 5 (fun a => a.Force) (fun a b => { a with Force := b }) := (Foc.via (f := fun a : GEvent => (a.At, a.Kind, a.Note, a.Instrument, a.Key, a.Force)) (get' := fun a => a.Force) (put' := fun a b => { a with Force := b }) (Foc.snd (Foc.snd (Foc.snd (Foc.snd (Foc.snd (Foc.here (rF .f32))))))) (fun _ => rfl) (fun _ _ => rfl)).at rfl
def z_Event : GEvent := ⟨0, 0, 0, 0, 0, 0⟩
theorem zow_Event : rEvent.ow [] [Value.int .i64 (0 : Int), Value.int .i64 (0 : Int), Value.int .i64 (0 : Int), Value.int .i64 (0 : Int), Value.int .i64 (0 : Int), Value.float .f32 0] z_Event := ⟨[], [], [Value.int .i64 (0 : Int)], [Value.int .i64 (0 : Int), Value.int .i64 (0 : Int), Value.int .i64 (0 : Int), Value.int .i64 (0 : Int), Value.float .f32 0], rfl, rfl, ⟨rfl, rfl⟩, ⟨[], [], [Value.int .i64 (0 : Int)], [Value.int .i64 (0 : Int), Value.int .i64 (0 : Int), Value.int .i64 (0 : Int), Value.float .f32 0], rfl, rfl, ⟨rfl, rfl⟩, ⟨[], [], [Value.int .i64 (0 : Int)], [Value.int .i64 (0 : Int), Value.int .i64 (0 : Int), Value.float .f32 0], rfl, rfl, ⟨rfl, rfl⟩, ⟨[], [], [Value.int .i64 (0 : Int)], [Value.int .i64 (0 : Int), Value.float .f32 0], rfl, rfl, ⟨rfl, rfl⟩, ⟨[], [], [Value.int .i64 (0 : Int)], [Value.float .f32 0], rfl, rfl, ⟨rfl, rfl⟩, ⟨rfl, 0, rfl, fw_c32 (by decide) (by decide)⟩⟩⟩⟩⟩⟩
instance lf_Event_0 : FocC rEvent 0 (rI .i64) (fun a => a.At) (fun a b => { a with At := b }) := ⟨Foc.at foc_Event_At rfl⟩
instance lf_Event_1 : FocC rEvent 1 (rI .i64) (fun a => a.Kind) (fun a b => { a with Kind := b }) := ⟨Foc.at foc_Event_Kind rfl⟩
instance lf_Event_2 : FocC rEvent 2 (rI .i64) (fun a => a.Note) (fun a b => { a with Note := b }) := ⟨Foc.at foc_Event_Note rfl⟩
instance lf_Event_3 : FocC rEvent 3 (rI .i64) (fun a => a.Instrument) (fun a b => { a with Instrument := b }) := ⟨Foc.at foc_Event_Instrument rfl⟩
instance lf_Event_4 : FocC rEvent 4 (rI .i64) (fun a => a.Key) (fun a b => { a with Key := b }) := ⟨Foc.at foc_Event_Key rfl⟩
instance lf_Event_5 : FocC rEvent 5 (rF .f32) (fun a => a.Force) (fun a b => { a with Force := b }) := ⟨Foc.at foc_Event_Force rfl⟩
end Go.Sx
/- How Voice, Player lie in cells; their parts; given ones opened. -/
set_option linter.unusedVariables false
set_option linter.unusedSimpArgs false
namespace Go.Sx
open Go.Proofs
def z_Voice : GVoice := ⟨0, 0, 0, false, 0, z_String, z_Pipe, z_Bow⟩
end Go.Sx
/- What the laws have in common: values marked and compared among others. -/
set_option linter.unusedVariables false
set_option linter.unusedSimpArgs false
namespace Go.Sx
open Go.Proofs
set_option maxRecDepth 100000

theorem PairR.go {α : Type} {r : Rep α} {P : Program} {f : FuncId} {args : Array Value} {a : α} {code : Int} {hb h : Heap} {L : List Blk} {K : Value → Heap → Prop} (M : Mem hb h L) (c : CALL P f args (fun u h' => PairR r h h' u a code) h)
    (H : ∀ h' cs B, Mem hb h' (B ++ L) → r.ow B cs.toList a → cs.size = r.sz → K (.tuple ⟨[.agg cs, .int .i64 code]⟩) h') : CALL P f args K h :=
  c.mono fun u h' ⟨cs, B, e, O, N⟩ => by subst e; exact H h' cs B (M.join N) O (by simpa using r.olen O)
end Go.Sx
/- What functions of this seat's program compute, told in words (a predicate over heaps for each), and the proofs that the words are no more than the code's own weakest precondition. -/
namespace Go.Sx
open Go.Proofs
set_option linter.unusedVariables false
set_option maxRecDepth 100000

def impl_decimal.S (n_0 : Int) (Post : Value → Heap → Prop) (h : Heap) : Prop :=
    CALL prg f_strconv_FormatInt #[.int .i64 n_0, .int .i64 (10 : Int)] (fun q1 h2 =>
    asS q1 fun s3 =>
    Post (.string s3) h2) h
noncomputable def impl_decimal.code : Code := (Tryz.f80.body).getD .skip
theorem impl_decimal.call {n_0 : Int} {Post : Value → Heap → Prop} {h : Heap} (H : impl_decimal.S n_0 Post h) : CALL prg f_impl_decimal #[.int .i64 n_0] Post h :=
  fn_call tau_ok mixed (c := impl_decimal.code) (Λ := lookL []) Tryz.func80 (by kernel_rfl) (by kernel_rfl)
    (Rq.free (by kernel_rfl))
    (Eq.mp (by kernel_rfl) H)

end Go.Sx
/- Decimals: the rule's, digit by digit. -/
set_option linter.unusedVariables false
set_option linter.unusedSimpArgs false
namespace Go.Sx
open Go.Proofs
set_option maxRecDepth 100000

/-- A whole number's digits. -/
def decB (m : Nat) : ByteArray := ⟨(Lib.decDigits m).toArray⟩
end Go.Sx
/- Contracts of the kit's shelf, taken as calls of ours. -/
set_option linter.unusedVariables false
namespace Go.Sx

/-- A call whose contract tells a value and new blocks alone. -/
theorem CALL_of_calls {P : Program} {f : FuncId} {fn : Func} {args : Array Value} {K : Value → Heap → Prop} {h : Heap} (hf : P.funcs[f]? = some fn) (hb : fn.body.isNone = false) (hn : (fn.name == "runtime.NumGoroutine") = false)
    (c : ∀ w : World, w.heap = h → Calls P f args w fun e w' => ∃ v, e = .returned v ∧ Same w w' ∧ K v w'.heap) : CALL P f args K h := by
  intro w hw
  have hrun : (callFunc f args).run P w = .ok (.enter f args) w := by
    unfold callFunc
    simp only [Sem.run_bind, run_program, Result.andThen_ok, hf, hn, hb, Bool.false_eq_true, if_false]
    rfl
  rw [hrun]
  exact c w hw
theorem grow_same (w : World) (k : Nat) (os : Array Obj) : Same w (Sort.grow (w.drewN k) os) := ⟨rfl, rfl, rfl⟩
theorem grow_ext (w : World) (k : Nat) (os : Array Obj) : Ext w.heap (Sort.grow (w.drewN k) os).heap := by
  show Ext w.heap (w.heap ++ os)
  refine ⟨by simp, fun i hi => ?_⟩
  rw [Array.getElem?_append_left hi]
end Go.Sx
