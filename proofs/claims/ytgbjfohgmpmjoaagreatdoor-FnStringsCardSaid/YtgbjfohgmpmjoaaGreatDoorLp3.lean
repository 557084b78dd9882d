/- Floats up to which NaN they are: operations, comparisons, conversions. -/
import Derived.Test.YtgbjfohgmpmjoaaGreatDoorLp2
import Derived.Test.YtgbjfohgmpmjoaaGreatDoorLx2
set_option linter.unusedVariables false
set_option linter.unusedSimpArgs false
namespace Go.Sx
open Ieee

section
variable {k : FloatKind} {x y a b r : Nat}
theorem FW.nan (h : FW k x a) : Sx.nan k x = Sx.nan k a := by rw [← h.1, nan_canon]
theorem FW.self (h : FW k x a) : cn k a = a := by rw [← h.1, canon_canon]
theorem FW.eq (h : FW k x a) (hn : Sx.nan k a = false) : x = a := by
  have := h.nan
  rw [hn] at this
  rw [← h.1]; unfold cn; rw [this]; rfl
theorem fw_cn (h : x < 2 ^ k.format.width) : FW k x (cn k x) := ⟨rfl, h⟩
theorem qn_lt (k : FloatKind) : qn k < 2 ^ k.format.width := by cases k <;> decide +kernel
theorem FW.lt (h : FW k x a) : a < 2 ^ k.format.width := by
  rw [← h.1]; unfold cn; split
  · exact qn_lt k
  · exact h.2
theorem op_cong {op : Nat → Nat → Option Nat} (hl : ∀ x y, Sx.nan k x = true → op x y = none) (hr : ∀ x y, Sx.nan k y = true → op x y = none) (hx : FW k x a) (hy : FW k y b) : op x y = op a b := by
  have h1 := hx.nan
  have h2 := hy.nan
  cases e1 : Sx.nan k a with
  | true => rw [hl a b e1, hl x y (by rw [h1, e1])]
  | false =>
    cases e2 : Sx.nan k b with
    | true => rw [hr a b e2, hr x y (by rw [h2, e2])]
    | false => rw [hx.eq e1, hy.eq e2]
theorem isnan_read {k : FloatKind} {x : Nat} (h : Sx.nan k x = true) : ∃ s t, k.format.read x = .nan s t := by
  unfold Sx.nan at h
  cases e : k.format.read x <;> rw [e] at h <;> first | (cases h; done) | exact ⟨_, _, rfl⟩
theorem add_nl (x y : Nat) (h : Sx.nan k x = true) : k.format.add x y = none := by obtain ⟨s, t, e⟩ := isnan_read h; unfold Format.add; rw [e]; rfl
theorem add_nr (x y : Nat) (h : Sx.nan k y = true) : k.format.add x y = none := by obtain ⟨s, t, e⟩ := isnan_read h; unfold Format.add; rw [e]; cases k.format.read x <;> rfl
theorem sub_nl (x y : Nat) (h : Sx.nan k x = true) : k.format.sub x y = none := by obtain ⟨s, t, e⟩ := isnan_read h; unfold Format.sub; rw [e]; rfl
theorem sub_nr (x y : Nat) (h : Sx.nan k y = true) : k.format.sub x y = none := by obtain ⟨s, t, e⟩ := isnan_read h; unfold Format.sub; rw [e]; cases k.format.read x <;> rfl
theorem mul_nl (x y : Nat) (h : Sx.nan k x = true) : k.format.mul x y = none := by obtain ⟨s, t, e⟩ := isnan_read h; unfold Format.mul; rw [e]; rfl
theorem mul_nr (x y : Nat) (h : Sx.nan k y = true) : k.format.mul x y = none := by obtain ⟨s, t, e⟩ := isnan_read h; unfold Format.mul; rw [e]; cases k.format.read x <;> rfl
theorem div_nl (x y : Nat) (h : Sx.nan k x = true) : k.format.div x y = none := by obtain ⟨s, t, e⟩ := isnan_read h; unfold Format.div; rw [e]; rfl
theorem div_nr (x y : Nat) (h : Sx.nan k y = true) : k.format.div x y = none := by obtain ⟨s, t, e⟩ := isnan_read h; unfold Format.div; rw [e]; cases k.format.read x <;> rfl
def fadd (k : FloatKind) (a b : Nat) : Nat := cn k ((k.format.add a b).getD (qn k))
def fsub (k : FloatKind) (a b : Nat) : Nat := cn k ((k.format.sub a b).getD (qn k))
def fmul (k : FloatKind) (a b : Nat) : Nat := cn k ((k.format.mul a b).getD (qn k))
def fdiv (k : FloatKind) (a b : Nat) : Nat := cn k ((k.format.div a b).getD (qn k))
theorem isF_lt {k : FloatKind} {o : Option Nat} {r : Nat} (h : IsF k o r) (ho : ∀ v, o = some v → v < 2 ^ k.format.width) : r < 2 ^ k.format.width := by
  cases o with
  | some v => rw [show r = v from h]; exact ho v rfl
  | none =>
    cases k with
    | f32 =>
      obtain ⟨t, rfl⟩ := (h : isNaNW .f32 r)
      show _ < 2 ^ 32
      have hs : t % 2 = 0 ∨ t % 2 = 1 := by omega
      have hu : t / 2 % (2 ^ 23 - 1) < 2 ^ 23 - 1 := Nat.mod_lt _ (by decide)
      generalize t / 2 % (2 ^ 23 - 1) = u at hu ⊢
      rcases hs with hs | hs <;> rw [hs] <;> omega
    | f64 =>
      obtain ⟨t, rfl⟩ := (h : isNaNW .f64 r)
      show _ < 2 ^ 64
      have hs : t % 2 = 0 ∨ t % 2 = 1 := by omega
      have hu : t / 2 % (2 ^ 52 - 1) < 2 ^ 52 - 1 := Nat.mod_lt _ (by decide)
      generalize t / 2 % (2 ^ 52 - 1) = u at hu ⊢
      rcases hs with hs | hs <;> rw [hs] <;> omega
theorem fw_add (hx : FW k x a) (hy : FW k y b) (h : IsF k (k.format.add x y) r) : FW k r (fadd k a b) :=
  ⟨by rw [canon_of_isF h, op_cong add_nl add_nr hx hy]; rfl, isF_lt h fun v e => k.format.add_lt e⟩
theorem fw_sub (hx : FW k x a) (hy : FW k y b) (h : IsF k (k.format.sub x y) r) : FW k r (fsub k a b) :=
  ⟨by rw [canon_of_isF h, op_cong sub_nl sub_nr hx hy]; rfl, isF_lt h fun v e => k.format.sub_lt e⟩
theorem fw_mul (hx : FW k x a) (hy : FW k y b) (h : IsF k (k.format.mul x y) r) : FW k r (fmul k a b) :=
  ⟨by rw [canon_of_isF h, op_cong mul_nl mul_nr hx hy]; rfl, isF_lt h fun v e => k.format.mul_lt e⟩
theorem fw_div (hx : FW k x a) (hy : FW k y b) (h : IsF k (k.format.div x y) r) : FW k r (fdiv k a b) :=
  ⟨by rw [canon_of_isF h, op_cong div_nl div_nr hx hy]; rfl, isF_lt h fun v e => k.format.div_lt e⟩
theorem fA {F : Nat → Prop} (hx : FW k x a) (hy : FW k y b) (H : ∀ r, FW k r (fadd k a b) → F r) : FOP k (k.format.add x y) F := fun r h => H r (fw_add hx hy h)
theorem fS {F : Nat → Prop} (hx : FW k x a) (hy : FW k y b) (H : ∀ r, FW k r (fsub k a b) → F r) : FOP k (k.format.sub x y) F := fun r h => H r (fw_sub hx hy h)
theorem fM {F : Nat → Prop} (hx : FW k x a) (hy : FW k y b) (H : ∀ r, FW k r (fmul k a b) → F r) : FOP k (k.format.mul x y) F := fun r h => H r (fw_mul hx hy h)
theorem fD {F : Nat → Prop} (hx : FW k x a) (hy : FW k y b) (H : ∀ r, FW k r (fdiv k a b) → F r) : FOP k (k.format.div x y) F := fun r h => H r (fw_div hx hy h)
theorem ord_eq (hx : FW k x a) (hy : FW k y b) : k.format.order x y = k.format.order a b := by
  have h1 := hx.nan
  have h2 := hy.nan
  cases e1 : Sx.nan k a with
  | true => rw [order_nan_left e1, order_nan_left (by rw [h1, e1])]
  | false =>
    cases e2 : Sx.nan k b with
    | true => rw [order_nan_right e2, order_nan_right (by rw [h2, e2])]
    | false => rw [hx.eq e1, hy.eq e2]
theorem nan32 (c : Nat) : Sx.nan .f32 c = decide (2139095040 < c % 2147483648) := by
  unfold Sx.nan
  have e1 : FloatKind.f32.format.signWeight = 2147483648 := rfl
  have e2 : FloatKind.f32.format.infRung = 2139095040 := by decide +kernel
  have e3 : FloatKind.f32.format.binade = 8388608 := rfl
  rw [read_isNaN, e1, e2, e3, decide_eq_decide]
  omega
theorem fw_c32 {c : Nat} (h : c % 2147483648 ≤ 2139095040) (h2 : c < 4294967296) : FW .f32 c c :=
  ⟨by unfold cn; rw [nan32, if_neg (by simpa using h)], h2⟩
theorem fw_nearest (k : FloatKind) (n : Int) : FW k (k.nearest n) (k.nearest n) :=
  ⟨by unfold cn; rw [nearest_not_nan]; rfl, by show k.format.nearest _ _ _ < _; exact k.format.nearest_lt _ _ _⟩
def fneg (k : FloatKind) (a : Nat) : Nat := cn k (Op.negFloat k a)
theorem nan_mod {x y : Nat} (h : x % k.format.signWeight = y % k.format.signWeight) : Sx.nan k x = Sx.nan k y := by
  unfold Sx.nan
  rw [read_isNaN, read_isNaN, h]
/-- A float32 as a float64, and back where it fits. -/
def wid (a : Nat) : Nat := cn .f64 (wide a)
theorem isFF_lt64 {b r : Nat} (h : IsFF .f32 b .f64 r) : r < 2 ^ FloatKind.f64.format.width := by
  unfold IsFF at h
  split at h
  · exact isF_lt (k := .f64) (o := none) h (fun v e => by cases e)
  · rw [h]; exact FloatKind.f64.format.write_lt _
  · split at h
    · exact Nat.lt_trans h (show 2 ^ 32 < 2 ^ 64 by decide)
    · rw [h]; exact FloatKind.f64.format.write_lt _
theorem ffc_wide {F : Nat → Prop} (hx : FW .f32 x a) (H : ∀ r, FW .f64 r (wid a) → F r) : FFC .f32 x .f64 F := fun r h =>
  H r ⟨by rw [isFF_wide h, hx.1]; rfl, isFF_lt64 h⟩
def nar (a : Nat) : Nat := cn .f32 (if nan .f64 a then qn .f32 else FloatKind.f32.encode (FloatKind.f64.decode a))
def fits (a : Nat) : Bool := match FloatKind.f64.decode a with | .number n m e => !(FloatKind.f32.decode (FloatKind.f32.encode (.number n m e))).isInfinity | _ => true
theorem isFF_lt32 {s : FloatKind} {b r : Nat} (h : IsFF s b .f32 r) : r < 2 ^ 32 := by
  unfold IsFF at h
  split at h
  · exact isF_lt (k := .f32) (o := none) h (fun v e => by cases e)
  · rw [h]; exact FloatKind.f32.format.write_lt _
  · split at h
    · exact h
    · rw [h]; exact FloatKind.f32.format.write_lt _
theorem ffc_nar {F : Nat → Prop} (hx : FW .f64 x a) (hf : fits a = true) (H : ∀ r, FW .f32 r (nar a) → F r) : FFC .f64 x .f32 F := fun r h => by
  refine H r ⟨?_, isFF_lt32 h⟩
  have hn := hx.nan
  unfold IsFF at h
  cases e : FloatKind.f64.decode x with
  | nan s t =>
    rw [e] at h
    have h1 : nan .f64 x = true := by unfold nan; rw [show FloatKind.f64.format.read x = _ from e]; rfl
    rw [h1] at hn
    unfold nar
    rw [← hn, if_pos rfl]
    unfold cn
    rw [nan_of_isNaNW (k := .f32) h, nan_qn, if_pos rfl, if_pos rfl]
  | infinity s =>
    rw [e] at h
    have h1 : nan .f64 x = false := by unfold nan; rw [show FloatKind.f64.format.read x = _ from e]; rfl
    have h2 := hx.eq (by rw [← hn, h1])
    subst h2
    unfold nar
    rw [if_neg (by rw [h1]; decide), e, show r = _ from h]
  | number s m i =>
    rw [e] at h
    have h1 : nan .f64 x = false := by unfold nan; rw [show FloatKind.f64.format.read x = _ from e]; rfl
    have h2 := hx.eq (by rw [← hn, h1])
    subst h2
    unfold fits at hf
    rw [e] at hf
    dsimp only at h hf
    rw [show (FloatKind.f32.decode (FloatKind.f32.encode (Datum.number s m i))).isInfinity = false by simpa using hf] at h
    unfold nar
    rw [if_neg (by rw [h1]; decide), e, show r = _ by simpa using h]
end
end Go.Sx
/- Given arguments as data: what the row's reading says, put together to data. -/
set_option linter.unusedVariables false
set_option linter.unusedSimpArgs false
namespace Go.Sx
open Go.ChangeShapes Go.WideShapes Go.ChangeAt Go.RowKit

section
variable {α β : Type} {P : Program}
theorem All2.split {H : Type} {enc : TypeId × Value → H} {w : World} {base : Nat} {spare : Nat → Bool} {held : Bool} : ∀ {l1 l2 : List TypeId} {vs : List Value}, All2 enc P w base spare held (l1 ++ l2) vs →
    ∃ v1 v2, vs = v1 ++ v2 ∧ All2 enc P w base spare held l1 v1 ∧ All2 enc P w base spare held l2 v2
  | [], l2, vs, h => ⟨[], vs, rfl, trivial, h⟩
  | t :: l1, l2, [], h => h.elim
  | t :: l1, l2, v :: vs, h => by
    obtain ⟨v1, v2, rfl, h1, h2⟩ := All2.split h.2
    exact ⟨v :: v1, v2, rfl, ⟨h.1, h1⟩, h2⟩
theorem All2.one {H : Type} {enc : TypeId × Value → H} {w : World} {base : Nat} {spare : Nat → Bool} {held : Bool} {t : TypeId} : ∀ {vs : List Value}, All2 enc P w base spare held [t] vs → ∃ v, vs = [v] ∧ Leaf enc P w base spare held t v
  | [], h => h.elim
  | [v], h => ⟨v, rfl, h.1⟩
  | _ :: _ :: _, h => h.2.elim
end
end Go.Sx
/- Rules for reading data behind pointers, at whatever form their addresses have; slices read element by element; loops over them. -/
set_option linter.unusedVariables false
set_option linter.unusedSimpArgs false
namespace Go.Sx

section
variable {α β : Type} {r : Rep α} {h : Heap} {q : Addr} {x : α} {off g : Nat}
theorem add0 (q : Addr) : q.add 0 = q := by simp [Addr.add]
theorem add_g (g n : Nat) : (⟨g, 0, none⟩ : Addr).add n = ⟨g, n, none⟩ := by rw [add_none, Nat.zero_add]
theorem RdP.foc0 {p : Rep β} {get : α → β} {put : α → β → α} (R : RdP r h ⟨g, 0, none⟩ x) (F : Foc r p off get put) : RdP p h ⟨g, off, none⟩ (get x) := by have := R.foc F; rwa [add_g] at this
theorem RdP.fst {p : Rep β} {get : α → β} {put : α → β → α} (R : RdP r h q x) (F : Foc r p 0 get put) : RdP p h q (get x) := by have := R.foc F; rwa [add0] at this
/-- The cell at the pointer itself. -/
theorem RdP.oI1 {k : IntKind} {get : α → Int} {put : α → Int → α} {K : Int → Prop} (R : RdP r h q x) [F : FocC r 0 (rI k) get put] (H : K (get x)) : Sx.oI k (Sx.cell h q) K := by have := RdP.oI (off := 0) R (F := F) H; rwa [add0] at this
theorem RdP.oS1 {get : α → ByteArray} {put : α → ByteArray → α} {K : ByteArray → Prop} (R : RdP r h q x) [F : FocC r 0 rS get put] (H : (get x).size ≤ maxLen → K (get x)) : Sx.oS (Sx.cell h q) K := by have := RdP.oS (off := 0) R (F := F) H; rwa [add0] at this
theorem RdP.oF1 {k : FloatKind} {get : α → Nat} {put : α → Nat → α} {K : Nat → Prop} (R : RdP r h q x) [F : FocC r 0 (rF k) get put] (H : ∀ y, FW k y (get x) → K y) : Sx.oF k (Sx.cell h q) K := by have := RdP.oF (off := 0) R (F := F) H; rwa [add0] at this
theorem RdP.oL1 {e : Nat} {s : Rep β} {get : α → List β} {put : α → List β → α} {K : Option Addr → Nat → Nat → Prop} (R : RdP r h q x) [F : FocC r 0 (rSl e s) get put] (H : ∀ b l c, SlR s h b l c (get x) → K b l c) : Sx.oL (Sx.cell h q) K := by have := RdP.oL (off := 0) R (F := F) H; rwa [add0] at this
theorem RdP.lda1 {n : Nat} {K : Array Value → Prop} (R : RdP r h q x) (hn : r.sz = n) (H : ∀ cs : Array Value, r.rd h cs.toList x → K cs) : LDA n h q K := by have := R.lda (Foc.here r) hn H; rwa [add0] at this
/-- Cells of a block by its number. -/
theorem RdP.oI2 {k : IntKind} {get : α → Int} {put : α → Int → α} {K : Int → Prop} (R : RdP r h ⟨g, 0, none⟩ x) [F : FocC r off (rI k) get put] (H : K (get x)) : Sx.oI k (Sx.cell h ⟨g, off, none⟩) K := by have := RdP.oI (off := off) R (F := F) H; rwa [add_g] at this
theorem RdP.oF2 {k : FloatKind} {get : α → Nat} {put : α → Nat → α} {K : Nat → Prop} (R : RdP r h ⟨g, 0, none⟩ x) [F : FocC r off (rF k) get put] (H : ∀ y, FW k y (get x) → K y) : Sx.oF k (Sx.cell h ⟨g, off, none⟩) K := by have := RdP.oF (off := off) R (F := F) H; rwa [add_g] at this
theorem RdP.oL2 {e : Nat} {s : Rep β} {get : α → List β} {put : α → List β → α} {K : Option Addr → Nat → Nat → Prop} (R : RdP r h ⟨g, 0, none⟩ x) [F : FocC r off (rSl e s) get put] (H : ∀ b l c, SlR s h b l c (get x) → K b l c) : Sx.oL (Sx.cell h ⟨g, off, none⟩) K := by have := RdP.oL (off := off) R (F := F) H; rwa [add_g] at this
theorem RdP.lda2 {p : Rep β} {n : Nat} {get : α → β} {put : α → β → α} {K : Array Value → Prop} (R : RdP r h ⟨g, 0, none⟩ x) (F : Foc r p off get put) (hn : p.sz = n) (H : ∀ cs : Array Value, p.rd h cs.toList (get x) → K cs) : LDA n h ⟨g, off, none⟩ K := by have := R.lda F hn H; rwa [add_g] at this
end
instance lf_I (k : IntKind) : FocC (rI k) 0 (rI k) (fun a => a) (fun _ b => b) := ⟨Foc.here _⟩
instance lf_F (k : FloatKind) : FocC (rF k) 0 (rF k) (fun a => a) (fun _ b => b) := ⟨Foc.here _⟩
instance lf_B : FocC rB 0 rB (fun a => a) (fun _ b => b) := ⟨Foc.here _⟩
instance lf_S : FocC rS 0 rS (fun a => a) (fun _ b => b) := ⟨Foc.here _⟩
instance lf_L {α : Type} (e : Nat) (r : Rep α) : FocC (rSl e r) 0 (rSl e r) (fun a => a) (fun _ b => b) := ⟨Foc.here _⟩
instance lf_2_0 : FocC (rArr 2 (rF .f32)) 0 (rF .f32) (fun l => l[0]!) (fun l b => l.set 0 b) := ⟨(Foc.arr (rF .f32) 0 (by decide)).at rfl⟩
instance lf_2_1 : FocC (rArr 2 (rF .f32)) 1 (rF .f32) (fun l => l[1]!) (fun l b => l.set 1 b) := ⟨(Foc.arr (rF .f32) 1 (by decide)).at rfl⟩
instance lf_3_0 : FocC (rArr 3 (rF .f32)) 0 (rF .f32) (fun l => l[0]!) (fun l b => l.set 0 b) := ⟨(Foc.arr (rF .f32) 0 (by decide)).at rfl⟩
instance lf_3_1 : FocC (rArr 3 (rF .f32)) 1 (rF .f32) (fun l => l[1]!) (fun l b => l.set 1 b) := ⟨(Foc.arr (rF .f32) 1 (by decide)).at rfl⟩
instance lf_3_2 : FocC (rArr 3 (rF .f32)) 2 (rF .f32) (fun l => l[2]!) (fun l b => l.set 2 b) := ⟨(Foc.arr (rF .f32) 2 (by decide)).at rfl⟩
instance lf_4_0 : FocC (rArr 4 (rF .f32)) 0 (rF .f32) (fun l => l[0]!) (fun l b => l.set 0 b) := ⟨(Foc.arr (rF .f32) 0 (by decide)).at rfl⟩
instance lf_4_1 : FocC (rArr 4 (rF .f32)) 1 (rF .f32) (fun l => l[1]!) (fun l b => l.set 1 b) := ⟨(Foc.arr (rF .f32) 1 (by decide)).at rfl⟩
instance lf_4_2 : FocC (rArr 4 (rF .f32)) 2 (rF .f32) (fun l => l[2]!) (fun l b => l.set 2 b) := ⟨(Foc.arr (rF .f32) 2 (by decide)).at rfl⟩
instance lf_4_3 : FocC (rArr 4 (rF .f32)) 3 (rF .f32) (fun l => l[3]!) (fun l b => l.set 3 b) := ⟨(Foc.arr (rF .f32) 3 (by decide)).at rfl⟩
section
variable {α β : Type} {r : Rep α} {h0 h h' : Heap} {q : Addr} {x : α} {off g n : Nat} {L : List Blk} {cs : Array Value}
/-- A value laid in a new block, to be read there. -/
theorem alcR {T : Nat} {F : Nat → Heap → Prop} (R : r.rd h cs.toList x) (H : ∀ g h', Ext h h' → RdP r h' ⟨g, 0, none⟩ x → F g h') : ALC cs T F h := by
  refine H _ _ (Ext.push _ _) ⟨cs.toList, fun i v e => ?_, r.ext (Ext.push _ _) R⟩
  rw [add_g]
  simpa [cell] using e
theorem Mem.rdp (M : Mem h0 h L) (l : Look L g cs) (R : r.rd h cs.toList x) : RdP r h ⟨g, 0, none⟩ x := by
  refine ⟨cs.toList, fun i v e => ?_, R⟩
  rw [add_g, M.cell l]; simpa using e
theorem RdP.pin {p : Prop} (R : RdP r h q x) (hn : r.sz = n) (X : Ext h h') (H : p) : PIN h q n h' p := by
  obtain ⟨vs, h1, h2⟩ := R
  have := r.rlen h2
  exact Sx.pin X (fun j hj => ⟨vs[j]'(by omega), h1 j _ (List.getElem?_eq_getElem (by omega))⟩) H
theorem pin_same {p : Prop} {a : Addr} (H : p) : PIN h a n h p := ⟨fun _ _ => rfl, H⟩
theorem Pt.join {F : Fr} {h'' : Heap} {L2 : List Blk} (P : Pt r h0 h q F L x) (M : Mem h h'' L2) : Pt r h0 h'' q F (L2 ++ L) x := by
  obtain ⟨e, mid, B, N, O⟩ := P
  refine ⟨e, mid, B, ?_, O⟩
  have := N.join M
  refine this.perm ?_
  refine List.perm_middle.trans (List.Perm.cons _ ?_)
  rw [← List.append_assoc, ← List.append_assoc]
  exact List.Perm.append_right _ List.perm_append_comm
theorem Pt.sub {F : Fr} {L2 : List Blk} (P : Pt r h0 h q F L x) (s : L2.Sublist L) : Pt r h0 h q F L2 x := by
  obtain ⟨e, mid, B, N, O⟩ := P
  exact ⟨e, mid, B, N.sub (List.Sublist.cons_cons _ ((List.Sublist.refl _).append s)), O⟩
theorem Pt.drop {F : Fr} {L2 : List Blk} (P : Pt r h0 h q F (L2 ++ L) x) : Pt r h0 h q F L x := P.sub (List.sublist_append_right _ _)
end
section
variable {α : Type} {r : Rep α} {h : Heap} {b : Option Addr} {l c : Nat} {els : List α}
theorem SlR.len (S : SlR r h b l c els) : els.length = l := S.1
theorem SlR.idx [Inhabited α] {i : Int} {F : Addr → Prop} (S : SlR r h b l c els) (hz : 0 < r.sz) (h1 : 0 ≤ i) (h2 : i < l) (H : ∀ a, RdP r h (a.add (i.toNat * r.sz)) els[i.toNat]! → F a) : IDXS b i l F := by
  obtain ⟨a, rfl, R⟩ := S.elem (i := i.toNat) (by omega) hz
  exact idxs h1 h2 (H a R)
theorem RdP.arr {n : Nat} {q : Addr} (R : RdP (rArr n r) h q els) (hn : n ≤ maxLen) : SlR r h (some q) n n els := by
  obtain ⟨vs, h1, h2, h3⟩ := R
  exact ⟨h2, Nat.le_refl _, hn, vs, fun i hi => ⟨q, rfl, by rw [h1 i _ (List.getElem?_eq_getElem hi), List.getElem?_eq_getElem hi]⟩, h3⟩
theorem slP_zero (a : Addr) (n sz : Nat) : slP a n 0 sz = a := by
  unfold slP; split
  · rfl
  · rw [Nat.zero_mul, add0]
theorem RdP.elem [Inhabited α] {n i : Nat} {q : Addr} (R : RdP (rArr n r) h q els) (hi : i < n) : RdP r h (q.add (i * r.sz)) els[i]! := R.foc (Foc.arr r i hi)
theorem RdP.len {n : Nat} {q : Addr} (R : RdP (rArr n r) h q els) : els.length = n := by obtain ⟨vs, _, h2, _⟩ := R; exact h2
end
/-- So far all held; the next one tells. -/
theorem all_false {f : Nat → Bool} {n i : Nat} (hi : i < n) (h : f i = false) : (List.range n).all f = false := by
  rw [List.all_eq_false]
  exact ⟨i, List.mem_range.2 hi, by simp [h]⟩
theorem all_true {f : Nat → Bool} {n : Nat} (h : ∀ i, i < n → f i = true) : (List.range n).all f = true := by
  rw [List.all_eq_true]; intro i hi; exact h i (List.mem_range.1 hi)
end Go.Sx
