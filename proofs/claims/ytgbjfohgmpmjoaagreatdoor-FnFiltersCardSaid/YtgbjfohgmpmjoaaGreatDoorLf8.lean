/- Powers of two, sums, products and quotients between bounds, whole parts. -/
import Derived.Test.YtgbjfohgmpmjoaaGreatDoorLm7
import Derived.Test.YtgbjfohgmpmjoaaGreatDoorK0
import Derived.Test.YtgbjfohgmpmjoaaGreatDoorLs1
import Derived.Test.YtgbjfohgmpmjoaaGreatDoorLk1
import Derived.Test.YtgbjfohgmpmjoaaGreatDoorLp7
import Derived.Test.YtgbjfohgmpmjoaaGreatDoorTab
import Derived.Laws.Strings2
import Derived.Test.YtgbjfohgmpmjoaaGreatDoorLg
import Derived.Test.YtgbjfohgmpmjoaaGreatDoorLp4
import Derived.Test.YtgbjfohgmpmjoaaGreatDoorTabE
set_option linter.unusedVariables false
set_option linter.unusedSimpArgs false
namespace Go.Sx
open Ieee

def pow2 (k : Int) : Nat := FloatKind.f64.format.nearest false 1 k
/-- Neither negative nor greater than a power of two. -/
def Up (k : FloatKind) (w : Nat) (j : Int) : Prop := ∃ (m : Nat) (p : Int), k.format.read w = .number false m p ∧ VLE m p j
/-- Between two powers of two, and normal. -/
def Btw (w : Nat) (i j : Int) : Prop := ∃ (m : Nat) (p : Int), FloatKind.f64.format.read w = .number false m p ∧ VLE m p j ∧ VGE m p i ∧ 2 ^ 52 ≤ m ∧ m < 2 ^ 53
theorem Btw.up {w : Nat} {i j : Int} (h : Btw w i j) : Up .f64 w j := by obtain ⟨m, p, h1, h2, _⟩ := h; exact ⟨m, p, h1, h2⟩
theorem VLE.mono {m : Nat} {p i j : Int} (h : VLE m p i) (hij : i ≤ j) : VLE m p j := by
  rcases h with h | ⟨h1, h2⟩
  · exact .inl h
  · exact .inr ⟨by omega, Nat.le_trans h2 (Nat.pow_le_pow_right (by decide) (by omega))⟩
theorem VLE.mul {m n : Nat} {p q i j : Int} (h : VLE m p i) (g : VLE n q j) : VLE (m * n) (p + q) (i + j) := by
  rcases h with h | ⟨h1, h2⟩
  · exact .inl (by rw [h, Nat.zero_mul])
  rcases g with g | ⟨g1, g2⟩
  · exact .inl (by rw [g, Nat.mul_zero])
  refine .inr ⟨by omega, ?_⟩
  have := Nat.mul_le_mul h2 g2
  rwa [← Nat.pow_add, show (i - p).toNat + (j - q).toNat = (i + j - (p + q)).toNat by omega] at this
end Go.Sx
/- math.Floor of a float32 that is not great; what is left. -/
set_option linter.unusedVariables false
set_option linter.unusedSimpArgs false
namespace Go.Sx
open Ieee

/-- math.Floor. -/
def flr (w : Nat) : Nat := FloatKind.f64.encode ((FloatKind.f64.decode w).integral .down)
/-- The whole part of a number that is not negative. -/
def whole (m : Nat) (e : Int) : Nat := (m <<< e.toNat) / 2 ^ (-e).toNat
end Go.Sx
/- Tunings' periods: plain; what TwoTo computes lies between bounds. -/
set_option linter.unusedVariables false
set_option linter.unusedSimpArgs false
namespace Go.Sx
open Ieee
def GTuning.centsOf (t : GTuning) (key : Int) : Nat := fadd .f32 (fmul .f32 t.Octave (FloatKind.f32.nearest (key / t.Degrees.length))) t.Degrees[(key % t.Degrees.length).toNat]!
/-- The polynomial of TwoTo. -/
def twoS (y : Nat) (s : Nat) (ms : List Nat) : Nat := ms.foldl (fun s (m : Nat) => fadd .f64 4607182418800017408 (fmul .f64 (fdiv .f64 y (FloatKind.f64.nearest ((m : Nat) : Int))) s)) s
def ms14 : List Nat := [14, 13, 12, 11, 10, 9, 8, 7, 6, 5, 4, 3, 2, 1]
def twoY (x : Nat) : Nat := fmul .f64 (fsub .f64 (wid x) (flr (wid x))) 4604418534313441775
def twoK (x : Nat) : Int := ((FloatKind.f64.decode (flr (wid x))).toInt .zero).getD 0
def twoM (x : Nat) : Nat := twoS (twoY x) 4607182418800017408 ms14
def inTwo (x : Nat) : Bool := inside x 3270508544 1123024896
/-- 2 to a power, nearly. -/
def twoTo (x : Nat) : Nat := nar (fmul .f64 (twoM x) (pow2 (twoK x)))

theorem number_cn {k : FloatKind} {w m : Nat} {s : Bool} {e : Int} (h : k.format.read w = .number s m e) : cn k w = w := by
  have : Sx.nan k w = false := by unfold Sx.nan; rw [h]; rfl
  unfold cn; rw [this, if_neg (by decide)]
end Go.Sx
/- Signs; whole parts of float32s; new bodies. -/
set_option linter.unusedVariables false
set_option linter.unusedSimpArgs false
namespace Go.Sx
open Ieee

/-- A number times 2 ^ B. -/
def sv (B : Nat) (m : Nat) (e : Int) : Nat := m * 2 ^ (e + (B : Int)).toNat
/-- At least a number that is not negative: what it is. -/
theorem ge_read {B : Nat} (hB : 1100 ≤ B) {x c n : Nat} {j : Int} (hc : FloatKind.f32.format.read c = .number false n j) (h : fge .f32 x c = true) :
    FloatKind.f32.format.read x = .infinity false ∨ ∃ s m e, FloatKind.f32.format.read x = .number s m e ∧ (s = true → m = 0) ∧ sv B n j ≤ sv B m e := by
  have hj := read_single c hc
  unfold fge at h
  cases e : FloatKind.f32.format.read x with
  | nan s t => rw [order_read e hc] at h; cases h
  | infinity s =>
    rw [order_read e hc] at h
    cases s
    · exact .inl rfl
    · cases h
  | number s m i =>
    have hs := read_single x e
    refine .inr ⟨s, m, i, rfl, ?_⟩
    rw [order_read e hc, order_base _ _ _ _ _ _ (-(B : Int)) (by omega) (by omega)] at h
    have ei : (i - -(B : Int)).toNat = (i + (B : Int)).toNat := by congr 1; omega
    have ej : (j - -(B : Int)).toNat = (j + (B : Int)).toNat := by congr 1; omega
    rw [ei, ej, signed_f] at h
    have hne : ¬ compare (signed s m (i + (B : Int)).toNat) ((n * 2 ^ (j + (B : Int)).toNat : Nat) : Int) = .lt := fun hc => by rw [hc] at h; cases h
    have hle := compare_ne_lt hne
    unfold sv
    cases s
    · rw [signed_f] at hle
      exact ⟨(fun h => nomatch h), Int.ofNat_le.1 hle⟩
    · rw [signed_t] at hle
      have hp := Nat.two_pow_pos (i + (B : Int)).toNat
      have : m * 2 ^ (i + (B : Int)).toNat = 0 := by omega
      have hm : m = 0 := (Nat.mul_eq_zero.1 this).resolve_right (by omega)
      exact ⟨fun _ => hm, by omega⟩
theorem le_read {B : Nat} (hB : 1100 ≤ B) {x c n m : Nat} {s : Bool} {j e : Int} (hc : FloatKind.f32.format.read c = .number false n j) (hx : FloatKind.f32.format.read x = .number s m e) (hs : s = true → m = 0) (h : fle .f32 x c = true) : sv B m e ≤ sv B n j := by
  have hj := read_single c hc
  have hi := read_single x hx
  unfold fle at h
  rw [order_read hx hc, order_base _ _ _ _ _ _ (-(B : Int)) (by omega) (by omega)] at h
  have ei : (e - -(B : Int)).toNat = (e + (B : Int)).toNat := by congr 1; omega
  have ej : (j - -(B : Int)).toNat = (j + (B : Int)).toNat := by congr 1; omega
  rw [ei, ej, signed_f] at h
  have hne : ¬ compare (signed s m (e + (B : Int)).toNat) ((n * 2 ^ (j + (B : Int)).toNat : Nat) : Int) = .gt := fun hc => by rw [hc] at h; cases h
  have hle := compare_ne_gt hne
  unfold sv
  cases s
  · rw [signed_f] at hle; exact Int.ofNat_le.1 hle
  · rw [hs rfl, Nat.zero_mul]; exact Nat.zero_le _
theorem inf_le {x c n : Nat} {j : Int} (hc : FloatKind.f32.format.read c = .number false n j) (hx : FloatKind.f32.format.read x = .infinity false) : fle .f32 x c = false := by
  unfold fle
  rw [order_read hx hc]; rfl
/-- A float32 between two numbers that are not negative. -/
theorem inside_read {B : Nat} (hB : 1100 ≤ B) {x c d n k : Nat} {j i : Int} (hc : FloatKind.f32.format.read c = .number false n j) (hd : FloatKind.f32.format.read d = .number false k i) (h : inside x c d = true) :
    ∃ s m e, FloatKind.f32.format.read x = .number s m e ∧ (s = true → m = 0) ∧ sv B n j ≤ sv B m e ∧ sv B m e ≤ sv B k i := by
  unfold inside at h
  rw [Bool.and_eq_true] at h
  rcases ge_read hB hc h.1 with hx | ⟨s, m, e, hx, hs, hl⟩
  · rw [inf_le hd hx] at h; cases h.2
  · exact ⟨s, m, e, hx, hs, hl, le_read hB hd hx hs h.2⟩
theorem sv_vle {B : Nat} (hB : 1100 ≤ B) {m : Nat} {e j : Int} (hm : m ≠ 0) (he : -(B : Int) ≤ e) (hj : -(B : Int) ≤ j) (h : sv B m e ≤ 2 ^ (j + (B : Int)).toNat) : VLE m e j := by
  unfold sv at h
  have h1 : 2 ^ (e + (B : Int)).toNat ≤ 2 ^ (j + (B : Int)).toNat := Nat.le_trans (Nat.le_mul_of_pos_left _ (by omega)) h
  have h2 : (e + (B : Int)).toNat ≤ (j + (B : Int)).toNat := (Nat.pow_le_pow_iff_right (by decide)).1 h1
  refine .inr ⟨by omega, ?_⟩
  rw [show (j + (B : Int)).toNat = (j - e).toNat + (e + (B : Int)).toNat by omega, Nat.pow_add] at h
  exact Nat.le_of_mul_le_mul_right h (Nat.two_pow_pos _)
/-- A float32's whole part, of one that is neither negative nor too great. -/
def floorN (a : Nat) : Nat := match FloatKind.f32.format.read a with | .number false m e => whole m e | _ => 0
end Go.Sx
/- Names: the rule's and the program's; what is left of a text when letters are cut off at both ends. -/
set_option linter.unusedVariables false
set_option linter.unusedSimpArgs false
namespace Go.Sx
open Go.Proofs
set_option maxRecDepth 100000
set_option maxHeartbeats 1000000

def letter (n : Int) : Bool := decide (97 ≤ n) && decide (n ≤ 122)
def allL (s : ByteArray) : Bool := (List.range s.size).all fun i => letter (byteAt s (i : Int))
def nameOk (s : ByteArray) : Bool := inR s.size 1 12 && allL s
end Go.Sx
/- How Pipe lie in cells; their parts; given ones opened. -/
set_option linter.unusedVariables false
set_option linter.unusedSimpArgs false
namespace Go.Sx
open Go.Proofs
def rPipe : Rep GPipe := (Rep.seq (rSl T_impl_Ring rRing) (Rep.seq (rSl T_impl_Ring rRing) (Rep.seq (rSl T_float32 (rF .f32)) (Rep.seq rFilter (Rep.seq rB (Rep.seq (rF .f32) (Rep.seq (rF .f32) ((rF .f32))))))))).via fun a => (a.Right, a.Left, a.Scatter, a.End, a.Open, a.Loss, a.Rest, a.Slope)
theorem foc_Pipe_Right : Foc rPipe (rSl T_impl_Ring rRing) 0 (fun a => a.Right) (fun a b => { a with Right := b }) := (Foc.via (f := fun a : GPipe => (a.Right, a.Left, a.Scatter, a.End, a.Open, a.Loss, a.Rest, a.Slope)) (get' := fun a => a.Right) (put' := fun a b => { a with Right := b }) (Foc.fst (Foc.here (rSl T_impl_Ring rRing))) (fun _ => rfl) (fun _ _ => rfl)).at rfl
theorem foc_Pipe_Left : Foc rPipe (rSl T_impl_Ring rRing) 1 (fun a => a.Left) (fun a b => { a with Left := b }) := (Foc.via (f := fun a : GPipe => (a.Right, a.Left, a.Scatter, a.End, a.Open, a.Loss, a.Rest, a.Slope)) (get' := fun a => a.Left) (put' := fun a b => { a with Left := b }) (Foc.snd (Foc.fst (Foc.here (rSl T_impl_Ring rRing)))) (fun _ => rfl) (fun _ _ => rfl)).at rfl
theorem foc_Pipe_Scatter : Foc rPipe (rSl T_float32 (rF .f32)) 2 (fun a => a.Scatter) (fun a b => { a with Scatter := b }) := (Foc.via (f := fun a : GPipe => (a.Right, a.Left, a.Scatter, a.End, a.Open, a.Loss, a.Rest, a.Slope)) (get' := fun a => a.Scatter) (put' := fun a b => { a with Scatter := b }) (Foc.snd (Foc.snd (Foc.fst (Foc.here (rSl T_float32 (rF .f32)))))) (fun _ => rfl) (fun _ _ => rfl)).at rfl
theorem foc_Pipe_End : Foc rPipe rFilter 3 (fun a => a.End) (fun a b => { a with End := b }) := (Foc.via (f := fun a : GPipe => (a.Right, a.Left, a.Scatter, a.End, a.Open, a.Loss, a.Rest, a.Slope)) (get' := fun a => a.End) (put' := fun a b => { a with End := b }) (Foc.snd (Foc.snd (Foc.snd (Foc.fst (Foc.here rFilter))))) (fun _ => rfl) (fun _ _ => rfl)).at rfl
theorem foc_Pipe_Open : Foc rPipe rB 9 (fun a => a.Open) (fun a b => { a with Open := b }) := (Foc.via (f := fun a : GPipe => (a.Right, a.Left, a.Scatter, a.End, a.Open, a.Loss, a.Rest, a.Slope)) (get' := fun a => a.Open) (put' := fun a b => { a with Open := b }) (Foc.snd (Foc.snd (Foc.snd (Foc.snd (Foc.fst (Foc.here rB)))))) (fun _ => rfl) (fun _ _ => rfl)).at rfl
theorem foc_Pipe_Loss : Foc rPipe (rF .f32) 10 (fun a => a.Loss) (fun a b => { a with Loss := b }) := (Foc.via (f := fun a : GPipe => (a.Right, a.Left, a.Scatter, a.End, a.Open, a.Loss, a.Rest, a.Slope)) (get' := fun a => a.Loss) (put' := fun a b => { a with Loss := b }) (Foc.snd (Foc.snd (Foc.snd (Foc.snd (Foc.snd (Foc.fst (Foc.here (rF .f32)))))))) (fun _ => rfl) (fun _ _ => rfl)).at rfl
theorem foc_Pipe_Rest : Foc rPipe (rF .f32) 11 (fun a => a.Rest) (fun a b => { a with Rest := b }) := (Foc.via (f := fun a : GPipe => (a.Right, a.Left, a.Scatter, a.End, a.Open, a.Loss, a.Rest, a.Slope)) (get' := fun a => a.Rest) (put' := fun a b => { a with Rest := b }) (Foc.snd (Foc.snd (Foc.snd (Foc.snd (Foc.snd (Foc.snd (Foc.fst (Foc.here (rF .f32))))))))) (fun _ => rfl) (fun _ _ => rfl)).at rfl
theorem foc_Pipe_Slope : Foc rPipe (rF .f32) 12 (fun a => a.Slope) (fun a b => { a with Slope := b }) := (Foc.via (f := fun a : GPipe => (a.Right, a.Left, a.Scatter, a.End, a.Open, a.Loss, a.Rest, a.Slope)) (get' := fun a => a.Slope) (put' := fun a b => { a with Slope := b }) (Foc.snd (Foc.snd (Foc.snd (Foc.snd (Foc.snd (Foc.snd (Foc.snd (Foc.here (rF .f32))))))))) (fun _ => rfl) (fun _ _ => rfl)).at rfl
def z_Pipe : GPipe := ⟨[], [], [], z_Filter, false, 0, 0, 0⟩
instance lf_Pipe_0 : FocC rPipe 0 (rSl T_impl_Ring rRing) (fun a => a.Right) (fun a b => { a with Right := b }) := ⟨Foc.at foc_Pipe_Right rfl⟩
instance lf_Pipe_1 : FocC rPipe 1 (rSl T_impl_Ring rRing) (fun a => a.Left) (fun a b => { a with Left := b }) := ⟨Foc.at foc_Pipe_Left rfl⟩
instance lf_Pipe_2 : FocC rPipe 2 (rSl T_float32 (rF .f32)) (fun a => a.Scatter) (fun a b => { a with Scatter := b }) := ⟨Foc.at foc_Pipe_Scatter rfl⟩
instance lf_Pipe_3 : FocC rPipe 3 (rI .i64) (fun a => a.End.Kind) (fun a b => { a with End := { a.End with Kind := b } }) := ⟨Foc.at (foc_Pipe_End.trans lf_Filter_0.f) rfl⟩
instance lf_Pipe_4 : FocC rPipe 4 (rF .f32) (fun a => a.End.C[0]!) (fun a b => { a with End := { a.End with C := a.End.C.set 0 b } }) := ⟨Foc.at (foc_Pipe_End.trans lf_Filter_1.f) rfl⟩
instance lf_Pipe_5 : FocC rPipe 5 (rF .f32) (fun a => a.End.C[1]!) (fun a b => { a with End := { a.End with C := a.End.C.set 1 b } }) := ⟨Foc.at (foc_Pipe_End.trans lf_Filter_2.f) rfl⟩
instance lf_Pipe_6 : FocC rPipe 6 (rF .f32) (fun a => a.End.C[2]!) (fun a b => { a with End := { a.End with C := a.End.C.set 2 b } }) := ⟨Foc.at (foc_Pipe_End.trans lf_Filter_3.f) rfl⟩
instance lf_Pipe_7 : FocC rPipe 7 (rF .f32) (fun a => a.End.S[0]!) (fun a b => { a with End := { a.End with S := a.End.S.set 0 b } }) := ⟨Foc.at (foc_Pipe_End.trans lf_Filter_4.f) rfl⟩
instance lf_Pipe_8 : FocC rPipe 8 (rF .f32) (fun a => a.End.S[1]!) (fun a b => { a with End := { a.End with S := a.End.S.set 1 b } }) := ⟨Foc.at (foc_Pipe_End.trans lf_Filter_5.f) rfl⟩
instance lf_Pipe_9 : FocC rPipe 9 rB (fun a => a.Open) (fun a b => { a with Open := b }) := ⟨Foc.at foc_Pipe_Open rfl⟩
instance lf_Pipe_10 : FocC rPipe 10 (rF .f32) (fun a => a.Loss) (fun a b => { a with Loss := b }) := ⟨Foc.at foc_Pipe_Loss rfl⟩
instance lf_Pipe_11 : FocC rPipe 11 (rF .f32) (fun a => a.Rest) (fun a b => { a with Rest := b }) := ⟨Foc.at foc_Pipe_Rest rfl⟩
instance lf_Pipe_12 : FocC rPipe 12 (rF .f32) (fun a => a.Slope) (fun a b => { a with Slope := b }) := ⟨Foc.at foc_Pipe_Slope rfl⟩
end Go.Sx
/- How String, Bow lie in cells; their parts; given ones opened. -/
set_option linter.unusedVariables false
set_option linter.unusedSimpArgs false
namespace Go.Sx
open Go.Proofs
def z_String : GString := ⟨z_Ring, z_Filter, z_Filter, 0⟩
def z_Bow : GBow := ⟨z_Ring, z_Ring, z_Filter, 0, 0⟩
end Go.Sx
/- How Tuning, Instrument, Event, Score lie in cells; their parts; given ones opened. -/
set_option linter.unusedVariables false
set_option linter.unusedSimpArgs false
namespace Go.Sx
open Go.Proofs
def rEvent : Rep GEvent := (Rep.seq (rI .i64) (Rep.seq (rI .i64) (Rep.seq (rI .i64) (Rep.seq (rI .i64) (Rep.seq (rI .i64) ((rF .f32))))))).via fun a => (a.At, a.Kind, a.Note, a.Instrument, a.Key, a.Force)
theorem foc_Event_At : Foc rEvent (rI .i64) 0 (fun a => a.At) (fun a b => { a with At := b }) := (Foc.via (f := fun a : GEvent => (a.At, a.Kind, a.Note, a.Instrument, a.Key, a.Force)) (get' := fun a => a.At) (put' := fun a b => { a with At := b }) (Foc.fst (Foc.here (rI .i64))) (fun _ => rfl) (fun _ _ => rfl)).at rfl
theorem foc_Event_Kind : Foc rEvent (rI .i64) 1 (fun a => a.Kind) (fun a b => { a with Kind := b }) := (Foc.via (f := fun a : GEvent => (a.At, a.Kind, a.Note, a.Instrument, a.Key, a.Force)) (get' := fun a => a.Kind) (put' := fun a b => { a with Kind := b }) (Foc.snd (Foc.fst (Foc.here (rI .i64)))) (fun _ => rfl) (fun _ _ => rfl)).at rfl
theorem foc_Event_Note : Foc rEvent (rI .i64) 2 (fun a => a.Note) (fun a b => { a with Note := b }) := (Foc.via (f := fun a : GEvent => (a.At, a.Kind, a.Note, a.Instrument, a.Key, a.Force)) (get' := fun a => a.Note) (put' := fun a b => { a with Note := b }) (Foc.snd (Foc.snd (Foc.fst (Foc.here (rI .i64))))) (fun _ => rfl) (fun _ _ => rfl)).at rfl
theorem foc_Event_Instrument : Foc rEvent (rI .i64) 3 (fun a => a.Instrument) (fun a b => { a with Instrument := b }) := (Foc.via (f := fun a : GEvent => (a.At, a.Kind, a.Note, a.Instrument, a.Key, a.Force)) (get' := fun a => a.Instrument) (put' := fun a b => { a with Instrument := b }) (Foc.snd (Foc.snd (Foc.snd (Foc.fst (Foc.here (rI .i64)))))) (fun _ => rfl) (fun _ _ => rfl)).at rfl
theorem foc_Event_Key : Foc rEvent (rI .i64) 4 (fun a => a.Key) (fun a b => { a with Key := b }) := (Foc.via (f := fun a : GEvent => (a.At, a.Kind, a.Note, a.Instrument, a.Key, a.Force)) (get' := fun a => a.Key) (put' := fun a b => { a with Key := b }) (Foc.snd (Foc.snd (Foc.snd (Foc.snd (Foc.fst (Foc.here (rI .i64))))))) (fun _ => rfl) (fun _ _ => rfl)).at rfl
theorem foc_Event_Force : Foc rEvent (rF .f32) 5 (fun a => a.Force) (fun a b => { a with Force := b }) := (Foc.via (f := fun a : GEvent => (a.At, a.Kind, a.Note, a.Instrument, a.Key, a.Force)) (get' := fun a => a.Force) (put' := fun a b => { a with Force := b }) (Foc.snd (Foc.snd (Foc.snd (Foc.snd (Foc.snd (Foc.here (rF .f32))))))) (fun _ => rfl) (fun _ _ => rfl)).at rfl
def z_Event : GEvent := ⟨0, 0, 0, 0, 0, 0⟩
theorem zow_Event : rEvent.ow [] [Value.int .i64 (0 : Int), Value.int .i64 (0 : Int), Value.int .i64 (0 : Int), Value.int .i64 (0 : Int), Value.int .i64 (0 : Int), Value.float .f32 0] z_Event := ⟨[], [], [Value.int .i64 (0 : Int)], [Value.int .i64 (0 : Int), Value.int .i64 (0 : Int), Value.int .i64 (0 : Int), Value.int .i64 (0 : Int), Value.float .f32 0], rfl, rfl, ⟨rfl, rfl⟩, ⟨[], [], [Value.int .i64 (0 : Int)], [Value.int .i64 (0 : Int), Value.int .i64 (0 : Int), Value.int .i64 (0 : Int), Value.float .f32 0], rfl, rfl, ⟨rfl, rfl⟩, ⟨[], [], [Value.int .i64 (0 : Int)], [Value.int .i64 (0 : Int), Value.int .i64 (0 : Int), Value.float .f32 0], rfl, rfl, ⟨rfl, rfl⟩, ⟨[], [], [Value.int .i64 (0 : Int)], [Value.int .i64 (0 : Int), Value.float .f32 0], rfl, rfl, ⟨rfl, rfl⟩, ⟨[], [], [Value.int .i64 (0 : Int)], [Value.float .f32 0], rfl, rfl, ⟨rfl, rfl⟩, ⟨rfl, 0, rfl, fw_c32 (by decide) (by decide)⟩⟩⟩⟩⟩⟩
instance lf_Event_0 : FocC rEvent 0 (rI .i64) (fun a => a.At) (fun a b => { a with At := b }) := ⟨Foc.at foc_Event_At rfl⟩
instance lf_Event_1 : FocC rEvent 1 (rI .i64) (fun a => a.Kind) (fun a b => { a with Kind := b }) := ⟨Foc.at foc_Event_Kind rfl⟩
instance lf_Event_2 : FocC rEvent 2 (rI .i64) (fun a => a.Note) (fun a b => { a with Note := b }) := ⟨Foc.at foc_Event_Note rfl⟩
instance lf_Event_3 : FocC rEvent 3 (rI .i64) (fun a => a.Instrument) (fun a b => { a with Instrument := b }) := ⟨Foc.at foc_Event_Instrument rfl⟩
instance lf_Event_4 : FocC rEvent 4 (rI .i64) (fun a => a.Key) (fun a b => { a with Key := b }) := ⟨Foc.at foc_Event_Key rfl⟩
instance lf_Event_5 : FocC rEvent 5 (rF .f32) (fun a => a.Force) (fun a b => { a with Force := b }) := ⟨Foc.at foc_Event_Force rfl⟩
end Go.Sx
