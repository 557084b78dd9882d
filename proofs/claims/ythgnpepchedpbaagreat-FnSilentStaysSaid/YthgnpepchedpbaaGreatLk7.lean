/- Rooms copied. -/
import Derived.Test.YthgnpepchedpbaaGreatLk5
import Derived.Test.YthgnpepchedpbaaGreatLk3
import Derived.Test.YthgnpepchedpbaaGreatLp7
set_option linter.unusedVariables false
set_option linter.unusedSimpArgs false
namespace Go.Sx
open Go.Proofs
set_option maxRecDepth 100000

/-- All rings of a room are of a size that can be copied. -/
def GRoom.small (x : GRoom) : Prop := x.Early.Samples.length ≤ 1048576 ∧ x.Taps.length ≤ 1048576 ∧ (∀ c ∈ x.Combs, c.Ring.Samples.length ≤ 1048576) ∧ ∀ r ∈ x.Loops, r.Samples.length ≤ 1048576
theorem flat_Tap : Flat rTap := flat_via (flat_seq (flat_I _) (flat_F _))
section
variable {h : Heap} {q : Addr}
theorem l06CopyComb_c {c : GComb} (R : RdP rComb h q c) (hl : c.Ring.Samples.length ≤ 1048576) : CALL prg f_spec_l06CopyComb #[.pointer (some q)] (fun u h' => NewR rComb h h' u c) h := by
  refine spec_l06CopyComb.call ((Mem.start h).alc fun g1 h1 x1 M => ?_)
  have R1 := R.ext x1
  refine R1.oF fun y hy => NewR.go (Mem.start h1) (l02Copy_c (R1.fst foc_Comb_Ring) hl) fun h2 cs B N O hs => as_a (R1.pinO (by decide) N.ext ⟨hs, ?_⟩)
  obtain ⟨B1, O1, c1⟩ := ow_splice zow_Comb foc_Comb_Ring rfl O
  obtain ⟨B2, O2, c2⟩ := ow_set O1 foc_Comb_Gain rfl ⟨rfl, y, rfl, hy⟩
  have M := (M.join N).cnt (W := (g1, T_impl_Comb, ⟨Z_impl_Comb⟩) :: B2) (fun p => by have := c1 p; have := c2 p; simp only [cnt_app, cnt_cons, cnt_nil] at *; omega)
  refine M.sta0 .here (osz (cs := ⟨_⟩) O2 rfl) (rComb.oone O2) rfl .here fun h3 M => M.lda0 .here (osz (cs := ⟨_⟩) O2 rfl) ?_
  exact ⟨_, B2, rfl, O2, M.drop⟩
def rings0 (x : GRoom) (n : Nat) : List GRing := x.Loops.take n ++ List.replicate (4 - n) z_Ring
def roomN (x : GRoom) (n : Nat) : GRoom := { x with Loops := rings0 x n }
theorem rings0_step {x : GRoom} (hl : x.Loops.length = 4) {n : Nat} (hn : n < 4) : (rings0 x n).set n x.Loops[n]! = rings0 x (n + 1) := by
  unfold rings0
  rw [getElem!_pos x.Loops n (by omega)]
  exact copy_step hl hn
theorem foc_comb (i : Nat) (hi : i < 2) : Foc rRoom rComb (3 + i * 3) (fun a => a.Combs[i]!) (fun a b => { a with Combs := a.Combs.set i b }) := (foc_Room_Combs.trans (Foc.arr rComb i hi)).at rfl
theorem foc_loop (i : Nat) (hi : i < 4) : Foc rRoom rRing (9 + i * 2) (fun a => a.Loops[i]!) (fun a b => { a with Loops := a.Loops.set i b }) := (foc_Room_Loops.trans (Foc.arr rRing i hi)).at rfl
theorem combs_set {x : GRoom} (h : x.Combs.length = 2) (z : GComb) : ([z, z].set 0 x.Combs[0]!).set 1 x.Combs[1]! = x.Combs := by
  match x.Combs, h with
  | [a, b], _ => rfl
/-- What copies its parts into y, and y to where it is asked. -/
theorem copy_loops {x : GRoom} {hh : Heap} {g1 gy : Nat} (R : RdP rRoom h q x) (hs : x.small) (P : Pt rRoom h hh ⟨gy, 0, none⟩ ⟨gy, T_impl_Room, [], []⟩ [(g1, T_impl_Room, ⟨Z_impl_Room⟩)] (roomN x 0)) :
    LOOP (spec_l06Copy.B5 fun u h' => NewR rRoom h h' u x) (q, ⟨g1, 0, none⟩, ⟨gy, 0, none⟩, 0) hh := by
  have hL : x.Loops.length = 4 := (R.foc foc_Room_Loops).len
  refine loop (fun y hh => ∃ n : Nat, y = (q, ⟨g1, 0, none⟩, ⟨gy, 0, none⟩, (n : Int)) ∧ n ≤ 4 ∧ Pt rRoom h hh ⟨gy, 0, none⟩ ⟨gy, T_impl_Room, [], []⟩ [(g1, T_impl_Room, ⟨Z_impl_Room⟩)] (roomN x n)) (fun y => (4 - y.2.2.2).toNat) ⟨0, rfl, by omega, P⟩ ?_
  rintro y hh ⟨n, rfl, hn, P⟩
  refine brd (fun hc => ?_) fun hc => ?_
  · have Ra := ((R.ext P.ext).foc foc_Room_Loops).elem (i := n) (by omega)
    refine idx (by omega) (by omega) (NewR.pt P (l02Copy_c Ra (hs.2.2.2 _ (by rw [getElem!_pos _ n (by omega)]; exact List.getElem_mem _))) fun h' cs B P O ho => as_a (idx (by omega) (by omega) ?_))
    rw [add_add', Int.toNat_natCast]
    refine P.sts (foc_loop n (by omega)) rfl O fun h'' P => ⟨⟨n + 1, by rw [wrap64_succ (by omega)], by omega, ?_⟩, by rw [wrap64_succ (by omega)]; show _ < _; simp; omega⟩
    have e : (rings0 x n).set n x.Loops[n]! = rings0 x (n + 1) := rings0_step hL (by omega)
    have P : Pt rRoom h h'' ⟨gy, 0, none⟩ ⟨gy, T_impl_Room, [], []⟩ [(g1, T_impl_Room, ⟨Z_impl_Room⟩)] { x with Loops := (rings0 x n).set n x.Loops[n]! } := P
    rw [e] at P
    exact P
  · obtain rfl : n = 4 := by omega
    have e : roomN x 4 = x := by unfold roomN rings0; rw [← hL, List.take_length, hL]; simp
    rw [e] at P
    obtain ⟨cs, B, M, O⟩ := P.out
    refine M.lda0 .here (osz O rfl) ?_
    have M := M.cnt (W := (g1, T_impl_Room, ⟨Z_impl_Room⟩) :: B) (fun p => by simp only [cnt_app, cnt_cons, cnt_nil] at *; omega)
    refine M.sta0 .here (osz O rfl) (rRoom.oone O) rfl .here fun h3 M => M.lda0 .here (osz O rfl) ?_
    exact ⟨_, B, rfl, O, M.drop⟩
theorem l06Copy_c {x : GRoom} (R : RdP rRoom h q x) (hs : x.small) : CALL prg f_spec_l06Copy #[.pointer (some q)] (fun u h' => NewR rRoom h h' u x) h := by
  refine spec_l06Copy.call ((Mem.start h).alc fun g1 h2 x2 M0 => ?_)
  have R2 := R.ext x2
  have hC : x.Combs.length = 2 := combs2 R
  have hL : x.Loops.length = 4 := (R.foc foc_Room_Loops).len
  refine R2.oL fun bt lt ct ST => R2.lda foc_Room_Damps rfl fun cD RD => R2.lda foc_Room_Gains rfl fun cG RG => R2.oF fun y hy => R2.oF fun z hz => ?_
  have hlt := ST.len
  have sD : cD.size = 24 := rsz RD rfl
  have sG : cG.size = 4 := rsz RG rfl
  have RE := R2.fst foc_Room_Early
  have hE := hs.1
  have hT : lt * 16 ≤ 140737488355328 := by have := hs.2.1; omega
  have fD : (rArr 4 rFilter).ow [] cD.toList x.Damps := flat_arr 4 (flat_via (flat_seq (flat_I _) (flat_seq (flat_arr 3 (flat_F _)) (flat_arr 2 (flat_F _))))) _ _ _ RD
  have fG : (rArr 4 (rF .f32)).ow [] cG.toList x.Gains := flat_arr 4 (flat_F _) _ _ _ RG
  have j2 : ∀ {hh : Heap} {gy : Nat}, Pt rRoom h hh ⟨gy, 0, none⟩ ⟨gy, T_impl_Room, [], []⟩ [(g1, T_impl_Room, ⟨Z_impl_Room⟩)] { x with Combs := [z_Comb, z_Comb], Loops := rings0 x 0 } → spec_l06Copy.J2 (fun u h' => NewR rRoom h h' u x) q ⟨g1, 0, none⟩ ⟨gy, 0, none⟩ hh := by
    intro hh gy P
    have C0 := ((R.foc foc_Room_Combs).elem (i := 0) (by decide))
    have C1 := ((R.foc foc_Room_Combs).elem (i := 1) (by decide))
    simp only [add_add', sz_Comb, Nat.reduceMul, Nat.reduceAdd] at C0 C1
    have s0 := hs.2.2.1 x.Combs[0]! (by rw [getElem!_pos _ 0 (by omega)]; exact List.getElem_mem _)
    have s1 := hs.2.2.1 x.Combs[1]! (by rw [getElem!_pos _ 1 (by omega)]; exact List.getElem_mem _)
    refine idx (by omega) (by omega) (NewR.pt P (l06CopyComb_c (C0.ext P.ext) s0) fun h3 cs B P O ho => as_a (idx (by omega) (by omega) (P.sts (foc_comb 0 (by decide)) rfl O fun h4 P => ?_)))
    refine idx (by omega) (by omega) (NewR.pt P (l06CopyComb_c (C1.ext P.ext) s1) fun h5 cs B P O ho => as_a (idx (by omega) (by omega) (P.sts (foc_comb 1 (by decide)) rfl O fun h6 P => ?_)))
    have P : Pt rRoom h h6 ⟨gy, 0, none⟩ ⟨gy, T_impl_Room, [], []⟩ [(g1, T_impl_Room, ⟨Z_impl_Room⟩)] { x with Combs := ([z_Comb, z_Comb].set 0 x.Combs[0]!).set 1 x.Combs[1]!, Loops := rings0 x 0 } := P
    rw [combs_set hC] at P
    exact copy_loops R hs P
  have key : ∀ {hh : Heap} {gy : Nat} {BE BT : List Blk} {cE : Array Value} {b : Option Addr} {l c : Nat}, rRing.ow BE cE.toList x.Early → SlO T_impl_Tap rTap BT b l c x.Taps → Mem h2 hh ((gy, T_impl_Room, ⟨Z_impl_Room⟩) :: (BE ++ BT)) →
      STA 47 hh ⟨gy, 0, none⟩ ⟨(List.set (List.set (splice 41 4 cG (splice 17 24 cD (List.set (splice 0 2 cE [.slice none 0 0, .int .i64 (0 : Int), .slice none 0 0, .slice none 0 0, .int .i64 (0 : Int), .float .f32 0, .slice none 0 0, .int .i64 (0 : Int), .float .f32 0, .slice none 0 0, .int .i64 (0 : Int), .slice none 0 0, .int .i64 (0 : Int), .slice none 0 0, .int .i64 (0 : Int), .slice none 0 0, .int .i64 (0 : Int), .int .i64 (0 : Int), .float .f32 0, .float .f32 0, .float .f32 0, .float .f32 0, .float .f32 0, .int .i64 (0 : Int), .float .f32 0, .float .f32 0, .float .f32 0, .float .f32 0, .float .f32 0, .int .i64 (0 : Int), .float .f32 0, .float .f32 0, .float .f32 0, .float .f32 0, .float .f32 0, .int .i64 (0 : Int), .float .f32 0, .float .f32 0, .float .f32 0, .float .f32 0, .float .f32 0, .float .f32 0, .float .f32 0, .float .f32 0, .float .f32 0, .float .f32 0, .float .f32 0]) 2 (.slice b l c)))) 45 (.float .f32 y)) 46 (.float .f32 z))⟩ (fun h18 => spec_l06Copy.J2 (fun u h' => NewR rRoom h h' u x) q ⟨g1, 0, none⟩ ⟨gy, 0, none⟩ h18) := by
    intro hh gy BE BT cE b l c OE OT N
    obtain ⟨B1, O1, c1⟩ := ow_splice zow_Room foc_Room_Early rfl OE
    obtain ⟨B2, O2, c2⟩ := ow_set O1 foc_Room_Taps rfl ⟨b, l, c, rfl, OT⟩
    obtain ⟨B3, O3, c3⟩ := ow_splice O2 foc_Room_Damps rfl fD
    obtain ⟨B4, O4, c4⟩ := ow_splice O3 foc_Room_Gains rfl fG
    obtain ⟨B5, O5, c5⟩ := ow_set O4 foc_Room_Dry rfl ⟨rfl, y, rfl, hy⟩
    obtain ⟨B6, O6, c6⟩ := ow_set O5 foc_Room_Wet rfl ⟨rfl, z, rfl, hz⟩
    have M := (M0.join N).cnt (W := (gy, T_impl_Room, ⟨Z_impl_Room⟩) :: (B6 ++ [(g1, T_impl_Room, ⟨Z_impl_Room⟩)])) (fun p => by have := c1 p; have := c2 p; have := c3 p; have := c4 p; have := c5 p; have := c6 p; simp only [cnt_app, cnt_cons, cnt_nil] at *; omega)
    refine M.sta0 .here (osz (cs := ⟨_⟩) O6 rfl) (rRoom.oone O6) rfl .here fun h3 M => j2 ?_
    exact Pt.new (r := rRoom) (a := { x with Combs := [z_Comb, z_Comb], Loops := rings0 x 0 }) O6 M
  have nil := Mem.start h2
  (repeat' (first
    | refine RdP.pinO R2 (by decide) (Mem.ext (by assumption)) ?_
    | refine siz (by assumption) ?_
    | refine as_a ?_
    | refine as_l ?_
    | refine NewR.go (by assumption) (l02Copy_c (RdP.ext (Mem.ext (by assumption)) RE) hE) fun _ _ _ _ _ _ => ?_
    | refine Mem.alc (by assumption) fun _ _ _ _ => ?_
    | refine append_copyM E_sl_impl_Tap tap_sz flat_Tap ST (by assumption) (by repeat (first | exact Pick.here | apply Pick.there | apply Pick.skip)) hT fun _ _ _ _ _ _ => ?_
    | exact key (by assumption) (by assumption) (Mem.cnt (by assumption) (fun p => by simp only [cnt_app, cnt_cons, cnt_nil] at *; omega))
    | refine And.intro ?_ ?_))
end
end Go.Sx
/- What several structs' contracts have in common: slices of floats made, pairs answered, lists changed place by place. -/
set_option linter.unusedVariables false
set_option linter.unusedSimpArgs false
namespace Go.Sx
open Go.Proofs
set_option maxRecDepth 100000

section
variable {h : Heap} {q : Addr}
theorem slr_none {α : Type} {r : Rep α} {l c : Nat} {xs : List α} (hz : 0 < r.sz) (S : SlR r h none l c xs) : l = 0 ∧ xs = [] := by
  obtain ⟨h1, h2, h3, ws, C, R⟩ := S
  have hw : ws = [] := by
    cases ws with
    | nil => rfl
    | cons w ws => obtain ⟨a, e, _⟩ := C 0 (by simp); cases e
  subst hw
  have hx : xs.length * r.sz = 0 := by rw [← R.len]; rfl
  rcases Nat.mul_eq_zero.1 hx with h | h
  · exact ⟨by omega, List.eq_nil_of_length_eq_zero h⟩
  · omega
theorem drop_cons {α : Type} [Inhabited α] {l : List α} {n : Nat} (h : n < l.length) : l.drop n = l[n]! :: l.drop (n + 1) := by
  rw [List.drop_eq_getElem_cons h, getElem!_pos l n h]
theorem take_snoc {α : Type} [Inhabited α] {l : List α} {n : Nat} (h : n < l.length) : l.take (n + 1) = l.take n ++ [l[n]!] := by
  rw [List.take_succ_eq_append_getElem h, getElem!_pos l n h]
theorem zeros_fl (n : Nat) : ows (rF .f32) [] (List.replicate n (.float .f32 0)) (List.replicate n 0) := by
  induction n with
  | zero => exact ⟨rfl, rfl⟩
  | succ n ih => exact ⟨[], [], [.float .f32 0], List.replicate n (.float .f32 0), rfl, rfl, ⟨rfl, 0, rfl, fw0⟩, ih⟩
/-- A slice of zeros, made. -/
theorem make_floats {h0 : Heap} {L : List Blk} {n : Nat} {F : Nat → Heap → Prop} (M : Mem h0 h L) (hn : n ≤ 1048576)
    (H : ∀ g h', Ext h h' → Mem h0 h' ((g, T_float32, ⟨List.replicate n (.float .f32 0)⟩) :: L) → SlO T_float32 (rF .f32) [(g, T_float32, ⟨List.replicate n (.float .f32 0)⟩)] (some ⟨g, 0, none⟩) n n (List.replicate n 0) → F g h') : MKS ti_float32 T_float32 (n : Int) (n : Int) F h := by
  refine mks1 M rfl rfl (by show 4 * n ≤ 2 ^ 48; omega) (by omega) fun g h' x' M' => H g h' x' M' ?_
  have : n ≤ maxLen := by
    have : (1048576 : Nat) ≤ maxLen := by decide
    omega
  exact ⟨by simp, List.replicate n (.float .f32 0), [_], [], rfl, ⟨by rw [List.length_replicate, show (rF .f32).sz = 1 from rfl, Nat.mul_one], .inr ⟨g, _, rfl, rfl, Nat.le_refl _, this, by rw [List.size_toArray, List.length_replicate, show (rF .f32).sz = 1 from rfl, Nat.mul_one], by
    rw [List.take_of_length_le]
    show (List.replicate n (Value.float .f32 0)).length ≤ n * 1
    simp⟩⟩, zeros_fl n⟩
end
/-- A pair of a value and a code, told by a call. -/
def PairR {α : Type} (r : Rep α) (h h' : Heap) (u : Value) (a : α) (code : Int) : Prop := ∃ cs B, u = .tuple ⟨[.agg cs, .int .i64 code]⟩ ∧ r.ow B cs.toList a ∧ Mem h h' B
section
variable {α β : Type} {r : Rep α} {h0 h : Heap} {q : Addr} {F : Fr} {L : List Blk} {a : α} {off : Nat}
theorem Pt.sts0 {p : Rep β} {get : α → β} {put : α → β → α} {b : β} {n : Nat} {vs : Array Value} {B' : List Blk} {K : Heap → Prop} (P : Pt r h0 h q F (B' ++ L) a) (Fc : Foc r p 0 get put) (hp : p.sz = n) (O : p.ow B' vs.toList b)
    (H : ∀ h', Pt r h0 h' q F L (put a b) → K h') : STA n h q vs K := by
  have := P.sts Fc hp O H
  rwa [add0] at this
end
/-- Pointers. -/
def rP : Rep Addr := rOne (fun a => .pointer (some a)) fun _ => rfl
theorem RdP.oP1 {h : Heap} {q a : Addr} {K : Addr → Prop} (R : RdP rP h q a) (H : K a) : Sx.oP (Sx.cell h q) K := by
  obtain ⟨vs, h1, e⟩ := R
  have := h1 0 (.pointer (some a)) (by rw [show vs = [.pointer (some a)] from e]; rfl)
  rw [add0] at this
  rw [this]; exact H
theorem is2 {α : Type} {l : List α} (h : l.length = 2) : ∃ a b, l = [a, b] := by
  match l, h with
  | [a, b], _ => exact ⟨a, b, rfl⟩
theorem is4 {α : Type} {l : List α} (h : l.length = 4) : ∃ a b c d, l = [a, b, c, d] := by
  match l, h with
  | [a, b, c, d], _ => exact ⟨a, b, c, d, rfl⟩
/-- A list of which the first n elements have been changed. -/
def mapN {α : Type} (f : α → α) (l : List α) (n : Nat) : List α := (l.take n).map f ++ l.drop n
section
variable {α : Type} {f : α → α} {l : List α} {n : Nat}
theorem mapN_zero : mapN f l 0 = l := by simp [mapN]
theorem mapN_all (h : n = l.length) : mapN f l n = l.map f := by subst h; simp [mapN]
theorem mapN_len : (mapN f l n).length = l.length := by simp only [mapN, List.length_append, List.length_map, List.length_take, List.length_drop]; omega
theorem mapN_get [Inhabited α] (hn : n < l.length) : (mapN f l n)[n]! = l[n]! := by
  rw [getElem!_pos _ n (by rw [mapN_len]; exact hn), getElem!_pos l n hn]
  unfold mapN
  have hl : ((l.take n).map f).length = n := by rw [List.length_map, List.length_take]; omega
  rw [List.getElem_append_right (by omega)]
  simp only [hl, Nat.sub_self, List.getElem_drop, Nat.add_zero]
theorem mapN_step [Inhabited α] (hn : n < l.length) : (mapN f l n).set n (f l[n]!) = mapN f l (n + 1) := by
  unfold mapN
  have hl : ((l.take n).map f).length = n := by rw [List.length_map, List.length_take]; omega
  rw [List.set_append_right _ _ (by omega), hl, Nat.sub_self, drop_cons hn, List.set_cons_zero, take_snoc hn, List.map_append]
  simp
end
/-- A list of which the first n elements have been made anew. -/
def mapI {α : Type} [Inhabited α] (f : Nat → α) (l : List α) (n : Nat) : List α := (List.range l.length).map fun i => if i < n then f i else l[i]!
section
variable {α : Type} [Inhabited α] {f : Nat → α} {l : List α} {n i : Nat}
theorem mapI_len : (mapI f l n).length = l.length := by simp [mapI]
theorem mapI_get? (hi : i < l.length) : (mapI f l n)[i]? = some (if i < n then f i else l[i]!) := by
  unfold mapI
  rw [List.getElem?_map, List.getElem?_range hi]; rfl
theorem mapI_get (hi : i < l.length) : (mapI f l n)[i]! = if i < n then f i else l[i]! := by
  rw [List.getElem!_eq_getElem?_getD, mapI_get? hi]; rfl
theorem mapI_ge (hi : i < l.length) (h : n ≤ i) : (mapI f l n)[i]! = l[i]! := by rw [mapI_get hi, if_neg (by omega)]
theorem mapI_lt (hi : i < l.length) (h : i < n) : (mapI f l n)[i]! = f i := by rw [mapI_get hi, if_pos h]
theorem mapI_zero : mapI f l 0 = l := by
  apply List.ext_getElem?
  intro i
  by_cases hi : i < l.length
  · rw [mapI_get? hi, if_neg (by omega), getElem!_pos l i hi, List.getElem?_eq_getElem hi]
  · rw [List.getElem?_eq_none (by rw [mapI_len]; omega), List.getElem?_eq_none (by omega)]
theorem mapI_all (h : l.length ≤ n) : mapI f l n = (List.range l.length).map f := by
  unfold mapI
  refine List.map_congr_left fun i hi => ?_
  rw [if_pos (by have := List.mem_range.1 hi; omega)]
theorem mapI_set (hn : n < l.length) : (mapI f l n).set n (f n) = mapI f l (n + 1) := by
  apply List.ext_getElem?
  intro i
  by_cases hi : i < l.length
  · rw [mapI_get? hi, List.getElem?_set]
    by_cases e : n = i
    · subst e
      rw [if_pos rfl, if_pos (by rw [mapI_len]; exact hn), if_pos (by omega)]
    · rw [if_neg e, mapI_get? hi]
      congr 1
      by_cases h : i < n
      · rw [if_pos h, if_pos (by omega)]
      · rw [if_neg h, if_neg (by omega)]
  · rw [List.getElem?_eq_none (by rw [List.length_set, mapI_len]; omega), List.getElem?_eq_none (by rw [mapI_len]; omega)]
end
theorem push_ok {r : GRing} {a : Nat} (h : r.ok = true) : (r.push a).ok = true ∧ (r.push a).len = r.len := by
  have k := at_lt h
  have e : (r.push a).len = r.len := by simp [GRing.push, GRing.len]
  refine ⟨?_, e⟩
  have hl : r.len = r.Samples.length := rfl
  have h1 : (r.push a).At = (r.At + 1) % r.len := rfl
  have h2 := Int.emod_nonneg (r.At + 1) (show r.len ≠ 0 by omega)
  have h3 := Int.emod_lt_of_pos (r.At + 1) (show 0 < r.len by omega)
  unfold GRing.ok inR
  rw [e, h1]
  simp only [Bool.and_eq_true, decide_eq_true_eq]
  omega
theorem mem_get {α : Type} [Inhabited α] {l : List α} {i : Nat} (h : i < l.length) : l[i]! ∈ l := by rw [getElem!_pos l i h]; exact List.getElem_mem h
end Go.Sx
