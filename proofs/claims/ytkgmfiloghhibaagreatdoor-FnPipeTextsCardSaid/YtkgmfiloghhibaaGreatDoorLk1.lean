/- Rings and filters in the program: what the functions compute. -/
import Derived.Test.YtkgmfiloghhibaaGreatDoorTabE
import Derived.Test.YtkgmfiloghhibaaGreatDoorLp5
import Derived.Test.YtkgmfiloghhibaaGreatDoorK1
set_option linter.unusedVariables false
set_option linter.unusedSimpArgs false
namespace Go.Sx
open Go.Proofs
set_option maxRecDepth 100000

theorem maxLen_lt : (maxLen : Nat) < 9223372036854775808 := by decide
theorem ring_ok {r : GRing} {l : Nat} (hl : r.Samples.length = l) : r.ok = (inR (l : Int) 1 1024 && inR r.At 0 ((l : Int) - 1)) := by simp [GRing.ok, GRing.len, hl]
theorem l02Ring_c {h : Heap} {q : Addr} {r : GRing} (R : RdP rRing h q r) : CALL prg f_spec_l02Ring #[.pointer (some q)] (fun u h' => u = .bool r.ok ∧ Ext h h') h := by
  refine spec_l02Ring.call (R.oL1 fun b l c S => ?_)
  have hm := S.2.1
  have hm2 := S.2.2.1
  have := maxLen_lt
  rw [wrap64 (n := (l : Int) - 1) (by omega) (by omega)]
  refine (l00In_c _ _ _).go fun h1 x1 => as_b (br (fun hb => ?_) fun hb => ⟨by rw [ring_ok S.len, hb]; rfl, x1⟩)
  refine (R.ext x1).oI ?_
  exact (l00In_c _ _ _).go fun h2 x2 => as_b ⟨by rw [ring_ok S.len, hb]; rfl, x1.trans x2⟩
theorem ValidRing_c {h : Heap} {cs : Array Value} {r : GRing} (R : rRing.rd h cs.toList r) : CALL prg f_impl_ValidRing #[.agg cs] (fun u h' => u = .bool r.ok ∧ Ext h h') h := by
  refine impl_ValidRing.call (alcR R fun g h1 x1 R1 => R1.oL2 fun b l c S => ?_)
  have hm := S.2.1
  have hm2 := S.2.2.1
  have := maxLen_lt
  refine (length_f32_c _ _ _).go fun h2 x2 => as_i ((within_c _ _ _).go fun h3 x3 => as_b ?_)
  have R3 := R1.ext (x2.trans x3)
  refine br (fun hb => ?_) fun hb => ⟨by rw [ring_ok S.len, hb]; rfl, (x1.trans x2).trans x3⟩
  refine R3.oI2 (R3.oL2 fun b' l' c' S' => ?_)
  have hm3 := S'.2.1
  have hm4 := S'.2.2.1
  refine (length_f32_c _ _ _).go fun h4 x4 => as_i ?_
  refine (R3.foc0 foc_Ring_At).pin rfl x4 ?_
  rw [wrap64 (n := (l' : Int) - 1) (by omega) (by omega)]
  refine (within_c _ _ _).go fun h5 x5 => as_b ⟨?_, (((x1.trans x2).trans x3).trans x4).trans x5⟩
  rw [ring_ok S.len, hb, show l' = l by rw [← S.len, ← S'.len]]; rfl
theorem l04All_c {h : Heap} {b : Option Addr} {l c : Nat} {xs : List Nat} (S : SlR (rF .f32) h b l c xs) : CALL prg f_spec_l04All #[.slice b l c] (fun u h' => u = .bool (allFin xs) ∧ Ext h h') h := by
  refine spec_l04All.call ?_
  have hm2 := S.2.2.1
  have hm3 := S.2.1
  have := maxLen_lt
  have hl := S.len
  refine loop (fun x hh => ∃ n : Nat, x = (b, l, c, (n : Int)) ∧ n ≤ l ∧ Ext h hh ∧ ∀ i, i < n → fin xs[i]! = true) (fun x => (l - x.2.2.2).toNat) ⟨0, rfl, by omega, Ext.refl _, fun i hi => by omega⟩ ?_
  rintro x hh ⟨n, rfl, hn, X, hf⟩
  refine brd (fun hc => ?_) fun hc => ?_
  · refine (S.ext X).idx (by decide) (by omega) (by omega) fun a Ra => Ra.oF1 fun y hy => ?_
    refine (l01Finite_c hy).go fun h1 x1 => as_b (br (fun hb => ?_) fun hb => ?_)
    · refine ⟨?_, X.trans x1⟩
      rw [allFin, all_range, all_false (i := n) (by omega) (by simpa using hb)]
    · refine ⟨⟨n + 1, by rw [wrap64_succ (by omega)], by omega, X.trans x1, fun i hi => ?_⟩, by rw [wrap64_succ (by omega)]; show _ < _; simp; omega⟩
      by_cases e : i = n
      · subst e; simpa using hb
      · exact hf i (by omega)
  · refine ⟨?_, X⟩
    rw [allFin, all_range, all_true fun i hi => hf i (by omega)]
/-- Where the first element is of which p holds; -1: nowhere. -/
def firstAt {α : Type} (p : α → Bool) (l : List α) : Int := if l.any p then (l.findIdx p : Nat) else -1
theorem firstAt_none {α : Type} [Inhabited α] {p : α → Bool} {l : List α} (h : ∀ i, i < l.length → p l[i]! = false) : firstAt p l = -1 := by
  unfold firstAt
  rw [if_neg]
  rw [Bool.not_eq_true, List.any_eq_false]
  intro x hx
  obtain ⟨i, hi, rfl⟩ := List.mem_iff_getElem.1 hx
  have := h i hi
  rw [getElem!_pos l i hi] at this
  rw [this]; decide
theorem firstAt_some {α : Type} [Inhabited α] {p : α → Bool} {l : List α} {n : Nat} (hn : n < l.length) (h : ∀ i, i < n → p l[i]! = false) (hp : p l[n]! = true) : firstAt p l = n := by
  unfold firstAt
  rw [getElem!_pos l n hn] at hp
  rw [if_pos (List.any_eq_true.2 ⟨_, List.getElem_mem hn, hp⟩)]
  congr 1
  rw [List.findIdx_eq hn]
  refine ⟨hp, fun j hj => ?_⟩
  have := h j hj
  rw [getElem!_pos l j (by omega)] at this
  simpa using this
theorem firstAt_any {α : Type} (p : α → Bool) (l : List α) : decide (0 ≤ firstAt p l) = l.any p := by
  unfold firstAt
  split
  · next h => rw [h]; exact decide_eq_true (by omega)
  · next h => rw [Bool.not_eq_true] at h; rw [h]; rfl
/-- A function value that tells of each float whether p holds. -/
def Tells (P : Program) (f : Value) (p : Nat → Bool) : Prop := ∀ x a h, FW .f32 x a → CALLD P f #[.float .f32 x] (fun u h' => u = .bool (p a) ∧ Ext h h') h
theorem CALLD.mono {P : Program} {f : Value} {args : Array Value} {K K' : Value → Heap → Prop} {h : Heap} (hk : ∀ v h, K v h → K' v h) (H : CALLD P f args K h) : CALLD P f args K' h := by
  unfold CALLD at H ⊢
  split at H
  · exact CALL.mono hk H
  · exact SEMN.mono hk H
theorem IndexFunc_f32_c {h : Heap} {b : Option Addr} {l c : Nat} {xs : List Nat} {f : Value} {p : Nat → Bool} (S : SlR (rF .f32) h b l c xs) (T : Tells prg f p) :
    CALL prg f_slices_IndexFunc_sl_float32_float32 #[.slice b l c, f] (fun u h' => u = .int .i64 (firstAt p xs) ∧ Ext h h') h := by
  refine slices_IndexFunc_sl_float32_float32.call ?_
  have hm2 := S.2.2.1
  have hm3 := S.2.1
  have := maxLen_lt
  have hl := S.len
  refine loop (fun x hh => ∃ n : Nat, x = (b, l, c, f, (l : Int), (n : Int)) ∧ n ≤ l ∧ Ext h hh ∧ ∀ i, i < n → p xs[i]! = false) (fun x => (l - x.2.2.2.2.2).toNat) ⟨0, rfl, by omega, Ext.refl _, fun i hi => by omega⟩ ?_
  rintro x hh ⟨n, rfl, hn, X, hf⟩
  refine brd (fun hc => ?_) fun hc => ?_
  · refine (S.ext X).idx (by decide) (by omega) (by omega) fun a Ra => Ra.oF1 fun y hy => ?_
    refine (T _ _ _ hy).mono fun u h1 ⟨e, x1⟩ => ?_
    subst e
    refine as_b (br (fun hb => ?_) fun hb => ?_)
    · exact ⟨by rw [firstAt_some (by omega) hf (by simpa using hb)], X.trans x1⟩
    · refine ⟨⟨n + 1, by rw [wrap64_succ (by omega)], by omega, X.trans x1, fun i hi => ?_⟩, by rw [wrap64_succ (by omega)]; show _ < _; simp; omega⟩
      by_cases e : i = n
      · subst e; simpa using hb
      · exact hf i (by omega)
  · exact ⟨by rw [firstAt_none fun i hi => hf i (by omega)], X⟩
theorem ContainsFunc_f32_c {h : Heap} {b : Option Addr} {l c : Nat} {xs : List Nat} {f : Value} {p : Nat → Bool} (S : SlR (rF .f32) h b l c xs) (T : Tells prg f p) :
    CALL prg f_slices_ContainsFunc_sl_float32_float32 #[.slice b l c, f] (fun u h' => u = .bool (xs.any p) ∧ Ext h h') h := by
  refine slices_ContainsFunc_sl_float32_float32.call ((IndexFunc_f32_c S T).mono fun u h1 ⟨e, x1⟩ => ?_)
  subst e
  exact as_i ⟨by rw [firstAt_any], x1⟩
theorem areFinite_tells : Tells prg (.func (.func f_impl_areFinite_c1) #[] #[]) fun a => !fin a := fun x a h hx => by
  show CALL prg f_impl_areFinite_c1 #[.float .f32 x] _ h
  exact impl_areFinite_c1.call ((isFinite_c hx).go fun h1 x1 => as_b ⟨rfl, x1⟩)
theorem any_not {α : Type} (p : α → Bool) (l : List α) : (!l.any fun a => !p a) = l.all p := by
  induction l with
  | nil => rfl
  | cons a l ih => simp only [List.any_cons, List.all_cons, Bool.not_or, Bool.not_not]; rw [ih]
theorem areFinite_c {h : Heap} {b : Option Addr} {l c : Nat} {xs : List Nat} (S : SlR (rF .f32) h b l c xs) : CALL prg f_impl_areFinite #[.slice b l c] (fun u h' => u = .bool (allFin xs) ∧ Ext h h') h := by
  refine impl_areFinite.call ((ContainsFunc_f32_c S areFinite_tells).mono fun u h1 ⟨e, x1⟩ => ?_)
  subst e
  exact as_b ⟨by rw [any_not]; rfl, x1⟩
theorem isRing_c {h : Heap} {cs : Array Value} {r : GRing} (R : rRing.rd h cs.toList r) : CALL prg f_impl_isRing #[.agg cs] (fun u h' => u = .bool r.okf ∧ Ext h h') h := by
  refine impl_isRing.call (alcR R fun g h1 x1 R1 => R1.lda1 rfl fun cs' Rc => ?_)
  refine (ValidRing_c Rc).mono fun u h2 ⟨e, x2⟩ => ?_
  subst e
  refine as_b (br (fun hb => ?_) fun hb => ⟨by rw [GRing.okf, hb]; rfl, x1.trans x2⟩)
  refine (R1.ext x2).oL2 fun b l c S => (areFinite_c S).mono fun u h3 ⟨e, x3⟩ => ?_
  subst e
  exact as_b ⟨by rw [GRing.okf, hb]; rfl, (x1.trans x2).trans x3⟩
theorem ring_sz : 0 < rRing.sz := by decide
theorem l04Rings_c {h : Heap} {b : Option Addr} {l c : Nat} {rs : List GRing} (S : SlR rRing h b l c rs) : CALL prg f_spec_l04Rings #[.slice b l c] (fun u h' => u = .bool (rs.all GRing.okf) ∧ Ext h h') h := by
  refine spec_l04Rings.call ?_
  have hm2 := S.2.2.1
  have hm3 := S.2.1
  have := maxLen_lt
  have hl := S.len
  refine loop (fun x hh => ∃ n : Nat, x = (b, l, c, (n : Int)) ∧ n ≤ l ∧ Ext h hh ∧ ∀ i, i < n → rs[i]!.okf = true) (fun x => (l - x.2.2.2).toNat) ⟨0, rfl, by omega, Ext.refl _, fun i hi => by omega⟩ ?_
  rintro x hh ⟨n, rfl, hn, X, hf⟩
  refine brd (fun hc => ?_) fun hc => ?_
  · refine (S.ext X).idx ring_sz (by omega) (by omega) fun a Ra => ?_
    refine (l02Ring_c Ra).mono fun u h1 ⟨e, x1⟩ => ?_
    subst e
    have X1 := X.trans x1
    refine as_b (br (fun hb => ?_) fun hb => ?_)
    · refine ⟨?_, X1⟩
      rw [all_range, all_false (i := n) (by omega)]
      show (rs[n]!.ok && _) = false
      rw [show rs[n]!.ok = false by simpa using hb]; rfl
    refine (S.ext X1).idx ring_sz (by omega) (by omega) fun a Ra => Ra.oL1 fun b' l' c' S' => ?_
    refine (l04All_c S').mono fun u h2 ⟨e, x2⟩ => ?_
    subst e
    refine as_b (br (fun hb2 => ?_) fun hb2 => ?_)
    · refine ⟨?_, X1.trans x2⟩
      rw [all_range, all_false (i := n) (by omega)]
      show (rs[n]!.ok && allFin rs[n]!.Samples) = false
      rw [show allFin rs[n]!.Samples = false by simpa using hb2, Bool.and_false]
    · refine ⟨⟨n + 1, by rw [wrap64_succ (by omega)], by omega, X1.trans x2, fun i hi => ?_⟩, by rw [wrap64_succ (by omega)]; show _ < _; simp; omega⟩
      by_cases e : i = n
      · subst e
        show (rs[i]!.ok && allFin rs[i]!.Samples) = true
        rw [show rs[i]!.ok = true by simpa using hb, show allFin rs[i]!.Samples = true by simpa using hb2]; rfl
      · exact hf i (by omega)
  · refine ⟨?_, X⟩
    rw [all_range, all_true fun i hi => hf i (by omega)]
end Go.Sx
/- Rings copied and moved on; filters: what the functions compute. -/
set_option linter.unusedVariables false
set_option linter.unusedSimpArgs false
namespace Go.Sx
open Go.Proofs
set_option maxRecDepth 100000

theorem Clone_f32_c {h : Heap} {b : Option Addr} {l c : Nat} {xs : List Nat} (S : SlR (rF .f32) h b l c xs) (hl : l ≤ 1048576) :
    CALL prg f_slices_Clone_sl_float32_float32 #[.slice b l c] (fun u h' => ∃ b' c' B, u = .slice b' l c' ∧ SlO T_float32 (rF .f32) B b' l c' xs ∧ Mem h h' B) h := by
  refine slices_Clone_sl_float32_float32.call (cmp_nil U_sl_float32 (br (fun hb => ?_) fun hb => ?_))
  · obtain rfl : b = none := by simpa using hb
    obtain ⟨h1, h2, h3, ws, C, R⟩ := S
    have hw : ws = [] := by
      cases ws with
      | nil => rfl
      | cons w ws => obtain ⟨a, e, _⟩ := C 0 (by simp); cases e
    subst hw
    have hx := R.len
    have : l = 0 := by rw [← h1]; have e : (rF .f32).sz = 1 := rfl; rw [e] at hx; simpa using hx.symm
    subst this
    obtain rfl : xs = [] := List.eq_nil_of_length_eq_zero h1
    exact ⟨none, 0, [], rfl, SlO.nil, Mem.start h⟩
  · refine (Mem.start h).alc fun g h1 x1 M => ?_
    refine append_copy E_sl_float32 (by decide) (flat_F _) (S.ext x1) M (by omega) fun b' c' h' B' O' M' => as_l ⟨b', c', B', rfl, O', by simpa using M'⟩
theorem ow_ring {b : Option Addr} {l c : Nat} {B : List Blk} {r : GRing} (O : SlO T_float32 (rF .f32) B b l c r.Samples) : rRing.ow B [.slice b l c, .int .i64 r.At] r :=
  ⟨B, [], [.slice b l c], [.int .i64 r.At], by simp, rfl, ⟨b, l, c, rfl, O⟩, rfl, rfl⟩
theorem l02Copy_c {h : Heap} {q : Addr} {r : GRing} (R : RdP rRing h q r) (hl : r.Samples.length ≤ 1048576) : CALL prg f_spec_l02Copy #[.pointer (some q)] (fun u h' => NewR rRing h h' u r) h := by
  refine spec_l02Copy.call ((Mem.start h).alc fun g h1 x1 M => ?_)
  have R1 := R.ext x1
  refine R1.oL1 fun b l c S => R1.oI ?_
  have hls := S.len
  refine (Mem.start h1).alc fun g2 h2 x2 N => ?_
  refine (R1.foc foc_Ring_At).pin rfl x2 ((R1.fst foc_Ring_Samples).pin rfl x2 ?_)
  refine append_copy E_sl_float32 (by decide) (flat_F _) (S.ext x2) N (by omega) fun b' c' h3 B' O N => as_l ?_
  refine (R1.foc foc_Ring_At).pin rfl N.ext ?_
  have M := (M.join N).perm List.perm_append_comm
  rw [List.append_nil] at M
  refine M.sta0 .here rfl (all_one rfl) rfl .here fun h4 M => M.lda0 .here rfl ?_
  exact ⟨_, B', rfl, ow_ring O, M.sub (List.sublist_cons_self _ _)⟩
theorem Ring_clone_c {h : Heap} {cs : Array Value} {r : GRing} (R : rRing.rd h cs.toList r) (hl : r.Samples.length ≤ 1048576) : CALL prg f_impl_Ring_clone #[.agg cs] (fun u h' => NewR rRing h h' u r) h := by
  refine impl_Ring_clone.call ((Mem.start h).alc fun g h1 x1 M => M.alc fun g2 h2 x2 M => ?_)
  have R1 : RdP rRing h2 ⟨g, 0, none⟩ r := M.rdp (.there .here) (rRing.ext M.ext R)
  refine R1.oL2 fun b l c S => R1.oI2 ?_
  have hls := S.len
  refine (Clone_f32_c S (by omega)).mono ?_
  rintro _ h3 ⟨b', c', B', rfl, O, N⟩
  refine as_l ?_
  refine (R1.foc0 foc_Ring_At).pin rfl N.ext ?_
  have M := (M.join N).perm List.perm_append_comm
  refine M.sta0 .here rfl (all_one rfl) rfl .here fun h4 M => M.lda0 .here rfl ?_
  exact ⟨_, B', rfl, ow_ring O, M.sub ((List.sublist_cons_self _ _).trans (List.sublist_cons_self _ _))⟩
theorem at_lt {r : GRing} (h : r.ok = true) : 0 ≤ r.At ∧ r.At.toNat < r.Samples.length ∧ 1 ≤ r.Samples.length ∧ r.Samples.length ≤ 1024 ∧ r.At < r.Samples.length := by
  unfold GRing.ok inR GRing.len at h
  simp only [Bool.and_eq_true, decide_eq_true_eq] at h
  obtain ⟨⟨h1, h2⟩, h3, h4⟩ := h
  refine ⟨h3, ?_, ?_, ?_, ?_⟩ <;> omega
theorem tmod_push {r : GRing} (h : r.ok = true) {l : Nat} (hl : r.Samples.length = l) : Int.tmod (IntKind.i64.wrap (r.At + 1)) (l : Int) = (r.At + 1) % r.len := by
  have := at_lt h
  rw [wrap64 (by omega) (by omega), GRing.len, hl, Int.tmod_eq_emod_of_nonneg (by omega)]
theorem l02Push_c {h0 h : Heap} {q : Addr} {F : Fr} {L : List Blk} {r : GRing} {x a : Nat} (P : Pt rRing h0 h q F L r) (hr : r.ok = true) (hx : FW .f32 x a) :
    CALL prg f_spec_l02Push #[.pointer (some q), .float .f32 x] (fun u h' => (∃ y, u = .float .f32 y ∧ FW .f32 y r.old) ∧ Pt rRing h0 h' q F L (r.push a)) h := by
  obtain ⟨b, l, c, hb, S⟩ := P.hdr1
  obtain ⟨k1, k2, k3, k4, k5⟩ := at_lt hr
  have hl := S.len
  refine spec_l02Push.call (o_l hb (P.rd.oI (S.idx (by decide) k1 (by omega) fun p Rp => Rp.oF1 fun y hy => o_l hb (P.rd.oI ?_))))
  obtain ⟨a0, F', L', rfl, P', hs, close⟩ := P.elem1 hb (i := r.At.toNat) (by omega)
  refine idxs k1 (by omega) (P'.stF1 hx fun h1 P1 => ?_)
  obtain ⟨P2, hb2⟩ := close _ _ _ P1
  refine P2.rd.oI (o_l hb2 (nz (by omega) (P2.stI fun h2 P3 => ⟨⟨y, rfl, hy⟩, ?_⟩)))
  rw [tmod_push hr hl] at P3
  exact P3
end Go.Sx
