/- A pipe's step, as the program makes it. -/
import Derived.Test.YtkgmfiloghhibaaGreatDoorLk14
import Derived.Test.YtkgmfiloghhibaaGreatDoorLgn
import Derived.Test.YtkgmfiloghhibaaGreatDoorTab
import Derived.Test.YtkgmfiloghhibaaGreatDoorLm6
import Derived.Test.YtkgmfiloghhibaaGreatDoorLk10
import Derived.Test.YtkgmfiloghhibaaGreatDoorK2
set_option linter.unusedVariables false
set_option linter.unusedSimpArgs false
namespace Go.Sx
open Go.Proofs
set_option maxRecDepth 100000
set_option maxHeartbeats 1000000

section
variable {h0 h : Heap} {q : Addr} {F : Fr} {L : List Blk} {x : GPipe} {b : Nat}
theorem Pt.head {α β : Type} {r : Rep α} {e : Nat} {s : Rep β} {get : α → List β} {put : α → List β → α} {a : α} {off : Nat} (P : Pt r h0 h q F L a) [Fc : FocC r off (rSl e s) get put] : ∃ bb l c, cell h (q.add off) = some (.slice bb l c) ∧ SlR s h bb l c (get a) := P.hdr
end
end Go.Sx
/- What functions of this seat's program compute, told in words (a predicate over heaps for each), and the proofs that the words are no more than the code's own weakest precondition. -/
namespace Go.Sx
open Go.Proofs
set_option linter.unusedVariables false
set_option maxRecDepth 100000

def p_impl_Pipe_rings.B3 (Post : Value → Heap → Prop) (N3 : (Addr × Option Addr × Nat × Nat × Int × Int) → Heap → Prop) : Addr × Option Addr × Nat × Nat × Int × Int → Heap → Prop
  | (x_0, out_3b, out_3l, out_3c, t9, t10), h =>
    BIF (decide (t10 < t9)) (
    oL (cell h x_0) fun l4b l4l l4c =>
    IDXS l4b t10 l4l fun p5 =>
    oL (cell h (Addr.add x_0 1)) fun l6b l6l l6c =>
    IDXS l6b t10 l6l fun p7 =>
    ALC ⟨[.pointer (some ((Addr.add p5 ((Int.toNat t10) * 2)))), .pointer (some ((Addr.add p7 ((Int.toNat t10) * 2))))]⟩ T_p_impl_Ring (fun g8 h9 =>
    SEMV prg (Builtin.append_ #[T_sl_p_impl_Ring, T_sl_p_impl_Ring] T_sl_p_impl_Ring #[.slice out_3b out_3l out_3c, .slice (some ⟨g8, 0, none⟩) 2 2]) (fun q10 h11 =>
    asL q10 fun l12b l12l l12c =>
    N3 (x_0, l12b, l12l, l12c, t9, ((IntKind.i64.wrap (t10 + (1 : Int))))) h11) h9) h) (
    Post (.slice out_3b out_3l out_3c) h)
def p_impl_Pipe_rings.g3 (fr : Frame) : Addr × Option Addr × Nat × Nat × Int × Int := ((gP (lget fr 0)), (gLb (lget fr 3)), (gLl (lget fr 3)), (gLc (lget fr 3)), (gI (lget fr 9)), (gI (lget fr 10)))
def p_impl_Pipe_rings.l3 (Post : Value → Heap → Prop) : Frame → Heap → Prop := fun fr h => GRD (shape (kds 30 [(0, .p), (3, .l), (9, .i .i64), (10, .i .i64)]) fr) (LOOP (p_impl_Pipe_rings.B3 Post) (p_impl_Pipe_rings.g3 fr) h)
def p_impl_Pipe_rings.S (x_0 : Addr) (Post : Value → Heap → Prop) (h : Heap) : Prop :=
    oL (cell h x_0) fun l1b l1l l1c =>
    LOOP (p_impl_Pipe_rings.B3 Post) (x_0, none, 0, 0, (l1l : Int), (0 : Int)) h
noncomputable def p_impl_Pipe_rings.code : Code := (Tryz.f47.body).getD .skip
theorem p_impl_Pipe_rings.call {x_0 : Addr} {Post : Value → Heap → Prop} {h : Heap} (H : p_impl_Pipe_rings.S x_0 Post h) : CALL prg f_p_impl_Pipe_rings #[.pointer (some x_0)] Post h :=
  fn_call tau_ok mixed (c := p_impl_Pipe_rings.code) (Λ := lookL [(1000003, p_impl_Pipe_rings.l3 Post)]) Tryz.func47 (by kernel_rfl) (by kernel_rfl)
    (Rq.seq (by kernel_rfl) (Rq.free (by kernel_rfl)) (Rq.seq (by kernel_rfl) (Rq.free (by kernel_rfl)) (Rq.seq (by kernel_rfl) (Rq.seq (by kernel_rfl) (Rq.free (by kernel_rfl)) (Rq.block (Rq.loop (p_impl_Pipe_rings.l3 Post) (by kernel_rfl) (segL (g := p_impl_Pipe_rings.g3) tau_ok mixed (Λ := fun N3 => lookL []) (fun _ _ _ => by kernel_rfl) (fun N3 => (Rq.free (by kernel_rfl))))))) (Rq.free (by kernel_rfl)))))
    (Eq.mp (by kernel_rfl) H)

def slices_IndexFunc_sl_impl_Ring_impl_Ring.B2 (Post : Value → Heap → Prop) (N2 : (Option Addr × Nat × Nat × Value × Int × Int) → Heap → Prop) : Option Addr × Nat × Nat × Value × Int × Int → Heap → Prop
  | (s_0b, s_0l, s_0c, f_1, t7, t8), h =>
    BIF (decide (t8 < t7)) (
    IDXS s_0b t8 s_0l fun p3 =>
    oP (cell h ((Addr.add p3 ((Int.toNat t8) * 1)))) fun p4 =>
    CALLD prg f_1 #[.pointer (some p4)] (fun q5 h6 =>
    asB q5 fun b7 =>
    BIF b7 (
    Post (.int .i64 t8) h6) (
    N2 (s_0b, s_0l, s_0c, f_1, t7, ((IntKind.i64.wrap (t8 + (1 : Int))))) h6)) h) (
    Post (.int .i64 (-1 : Int)) h)
def slices_IndexFunc_sl_impl_Ring_impl_Ring.g2 (fr : Frame) : Option Addr × Nat × Nat × Value × Int × Int := ((gLb (lget fr 0)), (gLl (lget fr 0)), (gLc (lget fr 0)), (lget fr 1), (gI (lget fr 7)), (gI (lget fr 8)))
def slices_IndexFunc_sl_impl_Ring_impl_Ring.l2 (Post : Value → Heap → Prop) : Frame → Heap → Prop := fun fr h => GRD (shape (kds 19 [(0, .l), (1, .v), (7, .i .i64), (8, .i .i64)]) fr) (LOOP (slices_IndexFunc_sl_impl_Ring_impl_Ring.B2 Post) (slices_IndexFunc_sl_impl_Ring_impl_Ring.g2 fr) h)
def slices_IndexFunc_sl_impl_Ring_impl_Ring.S (s_0b : Option Addr) (s_0l s_0c : Nat) (f_1 : Value) (Post : Value → Heap → Prop) (h : Heap) : Prop :=
    LOOP (slices_IndexFunc_sl_impl_Ring_impl_Ring.B2 Post) (s_0b, s_0l, s_0c, f_1, (s_0l : Int), (0 : Int)) h
noncomputable def slices_IndexFunc_sl_impl_Ring_impl_Ring.code : Code := (Tryz.f177.body).getD .skip
theorem slices_IndexFunc_sl_impl_Ring_impl_Ring.call {s_0b : Option Addr} {s_0l s_0c : Nat} {f_1 : Value} {Post : Value → Heap → Prop} {h : Heap} (H : slices_IndexFunc_sl_impl_Ring_impl_Ring.S s_0b s_0l s_0c f_1 Post h) : CALL prg f_slices_IndexFunc_sl_impl_Ring_impl_Ring #[.slice s_0b s_0l s_0c, f_1] Post h :=
  fn_call tau_ok mixed (c := slices_IndexFunc_sl_impl_Ring_impl_Ring.code) (Λ := lookL [(1000002, slices_IndexFunc_sl_impl_Ring_impl_Ring.l2 Post)]) Tryz.func177 (by kernel_rfl) (by kernel_rfl)
    (Rq.seq (by kernel_rfl) (Rq.free (by kernel_rfl)) (Rq.seq (by kernel_rfl) (Rq.seq (by kernel_rfl) (Rq.free (by kernel_rfl)) (Rq.block (Rq.loop (slices_IndexFunc_sl_impl_Ring_impl_Ring.l2 Post) (by kernel_rfl) (segL (g := slices_IndexFunc_sl_impl_Ring_impl_Ring.g2) tau_ok mixed (Λ := fun N2 => lookL []) (fun _ _ _ => by kernel_rfl) (fun N2 => (Rq.free (by kernel_rfl))))))) (Rq.free (by kernel_rfl))))
    (Eq.mp (by kernel_rfl) H)

def slices_ContainsFunc_sl_impl_Ring_impl_Ring.S (s_0b : Option Addr) (s_0l s_0c : Nat) (f_1 : Value) (Post : Value → Heap → Prop) (h : Heap) : Prop :=
    CALL prg f_slices_IndexFunc_sl_impl_Ring_impl_Ring #[.slice s_0b s_0l s_0c, f_1] (fun q1 h2 =>
    asI .i64 q1 fun n3 =>
    Post (.bool ((decide ((0 : Int) ≤ n3)))) h2) h
noncomputable def slices_ContainsFunc_sl_impl_Ring_impl_Ring.code : Code := (Tryz.f116.body).getD .skip
theorem slices_ContainsFunc_sl_impl_Ring_impl_Ring.call {s_0b : Option Addr} {s_0l s_0c : Nat} {f_1 : Value} {Post : Value → Heap → Prop} {h : Heap} (H : slices_ContainsFunc_sl_impl_Ring_impl_Ring.S s_0b s_0l s_0c f_1 Post h) : CALL prg f_slices_ContainsFunc_sl_impl_Ring_impl_Ring #[.slice s_0b s_0l s_0c, f_1] Post h :=
  fn_call tau_ok mixed (c := slices_ContainsFunc_sl_impl_Ring_impl_Ring.code) (Λ := lookL []) Tryz.func116 (by kernel_rfl) (by kernel_rfl)
    (Rq.free (by kernel_rfl))
    (Eq.mp (by kernel_rfl) H)

def impl_areQuiet_c1.S (r_0 : Addr) (Post : Value → Heap → Prop) (h : Heap) : Prop :=
    LDA 2 h r_0 fun a1 =>
    CALL prg f_impl_Ring_isQuiet #[.agg a1] (fun q2 h3 =>
    asB q2 fun b4 =>
    Post (.bool (!b4)) h3) h
noncomputable def impl_areQuiet_c1.code : Code := (Tryz.f117.body).getD .skip
theorem impl_areQuiet_c1.call {r_0 : Addr} {Post : Value → Heap → Prop} {h : Heap} (H : impl_areQuiet_c1.S r_0 Post h) : CALL prg f_impl_areQuiet_c1 #[.pointer (some r_0)] Post h :=
  fn_call tau_ok mixed (c := impl_areQuiet_c1.code) (Λ := lookL []) Tryz.func117 (by kernel_rfl) (by kernel_rfl)
    (Rq.free (by kernel_rfl))
    (Eq.mp (by kernel_rfl) H)

def impl_areQuiet.S (list_0b : Option Addr) (list_0l list_0c : Nat) (Post : Value → Heap → Prop) (h : Heap) : Prop :=
    CALL prg f_slices_ContainsFunc_sl_impl_Ring_impl_Ring #[.slice list_0b list_0l list_0c, .func (.func 117) #[] #[]] (fun q1 h2 =>
    asB q1 fun b3 =>
    Post (.bool (!b3)) h2) h
noncomputable def impl_areQuiet.code : Code := (Tryz.f54.body).getD .skip
theorem impl_areQuiet.call {list_0b : Option Addr} {list_0l list_0c : Nat} {Post : Value → Heap → Prop} {h : Heap} (H : impl_areQuiet.S list_0b list_0l list_0c Post h) : CALL prg f_impl_areQuiet #[.slice list_0b list_0l list_0c] Post h :=
  fn_call tau_ok mixed (c := impl_areQuiet.code) (Λ := lookL []) Tryz.func54 (by kernel_rfl) (by kernel_rfl)
    (Rq.free (by kernel_rfl))
    (Eq.mp (by kernel_rfl) H)

end Go.Sx
/- Bodies that are silent: the rule's and the program's. -/
set_option linter.unusedVariables false
set_option linter.unusedSimpArgs false
namespace Go.Sx
open Go.Proofs
set_option maxRecDepth 100000
set_option maxHeartbeats 1000000

/-- Pointers to rings, and the rings. -/
def PR (h : Heap) (ps : List Addr) (rs : List GRing) : Prop := ps.length = rs.length ∧ ∀ i, i < ps.length → RdP rRing h ps[i]! rs[i]! ∧ rs[i]!.ok = true
theorem PR.ext {h h' : Heap} {ps : List Addr} {rs : List GRing} (H : PR h ps rs) (x : Ext h h') : PR h' ps rs := ⟨H.1, fun i hi => ⟨(H.2 i hi).1.ext x, (H.2 i hi).2⟩⟩
theorem get_app {α : Type} [Inhabited α] {l m : List α} {i : Nat} : (l ++ m)[i]! = if i < l.length then l[i]! else m[i - l.length]! := by
  simp only [List.getElem!_eq_getElem?_getD]
  split
  · next h => rw [List.getElem?_append_left h]
  · next h => rw [List.getElem?_append_right (by omega)]
theorem PR.add2 {h : Heap} {ps : List Addr} {rs : List GRing} {p q : Addr} {r s : GRing} (H : PR h ps rs) (h1 : RdP rRing h p r) (o1 : r.ok = true) (h2 : RdP rRing h q s) (o2 : s.ok = true) : PR h (ps ++ [p, q]) (rs ++ [r, s]) := by
  obtain ⟨hl, H⟩ := H
  refine ⟨by simp [hl], fun i hi => ?_⟩
  rw [get_app, get_app, ← hl]
  by_cases h0 : i < ps.length
  · rw [if_pos h0, if_pos h0]; exact H i h0
  · rw [if_neg h0, if_neg h0]
    have hi' : i - ps.length = 0 ∨ i - ps.length = 1 := by simp only [List.length_append, List.length_cons, List.length_nil] at hi; omega
    rcases hi' with e | e
    · rw [e]; exact ⟨h1, o1⟩
    · rw [e]; exact ⟨h2, o2⟩
/-- The first n rings of both lists, by turns. -/
def twoR (a b : List GRing) : Nat → List GRing
  | 0 => []
  | n + 1 => twoR a b n ++ [a[n]!, b[n]!]
theorem twoR_len (a b : List GRing) : ∀ n, (twoR a b n).length = 2 * n
  | 0 => rfl
  | n + 1 => by rw [twoR, List.length_append, twoR_len a b n]; simp; omega
theorem twoR_all (a b : List GRing) (p : GRing → Bool) : ∀ n, n ≤ a.length → n ≤ b.length → (twoR a b n).all p = ((a.take n).all p && (b.take n).all p)
  | 0, _, _ => by simp [twoR]
  | n + 1, h1, h2 => by
    rw [twoR, List.all_append, twoR_all a b p n (by omega) (by omega), take_snoc (l := a) (by omega), take_snoc (l := b) (by omega), List.all_append, List.all_append]
    simp only [List.all_cons, List.all_nil, Bool.and_true]
    cases (a.take n).all p <;> cases (b.take n).all p <;> simp
section
variable {h0 h : Heap} {q : Addr} {F : Fr} {L : List Blk} {y a : Nat}
theorem isQuiet_c {cs : Array Value} {r : GRing} (R0 : rRing.rd h cs.toList r) (hr : r.ok = true) : CALL prg f_impl_Ring_isQuiet #[.agg cs] (fun u h' => u = .bool r.zero ∧ Ext h h') h := by
  refine impl_Ring_isQuiet.call (alcR R0 fun g h1 x1 R => R.lda1 rfl fun c2 R2 => R.oL2 fun b l c S => goX (Ring_quiet_c R2 hr) fun h2 x2 => as_i (R.pin2 (by decide) x2 (goX (length_f32_c _ _ _ _) fun h3 x3 => as_i ⟨?_, x1.trans (x2.trans x3)⟩)))
  have hl : r.Samples.length = l := S.len
  have := quiet_zero hr
  congr 1
  rw [Bool.eq_iff_iff, ← this, beq_iff_eq]
  omega
theorem rP_c {x : GPipe} (R : RdP rPipe h q x) (Ru : x.Runs) : CALL prg f_p_impl_Pipe_rings #[.pointer (some q)] (fun u h' => ∃ b l c B ps, u = .slice b l c ∧ SlO T_p_impl_Ring rP B b l c ps ∧ Mem h h' B ∧ PR h ps (twoR x.Right x.Left x.Right.length)) h := by
  have n1 := Ru.n1
  have n3 := Ru.n3
  have nl := Ru.ll
  have hm : (7 : Nat) ≤ maxLen := by decide
  obtain ⟨v, e1, b4, l4, c4, e2, S4⟩ := R.cell lf_Pipe_0.f rfl
  obtain rfl : v = .slice b4 l4 c4 := by simpa using e2
  rw [add0] at e1
  obtain ⟨v, e3, b6, l6, c6, e2, S6⟩ := R.cell lf_Pipe_1.f rfl
  obtain rfl : v = .slice b6 l6 c6 := by simpa using e2
  have e4 : x.Right.length = l4 := S4.len
  have e6 : x.Left.length = l6 := S6.len
  refine p_impl_Pipe_rings.call (o_l e1 ?_)
  refine loop (fun y hh => ∃ (n : Nat) (b : Option Addr) (c : Nat) (B : List Blk) (ps : List Addr), y = (q, b, 2 * n, c, (l4 : Int), (n : Int)) ∧ n ≤ l4 ∧ SlO T_p_impl_Ring rP B b (2 * n) c ps ∧ Mem h hh B ∧ PR h ps (twoR x.Right x.Left n)) (fun y => (l4 - y.2.2.2.2.2).toNat)
    ⟨0, _, _, _, [], rfl, by omega, SlO.nil, Mem.start h, rfl, fun i hi => by simp at hi⟩ ?_
  rintro y hh ⟨n, b, c, B, ps, rfl, hn, O, M, H⟩
  refine brd (fun hc => ?_) fun hc => ?_
  · refine o_l (M.ext.cell e1) (S4.idx ring_sz (by omega) (by omega) fun p5 R5 => o_l (M.ext.cell e3) (S6.idx ring_sz (by omega) (by omega) fun p7 R7 => M.alc fun g h1 x1 M1 => ?_))
    rw [Int.toNat_natCast] at R5 R7
    have M2 : Mem h h1 (B ++ ([] ++ [(g, T_p_impl_Ring, ⟨[.pointer (some (p5.add (n * 2))), .pointer (some (p7.add (n * 2)))]⟩)])) := M1.cnt fun p => by simp only [Int.toNat_natCast, List.append_eq, cnt_app, cnt_cons, cnt_nil]; omega
    refine O.app (Bn := []) (news := [.pointer (some (p5.add (n * 2))), .pointer (some (p7.add (n * 2)))]) (ys := [p5.add (n * 2), p7.add (n * 2)]) E_sl_p_impl_Ring M2 rfl ⟨[], [], [_], [_], rfl, rfl, ⟨rfl, rfl⟩, [], [], [_], [], rfl, rfl, ⟨rfl, rfl⟩, rfl, rfl⟩ (fun j v hj => ?_) (by omega) (by omega) fun b' c' h' B' O' M' => as_l ?_
    · rw [add_none, Nat.zero_add, M1.cell .here, ← hj, List.getElem?_toArray]; rfl
    exact ⟨⟨n + 1, b', c', B', _, by rw [wrap64_succ (by omega)]; rfl, by omega, O', M'.cnt (fun p => by simp only [cnt_app, cnt_cons, cnt_nil]; omega), H.add2 R5 (Ru.r _ (mem_get (by omega))) R7 (Ru.l _ (mem_get (by omega)))⟩, by rw [wrap64_succ (by omega)]; show _ < _; simp; omega⟩
  · obtain rfl : n = l4 := by omega
    rw [e4]
    exact ⟨b, _, c, B, ps, rfl, O, M, H⟩
theorem areQuiet_c {b : Option Addr} {l c : Nat} {ps : List Addr} {rs : List GRing} (S : SlR rP h b l c ps) (H : PR h ps rs) : CALL prg f_impl_areQuiet #[.slice b l c] (fun u h' => u = .bool (rs.all GRing.zero) ∧ Ext h h') h := by
  have hl := S.len
  have s1 := S.2.1
  have s2 := S.2.2.1
  have := maxLen_lt
  have hlr := H.1
  have I : CALL prg f_slices_IndexFunc_sl_impl_Ring_impl_Ring #[.slice b l c, .func (.func f_impl_areQuiet_c1) #[] #[]] (fun u h' => u = .int .i64 (firstAt (fun r : GRing => !r.zero) rs) ∧ Ext h h') h := by
    refine slices_IndexFunc_sl_impl_Ring_impl_Ring.call ?_
    refine loop (fun x hh => ∃ n : Nat, x = (b, l, c, .func (.func f_impl_areQuiet_c1) #[] #[], (l : Int), (n : Int)) ∧ n ≤ l ∧ Ext h hh ∧ ∀ i, i < n → (!rs[i]!.zero) = false) (fun x => (l - x.2.2.2.2.2).toNat) ⟨0, rfl, by omega, Ext.refl _, fun i hi => by omega⟩ ?_
    rintro x hh ⟨n, rfl, hn, X, hf⟩
    refine brd (fun hc => ?_) fun hc => ⟨by rw [firstAt_none fun i hi => hf i (by omega)], X⟩
    refine (S.ext X).idx (by decide) (by omega) (by omega) fun a Ra => Ra.oP1 ?_
    rw [Int.toNat_natCast]
    obtain ⟨Rr, ok⟩ := H.2 n (by omega)
    show CALL prg f_impl_areQuiet_c1 #[.pointer (some ps[n]!)] _ hh
    refine impl_areQuiet_c1.call ((Rr.ext X).lda1 rfl fun cs Rc => goE X (isQuiet_c Rc ok) fun h1 x1 => as_b (as_b (br (fun hb => ?_) fun hb => ?_)))
    · exact ⟨by rw [firstAt_some (by omega) hf hb], x1⟩
    · refine ⟨⟨n + 1, by rw [wrap64_succ (by omega)], by omega, x1, fun i hi => ?_⟩, by rw [wrap64_succ (by omega)]; show _ < _; simp; omega⟩
      by_cases e : i = n
      · subst e; exact hb
      · exact hf i (by omega)
  refine impl_areQuiet.call (goX (slices_ContainsFunc_sl_impl_Ring_impl_Ring.call (goX I fun h1 x1 => as_i ⟨rfl, x1⟩)) fun h2 x2 => as_b ⟨?_, x2⟩)
  congr 1
  rw [firstAt_any, List.any_eq_not_all_not]
  simp
/-- A pipe's rings and its end, as the program asks. -/
theorem pipeQuiet_all {x : GPipe} (Ru : x.Runs) : (twoR x.Right x.Left x.Right.length).all GRing.zero = (x.Right.all GRing.zero && x.Left.all GRing.zero) := by
  rw [twoR_all _ _ _ _ (Nat.le_refl _) (by rw [Ru.ll]; exact Nat.le_refl _), List.take_length, ← Ru.ll, List.take_length]
end
end Go.Sx
