/- Whole numbers, signed ones, fractions read: the rule and the program. -/
import Derived.Test.YtnhcoeogejgidabGreatDoorLm21
import Derived.Test.YtnhcoeogejgidabGreatDoorLv2
import Derived.Test.YtnhcoeogejgidabGreatDoorTabE
import Derived.Test.YtnhcoeogejgidabGreatDoorTab
import Derived.Test.YtnhcoeogejgidabGreatDoorLpx
import Derived.Test.YtnhcoeogejgidabGreatDoorLr7
import Derived.Test.YtnhcoeogejgidabGreatDoorLk27
import Derived.Test.YtnhcoeogejgidabGreatDoorLm22
set_option linter.unusedVariables false
set_option linter.unusedSimpArgs false
namespace Go.Sx
open Go.Proofs
set_option maxRecDepth 100000
set_option maxHeartbeats 1000000

/-- A fraction told: its float up to which NaN it is. -/
def FracV (o : Option Nat) (u : Value) : Prop := match o with | some a => ∃ x, u = .tuple ⟨[.float .f32 x, .bool true]⟩ ∧ FW .f32 x a | none => ∃ x, u = .tuple ⟨[.float .f32 x, .bool false]⟩ ∧ FW .f32 x x
section
variable {h : Heap}
theorem and_all : ∀ d : Fin 1025, 1 ≤ d.val → bitI .and .i64 ((d.val : Nat) : Int) (IntKind.i64.wrap (((d.val : Nat) : Int) - 1)) = ((d.val &&& (d.val - 1) : Nat) : Int) := by decide +kernel
theorem and_nat {d : Nat} (h : d ≤ 1024) (h1 : 1 ≤ d) : bitI .and .i64 (d : Int) (IntKind.i64.wrap ((d : Int) - 1)) = ((d &&& (d - 1) : Nat) : Int) := and_all ⟨d, by omega⟩ h1
theorem mkb_toList (a b : List UInt8) : (ByteArray.toList (mkB a) == ByteArray.toList (mkB b)) = decide (a = b) := by
  rw [toList_data, toList_data, mkB_data, mkB_data, Bool.eq_iff_iff]
  simp
theorem cut_head : ∀ {c : UInt8} {l a : List UInt8} {r : List (List UInt8)}, cutL c l = a :: r → r ≠ [] → ∃ t, l = a ++ c :: t ∧ (∀ x ∈ a, x ≠ c) ∧ cutL c t = r
  | c, [], a, r, h, hr => by
    simp only [cutL, List.cons.injEq] at h
    exact absurd h.2.symm hr
  | c, b :: l, a, r, h, hr => by
    unfold cutL at h
    by_cases hb : b = c
    · rw [if_pos hb] at h
      obtain ⟨rfl, rfl⟩ := List.cons.inj h
      exact ⟨l, by rw [hb]; rfl, (fun x hx => by cases hx), rfl⟩
    · rw [if_neg hb] at h
      cases e : cutL c l with
      | nil => exact absurd e (cut_ne c l)
      | cons w s =>
        rw [e] at h
        obtain ⟨rfl, rfl⟩ := List.cons.inj h
        obtain ⟨t, e1, e2, e3⟩ := cut_head e hr
        refine ⟨t, by rw [e1]; rfl, fun x hx => ?_, e3⟩
        rcases List.mem_cons.1 hx with rfl | hx
        · exact hb
        · exact e2 x hx
theorem cut_sole : ∀ {c : UInt8} {l a : List UInt8}, cutL c l = [a] → l = a ∧ ∀ x ∈ l, x ≠ c
  | c, [], a, h => by
    simp only [cutL, List.cons.injEq, and_true] at h
    exact ⟨h, fun x hx => by cases hx⟩
  | c, b :: l, a, h => by
    unfold cutL at h
    by_cases hb : b = c
    · rw [if_pos hb] at h
      exact absurd (List.cons.inj h).2 (cut_ne c l)
    · rw [if_neg hb] at h
      cases e : cutL c l with
      | nil => exact absurd e (cut_ne c l)
      | cons w s =>
        rw [e] at h
        obtain ⟨rfl, rfl⟩ := List.cons.inj h
        obtain ⟨e1, e2⟩ := cut_sole e
        refine ⟨by rw [e1], fun x hx => ?_⟩
        rcases List.mem_cons.1 hx with rfl | hx
        · exact hb
        · exact e2 x hx
theorem fracV_none {u : Value} {x : Nat} (h : u = .tuple ⟨[.float .f32 x, .bool false]⟩) (hx : FW .f32 x x) : FracV none u := ⟨x, h, hx⟩
theorem fw0' : FW .f32 0 0 := fw_c32 (by decide) (by decide)
/-- A fraction out of its words. -/
def fracW (ws : List (List UInt8)) : Option Nat := match ws with
  | [a] => (signedL a).map FloatKind.f32.nearest
  | [a, b] => (signedL a).bind fun n => (wholeL b).bind fun d => if byOk d then some (fdiv .f32 (FloatKind.f32.nearest n) (FloatKind.f32.nearest d)) else none
  | _ => none
theorem fracL_eq (l : List UInt8) : fracL l = fracW (cutL 47 l) := rfl
theorem str_at {b : Option Addr} {n k : Nat} {ws : List (List UInt8)} (S : SlR rS h b n k (ws.map mkB)) (j : Nat) (hj : j < n) : ∃ a, b = some a ∧ cell h (a.add j) = some (.string (mkB ws[j]!)) := by
  have hn : ws.length = n := by have := S.len; rw [List.length_map] at this; exact this
  obtain ⟨a, rfl, R⟩ := S.elem (i := j) hj (by decide)
  obtain ⟨v, h1, h2⟩ := R
  obtain ⟨rfl, _⟩ := h2
  have := h1 0 _ rfl
  rw [add0] at this
  refine ⟨a, rfl, ?_⟩
  rw [show j * rS.sz = j * 1 from rfl, Nat.mul_one] at this
  rw [this, getElem!_pos _ j (by rw [List.length_map]; omega), List.getElem_map, getElem!_pos ws j (by omega)]
theorem SlR.str0 {b : Option Addr} {n k : Nat} {ws : List (List UInt8)} {F : ByteArray → Prop} (S : SlR rS h b n k (ws.map mkB)) (h0 : 0 < n) (H : F (mkB ws[0]!)) : IDXS b (0 : Int) n fun p => oS (cell h p) F := by
  obtain ⟨a, rfl, e⟩ := str_at S 0 h0
  rw [add0] at e
  exact idxs (by omega) (by omega) (o_s e H)
theorem SlR.str {b : Option Addr} {n k : Nat} {ws : List (List UInt8)} {F : ByteArray → Prop} {i : Int} (S : SlR rS h b n k (ws.map mkB)) (j : Nat) (hi : i = (j : Int)) (hj : j < n) (H : F (mkB ws[j]!)) : IDXS b i n fun p => oS (cell h (p.add j)) F := by
  obtain ⟨a, rfl, e⟩ := str_at S j hj
  exact idxs (by omega) (by omega) (o_s e H)
end
end Go.Sx
/- What functions of this seat's program compute, told in words (a predicate over heaps for each), and the proofs that the words are no more than the code's own weakest precondition. -/
namespace Go.Sx
open Go.Proofs
set_option linter.unusedVariables false
set_option maxRecDepth 100000

def impl_EqualTuning.B5 (Post : Value → Heap → Prop) (N5 : (Int × Addr × Addr × Int × Int) → Heap → Prop) : Int × Addr × Addr × Int × Int → Heap → Prop
  | (steps_1, t4, t_6, t19, t20), h =>
    BIF (decide (t20 < t19)) (
    oL (cell h (Addr.add t_6 2)) fun l16b l16l l16c =>
    FOP .f32 (FloatKind.f32.format.div ((FloatKind.f32.nearest ((IntKind.i64.wrap ((1200 : Int) * t20))))) (FloatKind.f32.nearest steps_1)) fun r17 =>
    ALC ⟨[.float .f32 r17]⟩ T_float32 (fun g18 h19 =>
    SEMV prg (Builtin.append_ #[T_sl_float32, T_sl_float32] T_sl_float32 #[.slice l16b l16l l16c, .slice (some ⟨g18, 0, none⟩) 1 1]) (fun q20 h21 =>
    asL q20 fun l22b l22l l22c =>
    ST1 h21 (Addr.add t_6 2) (.slice l22b l22l l22c) fun h23 =>
    N5 (steps_1, t4, t_6, t19, ((IntKind.i64.wrap (t20 + (1 : Int))))) h23) h19) h) (
    LDA 3 h t_6 fun a24 =>
    STA 3 h t4 a24 fun h25 =>
    LDA 3 h25 t4 fun a26 =>
    Post (.tuple ⟨[.agg a26, .int .i64 (0 : Int)]⟩) h25)
def impl_EqualTuning.g5 (fr : Frame) : Int × Addr × Addr × Int × Int := ((gI (lget fr 1)), (gP (lget fr 4)), (gP (lget fr 6)), (gI (lget fr 19)), (gI (lget fr 20)))
def impl_EqualTuning.l5 (Post : Value → Heap → Prop) : Frame → Heap → Prop := fun fr h => GRD (shape (kds 36 [(1, .i .i64), (4, .p), (6, .p), (19, .i .i64), (20, .i .i64)]) fr) (LOOP (impl_EqualTuning.B5 Post) (impl_EqualTuning.g5 fr) h)
def impl_EqualTuning.J3 (Post : Value → Heap → Prop) (base_0 : Nat) (steps_1 : Int) (t4 : Addr) (h : Heap) : Prop :=
    ALC ⟨Z_impl_Tuning⟩ T_impl_Tuning (fun g13 h14 =>
    STA 3 h14 ⟨g13, 0, none⟩ (⟨[.float .f32 base_0, .float .f32 1150681088, .slice none 0 0]⟩ : Array Value) fun h15 =>
    LOOP (impl_EqualTuning.B5 Post) (steps_1, t4, ⟨g13, 0, none⟩, steps_1, (0 : Int)) h15) h
def impl_EqualTuning.j3 (Post : Value → Heap → Prop) : Frame → Heap → Prop := fun fr h => GRD (shape (kds 36 [(0, .f .f32), (1, .i .i64), (4, .p)]) fr) (impl_EqualTuning.J3 Post (gF (lget fr 0)) (gI (lget fr 1)) (gP (lget fr 4)) h)
def impl_EqualTuning.S (base_0 : Nat) (steps_1 : Int) (Post : Value → Heap → Prop) (h : Heap) : Prop :=
    ALC ⟨Z_impl_Tuning⟩ T_impl_Tuning (fun g1 h2 =>
    CALL prg f_impl_isBase #[.float .f32 base_0] (fun q3 h4 =>
    asB q3 fun b5 =>
    BIF (!b5) (
    STA 3 h4 ⟨g1, 0, none⟩ (⟨[.float .f32 0, .float .f32 0, .slice none 0 0]⟩ : Array Value) fun h6 =>
    LDA 3 h6 ⟨g1, 0, none⟩ fun a7 =>
    Post (.tuple ⟨[.agg a7, .int .i64 (2 : Int)]⟩) h6) (
    CALL prg f_impl_within #[.int .i64 steps_1, .int .i64 (1 : Int), .int .i64 (31 : Int)] (fun q8 h9 =>
    asB q8 fun b10 =>
    BIF (!b10) (
    STA 3 h9 ⟨g1, 0, none⟩ (⟨[.float .f32 0, .float .f32 0, .slice none 0 0]⟩ : Array Value) fun h11 =>
    LDA 3 h11 ⟨g1, 0, none⟩ fun a12 =>
    Post (.tuple ⟨[.agg a12, .int .i64 (2 : Int)]⟩) h11) (
    impl_EqualTuning.J3 Post base_0 steps_1 ⟨g1, 0, none⟩ h9)) h4)) h2) h
noncomputable def impl_EqualTuning.code : Code := (Tryz.f20.body).getD .skip
theorem impl_EqualTuning.call {base_0 : Nat} {steps_1 : Int} {Post : Value → Heap → Prop} {h : Heap} (H : impl_EqualTuning.S base_0 steps_1 Post h) : CALL prg f_impl_EqualTuning #[.float .f32 base_0, .int .i64 steps_1] Post h :=
  fn_call tau_ok mixed (c := impl_EqualTuning.code) (Λ := lookL [(3, impl_EqualTuning.j3 Post), (1000005, impl_EqualTuning.l5 Post)]) Tryz.func20 (by kernel_rfl) (by kernel_rfl)
    (Rq.seq (by kernel_rfl) (Rq.free (by kernel_rfl)) (Rq.seqJ (impl_EqualTuning.j3 Post) (by kernel_rfl) (seg (fun _ _ => by kernel_rfl)) (Rq.free (by kernel_rfl))
(Rq.seq (by kernel_rfl) (Rq.free (by kernel_rfl)) (Rq.seq (by kernel_rfl) (Rq.seq (by kernel_rfl) (Rq.free (by kernel_rfl)) (Rq.block (Rq.loop (impl_EqualTuning.l5 Post) (by kernel_rfl) (segL (g := impl_EqualTuning.g5) tau_ok mixed (Λ := fun N5 => lookL []) (fun _ _ _ => by kernel_rfl) (fun N5 => (Rq.free (by kernel_rfl))))))) (Rq.free (by kernel_rfl))))))
    (Eq.mp (by kernel_rfl) H)

end Go.Sx
/- Elements appended to a slice within own data, a slice within own data cut; equal tunings. -/
set_option linter.unusedVariables false
set_option linter.unusedSimpArgs false
namespace Go.Sx
open Go.Proofs
set_option maxRecDepth 100000
set_option maxHeartbeats 1000000

section
variable {β : Type} {s : Rep β} {P : Program} {h0 h : Heap} {B L Bn : List Blk} {b : Option Addr} {e l c n t ty bytes m : Nat} {els ys : List β} {cs : Array Value}
theorem app_own {K : Value → Heap → Prop} (W : Heap → Prop → Prop) (pn : ∀ h1 p, Ext h h1 → p → W h1 p) (E : ElemT P t e s.sz bytes) (O : SlO e s B b l c els) (M : Mem h0 h (B ++ (Bn ++ L))) (Ox : ows s Bn cs.toList ys) (hm : ys.length = m) (hmax : l + m ≤ maxLen) (hbytes : (l + m) * bytes ≤ 140737488355328)
    (H : ∀ b' c' h' B', SlO e s B' b' (l + m) c' (els ++ ys) → Mem h0 h' (B' ++ L) → K (.slice b' (l + m) c') h') :
    ALC cs e (fun g h1 => W h1 (SEMV P (Builtin.append_ #[t, t] ty #[.slice b l c, .slice (some ⟨g, 0, none⟩) m m]) K h1)) h := by
  refine M.alc fun g h1 x1 M1 => pn _ _ x1 ?_
  have M2 : Mem h0 h1 (B ++ (Bn ++ ((g, e, cs) :: L))) := M1.perm (by
    refine List.Perm.symm ?_
    rw [← List.append_assoc, ← List.append_assoc]
    exact List.perm_middle)
  refine O.app (news := cs.toList) E M2 (ys := ys) hm Ox (fun j v hj => ?_) hmax hbytes fun b' c' h' B' O' M' => H b' c' h' B' O' (M'.sub (List.Sublist.append (List.Sublist.refl _) (List.sublist_cons_self _ _)))
  rw [add_none, Nat.zero_add, M1.cell .here, ← hj, Array.getElem?_toList]
theorem ows.split : ∀ {els : List β} {B : List Blk} {vs : List Value} (n : Nat), ows s B vs els → ∃ C D v w, B = C ++ D ∧ vs = v ++ w ∧ ows s C v (els.take n)
  | [], B, vs, n, e => by obtain ⟨rfl, rfl⟩ := e; exact ⟨[], [], [], [], rfl, rfl, by rw [List.take_nil]; exact ⟨rfl, rfl⟩⟩
  | a :: els, B, vs, 0, e => ⟨[], B, [], vs, rfl, rfl, ⟨rfl, rfl⟩⟩
  | a :: els, B, vs, n + 1, e => by
    obtain ⟨B1, B2, v1, v2, rfl, rfl, g1, g2⟩ := e
    obtain ⟨C, D, v, w, rfl, rfl, g3⟩ := ows.split n g2
    exact ⟨B1 ++ C, D, v1 ++ v, w, by simp, by simp, B1, C, v1, v, rfl, rfl, g1, g3⟩
/-- An own slice cut. -/
theorem SlO.take (O : SlO e s B b l c els) (M : Mem h0 h (B ++ L)) (hn : n ≤ l) : ∃ B', SlO e s B' b n c (els.take n) ∧ Mem h0 h (B' ++ L) := by
  obtain ⟨h1, ws, B1, B2, rfl, O1, O2⟩ := O
  obtain ⟨C, D, v, w, rfl, rfl, O3⟩ := O2.split n
  have hv := O3.len
  rw [List.length_take, Nat.min_eq_left (by omega)] at hv
  refine ⟨B1 ++ C, ⟨by rw [List.length_take]; omega, v, B1, C, rfl, ⟨hv, ?_⟩, O3⟩, M.cnt fun p => by simp only [cnt_app]; omega⟩
  rcases O1.2 with ⟨e1, e2, e3, e4⟩ | ⟨g, cs, e1, e2, e3, e4, e5, e6⟩
  · exact .inl ⟨e1, e2, by omega, e4⟩
  · refine .inr ⟨g, cs, e1, e2, by omega, e4, e5, ?_⟩
    have : cs.toList.take (n * s.sz) = (cs.toList.take (l * s.sz)).take (n * s.sz) := by
      rw [List.take_take, Nat.min_eq_left (Nat.mul_le_mul_right _ hn)]
    rw [this, e6, ← hv, List.take_left]
end
section
variable {α β : Type} {r : Rep α} {s : Rep β} {P : Program} {h0 h : Heap} {q : Addr} {F : Fr} {L Bn : List Blk} {a : α} {off t e bytes ty l c n m : Nat} {b : Option Addr} {get : α → List β} {put : α → List β → α} {cs : Array Value} {ys : List β}
/-- Elements appended to a slice within own data, and the slice stored there. -/
theorem Pt.appW {K : Heap → Prop} (W : Heap → Prop → Prop) (pn : ∀ h1 p, Ext h h1 → p → W h1 p) (Pa : Pt r h0 h q F (Bn ++ L) a) [Fc : FocC r off (rSl e s) get put] (hb : cell h (q.add off) = some (.slice b l c)) (E : ElemT P t e s.sz bytes) (Ox : ows s Bn cs.toList ys) (hm : ys.length = m)
    (hmax : (get a).length + m ≤ maxLen) (hbytes : ((get a).length + m) * bytes ≤ 140737488355328) (H : ∀ h', Pt r h0 h' q F L (put a (get a ++ ys)) → K h') :
    ALC cs e (fun g h1 => W h1 (SEMV P (Builtin.append_ #[t, t] ty #[.slice b l c, .slice (some ⟨g, 0, none⟩) m m]) (fun u h => asL u fun b l c => ST1 h (q.add off) (.slice b l c) K) h1)) h := by
  obtain ⟨F1, C, P1, close⟩ := Pa.focX Fc.f
  obtain ⟨eq, mid, B, M, b', l', c', rfl, O⟩ := P1
  have e0 : cell h (q.add off) = some (.slice b' l' c') := by rw [eq, M.cell .here]; simp
  rw [hb] at e0
  cases e0
  have hl : (get a).length = l := O.1
  refine app_own (L := (F1.g, F1.T, ⟨F1.pre ++ ([.slice b l c] ++ F1.post)⟩) :: (C ++ L)) W pn E O (M.cnt fun p => by simp only [cnt_app, cnt_cons, cnt_nil]; omega) Ox hm (by omega) (by rw [← hl]; exact hbytes) fun b' c' h' B' O' M' => as_l ?_
  rw [eq]
  have M2 : Mem h0 h' ((F1.g, F1.T, ⟨F1.pre ++ ([.slice b l c] ++ F1.post)⟩) :: (B' ++ (C ++ L))) := M'.cnt fun p => by simp only [cnt_app, cnt_cons, cnt_nil]; omega
  refine M2.st1M rfl fun h2 M3 => H h2 ?_
  exact (close h0 h2 L _ ⟨eq, [.slice b' (l + m) c'], B', M3, _, _, _, rfl, O'⟩).1
theorem Pt.app0 {K : Heap → Prop} (Pa : Pt r h0 h q F (Bn ++ L) a) [Fc : FocC r off (rSl e s) get put] (hb : cell h (q.add off) = some (.slice b l c)) (E : ElemT P t e s.sz bytes) (Ox : ows s Bn cs.toList ys) (hm : ys.length = m)
    (hmax : (get a).length + m ≤ maxLen) (hbytes : ((get a).length + m) * bytes ≤ 140737488355328) (H : ∀ h', Pt r h0 h' q F L (put a (get a ++ ys)) → K h') :
    ALC cs e (fun g h1 => SEMV P (Builtin.append_ #[t, t] ty #[.slice b l c, .slice (some ⟨g, 0, none⟩) m m]) (fun u h => asL u fun b l c => ST1 h (q.add off) (.slice b l c) K) h1) h :=
  Pt.appW (fun _ p => p) (fun _ _ _ H => H) Pa hb E Ox hm hmax hbytes H
theorem Pt.appP {K : Heap → Prop} (Pa : Pt r h0 h q F (Bn ++ L) a) [Fc : FocC r off (rSl e s) get put] (hb : cell h (q.add off) = some (.slice b l c)) (E : ElemT P t e s.sz bytes) (Ox : ows s Bn cs.toList ys) (hm : ys.length = m)
    (hmax : (get a).length + m ≤ maxLen) (hbytes : ((get a).length + m) * bytes ≤ 140737488355328) (H : ∀ h', Pt r h0 h' q F L (put a (get a ++ ys)) → K h') :
    ALC cs e (fun g h1 => PIN h (q.add off) 1 h1 <| SEMV P (Builtin.append_ #[t, t] ty #[.slice b l c, .slice (some ⟨g, 0, none⟩) m m]) (fun u h => asL u fun b l c => ST1 h (q.add off) (.slice b l c) K) h1) h :=
  Pt.appW (fun h1 p => PIN h (q.add off) 1 h1 p) (fun h1 p x H => pin x (fun j hj => ⟨.slice b l c, by obtain rfl : j = 0 := (by omega); rw [add0]; exact hb⟩) H) Pa hb E Ox hm hmax hbytes H
theorem Pt.stTake {K : Heap → Prop} (Pa : Pt r h0 h q F L a) [Fc : FocC r off (rSl e s) get put] (hb : cell h (q.add off) = some (.slice b l c)) (hn : n ≤ l) (H : ∀ h', Pt r h0 h' q F L (put a ((get a).take n)) → K h') : ST1 h (q.add off) (.slice b n c) K := by
  obtain ⟨F1, C, P1, close⟩ := Pa.focX Fc.f
  obtain ⟨eq, mid, B, M, b', l', c', rfl, O⟩ := P1
  have e0 : cell h (q.add off) = some (.slice b' l' c') := by rw [eq, M.cell .here]; simp
  rw [hb] at e0
  cases e0
  obtain ⟨B', O', M'⟩ := O.take (L := (F1.g, F1.T, ⟨F1.pre ++ ([.slice b l c] ++ F1.post)⟩) :: (C ++ L)) (M.perm List.perm_middle.symm) hn
  have M2 := M'.perm List.perm_middle
  rw [eq]
  refine M2.st1M rfl fun h2 M3 => H h2 ?_
  exact (close h0 h2 L _ ⟨eq, [.slice b n c], B', M3, _, _, _, rfl, O'⟩).1
end
theorem ows_one {α : Type} {r : Rep α} {B : List Blk} {vs : List Value} {x : α} (O : r.ow B vs x) : ows r B vs [x] := ⟨B, [], vs, [], by simp, by simp, O, rfl, rfl⟩
def tuneOk (base : Nat) (n : Int) : Bool := inside base 1065353216 1184645120 && inR n 1 31
def tuneT (base : Nat) (n : Int) : GTuning := if tuneOk base n then equalT base n.toNat else z_Tuning
def tuneE (base : Nat) (n : Int) : Int := if tuneOk base n then 0 else 2
def degs (n i : Nat) : List Nat := (List.range i).map fun i : Nat => fdiv .f32 (FloatKind.f32.nearest (1200 * (i : Int))) (FloatKind.f32.nearest n)
theorem degs_succ (n i : Nat) : degs n (i + 1) = degs n i ++ [fdiv .f32 (FloatKind.f32.nearest (1200 * (i : Int))) (FloatKind.f32.nearest n)] := by
  unfold degs
  rw [List.range_succ, List.map_append]; rfl
theorem degs_len (n i : Nat) : (degs n i).length = i := by unfold degs; simp
section
variable {h : Heap} {a x : Nat} {n : Int}
theorem fw_1200 : FW .f32 1150681088 1150681088 := fw_c32 (by decide) (by decide)
theorem impl_EqualTuning_c (hx : FW .f32 x a) : CALL prg f_impl_EqualTuning #[.float .f32 x, .int .i64 n] (fun u h' => PairR rTuning h h' u (tuneT a n) (tuneE a n)) h := by
  refine impl_EqualTuning.call ((Mem.start h).alc fun g1 h2 x2 M => ?_)
  have bad : ∀ {hh : Heap}, Mem h hh [(g1, T_impl_Tuning, ⟨Z_impl_Tuning⟩)] → tuneOk a n = false → STA 3 hh ⟨g1, 0, none⟩ ⟨Z_impl_Tuning⟩ fun h8 => LDA 3 h8 ⟨g1, 0, none⟩ fun a9 => PairR rTuning h h8 (.tuple ⟨[.agg a9, .int .i64 2]⟩) (tuneT a n) (tuneE a n) := fun M e => by
    unfold tuneT tuneE
    rw [e]
    exact M.sta0 .here rfl (all_one rfl) rfl .here fun h3 M => M.lda0 .here rfl ⟨_, [], rfl, zow_Tuning, M.drop⟩
  refine goM M (isBase_c hx _) fun h4 M => as_b (brN (fun e => bad M (by unfold tuneOk; rw [e]; rfl)) fun e1 => ?_)
  refine goM M (within_c _ _ _ _) fun h9 M => as_b (brN (fun e => bad M (by unfold tuneOk; rw [e, Bool.and_false])) fun e2 => ?_)
  unfold impl_EqualTuning.J3
  have hn := e2
  simp only [inR, Bool.and_eq_true, decide_eq_true_eq] at hn
  obtain ⟨k, rfl⟩ := Int.eq_ofNat_of_zero_le (show 0 ≤ n by omega)
  have hmx : 31 ≤ maxLen := by decide
  have ok : tuneOk a (k : Int) = true := by unfold tuneOk; rw [e1, e2]; rfl
  refine M.alc fun g13 h14 x14 M => ?_
  have O0 : rTuning.ow [] [.float .f32 x, .float .f32 1150681088, .slice none 0 0] ⟨a, 1150681088, []⟩ := ⟨[], [], [_], [_, _], rfl, rfl, ⟨rfl, x, rfl, hx⟩, [], [], [_], [_], rfl, rfl, ⟨rfl, _, rfl, fw_1200⟩, _, _, _, rfl, SlO.nil⟩
  refine M.sta0 .here rfl (rTuning.oone O0) rfl .here fun h15 M => ?_
  have P : Pt rTuning h h15 ⟨g13, 0, none⟩ ⟨g13, T_impl_Tuning, [], []⟩ [(g1, T_impl_Tuning, ⟨Z_impl_Tuning⟩)] ⟨a, 1150681088, degs k 0⟩ := Pt.new O0 M
  refine loop (fun y hh => ∃ i : Nat, y = ((k : Int), (⟨g1, 0, none⟩ : Addr), (⟨g13, 0, none⟩ : Addr), (k : Int), (i : Int)) ∧ i ≤ k ∧ Pt rTuning h hh ⟨g13, 0, none⟩ ⟨g13, T_impl_Tuning, [], []⟩ [(g1, T_impl_Tuning, ⟨Z_impl_Tuning⟩)] ⟨a, 1150681088, degs k i⟩)
    (fun y => ((k : Int) - y.2.2.2.2).toNat) ⟨0, rfl, by omega, P⟩ ?_
  clear P M
  rintro y hh ⟨i, rfl, hi, P⟩
  refine brd (fun hc => ?_) fun hc => ?_
  · obtain ⟨b, l, c, eb, _⟩ := P.hdr (off := 2) (e := T_float32) (s := rF .f32)
    rw [wrap64 (n := 1200 * (i : Int)) (by omega) (by omega)]
    refine o_l eb (fD (fw_nearest _ _) (fw_nearest _ _) fun r18 h18 => ?_)
    have hlen : (degs k i).length = i := degs_len k i
    refine Pt.app0 (off := 2) (Bn := []) P eb E_sl_float32 (ows_one (r := rF .f32) ⟨rfl, r18, rfl, h18⟩) rfl (by show (degs k i).length + 1 ≤ _; omega) (by show ((degs k i).length + 1) * 4 ≤ _; omega) fun h24 P => ?_
    refine ⟨⟨i + 1, by rw [wrap64_succ (by omega)], by omega, ?_⟩, by rw [wrap64_succ (by omega)]; show ((k : Int) - ((i + 1 : Nat) : Int)).toNat < ((k : Int) - (i : Int)).toNat; omega⟩
    rw [degs_succ]
    exact P
  · obtain rfl : i = k := by omega
    obtain ⟨cs, B, M, O⟩ := P.out
    refine M.lda0 .here (osz O rfl) ?_
    have M := M.cnt (W := (g1, T_impl_Tuning, ⟨Z_impl_Tuning⟩) :: B) (fun p => by simp only [cnt_app, cnt_cons, cnt_nil] at *; omega)
    refine M.sta0 .here (osz O rfl) (rTuning.oone O) rfl .here fun h3 M => M.lda0 .here (osz O rfl) ?_
    unfold tuneT tuneE
    rw [ok]
    exact ⟨_, B, rfl, O, M.drop⟩
end
end Go.Sx
/- A line of a score, by its first word. -/
set_option linter.unusedVariables false
set_option linter.unusedSimpArgs false
namespace Go.Sx

/-- A line with one number. -/
def GComp.one (s : GComp) (p : Nat) (w : List UInt8) (n : Nat) : CRes :=
  if w = rateW then s.setRate p n else if w = atW then s.goto p n else if w = waitW then s.goto p (s.now + n) else s.open_ p n
def oneW (w : List UInt8) : Prop := w = rateW ∨ w = atW ∨ w = waitW ∨ w = repW
def soundW (w : List UInt8) : Prop := w = stringW ∨ w = pipW ∨ w = boW
def kindOf (w : List UInt8) : Int := if w = pipW then 2 else if w = boW then 3 else 1
section
variable {s : GComp} {p : Nat} {ws : List (List UInt8)}
theorem line_one (h : oneW ws[0]!) : s.line p ws = if ws.length = 2 then (match wholeL ws[1]! with | some n => s.one p ws[0]! n | none => .error 5) else .error 5 := by
  unfold GComp.line GComp.one
  rcases h with h | h | h | h <;> rw [h] <;> by_cases h2 : ws.length = 2 <;> simp (config := { decide := true }) [rateW, tuneW, stringW, pipW, boW, atW, waitW, playW, repW, endW, h2] <;> (cases wholeL ws[1] <;> rfl)
theorem line_tune (h : ws[0]! = tuneW) : s.line p ws = if ws.length = 3 then (match fracL ws[1]!, wholeL ws[2]! with | some a, some n => s.setTune p a n | _, _ => .error 5) else .error 5 := by
  unfold GComp.line
  rw [h]
  by_cases h2 : ws.length = 3 <;> simp (config := { decide := true }) [rateW, tuneW, stringW, pipW, boW, atW, waitW, playW, repW, endW, h2] <;> (cases fracL ws[1] <;> cases wholeL ws[2] <;> rfl)
theorem line_sound (h : soundW ws[0]!) : s.line p ws = if ws.length = 5 then s.sound p (kindOf ws[0]!) ws else .error 5 := by
  unfold GComp.line kindOf
  rcases h with h | h | h <;> rw [h] <;> by_cases h2 : ws.length = 5 <;> simp (config := { decide := true }) [rateW, tuneW, stringW, pipW, boW, atW, waitW, playW, repW, endW, h2]
theorem line_play (h : ws[0]! = playW) : s.line p ws = if ws.length = 5 then s.playL p ws else .error 5 := by
  unfold GComp.line
  rw [h]
  by_cases h2 : ws.length = 5 <;> simp (config := { decide := true }) [rateW, tuneW, stringW, pipW, boW, atW, waitW, playW, repW, endW, h2]
theorem line_end (h : ws[0]! = endW) : s.line p ws = if ws.length = 1 then s.close p else .error 5 := by
  unfold GComp.line
  rw [h]
  by_cases h2 : ws.length = 1 <;> simp (config := { decide := true }) [rateW, tuneW, stringW, pipW, boW, atW, waitW, playW, repW, endW, h2]
theorem line_else (h1 : ¬ oneW ws[0]!) (h2 : ¬ ws[0]! = tuneW) (h3 : ¬ soundW ws[0]!) (h4 : ¬ ws[0]! = playW) (h5 : ¬ ws[0]! = endW) : s.line p ws = .error 5 := by
  unfold oneW at h1
  unfold soundW at h3
  simp only [not_or] at h1 h3
  unfold GComp.line
  rw [if_neg fun h => h1.1 h.1, if_neg fun h => h2 h.1, if_neg fun h => h3.1 h.1, if_neg fun h => h3.2.1 h.1, if_neg fun h => h3.2.2 h.1, if_neg fun h => h1.2.1 h.1, if_neg fun h => h1.2.2.1 h.1, if_neg fun h => h4 h.1, if_neg fun h => h1.2.2.2 h.1, if_neg fun h => h5 h.1]
theorem whole_nil : wholeL [] = none := rfl
theorem frac_nil : fracL [] = none := by decide +kernel
theorem signed_nil : signedL [] = none := rfl
/-- A line with an empty word is none. -/
theorem line_empty (h : [] ∈ ws) : s.line p ws = .error 5 := by
  by_cases h1 : oneW ws[0]!
  · rw [line_one h1]
    by_cases h2 : ws.length = 2
    · rw [if_pos h2]
      match ws, h2 with
      | [a, b], _ =>
        have ha : a ≠ [] := by rintro rfl; rcases h1 with h | h | h | h <;> cases h
        simp only [List.mem_cons, List.not_mem_nil, or_false] at h
        rcases h with h | h
        · exact absurd h.symm ha
        · subst h; rfl
    · rw [if_neg h2]
  by_cases h2 : ws[0]! = tuneW
  · rw [line_tune h2]
    by_cases h3 : ws.length = 3
    · rw [if_pos h3]
      match ws, h3 with
      | [a, b, c], _ =>
        have ha : a ≠ [] := by rintro rfl; cases h2
        simp only [List.mem_cons, List.not_mem_nil, or_false] at h
        rcases h with h | h | h
        · exact absurd h.symm ha
        · subst h; show (match fracL [], wholeL c with | some a, some n => s.setTune p a n | _, _ => .error 5) = _; rw [frac_nil]
        · subst h; show (match fracL b, wholeL [] with | some a, some n => s.setTune p a n | _, _ => .error 5) = _; rw [whole_nil]; cases fracL b <;> rfl
    · rw [if_neg h3]
  by_cases h3 : soundW ws[0]!
  · rw [line_sound h3]
    by_cases h5 : ws.length = 5
    · rw [if_pos h5]
      match ws, h5 with
      | [a, b, c, d, e], _ =>
        have ha : a ≠ [] := by rintro rfl; rcases h3 with h | h | h <;> cases h
        simp only [List.mem_cons, List.not_mem_nil, or_false] at h
        unfold GComp.sound
        show (match fracL c, fracL d, (if kindOf a = 2 then if e = opW then some 1065353216 else if e = clW then some 0 else none else fracL e) with
          | some x, some y, some z => if nameOk (mkB b) then s.add p ⟨mkB b, kindOf a, x, y, z⟩ else .error 5
          | _, _, _ => .error 5) = _
        rcases h with h | h | h | h | h
        · exact absurd h.symm ha
        · subst h
          rw [show nameOk (mkB []) = false by decide +kernel]
          split <;> rfl
        · subst h; rw [frac_nil]
        · subst h; rw [frac_nil]; cases fracL c <;> rfl
        · subst h
          have : (if kindOf a = 2 then if ([] : List UInt8) = opW then some 1065353216 else if ([] : List UInt8) = clW then some 0 else none else fracL []) = none := by
            rw [frac_nil]; split <;> rfl
          rw [this]
          cases fracL c <;> cases fracL d <;> rfl
    · rw [if_neg h5]
  by_cases h4 : ws[0]! = playW
  · rw [line_play h4]
    by_cases h5 : ws.length = 5
    · rw [if_pos h5]
      match ws, h5 with
      | [a, b, c, d, e], _ =>
        have ha : a ≠ [] := by rintro rfl; cases h4
        simp only [List.mem_cons, List.not_mem_nil, or_false] at h
        unfold GComp.playL
        show (match signedL c, fracL d, wholeL e with
          | some key, some force, some long => if nameOk (mkB b) then s.note p (mkB b) key force long else .error 5
          | _, _, _ => .error 5) = _
        rcases h with h | h | h | h | h
        · exact absurd h.symm ha
        · subst h
          rw [show nameOk (mkB []) = false by decide +kernel]
          split <;> rfl
        · subst h; rw [signed_nil]
        · subst h; rw [frac_nil]; cases signedL c <;> rfl
        · subst h; rw [whole_nil]
          cases signedL c <;> cases fracL d <;> rfl
    · rw [if_neg h5]
  by_cases h5 : ws[0]! = endW
  · rw [line_end h5]
    by_cases h1 : ws.length = 1
    · match ws, h1 with
      | [a], _ =>
        simp only [List.mem_cons, List.not_mem_nil, or_false] at h
        subst h; cases h5
    · rw [if_neg h1]
  exact line_else h1 h2 h3 h4 h5
end
end Go.Sx
