/- Elements appended to a slice within own data, a slice within own data cut; equal tunings. -/
import Derived.Test.YtnhcoeogejgidabGreatDoorLk0
import Derived.Test.YtnhcoeogejgidabGreatDoorLr3
import Derived.Test.YtnhcoeogejgidabGreatDoorLk27
import Derived.Test.YtnhcoeogejgidabGreatDoorLm22
import Derived.Test.YtnhcoeogejgidabGreatDoorLcn
set_option linter.unusedVariables false
set_option linter.unusedSimpArgs false
namespace Go.Sx
open Go.Proofs
set_option maxRecDepth 100000
set_option maxHeartbeats 1000000

section
variable {β : Type} {s : Rep β} {P : Program} {h0 h : Heap} {B L Bn : List Blk} {b : Option Addr} {e l c n t ty bytes m : Nat} {els ys : List β} {cs : Array Value}
theorem app_own {K : Value → Heap → Prop} (W : Heap → Prop → Prop) (pn : ∀ h1 p, Ext h h1 → p → W h1 p) (E : ElemT P t e s.sz bytes) (O : SlO e s B b l c els) (M : Mem h0 h (B ++ (Bn ++ L))) (Ox : ows s Bn cs.toList ys) (hm : ys.length = m) (hmax : l + m ≤ maxLen) (hbytes : (l + m) * bytes ≤ 140737488355328)
    (H : ∀ b' c' h' B', SlO e s B' b' (l + m) c' (els ++ ys) → Mem h0 h' (B' ++ L) → K (.slice b' (l + m) c') h') :
    ALC cs e (fun g h1 => W h1 (SEMV P (Builtin.append_ #[t, t] ty #[.slice b l c, .slice (some ⟨g, 0, none⟩) m m]) K h1)) h := by
  refine M.alc fun g h1 x1 M1 => pn _ _ x1 ?_
  have M2 : Mem h0 h1 (B ++ (Bn ++ ((g, e, cs) :: L))) := M1.perm (by
    refine List.Perm.symm ?_
    rw [← List.append_assoc, ← List.append_assoc]
    exact List.perm_middle)
  refine O.app (news := cs.toList) E M2 (ys := ys) hm Ox (fun j v hj => ?_) hmax hbytes fun b' c' h' B' O' M' => H b' c' h' B' O' (M'.sub (List.Sublist.append (List.Sublist.refl _) (List.sublist_cons_self _ _)))
  rw [add_none, Nat.zero_add, M1.cell .here, ← hj, Array.getElem?_toList]
theorem ows.split : ∀ {els : List β} {B : List Blk} {vs : List Value} (n : Nat), ows s B vs els → ∃ C D v w, B = C ++ D ∧ vs = v ++ w ∧ ows s C v (els.take n)
  | [], B, vs, n, e => by obtain ⟨rfl, rfl⟩ := e; exact ⟨[], [], [], [], rfl, rfl, by rw [List.take_nil]; exact ⟨rfl, rfl⟩⟩
  | a :: els, B, vs, 0, e => ⟨[], B, [], vs, rfl, rfl, ⟨rfl, rfl⟩⟩
  | a :: els, B, vs, n + 1, e => by
    obtain ⟨B1, B2, v1, v2, rfl, rfl, g1, g2⟩ := e
    obtain ⟨C, D, v, w, rfl, rfl, g3⟩ := ows.split n g2
    exact ⟨B1 ++ C, D, v1 ++ v, w, by simp, by simp, B1, C, v1, v, rfl, rfl, g1, g3⟩
/-- An own slice cut. -/
theorem SlO.take (O : SlO e s B b l c els) (M : Mem h0 h (B ++ L)) (hn : n ≤ l) : ∃ B', SlO e s B' b n c (els.take n) ∧ Mem h0 h (B' ++ L) := by
  obtain ⟨h1, ws, B1, B2, rfl, O1, O2⟩ := O
  obtain ⟨C, D, v, w, rfl, rfl, O3⟩ := O2.split n
  have hv := O3.len
  rw [List.length_take, Nat.min_eq_left (by omega)] at hv
  refine ⟨B1 ++ C, ⟨by rw [List.length_take]; omega, v, B1, C, rfl, ⟨hv, ?_⟩, O3⟩, M.cnt fun p => by simp only [cnt_app]; omega⟩
  rcases O1.2 with ⟨e1, e2, e3, e4⟩ | ⟨g, cs, e1, e2, e3, e4, e5, e6⟩
  · exact .inl ⟨e1, e2, by omega, e4⟩
  · refine .inr ⟨g, cs, e1, e2, by omega, e4, e5, ?_⟩
    have : cs.toList.take (n * s.sz) = (cs.toList.take (l * s.sz)).take (n * s.sz) := by
      rw [List.take_take, Nat.min_eq_left (Nat.mul_le_mul_right _ hn)]
    rw [this, e6, ← hv, List.take_left]
end
section
variable {α β : Type} {r : Rep α} {s : Rep β} {P : Program} {h0 h : Heap} {q : Addr} {F : Fr} {L Bn : List Blk} {a : α} {off t e bytes ty l c n m : Nat} {b : Option Addr} {get : α → List β} {put : α → List β → α} {cs : Array Value} {ys : List β}
/-- Elements appended to a slice within own data, and the slice stored there. -/
theorem Pt.appW {K : Heap → Prop} (W : Heap → Prop → Prop) (pn : ∀ h1 p, Ext h h1 → p → W h1 p) (Pa : Pt r h0 h q F (Bn ++ L) a) [Fc : FocC r off (rSl e s) get put] (hb : cell h (q.add off) = some (.slice b l c)) (E : ElemT P t e s.sz bytes) (Ox : ows s Bn cs.toList ys) (hm : ys.length = m)
    (hmax : (get a).length + m ≤ maxLen) (hbytes : ((get a).length + m) * bytes ≤ 140737488355328) (H : ∀ h', Pt r h0 h' q F L (put a (get a ++ ys)) → K h') :
    ALC cs e (fun g h1 => W h1 (SEMV P (Builtin.append_ #[t, t] ty #[.slice b l c, .slice (some ⟨g, 0, none⟩) m m]) (fun u h => asL u fun b l c => ST1 h (q.add off) (.slice b l c) K) h1)) h := by
  obtain ⟨F1, C, P1, close⟩ := Pa.focX Fc.f
  obtain ⟨eq, mid, B, M, b', l', c', rfl, O⟩ := P1
  have e0 : cell h (q.add off) = some (.slice b' l' c') := by rw [eq, M.cell .here]; simp
  rw [hb] at e0
  cases e0
  have hl : (get a).length = l := O.1
  refine app_own (L := (F1.g, F1.T, ⟨F1.pre ++ ([.slice b l c] ++ F1.post)⟩) :: (C ++ L)) W pn E O (M.cnt fun p => by simp only [cnt_app, cnt_cons, cnt_nil]; omega) Ox hm (by omega) (by rw [← hl]; exact hbytes) fun b' c' h' B' O' M' => as_l ?_
  rw [eq]
  have M2 : Mem h0 h' ((F1.g, F1.T, ⟨F1.pre ++ ([.slice b l c] ++ F1.post)⟩) :: (B' ++ (C ++ L))) := M'.cnt fun p => by simp only [cnt_app, cnt_cons, cnt_nil]; omega
  refine M2.st1M rfl fun h2 M3 => H h2 ?_
  exact (close h0 h2 L _ ⟨eq, [.slice b' (l + m) c'], B', M3, _, _, _, rfl, O'⟩).1
theorem Pt.app0 {K : Heap → Prop} (Pa : Pt r h0 h q F (Bn ++ L) a) [Fc : FocC r off (rSl e s) get put] (hb : cell h (q.add off) = some (.slice b l c)) (E : ElemT P t e s.sz bytes) (Ox : ows s Bn cs.toList ys) (hm : ys.length = m)
    (hmax : (get a).length + m ≤ maxLen) (hbytes : ((get a).length + m) * bytes ≤ 140737488355328) (H : ∀ h', Pt r h0 h' q F L (put a (get a ++ ys)) → K h') :
    ALC cs e (fun g h1 => SEMV P (Builtin.append_ #[t, t] ty #[.slice b l c, .slice (some ⟨g, 0, none⟩) m m]) (fun u h => asL u fun b l c => ST1 h (q.add off) (.slice b l c) K) h1) h :=
  Pt.appW (fun _ p => p) (fun _ _ _ H => H) Pa hb E Ox hm hmax hbytes H
theorem Pt.appP {K : Heap → Prop} (Pa : Pt r h0 h q F (Bn ++ L) a) [Fc : FocC r off (rSl e s) get put] (hb : cell h (q.add off) = some (.slice b l c)) (E : ElemT P t e s.sz bytes) (Ox : ows s Bn cs.toList ys) (hm : ys.length = m)
    (hmax : (get a).length + m ≤ maxLen) (hbytes : ((get a).length + m) * bytes ≤ 140737488355328) (H : ∀ h', Pt r h0 h' q F L (put a (get a ++ ys)) → K h') :
    ALC cs e (fun g h1 => PIN h (q.add off) 1 h1 <| SEMV P (Builtin.append_ #[t, t] ty #[.slice b l c, .slice (some ⟨g, 0, none⟩) m m]) (fun u h => asL u fun b l c => ST1 h (q.add off) (.slice b l c) K) h1) h :=
  Pt.appW (fun h1 p => PIN h (q.add off) 1 h1 p) (fun h1 p x H => pin x (fun j hj => ⟨.slice b l c, by obtain rfl : j = 0 := (by omega); rw [add0]; exact hb⟩) H) Pa hb E Ox hm hmax hbytes H
theorem Pt.stTake {K : Heap → Prop} (Pa : Pt r h0 h q F L a) [Fc : FocC r off (rSl e s) get put] (hb : cell h (q.add off) = some (.slice b l c)) (hn : n ≤ l) (H : ∀ h', Pt r h0 h' q F L (put a ((get a).take n)) → K h') : ST1 h (q.add off) (.slice b n c) K := by
  obtain ⟨F1, C, P1, close⟩ := Pa.focX Fc.f
  obtain ⟨eq, mid, B, M, b', l', c', rfl, O⟩ := P1
  have e0 : cell h (q.add off) = some (.slice b' l' c') := by rw [eq, M.cell .here]; simp
  rw [hb] at e0
  cases e0
  obtain ⟨B', O', M'⟩ := O.take (L := (F1.g, F1.T, ⟨F1.pre ++ ([.slice b l c] ++ F1.post)⟩) :: (C ++ L)) (M.perm List.perm_middle.symm) hn
  have M2 := M'.perm List.perm_middle
  rw [eq]
  refine M2.st1M rfl fun h2 M3 => H h2 ?_
  exact (close h0 h2 L _ ⟨eq, [.slice b n c], B', M3, _, _, _, rfl, O'⟩).1
end
theorem ows_one {α : Type} {r : Rep α} {B : List Blk} {vs : List Value} {x : α} (O : r.ow B vs x) : ows r B vs [x] := ⟨B, [], vs, [], by simp, by simp, O, rfl, rfl⟩
def tuneOk (base : Nat) (n : Int) : Bool := inside base 1065353216 1184645120 && inR n 1 31
def tuneT (base : Nat) (n : Int) : GTuning := if tuneOk base n then equalT base n.toNat else z_Tuning
def tuneE (base : Nat) (n : Int) : Int := if tuneOk base n then 0 else 2
def degs (n i : Nat) : List Nat := (List.range i).map fun i : Nat => fdiv .f32 (FloatKind.f32.nearest (1200 * (i : Int))) (FloatKind.f32.nearest n)
theorem degs_succ (n i : Nat) : degs n (i + 1) = degs n i ++ [fdiv .f32 (FloatKind.f32.nearest (1200 * (i : Int))) (FloatKind.f32.nearest n)] := by
  unfold degs
  rw [List.range_succ, List.map_append]; rfl
theorem degs_len (n i : Nat) : (degs n i).length = i := by unfold degs; simp
theorem times_1200 {i : Nat} (h : i < 31) : fmul .f32 1150681088 (FloatKind.f32.nearest (i : Int)) = FloatKind.f32.nearest (1200 * (i : Int)) := by
  have A : ∀ i : Fin 31, fmul .f32 1150681088 (FloatKind.f32.nearest ((i.val : Nat) : Int)) = FloatKind.f32.nearest (1200 * ((i.val : Nat) : Int)) := by decide +kernel
  exact A ⟨i, h⟩
section
variable {h : Heap} {a x : Nat} {n : Int}
theorem fw_1200 : FW .f32 1150681088 1150681088 := fw_c32 (by decide) (by decide)
theorem spec_EqualTuning_c (hx : FW .f32 x a) : CALL prg f_spec_EqualTuning #[.float .f32 x, .int .i64 n] (fun u h' => PairR rTuning h h' u (tuneT a n) (tuneE a n)) h := by
  refine spec_EqualTuning.call ((Mem.start h).alc fun g1 h2 x2 M => ?_)
  have bad : ∀ {hh : Heap}, Mem h hh [(g1, T_impl_Tuning, ⟨Z_impl_Tuning⟩)] → tuneOk a n = false → STA 3 hh ⟨g1, 0, none⟩ ⟨Z_impl_Tuning⟩ fun h8 => LDA 3 h8 ⟨g1, 0, none⟩ fun a9 => PairR rTuning h h8 (.tuple ⟨[.agg a9, .int .i64 2]⟩) (tuneT a n) (tuneE a n) := fun M e => by
    unfold tuneT tuneE
    rw [e]
    exact M.sta0 .here rfl (all_one rfl) rfl .here fun h3 M => M.lda0 .here rfl ⟨_, [], rfl, zow_Tuning, M.drop⟩
  refine goM M (l07Base_c hx _) fun h4 M => as_b (brN (fun e => bad M (by unfold tuneOk; rw [e]; rfl)) fun e1 => ?_)
  refine goM M (l00In_c _ _ _ _) fun h9 M => as_b (brN (fun e => bad M (by unfold tuneOk; rw [e, Bool.and_false])) fun e2 => ?_)
  unfold spec_EqualTuning.J3
  have hn := e2
  simp only [inR, Bool.and_eq_true, decide_eq_true_eq] at hn
  obtain ⟨k, rfl⟩ := Int.eq_ofNat_of_zero_le (show 0 ≤ n by omega)
  have hmx : 31 ≤ maxLen := by decide
  have ok : tuneOk a (k : Int) = true := by unfold tuneOk; rw [e1, e2]; rfl
  refine M.alc fun g13 h14 x14 M => ?_
  have O0 : rTuning.ow [] [.float .f32 x, .float .f32 1150681088, .slice none 0 0] ⟨a, 1150681088, []⟩ := ⟨[], [], [_], [_, _], rfl, rfl, ⟨rfl, x, rfl, hx⟩, [], [], [_], [_], rfl, rfl, ⟨rfl, _, rfl, fw_1200⟩, _, _, _, rfl, SlO.nil⟩
  refine M.sta0 .here rfl (rTuning.oone O0) rfl .here fun h15 M => ?_
  have P : Pt rTuning h h15 ⟨g13, 0, none⟩ ⟨g13, T_impl_Tuning, [], []⟩ [(g1, T_impl_Tuning, ⟨Z_impl_Tuning⟩)] ⟨a, 1150681088, degs k 0⟩ := Pt.new O0 M
  refine loop (fun y hh => ∃ i : Nat, y = ((k : Int), (⟨g1, 0, none⟩ : Addr), (⟨g13, 0, none⟩ : Addr), (i : Int)) ∧ i ≤ k ∧ Pt rTuning h hh ⟨g13, 0, none⟩ ⟨g13, T_impl_Tuning, [], []⟩ [(g1, T_impl_Tuning, ⟨Z_impl_Tuning⟩)] ⟨a, 1150681088, degs k i⟩)
    (fun y => ((k : Int) - y.2.2.2).toNat) ⟨0, rfl, by omega, P⟩ ?_
  clear P M
  rintro y hh ⟨i, rfl, hi, P⟩
  refine brd (fun hc => ?_) fun hc => ?_
  · obtain ⟨b, l, c, eb, _⟩ := P.hdr (off := 2) (e := T_float32) (s := rF .f32)
    refine o_l eb (fM fw_1200 (fw_nearest _ _) fun r17 h17 => fD h17 (fw_nearest _ _) fun r18 h18 => ?_)
    rw [times_1200 (by omega)] at h18
    have hlen : (degs k i).length = i := degs_len k i
    refine Pt.app0 (off := 2) (Bn := []) P eb E_sl_float32 (ows_one (r := rF .f32) ⟨rfl, r18, rfl, h18⟩) rfl (by show (degs k i).length + 1 ≤ _; omega) (by show ((degs k i).length + 1) * 4 ≤ _; omega) fun h24 P => ?_
    refine ⟨⟨i + 1, by rw [wrap64_succ (by omega)], by omega, ?_⟩, by rw [wrap64_succ (by omega)]; show ((k : Int) - ((i + 1 : Nat) : Int)).toNat < ((k : Int) - (i : Int)).toNat; omega⟩
    rw [degs_succ]
    exact P
  · obtain rfl : i = k := by omega
    obtain ⟨cs, B, M, O⟩ := P.out
    refine M.lda0 .here (osz O rfl) ?_
    have M := M.cnt (W := (g1, T_impl_Tuning, ⟨Z_impl_Tuning⟩) :: B) (fun p => by simp only [cnt_app, cnt_cons, cnt_nil] at *; omega)
    refine M.sta0 .here (osz O rfl) (rTuning.oone O) rfl .here fun h3 M => M.lda0 .here (osz O rfl) ?_
    unfold tuneT tuneE
    rw [ok]
    exact ⟨_, B, rfl, O, M.drop⟩
theorem impl_EqualTuning_c (hx : FW .f32 x a) : CALL prg f_impl_EqualTuning #[.float .f32 x, .int .i64 n] (fun u h' => PairR rTuning h h' u (tuneT a n) (tuneE a n)) h := by
  refine impl_EqualTuning.call ((Mem.start h).alc fun g1 h2 x2 M => ?_)
  have bad : ∀ {hh : Heap}, Mem h hh [(g1, T_impl_Tuning, ⟨Z_impl_Tuning⟩)] → tuneOk a n = false → STA 3 hh ⟨g1, 0, none⟩ ⟨Z_impl_Tuning⟩ fun h8 => LDA 3 h8 ⟨g1, 0, none⟩ fun a9 => PairR rTuning h h8 (.tuple ⟨[.agg a9, .int .i64 2]⟩) (tuneT a n) (tuneE a n) := fun M e => by
    unfold tuneT tuneE
    rw [e]
    exact M.sta0 .here rfl (all_one rfl) rfl .here fun h3 M => M.lda0 .here rfl ⟨_, [], rfl, zow_Tuning, M.drop⟩
  refine goM M (isBase_c hx _) fun h4 M => as_b (brN (fun e => bad M (by unfold tuneOk; rw [e]; rfl)) fun e1 => ?_)
  refine goM M (within_c _ _ _ _) fun h9 M => as_b (brN (fun e => bad M (by unfold tuneOk; rw [e, Bool.and_false])) fun e2 => ?_)
  unfold impl_EqualTuning.J3
  have hn := e2
  simp only [inR, Bool.and_eq_true, decide_eq_true_eq] at hn
  obtain ⟨k, rfl⟩ := Int.eq_ofNat_of_zero_le (show 0 ≤ n by omega)
  have hmx : 31 ≤ maxLen := by decide
  have ok : tuneOk a (k : Int) = true := by unfold tuneOk; rw [e1, e2]; rfl
  refine M.alc fun g13 h14 x14 M => ?_
  have O0 : rTuning.ow [] [.float .f32 x, .float .f32 1150681088, .slice none 0 0] ⟨a, 1150681088, []⟩ := ⟨[], [], [_], [_, _], rfl, rfl, ⟨rfl, x, rfl, hx⟩, [], [], [_], [_], rfl, rfl, ⟨rfl, _, rfl, fw_1200⟩, _, _, _, rfl, SlO.nil⟩
  refine M.sta0 .here rfl (rTuning.oone O0) rfl .here fun h15 M => ?_
  have P : Pt rTuning h h15 ⟨g13, 0, none⟩ ⟨g13, T_impl_Tuning, [], []⟩ [(g1, T_impl_Tuning, ⟨Z_impl_Tuning⟩)] ⟨a, 1150681088, degs k 0⟩ := Pt.new O0 M
  refine loop (fun y hh => ∃ i : Nat, y = ((k : Int), (⟨g1, 0, none⟩ : Addr), (⟨g13, 0, none⟩ : Addr), (k : Int), (i : Int)) ∧ i ≤ k ∧ Pt rTuning h hh ⟨g13, 0, none⟩ ⟨g13, T_impl_Tuning, [], []⟩ [(g1, T_impl_Tuning, ⟨Z_impl_Tuning⟩)] ⟨a, 1150681088, degs k i⟩)
    (fun y => ((k : Int) - y.2.2.2.2).toNat) ⟨0, rfl, by omega, P⟩ ?_
  clear P M
  rintro y hh ⟨i, rfl, hi, P⟩
  refine brd (fun hc => ?_) fun hc => ?_
  · obtain ⟨b, l, c, eb, _⟩ := P.hdr (off := 2) (e := T_float32) (s := rF .f32)
    rw [wrap64 (n := 1200 * (i : Int)) (by omega) (by omega)]
    refine o_l eb (fD (fw_nearest _ _) (fw_nearest _ _) fun r18 h18 => ?_)
    have hlen : (degs k i).length = i := degs_len k i
    refine Pt.app0 (off := 2) (Bn := []) P eb E_sl_float32 (ows_one (r := rF .f32) ⟨rfl, r18, rfl, h18⟩) rfl (by show (degs k i).length + 1 ≤ _; omega) (by show ((degs k i).length + 1) * 4 ≤ _; omega) fun h24 P => ?_
    refine ⟨⟨i + 1, by rw [wrap64_succ (by omega)], by omega, ?_⟩, by rw [wrap64_succ (by omega)]; show ((k : Int) - ((i + 1 : Nat) : Int)).toNat < ((k : Int) - (i : Int)).toNat; omega⟩
    rw [degs_succ]
    exact P
  · obtain rfl : i = k := by omega
    obtain ⟨cs, B, M, O⟩ := P.out
    refine M.lda0 .here (osz O rfl) ?_
    have M := M.cnt (W := (g1, T_impl_Tuning, ⟨Z_impl_Tuning⟩) :: B) (fun p => by simp only [cnt_app, cnt_cons, cnt_nil] at *; omega)
    refine M.sta0 .here (osz O rfl) (rTuning.oone O) rfl .here fun h3 M => M.lda0 .here (osz O rfl) ?_
    unfold tuneT tuneE
    rw [ok]
    exact ⟨_, B, rfl, O, M.drop⟩
end
end Go.Sx
