/- Jets told and read. -/
import Derived.Test.YteahcankljndlaaGreatDoorLvm
import Derived.Test.YteahcankljndlaaGreatDoorLk78
import Derived.Test.YteahcankljndlaaGreatDoorLp4
import Derived.Test.YteahcankljndlaaGreatDoorLgn
import Derived.Test.YteahcankljndlaaGreatDoorDr
import Derived.Test.YteahcankljndlaaGreatDoorJB
set_option linter.unusedVariables false
set_option linter.unusedSimpArgs false
namespace Go.Sx
open Go.Proofs
set_option maxRecDepth 100000
set_option maxHeartbeats 2000000

theorem word_jet : Word jetW := fun b hb => by
  have : ∀ b ∈ jetW, b ≠ 32 ∧ b ≠ 10 := by decide
  exact this b hb
theorem jet_lines (x : GJet) : x.lines = pairL jetW x.Near x.Far [x.Low, x.Dc] x.Throat x.Bore := rfl
section
variable {h0 h : Heap} {L : List Blk}
/-- Two floats in a new block. -/
theorem two_slr {g y z a b : Nat} {h0 h : Heap} {L : List Blk} (M : Mem h0 h L) (l : Look L g ⟨[.float .f32 y, .float .f32 z]⟩) (hy : FW .f32 y a) (hz : FW .f32 z b) : SlR (rF .f32) h (some ⟨g, 0, none⟩) 2 2 [a, b] :=
  ⟨rfl, Nat.le_refl _, by decide, [.float .f32 y, .float .f32 z], fun i hi => ⟨_, rfl, by rw [add_none, M.cell l, Nat.zero_add, List.getElem?_toArray]⟩, [.float .f32 y], _, rfl, ⟨y, rfl, hy⟩, [.float .f32 z], [], rfl, ⟨z, rfl, hz⟩, rfl⟩
theorem cells_drop {a : Addr} {ws : List Value} (C : Cells h (some a) ws) (n : Nat) : Cells h (some (a.add n)) (ws.drop n) := fun i hi => by
  rw [List.length_drop] at hi
  obtain ⟨_, e, e2⟩ := C (n + i) (by omega)
  cases e
  exact ⟨_, rfl, by rw [add_add', e2, List.getElem?_drop]⟩
theorem pin_cells {a : Addr} {ws : List Value} {h' : Heap} {p : Prop} {n : Nat} (C : Cells h (some a) ws) (hn : n ≤ ws.length) (X : Ext h h') (H : p) : PIN h a n h' p := pin X (fun j hj => ⟨ws[j], C.get (List.getElem?_eq_getElem (by omega))⟩) H
theorem two_cells {b : Option Addr} {l c a1 a2 : Nat} (S : SlR (rF .f32) h b l c [a1, a2]) : ∃ a y z, b = some a ∧ Cells h (some a) [.float .f32 y, .float .f32 z] ∧ FW .f32 y a1 ∧ FW .f32 z a2 := by
  obtain ⟨_, _, _, ws, C, w1, r1, e1, ⟨y0, rfl, f0⟩, w2, r2, e2, ⟨y1, rfl, f1⟩, e3⟩ := S
  have e3 : r2 = [] := e3
  subst e3 e2 e1
  obtain ⟨a, rfl⟩ := C.base (by simp)
  exact ⟨a, y0, y1, rfl, C, f0, f1⟩
theorem two_filters {b : Option Addr} {l c : Nat} {f f' : GFilter} (S : SlR rFilter h b l c [f, f']) : ∃ a v v', b = some a ∧ Cells h (some a) (flT v ++ flT v') ∧ rFilter.ow [] (flT v) f ∧ rFilter.ow [] (flT v') f' := by
  obtain ⟨_, _, _, ws, C, w1, r1, e1, R1, w2, r2, e2, R2, e3⟩ := S
  have e3 : r2 = [] := e3
  obtain ⟨v, rfl, O⟩ := filter_cells R1
  obtain ⟨v', rfl, O'⟩ := filter_cells R2
  subst e3 e2 e1
  obtain ⟨a, rfl⟩ := C.base (by simp [flT, flC])
  exact ⟨a, v, v', rfl, by simpa using C, O, O'⟩
theorem two_rings {B : List Blk} {b : Option Addr} {l c : Nat} {r r' : GRing} (O : SlO T_impl_Ring rRing B b l c [r, r']) (M : Mem h0 h L) (s : B.Sublist L) : ∃ a b1 l1 c1 b2 l2 c2 B1 B2, b = some a ∧ Cells h (some a) [.slice b1 l1 c1, .int .i64 r.At, .slice b2 l2 c2, .int .i64 r'.At] ∧
    SlO T_float32 (rF .f32) B1 b1 l1 c1 r.Samples ∧ SlO T_float32 (rF .f32) B2 b2 l2 c2 r'.Samples ∧ (B1 ++ B2).Sublist B := by
  obtain ⟨_, ws, C1, C2, rfl, Ow, D1, E1, v1, u1, e1, e2, R1, D2, E2, v2, u2, e3, e4, R2, e5, e6⟩ := O
  obtain ⟨b1, l1, c1, k1, O1⟩ := ring_cells (cs := ⟨v1⟩) R1
  obtain ⟨b2, l2, c2, k2, O2⟩ := ring_cells (cs := ⟨v2⟩) R2
  have k1 : v1 = _ := congrArg Array.toList k1
  have k2 : v2 = _ := congrArg Array.toList k2
  subst e5 e6 e4 e3 e2 e1 k1 k2
  have C := Ow.cells M ((List.sublist_append_left _ _).trans s)
  obtain ⟨a, rfl⟩ := C.base (by simp)
  refine ⟨a, b1, l1, c1, b2, l2, c2, D1, D2, rfl, C, O1, O2, ?_⟩
  rw [List.append_nil]
  exact List.sublist_append_right _ _
theorem JetText_c {cs : Array Value} {x : GJet} (R0 : rJet.rd h cs.toList x) (hok : x.ok = true) (T : Txt h) : CALL prg f_impl_JetText #[.agg cs] (fun u h' => u = .string (mkB (linL x.lines)) ∧ Ext h h') h := by
  refine impl_JetText.call (alcR R0 fun g h1 x1 R => R.lda1 rfl fun c1 R1 => goX (ValidJet_c R1) fun h2 x2 => as_b ?_)
  rw [hok]
  have R := R.ext x2
  have A := jet_a R hok
  have T := T.ext (x1.trans x2)
  have X0 := x1.trans x2
  have s1 := A.n.b
  have s1 := smp_le s1
  have s2 := A.l.b.size
  have s3 := A.d.b.size
  have s4 := A.t.b.size
  have s5 := A.b.b.size
  simp only [List.length_cons, List.length_nil] at s1
  have fl : x.Low.ok = true ∧ x.Dc.ok = true := by
    unfold GJet.ok at hok
    simp only [Bool.and_eq_true] at hok
    exact ⟨hok.1.1.2.1, hok.1.2.1⟩
  refine br_f rfl (R.oF2 fun y hy => R.oF2 fun z hz => R.lda2 foc_Jet_Low rfl fun cl Rl => R.lda2 foc_Jet_Dc rfl fun cd Rd => (R.fst foc_Jet_Throat).lda1 rfl fun ct Rt => R.lda2 foc_Jet_Bore rfl fun cb Rb => ?_)
  have PN : ∀ (off n : Nat) {hh : Heap} {p : Prop}, off + n ≤ rJet.sz → Ext h2 hh → p → PIN h2 ⟨g, off, none⟩ n hh p := fun off n {hh p} hj X H => by
    have q1 := R.pinO (off := off) (n := n) hj X H
    rwa [add_g] at q1
  refine (Mem.start h2).alc fun g13 h3 x3 M => PN 2 2 (by decide) M.ext (PN 0 2 (by decide) M.ext (PN 10 6 (by decide) M.ext (PN 4 6 (by decide) M.ext ?_)))
  refine goM M (samplesText_c (two_slr M .here hy hz) (by decide) (T.ext M.ext).br) fun h4 M => as_s (PN 2 2 (by decide) M.ext (PN 0 2 (by decide) M.ext (PN 10 6 (by decide) M.ext (PN 4 6 (by decide) M.ext ?_))))
  refine ⟨by simp only [ba_len, mk_size, List.length_cons, List.length_nil]; omega, by simp only [ba_len, mk_size, List.length_cons, List.length_nil]; omega, ?_⟩
  refine goM M (FilterText_c (rFilter.ext M.ext Rl) fl.1 A.l (T.ext M.ext)) fun h5 M => as_s (PN 2 2 (by decide) M.ext (PN 0 2 (by decide) M.ext (PN 10 6 (by decide) M.ext ?_)))
  refine ⟨by simp only [ba_len, mk_size, List.length_cons, List.length_nil]; omega, by simp only [ba_len, mk_size, List.length_cons, List.length_nil]; omega, ?_⟩
  refine goM M (FilterText_c (rFilter.ext M.ext Rd) fl.2 A.d (T.ext M.ext)) fun h6 M => as_s (PN 2 2 (by decide) M.ext (PN 0 2 (by decide) M.ext ?_))
  refine ⟨by simp only [ba_len, mk_size, List.length_cons, List.length_nil]; omega, by simp only [ba_len, mk_size, List.length_cons, List.length_nil]; omega, ?_⟩
  refine goM M (ringText_c (rRing.ext M.ext Rt) A.t (T.ext M.ext)) fun h7 M => as_s (PN 2 2 (by decide) M.ext ?_)
  refine ⟨by simp only [ba_len, mk_size, List.length_cons, List.length_nil]; omega, by simp only [ba_len, mk_size, List.length_cons, List.length_nil]; omega, ?_⟩
  refine goM M (ringText_c (rRing.ext M.ext Rb) A.b (T.ext M.ext)) fun h8 M => as_s ?_
  refine ⟨by simp only [ba_len, mk_size, List.length_cons, List.length_nil]; omega, by simp only [ba_len, mk_size, List.length_cons, List.length_nil]; omega, ?_, X0.trans M.ext⟩
  have e10 : (⟨#[10]⟩ : ByteArray) = mkB [10] := rfl
  have e4 : (⟨#[106, 101, 116, 32]⟩ : ByteArray) = mkB (jetW ++ [32]) := rfl
  rw [e10, e4]
  simp only [mkB_app, List.append_assoc]
  unfold GJet.lines headL
  simp [linL]
theorem ReadJet_ok {x : GJet} (hok : x.ok = true) (A : JetA x) (T : Txt h) : CALL prg f_impl_ReadJet #[.string (mkB (linL x.lines))] (fun u h' => PairR rJet h h' u x 0) h := by
  have fl : x.Low.ok = true ∧ x.Dc.ok = true := by
    unfold GJet.ok at hok
    simp only [Bool.and_eq_true] at hok
    exact ⟨hok.1.1.2.1, hok.1.2.1⟩
  rw [jet_lines]
  refine impl_ReadJet.call ((Mem.start h).alc fun g1 h1 x1 M => ?_)
  have rp := readPair_ok (fs := [x.Low, x.Dc]) word_jet (by decide) A.n (fun f hf => by
    simp only [List.mem_cons, List.not_mem_nil, or_false] at hf
    rcases hf with rfl | rfl
    · exact ⟨A.l, fl.1⟩
    · exact ⟨A.d, fl.2⟩) A.t A.b (show 2 ≤ 2 by decide) (T.ext M.ext)
  refine rp.mono ?_
  rintro _ h2 ⟨b1, c1, b2, c2, b3, c3, B1, B2, B3, rfl, O1, O2, O3, N⟩
  have M := (M.join N).cnt (W := (g1, T_impl_Jet, ⟨Z_impl_Jet⟩) :: (B1 ++ (B2 ++ B3))) (fun p => by simp only [List.append_eq, cnt_app, cnt_cons, cnt_nil] at *; omega)
  refine tup4 (as_l (as_l (as_l (as_b (br_f rfl ?_)))))
  obtain ⟨p1, y, z, rfl, C1, hy, hz⟩ := two_cells (O1.look M ((List.sublist_append_left _ _).trans (List.sublist_cons_self _ _)))
  obtain ⟨p2, v, v', rfl, C2, hv, hv'⟩ := two_filters (O2.look M ((List.sublist_append_left _ _).trans ((List.sublist_append_right _ _).trans (List.sublist_cons_self _ _))))
  obtain ⟨p3, bt, lt, ct, bb, lb, cb, Bt, Bb, rfl, C3, Ot, Ob, sub⟩ := two_rings O3 M ((List.sublist_append_right _ _).trans ((List.sublist_append_right _ _).trans (List.sublist_cons_self _ _)))
  have C3' := cells_drop C3 2
  have C2' := cells_drop C2 6
  have C1' := cells_drop C1 1
  refine idxs (by simp [flT, flC]) (by simp [flT, flC]) (cells_lda C3 (by simp) (idxs (by simp [flT, flC]) (by simp [flT, flC]) (cells_lda C3' (by simp [flT, flC]) ?_)))
  refine idxs (by simp [flT, flC]) (by simp [flT, flC]) (cells_lda C2 (by simp [flT, flC]) (idxs (by simp [flT, flC]) (by simp [flT, flC]) (cells_lda C2' (by simp [flT, flC]) ?_)))
  refine idxs (by simp [flT, flC]) (by simp [flT, flC]) (o_f (C1.get0 rfl) (idxs (by simp [flT, flC]) (by simp [flT, flC]) (o_f (C1'.get0 rfl) ?_)))
  refine siz rfl (siz rfl (siz rfl (siz rfl ?_)))
  have M := M.sub (List.Sublist.cons_cons _ (sub.trans ((List.sublist_append_right B2 B3).trans (List.sublist_append_right B1 _))))
  refine M.alc fun g27 h3 x3 M => pin_cells C1' (by simp [flT, flC]) x3 (pin_cells C1 (by simp [flT, flC]) x3 (pin_cells C2' (by simp [flT, flC]) x3 (pin_cells C2 (by simp [flT, flC]) x3 (pin_cells C3' (by simp [flT, flC]) x3 (pin_cells C3 (by simp [flT, flC]) x3 ?_)))))
  have OJ := jet_ow (x := x) Ot Ob hv hv' hy hz
  refine M.sta0 (vs := ⟨jeL bt lt ct x.Throat.At bb lb cb x.Bore.At v v' y z⟩) .here rfl jeL_one rfl .here fun h4 M => M.lda0 .here rfl ?_
  have RJ : rJet.rd h4 (⟨jeL bt lt ct x.Throat.At bb lb cb x.Bore.At v v' y z⟩ : Array Value).toList x := rJet.look OJ M ((List.sublist_cons_self _ _).trans (List.sublist_cons_self _ _))
  refine goM M (JetText_c RJ hok (T.ext M.ext)) fun h5 M => as_s ?_
  rw [← jet_lines]
  refine br_f (by simp) (M.lda0 .here rfl ?_)
  have M := M.drop
  exact M.sta0 .here rfl jeL_one rfl .here fun h6 M => M.lda0 .here rfl ⟨_, _, rfl, OJ, M.drop⟩
end
end Go.Sx
/- A slice that is read, appended to an own one. -/
set_option linter.unusedVariables false
set_option linter.unusedSimpArgs false
namespace Go.Sx
section
variable {α : Type} {P : Program} {r : Rep α} {h0 h : Heap} {L : List Blk} {t e bytes ty : Nat} {b b2 : Option Addr} {l c l2 c2 : Nat} {xs ys : List α} {K : Value → Heap → Prop}
theorem app_slr {B : List Blk} (E : ElemT P t e r.sz bytes) (hz : 0 < r.sz) (hf : Flat r) (O : SlO e r B b l c xs) (S : SlR r h b2 l2 c2 ys) (M : Mem h0 h (B ++ L)) (hm : l + l2 ≤ maxLen) (hb : (l + l2) * bytes ≤ 140737488355328)
    (H : ∀ b' c' h' B', SlO e r B' b' (l + l2) c' (xs ++ ys) → Mem h0 h' (B' ++ L) → K (.slice b' (l + l2) c') h') : SEMV P (Builtin.append_ #[t, t] ty #[.slice b l c, .slice b2 l2 c2]) K h := by
  obtain ⟨h1, h2, h3, ws, C, R⟩ := S
  cases b2 with
  | some a => exact O.app (Bn := []) E (by simpa using M) h1 (flat_rds hf R) (fun j v hj => C.get hj) hm hb fun b' c' h' B' O' M' => H b' c' h' B' O' M'
  | none =>
    have hw : ws = [] := by
      cases ws with
      | nil => rfl
      | cons w ws => obtain ⟨a, e, _⟩ := C 0 (by simp); cases e
    subst hw
    have hx : ys.length * r.sz = 0 := by rw [← R.len]; rfl
    have hl : l2 = 0 := by
      rcases Nat.mul_eq_zero.1 hx with h | h <;> omega
    subst hl
    obtain rfl : ys = [] := List.eq_nil_of_length_eq_zero h1
    obtain ⟨i, z, hi, hz', e1, e2, hzs⟩ := E.hi
    have hlc : l ≤ c := by
      obtain ⟨_, _, _, _, _, O1, _⟩ := O
      exact O1.le
    have HH := H b c h B (by rw [List.append_nil]; exact O) M
    rw [Nat.add_zero] at HH
    refine semv fun w hw => ⟨.slice b l c, w, ?_, Same.refl _, by rw [hw]; exact HH⟩
    simp [Builtin.append_, run_underlying E.ht, sizeOf, typeInfo, hi, Builtin.lenOf, Builtin.firstCells, loadCells, loadCellsFrom, storeCells, hlc]
    cases b <;> rfl
end
end Go.Sx
/- New values kept in blocks, and what is read of them. -/
set_option linter.unusedVariables false
set_option linter.unusedSimpArgs false
namespace Go.Sx
open Go.Proofs
set_option maxRecDepth 100000
set_option maxHeartbeats 2000000

/-- Bytes that are read. -/
structure Reads (h : Heap) (cb mb : Option Addr) (code more : List Int) : Prop where
  c : Cells h cb (iv .u8 code)
  m : Cells h mb (iv .u8 more)
  bc : Byt' code
  bm : Byt' more
theorem Reads.ext {h h' : Heap} {cb mb : Option Addr} {code more : List Int} (G : Reads h cb mb code more) (X : Ext h h') : Reads h' cb mb code more := ⟨G.c.ext X, G.m.ext X, G.bc, G.bm⟩
theorem keepIn {α : Type} {r : Rep α} {h hh : Heap} {B W : List Blk} {cs Z : Array Value} {x : α} {T n : Nat} {F : Nat → Heap → Prop} (O : r.ow B cs.toList x) (hn : r.sz = n) (hz : Z.size = n) (M : Mem h hh W) (H : ∀ g h2, Mem h h2 ((g, T, cs) :: W) → F g h2) : ALC Z T (fun g h1 => STA n h1 ⟨g, 0, none⟩ cs fun h2 => F g h2) hh :=
  M.alc fun g h1 _ M => M.sta0 .here (by rw [← hn]; simpa using r.olen O) (r.oone O) hz .here fun h2 M => H g h2 M
theorem keepR {α : Type} {r : Rep α} {h hh : Heap} {B : List Blk} {cs Z : Array Value} {x : α} {T n : Nat} {F : Nat → Heap → Prop} (O : r.ow B cs.toList x) (hn : r.sz = n) (hz : Z.size = n) (M : Mem h hh B) (H : ∀ g h2, Ext h h2 → RdP r h2 ⟨g, 0, none⟩ x → F g h2) : ALC Z T (fun g h1 => STA n h1 ⟨g, 0, none⟩ cs fun h2 => F g h2) hh :=
  keepIn O hn hz M fun g h2 M => H g h2 M.ext (M.rdp .here (r.look O M (List.sublist_cons_self _ _)))
/-- A thing kept, beside a slice of floats. -/
theorem keepS {α : Type} {r : Rep α} {h hh : Heap} {B C : List Blk} {cs Z : Array Value} {x : α} {T n : Nat} {b : Option Addr} {l c : Nat} {ys : List Nat} {F : Nat → Heap → Prop} (O : r.ow B cs.toList x) (S : SlO T_float32 (rF .f32) C b l c ys) (hn : r.sz = n) (hz : Z.size = n) (M : Mem h hh (B ++ C)) (H : ∀ g h2, Ext h h2 → RdP r h2 ⟨g, 0, none⟩ x → SlR (rF .f32) h2 b l c ys → F g h2) : ALC Z T (fun g h1 => STA n h1 ⟨g, 0, none⟩ cs fun h2 => F g h2) hh :=
  keepIn O hn hz M fun g h2 M => H g h2 M.ext (M.rdp .here (r.look O M ((List.sublist_append_left _ _).trans (List.sublist_cons_self _ _)))) (S.look M ((List.sublist_append_right _ _).trans (List.sublist_cons_self _ _)))
abbrev TB2 (h : Heap) : Value → Heap → Prop := fun u h' => u = .bool true ∧ Ext h h'
end Go.Sx
/- Two things that are the same, looked at by a call. -/
set_option linter.unusedVariables false
namespace Go.Sx
open Go.Proofs
theorem same_t {α : Type} {a : α} {P : Program} {f : FuncId} {args : Array Value} {hh : Heap} {K : Value → Heap → Prop} (c : CALL P f args (fun u h' => u = .bool (same a a) ∧ Ext hh h') hh) (H : ∀ h', Ext hh h' → K (.bool true) h') : CALL P f args K hh :=
  goX c fun h' x => by rw [same_refl]; exact H h' x
end Go.Sx
