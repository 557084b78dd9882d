/- Two numbers, filters and two rings, read of lines. -/
import Derived.Test.YteahcankljndlaaGreatDoorLvl
import Derived.Test.YteahcankljndlaaGreatDoorLk60
import Derived.Test.YteahcankljndlaaGreatDoorTab
import Derived.Test.YteahcankljndlaaGreatDoorBB
import Derived.Test.YteahcankljndlaaGreatDoorLp4
import Derived.Test.YteahcankljndlaaGreatDoorLgn
import Derived.Test.YteahcankljndlaaGreatDoorLdr
import Derived.Test.YteahcankljndlaaGreatDoorLk19
import Derived.Test.YteahcankljndlaaGreatDoorLk21
import Derived.Test.YteahcankljndlaaGreatDoorLk59
set_option linter.unusedVariables false
set_option linter.unusedSimpArgs false
namespace Go.Sx
open Go.Proofs
set_option maxRecDepth 100000
set_option maxHeartbeats 2000000

/-- The lines of two numbers, filters and two rings. -/
def pairL (w : List UInt8) (a b : Nat) (fs : List GFilter) (r1 r2 : GRing) : List (List UInt8) := headL w [a, b] :: (fs.map GFilter.line ++ [r1.line, r2.line])
theorem pairL_len (w : List UInt8) (a b : Nat) (fs : List GFilter) (r1 r2 : GRing) : (pairL w a b fs r1 r2).length = fs.length + 3 := by
  unfold pairL
  simp
theorem pairL_f {w : List UInt8} {a b : Nat} {fs : List GFilter} {r1 r2 : GRing} {i : Nat} (h : i < fs.length) : (pairL w a b fs r1 r2)[i + 1]! = fs[i]!.line := by
  show (headL w [a, b] :: (fs.map GFilter.line ++ [r1.line, r2.line]))[i + 1]! = _
  have h2 : i + 1 < (headL w [a, b] :: (fs.map GFilter.line ++ [r1.line, r2.line])).length := by simp; omega
  rw [getElem!_pos (headL w [a, b] :: (fs.map GFilter.line ++ [r1.line, r2.line])) (i + 1) h2, getElem!_pos fs i h, List.getElem_cons_succ, List.getElem_append_left (by rw [List.length_map]; exact h), List.getElem_map]
theorem pairL_r {w : List UInt8} {a b : Nat} {fs : List GFilter} {r1 r2 : GRing} {i : Nat} (h : i < 2) : (pairL w a b fs r1 r2)[fs.length + 1 + i]! = [r1, r2][i]!.line := by
  show (headL w [a, b] :: (fs.map GFilter.line ++ [r1.line, r2.line]))[fs.length + 1 + i]! = _
  rw [show fs.length + 1 + i = (fs.length + i) + 1 by omega]
  have h2 : (fs.length + i) + 1 < (headL w [a, b] :: (fs.map GFilter.line ++ [r1.line, r2.line])).length := by simp; omega
  rw [getElem!_pos (headL w [a, b] :: (fs.map GFilter.line ++ [r1.line, r2.line])) (fs.length + i + 1) h2, List.getElem_cons_succ, List.getElem_append_right (by rw [List.length_map]; omega)]
  simp only [List.length_map, Nat.add_sub_cancel_left]
  rcases (show i = 0 ∨ i = 1 by omega) with rfl | rfl <;> rfl
section
variable {h0 h : Heap} {L : List Blk}
theorem readPair_ok {w : List UInt8} {a b : Nat} {fs : List GFilter} {r1 r2 : GRing} (hw : Word w) (hws : w.length ≤ 10) (hA : A32 [a, b]) (hf : ∀ f ∈ fs, FiltA f ∧ f.ok = true) (A1 : RingA r1) (A2 : RingA r2) (hk : fs.length ≤ 2) (T : Txt h) :
    CALL prg f_impl_readPair #[.string (mkB (linL (pairL w a b fs r1 r2))), .int .i64 (fs.length : Int)] (fun u h' => ∃ b1 c1 b2 c2 b3 c3 B1 B2 B3, u = .tuple ⟨[.slice b1 2 c1, .slice b2 fs.length c2, .slice b3 2 c3, .bool true]⟩ ∧ SlO T_float32 (rF .f32) B1 b1 2 c1 [a, b] ∧
      SlO T_impl_Filter rFilter B2 b2 fs.length c2 fs ∧ SlO T_impl_Ring rRing B3 b3 2 c3 [r1, r2] ∧ Mem h h' (B1 ++ (B2 ++ B3))) h := by
  have hm : (1048576 : Nat) ≤ maxLen := by decide
  have hlen := pairL_len w a b fs r1 r2
  have hall : ∀ l ∈ pairL w a b fs r1 r2, (∀ x ∈ l, x ≠ 10) ∧ l.length ≤ 9300 := fun l hl => by
    unfold pairL at hl
    simp only [List.mem_cons, List.mem_append, List.mem_map, List.not_mem_nil, or_false] at hl
    rcases hl with rfl | ⟨f, hf', rfl⟩ | rfl | rfl
    · exact ⟨head_mem (fun x hx => (hw x hx).2) hA.b, by have := head_size (w := w) hA.b; simp only [List.length_cons, List.length_nil] at this; omega⟩
    · exact ⟨(hf f hf').1.b.mem, by have := (hf f hf').1.b.size; omega⟩
    · exact ⟨A1.b.mem, A1.b.size⟩
    · exact ⟨A2.b.mem, A2.b.size⟩
  have hsz := lin_size (k := 9300) (ls := pairL w a b fs r1 r2) fun l hl => (hall l hl).2
  have e3 : IntKind.i64.wrap ((fs.length : Int) + 3) = ((fs.length + 3 : Nat) : Int) := by rw [wrap64 (by omega) (by omega)]; omega
  have e1 : IntKind.i64.wrap ((fs.length : Int) + 1) = ((fs.length + 1 : Nat) : Int) := by rw [wrap64 (by omega) (by omega)]; omega
  refine impl_readPair.call ?_
  unfold impl_readPair.S
  rw [e3]
  refine linesOf_ok T (m := fs.length + 3) hlen (by omega) (fun l hl => (hall l hl).1) (by rw [hlen] at hsz; have : (9300 + 1) * (fs.length + 3) ≤ (9300 + 1) * 5 := Nat.mul_le_mul_left _ (by omega); omega) (Mem.start h) fun g h1 x1 M => ?_
  have ec : (pairL w a b fs r1 r2 ++ [[]]).length = fs.length + 3 + 1 := by rw [List.length_append, hlen]; rfl
  have at_ : ∀ i, i < fs.length + 3 → (pairL w a b fs r1 r2 ++ [[]])[i]! = (pairL w a b fs r1 r2)[i]! := fun i hi => by
    rw [getElem!_pos _ i (by omega), getElem!_pos _ i (by omega), List.getElem_append_left (by omega)]
  have M : Mem h h1 [(g, T_string, strV (pairL w a b fs r1 r2 ++ [[]]))] := M
  generalize hLS : pairL w a b fs r1 r2 ++ [[]] = LS at M ec at_
  refine tup2 (as_l (as_b (br_f rfl (idxs (by omega) (by omega) ?_))))
  refine M.oS .here (j := 0) (strV_get (j := 0) (by omega)) ?_
  rw [at_ 0 (by omega), show (pairL w a b fs r1 r2)[0]! = headL w [a, b] from rfl]
  have hh := head_size (w := w) hA.b
  simp only [List.length_cons, List.length_nil] at hh
  refine Split_c (c := 32) (T.ext x1).lb (by rw [mk_size]; omega) M fun gw h2 x2 M => as_l ?_
  rw [mkB_data, head_cut (fun x hx => (hw x hx).1) hA.b (by simp)] at M ⊢
  have el : (w :: [a, b].map bitL).length = 3 := rfl
  rw [el]
  refine slb (by omega) (by omega) (by omega) ?_
  have S1 := slr_drop (n := 1) (strV_slr M .here (fun x hx => by
    simp only [List.mem_cons, List.mem_map] at hx
    rcases hx with rfl | ⟨n, hn, rfl⟩
    · omega
    · have := bitL_len (hA n (by simpa using hn)).lt; omega) (by rw [el]; omega)) (by rw [el]; omega)
  rw [el] at S1
  have eb : ((w :: [a, b].map bitL).map mkB).drop 1 = bitsS [a, b] := map_bits _
  rw [eb] at S1
  refine (readSamples_ok S1 hA (by omega) (T.ext M.ext).br).mono ?_
  rintro _ h3 ⟨bn, cn, Bn, rfl, On, N⟩
  have M := (M.join N).cnt (W := Bn ++ [(g, T_string, strV LS)]) (fun p => by simp only [List.append_eq, cnt_app, cnt_cons, cnt_nil] at *; omega)
  refine tup2 (as_l (as_b (br_f rfl (br_f rfl ?_))))
  unfold impl_readPair.J8
  rw [e1]
  simp only [Int.toNat_natCast]
  refine slb (by omega) (by omega) (by omega) ?_
  have hnl : 3 - 1 = 2 := rfl
  rw [hnl] at On ⊢
  have s1 : slA (some (⟨g, 0, none⟩ : Addr)) (fs.length + 3 + 1) 1 1 = some ⟨g, 1, none⟩ := by rw [slA_n (by omega), add_g]
  rw [s1]
  refine loop (fun y hh => ∃ (n : Nat) (b' : Option Addr) (c' : Nat) (B : List Blk), y = ((fs.length : Int), some ⟨g, 0, none⟩, fs.length + 3, fs.length + 3 + 1, bn, 2, cn, b', n, c', some ⟨g, 1, none⟩, fs.length + 1 - 1, fs.length + 3 + 1 - 1, ((fs.length + 1 - 1 : Nat) : Int), (n : Int)) ∧ n ≤ fs.length ∧ SlO T_impl_Filter rFilter B b' n c' (fs.take n) ∧ Mem h hh (B ++ (Bn ++ [(g, T_string, strV LS)]))) (fun y => (fs.length - y.2.2.2.2.2.2.2.2.2.2.2.2.2.2).toNat)
    ⟨0, _, _, [], rfl, by omega, SlO.nil, M⟩ ?_
  rintro y hh ⟨n, b', c', B, rfl, hn, O, M⟩
  refine brd (fun hc => ?_) fun hc => ?_
  · refine idxs (by omega) (by omega) ?_
    rw [Int.toNat_natCast, Nat.mul_one, add_none]
    refine M.oS (.skip (.skip .here)) (strV_get (j := 1 + n) (by omega)) ?_
    rw [at_ _ (by omega), Nat.add_comm, pairL_f (by omega)]
    obtain ⟨fA, fok⟩ := hf _ (mem_get (l := fs) (i := n) (by omega))
    refine (ReadFilter_ok fok fA (T.ext M.ext)).mono ?_
    rintro _ h4 ⟨cf, rfl, OF, x4⟩
    refine tup2 (as_a (as_i ((M.grow x4).alc fun g5 h5 x5 M => M.sta0 .here (osz OF rfl) (rFilter.oone OF) rfl .here fun h6 M => br_f rfl (M.lda0 .here (osz OF rfl) (siz (osz OF rfl) ?_)))))
    have M := M.drop
    have es : splice 0 6 cf [.int .i64 (0 : Int), .float .f32 0, .float .f32 0, .float .f32 0, .float .f32 0, .float .f32 0] = cf.toList := by
      unfold splice
      simp
    rw [es]
    refine push_own (Bn := []) (L := Bn ++ [(g, T_string, strV LS)]) (x := fs[n]!) (cs := ⟨cf.toList⟩) E_sl_impl_Filter O (M.cnt fun p => by simp only [cnt_app, cnt_cons, cnt_nil]; omega) OF (by omega) (by omega) fun b2 c2 h7 B2 O2 M2 => as_l ?_
    refine ⟨⟨n + 1, b2, c2, B2, by rw [wrap64_succ (by omega)], by omega, ?_, M2.cnt fun p => by simp only [cnt_app, cnt_cons, cnt_nil]; omega⟩, by rw [wrap64_succ (by omega)]; show _ < _; simp; omega⟩
    rw [take_snoc (by omega)]; exact O2
  obtain rfl : n = fs.length := by omega
  rw [List.take_length] at O
  refine slb (by omega) (by omega) (by omega) ?_
  have s2 : slA (some (⟨g, 0, none⟩ : Addr)) (fs.length + 3 + 1) (fs.length + 1) 1 = some ⟨g, fs.length + 1, none⟩ := by rw [slA_n (by omega), add_g, Nat.mul_one]
  have t2 : fs.length + 3 - (fs.length + 1) = 2 := by omega
  rw [e1]
  simp only [Int.toNat_natCast]
  rw [s2, t2]
  refine loop (fun y hh => ∃ (n : Nat) (b2 : Option Addr) (c2 : Nat) (B2 : List Blk), y = (bn, 2, cn, b', fs.length, c', b2, n, c2, some ⟨g, fs.length + 1, none⟩, 2, fs.length + 3 + 1 - (fs.length + 1), ((2 : Nat) : Int), (n : Int)) ∧ n ≤ 2 ∧ SlO T_impl_Ring rRing B2 b2 n c2 ([r1, r2].take n) ∧ Mem h hh (B2 ++ (B ++ (Bn ++ [(g, T_string, strV LS)])))) (fun y => (2 - y.2.2.2.2.2.2.2.2.2.2.2.2.2).toNat)
    ⟨0, _, _, [], rfl, by omega, SlO.nil, M⟩ ?_
  rintro y hh ⟨n, b2, c2, B2, rfl, hn, O2, M⟩
  refine brd (fun hc => ?_) fun hc => ?_
  · refine idxs (by omega) (by omega) ?_
    rw [Int.toNat_natCast, Nat.mul_one, add_none]
    refine M.oS (.skip (.skip (.skip .here))) (strV_get (j := fs.length + 1 + n) (by omega)) ?_
    rw [at_ _ (by omega), pairL_r (by omega)]
    have hA' : RingA [r1, r2][n]! := by rcases (show n = 0 ∨ n = 1 by omega) with rfl | rfl; exact A1; exact A2
    refine (readRing_ok hA' (T.ext M.ext)).mono ?_
    rintro _ h4 ⟨br, lr, cr, Br, rfl, OR, N⟩
    have M := (M.join N).cnt (W := Br ++ (B2 ++ (B ++ (Bn ++ [(g, T_string, strV LS)])))) (fun p => by simp only [List.append_eq, cnt_app, cnt_cons, cnt_nil] at *; omega)
    refine tup2 (as_a (as_b (M.alc fun g5 h5 x5 M => M.sta0 .here rfl (all_one rfl) rfl .here fun h6 M => br_f rfl (M.lda0 .here rfl (siz rfl ?_)))))
    have M := M.drop
    refine push_own (Bn := Br) (L := B ++ (Bn ++ [(g, T_string, strV LS)])) (x := [r1, r2][n]!) (cs := ⟨[.slice br lr cr, .int .i64 [r1, r2][n]!.At]⟩) E_sl_impl_Ring O2 (M.cnt fun p => by simp only [cnt_app, cnt_cons, cnt_nil]; omega) (ring_ow OR) (by omega) (by omega) fun b3 c3 h7 B3 O3 M3 => as_l ?_
    refine ⟨⟨n + 1, b3, c3, B3, by rw [wrap64_succ (by omega)], by omega, ?_, M3.cnt fun p => by simp only [cnt_app, cnt_cons, cnt_nil]; omega⟩, by rw [wrap64_succ (by omega)]; show _ < _; simp; omega⟩
    rw [take_snoc (l := [r1, r2]) (by show n < 2; omega)]; exact O3
  obtain rfl : n = 2 := by omega
  refine ⟨bn, cn, b', c', b2, c2, Bn, B, B2, rfl, On, O, O2, ?_⟩
  have M := M.cnt (W := (g, T_string, strV LS) :: (Bn ++ (B ++ B2))) fun p => by simp only [cnt_app, cnt_cons, cnt_nil]; omega
  exact M.drop
end
end Go.Sx
/- Jets told and read. -/
set_option linter.unusedVariables false
set_option linter.unusedSimpArgs false
namespace Go.Sx
open Go.Proofs
set_option maxRecDepth 100000
set_option maxHeartbeats 2000000

section
variable {h0 h : Heap} {L : List Blk}
/-- Two floats in a new block. -/
theorem two_slr {g y z a b : Nat} {h0 h : Heap} {L : List Blk} (M : Mem h0 h L) (l : Look L g ⟨[.float .f32 y, .float .f32 z]⟩) (hy : FW .f32 y a) (hz : FW .f32 z b) : SlR (rF .f32) h (some ⟨g, 0, none⟩) 2 2 [a, b] :=
  ⟨rfl, Nat.le_refl _, by decide, [.float .f32 y, .float .f32 z], fun i hi => ⟨_, rfl, by rw [add_none, M.cell l, Nat.zero_add, List.getElem?_toArray]⟩, [.float .f32 y], _, rfl, ⟨y, rfl, hy⟩, [.float .f32 z], [], rfl, ⟨z, rfl, hz⟩, rfl⟩
theorem cells_drop {a : Addr} {ws : List Value} (C : Cells h (some a) ws) (n : Nat) : Cells h (some (a.add n)) (ws.drop n) := fun i hi => by
  rw [List.length_drop] at hi
  obtain ⟨_, e, e2⟩ := C (n + i) (by omega)
  cases e
  exact ⟨_, rfl, by rw [add_add', e2, List.getElem?_drop]⟩
theorem pin_cells {a : Addr} {ws : List Value} {h' : Heap} {p : Prop} {n : Nat} (C : Cells h (some a) ws) (hn : n ≤ ws.length) (X : Ext h h') (H : p) : PIN h a n h' p := pin X (fun j hj => ⟨ws[j], C.get (List.getElem?_eq_getElem (by omega))⟩) H
theorem two_cells {b : Option Addr} {l c a1 a2 : Nat} (S : SlR (rF .f32) h b l c [a1, a2]) : ∃ a y z, b = some a ∧ Cells h (some a) [.float .f32 y, .float .f32 z] ∧ FW .f32 y a1 ∧ FW .f32 z a2 := by
  obtain ⟨_, _, _, ws, C, w1, r1, e1, ⟨y0, rfl, f0⟩, w2, r2, e2, ⟨y1, rfl, f1⟩, e3⟩ := S
  have e3 : r2 = [] := e3
  subst e3 e2 e1
  obtain ⟨a, rfl⟩ := C.base (by simp)
  exact ⟨a, y0, y1, rfl, C, f0, f1⟩
theorem one_filter {b : Option Addr} {l c : Nat} {f : GFilter} (S : SlR rFilter h b l c [f]) : ∃ a v, b = some a ∧ Cells h (some a) (flT v) ∧ rFilter.ow [] (flT v) f := by
  obtain ⟨_, _, _, ws, C, w1, r1, e1, R1, e3⟩ := S
  have e3 : r1 = [] := e3
  obtain ⟨v, rfl, O⟩ := filter_cells R1
  subst e3 e1
  obtain ⟨a, rfl⟩ := C.base (by simp [flT, flC])
  exact ⟨a, v, rfl, by simpa using C, O⟩
theorem two_rings {B : List Blk} {b : Option Addr} {l c : Nat} {r r' : GRing} (O : SlO T_impl_Ring rRing B b l c [r, r']) (M : Mem h0 h L) (s : B.Sublist L) : ∃ a b1 l1 c1 b2 l2 c2 B1 B2, b = some a ∧ Cells h (some a) [.slice b1 l1 c1, .int .i64 r.At, .slice b2 l2 c2, .int .i64 r'.At] ∧
    SlO T_float32 (rF .f32) B1 b1 l1 c1 r.Samples ∧ SlO T_float32 (rF .f32) B2 b2 l2 c2 r'.Samples ∧ (B1 ++ B2).Sublist B := by
  obtain ⟨_, ws, C1, C2, rfl, Ow, D1, E1, v1, u1, e1, e2, R1, D2, E2, v2, u2, e3, e4, R2, e5, e6⟩ := O
  obtain ⟨b1, l1, c1, k1, O1⟩ := ring_cells (cs := ⟨v1⟩) R1
  obtain ⟨b2, l2, c2, k2, O2⟩ := ring_cells (cs := ⟨v2⟩) R2
  have k1 : v1 = _ := congrArg Array.toList k1
  have k2 : v2 = _ := congrArg Array.toList k2
  subst e5 e6 e4 e3 e2 e1 k1 k2
  have C := Ow.cells M ((List.sublist_append_left _ _).trans s)
  obtain ⟨a, rfl⟩ := C.base (by simp)
  refine ⟨a, b1, l1, c1, b2, l2, c2, D1, D2, rfl, C, O1, O2, ?_⟩
  rw [List.append_nil]
  exact List.sublist_append_right _ _
end
end Go.Sx
/- Bows told and read. -/
set_option linter.unusedVariables false
set_option linter.unusedSimpArgs false
namespace Go.Sx
open Go.Proofs
set_option maxRecDepth 100000
set_option maxHeartbeats 2000000

theorem word_bow : Word bowW := fun b hb => by
  have : ∀ b ∈ bowW, b ≠ 32 ∧ b ≠ 10 := by decide
  exact this b hb
theorem bow_lines (x : GBow) : x.lines = pairL bowW x.Slope x.Loss [x.Damp] x.Neck x.Bridge := rfl
section
variable {h0 h : Heap} {L : List Blk}
theorem BowText_c {cs : Array Value} {x : GBow} (R0 : rBow.rd h cs.toList x) (hok : x.ok = true) (T : Txt h) : CALL prg f_impl_BowText #[.agg cs] (fun u h' => u = .string (mkB (linL x.lines)) ∧ Ext h h') h := by
  refine impl_BowText.call (alcR R0 fun g h1 x1 R => R.lda1 rfl fun c1 R1 => goX (ValidBow_c R1) fun h2 x2 => as_b ?_)
  rw [hok]
  have R := R.ext x2
  have A := bow_a R hok
  have T := T.ext (x1.trans x2)
  have X0 := x1.trans x2
  have s1 := A.s.b
  have s1 := smp_le s1
  have s2 := A.d.b.size
  have s4 := A.n.b.size
  have s5 := A.b.b.size
  simp only [List.length_cons, List.length_nil] at s1
  have fl : x.Damp.ok = true := by
    unfold GBow.ok at hok
    simp only [Bool.and_eq_true] at hok
    exact hok.1.2.1
  refine br_f rfl (R.oF2 fun y hy => R.oF2 fun z hz => R.lda2 foc_Bow_Damp rfl fun cl Rl => (R.fst foc_Bow_Neck).lda1 rfl fun ct Rt => R.lda2 foc_Bow_Bridge rfl fun cb Rb => ?_)
  have PN : ∀ (off n : Nat) {hh : Heap} {p : Prop}, off + n ≤ rBow.sz → Ext h2 hh → p → PIN h2 ⟨g, off, none⟩ n hh p := fun off n {hh p} hj X H => by
    have q1 := R.pinO (off := off) (n := n) hj X H
    rwa [add_g] at q1
  refine (Mem.start h2).alc fun g13 h3 x3 M => PN 2 2 (by decide) M.ext (PN 0 2 (by decide) M.ext (PN 4 6 (by decide) M.ext ?_))
  refine goM M (samplesText_c (two_slr M .here hy hz) (by decide) (T.ext M.ext).br) fun h4 M => as_s (PN 2 2 (by decide) M.ext (PN 0 2 (by decide) M.ext (PN 4 6 (by decide) M.ext ?_)))
  refine ⟨by simp only [ba_len, mk_size, List.length_cons, List.length_nil]; omega, by simp only [ba_len, mk_size, List.length_cons, List.length_nil]; omega, ?_⟩
  refine goM M (FilterText_c (rFilter.ext M.ext Rl) fl A.d (T.ext M.ext)) fun h5 M => as_s (PN 2 2 (by decide) M.ext (PN 0 2 (by decide) M.ext ?_))
  refine ⟨by simp only [ba_len, mk_size, List.length_cons, List.length_nil]; omega, by simp only [ba_len, mk_size, List.length_cons, List.length_nil]; omega, ?_⟩
  refine goM M (ringText_c (rRing.ext M.ext Rt) A.n (T.ext M.ext)) fun h7 M => as_s (PN 2 2 (by decide) M.ext ?_)
  refine ⟨by simp only [ba_len, mk_size, List.length_cons, List.length_nil]; omega, by simp only [ba_len, mk_size, List.length_cons, List.length_nil]; omega, ?_⟩
  refine goM M (ringText_c (rRing.ext M.ext Rb) A.b (T.ext M.ext)) fun h8 M => as_s ?_
  refine ⟨by simp only [ba_len, mk_size, List.length_cons, List.length_nil]; omega, by simp only [ba_len, mk_size, List.length_cons, List.length_nil]; omega, ?_, X0.trans M.ext⟩
  have e10 : (⟨#[10]⟩ : ByteArray) = mkB [10] := rfl
  have e4 : (⟨#[98, 111, 119, 32]⟩ : ByteArray) = mkB (bowW ++ [32]) := rfl
  rw [e10, e4]
  simp only [mkB_app, List.append_assoc]
  unfold GBow.lines headL
  simp [linL]
theorem ReadBow_ok {x : GBow} (hok : x.ok = true) (A : BowA x) (T : Txt h) : CALL prg f_impl_ReadBow #[.string (mkB (linL x.lines))] (fun u h' => PairR rBow h h' u x 0) h := by
  have fl : x.Damp.ok = true := by
    unfold GBow.ok at hok
    simp only [Bool.and_eq_true] at hok
    exact hok.1.2.1
  rw [bow_lines]
  refine impl_ReadBow.call ((Mem.start h).alc fun g1 h1 x1 M => ?_)
  have rp := readPair_ok (fs := [x.Damp]) word_bow (by decide) A.s (fun f hf => by
    simp only [List.mem_cons, List.not_mem_nil, or_false] at hf
    subst hf
    exact ⟨A.d, fl⟩) A.n A.b (show 1 ≤ 2 by decide) (T.ext M.ext)
  refine rp.mono ?_
  rintro _ h2 ⟨b1, c1, b2, c2, b3, c3, B1, B2, B3, rfl, O1, O2, O3, N⟩
  have M := (M.join N).cnt (W := (g1, T_impl_Bow, ⟨Z_impl_Bow⟩) :: (B1 ++ (B2 ++ B3))) (fun p => by simp only [List.append_eq, cnt_app, cnt_cons, cnt_nil] at *; omega)
  refine tup4 (as_l (as_l (as_l (as_b (br_f rfl ?_)))))
  obtain ⟨p1, y, z, rfl, C1, hy, hz⟩ := two_cells (O1.look M ((List.sublist_append_left _ _).trans (List.sublist_cons_self _ _)))
  obtain ⟨p2, v, rfl, C2, hv⟩ := one_filter (O2.look M ((List.sublist_append_left _ _).trans ((List.sublist_append_right _ _).trans (List.sublist_cons_self _ _))))
  obtain ⟨p3, bt, lt, ct, bb, lb, cb, Bt, Bb, rfl, C3, Ot, Ob, sub⟩ := two_rings O3 M ((List.sublist_append_right _ _).trans ((List.sublist_append_right _ _).trans (List.sublist_cons_self _ _)))
  have C3' := cells_drop C3 2
  have C1' := cells_drop C1 1
  refine idxs (by simp [flT, flC]) (by simp [flT, flC]) (cells_lda C3 (by simp) (idxs (by simp [flT, flC]) (by simp [flT, flC]) (cells_lda C3' (by simp [flT, flC]) ?_)))
  refine idxs (by simp [flT, flC]) (by simp [flT, flC]) (cells_lda C2 (by simp [flT, flC]) ?_)
  refine idxs (by simp [flT, flC]) (by simp [flT, flC]) (o_f (C1.get0 rfl) (idxs (by simp [flT, flC]) (by simp [flT, flC]) (o_f (C1'.get0 rfl) ?_)))
  refine siz rfl (siz rfl (siz rfl ?_))
  have M := M.sub (List.Sublist.cons_cons _ (sub.trans ((List.sublist_append_right B2 B3).trans (List.sublist_append_right B1 _))))
  refine M.alc fun g27 h3 x3 M => pin_cells C1' (by simp [flT, flC]) x3 (pin_cells C1 (by simp [flT, flC]) x3 (pin_cells C2 (by simp [flT, flC]) x3 (pin_cells C3' (by simp [flT, flC]) x3 (pin_cells C3 (by simp [flT, flC]) x3 ?_))))
  have OJ := bow_ow (x := x) Ot Ob hv hy hz
  refine M.sta0 (vs := ⟨boL bt lt ct x.Neck.At bb lb cb x.Bridge.At v y z⟩) .here rfl boL_one rfl .here fun h4 M => M.lda0 .here rfl ?_
  have RJ : rBow.rd h4 (⟨boL bt lt ct x.Neck.At bb lb cb x.Bridge.At v y z⟩ : Array Value).toList x := rBow.look OJ M ((List.sublist_cons_self _ _).trans (List.sublist_cons_self _ _))
  refine goM M (BowText_c RJ hok (T.ext M.ext)) fun h5 M => as_s ?_
  rw [← bow_lines]
  refine br_f (by simp) (M.lda0 .here rfl ?_)
  have M := M.drop
  exact M.sta0 .here rfl boL_one rfl .here fun h6 M => M.lda0 .here rfl ⟨_, _, rfl, OJ, M.drop⟩
end
end Go.Sx
/- A slice that is read, appended to an own one. -/
set_option linter.unusedVariables false
set_option linter.unusedSimpArgs false
namespace Go.Sx
section
variable {α : Type} {P : Program} {r : Rep α} {h0 h : Heap} {L : List Blk} {t e bytes ty : Nat} {b b2 : Option Addr} {l c l2 c2 : Nat} {xs ys : List α} {K : Value → Heap → Prop}
theorem app_slr {B : List Blk} (E : ElemT P t e r.sz bytes) (hz : 0 < r.sz) (hf : Flat r) (O : SlO e r B b l c xs) (S : SlR r h b2 l2 c2 ys) (M : Mem h0 h (B ++ L)) (hm : l + l2 ≤ maxLen) (hb : (l + l2) * bytes ≤ 140737488355328)
    (H : ∀ b' c' h' B', SlO e r B' b' (l + l2) c' (xs ++ ys) → Mem h0 h' (B' ++ L) → K (.slice b' (l + l2) c') h') : SEMV P (Builtin.append_ #[t, t] ty #[.slice b l c, .slice b2 l2 c2]) K h := by
  obtain ⟨h1, h2, h3, ws, C, R⟩ := S
  cases b2 with
  | some a => exact O.app (Bn := []) E (by simpa using M) h1 (flat_rds hf R) (fun j v hj => C.get hj) hm hb fun b' c' h' B' O' M' => H b' c' h' B' O' M'
  | none =>
    have hw : ws = [] := by
      cases ws with
      | nil => rfl
      | cons w ws => obtain ⟨a, e, _⟩ := C 0 (by simp); cases e
    subst hw
    have hx : ys.length * r.sz = 0 := by rw [← R.len]; rfl
    have hl : l2 = 0 := by
      rcases Nat.mul_eq_zero.1 hx with h | h <;> omega
    subst hl
    obtain rfl : ys = [] := List.eq_nil_of_length_eq_zero h1
    obtain ⟨i, z, hi, hz', e1, e2, hzs⟩ := E.hi
    have hlc : l ≤ c := by
      obtain ⟨_, _, _, _, _, O1, _⟩ := O
      exact O1.le
    have HH := H b c h B (by rw [List.append_nil]; exact O) M
    rw [Nat.add_zero] at HH
    refine semv fun w hw => ⟨.slice b l c, w, ?_, Same.refl _, by rw [hw]; exact HH⟩
    simp [Builtin.append_, run_underlying E.ht, sizeOf, typeInfo, hi, Builtin.lenOf, Builtin.firstCells, loadCells, loadCellsFrom, storeCells, hlc]
    cases b <;> rfl
end
end Go.Sx
/- New values kept in blocks, and what is read of them. -/
set_option linter.unusedVariables false
set_option linter.unusedSimpArgs false
namespace Go.Sx
open Go.Proofs
set_option maxRecDepth 100000
set_option maxHeartbeats 2000000

/-- Bytes that are read. -/
structure Reads (h : Heap) (cb mb : Option Addr) (code more : List Int) : Prop where
  c : Cells h cb (iv .u8 code)
  m : Cells h mb (iv .u8 more)
  bc : Byt' code
  bm : Byt' more
theorem Reads.ext {h h' : Heap} {cb mb : Option Addr} {code more : List Int} (G : Reads h cb mb code more) (X : Ext h h') : Reads h' cb mb code more := ⟨G.c.ext X, G.m.ext X, G.bc, G.bm⟩
theorem keepIn {α : Type} {r : Rep α} {h hh : Heap} {B W : List Blk} {cs Z : Array Value} {x : α} {T n : Nat} {F : Nat → Heap → Prop} (O : r.ow B cs.toList x) (hn : r.sz = n) (hz : Z.size = n) (M : Mem h hh W) (H : ∀ g h2, Mem h h2 ((g, T, cs) :: W) → F g h2) : ALC Z T (fun g h1 => STA n h1 ⟨g, 0, none⟩ cs fun h2 => F g h2) hh :=
  M.alc fun g h1 _ M => M.sta0 .here (by rw [← hn]; simpa using r.olen O) (r.oone O) hz .here fun h2 M => H g h2 M
theorem keepR {α : Type} {r : Rep α} {h hh : Heap} {B : List Blk} {cs Z : Array Value} {x : α} {T n : Nat} {F : Nat → Heap → Prop} (O : r.ow B cs.toList x) (hn : r.sz = n) (hz : Z.size = n) (M : Mem h hh B) (H : ∀ g h2, Ext h h2 → RdP r h2 ⟨g, 0, none⟩ x → F g h2) : ALC Z T (fun g h1 => STA n h1 ⟨g, 0, none⟩ cs fun h2 => F g h2) hh :=
  keepIn O hn hz M fun g h2 M => H g h2 M.ext (M.rdp .here (r.look O M (List.sublist_cons_self _ _)))
/-- A thing kept, beside a slice of floats. -/
theorem keepS {α : Type} {r : Rep α} {h hh : Heap} {B C : List Blk} {cs Z : Array Value} {x : α} {T n : Nat} {b : Option Addr} {l c : Nat} {ys : List Nat} {F : Nat → Heap → Prop} (O : r.ow B cs.toList x) (S : SlO T_float32 (rF .f32) C b l c ys) (hn : r.sz = n) (hz : Z.size = n) (M : Mem h hh (B ++ C)) (H : ∀ g h2, Ext h h2 → RdP r h2 ⟨g, 0, none⟩ x → SlR (rF .f32) h2 b l c ys → F g h2) : ALC Z T (fun g h1 => STA n h1 ⟨g, 0, none⟩ cs fun h2 => F g h2) hh :=
  keepIn O hn hz M fun g h2 M => H g h2 M.ext (M.rdp .here (r.look O M ((List.sublist_append_left _ _).trans (List.sublist_cons_self _ _)))) (S.look M ((List.sublist_append_right _ _).trans (List.sublist_cons_self _ _)))
abbrev TB2 (h : Heap) : Value → Heap → Prop := fun u h' => u = .bool true ∧ Ext h h'
end Go.Sx
/- Two things that are the same, looked at by a call. -/
set_option linter.unusedVariables false
namespace Go.Sx
open Go.Proofs
theorem same_t {α : Type} {a : α} {P : Program} {f : FuncId} {args : Array Value} {hh : Heap} {K : Value → Heap → Prop} (c : CALL P f args (fun u h' => u = .bool (same a a) ∧ Ext hh h') hh) (H : ∀ h', Ext hh h' → K (.bool true) h') : CALL P f args K hh :=
  goX c fun h' x => by rw [same_refl]; exact H h' x
end Go.Sx
