/- The rule: which lists of events are good, the first loop. -/
import Derived.Test.YtnhcoeogejgidacGreatDoorLkm
import Derived.Test.YtnhcoeogejgidacGreatDoorTab
set_option linter.unusedVariables false
set_option linter.unusedSimpArgs false
namespace Go.Sx
open Go.Proofs
set_option maxRecDepth 100000
set_option maxHeartbeats 1000000

section
variable {h : Heap}
theorem cnt_le {es : List GEvent} {i : Nat} (hi : i < es.length) {p : GEvent → Bool} (h1 : ∀ k, cntB p es i k ≤ 1) (h2 : p es[i]! = true → cntB p es i es[i]!.Note = 0) (k : Int) : cntB p es (i + 1) k ≤ 1 := by
  rw [cntB_succ p hi]
  split
  · next e =>
    rw [Bool.and_eq_true, beq_iff_eq] at e
    rw [← e.2, h2 e.1]; decide
  · have := h1 k; omega
theorem mkS {es : List GEvent} {ni : Int} {i : Nat} (hi : i < es.length) (hp : evPart ni es[i]! = true) (hn : 0 ≤ es[i]!.Note ∧ es[i]!.Note < (es.length / 2 : Nat)) (A : isSt es[i]! = true → cntB isSp es i es[i]!.Note = 0) (B : isSp es[i]! = true → 0 < cntB isSt es i es[i]!.Note)
    (e1 : cntB isSt es (i + 1) es[i]!.Note ≤ 1) (e2 : cntB isSp es (i + 1) es[i]!.Note ≤ 1) : StepS es ni i := by
  refine ⟨hp, hn, fun h => ⟨A h, ?_⟩, fun h => ⟨B h, ?_⟩⟩
  · rw [cntB_succ isSt hi, h, if_pos (by simp)] at e1; omega
  · rw [cntB_succ isSp hi, h, if_pos (by simp)] at e2; omega
theorem J22_c {N : (Option Addr × Nat × Nat × Int × Int × Option Addr × Nat × Nat × Option Addr × Nat × Nat × Int) → Heap → Prop} {Post : Value → Heap → Prop} {h0 hx : Heap} {b : Option Addr} {l c m g5 g7 j : Nat} {ni i : Int} {a : Addr} {e : GEvent} {es : List GEvent}
    (M : Mem h0 hx [(g7, T_int64, keyV (cntL isSp es j m)), (g5, T_int64, keyV (cntL isSt es j m))]) (R : RdP rEvent hx a e) (h1 : 0 ≤ e.Note) (h2 : e.Note < m) (no : (1 < cntB isSt es j e.Note ∨ 1 < cntB isSp es j e.Note) → Post (.bool false) hx)
    (yes : cntB isSt es j e.Note ≤ 1 → cntB isSp es j e.Note ≤ 1 → N (b, l, c, ni, (m : Int), some ⟨g5, 0, none⟩, m, m, some ⟨g7, 0, none⟩, m, m, IntKind.i64.wrap (i + 1)) hx) :
    spec_l08Events.J22 N Post b l c ni (m : Int) (some ⟨g5, 0, none⟩) m m (some ⟨g7, 0, none⟩) m m i a hx := by
  unfold spec_l08Events.J22
  refine R.oI (arrAt M (.there .here) h1 h2 (cntL_len _ _ _ _) ?_)
  rw [cntL_at h1 h2]
  refine brd (fun k => no (.inl (by omega))) fun k1 => R.oI (arrAt M .here h1 h2 (cntL_len _ _ _ _) ?_)
  rw [cntL_at h1 h2]
  exact brd (fun k => no (.inr (by omega))) fun k2 => yes (by omega) (by omega)
theorem l08Events_c {b : Option Addr} {l c : Nat} {es : List GEvent} (S : SlR rEvent h b l c es) {ni : Int} (hni : 0 ≤ ni ∧ ni ≤ 9) : CALL prg f_spec_l08Events #[.slice b l c, .int .i64 ni] (fun u h' => u = .bool (evOk es ni) ∧ Ext h h') h := by
  have hm2 := S.2.2.1
  have hm3 := S.2.1
  have := maxLen_lt
  have hl := S.len
  obtain ⟨m, hm⟩ : ∃ m : Nat, m = l / 2 := ⟨_, rfl⟩
  have e1 : IntKind.i64.wrap (Int.tdiv (l : Int) 2) = (m : Int) := by
    rw [show Int.tdiv (l : Int) 2 = ((l / 2 : Nat) : Int) from by rw [Int.ofNat_tdiv]; rfl, wrap64 (by omega) (by omega), hm]
  refine spec_l08Events.call ?_
  rw [spec_l08Events.S, e1, wrap64 (n := 2 * (m : Int)) (by omega) (by omega)]
  refine nz (by decide) (br (fun hb => ⟨?_, Ext.refl _⟩) fun hb => brd (fun h64 => ⟨?_, Ext.refl _⟩) fun h64 => ?_)
  · rw [evOk_no fun G => ?_]
    have := G.even
    simp only [bne_iff_ne, ne_eq] at hb
    omega
  · rw [evOk_no fun G => ?_]
    have := G.most
    omega
  simp only [bne_eq_false_iff_eq] at hb
  have hlen : l = 2 * m := by omega
  have hlm : es.length / 2 = m := by omega
  unfold spec_l08Events.J4
  refine make_sl (r := rI .i64) (z := 0) (zc := Z_int64) ⟨rfl, rfl⟩ rfl rfl (by decide) (Mem.start h) (by show 8 * m ≤ 2 ^ 48; omega) (by omega) fun g5 h1 x1 M _ => ?_
  refine make_sl (r := rI .i64) (z := 0) (zc := Z_int64) ⟨rfl, rfl⟩ rfl rfl (by decide) M (by show 8 * m ≤ 2 ^ 48; omega) (by omega) fun g7 h2 x2 M _ => ?_
  have hz := cntL_zero isSt es m
  have hz2 := cntL_zero isSp es m
  rw [Int.toNat_natCast]
  refine loop (fun x hh => ∃ i : Nat, x = (b, l, c, ni, (m : Int), some ⟨g5, 0, none⟩, m, m, some ⟨g7, 0, none⟩, m, m, (i : Int)) ∧ i ≤ l ∧ Mem h hh [(g7, T_int64, keyV (cntL isSp es i m)), (g5, T_int64, keyV (cntL isSt es i m))] ∧ (∀ j, j < i → StepS es ni j) ∧ (∀ k, cntB isSt es i k ≤ 1) ∧ ∀ k, cntB isSp es i k ≤ 1) (fun x => (l - x.2.2.2.2.2.2.2.2.2.2.2).toNat)
    ⟨0, rfl, by omega, by rw [← hz, ← hz2]; exact M, fun i hi => by omega, fun k => by rw [cntB_zero]; omega, fun k => by rw [cntB_zero]; omega⟩ ?_
  rintro x hh ⟨i, rfl, hi, M, hS, c1, c2⟩
  have X := M.ext
  refine brd (fun hc => ?_) fun hc => ?_
  · have hil : i < es.length := by omega
    have no : ∀ {h' : Heap}, Ext h h' → ¬ StepS es ni i → (Value.bool false = .bool (evOk es ni) ∧ Ext h h') := fun e hn => ⟨by rw [evOk_no fun G => hn (G.stepS hil)], e⟩
    refine S.idn ev_sz (by omega) fun a Ra => ?_
    have R : ∀ {hx : Heap}, Ext h hx → RdP rEvent hx _ es[i]! := fun e => Ra.ext e
    refine (R X).oI1 (goM M (l00In_c _ _ _ _) fun h3 M => as_b (brN (fun e => no M.ext fun s => ?_) fun ha => ?_))
    · have := s.part
      rw [evPart, e] at this; cases this
    refine (R M.ext).oI (goM M (l00In_c _ _ _ _) fun h4 M => as_b (brN (fun e => no M.ext fun s => ?_) fun hn => ?_))
    · have := s.note
      rw [wrap64 (by omega) (by omega), inR] at e
      rw [hlm] at this
      simp only [Bool.and_eq_false_iff, decide_eq_false_iff_not] at e
      omega
    have hn : 0 ≤ es[i]!.Note ∧ es[i]!.Note < (m : Int) := by
      rw [wrap64 (by omega) (by omega), inR] at hn
      simp only [Bool.and_eq_true, decide_eq_true_eq] at hn
      omega
    have hst := cntL_at (p := isSt) (es := es) (i := i) hn.1 hn.2
    have hsp := cntL_at (p := isSp) (es := es) (i := i) hn.1 hn.2
    have k1 := c1 es[i]!.Note
    have k2 := c2 es[i]!.Note
    unfold spec_l08Events.J12
    refine (R M.ext).oI (br (fun kk => ?_) fun kk => br (fun kp => ?_) fun kp => no M.ext fun s => ?_)
    · have his : isSt es[i]! = true := kk
      have hk : es[i]!.Kind = 2 := by simpa using kk
      have hip : isSp es[i]! = false := by unfold isSp; rw [hk]; rfl
      have pt : ∀ r : Bool, (inR es[i]!.Instrument 0 (ni - 1) && inR es[i]!.Key (-100) 100 && fin es[i]!.Force) = r → evPart ni es[i]! = r := fun r e => by
        rw [evPart, ha, if_neg (by omega), hk, ← e]; simp [Bool.and_assoc]
      refine (R M.ext).oI (arrAt M (.there .here) hn.1 hn.2 (cntL_len _ _ _ _) ?_)
      rw [hst, wrap64 (n := (cntB isSt es i es[i]!.Note : Int) + 1) (by omega) (by omega)]
      refine arrSt M (.there .here) hn.1 hn.2 (cntL_len _ _ _ _) (.there .here) fun h5 M => ?_
      rw [cntL_hit hil his hn.1 hn.2, ← cntL_miss hil hip] at M
      refine (R M.ext).oI (arrAt M .here hn.1 hn.2 (cntL_len _ _ _ _) ?_)
      rw [cntL_miss hil hip, hsp]
      refine brd (fun e => no M.ext fun s => ?_) fun e0 => ?_
      · have := (s.st his).1; omega
      refine (R M.ext).oI (goM M (l00In_c _ _ _ _) fun h6 M => ?_)
      rw [wrap64 (n := ni - 1) (by omega) (by omega)]
      refine as_b (brN (fun e => no M.ext fun s => ?_) fun q1 => ?_)
      · have := s.part; rw [pt false (by rw [show inR es[i]!.Instrument 0 (ni - 1) = false from e]; rfl)] at this; cases this
      refine (R M.ext).oI (goM M (l00In_c _ _ _ _) fun h7 M => as_b (brN (fun e => no M.ext fun s => ?_) fun q2 => ?_))
      · have := s.part; rw [pt false (by rw [show inR es[i]!.Key (-100) 100 = false from e]; simp)] at this; cases this
      refine (R M.ext).oF fun y hy => goM M (l01Finite_c hy _) fun h8 M => as_b (brN (fun e => no M.ext fun s => ?_) fun q3 => ?_)
      · have := s.part; rw [pt false (by rw [show fin es[i]!.Force = false from e]; simp)] at this; cases this
      have hpart := pt true (by rw [show inR es[i]!.Instrument 0 (ni - 1) = true from q1, show inR es[i]!.Key (-100) 100 = true from q2, show fin es[i]!.Force = true from q3]; rfl)
      have z0 : cntB isSp es i es[i]!.Note = 0 := by omega
      refine J22_c M (R M.ext) hn.1 hn.2 (fun e => no M.ext fun s => ?_) fun e1 e2 => ?_
      · have := cnt_le hil c1 (fun _ => (s.st his).2) es[i]!.Note
        have := cnt_le hil c2 (fun h => by rw [hip] at h; cases h) es[i]!.Note
        omega
      have hs := mkS (ni := ni) hil hpart (by rw [hlm]; exact hn) (fun _ => z0) (fun h => by rw [hip] at h; cases h) e1 e2
      refine ⟨⟨i + 1, by rw [wrap64_succ (by omega)], by omega, M, fun j hj => ?_, cnt_le hil c1 (fun _ => (hs.st his).2), cnt_le hil c2 (fun h => by rw [hip] at h; cases h)⟩, by rw [wrap64_succ (by omega)]; show _ < _; simp; omega⟩
      by_cases e : j = i
      · subst e; exact hs
      · exact hS j (by omega)
    · have hip : isSp es[i]! = true := kp
      have hk : es[i]!.Kind = 1 := by simpa using kp
      have his : isSt es[i]! = false := by unfold isSt; rw [hk]; rfl
      have pt : ∀ r : Bool, ((es[i]!.Instrument == 0) && (es[i]!.Key == 0) && (es[i]!.Force == 0)) = r → evPart ni es[i]! = r := fun r e => by
        rw [evPart, ha, if_pos hk, ← e]; simp
      refine (R M.ext).oI (arrAt M .here hn.1 hn.2 (cntL_len _ _ _ _) ?_)
      rw [hsp, wrap64 (n := (cntB isSp es i es[i]!.Note : Int) + 1) (by omega) (by omega)]
      refine arrSt M .here hn.1 hn.2 (cntL_len _ _ _ _) .here fun h5 M => ?_
      rw [cntL_hit hil hip hn.1 hn.2, ← cntL_miss hil his] at M
      refine (R M.ext).oI (arrAt M (.there .here) hn.1 hn.2 (cntL_len _ _ _ _) ?_)
      rw [cntL_miss hil his, hst]
      refine br (fun e => no M.ext fun s => ?_) fun e0 => ?_
      · have := (s.sp hip).1
        rw [beq_iff_eq] at e
        omega
      rw [beq_eq_false_iff_ne] at e0
      refine (R M.ext).oI (br (fun e => no M.ext fun s => ?_) fun q1 => ?_)
      · have := s.part; rw [pt false (by rw [show (es[i]!.Instrument == 0) = false from by simpa using e]; rfl)] at this; cases this
      refine (R M.ext).oI (br (fun e => no M.ext fun s => ?_) fun q2 => ?_)
      · have := s.part; rw [pt false (by rw [show (es[i]!.Key == 0) = false from by simpa using e]; simp)] at this; cases this
      refine (R M.ext).oF fun y hy => goM M (l01Same_c hy fw0 _) fun h8 M => as_b (brN (fun e => no M.ext fun s => ?_) fun q3 => ?_)
      · have := s.part; rw [pt false (by rw [show (es[i]!.Force == 0) = false from e]; simp)] at this; cases this
      have hpart := pt true (by rw [show (es[i]!.Instrument == 0) = true from by simpa using q1, show (es[i]!.Key == 0) = true from by simpa using q2, show (es[i]!.Force == 0) = true from q3]; rfl)
      refine J22_c M (R M.ext) hn.1 hn.2 (fun e => no M.ext fun s => ?_) fun e1 e2 => ?_
      · have := cnt_le hil c2 (fun _ => (s.sp hip).2) es[i]!.Note
        have := cnt_le hil c1 (fun h => by rw [his] at h; cases h) es[i]!.Note
        omega
      have hs := mkS (ni := ni) hil hpart (by rw [hlm]; exact hn) (fun h => by rw [his] at h; cases h) (fun _ => by omega) e1 e2
      refine ⟨⟨i + 1, by rw [wrap64_succ (by omega)], by omega, M, fun j hj => ?_, cnt_le hil c1 (fun h => by rw [his] at h; cases h), cnt_le hil c2 fun _ => (hs.sp hip).2⟩, by rw [wrap64_succ (by omega)]; show _ < _; simp; omega⟩
      by_cases e : j = i
      · subst e; exact hs
      · exact hS j (by omega)
    · rcases kind_of s.part with ⟨h1, _⟩ | ⟨h1, _⟩
      · rw [show isSp es[i]! = false from kp] at h1; cases h1
      · rw [show isSt es[i]! = false from kk] at h1; cases h1
  · refine B25_c (S.ext X) (fun h' j x e1 e2 => ⟨by rw [evOk_no fun G => by rw [G.ord j (by omega)] at e2; cases e2], X.trans x⟩) fun h' x ho => ⟨?_, X.trans x⟩
    · rw [evOk_iff.2 (good_of_S (by omega) (by omega) (fun j hj => hS j (by omega)) fun j hj => ho j (by omega))]
end
end Go.Sx
/- What functions of this seat's program compute, told in words (a predicate over heaps for each), and the proofs that the words are no more than the code's own weakest precondition. -/
namespace Go.Sx
open Go.Proofs
set_option linter.unusedVariables false
set_option maxRecDepth 100000

def impl_ValidScore.J11 (N7 : (Addr × Int × Value × Value × Value × Option Addr × Nat × Nat × Int × Int) → Heap → Prop) (Post : Value → Heap → Prop) (s_1 : Addr) (notes_3 : Int) (own_4 : Value) (stops_5 : Value) (compare_6 : Value) (e_8 : Addr) (t51b : Option Addr) (t51l : Nat) (t51c : Nat) (t52 : Int) (t53 : Int) (h : Heap) : Prop :=
    oI .i64 (cell h (Addr.add e_8 1)) fun n65 =>
    BIF (n65 == (1 : Int)) (
    oI .i64 (cell h (Addr.add e_8 2)) fun n66 =>
    SEMV prg (Instr.lookup T_map_int64_int64 own_4 (.int .i64 n66) true) (fun q67 h68 =>
    TUP2 q67 fun q69 q70 =>
    asI .i64 q69 fun n71 =>
    asB q70 fun b72 =>
    BIF (!b72) (
    Post (.bool false) h68) (
    oI .i64 (cell h68 e_8) fun n73 =>
    BIF (decide (n73 < n71)) (
    Post (.bool false) h68) (
    oI .i64 (cell h68 (Addr.add e_8 2)) fun n74 =>
    SEMV prg (Instr.lookup T_map_int64_bool stops_5 (.int .i64 n74) false) (fun q75 h76 =>
    asB q75 fun b77 =>
    BIF b77 (
    Post (.bool false) h76) (
    oI .i64 (cell h76 (Addr.add e_8 2)) fun n78 =>
    SEMN prg (do Instr.mapUpdate T_map_int64_bool stops_5 (.int .i64 n78) (.bool true); pure .skip) (fun q79 h80 =>
    N7 (s_1, notes_3, own_4, stops_5, compare_6, t51b, t51l, t51c, t52, ((IntKind.i64.wrap (t53 + (1 : Int))))) h80) h76)) h68))) h) (
    N7 (s_1, notes_3, own_4, stops_5, compare_6, t51b, t51l, t51c, t52, ((IntKind.i64.wrap (t53 + (1 : Int))))) h)
def impl_ValidScore.j11 (N7 : (Addr × Int × Value × Value × Value × Option Addr × Nat × Nat × Int × Int) → Heap → Prop) (Post : Value → Heap → Prop) : Frame → Heap → Prop := fun fr h => GRD (shape (kds 126 [(1, .p), (3, .i .i64), (4, .v), (5, .v), (6, .v), (8, .p), (51, .l), (52, .i .i64), (53, .i .i64)]) fr) (impl_ValidScore.J11 N7 Post (gP (lget fr 1)) (gI (lget fr 3)) (lget fr 4) (lget fr 5) (lget fr 6) (gP (lget fr 8)) (gLb (lget fr 51)) (gLl (lget fr 51)) (gLc (lget fr 51)) (gI (lget fr 52)) (gI (lget fr 53)) h)
def impl_ValidScore.B7 (Post : Value → Heap → Prop) (N7 : (Addr × Int × Value × Value × Value × Option Addr × Nat × Nat × Int × Int) → Heap → Prop) : Addr × Int × Value × Value × Value × Option Addr × Nat × Nat × Int × Int → Heap → Prop
  | (s_1, notes_3, own_4, stops_5, compare_6, t51b, t51l, t51c, t52, t53), h =>
    BIF (decide (t53 < t52)) (
    IDXS t51b t53 t51l fun p35 =>
    LDA 6 h ((Addr.add p35 ((Int.toNat t53) * 6))) fun a36 =>
    ALC ⟨Z_impl_Event⟩ T_impl_Event (fun g37 h38 =>
    STA 6 h38 ⟨g37, 0, none⟩ a36 fun h39 =>
    LDA 6 h39 ⟨g37, 0, none⟩ fun a40 =>
    oL (cell h39 (Addr.add s_1 4)) fun l41b l41l l41c =>
    CALL prg f_impl_length_impl_Instrument #[.slice l41b l41l l41c] (fun q42 h43 =>
    asI .i64 q42 fun n44 =>
    PIN h39 ⟨g37, 0, none⟩ 6 h43 <|
    CALL prg f_impl_isEvent #[.agg a40, .int .i64 n44] (fun q45 h46 =>
    asB q45 fun b47 =>
    BIF (!b47) (
    Post (.bool false) h46) (
    oI .i64 (cell h46 ⟨g37, 2, none⟩) fun n48 =>
    CALL prg f_impl_within #[.int .i64 n48, .int .i64 (0 : Int), .int .i64 ((IntKind.i64.wrap (notes_3 - (1 : Int))))] (fun q49 h50 =>
    asB q49 fun b51 =>
    BIF (!b51) (
    Post (.bool false) h50) (
    BIF ((decide ((0 : Int) < t53))) (
    oL (cell h50 (Addr.add s_1 5)) fun l52b l52l l52c =>
    IDXS l52b ((IntKind.i64.wrap (t53 - (1 : Int)))) l52l fun p53 =>
    LDA 6 h50 ((Addr.add p53 ((Int.toNat ((IntKind.i64.wrap (t53 - (1 : Int))))) * 6))) fun a54 =>
    LDA 6 h50 ⟨g37, 0, none⟩ fun a55 =>
    CALLD prg compare_6 #[.agg a54, .agg a55] (fun q56 h57 =>
    asI .i64 q56 fun n58 =>
    BIF ((decide ((0 : Int) ≤ n58))) (
    Post (.bool false) h57) (
    impl_ValidScore.J11 N7 Post s_1 notes_3 own_4 stops_5 compare_6 ⟨g37, 0, none⟩ t51b t51l t51c t52 t53 h57)) h50) (
    impl_ValidScore.J11 N7 Post s_1 notes_3 own_4 stops_5 compare_6 ⟨g37, 0, none⟩ t51b t51l t51c t52 t53 h50))) h46)) h43) h39) h) (
    SEMV prg (Builtin.len_ #[T_map_int64_int64] T_int #[own_4]) (fun q59 h60 =>
    asI .i64 q59 fun n61 =>
    BIF (n61 == notes_3) (
    SEMV prg (Builtin.len_ #[T_map_int64_bool] T_int #[stops_5]) (fun q62 h63 =>
    asI .i64 q62 fun n64 =>
    Post (.bool (n64 == notes_3)) h63) h60) (
    Post (.bool false) h60)) h)
def impl_ValidScore.g7 (fr : Frame) : Addr × Int × Value × Value × Value × Option Addr × Nat × Nat × Int × Int := ((gP (lget fr 1)), (gI (lget fr 3)), (lget fr 4), (lget fr 5), (lget fr 6), (gLb (lget fr 51)), (gLl (lget fr 51)), (gLc (lget fr 51)), (gI (lget fr 52)), (gI (lget fr 53)))
def impl_ValidScore.l7 (Post : Value → Heap → Prop) : Frame → Heap → Prop := fun fr h => GRD (shape (kds 126 [(1, .p), (3, .i .i64), (4, .v), (5, .v), (6, .v), (51, .l), (52, .i .i64), (53, .i .i64)]) fr) (LOOP (impl_ValidScore.B7 Post) (impl_ValidScore.g7 fr) h)
def impl_ValidScore.J3 (Post : Value → Heap → Prop) (s_1 : Addr) (h : Heap) : Prop :=
    oL (cell h (Addr.add s_1 5)) fun l21b l21l l21c =>
    CALL prg f_impl_length_impl_Event #[.slice l21b l21l l21c] (fun q22 h23 =>
    asI .i64 q22 fun n24 =>
    NZ (2 : Int) <|
    oL (cell h23 (Addr.add s_1 5)) fun l25b l25l l25c =>
    CALL prg f_impl_starts #[.slice l25b l25l l25c] (fun q26 h27 =>
    SEMV prg (Instr.makeMap T_map_int64_bool none) (fun q28 h29 =>
    CALL prg f_impl_compareEvents #[q26] (fun q30 h31 =>
    oL (cell h31 (Addr.add s_1 5)) fun l32b l32l l32c =>
    LOOP (impl_ValidScore.B7 Post) (s_1, ((IntKind.i64.wrap (Int.tdiv n24 (2 : Int)))), q26, q28, q30, l32b, l32l, l32c, (l32l : Int), (0 : Int)) h31) h29) h27) h23) h
def impl_ValidScore.j3 (Post : Value → Heap → Prop) : Frame → Heap → Prop := fun fr h => GRD (shape (kds 126 [(1, .p)]) fr) (impl_ValidScore.J3 Post (gP (lget fr 1)) h)
def impl_ValidScore.S (s_0 : Array Value) (Post : Value → Heap → Prop) (h : Heap) : Prop :=
    ALC s_0 T_impl_Score (fun g1 h2 =>
    oF .f32 (cell h2 ⟨g1, 0, none⟩) fun r3 =>
    CALL prg f_impl_isRate #[.float .f32 r3] (fun q4 h5 =>
    asB q4 fun b6 =>
    BIF (!b6) (
    Post (.bool false) h5) (
    LDA 3 h5 ⟨g1, 1, none⟩ fun a7 =>
    CALL prg f_impl_ValidTuning #[.agg a7] (fun q8 h9 =>
    asB q8 fun b10 =>
    BIF (!b10) (
    Post (.bool false) h9) (
    oL (cell h9 ⟨g1, 4, none⟩) fun l11b l11l l11c =>
    CALL prg f_impl_areInstruments #[.slice l11b l11l l11c] (fun q12 h13 =>
    asB q12 fun b14 =>
    BIF (!b14) (
    Post (.bool false) h13) (
    oL (cell h13 ⟨g1, 5, none⟩) fun l15b l15l l15c =>
    NZ (2 : Int) <|
    BIF (((Int.tmod (l15l : Int) (2 : Int)) != (0 : Int))) (
    Post (.bool false) h13) (
    oL (cell h13 ⟨g1, 5, none⟩) fun l18b l18l l18c =>
    BIF ((decide ((128 : Int) < (l18l : Int)))) (
    Post (.bool false) h13) (
    impl_ValidScore.J3 Post ⟨g1, 0, none⟩ h13)))) h9)) h5)) h2) h
noncomputable def impl_ValidScore.code : Code := (Tryz.f42.body).getD .skip
theorem impl_ValidScore.call {s_0 : Array Value} {Post : Value → Heap → Prop} {h : Heap} (H : impl_ValidScore.S s_0 Post h) : CALL prg f_impl_ValidScore #[.agg s_0] Post h :=
  fn_call tau_ok mixed (c := impl_ValidScore.code) (Λ := lookL [(3, impl_ValidScore.j3 Post), (1000007, impl_ValidScore.l7 Post)]) Tryz.func42 (by kernel_rfl) (by kernel_rfl)
    (Rq.seq (by kernel_rfl) (Rq.free (by kernel_rfl)) (Rq.seqJ (impl_ValidScore.j3 Post) (by kernel_rfl) (seg (fun _ _ => by kernel_rfl)) (Rq.free (by kernel_rfl))
(Rq.seq (by kernel_rfl) (Rq.free (by kernel_rfl)) (Rq.seq (by kernel_rfl) (Rq.free (by kernel_rfl)) (Rq.seq (by kernel_rfl) (Rq.free (by kernel_rfl)) (Rq.seq (by kernel_rfl) (Rq.seq (by kernel_rfl) (Rq.free (by kernel_rfl)) (Rq.block (Rq.loop (impl_ValidScore.l7 Post) (by kernel_rfl) (segL (g := impl_ValidScore.g7) tau_ok mixed (Λ := fun N7 => lookL [(11, impl_ValidScore.j11 N7 Post)]) (fun _ _ _ => by kernel_rfl) (fun N7 => (Rq.seq (by kernel_rfl) (Rq.free (by kernel_rfl)) (Rq.seq (by kernel_rfl) (Rq.free (by kernel_rfl)) (Rq.seq (by kernel_rfl) (Rq.block (Rq.seq (by kernel_rfl) (Rq.free (by kernel_rfl)) (Rq.seqJ (impl_ValidScore.j11 N7 Post) (by kernel_rfl) (seg (fun _ _ => by kernel_rfl)) (Rq.free (by kernel_rfl))
(Rq.free (by kernel_rfl))))) (Rq.free (by kernel_rfl)))))))))) (Rq.free (by kernel_rfl))))))))
    (Eq.mp (by kernel_rfl) H)

end Go.Sx
