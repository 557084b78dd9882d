/- The rule: which lists of events are good, the first loop. -/
import Derived.Test.YtnhcoeogejgidadGreatDoorLk30
import Derived.Test.YtnhcoeogejgidadGreatDoorTab
import Derived.Test.YtnhcoeogejgidadGreatDoorLr7
import Derived.Test.YtnhcoeogejgidadGreatDoorLk25
import Derived.Test.YtnhcoeogejgidadGreatDoorLva
import Derived.Test.YtnhcoeogejgidadGreatDoorLk1
import Derived.Test.YtnhcoeogejgidadGreatDoorLgw
set_option linter.unusedVariables false
set_option linter.unusedSimpArgs false
namespace Go.Sx
open Go.Proofs
set_option maxRecDepth 100000
set_option maxHeartbeats 1000000

section
variable {h : Heap}
theorem cnt_le {es : List GEvent} {i : Nat} (hi : i < es.length) {p : GEvent → Bool} (h1 : ∀ k, cntB p es i k ≤ 1) (h2 : p es[i]! = true → cntB p es i es[i]!.Note = 0) (k : Int) : cntB p es (i + 1) k ≤ 1 := by
  rw [cntB_succ p hi]
  split
  · next e =>
    rw [Bool.and_eq_true, beq_iff_eq] at e
    rw [← e.2, h2 e.1]; decide
  · have := h1 k; omega
theorem mkS {es : List GEvent} {ni : Int} {i : Nat} (hi : i < es.length) (hp : evPart ni es[i]! = true) (hn : 0 ≤ es[i]!.Note ∧ es[i]!.Note < (es.length / 2 : Nat)) (A : isSt es[i]! = true → cntB isSp es i es[i]!.Note = 0) (B : isSp es[i]! = true → 0 < cntB isSt es i es[i]!.Note)
    (e1 : cntB isSt es (i + 1) es[i]!.Note ≤ 1) (e2 : cntB isSp es (i + 1) es[i]!.Note ≤ 1) : StepS es ni i := by
  refine ⟨hp, hn, fun h => ⟨A h, ?_⟩, fun h => ⟨B h, ?_⟩⟩
  · rw [cntB_succ isSt hi, h, if_pos (by simp)] at e1; omega
  · rw [cntB_succ isSp hi, h, if_pos (by simp)] at e2; omega
theorem J22_c {N : (Option Addr × Nat × Nat × Int × Int × Option Addr × Nat × Nat × Option Addr × Nat × Nat × Int) → Heap → Prop} {Post : Value → Heap → Prop} {h0 hx : Heap} {b : Option Addr} {l c m g5 g7 j : Nat} {ni i : Int} {a : Addr} {e : GEvent} {es : List GEvent}
    (M : Mem h0 hx [(g7, T_int64, keyV (cntL isSp es j m)), (g5, T_int64, keyV (cntL isSt es j m))]) (R : RdP rEvent hx a e) (h1 : 0 ≤ e.Note) (h2 : e.Note < m) (no : (1 < cntB isSt es j e.Note ∨ 1 < cntB isSp es j e.Note) → Post (.bool false) hx)
    (yes : cntB isSt es j e.Note ≤ 1 → cntB isSp es j e.Note ≤ 1 → N (b, l, c, ni, (m : Int), some ⟨g5, 0, none⟩, m, m, some ⟨g7, 0, none⟩, m, m, IntKind.i64.wrap (i + 1)) hx) :
    spec_l08Events.J22 N Post b l c ni (m : Int) (some ⟨g5, 0, none⟩) m m (some ⟨g7, 0, none⟩) m m i a hx := by
  unfold spec_l08Events.J22
  refine R.oI (arrAt M (.there .here) h1 h2 (cntL_len _ _ _ _) ?_)
  rw [cntL_at h1 h2]
  refine brd (fun k => no (.inl (by omega))) fun k1 => R.oI (arrAt M .here h1 h2 (cntL_len _ _ _ _) ?_)
  rw [cntL_at h1 h2]
  exact brd (fun k => no (.inr (by omega))) fun k2 => yes (by omega) (by omega)
theorem l08Events_c {b : Option Addr} {l c : Nat} {es : List GEvent} (S : SlR rEvent h b l c es) {ni : Int} (hni : 0 ≤ ni ∧ ni ≤ 9) : CALL prg f_spec_l08Events #[.slice b l c, .int .i64 ni] (fun u h' => u = .bool (evOk es ni) ∧ Ext h h') h := by
  have hm2 := S.2.2.1
  have hm3 := S.2.1
  have := maxLen_lt
  have hl := S.len
  obtain ⟨m, hm⟩ : ∃ m : Nat, m = l / 2 := ⟨_, rfl⟩
  have e1 : IntKind.i64.wrap (Int.tdiv (l : Int) 2) = (m : Int) := by
    rw [show Int.tdiv (l : Int) 2 = ((l / 2 : Nat) : Int) from by rw [Int.ofNat_tdiv]; rfl, wrap64 (by omega) (by omega), hm]
  refine spec_l08Events.call ?_
  rw [spec_l08Events.S, e1, wrap64 (n := 2 * (m : Int)) (by omega) (by omega)]
  refine nz (by decide) (br (fun hb => ⟨?_, Ext.refl _⟩) fun hb => brd (fun h64 => ⟨?_, Ext.refl _⟩) fun h64 => ?_)
  · rw [evOk_no fun G => ?_]
    have := G.even
    simp only [bne_iff_ne, ne_eq] at hb
    omega
  · rw [evOk_no fun G => ?_]
    have := G.most
    omega
  simp only [bne_eq_false_iff_eq] at hb
  have hlen : l = 2 * m := by omega
  have hlm : es.length / 2 = m := by omega
  unfold spec_l08Events.J4
  refine make_sl (r := rI .i64) (z := 0) (zc := Z_int64) ⟨rfl, rfl⟩ rfl rfl (by decide) (Mem.start h) (by show 8 * m ≤ 2 ^ 48; omega) (by omega) fun g5 h1 x1 M _ => ?_
  refine make_sl (r := rI .i64) (z := 0) (zc := Z_int64) ⟨rfl, rfl⟩ rfl rfl (by decide) M (by show 8 * m ≤ 2 ^ 48; omega) (by omega) fun g7 h2 x2 M _ => ?_
  have hz := cntL_zero isSt es m
  have hz2 := cntL_zero isSp es m
  rw [Int.toNat_natCast]
  refine loop (fun x hh => ∃ i : Nat, x = (b, l, c, ni, (m : Int), some ⟨g5, 0, none⟩, m, m, some ⟨g7, 0, none⟩, m, m, (i : Int)) ∧ i ≤ l ∧ Mem h hh [(g7, T_int64, keyV (cntL isSp es i m)), (g5, T_int64, keyV (cntL isSt es i m))] ∧ (∀ j, j < i → StepS es ni j) ∧ (∀ k, cntB isSt es i k ≤ 1) ∧ ∀ k, cntB isSp es i k ≤ 1) (fun x => (l - x.2.2.2.2.2.2.2.2.2.2.2).toNat)
    ⟨0, rfl, by omega, by rw [← hz, ← hz2]; exact M, fun i hi => by omega, fun k => by rw [cntB_zero]; omega, fun k => by rw [cntB_zero]; omega⟩ ?_
  rintro x hh ⟨i, rfl, hi, M, hS, c1, c2⟩
  have X := M.ext
  refine brd (fun hc => ?_) fun hc => ?_
  · have hil : i < es.length := by omega
    have no : ∀ {h' : Heap}, Ext h h' → ¬ StepS es ni i → (Value.bool false = .bool (evOk es ni) ∧ Ext h h') := fun e hn => ⟨by rw [evOk_no fun G => hn (G.stepS hil)], e⟩
    refine S.idn ev_sz (by omega) fun a Ra => ?_
    have R : ∀ {hx : Heap}, Ext h hx → RdP rEvent hx _ es[i]! := fun e => Ra.ext e
    refine (R X).oI1 (goM M (l00In_c _ _ _ _) fun h3 M => as_b (brN (fun e => no M.ext fun s => ?_) fun ha => ?_))
    · have := s.part
      rw [evPart, e] at this; cases this
    refine (R M.ext).oI (goM M (l00In_c _ _ _ _) fun h4 M => as_b (brN (fun e => no M.ext fun s => ?_) fun hn => ?_))
    · have := s.note
      rw [wrap64 (by omega) (by omega), inR] at e
      rw [hlm] at this
      simp only [Bool.and_eq_false_iff, decide_eq_false_iff_not] at e
      omega
    have hn : 0 ≤ es[i]!.Note ∧ es[i]!.Note < (m : Int) := by
      rw [wrap64 (by omega) (by omega), inR] at hn
      simp only [Bool.and_eq_true, decide_eq_true_eq] at hn
      omega
    have hst := cntL_at (p := isSt) (es := es) (i := i) hn.1 hn.2
    have hsp := cntL_at (p := isSp) (es := es) (i := i) hn.1 hn.2
    have k1 := c1 es[i]!.Note
    have k2 := c2 es[i]!.Note
    unfold spec_l08Events.J12
    refine (R M.ext).oI (br (fun kk => ?_) fun kk => br (fun kp => ?_) fun kp => no M.ext fun s => ?_)
    · have his : isSt es[i]! = true := kk
      have hk : es[i]!.Kind = 2 := by simpa using kk
      have hip : isSp es[i]! = false := by unfold isSp; rw [hk]; rfl
      have pt : ∀ r : Bool, (inR es[i]!.Instrument 0 (ni - 1) && inR es[i]!.Key (-100) 100 && fin es[i]!.Force) = r → evPart ni es[i]! = r := fun r e => by
        rw [evPart, ha, if_neg (by omega), hk, ← e]; simp [Bool.and_assoc]
      refine (R M.ext).oI (arrAt M (.there .here) hn.1 hn.2 (cntL_len _ _ _ _) ?_)
      rw [hst, wrap64 (n := (cntB isSt es i es[i]!.Note : Int) + 1) (by omega) (by omega)]
      refine arrSt M (.there .here) hn.1 hn.2 (cntL_len _ _ _ _) (.there .here) fun h5 M => ?_
      rw [cntL_hit hil his hn.1 hn.2, ← cntL_miss hil hip] at M
      refine (R M.ext).oI (arrAt M .here hn.1 hn.2 (cntL_len _ _ _ _) ?_)
      rw [cntL_miss hil hip, hsp]
      refine brd (fun e => no M.ext fun s => ?_) fun e0 => ?_
      · have := (s.st his).1; omega
      refine (R M.ext).oI (goM M (l00In_c _ _ _ _) fun h6 M => ?_)
      rw [wrap64 (n := ni - 1) (by omega) (by omega)]
      refine as_b (brN (fun e => no M.ext fun s => ?_) fun q1 => ?_)
      · have := s.part; rw [pt false (by rw [show inR es[i]!.Instrument 0 (ni - 1) = false from e]; rfl)] at this; cases this
      refine (R M.ext).oI (goM M (l00In_c _ _ _ _) fun h7 M => as_b (brN (fun e => no M.ext fun s => ?_) fun q2 => ?_))
      · have := s.part; rw [pt false (by rw [show inR es[i]!.Key (-100) 100 = false from e]; simp)] at this; cases this
      refine (R M.ext).oF fun y hy => goM M (l01Finite_c hy _) fun h8 M => as_b (brN (fun e => no M.ext fun s => ?_) fun q3 => ?_)
      · have := s.part; rw [pt false (by rw [show fin es[i]!.Force = false from e]; simp)] at this; cases this
      have hpart := pt true (by rw [show inR es[i]!.Instrument 0 (ni - 1) = true from q1, show inR es[i]!.Key (-100) 100 = true from q2, show fin es[i]!.Force = true from q3]; rfl)
      have z0 : cntB isSp es i es[i]!.Note = 0 := by omega
      refine J22_c M (R M.ext) hn.1 hn.2 (fun e => no M.ext fun s => ?_) fun e1 e2 => ?_
      · have := cnt_le hil c1 (fun _ => (s.st his).2) es[i]!.Note
        have := cnt_le hil c2 (fun h => by rw [hip] at h; cases h) es[i]!.Note
        omega
      have hs := mkS (ni := ni) hil hpart (by rw [hlm]; exact hn) (fun _ => z0) (fun h => by rw [hip] at h; cases h) e1 e2
      refine ⟨⟨i + 1, by rw [wrap64_succ (by omega)], by omega, M, fun j hj => ?_, cnt_le hil c1 (fun _ => (hs.st his).2), cnt_le hil c2 (fun h => by rw [hip] at h; cases h)⟩, by rw [wrap64_succ (by omega)]; show _ < _; simp; omega⟩
      by_cases e : j = i
      · subst e; exact hs
      · exact hS j (by omega)
    · have hip : isSp es[i]! = true := kp
      have hk : es[i]!.Kind = 1 := by simpa using kp
      have his : isSt es[i]! = false := by unfold isSt; rw [hk]; rfl
      have pt : ∀ r : Bool, ((es[i]!.Instrument == 0) && (es[i]!.Key == 0) && (es[i]!.Force == 0)) = r → evPart ni es[i]! = r := fun r e => by
        rw [evPart, ha, if_pos hk, ← e]; simp
      refine (R M.ext).oI (arrAt M .here hn.1 hn.2 (cntL_len _ _ _ _) ?_)
      rw [hsp, wrap64 (n := (cntB isSp es i es[i]!.Note : Int) + 1) (by omega) (by omega)]
      refine arrSt M .here hn.1 hn.2 (cntL_len _ _ _ _) .here fun h5 M => ?_
      rw [cntL_hit hil hip hn.1 hn.2, ← cntL_miss hil his] at M
      refine (R M.ext).oI (arrAt M (.there .here) hn.1 hn.2 (cntL_len _ _ _ _) ?_)
      rw [cntL_miss hil his, hst]
      refine br (fun e => no M.ext fun s => ?_) fun e0 => ?_
      · have := (s.sp hip).1
        rw [beq_iff_eq] at e
        omega
      rw [beq_eq_false_iff_ne] at e0
      refine (R M.ext).oI (br (fun e => no M.ext fun s => ?_) fun q1 => ?_)
      · have := s.part; rw [pt false (by rw [show (es[i]!.Instrument == 0) = false from by simpa using e]; rfl)] at this; cases this
      refine (R M.ext).oI (br (fun e => no M.ext fun s => ?_) fun q2 => ?_)
      · have := s.part; rw [pt false (by rw [show (es[i]!.Key == 0) = false from by simpa using e]; simp)] at this; cases this
      refine (R M.ext).oF fun y hy => goM M (l01Same_c hy fw0 _) fun h8 M => as_b (brN (fun e => no M.ext fun s => ?_) fun q3 => ?_)
      · have := s.part; rw [pt false (by rw [show (es[i]!.Force == 0) = false from e]; simp)] at this; cases this
      have hpart := pt true (by rw [show (es[i]!.Instrument == 0) = true from by simpa using q1, show (es[i]!.Key == 0) = true from by simpa using q2, show (es[i]!.Force == 0) = true from q3]; rfl)
      refine J22_c M (R M.ext) hn.1 hn.2 (fun e => no M.ext fun s => ?_) fun e1 e2 => ?_
      · have := cnt_le hil c2 (fun _ => (s.sp hip).2) es[i]!.Note
        have := cnt_le hil c1 (fun h => by rw [his] at h; cases h) es[i]!.Note
        omega
      have hs := mkS (ni := ni) hil hpart (by rw [hlm]; exact hn) (fun h => by rw [his] at h; cases h) (fun _ => by omega) e1 e2
      refine ⟨⟨i + 1, by rw [wrap64_succ (by omega)], by omega, M, fun j hj => ?_, cnt_le hil c1 (fun h => by rw [his] at h; cases h), cnt_le hil c2 fun _ => (hs.sp hip).2⟩, by rw [wrap64_succ (by omega)]; show _ < _; simp; omega⟩
      by_cases e : j = i
      · subst e; exact hs
      · exact hS j (by omega)
    · rcases kind_of s.part with ⟨h1, _⟩ | ⟨h1, _⟩
      · rw [show isSp es[i]! = false from kp] at h1; cases h1
      · rw [show isSt es[i]! = false from kk] at h1; cases h1
  · refine B25_c (S.ext X) (fun h' j x e1 e2 => ⟨by rw [evOk_no fun G => by rw [G.ord j (by omega)] at e2; cases e2], X.trans x⟩) fun h' x ho => ⟨?_, X.trans x⟩
    · rw [evOk_iff.2 (good_of_S (by omega) (by omega) (fun j hj => hS j (by omega)) fun j hj => ho j (by omega))]
end
end Go.Sx
/- What functions of this seat's program compute, told in words (a predicate over heaps for each), and the proofs that the words are no more than the code's own weakest precondition. -/
namespace Go.Sx
open Go.Proofs
set_option linter.unusedVariables false
set_option maxRecDepth 100000

def impl_ValidScore.J11 (N7 : (Addr × Int × Value × Value × Value × Option Addr × Nat × Nat × Int × Int) → Heap → Prop) (Post : Value → Heap → Prop) (s_1 : Addr) (notes_3 : Int) (own_4 : Value) (stops_5 : Value) (compare_6 : Value) (e_8 : Addr) (t51b : Option Addr) (t51l : Nat) (t51c : Nat) (t52 : Int) (t53 : Int) (h : Heap) : Prop :=
    oI .i64 (cell h (Addr.add e_8 1)) fun n65 =>
    BIF (n65 == (1 : Int)) (
    oI .i64 (cell h (Addr.add e_8 2)) fun n66 =>
    SEMV prg (Instr.lookup T_map_int64_int64 own_4 (.int .i64 n66) true) (fun q67 h68 =>
    TUP2 q67 fun q69 q70 =>
    asI .i64 q69 fun n71 =>
    asB q70 fun b72 =>
    BIF (!b72) (
    Post (.bool false) h68) (
    oI .i64 (cell h68 e_8) fun n73 =>
    BIF (decide (n73 < n71)) (
    Post (.bool false) h68) (
    oI .i64 (cell h68 (Addr.add e_8 2)) fun n74 =>
    SEMV prg (Instr.lookup T_map_int64_bool stops_5 (.int .i64 n74) false) (fun q75 h76 =>
    asB q75 fun b77 =>
    BIF b77 (
    Post (.bool false) h76) (
    oI .i64 (cell h76 (Addr.add e_8 2)) fun n78 =>
    SEMN prg (do Instr.mapUpdate T_map_int64_bool stops_5 (.int .i64 n78) (.bool true); pure .skip) (fun q79 h80 =>
    N7 (s_1, notes_3, own_4, stops_5, compare_6, t51b, t51l, t51c, t52, ((IntKind.i64.wrap (t53 + (1 : Int))))) h80) h76)) h68))) h) (
    N7 (s_1, notes_3, own_4, stops_5, compare_6, t51b, t51l, t51c, t52, ((IntKind.i64.wrap (t53 + (1 : Int))))) h)
def impl_ValidScore.j11 (N7 : (Addr × Int × Value × Value × Value × Option Addr × Nat × Nat × Int × Int) → Heap → Prop) (Post : Value → Heap → Prop) : Frame → Heap → Prop := fun fr h => GRD (shape (kds 126 [(1, .p), (3, .i .i64), (4, .v), (5, .v), (6, .v), (8, .p), (51, .l), (52, .i .i64), (53, .i .i64)]) fr) (impl_ValidScore.J11 N7 Post (gP (lget fr 1)) (gI (lget fr 3)) (lget fr 4) (lget fr 5) (lget fr 6) (gP (lget fr 8)) (gLb (lget fr 51)) (gLl (lget fr 51)) (gLc (lget fr 51)) (gI (lget fr 52)) (gI (lget fr 53)) h)
def impl_ValidScore.B7 (Post : Value → Heap → Prop) (N7 : (Addr × Int × Value × Value × Value × Option Addr × Nat × Nat × Int × Int) → Heap → Prop) : Addr × Int × Value × Value × Value × Option Addr × Nat × Nat × Int × Int → Heap → Prop
  | (s_1, notes_3, own_4, stops_5, compare_6, t51b, t51l, t51c, t52, t53), h =>
    BIF (decide (t53 < t52)) (
    IDXS t51b t53 t51l fun p35 =>
    LDA 6 h ((Addr.add p35 ((Int.toNat t53) * 6))) fun a36 =>
    ALC ⟨Z_impl_Event⟩ T_impl_Event (fun g37 h38 =>
    STA 6 h38 ⟨g37, 0, none⟩ a36 fun h39 =>
    LDA 6 h39 ⟨g37, 0, none⟩ fun a40 =>
    oL (cell h39 (Addr.add s_1 4)) fun l41b l41l l41c =>
    CALL prg f_impl_length_impl_Instrument #[.slice l41b l41l l41c] (fun q42 h43 =>
    asI .i64 q42 fun n44 =>
    PIN h39 ⟨g37, 0, none⟩ 6 h43 <|
    CALL prg f_impl_isEvent #[.agg a40, .int .i64 n44] (fun q45 h46 =>
    asB q45 fun b47 =>
    BIF (!b47) (
    Post (.bool false) h46) (
    oI .i64 (cell h46 ⟨g37, 2, none⟩) fun n48 =>
    CALL prg f_impl_within #[.int .i64 n48, .int .i64 (0 : Int), .int .i64 ((IntKind.i64.wrap (notes_3 - (1 : Int))))] (fun q49 h50 =>
    asB q49 fun b51 =>
    BIF (!b51) (
    Post (.bool false) h50) (
    BIF ((decide ((0 : Int) < t53))) (
    oL (cell h50 (Addr.add s_1 5)) fun l52b l52l l52c =>
    IDXS l52b ((IntKind.i64.wrap (t53 - (1 : Int)))) l52l fun p53 =>
    LDA 6 h50 ((Addr.add p53 ((Int.toNat ((IntKind.i64.wrap (t53 - (1 : Int))))) * 6))) fun a54 =>
    LDA 6 h50 ⟨g37, 0, none⟩ fun a55 =>
    CALLD prg compare_6 #[.agg a54, .agg a55] (fun q56 h57 =>
    asI .i64 q56 fun n58 =>
    BIF ((decide ((0 : Int) ≤ n58))) (
    Post (.bool false) h57) (
    impl_ValidScore.J11 N7 Post s_1 notes_3 own_4 stops_5 compare_6 ⟨g37, 0, none⟩ t51b t51l t51c t52 t53 h57)) h50) (
    impl_ValidScore.J11 N7 Post s_1 notes_3 own_4 stops_5 compare_6 ⟨g37, 0, none⟩ t51b t51l t51c t52 t53 h50))) h46)) h43) h39) h) (
    SEMV prg (Builtin.len_ #[T_map_int64_int64] T_int #[own_4]) (fun q59 h60 =>
    asI .i64 q59 fun n61 =>
    BIF (n61 == notes_3) (
    SEMV prg (Builtin.len_ #[T_map_int64_bool] T_int #[stops_5]) (fun q62 h63 =>
    asI .i64 q62 fun n64 =>
    Post (.bool (n64 == notes_3)) h63) h60) (
    Post (.bool false) h60)) h)
def impl_ValidScore.g7 (fr : Frame) : Addr × Int × Value × Value × Value × Option Addr × Nat × Nat × Int × Int := ((gP (lget fr 1)), (gI (lget fr 3)), (lget fr 4), (lget fr 5), (lget fr 6), (gLb (lget fr 51)), (gLl (lget fr 51)), (gLc (lget fr 51)), (gI (lget fr 52)), (gI (lget fr 53)))
def impl_ValidScore.l7 (Post : Value → Heap → Prop) : Frame → Heap → Prop := fun fr h => GRD (shape (kds 126 [(1, .p), (3, .i .i64), (4, .v), (5, .v), (6, .v), (51, .l), (52, .i .i64), (53, .i .i64)]) fr) (LOOP (impl_ValidScore.B7 Post) (impl_ValidScore.g7 fr) h)
def impl_ValidScore.J3 (Post : Value → Heap → Prop) (s_1 : Addr) (h : Heap) : Prop :=
    oL (cell h (Addr.add s_1 5)) fun l21b l21l l21c =>
    CALL prg f_impl_length_impl_Event #[.slice l21b l21l l21c] (fun q22 h23 =>
    asI .i64 q22 fun n24 =>
    NZ (2 : Int) <|
    oL (cell h23 (Addr.add s_1 5)) fun l25b l25l l25c =>
    CALL prg f_impl_starts #[.slice l25b l25l l25c] (fun q26 h27 =>
    SEMV prg (Instr.makeMap T_map_int64_bool none) (fun q28 h29 =>
    CALL prg f_impl_compareEvents #[q26] (fun q30 h31 =>
    oL (cell h31 (Addr.add s_1 5)) fun l32b l32l l32c =>
    LOOP (impl_ValidScore.B7 Post) (s_1, ((IntKind.i64.wrap (Int.tdiv n24 (2 : Int)))), q26, q28, q30, l32b, l32l, l32c, (l32l : Int), (0 : Int)) h31) h29) h27) h23) h
def impl_ValidScore.j3 (Post : Value → Heap → Prop) : Frame → Heap → Prop := fun fr h => GRD (shape (kds 126 [(1, .p)]) fr) (impl_ValidScore.J3 Post (gP (lget fr 1)) h)
def impl_ValidScore.S (s_0 : Array Value) (Post : Value → Heap → Prop) (h : Heap) : Prop :=
    ALC s_0 T_impl_Score (fun g1 h2 =>
    oF .f32 (cell h2 ⟨g1, 0, none⟩) fun r3 =>
    CALL prg f_impl_isRate #[.float .f32 r3] (fun q4 h5 =>
    asB q4 fun b6 =>
    BIF (!b6) (
    Post (.bool false) h5) (
    LDA 3 h5 ⟨g1, 1, none⟩ fun a7 =>
    CALL prg f_impl_ValidTuning #[.agg a7] (fun q8 h9 =>
    asB q8 fun b10 =>
    BIF (!b10) (
    Post (.bool false) h9) (
    oL (cell h9 ⟨g1, 4, none⟩) fun l11b l11l l11c =>
    CALL prg f_impl_areInstruments #[.slice l11b l11l l11c] (fun q12 h13 =>
    asB q12 fun b14 =>
    BIF (!b14) (
    Post (.bool false) h13) (
    oL (cell h13 ⟨g1, 5, none⟩) fun l15b l15l l15c =>
    NZ (2 : Int) <|
    BIF (((Int.tmod (l15l : Int) (2 : Int)) != (0 : Int))) (
    Post (.bool false) h13) (
    oL (cell h13 ⟨g1, 5, none⟩) fun l18b l18l l18c =>
    BIF ((decide ((128 : Int) < (l18l : Int)))) (
    Post (.bool false) h13) (
    impl_ValidScore.J3 Post ⟨g1, 0, none⟩ h13)))) h9)) h5)) h2) h
noncomputable def impl_ValidScore.code : Code := (Tryz.f39.body).getD .skip
theorem impl_ValidScore.call {s_0 : Array Value} {Post : Value → Heap → Prop} {h : Heap} (H : impl_ValidScore.S s_0 Post h) : CALL prg f_impl_ValidScore #[.agg s_0] Post h :=
  fn_call tau_ok mixed (c := impl_ValidScore.code) (Λ := lookL [(3, impl_ValidScore.j3 Post), (1000007, impl_ValidScore.l7 Post)]) Tryz.func39 (by kernel_rfl) (by kernel_rfl)
    (Rq.seq (by kernel_rfl) (Rq.free (by kernel_rfl)) (Rq.seqJ (impl_ValidScore.j3 Post) (by kernel_rfl) (seg (fun _ _ => by kernel_rfl)) (Rq.free (by kernel_rfl))
(Rq.seq (by kernel_rfl) (Rq.free (by kernel_rfl)) (Rq.seq (by kernel_rfl) (Rq.free (by kernel_rfl)) (Rq.seq (by kernel_rfl) (Rq.free (by kernel_rfl)) (Rq.seq (by kernel_rfl) (Rq.seq (by kernel_rfl) (Rq.free (by kernel_rfl)) (Rq.block (Rq.loop (impl_ValidScore.l7 Post) (by kernel_rfl) (segL (g := impl_ValidScore.g7) tau_ok mixed (Λ := fun N7 => lookL [(11, impl_ValidScore.j11 N7 Post)]) (fun _ _ _ => by kernel_rfl) (fun N7 => (Rq.seq (by kernel_rfl) (Rq.free (by kernel_rfl)) (Rq.seq (by kernel_rfl) (Rq.free (by kernel_rfl)) (Rq.seq (by kernel_rfl) (Rq.block (Rq.seq (by kernel_rfl) (Rq.free (by kernel_rfl)) (Rq.seqJ (impl_ValidScore.j11 N7 Post) (by kernel_rfl) (seg (fun _ _ => by kernel_rfl)) (Rq.free (by kernel_rfl))
(Rq.free (by kernel_rfl))))) (Rq.free (by kernel_rfl)))))))))) (Rq.free (by kernel_rfl))))))))
    (Eq.mp (by kernel_rfl) H)

end Go.Sx
/- The program: which events are good, which scores. -/
set_option linter.unusedVariables false
set_option linter.unusedSimpArgs false
namespace Go.Sx
open Go.Proofs
set_option maxRecDepth 100000
set_option maxHeartbeats 2000000

noncomputable def GScore.ok (s : GScore) : Bool := inside s.Rate 1065353216 1232348160 && s.Tuning.ok && (decide (s.Instruments.length ≤ 6) && instOk s.Instruments) && evOk s.Events s.Instruments.length
section
variable {h : Heap}
theorem length_Event_c (b : Option Addr) (l c : Nat) : Ret prg f_impl_length_impl_Event #[.slice b l c] (.int .i64 l) := fun h => impl_length_impl_Event.call ⟨rfl, Ext.refl _⟩
theorem length_Instrument_c (b : Option Addr) (l c : Nat) : Ret prg f_impl_length_impl_Instrument #[.slice b l c] (.int .i64 l) := fun h => impl_length_impl_Instrument.call ⟨rfl, Ext.refl _⟩
theorem isKey_c (k : Int) : Ret prg f_impl_isKey #[.int .i64 k] (.bool (inR k (-100) 100)) := fun h => impl_isKey.call ((within_c _ _ _).go fun h1 x1 => as_b ⟨rfl, x1⟩)
theorem isEvent_c {cs : Array Value} {e : GEvent} {ni : Int} (R0 : rEvent.rd h cs.toList e) (hni : 0 ≤ ni ∧ ni ≤ 9) : CALL prg f_impl_isEvent #[.agg cs, .int .i64 ni] (fun u h' => u = .bool (evPart ni e) ∧ Ext h h') h := by
  refine impl_isEvent.call (alcR R0 fun g h0 x0 R => R.oI2 (goE (Ext.refl h0) (within_c _ _ _ _) fun h1 x1 => as_b (brN (fun ha => ⟨by rw [evPart, ha]; rfl, x0.trans x1⟩) fun ha => ?_)))
  have R1 := R.ext x1
  refine R1.oI2 (br (fun k1 => ?_) fun k1 => ?_)
  · have hk : e.Kind = 1 := by simpa using k1
    have ev : evPart ni e = ((e.Instrument == 0) && (e.Key == 0) && (e.Force == 0)) := by rw [evPart, ha, if_pos hk]; simp
    refine R1.oI2 (br (fun k2 => ?_) fun k2 => ⟨by rw [ev, k2]; rfl, x0.trans x1⟩)
    refine R1.oI2 (br (fun k3 => ?_) fun k3 => ⟨by rw [ev, k3]; simp, x0.trans x1⟩)
    refine R1.oF2 fun y hy => goE x1 (bitsOf_c hy _) fun h2 x2 => as_i ⟨?_, x0.trans x2⟩
    rw [ev, k2, k3, Bool.true_and, Bool.true_and]
    congr 1
    rw [Bool.eq_iff_iff, beq_iff_eq, beq_iff_eq]
    omega
  · have hk : ¬ e.Kind = 1 := by simpa using k1
    have ev : evPart ni e = (e.Kind == 2 && inR e.Instrument 0 (ni - 1) && inR e.Key (-100) 100 && fin e.Force) := by rw [evPart, ha, if_neg hk]; simp
    refine R1.oI2 (br (fun k2 => ?_) fun k2 => ⟨by rw [ev, k2]; rfl, x0.trans x1⟩)
    refine R1.oI2 (goE x1 (within_c _ _ _ _) fun h2 x2 => ?_)
    rw [wrap64 (n := ni - 1) (by omega) (by omega)]
    refine as_b (br (fun k3 => ?_) fun k3 => ⟨by rw [ev, k3]; simp, x0.trans x2⟩)
    refine (R.ext x2).oI2 (goE x2 (isKey_c _ _) fun h3 x3 => as_b (br (fun k4 => ?_) fun k4 => ⟨by rw [ev, k4]; simp, x0.trans x3⟩))
    exact (R.ext x3).oF2 fun y hy => goE x3 (isFinite_c hy _) fun h4 x4 => as_b ⟨by rw [ev, k2, k3, k4]; rfl, x0.trans x4⟩
theorem ValidScore_J3 {h0 : Heap} {g1 : Nat} {s : GScore} (R : RdP rScore h ⟨g1, 0, none⟩ s) (X0 : Ext h0 h) (k : s.ok = evOk s.Events s.Instruments.length) (hi : s.Instruments.length ≤ 6) (he : s.Events.length = 2 * (s.Events.length / 2)) (hm : s.Events.length / 2 ≤ 64) :
    impl_ValidScore.J3 (fun u h' => u = .bool s.ok ∧ Ext h0 h') ⟨g1, 0, none⟩ h := by
  unfold impl_ValidScore.J3
  obtain ⟨es, hes⟩ : ∃ es, es = s.Events := ⟨_, rfl⟩
  obtain ⟨ni, hni⟩ : ∃ ni, ni = s.Instruments.length := ⟨_, rfl⟩
  obtain ⟨m, hmm⟩ : ∃ m, m = es.length / 2 := ⟨_, rfl⟩
  refine R.oL fun b1 l1 c1 S1 => goX (length_Event_c _ _ _ _) fun h1 x1 => as_i (nz (by decide) ((R.ext x1).oL fun b2 l2 c2 S2 => ?_))
  have e1 := S1.len
  rw [show IntKind.i64.wrap (Int.tdiv (l1 : Int) 2) = (m : Int) from by
    rw [show Int.tdiv (l1 : Int) 2 = ((l1 / 2 : Nat) : Int) from by rw [Int.ofNat_tdiv]; rfl, wrap64 (by omega) (by omega), hmm, hes, e1]]
  refine (starts_c S2).mono ?_
  rintro _ hb ⟨go, rfl, hgo, MO, xb⟩
  refine make_map fun gs h3 x3 hgs MS => ?_
  refine (compareEvents_c go).mono ?_
  rintro _ h4 ⟨gc, rfl, hgc, hcell, x4⟩
  have hsc : gs ≠ gc := by
    obtain ⟨_, _, e, _⟩ := MS
    have := (Array.getElem?_eq_some_iff.1 e).1
    omega
  have Rb := (R.ext x1).ext xb
  have hq : oL (cell hb ((⟨g1, 0, none⟩ : Addr).add 5)) (fun b l c => SlR rEvent hb b l c s.Events) := Rb.oL fun b l c S => S
  obtain ⟨b, l, c, hc0, S⟩ := oL_out hq
  rw [cell_ext hc0 (x3.trans x4)]
  show LOOP _ _ _
  rw [← hes] at S MO k he hm
  rw [← hni] at k hi
  have hl := S.len
  have hm2 := S.2.2.1
  have hm3 := S.2.1
  have := maxLen_lt
  have X1 : Ext h0 hb := (X0.trans x1).trans xb
  refine loop (fun x hh => ∃ i : Nat, x = (⟨g1, 0, none⟩, (m : Int), .map (some go), .map (some gs), .func (.func f_impl_compareEvents_c1) #[] #[.pointer (some ⟨gc, 0, none⟩)], b, l, c, (l : Int), (i : Int)) ∧ i ≤ l ∧ Ext hb hh ∧ MapI hh gs (stopM (es.take i)) ∧ cell hh ⟨gc, 0, none⟩ = some (.map (some go)) ∧ ∀ j, j < i → StepI es ni j) (fun x => (l - x.2.2.2.2.2.2.2.2.2).toNat)
    ⟨0, rfl, by omega, x3.trans x4, by rw [List.take_zero]; exact MS.ext x4, hcell, fun j hj => by omega⟩ ?_
  rintro x hh ⟨i, rfl, hi, X, MS, hcell, hS⟩
  clear hc0 x3 x4
  refine brd (fun hc => ?_) fun hc => ?_
  · have hil : i < es.length := by omega
    have no : ∀ {h' : Heap}, Ext h0 h' → ¬ StepI es ni i → (Value.bool false = .bool s.ok ∧ Ext h0 h') := fun e hn => ⟨by rw [k, evOk_no fun G => hn (G.stepI hil)], e⟩
    have X2 : Ext h0 hh := X1.trans X
    refine (S.ext X).idn ev_sz (by omega) fun a Ra => Ra.lda1 rfl fun cs Rc => localR Rc rfl rfl fun g37 h5 x5 RE => RE.lda1 rfl fun ce Re => ?_
    refine (Rb.ext (X.trans x5)).oL fun b6 l6 c6 S6 => ?_
    have e6 : l6 = ni := by rw [← S6.len, hni]
    refine goE (Ext.refl h5) (length_Instrument_c _ _ _ _) fun h6 x6 => as_i (RE.pin0 (by decide) x6 (goE x6 (isEvent_c (rEvent.ext x6 Re) (by omega)) fun h7 x7 => as_b (brN (fun e => no (X2.trans (x5.trans x7)) fun t => ?_) fun e => ?_)))
    · rw [e6] at e
      rw [t.part] at e; cases e
    have hpart : evPart ni es[i]! = true := by rw [e6] at e; exact e
    refine (RE.ext x7).oI2 (goE x7 (within_c _ _ _ _) fun h8 x8 => as_b (brN (fun e => no (X2.trans (x5.trans x8)) fun t => ?_) fun e => ?_))
    · have := t.note
      rw [wrap64 (by omega) (by omega), inR] at e
      rw [← hmm] at this
      simp only [Bool.and_eq_false_iff, decide_eq_false_iff_not] at e
      omega
    have hn : 0 ≤ es[i]!.Note ∧ es[i]!.Note < (m : Int) := by
      rw [wrap64 (by omega) (by omega), inR] at e
      simp only [Bool.and_eq_true, decide_eq_true_eq] at e
      omega
    have fin : ∀ {h9 : Heap}, Ext h5 h9 → (0 < i → lt4 (keyM es es[i - 1]!) (keyM es es[i]!) = true) → impl_ValidScore.J11 (fun x' h' => (∃ i : Nat, x' = (⟨g1, 0, none⟩, (m : Int), .map (some go), .map (some gs), .func (.func f_impl_compareEvents_c1) #[] #[.pointer (some ⟨gc, 0, none⟩)], b, l, c, (l : Int), (i : Int)) ∧ i ≤ l ∧ Ext hb h' ∧ MapI h' gs (stopM (es.take i)) ∧ cell h' ⟨gc, 0, none⟩ = some (.map (some go)) ∧ ∀ j, j < i → StepI es ni j) ∧ ((l : Int) - x'.2.2.2.2.2.2.2.2.2).toNat < ((l : Int) - i).toNat) (fun u h' => u = .bool s.ok ∧ Ext h0 h') ⟨g1, 0, none⟩ (m : Int) (.map (some go)) (.map (some gs)) (.func (.func f_impl_compareEvents_c1) #[] #[.pointer (some ⟨gc, 0, none⟩)]) ⟨g37, 0, none⟩ b l c (l : Int) (i : Int) h9 := fun {h9} x9 ho => by
      have R9 := RE.ext x9
      have X9 := X2.trans (x5.trans x9)
      have MS9 := MS.ext (x5.trans x9)
      have MO9 := MO.ext (X.trans (x5.trans x9))
      have hc9 := cell_ext hcell (x5.trans x9)
      have hstop := stopM_succ hil
      have step : ∀ {h' : Heap}, Ext hb h' → MapI h' gs (stopM (es.take (i + 1))) → cell h' ⟨gc, 0, none⟩ = some (.map (some go)) → StepI es ni i → ((∃ i' : Nat, ((⟨g1, 0, none⟩ : Addr), (m : Int), Value.map (some go), Value.map (some gs), Value.func (.func f_impl_compareEvents_c1) #[] #[.pointer (some ⟨gc, 0, none⟩)], b, l, c, (l : Int), IntKind.i64.wrap ((i : Int) + 1)) = (⟨g1, 0, none⟩, (m : Int), .map (some go), .map (some gs), .func (.func f_impl_compareEvents_c1) #[] #[.pointer (some ⟨gc, 0, none⟩)], b, l, c, (l : Int), (i' : Int)) ∧ i' ≤ l ∧ Ext hb h' ∧ MapI h' gs (stopM (es.take i')) ∧ cell h' ⟨gc, 0, none⟩ = some (.map (some go)) ∧ ∀ j, j < i' → StepI es ni j) ∧ ((l : Int) - IntKind.i64.wrap ((i : Int) + 1)).toNat < ((l : Int) - i).toNat) := fun y my cy sy =>
        ⟨⟨i + 1, by rw [wrap64_succ (by omega)], by omega, y, my, cy, fun j hj => by
          by_cases e : j = i
          · subst e; exact sy
          · exact hS j (by omega)⟩, by rw [wrap64_succ (by omega)]; omega⟩
      unfold impl_ValidScore.J11
      refine R9.oI (br (fun kp => ?_) fun kp => ?_)
      · have hip : isSp es[i]! = true := kp
        rw [if_pos hip] at hstop
        have hf := ownM_find es es[i]!.Note
        refine R9.oI (look_map MO9 UM_ii U_int64 zero_int64 _ ?_)
        cases hoA : ownA es es[i]!.Note with
        | none =>
          rw [hoA] at hf
          rw [show mfind (ownM es) es[i]!.Note = none from hf]
          refine tup2 (as_i (as_b (br_t rfl (no X9 fun t => ?_))))
          obtain ⟨a, ha, _⟩ := t.sp hip
          rw [hoA] at ha; cases ha
        | some a =>
          rw [hoA] at hf
          rw [show mfind (ownM es) es[i]!.Note = some (.int .i64 a) from hf]
          refine tup2 (as_i (as_b (br_f rfl (R9.oI1 (brd (fun kl => no X9 fun t => ?_) fun kl => R9.oI (look_map1 MS9 UM_ib U_int64 zero_bool _ ?_))))))
          · obtain ⟨a', ha, hle, _⟩ := t.sp hip
            rw [hoA] at ha
            cases ha
            omega
          have hhas := stopM_has (es := es) (i := i) (n := es[i]!.Note) (by omega)
          have hval := stopM_val (es.take i) es[i]!.Note
          have hB : (mfind (stopM (es.take i)) es[i]!.Note).getD (.bool false) = .bool (mfind (stopM (es.take i)) es[i]!.Note).isSome := by
            rcases hval with e | e <;> rw [e] <;> rfl
          rw [hB]
          refine as_b (br (fun kh => no X9 fun t => ?_) fun kh => R9.oI (put_map MS9 (X.trans (x5.trans x9)) (by omega) UM_ib U_int64 _ _ fun q h10 x10 M10 hoth => step x10 (by rw [hstop]; exact M10) ?_ ⟨hpart, by rw [← hmm]; exact hn, ho, fun _ => ⟨a, hoA, by omega, fun j hj hsp hnn => ?_⟩⟩))
          · obtain ⟨j, hj, h1, h2⟩ := hhas.1 kh
            obtain ⟨_, _, _, hno⟩ := t.sp hip
            exact hno j hj h1 h2
          · rw [← hc9]
            unfold cell
            rw [hoth gc (fun e => hsc e.symm)]
          · have := hhas.2 ⟨j, hj, hsp, hnn⟩
            rw [kh] at this; cases this
      · have hip : isSp es[i]! = false := kp
        rw [if_neg (by rw [hip]; decide)] at hstop
        exact step (X.trans (x5.trans x9)) (by rw [hstop]; exact MS9) hc9 ⟨hpart, by rw [← hmm]; exact hn, ho, fun h => by rw [hip] at h; cases h⟩
    refine brd (fun h0i => ?_) fun h0i => fin x8 fun h => by omega
    rw [wrap_pred (by omega) (by omega)]
    refine (Rb.ext (X.trans (x5.trans x8))).oL fun b9 l9 c9 S9 => ?_
    have e9 := S9.len
    rw [← hes] at S9 e9
    refine S9.idn ev_sz (by omega) fun a9 Ra9 => Ra9.lda1 rfl fun c9 Rc9 => (RE.ext x8).lda1 rfl fun c10 Rc10 => ?_
    show CALL prg f_impl_compareEvents_c1 #[.agg c9, .agg c10, .pointer (some ⟨gc, 0, none⟩)] _ _
    refine goE x8 (compare_c1_c (es := es) (cell_ext hcell (x5.trans x8)) (MO.ext (X.trans (x5.trans x8))) Rc9 Rc10) fun h9 x9 => as_i ?_
    rw [cmpL_ge]
    exact brN (fun e => no (X2.trans (x5.trans x9)) fun t => by have := t.ord (by omega); rw [e] at this; cases this) fun e => fin x9 fun _ => e
  · rw [show es.take i = es from List.take_of_length_le (by omega)] at MS
    refine len_map (MO.ext X) UM_ii (as_i (br (fun k1 => len_map MS UM_ib (as_i ⟨?_, X1.trans X⟩)) fun k1 => ⟨?_, X1.trans X⟩))
    · rw [k]
      congr 1
      rw [Bool.eq_iff_iff, beq_iff_eq, evOk_iff]
      have k1 : ((ownM es).length : Int) = m := by simpa using k1
      constructor
      · intro k2
        exact good_of_I he hm (fun j hj => hS j (by omega)) (by omega) (by omega)
      · intro G
        have := G.lens.2
        omega
    · rw [k, evOk_no fun G => ?_]
      have := G.lens.1
      have k1 : ¬ ((ownM es).length : Int) = m := by simpa using k1
      omega
theorem ValidScore_c {cs : Array Value} {s : GScore} (R0 : rScore.rd h cs.toList s) : CALL prg f_impl_ValidScore #[.agg cs] (fun u h' => u = .bool s.ok ∧ Ext h h') h := by
  refine impl_ValidScore.call (alcR R0 fun g h0 x0 R => R.oF2 fun y hy => goE (Ext.refl h0) (isRate_c hy _) fun h1 x1 => as_b (brN (fun e => ⟨by rw [GScore.ok, e]; rfl, x0.trans x1⟩) fun ea => ?_))
  refine (R.ext x1).lda2 foc_Score_Tuning rfl fun ct Rt => goE x1 (ValidTuning_c Rt) fun h2 x2 => as_b (brN (fun e => ⟨by rw [GScore.ok, e]; simp, x0.trans x2⟩) fun eb => ?_)
  refine (R.ext x2).oL2 fun b l c S => goE x2 (areInstruments_c S) fun h3 x3 => as_b (brN (fun e => ⟨by rw [GScore.ok, e]; simp, x0.trans x3⟩) fun ec => ?_)
  have k : s.ok = evOk s.Events s.Instruments.length := by rw [GScore.ok, ea, eb, ec]; rfl
  have hi : s.Instruments.length ≤ 6 := by
    rw [Bool.and_eq_true, decide_eq_true_eq] at ec
    exact ec.1
  refine (R.ext x3).oL2 fun b1 l1 c1 S1 => nz (by decide) ?_
  have e1 := S1.len
  have ht : Int.tmod (l1 : Int) 2 = ((l1 % 2 : Nat) : Int) := by rw [Int.ofNat_tmod]; rfl
  rw [ht]
  refine br (fun e => ⟨?_, x0.trans x3⟩) fun e => (R.ext x3).oL2 fun b2 l2 c2 S2 => ?_
  · rw [k, evOk_no fun G => ?_]
    have := G.even
    rw [bne_iff_ne] at e
    omega
  have e2 := S2.len
  have e : l1 % 2 = 0 := by rw [bne_eq_false_iff_eq] at e; omega
  refine brd (fun e3 => ⟨?_, x0.trans x3⟩) fun e3 => ValidScore_J3 (R.ext x3) (x0.trans x3) k hi (by omega) (by omega)
  rw [k, evOk_no fun G => ?_]
  have := G.most
  omega
theorem l08Ok_c {q : Addr} {s : GScore} (R : RdP rScore h q s) : CALL prg f_spec_l08Ok #[.pointer (some q)] (fun u h' => u = .bool s.ok ∧ Ext h h') h := by
  have hm := maxLen_lt
  refine spec_l08Ok.call (R.oF1 fun y hy => ?_)
  rw [ord_eq hy c1]
  refine br (fun k1 => R.oF1 fun z hz => ?_) fun k1 => ⟨by rw [GScore.ok, inside, fge, k1]; rfl, Ext.refl _⟩
  rw [ord_eq hz cR]
  refine brN (fun k2 => ⟨by rw [GScore.ok, inside, fle, k2]; simp, Ext.refl _⟩) fun k2 => R.lda foc_Score_Tuning rfl fun ct Rt => goX (spec_ValidTuning_c Rt) fun h1 x1 => as_b (brN (fun e => ⟨by rw [GScore.ok, e]; simp, x1⟩) fun eb => ?_)
  have ea : inside s.Rate 1065353216 1232348160 = true := by rw [inside, fge, fle, k1, k2]; rfl
  refine (R.ext x1).oL fun b l c S => ?_
  have hl := S.len
  have s1 := S.2.1
  have s2 := S.2.2.1
  refine brd (fun e => ⟨by rw [GScore.ok, decide_eq_false (p := s.Instruments.length ≤ 6) (by omega)]; simp, x1⟩) fun e6 => ?_
  obtain ⟨xs, hxs⟩ : ∃ xs, xs = s.Instruments := ⟨_, rfl⟩
  have k : s.ok = (instOk xs && evOk s.Events xs.length) := by rw [GScore.ok, ea, eb, decide_eq_true (p := s.Instruments.length ≤ 6) (by omega), hxs]; rfl
  unfold spec_l08Ok.J3
  refine loop (fun x hh => ∃ i : Nat, x = (q, (i : Int)) ∧ i ≤ l ∧ Ext h hh ∧ ∀ j, j < i → instAt xs j = true) (fun x => ((l : Int) - x.2).toNat) ⟨0, rfl, by omega, x1, fun j hj => by omega⟩ ?_
  rintro x hh ⟨i, rfl, hi, X, hd⟩
  refine (R.ext X).oL fun b2 l2 c2 S2 => ?_
  have e2 := S2.len
  rw [← hxs] at S2 e2 hl
  have no : ∀ {h' : Heap}, i < l → instAt xs i = false → Ext h h' → (Value.bool false = .bool s.ok ∧ Ext h h') := fun e hf x => ⟨by rw [k, instOk, all_false (f := instAt xs) (by omega) hf, Bool.false_and], x⟩
  refine brd (fun hc => ?_) fun hc => ?_
  · refine (R.ext X).oL fun b3 l3 c3 S3 => ?_
    have e3 := S3.len
    rw [← hxs] at S3 e3
    refine S3.idn (by decide) (by omega) fun a Ra => goE X (l08Instrument_c Ra) fun h4 x4 => as_b (brN (fun e => no (by omega) (by rw [instAt, e, Bool.false_and]) x4) fun ei => ?_)
    refine loop (fun x hh => ∃ n : Nat, x = (q, (i : Int), (n : Int)) ∧ n ≤ i ∧ Ext h hh ∧ ∀ j, j < n → ¬ xs[j]!.Name = xs[i]!.Name) (fun x => ((i : Int) - x.2.2).toNat) ⟨0, rfl, by omega, x4, fun j hj => by omega⟩ ?_
    rintro x h5 ⟨n, rfl, hn, Y, hne⟩
    refine brd (fun hc2 => ?_) fun hc2 => ?_
    · refine (R.ext Y).oL fun b4 l4 c4 S4 => ?_
      have e4 := S4.len
      rw [← hxs] at S4 e4
      refine S4.idn (by decide) (by omega) fun a4 Ra4 => Ra4.oS1 fun _ => (R.ext Y).oL fun b5 l5 c5 S5 => ?_
      have e5 := S5.len
      rw [← hxs] at S5 e5
      refine S5.idn (by decide) (by omega) fun a5 Ra5 => Ra5.oS1 fun _ => ?_
      rw [str_eq]
      refine brd (fun e => no (by omega) ?_ Y) fun e => ⟨⟨n + 1, by rw [wrap64_succ (by omega)], by omega, Y, fun j hj => ?_⟩, by rw [wrap64_succ (by omega)]; show _ < _; simp; omega⟩
      · rw [instAt, all_false (f := fun k => !decide (xs[k]!.Name = xs[i]!.Name)) (i := n) (by omega) (by rw [decide_eq_true e]; rfl), Bool.and_false]
      · by_cases ej : j = n
        · subst ej; exact e
        · exact hne j (by omega)
    · refine ⟨⟨i + 1, by rw [wrap64_succ (by omega)], by omega, Y, fun j hj => ?_⟩, by rw [wrap64_succ (by omega)]; show _ < _; simp; omega⟩
      by_cases ej : j = i
      · subst ej
        rw [instAt, ei, all_true fun k hk => by rw [decide_eq_false (hne k (by omega))]; rfl]; rfl
      · exact hd j (by omega)
  · refine (R.ext X).oL fun b3 l3 c3 S3 => (R.ext X).oL fun b4 l4 c4 S4 => ?_
    have e4 := S4.len
    rw [← hxs] at S4 e4
    refine goE X (l08Events_c S3 (by omega)) fun h4 x4 => as_b ⟨?_, x4⟩
    rw [k, instOk, all_true fun j hj => hd j (by omega), e4]; rfl
end
end Go.Sx
/- Tunings: cents, frequencies, periods. -/
set_option linter.unusedVariables false
set_option linter.unusedSimpArgs false
namespace Go.Sx
open Go.Proofs Ieee
set_option maxRecDepth 100000
set_option maxHeartbeats 1000000

def GTuning.turn (t : GTuning) (key : Int) : Nat := fdiv .f32 (t.centsOf key) 1150681088
def GTuning.hz (t : GTuning) (key : Int) : Nat := fmul .f32 t.Base (twoTo (t.turn key))
def GTuning.asked (t : GTuning) (key : Int) : Nat × Int := if t.ok then if inR key (-100) 100 then if inTwo (t.turn key) then (t.hz key, 0) else (0, 2) else (0, 2) else (0, 1)
def GTuning.period (t : GTuning) (key : Int) (rate : Nat) : Nat × Int := if (t.asked key).2 = 0 then if inside rate 1065353216 1232348160 then (fdiv .f32 rate (t.asked key).1, 0) else (0, 2) else (0, (t.asked key).2)
end Go.Sx
/- New strings. -/
set_option linter.unusedVariables false
set_option linter.unusedSimpArgs false
namespace Go.Sx
open Go.Proofs Ieee
set_option maxRecDepth 100000
set_option maxHeartbeats 1000000

def allpassFor (f : Nat) : GFilter := if inside f 0 1073741824 then ⟨3, [fdiv .f32 (fsub .f32 1065353216 f) (fadd .f32 1065353216 f), 0, 0], [0, 0]⟩ else z_Filter
def oneZero (m : Nat) : GFilter := ⟨2, [fsub .f32 1065353216 m, m, 0], [0, 0]⟩
def onePole (k : Nat) : GFilter := ⟨1, [fsub .f32 1065353216 k, k, 0], [0, 0]⟩
def strN (p m : Nat) : Nat := if flt .f32 (fsub .f32 (fsub .f32 p m) (FloatKind.f32.nearest ((floorN (fsub .f32 p m) : Nat) : Int))) 1048576000 then floorN (fsub .f32 p m) - 1 else floorN (fsub .f32 p m)
def strOf (p m l : Nat) : GString := { Loop := ⟨List.replicate (strN p m) 0, 0⟩, Tune := allpassFor (fsub .f32 (fsub .f32 p m) (FloatKind.f32.nearest ((strN p m : Nat) : Int))), Damp := oneZero m, Loss := l }
def newString (p m l : Nat) : GString × Int := if inside p 1077936128 1149239296 then if inside m 0 1056964608 then if inside l 0 1065353216 then (strOf p m l, 0) else (z_String, 2) else (z_String, 2) else (z_String, 2)
/-- A filter's cells. -/
def flC (k : Int) (a b c d e : Nat) : List Value := [.int .i64 k, .float .f32 a, .float .f32 b, .float .f32 c, .float .f32 d, .float .f32 e]
theorem c2 : FW .f32 1073741824 1073741824 := fw_c32 (by decide) (by decide)
theorem c3 : FW .f32 1077936128 1077936128 := fw_c32 (by decide) (by decide)
section
variable {h : Heap} {x a : Nat}
/-- A filter's cells that stand for one. -/
def FlR (u : Value) (f : GFilter) : Prop := ∃ (k : Int) (y z : Nat), u = .agg ⟨flC k y z 0 0 0⟩ ∧ rFilter.ow [] (flC k y z 0 0 0) f
end
end Go.Sx
