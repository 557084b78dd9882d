/- The rule: which lists of events are good, the first loop. -/
import Derived.Test.YtnjbecdfoiiaoaaGreatDoorLk31
set_option linter.unusedVariables false
set_option linter.unusedSimpArgs false
namespace Go.Sx
open Go.Proofs
set_option maxRecDepth 100000
set_option maxHeartbeats 1000000

section
variable {h : Heap}
theorem cnt_le {es : List GEvent} {i : Nat} (hi : i < es.length) {p : GEvent → Bool} (h1 : ∀ k, cntB p es i k ≤ 1) (h2 : p es[i]! = true → cntB p es i es[i]!.Note = 0) (k : Int) : cntB p es (i + 1) k ≤ 1 := by
  rw [cntB_succ p hi]
  split
  · next e =>
    rw [Bool.and_eq_true, beq_iff_eq] at e
    rw [← e.2, h2 e.1]; decide
  · have := h1 k; omega
theorem mkS {es : List GEvent} {ni : Int} {i : Nat} (hi : i < es.length) (hp : evPart ni es[i]! = true) (hn : 0 ≤ es[i]!.Note ∧ es[i]!.Note < (es.length / 2 : Nat)) (A : isSt es[i]! = true → cntB isSp es i es[i]!.Note = 0) (B : isSp es[i]! = true → 0 < cntB isSt es i es[i]!.Note)
    (e1 : cntB isSt es (i + 1) es[i]!.Note ≤ 1) (e2 : cntB isSp es (i + 1) es[i]!.Note ≤ 1) : StepS es ni i := by
  refine ⟨hp, hn, fun h => ⟨A h, ?_⟩, fun h => ⟨B h, ?_⟩⟩
  · rw [cntB_succ isSt hi, h, if_pos (by simp)] at e1; omega
  · rw [cntB_succ isSp hi, h, if_pos (by simp)] at e2; omega
theorem J22_c {N : (Option Addr × Nat × Nat × Int × Int × Option Addr × Nat × Nat × Option Addr × Nat × Nat × Int) → Heap → Prop} {Post : Value → Heap → Prop} {h0 hx : Heap} {b : Option Addr} {l c m g5 g7 j : Nat} {ni i : Int} {a : Addr} {e : GEvent} {es : List GEvent}
    (M : Mem h0 hx [(g7, T_int64, keyV (cntL isSp es j m)), (g5, T_int64, keyV (cntL isSt es j m))]) (R : RdP rEvent hx a e) (h1 : 0 ≤ e.Note) (h2 : e.Note < m) (no : (1 < cntB isSt es j e.Note ∨ 1 < cntB isSp es j e.Note) → Post (.bool false) hx)
    (yes : cntB isSt es j e.Note ≤ 1 → cntB isSp es j e.Note ≤ 1 → N (b, l, c, ni, (m : Int), some ⟨g5, 0, none⟩, m, m, some ⟨g7, 0, none⟩, m, m, IntKind.i64.wrap (i + 1)) hx) :
    spec_l08Events.J22 N Post b l c ni (m : Int) (some ⟨g5, 0, none⟩) m m (some ⟨g7, 0, none⟩) m m i a hx := by
  unfold spec_l08Events.J22
  refine R.oI (arrAt M (.there .here) h1 h2 (cntL_len _ _ _ _) ?_)
  rw [cntL_at h1 h2]
  refine brd (fun k => no (.inl (by omega))) fun k1 => R.oI (arrAt M .here h1 h2 (cntL_len _ _ _ _) ?_)
  rw [cntL_at h1 h2]
  exact brd (fun k => no (.inr (by omega))) fun k2 => yes (by omega) (by omega)
theorem l08Events_c {b : Option Addr} {l c : Nat} {es : List GEvent} (S : SlR rEvent h b l c es) {ni : Int} (hni : 0 ≤ ni ∧ ni ≤ 9) : CALL prg f_spec_l08Events #[.slice b l c, .int .i64 ni] (fun u h' => u = .bool (evOk es ni) ∧ Ext h h') h := by
  have hm2 := S.2.2.1
  have hm3 := S.2.1
  have := maxLen_lt
  have hl := S.len
  obtain ⟨m, hm⟩ : ∃ m : Nat, m = l / 2 := ⟨_, rfl⟩
  have e1 : IntKind.i64.wrap (Int.tdiv (l : Int) 2) = (m : Int) := by
    rw [show Int.tdiv (l : Int) 2 = ((l / 2 : Nat) : Int) from by rw [Int.ofNat_tdiv]; rfl, wrap64 (by omega) (by omega), hm]
  refine spec_l08Events.call ?_
  rw [spec_l08Events.S, e1, wrap64 (n := 2 * (m : Int)) (by omega) (by omega)]
  refine nz (by decide) (br (fun hb => ⟨?_, Ext.refl _⟩) fun hb => brd (fun h64 => ⟨?_, Ext.refl _⟩) fun h64 => ?_)
  · rw [evOk_no fun G => ?_]
    have := G.even
    simp only [bne_iff_ne, ne_eq] at hb
    omega
  · rw [evOk_no fun G => ?_]
    have := G.most
    omega
  simp only [bne_eq_false_iff_eq] at hb
  have hlen : l = 2 * m := by omega
  have hlm : es.length / 2 = m := by omega
  unfold spec_l08Events.J4
  refine make_sl (r := rI .i64) (z := 0) (zc := Z_int64) ⟨rfl, rfl⟩ rfl rfl (by decide) (Mem.start h) (by show 8 * m ≤ 2 ^ 48; omega) (by omega) fun g5 h1 x1 M _ => ?_
  refine make_sl (r := rI .i64) (z := 0) (zc := Z_int64) ⟨rfl, rfl⟩ rfl rfl (by decide) M (by show 8 * m ≤ 2 ^ 48; omega) (by omega) fun g7 h2 x2 M _ => ?_
  have hz := cntL_zero isSt es m
  have hz2 := cntL_zero isSp es m
  rw [Int.toNat_natCast]
  refine loop (fun x hh => ∃ i : Nat, x = (b, l, c, ni, (m : Int), some ⟨g5, 0, none⟩, m, m, some ⟨g7, 0, none⟩, m, m, (i : Int)) ∧ i ≤ l ∧ Mem h hh [(g7, T_int64, keyV (cntL isSp es i m)), (g5, T_int64, keyV (cntL isSt es i m))] ∧ (∀ j, j < i → StepS es ni j) ∧ (∀ k, cntB isSt es i k ≤ 1) ∧ ∀ k, cntB isSp es i k ≤ 1) (fun x => (l - x.2.2.2.2.2.2.2.2.2.2.2).toNat)
    ⟨0, rfl, by omega, by rw [← hz, ← hz2]; exact M, fun i hi => by omega, fun k => by rw [cntB_zero]; omega, fun k => by rw [cntB_zero]; omega⟩ ?_
  rintro x hh ⟨i, rfl, hi, M, hS, c1, c2⟩
  have X := M.ext
  refine brd (fun hc => ?_) fun hc => ?_
  · have hil : i < es.length := by omega
    have no : ∀ {h' : Heap}, Ext h h' → ¬ StepS es ni i → (Value.bool false = .bool (evOk es ni) ∧ Ext h h') := fun e hn => ⟨by rw [evOk_no fun G => hn (G.stepS hil)], e⟩
    refine S.idn ev_sz (by omega) fun a Ra => ?_
    have R : ∀ {hx : Heap}, Ext h hx → RdP rEvent hx _ es[i]! := fun e => Ra.ext e
    refine (R X).oI1 (goM M (l00In_c _ _ _ _) fun h3 M => as_b (brN (fun e => no M.ext fun s => ?_) fun ha => ?_))
    · have := s.part
      rw [evPart, e] at this; cases this
    refine (R M.ext).oI (goM M (l00In_c _ _ _ _) fun h4 M => as_b (brN (fun e => no M.ext fun s => ?_) fun hn => ?_))
    · have := s.note
      rw [wrap64 (by omega) (by omega), inR] at e
      rw [hlm] at this
      simp only [Bool.and_eq_false_iff, decide_eq_false_iff_not] at e
      omega
    have hn : 0 ≤ es[i]!.Note ∧ es[i]!.Note < (m : Int) := by
      rw [wrap64 (by omega) (by omega), inR] at hn
      simp only [Bool.and_eq_true, decide_eq_true_eq] at hn
      omega
    have hst := cntL_at (p := isSt) (es := es) (i := i) hn.1 hn.2
    have hsp := cntL_at (p := isSp) (es := es) (i := i) hn.1 hn.2
    have k1 := c1 es[i]!.Note
    have k2 := c2 es[i]!.Note
    unfold spec_l08Events.J12
    refine (R M.ext).oI (br (fun kk => ?_) fun kk => br (fun kp => ?_) fun kp => no M.ext fun s => ?_)
    · have his : isSt es[i]! = true := kk
      have hk : es[i]!.Kind = 2 := by simpa using kk
      have hip : isSp es[i]! = false := by unfold isSp; rw [hk]; rfl
      have pt : ∀ r : Bool, (inR es[i]!.Instrument 0 (ni - 1) && inR es[i]!.Key (-100) 100 && fin es[i]!.Force) = r → evPart ni es[i]! = r := fun r e => by
        rw [evPart, ha, if_neg (by omega), hk, ← e]; simp [Bool.and_assoc]
      refine (R M.ext).oI (arrAt M (.there .here) hn.1 hn.2 (cntL_len _ _ _ _) ?_)
      rw [hst, wrap64 (n := (cntB isSt es i es[i]!.Note : Int) + 1) (by omega) (by omega)]
      refine arrSt M (.there .here) hn.1 hn.2 (cntL_len _ _ _ _) (.there .here) fun h5 M => ?_
      rw [cntL_hit hil his hn.1 hn.2, ← cntL_miss hil hip] at M
      refine (R M.ext).oI (arrAt M .here hn.1 hn.2 (cntL_len _ _ _ _) ?_)
      rw [cntL_miss hil hip, hsp]
      refine brd (fun e => no M.ext fun s => ?_) fun e0 => ?_
      · have := (s.st his).1; omega
      refine (R M.ext).oI (goM M (l00In_c _ _ _ _) fun h6 M => ?_)
      rw [wrap64 (n := ni - 1) (by omega) (by omega)]
      refine as_b (brN (fun e => no M.ext fun s => ?_) fun q1 => ?_)
      · have := s.part; rw [pt false (by rw [show inR es[i]!.Instrument 0 (ni - 1) = false from e]; rfl)] at this; cases this
      refine (R M.ext).oI (goM M (l00In_c _ _ _ _) fun h7 M => as_b (brN (fun e => no M.ext fun s => ?_) fun q2 => ?_))
      · have := s.part; rw [pt false (by rw [show inR es[i]!.Key (-100) 100 = false from e]; simp)] at this; cases this
      refine (R M.ext).oF fun y hy => goM M (l01Finite_c hy _) fun h8 M => as_b (brN (fun e => no M.ext fun s => ?_) fun q3 => ?_)
      · have := s.part; rw [pt false (by rw [show fin es[i]!.Force = false from e]; simp)] at this; cases this
      have hpart := pt true (by rw [show inR es[i]!.Instrument 0 (ni - 1) = true from q1, show inR es[i]!.Key (-100) 100 = true from q2, show fin es[i]!.Force = true from q3]; rfl)
      have z0 : cntB isSp es i es[i]!.Note = 0 := by omega
      refine J22_c M (R M.ext) hn.1 hn.2 (fun e => no M.ext fun s => ?_) fun e1 e2 => ?_
      · have := cnt_le hil c1 (fun _ => (s.st his).2) es[i]!.Note
        have := cnt_le hil c2 (fun h => by rw [hip] at h; cases h) es[i]!.Note
        omega
      have hs := mkS (ni := ni) hil hpart (by rw [hlm]; exact hn) (fun _ => z0) (fun h => by rw [hip] at h; cases h) e1 e2
      refine ⟨⟨i + 1, by rw [wrap64_succ (by omega)], by omega, M, fun j hj => ?_, cnt_le hil c1 (fun _ => (hs.st his).2), cnt_le hil c2 (fun h => by rw [hip] at h; cases h)⟩, by rw [wrap64_succ (by omega)]; show _ < _; simp; omega⟩
      by_cases e : j = i
      · subst e; exact hs
      · exact hS j (by omega)
    · have hip : isSp es[i]! = true := kp
      have hk : es[i]!.Kind = 1 := by simpa using kp
      have his : isSt es[i]! = false := by unfold isSt; rw [hk]; rfl
      have pt : ∀ r : Bool, ((es[i]!.Instrument == 0) && (es[i]!.Key == 0) && (es[i]!.Force == 0)) = r → evPart ni es[i]! = r := fun r e => by
        rw [evPart, ha, if_pos hk, ← e]; simp
      refine (R M.ext).oI (arrAt M .here hn.1 hn.2 (cntL_len _ _ _ _) ?_)
      rw [hsp, wrap64 (n := (cntB isSp es i es[i]!.Note : Int) + 1) (by omega) (by omega)]
      refine arrSt M .here hn.1 hn.2 (cntL_len _ _ _ _) .here fun h5 M => ?_
      rw [cntL_hit hil hip hn.1 hn.2, ← cntL_miss hil his] at M
      refine (R M.ext).oI (arrAt M (.there .here) hn.1 hn.2 (cntL_len _ _ _ _) ?_)
      rw [cntL_miss hil his, hst]
      refine br (fun e => no M.ext fun s => ?_) fun e0 => ?_
      · have := (s.sp hip).1
        rw [beq_iff_eq] at e
        omega
      rw [beq_eq_false_iff_ne] at e0
      refine (R M.ext).oI (br (fun e => no M.ext fun s => ?_) fun q1 => ?_)
      · have := s.part; rw [pt false (by rw [show (es[i]!.Instrument == 0) = false from by simpa using e]; rfl)] at this; cases this
      refine (R M.ext).oI (br (fun e => no M.ext fun s => ?_) fun q2 => ?_)
      · have := s.part; rw [pt false (by rw [show (es[i]!.Key == 0) = false from by simpa using e]; simp)] at this; cases this
      refine (R M.ext).oF fun y hy => goM M (l01Same_c hy fw0 _) fun h8 M => as_b (brN (fun e => no M.ext fun s => ?_) fun q3 => ?_)
      · have := s.part; rw [pt false (by rw [show (es[i]!.Force == 0) = false from e]; simp)] at this; cases this
      have hpart := pt true (by rw [show (es[i]!.Instrument == 0) = true from by simpa using q1, show (es[i]!.Key == 0) = true from by simpa using q2, show (es[i]!.Force == 0) = true from q3]; rfl)
      refine J22_c M (R M.ext) hn.1 hn.2 (fun e => no M.ext fun s => ?_) fun e1 e2 => ?_
      · have := cnt_le hil c2 (fun _ => (s.sp hip).2) es[i]!.Note
        have := cnt_le hil c1 (fun h => by rw [his] at h; cases h) es[i]!.Note
        omega
      have hs := mkS (ni := ni) hil hpart (by rw [hlm]; exact hn) (fun h => by rw [his] at h; cases h) (fun _ => by omega) e1 e2
      refine ⟨⟨i + 1, by rw [wrap64_succ (by omega)], by omega, M, fun j hj => ?_, cnt_le hil c1 (fun h => by rw [his] at h; cases h), cnt_le hil c2 fun _ => (hs.sp hip).2⟩, by rw [wrap64_succ (by omega)]; show _ < _; simp; omega⟩
      by_cases e : j = i
      · subst e; exact hs
      · exact hS j (by omega)
    · rcases kind_of s.part with ⟨h1, _⟩ | ⟨h1, _⟩
      · rw [show isSp es[i]! = false from kp] at h1; cases h1
      · rw [show isSt es[i]! = false from kk] at h1; cases h1
  · refine B25_c (S.ext X) (fun h' j x e1 e2 => ⟨by rw [evOk_no fun G => by rw [G.ord j (by omega)] at e2; cases e2], X.trans x⟩) fun h' x ho => ⟨?_, X.trans x⟩
    · rw [evOk_iff.2 (good_of_S (by omega) (by omega) (fun j hj => hS j (by omega)) fun j hj => ho j (by omega))]
end
end Go.Sx
