/- Voices, the program's; how many events have happened. -/
import Derived.Test.YthhepeklpgefkaaGreatDoorK4
import Derived.Test.YthhepeklpgefkaaGreatDoorLpn
import Derived.Test.YthhepeklpgefkaaGreatDoorLk32
import Derived.Test.YthhepeklpgefkaaGreatDoorLk24
import Derived.Test.YthhepeklpgefkaaGreatDoorLk4
import Derived.Test.YthhepeklpgefkaaGreatDoorTab
set_option linter.unusedVariables false
set_option linter.unusedSimpArgs false
namespace Go.Sx
open Go.Proofs
set_option maxRecDepth 100000
set_option maxHeartbeats 2000000

/-- How many events lie before a time. -/
def hap (es : List GEvent) (now : Int) : Nat := es.countP fun e => decide (e.At < now)
end Go.Sx
/- Players: the rule's and the program's. -/
set_option linter.unusedVariables false
set_option linter.unusedSimpArgs false
namespace Go.Sx
open Go.Proofs
set_option maxRecDepth 100000
set_option maxHeartbeats 2000000

noncomputable def voicesAt (p : GPlayer) (i : Nat) : Bool := voiceOk p.Score p.Voices[i]! && (decide (p.Voices[i]!.Note < 0) || (decide (p.Voices[i]!.Born < p.Now) && (List.range i).all fun k => !(p.Voices[k]!.Note == p.Voices[i]!.Note)))
noncomputable def GPlayer.ok (p : GPlayer) : Bool := p.Score.ok && inR p.Voices.length 1 6 && inR p.Now 0 200000 && inR p.Skipped 0 64 && (p.Next == (hap p.Score.Events p.Now : Int)) && (List.range p.Voices.length).all (voicesAt p)
end Go.Sx
/- The voice of a start, plain; periods have no sign. -/
set_option linter.unusedVariables false
set_option linter.unusedSimpArgs false
namespace Go.Sx
open Go.Proofs Ieee
set_option maxRecDepth 100000
set_option maxHeartbeats 1000000

theorem pos_read {a m : Nat} {e : Int} (h : FloatKind.f32.format.read a = .number false m e) (ha : a < 2 ^ 32) : Pos a := by
  have e1 : FloatKind.f32.format.signWeight = 2 ^ 31 := rfl
  unfold Format.read at h
  dsimp only at h
  rw [e1] at h
  have key : (a / 2 ^ 31 % 2 == 1) = false := by
    split at h
    · simp only [Datum.number.injEq] at h; exact h.1
    · split at h
      · simp only [Datum.number.injEq] at h; exact h.1
      · split at h <;> cases h
  have : ¬ a / 2 ^ 31 % 2 = 1 := by simpa using key
  unfold Pos
  omega
theorem inside_pos {a d k : Nat} {i : Int} (hd : FloatKind.f32.format.read d = .number false k i) (h : inside a 1065353216 d = true) (ha : a < 2 ^ 32) : Pos a := by
  have c : FloatKind.f32.format.read 1065353216 = .number false (2 ^ 23) (-23) := by decide +kernel
  obtain ⟨B, hB⟩ : ∃ B : Nat, 1100 ≤ B := ⟨1100, Nat.le_refl _⟩
  obtain ⟨s, m, e, hr, hs, h1, _⟩ := inside_read hB c hd h
  have : s = false := by
    cases s
    · rfl
    · exfalso
      rw [hs rfl] at h1
      unfold sv at h1
      rw [Nat.zero_mul] at h1
      have := Nat.mul_pos (show 0 < 2 ^ 23 by decide) (Nat.two_pow_pos ((-23 : Int) + (B : Int)).toNat)
      omega
  subst this
  exact pos_read hr ha
theorem nar_pos {w : Nat} {j : Int} (h : Up .f64 w j) : Pos (nar w) := by
  obtain ⟨m, p, hr, _⟩ := h
  unfold nar
  refine pos_cn ?_
  split
  · show qn .f32 < 2 ^ 31; decide
  · unfold FloatKind.decode
    rw [hr, enc_number]
    exact near_pos m p
theorem two_pos {x : Nat} (h : inTwo x = true) : Pos (twoTo x) := by
  obtain ⟨_, k1, k2, _, _, hM, _⟩ := two_facts h
  have hp : Up .f64 (pow2 (twoK x)) (twoK x) := ⟨_, _, pow2_read (by omega) (by omega), .inr ⟨by omega, Nat.pow_le_pow_right (by decide) (by omega)⟩⟩
  exact nar_pos (up_fmul hM.up hp (by omega) (by omega))
theorem period_pos {t : GTuning} {key : Int} {rate : Nat} (hb : t.Base < 2 ^ 32) (hr : rate < 2 ^ 32) (h : (t.period key rate).2 = 0) : Pos (t.period key rate).1 := by
  have c2 : FloatKind.f32.format.read 1184645120 = .number false 10240000 (-9) := by decide +kernel
  unfold GTuning.period at h ⊢
  by_cases e : (t.asked key).2 = 0
  · rw [if_pos e] at h ⊢
    by_cases e2 : inside rate 1065353216 1232348160 = true
    · rw [if_pos e2]
      refine pos_div (inside_pos read_mil e2 hr) ?_
      unfold GTuning.asked at e ⊢
      split at e
      · next h1 =>
        split at e
        · next h2 =>
          split at e
          · next h3 =>
            rw [if_pos h1, if_pos h2, if_pos h3]
            refine pos_mul (inside_pos c2 ?_ hb) (two_pos h3)
            unfold GTuning.ok at h1
            simp only [Bool.and_eq_true] at h1
            exact h1.1.1.1.1
          · exact absurd e (by decide)
        · exact absurd e (by decide)
      · exact absurd e (by decide)
    · rw [if_neg e2] at h; exact absurd h (by decide)
  · rw [if_neg e] at h; exact absurd h e
def by2 (c : Nat) : Nat := if feq .f32 c 1065353216 then 1073741824 else 1082130432
theorem by_pos (c : Nat) : Pos (by2 c) := by unfold by2 Pos; split <;> decide
def baseV (e : GEvent) : GVoice := { z_Voice with Note := e.Note, Instrument := e.Instrument, Born := e.At }
def voiceOf (s : GScore) (e : GEvent) : Option GVoice :=
  let x := s.Instruments[e.Instrument.toNat]!
  let p := s.Tuning.period e.Key s.Rate
  if p.2 = 0 then
    if x.Kind = 1 then
      if (newString p.1 x.A x.B).2 = 0 then
        if ((newString p.1 x.A x.B).1.pluck x.C e.Force).2 = 0 then some { baseV e with String := ((newString p.1 x.A x.B).1.pluck x.C e.Force).1 } else none
      else none
    else if x.Kind = 2 then
      if (newPipe (floorZ (fdiv .f32 p.1 (by2 x.C))) (feq .f32 x.C 1065353216) x.A x.B).2 = 0 then some { baseV e with Pipe := (newPipe (floorZ (fdiv .f32 p.1 (by2 x.C))) (feq .f32 x.C 1065353216) x.A x.B).1, Drive := e.Force } else none
    else if (newBow (floorZ p.1) x.A x.B x.C).2 = 0 then some { baseV e with Bow := (newBow (floorZ p.1) x.A x.B x.C).1, Drive := e.Force } else none
  else none
theorem pipe_same {a : Nat} {op : Bool} {k l : Nat} (h : Pos a) : newPipe (floorY a) op k l = newPipe (floorZ a) op k l := by
  rcases floor_same h with e | ⟨e1, e2, _⟩
  · rw [e]
  · unfold newPipe pipeIf
    rw [e1, e2, Bool.and_false]; rfl
theorem bow_same {a : Nat} {k l s : Nat} (h : Pos a) : newBow (floorY a) k l s = newBow (floorZ a) k l s := by
  rcases floor_same h with e | ⟨_, _, e1, e2⟩
  · rw [e]
  · unfold newBow
    rw [e1, e2]; rfl
/-- A voice's cells, with no body. -/
def vcC (n i b : Int) : List Value := [.int .i64 n, .int .i64 i, .int .i64 b, .bool false, .float .f32 0, .slice none 0 0, .int .i64 (0 : Int), .int .i64 (0 : Int), .float .f32 0, .float .f32 0, .float .f32 0, .float .f32 0, .float .f32 0, .int .i64 (0 : Int), .float .f32 0, .float .f32 0, .float .f32 0, .float .f32 0, .float .f32 0, .float .f32 0, .slice none 0 0, .slice none 0 0, .slice none 0 0, .int .i64 (0 : Int), .float .f32 0, .float .f32 0, .float .f32 0, .float .f32 0, .float .f32 0, .bool false, .float .f32 0, .float .f32 0, .float .f32 0, .slice none 0 0, .int .i64 (0 : Int), .slice none 0 0, .int .i64 (0 : Int), .int .i64 (0 : Int), .float .f32 0, .float .f32 0, .float .f32 0, .float .f32 0, .float .f32 0, .float .f32 0, .float .f32 0]
theorem base_ow (e : GEvent) : rVoice.ow [] (vcC e.Note e.Instrument e.At) (baseV e) := by
  obtain ⟨B1, B2, v1, v2, hB, hv, ⟨rfl, rfl⟩, B3, B4, v3, v4, rfl, rfl, ⟨rfl, rfl⟩, B5, B6, v5, v6, rfl, rfl, ⟨rfl, rfl⟩, h6⟩ := zow_Voice
  obtain rfl : B6 = [] := by simpa using hB.symm
  exact ⟨[], [], [.int .i64 e.Note], [.int .i64 e.Instrument] ++ ([.int .i64 e.At] ++ v6), rfl, by have := congrArg (List.drop 3) hv; rw [show v6 = _ from this.symm]; rfl, ⟨rfl, rfl⟩,
    [], [], [.int .i64 e.Instrument], [.int .i64 e.At] ++ v6, rfl, rfl, ⟨rfl, rfl⟩, [], [], [.int .i64 e.At], v6, rfl, rfl, ⟨rfl, rfl⟩, h6⟩
end Go.Sx
/- Scores copied. -/
set_option linter.unusedVariables false
set_option linter.unusedSimpArgs false
namespace Go.Sx
open Go.Proofs
set_option maxRecDepth 100000
set_option maxHeartbeats 1000000

theorem flat_Instrument : Flat rInstrument := flat_via (flat_seq flat_S (flat_seq (flat_I _) (flat_seq (flat_F _) (flat_seq (flat_F _) (flat_F _)))))
end Go.Sx
/- The voice of a start: the rule's. -/
set_option linter.unusedVariables false
set_option linter.unusedSimpArgs false
namespace Go.Sx
open Go.Proofs Ieee
set_option maxRecDepth 100000
set_option maxHeartbeats 4000000

/-- What the rule's voice of a start is: right if the answer is true. -/
def ForR (h h' : Heap) (u : Value) (o : Option GVoice) : Prop := ∃ (cs : Array Value) (B : List Blk) (v : GVoice), u = .tuple ⟨[.agg cs, .bool o.isSome]⟩ ∧ rVoice.ow B cs.toList v ∧ Mem h h' B ∧ ∀ w, o = some w → v = w
theorem sl_int {h0 h : Heap} {L : List Blk} {g : Nat} {n : Int} (M : Mem h0 h L) (l : Look L g ⟨[.int .i64 n]⟩) : SlR (rI .i64) h (some ⟨g, 0, none⟩) 1 1 [n] :=
  ⟨rfl, Nat.le_refl _, by decide, [.int .i64 n], fun i hi => by
    have h0 : i = 0 := by simpa using hi
    subst h0
    exact ⟨⟨g, 0, none⟩, rfl, by rw [add0, M.cell l]; rfl⟩, ⟨[.int .i64 n], [], rfl, rfl, rfl⟩⟩
theorem sl_nil {h : Heap} {g : Nat} : SlR (rF .f32) h (some ⟨g, 0, none⟩) 0 0 [] := ⟨rfl, Nat.le_refl _, Nat.zero_le _, [], fun i hi => by simp at hi, rfl⟩
section
variable {h : Heap} {x a : Nat}
/-- The end of all ways: the voice put where the result lies. -/
theorem for_end {h0 hh : Heap} {g1 g6 : Nat} {L : List Blk} {v : GVoice} {o : Option GVoice} (P : Pt rVoice h0 hh ⟨g6, 0, none⟩ ⟨g6, T_impl_Voice, [], []⟩ ((g1, T_impl_Voice, ⟨Z_impl_Voice⟩) :: L) v) {b : Bool} (hb : b = o.isSome) (hv : ∀ w, o = some w → v = w) :
    LDA 45 hh ⟨g6, 0, none⟩ fun a => STA 45 hh ⟨g1, 0, none⟩ a fun h1 => LDA 45 h1 ⟨g1, 0, none⟩ fun a' => ForR h0 h1 (.tuple ⟨[.agg a', .bool b]⟩) o := by
  obtain ⟨cs', B', M', O'⟩ := P.out
  refine M'.lda0 .here (osz O' rfl) ?_
  have M' := M'.cnt (W := (g1, T_impl_Voice, ⟨Z_impl_Voice⟩) :: B') (fun p => by simp only [cnt_app, cnt_cons, cnt_nil] at *; omega)
  refine M'.sta0 .here (osz O' rfl) (rVoice.oone O') rfl .here fun h3 M => M.lda0 .here (osz O' rfl) ⟨_, B', v, by rw [hb], O', M.drop, hv⟩
theorem for_no {h0 hh : Heap} {g1 : Nat} {L : List Blk} {o : Option GVoice} (M : Mem h0 hh ((g1, T_impl_Voice, ⟨Z_impl_Voice⟩) :: L)) (ho : o = none) :
    STA 45 hh ⟨g1, 0, none⟩ ⟨Z_impl_Voice⟩ fun h1 => LDA 45 h1 ⟨g1, 0, none⟩ fun a => ForR h0 h1 (.tuple ⟨[.agg a, .bool false]⟩) o := by
  subst ho
  exact M.sta0 .here rfl (all_one rfl) rfl .here fun h3 M => M.lda0 .here rfl ⟨_, [], z_Voice, rfl, zow_Voice, (Mem.start h0).grow M.ext, fun w e => by cases e⟩
theorem spec_l09For_c {p q : Addr} {s : GScore} {e : GEvent} (Rs : RdP rScore h p s) (Re : RdP rEvent h q e) (hs : s.ok = true) (hi : 0 ≤ e.Instrument ∧ e.Instrument < s.Instruments.length) :
    CALL prg f_spec_l09For #[.pointer (some p), .pointer (some q)] (fun u h' => ForR h h' u (voiceOf s e)) h := by
  refine spec_l09For.call ((Mem.start h).alc fun g1 h1 x1 M => ?_)
  have A : ∀ {hh : Heap}, Ext h hh → RdP rScore hh p s := fun e => Rs.ext e
  have E : ∀ {hh : Heap}, Ext h hh → RdP rEvent hh q e := fun e => Re.ext e
  refine (E M.ext).oI ((E M.ext).oI ((E M.ext).oI1 (M.alc fun g6 h2 x2 M2 => (E M.ext).pin0 (by decide) x2 ((E M.ext).pinO (by decide) x2 ((E M.ext).pinO (by decide) x2 ?_)))))
  refine M2.sta0 .here rfl (all_one rfl) rfl .here fun h3 M => ?_
  have M : Mem h h3 [(g6, T_impl_Voice, ⟨vcC e.Note e.Instrument e.At⟩), (g1, T_impl_Voice, ⟨Z_impl_Voice⟩)] := M
  refine (A M.ext).oL fun b l c S => (E M.ext).oI (S.idx (by decide) hi.1 (by rw [← S.len]; exact hi.2) fun pa Ra => Ra.lda1 rfl fun c12 R12 => M.alc fun g13 h4 x4 M4 => ?_)
  refine Ra.pin rfl x4 ((E M.ext).pinO (by decide) x4 ((A M.ext).pinO (by decide) x4 ?_))
  refine M4.sta0 .here (rsz R12 rfl) (rInstrument.rone R12) rfl .here fun h5 M => ?_
  have hx : ∃ ins, ins = s.Instruments[e.Instrument.toNat]! := ⟨_, rfl⟩
  obtain ⟨ins, hx⟩ := hx
  rw [← hx] at R12
  have O12 := flat_Instrument _ _ _ R12
  have I : ∀ {hh : Heap} {L : List Blk}, Mem h hh L → Look L g13 c12 → RdP rInstrument hh ⟨g13, 0, none⟩ ins := fun M l => M.rdp l (rInstrument.look O12 M (List.nil_sublist _))
  refine (A M.ext).lda foc_Score_Tuning rfl fun c16 R16 => (E M.ext).oI ((A M.ext).oF1 fun r18 h18 => goFI (spec_PeriodOfKey_c R16 h18) fun h6 r23 x6 h23 => tup2 (as_f (as_i ?_)))
  have M := M.grow x6
  have hbase : s.Tuning.Base < 2 ^ 32 := by
    obtain ⟨v1, r1, _, ⟨y, rfl, hy⟩, _⟩ := R16
    exact hy.lt
  have hpos := fun hz => period_pos (key := e.Key) hbase h18.lt hz
  have hvo : ∀ {o : Option GVoice}, o = voiceOf s e → voiceOf s e = o := fun h => h.symm
  unfold voiceOf
  rw [← hx]
  dsimp only
  refine br (fun k => ?_) fun k => ?_
  · have k : ¬ (s.Tuning.period e.Key s.Rate).2 = 0 := by simpa using k
    exact for_no (M.cnt (W := (g1, T_impl_Voice, ⟨Z_impl_Voice⟩) :: []) (fun p => by simp only [cnt_app, cnt_cons, cnt_nil] at *; omega)) (by rw [if_neg k])
  have k : (s.Tuning.period e.Key s.Rate).2 = 0 := by simpa using k
  have hpos := hpos k
  rw [if_pos k]
  generalize (s.Tuning.period e.Key s.Rate).1 = per at *
  have IM := I M .here
  refine IM.oI2 ?_
  have J12 : ∀ {hh : Heap} {gp : Nat} {B X : List Blk} {cs : Array Value} {y : GString} {two : Int} {o : Option GVoice}, rString.ow B cs.toList y → Mem h hh ((gp, T_impl_String, cs) :: (g6, T_impl_Voice, ⟨vcC e.Note e.Instrument e.At⟩) :: (g1, T_impl_Voice, ⟨Z_impl_Voice⟩) :: (B ++ X)) → (two == 0) = o.isSome → (∀ w, o = some w → { baseV e with String := y } = w) →
      spec_l09For.J12 (fun u h' => ForR h h' u o) ⟨g1, 0, none⟩ ⟨g6, 0, none⟩ ⟨gp, 0, none⟩ two hh := fun {hh gp B X cs y two o} O M hb hv => by
    unfold spec_l09For.J12
    refine M.lda0 .here (osz O rfl) ?_
    have M := M.cnt (W := (g6, T_impl_Voice, ⟨vcC e.Note e.Instrument e.At⟩) :: ([] ++ (B ++ ((g1, T_impl_Voice, ⟨Z_impl_Voice⟩) :: X)))) (fun p => by simp only [cnt_app, cnt_cons, cnt_nil] at *; omega)
    have P : Pt rVoice h hh ⟨g6, 0, none⟩ ⟨g6, T_impl_Voice, [], []⟩ (B ++ ((g1, T_impl_Voice, ⟨Z_impl_Voice⟩) :: X)) (baseV e) := Pt.new (base_ow e) M
    exact P.sts foc_Voice_String rfl O fun h1 P => for_end P hb hv
  have J19 : ∀ {hh : Heap} {gp : Nat} {B X : List Blk} {cs : Array Value} {y : GPipe} {two : Int} {o : Option GVoice}, rPipe.ow B cs.toList y → Mem h hh ((gp, T_impl_Pipe, cs) :: (g6, T_impl_Voice, ⟨vcC e.Note e.Instrument e.At⟩) :: (g1, T_impl_Voice, ⟨Z_impl_Voice⟩) :: (B ++ X)) → (two == 0) = o.isSome → (∀ w, o = some w → { baseV e with Pipe := y, Drive := e.Force } = w) →
      spec_l09For.J19 (fun u h' => ForR h h' u o) q ⟨g1, 0, none⟩ ⟨g6, 0, none⟩ ⟨gp, 0, none⟩ two hh := fun {hh gp B X cs y two o} O M hb hv => by
    unfold spec_l09For.J19
    refine M.lda0 .here (osz O rfl) ?_
    have M := M.cnt (W := (g6, T_impl_Voice, ⟨vcC e.Note e.Instrument e.At⟩) :: ([] ++ (B ++ ((g1, T_impl_Voice, ⟨Z_impl_Voice⟩) :: X)))) (fun p => by simp only [cnt_app, cnt_cons, cnt_nil] at *; omega)
    have P : Pt rVoice h hh ⟨g6, 0, none⟩ ⟨g6, T_impl_Voice, [], []⟩ (B ++ ((g1, T_impl_Voice, ⟨Z_impl_Voice⟩) :: X)) (baseV e) := Pt.new (base_ow e) M
    exact P.sts foc_Voice_Pipe rfl O fun h1 P => (E P.ext).oF fun r hr => P.stF hr fun h2 P => for_end P hb hv
  have J23 : ∀ {hh : Heap} {gp : Nat} {B X : List Blk} {cs : Array Value} {y : GBow} {two : Int} {o : Option GVoice}, rBow.ow B cs.toList y → Mem h hh ((gp, T_impl_Bow, cs) :: (g6, T_impl_Voice, ⟨vcC e.Note e.Instrument e.At⟩) :: (g1, T_impl_Voice, ⟨Z_impl_Voice⟩) :: (B ++ X)) → (two == 0) = o.isSome → (∀ w, o = some w → { baseV e with Bow := y, Drive := e.Force } = w) →
      spec_l09For.J23 (fun u h' => ForR h h' u o) q ⟨g1, 0, none⟩ ⟨g6, 0, none⟩ ⟨gp, 0, none⟩ two hh := fun {hh gp B X cs y two o} O M hb hv => by
    unfold spec_l09For.J23
    refine M.lda0 .here (osz O rfl) ?_
    have M := M.cnt (W := (g6, T_impl_Voice, ⟨vcC e.Note e.Instrument e.At⟩) :: ([] ++ (B ++ ((g1, T_impl_Voice, ⟨Z_impl_Voice⟩) :: X)))) (fun p => by simp only [cnt_app, cnt_cons, cnt_nil] at *; omega)
    have P : Pt rVoice h hh ⟨g6, 0, none⟩ ⟨g6, T_impl_Voice, [], []⟩ (B ++ ((g1, T_impl_Voice, ⟨Z_impl_Voice⟩) :: X)) (baseV e) := Pt.new (base_ow e) M
    exact P.sts foc_Voice_Bow rfl O fun h1 P => (E P.ext).oF fun r hr => P.stF hr fun h2 P => for_end P hb hv
  refine br (fun k1 => ?_) fun k1 => ?_
  · rw [if_pos (show ins.Kind = 1 by simpa using k1)]
    refine IM.oF2 fun r28 h28 => IM.oF2 fun r29 h29 => PairR.go M (spec_NewString_c h23 h28 h29) fun h7 c7 B7 M O7 s7 => tup2 (as_a (as_i (M.alc fun g36 h8 x8 M => M.sta0 .here s7 (rString.oone O7) rfl .here fun h9 M => ?_)))
    refine br (fun k2 => ?_) fun k2 => ?_
    · exact for_no (M.cnt (W := (g1, T_impl_Voice, ⟨Z_impl_Voice⟩) :: []) (fun p => by simp only [cnt_app, cnt_cons, cnt_nil] at *; omega)) (by rw [if_neg (by simpa using k2)])
    have k2 : (newString per ins.A ins.B).2 = 0 := by simpa using k2
    rw [if_pos k2]
    have I9 := I M (.there (Look.skip .here))
    have R7 : rString.rd h9 c7.toList (newString per ins.A ins.B).1 := rString.look O7 (M.cnt (W := B7) (fun p => by simp only [cnt_app, cnt_cons, cnt_nil] at *; omega)) (List.Sublist.refl _)
    refine M.lda0 .here s7 (I9.oF2 fun r42 h42 => (E M.ext).oF fun r43 h43 => ?_)
    have Q : RdP rString h9 ⟨g36, 0, none⟩ (newString per ins.A ins.B).1 := M.rdp .here R7
    have PS : ∀ {hh : Heap}, Ext h9 hh → CALL prg f_spec_PluckString #[.agg c7, .float .f32 r42, .float .f32 r43] (fun u h' => PairR rString hh h' u ((newString per ins.A ins.B).1.pluck ins.C e.Force).1 ((newString per ins.A ins.B).1.pluck ins.C e.Force).2) hh := fun x => spec_PluckString_c (rString.ext x R7) h42 h43
    have last : ∀ {hh : Heap} {gp : Nat} {cs : Array Value} {B : List Blk}, rString.ow B cs.toList ((newString per ins.A ins.B).1.pluck ins.C e.Force).1 → Mem h9 hh ((gp, T_impl_String, ⟨Z_impl_String⟩) :: B) →
        STA 15 hh ⟨gp, 0, none⟩ cs fun h52 => spec_l09For.J12 (fun u h' => ForR h h' u (if ((newString per ins.A ins.B).1.pluck ins.C e.Force).2 = 0 then some { baseV e with String := ((newString per ins.A ins.B).1.pluck ins.C e.Force).1 } else none)) ⟨g1, 0, none⟩ ⟨g6, 0, none⟩ ⟨gp, 0, none⟩ ((newString per ins.A ins.B).1.pluck ins.C e.Force).2 h52 := fun {hh gp cs B} O N => by
      have M := (M.join N).cnt (W := (gp, T_impl_String, ⟨Z_impl_String⟩) :: (g6, T_impl_Voice, ⟨vcC e.Note e.Instrument e.At⟩) :: (g1, T_impl_Voice, ⟨Z_impl_Voice⟩) :: (B ++ [])) (fun p => by simp only [cnt_app, cnt_cons, cnt_nil] at *; omega)
      refine M.sta0 .here (osz O rfl) (rString.oone O) rfl .here fun h52 M => J12 O M ?_ ?_
      · by_cases k3 : ((newString per ins.A ins.B).1.pluck ins.C e.Force).2 = 0
        · rw [if_pos k3, k3]; rfl
        · rw [if_neg k3]; simpa using k3
      · intro w hw
        by_cases k3 : ((newString per ins.A ins.B).1.pluck ins.C e.Force).2 = 0
        · rw [if_pos k3] at hw; exact Option.some.inj hw
        · rw [if_neg k3] at hw; cases hw
    have E9 := E M.ext
    clear J12 J19 J23
    refine ⟨?_, ?_⟩
    · refine PairR.go (Mem.start h9) (PS (Ext.refl _)) fun h10 c10 B10 N O10 s10 => tup2 (as_a (as_i (N.alc fun g50 h11 x11 N => E9.pinO (by decide) N.ext (I9.pin2 (by decide) N.ext (Q.pin rfl N.ext ?_)))))
      exact last O10 (N.cnt (fun p => by simp only [List.append_eq, cnt_app, cnt_cons, cnt_nil] at *; omega))
    · refine (Mem.start h9).alc fun g53 h10 x10 N => E9.pinO (by decide) N.ext (I9.pin2 (by decide) N.ext (Q.pin rfl N.ext ?_))
      refine PairR.go N (PS N.ext) fun h11 c11 B11 N O11 s11 => tup2 (as_a (as_i ?_))
      exact last O11 (N.cnt (fun p => by simp only [cnt_app, cnt_cons, cnt_nil] at *; omega))
  have k1' : ¬ ins.Kind = 1 := by simpa using k1
  rw [if_neg k1']
  refine br (fun k2 => ?_) fun k2 => ?_
  · rw [if_pos (show ins.Kind = 2 by simpa using k2)]
    clear J12 J23
    have ap : Pos (fdiv .f32 per (by2 ins.C)) := pos_div hpos (by_pos _)
    have key18 : ∀ by', FW .f32 by' (by2 ins.C) → spec_l09For.J18 (fun u h' => ForR h h' u (if (newPipe (floorZ (fdiv .f32 per (by2 ins.C))) (feq .f32 ins.C 1065353216) ins.A ins.B).2 = 0 then some { baseV e with Pipe := (newPipe (floorZ (fdiv .f32 per (by2 ins.C))) (feq .f32 ins.C 1065353216) ins.A ins.B).1, Drive := e.Force } else none)) q ⟨g1, 0, none⟩ ⟨g6, 0, none⟩ ⟨g13, 0, none⟩ r23 by' h6 := by
      intro by' hby
      unfold spec_l09For.J18
      refine IM.oF fun r104 h104 => IM.oF fun r105 h105 => IM.oF fun r106 h106 => ?_
      rw [ord_eq h104 c1]
      have key : ∀ {hh : Heap} {gA : Nat} {B : List Blk} {cs : Array Value}, rPipe.ow B cs.toList (newPipe (floorY (fdiv .f32 per (by2 ins.C))) (feq .f32 ins.C 1065353216) ins.A ins.B).1 → Mem h6 hh ((gA, T_impl_Pipe, ⟨Z_impl_Pipe⟩) :: B) →
          STA 13 hh ⟨gA, 0, none⟩ cs fun h' => spec_l09For.J19 (fun u h' => ForR h h' u (if (newPipe (floorZ (fdiv .f32 per (by2 ins.C))) (feq .f32 ins.C 1065353216) ins.A ins.B).2 = 0 then some { baseV e with Pipe := (newPipe (floorZ (fdiv .f32 per (by2 ins.C))) (feq .f32 ins.C 1065353216) ins.A ins.B).1, Drive := e.Force } else none)) q ⟨g1, 0, none⟩ ⟨g6, 0, none⟩ ⟨gA, 0, none⟩ (newPipe (floorY (fdiv .f32 per (by2 ins.C))) (feq .f32 ins.C 1065353216) ins.A ins.B).2 h' := fun {hh gA B cs} O N => by
        rw [pipe_same ap] at O ⊢
        have M := (M.join N).cnt (W := (gA, T_impl_Pipe, ⟨Z_impl_Pipe⟩) :: (g6, T_impl_Voice, ⟨vcC e.Note e.Instrument e.At⟩) :: (g1, T_impl_Voice, ⟨Z_impl_Voice⟩) :: (B ++ [])) (fun p => by simp only [List.append_eq, cnt_app, cnt_cons, cnt_nil] at *; omega)
        refine M.sta0 .here (osz O rfl) (rPipe.oone O) rfl .here fun h52 M => J19 O M ?_ ?_
        · by_cases k3 : (newPipe (floorZ (fdiv .f32 per (by2 ins.C))) (feq .f32 ins.C 1065353216) ins.A ins.B).2 = 0
          · rw [if_pos k3, k3]; rfl
          · rw [if_neg k3]; simpa using k3
        · intro w hw
          by_cases k3 : (newPipe (floorZ (fdiv .f32 per (by2 ins.C))) (feq .f32 ins.C 1065353216) ins.A ins.B).2 = 0
          · rw [if_pos k3] at hw; exact Option.some.inj hw
          · rw [if_neg k3] at hw; cases hw
      have N0 := Mem.start h6
      clear J19 M A E S Ra R12 R16 I hvo O12
      (repeat' (first
        | refine RdP.pinO IM (by decide) (Mem.ext (by assumption)) ?_
        | refine fD h23 hby fun _ _ => ?_
        | refine goM (by assumption) (l09Floor_c (by assumption) ap _) fun _ _ => ?_
        | refine as_i ?_
        | refine tup2 ?_
        | refine as_a ?_
        | refine PairR.go (by assumption) (spec_NewPipe_c (sl_int (by assumption) (by repeat (first | exact Look.here | apply Look.there | apply Look.skip))) sl_nil h105 h106) fun _ _ _ _ _ _ => ?_
        | refine Mem.alc (by assumption) fun _ _ _ _ => ?_
        | exact key (by assumption) (Mem.cnt (by assumption) (fun p => by simp only [List.append_eq, cnt_app, cnt_cons, cnt_nil] at *; omega))
        | refine And.intro ?_ ?_))
    refine IM.oF2 fun r62 h62 => ?_
    rw [ord_eq h62 c1]
    exact br (fun k3 => key18 _ (by unfold by2 feq; rw [if_pos k3]; exact c2)) fun k3 => key18 _ (by unfold by2 feq; rw [k3]; exact fw_c32 (by decide) (by decide))
  · rw [if_neg (show ¬ ins.Kind = 2 by simpa using k2)]
    clear J12 J19
    refine IM.oF2 fun r63 h63 => IM.oF2 fun r64 h64 => IM.oF2 fun r65 h65 => ?_
    have key : ∀ {hh : Heap} {gA : Nat} {B : List Blk} {cs : Array Value}, rBow.ow B cs.toList (newBow (floorY per) ins.A ins.B ins.C).1 → Mem h6 hh ((gA, T_impl_Bow, ⟨Z_impl_Bow⟩) :: B) →
        STA 12 hh ⟨gA, 0, none⟩ cs fun h' => spec_l09For.J23 (fun u h' => ForR h h' u (if (newBow (floorZ per) ins.A ins.B ins.C).2 = 0 then some { baseV e with Bow := (newBow (floorZ per) ins.A ins.B ins.C).1, Drive := e.Force } else none)) q ⟨g1, 0, none⟩ ⟨g6, 0, none⟩ ⟨gA, 0, none⟩ (newBow (floorY per) ins.A ins.B ins.C).2 h' := fun {hh gA B cs} O N => by
      rw [bow_same hpos] at O ⊢
      have M := (M.join N).cnt (W := (gA, T_impl_Bow, ⟨Z_impl_Bow⟩) :: (g6, T_impl_Voice, ⟨vcC e.Note e.Instrument e.At⟩) :: (g1, T_impl_Voice, ⟨Z_impl_Voice⟩) :: (B ++ [])) (fun p => by simp only [List.append_eq, cnt_app, cnt_cons, cnt_nil] at *; omega)
      refine M.sta0 .here (osz O rfl) (rBow.oone O) rfl .here fun h52 M => J23 O M ?_ ?_
      · by_cases k3 : (newBow (floorZ per) ins.A ins.B ins.C).2 = 0
        · rw [if_pos k3, k3]; rfl
        · rw [if_neg k3]; simpa using k3
      · intro w hw
        by_cases k3 : (newBow (floorZ per) ins.A ins.B ins.C).2 = 0
        · rw [if_pos k3] at hw; exact Option.some.inj hw
        · rw [if_neg k3] at hw; cases hw
    have N0 := Mem.start h6
    clear J23 M A E S Ra R12 R16 I hvo O12
    (repeat' (first
      | refine RdP.pin2 IM (by decide) (Mem.ext (by assumption)) ?_
      | refine goM (by assumption) (l09Floor_c h23 hpos _) fun _ _ => ?_
      | refine as_i ?_
      | refine tup2 ?_
      | refine as_a ?_
      | refine PairR.go (by assumption) (spec_NewBow_c h63 h64 h65) fun _ _ _ _ _ _ => ?_
      | refine Mem.alc (by assumption) fun _ _ _ _ => ?_
      | exact key (by assumption) (Mem.cnt (by assumption) (fun p => by simp only [List.append_eq, cnt_app, cnt_cons, cnt_nil] at *; omega))
      | refine And.intro ?_ ?_))
end
end Go.Sx
/- The voice of a start: the program's. -/
set_option linter.unusedVariables false
set_option linter.unusedSimpArgs false
namespace Go.Sx
open Go.Proofs Ieee
set_option maxRecDepth 100000
set_option maxHeartbeats 4000000

section
variable {h : Heap} {x a : Nat}
theorem sl_none {h : Heap} : SlR (rF .f32) h none 0 0 [] := ⟨rfl, Nat.le_refl _, Nat.zero_le _, [], fun i hi => by simp at hi, rfl⟩
abbrev forV (o : Option GVoice) : GVoice := o.getD z_Voice
abbrev forN (o : Option GVoice) : Int := if o.isSome then 0 else 2
theorem voiceFor_J19 {hh : Heap} {g5 g10 : Nat} {X : List Blk} {v : GVoice} {o : Option GVoice} {code : Int} (P : Pt rVoice h hh ⟨g10, 0, none⟩ ⟨g10, T_impl_Voice, [], []⟩ ((g5, T_impl_Voice, ⟨Z_impl_Voice⟩) :: X) v) (h1 : code = 0 → o = some v) (h2 : code ≠ 0 → o = none) :
    impl_voiceFor.J19 (fun u h' => PairR rVoice h h' u (forV o) (forN o)) ⟨g5, 0, none⟩ ⟨g10, 0, none⟩ code hh := by
  unfold impl_voiceFor.J19
  refine br (fun k => ?_) fun k => ?_
  · have ho := h2 (by simpa using k)
    subst ho
    have M := P.mem
    exact M.sta0 .here rfl (all_one rfl) rfl .here fun h3 M => M.lda0 .here rfl ⟨_, [], rfl, zow_Voice, (Mem.start h).grow M.ext⟩
  · have ho := h1 (by simpa using k)
    subst ho
    obtain ⟨cs', B', M', O'⟩ := P.out
    refine M'.lda0 .here (osz O' rfl) ?_
    have M' := M'.cnt (W := (g5, T_impl_Voice, ⟨Z_impl_Voice⟩) :: B') (fun p => by simp only [cnt_app, cnt_cons, cnt_nil] at *; omega)
    exact M'.sta0 .here (osz O' rfl) (rVoice.oone O') rfl .here fun h3 M => M.lda0 .here (osz O' rfl) ⟨_, B', rfl, O', M.drop⟩
theorem voiceFor_c {cs ce : Array Value} {s : GScore} {e : GEvent} (R0 : rScore.rd h cs.toList s) (E0 : rEvent.rd h ce.toList e) (hs : s.ok = true) (hi : 0 ≤ e.Instrument ∧ e.Instrument < s.Instruments.length) :
    CALL prg f_impl_voiceFor #[.agg cs, .agg ce] (fun u h' => PairR rVoice h h' u (forV (voiceOf s e)) (forN (voiceOf s e))) h := by
  refine impl_voiceFor.call ((Mem.start h).alc fun g1 h1 x1 M => M.alc fun g3 h2 x2 M => M.alc fun g5 h3 x3 M => ?_)
  have A : ∀ {hh : Heap} {L : List Blk}, Mem h hh L → Look L g1 cs → RdP rScore hh ⟨g1, 0, none⟩ s := fun M l => M.rdp l (rScore.ext M.ext R0)
  have E : ∀ {hh : Heap} {L : List Blk}, Mem h hh L → Look L g3 ce → RdP rEvent hh ⟨g3, 0, none⟩ e := fun M l => M.rdp l (rEvent.ext M.ext E0)
  have E3 := E M (.there .here)
  refine E3.oI2 (E3.oI2 (E3.oI2 (M.alc fun g10 h4 x4 M => M.sta0 .here rfl (all_one rfl) rfl .here fun h5 M => ?_)))
  have M : Mem h h5 [(g10, T_impl_Voice, ⟨vcC e.Note e.Instrument e.At⟩), (g5, T_impl_Voice, ⟨Z_impl_Voice⟩), (g3, T_impl_Event, ce), (g1, T_impl_Score, cs)] := M
  refine (A M (.there (.there (.there .here)))).oL2 fun b l c S => (E M (.there (.there .here))).oI2 (S.idx (by decide) hi.1 (by rw [← S.len]; exact hi.2) fun pa Ra => Ra.lda1 rfl fun c12 R12 => M.alc fun g17 h6 x6 M => M.sta0 .here (rsz R12 rfl) (rInstrument.rone R12) rfl .here fun h7 M => ?_)
  have hx : ∃ ins, ins = s.Instruments[e.Instrument.toNat]! := ⟨_, rfl⟩
  obtain ⟨ins, hx⟩ := hx
  rw [← hx] at R12
  have O12 := flat_Instrument _ _ _ R12
  have I : ∀ {hh : Heap} {L : List Blk}, Mem h hh L → Look L g17 c12 → RdP rInstrument hh ⟨g17, 0, none⟩ ins := fun M l => M.rdp l (rInstrument.look O12 M (List.nil_sublist _))
  have A7 := A M (.there (.there (.there (.there .here))))
  refine A7.lda2 foc_Score_Tuning rfl fun c16 R16 => (E M (.there (.there (.there .here)))).oI2 (A7.oF2 fun r18 h18 => goFI (PeriodOfKey_c R16 h18) fun h8 r23 x8 h23 => tup2 (as_f (as_i ?_)))
  have M := M.grow x8
  have hbase : s.Tuning.Base < 2 ^ 32 := by
    obtain ⟨v1, r1, _, ⟨y, rfl, hy⟩, _⟩ := R16
    exact hy.lt
  have hpos := fun hz => period_pos (key := e.Key) hbase h18.lt hz
  unfold voiceOf
  rw [← hx]
  dsimp only
  refine br (fun k => ?_) fun k => ?_
  · have k : ¬ (s.Tuning.period e.Key s.Rate).2 = 0 := by simpa using k
    rw [if_neg k]
    have M := M.cnt (W := [(g5, T_impl_Voice, ⟨Z_impl_Voice⟩)]) (fun p => by simp only [cnt_app, cnt_cons, cnt_nil] at *; omega)
    exact M.sta0 .here rfl (all_one rfl) rfl .here fun h3 M => M.lda0 .here rfl ⟨_, [], rfl, zow_Voice, (Mem.start h).grow M.ext⟩
  have k : (s.Tuning.period e.Key s.Rate).2 = 0 := by simpa using k
  have hpos := hpos k
  rw [if_pos k]
  generalize (s.Tuning.period e.Key s.Rate).1 = per at *
  have IM := I M .here
  refine IM.oI2 ?_
  have Mr : Mem h h8 ((g10, T_impl_Voice, ⟨vcC e.Note e.Instrument e.At⟩) :: ([] ++ [(g5, T_impl_Voice, ⟨Z_impl_Voice⟩), (g17, T_impl_Instrument, c12), (g3, T_impl_Event, ce), (g1, T_impl_Score, cs)])) := M.cnt (fun p => by simp only [cnt_app, cnt_cons, cnt_nil] at *; omega)
  refine br (fun k1 => ?_) fun k1 => ?_
  · rw [if_pos (show ins.Kind = 1 by simpa using k1)]
    refine IM.oF2 fun r28 h28 => IM.oF2 fun r29 h29 => PairR.go M (NewString_c h23 h28 h29) fun h9 c9 B9 M O9 s9 => tup2 (as_a (as_i ?_))
    have P : Pt rVoice h h9 ⟨g10, 0, none⟩ ⟨g10, T_impl_Voice, [], []⟩ (B9 ++ [(g5, T_impl_Voice, ⟨Z_impl_Voice⟩), (g17, T_impl_Instrument, c12), (g3, T_impl_Event, ce)]) (baseV e) := Pt.new (base_ow e) (M.cnt (W := (g10, T_impl_Voice, ⟨vcC e.Note e.Instrument e.At⟩) :: ([] ++ (B9 ++ [(g5, T_impl_Voice, ⟨Z_impl_Voice⟩), (g17, T_impl_Instrument, c12), (g3, T_impl_Event, ce)]))) (fun p => by simp only [cnt_app, cnt_cons, cnt_nil] at *; omega))
    refine P.stsg foc_Voice_String rfl O9 fun h10 P => br (fun k2 => ?_) fun k2 => ?_
    · have k2 : (newString per ins.A ins.B).2 = 0 := by simpa using k2
      rw [if_pos k2]
      refine P.rd.lda2 foc_Voice_String rfl fun c11 R11 => (I P.mem (.there .here)).oF2 fun r42 h42 => (E P.mem (.there (.there .here))).oF2 fun r43 h43 => ?_
      refine (PluckString_c R11 h42 h43).mono ?_
      rintro _ h12 ⟨c12', B12, rfl, O12', N⟩
      have P := P.join N
      refine tup2 (as_a (as_i (P.stsg foc_Voice_String rfl O12' fun h13 P => voiceFor_J19 P ?_ ?_)))
      · intro k3; rw [if_pos k3]
      · intro k3; rw [if_neg k3]
    · have k2 : ¬ (newString per ins.A ins.B).2 = 0 := by simpa using k2
      rw [if_neg k2]
      exact voiceFor_J19 P (fun k3 => absurd k3 k2) fun _ => rfl
  have k1' : ¬ ins.Kind = 1 := by simpa using k1
  rw [if_neg k1']
  have P : Pt rVoice h h8 ⟨g10, 0, none⟩ ⟨g10, T_impl_Voice, [], []⟩ [(g5, T_impl_Voice, ⟨Z_impl_Voice⟩), (g17, T_impl_Instrument, c12), (g3, T_impl_Event, ce), (g1, T_impl_Score, cs)] (baseV e) := Pt.new (base_ow e) Mr
  refine br (fun k2 => ?_) fun k2 => ?_
  · rw [if_pos (show ins.Kind = 2 by simpa using k2)]
    have ap : Pos (fdiv .f32 per (by2 ins.C)) := pos_div hpos (by_pos _)
    have key17 : ∀ by', FW .f32 by' (by2 ins.C) → impl_voiceFor.J17 (fun u h' => PairR rVoice h h' u (forV (if (newPipe (floorZ (fdiv .f32 per (by2 ins.C))) (feq .f32 ins.C 1065353216) ins.A ins.B).2 = 0 then some { baseV e with Pipe := (newPipe (floorZ (fdiv .f32 per (by2 ins.C))) (feq .f32 ins.C 1065353216) ins.A ins.B).1, Drive := e.Force } else none)) (forN (if (newPipe (floorZ (fdiv .f32 per (by2 ins.C))) (feq .f32 ins.C 1065353216) ins.A ins.B).2 = 0 then some { baseV e with Pipe := (newPipe (floorZ (fdiv .f32 per (by2 ins.C))) (feq .f32 ins.C 1065353216) ins.A ins.B).1, Drive := e.Force } else none))) ⟨g3, 0, none⟩ ⟨g5, 0, none⟩ ⟨g10, 0, none⟩ ⟨g17, 0, none⟩ r23 (feq .f32 ins.C 1065353216) by' h8 := by
      intro by' hby
      unfold impl_voiceFor.J17
      refine (E P.mem (.there (.there .here))).oF fun r72 h72 => P.stF h72 fun h9 P => ?_
      have I9 := I P.mem (.there .here)
      refine I9.oF fun r74 h74 => I9.oF fun r75 h75 => fD h23 hby fun r76 h76 => pin_same (pin_same ?_)
      refine goX (floorOf_c h76 ap _) fun h10 x10 => as_i (I9.pinO (by decide) x10 (I9.pinO (by decide) x10 ((Mem.start h10).alc fun g80 h11 x11 N => I9.pinO (by decide) (x10.trans x11) (I9.pinO (by decide) (x10.trans x11) ?_))))
      refine (NewPipe_c (sl_int N .here) sl_none h74 h75).mono ?_
      rintro _ h12 ⟨c12', B12, rfl, O12', N12⟩
      have P := (P.grow (x10.trans x11)).join N12
      refine tup2 (as_a (as_i (P.sts foc_Voice_Pipe rfl O12' fun h13 P => voiceFor_J19 P ?_ ?_)))
      · intro k3; rw [if_pos k3]
      · intro k3; rw [if_neg k3]
    refine IM.oF2 fun r51 h51 => ?_
    rw [ord_eq h51 c1]
    exact br (fun k3 => key17 _ (by unfold by2 feq; rw [if_pos k3]; exact c2)) fun k3 => key17 _ (by unfold by2 feq; rw [k3]; exact fw_c32 (by decide) (by decide))
  · rw [if_neg (show ¬ ins.Kind = 2 by simpa using k2)]
    refine (E P.mem (.there (.there .here))).oF2 fun r52 h52 => P.stFg h52 fun h9 P => ?_
    have I9 := I P.mem (.there .here)
    refine I9.oF2 fun r54 h54 => I9.oF2 fun r55 h55 => I9.oF2 fun r56 h56 => goX (floorOf_c h23 hpos _) fun h10 x10 => as_i (I9.pin2 (by decide) x10 (I9.pin2 (by decide) x10 (I9.pin2 (by decide) x10 ?_)))
    refine (NewBow_c h54 h55 h56).mono ?_
    rintro _ h12 ⟨c12', B12, rfl, O12', N12⟩
    have P := (P.grow x10).join N12
    refine tup2 (as_a (as_i (P.stsg foc_Voice_Bow rfl O12' fun h13 P => voiceFor_J19 P ?_ ?_)))
    · intro k3; rw [if_pos k3]
    · intro k3; rw [if_neg k3]
end
end Go.Sx
