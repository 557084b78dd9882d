/- The law FnExactHasEnded, as the program tells it. -/
import Derived.Test.YtnjbecdfoiiaoaaGreatDoorLk36
import Derived.Test.YtnjbecdfoiiaoaaGreatDoorLh4
import Derived.Test.YtnjbecdfoiiaoaaGreatDoorLgw
import Derived.Test.YtnjbecdfoiiaoaaGreatDoorTab
import Derived.Test.YtnjbecdfoiiaoaaGreatDoorLp7
import Derived.Test.YtnjbecdfoiiaoaaGreatDoorLk3
import Derived.Test.YtnjbecdfoiiaoaaGreatDoorLr4
import Derived.Test.YtnjbecdfoiiaoaaGreatDoorLr7
set_option linter.unusedVariables false
set_option linter.unusedSimpArgs false
namespace Go.Sx
open Go.Proofs
set_option maxRecDepth 100000
set_option maxHeartbeats 1000000

def ended (p : GPlayer) : Bool := (p.Voices.all fun v => decide (v.Note < 0)) && (p.Next == (p.Score.Events.length : Int))
noncomputable def endsV (p : GPlayer) : Value := .tuple ⟨[.bool (p.ok && ended p), .int .i64 (if p.ok then 0 else 1)]⟩
section
variable {h : Heap}
theorem IndexFunc_Voice_c {b : Option Addr} {l c : Nat} {xs : List GVoice} {f : Value} {p : GVoice → Bool} (S : SlR rVoice h b l c xs) (T : TellsR prg rVoice h f p) :
    CALL prg f_slices_IndexFunc_sl_impl_Voice_impl_Voice #[.slice b l c, f] (fun u h' => u = .int .i64 (firstAt p xs) ∧ Ext h h') h := by
  refine slices_IndexFunc_sl_impl_Voice_impl_Voice.call ?_
  have hm2 := S.2.2.1
  have hm3 := S.2.1
  have := maxLen_lt
  have hl := S.len
  refine loop (fun x hh => ∃ n : Nat, x = (b, l, c, f, (l : Int), (n : Int)) ∧ n ≤ l ∧ Ext h hh ∧ ∀ i, i < n → p xs[i]! = false) (fun x => (l - x.2.2.2.2.2).toNat) ⟨0, rfl, by omega, Ext.refl _, fun i hi => by omega⟩ ?_
  rintro x hh ⟨n, rfl, hn, X, hf⟩
  refine brd (fun hc => ?_) fun hc => ⟨by rw [firstAt_none fun i hi => hf i (by omega)], X⟩
  refine (S.ext X).idx (by decide) (by omega) (by omega) fun a Ra => Ra.lda1 rfl fun cs Rc => goD X (T _ _ _ X Rc) fun h1 x1 => as_b (br (fun hb => ?_) fun hb => ?_)
  · exact ⟨by rw [firstAt_some (by omega) hf (by simpa using hb)], x1⟩
  · refine ⟨⟨n + 1, by rw [wrap64_succ (by omega)], by omega, x1, fun i hi => ?_⟩, by rw [wrap64_succ (by omega)]; show _ < _; simp; omega⟩
    by_cases e : i = n
    · subst e; simpa using hb
    · exact hf i (by omega)
theorem ContainsFunc_Voice_c {b : Option Addr} {l c : Nat} {xs : List GVoice} {f : Value} {p : GVoice → Bool} (S : SlR rVoice h b l c xs) (T : TellsR prg rVoice h f p) :
    CALL prg f_slices_ContainsFunc_sl_impl_Voice_impl_Voice #[.slice b l c, f] (fun u h' => u = .bool (xs.any p) ∧ Ext h h') h :=
  slices_ContainsFunc_sl_impl_Voice_impl_Voice.call (goX (IndexFunc_Voice_c S T) fun h1 x1 => as_i ⟨by rw [firstAt_any], x1⟩)
theorem spec_HasEnded_c {cs : Array Value} {p : GPlayer} (R0 : rPlayer.rd h cs.toList p) : CALL prg f_spec_HasEnded #[.agg cs] (fun u h' => u = endsV p ∧ Ext h h') h := by
  have hm := maxLen_lt
  refine spec_HasEnded.call (alcR R0 fun g h0 x0 R => goX (l09Ok_c R) fun h1 x1 => as_b (brN (fun e => ⟨by rw [endsV, e]; rfl, x0.trans x1⟩) fun e => ?_))
  have X0 := x0.trans x1
  have A : ∀ {hh : Heap}, Ext h1 hh → RdP rPlayer hh ⟨g, 0, none⟩ p := fun e => R.ext (x1.trans e)
  have k : endsV p = .tuple ⟨[.bool (ended p), .int .i64 0]⟩ := by rw [endsV, e]; rfl
  refine loop (fun x hh => ∃ i : Nat, x = (⟨g, 0, none⟩, (i : Int)) ∧ i ≤ p.Voices.length ∧ hh = h1 ∧ ∀ j, j < i → p.Voices[j]!.Note < 0) (fun x => ((p.Voices.length : Int) - x.2).toNat) ⟨0, rfl, by omega, rfl, fun j hj => by omega⟩ ?_
  rintro x hh ⟨i, rfl, hi, rfl, hd⟩
  have A1 := A (Ext.refl _)
  refine A1.oL fun b l c S => ?_
  have hl := S.len
  have s1 := S.2.1
  have s2 := S.2.2.1
  refine brd (fun hc => A1.oL fun b1 l1 c1 S1 => ?_) fun hc => A1.oI (A1.oL fun b1 l1 c1 S1 => ⟨?_, X0⟩)
  · have hl1 := S1.len
    refine S1.idn (by decide) (by omega) fun a Ra => Ra.oI1 (brd (fun hn => ⟨?_, X0⟩) fun hn => ⟨⟨i + 1, by rw [wrap64_succ (by omega)], by omega, rfl, fun j hj => ?_⟩, by rw [wrap64_succ (by omega)]; show _ < _; simp; omega⟩)
    · rw [k, ended, all_range, all_false (f := fun i => decide (p.Voices[i]!.Note < 0)) (i := i) (by omega) (decide_eq_false (by omega))]; rfl
    · by_cases ej : j = i
      · subst ej; omega
      · exact hd j (by omega)
  · rw [k, ended, all_range, all_true (f := fun i => decide (p.Voices[i]!.Note < 0)) fun j hj => decide_eq_true (hd j (by omega)), S1.len]; rfl
theorem free_tells (h0 : Heap) : TellsR prg rVoice h0 (.func (.func f_impl_HasEnded_c1) #[] #[]) (fun v => !(v.Note == -1)) := fun cs v hx xx R => by
  show CALL prg f_impl_HasEnded_c1 #[.agg cs] _ hx
  exact impl_HasEnded_c1.call (alcR R fun g h1 x1 R1 => R1.lda1 rfl fun c3 R3 => goE x1 (isFree_c R3) fun h2 x2 => as_b ⟨rfl, x2⟩)
theorem HasEnded_c {cs : Array Value} {p : GPlayer} (R0 : rPlayer.rd h cs.toList p) : CALL prg f_impl_HasEnded #[.agg cs] (fun u h' => u = endsV p ∧ Ext h h') h := by
  refine impl_HasEnded.call (alcR R0 fun g h0 x0 R => R.lda1 rfl fun c3 R3 => goX (ValidPlayer_c R3) fun h1 x1 => as_b (brN (fun e => ⟨by rw [endsV, e]; rfl, x0.trans x1⟩) fun e => ?_))
  have X0 := x0.trans x1
  have A : ∀ {hh : Heap}, Ext h1 hh → RdP rPlayer hh ⟨g, 0, none⟩ p := fun e => R.ext (x1.trans e)
  have hv : (!p.Voices.any fun v => !(v.Note == -1)) = p.Voices.all fun v => decide (v.Note < 0) := by
    rw [any_not]
    rw [Bool.eq_iff_iff]
    simp only [List.all_eq_true, decide_eq_true_eq, beq_iff_eq]
    have hs : p.Score.ok = true := by rw [GPlayer.ok] at e; simp only [Bool.and_eq_true] at e; exact e.1.1.1.1.1
    constructor
    · intro hh v hv; have := hh v hv; omega
    · intro hh v hv
      obtain ⟨i, hi, rfl⟩ := List.mem_iff_getElem.1 hv
      have hok : voicesAt p i = true := by
        rw [GPlayer.ok] at e
        simp only [Bool.and_eq_true] at e
        exact List.all_eq_true.1 e.2 i (List.mem_range.2 hi)
      rw [voicesAt, Bool.and_eq_true] at hok
      have h2 := voice_note hs hok.1
      rw [getElem!_pos _ i hi] at h2
      have := hh _ hv
      omega
  have k : endsV p = .tuple ⟨[.bool ((!p.Voices.any fun v => !(v.Note == -1)) && (p.Next == (p.Score.Events.length : Int))), .int .i64 0]⟩ := by rw [hv, endsV, e]; rfl
  refine (A (Ext.refl _)).oL2 fun b l c S => goX (ContainsFunc_Voice_c S (free_tells _)) fun h2 x2 => as_b ((A x2).oI2 ((A x2).oL2 fun b1 l1 c1 S1 => goX (length_Event_c _ _ _ _) fun h3 x3 => as_i ((A x2).pin2 (by decide) x3 ?_)))
  rw [← S1.len]
  refine br (fun hn => ⟨?_, X0.trans (x2.trans x3)⟩) fun hn => ⟨?_, X0.trans (x2.trans x3)⟩
  · rw [k, hn, Bool.and_true]
  · rw [k, hn, Bool.and_false]
theorem FnExactHasEnded_c {ca : Array Value} {x : GPlayer} (Ra : rPlayer.rd h ca.toList x) : CALL prg f_laws_FnExactHasEnded #[.agg ca] (fun u h' => u = .bool true ∧ Ext h h') h := by
  refine laws_FnExactHasEnded.call ((Mem.start h).alc fun g1 h1 x1 M => M.lda0 .here (rsz Ra rfl) (goM M (sz_Player_c (rPlayer.ext M.ext Ra) 1048576 (by omega) : CALL prg f_laws_szPlayer #[.agg ca, .int .i64 (1048576 : Int)] _ _) fun h3 M => as_i (sz_bif (fun hc => ⟨rfl, M.ext⟩) fun hw => ?_)))
  have rd : ∀ {hh : Heap} {W B : List Blk} {c : Array Value} {z : GPlayer}, Mem h hh W → rPlayer.ow B c.toList z → (∀ p, Sx.cnt p B ≤ Sx.cnt p W) → rPlayer.rd hh c.toList z := fun M O k => rPlayer.look O (M.cnt k) (List.Sublist.refl _)
  refine M.lda0 .here (rsz Ra rfl) (NewR.go M (to_Player_c (rPlayer.ext M.ext Ra) hw) fun h6 c6 B6 M O6 s6 => as_a (goM M (spec_HasEnded_c (rd M O6 (fun p => by simp only [cnt_app, cnt_cons, cnt_nil] at *; omega))) fun h7 M => ?_))
  refine tup2 (as_b (as_i ?_))
  have M : Mem h h7 [(g1, T_laws_Player, ca)] := M.cnt (fun p => by simp only [cnt_app, cnt_cons, cnt_nil] at *; omega)
  clear O6
  refine M.lda0 .here (rsz Ra rfl) (NewR.go M (to_Player_c (rPlayer.ext M.ext Ra) hw) fun h8 cx Bx M Ox sx => as_a (M.alc fun gx h9 x9 M => M.sta0 .here sx (rPlayer.oone Ox) rfl .here fun h10 M => ?_))
  refine M.lda0 .here sx (goM M (HasEnded_c (rd M Ox (fun p => by simp only [cnt_app, cnt_cons, cnt_nil] at *; omega))) fun h14 M => ?_)
  refine tup2 (as_b (as_i (br_f (by simp) (br_f (by simp) ?_))))
  unfold laws_FnExactHasEnded.J10
  have R7 : rPlayer.rd h14 cx.toList x := rd M Ox (fun p => by simp only [cnt_app, cnt_cons, cnt_nil] at *; omega)
  have P7 : RdP rPlayer h14 ⟨gx, 0, none⟩ x := M.rdp .here R7
  refine M.lda0 .here sx (M.lda0 (.there (Look.skip .here)) (rsz Ra rfl) (NewR.go (Mem.start h14) (to_Player_c (rPlayer.ext M.ext Ra) hw) fun h15 c15 B15 N O15 s15 => as_a (P7.pin rfl N.ext ?_)))
  have M := M.join N
  exact goM M (eq_Player_c (rd M Ox (fun p => by simp only [cnt_app, cnt_cons, cnt_nil] at *; omega)) (rd M O15 (fun p => by simp only [cnt_app, cnt_cons, cnt_nil] at *; omega))) fun h16 M => as_b (br_f rfl ⟨rfl, M.ext⟩)
end
end Go.Sx
/- Given Ring, Filter opened. -/
set_option linter.unusedVariables false
set_option linter.unusedSimpArgs false
namespace Go.Sx
open Go.Proofs
set_option maxRecDepth 100000
theorem opens_Ring : Opens prg rRing (([T_sl_float32] ++ ([T_int64]))) := opens_via (fun p => ⟨p.1, p.2⟩) (fun _ => rfl) (opens_seq (opens_sl (n := 9) (U_sl_float32) (by kernel_rfl) (by kernel_rfl) (opens_float U_float32)) ((opens_int U_int64)))
theorem opens_Filter : Opens prg rFilter (([T_int64] ++ (((List.replicate 3 [T_float32]).flatten) ++ (((List.replicate 2 [T_float32]).flatten))))) := opens_via (fun p => ⟨p.1, p.2.1, p.2.2⟩) (fun _ => rfl) (opens_seq (opens_int U_int64) (opens_seq (opens_arr 3 (opens_float U_float32)) ((opens_arr 2 (opens_float U_float32)))))
end Go.Sx
/- Given Pipe opened. -/
set_option linter.unusedVariables false
set_option linter.unusedSimpArgs false
namespace Go.Sx
open Go.Proofs
set_option maxRecDepth 100000
theorem opens_Pipe : Opens prg rPipe (([T_sl_laws_Ring] ++ ([T_sl_laws_Ring] ++ ([T_sl_float32] ++ (([T_int64] ++ (((List.replicate 3 [T_float32]).flatten) ++ (((List.replicate 2 [T_float32]).flatten)))) ++ ([T_bool] ++ ([T_float32] ++ ([T_float32] ++ ([T_float32]))))))))) := opens_via (fun p => ⟨p.1, p.2.1, p.2.2.1, p.2.2.2.1, p.2.2.2.2.1, p.2.2.2.2.2.1, p.2.2.2.2.2.2.1, p.2.2.2.2.2.2.2⟩) (fun _ => rfl) (opens_seq (opens_sl (n := 9) (U_sl_laws_Ring) (by kernel_rfl) (by kernel_rfl) opens_Ring) (opens_seq (opens_sl (n := 9) (U_sl_laws_Ring) (by kernel_rfl) (by kernel_rfl) opens_Ring) (opens_seq (opens_sl (n := 9) (U_sl_float32) (by kernel_rfl) (by kernel_rfl) (opens_float U_float32)) (opens_seq opens_Filter (opens_seq (opens_bool U_bool) (opens_seq (opens_float U_float32) (opens_seq (opens_float U_float32) ((opens_float U_float32)))))))))
end Go.Sx
/- Given String, Bow opened. -/
set_option linter.unusedVariables false
set_option linter.unusedSimpArgs false
namespace Go.Sx
open Go.Proofs
set_option maxRecDepth 100000
theorem opens_String : Opens prg rString ((([T_sl_float32] ++ ([T_int64])) ++ (([T_int64] ++ (((List.replicate 3 [T_float32]).flatten) ++ (((List.replicate 2 [T_float32]).flatten)))) ++ (([T_int64] ++ (((List.replicate 3 [T_float32]).flatten) ++ (((List.replicate 2 [T_float32]).flatten)))) ++ ([T_float32]))))) := opens_via (fun p => ⟨p.1, p.2.1, p.2.2.1, p.2.2.2⟩) (fun _ => rfl) (opens_seq opens_Ring (opens_seq opens_Filter (opens_seq opens_Filter ((opens_float U_float32)))))
theorem opens_Bow : Opens prg rBow ((([T_sl_float32] ++ ([T_int64])) ++ (([T_sl_float32] ++ ([T_int64])) ++ (([T_int64] ++ (((List.replicate 3 [T_float32]).flatten) ++ (((List.replicate 2 [T_float32]).flatten)))) ++ ([T_float32] ++ ([T_float32])))))) := opens_via (fun p => ⟨p.1, p.2.1, p.2.2.1, p.2.2.2.1, p.2.2.2.2⟩) (fun _ => rfl) (opens_seq opens_Ring (opens_seq opens_Ring (opens_seq opens_Filter (opens_seq (opens_float U_float32) ((opens_float U_float32))))))
end Go.Sx
/- Given Tuning, Instrument, Event, Score opened. -/
set_option linter.unusedVariables false
set_option linter.unusedSimpArgs false
namespace Go.Sx
open Go.Proofs
set_option maxRecDepth 100000
theorem opens_Tuning : Opens prg rTuning (([T_float32] ++ ([T_float32] ++ ([T_sl_float32])))) := opens_via (fun p => ⟨p.1, p.2.1, p.2.2⟩) (fun _ => rfl) (opens_seq (opens_float U_float32) (opens_seq (opens_float U_float32) ((opens_sl (n := 9) (U_sl_float32) (by kernel_rfl) (by kernel_rfl) (opens_float U_float32)))))
theorem opens_Instrument : Opens prg rInstrument (([T_string] ++ ([T_int64] ++ ([T_float32] ++ ([T_float32] ++ ([T_float32])))))) := opens_via (fun p => ⟨p.1, p.2.1, p.2.2.1, p.2.2.2.1, p.2.2.2.2⟩) (fun _ => rfl) (opens_seq (opens_str U_string) (opens_seq (opens_int U_int64) (opens_seq (opens_float U_float32) (opens_seq (opens_float U_float32) ((opens_float U_float32))))))
theorem opens_Event : Opens prg rEvent (([T_int64] ++ ([T_int64] ++ ([T_int64] ++ ([T_int64] ++ ([T_int64] ++ ([T_float32]))))))) := opens_via (fun p => ⟨p.1, p.2.1, p.2.2.1, p.2.2.2.1, p.2.2.2.2.1, p.2.2.2.2.2⟩) (fun _ => rfl) (opens_seq (opens_int U_int64) (opens_seq (opens_int U_int64) (opens_seq (opens_int U_int64) (opens_seq (opens_int U_int64) (opens_seq (opens_int U_int64) ((opens_float U_float32)))))))
theorem opens_Score : Opens prg rScore (([T_float32] ++ (([T_float32] ++ ([T_float32] ++ ([T_sl_float32]))) ++ ([T_sl_laws_Instrument] ++ ([T_sl_laws_Event]))))) := opens_via (fun p => ⟨p.1, p.2.1, p.2.2.1, p.2.2.2⟩) (fun _ => rfl) (opens_seq (opens_float U_float32) (opens_seq opens_Tuning (opens_seq (opens_sl (n := 9) (U_sl_laws_Instrument) (by kernel_rfl) (by kernel_rfl) opens_Instrument) ((opens_sl (n := 9) (U_sl_laws_Event) (by kernel_rfl) (by kernel_rfl) opens_Event)))))
end Go.Sx
/- Given Voice, Player opened. -/
set_option linter.unusedVariables false
set_option linter.unusedSimpArgs false
namespace Go.Sx
open Go.Proofs
set_option maxRecDepth 100000
theorem opens_Voice : Opens prg rVoice (([T_int64] ++ ([T_int64] ++ ([T_int64] ++ ([T_bool] ++ ([T_float32] ++ ((([T_sl_float32] ++ ([T_int64])) ++ (([T_int64] ++ (((List.replicate 3 [T_float32]).flatten) ++ (((List.replicate 2 [T_float32]).flatten)))) ++ (([T_int64] ++ (((List.replicate 3 [T_float32]).flatten) ++ (((List.replicate 2 [T_float32]).flatten)))) ++ ([T_float32])))) ++ (([T_sl_laws_Ring] ++ ([T_sl_laws_Ring] ++ ([T_sl_float32] ++ (([T_int64] ++ (((List.replicate 3 [T_float32]).flatten) ++ (((List.replicate 2 [T_float32]).flatten)))) ++ ([T_bool] ++ ([T_float32] ++ ([T_float32] ++ ([T_float32])))))))) ++ ((([T_sl_float32] ++ ([T_int64])) ++ (([T_sl_float32] ++ ([T_int64])) ++ (([T_int64] ++ (((List.replicate 3 [T_float32]).flatten) ++ (((List.replicate 2 [T_float32]).flatten)))) ++ ([T_float32] ++ ([T_float32])))))))))))))) := opens_via (fun p => ⟨p.1, p.2.1, p.2.2.1, p.2.2.2.1, p.2.2.2.2.1, p.2.2.2.2.2.1, p.2.2.2.2.2.2.1, p.2.2.2.2.2.2.2⟩) (fun _ => rfl) (opens_seq (opens_int U_int64) (opens_seq (opens_int U_int64) (opens_seq (opens_int U_int64) (opens_seq (opens_bool U_bool) (opens_seq (opens_float U_float32) (opens_seq opens_String (opens_seq opens_Pipe (opens_Bow))))))))
theorem opens_Player : Opens prg rPlayer ((([T_float32] ++ (([T_float32] ++ ([T_float32] ++ ([T_sl_float32]))) ++ ([T_sl_laws_Instrument] ++ ([T_sl_laws_Event])))) ++ ([T_sl_laws_Voice] ++ ([T_int64] ++ ([T_int64] ++ ([T_int64])))))) := opens_via (fun p => ⟨p.1, p.2.1, p.2.2.1, p.2.2.2.1, p.2.2.2.2⟩) (fun _ => rfl) (opens_seq opens_Score (opens_seq (opens_sl (n := 9) (U_sl_laws_Voice) (by kernel_rfl) (by kernel_rfl) opens_Voice) (opens_seq (opens_int U_int64) (opens_seq (opens_int U_int64) ((opens_int U_int64))))))
end Go.Sx
