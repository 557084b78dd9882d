/- Pipes muted, quiet, measured; the same; with another reed. -/
import Derived.Test.YtkgmfiloghhibaaGreatDoorLk93
import Derived.Test.YtkgmfiloghhibaaGreatDoorLk76
import Derived.Test.YtkgmfiloghhibaaGreatDoorLk21
import Derived.Test.YtkgmfiloghhibaaGreatDoorLk59
import Derived.Test.YtkgmfiloghhibaaGreatDoorTab
import Derived.Test.YtkgmfiloghhibaaGreatDoorLgn
import Derived.Test.YtkgmfiloghhibaaGreatDoorLv0
import Derived.Test.YtkgmfiloghhibaaGreatDoorK2
import Derived.Test.YtkgmfiloghhibaaGreatDoorLk16
import Derived.Test.YtkgmfiloghhibaaGreatDoorLk14
import Derived.Test.YtkgmfiloghhibaaGreatDoorPM
import Derived.Test.YtkgmfiloghhibaaGreatDoorLk56
import Derived.Test.YtkgmfiloghhibaaGreatDoorLk10
import Derived.Test.YtkgmfiloghhibaaGreatDoorLvl
set_option linter.unusedVariables false
set_option linter.unusedSimpArgs false
namespace Go.Sx
open Go.Proofs
set_option maxRecDepth 100000
set_option maxHeartbeats 2000000

section
variable {h : Heap} {x : GPipe} {cs : Array Value}
theorem spec_SamePipe_c {ca cb : Array Value} {x y : GPipe} (Ra : rPipe.rd h ca.toList x) (Rb : rPipe.rd h cb.toList y) : CALL prg f_spec_SamePipe #[.agg ca, .agg cb] (fun u h' => u = .bool (same x y) ∧ Ext h h') h := by
  refine spec_SamePipe.call (alcR Ra fun g1 h1 x1 A => alcR (rPipe.ext x1 Rb) fun g2 h2 x2 B => (l04Same_c (A.ext x2) B).mono ?_)
  rintro _ h3 ⟨rfl, x3⟩
  exact as_b ⟨rfl, x1.trans (x2.trans x3)⟩
theorem impl_IsSilentPipe_c (R0 : rPipe.rd h cs.toList x) (hok : x.ok = true) : CALL prg f_impl_IsSilentPipe #[.agg cs] (fun u h' => u = .tuple ⟨[.bool x.silent, .int .i64 (0 : Int)]⟩ ∧ Ext h h') h := by
  have Ru := pipe_runs hok
  have k : x.silent = (x.Right.all GRing.zero && x.Left.all GRing.zero && x.End.still) := rfl
  refine impl_IsSilentPipe.call (alcR R0 fun g h1 x1 R => R.lda1 rfl fun c1 R1 => goX (ValidPipe_c R1) fun h2 x2 => as_b ?_)
  rw [hok]
  refine br_f rfl ((rP_c (R.ext x2) Ru).mono ?_)
  rintro _ h3 ⟨b, l, c, B, ps, rfl, O, M, H⟩
  have X3 := x1.trans (x2.trans M.ext)
  refine as_l (goX (areQuiet_c (O.look M (List.Sublist.refl _)) (H.ext M.ext)) fun h4 x4 => as_b ?_)
  rw [pipeQuiet_all Ru]
  refine br (fun hb => ?_) fun hb => ⟨by rw [k, hb]; rfl, X3.trans x4⟩
  exact (R.ext (x2.trans (M.ext.trans x4))).lda2 foc_Pipe_End rfl fun c2 R2 => goX (Filter_isStill_c R2) fun h5 x5 => as_b ⟨by rw [k, hb]; rfl, X3.trans (x4.trans x5)⟩
theorem impl_LengthOfPipe_c (R0 : rPipe.rd h cs.toList x) (hok : x.ok = true) : CALL prg f_impl_LengthOfPipe #[.agg cs] (fun u h' => ∃ n : Int, u = .tuple ⟨[.int .i64 n, .int .i64 (0 : Int)]⟩ ∧ 2 ≤ n ∧ Ext h h') h := by
  have Ru := pipe_runs hok
  have n1 := Ru.n1
  have n3 := Ru.n3
  refine impl_LengthOfPipe.call (alcR R0 fun g h1 x1 R => R.lda1 rfl fun c1 R1 => goX (ValidPipe_c R1) fun h2 x2 => as_b ?_)
  rw [hok]
  refine br_f rfl ((rP_c (R.ext x2) Ru).mono ?_)
  rintro _ h3 ⟨b, l, c, B, ps, rfl, O, M, H⟩
  have X3 := x1.trans (x2.trans M.ext)
  have S := O.look M (List.Sublist.refl _)
  have H := H.ext M.ext
  have hl := S.len
  have hlr := H.1
  rw [twoR_len] at hlr
  refine as_l (loop (fun y hh => ∃ (i : Nat) (s : Int), y = (s, b, l, c, (l : Int), (i : Int)) ∧ i ≤ l ∧ (i : Int) ≤ s ∧ s ≤ 1024 * i ∧ Ext h3 hh) (fun y => ((l : Int) - y.2.2.2.2.2).toNat) ⟨0, 0, rfl, by omega, by omega, by omega, Ext.refl _⟩ ?_)
  rintro y hh ⟨i, s, rfl, hi, hs1, hs2, X⟩
  refine brd (fun hc => ?_) fun hc => ⟨s, rfl, by omega, X3.trans X⟩
  refine (S.ext X).idx (by decide) (by omega) (by omega) fun p Rp => Rp.oP1 ?_
  rw [Int.toNat_natCast]
  obtain ⟨Rr, ok⟩ := H.2 i (by omega)
  have al := at_lt ok
  refine (Rr.ext X).oL1 fun b2 l2 c2 S2 => goX (length_f32_c _ _ _ _) fun h4 x4 => as_i ?_
  have hl2 := S2.len
  rw [wrap64 (n := s + (l2 : Int)) (by omega) (by omega)]
  exact ⟨⟨i + 1, s + (l2 : Int), by rw [wrap64_succ (by omega)], by omega, by omega, by omega, X.trans x4⟩, by rw [wrap64_succ (by omega)]; show _ < _; simp; omega⟩
theorem sq_zero : fadd .f64 0 (fmul .f64 (wid 0) (wid 0)) = 0 := by decide +kernel
theorem impl_EnergyOfPipe_c0 (R0 : rPipe.rd h cs.toList x) (hok : x.ok = true) (h0 : ∀ r ∈ twoR x.Right x.Left x.Right.length, ∀ a ∈ r.Samples, a = 0) : CALL prg f_impl_EnergyOfPipe #[.agg cs] (fun u h' => ∃ r, u = .tuple ⟨[.float .f64 r, .int .i64 (0 : Int)]⟩ ∧ FW .f64 r 0 ∧ Ext h h') h := by
  have Ru := pipe_runs hok
  refine impl_EnergyOfPipe.call (alcR R0 fun g h1 x1 R => R.lda1 rfl fun c1 R1 => goX (ValidPipe_c R1) fun h2 x2 => as_b ?_)
  rw [hok]
  refine br_f rfl ((rP_c (R.ext x2) Ru).mono ?_)
  rintro _ h3 ⟨b, l, c, B, ps, rfl, O, M, H⟩
  have X3 := x1.trans (x2.trans M.ext)
  have S := O.look M (List.Sublist.refl _)
  have H := H.ext M.ext
  have hl := S.len
  have hlr := H.1
  have n3 := Ru.n3
  have hlr2 := hlr
  rw [twoR_len] at hlr2
  refine as_l (loop (fun y hh => ∃ (i s : Nat), y = (s, b, l, c, (l : Int), (i : Int)) ∧ i ≤ l ∧ FW .f64 s 0 ∧ Ext h3 hh) (fun y => ((l : Int) - y.2.2.2.2.2).toNat) ⟨0, 0, rfl, by omega, fw_c64 (by decide) (by decide), Ext.refl _⟩ ?_)
  rintro y hh ⟨i, s, rfl, hi, hs, X⟩
  refine brd (fun hc => ?_) fun hc => ⟨s, rfl, hs, X3.trans X⟩
  refine (S.ext X).idx (by decide) (by omega) (by omega) fun p Rp => Rp.oP1 ?_
  rw [Int.toNat_natCast]
  obtain ⟨Rr, ok⟩ := H.2 i (by omega)
  have al := at_lt ok
  have hz := h0 _ (mem_get (l := twoR x.Right x.Left x.Right.length) (i := i) (by omega))
  refine (Rr.ext X).oL1 fun b2 l2 c2 S2 => ?_
  have hl2 := S2.len
  refine loop (fun y h4 => ∃ (m s : Nat), y = (s, b, l, c, (l : Int), (i : Int), b2, l2, c2, (l2 : Int), (m : Int)) ∧ m ≤ l2 ∧ FW .f64 s 0 ∧ Ext hh h4) (fun y => ((l2 : Int) - y.2.2.2.2.2.2.2.2.2.2).toNat) ⟨0, s, rfl, by omega, hs, Ext.refl _⟩ ?_
  rintro y h4 ⟨m, s, rfl, hm, hs, Y⟩
  refine brd (fun hc => ?_) fun hc => ?_
  · refine (S2.ext Y).idx (by decide) (by omega) (by omega) fun p Rp => Rp.oF1 fun w hw => ?_
    rw [Int.toNat_natCast, hz _ (mem_get (by rw [hl2]; omega))] at hw
    refine ffc_wide hw fun r1 q1 => ffc_wide hw fun r2 q2 => fM q1 q2 fun r3 q3 => fA hs q3 fun r4 q4 => ?_
    rw [sq_zero] at q4
    exact ⟨⟨m + 1, r4, by rw [wrap64_succ (by omega)], by omega, q4, Y⟩, by rw [wrap64_succ (by omega)]; show _ < _; simp; omega⟩
  exact ⟨⟨i + 1, s, by rw [wrap64_succ (by omega)], by omega, hs, X.trans Y⟩, by rw [wrap64_succ (by omega)]; show _ < _; simp; omega⟩
theorem impl_WithReed_c {y z a b : Nat} (R0 : rPipe.rd h cs.toList x) (hok : x.ok = true) (hy : FW .f32 y a) (hz : FW .f32 z b) (fa : fin a = true) (fb : fin b = true) : CALL prg f_impl_WithReed #[.agg cs, .float .f32 y, .float .f32 z] (fun u h' => PairR rPipe h h' u { x with Rest := a, Slope := b } 0) h := by
  refine impl_WithReed.call ((Mem.start h).alc fun g1 h1 x1 M => M.alc fun g3 h2 x2 M => M.lda0 (.there .here) (rsz R0 rfl) ?_)
  refine goM M (ValidPipe_c (rPipe.ext M.ext R0)) fun h3 M => as_b ?_
  rw [hok]
  refine br_f rfl (M.alc fun g11 h4 x4 M => ?_)
  have SF : SlR (rF .f32) h4 (some ⟨g11, 0, none⟩) 2 2 [a, b] := ⟨rfl, Nat.le_refl _, by decide, [.float .f32 y, .float .f32 z], fun i hi => ⟨_, rfl, by rw [add_none, M.cell .here, Nat.zero_add, List.getElem?_toArray]⟩, [.float .f32 y], _, rfl, ⟨y, rfl, hy⟩, [.float .f32 z], [], rfl, ⟨z, rfl, hz⟩, rfl⟩
  refine goM M (areFinite_c SF) fun h5 M => as_b ?_
  have hfin : allFin [a, b] = true := by unfold allFin; simp [fa, fb]
  rw [hfin]
  refine br_f rfl (M.lda0 (.there (.there .here)) (rsz R0 rfl) (NewR.go M (Pipe_clone_c (rPipe.ext M.ext R0) (pipe_small hok)) fun h6 c6 B6 M O6 s6 => as_a ?_))
  have M := M.cnt (W := (g1, T_impl_Pipe, cs) :: (B6 ++ [(g3, T_impl_Pipe, ⟨Z_impl_Pipe⟩)])) (fun p => by simp only [cnt_app, cnt_cons, cnt_nil] at *; omega)
  refine M.sta0 .here s6 (rPipe.oone O6) (rsz R0 rfl) .here fun h7 M => ?_
  have P : Pt rPipe h h7 ⟨g1, 0, none⟩ ⟨g1, T_impl_Pipe, [], []⟩ [(g3, T_impl_Pipe, ⟨Z_impl_Pipe⟩)] x := Pt.new O6 M
  show ST1 h7 ((⟨g1, 0, none⟩ : Addr).add 11) (.float .f32 y) _
  refine Pt.stF (off := 11) P hy fun h8 P => ?_
  show ST1 h8 ((⟨g1, 0, none⟩ : Addr).add 12) (.float .f32 z) _
  refine Pt.stF (off := 12) P hz fun h9 P => ?_
  obtain ⟨cs', B, M, O⟩ := P.out
  refine M.lda0 .here (osz O rfl) ?_
  have M := M.cnt (W := (g3, T_impl_Pipe, ⟨Z_impl_Pipe⟩) :: B) (fun p => by simp only [cnt_app, cnt_cons, cnt_nil] at *; omega)
  exact M.sta0 .here (osz O rfl) (rPipe.oone O) rfl .here fun h10 M => M.lda0 .here (osz O rfl) ⟨_, B, rfl, O, M.drop⟩
end
end Go.Sx
/- Pipes muted. -/
set_option linter.unusedVariables false
set_option linter.unusedSimpArgs false
namespace Go.Sx
open Go.Proofs
set_option maxRecDepth 100000
set_option maxHeartbeats 2000000

def GPipe.mute (x : GPipe) : GPipe := { x with Right := x.Right.map GRing.mute, Left := x.Left.map GRing.mute, End := x.End.mute }
/-- The addresses of rings that lie in two rows, by turns. -/
def ptsA (a b : Addr) : Nat → List Addr
  | 0 => []
  | n + 1 => ptsA a b n ++ [a.add (n * 2), b.add (n * 2)]
theorem ptsA_len (a b : Addr) : ∀ n, (ptsA a b n).length = 2 * n
  | 0 => rfl
  | n + 1 => by rw [ptsA, List.length_append, ptsA_len a b n]; simp; omega
theorem ptsA_even (a b : Addr) {m : Nat} : ∀ n, m < n → (ptsA a b n)[2 * m]! = a.add (m * 2)
  | 0, h => by omega
  | n + 1, h => by
    rw [ptsA, get_app, ptsA_len]
    by_cases e : m = n
    · subst e; rw [if_neg (by omega), Nat.sub_self]; rfl
    · rw [if_pos (by omega)]; exact ptsA_even a b n (by omega)
theorem ptsA_odd (a b : Addr) {m : Nat} : ∀ n, m < n → (ptsA a b n)[2 * m + 1]! = b.add (m * 2)
  | 0, h => by omega
  | n + 1, h => by
    rw [ptsA, get_app, ptsA_len]
    by_cases e : m = n
    · subst e; rw [if_neg (by omega), show 2 * m + 1 - 2 * m = 1 from by omega]; rfl
    · rw [if_pos (by omega)]; exact ptsA_odd a b n (by omega)
section
variable {h : Heap} {q : Addr} {x : GPipe} {cs : Array Value}
theorem rPA_c (R : RdP rPipe h q x) (Ru : x.Runs) : CALL prg f_p_impl_Pipe_rings #[.pointer (some q)] (fun u h' => ∃ b l c B a1 l1 c1 a2 l2 c2, u = .slice b l c ∧ SlO T_p_impl_Ring rP B b l c (ptsA a1 a2 x.Right.length) ∧ Mem h h' B ∧ cell h q = some (.slice (some a1) l1 c1) ∧ cell h (q.add 1) = some (.slice (some a2) l2 c2)) h := by
  have n1 := Ru.n1
  have n3 := Ru.n3
  have nl := Ru.ll
  have hm : (7 : Nat) ≤ maxLen := by decide
  obtain ⟨v, e1, b4, l4, c4, e2, S4⟩ := R.cell lf_Pipe_0.f rfl
  obtain rfl : v = .slice b4 l4 c4 := by simpa using e2
  rw [add0] at e1
  obtain ⟨v, e3, b6, l6, c6, e2, S6⟩ := R.cell lf_Pipe_1.f rfl
  obtain rfl : v = .slice b6 l6 c6 := by simpa using e2
  have e4 : x.Right.length = l4 := S4.len
  have e6 : x.Left.length = l6 := S6.len
  obtain ⟨a1, rfl, _⟩ := S4.elem (i := 0) (by omega) ring_sz
  obtain ⟨a2, rfl, _⟩ := S6.elem (i := 0) (by omega) ring_sz
  refine p_impl_Pipe_rings.call (o_l e1 ?_)
  refine loop (fun y hh => ∃ (n : Nat) (b : Option Addr) (c : Nat) (B : List Blk), y = (q, b, 2 * n, c, (l4 : Int), (n : Int)) ∧ n ≤ l4 ∧ SlO T_p_impl_Ring rP B b (2 * n) c (ptsA a1 a2 n) ∧ Mem h hh B) (fun y => (l4 - y.2.2.2.2.2).toNat)
    ⟨0, _, _, _, rfl, by omega, SlO.nil, Mem.start h⟩ ?_
  rintro y hh ⟨n, b, c, B, rfl, hn, O, M⟩
  refine brd (fun hc => ?_) fun hc => ?_
  · refine o_l (M.ext.cell e1) (idxs (by omega) (by omega) (o_l (M.ext.cell e3) (idxs (by omega) (by omega) (M.alc fun g h1 x1 M1 => ?_))))
    have M2 : Mem h h1 (B ++ ([] ++ [(g, T_p_impl_Ring, ⟨[.pointer (some (a1.add (n * 2))), .pointer (some (a2.add (n * 2)))]⟩)])) := M1.cnt fun p => by simp only [Int.toNat_natCast, List.append_eq, cnt_app, cnt_cons, cnt_nil]; omega
    refine O.app (Bn := []) (news := [.pointer (some (a1.add (n * 2))), .pointer (some (a2.add (n * 2)))]) (ys := [a1.add (n * 2), a2.add (n * 2)]) E_sl_p_impl_Ring M2 rfl ⟨[], [], [_], [_], rfl, rfl, ⟨rfl, rfl⟩, [], [], [_], [], rfl, rfl, ⟨rfl, rfl⟩, rfl, rfl⟩ (fun j v hj => ?_) (by omega) (by omega) fun b' c' h' B' O' M' => as_l ?_
    · rw [add_none, Nat.zero_add, M1.cell .here, ← hj, List.getElem?_toArray]; rfl
    exact ⟨⟨n + 1, b', c', B', by rw [wrap64_succ (by omega)]; rfl, by omega, O', M'.cnt (fun p => by simp only [cnt_app, cnt_cons, cnt_nil]; omega)⟩, by rw [wrap64_succ (by omega)]; show _ < _; simp; omega⟩
  · obtain rfl : n = l4 := by omega
    rw [e4]
    exact ⟨b, _, c, B, a1, _, _, a2, _, _, rfl, O, M, e1, e3⟩
theorem foc_PipeS : Foc rPipe (rArr 2 (rF .f32)) 7 (fun a => a.End.S) (fun a b => { a with End := { a.End with S := b } }) := (foc_Pipe_End.trans foc_Filter_S).at rfl
/-- A pipe some of whose rings are muted. -/
def muteP (x : GPipe) (i : Nat) : GPipe := { x with Right := mapN GRing.mute x.Right ((i + 1) / 2), Left := mapN GRing.mute x.Left (i / 2) }
theorem impl_MutePipe_c (R0 : rPipe.rd h cs.toList x) (hok : x.ok = true) : CALL prg f_impl_MutePipe #[.agg cs] (fun u h' => PairR rPipe h h' u x.mute 0) h := by
  have Ru := pipe_runs hok
  have sm := pipe_small hok
  have n1 := Ru.n1
  have n3 := Ru.n3
  have nl := Ru.ll
  refine impl_MutePipe.call ((Mem.start h).alc fun g1 h1 x1 M => M.alc fun g3 h2 x2 M => M.lda0 (.there .here) (rsz R0 rfl) ?_)
  refine goM M (ValidPipe_c (rPipe.ext M.ext R0)) fun h3 M => as_b ?_
  rw [hok]
  refine br_f rfl (M.lda0 (.there .here) (rsz R0 rfl) (NewR.go M (Pipe_clone_c (rPipe.ext M.ext R0) sm) fun h6 c6 B6 M O6 s6 => as_a ?_))
  have M := M.cnt (W := (g1, T_impl_Pipe, cs) :: (B6 ++ [(g3, T_impl_Pipe, ⟨Z_impl_Pipe⟩)])) (fun p => by simp only [cnt_app, cnt_cons, cnt_nil] at *; omega)
  refine M.sta0 .here s6 (rPipe.oone O6) (rsz R0 rfl) .here fun h7 M => ?_
  have P : Pt rPipe h h7 ⟨g1, 0, none⟩ ⟨g1, T_impl_Pipe, [], []⟩ [(g3, T_impl_Pipe, ⟨Z_impl_Pipe⟩)] x := Pt.new O6 M
  refine (rPA_c P.rd Ru).mono ?_
  rintro _ h8 ⟨bR, lR, cR, BR, a1, l1, c1, a2, l2, c2, rfl, OR, N, k1, k2⟩
  refine as_l ?_
  have k1 := N.ext.cell k1
  have k2 := N.ext.cell k2
  have P := P.join N
  have hlR : (ptsA a1 a2 x.Right.length).length = lR := OR.1
  rw [ptsA_len] at hlR
  have P0 : Pt rPipe h h8 ⟨g1, 0, none⟩ ⟨g1, T_impl_Pipe, [], []⟩ (BR ++ [(g3, T_impl_Pipe, ⟨Z_impl_Pipe⟩)]) (muteP x 0) := by
    have : muteP x 0 = x := by unfold muteP; rw [show (0 + 1) / 2 = 0 from rfl, mapN_zero, mapN_zero]
    rw [this]; exact P
  refine loop (fun y hh => ∃ i : Nat, y = (⟨g1, 0, none⟩, ⟨g3, 0, none⟩, bR, lR, cR, (lR : Int), (i : Int)) ∧ i ≤ lR ∧ Pt rPipe h hh ⟨g1, 0, none⟩ ⟨g1, T_impl_Pipe, [], []⟩ (BR ++ [(g3, T_impl_Pipe, ⟨Z_impl_Pipe⟩)]) (muteP x i) ∧ cell hh ⟨g1, 0, none⟩ = some (.slice (some a1) l1 c1) ∧ cell hh ((⟨g1, 0, none⟩ : Addr).add 1) = some (.slice (some a2) l2 c2))
    (fun y => ((lR : Int) - y.2.2.2.2.2.2).toNat) ⟨0, rfl, by omega, P0, k1, k2⟩ ?_
  rintro y hh ⟨i, rfl, hi, P, k1, k2⟩
  refine brd (fun hc => ?_) fun hc => ?_
  · have SR := OR.look P.mem (List.sublist_append_left _ _)
    refine SR.idx (by decide) (by omega) (by omega) fun p Rp => Rp.oP1 ?_
    rw [Int.toNat_natCast]
    obtain ⟨m, rfl | rfl⟩ : ∃ m, i = 2 * m ∨ i = 2 * m + 1 := ⟨i / 2, by omega⟩
    · rw [ptsA_even a1 a2 _ (by omega)]
      have hlen : l1 = x.Right.length := by
        obtain ⟨b, l, c, e, hl⟩ := P.hd
        rw [k1] at e; cases e
        rw [← hl]; exact mapN_len
      have eg : (muteP x (2 * m)).Right[m]! = x.Right[m]! := by
        show (mapN GRing.mute x.Right ((2 * m + 1) / 2))[m]! = _
        rw [show (2 * m + 1) / 2 = m from by omega]; exact mapN_get (by omega)
      have k1' : cell hh ((⟨g1, 0, none⟩ : Addr).add 0) = some (.slice (some a1) l1 c1) := by rw [add0]; exact k1
      obtain ⟨a0, F', C, e, P', close⟩ := P.elemX (off := 0) k1' (i := m) (by omega)
      cases e
      have P' : Pt rRing h hh (a1.add (m * 2)) F' (C ++ _) (muteP x (2 * m)).Right[m]! := P'
      rw [eg] at P'
      refine (Ring_mute_c P' (sm.r _ (mem_get (by omega)))).mono ?_
      rintro _ h' ⟨_, P'⟩
      obtain ⟨P2, ec⟩ := close _ _ _ _ P'
      refine ⟨⟨2 * m + 1, by rw [wrap64_succ (by omega)], by omega, ?_, by have := ec 0; rw [add0] at this; rw [this]; exact k1, by rw [ec 1]; exact k2⟩, by rw [wrap64_succ (by omega)]; show _ < _; simp; omega⟩
      have e1 : ({ muteP x (2 * m) with Right := (muteP x (2 * m)).Right.set m x.Right[m]!.mute } : GPipe) = muteP x (2 * m + 1) := by
        unfold muteP
        dsimp only
        rw [show (2 * m + 1) / 2 = m from by omega, show 2 * m / 2 = m from by omega, show (2 * m + 1 + 1) / 2 = m + 1 from by omega, mapN_step (by omega)]
      rw [← e1]
      exact P2
    · rw [ptsA_odd a1 a2 _ (by omega)]
      have hlen : l2 = x.Left.length := by
        obtain ⟨b, l, c, e, hl⟩ := P.hdl
        rw [k2] at e; cases e
        rw [← hl]; exact mapN_len
      have eg : (muteP x (2 * m + 1)).Left[m]! = x.Left[m]! := by
        show (mapN GRing.mute x.Left ((2 * m + 1) / 2))[m]! = _
        rw [show (2 * m + 1) / 2 = m from by omega]; exact mapN_get (by omega)
      obtain ⟨a0, F', C, e, P', close⟩ := P.elemX (off := 1) k2 (i := m) (by omega)
      cases e
      have P' : Pt rRing h hh (a2.add (m * 2)) F' (C ++ _) (muteP x (2 * m + 1)).Left[m]! := P'
      rw [eg] at P'
      refine (Ring_mute_c P' (sm.l _ (mem_get (by omega)))).mono ?_
      rintro _ h' ⟨_, P'⟩
      obtain ⟨P2, ec⟩ := close _ _ _ _ P'
      refine ⟨⟨2 * m + 1 + 1, by rw [wrap64_succ (by omega)], by omega, ?_, by have := ec 0; rw [add0] at this; rw [this]; exact k1, by rw [ec 1]; exact k2⟩, by rw [wrap64_succ (by omega)]; show _ < _; simp; omega⟩
      have e1 : ({ muteP x (2 * m + 1) with Left := (muteP x (2 * m + 1)).Left.set m x.Left[m]!.mute } : GPipe) = muteP x (2 * m + 1 + 1) := by
        unfold muteP
        dsimp only
        rw [show (2 * m + 1) / 2 = m from by omega, show (2 * m + 1 + 1) / 2 = m + 1 from by omega, show (2 * m + 1 + 1 + 1) / 2 = m + 1 from by omega, mapN_step (by omega)]
      rw [← e1]
      exact P2
  obtain rfl : i = lR := by omega
  have ea : muteP x i = { x with Right := x.Right.map GRing.mute, Left := x.Left.map GRing.mute } := by
    unfold muteP
    rw [mapN_all (by omega), mapN_all (by omega)]
  rw [ea] at P
  refine P.stF2 foc_PipeS fw0 fw0 fun h9 P => ?_
  have P : Pt rPipe h h9 ⟨g1, 0, none⟩ ⟨g1, T_impl_Pipe, [], []⟩ (BR ++ [(g3, T_impl_Pipe, ⟨Z_impl_Pipe⟩)]) x.mute := P
  obtain ⟨cs', B, M, O⟩ := P.out
  refine M.lda0 .here (osz O rfl) ?_
  have M := M.cnt (W := (g3, T_impl_Pipe, ⟨Z_impl_Pipe⟩) :: B) (fun p => by simp only [cnt_app, cnt_cons, cnt_nil] at *; omega)
  exact M.sta0 .here (osz O rfl) (rPipe.oone O) rfl .here fun h10 M => M.lda0 .here (osz O rfl) ⟨_, B, rfl, O, M.drop⟩
end
end Go.Sx
/- A muted pipe: sound, silent, all its samples zero. -/
set_option linter.unusedVariables false
set_option linter.unusedSimpArgs false
namespace Go.Sx
open Go.Proofs

theorem map_get' {l : List GRing} {i : Nat} (h : i < l.length) : (l.map GRing.mute)[i]! = l[i]!.mute := by
  rw [getElem!_pos _ i (by rw [List.length_map]; exact h), getElem!_pos l i h, List.getElem_map]
theorem okf_mute {l : List GRing} (h : l.all GRing.okf = true) : (l.map GRing.mute).all GRing.okf = true := by
  rw [List.all_eq_true] at h ⊢
  intro r hr
  obtain ⟨s, hs, rfl⟩ := List.mem_map.1 hr
  exact mute_okf (h s hs)
theorem zero_mute (l : List GRing) : (l.map GRing.mute).all GRing.zero = true := by
  rw [List.all_eq_true]
  intro r hr
  obtain ⟨s, hs, rfl⟩ := List.mem_map.1 hr
  unfold GRing.zero GRing.mute
  rw [List.all_eq_true]
  intro a ha
  have := List.eq_of_mem_replicate ha
  subst this
  exact zeq z0
theorem pmute_ok {x : GPipe} (h : x.ok = true) : x.mute.ok = true := by
  have nl := (pipe_split h).2.2.1
  rw [pipe_ok] at h ⊢
  have en : x.mute.n = x.n := by unfold GPipe.n GPipe.mute; exact List.length_map ..
  have el : x.mute.Left.length = x.Left.length := List.length_map ..
  simp only [Bool.and_eq_true] at h
  obtain ⟨⟨⟨⟨⟨⟨⟨⟨⟨⟨⟨h1, h2⟩, h3⟩, h4⟩, h5⟩, h6⟩, h7⟩, h8⟩, h9⟩, h10⟩, h11⟩, h12⟩ := h
  have e := mute_ok1 (k := 1) (f := x.End) (by rw [h8, h9]; rfl)
  rw [Bool.and_eq_true] at e
  rw [en, el]
  simp only [Bool.and_eq_true]
  refine ⟨⟨⟨⟨⟨⟨⟨⟨⟨⟨⟨h1, h2⟩, h3⟩, okf_mute h4⟩, okf_mute h5⟩, ?_⟩, h7⟩, e.1⟩, e.2⟩, h10⟩, h11⟩, h12⟩
  rw [List.all_eq_true] at h6 ⊢
  intro i hi
  have k := h6 i hi
  have hi := List.mem_range.1 hi
  have hR : i < x.Right.length := hi
  have hL : i < x.Left.length := by omega
  show ((x.Right.map GRing.mute)[i]!.Samples.length == (x.Left.map GRing.mute)[i]!.Samples.length) = true
  rw [map_get' hR, map_get' hL]
  unfold GRing.mute
  rw [List.length_replicate, List.length_replicate]
  exact k
theorem pmute_silent {x : GPipe} (h : x.ok = true) : x.mute.silent = true := by
  rw [pipe_ok] at h
  simp only [Bool.and_eq_true] at h
  have k := rest_still (rest_mute (k := 1) (f := x.End) (by rw [h.1.1.1.1.2, h.1.1.1.2]; rfl))
  unfold GPipe.silent
  have e1 : x.mute.Right.all GRing.zero = true := zero_mute _
  have e2 : x.mute.Left.all GRing.zero = true := zero_mute _
  have e3 : x.mute.End.still = true := k
  rw [e1, e2, e3]; rfl
theorem twoR_mem {a b : List GRing} : ∀ n, n ≤ a.length → n ≤ b.length → ∀ r ∈ twoR a b n, r ∈ a ∨ r ∈ b
  | 0, _, _, r, hr => by simp [twoR] at hr
  | n + 1, h1, h2, r, hr => by
    rw [twoR, List.mem_append] at hr
    rcases hr with hr | hr
    · exact twoR_mem n (by omega) (by omega) r hr
    · simp only [List.mem_cons, List.not_mem_nil, or_false] at hr
      rcases hr with rfl | rfl
      · exact .inl (mem_get (by omega))
      · exact .inr (mem_get (by omega))
theorem pmute_zeros {x : GPipe} (h : x.ok = true) : ∀ r ∈ twoR x.mute.Right x.mute.Left x.mute.Right.length, ∀ a ∈ r.Samples, a = 0 := by
  have nl := (pipe_split h).2.2.1
  have e1 : x.mute.Right.length = x.Right.length := List.length_map ..
  have e2 : x.mute.Left.length = x.Left.length := List.length_map ..
  intro r hr a ha
  have key : ∀ l : List GRing, r ∈ l.map GRing.mute → a = 0 := fun l hl => by
    obtain ⟨s, _, rfl⟩ := List.mem_map.1 hl
    exact List.eq_of_mem_replicate ha
  rcases twoR_mem _ (Nat.le_refl _) (by omega) r hr with k | k
  · exact key _ k
  · exact key _ k
/-- The two ways to lay rings by turns. -/
theorem duo_two {a b : List GRing} (h : b.length = a.length) : ∀ n, n ≤ a.length → duo (a.take n) (b.take n) = twoR a b n := by
  have key : ∀ (u v : List GRing) (r s : GRing), u.length = v.length → duo (u ++ [r]) (v ++ [s]) = duo u v ++ [r, s] := by
    intro u
    induction u with
    | nil =>
      intro v r s h
      cases v with
      | nil => rfl
      | cons => simp at h
    | cons x u ih =>
      intro v r s h
      cases v with
      | nil => simp at h
      | cons y v => simp only [List.cons_append, duo]; rw [ih v r s (by simpa using h)]
  intro n
  induction n with
  | zero => intro _; rfl
  | succ n ih =>
    intro hn
    rw [take_snoc (l := a) (by omega), take_snoc (l := b) (by omega), key _ _ _ _ (by rw [List.length_take, List.length_take, h]), ih (by omega), twoR]
end Go.Sx
