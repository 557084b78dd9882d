/- A pipe's step, as the program makes it. -/
import Derived.Test.YtjoajnmhdobbfaaLk15
import Derived.Test.YtjoajnmhdobbfaaLk13
set_option linter.unusedVariables false
set_option linter.unusedSimpArgs false
namespace Go.Sx
open Go.Proofs
set_option maxRecDepth 100000
set_option maxHeartbeats 1000000

def zeros3 : List Nat := [0, 0, 0]
theorem FA.zero3 : FA 3 ⟨Z_3_float32⟩ zeros3 := ⟨rfl, rdsF_any (h := #[]) ((zeros_fl 3).look (Mem.start #[]) (List.Sublist.refl _))⟩
theorem mapI3 {n : Nat} (f : Nat → Nat) (h : n < 3) : (mapI f zeros3 n).set n (f n) = mapI f zeros3 (n + 1) := mapI_set h
section
variable {h0 h : Heap} {q : Addr} {F : Fr} {L : List Blk} {x : GPipe} {b : Nat}
theorem Pt.head {α β : Type} {r : Rep α} {e : Nat} {s : Rep β} {get : α → List β} {put : α → List β → α} {a : α} {off : Nat} (P : Pt r h0 h q F L a) [Fc : FocC r off (rSl e s) get put] : ∃ bb l c, cell h (q.add off) = some (.slice bb l c) ∧ SlR s h bb l c (get a) := P.hdr
theorem step_J21 {y w : Nat} (P : Pt rPipe h0 h q F L (x.at b x.Right.length (x.Right.length - 1) x.e.1)) (R : x.Runs) (hy : FW .f32 y x.e.2) (hw : FW .f32 w x.back) :
    p_impl_Pipe_step.J21 (fun u h' => PiStep h0 h' q F L x b u) q (x.Right.length : Int) y w h := by
  have n1 := R.n1
  have n3 := R.n3
  unfold p_impl_Pipe_step.J21
  rw [last_i n1 (by omega)]
  obtain ⟨bb, l, c, eb, el⟩ := P.hdl
  refine o_l eb ?_
  obtain ⟨a0, F', L', rfl, hi, P', ok, close⟩ := pushL P R (by omega) eb el
  refine idxs (by omega) (by omega) ((kept_c hw).go fun h1 z x1 hz => as_f (P.rd.pinO (off := 1) (n := 1) (by decide) x1 ?_))
  refine (Ring_push_c (P'.grow x1) ok hz).mono ?_
  rintro _ h2 ⟨⟨_, rfl, _⟩, P2⟩
  rw [← lf_last] at P2
  obtain ⟨P, _⟩ := close _ _ P2
  rw [show x.Right.length - 1 + 1 = x.Right.length by omega] at P
  exact as_f (PiStep.of R hy P)
theorem Pipe_step_c {w : Nat} (P : Pt rPipe h0 h q F L x) (R : x.Runs) (hx : FW .f32 w b) : CALL prg f_p_impl_Pipe_step #[.pointer (some q), .float .f32 w] (fun u h' => PiStep h0 h' q F L x b u) h := by
  have n1 := R.n1
  have n3 := R.n3
  have nl := R.ll
  have ns := R.sl
  refine p_impl_Pipe_step.call (P.rd.oL1 fun b1 l1 c1 S1 => (Mem.start h).alc fun g1 h1 x1 N => N.alc fun g2 h2 x2 N => ?_)
  have e1 := S1.len
  have P : Pt rPipe h0 h2 q F ((g2, T_3_float32, ⟨Z_3_float32⟩) :: (g1, T_3_float32, ⟨Z_3_float32⟩) :: L) x := P.join N
  refine loop (fun y hh => ∃ (n : Nat) (cr cl : Array Value), y = (q, w, (l1 : Int), ⟨g1, 0, none⟩, ⟨g2, 0, none⟩, (l1 : Int), (n : Int)) ∧ n ≤ l1 ∧ FA 3 cr (mapI (fun i => x.Right[i]!.old) zeros3 n) ∧ FA 3 cl (mapI (fun i => x.Left[i]!.old) zeros3 n) ∧
    Pt rPipe h0 hh q F ((g2, T_3_float32, cl) :: (g1, T_3_float32, cr) :: L) x) (fun y => (l1 - y.2.2.2.2.2.2).toNat) ⟨0, _, _, rfl, by omega, by rw [mapI_zero]; exact FA.zero3, by rw [mapI_zero]; exact FA.zero3, P⟩ ?_
  rintro y hh ⟨n, cr, cl, rfl, hn, Fr, Fl, P⟩
  refine brd (fun hc => ?_) fun hc => ?_
  · refine P.rd.oL1 fun b2 l2 c2 S2 => ?_
    have e2 := S2.len
    refine S2.idx ring_sz (by omega) (by omega) fun p Rp => Rp.lda1 rfl fun ca Ra => P.rd.oL fun b3 l3 c3 S3 => ?_
    have e3 := S3.len
    refine S3.idx ring_sz (by omega) (by omega) fun p Rp => Rp.lda1 rfl fun cb Rb => ?_
    rw [Int.toNat_natCast] at Ra Rb
    refine (oldest_c Ra (R.r _ (mem_get (by omega)))).mono ?_
    rintro _ h3 ⟨⟨y1, rfl, k1⟩, x3⟩
    refine as_f (Rp.pin rfl x3 (P.rd.pinO (off := 1) (n := 1) (by decide) x3 (idx (by omega) (by omega) ((oldest_c (rRing.ext x3 Rb) (R.l _ (mem_get (by omega)))).mono ?_))))
    rintro _ h4 ⟨⟨y2, rfl, k2⟩, x4⟩
    have P := P.grow (x3.trans x4)
    refine as_f (P.blkA (.there .here) (.there .here) Fr (i := n) (by omega) k1 fun h5 cr' Fr' P => idx (by omega) (by omega) (P.blkA (.there .here) (.there .here) Fl (i := n) (by omega) k2 fun h6 cl' Fl' P => ?_))
    rw [mapI3 (fun i => x.Right[i]!.old) (by omega)] at Fr'
    rw [mapI3 (fun i => x.Left[i]!.old) (by omega)] at Fl'
    exact ⟨⟨n + 1, cr', cl', by rw [wrap64_succ (by omega)], by omega, Fr', Fl', P.cnt fun p => by simp only [cnt_cons]; omega⟩, by rw [wrap64_succ (by omega)]; show _ < _; simp; omega⟩
  obtain rfl : n = l1 := by omega
  clear hc hn N
  have oR : ∀ {i : Nat}, i < n → (mapI (fun i => x.Right[i]!.old) zeros3 n)[i]! = x.Right[i]!.old := fun hi => mapI_lt (f := fun i => x.Right[i]!.old) (show _ < 3 by omega) hi
  have oL : ∀ {i : Nat}, i < n → (mapI (fun i => x.Left[i]!.old) zeros3 n)[i]! = x.Left[i]!.old := fun hi => mapI_lt (f := fun i => x.Left[i]!.old) (show _ < 3 by omega) hi
  refine idx (by omega) (by omega) ((P.mem.rdp .here (Fl.rd hh)).fst (Foc.arr (rF .f32) 0 (by decide)) |>.oF1 fun y hy => fS hy hx fun d hd => ?_)
  rw [oL (by omega)] at hd
  have hd : FW .f32 d (x.d b) := hd
  rw [← at_zero x b] at P
  obtain ⟨bb, l, c, eb, el⟩ := P.hd
  refine o_l eb ?_
  obtain ⟨a0, F', L', rfl, hi, P', ok, close⟩ := pushR P R (by omega) eb el
  rw [Nat.zero_mul, add0] at P' close
  refine idxs (by omega) (by omega) (P.rd.oF fun y1 k1 => P.rd.oF fun y2 k2 => (ReedAt_c k1 k2 hd).go fun h7 y3 x7 k3 => as_f (P.rd.pin0 (by decide) x7 (fM hd k3 fun w1 j1 => P.rd.pin0 (by decide) x7 (fA hx j1 fun w2 j2 => P.rd.pin0 (by decide) x7 ((kept_c j2).go fun h8 y4 x8 k4 => as_f (P.rd.pin0 (by decide) (x7.trans x8) ?_))))))
  refine (Ring_push_c (P'.grow (x7.trans x8)) ok k4).mono ?_
  rintro _ h9 ⟨⟨_, rfl, _⟩, P2⟩
  have P2 : Pt rRing h0 h9 a0 F' L' (x.rt b 0) := by rw [rt_zero]; exact P2
  obtain ⟨P, _⟩ := close _ _ P2
  clear P2 P' close ok eb el hi
  obtain ⟨b3, l3, c3, e3, S3⟩ := P.head (off := 2) (e := T_float32) (s := rF .f32)
  have n3' : x.Scatter.length = l3 := S3.len
  refine as_f (o_l e3 ?_)
  refine loop (fun y hh => ∃ m : Nat, y = (q, (n : Int), ⟨g1, 0, none⟩, ⟨g2, 0, none⟩, b3, l3, c3, (l3 : Int), (m : Int)) ∧ m + 1 ≤ n ∧ cell hh (q.add 2) = some (.slice b3 l3 c3) ∧ Pt rPipe h0 hh q F ((g2, T_3_float32, cl) :: (g1, T_3_float32, cr) :: L) (x.at b (m + 1) m x.End)) (fun y => (l3 - y.2.2.2.2.2.2.2.2).toNat) ⟨0, rfl, by omega, e3, P⟩ ?_
  rintro y hh ⟨m, rfl, hm, e3, P⟩
  have rA : ∀ {h' : Heap} {y : GPipe}, Pt rPipe h0 h' q F ((g2, T_3_float32, cl) :: (g1, T_3_float32, cr) :: L) y → RdP (rArr 3 (rF .f32)) h' ⟨g1, 0, none⟩ (mapI (fun i => x.Right[i]!.old) zeros3 n) := fun P => P.mem.rdp (.there .here) (Fr.rd _)
  have lA : ∀ {h' : Heap} {y : GPipe}, Pt rPipe h0 h' q F ((g2, T_3_float32, cl) :: (g1, T_3_float32, cr) :: L) y → RdP (rArr 3 (rF .f32)) h' ⟨g2, 0, none⟩ (mapI (fun i => x.Left[i]!.old) zeros3 n) := fun P => P.mem.rdp .here (Fl.rd _)
  rw [p_impl_Pipe_step.B11, wrap64_succ (n := m) (by omega)]
  refine brd (fun hc => ?_) fun hc => ?_
  · have S3 : SlR (rF .f32) hh b3 l3 c3 x.Scatter := P.slr (off := 2) e3
    refine S3.idx (by decide) (by omega) (by omega) fun p Rp => Rp.oF1 fun y1 k1 => idx (by omega) (by omega) (((rA P).elem (i := m) (by omega)).oF1 fun y2 k2 => idx (by omega) (by omega) (((lA P).elem (i := m + 1) (by omega)).oF1 fun y3 k3 => ?_))
    rw [oR (by omega)] at k2
    rw [oL (by omega)] at k3
    have k1 : FW .f32 y1 x.Scatter[m]! := k1
    refine fS k2 k3 fun w1 j1 => fM k1 j1 fun t ht => ?_
    have ht : FW .f32 t (x.t m) := ht
    obtain ⟨bb, l, c, eb, el⟩ := P.hd
    refine o_l eb ?_
    obtain ⟨a0, F', L', rfl, hi, P', ok, close⟩ := pushR P R (by omega) eb el
    refine idxs (by omega) (by omega) (idx (by omega) (by omega) (((rA P).elem (i := m) (by omega)).oF1 fun y4 k4 => ?_))
    rw [oR (by omega)] at k4
    refine fA k4 ht fun w2 j2 => pin_same ((kept_c j2).go fun h1 y5 x1 k5 => as_f (P.rd.pin0 (by decide) x1 ?_))
    refine (Ring_push_c (P'.grow x1) ok k5).mono ?_
    rintro _ h2 ⟨⟨_, rfl, _⟩, P2⟩
    rw [← rt_succ] at P2
    obtain ⟨P, hk⟩ := close _ _ P2
    rw [← hk] at e3
    clear P2 P' close ok eb el hi hk
    obtain ⟨bb, l, c, eb, el⟩ := P.hdl
    refine as_f (o_l eb ?_)
    obtain ⟨a0, F', L', rfl, hi, P', ok, close⟩ := pushL P R (by omega) eb el
    refine idxs (by omega) (by omega) (idx (by omega) (by omega) (((lA P).elem (i := m + 1) (by omega)).oF1 fun y6 k6 => ?_))
    rw [oL (by omega)] at k6
    refine fA k6 ht fun w3 j3 => pin_same ((kept_c j3).go fun h1 y7 x1 k7 => as_f (P.rd.pinO (off := 1) (n := 1) (by decide) x1 ?_))
    refine (Ring_push_c (P'.grow x1) ok k7).mono ?_
    rintro _ h3 ⟨⟨_, rfl, _⟩, P2⟩
    rw [← lf_lt (by omega)] at P2
    obtain ⟨P, hk⟩ := close _ _ P2
    rw [← hk] at e3
    exact as_f ⟨⟨m + 1, rfl, by omega, e3, P⟩, by show _ < _; simp; omega⟩
  · obtain rfl : n = m + 1 := by omega
    rw [last_i (by omega) (by omega)]
    refine idx (by omega) (by omega) (((rA P).elem (i := m + 1 - 1) (by omega)).oF1 fun y1 k1 => ?_)
    rw [oR (by omega)] at k1
    obtain ⟨F', L', P', hs, close⟩ := P.foc foc_Pipe_End
    refine (Filter_step_c P' k1).mono ?_
    rintro _ h1 ⟨⟨y, rfl, hy⟩, P2⟩
    have P := close _ _ _ P2
    have ee : x.e = x.End.step x.Right[m + 1 - 1]!.old := by unfold GPipe.e GPipe.n; rw [e1]
    have P : Pt rPipe h0 h1 q F ((g2, T_3_float32, cl) :: (g1, T_3_float32, cr) :: L) (x.at b x.Right.length (x.Right.length - 1) x.e.1) := by rw [ee, e1]; exact P
    have hy : FW .f32 y x.e.2 := by rw [ee]; exact hy
    have P := P.sub (L2 := L) (.cons _ (.cons _ (List.Sublist.refl _)))
    refine as_f (P.rd.oF fun y2 k2 => fM k2 hy fun w1 j1 => P.rd.oB (br (fun hb => ?_) fun hb => ?_))
    · have hb : x.Open = true := hb
      rw [show ((m + 1 : Nat) : Int) = (x.Right.length : Int) by rw [e1]]
      refine step_J21 P R hy ?_
      unfold GPipe.back
      rw [hb]; exact fw_neg j1
    · have hb : x.Open = false := hb
      rw [show ((m + 1 : Nat) : Int) = (x.Right.length : Int) by rw [e1]]
      refine step_J21 P R hy ?_
      unfold GPipe.back
      rw [hb]; exact j1
end
end Go.Sx
