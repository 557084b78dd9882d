/- The law FnSilentStays, as the program tells it. -/
import Derived.Test.YthgnpepchedpbaaGreatLk79
import Derived.Test.YthgnpepchedpbaaGreatMuteRoom
import Derived.Test.YthgnpepchedpbaaGreatPlayRoom
import Derived.Test.YthgnpepchedpbaaGreatLr6
set_option linter.unusedVariables false
set_option linter.unusedSimpArgs false
namespace Go.Sx
open Go.Proofs
set_option maxRecDepth 100000
set_option maxHeartbeats 2000000

theorem playR_ok {x : GRoom} (hx : x.ok = true) (R : x.Runs) (l : List Nat) : (x.play l).1.ok = true := by
  induction l generalizing x with
  | nil => exact hx
  | cons a l ih => exact ih (room_step_ok hx R.c2 R.l4 R.d4 a) (step_runs R a)
theorem playG_len {α : Type} (st : α → Nat → α × Nat) (x : α) : ∀ l : List Nat, (playG st x l).2.length = l.length
  | [] => rfl
  | a :: l => by simp only [playG, List.length_cons]; rw [playG_len st _ l]
theorem bow_nil_play {x : GBow} (N : x.Nil) (n : Nat) : (playG GBow.step x (List.replicate n 0)).1.Nil ∧ ∀ a ∈ (playG GBow.step x (List.replicate n 0)).2, Z2 a := by
  induction n generalizing x with
  | zero => exact ⟨N, fun a ha => nomatch ha⟩
  | succ n ih =>
    obtain ⟨h1, h2⟩ := bow_nil_step N
    obtain ⟨h3, h4⟩ := ih h1
    refine ⟨h3, fun a ha => ?_⟩
    have ha : a ∈ (x.step 0).2 :: (playG GBow.step (x.step 0).1 (List.replicate n 0)).2 := ha
    rcases List.mem_cons.1 ha with rfl | ha
    · exact .inl h2
    · exact h4 a ha
theorem jet_nil_play {x : GJet} (N : x.Nil) (n : Nat) : (playG GJet.step x (List.replicate n 0)).1.Nil ∧ ∀ a ∈ (playG GJet.step x (List.replicate n 0)).2, Z2 a := by
  induction n generalizing x with
  | zero => exact ⟨N, fun a ha => nomatch ha⟩
  | succ n ih =>
    obtain ⟨h1, h2⟩ := jet_nil_step N
    obtain ⟨h3, h4⟩ := ih h1
    refine ⟨h3, fun a ha => ?_⟩
    have ha : a ∈ (x.step 0).2 :: (playG GJet.step (x.step 0).1 (List.replicate n 0)).2 := ha
    rcases List.mem_cons.1 ha with rfl | ha
    · exact .inl h2
    · exact h4 a ha
theorem plain_same {v : Int} (h0 : 0 ≤ v) (h1 : v < 257) : feq .f32 (kept (fadd .f32 0 (plainW v))) (plainW v) = true := by
  have A : (List.range 257).all (fun v => feq .f32 (kept (fadd .f32 0 (plainW (v : Int)))) (plainW (v : Int))) = true := by decide +kernel
  obtain ⟨n, rfl⟩ := Int.eq_ofNat_of_zero_le h0
  exact List.all_eq_true.1 A n (List.mem_range.2 (by omega))
theorem pull_heard {x : GBow} {f : Nat} (hok : x.ok = true) (N : x.Nil) : ((x.pull f).step 0).2 = kept (fadd .f32 0 f) := by
  obtain ⟨k1, k2, k3, k4, k5⟩ := at_lt (bow_rings hok).2
  have hl : x.Bridge.len = (x.Bridge.Samples.length : Int) := rfl
  show (x.Bridge.Samples.map (pul f))[x.Bridge.At.toNat]! = _
  rw [getElem!_pos _ _ (by rw [List.length_map]; omega), List.getElem_map, N.b _ (List.getElem_mem _)]
  rfl
/-- Bytes that are read. -/
structure Reads (h : Heap) (cb mb : Option Addr) (code more : List Int) : Prop where
  c : Cells h cb (iv .u8 code)
  m : Cells h mb (iv .u8 more)
  bc : Byt' code
  bm : Byt' more
theorem Reads.ext {h h' : Heap} {cb mb : Option Addr} {code more : List Int} (G : Reads h cb mb code more) (X : Ext h h') : Reads h' cb mb code more := ⟨G.c.ext X, G.m.ext X, G.bc, G.bm⟩
theorem keepIn {α : Type} {r : Rep α} {h hh : Heap} {B W : List Blk} {cs Z : Array Value} {x : α} {T n : Nat} {F : Nat → Heap → Prop} (O : r.ow B cs.toList x) (hn : r.sz = n) (hz : Z.size = n) (M : Mem h hh W) (H : ∀ g h2, Mem h h2 ((g, T, cs) :: W) → F g h2) : ALC Z T (fun g h1 => STA n h1 ⟨g, 0, none⟩ cs fun h2 => F g h2) hh :=
  M.alc fun g h1 _ M => M.sta0 .here (by rw [← hn]; simpa using r.olen O) (r.oone O) hz .here fun h2 M => H g h2 M
theorem keepR {α : Type} {r : Rep α} {h hh : Heap} {B : List Blk} {cs Z : Array Value} {x : α} {T n : Nat} {F : Nat → Heap → Prop} (O : r.ow B cs.toList x) (hn : r.sz = n) (hz : Z.size = n) (M : Mem h hh B) (H : ∀ g h2, Ext h h2 → RdP r h2 ⟨g, 0, none⟩ x → F g h2) : ALC Z T (fun g h1 => STA n h1 ⟨g, 0, none⟩ cs fun h2 => F g h2) hh :=
  keepIn O hn hz M fun g h2 M => H g h2 M.ext (M.rdp .here (r.look O M (List.sublist_cons_self _ _)))
/-- A thing kept, beside a slice of floats. -/
theorem keepS {α : Type} {r : Rep α} {h hh : Heap} {B C : List Blk} {cs Z : Array Value} {x : α} {T n : Nat} {b : Option Addr} {l c : Nat} {ys : List Nat} {F : Nat → Heap → Prop} (O : r.ow B cs.toList x) (S : SlO T_float32 (rF .f32) C b l c ys) (hn : r.sz = n) (hz : Z.size = n) (M : Mem h hh (B ++ C)) (H : ∀ g h2, Ext h h2 → RdP r h2 ⟨g, 0, none⟩ x → SlR (rF .f32) h2 b l c ys → F g h2) : ALC Z T (fun g h1 => STA n h1 ⟨g, 0, none⟩ cs fun h2 => F g h2) hh :=
  keepIn O hn hz M fun g h2 M => H g h2 M.ext (M.rdp .here (r.look O M ((List.sublist_append_left _ _).trans (List.sublist_cons_self _ _)))) (S.look M ((List.sublist_append_right _ _).trans (List.sublist_cons_self _ _)))
abbrev TB2 (h : Heap) : Value → Heap → Prop := fun u h' => u = .bool true ∧ Ext h h'
section
variable {h hh : Heap} {cb mb : Option Addr} {cc mc : Nat} {code more : List Int} {x5 a13 b16 c19 : Addr} {b1 b2 b3 : Option Addr} {l1 l2 l3 k1 k2 k3 n : Nat} {xb yb : GBow} {yj : GJet} {yr : GRoom} {s1 s2 s3 : List Nat}
theorem zero_read {y a : Nat} (hy : FW .f32 y a) (hz : Z2 a) : (FloatKind.f32.format.order y 0 != some .eq) = false := by
  rw [ord_eq hy fw0]
  have e : (FloatKind.f32.format.order a 0 == some .eq) = true := zeq hz
  simp only [bne, e]; rfl
theorem fs13 (X : Ext h hh) (G : Reads hh cb mb code more) (X5 : RdP rBow hh x5 xb) (A : RdP rBow hh a13 yb) (J : RdP rJet hh b16 yj) (R : RdP rRoom hh c19 yr) (S1 : SlR (rF .f32) hh b1 l1 k1 s1) (S2 : SlR (rF .f32) hh b2 l2 k2 s2) (S3 : SlR (rF .f32) hh b3 l3 k3 s3)
    (e1 : l1 = n) (e2 : l2 = n) (e3 : l3 = n) (hn : n < 40) (z1 : ∀ a ∈ s1, Z2 a) (z2 : ∀ a ∈ s2, Z2 a) (z3 : ∀ a ∈ s3, Z2 a) (hxb : xb.ok = true) (nb : xb.Nil) (hyb : yb.ok = true) (syb : yb.silent = true) (hyj : yj.ok = true) (syj : yj.silent = true) (hyr : yr.ok = true) (syr : yr.zero = true) :
    laws_FnSilentStays.J13 (TB2 h) mb more.length mc x5 (n : Int) a13 b1 l1 k1 b16 b2 l2 k2 c19 b3 l3 k3 hh := by
  have m1 := S1.len
  have m2 := S2.len
  have m3 := S3.len
  subst e1
  unfold laws_FnSilentStays.J13
  refine loop (fun y h' => ∃ i : Nat, y = (mb, more.length, mc, x5, (l1 : Int), a13, b1, l1, k1, b16, b2, l2, k2, c19, b3, l3, k3, (i : Int)) ∧ i ≤ l1 ∧ h' = hh) (fun y => (l1 - y.2.2.2.2.2.2.2.2.2.2.2.2.2.2.2.2.2).toNat) ⟨0, rfl, by omega, rfl⟩ ?_
  rintro y h' ⟨i, rfl, hi, rfl⟩
  refine brd (fun hc => ?_) fun hc => ?_
  · refine S1.idx (by decide) (by omega) (by omega) fun p Rp => Rp.oF1 fun w hw => br_f (zero_read hw (z1 _ (mem_get (by omega)))) ?_
    refine S2.idx (by decide) (by omega) (by omega) fun p Rp => Rp.oF1 fun w hw => br_f (zero_read hw (z2 _ (mem_get (by omega)))) ?_
    refine S3.idx (by decide) (by omega) (by omega) fun p Rp => Rp.oF1 fun w hw => br_f (zero_read hw (z3 _ (mem_get (by omega)))) ?_
    exact ⟨⟨i + 1, by rw [wrap64_succ (by omega)], by omega, rfl⟩, by rw [wrap64_succ (by omega)]; show _ < _; simp; omega⟩
  refine A.lda1 rfl fun ca Ra => goX (impl_IsSilentBow_c Ra hyb) fun h1 x1 => tup2 (as_b (as_i ?_))
  refine (J.ext x1).lda1 rfl fun cj Rj => goX (impl_IsSilentJet_c Rj hyj) fun h2 x2 => tup2 (as_b (as_i ?_))
  refine (R.ext (x1.trans x2)).lda1 rfl fun cr Rr => goX (IsSilentRoom_c Rr hyr) fun h3 x3 => tup2 (as_b (as_i ?_))
  have X3 := x1.trans (x2.trans x3)
  refine (P6Plain_c (Mem.start h3) (G.m.ext X3) G.bm).mono ?_
  rintro _ h4 ⟨y, u, rfl, u1, u2, hy, M4⟩
  have X4 := X3.trans M4.ext
  refine as_f ((X5.ext X4).lda1 rfl fun cx Rx => (impl_PullBow_c Rx hxb hy (plain_fin u1 u2)).mono ?_)
  rintro _ h5 ⟨c5, B5, rfl, O5, M5⟩
  refine tup2 (as_a (as_i (keepR O5 rfl rfl M5 fun g6 h6 x6 A6 => A6.lda1 rfl fun c6 R6 => (impl_StepBow_c R6 (pull_ok hxb) fw0).mono ?_)))
  rintro _ h7 ⟨c7, B7, w, rfl, O7, hw, M7⟩
  refine tup3 (as_a (as_f (as_i (keepR O7 rfl rfl M7 fun g8 h8 x8 A8 => br_t rfl (br_t syb (br_t rfl (br_t syj (br_t rfl (br_t syr (br_t rfl (br_t rfl ⟨?_, X.trans (X4.trans (x6.trans x8))⟩)))))))))))
  rw [pull_heard hxb nb] at hw
  rw [ord_eq hw hy]
  exact congrArg Value.bool (plain_same u1 u2)
theorem FnSilentStays_c (C : Cells h cb (iv .u8 code)) (Cm : Cells h mb (iv .u8 more)) (hbc : Byt' code) (hbm : Byt' more) :
    CALL prg f_laws_FnSilentStays #[.slice cb code.length cc, .slice mb more.length mc] (fun u h' => u = .bool true ∧ Ext h h') h := by
  have G : Reads h cb mb code more := ⟨C, Cm, hbc, hbm⟩
  have hm : (4097 : Nat) ≤ maxLen := by decide
  refine laws_FnSilentStays.call (goX f6big_c fun h1 x1 => as_b (br (fun _ => ⟨rfl, x1⟩) fun _ => goX f6big_c fun h2 x2 => as_b (br (fun _ => ⟨rfl, x1.trans x2⟩) fun _ => ?_)))
  unfold laws_FnSilentStays.J3
  have X := x1.trans x2
  have G := G.ext X
  refine (P6Bow_c (Mem.start h2) G.c G.bc).mono ?_
  rintro _ h3 ⟨c3, B3, xb, rfl, O3, hxb, M3⟩
  refine as_a ((spec_MuteBow_c (rBow.look O3 M3 (List.sublist_append_left _ _)) hxb).mono ?_)
  rintro _ h4 ⟨c4, B4, rfl, O4, M4⟩
  refine tup2 (as_a (as_i (keepR O4 rfl rfl M4 fun g16 h5 x5 A => ?_)))
  have X := X.trans (M3.ext.trans x5)
  have G := G.ext (M3.ext.trans x5)
  refine (P6Jet_c (Mem.start h5) G.c G.bc).mono ?_
  rintro _ h6 ⟨c6, B6, xj, rfl, O6, hxj, M6⟩
  refine as_a ((spec_MuteJet_c (rJet.look O6 M6 (List.sublist_append_left _ _)) hxj).mono ?_)
  rintro _ h7 ⟨c7, B7, rfl, O7, M7⟩
  refine tup2 (as_a (as_i (keepR O7 rfl rfl M7 fun g28 h8 x8 J => ?_)))
  have X := X.trans (M6.ext.trans x8)
  have G := G.ext (M6.ext.trans x8)
  have A := A.ext (M6.ext.trans x8)
  refine (P6Room_c (Mem.start h8) G.c G.bc).mono ?_
  rintro _ h9 ⟨c9, B9, xr, rfl, O9, hxr, M9⟩
  have R9 := rRoom.look O9 M9 (List.sublist_append_left _ _)
  obtain ⟨r1, r2, r3, r4⟩ := room_all R9
  obtain ⟨hmr, nr⟩ := room_mute_ok hxr r1 r2 r3 r4
  have em : xr.muted = (xr.mute, 0) := by unfold GRoom.muted; rw [hxr]; rfl
  have cm := spec_MuteRoom_c R9
  rw [em] at cm
  refine as_a (cm.mono ?_)
  rintro _ h10 ⟨c10, B10, rfl, O10, M10⟩
  refine tup2 (as_a (as_i (keepR O10 rfl rfl M10 fun g40 h11 x11 R => ?_)))
  have X := X.trans (M9.ext.trans x11)
  have G := G.ext (M9.ext.trans x11)
  have A := A.ext (M9.ext.trans x11)
  have J := J.ext (M9.ext.trans x11)
  obtain ⟨hmb, nb⟩ := bow_mute_ok hxb
  obtain ⟨hmj, nj⟩ := jet_mute_ok hxj
  refine (P6Pick_c (Mem.start h11) G.m G.bm).mono ?_
  rintro _ h12 ⟨v, rfl, v1, v2, v3, M12⟩
  have hv : v < 40 := by omega
  obtain ⟨n, rfl⟩ := Int.eq_ofNat_of_zero_le v1
  have hn : n < 40 := by omega
  have z0 : (rF .f32).ow [] [.float .f32 0] 0 := ⟨rfl, 0, rfl, fw0⟩
  refine as_i (make_sl (n := n) z0 rfl rfl (by decide) (Mem.start h12) (by show 4 * n ≤ 2 ^ 48; omega) (by omega) fun g46 h13 x13 N OZ => ?_)
  have X13 := M12.ext.trans N.ext
  have X := X.trans X13
  have G := G.ext X13
  have A := A.ext X13
  have J := J.ext X13
  have R := R.ext X13
  have Z := OZ.look N (List.sublist_append_left _ _)
  rw [Int.toNat_natCast]
  have hz : (List.replicate n 0).length ≤ 4096 := by rw [List.length_replicate]; omega
  refine A.lda1 rfl fun ca Ra => (impl_PlayBow_c Ra Z hmb hz).mono ?_
  rintro _ h14 ⟨c14, B14, b1, l1, k1, C14, rfl, O14, S14, M14⟩
  refine tup3 (as_a (as_l (as_i (keepS O14 S14 rfl rfl M14 fun g57 h15 x15 A15 S15 => ?_))))
  have X := X.trans x15
  have G := G.ext x15
  have A := A.ext x15
  have J := J.ext x15
  have R := R.ext x15
  have Z := Z.ext x15
  refine J.lda1 rfl fun cj Rj => (impl_PlayJet_c Rj Z hmj hz).mono ?_
  rintro _ h16 ⟨c16, B16, b2, l2, k2, C16, rfl, O16, S16, M16⟩
  refine tup3 (as_a (as_l (as_i (keepS O16 S16 rfl rfl M16 fun g69 h17 x17 J17 S17 => ?_))))
  have X := X.trans x17
  have G := G.ext x17
  have A := A.ext x17
  have R := R.ext x17
  have Z := Z.ext x17
  have A15 := A15.ext x17
  have S15 := S15.ext x17
  refine R.lda1 rfl fun cr Rr => ?_
  have pr := impl_PlayRoom_c Rr Z
  have e : xr.mute.played (List.replicate n 0) = ((xr.mute.play (List.replicate n 0)).1, (xr.mute.play (List.replicate n 0)).2, 0) := played0 hmr hz
  rw [e] at pr
  have Rn := room_runs Rr hmr
  refine pr.mono ?_
  rintro _ h18 ⟨c18, B18, b3, l3, k3, C18, rfl, O18, S18, M18⟩
  refine tup3 (as_a (as_l (as_i (keepS O18 S18 rfl rfl M18 fun g81 h19 x19 R19 S19 => ?_))))
  have X := X.trans x19
  have G := G.ext x19
  have A := A.ext x19
  have A15 := A15.ext x19
  have S15 := S15.ext x19
  have J17 := J17.ext x19
  have S17 := S17.ext x19
  have q1 : l1 = n := by rw [← S15.len, playG_len, List.length_replicate]
  have q2 : l2 = n := by rw [← S17.len, playG_len, List.length_replicate]
  have q3 : l3 = n := by rw [← S19.len, play_len, List.length_replicate]
  refine br_f rfl (br_f rfl (br_f rfl (br_f rfl (br_f rfl (br_f rfl (br_f (by rw [q1]; simp) (br_f (by rw [q2]; simp) (br_f (by rw [q3]; simp) ?_))))))))
  obtain ⟨u1, u2⟩ := bow_nil_play nb n
  obtain ⟨w1, w2⟩ := jet_nil_play nj n
  obtain ⟨y1, y2⟩ := room_nil_play nr n
  exact fs13 X G A A15 J17 R19 S15 S17 S19 q1 q2 q3 hn u2 w2 y2 hmb nb (playB_ok hmb _) (bow_nil_silent u1) (playJ_ok hmj _) (jet_nil_silent w1) (playR_ok hmr Rn _) (room_nil_zero y1)
end
end Go.Sx
