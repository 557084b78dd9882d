/- What functions of this seat's program compute, told in words (a predicate over heaps for each), and the proofs that the words are no more than the code's own weakest precondition. -/
import Derived.Test.YtkgmfiloghhibaaGreatDoorTab
import Derived.Test.YtkgmfiloghhibaaGreatDoorLk8
namespace Go.Sx
open Go.Proofs
set_option linter.unusedVariables false
set_option maxRecDepth 100000

def spec_MuteRoom.B10 (Post : Value → Heap → Prop) (N10 : (Addr × Addr × Addr × Int) → Heap → Prop) : Addr × Addr × Addr × Int → Heap → Prop
  | (x_1, t2, y_4, i_6), h =>
    BIF ((decide (i_6 < (4 : Int)))) (
    IDX i_6 4 <|
    CALL prg f_spec_l05Muted #[.pointer (some ((Addr.add (Addr.add x_1 9) ((Int.toNat i_6) * 2))))] (fun q24 h25 =>
    asA q24 fun a26 =>
    IDX i_6 4 <|
    STA 2 h25 ((Addr.add (Addr.add y_4 9) ((Int.toNat i_6) * 2))) a26 fun h27 =>
    IDX i_6 4 <|
    STA 2 h27 ((Addr.add ((Addr.add (Addr.add y_4 17) ((Int.toNat i_6) * 6))) 4)) (⟨[.float .f32 0, .float .f32 0]⟩ : Array Value) fun h28 =>
    N10 (x_1, t2, y_4, ((IntKind.i64.wrap (i_6 + (1 : Int))))) h28) h) (
    LDA 47 h y_4 fun a29 =>
    STA 47 h t2 a29 fun h30 =>
    LDA 47 h30 t2 fun a31 =>
    Post (.tuple ⟨[.agg a31, .int .i64 (0 : Int)]⟩) h30)
def spec_MuteRoom.g10 (fr : Frame) : Addr × Addr × Addr × Int := ((gP (lget fr 1)), (gP (lget fr 2)), (gP (lget fr 4)), (gI (lget fr 6)))
def spec_MuteRoom.l10 (Post : Value → Heap → Prop) : Frame → Heap → Prop := fun fr h => GRD (shape (kds 44 [(1, .p), (2, .p), (4, .p), (6, .i .i64)]) fr) (LOOP (spec_MuteRoom.B10 Post) (spec_MuteRoom.g10 fr) h)
def spec_MuteRoom.B6 (Post : Value → Heap → Prop) (N6 : (Addr × Addr × Addr × Int) → Heap → Prop) : Addr × Addr × Addr × Int → Heap → Prop
  | (x_1, t2, y_4, i_5), h =>
    BIF ((decide (i_5 < (2 : Int)))) (
    IDX i_5 2 <|
    CALL prg f_spec_l05Muted #[.pointer (some ((Addr.add (Addr.add x_1 3) ((Int.toNat i_5) * 3))))] (fun q20 h21 =>
    asA q20 fun a22 =>
    IDX i_5 2 <|
    STA 2 h21 ((Addr.add (Addr.add y_4 3) ((Int.toNat i_5) * 3))) a22 fun h23 =>
    N6 (x_1, t2, y_4, ((IntKind.i64.wrap (i_5 + (1 : Int))))) h23) h) (
    LOOP (spec_MuteRoom.B10 Post) (x_1, t2, y_4, (0 : Int)) h)
def spec_MuteRoom.g6 (fr : Frame) : Addr × Addr × Addr × Int := ((gP (lget fr 1)), (gP (lget fr 2)), (gP (lget fr 4)), (gI (lget fr 5)))
def spec_MuteRoom.l6 (Post : Value → Heap → Prop) : Frame → Heap → Prop := fun fr h => GRD (shape (kds 44 [(1, .p), (2, .p), (4, .p), (5, .i .i64)]) fr) (LOOP (spec_MuteRoom.B6 Post) (spec_MuteRoom.g6 fr) h)
def spec_MuteRoom.S (x_0 : Array Value) (Post : Value → Heap → Prop) (h : Heap) : Prop :=
    ALC x_0 T_impl_Room (fun g1 h2 =>
    ALC ⟨Z_impl_Room⟩ T_impl_Room (fun g3 h4 =>
    CALL prg f_spec_l06Ok #[.pointer (some ⟨g1, 0, none⟩)] (fun q5 h6 =>
    asB q5 fun b7 =>
    BIF (!b7) (
    STA 47 h6 ⟨g3, 0, none⟩ (⟨[.slice none 0 0, .int .i64 (0 : Int), .slice none 0 0, .slice none 0 0, .int .i64 (0 : Int), .float .f32 0, .slice none 0 0, .int .i64 (0 : Int), .float .f32 0, .slice none 0 0, .int .i64 (0 : Int), .slice none 0 0, .int .i64 (0 : Int), .slice none 0 0, .int .i64 (0 : Int), .slice none 0 0, .int .i64 (0 : Int), .int .i64 (0 : Int), .float .f32 0, .float .f32 0, .float .f32 0, .float .f32 0, .float .f32 0, .int .i64 (0 : Int), .float .f32 0, .float .f32 0, .float .f32 0, .float .f32 0, .float .f32 0, .int .i64 (0 : Int), .float .f32 0, .float .f32 0, .float .f32 0, .float .f32 0, .float .f32 0, .int .i64 (0 : Int), .float .f32 0, .float .f32 0, .float .f32 0, .float .f32 0, .float .f32 0, .float .f32 0, .float .f32 0, .float .f32 0, .float .f32 0, .float .f32 0, .float .f32 0]⟩ : Array Value) fun h8 =>
    LDA 47 h8 ⟨g3, 0, none⟩ fun a9 =>
    Post (.tuple ⟨[.agg a9, .int .i64 (1 : Int)]⟩) h8) (
    CALL prg f_spec_l06Copy #[.pointer (some ⟨g1, 0, none⟩)] (fun q10 h11 =>
    asA q10 fun a12 =>
    ALC ⟨Z_impl_Room⟩ T_impl_Room (fun g13 h14 =>
    STA 47 h14 ⟨g13, 0, none⟩ a12 fun h15 =>
    CALL prg f_spec_l05Muted #[.pointer (some ⟨g1, 0, none⟩)] (fun q16 h17 =>
    asA q16 fun a18 =>
    STA 2 h17 ⟨g13, 0, none⟩ a18 fun h19 =>
    LOOP (spec_MuteRoom.B6 Post) (⟨g1, 0, none⟩, ⟨g3, 0, none⟩, ⟨g13, 0, none⟩, (0 : Int)) h19) h15) h11) h6)) h4) h2) h
noncomputable def spec_MuteRoom.code : Code := (Tryz.f30.body).getD .skip
theorem spec_MuteRoom.call {x_0 : Array Value} {Post : Value → Heap → Prop} {h : Heap} (H : spec_MuteRoom.S x_0 Post h) : CALL prg f_spec_MuteRoom #[.agg x_0] Post h :=
  fn_call tau_ok mixed (c := spec_MuteRoom.code) (Λ := lookL [(1000006, spec_MuteRoom.l6 Post), (1000010, spec_MuteRoom.l10 Post)]) Tryz.func30 (by kernel_rfl) (by kernel_rfl)
    (Rq.seq (by kernel_rfl) (Rq.free (by kernel_rfl)) (Rq.seq (by kernel_rfl) (Rq.free (by kernel_rfl)) (Rq.seq (by kernel_rfl) (Rq.free (by kernel_rfl)) (Rq.seq (by kernel_rfl) (Rq.free (by kernel_rfl)) (Rq.seq (by kernel_rfl) (Rq.seq (by kernel_rfl) (Rq.free (by kernel_rfl)) (Rq.block (Rq.loop (spec_MuteRoom.l6 Post) (by kernel_rfl) (segL (g := spec_MuteRoom.g6) tau_ok mixed (Λ := fun N6 => lookL []) (fun _ _ _ => by kernel_rfl) (fun N6 => (Rq.free (by kernel_rfl))))))) (Rq.seq (by kernel_rfl) (Rq.seq (by kernel_rfl) (Rq.free (by kernel_rfl)) (Rq.block (Rq.loop (spec_MuteRoom.l10 Post) (by kernel_rfl) (segL (g := spec_MuteRoom.g10) tau_ok mixed (Λ := fun N10 => lookL []) (fun _ _ _ => by kernel_rfl) (fun N10 => (Rq.free (by kernel_rfl))))))) (Rq.free (by kernel_rfl))))))))
    (Eq.mp (by kernel_rfl) H)

def impl_MuteRoom.B10 (Post : Value → Heap → Prop) (N10 : (Addr × Addr × Int) → Heap → Prop) : Addr × Addr × Int → Heap → Prop
  | (x_1, t2, t22), h =>
    BIF ((decide (t22 < (4 : Int)))) (
    IDX t22 4 <|
    STA 2 h ((Addr.add ((Addr.add (Addr.add x_1 17) ((Int.toNat t22) * 6))) 4)) (⟨[.float .f32 0, .float .f32 0]⟩ : Array Value) fun h25 =>
    N10 (x_1, t2, ((IntKind.i64.wrap (t22 + (1 : Int))))) h25) (
    LDA 47 h x_1 fun a26 =>
    STA 47 h t2 a26 fun h27 =>
    LDA 47 h27 t2 fun a28 =>
    Post (.tuple ⟨[.agg a28, .int .i64 (0 : Int)]⟩) h27)
def impl_MuteRoom.g10 (fr : Frame) : Addr × Addr × Int := ((gP (lget fr 1)), (gP (lget fr 2)), (gI (lget fr 22)))
def impl_MuteRoom.l10 (Post : Value → Heap → Prop) : Frame → Heap → Prop := fun fr h => GRD (shape (kds 32 [(1, .p), (2, .p), (22, .i .i64)]) fr) (LOOP (impl_MuteRoom.B10 Post) (impl_MuteRoom.g10 fr) h)
def impl_MuteRoom.B5 (Post : Value → Heap → Prop) (N5 : (Addr × Addr × Option Addr × Nat × Nat × Int × Int) → Heap → Prop) : Addr × Addr × Option Addr × Nat × Nat × Int × Int → Heap → Prop
  | (x_1, t2, t13b, t13l, t13c, t14, t15), h =>
    BIF (decide (t15 < t14)) (
    IDXS t13b t15 t13l fun p21 =>
    oP (cell h ((Addr.add p21 ((Int.toNat t15) * 1)))) fun p22 =>
    CALL prg f_p_impl_Ring_mute #[.pointer (some p22)] (fun q23 h24 =>
    N5 (x_1, t2, t13b, t13l, t13c, t14, ((IntKind.i64.wrap (t15 + (1 : Int))))) h24) h) (
    LOOP (impl_MuteRoom.B10 Post) (x_1, t2, (0 : Int)) h)
def impl_MuteRoom.g5 (fr : Frame) : Addr × Addr × Option Addr × Nat × Nat × Int × Int := ((gP (lget fr 1)), (gP (lget fr 2)), (gLb (lget fr 13)), (gLl (lget fr 13)), (gLc (lget fr 13)), (gI (lget fr 14)), (gI (lget fr 15)))
def impl_MuteRoom.l5 (Post : Value → Heap → Prop) : Frame → Heap → Prop := fun fr h => GRD (shape (kds 32 [(1, .p), (2, .p), (13, .l), (14, .i .i64), (15, .i .i64)]) fr) (LOOP (impl_MuteRoom.B5 Post) (impl_MuteRoom.g5 fr) h)
def impl_MuteRoom.S (x_0 : Array Value) (Post : Value → Heap → Prop) (h : Heap) : Prop :=
    ALC x_0 T_impl_Room (fun g1 h2 =>
    ALC ⟨Z_impl_Room⟩ T_impl_Room (fun g3 h4 =>
    LDA 47 h4 ⟨g1, 0, none⟩ fun a5 =>
    CALL prg f_impl_ValidRoom #[.agg a5] (fun q6 h7 =>
    asB q6 fun b8 =>
    BIF (!b8) (
    STA 47 h7 ⟨g3, 0, none⟩ (⟨[.slice none 0 0, .int .i64 (0 : Int), .slice none 0 0, .slice none 0 0, .int .i64 (0 : Int), .float .f32 0, .slice none 0 0, .int .i64 (0 : Int), .float .f32 0, .slice none 0 0, .int .i64 (0 : Int), .slice none 0 0, .int .i64 (0 : Int), .slice none 0 0, .int .i64 (0 : Int), .slice none 0 0, .int .i64 (0 : Int), .int .i64 (0 : Int), .float .f32 0, .float .f32 0, .float .f32 0, .float .f32 0, .float .f32 0, .int .i64 (0 : Int), .float .f32 0, .float .f32 0, .float .f32 0, .float .f32 0, .float .f32 0, .int .i64 (0 : Int), .float .f32 0, .float .f32 0, .float .f32 0, .float .f32 0, .float .f32 0, .int .i64 (0 : Int), .float .f32 0, .float .f32 0, .float .f32 0, .float .f32 0, .float .f32 0, .float .f32 0, .float .f32 0, .float .f32 0, .float .f32 0, .float .f32 0, .float .f32 0]⟩ : Array Value) fun h9 =>
    LDA 47 h9 ⟨g3, 0, none⟩ fun a10 =>
    Post (.tuple ⟨[.agg a10, .int .i64 (1 : Int)]⟩) h9) (
    LDA 47 h7 ⟨g1, 0, none⟩ fun a11 =>
    CALL prg f_impl_Room_clone #[.agg a11] (fun q12 h13 =>
    asA q12 fun a14 =>
    STA 47 h13 ⟨g1, 0, none⟩ a14 fun h15 =>
    CALL prg f_p_impl_Room_rings #[.pointer (some ⟨g1, 0, none⟩)] (fun q16 h17 =>
    asL q16 fun l18b l18l l18c =>
    LOOP (impl_MuteRoom.B5 Post) (⟨g1, 0, none⟩, ⟨g3, 0, none⟩, l18b, l18l, l18c, (l18l : Int), (0 : Int)) h17) h15) h7)) h4) h2) h
noncomputable def impl_MuteRoom.code : Code := (Tryz.f29.body).getD .skip
theorem impl_MuteRoom.call {x_0 : Array Value} {Post : Value → Heap → Prop} {h : Heap} (H : impl_MuteRoom.S x_0 Post h) : CALL prg f_impl_MuteRoom #[.agg x_0] Post h :=
  fn_call tau_ok mixed (c := impl_MuteRoom.code) (Λ := lookL [(1000005, impl_MuteRoom.l5 Post), (1000010, impl_MuteRoom.l10 Post)]) Tryz.func29 (by kernel_rfl) (by kernel_rfl)
    (Rq.seq (by kernel_rfl) (Rq.free (by kernel_rfl)) (Rq.seq (by kernel_rfl) (Rq.free (by kernel_rfl)) (Rq.seq (by kernel_rfl) (Rq.free (by kernel_rfl)) (Rq.seq (by kernel_rfl) (Rq.seq (by kernel_rfl) (Rq.free (by kernel_rfl)) (Rq.block (Rq.loop (impl_MuteRoom.l5 Post) (by kernel_rfl) (segL (g := impl_MuteRoom.g5) tau_ok mixed (Λ := fun N5 => lookL []) (fun _ _ _ => by kernel_rfl) (fun N5 => (Rq.free (by kernel_rfl))))))) (Rq.seq (by kernel_rfl) (Rq.seq (by kernel_rfl) (Rq.free (by kernel_rfl)) (Rq.block (Rq.loop (impl_MuteRoom.l10 Post) (by kernel_rfl) (segL (g := impl_MuteRoom.g10) tau_ok mixed (Λ := fun N10 => lookL []) (fun _ _ _ => by kernel_rfl) (fun N10 => (Rq.free (by kernel_rfl))))))) (Rq.free (by kernel_rfl)))))))
    (Eq.mp (by kernel_rfl) H)

end Go.Sx
/- Rooms muted, as the program does it. -/
set_option linter.unusedVariables false
set_option linter.unusedSimpArgs false
namespace Go.Sx
open Go.Proofs
set_option maxRecDepth 100000

def GRoom.muted (x : GRoom) : GRoom × Int := if x.ok then (x.mute, 0) else (z_Room, 1)
section
variable {h : Heap} {q : Addr}
theorem Ring_mute_c {h0 : Heap} {F : Fr} {L : List Blk} {r : GRing} (P : Pt rRing h0 h q F L r) (hl : r.Samples.length ≤ 1048576) : CALL prg f_p_impl_Ring_mute #[.pointer (some q)] (fun u h' => u = .tuple ⟨[]⟩ ∧ Pt rRing h0 h' q F L r.mute) h := by
  refine p_impl_Ring_mute.call (P.rd.oL1 fun b l c S => ?_)
  have hls := S.len
  refine make_floats (Mem.start h) (by omega) fun g2 h2 x2 M O => ?_
  refine (P.join M).stL O fun h3 P3 => ⟨rfl, ?_⟩
  unfold GRing.mute
  rw [hls]
  exact P3
end
section
variable {h : Heap}
theorem foc_damp (i : Nat) (hi : i < 4) : Foc rRoom rFilter (17 + i * 6) (fun a => a.Damps[i]!) (fun a b => { a with Damps := a.Damps.set i b }) := (foc_Room_Damps.trans (Foc.arr rFilter i hi)).at rfl
theorem foc_dampS (i : Nat) (hi : i < 4) : Foc rRoom (rArr 2 (rF .f32)) (17 + i * 6 + 4) (fun a => a.Damps[i]!.S) (fun a b => { a with Damps := a.Damps.set i { a.Damps[i]! with S := b } }) := ((foc_damp i hi).trans foc_Filter_S).at rfl
def CR (c : GComb) : GComb := { c with Ring := c.Ring.mute }
theorem spec_MuteRoom_c {cs : Array Value} {x : GRoom} (R0 : rRoom.rd h cs.toList x) : CALL prg f_spec_MuteRoom #[.agg cs] (fun u h' => PairR rRoom h h' u x.muted.1 x.muted.2) h := by
  refine spec_MuteRoom.call ((Mem.start h).alc fun g1 h1 x1 M => M.alc fun g3 h2 x2 M => ?_)
  have R : RdP rRoom h2 ⟨g1, 0, none⟩ x := M.rdp (.there .here) (rRoom.ext M.ext R0)
  refine goM M (l06Ok_c R) fun h3 M => as_b (br (fun hb => ?_) fun hb => ?_)
  · have e : x.muted = (z_Room, 1) := by unfold GRoom.muted; rw [nt hb]; rfl
    rw [e]
    exact M.sta0 .here rfl (all_one rfl) rfl .here fun h3 M => M.lda0 .here rfl ⟨_, [], rfl, zow_Room, M.drop.drop⟩
  have hok := nf hb
  have e : x.muted = (x.mute, 0) := by unfold GRoom.muted; rw [hok]; rfl
  rw [e]
  have hs := ok_small hok
  have R : RdP rRoom h3 ⟨g1, 0, none⟩ x := M.rdp (.there .here) (rRoom.ext M.ext R0)
  have hC := combs2 R
  have hL : x.Loops.length = 4 := (R.foc foc_Room_Loops).len
  have hD : x.Damps.length = 4 := (R.foc foc_Room_Damps).len
  refine NewR.go M (l06Copy_c R hs) fun h4 c4 B4 M O4 s4 => as_a (M.alc fun g13 h5 x5 M => ?_)
  refine M.sta0 .here s4 (rRoom.oone O4) rfl .here fun h6 M => ?_
  have X6 := M.ext
  have P : Pt rRoom h h6 ⟨g13, 0, none⟩ ⟨g13, T_impl_Room, [], []⟩ [(g3, T_impl_Room, ⟨Z_impl_Room⟩), (g1, T_impl_Room, cs)] x := Pt.new O4 M
  have R : RdP rRoom h6 ⟨g1, 0, none⟩ x := P.mem.rdp (.there .here) (rRoom.ext P.ext R0)
  refine NewR.pt P (l05Muted_c (R.fst foc_Room_Early) hs.1) fun h7 c7 B7 P O7 s7 => as_a (P.sts0 foc_Room_Early rfl O7 fun h8 P => ?_)
  refine loop (fun y hh => ∃ n : Nat, y = (⟨g1, 0, none⟩, ⟨g3, 0, none⟩, ⟨g13, 0, none⟩, (n : Int)) ∧ n ≤ 2 ∧ Pt rRoom h hh ⟨g13, 0, none⟩ ⟨g13, T_impl_Room, [], []⟩ [(g3, T_impl_Room, ⟨Z_impl_Room⟩), (g1, T_impl_Room, cs)] { x with Early := x.Early.mute, Combs := mapN CR x.Combs n })
    (fun y => (2 - y.2.2.2).toNat) ⟨0, rfl, by omega, by rw [mapN_zero]; exact P⟩ ?_
  rintro y hh ⟨n, rfl, hn, P⟩
  have R : RdP rRoom hh ⟨g1, 0, none⟩ x := P.mem.rdp (.there .here) (rRoom.ext P.ext R0)
  refine brd (fun hc => ?_) fun hc => ?_
  · have Rc := ((R.foc foc_Room_Combs).elem (i := n) (by omega)).fst foc_Comb_Ring
    refine idx (by omega) (by omega) (NewR.pt P (l05Muted_c Rc (hs.2.2.1 _ (by rw [getElem!_pos _ n (by omega)]; exact List.getElem_mem _))) fun h' cs' B P O ho => as_a (idx (by omega) (by omega) ?_))
    rw [add_add', Int.toNat_natCast]
    refine P.sts (((foc_comb n (by omega)).trans foc_Comb_Ring).at (Nat.add_zero _)) rfl O fun h'' P => ⟨⟨n + 1, by rw [wrap64_succ (by omega)], by omega, ?_⟩, by rw [wrap64_succ (by omega)]; show _ < _; simp; omega⟩
    have e1 : (mapN CR x.Combs n).set n { (mapN CR x.Combs n)[n]! with Ring := (x.Combs[n]!).Ring.mute } = mapN CR x.Combs (n + 1) := by
      rw [mapN_get (by omega)]; exact mapN_step (by omega)
    rw [← e1]
    exact P
  obtain rfl : n = 2 := by omega
  rw [mapN_all (by omega)] at P
  refine loop (fun y hh => ∃ n : Nat, y = (⟨g1, 0, none⟩, ⟨g3, 0, none⟩, ⟨g13, 0, none⟩, (n : Int)) ∧ n ≤ 4 ∧ Pt rRoom h hh ⟨g13, 0, none⟩ ⟨g13, T_impl_Room, [], []⟩ [(g3, T_impl_Room, ⟨Z_impl_Room⟩), (g1, T_impl_Room, cs)] { x with Early := x.Early.mute, Combs := x.Combs.map CR, Loops := mapN GRing.mute x.Loops n, Damps := mapN GFilter.mute x.Damps n })
    (fun y => (4 - y.2.2.2).toNat) ⟨0, rfl, by omega, by rw [mapN_zero, mapN_zero]; exact P⟩ ?_
  rintro y hh ⟨n, rfl, hn, P⟩
  have R : RdP rRoom hh ⟨g1, 0, none⟩ x := P.mem.rdp (.there .here) (rRoom.ext P.ext R0)
  refine brd (fun hc => ?_) fun hc => ?_
  · have Rc := (R.foc foc_Room_Loops).elem (i := n) (by omega)
    refine idx (by omega) (by omega) (NewR.pt P (l05Muted_c Rc (hs.2.2.2 _ (by rw [getElem!_pos _ n (by omega)]; exact List.getElem_mem _))) fun h' cs' B P O ho => as_a (idx (by omega) (by omega) ?_))
    rw [add_add', Int.toNat_natCast]
    refine P.sts (foc_loop n (by omega)) rfl O fun h'' P => idx (by omega) (by omega) ?_
    rw [add_add', add_add']
    refine P.stF2 (foc_dampS n (by omega)) fw0 fw0 fun h3 P => ⟨⟨n + 1, by rw [wrap64_succ (by omega)], by omega, ?_⟩, by rw [wrap64_succ (by omega)]; show _ < _; simp; omega⟩
    have e1 : (mapN GRing.mute x.Loops n).set n (x.Loops[n]!).mute = mapN GRing.mute x.Loops (n + 1) := mapN_step (by omega)
    have e2 : (mapN GFilter.mute x.Damps n).set n { (mapN GFilter.mute x.Damps n)[n]! with S := [0, 0] } = mapN GFilter.mute x.Damps (n + 1) := by
      rw [mapN_get (by omega)]; exact mapN_step (by omega)
    rw [← e1, ← e2]
    exact P
  obtain rfl : n = 4 := by omega
  rw [mapN_all (by omega), mapN_all (by omega)] at P
  obtain ⟨cs, B, M, O⟩ := P.out
  refine M.lda0 .here (osz O rfl) ?_
  have M := M.cnt (W := (g3, T_impl_Room, ⟨Z_impl_Room⟩) :: B) (fun p => by simp only [cnt_app, cnt_cons, cnt_nil] at *; omega)
  refine M.sta0 .here (osz O rfl) (rRoom.oone O) rfl .here fun h3 M => M.lda0 .here (osz O rfl) ?_
  exact ⟨_, B, rfl, O, M.drop⟩
theorem impl_MuteRoom_c {cs : Array Value} {x : GRoom} (R0 : rRoom.rd h cs.toList x) : CALL prg f_impl_MuteRoom #[.agg cs] (fun u h' => PairR rRoom h h' u x.muted.1 x.muted.2) h := by
  refine impl_MuteRoom.call ((Mem.start h).alc fun g1 h1 x1 M => M.alc fun g3 h2 x2 M => M.lda0 (.there .here) (rsz R0 rfl) ?_)
  refine goM M (ValidRoom_c (rRoom.ext M.ext R0)) fun h3 M => as_b (br (fun hb => ?_) fun hb => ?_)
  · have e : x.muted = (z_Room, 1) := by unfold GRoom.muted; rw [nt hb]; rfl
    rw [e]
    exact M.sta0 .here rfl (all_one rfl) rfl .here fun h3 M => M.lda0 .here rfl ⟨_, [], rfl, zow_Room, M.drop.drop⟩
  have hok := nf hb
  have e : x.muted = (x.mute, 0) := by unfold GRoom.muted; rw [hok]; rfl
  rw [e]
  have hs := ok_small hok
  have R : RdP rRoom h3 ⟨g1, 0, none⟩ x := M.rdp (.there .here) (rRoom.ext M.ext R0)
  have hC := combs2 R
  have hL : x.Loops.length = 4 := (R.foc foc_Room_Loops).len
  have hD : x.Damps.length = 4 := (R.foc foc_Room_Damps).len
  refine M.lda0 (.there .here) (rsz R0 rfl) (NewR.go M (Room_clone_c (rRoom.ext M.ext R0) hs) fun h4 c4 B4 M O4 s4 => as_a ?_)
  have M := M.cnt (W := (g1, T_impl_Room, cs) :: (B4 ++ [(g3, T_impl_Room, ⟨Z_impl_Room⟩)])) (fun p => by simp only [cnt_app, cnt_cons, cnt_nil] at *; omega)
  refine M.sta0 .here s4 (rRoom.oone O4) (rsz R0 rfl) .here fun h6 M => ?_
  have P : Pt rRoom h h6 ⟨g1, 0, none⟩ ⟨g1, T_impl_Room, [], []⟩ [(g3, T_impl_Room, ⟨Z_impl_Room⟩)] x := Pt.new O4 M
  refine (rings_c _ _).mono ?_
  rintro _ h7 ⟨bR, cR, BR, rfl, OR, N⟩
  refine as_l ?_
  have P := P.join N
  refine loop (fun y hh => ∃ n : Nat, y = (⟨g1, 0, none⟩, ⟨g3, 0, none⟩, bR, 7, cR, ((7 : Nat) : Int), (n : Int)) ∧ n ≤ 7 ∧ Pt rRoom h hh ⟨g1, 0, none⟩ ⟨g1, T_impl_Room, [], []⟩ (BR ++ [(g3, T_impl_Room, ⟨Z_impl_Room⟩)]) (muteN x n))
    (fun y => (7 - y.2.2.2.2.2.2).toNat) ⟨0, rfl, by omega, P⟩ ?_
  rintro y hh ⟨n, rfl, hn, P⟩
  refine brd (fun hc => ?_) fun hc => ?_
  · have SR := OR.look P.mem (List.sublist_append_left _ _)
    refine SR.idx (by decide) (by omega) (by omega) fun p Rp => Rp.oP1 ?_
    rw [Int.toNat_natCast, ringPs_get _ (by omega)]
    obtain ⟨F', L', P', hsL, close⟩ := P.foc (foc_ring n (by omega))
    refine (Ring_mute_c P' (by rw [muteN_get hC hL (by omega)]; exact small_get hs hC hL (by omega))).mono ?_
    rintro _ h' ⟨_, P'⟩
    exact ⟨⟨n + 1, by rw [wrap64_succ (by omega)], by omega, close _ _ _ P'⟩, by rw [wrap64_succ (by omega)]; show _ < _; simp; omega⟩
  obtain rfl : n = 7 := by omega
  rw [muteN_all hC hL] at P
  refine loop (fun y hh => ∃ n : Nat, y = (⟨g1, 0, none⟩, ⟨g3, 0, none⟩, (n : Int)) ∧ n ≤ 4 ∧ Pt rRoom h hh ⟨g1, 0, none⟩ ⟨g1, T_impl_Room, [], []⟩ (BR ++ [(g3, T_impl_Room, ⟨Z_impl_Room⟩)]) { x with Early := x.Early.mute, Combs := x.Combs.map (fun c => { c with Ring := c.Ring.mute }), Loops := x.Loops.map GRing.mute, Damps := mapN GFilter.mute x.Damps n })
    (fun y => (4 - y.2.2).toNat) ⟨0, rfl, by omega, by rw [mapN_zero]; exact P⟩ ?_
  rintro y hh ⟨n, rfl, hn, P⟩
  refine brd (fun hc => ?_) fun hc => ?_
  · refine idx (by omega) (by omega) ?_
    rw [add_add', add_add', Int.toNat_natCast]
    refine P.stF2 (foc_dampS n (by omega)) fw0 fw0 fun h3 P => ⟨⟨n + 1, by rw [wrap64_succ (by omega)], by omega, ?_⟩, by rw [wrap64_succ (by omega)]; show _ < _; simp; omega⟩
    have e2 : (mapN GFilter.mute x.Damps n).set n { (mapN GFilter.mute x.Damps n)[n]! with S := [0, 0] } = mapN GFilter.mute x.Damps (n + 1) := by
      rw [mapN_get (by omega)]; exact mapN_step (by omega)
    rw [← e2]
    exact P
  obtain rfl : n = 4 := by omega
  rw [mapN_all (by omega)] at P
  obtain ⟨cs, B, M, O⟩ := P.out
  refine M.lda0 .here (osz O rfl) ?_
  have M := M.cnt (W := (g3, T_impl_Room, ⟨Z_impl_Room⟩) :: B) (fun p => by simp only [cnt_app, cnt_cons, cnt_nil] at *; omega)
  refine M.sta0 .here (osz O rfl) (rRoom.oone O) rfl .here fun h3 M => M.lda0 .here (osz O rfl) ?_
  exact ⟨_, B, rfl, O, M.drop⟩
end
end Go.Sx
/- What functions of this seat's program compute, told in words (a predicate over heaps for each), and the proofs that the words are no more than the code's own weakest precondition. -/
namespace Go.Sx
open Go.Proofs
set_option linter.unusedVariables false
set_option maxRecDepth 100000

def spec_WithTaps.J9 (N7 : (Int × Option Addr × Nat × Nat × Addr × Addr × Bool × Int) → Heap → Prop) (Post : Value → Heap → Prop) (length_1 : Int) (taps_2b : Option Addr) (taps_2l : Nat) (taps_2c : Nat) (x_3 : Addr) (t6 : Addr) (i_9 : Int) (h : Heap) : Prop :=
    IDXS taps_2b i_9 taps_2l fun p61 =>
    oI .i64 (cell h ((Addr.add p61 ((Int.toNat i_9) * 2)))) fun n62 =>
    CALL prg f_spec_l00In #[.int .i64 n62, .int .i64 (1 : Int), .int .i64 length_1] (fun q63 h64 =>
    asB q63 fun b65 =>
    BIF b65 (
    IDXS taps_2b i_9 taps_2l fun p66 =>
    oF .f32 (cell h64 ((Addr.add ((Addr.add p66 ((Int.toNat i_9) * 2))) 1))) fun r67 =>
    CALL prg f_spec_l01Finite #[.float .f32 r67] (fun q68 h69 =>
    asB q68 fun b70 =>
    N7 (length_1, taps_2b, taps_2l, taps_2c, x_3, t6, b70, ((IntKind.i64.wrap (i_9 + (1 : Int))))) h69) h64) (
    N7 (length_1, taps_2b, taps_2l, taps_2c, x_3, t6, false, ((IntKind.i64.wrap (i_9 + (1 : Int))))) h64)) h
def spec_WithTaps.j9 (N7 : (Int × Option Addr × Nat × Nat × Addr × Addr × Bool × Int) → Heap → Prop) (Post : Value → Heap → Prop) : Frame → Heap → Prop := fun fr h => GRD (shape (kds 56 [(1, .i .i64), (2, .l), (3, .p), (6, .p), (9, .i .i64)]) fr) (spec_WithTaps.J9 N7 Post (gI (lget fr 1)) (gLb (lget fr 2)) (gLl (lget fr 2)) (gLc (lget fr 2)) (gP (lget fr 3)) (gP (lget fr 6)) (gI (lget fr 9)) h)
def spec_WithTaps.B7 (Post : Value → Heap → Prop) (N7 : (Int × Option Addr × Nat × Nat × Addr × Addr × Bool × Int) → Heap → Prop) : Int × Option Addr × Nat × Nat × Addr × Addr × Bool × Int → Heap → Prop
  | (length_1, taps_2b, taps_2l, taps_2c, x_3, t6, ok_8, i_9), h =>
    BIF ((decide (i_9 < (taps_2l : Int)))) (
    BIF ok_8 (
    spec_WithTaps.J9 N7 Post length_1 taps_2b taps_2l taps_2c x_3 t6 i_9 h) (
    BIF (!ok_8) (
    STA 47 h t6 (⟨[.slice none 0 0, .int .i64 (0 : Int), .slice none 0 0, .slice none 0 0, .int .i64 (0 : Int), .float .f32 0, .slice none 0 0, .int .i64 (0 : Int), .float .f32 0, .slice none 0 0, .int .i64 (0 : Int), .slice none 0 0, .int .i64 (0 : Int), .slice none 0 0, .int .i64 (0 : Int), .slice none 0 0, .int .i64 (0 : Int), .int .i64 (0 : Int), .float .f32 0, .float .f32 0, .float .f32 0, .float .f32 0, .float .f32 0, .int .i64 (0 : Int), .float .f32 0, .float .f32 0, .float .f32 0, .float .f32 0, .float .f32 0, .int .i64 (0 : Int), .float .f32 0, .float .f32 0, .float .f32 0, .float .f32 0, .float .f32 0, .int .i64 (0 : Int), .float .f32 0, .float .f32 0, .float .f32 0, .float .f32 0, .float .f32 0, .float .f32 0, .float .f32 0, .float .f32 0, .float .f32 0, .float .f32 0, .float .f32 0]⟩ : Array Value) fun h19 =>
    LDA 47 h19 t6 fun a20 =>
    Post (.tuple ⟨[.agg a20, .int .i64 (2 : Int)]⟩) h19) (
    CALL prg f_spec_l06Copy #[.pointer (some x_3)] (fun q21 h22 =>
    asA q21 fun a23 =>
    ALC ⟨Z_impl_Room⟩ T_impl_Room (fun g24 h25 =>
    STA 47 h25 ⟨g24, 0, none⟩ a23 fun h26 =>
    CALL prg f_spec_l06Silence #[.int .i64 length_1] (fun q27 h28 =>
    asA q27 fun a29 =>
    STA 2 h28 ⟨g24, 0, none⟩ a29 fun h30 =>
    ALC ⟨[]⟩ T_impl_Tap (fun g31 h32 =>
    SEMV prg (Builtin.append_ #[T_sl_impl_Tap, T_sl_impl_Tap] T_sl_impl_Tap #[.slice (some ⟨g31, 0, none⟩) 0 0, .slice taps_2b taps_2l taps_2c]) (fun q33 h34 =>
    asL q33 fun l35b l35l l35c =>
    ST1 h34 ⟨g24, 2, none⟩ (.slice l35b l35l l35c) fun h36 =>
    LDA 47 h36 ⟨g24, 0, none⟩ fun a37 =>
    STA 47 h36 t6 a37 fun h38 =>
    LDA 47 h38 t6 fun a39 =>
    Post (.tuple ⟨[.agg a39, .int .i64 (0 : Int)]⟩) h38) h32) h30) h26) h22) h))) (
    BIF (!ok_8) (
    STA 47 h t6 (⟨[.slice none 0 0, .int .i64 (0 : Int), .slice none 0 0, .slice none 0 0, .int .i64 (0 : Int), .float .f32 0, .slice none 0 0, .int .i64 (0 : Int), .float .f32 0, .slice none 0 0, .int .i64 (0 : Int), .slice none 0 0, .int .i64 (0 : Int), .slice none 0 0, .int .i64 (0 : Int), .slice none 0 0, .int .i64 (0 : Int), .int .i64 (0 : Int), .float .f32 0, .float .f32 0, .float .f32 0, .float .f32 0, .float .f32 0, .int .i64 (0 : Int), .float .f32 0, .float .f32 0, .float .f32 0, .float .f32 0, .float .f32 0, .int .i64 (0 : Int), .float .f32 0, .float .f32 0, .float .f32 0, .float .f32 0, .float .f32 0, .int .i64 (0 : Int), .float .f32 0, .float .f32 0, .float .f32 0, .float .f32 0, .float .f32 0, .float .f32 0, .float .f32 0, .float .f32 0, .float .f32 0, .float .f32 0, .float .f32 0]⟩ : Array Value) fun h40 =>
    LDA 47 h40 t6 fun a41 =>
    Post (.tuple ⟨[.agg a41, .int .i64 (2 : Int)]⟩) h40) (
    CALL prg f_spec_l06Copy #[.pointer (some x_3)] (fun q42 h43 =>
    asA q42 fun a44 =>
    ALC ⟨Z_impl_Room⟩ T_impl_Room (fun g45 h46 =>
    STA 47 h46 ⟨g45, 0, none⟩ a44 fun h47 =>
    CALL prg f_spec_l06Silence #[.int .i64 length_1] (fun q48 h49 =>
    asA q48 fun a50 =>
    STA 2 h49 ⟨g45, 0, none⟩ a50 fun h51 =>
    ALC ⟨[]⟩ T_impl_Tap (fun g52 h53 =>
    SEMV prg (Builtin.append_ #[T_sl_impl_Tap, T_sl_impl_Tap] T_sl_impl_Tap #[.slice (some ⟨g52, 0, none⟩) 0 0, .slice taps_2b taps_2l taps_2c]) (fun q54 h55 =>
    asL q54 fun l56b l56l l56c =>
    ST1 h55 ⟨g45, 2, none⟩ (.slice l56b l56l l56c) fun h57 =>
    LDA 47 h57 ⟨g45, 0, none⟩ fun a58 =>
    STA 47 h57 t6 a58 fun h59 =>
    LDA 47 h59 t6 fun a60 =>
    Post (.tuple ⟨[.agg a60, .int .i64 (0 : Int)]⟩) h59) h53) h51) h47) h43) h))
def spec_WithTaps.g7 (fr : Frame) : Int × Option Addr × Nat × Nat × Addr × Addr × Bool × Int := ((gI (lget fr 1)), (gLb (lget fr 2)), (gLl (lget fr 2)), (gLc (lget fr 2)), (gP (lget fr 3)), (gP (lget fr 6)), (gB (lget fr 8)), (gI (lget fr 9)))
def spec_WithTaps.l7 (Post : Value → Heap → Prop) : Frame → Heap → Prop := fun fr h => GRD (shape (kds 56 [(1, .i .i64), (2, .l), (3, .p), (6, .p), (8, .b), (9, .i .i64)]) fr) (LOOP (spec_WithTaps.B7 Post) (spec_WithTaps.g7 fr) h)
def spec_WithTaps.S (x_0 : Array Value) (length_1 : Int) (taps_2b : Option Addr) (taps_2l taps_2c : Nat) (Post : Value → Heap → Prop) (h : Heap) : Prop :=
    ALC x_0 T_impl_Room (fun g1 h2 =>
    ALC ⟨Z_impl_Room⟩ T_impl_Room (fun g3 h4 =>
    CALL prg f_spec_l06Ok #[.pointer (some ⟨g1, 0, none⟩)] (fun q5 h6 =>
    asB q5 fun b7 =>
    BIF (!b7) (
    STA 47 h6 ⟨g3, 0, none⟩ (⟨[.slice none 0 0, .int .i64 (0 : Int), .slice none 0 0, .slice none 0 0, .int .i64 (0 : Int), .float .f32 0, .slice none 0 0, .int .i64 (0 : Int), .float .f32 0, .slice none 0 0, .int .i64 (0 : Int), .slice none 0 0, .int .i64 (0 : Int), .slice none 0 0, .int .i64 (0 : Int), .slice none 0 0, .int .i64 (0 : Int), .int .i64 (0 : Int), .float .f32 0, .float .f32 0, .float .f32 0, .float .f32 0, .float .f32 0, .int .i64 (0 : Int), .float .f32 0, .float .f32 0, .float .f32 0, .float .f32 0, .float .f32 0, .int .i64 (0 : Int), .float .f32 0, .float .f32 0, .float .f32 0, .float .f32 0, .float .f32 0, .int .i64 (0 : Int), .float .f32 0, .float .f32 0, .float .f32 0, .float .f32 0, .float .f32 0, .float .f32 0, .float .f32 0, .float .f32 0, .float .f32 0, .float .f32 0, .float .f32 0]⟩ : Array Value) fun h8 =>
    LDA 47 h8 ⟨g3, 0, none⟩ fun a9 =>
    Post (.tuple ⟨[.agg a9, .int .i64 (1 : Int)]⟩) h8) (
    BIF ((decide ((6 : Int) < (taps_2l : Int)))) (
    STA 47 h6 ⟨g3, 0, none⟩ (⟨[.slice none 0 0, .int .i64 (0 : Int), .slice none 0 0, .slice none 0 0, .int .i64 (0 : Int), .float .f32 0, .slice none 0 0, .int .i64 (0 : Int), .float .f32 0, .slice none 0 0, .int .i64 (0 : Int), .slice none 0 0, .int .i64 (0 : Int), .slice none 0 0, .int .i64 (0 : Int), .slice none 0 0, .int .i64 (0 : Int), .int .i64 (0 : Int), .float .f32 0, .float .f32 0, .float .f32 0, .float .f32 0, .float .f32 0, .int .i64 (0 : Int), .float .f32 0, .float .f32 0, .float .f32 0, .float .f32 0, .float .f32 0, .int .i64 (0 : Int), .float .f32 0, .float .f32 0, .float .f32 0, .float .f32 0, .float .f32 0, .int .i64 (0 : Int), .float .f32 0, .float .f32 0, .float .f32 0, .float .f32 0, .float .f32 0, .float .f32 0, .float .f32 0, .float .f32 0, .float .f32 0, .float .f32 0, .float .f32 0]⟩ : Array Value) fun h12 =>
    LDA 47 h12 ⟨g3, 0, none⟩ fun a13 =>
    Post (.tuple ⟨[.agg a13, .int .i64 (3 : Int)]⟩) h12) (
    CALL prg f_spec_l00In #[.int .i64 length_1, .int .i64 (1 : Int), .int .i64 (1024 : Int)] (fun q14 h15 =>
    asB q14 fun b16 =>
    LOOP (spec_WithTaps.B7 Post) (length_1, taps_2b, taps_2l, taps_2c, ⟨g1, 0, none⟩, ⟨g3, 0, none⟩, b16, (0 : Int)) h15) h6))) h4) h2) h
noncomputable def spec_WithTaps.code : Code := (Tryz.f126.body).getD .skip
theorem spec_WithTaps.call {x_0 : Array Value} {length_1 : Int} {taps_2b : Option Addr} {taps_2l taps_2c : Nat} {Post : Value → Heap → Prop} {h : Heap} (H : spec_WithTaps.S x_0 length_1 taps_2b taps_2l taps_2c Post h) : CALL prg f_spec_WithTaps #[.agg x_0, .int .i64 length_1, .slice taps_2b taps_2l taps_2c] Post h :=
  fn_call tau_ok mixed (c := spec_WithTaps.code) (Λ := lookL [(1000007, spec_WithTaps.l7 Post)]) Tryz.func126 (by kernel_rfl) (by kernel_rfl)
    (Rq.seq (by kernel_rfl) (Rq.free (by kernel_rfl)) (Rq.seq (by kernel_rfl) (Rq.free (by kernel_rfl)) (Rq.seq (by kernel_rfl) (Rq.free (by kernel_rfl)) (Rq.seq (by kernel_rfl) (Rq.free (by kernel_rfl)) (Rq.seq (by kernel_rfl) (Rq.seq (by kernel_rfl) (Rq.free (by kernel_rfl)) (Rq.block (Rq.loop (spec_WithTaps.l7 Post) (by kernel_rfl) (segL (g := spec_WithTaps.g7) tau_ok mixed (Λ := fun N7 => lookL [(9, spec_WithTaps.j9 N7 Post)]) (fun _ _ _ => by kernel_rfl) (fun N7 => (Rq.seqJ (spec_WithTaps.j9 N7 Post) (by kernel_rfl) (seg (fun _ _ => by kernel_rfl)) (Rq.free (by kernel_rfl))
(Rq.free (by kernel_rfl)))))))) (Rq.free (by kernel_rfl)))))))
    (Eq.mp (by kernel_rfl) H)

end Go.Sx
/- Rooms given taps, as the program does it. -/
set_option linter.unusedVariables false
set_option linter.unusedSimpArgs false
namespace Go.Sx
open Go.Proofs
set_option maxRecDepth 100000

def GRoom.withTaps (x : GRoom) (n : Int) (ts : List GTap) : GRoom × Int :=
  if x.ok then if ts.length ≤ 6 then if inR n 1 1024 && ts.all (fun t => t.ok n) then ({ x with Early := silence n, Taps := ts }, 0) else (z_Room, 2) else (z_Room, 3) else (z_Room, 1)
section
variable {h : Heap} {x : GRoom} {n : Int} {ts : List GTap}
theorem withTaps1 (h1 : x.ok = false) : x.withTaps n ts = (z_Room, 1) := by unfold GRoom.withTaps; rw [h1]; rfl
theorem withTaps3 (h1 : x.ok = true) (h2 : 6 < ts.length) : x.withTaps n ts = (z_Room, 3) := by unfold GRoom.withTaps; rw [h1, if_pos rfl, if_neg (by omega)]
theorem withTaps2 (h1 : x.ok = true) (h2 : ts.length ≤ 6) (h3 : (inR n 1 1024 && ts.all (fun t => t.ok n)) = false) : x.withTaps n ts = (z_Room, 2) := by unfold GRoom.withTaps; rw [h1, if_pos rfl, if_pos h2, h3]; rfl
theorem withTaps0 (h1 : x.ok = true) (h2 : ts.length ≤ 6) (h3 : (inR n 1 1024 && ts.all (fun t => t.ok n)) = true) : x.withTaps n ts = ({ x with Early := silence n, Taps := ts }, 0) := by unfold GRoom.withTaps; rw [h1, if_pos rfl, if_pos h2, h3]; rfl
theorem all_take {p : GTap → Bool} {n : Nat} (hn : n < ts.length) : (ts.take (n + 1)).all p = ((ts.take n).all p && p ts[n]!) := by rw [take_snoc hn, List.all_append]; simp
theorem spec_WithTaps_c {cs : Array Value} {b : Option Addr} {l c : Nat} (R0 : rRoom.rd h cs.toList x) (S0 : SlR rTap h b l c ts) :
    CALL prg f_spec_WithTaps #[.agg cs, .int .i64 n, .slice b l c] (fun u h' => PairR rRoom h h' u (x.withTaps n ts).1 (x.withTaps n ts).2) h := by
  have hl := S0.len
  refine spec_WithTaps.call ((Mem.start h).alc fun g1 h1 x1 M => M.alc fun g3 h2 x2 M => ?_)
  have R : RdP rRoom h2 ⟨g1, 0, none⟩ x := M.rdp (.there .here) (rRoom.ext M.ext R0)
  have bad : ∀ {hh : Heap} {k : Int}, Mem h hh [(g3, T_impl_Room, ⟨Z_impl_Room⟩), (g1, T_impl_Room, cs)] → x.withTaps n ts = (z_Room, k) →
      STA 47 hh ⟨g3, 0, none⟩ ⟨Z_impl_Room⟩ fun h8 => LDA 47 h8 ⟨g3, 0, none⟩ fun a9 => PairR rRoom h h8 (.tuple ⟨[.agg a9, .int .i64 k]⟩) (x.withTaps n ts).1 (x.withTaps n ts).2 := fun M e => by
    rw [e]
    exact M.sta0 .here rfl (all_one rfl) rfl .here fun h3 M => M.lda0 .here rfl ⟨_, [], rfl, zow_Room, M.drop.drop⟩
  refine goM M (l06Ok_c R) fun h3 M => as_b (br (fun hb => bad M (withTaps1 (nt hb))) fun hb => ?_)
  have hok := nf hb
  have hs := ok_small hok
  refine brd (fun hc => bad M (withTaps3 hok (by omega))) fun hc => ?_
  have h6 : ts.length ≤ 6 := by omega
  refine goM M (l00In_c _ _ _ _) fun h4 M => as_b ?_
  refine loop (fun y hh => ∃ m : Nat, y = (n, b, l, c, ⟨g1, 0, none⟩, ⟨g3, 0, none⟩, inR n 1 1024 && (ts.take m).all (fun t => t.ok n), (m : Int)) ∧ m ≤ l ∧ Mem h hh [(g3, T_impl_Room, ⟨Z_impl_Room⟩), (g1, T_impl_Room, cs)]) (fun y => (l - y.2.2.2.2.2.2.2).toNat)
    ⟨0, by simp, by omega, M⟩ ?_
  rintro y hh ⟨m, rfl, hm, M⟩
  refine brd (fun hc => br (fun hok1 => ?_) fun hok1 => br (fun hb => bad M (withTaps2 hok h6 ?_)) fun hb => ?_) fun hc => br (fun hb => bad M (withTaps2 hok h6 ?_)) fun hb => ?_
  · have e : (inR n 1 1024 && (ts.take (m + 1)).all (fun t => t.ok n)) = ts[m]!.ok n := by
      rw [all_take (by omega), ← Bool.and_assoc, hok1, Bool.true_and]
    have S := S0.ext M.ext
    refine S.idx tap_sz (by omega) (by omega) fun p Rp => Rp.oI1 ?_
    refine goM M (l00In_c _ _ _ _) fun h5 M => as_b (br (fun hb => ?_) fun hb => ?_)
    · refine (S0.ext M.ext).idx tap_sz (by omega) (by omega) fun p Rp => Rp.oF fun z hz => ?_
      refine goM M (l01Finite_c hz _) fun h7 M => as_b ⟨⟨m + 1, ?_, by omega, M⟩, by rw [wrap64_succ (by omega)]; show _ < _; simp; omega⟩
      rw [wrap64_succ (by omega), e, GTap.ok]
      rw [Int.toNat_natCast] at hb ⊢
      rw [hb]; rfl
    · refine ⟨⟨m + 1, ?_, by omega, M⟩, by rw [wrap64_succ (by omega)]; show _ < _; simp; omega⟩
      rw [wrap64_succ (by omega), e, GTap.ok]
      rw [Int.toNat_natCast] at hb
      rw [hb]; rfl
  · have e : ts.all (fun t => t.ok n) = ((ts.take m).all (fun t => t.ok n) && (ts.drop m).all (fun t => t.ok n)) := by rw [← List.all_append, List.take_append_drop]
    rw [e, ← Bool.and_assoc, hok1, Bool.false_and]
  · exact absurd (nf hb) (by rw [hok1]; simp)
  · obtain rfl : m = l := by omega
    rw [← hl, List.take_length] at hb
    exact nt hb
  obtain rfl : m = l := by omega
  rw [← hl, List.take_length] at hb
  have hg := nf hb
  rw [withTaps0 hok h6 hg]
  rw [Bool.and_eq_true] at hg
  have R : RdP rRoom hh ⟨g1, 0, none⟩ x := M.rdp (.there .here) (rRoom.ext M.ext R0)
  refine NewR.go M (l06Copy_c R hs) fun h5 c5 B5 M O5 s5 => as_a (M.alc fun g h6 x6 M => M.sta0 .here s5 (rRoom.oone O5) rfl .here fun h7 M => ?_)
  have P : Pt rRoom h h7 ⟨g, 0, none⟩ ⟨g, T_impl_Room, [], []⟩ [(g3, T_impl_Room, ⟨Z_impl_Room⟩), (g1, T_impl_Room, cs)] x := Pt.new O5 M
  refine NewR.pt P (l06Silence_c n hg.1 _) fun h8 c8 B8 P O8 s8 => as_a (P.sts0 foc_Room_Early rfl O8 fun h9 P => ?_)
  refine (Mem.start h9).alc fun g2 h10 x10 N => append_copyM E_sl_impl_Tap tap_sz flat_Tap (S0.ext P.ext) N .here (by omega) fun b' c' h11 B' O' N => as_l ?_
  refine (P.join N).cnt (W := B' ++ [(g3, T_impl_Room, ⟨Z_impl_Room⟩)]) (fun p => by simp only [cnt_app, cnt_cons, cnt_nil] at *; omega) |>.stLg O' fun h12 P => ?_
  obtain ⟨cs, B, M, O⟩ := P.out
  refine M.lda0 .here (osz O rfl) ?_
  have M := M.cnt (W := (g3, T_impl_Room, ⟨Z_impl_Room⟩) :: B) (fun p => by simp only [cnt_app, cnt_cons, cnt_nil] at *; omega)
  refine M.sta0 .here (osz O rfl) (rRoom.oone O) rfl .here fun h3 M => M.lda0 .here (osz O rfl) ?_
  exact ⟨_, B, rfl, O, M.drop⟩
end
end Go.Sx
