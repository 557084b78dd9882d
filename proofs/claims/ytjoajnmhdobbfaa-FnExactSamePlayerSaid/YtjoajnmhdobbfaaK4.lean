/- What functions of this seat's program compute, told in words (a predicate over heaps for each), and the proofs that the words are no more than the code's own weakest precondition. -/
import Derived.Test.YtjoajnmhdobbfaaTab
namespace Go.Sx
open Go.Proofs
set_option linter.unusedVariables false
set_option maxRecDepth 100000

def spec_l02SameList.B4 (Post : Value → Heap → Prop) (N4 : (Option Addr × Nat × Nat × Option Addr × Nat × Nat × Int) → Heap → Prop) : Option Addr × Nat × Nat × Option Addr × Nat × Nat × Int → Heap → Prop
  | (a_0b, a_0l, a_0c, b_1b, b_1l, b_1c, i_5), h =>
    BIF ((decide (i_5 < (a_0l : Int)))) (
    IDXS a_0b i_5 a_0l fun p7 =>
    oF .f32 (cell h ((Addr.add p7 ((Int.toNat i_5) * 1)))) fun r8 =>
    IDXS b_1b i_5 b_1l fun p9 =>
    oF .f32 (cell h ((Addr.add p9 ((Int.toNat i_5) * 1)))) fun r10 =>
    CALL prg f_spec_l01Same #[.float .f32 r8, .float .f32 r10] (fun q11 h12 =>
    asB q11 fun b13 =>
    BIF (!b13) (
    Post (.bool false) h12) (
    N4 (a_0b, a_0l, a_0c, b_1b, b_1l, b_1c, ((IntKind.i64.wrap (i_5 + (1 : Int))))) h12)) h) (
    Post (.bool true) h)
def spec_l02SameList.g4 (fr : Frame) : Option Addr × Nat × Nat × Option Addr × Nat × Nat × Int := ((gLb (lget fr 0)), (gLl (lget fr 0)), (gLc (lget fr 0)), (gLb (lget fr 1)), (gLl (lget fr 1)), (gLc (lget fr 1)), (gI (lget fr 5)))
def spec_l02SameList.l4 (Post : Value → Heap → Prop) : Frame → Heap → Prop := fun fr h => GRD (shape (kds 27 [(0, .l), (1, .l), (5, .i .i64)]) fr) (LOOP (spec_l02SameList.B4 Post) (spec_l02SameList.g4 fr) h)
def spec_l02SameList.S (a_0b : Option Addr) (a_0l a_0c : Nat) (b_1b : Option Addr) (b_1l b_1c : Nat) (Post : Value → Heap → Prop) (h : Heap) : Prop :=
    BIF ((a_0l : Int) != (b_1l : Int)) (
    Post (.bool false) h) (
    LOOP (spec_l02SameList.B4 Post) (a_0b, a_0l, a_0c, b_1b, b_1l, b_1c, (0 : Int)) h)
noncomputable def spec_l02SameList.code : Code := (Try.f41.body).getD .skip
theorem spec_l02SameList.call {a_0b : Option Addr} {a_0l a_0c : Nat} {b_1b : Option Addr} {b_1l b_1c : Nat} {Post : Value → Heap → Prop} {h : Heap} (H : spec_l02SameList.S a_0b a_0l a_0c b_1b b_1l b_1c Post h) : CALL prg f_spec_l02SameList #[.slice a_0b a_0l a_0c, .slice b_1b b_1l b_1c] Post h :=
  fn_call tau_ok mixed (c := spec_l02SameList.code) (Λ := lookL [(1000004, spec_l02SameList.l4 Post)]) Try.func41 (by kernel_rfl) (by kernel_rfl)
    (Rq.seq (by kernel_rfl) (Rq.free (by kernel_rfl)) (Rq.seq (by kernel_rfl) (Rq.free (by kernel_rfl)) (Rq.seq (by kernel_rfl) (Rq.seq (by kernel_rfl) (Rq.free (by kernel_rfl)) (Rq.block (Rq.loop (spec_l02SameList.l4 Post) (by kernel_rfl) (segL (g := spec_l02SameList.g4) tau_ok mixed (Λ := fun N4 => lookL []) (fun _ _ _ => by kernel_rfl) (fun N4 => (Rq.free (by kernel_rfl))))))) (Rq.free (by kernel_rfl)))))
    (Eq.mp (by kernel_rfl) H)

def spec_SameTuning.S (t_0 : Array Value) (u_1 : Array Value) (Post : Value → Heap → Prop) (h : Heap) : Prop :=
    ALC t_0 T_impl_Tuning (fun g1 h2 =>
    ALC u_1 T_impl_Tuning (fun g3 h4 =>
    oF .f32 (cell h4 ⟨g1, 0, none⟩) fun r5 =>
    oF .f32 (cell h4 ⟨g3, 0, none⟩) fun r6 =>
    CALL prg f_spec_l01Same #[.float .f32 r5, .float .f32 r6] (fun q7 h8 =>
    asB q7 fun b9 =>
    BIF b9 (
    oF .f32 (cell h8 ⟨g1, 1, none⟩) fun r10 =>
    oF .f32 (cell h8 ⟨g3, 1, none⟩) fun r11 =>
    CALL prg f_spec_l01Same #[.float .f32 r10, .float .f32 r11] (fun q12 h13 =>
    asB q12 fun b14 =>
    BIF b14 (
    oL (cell h13 ⟨g1, 2, none⟩) fun l15b l15l l15c =>
    oL (cell h13 ⟨g3, 2, none⟩) fun l16b l16l l16c =>
    CALL prg f_spec_l02SameList #[.slice l15b l15l l15c, .slice l16b l16l l16c] (fun q17 h18 =>
    asB q17 fun b19 =>
    Post (.bool b19) h18) h13) (
    Post (.bool false) h13)) h8) (
    Post (.bool false) h8)) h4) h2) h
noncomputable def spec_SameTuning.code : Code := (Try.f128.body).getD .skip
theorem spec_SameTuning.call {t_0 : Array Value} {u_1 : Array Value} {Post : Value → Heap → Prop} {h : Heap} (H : spec_SameTuning.S t_0 u_1 Post h) : CALL prg f_spec_SameTuning #[.agg t_0, .agg u_1] Post h :=
  fn_call tau_ok mixed (c := spec_SameTuning.code) (Λ := lookL []) Try.func128 (by kernel_rfl) (by kernel_rfl)
    (Rq.free (by kernel_rfl))
    (Eq.mp (by kernel_rfl) H)

def spec_l08SameInstruments.B4 (Post : Value → Heap → Prop) (N4 : (Option Addr × Nat × Nat × Option Addr × Nat × Nat × Int) → Heap → Prop) : Option Addr × Nat × Nat × Option Addr × Nat × Nat × Int → Heap → Prop
  | (a_0b, a_0l, a_0c, b_1b, b_1l, b_1c, i_5), h =>
    BIF ((decide (i_5 < (a_0l : Int)))) (
    IDXS a_0b i_5 a_0l fun p7 =>
    oS (cell h ((Addr.add p7 ((Int.toNat i_5) * 5)))) fun s8 =>
    IDXS b_1b i_5 b_1l fun p9 =>
    oS (cell h ((Addr.add p9 ((Int.toNat i_5) * 5)))) fun s10 =>
    BIF (!(ByteArray.toList s8 == ByteArray.toList s10)) (
    Post (.bool false) h) (
    IDXS a_0b i_5 a_0l fun p11 =>
    oI .i64 (cell h ((Addr.add ((Addr.add p11 ((Int.toNat i_5) * 5))) 1))) fun n12 =>
    IDXS b_1b i_5 b_1l fun p13 =>
    oI .i64 (cell h ((Addr.add ((Addr.add p13 ((Int.toNat i_5) * 5))) 1))) fun n14 =>
    BIF (n12 != n14) (
    Post (.bool false) h) (
    IDXS a_0b i_5 a_0l fun p15 =>
    oF .f32 (cell h ((Addr.add ((Addr.add p15 ((Int.toNat i_5) * 5))) 2))) fun r16 =>
    IDXS b_1b i_5 b_1l fun p17 =>
    oF .f32 (cell h ((Addr.add ((Addr.add p17 ((Int.toNat i_5) * 5))) 2))) fun r18 =>
    CALL prg f_spec_l01Same #[.float .f32 r16, .float .f32 r18] (fun q19 h20 =>
    asB q19 fun b21 =>
    BIF (!b21) (
    Post (.bool false) h20) (
    IDXS a_0b i_5 a_0l fun p22 =>
    oF .f32 (cell h20 ((Addr.add ((Addr.add p22 ((Int.toNat i_5) * 5))) 3))) fun r23 =>
    IDXS b_1b i_5 b_1l fun p24 =>
    oF .f32 (cell h20 ((Addr.add ((Addr.add p24 ((Int.toNat i_5) * 5))) 3))) fun r25 =>
    CALL prg f_spec_l01Same #[.float .f32 r23, .float .f32 r25] (fun q26 h27 =>
    asB q26 fun b28 =>
    BIF (!b28) (
    Post (.bool false) h27) (
    IDXS a_0b i_5 a_0l fun p29 =>
    oF .f32 (cell h27 ((Addr.add ((Addr.add p29 ((Int.toNat i_5) * 5))) 4))) fun r30 =>
    IDXS b_1b i_5 b_1l fun p31 =>
    oF .f32 (cell h27 ((Addr.add ((Addr.add p31 ((Int.toNat i_5) * 5))) 4))) fun r32 =>
    CALL prg f_spec_l01Same #[.float .f32 r30, .float .f32 r32] (fun q33 h34 =>
    asB q33 fun b35 =>
    BIF (!b35) (
    Post (.bool false) h34) (
    N4 (a_0b, a_0l, a_0c, b_1b, b_1l, b_1c, ((IntKind.i64.wrap (i_5 + (1 : Int))))) h34)) h27)) h20)) h))) (
    Post (.bool true) h)
def spec_l08SameInstruments.g4 (fr : Frame) : Option Addr × Nat × Nat × Option Addr × Nat × Nat × Int := ((gLb (lget fr 0)), (gLl (lget fr 0)), (gLc (lget fr 0)), (gLb (lget fr 1)), (gLl (lget fr 1)), (gLc (lget fr 1)), (gI (lget fr 5)))
def spec_l08SameInstruments.l4 (Post : Value → Heap → Prop) : Frame → Heap → Prop := fun fr h => GRD (shape (kds 83 [(0, .l), (1, .l), (5, .i .i64)]) fr) (LOOP (spec_l08SameInstruments.B4 Post) (spec_l08SameInstruments.g4 fr) h)
def spec_l08SameInstruments.S (a_0b : Option Addr) (a_0l a_0c : Nat) (b_1b : Option Addr) (b_1l b_1c : Nat) (Post : Value → Heap → Prop) (h : Heap) : Prop :=
    BIF ((a_0l : Int) != (b_1l : Int)) (
    Post (.bool false) h) (
    LOOP (spec_l08SameInstruments.B4 Post) (a_0b, a_0l, a_0c, b_1b, b_1l, b_1c, (0 : Int)) h)
noncomputable def spec_l08SameInstruments.code : Code := (Try.f129.body).getD .skip
theorem spec_l08SameInstruments.call {a_0b : Option Addr} {a_0l a_0c : Nat} {b_1b : Option Addr} {b_1l b_1c : Nat} {Post : Value → Heap → Prop} {h : Heap} (H : spec_l08SameInstruments.S a_0b a_0l a_0c b_1b b_1l b_1c Post h) : CALL prg f_spec_l08SameInstruments #[.slice a_0b a_0l a_0c, .slice b_1b b_1l b_1c] Post h :=
  fn_call tau_ok mixed (c := spec_l08SameInstruments.code) (Λ := lookL [(1000004, spec_l08SameInstruments.l4 Post)]) Try.func129 (by kernel_rfl) (by kernel_rfl)
    (Rq.seq (by kernel_rfl) (Rq.free (by kernel_rfl)) (Rq.seq (by kernel_rfl) (Rq.free (by kernel_rfl)) (Rq.seq (by kernel_rfl) (Rq.seq (by kernel_rfl) (Rq.free (by kernel_rfl)) (Rq.block (Rq.loop (spec_l08SameInstruments.l4 Post) (by kernel_rfl) (segL (g := spec_l08SameInstruments.g4) tau_ok mixed (Λ := fun N4 => lookL []) (fun _ _ _ => by kernel_rfl) (fun N4 => (Rq.free (by kernel_rfl))))))) (Rq.free (by kernel_rfl)))))
    (Eq.mp (by kernel_rfl) H)

def spec_SameScore.B4 (Post : Value → Heap → Prop) (N4 : (Addr × Addr × Int) → Heap → Prop) : Addr × Addr × Int → Heap → Prop
  | (s_2, t_3, i_5), h =>
    oL (cell h (Addr.add s_2 5)) fun l26b l26l l26c =>
    BIF ((decide (i_5 < (l26l : Int)))) (
    oL (cell h (Addr.add s_2 5)) fun l29b l29l l29c =>
    IDXS l29b i_5 l29l fun p30 =>
    LDA 6 h ((Addr.add p30 ((Int.toNat i_5) * 6))) fun a31 =>
    ALC ⟨Z_impl_Event⟩ T_impl_Event (fun g32 h33 =>
    STA 6 h33 ⟨g32, 0, none⟩ a31 fun h34 =>
    oL (cell h34 (Addr.add t_3 5)) fun l35b l35l l35c =>
    IDXS l35b i_5 l35l fun p36 =>
    LDA 6 h34 ((Addr.add p36 ((Int.toNat i_5) * 6))) fun a37 =>
    ALC ⟨Z_impl_Event⟩ T_impl_Event (fun g38 h39 =>
    STA 6 h39 ⟨g38, 0, none⟩ a37 fun h40 =>
    oI .i64 (cell h40 ⟨g32, 0, none⟩) fun n41 =>
    oI .i64 (cell h40 ⟨g38, 0, none⟩) fun n42 =>
    BIF (n41 != n42) (
    Post (.bool false) h40) (
    oI .i64 (cell h40 ⟨g32, 1, none⟩) fun n43 =>
    oI .i64 (cell h40 ⟨g38, 1, none⟩) fun n44 =>
    BIF (n43 != n44) (
    Post (.bool false) h40) (
    oI .i64 (cell h40 ⟨g32, 2, none⟩) fun n45 =>
    oI .i64 (cell h40 ⟨g38, 2, none⟩) fun n46 =>
    BIF (n45 != n46) (
    Post (.bool false) h40) (
    oI .i64 (cell h40 ⟨g32, 3, none⟩) fun n47 =>
    oI .i64 (cell h40 ⟨g38, 3, none⟩) fun n48 =>
    BIF (n47 != n48) (
    Post (.bool false) h40) (
    oI .i64 (cell h40 ⟨g32, 4, none⟩) fun n49 =>
    oI .i64 (cell h40 ⟨g38, 4, none⟩) fun n50 =>
    BIF (n49 != n50) (
    Post (.bool false) h40) (
    oF .f32 (cell h40 ⟨g32, 5, none⟩) fun r51 =>
    oF .f32 (cell h40 ⟨g38, 5, none⟩) fun r52 =>
    CALL prg f_spec_l01Same #[.float .f32 r51, .float .f32 r52] (fun q53 h54 =>
    asB q53 fun b55 =>
    BIF (!b55) (
    Post (.bool false) h54) (
    N4 (s_2, t_3, ((IntKind.i64.wrap (i_5 + (1 : Int))))) h54)) h40)))))) h34) h) (
    Post (.bool true) h)
def spec_SameScore.g4 (fr : Frame) : Addr × Addr × Int := ((gP (lget fr 2)), (gP (lget fr 3)), (gI (lget fr 5)))
def spec_SameScore.l4 (Post : Value → Heap → Prop) : Frame → Heap → Prop := fun fr h => GRD (shape (kds 97 [(2, .p), (3, .p), (5, .i .i64)]) fr) (LOOP (spec_SameScore.B4 Post) (spec_SameScore.g4 fr) h)
def spec_SameScore.J3 (Post : Value → Heap → Prop) (s_2 : Addr) (t_3 : Addr) (h : Heap) : Prop :=
    LOOP (spec_SameScore.B4 Post) (s_2, t_3, (0 : Int)) h
def spec_SameScore.j3 (Post : Value → Heap → Prop) : Frame → Heap → Prop := fun fr h => GRD (shape (kds 97 [(2, .p), (3, .p)]) fr) (spec_SameScore.J3 Post (gP (lget fr 2)) (gP (lget fr 3)) h)
def spec_SameScore.S (s_0 : Array Value) (t_1 : Array Value) (Post : Value → Heap → Prop) (h : Heap) : Prop :=
    ALC s_0 T_impl_Score (fun g1 h2 =>
    ALC t_1 T_impl_Score (fun g3 h4 =>
    oF .f32 (cell h4 ⟨g1, 0, none⟩) fun r5 =>
    oF .f32 (cell h4 ⟨g3, 0, none⟩) fun r6 =>
    CALL prg f_spec_l01Same #[.float .f32 r5, .float .f32 r6] (fun q7 h8 =>
    asB q7 fun b9 =>
    BIF (!b9) (
    Post (.bool false) h8) (
    LDA 3 h8 ⟨g1, 1, none⟩ fun a10 =>
    LDA 3 h8 ⟨g3, 1, none⟩ fun a11 =>
    CALL prg f_spec_SameTuning #[.agg a10, .agg a11] (fun q12 h13 =>
    asB q12 fun b14 =>
    BIF (!b14) (
    Post (.bool false) h13) (
    oL (cell h13 ⟨g1, 4, none⟩) fun l15b l15l l15c =>
    oL (cell h13 ⟨g3, 4, none⟩) fun l16b l16l l16c =>
    CALL prg f_spec_l08SameInstruments #[.slice l15b l15l l15c, .slice l16b l16l l16c] (fun q17 h18 =>
    asB q17 fun b19 =>
    BIF (!b19) (
    Post (.bool false) h18) (
    oL (cell h18 ⟨g1, 5, none⟩) fun l20b l20l l20c =>
    oL (cell h18 ⟨g3, 5, none⟩) fun l23b l23l l23c =>
    BIF ((l20l : Int) != (l23l : Int)) (
    Post (.bool false) h18) (
    spec_SameScore.J3 Post ⟨g1, 0, none⟩ ⟨g3, 0, none⟩ h18))) h13)) h8)) h4) h2) h
noncomputable def spec_SameScore.code : Code := (Try.f71.body).getD .skip
theorem spec_SameScore.call {s_0 : Array Value} {t_1 : Array Value} {Post : Value → Heap → Prop} {h : Heap} (H : spec_SameScore.S s_0 t_1 Post h) : CALL prg f_spec_SameScore #[.agg s_0, .agg t_1] Post h :=
  fn_call tau_ok mixed (c := spec_SameScore.code) (Λ := lookL [(3, spec_SameScore.j3 Post), (1000004, spec_SameScore.l4 Post)]) Try.func71 (by kernel_rfl) (by kernel_rfl)
    (Rq.seq (by kernel_rfl) (Rq.free (by kernel_rfl)) (Rq.seqJ (spec_SameScore.j3 Post) (by kernel_rfl) (seg (fun _ _ => by kernel_rfl)) (Rq.free (by kernel_rfl))
(Rq.seq (by kernel_rfl) (Rq.seq (by kernel_rfl) (Rq.free (by kernel_rfl)) (Rq.block (Rq.loop (spec_SameScore.l4 Post) (by kernel_rfl) (segL (g := spec_SameScore.g4) tau_ok mixed (Λ := fun N4 => lookL []) (fun _ _ _ => by kernel_rfl) (fun N4 => (Rq.free (by kernel_rfl))))))) (Rq.free (by kernel_rfl)))))
    (Eq.mp (by kernel_rfl) H)

def spec_SameRing.S (r_0 : Array Value) (s_1 : Array Value) (Post : Value → Heap → Prop) (h : Heap) : Prop :=
    ALC r_0 T_impl_Ring (fun g1 h2 =>
    ALC s_1 T_impl_Ring (fun g3 h4 =>
    oI .i64 (cell h4 ⟨g1, 1, none⟩) fun n5 =>
    oI .i64 (cell h4 ⟨g3, 1, none⟩) fun n6 =>
    BIF (n5 == n6) (
    oL (cell h4 ⟨g1, 0, none⟩) fun l7b l7l l7c =>
    oL (cell h4 ⟨g3, 0, none⟩) fun l8b l8l l8c =>
    CALL prg f_spec_l02SameList #[.slice l7b l7l l7c, .slice l8b l8l l8c] (fun q9 h10 =>
    asB q9 fun b11 =>
    Post (.bool b11) h10) h4) (
    Post (.bool false) h4)) h2) h
noncomputable def spec_SameRing.code : Code := (Try.f174.body).getD .skip
theorem spec_SameRing.call {r_0 : Array Value} {s_1 : Array Value} {Post : Value → Heap → Prop} {h : Heap} (H : spec_SameRing.S r_0 s_1 Post h) : CALL prg f_spec_SameRing #[.agg r_0, .agg s_1] Post h :=
  fn_call tau_ok mixed (c := spec_SameRing.code) (Λ := lookL []) Try.func174 (by kernel_rfl) (by kernel_rfl)
    (Rq.free (by kernel_rfl))
    (Eq.mp (by kernel_rfl) H)

def spec_l02Same.B4 (Post : Value → Heap → Prop) (N4 : (Addr × Addr × Int) → Heap → Prop) : Addr × Addr × Int → Heap → Prop
  | (f_0, g_1, i_5), h =>
    BIF ((decide (i_5 < (3 : Int)))) (
    IDX i_5 3 <|
    oF .f32 (cell h ((Addr.add (Addr.add f_0 1) ((Int.toNat i_5) * 1)))) fun r3 =>
    IDX i_5 3 <|
    oF .f32 (cell h ((Addr.add (Addr.add g_1 1) ((Int.toNat i_5) * 1)))) fun r4 =>
    CALL prg f_spec_l01Same #[.float .f32 r3, .float .f32 r4] (fun q5 h6 =>
    asB q5 fun b7 =>
    BIF (!b7) (
    Post (.bool false) h6) (
    N4 (f_0, g_1, ((IntKind.i64.wrap (i_5 + (1 : Int))))) h6)) h) (
    IDX (0 : Int) 2 <|
    oF .f32 (cell h (Addr.add f_0 4)) fun r8 =>
    IDX (0 : Int) 2 <|
    oF .f32 (cell h (Addr.add g_1 4)) fun r9 =>
    CALL prg f_spec_l01Same #[.float .f32 r8, .float .f32 r9] (fun q10 h11 =>
    asB q10 fun b12 =>
    BIF b12 (
    IDX (1 : Int) 2 <|
    oF .f32 (cell h11 (Addr.add f_0 5)) fun r13 =>
    IDX (1 : Int) 2 <|
    oF .f32 (cell h11 (Addr.add g_1 5)) fun r14 =>
    CALL prg f_spec_l01Same #[.float .f32 r13, .float .f32 r14] (fun q15 h16 =>
    asB q15 fun b17 =>
    Post (.bool b17) h16) h11) (
    Post (.bool false) h11)) h)
def spec_l02Same.g4 (fr : Frame) : Addr × Addr × Int := ((gP (lget fr 0)), (gP (lget fr 1)), (gI (lget fr 5)))
def spec_l02Same.l4 (Post : Value → Heap → Prop) : Frame → Heap → Prop := fun fr h => GRD (shape (kds 57 [(0, .p), (1, .p), (5, .i .i64)]) fr) (LOOP (spec_l02Same.B4 Post) (spec_l02Same.g4 fr) h)
def spec_l02Same.S (f_0 : Addr) (g_1 : Addr) (Post : Value → Heap → Prop) (h : Heap) : Prop :=
    oI .i64 (cell h f_0) fun n1 =>
    oI .i64 (cell h g_1) fun n2 =>
    BIF (n1 != n2) (
    Post (.bool false) h) (
    LOOP (spec_l02Same.B4 Post) (f_0, g_1, (0 : Int)) h)
noncomputable def spec_l02Same.code : Code := (Try.f175.body).getD .skip
theorem spec_l02Same.call {f_0 : Addr} {g_1 : Addr} {Post : Value → Heap → Prop} {h : Heap} (H : spec_l02Same.S f_0 g_1 Post h) : CALL prg f_spec_l02Same #[.pointer (some f_0), .pointer (some g_1)] Post h :=
  fn_call tau_ok mixed (c := spec_l02Same.code) (Λ := lookL [(1000004, spec_l02Same.l4 Post)]) Try.func175 (by kernel_rfl) (by kernel_rfl)
    (Rq.seq (by kernel_rfl) (Rq.free (by kernel_rfl)) (Rq.seq (by kernel_rfl) (Rq.free (by kernel_rfl)) (Rq.seq (by kernel_rfl) (Rq.seq (by kernel_rfl) (Rq.free (by kernel_rfl)) (Rq.block (Rq.loop (spec_l02Same.l4 Post) (by kernel_rfl) (segL (g := spec_l02Same.g4) tau_ok mixed (Λ := fun N4 => lookL []) (fun _ _ _ => by kernel_rfl) (fun N4 => (Rq.free (by kernel_rfl))))))) (Rq.free (by kernel_rfl)))))
    (Eq.mp (by kernel_rfl) H)

def spec_SameString.S (x_0 : Array Value) (y_1 : Array Value) (Post : Value → Heap → Prop) (h : Heap) : Prop :=
    ALC x_0 T_impl_String (fun g1 h2 =>
    ALC y_1 T_impl_String (fun g3 h4 =>
    LDA 2 h4 ⟨g1, 0, none⟩ fun a5 =>
    LDA 2 h4 ⟨g3, 0, none⟩ fun a6 =>
    CALL prg f_spec_SameRing #[.agg a5, .agg a6] (fun q7 h8 =>
    asB q7 fun b9 =>
    BIF b9 (
    CALL prg f_spec_l02Same #[.pointer (some ⟨g1, 2, none⟩), .pointer (some ⟨g3, 2, none⟩)] (fun q10 h11 =>
    asB q10 fun b12 =>
    BIF b12 (
    CALL prg f_spec_l02Same #[.pointer (some ⟨g1, 8, none⟩), .pointer (some ⟨g3, 8, none⟩)] (fun q13 h14 =>
    asB q13 fun b15 =>
    BIF b15 (
    oF .f32 (cell h14 ⟨g1, 14, none⟩) fun r16 =>
    oF .f32 (cell h14 ⟨g3, 14, none⟩) fun r17 =>
    CALL prg f_spec_l01Same #[.float .f32 r16, .float .f32 r17] (fun q18 h19 =>
    asB q18 fun b20 =>
    Post (.bool b20) h19) h14) (
    Post (.bool false) h14)) h11) (
    Post (.bool false) h11)) h8) (
    Post (.bool false) h8)) h4) h2) h
noncomputable def spec_SameString.code : Code := (Try.f130.body).getD .skip
theorem spec_SameString.call {x_0 : Array Value} {y_1 : Array Value} {Post : Value → Heap → Prop} {h : Heap} (H : spec_SameString.S x_0 y_1 Post h) : CALL prg f_spec_SameString #[.agg x_0, .agg y_1] Post h :=
  fn_call tau_ok mixed (c := spec_SameString.code) (Λ := lookL []) Try.func130 (by kernel_rfl) (by kernel_rfl)
    (Rq.free (by kernel_rfl))
    (Eq.mp (by kernel_rfl) H)

def spec_l04SameRings.B4 (Post : Value → Heap → Prop) (N4 : (Option Addr × Nat × Nat × Option Addr × Nat × Nat × Int) → Heap → Prop) : Option Addr × Nat × Nat × Option Addr × Nat × Nat × Int → Heap → Prop
  | (a_0b, a_0l, a_0c, b_1b, b_1l, b_1c, i_5), h =>
    BIF ((decide (i_5 < (a_0l : Int)))) (
    IDXS a_0b i_5 a_0l fun p7 =>
    oI .i64 (cell h ((Addr.add ((Addr.add p7 ((Int.toNat i_5) * 2))) 1))) fun n8 =>
    IDXS b_1b i_5 b_1l fun p9 =>
    oI .i64 (cell h ((Addr.add ((Addr.add p9 ((Int.toNat i_5) * 2))) 1))) fun n10 =>
    BIF (n8 != n10) (
    Post (.bool false) h) (
    IDXS a_0b i_5 a_0l fun p11 =>
    oL (cell h ((Addr.add p11 ((Int.toNat i_5) * 2)))) fun l12b l12l l12c =>
    IDXS b_1b i_5 b_1l fun p13 =>
    oL (cell h ((Addr.add p13 ((Int.toNat i_5) * 2)))) fun l14b l14l l14c =>
    CALL prg f_spec_l02SameList #[.slice l12b l12l l12c, .slice l14b l14l l14c] (fun q15 h16 =>
    asB q15 fun b17 =>
    BIF (!b17) (
    Post (.bool false) h16) (
    N4 (a_0b, a_0l, a_0c, b_1b, b_1l, b_1c, ((IntKind.i64.wrap (i_5 + (1 : Int))))) h16)) h)) (
    Post (.bool true) h)
def spec_l04SameRings.g4 (fr : Frame) : Option Addr × Nat × Nat × Option Addr × Nat × Nat × Int := ((gLb (lget fr 0)), (gLl (lget fr 0)), (gLc (lget fr 0)), (gLb (lget fr 1)), (gLl (lget fr 1)), (gLc (lget fr 1)), (gI (lget fr 5)))
def spec_l04SameRings.l4 (Post : Value → Heap → Prop) : Frame → Heap → Prop := fun fr h => GRD (shape (kds 42 [(0, .l), (1, .l), (5, .i .i64)]) fr) (LOOP (spec_l04SameRings.B4 Post) (spec_l04SameRings.g4 fr) h)
def spec_l04SameRings.S (a_0b : Option Addr) (a_0l a_0c : Nat) (b_1b : Option Addr) (b_1l b_1c : Nat) (Post : Value → Heap → Prop) (h : Heap) : Prop :=
    BIF ((a_0l : Int) != (b_1l : Int)) (
    Post (.bool false) h) (
    LOOP (spec_l04SameRings.B4 Post) (a_0b, a_0l, a_0c, b_1b, b_1l, b_1c, (0 : Int)) h)
noncomputable def spec_l04SameRings.code : Code := (Try.f176.body).getD .skip
theorem spec_l04SameRings.call {a_0b : Option Addr} {a_0l a_0c : Nat} {b_1b : Option Addr} {b_1l b_1c : Nat} {Post : Value → Heap → Prop} {h : Heap} (H : spec_l04SameRings.S a_0b a_0l a_0c b_1b b_1l b_1c Post h) : CALL prg f_spec_l04SameRings #[.slice a_0b a_0l a_0c, .slice b_1b b_1l b_1c] Post h :=
  fn_call tau_ok mixed (c := spec_l04SameRings.code) (Λ := lookL [(1000004, spec_l04SameRings.l4 Post)]) Try.func176 (by kernel_rfl) (by kernel_rfl)
    (Rq.seq (by kernel_rfl) (Rq.free (by kernel_rfl)) (Rq.seq (by kernel_rfl) (Rq.free (by kernel_rfl)) (Rq.seq (by kernel_rfl) (Rq.seq (by kernel_rfl) (Rq.free (by kernel_rfl)) (Rq.block (Rq.loop (spec_l04SameRings.l4 Post) (by kernel_rfl) (segL (g := spec_l04SameRings.g4) tau_ok mixed (Λ := fun N4 => lookL []) (fun _ _ _ => by kernel_rfl) (fun N4 => (Rq.free (by kernel_rfl))))))) (Rq.free (by kernel_rfl)))))
    (Eq.mp (by kernel_rfl) H)

def spec_l04Same.S (x_0 : Addr) (y_1 : Addr) (Post : Value → Heap → Prop) (h : Heap) : Prop :=
    oL (cell h x_0) fun l1b l1l l1c =>
    oL (cell h y_1) fun l2b l2l l2c =>
    CALL prg f_spec_l04SameRings #[.slice l1b l1l l1c, .slice l2b l2l l2c] (fun q3 h4 =>
    asB q3 fun b5 =>
    BIF b5 (
    oL (cell h4 (Addr.add x_0 1)) fun l6b l6l l6c =>
    oL (cell h4 (Addr.add y_1 1)) fun l7b l7l l7c =>
    CALL prg f_spec_l04SameRings #[.slice l6b l6l l6c, .slice l7b l7l l7c] (fun q8 h9 =>
    asB q8 fun b10 =>
    BIF b10 (
    oL (cell h9 (Addr.add x_0 2)) fun l11b l11l l11c =>
    oL (cell h9 (Addr.add y_1 2)) fun l12b l12l l12c =>
    CALL prg f_spec_l02SameList #[.slice l11b l11l l11c, .slice l12b l12l l12c] (fun q13 h14 =>
    asB q13 fun b15 =>
    BIF b15 (
    CALL prg f_spec_l02Same #[.pointer (some (Addr.add x_0 3)), .pointer (some (Addr.add y_1 3))] (fun q16 h17 =>
    asB q16 fun b18 =>
    BIF b18 (
    oB (cell h17 (Addr.add x_0 9)) fun b19 =>
    oB (cell h17 (Addr.add y_1 9)) fun b20 =>
    BIF (b19 == b20) (
    oF .f32 (cell h17 (Addr.add x_0 10)) fun r21 =>
    oF .f32 (cell h17 (Addr.add y_1 10)) fun r22 =>
    CALL prg f_spec_l01Same #[.float .f32 r21, .float .f32 r22] (fun q23 h24 =>
    asB q23 fun b25 =>
    BIF b25 (
    oF .f32 (cell h24 (Addr.add x_0 11)) fun r26 =>
    oF .f32 (cell h24 (Addr.add y_1 11)) fun r27 =>
    CALL prg f_spec_l01Same #[.float .f32 r26, .float .f32 r27] (fun q28 h29 =>
    asB q28 fun b30 =>
    BIF b30 (
    oF .f32 (cell h29 (Addr.add x_0 12)) fun r31 =>
    oF .f32 (cell h29 (Addr.add y_1 12)) fun r32 =>
    CALL prg f_spec_l01Same #[.float .f32 r31, .float .f32 r32] (fun q33 h34 =>
    asB q33 fun b35 =>
    Post (.bool b35) h34) h29) (
    Post (.bool false) h29)) h24) (
    Post (.bool false) h24)) h17) (
    Post (.bool false) h17)) (
    Post (.bool false) h17)) h14) (
    Post (.bool false) h14)) h9) (
    Post (.bool false) h9)) h4) (
    Post (.bool false) h4)) h
noncomputable def spec_l04Same.code : Code := (Try.f131.body).getD .skip
theorem spec_l04Same.call {x_0 : Addr} {y_1 : Addr} {Post : Value → Heap → Prop} {h : Heap} (H : spec_l04Same.S x_0 y_1 Post h) : CALL prg f_spec_l04Same #[.pointer (some x_0), .pointer (some y_1)] Post h :=
  fn_call tau_ok mixed (c := spec_l04Same.code) (Λ := lookL []) Try.func131 (by kernel_rfl) (by kernel_rfl)
    (Rq.free (by kernel_rfl))
    (Eq.mp (by kernel_rfl) H)

def spec_l05SameBow.S (x_0 : Addr) (y_1 : Addr) (Post : Value → Heap → Prop) (h : Heap) : Prop :=
    LDA 2 h x_0 fun a1 =>
    LDA 2 h (Addr.add x_0 2) fun a2 =>
    LDA 2 h y_1 fun a3 =>
    LDA 2 h (Addr.add y_1 2) fun a4 =>
    (SIZ (Array.size a1) 2 <|
    SIZ (Array.size a2) 2 <|
    ALC ⟨(splice 2 2 a2 (splice 0 2 a1 [.slice none 0 0, .int .i64 (0 : Int), .slice none 0 0, .int .i64 (0 : Int)]))⟩ T_impl_Ring (fun g5 h6 =>
    PIN h (Addr.add y_1 2) 2 h6 <|
    PIN h y_1 2 h6 <|
    SIZ (Array.size a3) 2 <|
    SIZ (Array.size a4) 2 <|
    ALC ⟨(splice 2 2 a4 (splice 0 2 a3 [.slice none 0 0, .int .i64 (0 : Int), .slice none 0 0, .int .i64 (0 : Int)]))⟩ T_impl_Ring (fun g7 h8 =>
    PIN h (Addr.add x_0 2) 2 h8 <|
    PIN h x_0 2 h8 <|
    CALL prg f_spec_l04SameRings #[.slice (some ⟨g5, 0, none⟩) 2 2, .slice (some ⟨g7, 0, none⟩) 2 2] (fun q9 h10 =>
    asB q9 fun b11 =>
    BIF b11 (
    CALL prg f_spec_l02Same #[.pointer (some (Addr.add x_0 4)), .pointer (some (Addr.add y_1 4))] (fun q12 h13 =>
    asB q12 fun b14 =>
    BIF b14 (
    oF .f32 (cell h13 (Addr.add x_0 10)) fun r15 =>
    oF .f32 (cell h13 (Addr.add y_1 10)) fun r16 =>
    CALL prg f_spec_l01Same #[.float .f32 r15, .float .f32 r16] (fun q17 h18 =>
    asB q17 fun b19 =>
    BIF b19 (
    oF .f32 (cell h18 (Addr.add x_0 11)) fun r20 =>
    oF .f32 (cell h18 (Addr.add y_1 11)) fun r21 =>
    CALL prg f_spec_l01Same #[.float .f32 r20, .float .f32 r21] (fun q22 h23 =>
    asB q22 fun b24 =>
    Post (.bool b24) h23) h18) (
    Post (.bool false) h18)) h13) (
    Post (.bool false) h13)) h10) (
    Post (.bool false) h10)) h8) h6) h) ∧ (SIZ (Array.size a3) 2 <|
    SIZ (Array.size a4) 2 <|
    ALC ⟨(splice 2 2 a4 (splice 0 2 a3 [.slice none 0 0, .int .i64 (0 : Int), .slice none 0 0, .int .i64 (0 : Int)]))⟩ T_impl_Ring (fun g25 h26 =>
    PIN h (Addr.add x_0 2) 2 h26 <|
    PIN h x_0 2 h26 <|
    SIZ (Array.size a1) 2 <|
    SIZ (Array.size a2) 2 <|
    ALC ⟨(splice 2 2 a2 (splice 0 2 a1 [.slice none 0 0, .int .i64 (0 : Int), .slice none 0 0, .int .i64 (0 : Int)]))⟩ T_impl_Ring (fun g27 h28 =>
    PIN h (Addr.add y_1 2) 2 h28 <|
    PIN h y_1 2 h28 <|
    CALL prg f_spec_l04SameRings #[.slice (some ⟨g27, 0, none⟩) 2 2, .slice (some ⟨g25, 0, none⟩) 2 2] (fun q29 h30 =>
    asB q29 fun b31 =>
    BIF b31 (
    CALL prg f_spec_l02Same #[.pointer (some (Addr.add x_0 4)), .pointer (some (Addr.add y_1 4))] (fun q32 h33 =>
    asB q32 fun b34 =>
    BIF b34 (
    oF .f32 (cell h33 (Addr.add x_0 10)) fun r35 =>
    oF .f32 (cell h33 (Addr.add y_1 10)) fun r36 =>
    CALL prg f_spec_l01Same #[.float .f32 r35, .float .f32 r36] (fun q37 h38 =>
    asB q37 fun b39 =>
    BIF b39 (
    oF .f32 (cell h38 (Addr.add x_0 11)) fun r40 =>
    oF .f32 (cell h38 (Addr.add y_1 11)) fun r41 =>
    CALL prg f_spec_l01Same #[.float .f32 r40, .float .f32 r41] (fun q42 h43 =>
    asB q42 fun b44 =>
    Post (.bool b44) h43) h38) (
    Post (.bool false) h38)) h33) (
    Post (.bool false) h33)) h30) (
    Post (.bool false) h30)) h28) h26) h)
noncomputable def spec_l05SameBow.code : Code := (Try.f132.body).getD .skip
theorem spec_l05SameBow.call {x_0 : Addr} {y_1 : Addr} {Post : Value → Heap → Prop} {h : Heap} (H : spec_l05SameBow.S x_0 y_1 Post h) : CALL prg f_spec_l05SameBow #[.pointer (some x_0), .pointer (some y_1)] Post h :=
  fn_call tau_ok mixed (c := spec_l05SameBow.code) (Λ := lookL []) Try.func132 (by kernel_rfl) (by kernel_rfl)
    (Rq.free (by kernel_rfl))
    (Eq.mp (by kernel_rfl) H)

def spec_l09SameVoice.S (v_0 : Addr) (w_1 : Addr) (Post : Value → Heap → Prop) (h : Heap) : Prop :=
    oI .i64 (cell h v_0) fun n1 =>
    oI .i64 (cell h w_1) fun n2 =>
    BIF (n1 == n2) (
    oI .i64 (cell h (Addr.add v_0 1)) fun n3 =>
    oI .i64 (cell h (Addr.add w_1 1)) fun n4 =>
    BIF (n3 == n4) (
    oI .i64 (cell h (Addr.add v_0 2)) fun n5 =>
    oI .i64 (cell h (Addr.add w_1 2)) fun n6 =>
    BIF (n5 == n6) (
    oB (cell h (Addr.add v_0 3)) fun b7 =>
    oB (cell h (Addr.add w_1 3)) fun b8 =>
    BIF (b7 == b8) (
    oF .f32 (cell h (Addr.add v_0 4)) fun r9 =>
    oF .f32 (cell h (Addr.add w_1 4)) fun r10 =>
    CALL prg f_spec_l01Same #[.float .f32 r9, .float .f32 r10] (fun q11 h12 =>
    asB q11 fun b13 =>
    BIF b13 (
    LDA 15 h12 (Addr.add v_0 5) fun a14 =>
    LDA 15 h12 (Addr.add w_1 5) fun a15 =>
    CALL prg f_spec_SameString #[.agg a14, .agg a15] (fun q16 h17 =>
    asB q16 fun b18 =>
    BIF b18 (
    CALL prg f_spec_l04Same #[.pointer (some (Addr.add v_0 20)), .pointer (some (Addr.add w_1 20))] (fun q19 h20 =>
    asB q19 fun b21 =>
    BIF b21 (
    CALL prg f_spec_l05SameBow #[.pointer (some (Addr.add v_0 33)), .pointer (some (Addr.add w_1 33))] (fun q22 h23 =>
    asB q22 fun b24 =>
    Post (.bool b24) h23) h20) (
    Post (.bool false) h20)) h17) (
    Post (.bool false) h17)) h12) (
    Post (.bool false) h12)) h) (
    Post (.bool false) h)) (
    Post (.bool false) h)) (
    Post (.bool false) h)) (
    Post (.bool false) h)
noncomputable def spec_l09SameVoice.code : Code := (Try.f72.body).getD .skip
theorem spec_l09SameVoice.call {v_0 : Addr} {w_1 : Addr} {Post : Value → Heap → Prop} {h : Heap} (H : spec_l09SameVoice.S v_0 w_1 Post h) : CALL prg f_spec_l09SameVoice #[.pointer (some v_0), .pointer (some w_1)] Post h :=
  fn_call tau_ok mixed (c := spec_l09SameVoice.code) (Λ := lookL []) Try.func72 (by kernel_rfl) (by kernel_rfl)
    (Rq.free (by kernel_rfl))
    (Eq.mp (by kernel_rfl) H)

def slices_EqualFunc_sl_float32_sl_float32_float32_float32.B4 (Post : Value → Heap → Prop) (N4 : (Option Addr × Nat × Nat × Value × Option Addr × Nat × Nat × Int × Int) → Heap → Prop) : Option Addr × Nat × Nat × Value × Option Addr × Nat × Nat × Int × Int → Heap → Prop
  | (s2_1b, s2_1l, s2_1c, eq_2, t15b, t15l, t15c, t16, t17), h =>
    BIF (decide (t17 < t16)) (
    IDXS t15b t17 t15l fun p7 =>
    oF .f32 (cell h ((Addr.add p7 ((Int.toNat t17) * 1)))) fun r8 =>
    IDXS s2_1b t17 s2_1l fun p9 =>
    oF .f32 (cell h ((Addr.add p9 ((Int.toNat t17) * 1)))) fun r10 =>
    CALLD prg eq_2 #[.float .f32 r8, .float .f32 r10] (fun q11 h12 =>
    asB q11 fun b13 =>
    BIF (!b13) (
    Post (.bool false) h12) (
    N4 (s2_1b, s2_1l, s2_1c, eq_2, t15b, t15l, t15c, t16, ((IntKind.i64.wrap (t17 + (1 : Int))))) h12)) h) (
    Post (.bool true) h)
def slices_EqualFunc_sl_float32_sl_float32_float32_float32.g4 (fr : Frame) : Option Addr × Nat × Nat × Value × Option Addr × Nat × Nat × Int × Int := ((gLb (lget fr 1)), (gLl (lget fr 1)), (gLc (lget fr 1)), (lget fr 2), (gLb (lget fr 15)), (gLl (lget fr 15)), (gLc (lget fr 15)), (gI (lget fr 16)), (gI (lget fr 17)))
def slices_EqualFunc_sl_float32_sl_float32_float32_float32.l4 (Post : Value → Heap → Prop) : Frame → Heap → Prop := fun fr h => GRD (shape (kds 32 [(1, .l), (2, .v), (15, .l), (16, .i .i64), (17, .i .i64)]) fr) (LOOP (slices_EqualFunc_sl_float32_sl_float32_float32_float32.B4 Post) (slices_EqualFunc_sl_float32_sl_float32_float32_float32.g4 fr) h)
def slices_EqualFunc_sl_float32_sl_float32_float32_float32.S (s1_0b : Option Addr) (s1_0l s1_0c : Nat) (s2_1b : Option Addr) (s2_1l s2_1c : Nat) (eq_2 : Value) (Post : Value → Heap → Prop) (h : Heap) : Prop :=
    BIF ((s1_0l : Int) != (s2_1l : Int)) (
    Post (.bool false) h) (
    LOOP (slices_EqualFunc_sl_float32_sl_float32_float32_float32.B4 Post) (s2_1b, s2_1l, s2_1c, eq_2, s1_0b, s1_0l, s1_0c, (s1_0l : Int), (0 : Int)) h)
noncomputable def slices_EqualFunc_sl_float32_sl_float32_float32_float32.code : Code := (Try.f198.body).getD .skip
theorem slices_EqualFunc_sl_float32_sl_float32_float32_float32.call {s1_0b : Option Addr} {s1_0l s1_0c : Nat} {s2_1b : Option Addr} {s2_1l s2_1c : Nat} {eq_2 : Value} {Post : Value → Heap → Prop} {h : Heap} (H : slices_EqualFunc_sl_float32_sl_float32_float32_float32.S s1_0b s1_0l s1_0c s2_1b s2_1l s2_1c eq_2 Post h) : CALL prg f_slices_EqualFunc_sl_float32_sl_float32_float32_float32 #[.slice s1_0b s1_0l s1_0c, .slice s2_1b s2_1l s2_1c, eq_2] Post h :=
  fn_call tau_ok mixed (c := slices_EqualFunc_sl_float32_sl_float32_float32_float32.code) (Λ := lookL [(1000004, slices_EqualFunc_sl_float32_sl_float32_float32_float32.l4 Post)]) Try.func198 (by kernel_rfl) (by kernel_rfl)
    (Rq.seq (by kernel_rfl) (Rq.free (by kernel_rfl)) (Rq.seq (by kernel_rfl) (Rq.free (by kernel_rfl)) (Rq.seq (by kernel_rfl) (Rq.seq (by kernel_rfl) (Rq.free (by kernel_rfl)) (Rq.block (Rq.loop (slices_EqualFunc_sl_float32_sl_float32_float32_float32.l4 Post) (by kernel_rfl) (segL (g := slices_EqualFunc_sl_float32_sl_float32_float32_float32.g4) tau_ok mixed (Λ := fun N4 => lookL []) (fun _ _ _ => by kernel_rfl) (fun N4 => (Rq.free (by kernel_rfl))))))) (Rq.free (by kernel_rfl)))))
    (Eq.mp (by kernel_rfl) H)

def impl_sameSamples.S (a_0b : Option Addr) (a_0l a_0c : Nat) (b_1b : Option Addr) (b_1l b_1c : Nat) (Post : Value → Heap → Prop) (h : Heap) : Prop :=
    CALL prg f_slices_EqualFunc_sl_float32_sl_float32_float32_float32 #[.slice a_0b a_0l a_0c, .slice b_1b b_1l b_1c, .func (.func 140) #[] #[]] (fun q1 h2 =>
    asB q1 fun b3 =>
    Post (.bool b3) h2) h
noncomputable def impl_sameSamples.code : Code := (Try.f186.body).getD .skip
theorem impl_sameSamples.call {a_0b : Option Addr} {a_0l a_0c : Nat} {b_1b : Option Addr} {b_1l b_1c : Nat} {Post : Value → Heap → Prop} {h : Heap} (H : impl_sameSamples.S a_0b a_0l a_0c b_1b b_1l b_1c Post h) : CALL prg f_impl_sameSamples #[.slice a_0b a_0l a_0c, .slice b_1b b_1l b_1c] Post h :=
  fn_call tau_ok mixed (c := impl_sameSamples.code) (Λ := lookL []) Try.func186 (by kernel_rfl) (by kernel_rfl)
    (Rq.free (by kernel_rfl))
    (Eq.mp (by kernel_rfl) H)

def impl_SameTuning.S (t_0 : Array Value) (u_1 : Array Value) (Post : Value → Heap → Prop) (h : Heap) : Prop :=
    ALC t_0 T_impl_Tuning (fun g1 h2 =>
    ALC u_1 T_impl_Tuning (fun g3 h4 =>
    oF .f32 (cell h4 ⟨g1, 0, none⟩) fun r5 =>
    oF .f32 (cell h4 ⟨g3, 0, none⟩) fun r6 =>
    CALL prg f_impl_SameSample #[.float .f32 r5, .float .f32 r6] (fun q7 h8 =>
    asB q7 fun b9 =>
    BIF b9 (
    oF .f32 (cell h8 ⟨g1, 1, none⟩) fun r10 =>
    oF .f32 (cell h8 ⟨g3, 1, none⟩) fun r11 =>
    CALL prg f_impl_SameSample #[.float .f32 r10, .float .f32 r11] (fun q12 h13 =>
    asB q12 fun b14 =>
    BIF b14 (
    oL (cell h13 ⟨g1, 2, none⟩) fun l15b l15l l15c =>
    oL (cell h13 ⟨g3, 2, none⟩) fun l16b l16l l16c =>
    CALL prg f_impl_sameSamples #[.slice l15b l15l l15c, .slice l16b l16l l16c] (fun q17 h18 =>
    asB q17 fun b19 =>
    Post (.bool b19) h18) h13) (
    Post (.bool false) h13)) h8) (
    Post (.bool false) h8)) h4) h2) h
noncomputable def impl_SameTuning.code : Code := (Try.f181.body).getD .skip
theorem impl_SameTuning.call {t_0 : Array Value} {u_1 : Array Value} {Post : Value → Heap → Prop} {h : Heap} (H : impl_SameTuning.S t_0 u_1 Post h) : CALL prg f_impl_SameTuning #[.agg t_0, .agg u_1] Post h :=
  fn_call tau_ok mixed (c := impl_SameTuning.code) (Λ := lookL []) Try.func181 (by kernel_rfl) (by kernel_rfl)
    (Rq.free (by kernel_rfl))
    (Eq.mp (by kernel_rfl) H)

def slices_EqualFunc_sl_impl_Instrument_sl_impl_Instrument_impl_Instrument_impl_Instrument.B4 (Post : Value → Heap → Prop) (N4 : (Option Addr × Nat × Nat × Value × Option Addr × Nat × Nat × Int × Int) → Heap → Prop) : Option Addr × Nat × Nat × Value × Option Addr × Nat × Nat × Int × Int → Heap → Prop
  | (s2_1b, s2_1l, s2_1c, eq_2, t15b, t15l, t15c, t16, t17), h =>
    BIF (decide (t17 < t16)) (
    IDXS t15b t17 t15l fun p7 =>
    LDA 5 h ((Addr.add p7 ((Int.toNat t17) * 5))) fun a8 =>
    ALC ⟨Z_impl_Instrument⟩ T_impl_Instrument (fun g9 h10 =>
    STA 5 h10 ⟨g9, 0, none⟩ a8 fun h11 =>
    IDXS s2_1b t17 s2_1l fun p12 =>
    LDA 5 h11 ((Addr.add p12 ((Int.toNat t17) * 5))) fun a13 =>
    ALC ⟨Z_impl_Instrument⟩ T_impl_Instrument (fun g14 h15 =>
    STA 5 h15 ⟨g14, 0, none⟩ a13 fun h16 =>
    LDA 5 h16 ⟨g9, 0, none⟩ fun a17 =>
    LDA 5 h16 ⟨g14, 0, none⟩ fun a18 =>
    CALLD prg eq_2 #[.agg a17, .agg a18] (fun q19 h20 =>
    asB q19 fun b21 =>
    BIF (!b21) (
    Post (.bool false) h20) (
    N4 (s2_1b, s2_1l, s2_1c, eq_2, t15b, t15l, t15c, t16, ((IntKind.i64.wrap (t17 + (1 : Int))))) h20)) h16) h11) h) (
    Post (.bool true) h)
def slices_EqualFunc_sl_impl_Instrument_sl_impl_Instrument_impl_Instrument_impl_Instrument.g4 (fr : Frame) : Option Addr × Nat × Nat × Value × Option Addr × Nat × Nat × Int × Int := ((gLb (lget fr 1)), (gLl (lget fr 1)), (gLc (lget fr 1)), (lget fr 2), (gLb (lget fr 15)), (gLl (lget fr 15)), (gLc (lget fr 15)), (gI (lget fr 16)), (gI (lget fr 17)))
def slices_EqualFunc_sl_impl_Instrument_sl_impl_Instrument_impl_Instrument_impl_Instrument.l4 (Post : Value → Heap → Prop) : Frame → Heap → Prop := fun fr h => GRD (shape (kds 32 [(1, .l), (2, .v), (15, .l), (16, .i .i64), (17, .i .i64)]) fr) (LOOP (slices_EqualFunc_sl_impl_Instrument_sl_impl_Instrument_impl_Instrument_impl_Instrument.B4 Post) (slices_EqualFunc_sl_impl_Instrument_sl_impl_Instrument_impl_Instrument_impl_Instrument.g4 fr) h)
def slices_EqualFunc_sl_impl_Instrument_sl_impl_Instrument_impl_Instrument_impl_Instrument.S (s1_0b : Option Addr) (s1_0l s1_0c : Nat) (s2_1b : Option Addr) (s2_1l s2_1c : Nat) (eq_2 : Value) (Post : Value → Heap → Prop) (h : Heap) : Prop :=
    BIF ((s1_0l : Int) != (s2_1l : Int)) (
    Post (.bool false) h) (
    LOOP (slices_EqualFunc_sl_impl_Instrument_sl_impl_Instrument_impl_Instrument_impl_Instrument.B4 Post) (s2_1b, s2_1l, s2_1c, eq_2, s1_0b, s1_0l, s1_0c, (s1_0l : Int), (0 : Int)) h)
noncomputable def slices_EqualFunc_sl_impl_Instrument_sl_impl_Instrument_impl_Instrument_impl_Instrument.code : Code := (Try.f196.body).getD .skip
theorem slices_EqualFunc_sl_impl_Instrument_sl_impl_Instrument_impl_Instrument_impl_Instrument.call {s1_0b : Option Addr} {s1_0l s1_0c : Nat} {s2_1b : Option Addr} {s2_1l s2_1c : Nat} {eq_2 : Value} {Post : Value → Heap → Prop} {h : Heap} (H : slices_EqualFunc_sl_impl_Instrument_sl_impl_Instrument_impl_Instrument_impl_Instrument.S s1_0b s1_0l s1_0c s2_1b s2_1l s2_1c eq_2 Post h) : CALL prg f_slices_EqualFunc_sl_impl_Instrument_sl_impl_Instrument_impl_Instrument_impl_Instrument #[.slice s1_0b s1_0l s1_0c, .slice s2_1b s2_1l s2_1c, eq_2] Post h :=
  fn_call tau_ok mixed (c := slices_EqualFunc_sl_impl_Instrument_sl_impl_Instrument_impl_Instrument_impl_Instrument.code) (Λ := lookL [(1000004, slices_EqualFunc_sl_impl_Instrument_sl_impl_Instrument_impl_Instrument_impl_Instrument.l4 Post)]) Try.func196 (by kernel_rfl) (by kernel_rfl)
    (Rq.seq (by kernel_rfl) (Rq.free (by kernel_rfl)) (Rq.seq (by kernel_rfl) (Rq.free (by kernel_rfl)) (Rq.seq (by kernel_rfl) (Rq.seq (by kernel_rfl) (Rq.free (by kernel_rfl)) (Rq.block (Rq.loop (slices_EqualFunc_sl_impl_Instrument_sl_impl_Instrument_impl_Instrument_impl_Instrument.l4 Post) (by kernel_rfl) (segL (g := slices_EqualFunc_sl_impl_Instrument_sl_impl_Instrument_impl_Instrument_impl_Instrument.g4) tau_ok mixed (Λ := fun N4 => lookL []) (fun _ _ _ => by kernel_rfl) (fun N4 => (Rq.free (by kernel_rfl))))))) (Rq.free (by kernel_rfl)))))
    (Eq.mp (by kernel_rfl) H)

def impl_sameInstruments_c1.S (x_0 : Array Value) (y_1 : Array Value) (Post : Value → Heap → Prop) (h : Heap) : Prop :=
    ALC x_0 T_impl_Instrument (fun g1 h2 =>
    ALC y_1 T_impl_Instrument (fun g3 h4 =>
    oS (cell h4 ⟨g1, 0, none⟩) fun s5 =>
    oS (cell h4 ⟨g3, 0, none⟩) fun s6 =>
    BIF (ByteArray.toList s5 == ByteArray.toList s6) (
    oI .i64 (cell h4 ⟨g1, 1, none⟩) fun n7 =>
    oI .i64 (cell h4 ⟨g3, 1, none⟩) fun n8 =>
    BIF (n7 == n8) (
    oF .f32 (cell h4 ⟨g1, 2, none⟩) fun r9 =>
    oF .f32 (cell h4 ⟨g3, 2, none⟩) fun r10 =>
    CALL prg f_impl_SameSample #[.float .f32 r9, .float .f32 r10] (fun q11 h12 =>
    asB q11 fun b13 =>
    BIF b13 (
    oF .f32 (cell h12 ⟨g1, 3, none⟩) fun r14 =>
    oF .f32 (cell h12 ⟨g3, 3, none⟩) fun r15 =>
    CALL prg f_impl_SameSample #[.float .f32 r14, .float .f32 r15] (fun q16 h17 =>
    asB q16 fun b18 =>
    BIF b18 (
    oF .f32 (cell h17 ⟨g1, 4, none⟩) fun r19 =>
    oF .f32 (cell h17 ⟨g3, 4, none⟩) fun r20 =>
    CALL prg f_impl_SameSample #[.float .f32 r19, .float .f32 r20] (fun q21 h22 =>
    asB q21 fun b23 =>
    Post (.bool b23) h22) h17) (
    Post (.bool false) h17)) h12) (
    Post (.bool false) h12)) h4) (
    Post (.bool false) h4)) (
    Post (.bool false) h4)) h2) h
noncomputable def impl_sameInstruments_c1.code : Code := (Try.f197.body).getD .skip
theorem impl_sameInstruments_c1.call {x_0 : Array Value} {y_1 : Array Value} {Post : Value → Heap → Prop} {h : Heap} (H : impl_sameInstruments_c1.S x_0 y_1 Post h) : CALL prg f_impl_sameInstruments_c1 #[.agg x_0, .agg y_1] Post h :=
  fn_call tau_ok mixed (c := impl_sameInstruments_c1.code) (Λ := lookL []) Try.func197 (by kernel_rfl) (by kernel_rfl)
    (Rq.free (by kernel_rfl))
    (Eq.mp (by kernel_rfl) H)

def impl_sameInstruments.S (a_0b : Option Addr) (a_0l a_0c : Nat) (b_1b : Option Addr) (b_1l b_1c : Nat) (Post : Value → Heap → Prop) (h : Heap) : Prop :=
    CALL prg f_slices_EqualFunc_sl_impl_Instrument_sl_impl_Instrument_impl_Instrument_impl_Instrument #[.slice a_0b a_0l a_0c, .slice b_1b b_1l b_1c, .func (.func 197) #[] #[]] (fun q1 h2 =>
    asB q1 fun b3 =>
    Post (.bool b3) h2) h
noncomputable def impl_sameInstruments.code : Code := (Try.f182.body).getD .skip
theorem impl_sameInstruments.call {a_0b : Option Addr} {a_0l a_0c : Nat} {b_1b : Option Addr} {b_1l b_1c : Nat} {Post : Value → Heap → Prop} {h : Heap} (H : impl_sameInstruments.S a_0b a_0l a_0c b_1b b_1l b_1c Post h) : CALL prg f_impl_sameInstruments #[.slice a_0b a_0l a_0c, .slice b_1b b_1l b_1c] Post h :=
  fn_call tau_ok mixed (c := impl_sameInstruments.code) (Λ := lookL []) Try.func182 (by kernel_rfl) (by kernel_rfl)
    (Rq.free (by kernel_rfl))
    (Eq.mp (by kernel_rfl) H)

def impl_sameGround.S (s_0 : Array Value) (t_1 : Array Value) (Post : Value → Heap → Prop) (h : Heap) : Prop :=
    ALC s_0 T_impl_Score (fun g1 h2 =>
    ALC t_1 T_impl_Score (fun g3 h4 =>
    oF .f32 (cell h4 ⟨g1, 0, none⟩) fun r5 =>
    oF .f32 (cell h4 ⟨g3, 0, none⟩) fun r6 =>
    CALL prg f_impl_SameSample #[.float .f32 r5, .float .f32 r6] (fun q7 h8 =>
    asB q7 fun b9 =>
    BIF b9 (
    LDA 3 h8 ⟨g1, 1, none⟩ fun a10 =>
    LDA 3 h8 ⟨g3, 1, none⟩ fun a11 =>
    CALL prg f_impl_SameTuning #[.agg a10, .agg a11] (fun q12 h13 =>
    asB q12 fun b14 =>
    BIF b14 (
    oL (cell h13 ⟨g1, 4, none⟩) fun l15b l15l l15c =>
    oL (cell h13 ⟨g3, 4, none⟩) fun l16b l16l l16c =>
    CALL prg f_impl_sameInstruments #[.slice l15b l15l l15c, .slice l16b l16l l16c] (fun q17 h18 =>
    asB q17 fun b19 =>
    Post (.bool b19) h18) h13) (
    Post (.bool false) h13)) h8) (
    Post (.bool false) h8)) h4) h2) h
noncomputable def impl_sameGround.code : Code := (Try.f137.body).getD .skip
theorem impl_sameGround.call {s_0 : Array Value} {t_1 : Array Value} {Post : Value → Heap → Prop} {h : Heap} (H : impl_sameGround.S s_0 t_1 Post h) : CALL prg f_impl_sameGround #[.agg s_0, .agg t_1] Post h :=
  fn_call tau_ok mixed (c := impl_sameGround.code) (Λ := lookL []) Try.func137 (by kernel_rfl) (by kernel_rfl)
    (Rq.free (by kernel_rfl))
    (Eq.mp (by kernel_rfl) H)

def slices_EqualFunc_sl_impl_Event_sl_impl_Event_impl_Event_impl_Event.B4 (Post : Value → Heap → Prop) (N4 : (Option Addr × Nat × Nat × Value × Option Addr × Nat × Nat × Int × Int) → Heap → Prop) : Option Addr × Nat × Nat × Value × Option Addr × Nat × Nat × Int × Int → Heap → Prop
  | (s2_1b, s2_1l, s2_1c, eq_2, t15b, t15l, t15c, t16, t17), h =>
    BIF (decide (t17 < t16)) (
    IDXS t15b t17 t15l fun p7 =>
    LDA 6 h ((Addr.add p7 ((Int.toNat t17) * 6))) fun a8 =>
    ALC ⟨Z_impl_Event⟩ T_impl_Event (fun g9 h10 =>
    STA 6 h10 ⟨g9, 0, none⟩ a8 fun h11 =>
    IDXS s2_1b t17 s2_1l fun p12 =>
    LDA 6 h11 ((Addr.add p12 ((Int.toNat t17) * 6))) fun a13 =>
    ALC ⟨Z_impl_Event⟩ T_impl_Event (fun g14 h15 =>
    STA 6 h15 ⟨g14, 0, none⟩ a13 fun h16 =>
    LDA 6 h16 ⟨g9, 0, none⟩ fun a17 =>
    LDA 6 h16 ⟨g14, 0, none⟩ fun a18 =>
    CALLD prg eq_2 #[.agg a17, .agg a18] (fun q19 h20 =>
    asB q19 fun b21 =>
    BIF (!b21) (
    Post (.bool false) h20) (
    N4 (s2_1b, s2_1l, s2_1c, eq_2, t15b, t15l, t15c, t16, ((IntKind.i64.wrap (t17 + (1 : Int))))) h20)) h16) h11) h) (
    Post (.bool true) h)
def slices_EqualFunc_sl_impl_Event_sl_impl_Event_impl_Event_impl_Event.g4 (fr : Frame) : Option Addr × Nat × Nat × Value × Option Addr × Nat × Nat × Int × Int := ((gLb (lget fr 1)), (gLl (lget fr 1)), (gLc (lget fr 1)), (lget fr 2), (gLb (lget fr 15)), (gLl (lget fr 15)), (gLc (lget fr 15)), (gI (lget fr 16)), (gI (lget fr 17)))
def slices_EqualFunc_sl_impl_Event_sl_impl_Event_impl_Event_impl_Event.l4 (Post : Value → Heap → Prop) : Frame → Heap → Prop := fun fr h => GRD (shape (kds 32 [(1, .l), (2, .v), (15, .l), (16, .i .i64), (17, .i .i64)]) fr) (LOOP (slices_EqualFunc_sl_impl_Event_sl_impl_Event_impl_Event_impl_Event.B4 Post) (slices_EqualFunc_sl_impl_Event_sl_impl_Event_impl_Event_impl_Event.g4 fr) h)
def slices_EqualFunc_sl_impl_Event_sl_impl_Event_impl_Event_impl_Event.S (s1_0b : Option Addr) (s1_0l s1_0c : Nat) (s2_1b : Option Addr) (s2_1l s2_1c : Nat) (eq_2 : Value) (Post : Value → Heap → Prop) (h : Heap) : Prop :=
    BIF ((s1_0l : Int) != (s2_1l : Int)) (
    Post (.bool false) h) (
    LOOP (slices_EqualFunc_sl_impl_Event_sl_impl_Event_impl_Event_impl_Event.B4 Post) (s2_1b, s2_1l, s2_1c, eq_2, s1_0b, s1_0l, s1_0c, (s1_0l : Int), (0 : Int)) h)
noncomputable def slices_EqualFunc_sl_impl_Event_sl_impl_Event_impl_Event_impl_Event.code : Code := (Try.f138.body).getD .skip
theorem slices_EqualFunc_sl_impl_Event_sl_impl_Event_impl_Event_impl_Event.call {s1_0b : Option Addr} {s1_0l s1_0c : Nat} {s2_1b : Option Addr} {s2_1l s2_1c : Nat} {eq_2 : Value} {Post : Value → Heap → Prop} {h : Heap} (H : slices_EqualFunc_sl_impl_Event_sl_impl_Event_impl_Event_impl_Event.S s1_0b s1_0l s1_0c s2_1b s2_1l s2_1c eq_2 Post h) : CALL prg f_slices_EqualFunc_sl_impl_Event_sl_impl_Event_impl_Event_impl_Event #[.slice s1_0b s1_0l s1_0c, .slice s2_1b s2_1l s2_1c, eq_2] Post h :=
  fn_call tau_ok mixed (c := slices_EqualFunc_sl_impl_Event_sl_impl_Event_impl_Event_impl_Event.code) (Λ := lookL [(1000004, slices_EqualFunc_sl_impl_Event_sl_impl_Event_impl_Event_impl_Event.l4 Post)]) Try.func138 (by kernel_rfl) (by kernel_rfl)
    (Rq.seq (by kernel_rfl) (Rq.free (by kernel_rfl)) (Rq.seq (by kernel_rfl) (Rq.free (by kernel_rfl)) (Rq.seq (by kernel_rfl) (Rq.seq (by kernel_rfl) (Rq.free (by kernel_rfl)) (Rq.block (Rq.loop (slices_EqualFunc_sl_impl_Event_sl_impl_Event_impl_Event_impl_Event.l4 Post) (by kernel_rfl) (segL (g := slices_EqualFunc_sl_impl_Event_sl_impl_Event_impl_Event_impl_Event.g4) tau_ok mixed (Λ := fun N4 => lookL []) (fun _ _ _ => by kernel_rfl) (fun N4 => (Rq.free (by kernel_rfl))))))) (Rq.free (by kernel_rfl)))))
    (Eq.mp (by kernel_rfl) H)

def impl_sameEvent.S (x_0 : Array Value) (y_1 : Array Value) (Post : Value → Heap → Prop) (h : Heap) : Prop :=
    ALC x_0 T_impl_Event (fun g1 h2 =>
    ALC y_1 T_impl_Event (fun g3 h4 =>
    oI .i64 (cell h4 ⟨g1, 0, none⟩) fun n5 =>
    oI .i64 (cell h4 ⟨g3, 0, none⟩) fun n6 =>
    BIF (n5 == n6) (
    oI .i64 (cell h4 ⟨g1, 1, none⟩) fun n7 =>
    oI .i64 (cell h4 ⟨g3, 1, none⟩) fun n8 =>
    BIF (n7 == n8) (
    oI .i64 (cell h4 ⟨g1, 2, none⟩) fun n9 =>
    oI .i64 (cell h4 ⟨g3, 2, none⟩) fun n10 =>
    BIF (n9 == n10) (
    oI .i64 (cell h4 ⟨g1, 3, none⟩) fun n11 =>
    oI .i64 (cell h4 ⟨g3, 3, none⟩) fun n12 =>
    BIF (n11 == n12) (
    oI .i64 (cell h4 ⟨g1, 4, none⟩) fun n13 =>
    oI .i64 (cell h4 ⟨g3, 4, none⟩) fun n14 =>
    BIF (n13 == n14) (
    oF .f32 (cell h4 ⟨g1, 5, none⟩) fun r15 =>
    oF .f32 (cell h4 ⟨g3, 5, none⟩) fun r16 =>
    CALL prg f_impl_SameSample #[.float .f32 r15, .float .f32 r16] (fun q17 h18 =>
    asB q17 fun b19 =>
    Post (.bool b19) h18) h4) (
    Post (.bool false) h4)) (
    Post (.bool false) h4)) (
    Post (.bool false) h4)) (
    Post (.bool false) h4)) (
    Post (.bool false) h4)) h2) h
noncomputable def impl_sameEvent.code : Code := (Try.f139.body).getD .skip
theorem impl_sameEvent.call {x_0 : Array Value} {y_1 : Array Value} {Post : Value → Heap → Prop} {h : Heap} (H : impl_sameEvent.S x_0 y_1 Post h) : CALL prg f_impl_sameEvent #[.agg x_0, .agg y_1] Post h :=
  fn_call tau_ok mixed (c := impl_sameEvent.code) (Λ := lookL []) Try.func139 (by kernel_rfl) (by kernel_rfl)
    (Rq.free (by kernel_rfl))
    (Eq.mp (by kernel_rfl) H)

def impl_SameScore.S (s_0 : Array Value) (t_1 : Array Value) (Post : Value → Heap → Prop) (h : Heap) : Prop :=
    ALC s_0 T_impl_Score (fun g1 h2 =>
    ALC t_1 T_impl_Score (fun g3 h4 =>
    LDA 6 h4 ⟨g1, 0, none⟩ fun a5 =>
    LDA 6 h4 ⟨g3, 0, none⟩ fun a6 =>
    CALL prg f_impl_sameGround #[.agg a5, .agg a6] (fun q7 h8 =>
    asB q7 fun b9 =>
    BIF b9 (
    oL (cell h8 ⟨g1, 5, none⟩) fun l10b l10l l10c =>
    oL (cell h8 ⟨g3, 5, none⟩) fun l11b l11l l11c =>
    CALL prg f_slices_EqualFunc_sl_impl_Event_sl_impl_Event_impl_Event_impl_Event #[.slice l10b l10l l10c, .slice l11b l11l l11c, .func (.func 139) #[] #[]] (fun q12 h13 =>
    asB q12 fun b14 =>
    Post (.bool b14) h13) h8) (
    Post (.bool false) h8)) h4) h2) h
noncomputable def impl_SameScore.code : Code := (Try.f75.body).getD .skip
theorem impl_SameScore.call {s_0 : Array Value} {t_1 : Array Value} {Post : Value → Heap → Prop} {h : Heap} (H : impl_SameScore.S s_0 t_1 Post h) : CALL prg f_impl_SameScore #[.agg s_0, .agg t_1] Post h :=
  fn_call tau_ok mixed (c := impl_SameScore.code) (Λ := lookL []) Try.func75 (by kernel_rfl) (by kernel_rfl)
    (Rq.free (by kernel_rfl))
    (Eq.mp (by kernel_rfl) H)

def slices_EqualFunc_sl_impl_Voice_sl_impl_Voice_impl_Voice_impl_Voice.B4 (Post : Value → Heap → Prop) (N4 : (Option Addr × Nat × Nat × Value × Option Addr × Nat × Nat × Int × Int) → Heap → Prop) : Option Addr × Nat × Nat × Value × Option Addr × Nat × Nat × Int × Int → Heap → Prop
  | (s2_1b, s2_1l, s2_1c, eq_2, t15b, t15l, t15c, t16, t17), h =>
    BIF (decide (t17 < t16)) (
    IDXS t15b t17 t15l fun p7 =>
    LDA 45 h ((Addr.add p7 ((Int.toNat t17) * 45))) fun a8 =>
    ALC ⟨Z_impl_Voice⟩ T_impl_Voice (fun g9 h10 =>
    STA 45 h10 ⟨g9, 0, none⟩ a8 fun h11 =>
    IDXS s2_1b t17 s2_1l fun p12 =>
    LDA 45 h11 ((Addr.add p12 ((Int.toNat t17) * 45))) fun a13 =>
    ALC ⟨Z_impl_Voice⟩ T_impl_Voice (fun g14 h15 =>
    STA 45 h15 ⟨g14, 0, none⟩ a13 fun h16 =>
    LDA 45 h16 ⟨g9, 0, none⟩ fun a17 =>
    LDA 45 h16 ⟨g14, 0, none⟩ fun a18 =>
    CALLD prg eq_2 #[.agg a17, .agg a18] (fun q19 h20 =>
    asB q19 fun b21 =>
    BIF (!b21) (
    Post (.bool false) h20) (
    N4 (s2_1b, s2_1l, s2_1c, eq_2, t15b, t15l, t15c, t16, ((IntKind.i64.wrap (t17 + (1 : Int))))) h20)) h16) h11) h) (
    Post (.bool true) h)
def slices_EqualFunc_sl_impl_Voice_sl_impl_Voice_impl_Voice_impl_Voice.g4 (fr : Frame) : Option Addr × Nat × Nat × Value × Option Addr × Nat × Nat × Int × Int := ((gLb (lget fr 1)), (gLl (lget fr 1)), (gLc (lget fr 1)), (lget fr 2), (gLb (lget fr 15)), (gLl (lget fr 15)), (gLc (lget fr 15)), (gI (lget fr 16)), (gI (lget fr 17)))
def slices_EqualFunc_sl_impl_Voice_sl_impl_Voice_impl_Voice_impl_Voice.l4 (Post : Value → Heap → Prop) : Frame → Heap → Prop := fun fr h => GRD (shape (kds 32 [(1, .l), (2, .v), (15, .l), (16, .i .i64), (17, .i .i64)]) fr) (LOOP (slices_EqualFunc_sl_impl_Voice_sl_impl_Voice_impl_Voice_impl_Voice.B4 Post) (slices_EqualFunc_sl_impl_Voice_sl_impl_Voice_impl_Voice_impl_Voice.g4 fr) h)
def slices_EqualFunc_sl_impl_Voice_sl_impl_Voice_impl_Voice_impl_Voice.S (s1_0b : Option Addr) (s1_0l s1_0c : Nat) (s2_1b : Option Addr) (s2_1l s2_1c : Nat) (eq_2 : Value) (Post : Value → Heap → Prop) (h : Heap) : Prop :=
    BIF ((s1_0l : Int) != (s2_1l : Int)) (
    Post (.bool false) h) (
    LOOP (slices_EqualFunc_sl_impl_Voice_sl_impl_Voice_impl_Voice_impl_Voice.B4 Post) (s2_1b, s2_1l, s2_1c, eq_2, s1_0b, s1_0l, s1_0c, (s1_0l : Int), (0 : Int)) h)
noncomputable def slices_EqualFunc_sl_impl_Voice_sl_impl_Voice_impl_Voice_impl_Voice.code : Code := (Try.f76.body).getD .skip
theorem slices_EqualFunc_sl_impl_Voice_sl_impl_Voice_impl_Voice_impl_Voice.call {s1_0b : Option Addr} {s1_0l s1_0c : Nat} {s2_1b : Option Addr} {s2_1l s2_1c : Nat} {eq_2 : Value} {Post : Value → Heap → Prop} {h : Heap} (H : slices_EqualFunc_sl_impl_Voice_sl_impl_Voice_impl_Voice_impl_Voice.S s1_0b s1_0l s1_0c s2_1b s2_1l s2_1c eq_2 Post h) : CALL prg f_slices_EqualFunc_sl_impl_Voice_sl_impl_Voice_impl_Voice_impl_Voice #[.slice s1_0b s1_0l s1_0c, .slice s2_1b s2_1l s2_1c, eq_2] Post h :=
  fn_call tau_ok mixed (c := slices_EqualFunc_sl_impl_Voice_sl_impl_Voice_impl_Voice_impl_Voice.code) (Λ := lookL [(1000004, slices_EqualFunc_sl_impl_Voice_sl_impl_Voice_impl_Voice_impl_Voice.l4 Post)]) Try.func76 (by kernel_rfl) (by kernel_rfl)
    (Rq.seq (by kernel_rfl) (Rq.free (by kernel_rfl)) (Rq.seq (by kernel_rfl) (Rq.free (by kernel_rfl)) (Rq.seq (by kernel_rfl) (Rq.seq (by kernel_rfl) (Rq.free (by kernel_rfl)) (Rq.block (Rq.loop (slices_EqualFunc_sl_impl_Voice_sl_impl_Voice_impl_Voice_impl_Voice.l4 Post) (by kernel_rfl) (segL (g := slices_EqualFunc_sl_impl_Voice_sl_impl_Voice_impl_Voice_impl_Voice.g4) tau_ok mixed (Λ := fun N4 => lookL []) (fun _ _ _ => by kernel_rfl) (fun N4 => (Rq.free (by kernel_rfl))))))) (Rq.free (by kernel_rfl)))))
    (Eq.mp (by kernel_rfl) H)

def impl_SameRing.S (r_0 : Array Value) (s_1 : Array Value) (Post : Value → Heap → Prop) (h : Heap) : Prop :=
    ALC r_0 T_impl_Ring (fun g1 h2 =>
    ALC s_1 T_impl_Ring (fun g3 h4 =>
    oL (cell h4 ⟨g1, 0, none⟩) fun l5b l5l l5c =>
    oL (cell h4 ⟨g3, 0, none⟩) fun l6b l6l l6c =>
    CALL prg f_impl_sameSamples #[.slice l5b l5l l5c, .slice l6b l6l l6c] (fun q7 h8 =>
    asB q7 fun b9 =>
    BIF b9 (
    oI .i64 (cell h8 ⟨g1, 1, none⟩) fun n10 =>
    oI .i64 (cell h8 ⟨g3, 1, none⟩) fun n11 =>
    Post (.bool (n10 == n11)) h8) (
    Post (.bool false) h8)) h4) h2) h
noncomputable def impl_SameRing.code : Code := (Try.f183.body).getD .skip
theorem impl_SameRing.call {r_0 : Array Value} {s_1 : Array Value} {Post : Value → Heap → Prop} {h : Heap} (H : impl_SameRing.S r_0 s_1 Post h) : CALL prg f_impl_SameRing #[.agg r_0, .agg s_1] Post h :=
  fn_call tau_ok mixed (c := impl_SameRing.code) (Λ := lookL []) Try.func183 (by kernel_rfl) (by kernel_rfl)
    (Rq.free (by kernel_rfl))
    (Eq.mp (by kernel_rfl) H)

def impl_SameFilter.S (f_0 : Array Value) (g_1 : Array Value) (Post : Value → Heap → Prop) (h : Heap) : Prop :=
    ALC f_0 T_impl_Filter (fun g1 h2 =>
    ALC g_1 T_impl_Filter (fun g3 h4 =>
    oI .i64 (cell h4 ⟨g1, 0, none⟩) fun n5 =>
    oI .i64 (cell h4 ⟨g3, 0, none⟩) fun n6 =>
    BIF (n5 == n6) (
    SLB (0 : Int) (3 : Int) (3 : Int) <|
    SLB (0 : Int) (3 : Int) (3 : Int) <|
    CALL prg f_impl_sameSamples #[.slice (some (slP ⟨g1, 1, none⟩ 3 0 1)) (3 - 0) (3 - 0), .slice (some (slP ⟨g3, 1, none⟩ 3 0 1)) (3 - 0) (3 - 0)] (fun q7 h8 =>
    asB q7 fun b9 =>
    BIF b9 (
    SLB (0 : Int) (2 : Int) (2 : Int) <|
    SLB (0 : Int) (2 : Int) (2 : Int) <|
    CALL prg f_impl_sameSamples #[.slice (some (slP ⟨g1, 4, none⟩ 2 0 1)) (2 - 0) (2 - 0), .slice (some (slP ⟨g3, 4, none⟩ 2 0 1)) (2 - 0) (2 - 0)] (fun q10 h11 =>
    asB q10 fun b12 =>
    Post (.bool b12) h11) h8) (
    Post (.bool false) h8)) h4) (
    Post (.bool false) h4)) h2) h
noncomputable def impl_SameFilter.code : Code := (Try.f184.body).getD .skip
theorem impl_SameFilter.call {f_0 : Array Value} {g_1 : Array Value} {Post : Value → Heap → Prop} {h : Heap} (H : impl_SameFilter.S f_0 g_1 Post h) : CALL prg f_impl_SameFilter #[.agg f_0, .agg g_1] Post h :=
  fn_call tau_ok mixed (c := impl_SameFilter.code) (Λ := lookL []) Try.func184 (by kernel_rfl) (by kernel_rfl)
    (Rq.free (by kernel_rfl))
    (Eq.mp (by kernel_rfl) H)

def impl_SameString.S (x_0 : Array Value) (y_1 : Array Value) (Post : Value → Heap → Prop) (h : Heap) : Prop :=
    ALC x_0 T_impl_String (fun g1 h2 =>
    ALC y_1 T_impl_String (fun g3 h4 =>
    LDA 2 h4 ⟨g1, 0, none⟩ fun a5 =>
    LDA 2 h4 ⟨g3, 0, none⟩ fun a6 =>
    CALL prg f_impl_SameRing #[.agg a5, .agg a6] (fun q7 h8 =>
    asB q7 fun b9 =>
    BIF b9 (
    LDA 6 h8 ⟨g1, 2, none⟩ fun a10 =>
    LDA 6 h8 ⟨g3, 2, none⟩ fun a11 =>
    CALL prg f_impl_SameFilter #[.agg a10, .agg a11] (fun q12 h13 =>
    asB q12 fun b14 =>
    BIF b14 (
    LDA 6 h13 ⟨g1, 8, none⟩ fun a15 =>
    LDA 6 h13 ⟨g3, 8, none⟩ fun a16 =>
    CALL prg f_impl_SameFilter #[.agg a15, .agg a16] (fun q17 h18 =>
    asB q17 fun b19 =>
    BIF b19 (
    oF .f32 (cell h18 ⟨g1, 14, none⟩) fun r20 =>
    oF .f32 (cell h18 ⟨g3, 14, none⟩) fun r21 =>
    CALL prg f_impl_SameSample #[.float .f32 r20, .float .f32 r21] (fun q22 h23 =>
    asB q22 fun b24 =>
    Post (.bool b24) h23) h18) (
    Post (.bool false) h18)) h13) (
    Post (.bool false) h13)) h8) (
    Post (.bool false) h8)) h4) h2) h
noncomputable def impl_SameString.code : Code := (Try.f141.body).getD .skip
theorem impl_SameString.call {x_0 : Array Value} {y_1 : Array Value} {Post : Value → Heap → Prop} {h : Heap} (H : impl_SameString.S x_0 y_1 Post h) : CALL prg f_impl_SameString #[.agg x_0, .agg y_1] Post h :=
  fn_call tau_ok mixed (c := impl_SameString.code) (Λ := lookL []) Try.func141 (by kernel_rfl) (by kernel_rfl)
    (Rq.free (by kernel_rfl))
    (Eq.mp (by kernel_rfl) H)

def slices_EqualFunc_sl_impl_Ring_sl_impl_Ring_impl_Ring_impl_Ring.B4 (Post : Value → Heap → Prop) (N4 : (Option Addr × Nat × Nat × Value × Option Addr × Nat × Nat × Int × Int) → Heap → Prop) : Option Addr × Nat × Nat × Value × Option Addr × Nat × Nat × Int × Int → Heap → Prop
  | (s2_1b, s2_1l, s2_1c, eq_2, t15b, t15l, t15c, t16, t17), h =>
    BIF (decide (t17 < t16)) (
    IDXS t15b t17 t15l fun p7 =>
    LDA 2 h ((Addr.add p7 ((Int.toNat t17) * 2))) fun a8 =>
    ALC ⟨Z_impl_Ring⟩ T_impl_Ring (fun g9 h10 =>
    STA 2 h10 ⟨g9, 0, none⟩ a8 fun h11 =>
    IDXS s2_1b t17 s2_1l fun p12 =>
    LDA 2 h11 ((Addr.add p12 ((Int.toNat t17) * 2))) fun a13 =>
    ALC ⟨Z_impl_Ring⟩ T_impl_Ring (fun g14 h15 =>
    STA 2 h15 ⟨g14, 0, none⟩ a13 fun h16 =>
    LDA 2 h16 ⟨g9, 0, none⟩ fun a17 =>
    LDA 2 h16 ⟨g14, 0, none⟩ fun a18 =>
    CALLD prg eq_2 #[.agg a17, .agg a18] (fun q19 h20 =>
    asB q19 fun b21 =>
    BIF (!b21) (
    Post (.bool false) h20) (
    N4 (s2_1b, s2_1l, s2_1c, eq_2, t15b, t15l, t15c, t16, ((IntKind.i64.wrap (t17 + (1 : Int))))) h20)) h16) h11) h) (
    Post (.bool true) h)
def slices_EqualFunc_sl_impl_Ring_sl_impl_Ring_impl_Ring_impl_Ring.g4 (fr : Frame) : Option Addr × Nat × Nat × Value × Option Addr × Nat × Nat × Int × Int := ((gLb (lget fr 1)), (gLl (lget fr 1)), (gLc (lget fr 1)), (lget fr 2), (gLb (lget fr 15)), (gLl (lget fr 15)), (gLc (lget fr 15)), (gI (lget fr 16)), (gI (lget fr 17)))
def slices_EqualFunc_sl_impl_Ring_sl_impl_Ring_impl_Ring_impl_Ring.l4 (Post : Value → Heap → Prop) : Frame → Heap → Prop := fun fr h => GRD (shape (kds 32 [(1, .l), (2, .v), (15, .l), (16, .i .i64), (17, .i .i64)]) fr) (LOOP (slices_EqualFunc_sl_impl_Ring_sl_impl_Ring_impl_Ring_impl_Ring.B4 Post) (slices_EqualFunc_sl_impl_Ring_sl_impl_Ring_impl_Ring_impl_Ring.g4 fr) h)
def slices_EqualFunc_sl_impl_Ring_sl_impl_Ring_impl_Ring_impl_Ring.S (s1_0b : Option Addr) (s1_0l s1_0c : Nat) (s2_1b : Option Addr) (s2_1l s2_1c : Nat) (eq_2 : Value) (Post : Value → Heap → Prop) (h : Heap) : Prop :=
    BIF ((s1_0l : Int) != (s2_1l : Int)) (
    Post (.bool false) h) (
    LOOP (slices_EqualFunc_sl_impl_Ring_sl_impl_Ring_impl_Ring_impl_Ring.B4 Post) (s2_1b, s2_1l, s2_1c, eq_2, s1_0b, s1_0l, s1_0c, (s1_0l : Int), (0 : Int)) h)
noncomputable def slices_EqualFunc_sl_impl_Ring_sl_impl_Ring_impl_Ring_impl_Ring.code : Code := (Try.f185.body).getD .skip
theorem slices_EqualFunc_sl_impl_Ring_sl_impl_Ring_impl_Ring_impl_Ring.call {s1_0b : Option Addr} {s1_0l s1_0c : Nat} {s2_1b : Option Addr} {s2_1l s2_1c : Nat} {eq_2 : Value} {Post : Value → Heap → Prop} {h : Heap} (H : slices_EqualFunc_sl_impl_Ring_sl_impl_Ring_impl_Ring_impl_Ring.S s1_0b s1_0l s1_0c s2_1b s2_1l s2_1c eq_2 Post h) : CALL prg f_slices_EqualFunc_sl_impl_Ring_sl_impl_Ring_impl_Ring_impl_Ring #[.slice s1_0b s1_0l s1_0c, .slice s2_1b s2_1l s2_1c, eq_2] Post h :=
  fn_call tau_ok mixed (c := slices_EqualFunc_sl_impl_Ring_sl_impl_Ring_impl_Ring_impl_Ring.code) (Λ := lookL [(1000004, slices_EqualFunc_sl_impl_Ring_sl_impl_Ring_impl_Ring_impl_Ring.l4 Post)]) Try.func185 (by kernel_rfl) (by kernel_rfl)
    (Rq.seq (by kernel_rfl) (Rq.free (by kernel_rfl)) (Rq.seq (by kernel_rfl) (Rq.free (by kernel_rfl)) (Rq.seq (by kernel_rfl) (Rq.seq (by kernel_rfl) (Rq.free (by kernel_rfl)) (Rq.block (Rq.loop (slices_EqualFunc_sl_impl_Ring_sl_impl_Ring_impl_Ring_impl_Ring.l4 Post) (by kernel_rfl) (segL (g := slices_EqualFunc_sl_impl_Ring_sl_impl_Ring_impl_Ring_impl_Ring.g4) tau_ok mixed (Λ := fun N4 => lookL []) (fun _ _ _ => by kernel_rfl) (fun N4 => (Rq.free (by kernel_rfl))))))) (Rq.free (by kernel_rfl)))))
    (Eq.mp (by kernel_rfl) H)

def impl_SamePipe.J2 (Post : Value → Heap → Prop) (x_2 : Addr) (y_3 : Addr) (rings_5 : Bool) (h : Heap) : Prop :=
    BIF rings_5 (
    oL (cell h (Addr.add x_2 2)) fun l15b l15l l15c =>
    oL (cell h (Addr.add y_3 2)) fun l16b l16l l16c =>
    CALL prg f_impl_sameSamples #[.slice l15b l15l l15c, .slice l16b l16l l16c] (fun q17 h18 =>
    asB q17 fun b19 =>
    BIF b19 (
    LDA 6 h18 (Addr.add x_2 3) fun a20 =>
    LDA 6 h18 (Addr.add y_3 3) fun a21 =>
    CALL prg f_impl_SameFilter #[.agg a20, .agg a21] (fun q22 h23 =>
    asB q22 fun b24 =>
    BIF b24 (
    oB (cell h23 (Addr.add x_2 9)) fun b25 =>
    oB (cell h23 (Addr.add y_3 9)) fun b26 =>
    BIF (b25 == b26) (
    oF .f32 (cell h23 (Addr.add x_2 10)) fun r27 =>
    oF .f32 (cell h23 (Addr.add y_3 10)) fun r28 =>
    CALL prg f_impl_SameSample #[.float .f32 r27, .float .f32 r28] (fun q29 h30 =>
    asB q29 fun b31 =>
    BIF b31 (
    oF .f32 (cell h30 (Addr.add x_2 11)) fun r32 =>
    oF .f32 (cell h30 (Addr.add y_3 11)) fun r33 =>
    CALL prg f_impl_SameSample #[.float .f32 r32, .float .f32 r33] (fun q34 h35 =>
    asB q34 fun b36 =>
    BIF b36 (
    oF .f32 (cell h35 (Addr.add x_2 12)) fun r37 =>
    oF .f32 (cell h35 (Addr.add y_3 12)) fun r38 =>
    CALL prg f_impl_SameSample #[.float .f32 r37, .float .f32 r38] (fun q39 h40 =>
    asB q39 fun b41 =>
    Post (.bool b41) h40) h35) (
    Post (.bool false) h35)) h30) (
    Post (.bool false) h30)) h23) (
    Post (.bool false) h23)) (
    Post (.bool false) h23)) h18) (
    Post (.bool false) h18)) h) (
    Post (.bool false) h)
def impl_SamePipe.j2 (Post : Value → Heap → Prop) : Frame → Heap → Prop := fun fr h => GRD (shape (kds 61 [(2, .p), (3, .p), (5, .b)]) fr) (impl_SamePipe.J2 Post (gP (lget fr 2)) (gP (lget fr 3)) (gB (lget fr 5)) h)
def impl_SamePipe.S (x_0 : Array Value) (y_1 : Array Value) (Post : Value → Heap → Prop) (h : Heap) : Prop :=
    ALC x_0 T_impl_Pipe (fun g1 h2 =>
    ALC y_1 T_impl_Pipe (fun g3 h4 =>
    oL (cell h4 ⟨g1, 0, none⟩) fun l5b l5l l5c =>
    oL (cell h4 ⟨g3, 0, none⟩) fun l6b l6l l6c =>
    CALL prg f_slices_EqualFunc_sl_impl_Ring_sl_impl_Ring_impl_Ring_impl_Ring #[.slice l5b l5l l5c, .slice l6b l6l l6c, .func (.func 183) #[] #[]] (fun q7 h8 =>
    asB q7 fun b9 =>
    BIF b9 (
    oL (cell h8 ⟨g1, 1, none⟩) fun l10b l10l l10c =>
    oL (cell h8 ⟨g3, 1, none⟩) fun l11b l11l l11c =>
    CALL prg f_slices_EqualFunc_sl_impl_Ring_sl_impl_Ring_impl_Ring_impl_Ring #[.slice l10b l10l l10c, .slice l11b l11l l11c, .func (.func 183) #[] #[]] (fun q12 h13 =>
    asB q12 fun b14 =>
    impl_SamePipe.J2 Post ⟨g1, 0, none⟩ ⟨g3, 0, none⟩ b14 h13) h8) (
    impl_SamePipe.J2 Post ⟨g1, 0, none⟩ ⟨g3, 0, none⟩ false h8)) h4) h2) h
noncomputable def impl_SamePipe.code : Code := (Try.f142.body).getD .skip
theorem impl_SamePipe.call {x_0 : Array Value} {y_1 : Array Value} {Post : Value → Heap → Prop} {h : Heap} (H : impl_SamePipe.S x_0 y_1 Post h) : CALL prg f_impl_SamePipe #[.agg x_0, .agg y_1] Post h :=
  fn_call tau_ok mixed (c := impl_SamePipe.code) (Λ := lookL [(2, impl_SamePipe.j2 Post)]) Try.func142 (by kernel_rfl) (by kernel_rfl)
    (Rq.seq (by kernel_rfl) (Rq.free (by kernel_rfl)) (Rq.seqJ (impl_SamePipe.j2 Post) (by kernel_rfl) (seg (fun _ _ => by kernel_rfl)) (Rq.free (by kernel_rfl))
(Rq.free (by kernel_rfl))))
    (Eq.mp (by kernel_rfl) H)

def impl_SameBow.S (x_0 : Array Value) (y_1 : Array Value) (Post : Value → Heap → Prop) (h : Heap) : Prop :=
    ALC x_0 T_impl_Bow (fun g1 h2 =>
    ALC y_1 T_impl_Bow (fun g3 h4 =>
    LDA 2 h4 ⟨g1, 0, none⟩ fun a5 =>
    LDA 2 h4 ⟨g3, 0, none⟩ fun a6 =>
    CALL prg f_impl_SameRing #[.agg a5, .agg a6] (fun q7 h8 =>
    asB q7 fun b9 =>
    BIF b9 (
    LDA 2 h8 ⟨g1, 2, none⟩ fun a10 =>
    LDA 2 h8 ⟨g3, 2, none⟩ fun a11 =>
    CALL prg f_impl_SameRing #[.agg a10, .agg a11] (fun q12 h13 =>
    asB q12 fun b14 =>
    BIF b14 (
    LDA 6 h13 ⟨g1, 4, none⟩ fun a15 =>
    LDA 6 h13 ⟨g3, 4, none⟩ fun a16 =>
    CALL prg f_impl_SameFilter #[.agg a15, .agg a16] (fun q17 h18 =>
    asB q17 fun b19 =>
    BIF b19 (
    oF .f32 (cell h18 ⟨g1, 10, none⟩) fun r20 =>
    oF .f32 (cell h18 ⟨g3, 10, none⟩) fun r21 =>
    CALL prg f_impl_SameSample #[.float .f32 r20, .float .f32 r21] (fun q22 h23 =>
    asB q22 fun b24 =>
    BIF b24 (
    oF .f32 (cell h23 ⟨g1, 11, none⟩) fun r25 =>
    oF .f32 (cell h23 ⟨g3, 11, none⟩) fun r26 =>
    CALL prg f_impl_SameSample #[.float .f32 r25, .float .f32 r26] (fun q27 h28 =>
    asB q27 fun b29 =>
    Post (.bool b29) h28) h23) (
    Post (.bool false) h23)) h18) (
    Post (.bool false) h18)) h13) (
    Post (.bool false) h13)) h8) (
    Post (.bool false) h8)) h4) h2) h
noncomputable def impl_SameBow.code : Code := (Try.f143.body).getD .skip
theorem impl_SameBow.call {x_0 : Array Value} {y_1 : Array Value} {Post : Value → Heap → Prop} {h : Heap} (H : impl_SameBow.S x_0 y_1 Post h) : CALL prg f_impl_SameBow #[.agg x_0, .agg y_1] Post h :=
  fn_call tau_ok mixed (c := impl_SameBow.code) (Λ := lookL []) Try.func143 (by kernel_rfl) (by kernel_rfl)
    (Rq.free (by kernel_rfl))
    (Eq.mp (by kernel_rfl) H)

def impl_sameVoice.S (v_0 : Array Value) (w_1 : Array Value) (Post : Value → Heap → Prop) (h : Heap) : Prop :=
    ALC v_0 T_impl_Voice (fun g1 h2 =>
    ALC w_1 T_impl_Voice (fun g3 h4 =>
    oI .i64 (cell h4 ⟨g1, 0, none⟩) fun n5 =>
    oI .i64 (cell h4 ⟨g3, 0, none⟩) fun n6 =>
    BIF (n5 == n6) (
    oI .i64 (cell h4 ⟨g1, 1, none⟩) fun n7 =>
    oI .i64 (cell h4 ⟨g3, 1, none⟩) fun n8 =>
    BIF (n7 == n8) (
    oI .i64 (cell h4 ⟨g1, 2, none⟩) fun n9 =>
    oI .i64 (cell h4 ⟨g3, 2, none⟩) fun n10 =>
    BIF (n9 == n10) (
    oB (cell h4 ⟨g1, 3, none⟩) fun b11 =>
    oB (cell h4 ⟨g3, 3, none⟩) fun b12 =>
    BIF (b11 == b12) (
    oF .f32 (cell h4 ⟨g1, 4, none⟩) fun r13 =>
    oF .f32 (cell h4 ⟨g3, 4, none⟩) fun r14 =>
    CALL prg f_impl_SameSample #[.float .f32 r13, .float .f32 r14] (fun q15 h16 =>
    asB q15 fun b17 =>
    BIF b17 (
    LDA 15 h16 ⟨g1, 5, none⟩ fun a18 =>
    LDA 15 h16 ⟨g3, 5, none⟩ fun a19 =>
    CALL prg f_impl_SameString #[.agg a18, .agg a19] (fun q20 h21 =>
    asB q20 fun b22 =>
    BIF b22 (
    LDA 13 h21 ⟨g1, 20, none⟩ fun a23 =>
    LDA 13 h21 ⟨g3, 20, none⟩ fun a24 =>
    CALL prg f_impl_SamePipe #[.agg a23, .agg a24] (fun q25 h26 =>
    asB q25 fun b27 =>
    BIF b27 (
    LDA 12 h26 ⟨g1, 33, none⟩ fun a28 =>
    LDA 12 h26 ⟨g3, 33, none⟩ fun a29 =>
    CALL prg f_impl_SameBow #[.agg a28, .agg a29] (fun q30 h31 =>
    asB q30 fun b32 =>
    Post (.bool b32) h31) h26) (
    Post (.bool false) h26)) h21) (
    Post (.bool false) h21)) h16) (
    Post (.bool false) h16)) h4) (
    Post (.bool false) h4)) (
    Post (.bool false) h4)) (
    Post (.bool false) h4)) (
    Post (.bool false) h4)) h2) h
noncomputable def impl_sameVoice.code : Code := (Try.f77.body).getD .skip
theorem impl_sameVoice.call {v_0 : Array Value} {w_1 : Array Value} {Post : Value → Heap → Prop} {h : Heap} (H : impl_sameVoice.S v_0 w_1 Post h) : CALL prg f_impl_sameVoice #[.agg v_0, .agg w_1] Post h :=
  fn_call tau_ok mixed (c := impl_sameVoice.code) (Λ := lookL []) Try.func77 (by kernel_rfl) (by kernel_rfl)
    (Rq.free (by kernel_rfl))
    (Eq.mp (by kernel_rfl) H)

end Go.Sx
