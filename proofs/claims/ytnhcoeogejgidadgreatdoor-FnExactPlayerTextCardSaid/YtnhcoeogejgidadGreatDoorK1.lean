/- What functions of this seat's program compute, told in words (a predicate over heaps for each), and the proofs that the words are no more than the code's own weakest precondition. -/
import Derived.Test.YtnhcoeogejgidadGreatDoorTab
namespace Go.Sx
open Go.Proofs
set_option linter.unusedVariables false
set_option maxRecDepth 100000

def spec_l02Ring.S (r_0 : Addr) (Post : Value → Heap → Prop) (h : Heap) : Prop :=
    oL (cell h r_0) fun l1b l1l l1c =>
    CALL prg f_spec_l00In #[.int .i64 (l1l : Int), .int .i64 (1 : Int), .int .i64 (1024 : Int)] (fun q4 h5 =>
    asB q4 fun b6 =>
    BIF b6 (
    oI .i64 (cell h5 (Addr.add r_0 1)) fun n7 =>
    CALL prg f_spec_l00In #[.int .i64 n7, .int .i64 (0 : Int), .int .i64 ((IntKind.i64.wrap ((l1l : Int) - (1 : Int))))] (fun q8 h9 =>
    asB q8 fun b10 =>
    Post (.bool b10) h9) h5) (
    Post (.bool false) h5)) h
noncomputable def spec_l02Ring.code : Code := (Tryz.f207.body).getD .skip
theorem spec_l02Ring.call {r_0 : Addr} {Post : Value → Heap → Prop} {h : Heap} (H : spec_l02Ring.S r_0 Post h) : CALL prg f_spec_l02Ring #[.pointer (some r_0)] Post h :=
  fn_call tau_ok mixed (c := spec_l02Ring.code) (Λ := lookL []) Tryz.func207 (by kernel_rfl) (by kernel_rfl)
    (Rq.free (by kernel_rfl))
    (Eq.mp (by kernel_rfl) H)

def impl_ValidRing.S (r_0 : Array Value) (Post : Value → Heap → Prop) (h : Heap) : Prop :=
    ALC r_0 T_impl_Ring (fun g1 h2 =>
    oL (cell h2 ⟨g1, 0, none⟩) fun l3b l3l l3c =>
    CALL prg f_impl_length_float32 #[.slice l3b l3l l3c] (fun q4 h5 =>
    asI .i64 q4 fun n6 =>
    CALL prg f_impl_within #[.int .i64 n6, .int .i64 (1 : Int), .int .i64 (1024 : Int)] (fun q7 h8 =>
    asB q7 fun b9 =>
    BIF b9 (
    oI .i64 (cell h8 ⟨g1, 1, none⟩) fun n10 =>
    oL (cell h8 ⟨g1, 0, none⟩) fun l11b l11l l11c =>
    CALL prg f_impl_length_float32 #[.slice l11b l11l l11c] (fun q12 h13 =>
    asI .i64 q12 fun n14 =>
    PIN h8 ⟨g1, 1, none⟩ 1 h13 <|
    CALL prg f_impl_within #[.int .i64 n10, .int .i64 (0 : Int), .int .i64 ((IntKind.i64.wrap (n14 - (1 : Int))))] (fun q15 h16 =>
    asB q15 fun b17 =>
    Post (.bool b17) h16) h13) h8) (
    Post (.bool false) h8)) h5) h2) h
noncomputable def impl_ValidRing.code : Code := (Tryz.f220.body).getD .skip
theorem impl_ValidRing.call {r_0 : Array Value} {Post : Value → Heap → Prop} {h : Heap} (H : impl_ValidRing.S r_0 Post h) : CALL prg f_impl_ValidRing #[.agg r_0] Post h :=
  fn_call tau_ok mixed (c := impl_ValidRing.code) (Λ := lookL []) Tryz.func220 (by kernel_rfl) (by kernel_rfl)
    (Rq.free (by kernel_rfl))
    (Eq.mp (by kernel_rfl) H)

def spec_l04All.B2 (Post : Value → Heap → Prop) (N2 : (Option Addr × Nat × Nat × Int) → Heap → Prop) : Option Addr × Nat × Nat × Int → Heap → Prop
  | (list_0b, list_0l, list_0c, i_3), h =>
    BIF ((decide (i_3 < (list_0l : Int)))) (
    IDXS list_0b i_3 list_0l fun p3 =>
    oF .f32 (cell h ((Addr.add p3 ((Int.toNat i_3) * 1)))) fun r4 =>
    CALL prg f_spec_l01Finite #[.float .f32 r4] (fun q5 h6 =>
    asB q5 fun b7 =>
    BIF (!b7) (
    Post (.bool false) h6) (
    N2 (list_0b, list_0l, list_0c, ((IntKind.i64.wrap (i_3 + (1 : Int))))) h6)) h) (
    Post (.bool true) h)
def spec_l04All.g2 (fr : Frame) : Option Addr × Nat × Nat × Int := ((gLb (lget fr 0)), (gLl (lget fr 0)), (gLc (lget fr 0)), (gI (lget fr 3)))
def spec_l04All.l2 (Post : Value → Heap → Prop) : Frame → Heap → Prop := fun fr h => GRD (shape (kds 16 [(0, .l), (3, .i .i64)]) fr) (LOOP (spec_l04All.B2 Post) (spec_l04All.g2 fr) h)
def spec_l04All.S (list_0b : Option Addr) (list_0l list_0c : Nat) (Post : Value → Heap → Prop) (h : Heap) : Prop :=
    LOOP (spec_l04All.B2 Post) (list_0b, list_0l, list_0c, (0 : Int)) h
noncomputable def spec_l04All.code : Code := (Tryz.f210.body).getD .skip
theorem spec_l04All.call {list_0b : Option Addr} {list_0l list_0c : Nat} {Post : Value → Heap → Prop} {h : Heap} (H : spec_l04All.S list_0b list_0l list_0c Post h) : CALL prg f_spec_l04All #[.slice list_0b list_0l list_0c] Post h :=
  fn_call tau_ok mixed (c := spec_l04All.code) (Λ := lookL [(1000002, spec_l04All.l2 Post)]) Tryz.func210 (by kernel_rfl) (by kernel_rfl)
    (Rq.seq (by kernel_rfl) (Rq.free (by kernel_rfl)) (Rq.seq (by kernel_rfl) (Rq.seq (by kernel_rfl) (Rq.free (by kernel_rfl)) (Rq.block (Rq.loop (spec_l04All.l2 Post) (by kernel_rfl) (segL (g := spec_l04All.g2) tau_ok mixed (Λ := fun N2 => lookL []) (fun _ _ _ => by kernel_rfl) (fun N2 => (Rq.free (by kernel_rfl))))))) (Rq.free (by kernel_rfl))))
    (Eq.mp (by kernel_rfl) H)

def impl_areFinite.S (list_0b : Option Addr) (list_0l list_0c : Nat) (Post : Value → Heap → Prop) (h : Heap) : Prop :=
    CALL prg f_slices_ContainsFunc_sl_float32_float32 #[.slice list_0b list_0l list_0c, .func (.func 264) #[] #[]] (fun q1 h2 =>
    asB q1 fun b3 =>
    Post (.bool (!b3)) h2) h
noncomputable def impl_areFinite.code : Code := (Tryz.f222.body).getD .skip
theorem impl_areFinite.call {list_0b : Option Addr} {list_0l list_0c : Nat} {Post : Value → Heap → Prop} {h : Heap} (H : impl_areFinite.S list_0b list_0l list_0c Post h) : CALL prg f_impl_areFinite #[.slice list_0b list_0l list_0c] Post h :=
  fn_call tau_ok mixed (c := impl_areFinite.code) (Λ := lookL []) Tryz.func222 (by kernel_rfl) (by kernel_rfl)
    (Rq.free (by kernel_rfl))
    (Eq.mp (by kernel_rfl) H)

def impl_areFinite_c1.S (a_0 : Nat) (Post : Value → Heap → Prop) (h : Heap) : Prop :=
    CALL prg f_impl_isFinite #[.float .f32 a_0] (fun q1 h2 =>
    asB q1 fun b3 =>
    Post (.bool (!b3)) h2) h
noncomputable def impl_areFinite_c1.code : Code := (Tryz.f264.body).getD .skip
theorem impl_areFinite_c1.call {a_0 : Nat} {Post : Value → Heap → Prop} {h : Heap} (H : impl_areFinite_c1.S a_0 Post h) : CALL prg f_impl_areFinite_c1 #[.float .f32 a_0] Post h :=
  fn_call tau_ok mixed (c := impl_areFinite_c1.code) (Λ := lookL []) Tryz.func264 (by kernel_rfl) (by kernel_rfl)
    (Rq.free (by kernel_rfl))
    (Eq.mp (by kernel_rfl) H)

def slices_IndexFunc_sl_float32_float32.B2 (Post : Value → Heap → Prop) (N2 : (Option Addr × Nat × Nat × Value × Int × Int) → Heap → Prop) : Option Addr × Nat × Nat × Value × Int × Int → Heap → Prop
  | (s_0b, s_0l, s_0c, f_1, t7, t8), h =>
    BIF (decide (t8 < t7)) (
    IDXS s_0b t8 s_0l fun p3 =>
    oF .f32 (cell h ((Addr.add p3 ((Int.toNat t8) * 1)))) fun r4 =>
    CALLD prg f_1 #[.float .f32 r4] (fun q5 h6 =>
    asB q5 fun b7 =>
    BIF b7 (
    Post (.int .i64 t8) h6) (
    N2 (s_0b, s_0l, s_0c, f_1, t7, ((IntKind.i64.wrap (t8 + (1 : Int))))) h6)) h) (
    Post (.int .i64 (-1 : Int)) h)
def slices_IndexFunc_sl_float32_float32.g2 (fr : Frame) : Option Addr × Nat × Nat × Value × Int × Int := ((gLb (lget fr 0)), (gLl (lget fr 0)), (gLc (lget fr 0)), (lget fr 1), (gI (lget fr 7)), (gI (lget fr 8)))
def slices_IndexFunc_sl_float32_float32.l2 (Post : Value → Heap → Prop) : Frame → Heap → Prop := fun fr h => GRD (shape (kds 19 [(0, .l), (1, .v), (7, .i .i64), (8, .i .i64)]) fr) (LOOP (slices_IndexFunc_sl_float32_float32.B2 Post) (slices_IndexFunc_sl_float32_float32.g2 fr) h)
def slices_IndexFunc_sl_float32_float32.S (s_0b : Option Addr) (s_0l s_0c : Nat) (f_1 : Value) (Post : Value → Heap → Prop) (h : Heap) : Prop :=
    LOOP (slices_IndexFunc_sl_float32_float32.B2 Post) (s_0b, s_0l, s_0c, f_1, (s_0l : Int), (0 : Int)) h
noncomputable def slices_IndexFunc_sl_float32_float32.code : Code := (Tryz.f265.body).getD .skip
theorem slices_IndexFunc_sl_float32_float32.call {s_0b : Option Addr} {s_0l s_0c : Nat} {f_1 : Value} {Post : Value → Heap → Prop} {h : Heap} (H : slices_IndexFunc_sl_float32_float32.S s_0b s_0l s_0c f_1 Post h) : CALL prg f_slices_IndexFunc_sl_float32_float32 #[.slice s_0b s_0l s_0c, f_1] Post h :=
  fn_call tau_ok mixed (c := slices_IndexFunc_sl_float32_float32.code) (Λ := lookL [(1000002, slices_IndexFunc_sl_float32_float32.l2 Post)]) Tryz.func265 (by kernel_rfl) (by kernel_rfl)
    (Rq.seq (by kernel_rfl) (Rq.free (by kernel_rfl)) (Rq.seq (by kernel_rfl) (Rq.seq (by kernel_rfl) (Rq.free (by kernel_rfl)) (Rq.block (Rq.loop (slices_IndexFunc_sl_float32_float32.l2 Post) (by kernel_rfl) (segL (g := slices_IndexFunc_sl_float32_float32.g2) tau_ok mixed (Λ := fun N2 => lookL []) (fun _ _ _ => by kernel_rfl) (fun N2 => (Rq.free (by kernel_rfl))))))) (Rq.free (by kernel_rfl))))
    (Eq.mp (by kernel_rfl) H)

def slices_ContainsFunc_sl_float32_float32.S (s_0b : Option Addr) (s_0l s_0c : Nat) (f_1 : Value) (Post : Value → Heap → Prop) (h : Heap) : Prop :=
    CALL prg f_slices_IndexFunc_sl_float32_float32 #[.slice s_0b s_0l s_0c, f_1] (fun q1 h2 =>
    asI .i64 q1 fun n3 =>
    Post (.bool ((decide ((0 : Int) ≤ n3)))) h2) h
noncomputable def slices_ContainsFunc_sl_float32_float32.code : Code := (Tryz.f224.body).getD .skip
theorem slices_ContainsFunc_sl_float32_float32.call {s_0b : Option Addr} {s_0l s_0c : Nat} {f_1 : Value} {Post : Value → Heap → Prop} {h : Heap} (H : slices_ContainsFunc_sl_float32_float32.S s_0b s_0l s_0c f_1 Post h) : CALL prg f_slices_ContainsFunc_sl_float32_float32 #[.slice s_0b s_0l s_0c, f_1] Post h :=
  fn_call tau_ok mixed (c := slices_ContainsFunc_sl_float32_float32.code) (Λ := lookL []) Tryz.func224 (by kernel_rfl) (by kernel_rfl)
    (Rq.free (by kernel_rfl))
    (Eq.mp (by kernel_rfl) H)

def impl_isRing.S (r_0 : Array Value) (Post : Value → Heap → Prop) (h : Heap) : Prop :=
    ALC r_0 T_impl_Ring (fun g1 h2 =>
    LDA 2 h2 ⟨g1, 0, none⟩ fun a3 =>
    CALL prg f_impl_ValidRing #[.agg a3] (fun q4 h5 =>
    asB q4 fun b6 =>
    BIF b6 (
    oL (cell h5 ⟨g1, 0, none⟩) fun l7b l7l l7c =>
    CALL prg f_impl_areFinite #[.slice l7b l7l l7c] (fun q8 h9 =>
    asB q8 fun b10 =>
    Post (.bool b10) h9) h5) (
    Post (.bool false) h5)) h2) h
noncomputable def impl_isRing.code : Code := (Tryz.f223.body).getD .skip
theorem impl_isRing.call {r_0 : Array Value} {Post : Value → Heap → Prop} {h : Heap} (H : impl_isRing.S r_0 Post h) : CALL prg f_impl_isRing #[.agg r_0] Post h :=
  fn_call tau_ok mixed (c := impl_isRing.code) (Λ := lookL []) Tryz.func223 (by kernel_rfl) (by kernel_rfl)
    (Rq.free (by kernel_rfl))
    (Eq.mp (by kernel_rfl) H)

def spec_l04Rings.B2 (Post : Value → Heap → Prop) (N2 : (Option Addr × Nat × Nat × Int) → Heap → Prop) : Option Addr × Nat × Nat × Int → Heap → Prop
  | (list_0b, list_0l, list_0c, i_3), h =>
    BIF ((decide (i_3 < (list_0l : Int)))) (
    IDXS list_0b i_3 list_0l fun p3 =>
    CALL prg f_spec_l02Ring #[.pointer (some ((Addr.add p3 ((Int.toNat i_3) * 2))))] (fun q4 h5 =>
    asB q4 fun b6 =>
    BIF (!b6) (
    Post (.bool false) h5) (
    IDXS list_0b i_3 list_0l fun p7 =>
    oL (cell h5 ((Addr.add p7 ((Int.toNat i_3) * 2)))) fun l8b l8l l8c =>
    CALL prg f_spec_l04All #[.slice l8b l8l l8c] (fun q9 h10 =>
    asB q9 fun b11 =>
    BIF (!b11) (
    Post (.bool false) h10) (
    N2 (list_0b, list_0l, list_0c, ((IntKind.i64.wrap (i_3 + (1 : Int))))) h10)) h5)) h) (
    Post (.bool true) h)
def spec_l04Rings.g2 (fr : Frame) : Option Addr × Nat × Nat × Int := ((gLb (lget fr 0)), (gLl (lget fr 0)), (gLc (lget fr 0)), (gI (lget fr 3)))
def spec_l04Rings.l2 (Post : Value → Heap → Prop) : Frame → Heap → Prop := fun fr h => GRD (shape (kds 24 [(0, .l), (3, .i .i64)]) fr) (LOOP (spec_l04Rings.B2 Post) (spec_l04Rings.g2 fr) h)
def spec_l04Rings.S (list_0b : Option Addr) (list_0l list_0c : Nat) (Post : Value → Heap → Prop) (h : Heap) : Prop :=
    LOOP (spec_l04Rings.B2 Post) (list_0b, list_0l, list_0c, (0 : Int)) h
noncomputable def spec_l04Rings.code : Code := (Tryz.f209.body).getD .skip
theorem spec_l04Rings.call {list_0b : Option Addr} {list_0l list_0c : Nat} {Post : Value → Heap → Prop} {h : Heap} (H : spec_l04Rings.S list_0b list_0l list_0c Post h) : CALL prg f_spec_l04Rings #[.slice list_0b list_0l list_0c] Post h :=
  fn_call tau_ok mixed (c := spec_l04Rings.code) (Λ := lookL [(1000002, spec_l04Rings.l2 Post)]) Tryz.func209 (by kernel_rfl) (by kernel_rfl)
    (Rq.seq (by kernel_rfl) (Rq.free (by kernel_rfl)) (Rq.seq (by kernel_rfl) (Rq.seq (by kernel_rfl) (Rq.free (by kernel_rfl)) (Rq.block (Rq.loop (spec_l04Rings.l2 Post) (by kernel_rfl) (segL (g := spec_l04Rings.g2) tau_ok mixed (Λ := fun N2 => lookL []) (fun _ _ _ => by kernel_rfl) (fun N2 => (Rq.free (by kernel_rfl))))))) (Rq.free (by kernel_rfl))))
    (Eq.mp (by kernel_rfl) H)

def spec_l02Uses.S (kind_0 : Int) (Post : Value → Heap → Prop) (h : Heap) : Prop :=
    BIF (kind_0 == (1 : Int)) (
    BIF (kind_0 == (1 : Int)) (
    Post (.tuple ⟨[.int .i64 (2 : Int), .int .i64 (1 : Int)]⟩) h) (
    BIF (kind_0 == (3 : Int)) (
    BIF (kind_0 == (3 : Int)) (
    Post (.tuple ⟨[.int .i64 (1 : Int), .int .i64 (2 : Int)]⟩) h) (
    Post (.tuple ⟨[.int .i64 (3 : Int), .int .i64 (2 : Int)]⟩) h)) (
    BIF (kind_0 == (5 : Int)) (
    Post (.tuple ⟨[.int .i64 (1 : Int), .int .i64 (2 : Int)]⟩) h) (
    Post (.tuple ⟨[.int .i64 (3 : Int), .int .i64 (2 : Int)]⟩) h)))) (
    BIF (kind_0 == (2 : Int)) (
    Post (.tuple ⟨[.int .i64 (2 : Int), .int .i64 (1 : Int)]⟩) h) (
    BIF (kind_0 == (3 : Int)) (
    BIF (kind_0 == (3 : Int)) (
    Post (.tuple ⟨[.int .i64 (1 : Int), .int .i64 (2 : Int)]⟩) h) (
    Post (.tuple ⟨[.int .i64 (3 : Int), .int .i64 (2 : Int)]⟩) h)) (
    BIF (kind_0 == (5 : Int)) (
    Post (.tuple ⟨[.int .i64 (1 : Int), .int .i64 (2 : Int)]⟩) h) (
    Post (.tuple ⟨[.int .i64 (3 : Int), .int .i64 (2 : Int)]⟩) h))))
noncomputable def spec_l02Uses.code : Code := (Tryz.f256.body).getD .skip
theorem spec_l02Uses.call {kind_0 : Int} {Post : Value → Heap → Prop} {h : Heap} (H : spec_l02Uses.S kind_0 Post h) : CALL prg f_spec_l02Uses #[.int .i64 kind_0] Post h :=
  fn_call tau_ok mixed (c := spec_l02Uses.code) (Λ := lookL []) Tryz.func256 (by kernel_rfl) (by kernel_rfl)
    (Rq.free (by kernel_rfl))
    (Eq.mp (by kernel_rfl) H)

def impl_uses.S (kind_0 : Int) (Post : Value → Heap → Prop) (h : Heap) : Prop :=
    BIF (kind_0 == (1 : Int)) (
    BIF (kind_0 == (1 : Int)) (
    Post (.tuple ⟨[.int .i64 (2 : Int), .int .i64 (1 : Int)]⟩) h) (
    BIF (kind_0 == (3 : Int)) (
    BIF (kind_0 == (3 : Int)) (
    Post (.tuple ⟨[.int .i64 (1 : Int), .int .i64 (2 : Int)]⟩) h) (
    BIF (kind_0 == (4 : Int)) (
    Post (.tuple ⟨[.int .i64 (3 : Int), .int .i64 (2 : Int)]⟩) h) (
    Post (.tuple ⟨[.int .i64 (0 : Int), .int .i64 (0 : Int)]⟩) h))) (
    BIF (kind_0 == (5 : Int)) (
    Post (.tuple ⟨[.int .i64 (1 : Int), .int .i64 (2 : Int)]⟩) h) (
    BIF (kind_0 == (4 : Int)) (
    Post (.tuple ⟨[.int .i64 (3 : Int), .int .i64 (2 : Int)]⟩) h) (
    Post (.tuple ⟨[.int .i64 (0 : Int), .int .i64 (0 : Int)]⟩) h))))) (
    BIF (kind_0 == (2 : Int)) (
    Post (.tuple ⟨[.int .i64 (2 : Int), .int .i64 (1 : Int)]⟩) h) (
    BIF (kind_0 == (3 : Int)) (
    BIF (kind_0 == (3 : Int)) (
    Post (.tuple ⟨[.int .i64 (1 : Int), .int .i64 (2 : Int)]⟩) h) (
    BIF (kind_0 == (4 : Int)) (
    Post (.tuple ⟨[.int .i64 (3 : Int), .int .i64 (2 : Int)]⟩) h) (
    Post (.tuple ⟨[.int .i64 (0 : Int), .int .i64 (0 : Int)]⟩) h))) (
    BIF (kind_0 == (5 : Int)) (
    Post (.tuple ⟨[.int .i64 (1 : Int), .int .i64 (2 : Int)]⟩) h) (
    BIF (kind_0 == (4 : Int)) (
    Post (.tuple ⟨[.int .i64 (3 : Int), .int .i64 (2 : Int)]⟩) h) (
    Post (.tuple ⟨[.int .i64 (0 : Int), .int .i64 (0 : Int)]⟩) h)))))
noncomputable def impl_uses.code : Code := (Tryz.f273.body).getD .skip
theorem impl_uses.call {kind_0 : Int} {Post : Value → Heap → Prop} {h : Heap} (H : impl_uses.S kind_0 Post h) : CALL prg f_impl_uses #[.int .i64 kind_0] Post h :=
  fn_call tau_ok mixed (c := impl_uses.code) (Λ := lookL []) Tryz.func273 (by kernel_rfl) (by kernel_rfl)
    (Rq.free (by kernel_rfl))
    (Eq.mp (by kernel_rfl) H)

def impl_isUsed.B2 (Post : Value → Heap → Prop) (N2 : (Int × Option Addr × Nat × Nat × Int × Int) → Heap → Prop) : Int × Option Addr × Nat × Nat × Int × Int → Heap → Prop
  | (many_1, t7b, t7l, t7c, t8, t9), h =>
    BIF (decide (t9 < t8)) (
    IDXS t7b t9 t7l fun p3 =>
    oF .f32 (cell h ((Addr.add p3 ((Int.toNat t9) * 1)))) fun r4 =>
    CALL prg f_impl_isFinite #[.float .f32 r4] (fun q5 h6 =>
    asB q5 fun b7 =>
    BIF (!b7) (
    Post (.bool false) h6) (
    BIF (decide (many_1 ≤ t9)) (
    CALL prg f_impl_bitsOf #[.float .f32 r4] (fun q8 h9 =>
    asI .u32 q8 fun n10 =>
    BIF (n10 != (0 : Int)) (
    Post (.bool false) h9) (
    N2 (many_1, t7b, t7l, t7c, t8, ((IntKind.i64.wrap (t9 + (1 : Int))))) h9)) h6) (
    N2 (many_1, t7b, t7l, t7c, t8, ((IntKind.i64.wrap (t9 + (1 : Int))))) h6))) h) (
    Post (.bool true) h)
def impl_isUsed.g2 (fr : Frame) : Int × Option Addr × Nat × Nat × Int × Int := ((gI (lget fr 1)), (gLb (lget fr 7)), (gLl (lget fr 7)), (gLc (lget fr 7)), (gI (lget fr 8)), (gI (lget fr 9)))
def impl_isUsed.l2 (Post : Value → Heap → Prop) : Frame → Heap → Prop := fun fr h => GRD (shape (kds 28 [(1, .i .i64), (7, .l), (8, .i .i64), (9, .i .i64)]) fr) (LOOP (impl_isUsed.B2 Post) (impl_isUsed.g2 fr) h)
def impl_isUsed.S (list_0b : Option Addr) (list_0l list_0c : Nat) (many_1 : Int) (Post : Value → Heap → Prop) (h : Heap) : Prop :=
    LOOP (impl_isUsed.B2 Post) (many_1, list_0b, list_0l, list_0c, (list_0l : Int), (0 : Int)) h
noncomputable def impl_isUsed.code : Code := (Tryz.f274.body).getD .skip
theorem impl_isUsed.call {list_0b : Option Addr} {list_0l list_0c : Nat} {many_1 : Int} {Post : Value → Heap → Prop} {h : Heap} (H : impl_isUsed.S list_0b list_0l list_0c many_1 Post h) : CALL prg f_impl_isUsed #[.slice list_0b list_0l list_0c, .int .i64 many_1] Post h :=
  fn_call tau_ok mixed (c := impl_isUsed.code) (Λ := lookL [(1000002, impl_isUsed.l2 Post)]) Tryz.func274 (by kernel_rfl) (by kernel_rfl)
    (Rq.seq (by kernel_rfl) (Rq.free (by kernel_rfl)) (Rq.seq (by kernel_rfl) (Rq.seq (by kernel_rfl) (Rq.free (by kernel_rfl)) (Rq.block (Rq.loop (impl_isUsed.l2 Post) (by kernel_rfl) (segL (g := impl_isUsed.g2) tau_ok mixed (Λ := fun N2 => lookL []) (fun _ _ _ => by kernel_rfl) (fun N2 => (Rq.free (by kernel_rfl))))))) (Rq.free (by kernel_rfl))))
    (Eq.mp (by kernel_rfl) H)

def spec_l02Ok.B10 (Post : Value → Heap → Prop) (N10 : (Addr × Int × Int) → Heap → Prop) : Addr × Int × Int → Heap → Prop
  | (f_0, s_4, i_6), h =>
    BIF ((decide (i_6 < (2 : Int)))) (
    IDX i_6 2 <|
    oF .f32 (cell h ((Addr.add (Addr.add f_0 4) ((Int.toNat i_6) * 1)))) fun r20 =>
    CALL prg f_spec_l01Finite #[.float .f32 r20] (fun q21 h22 =>
    asB q21 fun b23 =>
    BIF (!b23) (
    Post (.bool false) h22) (
    BIF (decide (s_4 ≤ i_6)) (
    IDX i_6 2 <|
    oF .f32 (cell h22 ((Addr.add (Addr.add f_0 4) ((Int.toNat i_6) * 1)))) fun r24 =>
    CALL prg f_spec_l01Same #[.float .f32 r24, .float .f32 0] (fun q25 h26 =>
    asB q25 fun b27 =>
    BIF (!b27) (
    Post (.bool false) h26) (
    N10 (f_0, s_4, ((IntKind.i64.wrap (i_6 + (1 : Int))))) h26)) h22) (
    N10 (f_0, s_4, ((IntKind.i64.wrap (i_6 + (1 : Int))))) h22))) h) (
    Post (.bool true) h)
def spec_l02Ok.g10 (fr : Frame) : Addr × Int × Int := ((gP (lget fr 0)), (gI (lget fr 4)), (gI (lget fr 6)))
def spec_l02Ok.l10 (Post : Value → Heap → Prop) : Frame → Heap → Prop := fun fr h => GRD (shape (kds 75 [(0, .p), (4, .i .i64), (6, .i .i64)]) fr) (LOOP (spec_l02Ok.B10 Post) (spec_l02Ok.g10 fr) h)
def spec_l02Ok.B5 (Post : Value → Heap → Prop) (N5 : (Addr × Int × Int × Int) → Heap → Prop) : Addr × Int × Int × Int → Heap → Prop
  | (f_0, c_3, s_4, i_5), h =>
    BIF ((decide (i_5 < (3 : Int)))) (
    IDX i_5 3 <|
    oF .f32 (cell h ((Addr.add (Addr.add f_0 1) ((Int.toNat i_5) * 1)))) fun r12 =>
    CALL prg f_spec_l01Finite #[.float .f32 r12] (fun q13 h14 =>
    asB q13 fun b15 =>
    BIF (!b15) (
    Post (.bool false) h14) (
    BIF (decide (c_3 ≤ i_5)) (
    IDX i_5 3 <|
    oF .f32 (cell h14 ((Addr.add (Addr.add f_0 1) ((Int.toNat i_5) * 1)))) fun r16 =>
    CALL prg f_spec_l01Same #[.float .f32 r16, .float .f32 0] (fun q17 h18 =>
    asB q17 fun b19 =>
    BIF (!b19) (
    Post (.bool false) h18) (
    N5 (f_0, c_3, s_4, ((IntKind.i64.wrap (i_5 + (1 : Int))))) h18)) h14) (
    N5 (f_0, c_3, s_4, ((IntKind.i64.wrap (i_5 + (1 : Int))))) h14))) h) (
    LOOP (spec_l02Ok.B10 Post) (f_0, s_4, (0 : Int)) h)
def spec_l02Ok.g5 (fr : Frame) : Addr × Int × Int × Int := ((gP (lget fr 0)), (gI (lget fr 3)), (gI (lget fr 4)), (gI (lget fr 5)))
def spec_l02Ok.l5 (Post : Value → Heap → Prop) : Frame → Heap → Prop := fun fr h => GRD (shape (kds 75 [(0, .p), (3, .i .i64), (4, .i .i64), (5, .i .i64)]) fr) (LOOP (spec_l02Ok.B5 Post) (spec_l02Ok.g5 fr) h)
def spec_l02Ok.S (f_0 : Addr) (Post : Value → Heap → Prop) (h : Heap) : Prop :=
    oI .i64 (cell h f_0) fun n1 =>
    CALL prg f_spec_l00In #[.int .i64 n1, .int .i64 (1 : Int), .int .i64 (5 : Int)] (fun q2 h3 =>
    asB q2 fun b4 =>
    BIF (!b4) (
    Post (.bool false) h3) (
    oI .i64 (cell h3 f_0) fun n5 =>
    CALL prg f_spec_l02Uses #[.int .i64 n5] (fun q6 h7 =>
    TUP2 q6 fun q8 q9 =>
    asI .i64 q8 fun n10 =>
    asI .i64 q9 fun n11 =>
    LOOP (spec_l02Ok.B5 Post) (f_0, n10, n11, (0 : Int)) h7) h3)) h
noncomputable def spec_l02Ok.code : Code := (Tryz.f208.body).getD .skip
theorem spec_l02Ok.call {f_0 : Addr} {Post : Value → Heap → Prop} {h : Heap} (H : spec_l02Ok.S f_0 Post h) : CALL prg f_spec_l02Ok #[.pointer (some f_0)] Post h :=
  fn_call tau_ok mixed (c := spec_l02Ok.code) (Λ := lookL [(1000005, spec_l02Ok.l5 Post), (1000010, spec_l02Ok.l10 Post)]) Tryz.func208 (by kernel_rfl) (by kernel_rfl)
    (Rq.seq (by kernel_rfl) (Rq.free (by kernel_rfl)) (Rq.seq (by kernel_rfl) (Rq.free (by kernel_rfl)) (Rq.seq (by kernel_rfl) (Rq.free (by kernel_rfl)) (Rq.seq (by kernel_rfl) (Rq.seq (by kernel_rfl) (Rq.free (by kernel_rfl)) (Rq.block (Rq.loop (spec_l02Ok.l5 Post) (by kernel_rfl) (segL (g := spec_l02Ok.g5) tau_ok mixed (Λ := fun N5 => lookL []) (fun _ _ _ => by kernel_rfl) (fun N5 => (Rq.free (by kernel_rfl))))))) (Rq.seq (by kernel_rfl) (Rq.seq (by kernel_rfl) (Rq.free (by kernel_rfl)) (Rq.block (Rq.loop (spec_l02Ok.l10 Post) (by kernel_rfl) (segL (g := spec_l02Ok.g10) tau_ok mixed (Λ := fun N10 => lookL []) (fun _ _ _ => by kernel_rfl) (fun N10 => (Rq.free (by kernel_rfl))))))) (Rq.free (by kernel_rfl)))))))
    (Eq.mp (by kernel_rfl) H)

def impl_ValidFilter.S (f_0 : Array Value) (Post : Value → Heap → Prop) (h : Heap) : Prop :=
    ALC f_0 T_impl_Filter (fun g1 h2 =>
    oI .i64 (cell h2 ⟨g1, 0, none⟩) fun n3 =>
    CALL prg f_impl_uses #[.int .i64 n3] (fun q4 h5 =>
    TUP2 q4 fun q6 q7 =>
    asI .i64 q6 fun n8 =>
    asI .i64 q7 fun n9 =>
    BIF ((decide ((0 : Int) < n8))) (
    SLB (0 : Int) (3 : Int) (3 : Int) <|
    CALL prg f_impl_isUsed #[.slice (some (slP ⟨g1, 1, none⟩ 3 0 1)) (3 - 0) (3 - 0), .int .i64 n8] (fun q10 h11 =>
    asB q10 fun b12 =>
    BIF b12 (
    SLB (0 : Int) (2 : Int) (2 : Int) <|
    CALL prg f_impl_isUsed #[.slice (some (slP ⟨g1, 4, none⟩ 2 0 1)) (2 - 0) (2 - 0), .int .i64 n9] (fun q13 h14 =>
    asB q13 fun b15 =>
    Post (.bool b15) h14) h11) (
    Post (.bool false) h11)) h5) (
    Post (.bool false) h5)) h2) h
noncomputable def impl_ValidFilter.code : Code := (Tryz.f233.body).getD .skip
theorem impl_ValidFilter.call {f_0 : Array Value} {Post : Value → Heap → Prop} {h : Heap} (H : impl_ValidFilter.S f_0 Post h) : CALL prg f_impl_ValidFilter #[.agg f_0] Post h :=
  fn_call tau_ok mixed (c := impl_ValidFilter.code) (Λ := lookL []) Tryz.func233 (by kernel_rfl) (by kernel_rfl)
    (Rq.free (by kernel_rfl))
    (Eq.mp (by kernel_rfl) H)

def impl_isFilter.S (f_0 : Array Value) (kind_1 : Int) (Post : Value → Heap → Prop) (h : Heap) : Prop :=
    ALC f_0 T_impl_Filter (fun g1 h2 =>
    LDA 6 h2 ⟨g1, 0, none⟩ fun a3 =>
    CALL prg f_impl_ValidFilter #[.agg a3] (fun q4 h5 =>
    asB q4 fun b6 =>
    BIF b6 (
    oI .i64 (cell h5 ⟨g1, 0, none⟩) fun n7 =>
    Post (.bool (n7 == kind_1)) h5) (
    Post (.bool false) h5)) h2) h
noncomputable def impl_isFilter.code : Code := (Tryz.f221.body).getD .skip
theorem impl_isFilter.call {f_0 : Array Value} {kind_1 : Int} {Post : Value → Heap → Prop} {h : Heap} (H : impl_isFilter.S f_0 kind_1 Post h) : CALL prg f_impl_isFilter #[.agg f_0, .int .i64 kind_1] Post h :=
  fn_call tau_ok mixed (c := impl_isFilter.code) (Λ := lookL []) Tryz.func221 (by kernel_rfl) (by kernel_rfl)
    (Rq.free (by kernel_rfl))
    (Eq.mp (by kernel_rfl) H)

end Go.Sx
