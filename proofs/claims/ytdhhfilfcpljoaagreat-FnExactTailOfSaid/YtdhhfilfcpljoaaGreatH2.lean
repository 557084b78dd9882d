/- What functions of this seat's program compute, told in words (a predicate over heaps for each), and the proofs that the words are no more than the code's own weakest precondition. -/
import Derived.Test.YtdhhfilfcpljoaaGreatTab
namespace Go.Sx
open Go.Proofs
set_option linter.unusedVariables false
set_option maxRecDepth 100000

/-! #### loop.example/g01173/laws.szTapS (function 75) -/
def laws_szTapS.S (a_0b : Option Addr) (a_0l a_0c : Nat) (left_1 : Int) (Post : Value → Heap → Prop) (h : Heap) : Prop :=
    BIF ((decide ((IntKind.i64.wrap (left_1 - (a_0l : Int))) < (0 : Int)))) (
    Post (.int .i64 (-1 : Int)) h) (
    Post (.int .i64 ((IntKind.i64.wrap (left_1 - (a_0l : Int))))) h)
noncomputable def laws_szTapS.code : Code := (Tryz.f75.body).getD .skip
theorem laws_szTapS.call {a_0b : Option Addr} {a_0l a_0c : Nat} {left_1 : Int} {Post : Value → Heap → Prop} {h : Heap} (H : laws_szTapS.S a_0b a_0l a_0c left_1 Post h) : CALL prg f_laws_szTapS #[.slice a_0b a_0l a_0c, .int .i64 left_1] Post h :=
  fn_call tau_ok mixed (c := laws_szTapS.code) (Λ := lookL []) Tryz.func75 (by kernel_rfl) (by kernel_rfl)
    (Rq.free (by kernel_rfl))
    (Eq.mp (by kernel_rfl) H)

/-! #### loop.example/g01173/laws.toTap (function 160) -/
def laws_toTap.S (a_0 : Array Value) (Post : Value → Heap → Prop) (h : Heap) : Prop :=
    ALC a_0 T_laws_Tap (fun g1 h2 =>
    ALC ⟨Z_impl_Tap⟩ T_impl_Tap (fun g3 h4 =>
    ALC ⟨Z_impl_Tap⟩ T_impl_Tap (fun g5 h6 =>
    oI .i64 (cell h6 ⟨g1, 0, none⟩) fun n7 =>
    ST1 h6 ⟨g5, 0, none⟩ (.int .i64 n7) fun h8 =>
    oF .f32 (cell h8 ⟨g1, 1, none⟩) fun r9 =>
    ST1 h8 ⟨g5, 1, none⟩ (.float .f32 r9) fun h10 =>
    LDA 2 h10 ⟨g5, 0, none⟩ fun a11 =>
    STA 2 h10 ⟨g3, 0, none⟩ a11 fun h12 =>
    LDA 2 h12 ⟨g3, 0, none⟩ fun a13 =>
    Post (.agg a13) h12) h4) h2) h
noncomputable def laws_toTap.code : Code := (Tryz.f160.body).getD .skip
theorem laws_toTap.call {a_0 : Array Value} {Post : Value → Heap → Prop} {h : Heap} (H : laws_toTap.S a_0 Post h) : CALL prg f_laws_toTap #[.agg a_0] Post h :=
  fn_call tau_ok mixed (c := laws_toTap.code) (Λ := lookL []) Tryz.func160 (by kernel_rfl) (by kernel_rfl)
    (Rq.free (by kernel_rfl))
    (Eq.mp (by kernel_rfl) H)

/-! #### loop.example/g01173/laws.toTapS (function 79) -/
def laws_toTapS.B3 (Post : Value → Heap → Prop) (N3 : (Option Addr × Nat × Nat × Option Addr × Nat × Nat × Int) → Heap → Prop) : Option Addr × Nat × Nat × Option Addr × Nat × Nat × Int → Heap → Prop
  | (a_0b, a_0l, a_0c, out_3b, out_3l, out_3c, i_4), h =>
    BIF ((decide (i_4 < (a_0l : Int)))) (
    IDXS a_0b i_4 a_0l fun p7 =>
    LDA 2 h ((Addr.add p7 ((Int.toNat i_4) * 2))) fun a8 =>
    CALL prg f_laws_toTap #[.agg a8] (fun q9 h10 =>
    asA q9 fun a11 =>
    IDXS out_3b i_4 out_3l fun p12 =>
    STA 2 h10 ((Addr.add p12 ((Int.toNat i_4) * 2))) a11 fun h13 =>
    N3 (a_0b, a_0l, a_0c, out_3b, out_3l, out_3c, ((IntKind.i64.wrap (i_4 + (1 : Int))))) h13) h) (
    Post (.slice out_3b out_3l out_3c) h)
def laws_toTapS.g3 (fr : Frame) : Option Addr × Nat × Nat × Option Addr × Nat × Nat × Int := ((gLb (lget fr 0)), (gLl (lget fr 0)), (gLc (lget fr 0)), (gLb (lget fr 3)), (gLl (lget fr 3)), (gLc (lget fr 3)), (gI (lget fr 4)))
def laws_toTapS.l3 (Post : Value → Heap → Prop) : Frame → Heap → Prop := fun fr h => GRD (shape (kds 23 [(0, .l), (3, .l), (4, .i .i64)]) fr) (LOOP (laws_toTapS.B3 Post) (laws_toTapS.g3 fr) h)
def laws_toTapS.S (a_0b : Option Addr) (a_0l a_0c : Nat) (Post : Value → Heap → Prop) (h : Heap) : Prop :=
    MKS ti_impl_Tap T_impl_Tap (a_0l : Int) (a_0l : Int) (fun g3 h4 =>
    LOOP (laws_toTapS.B3 Post) (a_0b, a_0l, a_0c, (some ⟨g3, 0, none⟩), a_0l, a_0l, (0 : Int)) h4) h
noncomputable def laws_toTapS.code : Code := (Tryz.f79.body).getD .skip
theorem laws_toTapS.call {a_0b : Option Addr} {a_0l a_0c : Nat} {Post : Value → Heap → Prop} {h : Heap} (H : laws_toTapS.S a_0b a_0l a_0c Post h) : CALL prg f_laws_toTapS #[.slice a_0b a_0l a_0c] Post h :=
  fn_call tau_ok mixed (c := laws_toTapS.code) (Λ := lookL [(1000003, laws_toTapS.l3 Post)]) Tryz.func79 (by kernel_rfl) (by kernel_rfl)
    (Rq.seq (by kernel_rfl) (Rq.free (by kernel_rfl)) (Rq.seq (by kernel_rfl) (Rq.free (by kernel_rfl)) (Rq.seq (by kernel_rfl) (Rq.seq (by kernel_rfl) (Rq.free (by kernel_rfl)) (Rq.block (Rq.loop (laws_toTapS.l3 Post) (by kernel_rfl) (segL (g := laws_toTapS.g3) tau_ok mixed (Λ := fun N3 => lookL []) (fun _ _ _ => by kernel_rfl) (fun N3 => (Rq.free (by kernel_rfl))))))) (Rq.free (by kernel_rfl)))))
    (Eq.mp (by kernel_rfl) H)

/-! #### loop.example/g01173/laws.eqTap (function 163) -/
def laws_eqTap.S (a_0 : Array Value) (b_1 : Array Value) (Post : Value → Heap → Prop) (h : Heap) : Prop :=
    ALC a_0 T_impl_Tap (fun g1 h2 =>
    ALC b_1 T_impl_Tap (fun g3 h4 =>
    oI .i64 (cell h4 ⟨g1, 0, none⟩) fun n5 =>
    oI .i64 (cell h4 ⟨g3, 0, none⟩) fun n6 =>
    BIF (n5 != n6) (
    Post (.bool false) h4) (
    oF .f32 (cell h4 ⟨g1, 1, none⟩) fun r7 =>
    FFC .f32 r7 .f64 fun r8 =>
    oF .f32 (cell h4 ⟨g3, 1, none⟩) fun r9 =>
    FFC .f32 r9 .f64 fun r10 =>
    CALL prg f_laws_sameFloat #[.float .f64 r8, .float .f64 r10] (fun q11 h12 =>
    asB q11 fun b13 =>
    BIF (!b13) (
    Post (.bool false) h12) (
    Post (.bool true) h12)) h4)) h2) h
noncomputable def laws_eqTap.code : Code := (Tryz.f163.body).getD .skip
theorem laws_eqTap.call {a_0 : Array Value} {b_1 : Array Value} {Post : Value → Heap → Prop} {h : Heap} (H : laws_eqTap.S a_0 b_1 Post h) : CALL prg f_laws_eqTap #[.agg a_0, .agg b_1] Post h :=
  fn_call tau_ok mixed (c := laws_eqTap.code) (Λ := lookL []) Tryz.func163 (by kernel_rfl) (by kernel_rfl)
    (Rq.free (by kernel_rfl))
    (Eq.mp (by kernel_rfl) H)

/-! #### loop.example/g01173/laws.eqTapS (function 85) -/
def laws_eqTapS.B4 (Post : Value → Heap → Prop) (N4 : (Option Addr × Nat × Nat × Option Addr × Nat × Nat × Int) → Heap → Prop) : Option Addr × Nat × Nat × Option Addr × Nat × Nat × Int → Heap → Prop
  | (a_0b, a_0l, a_0c, b_1b, b_1l, b_1c, i_5), h =>
    BIF ((decide (i_5 < (a_0l : Int)))) (
    IDXS a_0b i_5 a_0l fun p7 =>
    LDA 2 h ((Addr.add p7 ((Int.toNat i_5) * 2))) fun a8 =>
    IDXS b_1b i_5 b_1l fun p9 =>
    LDA 2 h ((Addr.add p9 ((Int.toNat i_5) * 2))) fun a10 =>
    CALL prg f_laws_eqTap #[.agg a8, .agg a10] (fun q11 h12 =>
    asB q11 fun b13 =>
    BIF (!b13) (
    Post (.bool false) h12) (
    N4 (a_0b, a_0l, a_0c, b_1b, b_1l, b_1c, ((IntKind.i64.wrap (i_5 + (1 : Int))))) h12)) h) (
    Post (.bool true) h)
def laws_eqTapS.g4 (fr : Frame) : Option Addr × Nat × Nat × Option Addr × Nat × Nat × Int := ((gLb (lget fr 0)), (gLl (lget fr 0)), (gLc (lget fr 0)), (gLb (lget fr 1)), (gLl (lget fr 1)), (gLc (lget fr 1)), (gI (lget fr 5)))
def laws_eqTapS.l4 (Post : Value → Heap → Prop) : Frame → Heap → Prop := fun fr h => GRD (shape (kds 27 [(0, .l), (1, .l), (5, .i .i64)]) fr) (LOOP (laws_eqTapS.B4 Post) (laws_eqTapS.g4 fr) h)
def laws_eqTapS.S (a_0b : Option Addr) (a_0l a_0c : Nat) (b_1b : Option Addr) (b_1l b_1c : Nat) (Post : Value → Heap → Prop) (h : Heap) : Prop :=
    BIF ((a_0l : Int) != (b_1l : Int)) (
    Post (.bool false) h) (
    LOOP (laws_eqTapS.B4 Post) (a_0b, a_0l, a_0c, b_1b, b_1l, b_1c, (0 : Int)) h)
noncomputable def laws_eqTapS.code : Code := (Tryz.f85.body).getD .skip
theorem laws_eqTapS.call {a_0b : Option Addr} {a_0l a_0c : Nat} {b_1b : Option Addr} {b_1l b_1c : Nat} {Post : Value → Heap → Prop} {h : Heap} (H : laws_eqTapS.S a_0b a_0l a_0c b_1b b_1l b_1c Post h) : CALL prg f_laws_eqTapS #[.slice a_0b a_0l a_0c, .slice b_1b b_1l b_1c] Post h :=
  fn_call tau_ok mixed (c := laws_eqTapS.code) (Λ := lookL [(1000004, laws_eqTapS.l4 Post)]) Tryz.func85 (by kernel_rfl) (by kernel_rfl)
    (Rq.seq (by kernel_rfl) (Rq.free (by kernel_rfl)) (Rq.seq (by kernel_rfl) (Rq.free (by kernel_rfl)) (Rq.seq (by kernel_rfl) (Rq.seq (by kernel_rfl) (Rq.free (by kernel_rfl)) (Rq.block (Rq.loop (laws_eqTapS.l4 Post) (by kernel_rfl) (segL (g := laws_eqTapS.g4) tau_ok mixed (Λ := fun N4 => lookL []) (fun _ _ _ => by kernel_rfl) (fun N4 => (Rq.free (by kernel_rfl))))))) (Rq.free (by kernel_rfl)))))
    (Eq.mp (by kernel_rfl) H)

/-! #### loop.example/g01173/laws.markTapS (function 91) -/
def laws_markTapS.B2 (Post : Value → Heap → Prop) (N2 : (Option Addr × Nat × Nat × Int × Int) → Heap → Prop) : Option Addr × Nat × Nat × Int × Int → Heap → Prop
  | (a_0b, a_0l, a_0c, k_1, i_5), h =>
    BIF ((decide (i_5 < (a_0l : Int)))) (
    IDXS a_0b i_5 a_0l fun p3 =>
    ST1 h ((Addr.add p3 ((Int.toNat i_5) * 2))) (.int .i64 k_1) fun h4 =>
    IDXS a_0b i_5 a_0l fun p5 =>
    ST1 h4 ((Addr.add ((Addr.add p5 ((Int.toNat i_5) * 2))) 1)) (.float .f32 ((FloatKind.f32.nearest ((IntKind.i64.wrap (k_1 + (1 : Int))))))) fun h6 =>
    N2 (a_0b, a_0l, a_0c, ((IntKind.i64.wrap ((IntKind.i64.wrap (k_1 + (1 : Int))) + (1 : Int)))), ((IntKind.i64.wrap (i_5 + (1 : Int))))) h6) (
    Post (.int .i64 k_1) h)
def laws_markTapS.g2 (fr : Frame) : Option Addr × Nat × Nat × Int × Int := ((gLb (lget fr 0)), (gLl (lget fr 0)), (gLc (lget fr 0)), (gI (lget fr 1)), (gI (lget fr 5)))
def laws_markTapS.l2 (Post : Value → Heap → Prop) : Frame → Heap → Prop := fun fr h => GRD (shape (kds 28 [(0, .l), (1, .i .i64), (5, .i .i64)]) fr) (LOOP (laws_markTapS.B2 Post) (laws_markTapS.g2 fr) h)
def laws_markTapS.S (a_0b : Option Addr) (a_0l a_0c : Nat) (k_1 : Int) (Post : Value → Heap → Prop) (h : Heap) : Prop :=
    LOOP (laws_markTapS.B2 Post) (a_0b, a_0l, a_0c, k_1, (0 : Int)) h
noncomputable def laws_markTapS.code : Code := (Tryz.f91.body).getD .skip
theorem laws_markTapS.call {a_0b : Option Addr} {a_0l a_0c : Nat} {k_1 : Int} {Post : Value → Heap → Prop} {h : Heap} (H : laws_markTapS.S a_0b a_0l a_0c k_1 Post h) : CALL prg f_laws_markTapS #[.slice a_0b a_0l a_0c, .int .i64 k_1] Post h :=
  fn_call tau_ok mixed (c := laws_markTapS.code) (Λ := lookL [(1000002, laws_markTapS.l2 Post)]) Tryz.func91 (by kernel_rfl) (by kernel_rfl)
    (Rq.seq (by kernel_rfl) (Rq.free (by kernel_rfl)) (Rq.seq (by kernel_rfl) (Rq.seq (by kernel_rfl) (Rq.free (by kernel_rfl)) (Rq.block (Rq.loop (laws_markTapS.l2 Post) (by kernel_rfl) (segL (g := laws_markTapS.g2) tau_ok mixed (Λ := fun N2 => lookL []) (fun _ _ _ => by kernel_rfl) (fun N2 => (Rq.free (by kernel_rfl))))))) (Rq.free (by kernel_rfl))))
    (Eq.mp (by kernel_rfl) H)

/-! #### loop.example/g01173/laws.heldTapS (function 95) -/
def laws_heldTapS.B2 (Post : Value → Heap → Prop) (N2 : (Option Addr × Nat × Nat × Int × Int) → Heap → Prop) : Option Addr × Nat × Nat × Int × Int → Heap → Prop
  | (a_0b, a_0l, a_0c, k_1, i_5), h =>
    BIF ((decide (i_5 < (a_0l : Int)))) (
    IDXS a_0b i_5 a_0l fun p3 =>
    oI .i64 (cell h ((Addr.add p3 ((Int.toNat i_5) * 2)))) fun n4 =>
    BIF (n4 != k_1) (
    Post (.int .i64 (-1 : Int)) h) (
    IDXS a_0b i_5 a_0l fun p5 =>
    oF .f32 (cell h ((Addr.add ((Addr.add p5 ((Int.toNat i_5) * 2))) 1))) fun r6 =>
    BIF ((FloatKind.f32.format.order r6 ((FloatKind.f32.nearest ((IntKind.i64.wrap (k_1 + (1 : Int)))))) != some .eq)) (
    Post (.int .i64 (-1 : Int)) h) (
    N2 (a_0b, a_0l, a_0c, ((IntKind.i64.wrap ((IntKind.i64.wrap (k_1 + (1 : Int))) + (1 : Int)))), ((IntKind.i64.wrap (i_5 + (1 : Int))))) h))) (
    Post (.int .i64 k_1) h)
def laws_heldTapS.g2 (fr : Frame) : Option Addr × Nat × Nat × Int × Int := ((gLb (lget fr 0)), (gLl (lget fr 0)), (gLc (lget fr 0)), (gI (lget fr 1)), (gI (lget fr 5)))
def laws_heldTapS.l2 (Post : Value → Heap → Prop) : Frame → Heap → Prop := fun fr h => GRD (shape (kds 32 [(0, .l), (1, .i .i64), (5, .i .i64)]) fr) (LOOP (laws_heldTapS.B2 Post) (laws_heldTapS.g2 fr) h)
def laws_heldTapS.S (a_0b : Option Addr) (a_0l a_0c : Nat) (k_1 : Int) (Post : Value → Heap → Prop) (h : Heap) : Prop :=
    LOOP (laws_heldTapS.B2 Post) (a_0b, a_0l, a_0c, k_1, (0 : Int)) h
noncomputable def laws_heldTapS.code : Code := (Tryz.f95.body).getD .skip
theorem laws_heldTapS.call {a_0b : Option Addr} {a_0l a_0c : Nat} {k_1 : Int} {Post : Value → Heap → Prop} {h : Heap} (H : laws_heldTapS.S a_0b a_0l a_0c k_1 Post h) : CALL prg f_laws_heldTapS #[.slice a_0b a_0l a_0c, .int .i64 k_1] Post h :=
  fn_call tau_ok mixed (c := laws_heldTapS.code) (Λ := lookL [(1000002, laws_heldTapS.l2 Post)]) Tryz.func95 (by kernel_rfl) (by kernel_rfl)
    (Rq.seq (by kernel_rfl) (Rq.free (by kernel_rfl)) (Rq.seq (by kernel_rfl) (Rq.seq (by kernel_rfl) (Rq.free (by kernel_rfl)) (Rq.block (Rq.loop (laws_heldTapS.l2 Post) (by kernel_rfl) (segL (g := laws_heldTapS.g2) tau_ok mixed (Λ := fun N2 => lookL []) (fun _ _ _ => by kernel_rfl) (fun N2 => (Rq.free (by kernel_rfl))))))) (Rq.free (by kernel_rfl))))
    (Eq.mp (by kernel_rfl) H)

/-! #### loop.example/g01173/laws.szComb (function 159) -/
def laws_szComb.S (a_0 : Array Value) (left_1 : Int) (Post : Value → Heap → Prop) (h : Heap) : Prop :=
    ALC a_0 T_laws_Comb (fun g1 h2 =>
    LDA 2 h2 ⟨g1, 0, none⟩ fun a3 =>
    CALL prg f_laws_szRing #[.agg a3, .int .i64 left_1] (fun q4 h5 =>
    asI .i64 q4 fun n6 =>
    BIF ((decide (n6 < (0 : Int)))) (
    Post (.int .i64 (-1 : Int)) h5) (
    Post (.int .i64 n6) h5)) h2) h
noncomputable def laws_szComb.code : Code := (Tryz.f159.body).getD .skip
theorem laws_szComb.call {a_0 : Array Value} {left_1 : Int} {Post : Value → Heap → Prop} {h : Heap} (H : laws_szComb.S a_0 left_1 Post h) : CALL prg f_laws_szComb #[.agg a_0, .int .i64 left_1] Post h :=
  fn_call tau_ok mixed (c := laws_szComb.code) (Λ := lookL []) Tryz.func159 (by kernel_rfl) (by kernel_rfl)
    (Rq.free (by kernel_rfl))
    (Eq.mp (by kernel_rfl) H)

/-! #### loop.example/g01173/laws.toComb (function 161) -/
def laws_toComb.S (a_0 : Array Value) (Post : Value → Heap → Prop) (h : Heap) : Prop :=
    ALC a_0 T_laws_Comb (fun g1 h2 =>
    ALC ⟨Z_impl_Comb⟩ T_impl_Comb (fun g3 h4 =>
    ALC ⟨Z_impl_Comb⟩ T_impl_Comb (fun g5 h6 =>
    LDA 2 h6 ⟨g1, 0, none⟩ fun a7 =>
    CALL prg f_laws_toRing #[.agg a7] (fun q8 h9 =>
    asA q8 fun a10 =>
    STA 2 h9 ⟨g5, 0, none⟩ a10 fun h11 =>
    oF .f32 (cell h11 ⟨g1, 2, none⟩) fun r12 =>
    ST1 h11 ⟨g5, 2, none⟩ (.float .f32 r12) fun h13 =>
    LDA 3 h13 ⟨g5, 0, none⟩ fun a14 =>
    STA 3 h13 ⟨g3, 0, none⟩ a14 fun h15 =>
    LDA 3 h15 ⟨g3, 0, none⟩ fun a16 =>
    Post (.agg a16) h15) h6) h4) h2) h
noncomputable def laws_toComb.code : Code := (Tryz.f161.body).getD .skip
theorem laws_toComb.call {a_0 : Array Value} {Post : Value → Heap → Prop} {h : Heap} (H : laws_toComb.S a_0 Post h) : CALL prg f_laws_toComb #[.agg a_0] Post h :=
  fn_call tau_ok mixed (c := laws_toComb.code) (Λ := lookL []) Tryz.func161 (by kernel_rfl) (by kernel_rfl)
    (Rq.free (by kernel_rfl))
    (Eq.mp (by kernel_rfl) H)

/-! #### loop.example/g01173/laws.eqComb (function 164) -/
def laws_eqComb.S (a_0 : Array Value) (b_1 : Array Value) (Post : Value → Heap → Prop) (h : Heap) : Prop :=
    ALC a_0 T_impl_Comb (fun g1 h2 =>
    ALC b_1 T_impl_Comb (fun g3 h4 =>
    LDA 2 h4 ⟨g1, 0, none⟩ fun a5 =>
    LDA 2 h4 ⟨g3, 0, none⟩ fun a6 =>
    CALL prg f_laws_eqRing #[.agg a5, .agg a6] (fun q7 h8 =>
    asB q7 fun b9 =>
    BIF (!b9) (
    Post (.bool false) h8) (
    oF .f32 (cell h8 ⟨g1, 2, none⟩) fun r10 =>
    FFC .f32 r10 .f64 fun r11 =>
    oF .f32 (cell h8 ⟨g3, 2, none⟩) fun r12 =>
    FFC .f32 r12 .f64 fun r13 =>
    CALL prg f_laws_sameFloat #[.float .f64 r11, .float .f64 r13] (fun q14 h15 =>
    asB q14 fun b16 =>
    BIF (!b16) (
    Post (.bool false) h15) (
    Post (.bool true) h15)) h8)) h4) h2) h
noncomputable def laws_eqComb.code : Code := (Tryz.f164.body).getD .skip
theorem laws_eqComb.call {a_0 : Array Value} {b_1 : Array Value} {Post : Value → Heap → Prop} {h : Heap} (H : laws_eqComb.S a_0 b_1 Post h) : CALL prg f_laws_eqComb #[.agg a_0, .agg b_1] Post h :=
  fn_call tau_ok mixed (c := laws_eqComb.code) (Λ := lookL []) Tryz.func164 (by kernel_rfl) (by kernel_rfl)
    (Rq.free (by kernel_rfl))
    (Eq.mp (by kernel_rfl) H)

/-! #### loop.example/g01173/laws.markComb (function 166) -/
def laws_markComb.S (a_0 : Array Value) (k_1 : Int) (Post : Value → Heap → Prop) (h : Heap) : Prop :=
    ALC a_0 T_impl_Comb (fun g1 h2 =>
    LDA 2 h2 ⟨g1, 0, none⟩ fun a3 =>
    CALL prg f_laws_markRing #[.agg a3, .int .i64 k_1] (fun q4 h5 =>
    asI .i64 q4 fun n6 =>
    Post (.int .i64 n6) h5) h2) h
noncomputable def laws_markComb.code : Code := (Tryz.f166.body).getD .skip
theorem laws_markComb.call {a_0 : Array Value} {k_1 : Int} {Post : Value → Heap → Prop} {h : Heap} (H : laws_markComb.S a_0 k_1 Post h) : CALL prg f_laws_markComb #[.agg a_0, .int .i64 k_1] Post h :=
  fn_call tau_ok mixed (c := laws_markComb.code) (Λ := lookL []) Tryz.func166 (by kernel_rfl) (by kernel_rfl)
    (Rq.free (by kernel_rfl))
    (Eq.mp (by kernel_rfl) H)

/-! #### loop.example/g01173/laws.heldComb (function 167) -/
def laws_heldComb.S (a_0 : Array Value) (k_1 : Int) (Post : Value → Heap → Prop) (h : Heap) : Prop :=
    ALC a_0 T_impl_Comb (fun g1 h2 =>
    LDA 2 h2 ⟨g1, 0, none⟩ fun a3 =>
    CALL prg f_laws_heldRing #[.agg a3, .int .i64 k_1] (fun q4 h5 =>
    asI .i64 q4 fun n6 =>
    BIF ((decide (n6 < (0 : Int)))) (
    Post (.int .i64 (-1 : Int)) h5) (
    Post (.int .i64 n6) h5)) h2) h
noncomputable def laws_heldComb.code : Code := (Tryz.f167.body).getD .skip
theorem laws_heldComb.call {a_0 : Array Value} {k_1 : Int} {Post : Value → Heap → Prop} {h : Heap} (H : laws_heldComb.S a_0 k_1 Post h) : CALL prg f_laws_heldComb #[.agg a_0, .int .i64 k_1] Post h :=
  fn_call tau_ok mixed (c := laws_heldComb.code) (Λ := lookL []) Tryz.func167 (by kernel_rfl) (by kernel_rfl)
    (Rq.free (by kernel_rfl))
    (Eq.mp (by kernel_rfl) H)

/-! #### loop.example/g01173/laws.szCombA2 (function 76) -/
def laws_szCombA2.B2 (Post : Value → Heap → Prop) (N2 : (Int × Addr × Int) → Heap → Prop) : Int × Addr × Int → Heap → Prop
  | (left_1, a_2, i_5), h =>
    BIF ((decide (i_5 < (2 : Int)))) (
    IDX i_5 2 <|
    LDA 3 h ((Addr.add a_2 ((Int.toNat i_5) * 3))) fun a3 =>
    CALL prg f_laws_szComb #[.agg a3, .int .i64 left_1] (fun q4 h5 =>
    asI .i64 q4 fun n6 =>
    BIF ((decide (n6 < (0 : Int)))) (
    Post (.int .i64 (-1 : Int)) h5) (
    N2 (n6, a_2, ((IntKind.i64.wrap (i_5 + (1 : Int))))) h5)) h) (
    Post (.int .i64 left_1) h)
def laws_szCombA2.g2 (fr : Frame) : Int × Addr × Int := ((gI (lget fr 1)), (gP (lget fr 2)), (gI (lget fr 5)))
def laws_szCombA2.l2 (Post : Value → Heap → Prop) : Frame → Heap → Prop := fun fr h => GRD (shape (kds 18 [(1, .i .i64), (2, .p), (5, .i .i64)]) fr) (LOOP (laws_szCombA2.B2 Post) (laws_szCombA2.g2 fr) h)
def laws_szCombA2.S (a_0 : Array Value) (left_1 : Int) (Post : Value → Heap → Prop) (h : Heap) : Prop :=
    ALC a_0 T_2_laws_Comb (fun g1 h2 =>
    LOOP (laws_szCombA2.B2 Post) (left_1, ⟨g1, 0, none⟩, (0 : Int)) h2) h
noncomputable def laws_szCombA2.code : Code := (Tryz.f76.body).getD .skip
theorem laws_szCombA2.call {a_0 : Array Value} {left_1 : Int} {Post : Value → Heap → Prop} {h : Heap} (H : laws_szCombA2.S a_0 left_1 Post h) : CALL prg f_laws_szCombA2 #[.agg a_0, .int .i64 left_1] Post h :=
  fn_call tau_ok mixed (c := laws_szCombA2.code) (Λ := lookL [(1000002, laws_szCombA2.l2 Post)]) Tryz.func76 (by kernel_rfl) (by kernel_rfl)
    (Rq.seq (by kernel_rfl) (Rq.free (by kernel_rfl)) (Rq.seq (by kernel_rfl) (Rq.seq (by kernel_rfl) (Rq.free (by kernel_rfl)) (Rq.block (Rq.loop (laws_szCombA2.l2 Post) (by kernel_rfl) (segL (g := laws_szCombA2.g2) tau_ok mixed (Λ := fun N2 => lookL []) (fun _ _ _ => by kernel_rfl) (fun N2 => (Rq.free (by kernel_rfl))))))) (Rq.free (by kernel_rfl))))
    (Eq.mp (by kernel_rfl) H)

/-! #### loop.example/g01173/laws.toCombA2 (function 80) -/
def laws_toCombA2.B3 (Post : Value → Heap → Prop) (N3 : (Addr × Addr × Addr × Int) → Heap → Prop) : Addr × Addr × Addr × Int → Heap → Prop
  | (a_1, t2, out_3, i_4), h =>
    BIF ((decide (i_4 < (2 : Int)))) (
    IDX i_4 2 <|
    LDA 3 h ((Addr.add a_1 ((Int.toNat i_4) * 3))) fun a7 =>
    CALL prg f_laws_toComb #[.agg a7] (fun q8 h9 =>
    asA q8 fun a10 =>
    IDX i_4 2 <|
    STA 3 h9 ((Addr.add out_3 ((Int.toNat i_4) * 3))) a10 fun h11 =>
    N3 (a_1, t2, out_3, ((IntKind.i64.wrap (i_4 + (1 : Int))))) h11) h) (
    LDA 6 h out_3 fun a12 =>
    STA 6 h t2 a12 fun h13 =>
    LDA 6 h13 t2 fun a14 =>
    Post (.agg a14) h13)
def laws_toCombA2.g3 (fr : Frame) : Addr × Addr × Addr × Int := ((gP (lget fr 1)), (gP (lget fr 2)), (gP (lget fr 3)), (gI (lget fr 4)))
def laws_toCombA2.l3 (Post : Value → Heap → Prop) : Frame → Heap → Prop := fun fr h => GRD (shape (kds 16 [(1, .p), (2, .p), (3, .p), (4, .i .i64)]) fr) (LOOP (laws_toCombA2.B3 Post) (laws_toCombA2.g3 fr) h)
def laws_toCombA2.S (a_0 : Array Value) (Post : Value → Heap → Prop) (h : Heap) : Prop :=
    ALC a_0 T_2_laws_Comb (fun g1 h2 =>
    ALC ⟨Z_2_impl_Comb⟩ T_2_impl_Comb (fun g3 h4 =>
    ALC ⟨Z_2_impl_Comb⟩ T_2_impl_Comb (fun g5 h6 =>
    LOOP (laws_toCombA2.B3 Post) (⟨g1, 0, none⟩, ⟨g3, 0, none⟩, ⟨g5, 0, none⟩, (0 : Int)) h6) h4) h2) h
noncomputable def laws_toCombA2.code : Code := (Tryz.f80.body).getD .skip
theorem laws_toCombA2.call {a_0 : Array Value} {Post : Value → Heap → Prop} {h : Heap} (H : laws_toCombA2.S a_0 Post h) : CALL prg f_laws_toCombA2 #[.agg a_0] Post h :=
  fn_call tau_ok mixed (c := laws_toCombA2.code) (Λ := lookL [(1000003, laws_toCombA2.l3 Post)]) Tryz.func80 (by kernel_rfl) (by kernel_rfl)
    (Rq.seq (by kernel_rfl) (Rq.free (by kernel_rfl)) (Rq.seq (by kernel_rfl) (Rq.free (by kernel_rfl)) (Rq.seq (by kernel_rfl) (Rq.seq (by kernel_rfl) (Rq.free (by kernel_rfl)) (Rq.block (Rq.loop (laws_toCombA2.l3 Post) (by kernel_rfl) (segL (g := laws_toCombA2.g3) tau_ok mixed (Λ := fun N3 => lookL []) (fun _ _ _ => by kernel_rfl) (fun N3 => (Rq.free (by kernel_rfl))))))) (Rq.free (by kernel_rfl)))))
    (Eq.mp (by kernel_rfl) H)

/-! #### loop.example/g01173/laws.eqCombA2 (function 86) -/
def laws_eqCombA2.B2 (Post : Value → Heap → Prop) (N2 : (Addr × Addr × Int) → Heap → Prop) : Addr × Addr × Int → Heap → Prop
  | (a_2, b_3, i_5), h =>
    BIF ((decide (i_5 < (2 : Int)))) (
    IDX i_5 2 <|
    LDA 3 h ((Addr.add a_2 ((Int.toNat i_5) * 3))) fun a5 =>
    IDX i_5 2 <|
    LDA 3 h ((Addr.add b_3 ((Int.toNat i_5) * 3))) fun a6 =>
    CALL prg f_laws_eqComb #[.agg a5, .agg a6] (fun q7 h8 =>
    asB q7 fun b9 =>
    BIF (!b9) (
    Post (.bool false) h8) (
    N2 (a_2, b_3, ((IntKind.i64.wrap (i_5 + (1 : Int))))) h8)) h) (
    Post (.bool true) h)
def laws_eqCombA2.g2 (fr : Frame) : Addr × Addr × Int := ((gP (lget fr 2)), (gP (lget fr 3)), (gI (lget fr 5)))
def laws_eqCombA2.l2 (Post : Value → Heap → Prop) : Frame → Heap → Prop := fun fr h => GRD (shape (kds 18 [(2, .p), (3, .p), (5, .i .i64)]) fr) (LOOP (laws_eqCombA2.B2 Post) (laws_eqCombA2.g2 fr) h)
def laws_eqCombA2.S (a_0 : Array Value) (b_1 : Array Value) (Post : Value → Heap → Prop) (h : Heap) : Prop :=
    ALC a_0 T_2_impl_Comb (fun g1 h2 =>
    ALC b_1 T_2_impl_Comb (fun g3 h4 =>
    LOOP (laws_eqCombA2.B2 Post) (⟨g1, 0, none⟩, ⟨g3, 0, none⟩, (0 : Int)) h4) h2) h
noncomputable def laws_eqCombA2.code : Code := (Tryz.f86.body).getD .skip
theorem laws_eqCombA2.call {a_0 : Array Value} {b_1 : Array Value} {Post : Value → Heap → Prop} {h : Heap} (H : laws_eqCombA2.S a_0 b_1 Post h) : CALL prg f_laws_eqCombA2 #[.agg a_0, .agg b_1] Post h :=
  fn_call tau_ok mixed (c := laws_eqCombA2.code) (Λ := lookL [(1000002, laws_eqCombA2.l2 Post)]) Tryz.func86 (by kernel_rfl) (by kernel_rfl)
    (Rq.seq (by kernel_rfl) (Rq.free (by kernel_rfl)) (Rq.seq (by kernel_rfl) (Rq.seq (by kernel_rfl) (Rq.free (by kernel_rfl)) (Rq.block (Rq.loop (laws_eqCombA2.l2 Post) (by kernel_rfl) (segL (g := laws_eqCombA2.g2) tau_ok mixed (Λ := fun N2 => lookL []) (fun _ _ _ => by kernel_rfl) (fun N2 => (Rq.free (by kernel_rfl))))))) (Rq.free (by kernel_rfl))))
    (Eq.mp (by kernel_rfl) H)

/-! #### loop.example/g01173/laws.markCombA2 (function 92) -/
def laws_markCombA2.B2 (Post : Value → Heap → Prop) (N2 : (Int × Addr × Int) → Heap → Prop) : Int × Addr × Int → Heap → Prop
  | (k_1, a_2, i_5), h =>
    BIF ((decide (i_5 < (2 : Int)))) (
    IDX i_5 2 <|
    LDA 3 h ((Addr.add a_2 ((Int.toNat i_5) * 3))) fun a3 =>
    CALL prg f_laws_markComb #[.agg a3, .int .i64 k_1] (fun q4 h5 =>
    asI .i64 q4 fun n6 =>
    N2 (n6, a_2, ((IntKind.i64.wrap (i_5 + (1 : Int))))) h5) h) (
    Post (.int .i64 k_1) h)
def laws_markCombA2.g2 (fr : Frame) : Int × Addr × Int := ((gI (lget fr 1)), (gP (lget fr 2)), (gI (lget fr 5)))
def laws_markCombA2.l2 (Post : Value → Heap → Prop) : Frame → Heap → Prop := fun fr h => GRD (shape (kds 16 [(1, .i .i64), (2, .p), (5, .i .i64)]) fr) (LOOP (laws_markCombA2.B2 Post) (laws_markCombA2.g2 fr) h)
def laws_markCombA2.S (a_0 : Array Value) (k_1 : Int) (Post : Value → Heap → Prop) (h : Heap) : Prop :=
    ALC a_0 T_2_impl_Comb (fun g1 h2 =>
    LOOP (laws_markCombA2.B2 Post) (k_1, ⟨g1, 0, none⟩, (0 : Int)) h2) h
noncomputable def laws_markCombA2.code : Code := (Tryz.f92.body).getD .skip
theorem laws_markCombA2.call {a_0 : Array Value} {k_1 : Int} {Post : Value → Heap → Prop} {h : Heap} (H : laws_markCombA2.S a_0 k_1 Post h) : CALL prg f_laws_markCombA2 #[.agg a_0, .int .i64 k_1] Post h :=
  fn_call tau_ok mixed (c := laws_markCombA2.code) (Λ := lookL [(1000002, laws_markCombA2.l2 Post)]) Tryz.func92 (by kernel_rfl) (by kernel_rfl)
    (Rq.seq (by kernel_rfl) (Rq.free (by kernel_rfl)) (Rq.seq (by kernel_rfl) (Rq.seq (by kernel_rfl) (Rq.free (by kernel_rfl)) (Rq.block (Rq.loop (laws_markCombA2.l2 Post) (by kernel_rfl) (segL (g := laws_markCombA2.g2) tau_ok mixed (Λ := fun N2 => lookL []) (fun _ _ _ => by kernel_rfl) (fun N2 => (Rq.free (by kernel_rfl))))))) (Rq.free (by kernel_rfl))))
    (Eq.mp (by kernel_rfl) H)

/-! #### loop.example/g01173/laws.heldCombA2 (function 96) -/
def laws_heldCombA2.B2 (Post : Value → Heap → Prop) (N2 : (Int × Addr × Int) → Heap → Prop) : Int × Addr × Int → Heap → Prop
  | (k_1, a_2, i_5), h =>
    BIF ((decide (i_5 < (2 : Int)))) (
    IDX i_5 2 <|
    LDA 3 h ((Addr.add a_2 ((Int.toNat i_5) * 3))) fun a3 =>
    CALL prg f_laws_heldComb #[.agg a3, .int .i64 k_1] (fun q4 h5 =>
    asI .i64 q4 fun n6 =>
    BIF ((decide (n6 < (0 : Int)))) (
    Post (.int .i64 (-1 : Int)) h5) (
    N2 (n6, a_2, ((IntKind.i64.wrap (i_5 + (1 : Int))))) h5)) h) (
    Post (.int .i64 k_1) h)
def laws_heldCombA2.g2 (fr : Frame) : Int × Addr × Int := ((gI (lget fr 1)), (gP (lget fr 2)), (gI (lget fr 5)))
def laws_heldCombA2.l2 (Post : Value → Heap → Prop) : Frame → Heap → Prop := fun fr h => GRD (shape (kds 18 [(1, .i .i64), (2, .p), (5, .i .i64)]) fr) (LOOP (laws_heldCombA2.B2 Post) (laws_heldCombA2.g2 fr) h)
def laws_heldCombA2.S (a_0 : Array Value) (k_1 : Int) (Post : Value → Heap → Prop) (h : Heap) : Prop :=
    ALC a_0 T_2_impl_Comb (fun g1 h2 =>
    LOOP (laws_heldCombA2.B2 Post) (k_1, ⟨g1, 0, none⟩, (0 : Int)) h2) h
noncomputable def laws_heldCombA2.code : Code := (Tryz.f96.body).getD .skip
theorem laws_heldCombA2.call {a_0 : Array Value} {k_1 : Int} {Post : Value → Heap → Prop} {h : Heap} (H : laws_heldCombA2.S a_0 k_1 Post h) : CALL prg f_laws_heldCombA2 #[.agg a_0, .int .i64 k_1] Post h :=
  fn_call tau_ok mixed (c := laws_heldCombA2.code) (Λ := lookL [(1000002, laws_heldCombA2.l2 Post)]) Tryz.func96 (by kernel_rfl) (by kernel_rfl)
    (Rq.seq (by kernel_rfl) (Rq.free (by kernel_rfl)) (Rq.seq (by kernel_rfl) (Rq.seq (by kernel_rfl) (Rq.free (by kernel_rfl)) (Rq.block (Rq.loop (laws_heldCombA2.l2 Post) (by kernel_rfl) (segL (g := laws_heldCombA2.g2) tau_ok mixed (Λ := fun N2 => lookL []) (fun _ _ _ => by kernel_rfl) (fun N2 => (Rq.free (by kernel_rfl))))))) (Rq.free (by kernel_rfl))))
    (Eq.mp (by kernel_rfl) H)

/-! #### loop.example/g01173/laws.szRingA4 (function 77) -/
def laws_szRingA4.B2 (Post : Value → Heap → Prop) (N2 : (Int × Addr × Int) → Heap → Prop) : Int × Addr × Int → Heap → Prop
  | (left_1, a_2, i_5), h =>
    BIF ((decide (i_5 < (4 : Int)))) (
    IDX i_5 4 <|
    LDA 2 h ((Addr.add a_2 ((Int.toNat i_5) * 2))) fun a3 =>
    CALL prg f_laws_szRing #[.agg a3, .int .i64 left_1] (fun q4 h5 =>
    asI .i64 q4 fun n6 =>
    BIF ((decide (n6 < (0 : Int)))) (
    Post (.int .i64 (-1 : Int)) h5) (
    N2 (n6, a_2, ((IntKind.i64.wrap (i_5 + (1 : Int))))) h5)) h) (
    Post (.int .i64 left_1) h)
def laws_szRingA4.g2 (fr : Frame) : Int × Addr × Int := ((gI (lget fr 1)), (gP (lget fr 2)), (gI (lget fr 5)))
def laws_szRingA4.l2 (Post : Value → Heap → Prop) : Frame → Heap → Prop := fun fr h => GRD (shape (kds 18 [(1, .i .i64), (2, .p), (5, .i .i64)]) fr) (LOOP (laws_szRingA4.B2 Post) (laws_szRingA4.g2 fr) h)
def laws_szRingA4.S (a_0 : Array Value) (left_1 : Int) (Post : Value → Heap → Prop) (h : Heap) : Prop :=
    ALC a_0 T_4_laws_Ring (fun g1 h2 =>
    LOOP (laws_szRingA4.B2 Post) (left_1, ⟨g1, 0, none⟩, (0 : Int)) h2) h
noncomputable def laws_szRingA4.code : Code := (Tryz.f77.body).getD .skip
theorem laws_szRingA4.call {a_0 : Array Value} {left_1 : Int} {Post : Value → Heap → Prop} {h : Heap} (H : laws_szRingA4.S a_0 left_1 Post h) : CALL prg f_laws_szRingA4 #[.agg a_0, .int .i64 left_1] Post h :=
  fn_call tau_ok mixed (c := laws_szRingA4.code) (Λ := lookL [(1000002, laws_szRingA4.l2 Post)]) Tryz.func77 (by kernel_rfl) (by kernel_rfl)
    (Rq.seq (by kernel_rfl) (Rq.free (by kernel_rfl)) (Rq.seq (by kernel_rfl) (Rq.seq (by kernel_rfl) (Rq.free (by kernel_rfl)) (Rq.block (Rq.loop (laws_szRingA4.l2 Post) (by kernel_rfl) (segL (g := laws_szRingA4.g2) tau_ok mixed (Λ := fun N2 => lookL []) (fun _ _ _ => by kernel_rfl) (fun N2 => (Rq.free (by kernel_rfl))))))) (Rq.free (by kernel_rfl))))
    (Eq.mp (by kernel_rfl) H)

/-! #### loop.example/g01173/laws.toRingA4 (function 81) -/
def laws_toRingA4.B3 (Post : Value → Heap → Prop) (N3 : (Addr × Addr × Addr × Int) → Heap → Prop) : Addr × Addr × Addr × Int → Heap → Prop
  | (a_1, t2, out_3, i_4), h =>
    BIF ((decide (i_4 < (4 : Int)))) (
    IDX i_4 4 <|
    LDA 2 h ((Addr.add a_1 ((Int.toNat i_4) * 2))) fun a7 =>
    CALL prg f_laws_toRing #[.agg a7] (fun q8 h9 =>
    asA q8 fun a10 =>
    IDX i_4 4 <|
    STA 2 h9 ((Addr.add out_3 ((Int.toNat i_4) * 2))) a10 fun h11 =>
    N3 (a_1, t2, out_3, ((IntKind.i64.wrap (i_4 + (1 : Int))))) h11) h) (
    LDA 8 h out_3 fun a12 =>
    STA 8 h t2 a12 fun h13 =>
    LDA 8 h13 t2 fun a14 =>
    Post (.agg a14) h13)
def laws_toRingA4.g3 (fr : Frame) : Addr × Addr × Addr × Int := ((gP (lget fr 1)), (gP (lget fr 2)), (gP (lget fr 3)), (gI (lget fr 4)))
def laws_toRingA4.l3 (Post : Value → Heap → Prop) : Frame → Heap → Prop := fun fr h => GRD (shape (kds 16 [(1, .p), (2, .p), (3, .p), (4, .i .i64)]) fr) (LOOP (laws_toRingA4.B3 Post) (laws_toRingA4.g3 fr) h)
def laws_toRingA4.S (a_0 : Array Value) (Post : Value → Heap → Prop) (h : Heap) : Prop :=
    ALC a_0 T_4_laws_Ring (fun g1 h2 =>
    ALC ⟨Z_4_impl_Ring⟩ T_4_impl_Ring (fun g3 h4 =>
    ALC ⟨Z_4_impl_Ring⟩ T_4_impl_Ring (fun g5 h6 =>
    LOOP (laws_toRingA4.B3 Post) (⟨g1, 0, none⟩, ⟨g3, 0, none⟩, ⟨g5, 0, none⟩, (0 : Int)) h6) h4) h2) h
noncomputable def laws_toRingA4.code : Code := (Tryz.f81.body).getD .skip
theorem laws_toRingA4.call {a_0 : Array Value} {Post : Value → Heap → Prop} {h : Heap} (H : laws_toRingA4.S a_0 Post h) : CALL prg f_laws_toRingA4 #[.agg a_0] Post h :=
  fn_call tau_ok mixed (c := laws_toRingA4.code) (Λ := lookL [(1000003, laws_toRingA4.l3 Post)]) Tryz.func81 (by kernel_rfl) (by kernel_rfl)
    (Rq.seq (by kernel_rfl) (Rq.free (by kernel_rfl)) (Rq.seq (by kernel_rfl) (Rq.free (by kernel_rfl)) (Rq.seq (by kernel_rfl) (Rq.seq (by kernel_rfl) (Rq.free (by kernel_rfl)) (Rq.block (Rq.loop (laws_toRingA4.l3 Post) (by kernel_rfl) (segL (g := laws_toRingA4.g3) tau_ok mixed (Λ := fun N3 => lookL []) (fun _ _ _ => by kernel_rfl) (fun N3 => (Rq.free (by kernel_rfl))))))) (Rq.free (by kernel_rfl)))))
    (Eq.mp (by kernel_rfl) H)

/-! #### loop.example/g01173/laws.eqRingA4 (function 87) -/
def laws_eqRingA4.B2 (Post : Value → Heap → Prop) (N2 : (Addr × Addr × Int) → Heap → Prop) : Addr × Addr × Int → Heap → Prop
  | (a_2, b_3, i_5), h =>
    BIF ((decide (i_5 < (4 : Int)))) (
    IDX i_5 4 <|
    LDA 2 h ((Addr.add a_2 ((Int.toNat i_5) * 2))) fun a5 =>
    IDX i_5 4 <|
    LDA 2 h ((Addr.add b_3 ((Int.toNat i_5) * 2))) fun a6 =>
    CALL prg f_laws_eqRing #[.agg a5, .agg a6] (fun q7 h8 =>
    asB q7 fun b9 =>
    BIF (!b9) (
    Post (.bool false) h8) (
    N2 (a_2, b_3, ((IntKind.i64.wrap (i_5 + (1 : Int))))) h8)) h) (
    Post (.bool true) h)
def laws_eqRingA4.g2 (fr : Frame) : Addr × Addr × Int := ((gP (lget fr 2)), (gP (lget fr 3)), (gI (lget fr 5)))
def laws_eqRingA4.l2 (Post : Value → Heap → Prop) : Frame → Heap → Prop := fun fr h => GRD (shape (kds 18 [(2, .p), (3, .p), (5, .i .i64)]) fr) (LOOP (laws_eqRingA4.B2 Post) (laws_eqRingA4.g2 fr) h)
def laws_eqRingA4.S (a_0 : Array Value) (b_1 : Array Value) (Post : Value → Heap → Prop) (h : Heap) : Prop :=
    ALC a_0 T_4_impl_Ring (fun g1 h2 =>
    ALC b_1 T_4_impl_Ring (fun g3 h4 =>
    LOOP (laws_eqRingA4.B2 Post) (⟨g1, 0, none⟩, ⟨g3, 0, none⟩, (0 : Int)) h4) h2) h
noncomputable def laws_eqRingA4.code : Code := (Tryz.f87.body).getD .skip
theorem laws_eqRingA4.call {a_0 : Array Value} {b_1 : Array Value} {Post : Value → Heap → Prop} {h : Heap} (H : laws_eqRingA4.S a_0 b_1 Post h) : CALL prg f_laws_eqRingA4 #[.agg a_0, .agg b_1] Post h :=
  fn_call tau_ok mixed (c := laws_eqRingA4.code) (Λ := lookL [(1000002, laws_eqRingA4.l2 Post)]) Tryz.func87 (by kernel_rfl) (by kernel_rfl)
    (Rq.seq (by kernel_rfl) (Rq.free (by kernel_rfl)) (Rq.seq (by kernel_rfl) (Rq.seq (by kernel_rfl) (Rq.free (by kernel_rfl)) (Rq.block (Rq.loop (laws_eqRingA4.l2 Post) (by kernel_rfl) (segL (g := laws_eqRingA4.g2) tau_ok mixed (Λ := fun N2 => lookL []) (fun _ _ _ => by kernel_rfl) (fun N2 => (Rq.free (by kernel_rfl))))))) (Rq.free (by kernel_rfl))))
    (Eq.mp (by kernel_rfl) H)

/-! #### loop.example/g01173/laws.markRingA4 (function 93) -/
def laws_markRingA4.B2 (Post : Value → Heap → Prop) (N2 : (Int × Addr × Int) → Heap → Prop) : Int × Addr × Int → Heap → Prop
  | (k_1, a_2, i_5), h =>
    BIF ((decide (i_5 < (4 : Int)))) (
    IDX i_5 4 <|
    LDA 2 h ((Addr.add a_2 ((Int.toNat i_5) * 2))) fun a3 =>
    CALL prg f_laws_markRing #[.agg a3, .int .i64 k_1] (fun q4 h5 =>
    asI .i64 q4 fun n6 =>
    N2 (n6, a_2, ((IntKind.i64.wrap (i_5 + (1 : Int))))) h5) h) (
    Post (.int .i64 k_1) h)
def laws_markRingA4.g2 (fr : Frame) : Int × Addr × Int := ((gI (lget fr 1)), (gP (lget fr 2)), (gI (lget fr 5)))
def laws_markRingA4.l2 (Post : Value → Heap → Prop) : Frame → Heap → Prop := fun fr h => GRD (shape (kds 16 [(1, .i .i64), (2, .p), (5, .i .i64)]) fr) (LOOP (laws_markRingA4.B2 Post) (laws_markRingA4.g2 fr) h)
def laws_markRingA4.S (a_0 : Array Value) (k_1 : Int) (Post : Value → Heap → Prop) (h : Heap) : Prop :=
    ALC a_0 T_4_impl_Ring (fun g1 h2 =>
    LOOP (laws_markRingA4.B2 Post) (k_1, ⟨g1, 0, none⟩, (0 : Int)) h2) h
noncomputable def laws_markRingA4.code : Code := (Tryz.f93.body).getD .skip
theorem laws_markRingA4.call {a_0 : Array Value} {k_1 : Int} {Post : Value → Heap → Prop} {h : Heap} (H : laws_markRingA4.S a_0 k_1 Post h) : CALL prg f_laws_markRingA4 #[.agg a_0, .int .i64 k_1] Post h :=
  fn_call tau_ok mixed (c := laws_markRingA4.code) (Λ := lookL [(1000002, laws_markRingA4.l2 Post)]) Tryz.func93 (by kernel_rfl) (by kernel_rfl)
    (Rq.seq (by kernel_rfl) (Rq.free (by kernel_rfl)) (Rq.seq (by kernel_rfl) (Rq.seq (by kernel_rfl) (Rq.free (by kernel_rfl)) (Rq.block (Rq.loop (laws_markRingA4.l2 Post) (by kernel_rfl) (segL (g := laws_markRingA4.g2) tau_ok mixed (Λ := fun N2 => lookL []) (fun _ _ _ => by kernel_rfl) (fun N2 => (Rq.free (by kernel_rfl))))))) (Rq.free (by kernel_rfl))))
    (Eq.mp (by kernel_rfl) H)

/-! #### loop.example/g01173/laws.heldRingA4 (function 97) -/
def laws_heldRingA4.B2 (Post : Value → Heap → Prop) (N2 : (Int × Addr × Int) → Heap → Prop) : Int × Addr × Int → Heap → Prop
  | (k_1, a_2, i_5), h =>
    BIF ((decide (i_5 < (4 : Int)))) (
    IDX i_5 4 <|
    LDA 2 h ((Addr.add a_2 ((Int.toNat i_5) * 2))) fun a3 =>
    CALL prg f_laws_heldRing #[.agg a3, .int .i64 k_1] (fun q4 h5 =>
    asI .i64 q4 fun n6 =>
    BIF ((decide (n6 < (0 : Int)))) (
    Post (.int .i64 (-1 : Int)) h5) (
    N2 (n6, a_2, ((IntKind.i64.wrap (i_5 + (1 : Int))))) h5)) h) (
    Post (.int .i64 k_1) h)
def laws_heldRingA4.g2 (fr : Frame) : Int × Addr × Int := ((gI (lget fr 1)), (gP (lget fr 2)), (gI (lget fr 5)))
def laws_heldRingA4.l2 (Post : Value → Heap → Prop) : Frame → Heap → Prop := fun fr h => GRD (shape (kds 18 [(1, .i .i64), (2, .p), (5, .i .i64)]) fr) (LOOP (laws_heldRingA4.B2 Post) (laws_heldRingA4.g2 fr) h)
def laws_heldRingA4.S (a_0 : Array Value) (k_1 : Int) (Post : Value → Heap → Prop) (h : Heap) : Prop :=
    ALC a_0 T_4_impl_Ring (fun g1 h2 =>
    LOOP (laws_heldRingA4.B2 Post) (k_1, ⟨g1, 0, none⟩, (0 : Int)) h2) h
noncomputable def laws_heldRingA4.code : Code := (Tryz.f97.body).getD .skip
theorem laws_heldRingA4.call {a_0 : Array Value} {k_1 : Int} {Post : Value → Heap → Prop} {h : Heap} (H : laws_heldRingA4.S a_0 k_1 Post h) : CALL prg f_laws_heldRingA4 #[.agg a_0, .int .i64 k_1] Post h :=
  fn_call tau_ok mixed (c := laws_heldRingA4.code) (Λ := lookL [(1000002, laws_heldRingA4.l2 Post)]) Tryz.func97 (by kernel_rfl) (by kernel_rfl)
    (Rq.seq (by kernel_rfl) (Rq.free (by kernel_rfl)) (Rq.seq (by kernel_rfl) (Rq.seq (by kernel_rfl) (Rq.free (by kernel_rfl)) (Rq.block (Rq.loop (laws_heldRingA4.l2 Post) (by kernel_rfl) (segL (g := laws_heldRingA4.g2) tau_ok mixed (Λ := fun N2 => lookL []) (fun _ _ _ => by kernel_rfl) (fun N2 => (Rq.free (by kernel_rfl))))))) (Rq.free (by kernel_rfl))))
    (Eq.mp (by kernel_rfl) H)

/-! #### loop.example/g01173/laws.toFilterA4 (function 82) -/
def laws_toFilterA4.B3 (Post : Value → Heap → Prop) (N3 : (Addr × Addr × Addr × Int) → Heap → Prop) : Addr × Addr × Addr × Int → Heap → Prop
  | (a_1, t2, out_3, i_4), h =>
    BIF ((decide (i_4 < (4 : Int)))) (
    IDX i_4 4 <|
    LDA 6 h ((Addr.add a_1 ((Int.toNat i_4) * 6))) fun a7 =>
    CALL prg f_laws_toFilter #[.agg a7] (fun q8 h9 =>
    asA q8 fun a10 =>
    IDX i_4 4 <|
    STA 6 h9 ((Addr.add out_3 ((Int.toNat i_4) * 6))) a10 fun h11 =>
    N3 (a_1, t2, out_3, ((IntKind.i64.wrap (i_4 + (1 : Int))))) h11) h) (
    LDA 24 h out_3 fun a12 =>
    STA 24 h t2 a12 fun h13 =>
    LDA 24 h13 t2 fun a14 =>
    Post (.agg a14) h13)
def laws_toFilterA4.g3 (fr : Frame) : Addr × Addr × Addr × Int := ((gP (lget fr 1)), (gP (lget fr 2)), (gP (lget fr 3)), (gI (lget fr 4)))
def laws_toFilterA4.l3 (Post : Value → Heap → Prop) : Frame → Heap → Prop := fun fr h => GRD (shape (kds 16 [(1, .p), (2, .p), (3, .p), (4, .i .i64)]) fr) (LOOP (laws_toFilterA4.B3 Post) (laws_toFilterA4.g3 fr) h)
def laws_toFilterA4.S (a_0 : Array Value) (Post : Value → Heap → Prop) (h : Heap) : Prop :=
    ALC a_0 T_4_laws_Filter (fun g1 h2 =>
    ALC ⟨Z_4_impl_Filter⟩ T_4_impl_Filter (fun g3 h4 =>
    ALC ⟨Z_4_impl_Filter⟩ T_4_impl_Filter (fun g5 h6 =>
    LOOP (laws_toFilterA4.B3 Post) (⟨g1, 0, none⟩, ⟨g3, 0, none⟩, ⟨g5, 0, none⟩, (0 : Int)) h6) h4) h2) h
noncomputable def laws_toFilterA4.code : Code := (Tryz.f82.body).getD .skip
theorem laws_toFilterA4.call {a_0 : Array Value} {Post : Value → Heap → Prop} {h : Heap} (H : laws_toFilterA4.S a_0 Post h) : CALL prg f_laws_toFilterA4 #[.agg a_0] Post h :=
  fn_call tau_ok mixed (c := laws_toFilterA4.code) (Λ := lookL [(1000003, laws_toFilterA4.l3 Post)]) Tryz.func82 (by kernel_rfl) (by kernel_rfl)
    (Rq.seq (by kernel_rfl) (Rq.free (by kernel_rfl)) (Rq.seq (by kernel_rfl) (Rq.free (by kernel_rfl)) (Rq.seq (by kernel_rfl) (Rq.seq (by kernel_rfl) (Rq.free (by kernel_rfl)) (Rq.block (Rq.loop (laws_toFilterA4.l3 Post) (by kernel_rfl) (segL (g := laws_toFilterA4.g3) tau_ok mixed (Λ := fun N3 => lookL []) (fun _ _ _ => by kernel_rfl) (fun N3 => (Rq.free (by kernel_rfl))))))) (Rq.free (by kernel_rfl)))))
    (Eq.mp (by kernel_rfl) H)

/-! #### loop.example/g01173/laws.eqFilterA4 (function 88) -/
def laws_eqFilterA4.B2 (Post : Value → Heap → Prop) (N2 : (Addr × Addr × Int) → Heap → Prop) : Addr × Addr × Int → Heap → Prop
  | (a_2, b_3, i_5), h =>
    BIF ((decide (i_5 < (4 : Int)))) (
    IDX i_5 4 <|
    LDA 6 h ((Addr.add a_2 ((Int.toNat i_5) * 6))) fun a5 =>
    IDX i_5 4 <|
    LDA 6 h ((Addr.add b_3 ((Int.toNat i_5) * 6))) fun a6 =>
    CALL prg f_laws_eqFilter #[.agg a5, .agg a6] (fun q7 h8 =>
    asB q7 fun b9 =>
    BIF (!b9) (
    Post (.bool false) h8) (
    N2 (a_2, b_3, ((IntKind.i64.wrap (i_5 + (1 : Int))))) h8)) h) (
    Post (.bool true) h)
def laws_eqFilterA4.g2 (fr : Frame) : Addr × Addr × Int := ((gP (lget fr 2)), (gP (lget fr 3)), (gI (lget fr 5)))
def laws_eqFilterA4.l2 (Post : Value → Heap → Prop) : Frame → Heap → Prop := fun fr h => GRD (shape (kds 18 [(2, .p), (3, .p), (5, .i .i64)]) fr) (LOOP (laws_eqFilterA4.B2 Post) (laws_eqFilterA4.g2 fr) h)
def laws_eqFilterA4.S (a_0 : Array Value) (b_1 : Array Value) (Post : Value → Heap → Prop) (h : Heap) : Prop :=
    ALC a_0 T_4_impl_Filter (fun g1 h2 =>
    ALC b_1 T_4_impl_Filter (fun g3 h4 =>
    LOOP (laws_eqFilterA4.B2 Post) (⟨g1, 0, none⟩, ⟨g3, 0, none⟩, (0 : Int)) h4) h2) h
noncomputable def laws_eqFilterA4.code : Code := (Tryz.f88.body).getD .skip
theorem laws_eqFilterA4.call {a_0 : Array Value} {b_1 : Array Value} {Post : Value → Heap → Prop} {h : Heap} (H : laws_eqFilterA4.S a_0 b_1 Post h) : CALL prg f_laws_eqFilterA4 #[.agg a_0, .agg b_1] Post h :=
  fn_call tau_ok mixed (c := laws_eqFilterA4.code) (Λ := lookL [(1000002, laws_eqFilterA4.l2 Post)]) Tryz.func88 (by kernel_rfl) (by kernel_rfl)
    (Rq.seq (by kernel_rfl) (Rq.free (by kernel_rfl)) (Rq.seq (by kernel_rfl) (Rq.seq (by kernel_rfl) (Rq.free (by kernel_rfl)) (Rq.block (Rq.loop (laws_eqFilterA4.l2 Post) (by kernel_rfl) (segL (g := laws_eqFilterA4.g2) tau_ok mixed (Λ := fun N2 => lookL []) (fun _ _ _ => by kernel_rfl) (fun N2 => (Rq.free (by kernel_rfl))))))) (Rq.free (by kernel_rfl))))
    (Eq.mp (by kernel_rfl) H)

/-! #### loop.example/g01173/laws.szRoom (function 20) -/
def laws_szRoom.S (a_0 : Array Value) (left_1 : Int) (Post : Value → Heap → Prop) (h : Heap) : Prop :=
    ALC a_0 T_laws_Room (fun g1 h2 =>
    LDA 2 h2 ⟨g1, 0, none⟩ fun a3 =>
    CALL prg f_laws_szRing #[.agg a3, .int .i64 left_1] (fun q4 h5 =>
    asI .i64 q4 fun n6 =>
    BIF ((decide (n6 < (0 : Int)))) (
    Post (.int .i64 (-1 : Int)) h5) (
    oL (cell h5 ⟨g1, 2, none⟩) fun l7b l7l l7c =>
    CALL prg f_laws_szTapS #[.slice l7b l7l l7c, .int .i64 n6] (fun q8 h9 =>
    asI .i64 q8 fun n10 =>
    BIF ((decide (n10 < (0 : Int)))) (
    Post (.int .i64 (-1 : Int)) h9) (
    LDA 6 h9 ⟨g1, 3, none⟩ fun a11 =>
    CALL prg f_laws_szCombA2 #[.agg a11, .int .i64 n10] (fun q12 h13 =>
    asI .i64 q12 fun n14 =>
    BIF ((decide (n14 < (0 : Int)))) (
    Post (.int .i64 (-1 : Int)) h13) (
    LDA 8 h13 ⟨g1, 9, none⟩ fun a15 =>
    CALL prg f_laws_szRingA4 #[.agg a15, .int .i64 n14] (fun q16 h17 =>
    asI .i64 q16 fun n18 =>
    BIF ((decide (n18 < (0 : Int)))) (
    Post (.int .i64 (-1 : Int)) h17) (
    Post (.int .i64 n18) h17)) h13)) h9)) h5)) h2) h
noncomputable def laws_szRoom.code : Code := (Tryz.f20.body).getD .skip
theorem laws_szRoom.call {a_0 : Array Value} {left_1 : Int} {Post : Value → Heap → Prop} {h : Heap} (H : laws_szRoom.S a_0 left_1 Post h) : CALL prg f_laws_szRoom #[.agg a_0, .int .i64 left_1] Post h :=
  fn_call tau_ok mixed (c := laws_szRoom.code) (Λ := lookL []) Tryz.func20 (by kernel_rfl) (by kernel_rfl)
    (Rq.free (by kernel_rfl))
    (Eq.mp (by kernel_rfl) H)

/-! #### loop.example/g01173/laws.toRoom (function 21) -/
def laws_toRoom.S (a_0 : Array Value) (Post : Value → Heap → Prop) (h : Heap) : Prop :=
    ALC a_0 T_laws_Room (fun g1 h2 =>
    ALC ⟨Z_impl_Room⟩ T_impl_Room (fun g3 h4 =>
    ALC ⟨Z_impl_Room⟩ T_impl_Room (fun g5 h6 =>
    LDA 2 h6 ⟨g1, 0, none⟩ fun a7 =>
    CALL prg f_laws_toRing #[.agg a7] (fun q8 h9 =>
    asA q8 fun a10 =>
    STA 2 h9 ⟨g5, 0, none⟩ a10 fun h11 =>
    oL (cell h11 ⟨g1, 2, none⟩) fun l12b l12l l12c =>
    CALL prg f_laws_toTapS #[.slice l12b l12l l12c] (fun q13 h14 =>
    asL q13 fun l15b l15l l15c =>
    ST1 h14 ⟨g5, 2, none⟩ (.slice l15b l15l l15c) fun h16 =>
    LDA 6 h16 ⟨g1, 3, none⟩ fun a17 =>
    CALL prg f_laws_toCombA2 #[.agg a17] (fun q18 h19 =>
    asA q18 fun a20 =>
    STA 6 h19 ⟨g5, 3, none⟩ a20 fun h21 =>
    LDA 8 h21 ⟨g1, 9, none⟩ fun a22 =>
    CALL prg f_laws_toRingA4 #[.agg a22] (fun q23 h24 =>
    asA q23 fun a25 =>
    STA 8 h24 ⟨g5, 9, none⟩ a25 fun h26 =>
    LDA 24 h26 ⟨g1, 17, none⟩ fun a27 =>
    CALL prg f_laws_toFilterA4 #[.agg a27] (fun q28 h29 =>
    asA q28 fun a30 =>
    STA 24 h29 ⟨g5, 17, none⟩ a30 fun h31 =>
    LDA 4 h31 ⟨g1, 41, none⟩ fun a32 =>
    CALL prg f_laws_toFloat32A4 #[.agg a32] (fun q33 h34 =>
    asA q33 fun a35 =>
    STA 4 h34 ⟨g5, 41, none⟩ a35 fun h36 =>
    oF .f32 (cell h36 ⟨g1, 45, none⟩) fun r37 =>
    ST1 h36 ⟨g5, 45, none⟩ (.float .f32 r37) fun h38 =>
    oF .f32 (cell h38 ⟨g1, 46, none⟩) fun r39 =>
    ST1 h38 ⟨g5, 46, none⟩ (.float .f32 r39) fun h40 =>
    LDA 47 h40 ⟨g5, 0, none⟩ fun a41 =>
    STA 47 h40 ⟨g3, 0, none⟩ a41 fun h42 =>
    LDA 47 h42 ⟨g3, 0, none⟩ fun a43 =>
    Post (.agg a43) h42) h31) h26) h21) h16) h11) h6) h4) h2) h
noncomputable def laws_toRoom.code : Code := (Tryz.f21.body).getD .skip
theorem laws_toRoom.call {a_0 : Array Value} {Post : Value → Heap → Prop} {h : Heap} (H : laws_toRoom.S a_0 Post h) : CALL prg f_laws_toRoom #[.agg a_0] Post h :=
  fn_call tau_ok mixed (c := laws_toRoom.code) (Λ := lookL []) Tryz.func21 (by kernel_rfl) (by kernel_rfl)
    (Rq.free (by kernel_rfl))
    (Eq.mp (by kernel_rfl) H)

/-! #### loop.example/g01173/laws.eqRoom (function 22) -/
def laws_eqRoom.S (a_0 : Array Value) (b_1 : Array Value) (Post : Value → Heap → Prop) (h : Heap) : Prop :=
    ALC a_0 T_impl_Room (fun g1 h2 =>
    ALC b_1 T_impl_Room (fun g3 h4 =>
    LDA 2 h4 ⟨g1, 0, none⟩ fun a5 =>
    LDA 2 h4 ⟨g3, 0, none⟩ fun a6 =>
    CALL prg f_laws_eqRing #[.agg a5, .agg a6] (fun q7 h8 =>
    asB q7 fun b9 =>
    BIF (!b9) (
    Post (.bool false) h8) (
    oL (cell h8 ⟨g1, 2, none⟩) fun l10b l10l l10c =>
    oL (cell h8 ⟨g3, 2, none⟩) fun l11b l11l l11c =>
    CALL prg f_laws_eqTapS #[.slice l10b l10l l10c, .slice l11b l11l l11c] (fun q12 h13 =>
    asB q12 fun b14 =>
    BIF (!b14) (
    Post (.bool false) h13) (
    LDA 6 h13 ⟨g1, 3, none⟩ fun a15 =>
    LDA 6 h13 ⟨g3, 3, none⟩ fun a16 =>
    CALL prg f_laws_eqCombA2 #[.agg a15, .agg a16] (fun q17 h18 =>
    asB q17 fun b19 =>
    BIF (!b19) (
    Post (.bool false) h18) (
    LDA 8 h18 ⟨g1, 9, none⟩ fun a20 =>
    LDA 8 h18 ⟨g3, 9, none⟩ fun a21 =>
    CALL prg f_laws_eqRingA4 #[.agg a20, .agg a21] (fun q22 h23 =>
    asB q22 fun b24 =>
    BIF (!b24) (
    Post (.bool false) h23) (
    LDA 24 h23 ⟨g1, 17, none⟩ fun a25 =>
    LDA 24 h23 ⟨g3, 17, none⟩ fun a26 =>
    CALL prg f_laws_eqFilterA4 #[.agg a25, .agg a26] (fun q27 h28 =>
    asB q27 fun b29 =>
    BIF (!b29) (
    Post (.bool false) h28) (
    LDA 4 h28 ⟨g1, 41, none⟩ fun a30 =>
    LDA 4 h28 ⟨g3, 41, none⟩ fun a31 =>
    CALL prg f_laws_eqFloat32A4 #[.agg a30, .agg a31] (fun q32 h33 =>
    asB q32 fun b34 =>
    BIF (!b34) (
    Post (.bool false) h33) (
    oF .f32 (cell h33 ⟨g1, 45, none⟩) fun r35 =>
    FFC .f32 r35 .f64 fun r36 =>
    oF .f32 (cell h33 ⟨g3, 45, none⟩) fun r37 =>
    FFC .f32 r37 .f64 fun r38 =>
    CALL prg f_laws_sameFloat #[.float .f64 r36, .float .f64 r38] (fun q39 h40 =>
    asB q39 fun b41 =>
    BIF (!b41) (
    Post (.bool false) h40) (
    oF .f32 (cell h40 ⟨g1, 46, none⟩) fun r42 =>
    FFC .f32 r42 .f64 fun r43 =>
    oF .f32 (cell h40 ⟨g3, 46, none⟩) fun r44 =>
    FFC .f32 r44 .f64 fun r45 =>
    CALL prg f_laws_sameFloat #[.float .f64 r43, .float .f64 r45] (fun q46 h47 =>
    asB q46 fun b48 =>
    BIF (!b48) (
    Post (.bool false) h47) (
    Post (.bool true) h47)) h40)) h33)) h28)) h23)) h18)) h13)) h8)) h4) h2) h
noncomputable def laws_eqRoom.code : Code := (Tryz.f22.body).getD .skip
theorem laws_eqRoom.call {a_0 : Array Value} {b_1 : Array Value} {Post : Value → Heap → Prop} {h : Heap} (H : laws_eqRoom.S a_0 b_1 Post h) : CALL prg f_laws_eqRoom #[.agg a_0, .agg b_1] Post h :=
  fn_call tau_ok mixed (c := laws_eqRoom.code) (Λ := lookL []) Tryz.func22 (by kernel_rfl) (by kernel_rfl)
    (Rq.free (by kernel_rfl))
    (Eq.mp (by kernel_rfl) H)

/-! #### loop.example/g01173/laws.markRoom (function 26) -/
def laws_markRoom.S (a_0 : Array Value) (k_1 : Int) (Post : Value → Heap → Prop) (h : Heap) : Prop :=
    ALC a_0 T_impl_Room (fun g1 h2 =>
    LDA 2 h2 ⟨g1, 0, none⟩ fun a3 =>
    CALL prg f_laws_markRing #[.agg a3, .int .i64 k_1] (fun q4 h5 =>
    asI .i64 q4 fun n6 =>
    oL (cell h5 ⟨g1, 2, none⟩) fun l7b l7l l7c =>
    CALL prg f_laws_markTapS #[.slice l7b l7l l7c, .int .i64 n6] (fun q8 h9 =>
    asI .i64 q8 fun n10 =>
    LDA 6 h9 ⟨g1, 3, none⟩ fun a11 =>
    CALL prg f_laws_markCombA2 #[.agg a11, .int .i64 n10] (fun q12 h13 =>
    asI .i64 q12 fun n14 =>
    LDA 8 h13 ⟨g1, 9, none⟩ fun a15 =>
    CALL prg f_laws_markRingA4 #[.agg a15, .int .i64 n14] (fun q16 h17 =>
    asI .i64 q16 fun n18 =>
    Post (.int .i64 n18) h17) h13) h9) h5) h2) h
noncomputable def laws_markRoom.code : Code := (Tryz.f26.body).getD .skip
theorem laws_markRoom.call {a_0 : Array Value} {k_1 : Int} {Post : Value → Heap → Prop} {h : Heap} (H : laws_markRoom.S a_0 k_1 Post h) : CALL prg f_laws_markRoom #[.agg a_0, .int .i64 k_1] Post h :=
  fn_call tau_ok mixed (c := laws_markRoom.code) (Λ := lookL []) Tryz.func26 (by kernel_rfl) (by kernel_rfl)
    (Rq.free (by kernel_rfl))
    (Eq.mp (by kernel_rfl) H)

/-! #### loop.example/g01173/laws.heldRoom (function 27) -/
def laws_heldRoom.S (a_0 : Array Value) (k_1 : Int) (Post : Value → Heap → Prop) (h : Heap) : Prop :=
    ALC a_0 T_impl_Room (fun g1 h2 =>
    LDA 2 h2 ⟨g1, 0, none⟩ fun a3 =>
    CALL prg f_laws_heldRing #[.agg a3, .int .i64 k_1] (fun q4 h5 =>
    asI .i64 q4 fun n6 =>
    BIF ((decide (n6 < (0 : Int)))) (
    Post (.int .i64 (-1 : Int)) h5) (
    oL (cell h5 ⟨g1, 2, none⟩) fun l7b l7l l7c =>
    CALL prg f_laws_heldTapS #[.slice l7b l7l l7c, .int .i64 n6] (fun q8 h9 =>
    asI .i64 q8 fun n10 =>
    BIF ((decide (n10 < (0 : Int)))) (
    Post (.int .i64 (-1 : Int)) h9) (
    LDA 6 h9 ⟨g1, 3, none⟩ fun a11 =>
    CALL prg f_laws_heldCombA2 #[.agg a11, .int .i64 n10] (fun q12 h13 =>
    asI .i64 q12 fun n14 =>
    BIF ((decide (n14 < (0 : Int)))) (
    Post (.int .i64 (-1 : Int)) h13) (
    LDA 8 h13 ⟨g1, 9, none⟩ fun a15 =>
    CALL prg f_laws_heldRingA4 #[.agg a15, .int .i64 n14] (fun q16 h17 =>
    asI .i64 q16 fun n18 =>
    BIF ((decide (n18 < (0 : Int)))) (
    Post (.int .i64 (-1 : Int)) h17) (
    Post (.int .i64 n18) h17)) h13)) h9)) h5)) h2) h
noncomputable def laws_heldRoom.code : Code := (Tryz.f27.body).getD .skip
theorem laws_heldRoom.call {a_0 : Array Value} {k_1 : Int} {Post : Value → Heap → Prop} {h : Heap} (H : laws_heldRoom.S a_0 k_1 Post h) : CALL prg f_laws_heldRoom #[.agg a_0, .int .i64 k_1] Post h :=
  fn_call tau_ok mixed (c := laws_heldRoom.code) (Λ := lookL []) Tryz.func27 (by kernel_rfl) (by kernel_rfl)
    (Rq.free (by kernel_rfl))
    (Eq.mp (by kernel_rfl) H)

end Go.Sx
