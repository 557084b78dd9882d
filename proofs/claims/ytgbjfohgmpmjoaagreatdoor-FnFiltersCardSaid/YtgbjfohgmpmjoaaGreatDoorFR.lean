/- What functions of this seat's program compute, told in words (a predicate over heaps for each), and the proofs that the words are no more than the code's own weakest precondition. -/
import Derived.Test.YtgbjfohgmpmjoaaGreatDoorTab
namespace Go.Sx
open Go.Proofs
set_option linter.unusedVariables false
set_option maxRecDepth 100000

def p_impl_Filter_run_c1.S (i_0 : Int) (t1 : Addr) (t2 : Addr) (Post : Value → Heap → Prop) (h : Heap) : Prop :=
    oP (cell h t1) fun p1 =>
    IDX i_0 16 <|
    oF .f32 (cell h ((Addr.add t2 ((Int.toNat i_0) * 1)))) fun r2 =>
    CALL prg f_p_impl_Filter_step #[.pointer (some p1), .float .f32 r2] (fun q3 h4 =>
    asF .f32 q3 fun r5 =>
    Post (.float .f32 r5) h4) h
noncomputable def p_impl_Filter_run_c1.code : Code := (Tryz.f86.body).getD .skip
theorem p_impl_Filter_run_c1.call {i_0 : Int} {t1 : Addr} {t2 : Addr} {Post : Value → Heap → Prop} {h : Heap} (H : p_impl_Filter_run_c1.S i_0 t1 t2 Post h) : CALL prg f_p_impl_Filter_run_c1 #[.int .i64 i_0, .pointer (some t1), .pointer (some t2)] Post h :=
  fn_call tau_ok mixed (c := p_impl_Filter_run_c1.code) (Λ := lookL []) Tryz.func86 (by kernel_rfl) (by kernel_rfl)
    (Rq.free (by kernel_rfl))
    (Eq.mp (by kernel_rfl) H)

def p_impl_Filter_run.S (f_0 : Addr) (b_1 : Array Value) (Post : Value → Heap → Prop) (h : Heap) : Prop :=
    ALC #[.pointer (some f_0)] T_p_impl_Filter (fun g1 h2 =>
    ALC b_1 T_impl_Block (fun g3 h4 =>
    ALC ⟨Z_impl_Block⟩ T_impl_Block (fun g5 h6 =>
    CALL prg f_impl_made #[.func (.func 86) #[] #[.pointer (some ⟨g1, 0, none⟩), .pointer (some ⟨g3, 0, none⟩)]] (fun q7 h8 =>
    asA q7 fun a9 =>
    STA 16 h8 ⟨g5, 0, none⟩ a9 fun h10 =>
    LDA 16 h10 ⟨g5, 0, none⟩ fun a11 =>
    Post (.agg a11) h10) h6) h4) h2) h
noncomputable def p_impl_Filter_run.code : Code := (Tryz.f36.body).getD .skip
theorem p_impl_Filter_run.call {f_0 : Addr} {b_1 : Array Value} {Post : Value → Heap → Prop} {h : Heap} (H : p_impl_Filter_run.S f_0 b_1 Post h) : CALL prg f_p_impl_Filter_run #[.pointer (some f_0), .agg b_1] Post h :=
  fn_call tau_ok mixed (c := p_impl_Filter_run.code) (Λ := lookL []) Tryz.func36 (by kernel_rfl) (by kernel_rfl)
    (Rq.free (by kernel_rfl))
    (Eq.mp (by kernel_rfl) H)

def impl_RunFilter.S (f_0 : Array Value) (b_1 : Array Value) (Post : Value → Heap → Prop) (h : Heap) : Prop :=
    ALC f_0 T_impl_Filter (fun g1 h2 =>
    ALC b_1 T_impl_Block (fun g3 h4 =>
    ALC ⟨Z_impl_Filter⟩ T_impl_Filter (fun g5 h6 =>
    ALC ⟨Z_impl_Block⟩ T_impl_Block (fun g7 h8 =>
    LDA 6 h8 ⟨g1, 0, none⟩ fun a9 =>
    CALL prg f_impl_ValidFilter #[.agg a9] (fun q10 h11 =>
    asB q10 fun b12 =>
    BIF (!b12) (
    STA 6 h11 ⟨g5, 0, none⟩ (⟨[.int .i64 (0 : Int), .float .f32 0, .float .f32 0, .float .f32 0, .float .f32 0, .float .f32 0]⟩ : Array Value) fun h13 =>
    STA 16 h13 ⟨g7, 0, none⟩ (⟨[.float .f32 0, .float .f32 0, .float .f32 0, .float .f32 0, .float .f32 0, .float .f32 0, .float .f32 0, .float .f32 0, .float .f32 0, .float .f32 0, .float .f32 0, .float .f32 0, .float .f32 0, .float .f32 0, .float .f32 0, .float .f32 0]⟩ : Array Value) fun h14 =>
    LDA 6 h14 ⟨g5, 0, none⟩ fun a15 =>
    LDA 16 h14 ⟨g7, 0, none⟩ fun a16 =>
    Post (.tuple ⟨[.agg a15, .agg a16, .int .i64 (1 : Int)]⟩) h14) (
    LDA 16 h11 ⟨g3, 0, none⟩ fun a17 =>
    CALL prg f_p_impl_Filter_run #[.pointer (some ⟨g1, 0, none⟩), .agg a17] (fun q18 h19 =>
    asA q18 fun a20 =>
    ALC ⟨Z_impl_Block⟩ T_impl_Block (fun g21 h22 =>
    STA 16 h22 ⟨g21, 0, none⟩ a20 fun h23 =>
    LDA 6 h23 ⟨g1, 0, none⟩ fun a24 =>
    LDA 16 h23 ⟨g21, 0, none⟩ fun a25 =>
    STA 6 h23 ⟨g5, 0, none⟩ a24 fun h26 =>
    PIN h23 ⟨g21, 0, none⟩ 16 h26 <|
    STA 16 h26 ⟨g7, 0, none⟩ a25 fun h27 =>
    LDA 6 h27 ⟨g5, 0, none⟩ fun a28 =>
    LDA 16 h27 ⟨g7, 0, none⟩ fun a29 =>
    Post (.tuple ⟨[.agg a28, .agg a29, .int .i64 (0 : Int)]⟩) h27) h19) h11)) h8) h6) h4) h2) h
noncomputable def impl_RunFilter.code : Code := (Tryz.f8.body).getD .skip
theorem impl_RunFilter.call {f_0 : Array Value} {b_1 : Array Value} {Post : Value → Heap → Prop} {h : Heap} (H : impl_RunFilter.S f_0 b_1 Post h) : CALL prg f_impl_RunFilter #[.agg f_0, .agg b_1] Post h :=
  fn_call tau_ok mixed (c := impl_RunFilter.code) (Λ := lookL []) Tryz.func8 (by kernel_rfl) (by kernel_rfl)
    (Rq.free (by kernel_rfl))
    (Eq.mp (by kernel_rfl) H)

def impl_StepFilter.S (f_0 : Array Value) (x_1 : Nat) (Post : Value → Heap → Prop) (h : Heap) : Prop :=
    ALC f_0 T_impl_Filter (fun g1 h2 =>
    ALC ⟨Z_impl_Filter⟩ T_impl_Filter (fun g3 h4 =>
    LDA 6 h4 ⟨g1, 0, none⟩ fun a5 =>
    CALL prg f_impl_ValidFilter #[.agg a5] (fun q6 h7 =>
    asB q6 fun b8 =>
    BIF (!b8) (
    STA 6 h7 ⟨g3, 0, none⟩ (⟨[.int .i64 (0 : Int), .float .f32 0, .float .f32 0, .float .f32 0, .float .f32 0, .float .f32 0]⟩ : Array Value) fun h9 =>
    LDA 6 h9 ⟨g3, 0, none⟩ fun a10 =>
    Post (.tuple ⟨[.agg a10, .float .f32 0, .int .i64 (1 : Int)]⟩) h9) (
    CALL prg f_p_impl_Filter_step #[.pointer (some ⟨g1, 0, none⟩), .float .f32 x_1] (fun q11 h12 =>
    asF .f32 q11 fun r13 =>
    LDA 6 h12 ⟨g1, 0, none⟩ fun a14 =>
    STA 6 h12 ⟨g3, 0, none⟩ a14 fun h15 =>
    LDA 6 h15 ⟨g3, 0, none⟩ fun a16 =>
    Post (.tuple ⟨[.agg a16, .float .f32 r13, .int .i64 (0 : Int)]⟩) h15) h7)) h4) h2) h
noncomputable def impl_StepFilter.code : Code := (Tryz.f9.body).getD .skip
theorem impl_StepFilter.call {f_0 : Array Value} {x_1 : Nat} {Post : Value → Heap → Prop} {h : Heap} (H : impl_StepFilter.S f_0 x_1 Post h) : CALL prg f_impl_StepFilter #[.agg f_0, .float .f32 x_1] Post h :=
  fn_call tau_ok mixed (c := impl_StepFilter.code) (Λ := lookL []) Tryz.func9 (by kernel_rfl) (by kernel_rfl)
    (Rq.free (by kernel_rfl))
    (Eq.mp (by kernel_rfl) H)

def slices_IndexFunc_sl_impl_Filter_impl_Filter.B2 (Post : Value → Heap → Prop) (N2 : (Option Addr × Nat × Nat × Value × Int × Int) → Heap → Prop) : Option Addr × Nat × Nat × Value × Int × Int → Heap → Prop
  | (s_0b, s_0l, s_0c, f_1, t7, t8), h =>
    BIF (decide (t8 < t7)) (
    IDXS s_0b t8 s_0l fun p3 =>
    LDA 6 h ((Addr.add p3 ((Int.toNat t8) * 6))) fun a4 =>
    CALLD prg f_1 #[.agg a4] (fun q5 h6 =>
    asB q5 fun b7 =>
    BIF b7 (
    Post (.int .i64 t8) h6) (
    N2 (s_0b, s_0l, s_0c, f_1, t7, ((IntKind.i64.wrap (t8 + (1 : Int))))) h6)) h) (
    Post (.int .i64 (-1 : Int)) h)
def slices_IndexFunc_sl_impl_Filter_impl_Filter.g2 (fr : Frame) : Option Addr × Nat × Nat × Value × Int × Int := ((gLb (lget fr 0)), (gLl (lget fr 0)), (gLc (lget fr 0)), (lget fr 1), (gI (lget fr 7)), (gI (lget fr 8)))
def slices_IndexFunc_sl_impl_Filter_impl_Filter.l2 (Post : Value → Heap → Prop) : Frame → Heap → Prop := fun fr h => GRD (shape (kds 19 [(0, .l), (1, .v), (7, .i .i64), (8, .i .i64)]) fr) (LOOP (slices_IndexFunc_sl_impl_Filter_impl_Filter.B2 Post) (slices_IndexFunc_sl_impl_Filter_impl_Filter.g2 fr) h)
def slices_IndexFunc_sl_impl_Filter_impl_Filter.S (s_0b : Option Addr) (s_0l s_0c : Nat) (f_1 : Value) (Post : Value → Heap → Prop) (h : Heap) : Prop :=
    LOOP (slices_IndexFunc_sl_impl_Filter_impl_Filter.B2 Post) (s_0b, s_0l, s_0c, f_1, (s_0l : Int), (0 : Int)) h
noncomputable def slices_IndexFunc_sl_impl_Filter_impl_Filter.code : Code := (Tryz.f115.body).getD .skip
theorem slices_IndexFunc_sl_impl_Filter_impl_Filter.call {s_0b : Option Addr} {s_0l s_0c : Nat} {f_1 : Value} {Post : Value → Heap → Prop} {h : Heap} (H : slices_IndexFunc_sl_impl_Filter_impl_Filter.S s_0b s_0l s_0c f_1 Post h) : CALL prg f_slices_IndexFunc_sl_impl_Filter_impl_Filter #[.slice s_0b s_0l s_0c, f_1] Post h :=
  fn_call tau_ok mixed (c := slices_IndexFunc_sl_impl_Filter_impl_Filter.code) (Λ := lookL [(1000002, slices_IndexFunc_sl_impl_Filter_impl_Filter.l2 Post)]) Tryz.func115 (by kernel_rfl) (by kernel_rfl)
    (Rq.seq (by kernel_rfl) (Rq.free (by kernel_rfl)) (Rq.seq (by kernel_rfl) (Rq.seq (by kernel_rfl) (Rq.free (by kernel_rfl)) (Rq.block (Rq.loop (slices_IndexFunc_sl_impl_Filter_impl_Filter.l2 Post) (by kernel_rfl) (segL (g := slices_IndexFunc_sl_impl_Filter_impl_Filter.g2) tau_ok mixed (Λ := fun N2 => lookL []) (fun _ _ _ => by kernel_rfl) (fun N2 => (Rq.free (by kernel_rfl))))))) (Rq.free (by kernel_rfl))))
    (Eq.mp (by kernel_rfl) H)

def slices_ContainsFunc_sl_impl_Filter_impl_Filter.S (s_0b : Option Addr) (s_0l s_0c : Nat) (f_1 : Value) (Post : Value → Heap → Prop) (h : Heap) : Prop :=
    CALL prg f_slices_IndexFunc_sl_impl_Filter_impl_Filter #[.slice s_0b s_0l s_0c, f_1] (fun q1 h2 =>
    asI .i64 q1 fun n3 =>
    Post (.bool ((decide ((0 : Int) ≤ n3)))) h2) h
noncomputable def slices_ContainsFunc_sl_impl_Filter_impl_Filter.code : Code := (Tryz.f91.body).getD .skip
theorem slices_ContainsFunc_sl_impl_Filter_impl_Filter.call {s_0b : Option Addr} {s_0l s_0c : Nat} {f_1 : Value} {Post : Value → Heap → Prop} {h : Heap} (H : slices_ContainsFunc_sl_impl_Filter_impl_Filter.S s_0b s_0l s_0c f_1 Post h) : CALL prg f_slices_ContainsFunc_sl_impl_Filter_impl_Filter #[.slice s_0b s_0l s_0c, f_1] Post h :=
  fn_call tau_ok mixed (c := slices_ContainsFunc_sl_impl_Filter_impl_Filter.code) (Λ := lookL []) Tryz.func91 (by kernel_rfl) (by kernel_rfl)
    (Rq.free (by kernel_rfl))
    (Eq.mp (by kernel_rfl) H)

def impl_areFilters_c1.S (f_0 : Array Value) (Post : Value → Heap → Prop) (h : Heap) : Prop :=
    ALC f_0 T_impl_Filter (fun g1 h2 =>
    LDA 6 h2 ⟨g1, 0, none⟩ fun a3 =>
    CALL prg f_impl_ValidFilter #[.agg a3] (fun q4 h5 =>
    asB q4 fun b6 =>
    Post (.bool (!b6)) h5) h2) h
noncomputable def impl_areFilters_c1.code : Code := (Tryz.f92.body).getD .skip
theorem impl_areFilters_c1.call {f_0 : Array Value} {Post : Value → Heap → Prop} {h : Heap} (H : impl_areFilters_c1.S f_0 Post h) : CALL prg f_impl_areFilters_c1 #[.agg f_0] Post h :=
  fn_call tau_ok mixed (c := impl_areFilters_c1.code) (Λ := lookL []) Tryz.func92 (by kernel_rfl) (by kernel_rfl)
    (Rq.free (by kernel_rfl))
    (Eq.mp (by kernel_rfl) H)

def impl_areFilters.S (list_0b : Option Addr) (list_0l list_0c : Nat) (Post : Value → Heap → Prop) (h : Heap) : Prop :=
    CALL prg f_slices_ContainsFunc_sl_impl_Filter_impl_Filter #[.slice list_0b list_0l list_0c, .func (.func 92) #[] #[]] (fun q1 h2 =>
    asB q1 fun b3 =>
    Post (.bool (!b3)) h2) h
noncomputable def impl_areFilters.code : Code := (Tryz.f43.body).getD .skip
theorem impl_areFilters.call {list_0b : Option Addr} {list_0l list_0c : Nat} {Post : Value → Heap → Prop} {h : Heap} (H : impl_areFilters.S list_0b list_0l list_0c Post h) : CALL prg f_impl_areFilters #[.slice list_0b list_0l list_0c] Post h :=
  fn_call tau_ok mixed (c := impl_areFilters.code) (Λ := lookL []) Tryz.func43 (by kernel_rfl) (by kernel_rfl)
    (Rq.free (by kernel_rfl))
    (Eq.mp (by kernel_rfl) H)

def slices_Clone_sl_impl_Filter_impl_Filter.S (s_0b : Option Addr) (s_0l s_0c : Nat) (Post : Value → Heap → Prop) (h : Heap) : Prop :=
    CMP prg .eql T_sl_impl_Filter (.tmp 3) (.const (.slice none 0 0)) (.slice s_0b s_0l s_0c) (.slice none 0 0) (fun b1 h2 =>
    BIF b1 (
    Post (.slice none 0 0) h2) (
    ALC ⟨[]⟩ T_impl_Filter (fun g3 h4 =>
    SEMV prg (Builtin.append_ #[T_sl_impl_Filter, T_sl_impl_Filter] T_sl_impl_Filter #[.slice (some ⟨g3, 0, none⟩) 0 0, .slice s_0b s_0l s_0c]) (fun q5 h6 =>
    asL q5 fun l7b l7l l7c =>
    Post (.slice l7b l7l l7c) h6) h4) h2)) h
noncomputable def slices_Clone_sl_impl_Filter_impl_Filter.code : Code := (Tryz.f44.body).getD .skip
theorem slices_Clone_sl_impl_Filter_impl_Filter.call {s_0b : Option Addr} {s_0l s_0c : Nat} {Post : Value → Heap → Prop} {h : Heap} (H : slices_Clone_sl_impl_Filter_impl_Filter.S s_0b s_0l s_0c Post h) : CALL prg f_slices_Clone_sl_impl_Filter_impl_Filter #[.slice s_0b s_0l s_0c] Post h :=
  fn_call tau_ok mixed (c := slices_Clone_sl_impl_Filter_impl_Filter.code) (Λ := lookL []) Tryz.func44 (by kernel_rfl) (by kernel_rfl)
    (Rq.free (by kernel_rfl))
    (Eq.mp (by kernel_rfl) H)

def impl_RunChain.B7 (Post : Value → Heap → Prop) (N7 : (Addr × Addr × Option Addr × Nat × Nat × Int × Int) → Heap → Prop) : Addr × Addr × Option Addr × Nat × Nat × Int × Int → Heap → Prop
  | (b_3, t5, out_7b, out_7l, out_7c, t22, t23), h =>
    BIF (decide (t23 < t22)) (
    IDXS out_7b t23 out_7l fun p19 =>
    LDA 16 h b_3 fun a20 =>
    CALL prg f_p_impl_Filter_run #[.pointer (some ((Addr.add p19 ((Int.toNat t23) * 6)))), .agg a20] (fun q21 h22 =>
    asA q21 fun a23 =>
    STA 16 h22 b_3 a23 fun h24 =>
    N7 (b_3, t5, out_7b, out_7l, out_7c, t22, ((IntKind.i64.wrap (t23 + (1 : Int))))) h24) h) (
    LDA 16 h b_3 fun a25 =>
    STA 16 h t5 a25 fun h26 =>
    LDA 16 h26 t5 fun a27 =>
    Post (.tuple ⟨[.slice out_7b out_7l out_7c, .agg a27, .int .i64 (0 : Int)]⟩) h26)
def impl_RunChain.g7 (fr : Frame) : Addr × Addr × Option Addr × Nat × Nat × Int × Int := ((gP (lget fr 3)), (gP (lget fr 5)), (gLb (lget fr 7)), (gLl (lget fr 7)), (gLc (lget fr 7)), (gI (lget fr 22)), (gI (lget fr 23)))
def impl_RunChain.l7 (Post : Value → Heap → Prop) : Frame → Heap → Prop := fun fr h => GRD (shape (kds 34 [(3, .p), (5, .p), (7, .l), (22, .i .i64), (23, .i .i64)]) fr) (LOOP (impl_RunChain.B7 Post) (impl_RunChain.g7 fr) h)
def impl_RunChain.S (list_0b : Option Addr) (list_0l list_0c : Nat) (b_1 : Array Value) (Post : Value → Heap → Prop) (h : Heap) : Prop :=
    ALC b_1 T_impl_Block (fun g1 h2 =>
    ALC ⟨Z_impl_Block⟩ T_impl_Block (fun g3 h4 =>
    CALL prg f_impl_areFilters #[.slice list_0b list_0l list_0c] (fun q5 h6 =>
    asB q5 fun b7 =>
    BIF (!b7) (
    STA 16 h6 ⟨g3, 0, none⟩ (⟨[.float .f32 0, .float .f32 0, .float .f32 0, .float .f32 0, .float .f32 0, .float .f32 0, .float .f32 0, .float .f32 0, .float .f32 0, .float .f32 0, .float .f32 0, .float .f32 0, .float .f32 0, .float .f32 0, .float .f32 0, .float .f32 0]⟩ : Array Value) fun h8 =>
    LDA 16 h8 ⟨g3, 0, none⟩ fun a9 =>
    Post (.tuple ⟨[.slice none 0 0, .agg a9, .int .i64 (1 : Int)]⟩) h8) (
    BIF ((decide ((6 : Int) < (list_0l : Int)))) (
    STA 16 h6 ⟨g3, 0, none⟩ (⟨[.float .f32 0, .float .f32 0, .float .f32 0, .float .f32 0, .float .f32 0, .float .f32 0, .float .f32 0, .float .f32 0, .float .f32 0, .float .f32 0, .float .f32 0, .float .f32 0, .float .f32 0, .float .f32 0, .float .f32 0, .float .f32 0]⟩ : Array Value) fun h12 =>
    LDA 16 h12 ⟨g3, 0, none⟩ fun a13 =>
    Post (.tuple ⟨[.slice none 0 0, .agg a13, .int .i64 (3 : Int)]⟩) h12) (
    CALL prg f_slices_Clone_sl_impl_Filter_impl_Filter #[.slice list_0b list_0l list_0c] (fun q14 h15 =>
    asL q14 fun l16b l16l l16c =>
    LOOP (impl_RunChain.B7 Post) (⟨g1, 0, none⟩, ⟨g3, 0, none⟩, l16b, l16l, l16c, (l16l : Int), (0 : Int)) h15) h6))) h4) h2) h
noncomputable def impl_RunChain.code : Code := (Tryz.f14.body).getD .skip
theorem impl_RunChain.call {list_0b : Option Addr} {list_0l list_0c : Nat} {b_1 : Array Value} {Post : Value → Heap → Prop} {h : Heap} (H : impl_RunChain.S list_0b list_0l list_0c b_1 Post h) : CALL prg f_impl_RunChain #[.slice list_0b list_0l list_0c, .agg b_1] Post h :=
  fn_call tau_ok mixed (c := impl_RunChain.code) (Λ := lookL [(1000007, impl_RunChain.l7 Post)]) Tryz.func14 (by kernel_rfl) (by kernel_rfl)
    (Rq.seq (by kernel_rfl) (Rq.free (by kernel_rfl)) (Rq.seq (by kernel_rfl) (Rq.free (by kernel_rfl)) (Rq.seq (by kernel_rfl) (Rq.free (by kernel_rfl)) (Rq.seq (by kernel_rfl) (Rq.seq (by kernel_rfl) (Rq.free (by kernel_rfl)) (Rq.block (Rq.loop (impl_RunChain.l7 Post) (by kernel_rfl) (segL (g := impl_RunChain.g7) tau_ok mixed (Λ := fun N7 => lookL []) (fun _ _ _ => by kernel_rfl) (fun N7 => (Rq.free (by kernel_rfl))))))) (Rq.free (by kernel_rfl))))))
    (Eq.mp (by kernel_rfl) H)

def spec_SameFilter.S (f_0 : Array Value) (g_1 : Array Value) (Post : Value → Heap → Prop) (h : Heap) : Prop :=
    ALC f_0 T_impl_Filter (fun g1 h2 =>
    ALC g_1 T_impl_Filter (fun g3 h4 =>
    CALL prg f_spec_l02Same #[.pointer (some ⟨g1, 0, none⟩), .pointer (some ⟨g3, 0, none⟩)] (fun q5 h6 =>
    asB q5 fun b7 =>
    Post (.bool b7) h6) h4) h2) h
noncomputable def spec_SameFilter.code : Code := (Tryz.f15.body).getD .skip
theorem spec_SameFilter.call {f_0 : Array Value} {g_1 : Array Value} {Post : Value → Heap → Prop} {h : Heap} (H : spec_SameFilter.S f_0 g_1 Post h) : CALL prg f_spec_SameFilter #[.agg f_0, .agg g_1] Post h :=
  fn_call tau_ok mixed (c := spec_SameFilter.code) (Λ := lookL []) Tryz.func15 (by kernel_rfl) (by kernel_rfl)
    (Rq.free (by kernel_rfl))
    (Eq.mp (by kernel_rfl) H)

def spec_l01SameBlock.B2 (Post : Value → Heap → Prop) (N2 : (Addr × Addr × Int) → Heap → Prop) : Addr × Addr × Int → Heap → Prop
  | (a_2, b_3, i_5), h =>
    BIF ((decide (i_5 < (16 : Int)))) (
    IDX i_5 16 <|
    oF .f32 (cell h ((Addr.add a_2 ((Int.toNat i_5) * 1)))) fun r5 =>
    IDX i_5 16 <|
    oF .f32 (cell h ((Addr.add b_3 ((Int.toNat i_5) * 1)))) fun r6 =>
    CALL prg f_spec_l01Same #[.float .f32 r5, .float .f32 r6] (fun q7 h8 =>
    asB q7 fun b9 =>
    BIF (!b9) (
    Post (.bool false) h8) (
    N2 (a_2, b_3, ((IntKind.i64.wrap (i_5 + (1 : Int))))) h8)) h) (
    Post (.bool true) h)
def spec_l01SameBlock.g2 (fr : Frame) : Addr × Addr × Int := ((gP (lget fr 2)), (gP (lget fr 3)), (gI (lget fr 5)))
def spec_l01SameBlock.l2 (Post : Value → Heap → Prop) : Frame → Heap → Prop := fun fr h => GRD (shape (kds 18 [(2, .p), (3, .p), (5, .i .i64)]) fr) (LOOP (spec_l01SameBlock.B2 Post) (spec_l01SameBlock.g2 fr) h)
def spec_l01SameBlock.S (a_0 : Array Value) (b_1 : Array Value) (Post : Value → Heap → Prop) (h : Heap) : Prop :=
    ALC a_0 T_impl_Block (fun g1 h2 =>
    ALC b_1 T_impl_Block (fun g3 h4 =>
    LOOP (spec_l01SameBlock.B2 Post) (⟨g1, 0, none⟩, ⟨g3, 0, none⟩, (0 : Int)) h4) h2) h
noncomputable def spec_l01SameBlock.code : Code := (Tryz.f51.body).getD .skip
theorem spec_l01SameBlock.call {a_0 : Array Value} {b_1 : Array Value} {Post : Value → Heap → Prop} {h : Heap} (H : spec_l01SameBlock.S a_0 b_1 Post h) : CALL prg f_spec_l01SameBlock #[.agg a_0, .agg b_1] Post h :=
  fn_call tau_ok mixed (c := spec_l01SameBlock.code) (Λ := lookL [(1000002, spec_l01SameBlock.l2 Post)]) Tryz.func51 (by kernel_rfl) (by kernel_rfl)
    (Rq.seq (by kernel_rfl) (Rq.free (by kernel_rfl)) (Rq.seq (by kernel_rfl) (Rq.seq (by kernel_rfl) (Rq.free (by kernel_rfl)) (Rq.block (Rq.loop (spec_l01SameBlock.l2 Post) (by kernel_rfl) (segL (g := spec_l01SameBlock.g2) tau_ok mixed (Λ := fun N2 => lookL []) (fun _ _ _ => by kernel_rfl) (fun N2 => (Rq.free (by kernel_rfl))))))) (Rq.free (by kernel_rfl))))
    (Eq.mp (by kernel_rfl) H)

def spec_SameBlock.S (a_0 : Array Value) (b_1 : Array Value) (Post : Value → Heap → Prop) (h : Heap) : Prop :=
    ALC a_0 T_impl_Block (fun g1 h2 =>
    ALC b_1 T_impl_Block (fun g3 h4 =>
    LDA 16 h4 ⟨g1, 0, none⟩ fun a5 =>
    LDA 16 h4 ⟨g3, 0, none⟩ fun a6 =>
    CALL prg f_spec_l01SameBlock #[.agg a5, .agg a6] (fun q7 h8 =>
    asB q7 fun b9 =>
    Post (.bool b9) h8) h4) h2) h
noncomputable def spec_SameBlock.code : Code := (Tryz.f18.body).getD .skip
theorem spec_SameBlock.call {a_0 : Array Value} {b_1 : Array Value} {Post : Value → Heap → Prop} {h : Heap} (H : spec_SameBlock.S a_0 b_1 Post h) : CALL prg f_spec_SameBlock #[.agg a_0, .agg b_1] Post h :=
  fn_call tau_ok mixed (c := spec_SameBlock.code) (Λ := lookL []) Tryz.func18 (by kernel_rfl) (by kernel_rfl)
    (Rq.free (by kernel_rfl))
    (Eq.mp (by kernel_rfl) H)

end Go.Sx
