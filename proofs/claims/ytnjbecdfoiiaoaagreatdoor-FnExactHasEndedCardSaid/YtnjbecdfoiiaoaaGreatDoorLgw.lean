/- What the laws have in common: values marked and compared among others. -/
import Derived.Test.YtnjbecdfoiiaoaaGreatDoorLh0
import Derived.Test.YtnjbecdfoiiaoaaGreatDoorTab
set_option linter.unusedVariables false
set_option linter.unusedSimpArgs false
namespace Go.Sx
open Go.Proofs
set_option maxRecDepth 100000

theorem PairR.go {α : Type} {r : Rep α} {P : Program} {f : FuncId} {args : Array Value} {a : α} {code : Int} {hb h : Heap} {L : List Blk} {K : Value → Heap → Prop} (M : Mem hb h L) (c : CALL P f args (fun u h' => PairR r h h' u a code) h)
    (H : ∀ h' cs B, Mem hb h' (B ++ L) → r.ow B cs.toList a → cs.size = r.sz → K (.tuple ⟨[.agg cs, .int .i64 code]⟩) h') : CALL P f args K h :=
  c.mono fun u h' ⟨cs, B, e, O, N⟩ => by subst e; exact H h' cs B (M.join N) O (by simpa using r.olen O)
end Go.Sx
/- What functions of this seat's program compute, told in words (a predicate over heaps for each), and the proofs that the words are no more than the code's own weakest precondition. -/
namespace Go.Sx
open Go.Proofs
set_option linter.unusedVariables false
set_option maxRecDepth 100000

def spec_HasEnded.B4 (Post : Value → Heap → Prop) (N4 : (Addr × Int) → Heap → Prop) : Addr × Int → Heap → Prop
  | (p_1, i_4), h =>
    oL (cell h (Addr.add p_1 6)) fun l6b l6l l6c =>
    BIF ((decide (i_4 < (l6l : Int)))) (
    oL (cell h (Addr.add p_1 6)) fun l9b l9l l9c =>
    IDXS l9b i_4 l9l fun p10 =>
    oI .i64 (cell h ((Addr.add p10 ((Int.toNat i_4) * 45)))) fun n11 =>
    BIF ((decide ((0 : Int) ≤ n11))) (
    Post (.tuple ⟨[.bool false, .int .i64 (0 : Int)]⟩) h) (
    N4 (p_1, ((IntKind.i64.wrap (i_4 + (1 : Int))))) h)) (
    oI .i64 (cell h (Addr.add p_1 8)) fun n12 =>
    oL (cell h (Addr.add p_1 5)) fun l13b l13l l13c =>
    Post (.tuple ⟨[.bool (n12 == (l13l : Int)), .int .i64 (0 : Int)]⟩) h)
def spec_HasEnded.g4 (fr : Frame) : Addr × Int := ((gP (lget fr 1)), (gI (lget fr 4)))
def spec_HasEnded.l4 (Post : Value → Heap → Prop) : Frame → Heap → Prop := fun fr h => GRD (shape (kds 28 [(1, .p), (4, .i .i64)]) fr) (LOOP (spec_HasEnded.B4 Post) (spec_HasEnded.g4 fr) h)
def spec_HasEnded.S (p_0 : Array Value) (Post : Value → Heap → Prop) (h : Heap) : Prop :=
    ALC p_0 T_impl_Player (fun g1 h2 =>
    CALL prg f_spec_l09Ok #[.pointer (some ⟨g1, 0, none⟩)] (fun q3 h4 =>
    asB q3 fun b5 =>
    BIF (!b5) (
    Post (.tuple ⟨[.bool false, .int .i64 (1 : Int)]⟩) h4) (
    LOOP (spec_HasEnded.B4 Post) (⟨g1, 0, none⟩, (0 : Int)) h4)) h2) h
noncomputable def spec_HasEnded.code : Code := (Tryz.f37.body).getD .skip
theorem spec_HasEnded.call {p_0 : Array Value} {Post : Value → Heap → Prop} {h : Heap} (H : spec_HasEnded.S p_0 Post h) : CALL prg f_spec_HasEnded #[.agg p_0] Post h :=
  fn_call tau_ok mixed (c := spec_HasEnded.code) (Λ := lookL [(1000004, spec_HasEnded.l4 Post)]) Tryz.func37 (by kernel_rfl) (by kernel_rfl)
    (Rq.seq (by kernel_rfl) (Rq.free (by kernel_rfl)) (Rq.seq (by kernel_rfl) (Rq.free (by kernel_rfl)) (Rq.seq (by kernel_rfl) (Rq.seq (by kernel_rfl) (Rq.free (by kernel_rfl)) (Rq.block (Rq.loop (spec_HasEnded.l4 Post) (by kernel_rfl) (segL (g := spec_HasEnded.g4) tau_ok mixed (Λ := fun N4 => lookL []) (fun _ _ _ => by kernel_rfl) (fun N4 => (Rq.free (by kernel_rfl))))))) (Rq.free (by kernel_rfl)))))
    (Eq.mp (by kernel_rfl) H)

def impl_HasEnded_c1.S (v_0 : Array Value) (Post : Value → Heap → Prop) (h : Heap) : Prop :=
    ALC v_0 T_impl_Voice (fun g1 h2 =>
    LDA 45 h2 ⟨g1, 0, none⟩ fun a3 =>
    CALL prg f_impl_Voice_isFree #[.agg a3] (fun q4 h5 =>
    asB q4 fun b6 =>
    Post (.bool (!b6)) h5) h2) h
noncomputable def impl_HasEnded_c1.code : Code := (Tryz.f121.body).getD .skip
theorem impl_HasEnded_c1.call {v_0 : Array Value} {Post : Value → Heap → Prop} {h : Heap} (H : impl_HasEnded_c1.S v_0 Post h) : CALL prg f_impl_HasEnded_c1 #[.agg v_0] Post h :=
  fn_call tau_ok mixed (c := impl_HasEnded_c1.code) (Λ := lookL []) Tryz.func121 (by kernel_rfl) (by kernel_rfl)
    (Rq.free (by kernel_rfl))
    (Eq.mp (by kernel_rfl) H)

def slices_ContainsFunc_sl_impl_Voice_impl_Voice.S (s_0b : Option Addr) (s_0l s_0c : Nat) (f_1 : Value) (Post : Value → Heap → Prop) (h : Heap) : Prop :=
    CALL prg f_slices_IndexFunc_sl_impl_Voice_impl_Voice #[.slice s_0b s_0l s_0c, f_1] (fun q1 h2 =>
    asI .i64 q1 fun n3 =>
    Post (.bool ((decide ((0 : Int) ≤ n3)))) h2) h
noncomputable def slices_ContainsFunc_sl_impl_Voice_impl_Voice.code : Code := (Tryz.f120.body).getD .skip
theorem slices_ContainsFunc_sl_impl_Voice_impl_Voice.call {s_0b : Option Addr} {s_0l s_0c : Nat} {f_1 : Value} {Post : Value → Heap → Prop} {h : Heap} (H : slices_ContainsFunc_sl_impl_Voice_impl_Voice.S s_0b s_0l s_0c f_1 Post h) : CALL prg f_slices_ContainsFunc_sl_impl_Voice_impl_Voice #[.slice s_0b s_0l s_0c, f_1] Post h :=
  fn_call tau_ok mixed (c := slices_ContainsFunc_sl_impl_Voice_impl_Voice.code) (Λ := lookL []) Tryz.func120 (by kernel_rfl) (by kernel_rfl)
    (Rq.free (by kernel_rfl))
    (Eq.mp (by kernel_rfl) H)

def slices_IndexFunc_sl_impl_Voice_impl_Voice.B2 (Post : Value → Heap → Prop) (N2 : (Option Addr × Nat × Nat × Value × Int × Int) → Heap → Prop) : Option Addr × Nat × Nat × Value × Int × Int → Heap → Prop
  | (s_0b, s_0l, s_0c, f_1, t7, t8), h =>
    BIF (decide (t8 < t7)) (
    IDXS s_0b t8 s_0l fun p3 =>
    LDA 45 h ((Addr.add p3 ((Int.toNat t8) * 45))) fun a4 =>
    CALLD prg f_1 #[.agg a4] (fun q5 h6 =>
    asB q5 fun b7 =>
    BIF b7 (
    Post (.int .i64 t8) h6) (
    N2 (s_0b, s_0l, s_0c, f_1, t7, ((IntKind.i64.wrap (t8 + (1 : Int))))) h6)) h) (
    Post (.int .i64 (-1 : Int)) h)
def slices_IndexFunc_sl_impl_Voice_impl_Voice.g2 (fr : Frame) : Option Addr × Nat × Nat × Value × Int × Int := ((gLb (lget fr 0)), (gLl (lget fr 0)), (gLc (lget fr 0)), (lget fr 1), (gI (lget fr 7)), (gI (lget fr 8)))
def slices_IndexFunc_sl_impl_Voice_impl_Voice.l2 (Post : Value → Heap → Prop) : Frame → Heap → Prop := fun fr h => GRD (shape (kds 19 [(0, .l), (1, .v), (7, .i .i64), (8, .i .i64)]) fr) (LOOP (slices_IndexFunc_sl_impl_Voice_impl_Voice.B2 Post) (slices_IndexFunc_sl_impl_Voice_impl_Voice.g2 fr) h)
def slices_IndexFunc_sl_impl_Voice_impl_Voice.S (s_0b : Option Addr) (s_0l s_0c : Nat) (f_1 : Value) (Post : Value → Heap → Prop) (h : Heap) : Prop :=
    LOOP (slices_IndexFunc_sl_impl_Voice_impl_Voice.B2 Post) (s_0b, s_0l, s_0c, f_1, (s_0l : Int), (0 : Int)) h
noncomputable def slices_IndexFunc_sl_impl_Voice_impl_Voice.code : Code := (Tryz.f202.body).getD .skip
theorem slices_IndexFunc_sl_impl_Voice_impl_Voice.call {s_0b : Option Addr} {s_0l s_0c : Nat} {f_1 : Value} {Post : Value → Heap → Prop} {h : Heap} (H : slices_IndexFunc_sl_impl_Voice_impl_Voice.S s_0b s_0l s_0c f_1 Post h) : CALL prg f_slices_IndexFunc_sl_impl_Voice_impl_Voice #[.slice s_0b s_0l s_0c, f_1] Post h :=
  fn_call tau_ok mixed (c := slices_IndexFunc_sl_impl_Voice_impl_Voice.code) (Λ := lookL [(1000002, slices_IndexFunc_sl_impl_Voice_impl_Voice.l2 Post)]) Tryz.func202 (by kernel_rfl) (by kernel_rfl)
    (Rq.seq (by kernel_rfl) (Rq.free (by kernel_rfl)) (Rq.seq (by kernel_rfl) (Rq.seq (by kernel_rfl) (Rq.free (by kernel_rfl)) (Rq.block (Rq.loop (slices_IndexFunc_sl_impl_Voice_impl_Voice.l2 Post) (by kernel_rfl) (segL (g := slices_IndexFunc_sl_impl_Voice_impl_Voice.g2) tau_ok mixed (Λ := fun N2 => lookL []) (fun _ _ _ => by kernel_rfl) (fun N2 => (Rq.free (by kernel_rfl))))))) (Rq.free (by kernel_rfl))))
    (Eq.mp (by kernel_rfl) H)

def impl_HasEnded.S (p_0 : Array Value) (Post : Value → Heap → Prop) (h : Heap) : Prop :=
    ALC p_0 T_impl_Player (fun g1 h2 =>
    LDA 10 h2 ⟨g1, 0, none⟩ fun a3 =>
    CALL prg f_impl_ValidPlayer #[.agg a3] (fun q4 h5 =>
    asB q4 fun b6 =>
    BIF (!b6) (
    Post (.tuple ⟨[.bool false, .int .i64 (1 : Int)]⟩) h5) (
    oL (cell h5 ⟨g1, 6, none⟩) fun l7b l7l l7c =>
    CALL prg f_slices_ContainsFunc_sl_impl_Voice_impl_Voice #[.slice l7b l7l l7c, .func (.func 121) #[] #[]] (fun q8 h9 =>
    asB q8 fun b10 =>
    oI .i64 (cell h9 ⟨g1, 8, none⟩) fun n11 =>
    oL (cell h9 ⟨g1, 5, none⟩) fun l12b l12l l12c =>
    CALL prg f_impl_length_impl_Event #[.slice l12b l12l l12c] (fun q13 h14 =>
    asI .i64 q13 fun n15 =>
    PIN h9 ⟨g1, 8, none⟩ 1 h14 <|
    BIF (n11 == n15) (
    Post (.tuple ⟨[.bool (!b10), .int .i64 (0 : Int)]⟩) h14) (
    Post (.tuple ⟨[.bool false, .int .i64 (0 : Int)]⟩) h14)) h9) h5)) h2) h
noncomputable def impl_HasEnded.code : Code := (Tryz.f38.body).getD .skip
theorem impl_HasEnded.call {p_0 : Array Value} {Post : Value → Heap → Prop} {h : Heap} (H : impl_HasEnded.S p_0 Post h) : CALL prg f_impl_HasEnded #[.agg p_0] Post h :=
  fn_call tau_ok mixed (c := impl_HasEnded.code) (Λ := lookL []) Tryz.func38 (by kernel_rfl) (by kernel_rfl)
    (Rq.free (by kernel_rfl))
    (Eq.mp (by kernel_rfl) H)

def laws_FnExactHasEnded.J10 (Post : Value → Heap → Prop) (aP_1 : Addr) (x0_6 : Addr) (h : Heap) : Prop :=
    LDA 10 h x0_6 fun a31 =>
    LDA 10 h aP_1 fun a32 =>
    CALL prg f_laws_toPlayer #[.agg a32] (fun q33 h34 =>
    asA q33 fun a35 =>
    PIN h x0_6 10 h34 <|
    CALL prg f_laws_eqPlayer #[.agg a31, .agg a35] (fun q36 h37 =>
    asB q36 fun b38 =>
    BIF (!b38) (
    Post (.bool false) h37) (
    Post (.bool true) h37)) h34) h
def laws_FnExactHasEnded.j10 (Post : Value → Heap → Prop) : Frame → Heap → Prop := fun fr h => GRD (shape (kds 40 [(1, .p), (6, .p)]) fr) (laws_FnExactHasEnded.J10 Post (gP (lget fr 1)) (gP (lget fr 6)) h)
def laws_FnExactHasEnded.S (aP_0 : Array Value) (Post : Value → Heap → Prop) (h : Heap) : Prop :=
    ALC aP_0 T_laws_Player (fun g1 h2 =>
    LDA 10 h2 ⟨g1, 0, none⟩ fun a3 =>
    CALL prg f_laws_szPlayer #[.agg a3, .int .i64 (1048576 : Int)] (fun q4 h5 =>
    asI .i64 q4 fun n6 =>
    BIF ((decide (n6 < (0 : Int)))) (
    Post (.bool true) h5) (
    LDA 10 h5 ⟨g1, 0, none⟩ fun a7 =>
    CALL prg f_laws_toPlayer #[.agg a7] (fun q8 h9 =>
    asA q8 fun a10 =>
    CALL prg f_spec_HasEnded #[.agg a10] (fun q11 h12 =>
    TUP2 q11 fun q13 q14 =>
    asB q13 fun b15 =>
    asI .i64 q14 fun n16 =>
    LDA 10 h12 ⟨g1, 0, none⟩ fun a17 =>
    CALL prg f_laws_toPlayer #[.agg a17] (fun q18 h19 =>
    asA q18 fun a20 =>
    ALC ⟨Z_impl_Player⟩ T_impl_Player (fun g21 h22 =>
    STA 10 h22 ⟨g21, 0, none⟩ a20 fun h23 =>
    LDA 10 h23 ⟨g21, 0, none⟩ fun a24 =>
    CALL prg f_impl_HasEnded #[.agg a24] (fun q25 h26 =>
    TUP2 q25 fun q27 q28 =>
    asB q27 fun b29 =>
    asI .i64 q28 fun n30 =>
    BIF (!(b29 == b15)) (
    Post (.bool false) h26) (
    BIF (n30 != n16) (
    Post (.bool false) h26) (
    laws_FnExactHasEnded.J10 Post ⟨g1, 0, none⟩ ⟨g21, 0, none⟩ h26))) h23) h19) h12) h9) h5)) h2) h
noncomputable def laws_FnExactHasEnded.code : Code := (Tryz.f8.body).getD .skip
theorem laws_FnExactHasEnded.call {aP_0 : Array Value} {Post : Value → Heap → Prop} {h : Heap} (H : laws_FnExactHasEnded.S aP_0 Post h) : CALL prg f_laws_FnExactHasEnded #[.agg aP_0] Post h :=
  fn_call tau_ok mixed (c := laws_FnExactHasEnded.code) (Λ := lookL [(10, laws_FnExactHasEnded.j10 Post)]) Tryz.func8 (by kernel_rfl) (by kernel_rfl)
    (Rq.seq (by kernel_rfl) (Rq.free (by kernel_rfl)) (Rq.seq (by kernel_rfl) (Rq.free (by kernel_rfl)) (Rq.seq (by kernel_rfl) (Rq.free (by kernel_rfl)) (Rq.seq (by kernel_rfl) (Rq.free (by kernel_rfl)) (Rq.seq (by kernel_rfl) (Rq.free (by kernel_rfl)) (Rq.seq (by kernel_rfl) (Rq.free (by kernel_rfl)) (Rq.seq (by kernel_rfl) (Rq.free (by kernel_rfl)) (Rq.seqJ (laws_FnExactHasEnded.j10 Post) (by kernel_rfl) (seg (fun _ _ => by kernel_rfl)) (Rq.free (by kernel_rfl))
(Rq.free (by kernel_rfl))))))))))
    (Eq.mp (by kernel_rfl) H)

end Go.Sx
