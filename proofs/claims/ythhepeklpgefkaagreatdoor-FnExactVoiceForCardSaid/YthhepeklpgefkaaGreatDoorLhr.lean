/- The laws' helpers that mark rings. -/
import Derived.Test.YthhepeklpgefkaaGreatDoorLk53
import Derived.Test.YthhepeklpgefkaaGreatDoorTab
import Derived.Test.YthhepeklpgefkaaGreatDoorLh4
set_option linter.unusedVariables false
set_option linter.unusedSimpArgs false
namespace Go.Sx
open Go.Proofs
set_option maxRecDepth 100000

section
variable {h : Heap}
def n_Ring (x : GRing) : Nat := n_Float32S x.Samples
def mk_Ring (x : GRing) (k : Nat) : GRing := { x with Samples := mk_Float32S x.Samples (k) }
theorem nw_Ring (x : GRing) : n_Ring x ≤ 8 * w_Ring x := by
  have h0 := nw_Float32S x.Samples
  have e1 : n_Ring x = n_Float32S x.Samples := rfl
  have e2 : w_Ring x = w_Float32S x.Samples := rfl
  omega
theorem mark_Ring_c {h0 : Heap} {B L : List Blk} {cs : Array Value} {x : GRing} (O : rRing.ow B cs.toList x) (M : Mem h0 h (B ++ L)) (k : Nat) (hw0 : w_Ring x ≤ 1048576) (hk : k + n_Ring x ≤ 1073741824) :
    CALL prg f_laws_markRing #[.agg cs, .int .i64 (k : Int)] (fun u h' => u = .int .i64 ((k + n_Ring x : Nat) : Int) ∧ ∃ B', rRing.ow B' cs.toList (mk_Ring x k) ∧ Mem h0 h' (B' ++ L)) h := by
  have hw : w_Ring x = w_Float32S x.Samples := rfl
  have hn : n_Ring x = n_Float32S x.Samples := rfl
  refine laws_markRing.call (M.alc fun g1 h1 x1 M => ?_)
  obtain ⟨Bm, Br, hB, Om, reb⟩ := ow_upd O foc_Ring_Samples
  obtain ⟨b, l, c, e, Om⟩ := Om
  refine o_l ((M.cell .here _).trans (cell_part e)) ?_
  refine (mark_Float32S_c (xs := x.Samples) Om (M.cnt (W := Bm ++ (Br ++ ((g1, T_impl_Ring, cs) :: L))) (fun p => by have := hB p; simp only [cnt_app, cnt_cons, cnt_nil] at *; omega)) (k) (by omega) (by omega)).mono ?_
  rintro _ h' ⟨rfl, B', O', M⟩
  obtain ⟨B2, O, hB2⟩ := reb B' _ ⟨b, l, c, e, O'⟩
  refine as_i ?_
  have M := M.cnt (W := (g1, T_impl_Ring, cs) :: (B2 ++ L)) (fun p => by have := hB2 p; simp only [cnt_app, cnt_cons, cnt_nil] at *; omega)
  clear reb
  exact ⟨by congr 2 <;> (unfold n_Ring; omega), B2, O, M.drop⟩
theorem held_Ring_c {cs : Array Value} {x : GRing} (k : Nat) (R0 : rRing.rd h cs.toList (mk_Ring x k)) (hw0 : w_Ring x ≤ 1048576) (hk : k + n_Ring x ≤ 1073741824) :
    CALL prg f_laws_heldRing #[.agg cs, .int .i64 (k : Int)] (fun u h' => u = .int .i64 ((k + n_Ring x : Nat) : Int) ∧ Ext h h') h := by
  have hw : w_Ring x = w_Float32S x.Samples := rfl
  have hn : n_Ring x = n_Float32S x.Samples := rfl
  refine laws_heldRing.call (alcR R0 fun g1 h1 X R => ?_)
  refine R.oL2 fun b1 l1 c1 S1 => goX (held_Float32S_c (xs := x.Samples) (k) S1 (by omega) (by omega)) fun h' x' => as_i (br_f (decide_eq_false (by omega)) ?_)
  have R := R.ext x'
  have X := X.trans x'
  exact ⟨by congr 2 <;> (unfold n_Ring; omega), X⟩
end
end Go.Sx
/- What functions of this seat's program compute, told in words (a predicate over heaps for each), and the proofs that the words are no more than the code's own weakest precondition. -/
namespace Go.Sx
open Go.Proofs
set_option linter.unusedVariables false
set_option maxRecDepth 100000

def laws_markString.S (a_0 : Array Value) (k_1 : Int) (Post : Value → Heap → Prop) (h : Heap) : Prop :=
    ALC a_0 T_impl_String (fun g1 h2 =>
    LDA 2 h2 ⟨g1, 0, none⟩ fun a3 =>
    CALL prg f_laws_markRing #[.agg a3, .int .i64 k_1] (fun q4 h5 =>
    asI .i64 q4 fun n6 =>
    Post (.int .i64 n6) h5) h2) h
noncomputable def laws_markString.code : Code := (Tryz.f103.body).getD .skip
theorem laws_markString.call {a_0 : Array Value} {k_1 : Int} {Post : Value → Heap → Prop} {h : Heap} (H : laws_markString.S a_0 k_1 Post h) : CALL prg f_laws_markString #[.agg a_0, .int .i64 k_1] Post h :=
  fn_call tau_ok mixed (c := laws_markString.code) (Λ := lookL []) Tryz.func103 (by kernel_rfl) (by kernel_rfl)
    (Rq.free (by kernel_rfl))
    (Eq.mp (by kernel_rfl) H)

def laws_markBow.S (a_0 : Array Value) (k_1 : Int) (Post : Value → Heap → Prop) (h : Heap) : Prop :=
    ALC a_0 T_impl_Bow (fun g1 h2 =>
    LDA 2 h2 ⟨g1, 0, none⟩ fun a3 =>
    CALL prg f_laws_markRing #[.agg a3, .int .i64 k_1] (fun q4 h5 =>
    asI .i64 q4 fun n6 =>
    LDA 2 h5 ⟨g1, 2, none⟩ fun a7 =>
    CALL prg f_laws_markRing #[.agg a7, .int .i64 n6] (fun q8 h9 =>
    asI .i64 q8 fun n10 =>
    Post (.int .i64 n10) h9) h5) h2) h
noncomputable def laws_markBow.code : Code := (Tryz.f105.body).getD .skip
theorem laws_markBow.call {a_0 : Array Value} {k_1 : Int} {Post : Value → Heap → Prop} {h : Heap} (H : laws_markBow.S a_0 k_1 Post h) : CALL prg f_laws_markBow #[.agg a_0, .int .i64 k_1] Post h :=
  fn_call tau_ok mixed (c := laws_markBow.code) (Λ := lookL []) Tryz.func105 (by kernel_rfl) (by kernel_rfl)
    (Rq.free (by kernel_rfl))
    (Eq.mp (by kernel_rfl) H)

def laws_markVoice.S (a_0 : Array Value) (k_1 : Int) (Post : Value → Heap → Prop) (h : Heap) : Prop :=
    ALC a_0 T_impl_Voice (fun g1 h2 =>
    LDA 15 h2 ⟨g1, 5, none⟩ fun a3 =>
    CALL prg f_laws_markString #[.agg a3, .int .i64 k_1] (fun q4 h5 =>
    asI .i64 q4 fun n6 =>
    LDA 13 h5 ⟨g1, 20, none⟩ fun a7 =>
    CALL prg f_laws_markPipe #[.agg a7, .int .i64 n6] (fun q8 h9 =>
    asI .i64 q8 fun n10 =>
    LDA 12 h9 ⟨g1, 33, none⟩ fun a11 =>
    CALL prg f_laws_markBow #[.agg a11, .int .i64 n10] (fun q12 h13 =>
    asI .i64 q12 fun n14 =>
    Post (.int .i64 n14) h13) h9) h5) h2) h
noncomputable def laws_markVoice.code : Code := (Tryz.f28.body).getD .skip
theorem laws_markVoice.call {a_0 : Array Value} {k_1 : Int} {Post : Value → Heap → Prop} {h : Heap} (H : laws_markVoice.S a_0 k_1 Post h) : CALL prg f_laws_markVoice #[.agg a_0, .int .i64 k_1] Post h :=
  fn_call tau_ok mixed (c := laws_markVoice.code) (Λ := lookL []) Tryz.func28 (by kernel_rfl) (by kernel_rfl)
    (Rq.free (by kernel_rfl))
    (Eq.mp (by kernel_rfl) H)

def laws_heldString.S (a_0 : Array Value) (k_1 : Int) (Post : Value → Heap → Prop) (h : Heap) : Prop :=
    ALC a_0 T_impl_String (fun g1 h2 =>
    LDA 2 h2 ⟨g1, 0, none⟩ fun a3 =>
    CALL prg f_laws_heldRing #[.agg a3, .int .i64 k_1] (fun q4 h5 =>
    asI .i64 q4 fun n6 =>
    BIF ((decide (n6 < (0 : Int)))) (
    Post (.int .i64 (-1 : Int)) h5) (
    Post (.int .i64 n6) h5)) h2) h
noncomputable def laws_heldString.code : Code := (Tryz.f106.body).getD .skip
theorem laws_heldString.call {a_0 : Array Value} {k_1 : Int} {Post : Value → Heap → Prop} {h : Heap} (H : laws_heldString.S a_0 k_1 Post h) : CALL prg f_laws_heldString #[.agg a_0, .int .i64 k_1] Post h :=
  fn_call tau_ok mixed (c := laws_heldString.code) (Λ := lookL []) Tryz.func106 (by kernel_rfl) (by kernel_rfl)
    (Rq.free (by kernel_rfl))
    (Eq.mp (by kernel_rfl) H)

def laws_heldBow.S (a_0 : Array Value) (k_1 : Int) (Post : Value → Heap → Prop) (h : Heap) : Prop :=
    ALC a_0 T_impl_Bow (fun g1 h2 =>
    LDA 2 h2 ⟨g1, 0, none⟩ fun a3 =>
    CALL prg f_laws_heldRing #[.agg a3, .int .i64 k_1] (fun q4 h5 =>
    asI .i64 q4 fun n6 =>
    BIF ((decide (n6 < (0 : Int)))) (
    Post (.int .i64 (-1 : Int)) h5) (
    LDA 2 h5 ⟨g1, 2, none⟩ fun a7 =>
    CALL prg f_laws_heldRing #[.agg a7, .int .i64 n6] (fun q8 h9 =>
    asI .i64 q8 fun n10 =>
    BIF ((decide (n10 < (0 : Int)))) (
    Post (.int .i64 (-1 : Int)) h9) (
    Post (.int .i64 n10) h9)) h5)) h2) h
noncomputable def laws_heldBow.code : Code := (Tryz.f108.body).getD .skip
theorem laws_heldBow.call {a_0 : Array Value} {k_1 : Int} {Post : Value → Heap → Prop} {h : Heap} (H : laws_heldBow.S a_0 k_1 Post h) : CALL prg f_laws_heldBow #[.agg a_0, .int .i64 k_1] Post h :=
  fn_call tau_ok mixed (c := laws_heldBow.code) (Λ := lookL []) Tryz.func108 (by kernel_rfl) (by kernel_rfl)
    (Rq.free (by kernel_rfl))
    (Eq.mp (by kernel_rfl) H)

def laws_heldVoice.S (a_0 : Array Value) (k_1 : Int) (Post : Value → Heap → Prop) (h : Heap) : Prop :=
    ALC a_0 T_impl_Voice (fun g1 h2 =>
    LDA 15 h2 ⟨g1, 5, none⟩ fun a3 =>
    CALL prg f_laws_heldString #[.agg a3, .int .i64 k_1] (fun q4 h5 =>
    asI .i64 q4 fun n6 =>
    BIF ((decide (n6 < (0 : Int)))) (
    Post (.int .i64 (-1 : Int)) h5) (
    LDA 13 h5 ⟨g1, 20, none⟩ fun a7 =>
    CALL prg f_laws_heldPipe #[.agg a7, .int .i64 n6] (fun q8 h9 =>
    asI .i64 q8 fun n10 =>
    BIF ((decide (n10 < (0 : Int)))) (
    Post (.int .i64 (-1 : Int)) h9) (
    LDA 12 h9 ⟨g1, 33, none⟩ fun a11 =>
    CALL prg f_laws_heldBow #[.agg a11, .int .i64 n10] (fun q12 h13 =>
    asI .i64 q12 fun n14 =>
    BIF ((decide (n14 < (0 : Int)))) (
    Post (.int .i64 (-1 : Int)) h13) (
    Post (.int .i64 n14) h13)) h9)) h5)) h2) h
noncomputable def laws_heldVoice.code : Code := (Tryz.f29.body).getD .skip
theorem laws_heldVoice.call {a_0 : Array Value} {k_1 : Int} {Post : Value → Heap → Prop} {h : Heap} (H : laws_heldVoice.S a_0 k_1 Post h) : CALL prg f_laws_heldVoice #[.agg a_0, .int .i64 k_1] Post h :=
  fn_call tau_ok mixed (c := laws_heldVoice.code) (Λ := lookL []) Tryz.func29 (by kernel_rfl) (by kernel_rfl)
    (Rq.free (by kernel_rfl))
    (Eq.mp (by kernel_rfl) H)

end Go.Sx
/- The laws' helpers that mark a voice. -/
set_option linter.unusedVariables false
set_option linter.unusedSimpArgs false
namespace Go.Sx
open Go.Proofs
set_option maxRecDepth 100000

section
variable {h : Heap}
def n_String (x : GString) : Nat := n_Ring x.Loop
def mk_String (x : GString) (k : Nat) : GString := { x with Loop := mk_Ring x.Loop (k) }
theorem nw_String (x : GString) : n_String x ≤ 8 * w_String x := by
  have h0 := nw_Ring x.Loop
  have e1 : n_String x = n_Ring x.Loop := rfl
  have e2 : w_String x = w_Ring x.Loop := rfl
  omega
theorem mark_String_c {h0 : Heap} {B L : List Blk} {cs : Array Value} {x : GString} (O : rString.ow B cs.toList x) (M : Mem h0 h (B ++ L)) (k : Nat) (hw0 : w_String x ≤ 1048576) (hk : k + n_String x ≤ 1073741824) :
    CALL prg f_laws_markString #[.agg cs, .int .i64 (k : Int)] (fun u h' => u = .int .i64 ((k + n_String x : Nat) : Int) ∧ ∃ B', rString.ow B' cs.toList (mk_String x k) ∧ Mem h0 h' (B' ++ L)) h := by
  have hw : w_String x = w_Ring x.Loop := rfl
  have hn : n_String x = n_Ring x.Loop := rfl
  refine laws_markString.call (M.alc fun g1 h1 x1 M => ?_)
  obtain ⟨Bm, Br, hB, Om, reb⟩ := ow_upd O foc_String_Loop
  refine M.lda .here (by have := osz O rfl; rw [this]; decide) ?_
  rw [← ext_part] at Om
  refine (mark_Ring_c (x := x.Loop) Om (M.cnt (W := Bm ++ (Br ++ ((g1, T_impl_String, cs) :: L))) (fun p => by have := hB p; simp only [cnt_app, cnt_cons, cnt_nil] at *; omega)) (k) (by omega) (by omega)).mono ?_
  rintro _ h' ⟨rfl, B', O', M⟩
  obtain ⟨B2, O, hB2⟩ := reb B' _ (by rw [← ext_part]; exact O')
  refine as_i ?_
  have M := M.cnt (W := (g1, T_impl_String, cs) :: (B2 ++ L)) (fun p => by have := hB2 p; simp only [cnt_app, cnt_cons, cnt_nil] at *; omega)
  clear reb
  exact ⟨by congr 2 <;> (unfold n_String; omega), B2, O, M.drop⟩
theorem held_String_c {cs : Array Value} {x : GString} (k : Nat) (R0 : rString.rd h cs.toList (mk_String x k)) (hw0 : w_String x ≤ 1048576) (hk : k + n_String x ≤ 1073741824) :
    CALL prg f_laws_heldString #[.agg cs, .int .i64 (k : Int)] (fun u h' => u = .int .i64 ((k + n_String x : Nat) : Int) ∧ Ext h h') h := by
  have hw : w_String x = w_Ring x.Loop := rfl
  have hn : n_String x = n_Ring x.Loop := rfl
  refine laws_heldString.call (alcR R0 fun g1 h1 X R => ?_)
  refine R.lda2 foc_String_Loop rfl fun c1 R1 => goX (held_Ring_c (x := x.Loop) (k) R1 (by omega) (by omega)) fun h' x' => as_i (br_f (decide_eq_false (by omega)) ?_)
  have R := R.ext x'
  have X := X.trans x'
  exact ⟨by congr 2 <;> (unfold n_String; omega), X⟩
def n_Bow (x : GBow) : Nat := n_Ring x.Neck + n_Ring x.Bridge
def mk_Bow (x : GBow) (k : Nat) : GBow := { x with Neck := mk_Ring x.Neck (k), Bridge := mk_Ring x.Bridge (k + n_Ring x.Neck) }
theorem nw_Bow (x : GBow) : n_Bow x ≤ 8 * w_Bow x := by
  have h0 := nw_Ring x.Neck
  have h1 := nw_Ring x.Bridge
  have e1 : n_Bow x = n_Ring x.Neck + n_Ring x.Bridge := rfl
  have e2 : w_Bow x = w_Ring x.Neck + w_Ring x.Bridge := rfl
  omega
theorem mark_Bow_c {h0 : Heap} {B L : List Blk} {cs : Array Value} {x : GBow} (O : rBow.ow B cs.toList x) (M : Mem h0 h (B ++ L)) (k : Nat) (hw0 : w_Bow x ≤ 1048576) (hk : k + n_Bow x ≤ 1073741824) :
    CALL prg f_laws_markBow #[.agg cs, .int .i64 (k : Int)] (fun u h' => u = .int .i64 ((k + n_Bow x : Nat) : Int) ∧ ∃ B', rBow.ow B' cs.toList (mk_Bow x k) ∧ Mem h0 h' (B' ++ L)) h := by
  have hw : w_Bow x = w_Ring x.Neck + w_Ring x.Bridge := rfl
  have hn : n_Bow x = n_Ring x.Neck + n_Ring x.Bridge := rfl
  refine laws_markBow.call (M.alc fun g1 h1 x1 M => ?_)
  obtain ⟨Bm, Br, hB, Om, reb⟩ := ow_upd O foc_Bow_Neck
  refine M.lda .here (by have := osz O rfl; rw [this]; decide) ?_
  rw [← ext_part] at Om
  refine (mark_Ring_c (x := x.Neck) Om (M.cnt (W := Bm ++ (Br ++ ((g1, T_impl_Bow, cs) :: L))) (fun p => by have := hB p; simp only [cnt_app, cnt_cons, cnt_nil] at *; omega)) (k) (by omega) (by omega)).mono ?_
  rintro _ h' ⟨rfl, B', O', M⟩
  obtain ⟨B2, O, hB2⟩ := reb B' _ (by rw [← ext_part]; exact O')
  refine as_i ?_
  have M := M.cnt (W := (g1, T_impl_Bow, cs) :: (B2 ++ L)) (fun p => by have := hB2 p; simp only [cnt_app, cnt_cons, cnt_nil] at *; omega)
  clear reb
  obtain ⟨Bm, Br, hB, Om, reb⟩ := ow_upd O foc_Bow_Bridge
  refine M.lda .here (by have := osz O rfl; rw [this]; decide) ?_
  rw [← ext_part] at Om
  refine (mark_Ring_c (x := x.Bridge) Om (M.cnt (W := Bm ++ (Br ++ ((g1, T_impl_Bow, cs) :: L))) (fun p => by have := hB p; simp only [cnt_app, cnt_cons, cnt_nil] at *; omega)) (k + n_Ring x.Neck) (by omega) (by omega)).mono ?_
  rintro _ h' ⟨rfl, B', O', M⟩
  obtain ⟨B2, O, hB2⟩ := reb B' _ (by rw [← ext_part]; exact O')
  refine as_i ?_
  have M := M.cnt (W := (g1, T_impl_Bow, cs) :: (B2 ++ L)) (fun p => by have := hB2 p; simp only [cnt_app, cnt_cons, cnt_nil] at *; omega)
  clear reb
  exact ⟨by congr 2 <;> (unfold n_Bow; omega), B2, O, M.drop⟩
theorem held_Bow_c {cs : Array Value} {x : GBow} (k : Nat) (R0 : rBow.rd h cs.toList (mk_Bow x k)) (hw0 : w_Bow x ≤ 1048576) (hk : k + n_Bow x ≤ 1073741824) :
    CALL prg f_laws_heldBow #[.agg cs, .int .i64 (k : Int)] (fun u h' => u = .int .i64 ((k + n_Bow x : Nat) : Int) ∧ Ext h h') h := by
  have hw : w_Bow x = w_Ring x.Neck + w_Ring x.Bridge := rfl
  have hn : n_Bow x = n_Ring x.Neck + n_Ring x.Bridge := rfl
  refine laws_heldBow.call (alcR R0 fun g1 h1 X R => ?_)
  refine R.lda2 foc_Bow_Neck rfl fun c1 R1 => goX (held_Ring_c (x := x.Neck) (k) R1 (by omega) (by omega)) fun h' x' => as_i (br_f (decide_eq_false (by omega)) ?_)
  have R := R.ext x'
  have X := X.trans x'
  refine R.lda2 foc_Bow_Bridge rfl fun c1 R1 => goX (held_Ring_c (x := x.Bridge) (k + n_Ring x.Neck) R1 (by omega) (by omega)) fun h' x' => as_i (br_f (decide_eq_false (by omega)) ?_)
  have R := R.ext x'
  have X := X.trans x'
  exact ⟨by congr 2 <;> (unfold n_Bow; omega), X⟩
def n_Voice (x : GVoice) : Nat := n_String x.String + n_Pipe x.Pipe + n_Bow x.Bow
def mk_Voice (x : GVoice) (k : Nat) : GVoice := { x with String := mk_String x.String (k), Pipe := mk_Pipe x.Pipe (k + n_String x.String), Bow := mk_Bow x.Bow (k + n_String x.String + n_Pipe x.Pipe) }
theorem nw_Voice (x : GVoice) : n_Voice x ≤ 8 * w_Voice x := by
  have h0 := nw_String x.String
  have h1 := nw_Pipe x.Pipe
  have h2 := nw_Bow x.Bow
  have e1 : n_Voice x = n_String x.String + n_Pipe x.Pipe + n_Bow x.Bow := rfl
  have e2 : w_Voice x = w_String x.String + w_Pipe x.Pipe + w_Bow x.Bow := rfl
  omega
theorem mark_Voice_c {h0 : Heap} {B L : List Blk} {cs : Array Value} {x : GVoice} (O : rVoice.ow B cs.toList x) (M : Mem h0 h (B ++ L)) (k : Nat) (hw0 : w_Voice x ≤ 1048576) (hk : k + n_Voice x ≤ 1073741824) :
    CALL prg f_laws_markVoice #[.agg cs, .int .i64 (k : Int)] (fun u h' => u = .int .i64 ((k + n_Voice x : Nat) : Int) ∧ ∃ B', rVoice.ow B' cs.toList (mk_Voice x k) ∧ Mem h0 h' (B' ++ L)) h := by
  have hw : w_Voice x = w_String x.String + w_Pipe x.Pipe + w_Bow x.Bow := rfl
  have hn : n_Voice x = n_String x.String + n_Pipe x.Pipe + n_Bow x.Bow := rfl
  refine laws_markVoice.call (M.alc fun g1 h1 x1 M => ?_)
  obtain ⟨Bm, Br, hB, Om, reb⟩ := ow_upd O foc_Voice_String
  refine M.lda .here (by have := osz O rfl; rw [this]; decide) ?_
  rw [← ext_part] at Om
  refine (mark_String_c (x := x.String) Om (M.cnt (W := Bm ++ (Br ++ ((g1, T_impl_Voice, cs) :: L))) (fun p => by have := hB p; simp only [cnt_app, cnt_cons, cnt_nil] at *; omega)) (k) (by omega) (by omega)).mono ?_
  rintro _ h' ⟨rfl, B', O', M⟩
  obtain ⟨B2, O, hB2⟩ := reb B' _ (by rw [← ext_part]; exact O')
  refine as_i ?_
  have M := M.cnt (W := (g1, T_impl_Voice, cs) :: (B2 ++ L)) (fun p => by have := hB2 p; simp only [cnt_app, cnt_cons, cnt_nil] at *; omega)
  clear reb
  obtain ⟨Bm, Br, hB, Om, reb⟩ := ow_upd O foc_Voice_Pipe
  refine M.lda .here (by have := osz O rfl; rw [this]; decide) ?_
  rw [← ext_part] at Om
  refine (mark_Pipe_c (x := x.Pipe) Om (M.cnt (W := Bm ++ (Br ++ ((g1, T_impl_Voice, cs) :: L))) (fun p => by have := hB p; simp only [cnt_app, cnt_cons, cnt_nil] at *; omega)) (k + n_String x.String) (by omega) (by omega)).mono ?_
  rintro _ h' ⟨rfl, B', O', M⟩
  obtain ⟨B2, O, hB2⟩ := reb B' _ (by rw [← ext_part]; exact O')
  refine as_i ?_
  have M := M.cnt (W := (g1, T_impl_Voice, cs) :: (B2 ++ L)) (fun p => by have := hB2 p; simp only [cnt_app, cnt_cons, cnt_nil] at *; omega)
  clear reb
  obtain ⟨Bm, Br, hB, Om, reb⟩ := ow_upd O foc_Voice_Bow
  refine M.lda .here (by have := osz O rfl; rw [this]; decide) ?_
  rw [← ext_part] at Om
  refine (mark_Bow_c (x := x.Bow) Om (M.cnt (W := Bm ++ (Br ++ ((g1, T_impl_Voice, cs) :: L))) (fun p => by have := hB p; simp only [cnt_app, cnt_cons, cnt_nil] at *; omega)) (k + n_String x.String + n_Pipe x.Pipe) (by omega) (by omega)).mono ?_
  rintro _ h' ⟨rfl, B', O', M⟩
  obtain ⟨B2, O, hB2⟩ := reb B' _ (by rw [← ext_part]; exact O')
  refine as_i ?_
  have M := M.cnt (W := (g1, T_impl_Voice, cs) :: (B2 ++ L)) (fun p => by have := hB2 p; simp only [cnt_app, cnt_cons, cnt_nil] at *; omega)
  clear reb
  exact ⟨by congr 2 <;> (unfold n_Voice; omega), B2, O, M.drop⟩
theorem held_Voice_c {cs : Array Value} {x : GVoice} (k : Nat) (R0 : rVoice.rd h cs.toList (mk_Voice x k)) (hw0 : w_Voice x ≤ 1048576) (hk : k + n_Voice x ≤ 1073741824) :
    CALL prg f_laws_heldVoice #[.agg cs, .int .i64 (k : Int)] (fun u h' => u = .int .i64 ((k + n_Voice x : Nat) : Int) ∧ Ext h h') h := by
  have hw : w_Voice x = w_String x.String + w_Pipe x.Pipe + w_Bow x.Bow := rfl
  have hn : n_Voice x = n_String x.String + n_Pipe x.Pipe + n_Bow x.Bow := rfl
  refine laws_heldVoice.call (alcR R0 fun g1 h1 X R => ?_)
  refine R.lda2 foc_Voice_String rfl fun c1 R1 => goX (held_String_c (x := x.String) (k) R1 (by omega) (by omega)) fun h' x' => as_i (br_f (decide_eq_false (by omega)) ?_)
  have R := R.ext x'
  have X := X.trans x'
  refine R.lda2 foc_Voice_Pipe rfl fun c1 R1 => goX (held_Pipe_c (x := x.Pipe) (k + n_String x.String) R1 (by omega) (by omega)) fun h' x' => as_i (br_f (decide_eq_false (by omega)) ?_)
  have R := R.ext x'
  have X := X.trans x'
  refine R.lda2 foc_Voice_Bow rfl fun c1 R1 => goX (held_Bow_c (x := x.Bow) (k + n_String x.String + n_Pipe x.Pipe) R1 (by omega) (by omega)) fun h' x' => as_i (br_f (decide_eq_false (by omega)) ?_)
  have R := R.ext x'
  have X := X.trans x'
  exact ⟨by congr 2 <;> (unfold n_Voice; omega), X⟩
end
end Go.Sx
