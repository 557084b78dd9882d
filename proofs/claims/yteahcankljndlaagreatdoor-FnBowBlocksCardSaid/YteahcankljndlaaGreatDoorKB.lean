/- What functions of this seat's program compute, told in words (a predicate over heaps for each), and the proofs that the words are no more than the code's own weakest precondition. -/
import Derived.Test.YteahcankljndlaaGreatDoorTab
import Derived.Test.YteahcankljndlaaGreatDoorLk59
import Derived.Test.YteahcankljndlaaGreatDoorLk34
import Derived.Test.YteahcankljndlaaGreatDoorLk54
namespace Go.Sx
open Go.Proofs
set_option linter.unusedVariables false
set_option maxRecDepth 100000

def spec_MuteBow.S (x_0 : Array Value) (Post : Value → Heap → Prop) (h : Heap) : Prop :=
    ALC x_0 T_impl_Bow (fun g1 h2 =>
    ALC ⟨Z_impl_Bow⟩ T_impl_Bow (fun g3 h4 =>
    CALL prg f_spec_l05Bow #[.pointer (some ⟨g1, 0, none⟩)] (fun q5 h6 =>
    asB q5 fun b7 =>
    BIF (!b7) (
    STA 12 h6 ⟨g3, 0, none⟩ (⟨[.slice none 0 0, .int .i64 (0 : Int), .slice none 0 0, .int .i64 (0 : Int), .int .i64 (0 : Int), .float .f32 0, .float .f32 0, .float .f32 0, .float .f32 0, .float .f32 0, .float .f32 0, .float .f32 0]⟩ : Array Value) fun h8 =>
    LDA 12 h8 ⟨g3, 0, none⟩ fun a9 =>
    Post (.tuple ⟨[.agg a9, .int .i64 (1 : Int)]⟩) h8) (
    CALL prg f_spec_l05CopyBow #[.pointer (some ⟨g1, 0, none⟩)] (fun q10 h11 =>
    asA q10 fun a12 =>
    ALC ⟨Z_impl_Bow⟩ T_impl_Bow (fun g13 h14 =>
    STA 12 h14 ⟨g13, 0, none⟩ a12 fun h15 =>
    CALL prg f_spec_l05Muted #[.pointer (some ⟨g1, 0, none⟩)] (fun q16 h17 =>
    asA q16 fun a18 =>
    STA 2 h17 ⟨g13, 0, none⟩ a18 fun h19 =>
    CALL prg f_spec_l05Muted #[.pointer (some ⟨g1, 2, none⟩)] (fun q20 h21 =>
    asA q20 fun a22 =>
    STA 2 h21 ⟨g13, 2, none⟩ a22 fun h23 =>
    STA 2 h23 ⟨g13, 8, none⟩ (⟨[.float .f32 0, .float .f32 0]⟩ : Array Value) fun h24 =>
    LDA 12 h24 ⟨g13, 0, none⟩ fun a25 =>
    STA 12 h24 ⟨g3, 0, none⟩ a25 fun h26 =>
    LDA 12 h26 ⟨g3, 0, none⟩ fun a27 =>
    Post (.tuple ⟨[.agg a27, .int .i64 (0 : Int)]⟩) h26) h19) h15) h11) h6)) h4) h2) h
noncomputable def spec_MuteBow.code : Code := (Tryz.f29.body).getD .skip
theorem spec_MuteBow.call {x_0 : Array Value} {Post : Value → Heap → Prop} {h : Heap} (H : spec_MuteBow.S x_0 Post h) : CALL prg f_spec_MuteBow #[.agg x_0] Post h :=
  fn_call tau_ok mixed (c := spec_MuteBow.code) (Λ := lookL []) Tryz.func29 (by kernel_rfl) (by kernel_rfl)
    (Rq.free (by kernel_rfl))
    (Eq.mp (by kernel_rfl) H)

def spec_l05DrawnBow.B6 (Post : Value → Heap → Prop) (N6 : (Addr × Addr × Addr × Int) → Heap → Prop) : Addr × Addr × Addr × Int → Heap → Prop
  | (s_0, t2, x_6, k_8), h =>
    BIF ((decide ((0 : Int) < k_8))) (
    CALL prg f_spec_l01Plain #[.pointer (some s_0)] (fun q34 h35 =>
    asF .f32 q34 fun r36 =>
    CALL prg f_spec_l05StepBow #[.pointer (some x_6), .float .f32 r36] (fun q37 h38 =>
    asF .f32 q37 fun r39 =>
    N6 (s_0, t2, x_6, ((IntKind.i64.wrap (k_8 - (1 : Int))))) h38) h35) h) (
    LDA 12 h x_6 fun a40 =>
    STA 12 h t2 a40 fun h41 =>
    LDA 12 h41 t2 fun a42 =>
    Post (.agg a42) h41)
def spec_l05DrawnBow.g6 (fr : Frame) : Addr × Addr × Addr × Int := ((gP (lget fr 0)), (gP (lget fr 2)), (gP (lget fr 6)), (gI (lget fr 8)))
def spec_l05DrawnBow.l6 (Post : Value → Heap → Prop) : Frame → Heap → Prop := fun fr h => GRD (shape (kds 45 [(0, .p), (2, .p), (6, .p), (8, .i .i64)]) fr) (LOOP (spec_l05DrawnBow.B6 Post) (spec_l05DrawnBow.g6 fr) h)
def spec_l05DrawnBow.S (s_0 : Addr) (Post : Value → Heap → Prop) (h : Heap) : Prop :=
    ALC ⟨Z_impl_Bow⟩ T_impl_Bow (fun g1 h2 =>
    CALL prg f_p_spec_l00Src_pick #[.pointer (some s_0), .int .i64 (9 : Int)] (fun q3 h4 =>
    asI .i64 q3 fun n5 =>
    FOP .f32 (FloatKind.f32.format.div (FloatKind.f32.nearest n5) 1090519040) fun r6 =>
    CALL prg f_p_spec_l00Src_pick #[.pointer (some s_0), .int .i64 (8 : Int)] (fun q7 h8 =>
    asI .i64 q7 fun n9 =>
    FOP .f32 (FloatKind.f32.format.div (FloatKind.f32.nearest n9) 1090519040) fun r10 =>
    CALL prg f_p_spec_l00Src_pick #[.pointer (some s_0), .int .i64 (17 : Int)] (fun q11 h12 =>
    asI .i64 q11 fun n13 =>
    FOP .f32 (FloatKind.f32.format.div (FloatKind.f32.nearest n13) 1098907648) fun r14 =>
    CALL prg f_p_spec_l00Src_pick #[.pointer (some s_0), .int .i64 (8 : Int)] (fun q15 h16 =>
    asI .i64 q15 fun n17 =>
    CALL prg f_p_spec_l00Src_pick #[.pointer (some s_0), .int .i64 (33 : Int)] (fun q18 h19 =>
    asI .i64 q18 fun n20 =>
    FOP .f32 (FloatKind.f32.format.div (FloatKind.f32.nearest n20) 1090519040) fun r21 =>
    CALL prg f_spec_NewBow #[.int .i64 ((IntKind.i64.wrap ((2 : Int) + n17))), .float .f32 r6, .float .f32 r10, .float .f32 r14, .float .f32 r21] (fun q22 h23 =>
    TUP2 q22 fun q24 q25 =>
    asA q24 fun a26 =>
    asI .i64 q25 fun n27 =>
    ALC ⟨Z_impl_Bow⟩ T_impl_Bow (fun g28 h29 =>
    STA 12 h29 ⟨g28, 0, none⟩ a26 fun h30 =>
    CALL prg f_p_spec_l00Src_pick #[.pointer (some s_0), .int .i64 (12 : Int)] (fun q31 h32 =>
    asI .i64 q31 fun n33 =>
    LOOP (spec_l05DrawnBow.B6 Post) (s_0, ⟨g1, 0, none⟩, ⟨g28, 0, none⟩, n33) h32) h30) h23) h19) h16) h12) h8) h4) h2) h
noncomputable def spec_l05DrawnBow.code : Code := (Tryz.f60.body).getD .skip
theorem spec_l05DrawnBow.call {s_0 : Addr} {Post : Value → Heap → Prop} {h : Heap} (H : spec_l05DrawnBow.S s_0 Post h) : CALL prg f_spec_l05DrawnBow #[.pointer (some s_0)] Post h :=
  fn_call tau_ok mixed (c := spec_l05DrawnBow.code) (Λ := lookL [(1000006, spec_l05DrawnBow.l6 Post)]) Tryz.func60 (by kernel_rfl) (by kernel_rfl)
    (Rq.seq (by kernel_rfl) (Rq.free (by kernel_rfl)) (Rq.seq (by kernel_rfl) (Rq.free (by kernel_rfl)) (Rq.seq (by kernel_rfl) (Rq.free (by kernel_rfl)) (Rq.seq (by kernel_rfl) (Rq.free (by kernel_rfl)) (Rq.seq (by kernel_rfl) (Rq.free (by kernel_rfl)) (Rq.seq (by kernel_rfl) (Rq.seq (by kernel_rfl) (Rq.free (by kernel_rfl)) (Rq.block (Rq.loop (spec_l05DrawnBow.l6 Post) (by kernel_rfl) (segL (g := spec_l05DrawnBow.g6) tau_ok mixed (Λ := fun N6 => lookL []) (fun _ _ _ => by kernel_rfl) (fun N6 => (Rq.free (by kernel_rfl))))))) (Rq.free (by kernel_rfl))))))))
    (Eq.mp (by kernel_rfl) H)

def spec_P6Bow.S (code_0b : Option Addr) (code_0l code_0c : Nat) (Post : Value → Heap → Prop) (h : Heap) : Prop :=
    ALC ⟨Z_impl_Bow⟩ T_impl_Bow (fun g1 h2 =>
    CALL prg f_spec_l00From #[.slice code_0b code_0l code_0c] (fun q3 h4 =>
    asP q3 fun p5 =>
    CALL prg f_spec_l05DrawnBow #[.pointer (some p5)] (fun q6 h7 =>
    asA q6 fun a8 =>
    STA 12 h7 ⟨g1, 0, none⟩ a8 fun h9 =>
    LDA 12 h9 ⟨g1, 0, none⟩ fun a10 =>
    Post (.agg a10) h9) h4) h2) h
noncomputable def spec_P6Bow.code : Code := (Tryz.f21.body).getD .skip
theorem spec_P6Bow.call {code_0b : Option Addr} {code_0l code_0c : Nat} {Post : Value → Heap → Prop} {h : Heap} (H : spec_P6Bow.S code_0b code_0l code_0c Post h) : CALL prg f_spec_P6Bow #[.slice code_0b code_0l code_0c] Post h :=
  fn_call tau_ok mixed (c := spec_P6Bow.code) (Λ := lookL []) Tryz.func21 (by kernel_rfl) (by kernel_rfl)
    (Rq.free (by kernel_rfl))
    (Eq.mp (by kernel_rfl) H)

def impl_PlayBow.B8 (Post : Value → Heap → Prop) (N8 : (Addr × Addr × Option Addr × Nat × Nat × Option Addr × Nat × Nat × Int × Int) → Heap → Prop) : Addr × Addr × Option Addr × Nat × Nat × Option Addr × Nat × Nat × Int × Int → Heap → Prop
  | (x_2, t4, out_7b, out_7l, out_7c, t22b, t22l, t22c, t23, t24), h =>
    BIF (decide (t24 < t23)) (
    IDXS t22b t24 t22l fun p22 =>
    oF .f32 (cell h ((Addr.add p22 ((Int.toNat t24) * 1)))) fun r23 =>
    CALL prg f_p_impl_Bow_step #[.pointer (some x_2), .float .f32 r23] (fun q24 h25 =>
    asF .f32 q24 fun r26 =>
    ALC ⟨[.float .f32 r26]⟩ T_float32 (fun g27 h28 =>
    SEMV prg (Builtin.append_ #[T_sl_float32, T_sl_float32] T_sl_float32 #[.slice out_7b out_7l out_7c, .slice (some ⟨g27, 0, none⟩) 1 1]) (fun q29 h30 =>
    asL q29 fun l31b l31l l31c =>
    N8 (x_2, t4, l31b, l31l, l31c, t22b, t22l, t22c, t23, ((IntKind.i64.wrap (t24 + (1 : Int))))) h30) h28) h25) h) (
    LDA 12 h x_2 fun a32 =>
    STA 12 h t4 a32 fun h33 =>
    LDA 12 h33 t4 fun a34 =>
    Post (.tuple ⟨[.agg a34, .slice out_7b out_7l out_7c, .int .i64 (0 : Int)]⟩) h33)
def impl_PlayBow.g8 (fr : Frame) : Addr × Addr × Option Addr × Nat × Nat × Option Addr × Nat × Nat × Int × Int := ((gP (lget fr 2)), (gP (lget fr 4)), (gLb (lget fr 7)), (gLl (lget fr 7)), (gLc (lget fr 7)), (gLb (lget fr 22)), (gLl (lget fr 22)), (gLc (lget fr 22)), (gI (lget fr 23)), (gI (lget fr 24)))
def impl_PlayBow.l8 (Post : Value → Heap → Prop) : Frame → Heap → Prop := fun fr h => GRD (shape (kds 36 [(2, .p), (4, .p), (7, .l), (22, .l), (23, .i .i64), (24, .i .i64)]) fr) (LOOP (impl_PlayBow.B8 Post) (impl_PlayBow.g8 fr) h)
def impl_PlayBow.S (x_0 : Array Value) (speeds_1b : Option Addr) (speeds_1l speeds_1c : Nat) (Post : Value → Heap → Prop) (h : Heap) : Prop :=
    ALC x_0 T_impl_Bow (fun g1 h2 =>
    ALC ⟨Z_impl_Bow⟩ T_impl_Bow (fun g3 h4 =>
    LDA 12 h4 ⟨g1, 0, none⟩ fun a5 =>
    CALL prg f_impl_ValidBow #[.agg a5] (fun q6 h7 =>
    asB q6 fun b8 =>
    BIF (!b8) (
    STA 12 h7 ⟨g3, 0, none⟩ (⟨[.slice none 0 0, .int .i64 (0 : Int), .slice none 0 0, .int .i64 (0 : Int), .int .i64 (0 : Int), .float .f32 0, .float .f32 0, .float .f32 0, .float .f32 0, .float .f32 0, .float .f32 0, .float .f32 0]⟩ : Array Value) fun h9 =>
    LDA 12 h9 ⟨g3, 0, none⟩ fun a10 =>
    Post (.tuple ⟨[.agg a10, .slice none 0 0, .int .i64 (1 : Int)]⟩) h9) (
    BIF ((decide ((4096 : Int) < (speeds_1l : Int)))) (
    STA 12 h7 ⟨g3, 0, none⟩ (⟨[.slice none 0 0, .int .i64 (0 : Int), .slice none 0 0, .int .i64 (0 : Int), .int .i64 (0 : Int), .float .f32 0, .float .f32 0, .float .f32 0, .float .f32 0, .float .f32 0, .float .f32 0, .float .f32 0]⟩ : Array Value) fun h13 =>
    LDA 12 h13 ⟨g3, 0, none⟩ fun a14 =>
    Post (.tuple ⟨[.agg a14, .slice none 0 0, .int .i64 (3 : Int)]⟩) h13) (
    LDA 12 h7 ⟨g1, 0, none⟩ fun a15 =>
    CALL prg f_impl_Bow_clone #[.agg a15] (fun q16 h17 =>
    asA q16 fun a18 =>
    STA 12 h17 ⟨g1, 0, none⟩ a18 fun h19 =>
    LOOP (impl_PlayBow.B8 Post) (⟨g1, 0, none⟩, ⟨g3, 0, none⟩, none, 0, 0, speeds_1b, speeds_1l, speeds_1c, (speeds_1l : Int), (0 : Int)) h19) h7))) h4) h2) h
noncomputable def impl_PlayBow.code : Code := (Tryz.f22.body).getD .skip
theorem impl_PlayBow.call {x_0 : Array Value} {speeds_1b : Option Addr} {speeds_1l speeds_1c : Nat} {Post : Value → Heap → Prop} {h : Heap} (H : impl_PlayBow.S x_0 speeds_1b speeds_1l speeds_1c Post h) : CALL prg f_impl_PlayBow #[.agg x_0, .slice speeds_1b speeds_1l speeds_1c] Post h :=
  fn_call tau_ok mixed (c := impl_PlayBow.code) (Λ := lookL [(1000008, impl_PlayBow.l8 Post)]) Tryz.func22 (by kernel_rfl) (by kernel_rfl)
    (Rq.seq (by kernel_rfl) (Rq.free (by kernel_rfl)) (Rq.seq (by kernel_rfl) (Rq.free (by kernel_rfl)) (Rq.seq (by kernel_rfl) (Rq.free (by kernel_rfl)) (Rq.seq (by kernel_rfl) (Rq.free (by kernel_rfl)) (Rq.seq (by kernel_rfl) (Rq.seq (by kernel_rfl) (Rq.free (by kernel_rfl)) (Rq.block (Rq.loop (impl_PlayBow.l8 Post) (by kernel_rfl) (segL (g := impl_PlayBow.g8) tau_ok mixed (Λ := fun N8 => lookL []) (fun _ _ _ => by kernel_rfl) (fun N8 => (Rq.free (by kernel_rfl))))))) (Rq.free (by kernel_rfl)))))))
    (Eq.mp (by kernel_rfl) H)

def impl_IsSilentBow.S (x_0 : Array Value) (Post : Value → Heap → Prop) (h : Heap) : Prop :=
    ALC x_0 T_impl_Bow (fun g1 h2 =>
    LDA 12 h2 ⟨g1, 0, none⟩ fun a3 =>
    CALL prg f_impl_ValidBow #[.agg a3] (fun q4 h5 =>
    asB q4 fun b6 =>
    BIF (!b6) (
    Post (.tuple ⟨[.bool false, .int .i64 (1 : Int)]⟩) h5) (
    LDA 2 h5 ⟨g1, 0, none⟩ fun a7 =>
    CALL prg f_impl_Ring_isQuiet #[.agg a7] (fun q8 h9 =>
    asB q8 fun b10 =>
    BIF b10 (
    LDA 2 h9 ⟨g1, 2, none⟩ fun a11 =>
    CALL prg f_impl_Ring_isQuiet #[.agg a11] (fun q12 h13 =>
    asB q12 fun b14 =>
    BIF b14 (
    LDA 6 h13 ⟨g1, 4, none⟩ fun a15 =>
    CALL prg f_impl_Filter_isStill #[.agg a15] (fun q16 h17 =>
    asB q16 fun b18 =>
    Post (.tuple ⟨[.bool b18, .int .i64 (0 : Int)]⟩) h17) h13) (
    Post (.tuple ⟨[.bool false, .int .i64 (0 : Int)]⟩) h13)) h9) (
    Post (.tuple ⟨[.bool false, .int .i64 (0 : Int)]⟩) h9)) h5)) h2) h
noncomputable def impl_IsSilentBow.code : Code := (Tryz.f30.body).getD .skip
theorem impl_IsSilentBow.call {x_0 : Array Value} {Post : Value → Heap → Prop} {h : Heap} (H : impl_IsSilentBow.S x_0 Post h) : CALL prg f_impl_IsSilentBow #[.agg x_0] Post h :=
  fn_call tau_ok mixed (c := impl_IsSilentBow.code) (Λ := lookL []) Tryz.func30 (by kernel_rfl) (by kernel_rfl)
    (Rq.free (by kernel_rfl))
    (Eq.mp (by kernel_rfl) H)

end Go.Sx
/- Drawn bows are valid. -/
set_option linter.unusedVariables false
set_option linter.unusedSimpArgs false
namespace Go.Sx
open Go.Proofs Ieee
set_option maxRecDepth 100000
set_option maxHeartbeats 2000000

/-- What a drawn thing is. -/
def Drawn {α : Type} (r : Rep α) (ok : α → Bool) (h0 h' : Heap) (L : List Blk) (u : Value) : Prop := ∃ cs B x, u = .agg cs ∧ r.ow B cs.toList x ∧ ok x = true ∧ Mem h0 h' (B ++ L)
/-- A valid new thing. -/
def NewOk {α : Type} (r : Rep α) (ok : α → Bool) (h h' : Heap) (u : Value) : Prop := ∃ cs B x, u = .tuple ⟨[.agg cs, .int .i64 (0 : Int)]⟩ ∧ r.ow B cs.toList x ∧ ok x = true ∧ Mem h h' B
theorem NewOk.go {α : Type} {r : Rep α} {ok : α → Bool} {P : Program} {f : FuncId} {args : Array Value} {hh : Heap} {Q : Value → Heap → Prop} (c : CALL P f args (fun u h' => NewOk r ok hh h' u) hh) (H : ∀ h' cs B x, r.ow B cs.toList x → ok x = true → Mem hh h' B → Q (.tuple ⟨[.agg cs, .int .i64 (0 : Int)]⟩) h') : CALL P f args Q hh :=
  c.mono fun u h' ⟨cs, B, x, e, O, hx, N⟩ => by subst e; exact H h' cs B x O hx N
section
variable {α : Type} {rp : Rep α} {h0 h h' : Heap} {L W : List Blk} {g T : Nat} {cb : Option Addr} {cc K : Nat} {xs : List Int} {n : Int}
theorem Src.joinG {hh : Heap} {B : List Blk} (S : Src h0 h L g cb xs.length cc K) (N : Mem h hh B) : Src h0 hh (B ++ L) g cb xs.length cc K := by
  obtain ⟨p, st, hp, M⟩ := S
  exact ⟨p, st, hp, (M.join N).cnt fun p => by simp only [cnt_app, cnt_cons, cnt_nil]; omega⟩
/-- A thing in a block, beside the machine. -/
def DG (rp : Rep α) (T : Nat) (h0 h : Heap) (L : List Blk) (g : Nat) (cb : Option Addr) (cl cc K r : Nat) (x : α) : Prop := ∃ cs B, rp.ow B cs.toList x ∧ Src h0 h ((r, T, cs) :: (B ++ L)) g cb cl cc K
theorem DG.pt {r : Nat} {x : α} (D : DG rp T h0 h L g cb xs.length cc K r x) : ∃ (p : Nat) (st : Int), p ≤ K ∧ Pt rp h0 h ⟨r, 0, none⟩ ⟨r, T, [], []⟩ ((g, T_spec_l00Src, ⟨[.slice cb xs.length cc, .int .i64 (p : Int), .int .u64 st]⟩) :: L) x := by
  obtain ⟨cs, B, O, p, st, hp, M⟩ := D
  exact ⟨p, st, hp, Pt.new O (M.cnt fun p => by simp only [cnt_app, cnt_cons, cnt_nil]; omega)⟩
theorem DG.of {r p : Nat} {st : Int} {x : α} (hp : p ≤ K) (P : Pt rp h0 h ⟨r, 0, none⟩ ⟨r, T, [], []⟩ ((g, T_spec_l00Src, ⟨[.slice cb xs.length cc, .int .i64 (p : Int), .int .u64 st]⟩) :: L) x) : DG rp T h0 h L g cb xs.length cc K r x := by
  obtain ⟨cs, B, M, O⟩ := P.out
  exact ⟨cs, B, O, p, st, hp, M.cnt fun p => by simp only [cnt_app, cnt_cons, cnt_nil]; omega⟩
end
theorem keep_in {v : Int} (h0 : 0 ≤ v) (h1 : v < 9) : inside (keepW v) 0 1065353216 = true := by
  have A : (List.range 9).all (fun v => inside (keepW (v : Int)) 0 1065353216) = true := by decide +kernel
  obtain ⟨n, rfl⟩ := Int.eq_ofNat_of_zero_le h0
  exact List.all_eq_true.1 A n (List.mem_range.2 (by omega))
theorem keep_fin {v : Int} (h0 : -17 ≤ v) (h1 : v < 33) : fin (keepW v) = true := by
  have A : (List.range 50).all (fun v => fin (keepW ((v : Int) - 17))) = true := by decide +kernel
  obtain ⟨n, hn⟩ := Int.eq_ofNat_of_zero_le (show 0 ≤ v + 17 by omega)
  have := List.all_eq_true.1 A n (List.mem_range.2 (by omega))
  rwa [show ((n : Nat) : Int) - 17 = v by omega] at this
def lossW (v : Int) : Nat := fdiv .f32 (FloatKind.f32.nearest v) 1098907648
theorem loss_in {v : Int} (h0 : 0 ≤ v) (h1 : v < 17) : (inside (lossW v) 0 1065353216 && fin (lossW v)) = true := by
  have A : (List.range 17).all (fun v => inside (lossW (v : Int)) 0 1065353216 && fin (lossW (v : Int))) = true := by decide +kernel
  obtain ⟨n, rfl⟩ := Int.eq_ofNat_of_zero_le h0
  exact List.all_eq_true.1 A n (List.mem_range.2 (by omega))
def cutW (p v : Int) : Nat := wid (fmul .f32 (keepW v) (FloatKind.f32.nearest p))
def cutN (p v : Int) : Int := ((FloatKind.f64.decode (flr (cutW p v))).toInt .zero).getD (-1)
theorem cut_all {p v : Int} (p0 : 2 ≤ p) (p1 : p < 10) (h0 : 0 ≤ v) (h1 : v < 9) : nan .f64 (cutW p v) = false ∧ 0 ≤ cutN p v ∧ cutN p v < 10 ∧ (FloatKind.f64.decode (flr (cutW p v))).toInt .zero = some (cutN p v) := by
  have A : (List.range 8).all (fun p => (List.range 9).all fun v => !nan .f64 (cutW ((p : Int) + 2) v) && decide (0 ≤ cutN ((p : Int) + 2) v ∧ cutN ((p : Int) + 2) v < 10)) = true := by decide +kernel
  obtain ⟨m, hm⟩ := Int.eq_ofNat_of_zero_le (show 0 ≤ p - 2 by omega)
  obtain ⟨n, rfl⟩ := Int.eq_ofNat_of_zero_le h0
  have := List.all_eq_true.1 (List.all_eq_true.1 A m (List.mem_range.2 (by omega))) n (List.mem_range.2 (by omega))
  rw [show ((m : Nat) : Int) + 2 = p by omega, Bool.and_eq_true, decide_eq_true_eq, Bool.not_eq_true'] at this
  obtain ⟨k1, k2, k3⟩ := this
  refine ⟨k1, k2, k3, ?_⟩
  unfold cutN at *
  revert k2
  cases (FloatKind.f64.decode (flr (cutW p n))).toInt .zero with
  | none => intro k; exact absurd k (by decide)
  | some z => intro _; rfl
def cutM (p v : Int) : Int := if (if p - 1 < cutN p v then p - 1 else cutN p v) < 1 then 1 else (if p - 1 < cutN p v then p - 1 else cutN p v)
def bowAt (p m : Int) (k l s : Nat) : GBow := { Neck := ⟨List.replicate (p - m).toNat 0, 0⟩, Bridge := ⟨List.replicate m.toNat 0, 0⟩, Damp := onePole k, Slope := s, Loss := l }
theorem bowAt_ok {p m : Int} {k l s : Nat} (h1 : 1 ≤ m) (h2 : m ≤ p - 1) (h3 : p ≤ 1024) (hk : place k = true) (hl : fin l = true) (hs : fin s = true) : (bowAt p m k l s).ok = true := by
  have e1 : (bowAt p m k l s).Neck.okf = true := silence_okf (n := p - m) (by simp only [inR, Bool.and_eq_true, decide_eq_true_eq]; omega)
  have e2 : (bowAt p m k l s).Bridge.okf = true := silence_okf (n := m) (by simp only [inR, Bool.and_eq_true, decide_eq_true_eq]; omega)
  have e3 : ((bowAt p m k l s).Damp.ok && (bowAt p m k l s).Damp.Kind == 1) = true := onePole_ok hk
  have e4 : fin (bowAt p m k l s).Slope = true := hs
  have e5 : fin (bowAt p m k l s).Loss = true := hl
  unfold GBow.ok
  rw [e1, e2, e3, e4, e5]; rfl
section
variable {h0 h h' : Heap} {L W : List Blk} {g : Nat} {cb : Option Addr} {cc K : Nat} {xs : List Int} {n : Int} {q : Addr} {x : GBow} {F : Fr}
theorem newBow_c {p v : Int} {w k l s k' l' s' : Nat} (p0 : 2 ≤ p) (p1 : p < 10) (v0 : 0 ≤ v) (v1 : v < 9) (hw : FW .f32 w (keepW v)) (hk : FW .f32 k k') (hl : FW .f32 l l') (hs : FW .f32 s s') (pk : place k' = true) (il : inside l' 0 1065353216 = true) (fl : fin l' = true) (fs : fin s' = true) :
    CALL prg f_spec_NewBow #[.int .i64 p, .float .f32 w, .float .f32 k, .float .f32 l, .float .f32 s] (fun u h' => NewOk rBow GBow.ok h h' u) h := by
  have hp : inR p 2 1024 = true := by simp only [inR, Bool.and_eq_true, decide_eq_true_eq]; omega
  have i8 := keep_in v0 v1
  obtain ⟨c1', c2, c3, c4⟩ := cut_all p0 p1 v0 v1
  refine spec_NewBow.call ((Mem.start h).alc fun g1 h1 x1 M => goM M (l00In_c _ _ _ _) fun h2 M => as_b ?_)
  rw [hp]
  unfold inside fge fle at i8 il
  unfold place at pk
  have pk' := pk
  unfold fge flt at pk'
  rw [Bool.and_eq_true] at i8 il pk'
  rw [ord_eq hw fw0, ord_eq hw c1, i8.1, i8.2, ord_eq hk fw0, ord_eq hk c1, pk'.1, pk'.2, ord_eq hl fw0, ord_eq hl c1, il.1, il.2]
  refine br_f rfl (br_t rfl (br_f rfl (br_t rfl (br_f rfl (br_t rfl (br_f rfl (goM M (l01Finite_c hs _) fun h3 M => as_b ?_)))))))
  rw [fs]
  refine br_f rfl ?_
  unfold spec_NewBow.J3
  refine fM hw (fw_nearest .f32 p) fun r25 k25 => ffc_wide k25 fun r26 k26 => ?_
  have e26 : r26 = cutW p v := FW.eq k26 c1'
  subst e26
  refine goM M (Floor_c c1' _) fun h4 M => as_f (ficI c4 (by omega) (by omega) ?_)
  rw [wrap64 (n := p - 1) (by omega) (by omega)]
  have b1 : 1 ≤ cutM p v := by unfold cutM; repeat' split; all_goals omega
  have b2 : cutM p v ≤ p - 1 := by unfold cutM; repeat' split; all_goals omega
  have hok : (bowAt p (cutM p v) k' l' s').ok = true := bowAt_ok b1 b2 (by omega) pk fl fs
  have fin : ∀ {hh : Heap} {B1 B2 : List Blk} {g1' g2' : Addr} {n1 n2 : Nat} {vd : List Value}, n1 = (p - cutM p v).toNat → n2 = (cutM p v).toNat → Mem h hh ((g1, T_impl_Bow, ⟨Z_impl_Bow⟩) :: (B1 ++ B2)) → SlO T_float32 (rF .f32) B1 (some g1') n1 n1 (List.replicate n1 0) → SlO T_float32 (rF .f32) B2 (some g2') n2 n2 (List.replicate n2 0) → rFilter.ow [] vd (onePole k') →
      STA 12 hh ⟨g1, 0, none⟩ ⟨[.slice (some g1') n1 n1, .int .i64 (0 : Int)] ++ ([.slice (some g2') n2 n2, .int .i64 (0 : Int)] ++ (vd ++ [.float .f32 s, .float .f32 l]))⟩ fun h34 => LDA 12 h34 ⟨g1, 0, none⟩ fun a35 => NewOk rBow GBow.ok h h34 (.tuple ⟨[.agg a35, .int .i64 (0 : Int)]⟩) := fun en1 en2 M O1 O2 hv => by
    subst en1 en2
    have O := bow_ow (x := bowAt p (cutM p v) k' l' s') O1 O2 hv hs hl
    exact M.sta0 .here (rBow.olen O) (rBow.oone O) rfl .here fun h34 M => M.lda0 .here (rBow.olen O) ⟨_, _, _, rfl, O, hok, M.drop⟩
  refine goM M (l00Min_c _ _ _) fun h5 M => as_i (goM M (l00Max_c _ _ _) fun h6 M => as_i ?_)
  have hm : (if (if p - 1 < cutN p v then p - 1 else cutN p v) < 1 then 1 else (if p - 1 < cutN p v then p - 1 else cutN p v)) = cutM p v := rfl
  rw [hm, wrap64 (n := p - cutM p v) (by omega) (by omega)]
  obtain ⟨nb, hnb⟩ : ∃ nb : Nat, (nb : Int) = cutM p v := ⟨(cutM p v).toNat, by omega⟩
  obtain ⟨na, hna⟩ : ∃ na : Nat, (na : Int) = p - cutM p v := ⟨(p - cutM p v).toNat, by omega⟩
  rw [← hna, ← hnb]
  have f1 : na = (p - cutM p v).toNat := by omega
  have f2 : nb = (cutM p v).toNat := by omega
  have C : ∀ {hh : Heap}, CALL prg f_spec_OnePole #[.float .f32 k] (fun u h' => FlR u (onePole k') ∧ Ext hh h') hh := spec_OnePole_c hk
  refine ⟨?_, ?_, ?_⟩
  · refine make_z M (by omega) fun g7 h7 B7 x7 M O7 => ⟨?_, ?_⟩
    · refine make_z M (by omega) fun g8 h8 B8 x8 M O8 => C.mono ?_
      rintro _ h9 ⟨⟨kk, yy, zz, rfl, O9⟩, x9⟩
      exact as_a (siz rfl (siz rfl (siz rfl (fin f1 f2 ((M.grow x9).cnt (fun p => by simp only [cnt_app, cnt_cons, cnt_nil] at *; omega)) O7 O8 O9))))
    · refine C.mono ?_
      rintro _ h9 ⟨⟨kk, yy, zz, rfl, O9⟩, x9⟩
      refine as_a (make_z (M.grow x9) (by omega) fun g8 h8 B8 x8 M O8 => ?_)
      exact siz rfl (siz rfl (siz rfl (fin f1 f2 (M.cnt (fun p => by simp only [cnt_app, cnt_cons, cnt_nil] at *; omega)) O7 O8 O9)))
  · refine make_z M (by omega) fun g8 h8 B8 x8 M O8 => ⟨?_, ?_⟩
    · refine make_z M (by omega) fun g7 h7 B7 x7 M O7 => C.mono ?_
      rintro _ h9 ⟨⟨kk, yy, zz, rfl, O9⟩, x9⟩
      exact as_a (siz rfl (siz rfl (siz rfl (fin f1 f2 ((M.grow x9).cnt (fun p => by simp only [cnt_app, cnt_cons, cnt_nil] at *; omega)) O7 O8 O9))))
    · refine C.mono ?_
      rintro _ h9 ⟨⟨kk, yy, zz, rfl, O9⟩, x9⟩
      refine as_a (make_z (M.grow x9) (by omega) fun g7 h7 B7 x7 M O7 => ?_)
      exact siz rfl (siz rfl (siz rfl (fin f1 f2 (M.cnt (fun p => by simp only [cnt_app, cnt_cons, cnt_nil] at *; omega)) O7 O8 O9)))
  · refine C.mono ?_
    rintro _ h9 ⟨⟨kk, yy, zz, rfl, O9⟩, x9⟩
    have M := M.grow x9
    refine as_a ⟨?_, ?_⟩
    · refine make_z M (by omega) fun g7 h7 B7 x7 M O7 => make_z M (by omega) fun g8 h8 B8 x8 M O8 => ?_
      exact siz rfl (siz rfl (siz rfl (fin f1 f2 (M.cnt (fun p => by simp only [cnt_app, cnt_cons, cnt_nil] at *; omega)) O7 O8 O9)))
    · refine make_z M (by omega) fun g8 h8 B8 x8 M O8 => make_z M (by omega) fun g7 h7 B7 x7 M O7 => ?_
      exact siz rfl (siz rfl (siz rfl (fin f1 f2 (M.cnt (fun p => by simp only [cnt_app, cnt_cons, cnt_nil] at *; omega)) O7 O8 O9)))
theorem l05DrawnBow_c (S : Src h0 h L g cb xs.length cc 0) (C : Cells h0 cb (iv .u8 xs)) (hb : Byt' xs) : CALL prg f_spec_l05DrawnBow #[.pointer (some ⟨g, 0, none⟩)] (fun u h' => Drawn rBow GBow.ok h0 h' L u) h := by
  refine spec_l05DrawnBow.call (S.alc fun t h1 S => (pick_c S C hb (by omega)).mono ?_)
  rintro _ h2 ⟨v, rfl, v1, v2, v3, S⟩
  refine as_i (fD (fw_nearest .f32 v) (fw_c32 (by decide) (by decide)) fun r6 k6 => (pick_c S C hb (by omega)).mono ?_)
  rintro _ h3 ⟨k, rfl, k1, k2, k3, S⟩
  refine as_i (fD (fw_nearest .f32 k) (fw_c32 (by decide) (by decide)) fun r10 k10 => (pick_c S C hb (by omega)).mono ?_)
  rintro _ h4 ⟨l, rfl, l1, l2, l3, S⟩
  refine as_i (fD (fw_nearest .f32 l) (fw_c32 (by decide) (by decide)) fun r14 k14 => (pick_c S C hb (by omega)).mono ?_)
  rintro _ h5 ⟨p, rfl, p1, p2, p3, S⟩
  refine as_i ((pick_c S C hb (by omega)).mono ?_)
  rintro _ h6 ⟨s, rfl, s1, s2, s3, S⟩
  refine as_i (fD (fw_nearest .f32 s) (fw_c32 (by decide) (by decide)) fun r21 k21 => ?_)
  rw [wrap64 (n := 2 + p) (by omega) (by omega)]
  have hl := loss_in l1 (show l < 17 by omega)
  rw [Bool.and_eq_true] at hl
  refine NewOk.go (newBow_c (p := 2 + p) (v := v) (by omega) (by omega) v1 (by omega) k6 k10 k14 k21 (keep_place k1 (by omega)) hl.1 hl.2 (keep_fin (by omega) (by omega))) fun h7 c7 B7 x7 O7 hx N => tup2 (as_a (as_i ((S.joinG N).alc fun r h8 S => ?_)))
  refine S.sta (osz O7 rfl) (rBow.oone O7) rfl fun h9 S => (pick_c S C hb (by omega)).mono ?_
  rintro _ h10 ⟨i, rfl, i1, i2, i3, S⟩
  refine as_i ?_
  refine loop (fun y hh => ∃ (j : Int) (x : GBow), y = (⟨g, 0, none⟩, ⟨t, 0, none⟩, ⟨r, 0, none⟩, j) ∧ 0 ≤ j ∧ j ≤ i ∧ x.ok = true ∧ DG rBow T_impl_Bow h0 hh ((t, T_impl_Bow, ⟨Z_impl_Bow⟩) :: L) g cb xs.length cc (1000 - 2 * j.toNat) r x) (fun y => y.2.2.2.toNat)
    ⟨i, x7, rfl, i1, by omega, hx, c7, B7, O7, S.mono (by omega)⟩ ?_
  rintro y hh ⟨i, x, rfl, hi, hiv, hx, D⟩
  refine brd (fun hc => ?_) fun hc => ?_
  · obtain ⟨cs, B, O, S⟩ := D
    refine (l01Plain_c S C hb (by omega)).mono ?_
    rintro _ h3 ⟨y, u, rfl, u1, u2, hy, S⟩
    obtain ⟨p, st, hp, P⟩ := DG.pt ⟨cs, B, O, S⟩
    refine as_f ((l05StepBow_c P (bow_rings hx).1 (bow_rings hx).2 hy).mono ?_)
    rintro _ h4 ⟨⟨z, rfl, hz⟩, P⟩
    exact as_f ⟨⟨i - 1, _, by rw [wrap64 (n := i - 1) (by omega) (by omega)], by omega, by omega, bow_step_ok hx, DG.of (by omega) P⟩, by rw [wrap64 (n := i - 1) (by omega) (by omega)]; show (i - 1).toNat < i.toNat; omega⟩
  obtain ⟨cs, B, O, S⟩ := D
  have M := S.mem
  refine M.lda0 .here (osz O rfl) ?_
  have M := M.cnt (W := (t, T_impl_Bow, ⟨Z_impl_Bow⟩) :: (B ++ L)) (fun p => by simp only [cnt_app, cnt_cons, cnt_nil] at *; omega)
  exact M.sta0 .here (osz O rfl) (rBow.oone O) rfl .here fun h3 M => M.lda0 .here (osz O rfl) ⟨_, B, x, rfl, O, hx, M.drop⟩
theorem P6Bow_c (M : Mem h0 h L) (C : Cells h0 cb (iv .u8 xs)) (hb : Byt' xs) : CALL prg f_spec_P6Bow #[.slice cb xs.length cc] (fun u h' => Drawn rBow GBow.ok h0 h' L u) h := by
  refine spec_P6Bow.call (M.alc fun g1 h1 x1 M => (l00From_c M).mono ?_)
  rintro _ h2 ⟨g, rfl, S⟩
  refine as_p ((l05DrawnBow_c S C hb).mono ?_)
  rintro _ h3 ⟨cs, B, x, rfl, O, hx, M⟩
  have M := M.cnt (W := (g1, T_impl_Bow, ⟨Z_impl_Bow⟩) :: (B ++ L)) (fun p => by simp only [cnt_app, cnt_cons, cnt_nil] at *; omega)
  exact as_a (M.sta0 .here (osz O rfl) (rBow.oone O) rfl .here fun h4 M => M.lda0 .here (osz O rfl) ⟨cs, B, x, rfl, O, hx, M.drop⟩)
end
end Go.Sx
