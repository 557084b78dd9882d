/- The law FnExactBlockOfPipe, as the program tells it. -/
import Derived.Test.YtjoajnmhdobbfaaLw11
set_option linter.unusedVariables false
set_option linter.unusedSimpArgs false
namespace Go.Sx
open Go.Proofs
set_option maxRecDepth 100000
set_option maxHeartbeats 4000000

section
variable {h : Heap} {x y : GPipe} {xs ys : List Nat} {code : Int}
theorem prdC {h0 hh : Heap} {W B : List Blk} {c : Array Value} {y : GPipe} (M : Mem h0 hh W) (hc : ∀ p, Sx.cnt p B ≤ Sx.cnt p W) (O : rPipe.ow B c.toList y) : rPipe.rd hh c.toList y := rPipe.look O (M.cnt hc) (List.Sublist.refl _)
theorem prdD {h0 hh : Heap} {W B : List Blk} {c : Array Value} {y : GPipe} (M : Mem h0 hh W) (O : rPipe.ow B c.toList y) (hc : ∀ p, Sx.cnt p B ≤ Sx.cnt p W) : rPipe.rd hh c.toList y := rPipe.look O (M.cnt hc) (List.Sublist.refl _)
abbrev TT (h : Heap) : Value → Heap → Prop := fun u h' => u = .bool true ∧ Ext h h'
theorem NewR.blk {cb : Array Value} (Rb : FA 16 cb xs) (hh : Heap) : CALL prg f_laws_toBlock #[.agg cb] (fun u h' => NewR (rArr 16 (rF .f32)) hh h' u xs) hh := to_Block_c (Rb.rd hh)
theorem pk27 {hh : Heap} {gg : Nat} {cg : Array Value} {Bg L : List Blk} (hwy : w_Pipe y ≤ 1048576) (Og : rPipe.ow Bg cg.toList (mk_Pipe y 1)) (M : Mem h hh ((gg, T_impl_Pipe, cg) :: (Bg ++ L))) :
    laws_FnExactBlockOfPipe.J27 (TT h) ⟨gg, 0, none⟩ ((1 + n_Pipe y : Nat) : Int) hh := by
  have hn := nw_Pipe y
  exact M.lda0 .here (osz Og rfl) (goM M (held_Pipe_c 1 (prdC M (fun p => by simp only [cnt_app, cnt_cons, cnt_nil] at *; omega) Og) hwy (by omega) : CALL prg f_laws_heldPipe #[.agg cg, .int .i64 (1 : Int)] _ _) fun h25 M => as_i (ge_br (by omega) (eqB ⟨rfl, M.ext⟩)))
theorem pk25 {hh : Heap} {gw gwb gg gh ghb : Nat} {cw bw cg ch bh : Array Value} {Bw Bg Bh L : List Blk} (hwy : w_Pipe y ≤ 1048576) (Ow : rPipe.ow Bw cw.toList y) (Fw : FA 16 bw ys) (Og : rPipe.ow Bg cg.toList (mk_Pipe y 1)) (Oh : rPipe.ow Bh ch.toList y) (Fh : FA 16 bh ys)
    (M : Mem h hh ((gw, T_impl_Pipe, cw) :: (gwb, T_impl_Block, bw) :: (gg, T_impl_Pipe, cg) :: (gh, T_impl_Pipe, ch) :: (ghb, T_impl_Block, bh) :: (Bw ++ (Bg ++ (Bh ++ L))))) :
    laws_FnExactBlockOfPipe.J25 (TT h) ⟨gw, 0, none⟩ ⟨gwb, 0, none⟩ code ⟨gg, 0, none⟩ ((1 + n_Pipe y : Nat) : Int) ⟨gh, 0, none⟩ ⟨ghb, 0, none⟩ code hh := by
  refine M.lda0 (.there (.there (.there .here))) (osz Oh rfl) (M.lda0 .here (osz Ow rfl) (goM M (eq_Pipe_c (prdC M (fun p => by simp only [cnt_app, cnt_cons, cnt_nil] at *; omega) Oh) (prdC M (fun p => by simp only [cnt_app, cnt_cons, cnt_nil] at *; omega) Ow)) fun h1 M => as_b (bne_br rfl ?_)))
  refine M.lda0 (.there (.there (.there (.there .here)))) Fh.size (M.lda0 (.there .here) Fw.size (goM M (eq_Block_c (Fh.rd _) (Fw.rd _)) fun h2 M => as_b (bne_br rfl (eqB ?_))))
  exact pk27 hwy Og (M.cnt (W := (gg, T_impl_Pipe, cg) :: (Bg ++ [])) fun p => by simp only [cnt_app, cnt_cons, cnt_nil] at *; omega)
theorem pk16 {hh : Heap} {g1 g3 gw gwb gg : Nat} {cs cb cw bw cg : Array Value} {Bw Bg L : List Blk} (R0 : rPipe.rd h cs.toList x) (Rb : FA 16 cb xs) (hw : w_Pipe x ≤ 1048576) (hwy : w_Pipe (x.blocked xs).1 ≤ 1048576)
    (Ow : rPipe.ow Bw cw.toList (x.blocked xs).1) (Fw : FA 16 bw (x.blocked xs).2.1) (Og : rPipe.ow Bg cg.toList (x.blocked xs).1)
    (M : Mem h hh (Bg ++ ((g1, T_laws_Pipe, cs) :: (g3, T_16_float32, cb) :: (gw, T_impl_Pipe, cw) :: (gwb, T_impl_Block, bw) :: (gg, T_impl_Pipe, cg) :: (Bw ++ L)))) :
    laws_FnExactBlockOfPipe.J16 (TT h) ⟨g1, 0, none⟩ ⟨g3, 0, none⟩ ⟨gw, 0, none⟩ ⟨gwb, 0, none⟩ (x.blocked xs).2.2 ⟨gg, 0, none⟩ hh := by
  have hn := nw_Pipe (x.blocked xs).1
  refine M.lda0 (Look.skip (.there (.there (.there (.there .here))))) (osz Og rfl) (markM (mark_Pipe_c Og M 1 hwy (by omega) : CALL prg f_laws_markPipe #[.agg cg, .int .i64 (1 : Int)] _ _) fun h18 B18 M O18 => as_i ?_)
  refine M.lda0 (Look.skip (.there (.there (.there (.there .here))))) (osz Og rfl) (goM M (held_Pipe_c 1 (rPipe.look O18 M (List.sublist_append_left _ _)) hwy (by omega) : CALL prg f_laws_heldPipe #[.agg cg, .int .i64 (1 : Int)] _ _) fun h7 M => as_i (ge_br (by omega) (eqB ?_)))
  refine M.lda0 (Look.skip .here) (rsz R0 rfl) (M.lda0 (Look.skip (.there .here)) Rb.size ?_)
  have P1 : RdP rPipe h7 ⟨g1, 0, none⟩ x := M.rdp (Look.skip .here) (rPipe.ext M.ext R0)
  have P3 : RdP (rArr 16 (rF .f32)) h7 ⟨g3, 0, none⟩ xs := M.rdp (Look.skip (.there .here)) (Rb.rd _)
  have R1 := rPipe.ext M.ext R0
  have M0 := M
  have fin : ∀ {hh : Heap} {gR gB : Nat} {c4 b4 : Array Value} {B4 W : List Blk}, Mem h7 hh W → rPipe.ow B4 c4.toList (x.blocked xs).1 → FA 16 b4 (x.blocked xs).2.1 → (∀ p, Sx.cnt p ((gR, T_impl_Pipe, ⟨Z_impl_Pipe⟩) :: (gB, T_impl_Block, ⟨Z_impl_Block⟩) :: B4) ≤ Sx.cnt p W) →
      STA 13 hh ⟨gR, 0, none⟩ c4 fun h5 => STA 16 h5 ⟨gB, 0, none⟩ b4 fun h6 => laws_FnExactBlockOfPipe.J25 (TT h) ⟨gw, 0, none⟩ ⟨gwb, 0, none⟩ (x.blocked xs).2.2 ⟨gg, 0, none⟩ ((1 + n_Pipe (x.blocked xs).1 : Nat) : Int) ⟨gR, 0, none⟩ ⟨gB, 0, none⟩ (x.blocked xs).2.2 h6 := by
    intro hh gR gB c4 b4 B4 W N O F hc
    have M := (M0.join (N.cnt hc))
    refine M.sta0 .here (osz O rfl) (rPipe.oone O) rfl .here fun h5 M => M.sta0 (.there .here) F.size F.one rfl (.there .here) fun h6 M => ?_
    exact pk25 (L := []) hwy Ow Fw O18 O F (M.cnt fun p => by simp only [List.append_eq, cnt_app, cnt_cons, cnt_nil] at *; omega)
  have N0 := Mem.start h7
  clear M M0
  (repeat' (first
    | refine P3.pin rfl (Mem.ext (by assumption)) ?_
    | refine P1.pin rfl (Mem.ext (by assumption)) ?_
    | refine NewR.go (by assumption) (to_Pipe_c (rPipe.ext (Mem.ext (by assumption)) R1) hw) fun _ _ _ _ _ _ => as_a ?_
    | refine NewR.go (by assumption) (NewR.blk Rb _) fun _ _ _ _ _ _ => as_a ?_
    | refine TriP.go (by assumption) (impl_BlockOfPipe_c (x := x) (xs := xs) (prdD (by assumption) (by assumption) (fun p => by simp only [cnt_app, cnt_cons, cnt_nil] at *; omega)) (FA.ofow (by assumption))) fun _ _ _ _ _ _ _ _ => tup3 (as_a (as_a (as_i ?_)))
    | refine Mem.alc (by assumption) fun _ _ _ _ => ?_
    | exact fin (by assumption) (by assumption) (by assumption) (fun p => by simp only [cnt_app, cnt_cons, cnt_nil] at *; omega)
    | refine And.intro ?_ ?_))
end
end Go.Sx
