/- What the laws have in common: values marked and compared among others. -/
import Derived.Test.YtjoajnmhdobbfaaLh0
import Derived.Test.YtjoajnmhdobbfaaLk23
import Derived.Test.YtjoajnmhdobbfaaLh4
set_option linter.unusedVariables false
set_option linter.unusedSimpArgs false
namespace Go.Sx
open Go.Proofs
set_option maxRecDepth 100000

theorem PairR.go {α : Type} {r : Rep α} {P : Program} {f : FuncId} {args : Array Value} {a : α} {code : Int} {hb h : Heap} {L : List Blk} {K : Value → Heap → Prop} (M : Mem hb h L) (c : CALL P f args (fun u h' => PairR r h h' u a code) h)
    (H : ∀ h' cs B, Mem hb h' (B ++ L) → r.ow B cs.toList a → cs.size = r.sz → K (.tuple ⟨[.agg cs, .int .i64 code]⟩) h') : CALL P f args K h :=
  c.mono fun u h' ⟨cs, B, e, O, N⟩ => by subst e; exact H h' cs B (M.join N) O (by simpa using r.olen O)
end Go.Sx
/- The law FnExactSamePlayer, as the program tells it. -/
set_option linter.unusedVariables false
set_option linter.unusedSimpArgs false
namespace Go.Sx
open Go.Proofs
set_option maxRecDepth 100000
set_option maxHeartbeats 1000000

section
variable {h : Heap} {x y : GPlayer}
theorem FnExactSamePlayer_c {ca cb : Array Value} (Ra : rPlayer.rd h ca.toList x) (Rb : rPlayer.rd h cb.toList y) : CALL prg f_laws_FnExactSamePlayer #[.agg ca, .agg cb] (fun u h' => u = .bool true ∧ Ext h h') h := by
  refine laws_FnExactSamePlayer.call ((Mem.start h).alc fun g1 h1 x1 M => M.alc fun g3 h2 x2 M => M.lda0 (.there .here) (rsz Ra rfl) (goM M (sz_Player_c (rPlayer.ext M.ext Ra) 1048576 (by omega) : CALL prg f_laws_szPlayer #[.agg ca, .int .i64 (1048576 : Int)] _ _) fun h3 M => as_i (sz_bif (fun hc => ⟨rfl, M.ext⟩) fun hw => ?_)))
  rw [subW_pos hw]
  refine M.lda0 .here (rsz Rb rfl) (goM M (sz_Player_c (rPlayer.ext M.ext Rb) _ (by omega)) fun h4 M => as_i (sz_bif (fun hc => ⟨rfl, M.ext⟩) fun hw2 => ?_))
  have hw2' : w_Player y ≤ 1048576 := by omega
  have eqp : ∀ {hh : Heap} {W B1 B2 : List Blk} {c1 c2 : Array Value} {z : GPlayer}, Mem h hh W → rPlayer.ow B1 c1.toList z → (∀ p, Sx.cnt p B1 ≤ Sx.cnt p W) → rPlayer.ow B2 c2.toList z → (∀ p, Sx.cnt p B2 ≤ Sx.cnt p W) → CALL prg f_laws_eqPlayer #[.agg c1, .agg c2] (fun u h' => u = .bool true ∧ Ext hh h') hh :=
    fun M O1 k1 O2 k2 => eq_Player_c (rPlayer.look O1 (M.cnt k1) (List.Sublist.refl _)) (rPlayer.look O2 (M.cnt k2) (List.Sublist.refl _))
  have rd : ∀ {hh : Heap} {W B : List Blk} {c : Array Value} {z : GPlayer}, Mem h hh W → rPlayer.ow B c.toList z → (∀ p, Sx.cnt p B ≤ Sx.cnt p W) → rPlayer.rd hh c.toList z := fun M O k => rPlayer.look O (M.cnt k) (List.Sublist.refl _)
  refine M.lda0 (.there .here) (rsz Ra rfl) (M.lda0 .here (rsz Rb rfl) ?_)
  have P3 : RdP rPlayer h4 ⟨g3, 0, none⟩ y := M.rdp .here (rPlayer.ext M.ext Rb)
  refine (NewR.go (Mem.start h4) (to_Player_c (rPlayer.ext M.ext Ra) hw) fun h5 c5 B5 N O5 s5 => as_a (P3.pin rfl N.ext ?_))
  have M := M.join N
  refine NewR.go M (to_Player_c (rPlayer.ext M.ext Rb) hw2') fun h6 c6 B6 M O6 s6 => as_a (goM M (spec_SamePlayer_c (rd M O5 (fun p => by simp only [cnt_app, cnt_cons, cnt_nil] at *; omega)) (rd M O6 (fun p => by simp only [cnt_app, cnt_cons, cnt_nil] at *; omega))) fun h7 M => as_b ?_)
  have M : Mem h h7 [(g3, T_laws_Player, cb), (g1, T_laws_Player, ca)] := M.cnt (fun p => by simp only [cnt_app, cnt_cons, cnt_nil] at *; omega)
  clear O5 O6 N P3
  refine M.lda0 (.there .here) (rsz Ra rfl) (NewR.go M (to_Player_c (rPlayer.ext M.ext Ra) hw) fun h8 cx Bx M Ox sx => as_a (M.alc fun gx h9 x9 M => M.sta0 .here sx (rPlayer.oone Ox) rfl .here fun h10 M => ?_))
  refine M.lda0 (.there (Look.skip .here)) (rsz Rb rfl) (NewR.go M (to_Player_c (rPlayer.ext M.ext Rb) hw2') fun h11 cy By M Oy sy => as_a (M.alc fun gy h12 x12 M => M.sta0 .here sy (rPlayer.oone Oy) rfl .here fun h13 M => ?_))
  have M : Mem h h13 ((g3, T_laws_Player, cb) :: (g1, T_laws_Player, ca) :: (gx, T_impl_Player, cx) :: (gy, T_impl_Player, cy) :: (Bx ++ (By ++ []))) := M.cnt (fun p => by simp only [List.append_eq, cnt_app, cnt_cons, cnt_nil] at *; omega)
  refine M.lda0 (.there (.there .here)) sx (M.lda0 (.there (.there (.there .here))) sy (goM M (SamePlayer_c (rd M Ox (fun p => by simp only [cnt_app, cnt_cons, cnt_nil] at *; omega)) (rd M Oy (fun p => by simp only [cnt_app, cnt_cons, cnt_nil] at *; omega))) fun h14 M => as_b (br_f (by simp) ?_)))
  have R7 : rPlayer.rd h14 cx.toList x := rd M Ox (fun p => by simp only [cnt_app, cnt_cons, cnt_nil] at *; omega)
  have P7 : RdP rPlayer h14 ⟨gx, 0, none⟩ x := M.rdp (.there (.there .here)) R7
  refine M.lda0 (.there (.there .here)) sx (M.lda0 (.there .here) (rsz Ra rfl) (NewR.go (Mem.start h14) (to_Player_c (rPlayer.ext M.ext Ra) hw) fun h15 c15 B15 N O15 s15 => as_a (P7.pin rfl N.ext ?_)))
  have M := M.join N
  refine goM M (eqp M Ox (fun p => by simp only [cnt_app, cnt_cons, cnt_nil] at *; omega) O15 (fun p => by simp only [cnt_app, cnt_cons, cnt_nil] at *; omega)) fun h16 M => as_b (br_f rfl ?_)
  have M : Mem h h16 ((g3, T_laws_Player, cb) :: (g1, T_laws_Player, ca) :: (gx, T_impl_Player, cx) :: (gy, T_impl_Player, cy) :: (Bx ++ (By ++ []))) := M.cnt (fun p => by simp only [List.append_eq, cnt_app, cnt_cons, cnt_nil] at *; omega)
  clear N O15
  have R8 : rPlayer.rd h16 cy.toList y := rd M Oy (fun p => by simp only [cnt_app, cnt_cons, cnt_nil] at *; omega)
  have P8 : RdP rPlayer h16 ⟨gy, 0, none⟩ y := M.rdp (.there (.there (.there .here))) R8
  refine M.lda0 (.there (.there (.there .here))) sy (M.lda0 .here (rsz Rb rfl) (NewR.go (Mem.start h16) (to_Player_c (rPlayer.ext M.ext Rb) hw2') fun h17 c17 B17 N O17 s17 => as_a (P8.pin rfl N.ext ?_)))
  have M := M.join N
  exact goM M (eqp M Oy (fun p => by simp only [cnt_app, cnt_cons, cnt_nil] at *; omega) O17 (fun p => by simp only [cnt_app, cnt_cons, cnt_nil] at *; omega)) fun h18 M => as_b (br_f rfl ⟨rfl, M.ext⟩)
end
end Go.Sx
