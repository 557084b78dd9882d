/- The law FnExactBlockOfRoom, as the program tells it. -/
import Derived.Test.YtdhhfilfcpljoaaGreatLw8
set_option linter.unusedVariables false
set_option linter.unusedSimpArgs false
namespace Go.Sx
open Go.Proofs
set_option maxRecDepth 100000
set_option maxHeartbeats 4000000

theorem play_taps' (x : GRoom) : ∀ xs : List Nat, (x.play xs).1.Taps = x.Taps
  | [] => rfl
  | a :: xs => by simp only [GRoom.play]; rw [play_taps']; rfl
section
variable {h : Heap} {x y : GRoom} {xs ys : List Nat} {code : Int}
theorem rdC {h0 hh : Heap} {W B : List Blk} {c : Array Value} {y : GRoom} (M : Mem h0 hh W) (hc : ∀ p, Sx.cnt p B ≤ Sx.cnt p W) (O : rRoom.ow B c.toList y) : rRoom.rd hh c.toList y := rRoom.look O (M.cnt hc) (List.Sublist.refl _)
theorem ows_rds {k : FloatKind} : ∀ {xs : List Nat} {B : List Blk} {vs : List Value}, ows (rF k) B vs xs → rds (rF k) #[] vs xs
  | [], B, vs, e => e.2
  | a :: xs, B, vs, e => by
    obtain ⟨B1, B2, v1, v2, rfl, rfl, h1, h2⟩ := e
    exact ⟨v1, v2, rfl, h1.2, ows_rds h2⟩
theorem FA.ofow {n : Nat} {B : List Blk} {cs : Array Value} (O : (rArr n (rF .f32)).ow B cs.toList xs) : FA n cs xs := ⟨O.1, ows_rds O.2⟩
theorem rdD {h0 hh : Heap} {W B : List Blk} {c : Array Value} {y : GRoom} (M : Mem h0 hh W) (O : rRoom.ow B c.toList y) (hc : ∀ p, Sx.cnt p B ≤ Sx.cnt p W) : rRoom.rd hh c.toList y := rRoom.look O (M.cnt hc) (List.Sublist.refl _)
abbrev TT (h : Heap) : Value → Heap → Prop := fun u h' => u = .bool true ∧ Ext h h'
theorem NewR.blk {cb : Array Value} (Rb : FA 16 cb xs) (hh : Heap) : CALL prg f_laws_toBlock #[.agg cb] (fun u h' => NewR (rArr 16 (rF .f32)) hh h' u xs) hh := to_Block_c (Rb.rd hh)
theorem bk27 {hh : Heap} {gg : Nat} {cg : Array Value} {Bg L : List Blk} (hwy : w_Room y ≤ 1048576) (Og : rRoom.ow Bg cg.toList (mk_Room y 1)) (M : Mem h hh ((gg, T_impl_Room, cg) :: (Bg ++ L))) :
    laws_FnExactBlockOfRoom.J27 (TT h) ⟨gg, 0, none⟩ ((1 + n_Room y : Nat) : Int) hh := by
  have hn := nw_Room y
  exact M.lda0 .here (osz Og rfl) (goM M (held_Room_c 1 (rdC M (fun p => by simp only [cnt_app, cnt_cons, cnt_nil] at *; omega) Og) hwy (by omega) : CALL prg f_laws_heldRoom #[.agg cg, .int .i64 (1 : Int)] _ _) fun h25 M => as_i (ge_br (by omega) (eqB ⟨rfl, M.ext⟩)))
theorem bk25 {hh : Heap} {gw gwb gg gh ghb : Nat} {cw bw cg ch bh : Array Value} {Bw Bg Bh L : List Blk} (hwy : w_Room y ≤ 1048576) (Ow : rRoom.ow Bw cw.toList y) (Fw : FA 16 bw ys) (Og : rRoom.ow Bg cg.toList (mk_Room y 1)) (Oh : rRoom.ow Bh ch.toList y) (Fh : FA 16 bh ys)
    (M : Mem h hh ((gw, T_impl_Room, cw) :: (gwb, T_impl_Block, bw) :: (gg, T_impl_Room, cg) :: (gh, T_impl_Room, ch) :: (ghb, T_impl_Block, bh) :: (Bw ++ (Bg ++ (Bh ++ L))))) :
    laws_FnExactBlockOfRoom.J25 (TT h) ⟨gw, 0, none⟩ ⟨gwb, 0, none⟩ code ⟨gg, 0, none⟩ ((1 + n_Room y : Nat) : Int) ⟨gh, 0, none⟩ ⟨ghb, 0, none⟩ code hh := by
  refine M.lda0 (.there (.there (.there .here))) (osz Oh rfl) (M.lda0 .here (osz Ow rfl) (goM M (eq_Room_c (rdC M (fun p => by simp only [cnt_app, cnt_cons, cnt_nil] at *; omega) Oh) (rdC M (fun p => by simp only [cnt_app, cnt_cons, cnt_nil] at *; omega) Ow)) fun h1 M => as_b (bne_br rfl ?_)))
  refine M.lda0 (.there (.there (.there (.there .here)))) Fh.size (M.lda0 (.there .here) Fw.size (goM M (eq_Block_c (Fh.rd _) (Fw.rd _)) fun h2 M => as_b (bne_br rfl (eqB ?_))))
  exact bk27 hwy Og (M.cnt (W := (gg, T_impl_Room, cg) :: (Bg ++ [])) fun p => by simp only [cnt_app, cnt_cons, cnt_nil] at *; omega)
theorem bk16 {hh : Heap} {g1 g3 gw gwb gg : Nat} {cs cb cw bw cg : Array Value} {Bw Bg L : List Blk} (R0 : rRoom.rd h cs.toList x) (Rb : FA 16 cb xs) (hw : w_Room x ≤ 1048576) (hwy : w_Room (x.blocked xs).1 ≤ 1048576)
    (Ow : rRoom.ow Bw cw.toList (x.blocked xs).1) (Fw : FA 16 bw (x.blocked xs).2.1) (Og : rRoom.ow Bg cg.toList (x.blocked xs).1)
    (M : Mem h hh (Bg ++ ((g1, T_laws_Room, cs) :: (g3, T_16_float32, cb) :: (gw, T_impl_Room, cw) :: (gwb, T_impl_Block, bw) :: (gg, T_impl_Room, cg) :: (Bw ++ L)))) :
    laws_FnExactBlockOfRoom.J16 (TT h) ⟨g1, 0, none⟩ ⟨g3, 0, none⟩ ⟨gw, 0, none⟩ ⟨gwb, 0, none⟩ (x.blocked xs).2.2 ⟨gg, 0, none⟩ hh := by
  have hn := nw_Room (x.blocked xs).1
  refine M.lda0 (Look.skip (.there (.there (.there (.there .here))))) (osz Og rfl) (markM (mark_Room_c Og M 1 hwy (by omega) : CALL prg f_laws_markRoom #[.agg cg, .int .i64 (1 : Int)] _ _) fun h18 B18 M O18 => as_i ?_)
  refine M.lda0 (Look.skip (.there (.there (.there (.there .here))))) (osz Og rfl) (goM M (held_Room_c 1 (rRoom.look O18 M (List.sublist_append_left _ _)) hwy (by omega) : CALL prg f_laws_heldRoom #[.agg cg, .int .i64 (1 : Int)] _ _) fun h7 M => as_i (ge_br (by omega) (eqB ?_)))
  refine M.lda0 (Look.skip .here) (rsz R0 rfl) (M.lda0 (Look.skip (.there .here)) Rb.size ?_)
  have P1 : RdP rRoom h7 ⟨g1, 0, none⟩ x := M.rdp (Look.skip .here) (rRoom.ext M.ext R0)
  have P3 : RdP (rArr 16 (rF .f32)) h7 ⟨g3, 0, none⟩ xs := M.rdp (Look.skip (.there .here)) (Rb.rd _)
  have R1 := rRoom.ext M.ext R0
  have M0 := M
  have fin : ∀ {hh : Heap} {gR gB : Nat} {c4 b4 : Array Value} {B4 W : List Blk}, Mem h7 hh W → rRoom.ow B4 c4.toList (x.blocked xs).1 → FA 16 b4 (x.blocked xs).2.1 → (∀ p, Sx.cnt p ((gR, T_impl_Room, ⟨Z_impl_Room⟩) :: (gB, T_impl_Block, ⟨Z_impl_Block⟩) :: B4) ≤ Sx.cnt p W) →
      STA 47 hh ⟨gR, 0, none⟩ c4 fun h5 => STA 16 h5 ⟨gB, 0, none⟩ b4 fun h6 => laws_FnExactBlockOfRoom.J25 (TT h) ⟨gw, 0, none⟩ ⟨gwb, 0, none⟩ (x.blocked xs).2.2 ⟨gg, 0, none⟩ ((1 + n_Room (x.blocked xs).1 : Nat) : Int) ⟨gR, 0, none⟩ ⟨gB, 0, none⟩ (x.blocked xs).2.2 h6 := by
    intro hh gR gB c4 b4 B4 W N O F hc
    have M := (M0.join (N.cnt hc))
    refine M.sta0 .here (osz O rfl) (rRoom.oone O) rfl .here fun h5 M => M.sta0 (.there .here) F.size F.one rfl (.there .here) fun h6 M => ?_
    exact bk25 (L := []) hwy Ow Fw O18 O F (M.cnt fun p => by simp only [List.append_eq, cnt_app, cnt_cons, cnt_nil] at *; omega)
  have N0 := Mem.start h7
  clear M M0
  (repeat' (first
    | refine P3.pin rfl (Mem.ext (by assumption)) ?_
    | refine P1.pin rfl (Mem.ext (by assumption)) ?_
    | refine NewR.go (by assumption) (to_Room_c (rRoom.ext (Mem.ext (by assumption)) R1) hw) fun _ _ _ _ _ _ => as_a ?_
    | refine NewR.go (by assumption) (NewR.blk Rb _) fun _ _ _ _ _ _ => as_a ?_
    | refine TriB.go (by assumption) (impl_BlockOfRoom_c (x := x) (xs := xs) (rdD (by assumption) (by assumption) (fun p => by simp only [cnt_app, cnt_cons, cnt_nil] at *; omega)) (FA.ofow (by assumption))) fun _ _ _ _ _ _ _ _ => tup3 (as_a (as_a (as_i ?_)))
    | refine Mem.alc (by assumption) fun _ _ _ _ => ?_
    | exact fin (by assumption) (by assumption) (by assumption) (fun p => by simp only [cnt_app, cnt_cons, cnt_nil] at *; omega)
    | refine And.intro ?_ ?_))
end
end Go.Sx
/- The law FnExactBlockOfRoom, as the program tells it: the whole. -/
set_option linter.unusedVariables false
set_option linter.unusedSimpArgs false
namespace Go.Sx
open Go.Proofs
set_option maxRecDepth 100000
set_option maxHeartbeats 4000000

section
variable {h : Heap} {x y : GRoom} {xs ys : List Nat} {code : Int}
theorem bk8 {hh : Heap} {g1 g3 gw gwb gx gg ggb : Nat} {cs cb cw bw cx cg bg : Array Value} {Bw Bx Bg L : List Blk} (R0 : rRoom.rd h cs.toList x) (Rb : FA 16 cb xs) (hw : w_Room x ≤ 1048576) (hwy : w_Room (x.blocked xs).1 ≤ 1048576)
    (Ow : rRoom.ow Bw cw.toList (x.blocked xs).1) (Fw : FA 16 bw (x.blocked xs).2.1) (Ox : rRoom.ow Bx cx.toList x) (Og : rRoom.ow Bg cg.toList (x.blocked xs).1) (Fg : FA 16 bg (x.blocked xs).2.1)
    (M : Mem h hh ((g1, T_laws_Room, cs) :: (g3, T_16_float32, cb) :: (gw, T_impl_Room, cw) :: (gwb, T_impl_Block, bw) :: (gx, T_impl_Room, cx) :: (gg, T_impl_Room, cg) :: (ggb, T_impl_Block, bg) :: (Bw ++ (Bx ++ (Bg ++ L))))) :
    laws_FnExactBlockOfRoom.J8 (TT h) ⟨g1, 0, none⟩ ⟨g3, 0, none⟩ ⟨gw, 0, none⟩ ⟨gwb, 0, none⟩ (x.blocked xs).2.2 ⟨gx, 0, none⟩ ⟨gg, 0, none⟩ ⟨ggb, 0, none⟩ (x.blocked xs).2.2 hh := by
  have hn := nw_Room x
  refine M.lda0 (.there (.there (.there (.there (.there .here))))) (osz Og rfl) (M.lda0 (.there (.there .here)) (osz Ow rfl) (goM M (eq_Room_c (rdC M (fun p => by simp only [cnt_app, cnt_cons, cnt_nil] at *; omega) Og) (rdC M (fun p => by simp only [cnt_app, cnt_cons, cnt_nil] at *; omega) Ow)) fun h1 M => as_b (bne_br rfl ?_)))
  refine M.lda0 (.there (.there (.there (.there (.there (.there .here)))))) Fg.size (M.lda0 (.there (.there (.there .here))) Fw.size (goM M (eq_Block_c (Fg.rd _) (Fw.rd _)) fun h13 M => as_b (bne_br rfl (eqB ?_))))
  have R7 : rRoom.rd h13 cx.toList x := rdC M (fun p => by simp only [cnt_app, cnt_cons, cnt_nil] at *; omega) Ox
  have P7 : RdP rRoom h13 ⟨gx, 0, none⟩ x := M.rdp (.there (.there (.there (.there .here)))) R7
  refine M.lda0 (.there (.there (.there (.there .here)))) (osz Ox rfl) (M.lda0 .here (rsz R0 rfl) (NewR.go (Mem.start h13) (to_Room_c (rRoom.ext M.ext R0) hw) fun h14 c14 B14 N O14 s14 => as_a (P7.pin rfl N.ext ?_)))
  have M := M.join N
  refine goM M (eq_Room_c (rRoom.ext N.ext R7) (rdC M (fun p => by simp only [cnt_app, cnt_cons, cnt_nil] at *; omega) O14)) fun h15 M => as_b (bne_br rfl ?_)
  have M := M.cnt (W := Bx ++ ((g1, T_laws_Room, cs) :: (g3, T_16_float32, cb) :: (gw, T_impl_Room, cw) :: (gwb, T_impl_Block, bw) :: (gx, T_impl_Room, cx) :: (gg, T_impl_Room, cg) :: (ggb, T_impl_Block, bg) :: (Bw ++ (Bg ++ L)))) (fun p => by simp only [cnt_app, cnt_cons, cnt_nil] at *; omega)
  refine M.lda0 (Look.skip (.there (.there (.there (.there .here))))) (osz Ox rfl) (markM (mark_Room_c Ox M 1 hw (by omega) : CALL prg f_laws_markRoom #[.agg cx, .int .i64 (1 : Int)] _ _) fun h16 B16 M O16 => as_i (ge_br (by omega) ?_))
  refine M.lda0 (Look.skip (.there (.there (.there (.there (.there .here)))))) (osz Og rfl) (M.lda0 (Look.skip (.there (.there .here))) (osz Ow rfl) (goM M (eq_Room_c (rdC M (fun p => by simp only [cnt_app, cnt_cons, cnt_nil] at *; omega) Og) (rdC M (fun p => by simp only [cnt_app, cnt_cons, cnt_nil] at *; omega) Ow)) fun h1 M => as_b (bne_br rfl ?_)))
  refine M.lda0 (Look.skip (.there (.there (.there (.there (.there (.there .here))))))) Fg.size (M.lda0 (Look.skip (.there (.there (.there .here)))) Fw.size (goM M (eq_Block_c (Fg.rd _) (Fw.rd _)) fun h17 M => as_b (bne_br rfl (eqB ?_))))
  exact bk16 (L := []) R0 Rb hw hwy Ow Fw Og (M.cnt fun p => by simp only [cnt_app, cnt_cons, cnt_nil] at *; omega)
theorem bk6 {hh : Heap} {g1 g3 gw gwb : Nat} {cs cb cw bw : Array Value} {Bw L : List Blk} (R0 : rRoom.rd h cs.toList x) (Rb : FA 16 cb xs) (hw : w_Room x ≤ 1048576) (hwy : w_Room (x.blocked xs).1 ≤ 1048576)
    (Ow : rRoom.ow Bw cw.toList (x.blocked xs).1) (Fw : FA 16 bw (x.blocked xs).2.1)
    (M : Mem h hh ((g1, T_laws_Room, cs) :: (g3, T_16_float32, cb) :: (gw, T_impl_Room, cw) :: (gwb, T_impl_Block, bw) :: (Bw ++ L))) :
    laws_FnExactBlockOfRoom.J6 (TT h) ⟨g1, 0, none⟩ ⟨g3, 0, none⟩ ⟨gw, 0, none⟩ ⟨gwb, 0, none⟩ (x.blocked xs).2.2 hh := by
  refine M.lda0 .here (rsz R0 rfl) (NewR.go M (to_Room_c (rRoom.ext M.ext R0) hw) fun h3 c3 B3 M O3 s3 => as_a (M.alc fun gx h5 x5 M => M.sta0 .here s3 (rRoom.oone O3) rfl .here fun h7 M => M.lda0 .here s3 ?_))
  have M : Mem h h7 ((gx, T_impl_Room, c3) :: (B3 ++ ((g1, T_laws_Room, cs) :: (g3, T_16_float32, cb) :: (gw, T_impl_Room, cw) :: (gwb, T_impl_Block, bw) :: (Bw ++ L)))) := M
  refine M.lda0 (.there (Look.skip (.there .here))) Rb.size ?_
  have R1 : rRoom.rd h7 c3.toList x := rdC M (fun p => by simp only [cnt_app, cnt_cons, cnt_nil] at *; omega) O3
  have P1 : RdP rRoom h7 ⟨gx, 0, none⟩ x := M.rdp .here R1
  have P3 : RdP (rArr 16 (rF .f32)) h7 ⟨g3, 0, none⟩ xs := M.rdp (.there (Look.skip (.there .here))) (Rb.rd _)
  have M0 := M
  have fin : ∀ {hh : Heap} {gR gB : Nat} {c4 b4 : Array Value} {B4 W : List Blk}, Mem h7 hh W → rRoom.ow B4 c4.toList (x.blocked xs).1 → FA 16 b4 (x.blocked xs).2.1 → (∀ p, Sx.cnt p ((gR, T_impl_Room, ⟨Z_impl_Room⟩) :: (gB, T_impl_Block, ⟨Z_impl_Block⟩) :: B4) ≤ Sx.cnt p W) →
      STA 47 hh ⟨gR, 0, none⟩ c4 fun h5 => STA 16 h5 ⟨gB, 0, none⟩ b4 fun h6 => laws_FnExactBlockOfRoom.J8 (TT h) ⟨g1, 0, none⟩ ⟨g3, 0, none⟩ ⟨gw, 0, none⟩ ⟨gwb, 0, none⟩ (x.blocked xs).2.2 ⟨gx, 0, none⟩ ⟨gR, 0, none⟩ ⟨gB, 0, none⟩ (x.blocked xs).2.2 h6 := by
    intro hh gR gB c4 b4 B4 W N O F hc
    have M := (M0.join (N.cnt hc))
    refine M.sta0 .here (osz O rfl) (rRoom.oone O) rfl .here fun h5 M => M.sta0 (.there .here) F.size F.one rfl (.there .here) fun h6 M => ?_
    exact bk8 (L := []) R0 Rb hw hwy Ow Fw O3 O F (M.cnt fun p => by simp only [List.append_eq, cnt_app, cnt_cons, cnt_nil] at *; omega)
  have N0 := Mem.start h7
  clear M M0 O3
  (repeat' (first
    | refine P3.pin rfl (Mem.ext (by assumption)) ?_
    | refine P1.pin rfl (Mem.ext (by assumption)) ?_
    | refine NewR.go (by assumption) (NewR.blk Rb _) fun _ _ _ _ _ _ => as_a ?_
    | refine TriB.go (by assumption) (impl_BlockOfRoom_c (x := x) (xs := xs) (rRoom.ext (Mem.ext (by assumption)) R1) (FA.ofow (by assumption))) fun _ _ _ _ _ _ _ _ => tup3 (as_a (as_a (as_i ?_)))
    | refine Mem.alc (by assumption) fun _ _ _ _ => ?_
    | exact fin (by assumption) (by assumption) (by assumption) (fun p => by simp only [cnt_app, cnt_cons, cnt_nil] at *; omega)
    | refine And.intro ?_ ?_))
theorem FnExactBlockOfRoom_c {cs cb : Array Value} (R0 : rRoom.rd h cs.toList x) (Rb : FA 16 cb xs) : CALL prg f_laws_FnExactBlockOfRoom #[.agg cs, .agg cb] (TT h) h := by
  have hwy : w_Room (x.blocked xs).1 ≤ 1048576 := w_blocked R0 (play_taps' x xs)
  refine laws_FnExactBlockOfRoom.call ((Mem.start h).alc fun g1 h1 x1 M => M.alc fun g3 h2 x2 M => M.lda0 (.there .here) (rsz R0 rfl) (goM M (sz_Room_c (rRoom.ext M.ext R0) 1048576 (by omega) : CALL prg f_laws_szRoom #[.agg cs, .int .i64 (1048576 : Int)] _ _) fun h7 M => as_i (br (fun hb => ⟨rfl, M.ext⟩) fun hb => ?_)))
  have hw := subW_le hb
  refine M.lda0 (.there .here) (rsz R0 rfl) (M.lda0 .here Rb.size ?_)
  have R1 := rRoom.ext M.ext R0
  have P1 : RdP rRoom h7 ⟨g1, 0, none⟩ x := M.rdp (.there .here) R1
  have P3 : RdP (rArr 16 (rF .f32)) h7 ⟨g3, 0, none⟩ xs := M.rdp .here (Rb.rd _)
  have M0 := M
  have fin : ∀ {hh : Heap} {gR gB : Nat} {c4 b4 : Array Value} {B4 W : List Blk}, Mem h7 hh W → rRoom.ow B4 c4.toList (x.blocked xs).1 → FA 16 b4 (x.blocked xs).2.1 → (∀ p, Sx.cnt p ((gR, T_impl_Room, ⟨Z_impl_Room⟩) :: (gB, T_impl_Block, ⟨Z_impl_Block⟩) :: B4) ≤ Sx.cnt p W) →
      STA 47 hh ⟨gR, 0, none⟩ c4 fun h5 => STA 16 h5 ⟨gB, 0, none⟩ b4 fun h6 => laws_FnExactBlockOfRoom.J6 (TT h) ⟨g1, 0, none⟩ ⟨g3, 0, none⟩ ⟨gR, 0, none⟩ ⟨gB, 0, none⟩ (x.blocked xs).2.2 h6 := by
    intro hh gR gB c4 b4 B4 W N O F hc
    have M := (M0.join (N.cnt hc))
    refine M.sta0 .here (osz O rfl) (rRoom.oone O) rfl .here fun h5 M => M.sta0 (.there .here) F.size F.one rfl (.there .here) fun h6 M => ?_
    exact bk6 (L := []) R0 Rb hw hwy O F (M.cnt fun p => by simp only [List.append_eq, cnt_app, cnt_cons, cnt_nil] at *; omega)
  have N0 := Mem.start h7
  clear M M0
  (repeat' (first
    | refine P3.pin rfl (Mem.ext (by assumption)) ?_
    | refine P1.pin rfl (Mem.ext (by assumption)) ?_
    | refine NewR.go (by assumption) (to_Room_c (rRoom.ext (Mem.ext (by assumption)) R1) hw) fun _ _ _ _ _ _ => as_a ?_
    | refine NewR.go (by assumption) (NewR.blk Rb _) fun _ _ _ _ _ _ => as_a ?_
    | refine TriB.go (by assumption) (spec_BlockOfRoom_c (x := x) (xs := xs) (rdD (by assumption) (by assumption) (fun p => by simp only [cnt_app, cnt_cons, cnt_nil] at *; omega)) (FA.ofow (by assumption))) fun _ _ _ _ _ _ _ _ => tup3 (as_a (as_a (as_i ?_)))
    | refine Mem.alc (by assumption) fun _ _ _ _ => ?_
    | exact fin (by assumption) (by assumption) (by assumption) (fun p => by simp only [cnt_app, cnt_cons, cnt_nil] at *; omega)
    | refine And.intro ?_ ?_))
end
end Go.Sx
