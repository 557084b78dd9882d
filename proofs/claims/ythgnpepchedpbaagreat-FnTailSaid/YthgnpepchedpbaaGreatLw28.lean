/- The law FnTail, as the program tells it. -/
import Derived.Test.YthgnpepchedpbaaGreatLk74
import Derived.Test.YthgnpepchedpbaaGreatLq4
import Derived.Test.YthgnpepchedpbaaGreatLw3
import Derived.Test.YthgnpepchedpbaaGreatLk32
import Derived.Test.YthgnpepchedpbaaGreatFnTail
set_option linter.unusedVariables false
set_option linter.unusedSimpArgs false
namespace Go.Sx
open Go.Proofs
set_option maxRecDepth 100000
set_option maxHeartbeats 1000000

theorem play_ok {x : GRoom} (hx : x.ok = true) (R : x.Runs) (l : List Nat) : (x.play l).1.ok = true := by
  induction l generalizing x with
  | nil => exact hx
  | cons a l ih => exact ih (room_step_ok hx R.c2 R.l4 R.d4 a) (step_runs R a)
/-- Bytes that are read. -/
structure Two (h : Heap) (cb mb : Option Addr) (code more : List Int) : Prop where
  c : Cells h cb (iv .u8 code)
  m : Cells h mb (iv .u8 more)
  bc : Byt' code
  bm : Byt' more
abbrev TB (h : Heap) : Value → Heap → Prop := fun u h' => u = .bool true ∧ Ext h h'
section
variable {h hh : Heap} {cb mb : Option Addr} {cc mc : Nat} {code more : List Int} {x : GRoom} {L B : List Blk} {cs : Array Value} {r : Nat}
theorem play3 {Q : Nat → Int → Heap → Prop} {n : Nat} (O : rRoom.ow B cs.toList x) (hx : x.ok = true) (M : Mem h hh ((r, T_impl_Room, cs) :: (B ++ L))) (hn : n ≤ 4096)
    (H : ∀ h' g c' B', rRoom.ow B' c'.toList (x.play (List.replicate n 0)).1 → Mem h h' ((g, T_impl_Room, c') :: (B' ++ ((r, T_impl_Room, cs) :: (B ++ L)))) → Q g 0 h') :
    (MKS ti_float32 T_float32 (n : Int) (n : Int) (fun g31 h32 =>
      PIN hh ⟨r, 0, none⟩ 47 h32 <|
      (CALL prg f_impl_PlayRoom #[.agg cs, .slice (some ⟨g31, 0, none⟩) (Int.toNat n) (Int.toNat n)] (fun q33 h34 =>
      TUP3 q33 fun q35 q36 q37 => asA q35 fun a38 => asL q36 fun l39b l39l l39c => asI .i64 q37 fun n40 =>
      ALC ⟨Z_impl_Room⟩ T_impl_Room (fun g41 h42 => PIN hh ⟨r, 0, none⟩ 47 h42 <| STA 47 h42 ⟨g41, 0, none⟩ a38 fun h43 => Q g41 n40 h43) h34) h32) ∧
      (ALC ⟨Z_impl_Room⟩ T_impl_Room (fun g44 h45 => PIN hh ⟨r, 0, none⟩ 47 h45 <|
      CALL prg f_impl_PlayRoom #[.agg cs, .slice (some ⟨g31, 0, none⟩) (Int.toNat n) (Int.toNat n)] (fun q46 h47 =>
      TUP3 q46 fun q48 q49 q50 => asA q48 fun a51 => asL q49 fun l52b l52l l52c => asI .i64 q50 fun n53 => STA 47 h47 ⟨g44, 0, none⟩ a51 fun h54 => Q g44 n53 h54) h45) h32)) hh) ∧
    (ALC ⟨Z_impl_Room⟩ T_impl_Room (fun g55 h56 => PIN hh ⟨r, 0, none⟩ 47 h56 <|
      MKS ti_float32 T_float32 (n : Int) (n : Int) (fun g57 h58 => PIN hh ⟨r, 0, none⟩ 47 h58 <|
      CALL prg f_impl_PlayRoom #[.agg cs, .slice (some ⟨g57, 0, none⟩) (Int.toNat n) (Int.toNat n)] (fun q59 h60 =>
      TUP3 q59 fun q61 q62 q63 => asA q61 fun a64 => asL q62 fun l65b l65l l65c => asI .i64 q63 fun n66 => STA 47 h60 ⟨g55, 0, none⟩ a64 fun h67 => Q g55 n66 h67) h58) h56) hh) := by
  have hm : (4097 : Nat) ≤ maxLen := by decide
  have z0 : (rF .f32).ow [] [.float .f32 0] 0 := ⟨rfl, 0, rfl, fw0⟩
  have hb : ti_float32.bytes * n ≤ 2 ^ 48 := by
    have : ti_float32.bytes = 4 := rfl
    rw [this]; omega
  have e : x.played (List.replicate n 0) = ((x.play (List.replicate n 0)).1, (x.play (List.replicate n 0)).2, 0) := played0 hx (by rw [List.length_replicate]; exact hn)
  have pl : ∀ {h1 : Heap} {g : Nat} {BZ W : List Blk}, Mem h h1 W → SlO T_float32 (rF .f32) BZ (some ⟨g, 0, none⟩) n n (List.replicate n 0) → (∀ p, Sx.cnt p (B ++ BZ) ≤ Sx.cnt p W) → CALL prg f_impl_PlayRoom #[.agg cs, .slice (some ⟨g, 0, none⟩) (Int.toNat n) (Int.toNat n)] (fun u h' => TriL h1 h' u (x.play (List.replicate n 0)).1 (x.play (List.replicate n 0)).2 0) h1 := fun {h1 g BZ W} M OZ hc => by
    rw [Int.toNat_natCast]
    have hp := impl_PlayRoom_c (rRoom.look O (M.cnt (W := B) (fun p => by have := hc p; simp only [cnt_app] at *; omega)) (List.Sublist.refl _)) (OZ.look (M.cnt (W := BZ) (fun p => by have := hc p; simp only [cnt_app] at *; omega)) (List.Sublist.refl _))
    rw [e] at hp
    exact hp
  refine ⟨make_sl (n := n) z0 rfl rfl (by decide) M hb (by omega) fun g h1 x1 N OZ => M.pin2 .here N (.there .here) ⟨?_, N.alc fun g2 h2 x2 N => M.pin2 .here N (.there (.there .here)) ?_⟩, M.alc fun g2 h2 x2 N => M.pin2 .here N (.there .here) (make_sl (n := n) z0 rfl rfl (by decide) N hb (by omega) fun g h1 x1 N OZ => M.pin2 .here N (.there (.there .here)) ?_)⟩
  · refine TriL.go N (pl N OZ (fun p => by simp only [cnt_app, cnt_cons, cnt_nil] at *; omega)) fun h3 c3 B3 b3 l3 k3 T3 N O3 s3 S3 => tup3 (as_a (as_l (as_i (N.alc fun g4 h4 x4 N => M.pin2 .here N (.there (Look.skip (.there .here))) (N.sta0 .here s3 (rRoom.oone O3) rfl .here fun h5 N => H _ _ _ B3 O3 (N.cnt fun p => ?_))))))
    simp only [cnt_app, cnt_cons, cnt_nil] at *; omega
  · refine TriL.go N (pl N OZ (fun p => by simp only [cnt_app, cnt_cons, cnt_nil] at *; omega)) fun h3 c3 B3 b3 l3 k3 T3 N O3 s3 S3 => tup3 (as_a (as_l (as_i ?_)))
    have N := N.cnt (W := (g2, T_impl_Room, ⟨Z_impl_Room⟩) :: (B3 ++ ((r, T_impl_Room, cs) :: (B ++ L)))) (fun p => by simp only [cnt_app, cnt_cons, cnt_nil] at *; omega)
    exact N.sta0 .here s3 (rRoom.oone O3) rfl .here fun h5 N => H _ _ _ B3 O3 N
  · refine TriL.go N (pl N OZ (fun p => by simp only [cnt_app, cnt_cons, cnt_nil] at *; omega)) fun h3 c3 B3 b3 l3 k3 T3 N O3 s3 S3 => tup3 (as_a (as_l (as_i ?_)))
    have N := N.cnt (W := (g2, T_impl_Room, ⟨Z_impl_Room⟩) :: (B3 ++ ((r, T_impl_Room, cs) :: (B ++ L)))) (fun p => by simp only [cnt_app, cnt_cons, cnt_nil] at *; omega)
    exact N.sta0 .here s3 (rRoom.oone O3) rfl .here fun h5 N => H _ _ _ B3 O3 N
theorem ft17 (G : Two h cb mb code more) (O : rRoom.ow B cs.toList x) (hx : x.ok = true) (M : Mem h hh ((r, T_impl_Room, cs) :: (B ++ L))) :
    laws_FnTail.J17 (TB h) cb code.length cc mb more.length mc ⟨r, 0, none⟩ hh := by
  unfold laws_FnTail.J17
  refine (P6Pick_c M G.m G.bm).mono ?_
  rintro _ h1 ⟨a, rfl, a1, a2, a3, M⟩
  refine as_i ?_
  rw [wrap64 (n := 1 + a) (by omega) (by omega)]
  refine (P6Pick_c M G.c G.bc).mono ?_
  rintro _ h2 ⟨b, rfl, b1, b2, b3, M⟩
  refine as_i ((P6Plain_c M G.c G.bc).mono ?_)
  rintro _ h3 ⟨y, v, rfl, v1, v2, hy, M⟩
  refine as_f (siz rfl ?_)
  rw [wrap64 (n := 1 + b) (by omega) (by omega)]
  refine M.alc fun g h4 x4 M => M.lda0 (.there .here) (osz O rfl) ?_
  have hin : inR (1 + a) 1 1024 = true := by simp only [inR, Bool.and_eq_true, decide_eq_true_eq]; omega
  have hb : inR (1 + b) 1 (1 + a) = true := by simp only [inR, Bool.and_eq_true, decide_eq_true_eq]; omega
  have ht : ([(⟨1 + b, plainW v⟩ : GTap)].all fun t => t.ok (1 + a)) = true := by simp only [List.all_cons, List.all_nil, GTap.ok, hb, plain_fin v1 v2]; rfl
  have e := withTaps0 (x := x) (n := 1 + a) (ts := [⟨1 + b, plainW v⟩]) hx (by show 1 ≤ 6; omega) (by rw [hin, ht]; rfl)
  have S : ∀ {h' : Heap} {W : List Blk}, Mem h h' W → Look W g ⟨[.int .i64 (1 + b), .float .f32 y]⟩ → SlR rTap h' (some ⟨g, 0, none⟩) 1 1 [⟨1 + b, plainW v⟩] := fun M l =>
    (M.rdp l (r := rArr 1 rTap) (x := [⟨1 + b, plainW v⟩]) ⟨rfl, [_, _], [], rfl, rTap.look (tap_ow hy) M (List.nil_sublist _), rfl⟩).arr (by decide)
  have R : ∀ {h' : Heap} {W : List Blk}, Mem h h' W → (∀ p, Sx.cnt p B ≤ Sx.cnt p W) → rRoom.rd h' cs.toList x := fun M hc => rRoom.look O (M.cnt hc) (List.Sublist.refl _)
  refine PairR.go M (impl_WithTaps_c (R M (fun p => by simp only [cnt_app, cnt_cons, cnt_nil] at *; omega)) (S M .here)) fun h5 c5 B5 M O5 s5 => tup2 (as_a (as_i (M.alc fun g6 h6 x6 M => M.sta0 .here s5 (rRoom.oone O5) rfl .here fun h7 M => ?_)))
  refine M.lda0 (.there (Look.skip (.there .here))) (osz O rfl) (PairR.go M (spec_WithTaps_c (R M (fun p => by simp only [cnt_app, cnt_cons, cnt_nil] at *; omega)) (S M (.there (Look.skip .here)))) fun h8 c8 B8 M O8 s8 => tup2 (as_a (as_i (M.alc fun g9 h9 x9 M => M.sta0 .here s8 (rRoom.oone O8) rfl .here fun h10 M => ?_))))
  rw [e] at O5 O8 ⊢
  have M := M.cnt (W := (g6, T_impl_Room, c5) :: (g9, T_impl_Room, c8) :: (B5 ++ B8)) (fun p => by simp only [cnt_app, cnt_cons, cnt_nil] at *; omega)
  refine br_t (by simp) (br_t rfl (M.lda0 .here s5 (M.lda0 (.there .here) s8 (goM M (SameRoom_c (rRoom.look O5 (M.cnt (W := B5) (fun p => by simp only [cnt_app, cnt_cons, cnt_nil] at *; omega)) (List.Sublist.refl _)) (rRoom.look O8 (M.cnt (W := B8) (fun p => by simp only [cnt_app, cnt_cons, cnt_nil] at *; omega)) (List.Sublist.refl _))) fun h11 M => as_b ⟨rfl, M.ext⟩))))
theorem FnTail_c (C : Cells h cb (iv .u8 code)) (Cm : Cells h mb (iv .u8 more)) (hbc : Byt' code) (hbm : Byt' more) :
    CALL prg f_laws_FnTail #[.slice cb code.length cc, .slice mb more.length mc] (fun u h' => u = .bool true ∧ Ext h h') h := by
  have G : Two h cb mb code more := ⟨C, Cm, hbc, hbm⟩
  refine laws_FnTail.call (goX f6big_c fun h1 x1 => as_b (br (fun _ => ⟨rfl, x1⟩) fun _ => goX f6big_c fun h2 x2 => as_b (br (fun _ => ⟨rfl, x1.trans x2⟩) fun _ => ?_)))
  unfold laws_FnTail.J3
  refine (P6Room_c ((Mem.start h).grow (x1.trans x2)) C hbc).mono ?_
  rintro _ h3 ⟨cs, B, x, rfl, O, hx, M⟩
  refine as_a (M.alc fun r h4 x4 M => M.sta0 .here (osz O rfl) (rRoom.oone O) rfl .here fun h5 M => (P6Pick_c M Cm hbm).mono ?_)
  rintro _ h6 ⟨v, rfl, v1, v2, v3, M⟩
  have hv : v < 300 := by omega
  have R : ∀ {h' : Heap} {W : List Blk}, Mem h h' W → (∀ p, Sx.cnt p B ≤ Sx.cnt p W) → rRoom.rd h' cs.toList x := fun M hc => rRoom.look O (M.cnt hc) (List.Sublist.refl _)
  have Rn : x.Runs := room_runs (R M (fun p => by simp only [cnt_app, cnt_cons, cnt_nil] at *; omega)) hx
  refine as_i (M.lda0 .here (osz O rfl) (goM M (impl_TailOf_c (R M (fun p => by simp only [cnt_app, cnt_cons, cnt_nil] at *; omega))) fun h7 M => tup2 (as_i (as_i (M.lda0 .here (osz O rfl) (goM M (spec_TailOf_c (R M (fun p => by simp only [cnt_app, cnt_cons, cnt_nil] at *; omega))) fun h8 M => tup2 (as_i (as_i (eqB (eqB ?_))))))))))
  have et : x.tailOf v = tailFrom x 0 (v.toNat + 1) := tail0 hx (by simp only [inR, Bool.and_eq_true, decide_eq_true_eq]; omega)
  unfold laws_FnTail.J9
  rcases tail_code x 0 (v.toNat + 1) with e | e
  · obtain ⟨j, d1, d2, d3⟩ := tail_found e
    have d1 : (tailFrom x 0 (v.toNat + 1)).1 = (j : Int) := by rw [d1]; omega
    rw [et, e, d1]
    refine br_f rfl (M.lda0 .here (osz O rfl) (play3 (Q := fun g n h' => laws_FnTail.J14 (TB h) cb code.length cc mb more.length mc ⟨r, 0, none⟩ ⟨g, 0, none⟩ n h') O hx M (by omega) fun h9 g c9 B9 O9 M => ?_))
    have R9 : rRoom.rd h9 c9.toList (x.play (List.replicate j 0)).1 := rRoom.look O9 (M.cnt (W := B9) (fun p => by simp only [cnt_app, cnt_cons, cnt_nil] at *; omega)) (List.Sublist.refl _)
    refine M.lda0 .here (osz O9 rfl) (goM M (IsSilentRoom_c R9 (play_ok hx Rn _)) fun h10 M => tup2 (as_b (as_i (br_f rfl (br_f rfl (br_f (by rw [d3]; rfl) ?_))))))
    exact ft17 G O hx (M.cnt (W := (r, T_impl_Room, cs) :: (B ++ [])) (fun p => by simp only [cnt_app, cnt_cons, cnt_nil] at *; omega))
  · have d3 := tail_none e
    obtain ⟨j, rfl⟩ := Int.eq_ofNat_of_zero_le v1
    rw [et, e]
    rw [Int.toNat_natCast] at d3
    refine br_t rfl (M.lda0 .here (osz O rfl) (play3 (Q := fun g n h' => laws_FnTail.J11 (TB h) 7 ⟨g, 0, none⟩ n h') O hx M (by omega) fun h9 g c9 B9 O9 M => ?_))
    have R9 : rRoom.rd h9 c9.toList (x.play (List.replicate j 0)).1 := rRoom.look O9 (M.cnt (W := B9) (fun p => by simp only [cnt_app, cnt_cons, cnt_nil] at *; omega)) (List.Sublist.refl _)
    exact M.lda0 .here (osz O9 rfl) (goM M (IsSilentRoom_c R9 (play_ok hx Rn _)) fun h10 M => tup2 (as_b (as_i (br_t rfl (br_t rfl (br_t rfl ⟨by rw [d3]; rfl, M.ext⟩))))))
end
end Go.Sx
