/- What functions of this seat's program compute, told in words (a predicate over heaps for each), and the proofs that the words are no more than the code's own weakest precondition. -/
import Derived.Test.YtjoajnmhdobbfaaTab
namespace Go.Sx
open Go.Proofs
set_option linter.unusedVariables false
set_option maxRecDepth 100000

def spec_BlockOfPipe.B6 (Post : Value → Heap → Prop) (N6 : (Addr × Addr × Addr × Addr × Addr × Int) → Heap → Prop) : Addr × Addr × Addr × Addr × Addr × Int → Heap → Prop
  | (breath_3, t4, t5, y_7, out_8, i_9), h =>
    BIF ((decide (i_9 < (16 : Int)))) (
    IDX i_9 16 <|
    oF .f32 (cell h ((Addr.add breath_3 ((Int.toNat i_9) * 1)))) fun r25 =>
    CALL prg f_spec_l04Step #[.pointer (some y_7), .float .f32 r25] (fun q26 h27 =>
    asF .f32 q26 fun r28 =>
    IDX i_9 16 <|
    ST1 h27 ((Addr.add out_8 ((Int.toNat i_9) * 1))) (.float .f32 r28) fun h29 =>
    N6 (breath_3, t4, t5, y_7, out_8, ((IntKind.i64.wrap (i_9 + (1 : Int))))) h29) h) (
    LDA 13 h y_7 fun a30 =>
    LDA 16 h out_8 fun a31 =>
    STA 13 h t4 a30 fun h32 =>
    PIN h out_8 16 h32 <|
    STA 16 h32 t5 a31 fun h33 =>
    LDA 13 h33 t4 fun a34 =>
    LDA 16 h33 t5 fun a35 =>
    Post (.tuple ⟨[.agg a34, .agg a35, .int .i64 (0 : Int)]⟩) h33)
def spec_BlockOfPipe.g6 (fr : Frame) : Addr × Addr × Addr × Addr × Addr × Int := ((gP (lget fr 3)), (gP (lget fr 4)), (gP (lget fr 5)), (gP (lget fr 7)), (gP (lget fr 8)), (gI (lget fr 9)))
def spec_BlockOfPipe.l6 (Post : Value → Heap → Prop) : Frame → Heap → Prop := fun fr h => GRD (shape (kds 28 [(3, .p), (4, .p), (5, .p), (7, .p), (8, .p), (9, .i .i64)]) fr) (LOOP (spec_BlockOfPipe.B6 Post) (spec_BlockOfPipe.g6 fr) h)
def spec_BlockOfPipe.S (x_0 : Array Value) (breath_1 : Array Value) (Post : Value → Heap → Prop) (h : Heap) : Prop :=
    ALC x_0 T_impl_Pipe (fun g1 h2 =>
    ALC breath_1 T_impl_Block (fun g3 h4 =>
    ALC ⟨Z_impl_Pipe⟩ T_impl_Pipe (fun g5 h6 =>
    ALC ⟨Z_impl_Block⟩ T_impl_Block (fun g7 h8 =>
    CALL prg f_spec_l04Ok #[.pointer (some ⟨g1, 0, none⟩)] (fun q9 h10 =>
    asB q9 fun b11 =>
    BIF (!b11) (
    STA 13 h10 ⟨g5, 0, none⟩ (⟨[.slice none 0 0, .slice none 0 0, .slice none 0 0, .int .i64 (0 : Int), .float .f32 0, .float .f32 0, .float .f32 0, .float .f32 0, .float .f32 0, .bool false, .float .f32 0, .float .f32 0, .float .f32 0]⟩ : Array Value) fun h12 =>
    STA 16 h12 ⟨g7, 0, none⟩ (⟨[.float .f32 0, .float .f32 0, .float .f32 0, .float .f32 0, .float .f32 0, .float .f32 0, .float .f32 0, .float .f32 0, .float .f32 0, .float .f32 0, .float .f32 0, .float .f32 0, .float .f32 0, .float .f32 0, .float .f32 0, .float .f32 0]⟩ : Array Value) fun h13 =>
    LDA 13 h13 ⟨g5, 0, none⟩ fun a14 =>
    LDA 16 h13 ⟨g7, 0, none⟩ fun a15 =>
    Post (.tuple ⟨[.agg a14, .agg a15, .int .i64 (1 : Int)]⟩) h13) (
    CALL prg f_spec_l04Copy #[.pointer (some ⟨g1, 0, none⟩)] (fun q16 h17 =>
    asA q16 fun a18 =>
    ALC ⟨Z_impl_Pipe⟩ T_impl_Pipe (fun g19 h20 =>
    STA 13 h20 ⟨g19, 0, none⟩ a18 fun h21 =>
    ALC ⟨Z_impl_Block⟩ T_impl_Block (fun g22 h23 =>
    STA 16 h23 ⟨g22, 0, none⟩ (⟨[.float .f32 0, .float .f32 0, .float .f32 0, .float .f32 0, .float .f32 0, .float .f32 0, .float .f32 0, .float .f32 0, .float .f32 0, .float .f32 0, .float .f32 0, .float .f32 0, .float .f32 0, .float .f32 0, .float .f32 0, .float .f32 0]⟩ : Array Value) fun h24 =>
    LOOP (spec_BlockOfPipe.B6 Post) (⟨g3, 0, none⟩, ⟨g5, 0, none⟩, ⟨g7, 0, none⟩, ⟨g19, 0, none⟩, ⟨g22, 0, none⟩, (0 : Int)) h24) h21) h17) h10)) h8) h6) h4) h2) h
noncomputable def spec_BlockOfPipe.code : Code := (Try.f17.body).getD .skip
theorem spec_BlockOfPipe.call {x_0 : Array Value} {breath_1 : Array Value} {Post : Value → Heap → Prop} {h : Heap} (H : spec_BlockOfPipe.S x_0 breath_1 Post h) : CALL prg f_spec_BlockOfPipe #[.agg x_0, .agg breath_1] Post h :=
  fn_call tau_ok mixed (c := spec_BlockOfPipe.code) (Λ := lookL [(1000006, spec_BlockOfPipe.l6 Post)]) Try.func17 (by kernel_rfl) (by kernel_rfl)
    (Rq.seq (by kernel_rfl) (Rq.free (by kernel_rfl)) (Rq.seq (by kernel_rfl) (Rq.free (by kernel_rfl)) (Rq.seq (by kernel_rfl) (Rq.free (by kernel_rfl)) (Rq.seq (by kernel_rfl) (Rq.free (by kernel_rfl)) (Rq.seq (by kernel_rfl) (Rq.seq (by kernel_rfl) (Rq.free (by kernel_rfl)) (Rq.block (Rq.loop (spec_BlockOfPipe.l6 Post) (by kernel_rfl) (segL (g := spec_BlockOfPipe.g6) tau_ok mixed (Λ := fun N6 => lookL []) (fun _ _ _ => by kernel_rfl) (fun N6 => (Rq.free (by kernel_rfl))))))) (Rq.free (by kernel_rfl)))))))
    (Eq.mp (by kernel_rfl) H)

def impl_BlockOfPipe_c1.S (i_0 : Int) (t1 : Addr) (t2 : Addr) (Post : Value → Heap → Prop) (h : Heap) : Prop :=
    IDX i_0 16 <|
    oF .f32 (cell h ((Addr.add t2 ((Int.toNat i_0) * 1)))) fun r1 =>
    CALL prg f_p_impl_Pipe_step #[.pointer (some t1), .float .f32 r1] (fun q2 h3 =>
    asF .f32 q2 fun r4 =>
    Post (.float .f32 r4) h3) h
noncomputable def impl_BlockOfPipe_c1.code : Code := (Try.f59.body).getD .skip
theorem impl_BlockOfPipe_c1.call {i_0 : Int} {t1 : Addr} {t2 : Addr} {Post : Value → Heap → Prop} {h : Heap} (H : impl_BlockOfPipe_c1.S i_0 t1 t2 Post h) : CALL prg f_impl_BlockOfPipe_c1 #[.int .i64 i_0, .pointer (some t1), .pointer (some t2)] Post h :=
  fn_call tau_ok mixed (c := impl_BlockOfPipe_c1.code) (Λ := lookL []) Try.func59 (by kernel_rfl) (by kernel_rfl)
    (Rq.free (by kernel_rfl))
    (Eq.mp (by kernel_rfl) H)

def impl_BlockOfPipe.S (x_0 : Array Value) (breath_1 : Array Value) (Post : Value → Heap → Prop) (h : Heap) : Prop :=
    ALC x_0 T_impl_Pipe (fun g1 h2 =>
    ALC breath_1 T_impl_Block (fun g3 h4 =>
    ALC ⟨Z_impl_Pipe⟩ T_impl_Pipe (fun g5 h6 =>
    ALC ⟨Z_impl_Block⟩ T_impl_Block (fun g7 h8 =>
    LDA 13 h8 ⟨g1, 0, none⟩ fun a9 =>
    CALL prg f_impl_ValidPipe #[.agg a9] (fun q10 h11 =>
    asB q10 fun b12 =>
    BIF (!b12) (
    STA 13 h11 ⟨g5, 0, none⟩ (⟨[.slice none 0 0, .slice none 0 0, .slice none 0 0, .int .i64 (0 : Int), .float .f32 0, .float .f32 0, .float .f32 0, .float .f32 0, .float .f32 0, .bool false, .float .f32 0, .float .f32 0, .float .f32 0]⟩ : Array Value) fun h13 =>
    STA 16 h13 ⟨g7, 0, none⟩ (⟨[.float .f32 0, .float .f32 0, .float .f32 0, .float .f32 0, .float .f32 0, .float .f32 0, .float .f32 0, .float .f32 0, .float .f32 0, .float .f32 0, .float .f32 0, .float .f32 0, .float .f32 0, .float .f32 0, .float .f32 0, .float .f32 0]⟩ : Array Value) fun h14 =>
    LDA 13 h14 ⟨g5, 0, none⟩ fun a15 =>
    LDA 16 h14 ⟨g7, 0, none⟩ fun a16 =>
    Post (.tuple ⟨[.agg a15, .agg a16, .int .i64 (1 : Int)]⟩) h14) (
    LDA 13 h11 ⟨g1, 0, none⟩ fun a17 =>
    CALL prg f_impl_Pipe_clone #[.agg a17] (fun q18 h19 =>
    asA q18 fun a20 =>
    STA 13 h19 ⟨g1, 0, none⟩ a20 fun h21 =>
    CALL prg f_impl_made #[.func (.func 59) #[] #[.pointer (some ⟨g1, 0, none⟩), .pointer (some ⟨g3, 0, none⟩)]] (fun q22 h23 =>
    asA q22 fun a24 =>
    ALC ⟨Z_impl_Block⟩ T_impl_Block (fun g25 h26 =>
    STA 16 h26 ⟨g25, 0, none⟩ a24 fun h27 =>
    LDA 13 h27 ⟨g1, 0, none⟩ fun a28 =>
    LDA 16 h27 ⟨g25, 0, none⟩ fun a29 =>
    STA 13 h27 ⟨g5, 0, none⟩ a28 fun h30 =>
    PIN h27 ⟨g25, 0, none⟩ 16 h30 <|
    STA 16 h30 ⟨g7, 0, none⟩ a29 fun h31 =>
    LDA 13 h31 ⟨g5, 0, none⟩ fun a32 =>
    LDA 16 h31 ⟨g7, 0, none⟩ fun a33 =>
    Post (.tuple ⟨[.agg a32, .agg a33, .int .i64 (0 : Int)]⟩) h31) h23) h21) h11)) h8) h6) h4) h2) h
noncomputable def impl_BlockOfPipe.code : Code := (Try.f20.body).getD .skip
theorem impl_BlockOfPipe.call {x_0 : Array Value} {breath_1 : Array Value} {Post : Value → Heap → Prop} {h : Heap} (H : impl_BlockOfPipe.S x_0 breath_1 Post h) : CALL prg f_impl_BlockOfPipe #[.agg x_0, .agg breath_1] Post h :=
  fn_call tau_ok mixed (c := impl_BlockOfPipe.code) (Λ := lookL []) Try.func20 (by kernel_rfl) (by kernel_rfl)
    (Rq.free (by kernel_rfl))
    (Eq.mp (by kernel_rfl) H)

def laws_FnExactBlockOfPipe.J27 (Post : Value → Heap → Prop) (g0_10 : Addr) (m_14 : Int) (h : Heap) : Prop :=
    LDA 13 h g0_10 fun a827 =>
    CALL prg f_laws_heldPipe #[.agg a827, .int .i64 (1 : Int)] (fun q828 h829 =>
    asI .i64 q828 fun n830 =>
    BIF ((decide (n830 < (0 : Int)))) (
    Post (.bool false) h829) (
    BIF (n830 != m_14) (
    Post (.bool false) h829) (
    Post (.bool true) h829))) h
def laws_FnExactBlockOfPipe.j27 (Post : Value → Heap → Prop) : Frame → Heap → Prop := fun fr h => GRD (shape (kds 128 [(10, .p), (14, .i .i64)]) fr) (laws_FnExactBlockOfPipe.J27 Post (gP (lget fr 10)) (gI (lget fr 14)) h)
def laws_FnExactBlockOfPipe.J25 (Post : Value → Heap → Prop) (w0_6 : Addr) (w1_7 : Addr) (w2_8 : Int) (g0_10 : Addr) (m_14 : Int) (h0_16 : Addr) (h1_17 : Addr) (h2_18 : Int) (h : Heap) : Prop :=
    LDA 13 h h0_16 fun a817 =>
    LDA 13 h w0_6 fun a818 =>
    CALL prg f_laws_eqPipe #[.agg a817, .agg a818] (fun q819 h820 =>
    asB q819 fun b821 =>
    BIF (!b821) (
    Post (.bool false) h820) (
    LDA 16 h820 h1_17 fun a822 =>
    LDA 16 h820 w1_7 fun a823 =>
    CALL prg f_laws_eqBlock #[.agg a822, .agg a823] (fun q824 h825 =>
    asB q824 fun b826 =>
    BIF (!b826) (
    Post (.bool false) h825) (
    BIF (h2_18 != w2_8) (
    Post (.bool false) h825) (
    laws_FnExactBlockOfPipe.J27 Post g0_10 m_14 h825))) h820)) h
def laws_FnExactBlockOfPipe.j25 (Post : Value → Heap → Prop) : Frame → Heap → Prop := fun fr h => GRD (shape (kds 128 [(6, .p), (7, .p), (8, .i .i64), (10, .p), (14, .i .i64), (16, .p), (17, .p), (18, .i .i64)]) fr) (laws_FnExactBlockOfPipe.J25 Post (gP (lget fr 6)) (gP (lget fr 7)) (gI (lget fr 8)) (gP (lget fr 10)) (gI (lget fr 14)) (gP (lget fr 16)) (gP (lget fr 17)) (gI (lget fr 18)) h)
def laws_FnExactBlockOfPipe.J16 (Post : Value → Heap → Prop) (aX_2 : Addr) (aBreath_3 : Addr) (w0_6 : Addr) (w1_7 : Addr) (w2_8 : Int) (g0_10 : Addr) (h : Heap) : Prop :=
    LDA 13 h g0_10 fun a511 =>
    CALL prg f_laws_markPipe #[.agg a511, .int .i64 (1 : Int)] (fun q512 h513 =>
    asI .i64 q512 fun n514 =>
    LDA 13 h513 g0_10 fun a515 =>
    CALL prg f_laws_heldPipe #[.agg a515, .int .i64 (1 : Int)] (fun q516 h517 =>
    asI .i64 q516 fun n518 =>
    BIF ((decide (n518 < (0 : Int)))) (
    Post (.bool false) h517) (
    BIF (n518 != n514) (
    Post (.bool false) h517) (
    LDA 13 h517 aX_2 fun a519 =>
    LDA 16 h517 aBreath_3 fun a520 =>
    (CALL prg f_laws_toPipe #[.agg a519] (fun q521 h522 =>
    asA q521 fun a523 =>
    PIN h517 aBreath_3 16 h522 <|
    (CALL prg f_laws_toBlock #[.agg a520] (fun q524 h525 =>
    asA q524 fun a526 =>
    (CALL prg f_impl_BlockOfPipe #[.agg a523, .agg a526] (fun q527 h528 =>
    TUP3 q527 fun q529 q530 q531 =>
    asA q529 fun a532 =>
    asA q530 fun a533 =>
    asI .i64 q531 fun n534 =>
    (ALC ⟨Z_impl_Pipe⟩ T_impl_Pipe (fun g535 h536 =>
    PIN h517 aBreath_3 16 h536 <|
    PIN h517 aX_2 13 h536 <|
    ALC ⟨Z_impl_Block⟩ T_impl_Block (fun g537 h538 =>
    PIN h517 aBreath_3 16 h538 <|
    PIN h517 aX_2 13 h538 <|
    STA 13 h538 ⟨g535, 0, none⟩ a532 fun h539 =>
    STA 16 h539 ⟨g537, 0, none⟩ a533 fun h540 =>
    laws_FnExactBlockOfPipe.J25 Post w0_6 w1_7 w2_8 g0_10 n514 ⟨g535, 0, none⟩ ⟨g537, 0, none⟩ n534 h540) h536) h528) ∧ (ALC ⟨Z_impl_Block⟩ T_impl_Block (fun g541 h542 =>
    PIN h517 aBreath_3 16 h542 <|
    PIN h517 aX_2 13 h542 <|
    ALC ⟨Z_impl_Pipe⟩ T_impl_Pipe (fun g543 h544 =>
    PIN h517 aBreath_3 16 h544 <|
    PIN h517 aX_2 13 h544 <|
    STA 13 h544 ⟨g543, 0, none⟩ a532 fun h545 =>
    STA 16 h545 ⟨g541, 0, none⟩ a533 fun h546 =>
    laws_FnExactBlockOfPipe.J25 Post w0_6 w1_7 w2_8 g0_10 n514 ⟨g543, 0, none⟩ ⟨g541, 0, none⟩ n534 h546) h542) h528)) h525) ∧ ((ALC ⟨Z_impl_Pipe⟩ T_impl_Pipe (fun g547 h548 =>
    PIN h517 aBreath_3 16 h548 <|
    PIN h517 aX_2 13 h548 <|
    (CALL prg f_impl_BlockOfPipe #[.agg a523, .agg a526] (fun q549 h550 =>
    TUP3 q549 fun q551 q552 q553 =>
    asA q551 fun a554 =>
    asA q552 fun a555 =>
    asI .i64 q553 fun n556 =>
    ALC ⟨Z_impl_Block⟩ T_impl_Block (fun g557 h558 =>
    PIN h517 aBreath_3 16 h558 <|
    PIN h517 aX_2 13 h558 <|
    STA 13 h558 ⟨g547, 0, none⟩ a554 fun h559 =>
    STA 16 h559 ⟨g557, 0, none⟩ a555 fun h560 =>
    laws_FnExactBlockOfPipe.J25 Post w0_6 w1_7 w2_8 g0_10 n514 ⟨g547, 0, none⟩ ⟨g557, 0, none⟩ n556 h560) h550) h548) ∧ (ALC ⟨Z_impl_Block⟩ T_impl_Block (fun g561 h562 =>
    PIN h517 aBreath_3 16 h562 <|
    PIN h517 aX_2 13 h562 <|
    CALL prg f_impl_BlockOfPipe #[.agg a523, .agg a526] (fun q563 h564 =>
    TUP3 q563 fun q565 q566 q567 =>
    asA q565 fun a568 =>
    asA q566 fun a569 =>
    asI .i64 q567 fun n570 =>
    STA 13 h564 ⟨g547, 0, none⟩ a568 fun h571 =>
    STA 16 h571 ⟨g561, 0, none⟩ a569 fun h572 =>
    laws_FnExactBlockOfPipe.J25 Post w0_6 w1_7 w2_8 g0_10 n514 ⟨g547, 0, none⟩ ⟨g561, 0, none⟩ n570 h572) h562) h548)) h525) ∧ (ALC ⟨Z_impl_Block⟩ T_impl_Block (fun g573 h574 =>
    PIN h517 aBreath_3 16 h574 <|
    PIN h517 aX_2 13 h574 <|
    (CALL prg f_impl_BlockOfPipe #[.agg a523, .agg a526] (fun q575 h576 =>
    TUP3 q575 fun q577 q578 q579 =>
    asA q577 fun a580 =>
    asA q578 fun a581 =>
    asI .i64 q579 fun n582 =>
    ALC ⟨Z_impl_Pipe⟩ T_impl_Pipe (fun g583 h584 =>
    PIN h517 aBreath_3 16 h584 <|
    PIN h517 aX_2 13 h584 <|
    STA 13 h584 ⟨g583, 0, none⟩ a580 fun h585 =>
    STA 16 h585 ⟨g573, 0, none⟩ a581 fun h586 =>
    laws_FnExactBlockOfPipe.J25 Post w0_6 w1_7 w2_8 g0_10 n514 ⟨g583, 0, none⟩ ⟨g573, 0, none⟩ n582 h586) h576) h574) ∧ (ALC ⟨Z_impl_Pipe⟩ T_impl_Pipe (fun g587 h588 =>
    PIN h517 aBreath_3 16 h588 <|
    PIN h517 aX_2 13 h588 <|
    CALL prg f_impl_BlockOfPipe #[.agg a523, .agg a526] (fun q589 h590 =>
    TUP3 q589 fun q591 q592 q593 =>
    asA q591 fun a594 =>
    asA q592 fun a595 =>
    asI .i64 q593 fun n596 =>
    STA 13 h590 ⟨g587, 0, none⟩ a594 fun h597 =>
    STA 16 h597 ⟨g573, 0, none⟩ a595 fun h598 =>
    laws_FnExactBlockOfPipe.J25 Post w0_6 w1_7 w2_8 g0_10 n514 ⟨g587, 0, none⟩ ⟨g573, 0, none⟩ n596 h598) h588) h574)) h525))) h522) ∧ ((ALC ⟨Z_impl_Pipe⟩ T_impl_Pipe (fun g599 h600 =>
    PIN h517 aBreath_3 16 h600 <|
    PIN h517 aX_2 13 h600 <|
    (CALL prg f_laws_toBlock #[.agg a520] (fun q601 h602 =>
    asA q601 fun a603 =>
    (CALL prg f_impl_BlockOfPipe #[.agg a523, .agg a603] (fun q604 h605 =>
    TUP3 q604 fun q606 q607 q608 =>
    asA q606 fun a609 =>
    asA q607 fun a610 =>
    asI .i64 q608 fun n611 =>
    ALC ⟨Z_impl_Block⟩ T_impl_Block (fun g612 h613 =>
    PIN h517 aBreath_3 16 h613 <|
    PIN h517 aX_2 13 h613 <|
    STA 13 h613 ⟨g599, 0, none⟩ a609 fun h614 =>
    STA 16 h614 ⟨g612, 0, none⟩ a610 fun h615 =>
    laws_FnExactBlockOfPipe.J25 Post w0_6 w1_7 w2_8 g0_10 n514 ⟨g599, 0, none⟩ ⟨g612, 0, none⟩ n611 h615) h605) h602) ∧ (ALC ⟨Z_impl_Block⟩ T_impl_Block (fun g616 h617 =>
    PIN h517 aBreath_3 16 h617 <|
    PIN h517 aX_2 13 h617 <|
    CALL prg f_impl_BlockOfPipe #[.agg a523, .agg a603] (fun q618 h619 =>
    TUP3 q618 fun q620 q621 q622 =>
    asA q620 fun a623 =>
    asA q621 fun a624 =>
    asI .i64 q622 fun n625 =>
    STA 13 h619 ⟨g599, 0, none⟩ a623 fun h626 =>
    STA 16 h626 ⟨g616, 0, none⟩ a624 fun h627 =>
    laws_FnExactBlockOfPipe.J25 Post w0_6 w1_7 w2_8 g0_10 n514 ⟨g599, 0, none⟩ ⟨g616, 0, none⟩ n625 h627) h617) h602)) h600) ∧ (ALC ⟨Z_impl_Block⟩ T_impl_Block (fun g628 h629 =>
    PIN h517 aBreath_3 16 h629 <|
    PIN h517 aX_2 13 h629 <|
    CALL prg f_laws_toBlock #[.agg a520] (fun q630 h631 =>
    asA q630 fun a632 =>
    CALL prg f_impl_BlockOfPipe #[.agg a523, .agg a632] (fun q633 h634 =>
    TUP3 q633 fun q635 q636 q637 =>
    asA q635 fun a638 =>
    asA q636 fun a639 =>
    asI .i64 q637 fun n640 =>
    STA 13 h634 ⟨g599, 0, none⟩ a638 fun h641 =>
    STA 16 h641 ⟨g628, 0, none⟩ a639 fun h642 =>
    laws_FnExactBlockOfPipe.J25 Post w0_6 w1_7 w2_8 g0_10 n514 ⟨g599, 0, none⟩ ⟨g628, 0, none⟩ n640 h642) h631) h629) h600)) h522) ∧ (ALC ⟨Z_impl_Block⟩ T_impl_Block (fun g643 h644 =>
    PIN h517 aBreath_3 16 h644 <|
    PIN h517 aX_2 13 h644 <|
    (CALL prg f_laws_toBlock #[.agg a520] (fun q645 h646 =>
    asA q645 fun a647 =>
    (CALL prg f_impl_BlockOfPipe #[.agg a523, .agg a647] (fun q648 h649 =>
    TUP3 q648 fun q650 q651 q652 =>
    asA q650 fun a653 =>
    asA q651 fun a654 =>
    asI .i64 q652 fun n655 =>
    ALC ⟨Z_impl_Pipe⟩ T_impl_Pipe (fun g656 h657 =>
    PIN h517 aBreath_3 16 h657 <|
    PIN h517 aX_2 13 h657 <|
    STA 13 h657 ⟨g656, 0, none⟩ a653 fun h658 =>
    STA 16 h658 ⟨g643, 0, none⟩ a654 fun h659 =>
    laws_FnExactBlockOfPipe.J25 Post w0_6 w1_7 w2_8 g0_10 n514 ⟨g656, 0, none⟩ ⟨g643, 0, none⟩ n655 h659) h649) h646) ∧ (ALC ⟨Z_impl_Pipe⟩ T_impl_Pipe (fun g660 h661 =>
    PIN h517 aBreath_3 16 h661 <|
    PIN h517 aX_2 13 h661 <|
    CALL prg f_impl_BlockOfPipe #[.agg a523, .agg a647] (fun q662 h663 =>
    TUP3 q662 fun q664 q665 q666 =>
    asA q664 fun a667 =>
    asA q665 fun a668 =>
    asI .i64 q666 fun n669 =>
    STA 13 h663 ⟨g660, 0, none⟩ a667 fun h670 =>
    STA 16 h670 ⟨g643, 0, none⟩ a668 fun h671 =>
    laws_FnExactBlockOfPipe.J25 Post w0_6 w1_7 w2_8 g0_10 n514 ⟨g660, 0, none⟩ ⟨g643, 0, none⟩ n669 h671) h661) h646)) h644) ∧ (ALC ⟨Z_impl_Pipe⟩ T_impl_Pipe (fun g672 h673 =>
    PIN h517 aBreath_3 16 h673 <|
    PIN h517 aX_2 13 h673 <|
    CALL prg f_laws_toBlock #[.agg a520] (fun q674 h675 =>
    asA q674 fun a676 =>
    CALL prg f_impl_BlockOfPipe #[.agg a523, .agg a676] (fun q677 h678 =>
    TUP3 q677 fun q679 q680 q681 =>
    asA q679 fun a682 =>
    asA q680 fun a683 =>
    asI .i64 q681 fun n684 =>
    STA 13 h678 ⟨g672, 0, none⟩ a682 fun h685 =>
    STA 16 h685 ⟨g643, 0, none⟩ a683 fun h686 =>
    laws_FnExactBlockOfPipe.J25 Post w0_6 w1_7 w2_8 g0_10 n514 ⟨g672, 0, none⟩ ⟨g643, 0, none⟩ n684 h686) h675) h673) h644)) h522))) h517) ∧ ((ALC ⟨Z_impl_Pipe⟩ T_impl_Pipe (fun g687 h688 =>
    PIN h517 aBreath_3 16 h688 <|
    PIN h517 aX_2 13 h688 <|
    (CALL prg f_laws_toPipe #[.agg a519] (fun q689 h690 =>
    asA q689 fun a691 =>
    PIN h517 aBreath_3 16 h690 <|
    (CALL prg f_laws_toBlock #[.agg a520] (fun q692 h693 =>
    asA q692 fun a694 =>
    (CALL prg f_impl_BlockOfPipe #[.agg a691, .agg a694] (fun q695 h696 =>
    TUP3 q695 fun q697 q698 q699 =>
    asA q697 fun a700 =>
    asA q698 fun a701 =>
    asI .i64 q699 fun n702 =>
    ALC ⟨Z_impl_Block⟩ T_impl_Block (fun g703 h704 =>
    PIN h517 aBreath_3 16 h704 <|
    PIN h517 aX_2 13 h704 <|
    STA 13 h704 ⟨g687, 0, none⟩ a700 fun h705 =>
    STA 16 h705 ⟨g703, 0, none⟩ a701 fun h706 =>
    laws_FnExactBlockOfPipe.J25 Post w0_6 w1_7 w2_8 g0_10 n514 ⟨g687, 0, none⟩ ⟨g703, 0, none⟩ n702 h706) h696) h693) ∧ (ALC ⟨Z_impl_Block⟩ T_impl_Block (fun g707 h708 =>
    PIN h517 aBreath_3 16 h708 <|
    PIN h517 aX_2 13 h708 <|
    CALL prg f_impl_BlockOfPipe #[.agg a691, .agg a694] (fun q709 h710 =>
    TUP3 q709 fun q711 q712 q713 =>
    asA q711 fun a714 =>
    asA q712 fun a715 =>
    asI .i64 q713 fun n716 =>
    STA 13 h710 ⟨g687, 0, none⟩ a714 fun h717 =>
    STA 16 h717 ⟨g707, 0, none⟩ a715 fun h718 =>
    laws_FnExactBlockOfPipe.J25 Post w0_6 w1_7 w2_8 g0_10 n514 ⟨g687, 0, none⟩ ⟨g707, 0, none⟩ n716 h718) h708) h693)) h690) ∧ (ALC ⟨Z_impl_Block⟩ T_impl_Block (fun g719 h720 =>
    PIN h517 aBreath_3 16 h720 <|
    PIN h517 aX_2 13 h720 <|
    CALL prg f_laws_toBlock #[.agg a520] (fun q721 h722 =>
    asA q721 fun a723 =>
    CALL prg f_impl_BlockOfPipe #[.agg a691, .agg a723] (fun q724 h725 =>
    TUP3 q724 fun q726 q727 q728 =>
    asA q726 fun a729 =>
    asA q727 fun a730 =>
    asI .i64 q728 fun n731 =>
    STA 13 h725 ⟨g687, 0, none⟩ a729 fun h732 =>
    STA 16 h732 ⟨g719, 0, none⟩ a730 fun h733 =>
    laws_FnExactBlockOfPipe.J25 Post w0_6 w1_7 w2_8 g0_10 n514 ⟨g687, 0, none⟩ ⟨g719, 0, none⟩ n731 h733) h722) h720) h690)) h688) ∧ (ALC ⟨Z_impl_Block⟩ T_impl_Block (fun g734 h735 =>
    PIN h517 aBreath_3 16 h735 <|
    PIN h517 aX_2 13 h735 <|
    CALL prg f_laws_toPipe #[.agg a519] (fun q736 h737 =>
    asA q736 fun a738 =>
    PIN h517 aBreath_3 16 h737 <|
    CALL prg f_laws_toBlock #[.agg a520] (fun q739 h740 =>
    asA q739 fun a741 =>
    CALL prg f_impl_BlockOfPipe #[.agg a738, .agg a741] (fun q742 h743 =>
    TUP3 q742 fun q744 q745 q746 =>
    asA q744 fun a747 =>
    asA q745 fun a748 =>
    asI .i64 q746 fun n749 =>
    STA 13 h743 ⟨g687, 0, none⟩ a747 fun h750 =>
    STA 16 h750 ⟨g734, 0, none⟩ a748 fun h751 =>
    laws_FnExactBlockOfPipe.J25 Post w0_6 w1_7 w2_8 g0_10 n514 ⟨g687, 0, none⟩ ⟨g734, 0, none⟩ n749 h751) h740) h737) h735) h688)) h517) ∧ (ALC ⟨Z_impl_Block⟩ T_impl_Block (fun g752 h753 =>
    PIN h517 aBreath_3 16 h753 <|
    PIN h517 aX_2 13 h753 <|
    (CALL prg f_laws_toPipe #[.agg a519] (fun q754 h755 =>
    asA q754 fun a756 =>
    PIN h517 aBreath_3 16 h755 <|
    (CALL prg f_laws_toBlock #[.agg a520] (fun q757 h758 =>
    asA q757 fun a759 =>
    (CALL prg f_impl_BlockOfPipe #[.agg a756, .agg a759] (fun q760 h761 =>
    TUP3 q760 fun q762 q763 q764 =>
    asA q762 fun a765 =>
    asA q763 fun a766 =>
    asI .i64 q764 fun n767 =>
    ALC ⟨Z_impl_Pipe⟩ T_impl_Pipe (fun g768 h769 =>
    PIN h517 aBreath_3 16 h769 <|
    PIN h517 aX_2 13 h769 <|
    STA 13 h769 ⟨g768, 0, none⟩ a765 fun h770 =>
    STA 16 h770 ⟨g752, 0, none⟩ a766 fun h771 =>
    laws_FnExactBlockOfPipe.J25 Post w0_6 w1_7 w2_8 g0_10 n514 ⟨g768, 0, none⟩ ⟨g752, 0, none⟩ n767 h771) h761) h758) ∧ (ALC ⟨Z_impl_Pipe⟩ T_impl_Pipe (fun g772 h773 =>
    PIN h517 aBreath_3 16 h773 <|
    PIN h517 aX_2 13 h773 <|
    CALL prg f_impl_BlockOfPipe #[.agg a756, .agg a759] (fun q774 h775 =>
    TUP3 q774 fun q776 q777 q778 =>
    asA q776 fun a779 =>
    asA q777 fun a780 =>
    asI .i64 q778 fun n781 =>
    STA 13 h775 ⟨g772, 0, none⟩ a779 fun h782 =>
    STA 16 h782 ⟨g752, 0, none⟩ a780 fun h783 =>
    laws_FnExactBlockOfPipe.J25 Post w0_6 w1_7 w2_8 g0_10 n514 ⟨g772, 0, none⟩ ⟨g752, 0, none⟩ n781 h783) h773) h758)) h755) ∧ (ALC ⟨Z_impl_Pipe⟩ T_impl_Pipe (fun g784 h785 =>
    PIN h517 aBreath_3 16 h785 <|
    PIN h517 aX_2 13 h785 <|
    CALL prg f_laws_toBlock #[.agg a520] (fun q786 h787 =>
    asA q786 fun a788 =>
    CALL prg f_impl_BlockOfPipe #[.agg a756, .agg a788] (fun q789 h790 =>
    TUP3 q789 fun q791 q792 q793 =>
    asA q791 fun a794 =>
    asA q792 fun a795 =>
    asI .i64 q793 fun n796 =>
    STA 13 h790 ⟨g784, 0, none⟩ a794 fun h797 =>
    STA 16 h797 ⟨g752, 0, none⟩ a795 fun h798 =>
    laws_FnExactBlockOfPipe.J25 Post w0_6 w1_7 w2_8 g0_10 n514 ⟨g784, 0, none⟩ ⟨g752, 0, none⟩ n796 h798) h787) h785) h755)) h753) ∧ (ALC ⟨Z_impl_Pipe⟩ T_impl_Pipe (fun g799 h800 =>
    PIN h517 aBreath_3 16 h800 <|
    PIN h517 aX_2 13 h800 <|
    CALL prg f_laws_toPipe #[.agg a519] (fun q801 h802 =>
    asA q801 fun a803 =>
    PIN h517 aBreath_3 16 h802 <|
    CALL prg f_laws_toBlock #[.agg a520] (fun q804 h805 =>
    asA q804 fun a806 =>
    CALL prg f_impl_BlockOfPipe #[.agg a803, .agg a806] (fun q807 h808 =>
    TUP3 q807 fun q809 q810 q811 =>
    asA q809 fun a812 =>
    asA q810 fun a813 =>
    asI .i64 q811 fun n814 =>
    STA 13 h808 ⟨g799, 0, none⟩ a812 fun h815 =>
    STA 16 h815 ⟨g752, 0, none⟩ a813 fun h816 =>
    laws_FnExactBlockOfPipe.J25 Post w0_6 w1_7 w2_8 g0_10 n514 ⟨g799, 0, none⟩ ⟨g752, 0, none⟩ n814 h816) h805) h802) h800) h753)) h517))))) h513) h
def laws_FnExactBlockOfPipe.j16 (Post : Value → Heap → Prop) : Frame → Heap → Prop := fun fr h => GRD (shape (kds 128 [(2, .p), (3, .p), (6, .p), (7, .p), (8, .i .i64), (10, .p)]) fr) (laws_FnExactBlockOfPipe.J16 Post (gP (lget fr 2)) (gP (lget fr 3)) (gP (lget fr 6)) (gP (lget fr 7)) (gI (lget fr 8)) (gP (lget fr 10)) h)
def laws_FnExactBlockOfPipe.J10 (Post : Value → Heap → Prop) (aX_2 : Addr) (aBreath_3 : Addr) (w0_6 : Addr) (w1_7 : Addr) (w2_8 : Int) (x0_9 : Addr) (g0_10 : Addr) (g1_11 : Addr) (g2_12 : Int) (h : Heap) : Prop :=
    LDA 13 h x0_9 fun a489 =>
    LDA 13 h aX_2 fun a490 =>
    CALL prg f_laws_toPipe #[.agg a490] (fun q491 h492 =>
    asA q491 fun a493 =>
    PIN h x0_9 13 h492 <|
    CALL prg f_laws_eqPipe #[.agg a489, .agg a493] (fun q494 h495 =>
    asB q494 fun b496 =>
    BIF (!b496) (
    Post (.bool false) h495) (
    LDA 13 h495 x0_9 fun a497 =>
    CALL prg f_laws_markPipe #[.agg a497, .int .i64 (1 : Int)] (fun q498 h499 =>
    asI .i64 q498 fun n500 =>
    BIF ((decide (n500 < (0 : Int)))) (
    Post (.bool false) h499) (
    LDA 13 h499 g0_10 fun a501 =>
    LDA 13 h499 w0_6 fun a502 =>
    CALL prg f_laws_eqPipe #[.agg a501, .agg a502] (fun q503 h504 =>
    asB q503 fun b505 =>
    BIF (!b505) (
    Post (.bool false) h504) (
    LDA 16 h504 g1_11 fun a506 =>
    LDA 16 h504 w1_7 fun a507 =>
    CALL prg f_laws_eqBlock #[.agg a506, .agg a507] (fun q508 h509 =>
    asB q508 fun b510 =>
    BIF (!b510) (
    Post (.bool false) h509) (
    BIF (g2_12 != w2_8) (
    Post (.bool false) h509) (
    laws_FnExactBlockOfPipe.J16 Post aX_2 aBreath_3 w0_6 w1_7 w2_8 g0_10 h509))) h504)) h499)) h495)) h492) h
def laws_FnExactBlockOfPipe.j10 (Post : Value → Heap → Prop) : Frame → Heap → Prop := fun fr h => GRD (shape (kds 128 [(2, .p), (3, .p), (6, .p), (7, .p), (8, .i .i64), (9, .p), (10, .p), (11, .p), (12, .i .i64)]) fr) (laws_FnExactBlockOfPipe.J10 Post (gP (lget fr 2)) (gP (lget fr 3)) (gP (lget fr 6)) (gP (lget fr 7)) (gI (lget fr 8)) (gP (lget fr 9)) (gP (lget fr 10)) (gP (lget fr 11)) (gI (lget fr 12)) h)
def laws_FnExactBlockOfPipe.J8 (Post : Value → Heap → Prop) (aX_2 : Addr) (aBreath_3 : Addr) (w0_6 : Addr) (w1_7 : Addr) (w2_8 : Int) (x0_9 : Addr) (g0_10 : Addr) (g1_11 : Addr) (g2_12 : Int) (h : Heap) : Prop :=
    LDA 13 h g0_10 fun a479 =>
    LDA 13 h w0_6 fun a480 =>
    CALL prg f_laws_eqPipe #[.agg a479, .agg a480] (fun q481 h482 =>
    asB q481 fun b483 =>
    BIF (!b483) (
    Post (.bool false) h482) (
    LDA 16 h482 g1_11 fun a484 =>
    LDA 16 h482 w1_7 fun a485 =>
    CALL prg f_laws_eqBlock #[.agg a484, .agg a485] (fun q486 h487 =>
    asB q486 fun b488 =>
    BIF (!b488) (
    Post (.bool false) h487) (
    BIF (g2_12 != w2_8) (
    Post (.bool false) h487) (
    laws_FnExactBlockOfPipe.J10 Post aX_2 aBreath_3 w0_6 w1_7 w2_8 x0_9 g0_10 g1_11 g2_12 h487))) h482)) h
def laws_FnExactBlockOfPipe.j8 (Post : Value → Heap → Prop) : Frame → Heap → Prop := fun fr h => GRD (shape (kds 128 [(2, .p), (3, .p), (6, .p), (7, .p), (8, .i .i64), (9, .p), (10, .p), (11, .p), (12, .i .i64)]) fr) (laws_FnExactBlockOfPipe.J8 Post (gP (lget fr 2)) (gP (lget fr 3)) (gP (lget fr 6)) (gP (lget fr 7)) (gI (lget fr 8)) (gP (lget fr 9)) (gP (lget fr 10)) (gP (lget fr 11)) (gI (lget fr 12)) h)
def laws_FnExactBlockOfPipe.J6 (Post : Value → Heap → Prop) (aX_2 : Addr) (aBreath_3 : Addr) (w0_6 : Addr) (w1_7 : Addr) (w2_8 : Int) (h : Heap) : Prop :=
    LDA 13 h aX_2 fun a307 =>
    CALL prg f_laws_toPipe #[.agg a307] (fun q308 h309 =>
    asA q308 fun a310 =>
    ALC ⟨Z_impl_Pipe⟩ T_impl_Pipe (fun g311 h312 =>
    STA 13 h312 ⟨g311, 0, none⟩ a310 fun h313 =>
    LDA 13 h313 ⟨g311, 0, none⟩ fun a314 =>
    LDA 16 h313 aBreath_3 fun a315 =>
    (CALL prg f_laws_toBlock #[.agg a315] (fun q316 h317 =>
    asA q316 fun a318 =>
    PIN h313 ⟨g311, 0, none⟩ 13 h317 <|
    (CALL prg f_impl_BlockOfPipe #[.agg a314, .agg a318] (fun q319 h320 =>
    TUP3 q319 fun q321 q322 q323 =>
    asA q321 fun a324 =>
    asA q322 fun a325 =>
    asI .i64 q323 fun n326 =>
    (ALC ⟨Z_impl_Pipe⟩ T_impl_Pipe (fun g327 h328 =>
    PIN h313 aBreath_3 16 h328 <|
    PIN h313 ⟨g311, 0, none⟩ 13 h328 <|
    ALC ⟨Z_impl_Block⟩ T_impl_Block (fun g329 h330 =>
    PIN h313 aBreath_3 16 h330 <|
    PIN h313 ⟨g311, 0, none⟩ 13 h330 <|
    STA 13 h330 ⟨g327, 0, none⟩ a324 fun h331 =>
    STA 16 h331 ⟨g329, 0, none⟩ a325 fun h332 =>
    laws_FnExactBlockOfPipe.J8 Post aX_2 aBreath_3 w0_6 w1_7 w2_8 ⟨g311, 0, none⟩ ⟨g327, 0, none⟩ ⟨g329, 0, none⟩ n326 h332) h328) h320) ∧ (ALC ⟨Z_impl_Block⟩ T_impl_Block (fun g333 h334 =>
    PIN h313 aBreath_3 16 h334 <|
    PIN h313 ⟨g311, 0, none⟩ 13 h334 <|
    ALC ⟨Z_impl_Pipe⟩ T_impl_Pipe (fun g335 h336 =>
    PIN h313 aBreath_3 16 h336 <|
    PIN h313 ⟨g311, 0, none⟩ 13 h336 <|
    STA 13 h336 ⟨g335, 0, none⟩ a324 fun h337 =>
    STA 16 h337 ⟨g333, 0, none⟩ a325 fun h338 =>
    laws_FnExactBlockOfPipe.J8 Post aX_2 aBreath_3 w0_6 w1_7 w2_8 ⟨g311, 0, none⟩ ⟨g335, 0, none⟩ ⟨g333, 0, none⟩ n326 h338) h334) h320)) h317) ∧ ((ALC ⟨Z_impl_Pipe⟩ T_impl_Pipe (fun g339 h340 =>
    PIN h313 aBreath_3 16 h340 <|
    PIN h313 ⟨g311, 0, none⟩ 13 h340 <|
    (CALL prg f_impl_BlockOfPipe #[.agg a314, .agg a318] (fun q341 h342 =>
    TUP3 q341 fun q343 q344 q345 =>
    asA q343 fun a346 =>
    asA q344 fun a347 =>
    asI .i64 q345 fun n348 =>
    ALC ⟨Z_impl_Block⟩ T_impl_Block (fun g349 h350 =>
    PIN h313 aBreath_3 16 h350 <|
    PIN h313 ⟨g311, 0, none⟩ 13 h350 <|
    STA 13 h350 ⟨g339, 0, none⟩ a346 fun h351 =>
    STA 16 h351 ⟨g349, 0, none⟩ a347 fun h352 =>
    laws_FnExactBlockOfPipe.J8 Post aX_2 aBreath_3 w0_6 w1_7 w2_8 ⟨g311, 0, none⟩ ⟨g339, 0, none⟩ ⟨g349, 0, none⟩ n348 h352) h342) h340) ∧ (ALC ⟨Z_impl_Block⟩ T_impl_Block (fun g353 h354 =>
    PIN h313 aBreath_3 16 h354 <|
    PIN h313 ⟨g311, 0, none⟩ 13 h354 <|
    CALL prg f_impl_BlockOfPipe #[.agg a314, .agg a318] (fun q355 h356 =>
    TUP3 q355 fun q357 q358 q359 =>
    asA q357 fun a360 =>
    asA q358 fun a361 =>
    asI .i64 q359 fun n362 =>
    STA 13 h356 ⟨g339, 0, none⟩ a360 fun h363 =>
    STA 16 h363 ⟨g353, 0, none⟩ a361 fun h364 =>
    laws_FnExactBlockOfPipe.J8 Post aX_2 aBreath_3 w0_6 w1_7 w2_8 ⟨g311, 0, none⟩ ⟨g339, 0, none⟩ ⟨g353, 0, none⟩ n362 h364) h354) h340)) h317) ∧ (ALC ⟨Z_impl_Block⟩ T_impl_Block (fun g365 h366 =>
    PIN h313 aBreath_3 16 h366 <|
    PIN h313 ⟨g311, 0, none⟩ 13 h366 <|
    (CALL prg f_impl_BlockOfPipe #[.agg a314, .agg a318] (fun q367 h368 =>
    TUP3 q367 fun q369 q370 q371 =>
    asA q369 fun a372 =>
    asA q370 fun a373 =>
    asI .i64 q371 fun n374 =>
    ALC ⟨Z_impl_Pipe⟩ T_impl_Pipe (fun g375 h376 =>
    PIN h313 aBreath_3 16 h376 <|
    PIN h313 ⟨g311, 0, none⟩ 13 h376 <|
    STA 13 h376 ⟨g375, 0, none⟩ a372 fun h377 =>
    STA 16 h377 ⟨g365, 0, none⟩ a373 fun h378 =>
    laws_FnExactBlockOfPipe.J8 Post aX_2 aBreath_3 w0_6 w1_7 w2_8 ⟨g311, 0, none⟩ ⟨g375, 0, none⟩ ⟨g365, 0, none⟩ n374 h378) h368) h366) ∧ (ALC ⟨Z_impl_Pipe⟩ T_impl_Pipe (fun g379 h380 =>
    PIN h313 aBreath_3 16 h380 <|
    PIN h313 ⟨g311, 0, none⟩ 13 h380 <|
    CALL prg f_impl_BlockOfPipe #[.agg a314, .agg a318] (fun q381 h382 =>
    TUP3 q381 fun q383 q384 q385 =>
    asA q383 fun a386 =>
    asA q384 fun a387 =>
    asI .i64 q385 fun n388 =>
    STA 13 h382 ⟨g379, 0, none⟩ a386 fun h389 =>
    STA 16 h389 ⟨g365, 0, none⟩ a387 fun h390 =>
    laws_FnExactBlockOfPipe.J8 Post aX_2 aBreath_3 w0_6 w1_7 w2_8 ⟨g311, 0, none⟩ ⟨g379, 0, none⟩ ⟨g365, 0, none⟩ n388 h390) h380) h366)) h317))) h313) ∧ ((ALC ⟨Z_impl_Pipe⟩ T_impl_Pipe (fun g391 h392 =>
    PIN h313 aBreath_3 16 h392 <|
    PIN h313 ⟨g311, 0, none⟩ 13 h392 <|
    (CALL prg f_laws_toBlock #[.agg a315] (fun q393 h394 =>
    asA q393 fun a395 =>
    PIN h313 ⟨g311, 0, none⟩ 13 h394 <|
    (CALL prg f_impl_BlockOfPipe #[.agg a314, .agg a395] (fun q396 h397 =>
    TUP3 q396 fun q398 q399 q400 =>
    asA q398 fun a401 =>
    asA q399 fun a402 =>
    asI .i64 q400 fun n403 =>
    ALC ⟨Z_impl_Block⟩ T_impl_Block (fun g404 h405 =>
    PIN h313 aBreath_3 16 h405 <|
    PIN h313 ⟨g311, 0, none⟩ 13 h405 <|
    STA 13 h405 ⟨g391, 0, none⟩ a401 fun h406 =>
    STA 16 h406 ⟨g404, 0, none⟩ a402 fun h407 =>
    laws_FnExactBlockOfPipe.J8 Post aX_2 aBreath_3 w0_6 w1_7 w2_8 ⟨g311, 0, none⟩ ⟨g391, 0, none⟩ ⟨g404, 0, none⟩ n403 h407) h397) h394) ∧ (ALC ⟨Z_impl_Block⟩ T_impl_Block (fun g408 h409 =>
    PIN h313 aBreath_3 16 h409 <|
    PIN h313 ⟨g311, 0, none⟩ 13 h409 <|
    CALL prg f_impl_BlockOfPipe #[.agg a314, .agg a395] (fun q410 h411 =>
    TUP3 q410 fun q412 q413 q414 =>
    asA q412 fun a415 =>
    asA q413 fun a416 =>
    asI .i64 q414 fun n417 =>
    STA 13 h411 ⟨g391, 0, none⟩ a415 fun h418 =>
    STA 16 h418 ⟨g408, 0, none⟩ a416 fun h419 =>
    laws_FnExactBlockOfPipe.J8 Post aX_2 aBreath_3 w0_6 w1_7 w2_8 ⟨g311, 0, none⟩ ⟨g391, 0, none⟩ ⟨g408, 0, none⟩ n417 h419) h409) h394)) h392) ∧ (ALC ⟨Z_impl_Block⟩ T_impl_Block (fun g420 h421 =>
    PIN h313 aBreath_3 16 h421 <|
    PIN h313 ⟨g311, 0, none⟩ 13 h421 <|
    CALL prg f_laws_toBlock #[.agg a315] (fun q422 h423 =>
    asA q422 fun a424 =>
    PIN h313 ⟨g311, 0, none⟩ 13 h423 <|
    CALL prg f_impl_BlockOfPipe #[.agg a314, .agg a424] (fun q425 h426 =>
    TUP3 q425 fun q427 q428 q429 =>
    asA q427 fun a430 =>
    asA q428 fun a431 =>
    asI .i64 q429 fun n432 =>
    STA 13 h426 ⟨g391, 0, none⟩ a430 fun h433 =>
    STA 16 h433 ⟨g420, 0, none⟩ a431 fun h434 =>
    laws_FnExactBlockOfPipe.J8 Post aX_2 aBreath_3 w0_6 w1_7 w2_8 ⟨g311, 0, none⟩ ⟨g391, 0, none⟩ ⟨g420, 0, none⟩ n432 h434) h423) h421) h392)) h313) ∧ (ALC ⟨Z_impl_Block⟩ T_impl_Block (fun g435 h436 =>
    PIN h313 aBreath_3 16 h436 <|
    PIN h313 ⟨g311, 0, none⟩ 13 h436 <|
    (CALL prg f_laws_toBlock #[.agg a315] (fun q437 h438 =>
    asA q437 fun a439 =>
    PIN h313 ⟨g311, 0, none⟩ 13 h438 <|
    (CALL prg f_impl_BlockOfPipe #[.agg a314, .agg a439] (fun q440 h441 =>
    TUP3 q440 fun q442 q443 q444 =>
    asA q442 fun a445 =>
    asA q443 fun a446 =>
    asI .i64 q444 fun n447 =>
    ALC ⟨Z_impl_Pipe⟩ T_impl_Pipe (fun g448 h449 =>
    PIN h313 aBreath_3 16 h449 <|
    PIN h313 ⟨g311, 0, none⟩ 13 h449 <|
    STA 13 h449 ⟨g448, 0, none⟩ a445 fun h450 =>
    STA 16 h450 ⟨g435, 0, none⟩ a446 fun h451 =>
    laws_FnExactBlockOfPipe.J8 Post aX_2 aBreath_3 w0_6 w1_7 w2_8 ⟨g311, 0, none⟩ ⟨g448, 0, none⟩ ⟨g435, 0, none⟩ n447 h451) h441) h438) ∧ (ALC ⟨Z_impl_Pipe⟩ T_impl_Pipe (fun g452 h453 =>
    PIN h313 aBreath_3 16 h453 <|
    PIN h313 ⟨g311, 0, none⟩ 13 h453 <|
    CALL prg f_impl_BlockOfPipe #[.agg a314, .agg a439] (fun q454 h455 =>
    TUP3 q454 fun q456 q457 q458 =>
    asA q456 fun a459 =>
    asA q457 fun a460 =>
    asI .i64 q458 fun n461 =>
    STA 13 h455 ⟨g452, 0, none⟩ a459 fun h462 =>
    STA 16 h462 ⟨g435, 0, none⟩ a460 fun h463 =>
    laws_FnExactBlockOfPipe.J8 Post aX_2 aBreath_3 w0_6 w1_7 w2_8 ⟨g311, 0, none⟩ ⟨g452, 0, none⟩ ⟨g435, 0, none⟩ n461 h463) h453) h438)) h436) ∧ (ALC ⟨Z_impl_Pipe⟩ T_impl_Pipe (fun g464 h465 =>
    PIN h313 aBreath_3 16 h465 <|
    PIN h313 ⟨g311, 0, none⟩ 13 h465 <|
    CALL prg f_laws_toBlock #[.agg a315] (fun q466 h467 =>
    asA q466 fun a468 =>
    PIN h313 ⟨g311, 0, none⟩ 13 h467 <|
    CALL prg f_impl_BlockOfPipe #[.agg a314, .agg a468] (fun q469 h470 =>
    TUP3 q469 fun q471 q472 q473 =>
    asA q471 fun a474 =>
    asA q472 fun a475 =>
    asI .i64 q473 fun n476 =>
    STA 13 h470 ⟨g464, 0, none⟩ a474 fun h477 =>
    STA 16 h477 ⟨g435, 0, none⟩ a475 fun h478 =>
    laws_FnExactBlockOfPipe.J8 Post aX_2 aBreath_3 w0_6 w1_7 w2_8 ⟨g311, 0, none⟩ ⟨g464, 0, none⟩ ⟨g435, 0, none⟩ n476 h478) h467) h465) h436)) h313))) h309) h
def laws_FnExactBlockOfPipe.j6 (Post : Value → Heap → Prop) : Frame → Heap → Prop := fun fr h => GRD (shape (kds 128 [(2, .p), (3, .p), (6, .p), (7, .p), (8, .i .i64)]) fr) (laws_FnExactBlockOfPipe.J6 Post (gP (lget fr 2)) (gP (lget fr 3)) (gP (lget fr 6)) (gP (lget fr 7)) (gI (lget fr 8)) h)
def laws_FnExactBlockOfPipe.S (aX_0 : Array Value) (aBreath_1 : Array Value) (Post : Value → Heap → Prop) (h : Heap) : Prop :=
    ALC aX_0 T_laws_Pipe (fun g1 h2 =>
    ALC aBreath_1 T_16_float32 (fun g3 h4 =>
    LDA 13 h4 ⟨g1, 0, none⟩ fun a5 =>
    CALL prg f_laws_szPipe #[.agg a5, .int .i64 (1048576 : Int)] (fun q6 h7 =>
    asI .i64 q6 fun n8 =>
    BIF ((decide (n8 < (0 : Int)))) (
    Post (.bool true) h7) (
    LDA 13 h7 ⟨g1, 0, none⟩ fun a9 =>
    LDA 16 h7 ⟨g3, 0, none⟩ fun a10 =>
    (CALL prg f_laws_toPipe #[.agg a9] (fun q11 h12 =>
    asA q11 fun a13 =>
    PIN h7 ⟨g3, 0, none⟩ 16 h12 <|
    (CALL prg f_laws_toBlock #[.agg a10] (fun q14 h15 =>
    asA q14 fun a16 =>
    (CALL prg f_spec_BlockOfPipe #[.agg a13, .agg a16] (fun q17 h18 =>
    TUP3 q17 fun q19 q20 q21 =>
    asA q19 fun a22 =>
    asA q20 fun a23 =>
    asI .i64 q21 fun n24 =>
    (ALC ⟨Z_impl_Pipe⟩ T_impl_Pipe (fun g25 h26 =>
    PIN h7 ⟨g3, 0, none⟩ 16 h26 <|
    PIN h7 ⟨g1, 0, none⟩ 13 h26 <|
    ALC ⟨Z_impl_Block⟩ T_impl_Block (fun g27 h28 =>
    PIN h7 ⟨g3, 0, none⟩ 16 h28 <|
    PIN h7 ⟨g1, 0, none⟩ 13 h28 <|
    STA 13 h28 ⟨g25, 0, none⟩ a22 fun h29 =>
    STA 16 h29 ⟨g27, 0, none⟩ a23 fun h30 =>
    laws_FnExactBlockOfPipe.J6 Post ⟨g1, 0, none⟩ ⟨g3, 0, none⟩ ⟨g25, 0, none⟩ ⟨g27, 0, none⟩ n24 h30) h26) h18) ∧ (ALC ⟨Z_impl_Block⟩ T_impl_Block (fun g31 h32 =>
    PIN h7 ⟨g3, 0, none⟩ 16 h32 <|
    PIN h7 ⟨g1, 0, none⟩ 13 h32 <|
    ALC ⟨Z_impl_Pipe⟩ T_impl_Pipe (fun g33 h34 =>
    PIN h7 ⟨g3, 0, none⟩ 16 h34 <|
    PIN h7 ⟨g1, 0, none⟩ 13 h34 <|
    STA 13 h34 ⟨g33, 0, none⟩ a22 fun h35 =>
    STA 16 h35 ⟨g31, 0, none⟩ a23 fun h36 =>
    laws_FnExactBlockOfPipe.J6 Post ⟨g1, 0, none⟩ ⟨g3, 0, none⟩ ⟨g33, 0, none⟩ ⟨g31, 0, none⟩ n24 h36) h32) h18)) h15) ∧ ((ALC ⟨Z_impl_Pipe⟩ T_impl_Pipe (fun g37 h38 =>
    PIN h7 ⟨g3, 0, none⟩ 16 h38 <|
    PIN h7 ⟨g1, 0, none⟩ 13 h38 <|
    (CALL prg f_spec_BlockOfPipe #[.agg a13, .agg a16] (fun q39 h40 =>
    TUP3 q39 fun q41 q42 q43 =>
    asA q41 fun a44 =>
    asA q42 fun a45 =>
    asI .i64 q43 fun n46 =>
    ALC ⟨Z_impl_Block⟩ T_impl_Block (fun g47 h48 =>
    PIN h7 ⟨g3, 0, none⟩ 16 h48 <|
    PIN h7 ⟨g1, 0, none⟩ 13 h48 <|
    STA 13 h48 ⟨g37, 0, none⟩ a44 fun h49 =>
    STA 16 h49 ⟨g47, 0, none⟩ a45 fun h50 =>
    laws_FnExactBlockOfPipe.J6 Post ⟨g1, 0, none⟩ ⟨g3, 0, none⟩ ⟨g37, 0, none⟩ ⟨g47, 0, none⟩ n46 h50) h40) h38) ∧ (ALC ⟨Z_impl_Block⟩ T_impl_Block (fun g51 h52 =>
    PIN h7 ⟨g3, 0, none⟩ 16 h52 <|
    PIN h7 ⟨g1, 0, none⟩ 13 h52 <|
    CALL prg f_spec_BlockOfPipe #[.agg a13, .agg a16] (fun q53 h54 =>
    TUP3 q53 fun q55 q56 q57 =>
    asA q55 fun a58 =>
    asA q56 fun a59 =>
    asI .i64 q57 fun n60 =>
    STA 13 h54 ⟨g37, 0, none⟩ a58 fun h61 =>
    STA 16 h61 ⟨g51, 0, none⟩ a59 fun h62 =>
    laws_FnExactBlockOfPipe.J6 Post ⟨g1, 0, none⟩ ⟨g3, 0, none⟩ ⟨g37, 0, none⟩ ⟨g51, 0, none⟩ n60 h62) h52) h38)) h15) ∧ (ALC ⟨Z_impl_Block⟩ T_impl_Block (fun g63 h64 =>
    PIN h7 ⟨g3, 0, none⟩ 16 h64 <|
    PIN h7 ⟨g1, 0, none⟩ 13 h64 <|
    (CALL prg f_spec_BlockOfPipe #[.agg a13, .agg a16] (fun q65 h66 =>
    TUP3 q65 fun q67 q68 q69 =>
    asA q67 fun a70 =>
    asA q68 fun a71 =>
    asI .i64 q69 fun n72 =>
    ALC ⟨Z_impl_Pipe⟩ T_impl_Pipe (fun g73 h74 =>
    PIN h7 ⟨g3, 0, none⟩ 16 h74 <|
    PIN h7 ⟨g1, 0, none⟩ 13 h74 <|
    STA 13 h74 ⟨g73, 0, none⟩ a70 fun h75 =>
    STA 16 h75 ⟨g63, 0, none⟩ a71 fun h76 =>
    laws_FnExactBlockOfPipe.J6 Post ⟨g1, 0, none⟩ ⟨g3, 0, none⟩ ⟨g73, 0, none⟩ ⟨g63, 0, none⟩ n72 h76) h66) h64) ∧ (ALC ⟨Z_impl_Pipe⟩ T_impl_Pipe (fun g77 h78 =>
    PIN h7 ⟨g3, 0, none⟩ 16 h78 <|
    PIN h7 ⟨g1, 0, none⟩ 13 h78 <|
    CALL prg f_spec_BlockOfPipe #[.agg a13, .agg a16] (fun q79 h80 =>
    TUP3 q79 fun q81 q82 q83 =>
    asA q81 fun a84 =>
    asA q82 fun a85 =>
    asI .i64 q83 fun n86 =>
    STA 13 h80 ⟨g77, 0, none⟩ a84 fun h87 =>
    STA 16 h87 ⟨g63, 0, none⟩ a85 fun h88 =>
    laws_FnExactBlockOfPipe.J6 Post ⟨g1, 0, none⟩ ⟨g3, 0, none⟩ ⟨g77, 0, none⟩ ⟨g63, 0, none⟩ n86 h88) h78) h64)) h15))) h12) ∧ ((ALC ⟨Z_impl_Pipe⟩ T_impl_Pipe (fun g89 h90 =>
    PIN h7 ⟨g3, 0, none⟩ 16 h90 <|
    PIN h7 ⟨g1, 0, none⟩ 13 h90 <|
    (CALL prg f_laws_toBlock #[.agg a10] (fun q91 h92 =>
    asA q91 fun a93 =>
    (CALL prg f_spec_BlockOfPipe #[.agg a13, .agg a93] (fun q94 h95 =>
    TUP3 q94 fun q96 q97 q98 =>
    asA q96 fun a99 =>
    asA q97 fun a100 =>
    asI .i64 q98 fun n101 =>
    ALC ⟨Z_impl_Block⟩ T_impl_Block (fun g102 h103 =>
    PIN h7 ⟨g3, 0, none⟩ 16 h103 <|
    PIN h7 ⟨g1, 0, none⟩ 13 h103 <|
    STA 13 h103 ⟨g89, 0, none⟩ a99 fun h104 =>
    STA 16 h104 ⟨g102, 0, none⟩ a100 fun h105 =>
    laws_FnExactBlockOfPipe.J6 Post ⟨g1, 0, none⟩ ⟨g3, 0, none⟩ ⟨g89, 0, none⟩ ⟨g102, 0, none⟩ n101 h105) h95) h92) ∧ (ALC ⟨Z_impl_Block⟩ T_impl_Block (fun g106 h107 =>
    PIN h7 ⟨g3, 0, none⟩ 16 h107 <|
    PIN h7 ⟨g1, 0, none⟩ 13 h107 <|
    CALL prg f_spec_BlockOfPipe #[.agg a13, .agg a93] (fun q108 h109 =>
    TUP3 q108 fun q110 q111 q112 =>
    asA q110 fun a113 =>
    asA q111 fun a114 =>
    asI .i64 q112 fun n115 =>
    STA 13 h109 ⟨g89, 0, none⟩ a113 fun h116 =>
    STA 16 h116 ⟨g106, 0, none⟩ a114 fun h117 =>
    laws_FnExactBlockOfPipe.J6 Post ⟨g1, 0, none⟩ ⟨g3, 0, none⟩ ⟨g89, 0, none⟩ ⟨g106, 0, none⟩ n115 h117) h107) h92)) h90) ∧ (ALC ⟨Z_impl_Block⟩ T_impl_Block (fun g118 h119 =>
    PIN h7 ⟨g3, 0, none⟩ 16 h119 <|
    PIN h7 ⟨g1, 0, none⟩ 13 h119 <|
    CALL prg f_laws_toBlock #[.agg a10] (fun q120 h121 =>
    asA q120 fun a122 =>
    CALL prg f_spec_BlockOfPipe #[.agg a13, .agg a122] (fun q123 h124 =>
    TUP3 q123 fun q125 q126 q127 =>
    asA q125 fun a128 =>
    asA q126 fun a129 =>
    asI .i64 q127 fun n130 =>
    STA 13 h124 ⟨g89, 0, none⟩ a128 fun h131 =>
    STA 16 h131 ⟨g118, 0, none⟩ a129 fun h132 =>
    laws_FnExactBlockOfPipe.J6 Post ⟨g1, 0, none⟩ ⟨g3, 0, none⟩ ⟨g89, 0, none⟩ ⟨g118, 0, none⟩ n130 h132) h121) h119) h90)) h12) ∧ (ALC ⟨Z_impl_Block⟩ T_impl_Block (fun g133 h134 =>
    PIN h7 ⟨g3, 0, none⟩ 16 h134 <|
    PIN h7 ⟨g1, 0, none⟩ 13 h134 <|
    (CALL prg f_laws_toBlock #[.agg a10] (fun q135 h136 =>
    asA q135 fun a137 =>
    (CALL prg f_spec_BlockOfPipe #[.agg a13, .agg a137] (fun q138 h139 =>
    TUP3 q138 fun q140 q141 q142 =>
    asA q140 fun a143 =>
    asA q141 fun a144 =>
    asI .i64 q142 fun n145 =>
    ALC ⟨Z_impl_Pipe⟩ T_impl_Pipe (fun g146 h147 =>
    PIN h7 ⟨g3, 0, none⟩ 16 h147 <|
    PIN h7 ⟨g1, 0, none⟩ 13 h147 <|
    STA 13 h147 ⟨g146, 0, none⟩ a143 fun h148 =>
    STA 16 h148 ⟨g133, 0, none⟩ a144 fun h149 =>
    laws_FnExactBlockOfPipe.J6 Post ⟨g1, 0, none⟩ ⟨g3, 0, none⟩ ⟨g146, 0, none⟩ ⟨g133, 0, none⟩ n145 h149) h139) h136) ∧ (ALC ⟨Z_impl_Pipe⟩ T_impl_Pipe (fun g150 h151 =>
    PIN h7 ⟨g3, 0, none⟩ 16 h151 <|
    PIN h7 ⟨g1, 0, none⟩ 13 h151 <|
    CALL prg f_spec_BlockOfPipe #[.agg a13, .agg a137] (fun q152 h153 =>
    TUP3 q152 fun q154 q155 q156 =>
    asA q154 fun a157 =>
    asA q155 fun a158 =>
    asI .i64 q156 fun n159 =>
    STA 13 h153 ⟨g150, 0, none⟩ a157 fun h160 =>
    STA 16 h160 ⟨g133, 0, none⟩ a158 fun h161 =>
    laws_FnExactBlockOfPipe.J6 Post ⟨g1, 0, none⟩ ⟨g3, 0, none⟩ ⟨g150, 0, none⟩ ⟨g133, 0, none⟩ n159 h161) h151) h136)) h134) ∧ (ALC ⟨Z_impl_Pipe⟩ T_impl_Pipe (fun g162 h163 =>
    PIN h7 ⟨g3, 0, none⟩ 16 h163 <|
    PIN h7 ⟨g1, 0, none⟩ 13 h163 <|
    CALL prg f_laws_toBlock #[.agg a10] (fun q164 h165 =>
    asA q164 fun a166 =>
    CALL prg f_spec_BlockOfPipe #[.agg a13, .agg a166] (fun q167 h168 =>
    TUP3 q167 fun q169 q170 q171 =>
    asA q169 fun a172 =>
    asA q170 fun a173 =>
    asI .i64 q171 fun n174 =>
    STA 13 h168 ⟨g162, 0, none⟩ a172 fun h175 =>
    STA 16 h175 ⟨g133, 0, none⟩ a173 fun h176 =>
    laws_FnExactBlockOfPipe.J6 Post ⟨g1, 0, none⟩ ⟨g3, 0, none⟩ ⟨g162, 0, none⟩ ⟨g133, 0, none⟩ n174 h176) h165) h163) h134)) h12))) h7) ∧ ((ALC ⟨Z_impl_Pipe⟩ T_impl_Pipe (fun g177 h178 =>
    PIN h7 ⟨g3, 0, none⟩ 16 h178 <|
    PIN h7 ⟨g1, 0, none⟩ 13 h178 <|
    (CALL prg f_laws_toPipe #[.agg a9] (fun q179 h180 =>
    asA q179 fun a181 =>
    PIN h7 ⟨g3, 0, none⟩ 16 h180 <|
    (CALL prg f_laws_toBlock #[.agg a10] (fun q182 h183 =>
    asA q182 fun a184 =>
    (CALL prg f_spec_BlockOfPipe #[.agg a181, .agg a184] (fun q185 h186 =>
    TUP3 q185 fun q187 q188 q189 =>
    asA q187 fun a190 =>
    asA q188 fun a191 =>
    asI .i64 q189 fun n192 =>
    ALC ⟨Z_impl_Block⟩ T_impl_Block (fun g193 h194 =>
    PIN h7 ⟨g3, 0, none⟩ 16 h194 <|
    PIN h7 ⟨g1, 0, none⟩ 13 h194 <|
    STA 13 h194 ⟨g177, 0, none⟩ a190 fun h195 =>
    STA 16 h195 ⟨g193, 0, none⟩ a191 fun h196 =>
    laws_FnExactBlockOfPipe.J6 Post ⟨g1, 0, none⟩ ⟨g3, 0, none⟩ ⟨g177, 0, none⟩ ⟨g193, 0, none⟩ n192 h196) h186) h183) ∧ (ALC ⟨Z_impl_Block⟩ T_impl_Block (fun g197 h198 =>
    PIN h7 ⟨g3, 0, none⟩ 16 h198 <|
    PIN h7 ⟨g1, 0, none⟩ 13 h198 <|
    CALL prg f_spec_BlockOfPipe #[.agg a181, .agg a184] (fun q199 h200 =>
    TUP3 q199 fun q201 q202 q203 =>
    asA q201 fun a204 =>
    asA q202 fun a205 =>
    asI .i64 q203 fun n206 =>
    STA 13 h200 ⟨g177, 0, none⟩ a204 fun h207 =>
    STA 16 h207 ⟨g197, 0, none⟩ a205 fun h208 =>
    laws_FnExactBlockOfPipe.J6 Post ⟨g1, 0, none⟩ ⟨g3, 0, none⟩ ⟨g177, 0, none⟩ ⟨g197, 0, none⟩ n206 h208) h198) h183)) h180) ∧ (ALC ⟨Z_impl_Block⟩ T_impl_Block (fun g209 h210 =>
    PIN h7 ⟨g3, 0, none⟩ 16 h210 <|
    PIN h7 ⟨g1, 0, none⟩ 13 h210 <|
    CALL prg f_laws_toBlock #[.agg a10] (fun q211 h212 =>
    asA q211 fun a213 =>
    CALL prg f_spec_BlockOfPipe #[.agg a181, .agg a213] (fun q214 h215 =>
    TUP3 q214 fun q216 q217 q218 =>
    asA q216 fun a219 =>
    asA q217 fun a220 =>
    asI .i64 q218 fun n221 =>
    STA 13 h215 ⟨g177, 0, none⟩ a219 fun h222 =>
    STA 16 h222 ⟨g209, 0, none⟩ a220 fun h223 =>
    laws_FnExactBlockOfPipe.J6 Post ⟨g1, 0, none⟩ ⟨g3, 0, none⟩ ⟨g177, 0, none⟩ ⟨g209, 0, none⟩ n221 h223) h212) h210) h180)) h178) ∧ (ALC ⟨Z_impl_Block⟩ T_impl_Block (fun g224 h225 =>
    PIN h7 ⟨g3, 0, none⟩ 16 h225 <|
    PIN h7 ⟨g1, 0, none⟩ 13 h225 <|
    CALL prg f_laws_toPipe #[.agg a9] (fun q226 h227 =>
    asA q226 fun a228 =>
    PIN h7 ⟨g3, 0, none⟩ 16 h227 <|
    CALL prg f_laws_toBlock #[.agg a10] (fun q229 h230 =>
    asA q229 fun a231 =>
    CALL prg f_spec_BlockOfPipe #[.agg a228, .agg a231] (fun q232 h233 =>
    TUP3 q232 fun q234 q235 q236 =>
    asA q234 fun a237 =>
    asA q235 fun a238 =>
    asI .i64 q236 fun n239 =>
    STA 13 h233 ⟨g177, 0, none⟩ a237 fun h240 =>
    STA 16 h240 ⟨g224, 0, none⟩ a238 fun h241 =>
    laws_FnExactBlockOfPipe.J6 Post ⟨g1, 0, none⟩ ⟨g3, 0, none⟩ ⟨g177, 0, none⟩ ⟨g224, 0, none⟩ n239 h241) h230) h227) h225) h178)) h7) ∧ (ALC ⟨Z_impl_Block⟩ T_impl_Block (fun g242 h243 =>
    PIN h7 ⟨g3, 0, none⟩ 16 h243 <|
    PIN h7 ⟨g1, 0, none⟩ 13 h243 <|
    (CALL prg f_laws_toPipe #[.agg a9] (fun q244 h245 =>
    asA q244 fun a246 =>
    PIN h7 ⟨g3, 0, none⟩ 16 h245 <|
    (CALL prg f_laws_toBlock #[.agg a10] (fun q247 h248 =>
    asA q247 fun a249 =>
    (CALL prg f_spec_BlockOfPipe #[.agg a246, .agg a249] (fun q250 h251 =>
    TUP3 q250 fun q252 q253 q254 =>
    asA q252 fun a255 =>
    asA q253 fun a256 =>
    asI .i64 q254 fun n257 =>
    ALC ⟨Z_impl_Pipe⟩ T_impl_Pipe (fun g258 h259 =>
    PIN h7 ⟨g3, 0, none⟩ 16 h259 <|
    PIN h7 ⟨g1, 0, none⟩ 13 h259 <|
    STA 13 h259 ⟨g258, 0, none⟩ a255 fun h260 =>
    STA 16 h260 ⟨g242, 0, none⟩ a256 fun h261 =>
    laws_FnExactBlockOfPipe.J6 Post ⟨g1, 0, none⟩ ⟨g3, 0, none⟩ ⟨g258, 0, none⟩ ⟨g242, 0, none⟩ n257 h261) h251) h248) ∧ (ALC ⟨Z_impl_Pipe⟩ T_impl_Pipe (fun g262 h263 =>
    PIN h7 ⟨g3, 0, none⟩ 16 h263 <|
    PIN h7 ⟨g1, 0, none⟩ 13 h263 <|
    CALL prg f_spec_BlockOfPipe #[.agg a246, .agg a249] (fun q264 h265 =>
    TUP3 q264 fun q266 q267 q268 =>
    asA q266 fun a269 =>
    asA q267 fun a270 =>
    asI .i64 q268 fun n271 =>
    STA 13 h265 ⟨g262, 0, none⟩ a269 fun h272 =>
    STA 16 h272 ⟨g242, 0, none⟩ a270 fun h273 =>
    laws_FnExactBlockOfPipe.J6 Post ⟨g1, 0, none⟩ ⟨g3, 0, none⟩ ⟨g262, 0, none⟩ ⟨g242, 0, none⟩ n271 h273) h263) h248)) h245) ∧ (ALC ⟨Z_impl_Pipe⟩ T_impl_Pipe (fun g274 h275 =>
    PIN h7 ⟨g3, 0, none⟩ 16 h275 <|
    PIN h7 ⟨g1, 0, none⟩ 13 h275 <|
    CALL prg f_laws_toBlock #[.agg a10] (fun q276 h277 =>
    asA q276 fun a278 =>
    CALL prg f_spec_BlockOfPipe #[.agg a246, .agg a278] (fun q279 h280 =>
    TUP3 q279 fun q281 q282 q283 =>
    asA q281 fun a284 =>
    asA q282 fun a285 =>
    asI .i64 q283 fun n286 =>
    STA 13 h280 ⟨g274, 0, none⟩ a284 fun h287 =>
    STA 16 h287 ⟨g242, 0, none⟩ a285 fun h288 =>
    laws_FnExactBlockOfPipe.J6 Post ⟨g1, 0, none⟩ ⟨g3, 0, none⟩ ⟨g274, 0, none⟩ ⟨g242, 0, none⟩ n286 h288) h277) h275) h245)) h243) ∧ (ALC ⟨Z_impl_Pipe⟩ T_impl_Pipe (fun g289 h290 =>
    PIN h7 ⟨g3, 0, none⟩ 16 h290 <|
    PIN h7 ⟨g1, 0, none⟩ 13 h290 <|
    CALL prg f_laws_toPipe #[.agg a9] (fun q291 h292 =>
    asA q291 fun a293 =>
    PIN h7 ⟨g3, 0, none⟩ 16 h292 <|
    CALL prg f_laws_toBlock #[.agg a10] (fun q294 h295 =>
    asA q294 fun a296 =>
    CALL prg f_spec_BlockOfPipe #[.agg a293, .agg a296] (fun q297 h298 =>
    TUP3 q297 fun q299 q300 q301 =>
    asA q299 fun a302 =>
    asA q300 fun a303 =>
    asI .i64 q301 fun n304 =>
    STA 13 h298 ⟨g289, 0, none⟩ a302 fun h305 =>
    STA 16 h305 ⟨g242, 0, none⟩ a303 fun h306 =>
    laws_FnExactBlockOfPipe.J6 Post ⟨g1, 0, none⟩ ⟨g3, 0, none⟩ ⟨g289, 0, none⟩ ⟨g242, 0, none⟩ n304 h306) h295) h292) h290) h243)) h7)))) h4) h2) h
noncomputable def laws_FnExactBlockOfPipe.code : Code := (Try.f4.body).getD .skip
theorem laws_FnExactBlockOfPipe.call {aX_0 : Array Value} {aBreath_1 : Array Value} {Post : Value → Heap → Prop} {h : Heap} (H : laws_FnExactBlockOfPipe.S aX_0 aBreath_1 Post h) : CALL prg f_laws_FnExactBlockOfPipe #[.agg aX_0, .agg aBreath_1] Post h :=
  fn_call tau_ok mixed (c := laws_FnExactBlockOfPipe.code) (Λ := lookL [(6, laws_FnExactBlockOfPipe.j6 Post), (8, laws_FnExactBlockOfPipe.j8 Post), (10, laws_FnExactBlockOfPipe.j10 Post), (16, laws_FnExactBlockOfPipe.j16 Post), (25, laws_FnExactBlockOfPipe.j25 Post), (27, laws_FnExactBlockOfPipe.j27 Post)]) Try.func4 (by kernel_rfl) (by kernel_rfl)
    (Rq.seq (by kernel_rfl) (Rq.free (by kernel_rfl)) (Rq.seq (by kernel_rfl) (Rq.free (by kernel_rfl)) (Rq.seq (by kernel_rfl) (Rq.free (by kernel_rfl)) (Rq.seq (by kernel_rfl) (Rq.free (by kernel_rfl)) (Rq.seqJ (laws_FnExactBlockOfPipe.j6 Post) (by kernel_rfl) (seg (fun _ _ => by kernel_rfl)) (Rq.free (by kernel_rfl))
(Rq.seq (by kernel_rfl) (Rq.free (by kernel_rfl)) (Rq.seqJ (laws_FnExactBlockOfPipe.j8 Post) (by kernel_rfl) (seg (fun _ _ => by kernel_rfl)) (Rq.free (by kernel_rfl))
(Rq.seqJ (laws_FnExactBlockOfPipe.j10 Post) (by kernel_rfl) (seg (fun _ _ => by kernel_rfl)) (Rq.free (by kernel_rfl))
(Rq.seq (by kernel_rfl) (Rq.free (by kernel_rfl)) (Rq.seq (by kernel_rfl) (Rq.free (by kernel_rfl)) (Rq.seq (by kernel_rfl) (Rq.free (by kernel_rfl)) (Rq.seqJ (laws_FnExactBlockOfPipe.j16 Post) (by kernel_rfl) (seg (fun _ _ => by kernel_rfl)) (Rq.free (by kernel_rfl))
(Rq.seq (by kernel_rfl) (Rq.free (by kernel_rfl)) (Rq.seq (by kernel_rfl) (Rq.free (by kernel_rfl)) (Rq.seq (by kernel_rfl) (Rq.free (by kernel_rfl)) (Rq.seq (by kernel_rfl) (Rq.free (by kernel_rfl)) (Rq.seq (by kernel_rfl) (Rq.free (by kernel_rfl)) (Rq.seq (by kernel_rfl) (Rq.free (by kernel_rfl)) (Rq.seqJ (laws_FnExactBlockOfPipe.j25 Post) (by kernel_rfl) (seg (fun _ _ => by kernel_rfl)) (Rq.free (by kernel_rfl))
(Rq.seqJ (laws_FnExactBlockOfPipe.j27 Post) (by kernel_rfl) (seg (fun _ _ => by kernel_rfl)) (Rq.free (by kernel_rfl))
(Rq.free (by kernel_rfl))))))))))))))))))))))
    (Eq.mp (by kernel_rfl) H)

end Go.Sx
