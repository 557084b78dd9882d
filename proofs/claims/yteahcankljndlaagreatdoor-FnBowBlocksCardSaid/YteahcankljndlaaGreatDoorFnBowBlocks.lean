/- What functions of this seat's program compute, told in words (a predicate over heaps for each), and the proofs that the words are no more than the code's own weakest precondition. -/
import Derived.Test.YteahcankljndlaaGreatDoorTab
namespace Go.Sx
open Go.Proofs
set_option linter.unusedVariables false
set_option maxRecDepth 100000

def laws_FnBowBlocks.J18 (Post : Value → Heap → Prop) (due_10 : Addr) (h : Heap) : Prop :=
    LDA 12 h due_10 fun a143 =>
    CALL prg f_impl_BowText #[.agg a143] (fun q144 h145 =>
    asS q144 fun s146 =>
    CALL prg f_impl_ReadBow #[.string s146] (fun q147 h148 =>
    TUP2 q147 fun q149 q150 =>
    asA q149 fun a151 =>
    asI .i64 q150 fun n152 =>
    ALC ⟨Z_impl_Bow⟩ T_impl_Bow (fun g153 h154 =>
    STA 12 h154 ⟨g153, 0, none⟩ a151 fun h155 =>
    LDA 12 h155 due_10 fun a156 =>
    CALL prg f_impl_MuteBow #[.agg a156] (fun q157 h158 =>
    TUP2 q157 fun q159 q160 =>
    asA q159 fun a161 =>
    asI .i64 q160 fun n162 =>
    ALC ⟨Z_impl_Bow⟩ T_impl_Bow (fun g163 h164 =>
    STA 12 h164 ⟨g163, 0, none⟩ a161 fun h165 =>
    LDA 12 h165 due_10 fun a166 =>
    CALL prg f_spec_MuteBow #[.agg a166] (fun q167 h168 =>
    TUP2 q167 fun q169 q170 =>
    asA q169 fun a171 =>
    asI .i64 q170 fun n172 =>
    ALC ⟨Z_impl_Bow⟩ T_impl_Bow (fun g173 h174 =>
    STA 12 h174 ⟨g173, 0, none⟩ a171 fun h175 =>
    LDA 12 h175 ⟨g173, 0, none⟩ fun a176 =>
    CALL prg f_impl_IsSilentBow #[.agg a176] (fun q177 h178 =>
    TUP2 q177 fun q179 q180 =>
    asB q179 fun b181 =>
    asI .i64 q180 fun n182 =>
    BIF (n152 == (0 : Int)) (
    LDA 12 h178 ⟨g153, 0, none⟩ fun a183 =>
    LDA 12 h178 due_10 fun a184 =>
    CALL prg f_spec_SameBow #[.agg a183, .agg a184] (fun q185 h186 =>
    asB q185 fun b187 =>
    BIF b187 (
    BIF (n162 == n172) (
    BIF (n162 == (0 : Int)) (
    LDA 12 h186 ⟨g163, 0, none⟩ fun a188 =>
    LDA 12 h186 ⟨g173, 0, none⟩ fun a189 =>
    CALL prg f_spec_SameBow #[.agg a188, .agg a189] (fun q190 h191 =>
    asB q190 fun b192 =>
    BIF b192 (
    BIF (n182 == (0 : Int)) (
    BIF b181 (
    LDA 12 h191 due_10 fun a193 =>
    CALL prg f_impl_ValidBow #[.agg a193] (fun q194 h195 =>
    asB q194 fun b196 =>
    BIF b196 (
    LDA 12 h195 due_10 fun a197 =>
    LDA 12 h195 ⟨g153, 0, none⟩ fun a198 =>
    CALL prg f_impl_SameBow #[.agg a197, .agg a198] (fun q199 h200 =>
    asB q199 fun b201 =>
    Post (.bool b201) h200) h195) (
    Post (.bool false) h195)) h191) (
    Post (.bool false) h191)) (
    Post (.bool false) h191)) (
    Post (.bool false) h191)) h186) (
    Post (.bool false) h186)) (
    Post (.bool false) h186)) (
    Post (.bool false) h186)) h178) (
    Post (.bool false) h178)) h175) h168) h165) h158) h155) h148) h145) h
def laws_FnBowBlocks.j18 (Post : Value → Heap → Prop) : Frame → Heap → Prop := fun fr h => GRD (shape (kds 212 [(10, .p)]) fr) (laws_FnBowBlocks.J18 Post (gP (lget fr 10)) h)
def laws_FnBowBlocks.B12 (Post : Value → Heap → Prop) (N12 : (Addr × Option Addr × Nat × Nat × Addr × Option Addr × Nat × Nat × Int × Addr × Option Addr × Nat × Nat × Int × Option Addr × Nat × Nat × Int × Addr × Option Addr × Nat × Nat × Int × Addr × Int) → Heap → Prop) : Addr × Option Addr × Nat × Nat × Addr × Option Addr × Nat × Nat × Int × Addr × Option Addr × Nat × Nat × Int × Option Addr × Nat × Nat × Int × Addr × Option Addr × Nat × Nat × Int × Addr × Int → Heap → Prop
  | (x_5, speeds_6b, speeds_6l, speeds_6c, all_7, out_8b, out_8l, out_8c, one_9, due_10, model_11b, model_11l, model_11c, want_12, a_15b, a_15l, a_15c, two_16, back_17, b_18b, b_18l, b_18c, three_19, block_20, i_21), h =>
    BIF ((decide (i_21 < (16 : Int)))) (
    IDXS speeds_6b i_21 speeds_6l fun p92 =>
    oF .f32 (cell h ((Addr.add p92 ((Int.toNat i_21) * 1)))) fun r93 =>
    IDX i_21 16 <|
    ST1 h ((Addr.add block_20 ((Int.toNat i_21) * 1))) (.float .f32 r93) fun h94 =>
    N12 (x_5, speeds_6b, speeds_6l, speeds_6c, all_7, out_8b, out_8l, out_8c, one_9, due_10, model_11b, model_11l, model_11c, want_12, a_15b, a_15l, a_15c, two_16, back_17, b_18b, b_18l, b_18c, three_19, block_20, ((IntKind.i64.wrap (i_21 + (1 : Int))))) h94) (
    LDA 12 h x_5 fun a95 =>
    LDA 16 h block_20 fun a96 =>
    CALL prg f_impl_BlockOfBow #[.agg a95, .agg a96] (fun q97 h98 =>
    TUP3 q97 fun q99 q100 q101 =>
    asA q99 fun a102 =>
    asA q100 fun a103 =>
    asI .i64 q101 fun n104 =>
    ALC ⟨Z_impl_Bow⟩ T_impl_Bow (fun g105 h106 =>
    ALC ⟨Z_impl_Block⟩ T_impl_Block (fun g107 h108 =>
    STA 12 h108 ⟨g105, 0, none⟩ a102 fun h109 =>
    STA 16 h109 ⟨g107, 0, none⟩ a103 fun h110 =>
    BIF (one_9 != want_12) (
    Post (.bool false) h110) (
    BIF (one_9 != (0 : Int)) (
    Post (.bool false) h110) (
    LDA 12 h110 all_7 fun a111 =>
    LDA 12 h110 due_10 fun a112 =>
    CALL prg f_spec_SameBow #[.agg a111, .agg a112] (fun q113 h114 =>
    asB q113 fun b115 =>
    BIF (!b115) (
    Post (.bool false) h114) (
    CALL prg f_spec_SameReals #[.slice out_8b out_8l out_8c, .slice model_11b model_11l model_11c] (fun q116 h117 =>
    asB q116 fun b118 =>
    BIF (!b118) (
    Post (.bool false) h117) (
    BIF (two_16 != (0 : Int)) (
    Post (.bool false) h117) (
    BIF (three_19 != (0 : Int)) (
    Post (.bool false) h117) (
    LDA 12 h117 back_17 fun a119 =>
    LDA 12 h117 due_10 fun a120 =>
    CALL prg f_spec_SameBow #[.agg a119, .agg a120] (fun q121 h122 =>
    asB q121 fun b123 =>
    BIF (!b123) (
    Post (.bool false) h122) (
    ALC ⟨[]⟩ T_float32 (fun g124 h125 =>
    SEMV prg (Builtin.append_ #[T_sl_float32, T_sl_float32] T_sl_float32 #[.slice (some ⟨g124, 0, none⟩) 0 0, .slice a_15b a_15l a_15c]) (fun q126 h127 =>
    asL q126 fun l128b l128l l128c =>
    SEMV prg (Builtin.append_ #[T_sl_float32, T_sl_float32] T_sl_float32 #[.slice l128b l128l l128c, .slice b_18b b_18l b_18c]) (fun q129 h130 =>
    asL q129 fun l131b l131l l131c =>
    CALL prg f_spec_SameReals #[.slice l131b l131l l131c, .slice model_11b model_11l model_11c] (fun q132 h133 =>
    asB q132 fun b134 =>
    BIF (!b134) (
    Post (.bool false) h133) (
    BIF (n104 != (0 : Int)) (
    Post (.bool false) h133) (
    LDA 12 h133 ⟨g105, 0, none⟩ fun a135 =>
    LDA 12 h133 due_10 fun a136 =>
    CALL prg f_spec_SameBow #[.agg a135, .agg a136] (fun q137 h138 =>
    asB q137 fun b139 =>
    BIF (!b139) (
    Post (.bool false) h138) (
    SLB (0 : Int) (16 : Int) (16 : Int) <|
    CALL prg f_spec_SameReals #[.slice (some (slP ⟨g107, 0, none⟩ 16 0 1)) (16 - 0) (16 - 0), .slice model_11b model_11l model_11c] (fun q140 h141 =>
    asB q140 fun b142 =>
    BIF (!b142) (
    Post (.bool false) h141) (
    laws_FnBowBlocks.J18 Post due_10 h141)) h138)) h133))) h130) h127) h125) h122)) h117)))) h114)) h110))) h106) h98) h)
def laws_FnBowBlocks.g12 (fr : Frame) : Addr × Option Addr × Nat × Nat × Addr × Option Addr × Nat × Nat × Int × Addr × Option Addr × Nat × Nat × Int × Option Addr × Nat × Nat × Int × Addr × Option Addr × Nat × Nat × Int × Addr × Int := ((gP (lget fr 5)), (gLb (lget fr 6)), (gLl (lget fr 6)), (gLc (lget fr 6)), (gP (lget fr 7)), (gLb (lget fr 8)), (gLl (lget fr 8)), (gLc (lget fr 8)), (gI (lget fr 9)), (gP (lget fr 10)), (gLb (lget fr 11)), (gLl (lget fr 11)), (gLc (lget fr 11)), (gI (lget fr 12)), (gLb (lget fr 15)), (gLl (lget fr 15)), (gLc (lget fr 15)), (gI (lget fr 16)), (gP (lget fr 17)), (gLb (lget fr 18)), (gLl (lget fr 18)), (gLc (lget fr 18)), (gI (lget fr 19)), (gP (lget fr 20)), (gI (lget fr 21)))
def laws_FnBowBlocks.l12 (Post : Value → Heap → Prop) : Frame → Heap → Prop := fun fr h => GRD (shape (kds 212 [(5, .p), (6, .l), (7, .p), (8, .l), (9, .i .i64), (10, .p), (11, .l), (12, .i .i64), (15, .l), (16, .i .i64), (17, .p), (18, .l), (19, .i .i64), (20, .p), (21, .i .i64)]) fr) (LOOP (laws_FnBowBlocks.B12 Post) (laws_FnBowBlocks.g12 fr) h)
def laws_FnBowBlocks.J10 (Post : Value → Heap → Prop) (x_5 : Addr) (speeds_6b : Option Addr) (speeds_6l : Nat) (speeds_6c : Nat) (all_7 : Addr) (out_8b : Option Addr) (out_8l : Nat) (out_8c : Nat) (one_9 : Int) (due_10 : Addr) (model_11b : Option Addr) (model_11l : Nat) (model_11c : Nat) (want_12 : Int) (a_15b : Option Addr) (a_15l : Nat) (a_15c : Nat) (two_16 : Int) (back_17 : Addr) (b_18b : Option Addr) (b_18l : Nat) (b_18c : Nat) (three_19 : Int) (h : Heap) : Prop :=
    ALC ⟨Z_impl_Block⟩ T_impl_Block (fun g89 h90 =>
    STA 16 h90 ⟨g89, 0, none⟩ (⟨[.float .f32 0, .float .f32 0, .float .f32 0, .float .f32 0, .float .f32 0, .float .f32 0, .float .f32 0, .float .f32 0, .float .f32 0, .float .f32 0, .float .f32 0, .float .f32 0, .float .f32 0, .float .f32 0, .float .f32 0, .float .f32 0]⟩ : Array Value) fun h91 =>
    LOOP (laws_FnBowBlocks.B12 Post) (x_5, speeds_6b, speeds_6l, speeds_6c, all_7, out_8b, out_8l, out_8c, one_9, due_10, model_11b, model_11l, model_11c, want_12, a_15b, a_15l, a_15c, two_16, back_17, b_18b, b_18l, b_18c, three_19, ⟨g89, 0, none⟩, (0 : Int)) h91) h
def laws_FnBowBlocks.j10 (Post : Value → Heap → Prop) : Frame → Heap → Prop := fun fr h => GRD (shape (kds 212 [(5, .p), (6, .l), (7, .p), (8, .l), (9, .i .i64), (10, .p), (11, .l), (12, .i .i64), (15, .l), (16, .i .i64), (17, .p), (18, .l), (19, .i .i64)]) fr) (laws_FnBowBlocks.J10 Post (gP (lget fr 5)) (gLb (lget fr 6)) (gLl (lget fr 6)) (gLc (lget fr 6)) (gP (lget fr 7)) (gLb (lget fr 8)) (gLl (lget fr 8)) (gLc (lget fr 8)) (gI (lget fr 9)) (gP (lget fr 10)) (gLb (lget fr 11)) (gLl (lget fr 11)) (gLc (lget fr 11)) (gI (lget fr 12)) (gLb (lget fr 15)) (gLl (lget fr 15)) (gLc (lget fr 15)) (gI (lget fr 16)) (gP (lget fr 17)) (gLb (lget fr 18)) (gLl (lget fr 18)) (gLc (lget fr 18)) (gI (lget fr 19)) h)
def laws_FnBowBlocks.J9 (Post : Value → Heap → Prop) (x_5 : Addr) (speeds_6b : Option Addr) (speeds_6l : Nat) (speeds_6c : Nat) (all_7 : Addr) (out_8b : Option Addr) (out_8l : Nat) (out_8c : Nat) (one_9 : Int) (due_10 : Addr) (model_11b : Option Addr) (model_11l : Nat) (model_11c : Nat) (want_12 : Int) (k_13 : Int) (front_14 : Addr) (a_15b : Option Addr) (a_15l : Nat) (a_15c : Nat) (two_16 : Int) (h : Heap) : Prop :=
    LDA 12 h front_14 fun a66 =>
    SLB k_13 (speeds_6l : Int) (speeds_6c : Int) <|
    (CALL prg f_impl_PlayBow #[.agg a66, .slice (slA speeds_6b speeds_6c (Int.toNat k_13) 1) (speeds_6l - (Int.toNat k_13)) (speeds_6c - (Int.toNat k_13))] (fun q67 h68 =>
    TUP3 q67 fun q69 q70 q71 =>
    asA q69 fun a72 =>
    asL q70 fun l73b l73l l73c =>
    asI .i64 q71 fun n74 =>
    ALC ⟨Z_impl_Bow⟩ T_impl_Bow (fun g75 h76 =>
    PIN h front_14 12 h76 <|
    STA 12 h76 ⟨g75, 0, none⟩ a72 fun h77 =>
    laws_FnBowBlocks.J10 Post x_5 speeds_6b speeds_6l speeds_6c all_7 out_8b out_8l out_8c one_9 due_10 model_11b model_11l model_11c want_12 a_15b a_15l a_15c two_16 ⟨g75, 0, none⟩ l73b l73l l73c n74 h77) h68) h) ∧ (ALC ⟨Z_impl_Bow⟩ T_impl_Bow (fun g78 h79 =>
    PIN h front_14 12 h79 <|
    CALL prg f_impl_PlayBow #[.agg a66, .slice (slA speeds_6b speeds_6c (Int.toNat k_13) 1) (speeds_6l - (Int.toNat k_13)) (speeds_6c - (Int.toNat k_13))] (fun q80 h81 =>
    TUP3 q80 fun q82 q83 q84 =>
    asA q82 fun a85 =>
    asL q83 fun l86b l86l l86c =>
    asI .i64 q84 fun n87 =>
    STA 12 h81 ⟨g78, 0, none⟩ a85 fun h88 =>
    laws_FnBowBlocks.J10 Post x_5 speeds_6b speeds_6l speeds_6c all_7 out_8b out_8l out_8c one_9 due_10 model_11b model_11l model_11c want_12 a_15b a_15l a_15c two_16 ⟨g78, 0, none⟩ l86b l86l l86c n87 h88) h79) h)
def laws_FnBowBlocks.j9 (Post : Value → Heap → Prop) : Frame → Heap → Prop := fun fr h => GRD (shape (kds 212 [(5, .p), (6, .l), (7, .p), (8, .l), (9, .i .i64), (10, .p), (11, .l), (12, .i .i64), (13, .i .i64), (14, .p), (15, .l), (16, .i .i64)]) fr) (laws_FnBowBlocks.J9 Post (gP (lget fr 5)) (gLb (lget fr 6)) (gLl (lget fr 6)) (gLc (lget fr 6)) (gP (lget fr 7)) (gLb (lget fr 8)) (gLl (lget fr 8)) (gLc (lget fr 8)) (gI (lget fr 9)) (gP (lget fr 10)) (gLb (lget fr 11)) (gLl (lget fr 11)) (gLc (lget fr 11)) (gI (lget fr 12)) (gI (lget fr 13)) (gP (lget fr 14)) (gLb (lget fr 15)) (gLl (lget fr 15)) (gLc (lget fr 15)) (gI (lget fr 16)) h)
def laws_FnBowBlocks.J3 (Post : Value → Heap → Prop) (code_0b : Option Addr) (code_0l : Nat) (code_0c : Nat) (more_1b : Option Addr) (more_1l : Nat) (more_1c : Nat) (h : Heap) : Prop :=
    CALL prg f_spec_P6Bow #[.slice code_0b code_0l code_0c] (fun q7 h8 =>
    asA q7 fun a9 =>
    ALC ⟨Z_impl_Bow⟩ T_impl_Bow (fun g10 h11 =>
    STA 12 h11 ⟨g10, 0, none⟩ a9 fun h12 =>
    CALL prg f_spec_P6Plains #[.slice more_1b more_1l more_1c, .int .i64 (16 : Int)] (fun q13 h14 =>
    asL q13 fun l15b l15l l15c =>
    LDA 12 h14 ⟨g10, 0, none⟩ fun a16 =>
    CALL prg f_impl_PlayBow #[.agg a16, .slice l15b l15l l15c] (fun q17 h18 =>
    TUP3 q17 fun q19 q20 q21 =>
    asA q19 fun a22 =>
    asL q20 fun l23b l23l l23c =>
    asI .i64 q21 fun n24 =>
    ALC ⟨Z_impl_Bow⟩ T_impl_Bow (fun g25 h26 =>
    STA 12 h26 ⟨g25, 0, none⟩ a22 fun h27 =>
    LDA 12 h27 ⟨g10, 0, none⟩ fun a28 =>
    CALL prg f_spec_PlayBow #[.agg a28, .slice l15b l15l l15c] (fun q29 h30 =>
    TUP3 q29 fun q31 q32 q33 =>
    asA q31 fun a34 =>
    asL q32 fun l35b l35l l35c =>
    asI .i64 q33 fun n36 =>
    ALC ⟨Z_impl_Bow⟩ T_impl_Bow (fun g37 h38 =>
    STA 12 h38 ⟨g37, 0, none⟩ a34 fun h39 =>
    CALL prg f_spec_P6Pick #[.slice more_1b more_1l more_1c, .int .i64 (17 : Int)] (fun q40 h41 =>
    asI .i64 q40 fun n42 =>
    LDA 12 h41 ⟨g10, 0, none⟩ fun a43 =>
    SLB (0 : Int) n42 (l15c : Int) <|
    (CALL prg f_impl_PlayBow #[.agg a43, .slice (slA l15b l15c 0 1) ((Int.toNat n42) - 0) (l15c - 0)] (fun q44 h45 =>
    TUP3 q44 fun q46 q47 q48 =>
    asA q46 fun a49 =>
    asL q47 fun l50b l50l l50c =>
    asI .i64 q48 fun n51 =>
    ALC ⟨Z_impl_Bow⟩ T_impl_Bow (fun g52 h53 =>
    PIN h41 ⟨g10, 0, none⟩ 12 h53 <|
    STA 12 h53 ⟨g52, 0, none⟩ a49 fun h54 =>
    laws_FnBowBlocks.J9 Post ⟨g10, 0, none⟩ l15b l15l l15c ⟨g25, 0, none⟩ l23b l23l l23c n24 ⟨g37, 0, none⟩ l35b l35l l35c n36 n42 ⟨g52, 0, none⟩ l50b l50l l50c n51 h54) h45) h41) ∧ (ALC ⟨Z_impl_Bow⟩ T_impl_Bow (fun g55 h56 =>
    PIN h41 ⟨g10, 0, none⟩ 12 h56 <|
    CALL prg f_impl_PlayBow #[.agg a43, .slice (slA l15b l15c 0 1) ((Int.toNat n42) - 0) (l15c - 0)] (fun q57 h58 =>
    TUP3 q57 fun q59 q60 q61 =>
    asA q59 fun a62 =>
    asL q60 fun l63b l63l l63c =>
    asI .i64 q61 fun n64 =>
    STA 12 h58 ⟨g55, 0, none⟩ a62 fun h65 =>
    laws_FnBowBlocks.J9 Post ⟨g10, 0, none⟩ l15b l15l l15c ⟨g25, 0, none⟩ l23b l23l l23c n24 ⟨g37, 0, none⟩ l35b l35l l35c n36 n42 ⟨g55, 0, none⟩ l63b l63l l63c n64 h65) h56) h41)) h39) h30) h27) h18) h14) h12) h8) h
def laws_FnBowBlocks.j3 (Post : Value → Heap → Prop) : Frame → Heap → Prop := fun fr h => GRD (shape (kds 212 [(0, .l), (1, .l)]) fr) (laws_FnBowBlocks.J3 Post (gLb (lget fr 0)) (gLl (lget fr 0)) (gLc (lget fr 0)) (gLb (lget fr 1)) (gLl (lget fr 1)) (gLc (lget fr 1)) h)
def laws_FnBowBlocks.S (code_0b : Option Addr) (code_0l code_0c : Nat) (more_1b : Option Addr) (more_1l more_1c : Nat) (Post : Value → Heap → Prop) (h : Heap) : Prop :=
    CALL prg f_laws_f6big #[.slice code_0b code_0l code_0c] (fun q1 h2 =>
    asB q1 fun b3 =>
    BIF b3 (
    Post (.bool true) h2) (
    CALL prg f_laws_f6big #[.slice more_1b more_1l more_1c] (fun q4 h5 =>
    asB q4 fun b6 =>
    BIF b6 (
    Post (.bool true) h5) (
    laws_FnBowBlocks.J3 Post code_0b code_0l code_0c more_1b more_1l more_1c h5)) h2)) h
noncomputable def laws_FnBowBlocks.code : Code := (Tryz.f4.body).getD .skip
theorem laws_FnBowBlocks.call {code_0b : Option Addr} {code_0l code_0c : Nat} {more_1b : Option Addr} {more_1l more_1c : Nat} {Post : Value → Heap → Prop} {h : Heap} (H : laws_FnBowBlocks.S code_0b code_0l code_0c more_1b more_1l more_1c Post h) : CALL prg f_laws_FnBowBlocks #[.slice code_0b code_0l code_0c, .slice more_1b more_1l more_1c] Post h :=
  fn_call tau_ok mixed (c := laws_FnBowBlocks.code) (Λ := lookL [(3, laws_FnBowBlocks.j3 Post), (9, laws_FnBowBlocks.j9 Post), (10, laws_FnBowBlocks.j10 Post), (1000012, laws_FnBowBlocks.l12 Post), (18, laws_FnBowBlocks.j18 Post)]) Tryz.func4 (by kernel_rfl) (by kernel_rfl)
    (Rq.seq (by kernel_rfl) (Rq.free (by kernel_rfl)) (Rq.seqJ (laws_FnBowBlocks.j3 Post) (by kernel_rfl) (seg (fun _ _ => by kernel_rfl)) (Rq.free (by kernel_rfl))
(Rq.seq (by kernel_rfl) (Rq.free (by kernel_rfl)) (Rq.seq (by kernel_rfl) (Rq.free (by kernel_rfl)) (Rq.seq (by kernel_rfl) (Rq.free (by kernel_rfl)) (Rq.seq (by kernel_rfl) (Rq.free (by kernel_rfl)) (Rq.seq (by kernel_rfl) (Rq.free (by kernel_rfl)) (Rq.seqJ (laws_FnBowBlocks.j9 Post) (by kernel_rfl) (seg (fun _ _ => by kernel_rfl)) (Rq.free (by kernel_rfl))
(Rq.seqJ (laws_FnBowBlocks.j10 Post) (by kernel_rfl) (seg (fun _ _ => by kernel_rfl)) (Rq.free (by kernel_rfl))
(Rq.seq (by kernel_rfl) (Rq.free (by kernel_rfl)) (Rq.seq (by kernel_rfl) (Rq.seq (by kernel_rfl) (Rq.free (by kernel_rfl)) (Rq.block (Rq.loop (laws_FnBowBlocks.l12 Post) (by kernel_rfl) (segL (g := laws_FnBowBlocks.g12) tau_ok mixed (Λ := fun N12 => lookL []) (fun _ _ _ => by kernel_rfl) (fun N12 => (Rq.free (by kernel_rfl))))))) (Rq.seq (by kernel_rfl) (Rq.free (by kernel_rfl)) (Rq.seqJ (laws_FnBowBlocks.j18 Post) (by kernel_rfl) (seg (fun _ _ => by kernel_rfl)) (Rq.free (by kernel_rfl))
(Rq.free (by kernel_rfl)))))))))))))))
    (Eq.mp (by kernel_rfl) H)

end Go.Sx
