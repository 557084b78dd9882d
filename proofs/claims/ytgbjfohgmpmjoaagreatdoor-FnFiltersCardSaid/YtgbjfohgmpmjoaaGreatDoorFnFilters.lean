/- What functions of this seat's program compute, told in words (a predicate over heaps for each), and the proofs that the words are no more than the code's own weakest precondition. -/
import Derived.Test.YtgbjfohgmpmjoaaGreatDoorTab
namespace Go.Sx
open Go.Proofs
set_option linter.unusedVariables false
set_option maxRecDepth 100000

def laws_FnFilters.J11 (N8 : (Option Addr × Nat × Nat × Addr × Addr × Addr × Addr × Int × Addr × Int) → Heap → Prop) (Post : Value → Heap → Prop) (more_1b : Option Addr) (more_1l : Nat) (more_1c : Nat) (f_5 : Addr) (b_6 : Addr) (g_7 : Addr) (out_8 : Addr) (one_9 : Int) (h_10 : Addr) (i_11 : Int) (next_12 : Addr) (y_13 : Nat) (two_14 : Int) (h : Heap) : Prop :=
    BIF (two_14 != (0 : Int)) (
    Post (.bool false) h) (
    IDX i_11 16 <|
    oF .f32 (cell h ((Addr.add out_8 ((Int.toNat i_11) * 1)))) fun r69 =>
    CALL prg f_impl_SameSample #[.float .f32 y_13, .float .f32 r69] (fun q70 h71 =>
    asB q70 fun b72 =>
    BIF (!b72) (
    Post (.bool false) h71) (
    LDA 6 h71 next_12 fun a73 =>
    STA 6 h71 h_10 a73 fun h74 =>
    N8 (more_1b, more_1l, more_1c, f_5, b_6, g_7, out_8, one_9, h_10, ((IntKind.i64.wrap (i_11 + (1 : Int))))) h74)) h)
def laws_FnFilters.j11 (N8 : (Option Addr × Nat × Nat × Addr × Addr × Addr × Addr × Int × Addr × Int) → Heap → Prop) (Post : Value → Heap → Prop) : Frame → Heap → Prop := fun fr h => GRD (shape (kds 151 [(1, .l), (5, .p), (6, .p), (7, .p), (8, .p), (9, .i .i64), (10, .p), (11, .i .i64), (12, .p), (13, .f .f32), (14, .i .i64)]) fr) (laws_FnFilters.J11 N8 Post (gLb (lget fr 1)) (gLl (lget fr 1)) (gLc (lget fr 1)) (gP (lget fr 5)) (gP (lget fr 6)) (gP (lget fr 7)) (gP (lget fr 8)) (gI (lget fr 9)) (gP (lget fr 10)) (gI (lget fr 11)) (gP (lget fr 12)) (gF (lget fr 13)) (gI (lget fr 14)) h)
def laws_FnFilters.J23 (N20 : (Addr × Option Addr × Nat × Nat × Option Addr × Nat × Nat × Addr × Int × Addr × Int) → Heap → Prop) (Post : Value → Heap → Prop) (f_5 : Addr) (list_15b : Option Addr) (list_15l : Nat) (list_15c : Nat) (chain_16b : Option Addr) (chain_16l : Nat) (chain_16c : Nat) (made_17 : Addr) (three_18 : Int) (x_19 : Addr) (i_20 : Int) (next_21 : Addr) (y_22 : Addr) (four_23 : Int) (h : Heap) : Prop :=
    BIF (four_23 != (0 : Int)) (
    Post (.bool false) h) (
    BIF ((decide ((chain_16l : Int) ≤ i_20))) (
    Post (.bool false) h) (
    IDXS chain_16b i_20 chain_16l fun p200 =>
    LDA 6 h ((Addr.add p200 ((Int.toNat i_20) * 6))) fun a201 =>
    LDA 6 h next_21 fun a202 =>
    CALL prg f_spec_SameFilter #[.agg a201, .agg a202] (fun q203 h204 =>
    asB q203 fun b205 =>
    BIF (!b205) (
    Post (.bool false) h204) (
    LDA 16 h204 y_22 fun a206 =>
    STA 16 h204 x_19 a206 fun h207 =>
    N20 (f_5, list_15b, list_15l, list_15c, chain_16b, chain_16l, chain_16c, made_17, three_18, x_19, ((IntKind.i64.wrap (i_20 + (1 : Int))))) h207)) h))
def laws_FnFilters.j23 (N20 : (Addr × Option Addr × Nat × Nat × Option Addr × Nat × Nat × Addr × Int × Addr × Int) → Heap → Prop) (Post : Value → Heap → Prop) : Frame → Heap → Prop := fun fr h => GRD (shape (kds 151 [(5, .p), (15, .l), (16, .l), (17, .p), (18, .i .i64), (19, .p), (20, .i .i64), (21, .p), (22, .p), (23, .i .i64)]) fr) (laws_FnFilters.J23 N20 Post (gP (lget fr 5)) (gLb (lget fr 15)) (gLl (lget fr 15)) (gLc (lget fr 15)) (gLb (lget fr 16)) (gLl (lget fr 16)) (gLc (lget fr 16)) (gP (lget fr 17)) (gI (lget fr 18)) (gP (lget fr 19)) (gI (lget fr 20)) (gP (lget fr 21)) (gP (lget fr 22)) (gI (lget fr 23)) h)
def laws_FnFilters.B20 (Post : Value → Heap → Prop) (N20 : (Addr × Option Addr × Nat × Nat × Option Addr × Nat × Nat × Addr × Int × Addr × Int) → Heap → Prop) : Addr × Option Addr × Nat × Nat × Option Addr × Nat × Nat × Addr × Int × Addr × Int → Heap → Prop
  | (f_5, list_15b, list_15l, list_15c, chain_16b, chain_16l, chain_16c, made_17, three_18, x_19, i_20), h =>
    BIF ((decide (i_20 < (list_15l : Int)))) (
    IDXS list_15b i_20 list_15l fun p96 =>
    LDA 6 h ((Addr.add p96 ((Int.toNat i_20) * 6))) fun a97 =>
    LDA 16 h x_19 fun a98 =>
    (CALL prg f_impl_RunFilter #[.agg a97, .agg a98] (fun q99 h100 =>
    TUP3 q99 fun q101 q102 q103 =>
    asA q101 fun a104 =>
    asA q102 fun a105 =>
    asI .i64 q103 fun n106 =>
    (ALC ⟨Z_impl_Filter⟩ T_impl_Filter (fun g107 h108 =>
    PIN h x_19 16 h108 <|
    PIN h ((Addr.add p96 ((Int.toNat i_20) * 6))) 6 h108 <|
    ALC ⟨Z_impl_Block⟩ T_impl_Block (fun g109 h110 =>
    PIN h x_19 16 h110 <|
    PIN h ((Addr.add p96 ((Int.toNat i_20) * 6))) 6 h110 <|
    STA 6 h110 ⟨g107, 0, none⟩ a104 fun h111 =>
    STA 16 h111 ⟨g109, 0, none⟩ a105 fun h112 =>
    laws_FnFilters.J23 N20 Post f_5 list_15b list_15l list_15c chain_16b chain_16l chain_16c made_17 three_18 x_19 i_20 ⟨g107, 0, none⟩ ⟨g109, 0, none⟩ n106 h112) h108) h100) ∧ (ALC ⟨Z_impl_Block⟩ T_impl_Block (fun g113 h114 =>
    PIN h x_19 16 h114 <|
    PIN h ((Addr.add p96 ((Int.toNat i_20) * 6))) 6 h114 <|
    ALC ⟨Z_impl_Filter⟩ T_impl_Filter (fun g115 h116 =>
    PIN h x_19 16 h116 <|
    PIN h ((Addr.add p96 ((Int.toNat i_20) * 6))) 6 h116 <|
    STA 6 h116 ⟨g115, 0, none⟩ a104 fun h117 =>
    STA 16 h117 ⟨g113, 0, none⟩ a105 fun h118 =>
    laws_FnFilters.J23 N20 Post f_5 list_15b list_15l list_15c chain_16b chain_16l chain_16c made_17 three_18 x_19 i_20 ⟨g115, 0, none⟩ ⟨g113, 0, none⟩ n106 h118) h114) h100)) h) ∧ ((ALC ⟨Z_impl_Filter⟩ T_impl_Filter (fun g119 h120 =>
    PIN h x_19 16 h120 <|
    PIN h ((Addr.add p96 ((Int.toNat i_20) * 6))) 6 h120 <|
    (CALL prg f_impl_RunFilter #[.agg a97, .agg a98] (fun q121 h122 =>
    TUP3 q121 fun q123 q124 q125 =>
    asA q123 fun a126 =>
    asA q124 fun a127 =>
    asI .i64 q125 fun n128 =>
    ALC ⟨Z_impl_Block⟩ T_impl_Block (fun g129 h130 =>
    PIN h x_19 16 h130 <|
    PIN h ((Addr.add p96 ((Int.toNat i_20) * 6))) 6 h130 <|
    STA 6 h130 ⟨g119, 0, none⟩ a126 fun h131 =>
    STA 16 h131 ⟨g129, 0, none⟩ a127 fun h132 =>
    laws_FnFilters.J23 N20 Post f_5 list_15b list_15l list_15c chain_16b chain_16l chain_16c made_17 three_18 x_19 i_20 ⟨g119, 0, none⟩ ⟨g129, 0, none⟩ n128 h132) h122) h120) ∧ (ALC ⟨Z_impl_Block⟩ T_impl_Block (fun g133 h134 =>
    PIN h x_19 16 h134 <|
    PIN h ((Addr.add p96 ((Int.toNat i_20) * 6))) 6 h134 <|
    CALL prg f_impl_RunFilter #[.agg a97, .agg a98] (fun q135 h136 =>
    TUP3 q135 fun q137 q138 q139 =>
    asA q137 fun a140 =>
    asA q138 fun a141 =>
    asI .i64 q139 fun n142 =>
    STA 6 h136 ⟨g119, 0, none⟩ a140 fun h143 =>
    STA 16 h143 ⟨g133, 0, none⟩ a141 fun h144 =>
    laws_FnFilters.J23 N20 Post f_5 list_15b list_15l list_15c chain_16b chain_16l chain_16c made_17 three_18 x_19 i_20 ⟨g119, 0, none⟩ ⟨g133, 0, none⟩ n142 h144) h134) h120)) h) ∧ (ALC ⟨Z_impl_Block⟩ T_impl_Block (fun g145 h146 =>
    PIN h x_19 16 h146 <|
    PIN h ((Addr.add p96 ((Int.toNat i_20) * 6))) 6 h146 <|
    (CALL prg f_impl_RunFilter #[.agg a97, .agg a98] (fun q147 h148 =>
    TUP3 q147 fun q149 q150 q151 =>
    asA q149 fun a152 =>
    asA q150 fun a153 =>
    asI .i64 q151 fun n154 =>
    ALC ⟨Z_impl_Filter⟩ T_impl_Filter (fun g155 h156 =>
    PIN h x_19 16 h156 <|
    PIN h ((Addr.add p96 ((Int.toNat i_20) * 6))) 6 h156 <|
    STA 6 h156 ⟨g155, 0, none⟩ a152 fun h157 =>
    STA 16 h157 ⟨g145, 0, none⟩ a153 fun h158 =>
    laws_FnFilters.J23 N20 Post f_5 list_15b list_15l list_15c chain_16b chain_16l chain_16c made_17 three_18 x_19 i_20 ⟨g155, 0, none⟩ ⟨g145, 0, none⟩ n154 h158) h148) h146) ∧ (ALC ⟨Z_impl_Filter⟩ T_impl_Filter (fun g159 h160 =>
    PIN h x_19 16 h160 <|
    PIN h ((Addr.add p96 ((Int.toNat i_20) * 6))) 6 h160 <|
    CALL prg f_impl_RunFilter #[.agg a97, .agg a98] (fun q161 h162 =>
    TUP3 q161 fun q163 q164 q165 =>
    asA q163 fun a166 =>
    asA q164 fun a167 =>
    asI .i64 q165 fun n168 =>
    STA 6 h162 ⟨g159, 0, none⟩ a166 fun h169 =>
    STA 16 h169 ⟨g145, 0, none⟩ a167 fun h170 =>
    laws_FnFilters.J23 N20 Post f_5 list_15b list_15l list_15c chain_16b chain_16l chain_16c made_17 three_18 x_19 i_20 ⟨g159, 0, none⟩ ⟨g145, 0, none⟩ n168 h170) h160) h146)) h))) (
    LDA 6 h f_5 fun a171 =>
    CALL prg f_impl_FilterText #[.agg a171] (fun q172 h173 =>
    asS q172 fun s174 =>
    CALL prg f_impl_ReadFilter #[.string s174] (fun q175 h176 =>
    TUP2 q175 fun q177 q178 =>
    asA q177 fun a179 =>
    asI .i64 q178 fun n180 =>
    ALC ⟨Z_impl_Filter⟩ T_impl_Filter (fun g181 h182 =>
    STA 6 h182 ⟨g181, 0, none⟩ a179 fun h183 =>
    BIF (three_18 == (0 : Int)) (
    BIF ((chain_16l : Int) == (list_15l : Int)) (
    LDA 16 h183 made_17 fun a188 =>
    LDA 16 h183 x_19 fun a189 =>
    CALL prg f_spec_SameBlock #[.agg a188, .agg a189] (fun q190 h191 =>
    asB q190 fun b192 =>
    BIF b192 (
    BIF (n180 == (0 : Int)) (
    LDA 6 h191 ⟨g181, 0, none⟩ fun a193 =>
    LDA 6 h191 f_5 fun a194 =>
    CALL prg f_spec_SameFilter #[.agg a193, .agg a194] (fun q195 h196 =>
    asB q195 fun b197 =>
    Post (.bool b197) h196) h191) (
    Post (.bool false) h191)) (
    Post (.bool false) h191)) h183) (
    Post (.bool false) h183)) (
    Post (.bool false) h183)) h176) h173) h)
def laws_FnFilters.g20 (fr : Frame) : Addr × Option Addr × Nat × Nat × Option Addr × Nat × Nat × Addr × Int × Addr × Int := ((gP (lget fr 5)), (gLb (lget fr 15)), (gLl (lget fr 15)), (gLc (lget fr 15)), (gLb (lget fr 16)), (gLl (lget fr 16)), (gLc (lget fr 16)), (gP (lget fr 17)), (gI (lget fr 18)), (gP (lget fr 19)), (gI (lget fr 20)))
def laws_FnFilters.l20 (Post : Value → Heap → Prop) : Frame → Heap → Prop := fun fr h => GRD (shape (kds 151 [(5, .p), (15, .l), (16, .l), (17, .p), (18, .i .i64), (19, .p), (20, .i .i64)]) fr) (LOOP (laws_FnFilters.B20 Post) (laws_FnFilters.g20 fr) h)
def laws_FnFilters.J16 (Post : Value → Heap → Prop) (more_1b : Option Addr) (more_1l : Nat) (more_1c : Nat) (f_5 : Addr) (b_6 : Addr) (h : Heap) : Prop :=
    CALL prg f_spec_A2Filters #[.slice more_1b more_1l more_1c, .int .i64 (4 : Int)] (fun q75 h76 =>
    asL q75 fun l77b l77l l77c =>
    LDA 16 h76 b_6 fun a78 =>
    CALL prg f_impl_RunChain #[.slice l77b l77l l77c, .agg a78] (fun q79 h80 =>
    TUP3 q79 fun q81 q82 q83 =>
    asL q81 fun l84b l84l l84c =>
    asA q82 fun a85 =>
    asI .i64 q83 fun n86 =>
    ALC ⟨Z_impl_Block⟩ T_impl_Block (fun g87 h88 =>
    STA 16 h88 ⟨g87, 0, none⟩ a85 fun h89 =>
    LDA 16 h89 b_6 fun a90 =>
    ALC ⟨Z_impl_Block⟩ T_impl_Block (fun g91 h92 =>
    STA 16 h92 ⟨g91, 0, none⟩ a90 fun h93 =>
    LOOP (laws_FnFilters.B20 Post) (f_5, l77b, l77l, l77c, l84b, l84l, l84c, ⟨g87, 0, none⟩, n86, ⟨g91, 0, none⟩, (0 : Int)) h93) h89) h80) h76) h
def laws_FnFilters.j16 (Post : Value → Heap → Prop) : Frame → Heap → Prop := fun fr h => GRD (shape (kds 151 [(1, .l), (5, .p), (6, .p)]) fr) (laws_FnFilters.J16 Post (gLb (lget fr 1)) (gLl (lget fr 1)) (gLc (lget fr 1)) (gP (lget fr 5)) (gP (lget fr 6)) h)
def laws_FnFilters.B8 (Post : Value → Heap → Prop) (N8 : (Option Addr × Nat × Nat × Addr × Addr × Addr × Addr × Int × Addr × Int) → Heap → Prop) : Option Addr × Nat × Nat × Addr × Addr × Addr × Addr × Int × Addr × Int → Heap → Prop
  | (more_1b, more_1l, more_1c, f_5, b_6, g_7, out_8, one_9, h_10, i_11), h =>
    BIF ((decide (i_11 < (16 : Int)))) (
    LDA 6 h h_10 fun a36 =>
    IDX i_11 16 <|
    oF .f32 (cell h ((Addr.add b_6 ((Int.toNat i_11) * 1)))) fun r37 =>
    (CALL prg f_impl_StepFilter #[.agg a36, .float .f32 r37] (fun q38 h39 =>
    TUP3 q38 fun q40 q41 q42 =>
    asA q40 fun a43 =>
    asF .f32 q41 fun r44 =>
    asI .i64 q42 fun n45 =>
    ALC ⟨Z_impl_Filter⟩ T_impl_Filter (fun g46 h47 =>
    PIN h ((Addr.add b_6 ((Int.toNat i_11) * 1))) 1 h47 <|
    PIN h h_10 6 h47 <|
    STA 6 h47 ⟨g46, 0, none⟩ a43 fun h48 =>
    laws_FnFilters.J11 N8 Post more_1b more_1l more_1c f_5 b_6 g_7 out_8 one_9 h_10 i_11 ⟨g46, 0, none⟩ r44 n45 h48) h39) h) ∧ (ALC ⟨Z_impl_Filter⟩ T_impl_Filter (fun g49 h50 =>
    PIN h ((Addr.add b_6 ((Int.toNat i_11) * 1))) 1 h50 <|
    PIN h h_10 6 h50 <|
    CALL prg f_impl_StepFilter #[.agg a36, .float .f32 r37] (fun q51 h52 =>
    TUP3 q51 fun q53 q54 q55 =>
    asA q53 fun a56 =>
    asF .f32 q54 fun r57 =>
    asI .i64 q55 fun n58 =>
    STA 6 h52 ⟨g49, 0, none⟩ a56 fun h59 =>
    laws_FnFilters.J11 N8 Post more_1b more_1l more_1c f_5 b_6 g_7 out_8 one_9 h_10 i_11 ⟨g49, 0, none⟩ r57 n58 h59) h50) h)) (
    BIF (one_9 != (0 : Int)) (
    Post (.bool false) h) (
    LDA 6 h g_7 fun a60 =>
    LDA 6 h h_10 fun a61 =>
    CALL prg f_impl_SameFilter #[.agg a60, .agg a61] (fun q62 h63 =>
    asB q62 fun b64 =>
    BIF (!b64) (
    Post (.bool false) h63) (
    LDA 6 h63 g_7 fun a65 =>
    CALL prg f_impl_ValidFilter #[.agg a65] (fun q66 h67 =>
    asB q66 fun b68 =>
    BIF (!b68) (
    Post (.bool false) h67) (
    laws_FnFilters.J16 Post more_1b more_1l more_1c f_5 b_6 h67)) h63)) h))
def laws_FnFilters.g8 (fr : Frame) : Option Addr × Nat × Nat × Addr × Addr × Addr × Addr × Int × Addr × Int := ((gLb (lget fr 1)), (gLl (lget fr 1)), (gLc (lget fr 1)), (gP (lget fr 5)), (gP (lget fr 6)), (gP (lget fr 7)), (gP (lget fr 8)), (gI (lget fr 9)), (gP (lget fr 10)), (gI (lget fr 11)))
def laws_FnFilters.l8 (Post : Value → Heap → Prop) : Frame → Heap → Prop := fun fr h => GRD (shape (kds 151 [(1, .l), (5, .p), (6, .p), (7, .p), (8, .p), (9, .i .i64), (10, .p), (11, .i .i64)]) fr) (LOOP (laws_FnFilters.B8 Post) (laws_FnFilters.g8 fr) h)
def laws_FnFilters.S (code_0b : Option Addr) (code_0l code_0c : Nat) (more_1b : Option Addr) (more_1l more_1c : Nat) (Post : Value → Heap → Prop) (h : Heap) : Prop :=
    CALL prg f_laws_a2Long #[.slice code_0b code_0l code_0c, .slice more_1b more_1l more_1c] (fun q1 h2 =>
    asB q1 fun b3 =>
    BIF b3 (
    Post (.bool true) h2) (
    CALL prg f_spec_A2Filter #[.slice code_0b code_0l code_0c] (fun q4 h5 =>
    asA q4 fun a6 =>
    ALC ⟨Z_impl_Filter⟩ T_impl_Filter (fun g7 h8 =>
    STA 6 h8 ⟨g7, 0, none⟩ a6 fun h9 =>
    CALL prg f_spec_A2Block #[.slice more_1b more_1l more_1c, .bool false] (fun q10 h11 =>
    asA q10 fun a12 =>
    ALC ⟨Z_impl_Block⟩ T_impl_Block (fun g13 h14 =>
    STA 16 h14 ⟨g13, 0, none⟩ a12 fun h15 =>
    LDA 6 h15 ⟨g7, 0, none⟩ fun a16 =>
    LDA 16 h15 ⟨g13, 0, none⟩ fun a17 =>
    CALL prg f_impl_RunFilter #[.agg a16, .agg a17] (fun q18 h19 =>
    TUP3 q18 fun q20 q21 q22 =>
    asA q20 fun a23 =>
    asA q21 fun a24 =>
    asI .i64 q22 fun n25 =>
    ALC ⟨Z_impl_Filter⟩ T_impl_Filter (fun g26 h27 =>
    ALC ⟨Z_impl_Block⟩ T_impl_Block (fun g28 h29 =>
    STA 6 h29 ⟨g26, 0, none⟩ a23 fun h30 =>
    STA 16 h30 ⟨g28, 0, none⟩ a24 fun h31 =>
    LDA 6 h31 ⟨g7, 0, none⟩ fun a32 =>
    ALC ⟨Z_impl_Filter⟩ T_impl_Filter (fun g33 h34 =>
    STA 6 h34 ⟨g33, 0, none⟩ a32 fun h35 =>
    LOOP (laws_FnFilters.B8 Post) (more_1b, more_1l, more_1c, ⟨g7, 0, none⟩, ⟨g13, 0, none⟩, ⟨g26, 0, none⟩, ⟨g28, 0, none⟩, n25, ⟨g33, 0, none⟩, (0 : Int)) h35) h31) h27) h19) h15) h11) h9) h5) h2)) h
noncomputable def laws_FnFilters.code : Code := (Tryz.f3.body).getD .skip
theorem laws_FnFilters.call {code_0b : Option Addr} {code_0l code_0c : Nat} {more_1b : Option Addr} {more_1l more_1c : Nat} {Post : Value → Heap → Prop} {h : Heap} (H : laws_FnFilters.S code_0b code_0l code_0c more_1b more_1l more_1c Post h) : CALL prg f_laws_FnFilters #[.slice code_0b code_0l code_0c, .slice more_1b more_1l more_1c] Post h :=
  fn_call tau_ok mixed (c := laws_FnFilters.code) (Λ := lookL [(1000008, laws_FnFilters.l8 Post), (16, laws_FnFilters.j16 Post), (1000020, laws_FnFilters.l20 Post)]) Tryz.func3 (by kernel_rfl) (by kernel_rfl)
    (Rq.seq (by kernel_rfl) (Rq.free (by kernel_rfl)) (Rq.seq (by kernel_rfl) (Rq.free (by kernel_rfl)) (Rq.seq (by kernel_rfl) (Rq.free (by kernel_rfl)) (Rq.seq (by kernel_rfl) (Rq.free (by kernel_rfl)) (Rq.seq (by kernel_rfl) (Rq.free (by kernel_rfl)) (Rq.seq (by kernel_rfl) (Rq.free (by kernel_rfl)) (Rq.seq (by kernel_rfl) (Rq.seq (by kernel_rfl) (Rq.free (by kernel_rfl)) (Rq.block (Rq.loop (laws_FnFilters.l8 Post) (by kernel_rfl) (segL (g := laws_FnFilters.g8) tau_ok mixed (Λ := fun N8 => lookL [(11, laws_FnFilters.j11 N8 Post)]) (fun _ _ _ => by kernel_rfl) (fun N8 => (Rq.seq (by kernel_rfl) (Rq.free (by kernel_rfl)) (Rq.seq (by kernel_rfl) (Rq.block (Rq.seqJ (laws_FnFilters.j11 N8 Post) (by kernel_rfl) (seg (fun _ _ => by kernel_rfl)) (Rq.free (by kernel_rfl))
(Rq.free (by kernel_rfl)))) (Rq.free (by kernel_rfl))))))))) (Rq.seqJ (laws_FnFilters.j16 Post) (by kernel_rfl) (seg (fun _ _ => by kernel_rfl)) (Rq.free (by kernel_rfl))
(Rq.seq (by kernel_rfl) (Rq.free (by kernel_rfl)) (Rq.seq (by kernel_rfl) (Rq.free (by kernel_rfl)) (Rq.seq (by kernel_rfl) (Rq.free (by kernel_rfl)) (Rq.seq (by kernel_rfl) (Rq.seq (by kernel_rfl) (Rq.free (by kernel_rfl)) (Rq.block (Rq.loop (laws_FnFilters.l20 Post) (by kernel_rfl) (segL (g := laws_FnFilters.g20) tau_ok mixed (Λ := fun N20 => lookL [(23, laws_FnFilters.j23 N20 Post)]) (fun _ _ _ => by kernel_rfl) (fun N20 => (Rq.seq (by kernel_rfl) (Rq.free (by kernel_rfl)) (Rq.seq (by kernel_rfl) (Rq.block (Rq.seqJ (laws_FnFilters.j23 N20 Post) (by kernel_rfl) (seg (fun _ _ => by kernel_rfl)) (Rq.free (by kernel_rfl))
(Rq.free (by kernel_rfl)))) (Rq.free (by kernel_rfl))))))))) (Rq.free (by kernel_rfl))))))))))))))
    (Eq.mp (by kernel_rfl) H)

end Go.Sx
