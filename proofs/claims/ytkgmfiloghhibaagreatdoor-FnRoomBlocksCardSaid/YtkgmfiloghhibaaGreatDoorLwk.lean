/- New values kept in blocks, and what is read of them. -/
import Derived.Test.YtkgmfiloghhibaaGreatDoorLp4
import Derived.Test.YtkgmfiloghhibaaGreatDoorLk4
import Derived.Test.YtkgmfiloghhibaaGreatDoorK10
import Derived.Test.YtkgmfiloghhibaaGreatDoorLk21
import Derived.Test.YtkgmfiloghhibaaGreatDoorLfk
import Derived.Test.YtkgmfiloghhibaaGreatDoorTab
set_option linter.unusedVariables false
set_option linter.unusedSimpArgs false
namespace Go.Sx
open Go.Proofs
set_option maxRecDepth 100000
set_option maxHeartbeats 2000000

/-- Bytes that are read. -/
structure Reads (h : Heap) (cb mb : Option Addr) (code more : List Int) : Prop where
  c : Cells h cb (iv .u8 code)
  m : Cells h mb (iv .u8 more)
  bc : Byt' code
  bm : Byt' more
theorem Reads.ext {h h' : Heap} {cb mb : Option Addr} {code more : List Int} (G : Reads h cb mb code more) (X : Ext h h') : Reads h' cb mb code more := ⟨G.c.ext X, G.m.ext X, G.bc, G.bm⟩
theorem keepIn {α : Type} {r : Rep α} {h hh : Heap} {B W : List Blk} {cs Z : Array Value} {x : α} {T n : Nat} {F : Nat → Heap → Prop} (O : r.ow B cs.toList x) (hn : r.sz = n) (hz : Z.size = n) (M : Mem h hh W) (H : ∀ g h2, Mem h h2 ((g, T, cs) :: W) → F g h2) : ALC Z T (fun g h1 => STA n h1 ⟨g, 0, none⟩ cs fun h2 => F g h2) hh :=
  M.alc fun g h1 _ M => M.sta0 .here (by rw [← hn]; simpa using r.olen O) (r.oone O) hz .here fun h2 M => H g h2 M
theorem keepR {α : Type} {r : Rep α} {h hh : Heap} {B : List Blk} {cs Z : Array Value} {x : α} {T n : Nat} {F : Nat → Heap → Prop} (O : r.ow B cs.toList x) (hn : r.sz = n) (hz : Z.size = n) (M : Mem h hh B) (H : ∀ g h2, Ext h h2 → RdP r h2 ⟨g, 0, none⟩ x → F g h2) : ALC Z T (fun g h1 => STA n h1 ⟨g, 0, none⟩ cs fun h2 => F g h2) hh :=
  keepIn O hn hz M fun g h2 M => H g h2 M.ext (M.rdp .here (r.look O M (List.sublist_cons_self _ _)))
/-- A thing kept, beside a slice of floats. -/
theorem keepS {α : Type} {r : Rep α} {h hh : Heap} {B C : List Blk} {cs Z : Array Value} {x : α} {T n : Nat} {b : Option Addr} {l c : Nat} {ys : List Nat} {F : Nat → Heap → Prop} (O : r.ow B cs.toList x) (S : SlO T_float32 (rF .f32) C b l c ys) (hn : r.sz = n) (hz : Z.size = n) (M : Mem h hh (B ++ C)) (H : ∀ g h2, Ext h h2 → RdP r h2 ⟨g, 0, none⟩ x → SlR (rF .f32) h2 b l c ys → F g h2) : ALC Z T (fun g h1 => STA n h1 ⟨g, 0, none⟩ cs fun h2 => F g h2) hh :=
  keepIn O hn hz M fun g h2 M => H g h2 M.ext (M.rdp .here (r.look O M ((List.sublist_append_left _ _).trans (List.sublist_cons_self _ _)))) (S.look M ((List.sublist_append_right _ _).trans (List.sublist_cons_self _ _)))
abbrev TB2 (h : Heap) : Value → Heap → Prop := fun u h' => u = .bool true ∧ Ext h h'
end Go.Sx
/- Two things that are the same, looked at by a call. -/
set_option linter.unusedVariables false
namespace Go.Sx
open Go.Proofs
theorem same_t {α : Type} {a : α} {P : Program} {f : FuncId} {args : Array Value} {hh : Heap} {K : Value → Heap → Prop} (c : CALL P f args (fun u h' => u = .bool (same a a) ∧ Ext hh h') hh) (H : ∀ h', Ext hh h' → K (.bool true) h') : CALL P f args K hh :=
  goX c fun h' x => by rw [same_refl]; exact H h' x
end Go.Sx
/- What functions of this seat's program compute, told in words (a predicate over heaps for each), and the proofs that the words are no more than the code's own weakest precondition. -/
namespace Go.Sx
open Go.Proofs
set_option linter.unusedVariables false
set_option maxRecDepth 100000

def laws_FnRoomBlocks.J18 (Post : Value → Heap → Prop) (due_10 : Addr) (h : Heap) : Prop :=
    LDA 47 h due_10 fun a143 =>
    CALL prg f_impl_RoomText #[.agg a143] (fun q144 h145 =>
    asS q144 fun s146 =>
    CALL prg f_impl_ReadRoom #[.string s146] (fun q147 h148 =>
    TUP2 q147 fun q149 q150 =>
    asA q149 fun a151 =>
    asI .i64 q150 fun n152 =>
    ALC ⟨Z_impl_Room⟩ T_impl_Room (fun g153 h154 =>
    STA 47 h154 ⟨g153, 0, none⟩ a151 fun h155 =>
    LDA 47 h155 due_10 fun a156 =>
    CALL prg f_impl_EnergyOfRoom #[.agg a156] (fun q157 h158 =>
    TUP2 q157 fun q159 q160 =>
    asF .f64 q159 fun r161 =>
    asI .i64 q160 fun n162 =>
    LDA 47 h158 due_10 fun a163 =>
    CALL prg f_spec_EnergyOfRoom #[.agg a163] (fun q164 h165 =>
    TUP2 q164 fun q166 q167 =>
    asF .f64 q166 fun r168 =>
    asI .i64 q167 fun n169 =>
    LDA 47 h165 due_10 fun a170 =>
    CALL prg f_impl_MuteRoom #[.agg a170] (fun q171 h172 =>
    TUP2 q171 fun q173 q174 =>
    asA q173 fun a175 =>
    asI .i64 q174 fun n176 =>
    ALC ⟨Z_impl_Room⟩ T_impl_Room (fun g177 h178 =>
    STA 47 h178 ⟨g177, 0, none⟩ a175 fun h179 =>
    LDA 47 h179 due_10 fun a180 =>
    CALL prg f_spec_MuteRoom #[.agg a180] (fun q181 h182 =>
    TUP2 q181 fun q183 q184 =>
    asA q183 fun a185 =>
    asI .i64 q184 fun n186 =>
    ALC ⟨Z_impl_Room⟩ T_impl_Room (fun g187 h188 =>
    STA 47 h188 ⟨g187, 0, none⟩ a185 fun h189 =>
    LDA 47 h189 ⟨g187, 0, none⟩ fun a190 =>
    CALL prg f_impl_IsSilentRoom #[.agg a190] (fun q191 h192 =>
    TUP2 q191 fun q193 q194 =>
    asB q193 fun b195 =>
    asI .i64 q194 fun n196 =>
    BIF (n152 == (0 : Int)) (
    LDA 47 h192 ⟨g153, 0, none⟩ fun a197 =>
    LDA 47 h192 due_10 fun a198 =>
    CALL prg f_spec_SameRoom #[.agg a197, .agg a198] (fun q199 h200 =>
    asB q199 fun b201 =>
    BIF b201 (
    BIF (n162 == n169) (
    BIF (n162 == (0 : Int)) (
    BIF (FloatKind.f64.format.order r161 r168 == some .eq) (
    BIF (FloatKind.f64.format.order r161 0 == some .gt || FloatKind.f64.format.order r161 0 == some .eq) (
    BIF (n176 == n186) (
    BIF (n176 == (0 : Int)) (
    LDA 47 h200 ⟨g177, 0, none⟩ fun a202 =>
    LDA 47 h200 ⟨g187, 0, none⟩ fun a203 =>
    CALL prg f_spec_SameRoom #[.agg a202, .agg a203] (fun q204 h205 =>
    asB q204 fun b206 =>
    BIF b206 (
    BIF (n196 == (0 : Int)) (
    BIF b195 (
    LDA 47 h205 due_10 fun a207 =>
    CALL prg f_impl_ValidRoom #[.agg a207] (fun q208 h209 =>
    asB q208 fun b210 =>
    BIF b210 (
    LDA 47 h209 due_10 fun a211 =>
    LDA 47 h209 ⟨g153, 0, none⟩ fun a212 =>
    CALL prg f_impl_SameRoom #[.agg a211, .agg a212] (fun q213 h214 =>
    asB q213 fun b215 =>
    Post (.bool b215) h214) h209) (
    Post (.bool false) h209)) h205) (
    Post (.bool false) h205)) (
    Post (.bool false) h205)) (
    Post (.bool false) h205)) h200) (
    Post (.bool false) h200)) (
    Post (.bool false) h200)) (
    Post (.bool false) h200)) (
    Post (.bool false) h200)) (
    Post (.bool false) h200)) (
    Post (.bool false) h200)) (
    Post (.bool false) h200)) h192) (
    Post (.bool false) h192)) h189) h182) h179) h172) h165) h158) h155) h148) h145) h
def laws_FnRoomBlocks.j18 (Post : Value → Heap → Prop) : Frame → Heap → Prop := fun fr h => GRD (shape (kds 244 [(10, .p)]) fr) (laws_FnRoomBlocks.J18 Post (gP (lget fr 10)) h)
def laws_FnRoomBlocks.B12 (Post : Value → Heap → Prop) (N12 : (Addr × Option Addr × Nat × Nat × Addr × Option Addr × Nat × Nat × Int × Addr × Option Addr × Nat × Nat × Int × Option Addr × Nat × Nat × Int × Addr × Option Addr × Nat × Nat × Int × Addr × Int) → Heap → Prop) : Addr × Option Addr × Nat × Nat × Addr × Option Addr × Nat × Nat × Int × Addr × Option Addr × Nat × Nat × Int × Option Addr × Nat × Nat × Int × Addr × Option Addr × Nat × Nat × Int × Addr × Int → Heap → Prop
  | (x_5, in_6b, in_6l, in_6c, all_7, out_8b, out_8l, out_8c, one_9, due_10, model_11b, model_11l, model_11c, want_12, a_15b, a_15l, a_15c, two_16, back_17, b_18b, b_18l, b_18c, three_19, block_20, i_21), h =>
    BIF ((decide (i_21 < (16 : Int)))) (
    IDXS in_6b i_21 in_6l fun p92 =>
    oF .f32 (cell h ((Addr.add p92 ((Int.toNat i_21) * 1)))) fun r93 =>
    IDX i_21 16 <|
    ST1 h ((Addr.add block_20 ((Int.toNat i_21) * 1))) (.float .f32 r93) fun h94 =>
    N12 (x_5, in_6b, in_6l, in_6c, all_7, out_8b, out_8l, out_8c, one_9, due_10, model_11b, model_11l, model_11c, want_12, a_15b, a_15l, a_15c, two_16, back_17, b_18b, b_18l, b_18c, three_19, block_20, ((IntKind.i64.wrap (i_21 + (1 : Int))))) h94) (
    LDA 47 h x_5 fun a95 =>
    LDA 16 h block_20 fun a96 =>
    CALL prg f_impl_BlockOfRoom #[.agg a95, .agg a96] (fun q97 h98 =>
    TUP3 q97 fun q99 q100 q101 =>
    asA q99 fun a102 =>
    asA q100 fun a103 =>
    asI .i64 q101 fun n104 =>
    ALC ⟨Z_impl_Room⟩ T_impl_Room (fun g105 h106 =>
    ALC ⟨Z_impl_Block⟩ T_impl_Block (fun g107 h108 =>
    STA 47 h108 ⟨g105, 0, none⟩ a102 fun h109 =>
    STA 16 h109 ⟨g107, 0, none⟩ a103 fun h110 =>
    BIF (one_9 != want_12) (
    Post (.bool false) h110) (
    BIF (one_9 != (0 : Int)) (
    Post (.bool false) h110) (
    LDA 47 h110 all_7 fun a111 =>
    LDA 47 h110 due_10 fun a112 =>
    CALL prg f_spec_SameRoom #[.agg a111, .agg a112] (fun q113 h114 =>
    asB q113 fun b115 =>
    BIF (!b115) (
    Post (.bool false) h114) (
    CALL prg f_spec_SameReals #[.slice out_8b out_8l out_8c, .slice model_11b model_11l model_11c] (fun q116 h117 =>
    asB q116 fun b118 =>
    BIF (!b118) (
    Post (.bool false) h117) (
    BIF (two_16 != (0 : Int)) (
    Post (.bool false) h117) (
    BIF (three_19 != (0 : Int)) (
    Post (.bool false) h117) (
    LDA 47 h117 back_17 fun a119 =>
    LDA 47 h117 due_10 fun a120 =>
    CALL prg f_spec_SameRoom #[.agg a119, .agg a120] (fun q121 h122 =>
    asB q121 fun b123 =>
    BIF (!b123) (
    Post (.bool false) h122) (
    ALC ⟨[]⟩ T_float32 (fun g124 h125 =>
    SEMV prg (Builtin.append_ #[T_sl_float32, T_sl_float32] T_sl_float32 #[.slice (some ⟨g124, 0, none⟩) 0 0, .slice a_15b a_15l a_15c]) (fun q126 h127 =>
    asL q126 fun l128b l128l l128c =>
    SEMV prg (Builtin.append_ #[T_sl_float32, T_sl_float32] T_sl_float32 #[.slice l128b l128l l128c, .slice b_18b b_18l b_18c]) (fun q129 h130 =>
    asL q129 fun l131b l131l l131c =>
    CALL prg f_spec_SameReals #[.slice l131b l131l l131c, .slice model_11b model_11l model_11c] (fun q132 h133 =>
    asB q132 fun b134 =>
    BIF (!b134) (
    Post (.bool false) h133) (
    BIF (n104 != (0 : Int)) (
    Post (.bool false) h133) (
    LDA 47 h133 ⟨g105, 0, none⟩ fun a135 =>
    LDA 47 h133 due_10 fun a136 =>
    CALL prg f_spec_SameRoom #[.agg a135, .agg a136] (fun q137 h138 =>
    asB q137 fun b139 =>
    BIF (!b139) (
    Post (.bool false) h138) (
    SLB (0 : Int) (16 : Int) (16 : Int) <|
    CALL prg f_spec_SameReals #[.slice (some (slP ⟨g107, 0, none⟩ 16 0 1)) (16 - 0) (16 - 0), .slice model_11b model_11l model_11c] (fun q140 h141 =>
    asB q140 fun b142 =>
    BIF (!b142) (
    Post (.bool false) h141) (
    laws_FnRoomBlocks.J18 Post due_10 h141)) h138)) h133))) h130) h127) h125) h122)) h117)))) h114)) h110))) h106) h98) h)
def laws_FnRoomBlocks.g12 (fr : Frame) : Addr × Option Addr × Nat × Nat × Addr × Option Addr × Nat × Nat × Int × Addr × Option Addr × Nat × Nat × Int × Option Addr × Nat × Nat × Int × Addr × Option Addr × Nat × Nat × Int × Addr × Int := ((gP (lget fr 5)), (gLb (lget fr 6)), (gLl (lget fr 6)), (gLc (lget fr 6)), (gP (lget fr 7)), (gLb (lget fr 8)), (gLl (lget fr 8)), (gLc (lget fr 8)), (gI (lget fr 9)), (gP (lget fr 10)), (gLb (lget fr 11)), (gLl (lget fr 11)), (gLc (lget fr 11)), (gI (lget fr 12)), (gLb (lget fr 15)), (gLl (lget fr 15)), (gLc (lget fr 15)), (gI (lget fr 16)), (gP (lget fr 17)), (gLb (lget fr 18)), (gLl (lget fr 18)), (gLc (lget fr 18)), (gI (lget fr 19)), (gP (lget fr 20)), (gI (lget fr 21)))
def laws_FnRoomBlocks.l12 (Post : Value → Heap → Prop) : Frame → Heap → Prop := fun fr h => GRD (shape (kds 244 [(5, .p), (6, .l), (7, .p), (8, .l), (9, .i .i64), (10, .p), (11, .l), (12, .i .i64), (15, .l), (16, .i .i64), (17, .p), (18, .l), (19, .i .i64), (20, .p), (21, .i .i64)]) fr) (LOOP (laws_FnRoomBlocks.B12 Post) (laws_FnRoomBlocks.g12 fr) h)
def laws_FnRoomBlocks.J10 (Post : Value → Heap → Prop) (x_5 : Addr) (in_6b : Option Addr) (in_6l : Nat) (in_6c : Nat) (all_7 : Addr) (out_8b : Option Addr) (out_8l : Nat) (out_8c : Nat) (one_9 : Int) (due_10 : Addr) (model_11b : Option Addr) (model_11l : Nat) (model_11c : Nat) (want_12 : Int) (a_15b : Option Addr) (a_15l : Nat) (a_15c : Nat) (two_16 : Int) (back_17 : Addr) (b_18b : Option Addr) (b_18l : Nat) (b_18c : Nat) (three_19 : Int) (h : Heap) : Prop :=
    ALC ⟨Z_impl_Block⟩ T_impl_Block (fun g89 h90 =>
    STA 16 h90 ⟨g89, 0, none⟩ (⟨[.float .f32 0, .float .f32 0, .float .f32 0, .float .f32 0, .float .f32 0, .float .f32 0, .float .f32 0, .float .f32 0, .float .f32 0, .float .f32 0, .float .f32 0, .float .f32 0, .float .f32 0, .float .f32 0, .float .f32 0, .float .f32 0]⟩ : Array Value) fun h91 =>
    LOOP (laws_FnRoomBlocks.B12 Post) (x_5, in_6b, in_6l, in_6c, all_7, out_8b, out_8l, out_8c, one_9, due_10, model_11b, model_11l, model_11c, want_12, a_15b, a_15l, a_15c, two_16, back_17, b_18b, b_18l, b_18c, three_19, ⟨g89, 0, none⟩, (0 : Int)) h91) h
def laws_FnRoomBlocks.j10 (Post : Value → Heap → Prop) : Frame → Heap → Prop := fun fr h => GRD (shape (kds 244 [(5, .p), (6, .l), (7, .p), (8, .l), (9, .i .i64), (10, .p), (11, .l), (12, .i .i64), (15, .l), (16, .i .i64), (17, .p), (18, .l), (19, .i .i64)]) fr) (laws_FnRoomBlocks.J10 Post (gP (lget fr 5)) (gLb (lget fr 6)) (gLl (lget fr 6)) (gLc (lget fr 6)) (gP (lget fr 7)) (gLb (lget fr 8)) (gLl (lget fr 8)) (gLc (lget fr 8)) (gI (lget fr 9)) (gP (lget fr 10)) (gLb (lget fr 11)) (gLl (lget fr 11)) (gLc (lget fr 11)) (gI (lget fr 12)) (gLb (lget fr 15)) (gLl (lget fr 15)) (gLc (lget fr 15)) (gI (lget fr 16)) (gP (lget fr 17)) (gLb (lget fr 18)) (gLl (lget fr 18)) (gLc (lget fr 18)) (gI (lget fr 19)) h)
def laws_FnRoomBlocks.J9 (Post : Value → Heap → Prop) (x_5 : Addr) (in_6b : Option Addr) (in_6l : Nat) (in_6c : Nat) (all_7 : Addr) (out_8b : Option Addr) (out_8l : Nat) (out_8c : Nat) (one_9 : Int) (due_10 : Addr) (model_11b : Option Addr) (model_11l : Nat) (model_11c : Nat) (want_12 : Int) (k_13 : Int) (front_14 : Addr) (a_15b : Option Addr) (a_15l : Nat) (a_15c : Nat) (two_16 : Int) (h : Heap) : Prop :=
    LDA 47 h front_14 fun a66 =>
    SLB k_13 (in_6l : Int) (in_6c : Int) <|
    (CALL prg f_impl_PlayRoom #[.agg a66, .slice (slA in_6b in_6c (Int.toNat k_13) 1) (in_6l - (Int.toNat k_13)) (in_6c - (Int.toNat k_13))] (fun q67 h68 =>
    TUP3 q67 fun q69 q70 q71 =>
    asA q69 fun a72 =>
    asL q70 fun l73b l73l l73c =>
    asI .i64 q71 fun n74 =>
    ALC ⟨Z_impl_Room⟩ T_impl_Room (fun g75 h76 =>
    PIN h front_14 47 h76 <|
    STA 47 h76 ⟨g75, 0, none⟩ a72 fun h77 =>
    laws_FnRoomBlocks.J10 Post x_5 in_6b in_6l in_6c all_7 out_8b out_8l out_8c one_9 due_10 model_11b model_11l model_11c want_12 a_15b a_15l a_15c two_16 ⟨g75, 0, none⟩ l73b l73l l73c n74 h77) h68) h) ∧ (ALC ⟨Z_impl_Room⟩ T_impl_Room (fun g78 h79 =>
    PIN h front_14 47 h79 <|
    CALL prg f_impl_PlayRoom #[.agg a66, .slice (slA in_6b in_6c (Int.toNat k_13) 1) (in_6l - (Int.toNat k_13)) (in_6c - (Int.toNat k_13))] (fun q80 h81 =>
    TUP3 q80 fun q82 q83 q84 =>
    asA q82 fun a85 =>
    asL q83 fun l86b l86l l86c =>
    asI .i64 q84 fun n87 =>
    STA 47 h81 ⟨g78, 0, none⟩ a85 fun h88 =>
    laws_FnRoomBlocks.J10 Post x_5 in_6b in_6l in_6c all_7 out_8b out_8l out_8c one_9 due_10 model_11b model_11l model_11c want_12 a_15b a_15l a_15c two_16 ⟨g78, 0, none⟩ l86b l86l l86c n87 h88) h79) h)
def laws_FnRoomBlocks.j9 (Post : Value → Heap → Prop) : Frame → Heap → Prop := fun fr h => GRD (shape (kds 244 [(5, .p), (6, .l), (7, .p), (8, .l), (9, .i .i64), (10, .p), (11, .l), (12, .i .i64), (13, .i .i64), (14, .p), (15, .l), (16, .i .i64)]) fr) (laws_FnRoomBlocks.J9 Post (gP (lget fr 5)) (gLb (lget fr 6)) (gLl (lget fr 6)) (gLc (lget fr 6)) (gP (lget fr 7)) (gLb (lget fr 8)) (gLl (lget fr 8)) (gLc (lget fr 8)) (gI (lget fr 9)) (gP (lget fr 10)) (gLb (lget fr 11)) (gLl (lget fr 11)) (gLc (lget fr 11)) (gI (lget fr 12)) (gI (lget fr 13)) (gP (lget fr 14)) (gLb (lget fr 15)) (gLl (lget fr 15)) (gLc (lget fr 15)) (gI (lget fr 16)) h)
def laws_FnRoomBlocks.J3 (Post : Value → Heap → Prop) (code_0b : Option Addr) (code_0l : Nat) (code_0c : Nat) (more_1b : Option Addr) (more_1l : Nat) (more_1c : Nat) (h : Heap) : Prop :=
    CALL prg f_spec_P6Room #[.slice code_0b code_0l code_0c] (fun q7 h8 =>
    asA q7 fun a9 =>
    ALC ⟨Z_impl_Room⟩ T_impl_Room (fun g10 h11 =>
    STA 47 h11 ⟨g10, 0, none⟩ a9 fun h12 =>
    CALL prg f_spec_P6Plains #[.slice more_1b more_1l more_1c, .int .i64 (16 : Int)] (fun q13 h14 =>
    asL q13 fun l15b l15l l15c =>
    LDA 47 h14 ⟨g10, 0, none⟩ fun a16 =>
    CALL prg f_impl_PlayRoom #[.agg a16, .slice l15b l15l l15c] (fun q17 h18 =>
    TUP3 q17 fun q19 q20 q21 =>
    asA q19 fun a22 =>
    asL q20 fun l23b l23l l23c =>
    asI .i64 q21 fun n24 =>
    ALC ⟨Z_impl_Room⟩ T_impl_Room (fun g25 h26 =>
    STA 47 h26 ⟨g25, 0, none⟩ a22 fun h27 =>
    LDA 47 h27 ⟨g10, 0, none⟩ fun a28 =>
    CALL prg f_spec_PlayRoom #[.agg a28, .slice l15b l15l l15c] (fun q29 h30 =>
    TUP3 q29 fun q31 q32 q33 =>
    asA q31 fun a34 =>
    asL q32 fun l35b l35l l35c =>
    asI .i64 q33 fun n36 =>
    ALC ⟨Z_impl_Room⟩ T_impl_Room (fun g37 h38 =>
    STA 47 h38 ⟨g37, 0, none⟩ a34 fun h39 =>
    CALL prg f_spec_P6Pick #[.slice more_1b more_1l more_1c, .int .i64 (17 : Int)] (fun q40 h41 =>
    asI .i64 q40 fun n42 =>
    LDA 47 h41 ⟨g10, 0, none⟩ fun a43 =>
    SLB (0 : Int) n42 (l15c : Int) <|
    (CALL prg f_impl_PlayRoom #[.agg a43, .slice (slA l15b l15c 0 1) ((Int.toNat n42) - 0) (l15c - 0)] (fun q44 h45 =>
    TUP3 q44 fun q46 q47 q48 =>
    asA q46 fun a49 =>
    asL q47 fun l50b l50l l50c =>
    asI .i64 q48 fun n51 =>
    ALC ⟨Z_impl_Room⟩ T_impl_Room (fun g52 h53 =>
    PIN h41 ⟨g10, 0, none⟩ 47 h53 <|
    STA 47 h53 ⟨g52, 0, none⟩ a49 fun h54 =>
    laws_FnRoomBlocks.J9 Post ⟨g10, 0, none⟩ l15b l15l l15c ⟨g25, 0, none⟩ l23b l23l l23c n24 ⟨g37, 0, none⟩ l35b l35l l35c n36 n42 ⟨g52, 0, none⟩ l50b l50l l50c n51 h54) h45) h41) ∧ (ALC ⟨Z_impl_Room⟩ T_impl_Room (fun g55 h56 =>
    PIN h41 ⟨g10, 0, none⟩ 47 h56 <|
    CALL prg f_impl_PlayRoom #[.agg a43, .slice (slA l15b l15c 0 1) ((Int.toNat n42) - 0) (l15c - 0)] (fun q57 h58 =>
    TUP3 q57 fun q59 q60 q61 =>
    asA q59 fun a62 =>
    asL q60 fun l63b l63l l63c =>
    asI .i64 q61 fun n64 =>
    STA 47 h58 ⟨g55, 0, none⟩ a62 fun h65 =>
    laws_FnRoomBlocks.J9 Post ⟨g10, 0, none⟩ l15b l15l l15c ⟨g25, 0, none⟩ l23b l23l l23c n24 ⟨g37, 0, none⟩ l35b l35l l35c n36 n42 ⟨g55, 0, none⟩ l63b l63l l63c n64 h65) h56) h41)) h39) h30) h27) h18) h14) h12) h8) h
def laws_FnRoomBlocks.j3 (Post : Value → Heap → Prop) : Frame → Heap → Prop := fun fr h => GRD (shape (kds 244 [(0, .l), (1, .l)]) fr) (laws_FnRoomBlocks.J3 Post (gLb (lget fr 0)) (gLl (lget fr 0)) (gLc (lget fr 0)) (gLb (lget fr 1)) (gLl (lget fr 1)) (gLc (lget fr 1)) h)
def laws_FnRoomBlocks.S (code_0b : Option Addr) (code_0l code_0c : Nat) (more_1b : Option Addr) (more_1l more_1c : Nat) (Post : Value → Heap → Prop) (h : Heap) : Prop :=
    CALL prg f_laws_f6big #[.slice code_0b code_0l code_0c] (fun q1 h2 =>
    asB q1 fun b3 =>
    BIF b3 (
    Post (.bool true) h2) (
    CALL prg f_laws_f6big #[.slice more_1b more_1l more_1c] (fun q4 h5 =>
    asB q4 fun b6 =>
    BIF b6 (
    Post (.bool true) h5) (
    laws_FnRoomBlocks.J3 Post code_0b code_0l code_0c more_1b more_1l more_1c h5)) h2)) h
noncomputable def laws_FnRoomBlocks.code : Code := (Tryz.f4.body).getD .skip
theorem laws_FnRoomBlocks.call {code_0b : Option Addr} {code_0l code_0c : Nat} {more_1b : Option Addr} {more_1l more_1c : Nat} {Post : Value → Heap → Prop} {h : Heap} (H : laws_FnRoomBlocks.S code_0b code_0l code_0c more_1b more_1l more_1c Post h) : CALL prg f_laws_FnRoomBlocks #[.slice code_0b code_0l code_0c, .slice more_1b more_1l more_1c] Post h :=
  fn_call tau_ok mixed (c := laws_FnRoomBlocks.code) (Λ := lookL [(3, laws_FnRoomBlocks.j3 Post), (9, laws_FnRoomBlocks.j9 Post), (10, laws_FnRoomBlocks.j10 Post), (1000012, laws_FnRoomBlocks.l12 Post), (18, laws_FnRoomBlocks.j18 Post)]) Tryz.func4 (by kernel_rfl) (by kernel_rfl)
    (Rq.seq (by kernel_rfl) (Rq.free (by kernel_rfl)) (Rq.seqJ (laws_FnRoomBlocks.j3 Post) (by kernel_rfl) (seg (fun _ _ => by kernel_rfl)) (Rq.free (by kernel_rfl))
(Rq.seq (by kernel_rfl) (Rq.free (by kernel_rfl)) (Rq.seq (by kernel_rfl) (Rq.free (by kernel_rfl)) (Rq.seq (by kernel_rfl) (Rq.free (by kernel_rfl)) (Rq.seq (by kernel_rfl) (Rq.free (by kernel_rfl)) (Rq.seq (by kernel_rfl) (Rq.free (by kernel_rfl)) (Rq.seqJ (laws_FnRoomBlocks.j9 Post) (by kernel_rfl) (seg (fun _ _ => by kernel_rfl)) (Rq.free (by kernel_rfl))
(Rq.seqJ (laws_FnRoomBlocks.j10 Post) (by kernel_rfl) (seg (fun _ _ => by kernel_rfl)) (Rq.free (by kernel_rfl))
(Rq.seq (by kernel_rfl) (Rq.free (by kernel_rfl)) (Rq.seq (by kernel_rfl) (Rq.seq (by kernel_rfl) (Rq.free (by kernel_rfl)) (Rq.block (Rq.loop (laws_FnRoomBlocks.l12 Post) (by kernel_rfl) (segL (g := laws_FnRoomBlocks.g12) tau_ok mixed (Λ := fun N12 => lookL []) (fun _ _ _ => by kernel_rfl) (fun N12 => (Rq.free (by kernel_rfl))))))) (Rq.seq (by kernel_rfl) (Rq.free (by kernel_rfl)) (Rq.seqJ (laws_FnRoomBlocks.j18 Post) (by kernel_rfl) (seg (fun _ _ => by kernel_rfl)) (Rq.free (by kernel_rfl))
(Rq.free (by kernel_rfl)))))))))))))))
    (Eq.mp (by kernel_rfl) H)

end Go.Sx
