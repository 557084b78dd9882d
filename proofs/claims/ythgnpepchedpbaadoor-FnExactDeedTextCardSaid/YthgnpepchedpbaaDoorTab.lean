/- The types of this seat's program, as the walk looks them up; its functions' and types' numbers by name. -/
import Derived.Test.YthgnpepchedpbaaDoorSx10
import Derived.Test.YthgnpepchedpbaaDoorChecked
namespace Go.Sx
open Go.Proofs
noncomputable abbrev prg : Program := Tryd.prog
abbrev f_laws_FnExactDeedText : Nat := 3
abbrev f_spec_DeedText : Nat := 5
abbrev f_laws_toDeed : Nat := 6
abbrev f_impl_DeedText : Nat := 7
abbrev f_spec_ValidDeed : Nat := 11
abbrev f_spec_l10Names : Nat := 12
abbrev f_spec_l10Numbers : Nat := 13
abbrev f_spec_Decimal : Nat := 14
abbrev f_impl_ValidDeed : Nat := 15
abbrev f_impl_deedWord : Nat := 16
abbrev f_impl_decimal : Nat := 17
abbrev f_spec_l00In : Nat := 21
abbrev f_impl_within : Nat := 22
abbrev f_strconv_FormatInt : Nat := 23
def Z__0 : List Value := []
def ti__0 : TI := ⟨.tup [], 1, 0, Z__0⟩
abbrev T_int64 : Nat := 2
def Z_int64 : List Value := [.int .i64 (0 : Int)]
def ti_int64 : TI := ⟨.int .i64, 1, 8, Z_int64⟩
def Z_int : List Value := [.int .i64 (0 : Int)]
def ti_int : TI := ⟨.int .i64, 1, 8, Z_int⟩
def Z_bool : List Value := [.bool false]
def ti_bool : TI := ⟨.bool, 1, 1, Z_bool⟩
abbrev T_uint8 : Nat := 5
def Z_uint8 : List Value := [.int .u8 (0 : Int)]
def ti_uint8 : TI := ⟨.int .u8, 1, 1, Z_uint8⟩
theorem U_uint8 : prg.underlying T_uint8 = some (.int .u8) := Tryd.underlying5
abbrev T_string : Nat := 9
def Z_string : List Value := [.string (⟨#[]⟩ : ByteArray)]
def ti_string : TI := ⟨.str, 1, 16, Z_string⟩
theorem U_string : prg.underlying T_string = some (.string) := Tryd.underlying9
def Z_interface : List Value := [.nilIface]
def ti_interface : TI := ⟨.oth, 1, 16, Z_interface⟩
abbrev T_laws_Deed : Nat := 23
def Z_laws_Deed : List Value := [.int .i64 (0 : Int), .int .i64 (0 : Int), .int .i64 (0 : Int)]
def ti_laws_Deed : TI := ⟨.st [(2, 0), (2, 1), (2, 2)], 3, 24, Z_laws_Deed⟩
abbrev T_impl_Deed : Nat := 25
def Z_impl_Deed : List Value := [.int .i64 (0 : Int), .int .i64 (0 : Int), .int .i64 (0 : Int)]
def ti_impl_Deed : TI := ⟨.st [(2, 0), (2, 1), (2, 2)], 3, 24, Z_impl_Deed⟩
def Z_impl_Deed_int64 : List Value := []
def ti_impl_Deed_int64 : TI := ⟨.tup [25, 2], 1, 0, Z_impl_Deed_int64⟩
def Z_sl_string : List Value := [.slice none 0 0]
def ti_sl_string : TI := ⟨.sl 9, 1, 24, Z_sl_string⟩
def Z_string_int : List Value := []
def ti_string_int : TI := ⟨.tup [9, 3], 1, 0, Z_string_int⟩
def Z_sl_int64 : List Value := [.slice none 0 0]
def ti_sl_int64 : TI := ⟨.sl 2, 1, 24, Z_sl_int64⟩
def Z_int64_bool : List Value := []
def ti_int64_bool : TI := ⟨.tup [2, 4], 1, 0, Z_int64_bool⟩
def Z_impl_Deed_bool : List Value := []
def ti_impl_Deed_bool : TI := ⟨.tup [25, 4], 1, 0, Z_impl_Deed_bool⟩
abbrev T_sl_uint8 : Nat := 46
def Z_sl_uint8 : List Value := [.slice none 0 0]
def ti_sl_uint8 : TI := ⟨.sl 5, 1, 24, Z_sl_uint8⟩
theorem U_sl_uint8 : prg.underlying T_sl_uint8 = some (.slice 5) := Tryd.underlying46
def Z_2_int64 : List Value := [.int .i64 (0 : Int), .int .i64 (0 : Int)]
def ti_2_int64 : TI := ⟨.arr 2 2, 2, 16, Z_2_int64⟩
def Z_error : List Value := [.nilIface]
def ti_error : TI := ⟨.oth, 1, 16, Z_error⟩
def Z_int64_error : List Value := []
def ti_int64_error : TI := ⟨.tup [2, 52], 1, 0, Z_int64_error⟩
def Z_24_uint8 : List Value := List.replicate 24 (.int .u8 (0 : Int))
def ti_24_uint8 : TI := ⟨.arr 24 5, 24, 24, Z_24_uint8⟩
def Z_uint64 : List Value := [.int .u64 (0 : Int)]
def ti_uint64 : TI := ⟨.int .u64, 1, 8, Z_uint64⟩
def Z_sl_uint8_string : List Value := []
def ti_sl_uint8_string : TI := ⟨.tup [46, 9], 1, 0, Z_sl_uint8_string⟩
def Z_20_uint64 : List Value := List.replicate 20 (.int .u64 (0 : Int))
def ti_20_uint64 : TI := ⟨.arr 20 57, 20, 160, Z_20_uint64⟩
def Z_uint32 : List Value := [.int .u32 (0 : Int)]
def ti_uint32 : TI := ⟨.int .u32, 1, 4, Z_uint32⟩
def Z_65_uint8 : List Value := List.replicate 65 (.int .u8 (0 : Int))
def ti_65_uint8 : TI := ⟨.arr 65 5, 65, 65, Z_65_uint8⟩
def Z_uint : List Value := [.int .u64 (0 : Int)]
def ti_uint : TI := ⟨.int .u64, 1, 8, Z_uint⟩
def Z_strconv_Error : List Value := [.int .i64 (0 : Int)]
def ti_strconv_Error : TI := ⟨.int .i64, 1, 8, Z_strconv_Error⟩
def Z_uint64_error : List Value := []
def ti_uint64_error : TI := ⟨.tup [57, 52], 1, 0, Z_uint64_error⟩
def tau : Static := [(0, ti__0), (2, ti_int64), (3, ti_int), (4, ti_bool), (5, ti_uint8), (9, ti_string), (20, ti_interface), (23, ti_laws_Deed), (25, ti_impl_Deed), (28, ti_impl_Deed_int64), (33, ti_sl_string), (37, ti_string_int), (39, ti_sl_int64), (41, ti_int64_bool), (43, ti_impl_Deed_bool), (46, ti_sl_uint8), (49, ti_2_int64), (52, ti_error), (53, ti_int64_error), (56, ti_24_uint8), (57, ti_uint64), (60, ti_sl_uint8_string), (67, ti_20_uint64), (68, ti_uint32), (69, ti_65_uint8), (71, ti_uint), (77, ti_strconv_Error), (78, ti_uint64_error)]
theorem ok_nil {P : Program} : OkS P [] := fun _ h => by cases h
theorem ok_cons {P : Program} {e : Nat × TI} {r : Static} (h : okT P e) (k : OkS P r) : OkS P (e :: r) := fun x hx => by
  rcases List.mem_cons.1 hx with rfl | hx
  · exact h
  · exact k x hx
theorem okt0 : okT prg (0, ti__0) := ⟨_, Tryd.t0, Tryd.underlying0, by kernel_rfl, by kernel_rfl, by kernel_rfl, by kernel_rfl, .inl rfl⟩
theorem okt2 : okT prg (2, ti_int64) := ⟨_, Tryd.t2, Tryd.underlying2, by kernel_rfl, by kernel_rfl, by kernel_rfl, by kernel_rfl, .inr ⟨_, rfl, by kernel_rfl⟩⟩
theorem okt3 : okT prg (3, ti_int) := ⟨_, Tryd.t3, Tryd.underlying3, by kernel_rfl, by kernel_rfl, by kernel_rfl, by kernel_rfl, .inr ⟨_, rfl, by kernel_rfl⟩⟩
theorem okt4 : okT prg (4, ti_bool) := ⟨_, Tryd.t4, Tryd.underlying4, by kernel_rfl, by kernel_rfl, by kernel_rfl, by kernel_rfl, .inr ⟨_, rfl, by kernel_rfl⟩⟩
theorem okt5 : okT prg (5, ti_uint8) := ⟨_, Tryd.t5, Tryd.underlying5, by kernel_rfl, by kernel_rfl, by kernel_rfl, by kernel_rfl, .inr ⟨_, rfl, by kernel_rfl⟩⟩
theorem okt9 : okT prg (9, ti_string) := ⟨_, Tryd.t9, Tryd.underlying9, by kernel_rfl, by kernel_rfl, by kernel_rfl, by kernel_rfl, .inr ⟨_, rfl, by kernel_rfl⟩⟩
theorem okt20 : okT prg (20, ti_interface) := ⟨_, Tryd.t20, Tryd.underlying20, by kernel_rfl, by kernel_rfl, by kernel_rfl, by kernel_rfl, .inr ⟨_, rfl, by kernel_rfl⟩⟩
theorem okt23 : okT prg (23, ti_laws_Deed) := ⟨_, Tryd.t23, Tryd.underlying23, by kernel_rfl, by kernel_rfl, by kernel_rfl, by kernel_rfl, .inr ⟨_, rfl, by kernel_rfl⟩⟩
theorem okt25 : okT prg (25, ti_impl_Deed) := ⟨_, Tryd.t25, Tryd.underlying25, by kernel_rfl, by kernel_rfl, by kernel_rfl, by kernel_rfl, .inr ⟨_, rfl, by kernel_rfl⟩⟩
theorem okt28 : okT prg (28, ti_impl_Deed_int64) := ⟨_, Tryd.t28, Tryd.underlying28, by kernel_rfl, by kernel_rfl, by kernel_rfl, by kernel_rfl, .inl rfl⟩
theorem okt33 : okT prg (33, ti_sl_string) := ⟨_, Tryd.t33, Tryd.underlying33, by kernel_rfl, by kernel_rfl, by kernel_rfl, by kernel_rfl, .inr ⟨_, rfl, by kernel_rfl⟩⟩
theorem okt37 : okT prg (37, ti_string_int) := ⟨_, Tryd.t37, Tryd.underlying37, by kernel_rfl, by kernel_rfl, by kernel_rfl, by kernel_rfl, .inl rfl⟩
theorem okt39 : okT prg (39, ti_sl_int64) := ⟨_, Tryd.t39, Tryd.underlying39, by kernel_rfl, by kernel_rfl, by kernel_rfl, by kernel_rfl, .inr ⟨_, rfl, by kernel_rfl⟩⟩
theorem okt41 : okT prg (41, ti_int64_bool) := ⟨_, Tryd.t41, Tryd.underlying41, by kernel_rfl, by kernel_rfl, by kernel_rfl, by kernel_rfl, .inl rfl⟩
theorem okt43 : okT prg (43, ti_impl_Deed_bool) := ⟨_, Tryd.t43, Tryd.underlying43, by kernel_rfl, by kernel_rfl, by kernel_rfl, by kernel_rfl, .inl rfl⟩
theorem okt46 : okT prg (46, ti_sl_uint8) := ⟨_, Tryd.t46, Tryd.underlying46, by kernel_rfl, by kernel_rfl, by kernel_rfl, by kernel_rfl, .inr ⟨_, rfl, by kernel_rfl⟩⟩
theorem okt49 : okT prg (49, ti_2_int64) := ⟨_, Tryd.t49, Tryd.underlying49, by kernel_rfl, by kernel_rfl, by kernel_rfl, by kernel_rfl, .inr ⟨_, rfl, by kernel_rfl⟩⟩
theorem okt52 : okT prg (52, ti_error) := ⟨_, Tryd.t52, Tryd.underlying52, by kernel_rfl, by kernel_rfl, by kernel_rfl, by kernel_rfl, .inr ⟨_, rfl, by kernel_rfl⟩⟩
theorem okt53 : okT prg (53, ti_int64_error) := ⟨_, Tryd.t53, Tryd.underlying53, by kernel_rfl, by kernel_rfl, by kernel_rfl, by kernel_rfl, .inl rfl⟩
theorem okt56 : okT prg (56, ti_24_uint8) := ⟨_, Tryd.t56, Tryd.underlying56, by kernel_rfl, by kernel_rfl, by kernel_rfl, by kernel_rfl, .inr ⟨_, rfl, by kernel_rfl⟩⟩
theorem okt57 : okT prg (57, ti_uint64) := ⟨_, Tryd.t57, Tryd.underlying57, by kernel_rfl, by kernel_rfl, by kernel_rfl, by kernel_rfl, .inr ⟨_, rfl, by kernel_rfl⟩⟩
theorem okt60 : okT prg (60, ti_sl_uint8_string) := ⟨_, Tryd.t60, Tryd.underlying60, by kernel_rfl, by kernel_rfl, by kernel_rfl, by kernel_rfl, .inl rfl⟩
theorem okt67 : okT prg (67, ti_20_uint64) := ⟨_, Tryd.t67, Tryd.underlying67, by kernel_rfl, by kernel_rfl, by kernel_rfl, by kernel_rfl, .inr ⟨_, rfl, by kernel_rfl⟩⟩
theorem okt68 : okT prg (68, ti_uint32) := ⟨_, Tryd.t68, Tryd.underlying68, by kernel_rfl, by kernel_rfl, by kernel_rfl, by kernel_rfl, .inr ⟨_, rfl, by kernel_rfl⟩⟩
theorem okt69 : okT prg (69, ti_65_uint8) := ⟨_, Tryd.t69, Tryd.underlying69, by kernel_rfl, by kernel_rfl, by kernel_rfl, by kernel_rfl, .inr ⟨_, rfl, by kernel_rfl⟩⟩
theorem okt71 : okT prg (71, ti_uint) := ⟨_, Tryd.t71, Tryd.underlying71, by kernel_rfl, by kernel_rfl, by kernel_rfl, by kernel_rfl, .inr ⟨_, rfl, by kernel_rfl⟩⟩
theorem okt77 : okT prg (77, ti_strconv_Error) := ⟨_, Tryd.t77, Tryd.underlying77, by kernel_rfl, by kernel_rfl, by kernel_rfl, by kernel_rfl, .inr ⟨_, rfl, by kernel_rfl⟩⟩
theorem okt78 : okT prg (78, ti_uint64_error) := ⟨_, Tryd.t78, Tryd.underlying78, by kernel_rfl, by kernel_rfl, by kernel_rfl, by kernel_rfl, .inl rfl⟩
theorem tau_ok : OkS prg tau := ok_cons okt0 <| ok_cons okt2 <| ok_cons okt3 <| ok_cons okt4 <| ok_cons okt5 <| ok_cons okt9 <| ok_cons okt20 <| ok_cons okt23 <| ok_cons okt25 <| ok_cons okt28 <| ok_cons okt33 <| ok_cons okt37 <| ok_cons okt39 <| ok_cons okt41 <| ok_cons okt43 <| ok_cons okt46 <| ok_cons okt49 <| ok_cons okt52 <| ok_cons okt53 <| ok_cons okt56 <| ok_cons okt57 <| ok_cons okt60 <| ok_cons okt67 <| ok_cons okt68 <| ok_cons okt69 <| ok_cons okt71 <| ok_cons okt77 <| ok_cons okt78 <| ok_nil
theorem mixed : prg.follows .mixedOrders = true := by kernel_rfl
end Go.Sx
