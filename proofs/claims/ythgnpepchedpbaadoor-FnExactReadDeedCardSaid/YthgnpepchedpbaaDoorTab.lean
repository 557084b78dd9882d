/- The types of this seat's program, as the walk looks them up; its functions' and types' numbers by name. -/
import Derived.Test.YthgnpepchedpbaaDoorSx10
import Derived.Test.YthgnpepchedpbaaDoorChecked
namespace Go.Sx
open Go.Proofs
noncomputable abbrev prg : Program := Tryd.prog
abbrev f_laws_FnExactReadDeed : Nat := 4
abbrev f_spec_DeedText : Nat := 5
abbrev f_impl_DeedText : Nat := 7
abbrev f_spec_ReadDeed : Nat := 8
abbrev f_impl_ReadDeed : Nat := 9
abbrev f_laws_eqDeed : Nat := 10
abbrev f_spec_ValidDeed : Nat := 11
abbrev f_spec_l10Names : Nat := 12
abbrev f_spec_l10Numbers : Nat := 13
abbrev f_spec_Decimal : Nat := 14
abbrev f_impl_ValidDeed : Nat := 15
abbrev f_impl_deedWord : Nat := 16
abbrev f_impl_decimal : Nat := 17
abbrev f_spec_l01Split : Nat := 18
abbrev f_spec_l01Number : Nat := 19
abbrev f_impl_readDeed : Nat := 20
abbrev f_spec_l00In : Nat := 21
abbrev f_impl_within : Nat := 22
abbrev f_strconv_FormatInt : Nat := 23
abbrev f_strings_Split : Nat := 24
abbrev f_impl_readDecimal : Nat := 25
abbrev T_int64 : Nat := 2
def Z_int64 : List Value := [.int .i64 (0 : Int)]
def ti_int64 : TI := ⟨.int .i64, 1, 8, Z_int64⟩
def Z_int : List Value := [.int .i64 (0 : Int)]
def ti_int : TI := ⟨.int .i64, 1, 8, Z_int⟩
def Z_bool : List Value := [.bool false]
def ti_bool : TI := ⟨.bool, 1, 1, Z_bool⟩
abbrev T_uint8 : Nat := 5
def Z_uint8 : List Value := [.int .u8 (0 : Int)]
def ti_uint8 : TI := ⟨.int .u8, 1, 1, Z_uint8⟩
theorem U_uint8 : prg.underlying T_uint8 = some (.int .u8) := Tryd.underlying5
abbrev T_string : Nat := 9
def Z_string : List Value := [.string (⟨#[]⟩ : ByteArray)]
def ti_string : TI := ⟨.str, 1, 16, Z_string⟩
theorem U_string : prg.underlying T_string = some (.string) := Tryd.underlying9
def Z_laws_Deed : List Value := [.int .i64 (0 : Int), .int .i64 (0 : Int), .int .i64 (0 : Int)]
def ti_laws_Deed : TI := ⟨.st [(2, 0), (2, 1), (2, 2)], 3, 24, Z_laws_Deed⟩
abbrev T_impl_Deed : Nat := 25
def Z_impl_Deed : List Value := [.int .i64 (0 : Int), .int .i64 (0 : Int), .int .i64 (0 : Int)]
def ti_impl_Deed : TI := ⟨.st [(2, 0), (2, 1), (2, 2)], 3, 24, Z_impl_Deed⟩
def Z_impl_Deed_int64 : List Value := []
def ti_impl_Deed_int64 : TI := ⟨.tup [25, 2], 1, 0, Z_impl_Deed_int64⟩
abbrev T_sl_string : Nat := 33
def Z_sl_string : List Value := [.slice none 0 0]
def ti_sl_string : TI := ⟨.sl 9, 1, 24, Z_sl_string⟩
def Z_string_int : List Value := []
def ti_string_int : TI := ⟨.tup [9, 3], 1, 0, Z_string_int⟩
def Z_sl_int64 : List Value := [.slice none 0 0]
def ti_sl_int64 : TI := ⟨.sl 2, 1, 24, Z_sl_int64⟩
def Z_int64_bool : List Value := []
def ti_int64_bool : TI := ⟨.tup [2, 4], 1, 0, Z_int64_bool⟩
def Z_impl_Deed_bool : List Value := []
def ti_impl_Deed_bool : TI := ⟨.tup [25, 4], 1, 0, Z_impl_Deed_bool⟩
abbrev T_sl_uint8 : Nat := 46
def Z_sl_uint8 : List Value := [.slice none 0 0]
def ti_sl_uint8 : TI := ⟨.sl 5, 1, 24, Z_sl_uint8⟩
theorem U_sl_uint8 : prg.underlying T_sl_uint8 = some (.slice 5) := Tryd.underlying46
abbrev T_2_int64 : Nat := 49
def Z_2_int64 : List Value := [.int .i64 (0 : Int), .int .i64 (0 : Int)]
def ti_2_int64 : TI := ⟨.arr 2 2, 2, 16, Z_2_int64⟩
def Z_uint64 : List Value := [.int .u64 (0 : Int)]
def ti_uint64 : TI := ⟨.int .u64, 1, 8, Z_uint64⟩
def tau : Static := [(2, ti_int64), (3, ti_int), (4, ti_bool), (5, ti_uint8), (9, ti_string), (23, ti_laws_Deed), (25, ti_impl_Deed), (28, ti_impl_Deed_int64), (33, ti_sl_string), (37, ti_string_int), (39, ti_sl_int64), (41, ti_int64_bool), (43, ti_impl_Deed_bool), (46, ti_sl_uint8), (49, ti_2_int64), (57, ti_uint64)]
theorem ok_nil {P : Program} : OkS P [] := fun _ h => by cases h
theorem ok_cons {P : Program} {e : Nat × TI} {r : Static} (h : okT P e) (k : OkS P r) : OkS P (e :: r) := fun x hx => by
  rcases List.mem_cons.1 hx with rfl | hx
  · exact h
  · exact k x hx
theorem okt2 : okT prg (2, ti_int64) := ⟨_, Tryd.t2, Tryd.underlying2, by kernel_rfl, by kernel_rfl, by kernel_rfl, by kernel_rfl, .inr ⟨_, rfl, by kernel_rfl⟩⟩
theorem okt3 : okT prg (3, ti_int) := ⟨_, Tryd.t3, Tryd.underlying3, by kernel_rfl, by kernel_rfl, by kernel_rfl, by kernel_rfl, .inr ⟨_, rfl, by kernel_rfl⟩⟩
theorem okt4 : okT prg (4, ti_bool) := ⟨_, Tryd.t4, Tryd.underlying4, by kernel_rfl, by kernel_rfl, by kernel_rfl, by kernel_rfl, .inr ⟨_, rfl, by kernel_rfl⟩⟩
theorem okt5 : okT prg (5, ti_uint8) := ⟨_, Tryd.t5, Tryd.underlying5, by kernel_rfl, by kernel_rfl, by kernel_rfl, by kernel_rfl, .inr ⟨_, rfl, by kernel_rfl⟩⟩
theorem okt9 : okT prg (9, ti_string) := ⟨_, Tryd.t9, Tryd.underlying9, by kernel_rfl, by kernel_rfl, by kernel_rfl, by kernel_rfl, .inr ⟨_, rfl, by kernel_rfl⟩⟩
theorem okt23 : okT prg (23, ti_laws_Deed) := ⟨_, Tryd.t23, Tryd.underlying23, by kernel_rfl, by kernel_rfl, by kernel_rfl, by kernel_rfl, .inr ⟨_, rfl, by kernel_rfl⟩⟩
theorem okt25 : okT prg (25, ti_impl_Deed) := ⟨_, Tryd.t25, Tryd.underlying25, by kernel_rfl, by kernel_rfl, by kernel_rfl, by kernel_rfl, .inr ⟨_, rfl, by kernel_rfl⟩⟩
theorem okt28 : okT prg (28, ti_impl_Deed_int64) := ⟨_, Tryd.t28, Tryd.underlying28, by kernel_rfl, by kernel_rfl, by kernel_rfl, by kernel_rfl, .inl rfl⟩
theorem okt33 : okT prg (33, ti_sl_string) := ⟨_, Tryd.t33, Tryd.underlying33, by kernel_rfl, by kernel_rfl, by kernel_rfl, by kernel_rfl, .inr ⟨_, rfl, by kernel_rfl⟩⟩
theorem okt37 : okT prg (37, ti_string_int) := ⟨_, Tryd.t37, Tryd.underlying37, by kernel_rfl, by kernel_rfl, by kernel_rfl, by kernel_rfl, .inl rfl⟩
theorem okt39 : okT prg (39, ti_sl_int64) := ⟨_, Tryd.t39, Tryd.underlying39, by kernel_rfl, by kernel_rfl, by kernel_rfl, by kernel_rfl, .inr ⟨_, rfl, by kernel_rfl⟩⟩
theorem okt41 : okT prg (41, ti_int64_bool) := ⟨_, Tryd.t41, Tryd.underlying41, by kernel_rfl, by kernel_rfl, by kernel_rfl, by kernel_rfl, .inl rfl⟩
theorem okt43 : okT prg (43, ti_impl_Deed_bool) := ⟨_, Tryd.t43, Tryd.underlying43, by kernel_rfl, by kernel_rfl, by kernel_rfl, by kernel_rfl, .inl rfl⟩
theorem okt46 : okT prg (46, ti_sl_uint8) := ⟨_, Tryd.t46, Tryd.underlying46, by kernel_rfl, by kernel_rfl, by kernel_rfl, by kernel_rfl, .inr ⟨_, rfl, by kernel_rfl⟩⟩
theorem okt49 : okT prg (49, ti_2_int64) := ⟨_, Tryd.t49, Tryd.underlying49, by kernel_rfl, by kernel_rfl, by kernel_rfl, by kernel_rfl, .inr ⟨_, rfl, by kernel_rfl⟩⟩
theorem okt57 : okT prg (57, ti_uint64) := ⟨_, Tryd.t57, Tryd.underlying57, by kernel_rfl, by kernel_rfl, by kernel_rfl, by kernel_rfl, .inr ⟨_, rfl, by kernel_rfl⟩⟩
theorem tau_ok : OkS prg tau := ok_cons okt2 <| ok_cons okt3 <| ok_cons okt4 <| ok_cons okt5 <| ok_cons okt9 <| ok_cons okt23 <| ok_cons okt25 <| ok_cons okt28 <| ok_cons okt33 <| ok_cons okt37 <| ok_cons okt39 <| ok_cons okt41 <| ok_cons okt43 <| ok_cons okt46 <| ok_cons okt49 <| ok_cons okt57 <| ok_nil
theorem mixed : prg.follows .mixedOrders = true := by kernel_rfl
end Go.Sx
