/- The types of this seat's program, as the walk looks them up; its functions' and types' numbers by name. -/
import Derived.Test.YtjoajnmhdobbfaaSx10
import Derived.Test.YtjoajnmhdobbfaaChecked
namespace Go.Sx
open Go.Proofs
noncomputable abbrev prg : Program := Try.prog
abbrev f_laws_FnSoundFiles : Nat := 3
abbrev f_laws_f6big : Nat := 6
abbrev f_spec_P6Samples : Nat := 7
abbrev f_spec_P6Pick : Nat := 8
abbrev f_impl_MakeSoundFile : Nat := 9
abbrev f_impl_ReadSoundFile : Nat := 10
abbrev f_spec_SameReals : Nat := 11
abbrev f_impl_FromShort : Nat := 12
abbrev f_impl_ToShort : Nat := 13
abbrev f_impl_TornSamples : Nat := 14
abbrev f_spec_ReadSoundFile : Nat := 15
abbrev f_spec_l01Samples : Nat := 30
abbrev f_spec_l00From : Nat := 31
abbrev f_p_spec_l00Src_pick : Nat := 32
abbrev f_impl_isSoundKind : Nat := 33
abbrev f_impl_within : Nat := 34
abbrev f_impl_soundFile : Nat := 35
abbrev f_impl_isLongFile : Nat := 36
abbrev f_impl_soundHead : Nat := 37
abbrev f_impl_sampleSize : Nat := 38
abbrev f_impl_soundSamples : Nat := 39
abbrev f_bytes_Equal : Nat := 40
abbrev f_spec_l02SameList : Nat := 41
abbrev f_math_RoundToEven : Nat := 42
abbrev f_spec_l10Long : Nat := 43
abbrev f_spec_l10Head : Nat := 44
abbrev f_spec_l10Width : Nat := 45
abbrev f_spec_l10Samples : Nat := 46
abbrev f_spec_l10File : Nat := 47
abbrev f_spec_l01Any : Nat := 80
abbrev f_p_spec_l00Src_one : Nat := 81
abbrev f_p_spec_l00Src_next : Nat := 82
abbrev f_impl_littleBytes : Nat := 83
abbrev f_impl_bitsOf : Nat := 84
abbrev f_impl_checkOfBytes_sl_byte : Nat := 85
abbrev f_impl_littleOf : Nat := 86
abbrev f_math_Float32frombits : Nat := 87
abbrev f_spec_l01Same : Nat := 88
abbrev f_spec_l10Number : Nat := 89
abbrev f_spec_l10Rate : Nat := 90
abbrev f_spec_l10Four : Nat := 91
abbrev f_spec_l01Short : Nat := 92
abbrev f_spec_l01Bits : Nat := 93
abbrev f_spec_l10Sum : Nat := 94
abbrev f_math_NaN : Nat := 148
abbrev f_math_Inf : Nat := 149
abbrev f_spec_l01Plain : Nat := 150
abbrev f_math_Float32bits : Nat := 151
abbrev f_impl_checked : Nat := 152
abbrev f_spec_l01NaN : Nat := 153
abbrev f_spec_l00In : Nat := 154
abbrev f_spec_l10Mix : Nat := 155
abbrev f_math_Float64frombits : Nat := 191
def Z_int64 : List Value := [.int .i64 (0 : Int)]
def ti_int64 : TI := ⟨.int .i64, 1, 8, Z_int64⟩
def Z_int : List Value := [.int .i64 (0 : Int)]
def ti_int : TI := ⟨.int .i64, 1, 8, Z_int⟩
def Z_bool : List Value := [.bool false]
def ti_bool : TI := ⟨.bool, 1, 1, Z_bool⟩
abbrev T_uint8 : Nat := 5
def Z_uint8 : List Value := [.int .u8 (0 : Int)]
def ti_uint8 : TI := ⟨.int .u8, 1, 1, Z_uint8⟩
theorem U_uint8 : prg.underlying T_uint8 = some (.int .u8) := Try.underlying5
abbrev T_string : Nat := 9
def Z_string : List Value := [.string (⟨#[]⟩ : ByteArray)]
def ti_string : TI := ⟨.str, 1, 16, Z_string⟩
theorem U_string : prg.underlying T_string = some (.string) := Try.underlying9
abbrev T_sl_uint8 : Nat := 22
def Z_sl_uint8 : List Value := [.slice none 0 0]
def ti_sl_uint8 : TI := ⟨.sl 5, 1, 24, Z_sl_uint8⟩
theorem U_sl_uint8 : prg.underlying T_sl_uint8 = some (.slice 5) := Try.underlying22
abbrev T_sl_float32 : Nat := 24
def Z_sl_float32 : List Value := [.slice none 0 0]
def ti_sl_float32 : TI := ⟨.sl 32, 1, 24, Z_sl_float32⟩
def Z_sl_uint8_int64 : List Value := []
def ti_sl_uint8_int64 : TI := ⟨.tup [22, 2], 1, 0, Z_sl_uint8_int64⟩
def Z_int64_int64_sl_float32_int64 : List Value := []
def ti_int64_int64_sl_float32_int64 : TI := ⟨.tup [2, 2, 24, 2], 1, 0, Z_int64_int64_sl_float32_int64⟩
abbrev T_float32 : Nat := 32
def Z_float32 : List Value := [.float .f32 0]
def ti_float32 : TI := ⟨.float .f32, 1, 4, Z_float32⟩
def Z_int16 : List Value := [.int .i16 (0 : Int)]
def ti_int16 : TI := ⟨.int .i16, 1, 2, Z_int16⟩
def Z_sl_float32_int64 : List Value := []
def ti_sl_float32_int64 : TI := ⟨.tup [24, 2], 1, 0, Z_sl_float32_int64⟩
def Z_p_spec_l00Src : List Value := [.pointer none]
def ti_p_spec_l00Src : TI := ⟨.ptr, 1, 8, Z_p_spec_l00Src⟩
def Z_int64_int64_int_bool : List Value := []
def ti_int64_int64_int_bool : TI := ⟨.tup [2, 2, 3, 4], 1, 0, Z_int64_int64_int_bool⟩
def Z_float64 : List Value := [.float .f64 0]
def ti_float64 : TI := ⟨.float .f64, 1, 8, Z_float64⟩
def Z_uint64 : List Value := [.int .u64 (0 : Int)]
def ti_uint64 : TI := ⟨.int .u64, 1, 8, Z_uint64⟩
abbrev T_spec_l00Src : Nat := 135
def Z_spec_l00Src : List Value := [.slice none 0 0, .int .i64 (0 : Int), .int .u64 (0 : Int)]
def ti_spec_l00Src : TI := ⟨.st [(22, 0), (3, 1), (133, 2)], 3, 40, Z_spec_l00Src⟩
def Z_uint16 : List Value := [.int .u16 (0 : Int)]
def ti_uint16 : TI := ⟨.int .u16, 1, 2, Z_uint16⟩
def Z_uint32 : List Value := [.int .u32 (0 : Int)]
def ti_uint32 : TI := ⟨.int .u32, 1, 4, Z_uint32⟩
theorem X_math_RoundToEven : prg.funcs[f_math_RoundToEven]? = some Try.f42 := Try.func42
theorem X_math_Float32frombits : prg.funcs[f_math_Float32frombits]? = some Try.f87 := Try.func87
theorem X_math_Float32bits : prg.funcs[f_math_Float32bits]? = some Try.f151 := Try.func151
theorem X_math_Float64frombits : prg.funcs[f_math_Float64frombits]? = some Try.f191 := Try.func191
def tau : Static := [(2, ti_int64), (3, ti_int), (4, ti_bool), (5, ti_uint8), (9, ti_string), (22, ti_sl_uint8), (24, ti_sl_float32), (27, ti_sl_uint8_int64), (29, ti_int64_int64_sl_float32_int64), (32, ti_float32), (34, ti_int16), (36, ti_sl_float32_int64), (83, ti_p_spec_l00Src), (89, ti_int64_int64_int_bool), (93, ti_float64), (133, ti_uint64), (135, ti_spec_l00Src), (138, ti_uint16), (139, ti_uint32)]
theorem ok_nil {P : Program} : OkS P [] := fun _ h => by cases h
theorem ok_cons {P : Program} {e : Nat × TI} {r : Static} (h : okT P e) (k : OkS P r) : OkS P (e :: r) := fun x hx => by
  rcases List.mem_cons.1 hx with rfl | hx
  · exact h
  · exact k x hx
theorem okt2 : okT prg (2, ti_int64) := ⟨_, Try.t2, Try.underlying2, by kernel_rfl, by kernel_rfl, by kernel_rfl, by kernel_rfl, .inr ⟨_, rfl, by kernel_rfl⟩⟩
theorem okt3 : okT prg (3, ti_int) := ⟨_, Try.t3, Try.underlying3, by kernel_rfl, by kernel_rfl, by kernel_rfl, by kernel_rfl, .inr ⟨_, rfl, by kernel_rfl⟩⟩
theorem okt4 : okT prg (4, ti_bool) := ⟨_, Try.t4, Try.underlying4, by kernel_rfl, by kernel_rfl, by kernel_rfl, by kernel_rfl, .inr ⟨_, rfl, by kernel_rfl⟩⟩
theorem okt5 : okT prg (5, ti_uint8) := ⟨_, Try.t5, Try.underlying5, by kernel_rfl, by kernel_rfl, by kernel_rfl, by kernel_rfl, .inr ⟨_, rfl, by kernel_rfl⟩⟩
theorem okt9 : okT prg (9, ti_string) := ⟨_, Try.t9, Try.underlying9, by kernel_rfl, by kernel_rfl, by kernel_rfl, by kernel_rfl, .inr ⟨_, rfl, by kernel_rfl⟩⟩
theorem okt22 : okT prg (22, ti_sl_uint8) := ⟨_, Try.t22, Try.underlying22, by kernel_rfl, by kernel_rfl, by kernel_rfl, by kernel_rfl, .inr ⟨_, rfl, by kernel_rfl⟩⟩
theorem okt24 : okT prg (24, ti_sl_float32) := ⟨_, Try.t24, Try.underlying24, by kernel_rfl, by kernel_rfl, by kernel_rfl, by kernel_rfl, .inr ⟨_, rfl, by kernel_rfl⟩⟩
theorem okt27 : okT prg (27, ti_sl_uint8_int64) := ⟨_, Try.t27, Try.underlying27, by kernel_rfl, by kernel_rfl, by kernel_rfl, by kernel_rfl, .inl rfl⟩
theorem okt29 : okT prg (29, ti_int64_int64_sl_float32_int64) := ⟨_, Try.t29, Try.underlying29, by kernel_rfl, by kernel_rfl, by kernel_rfl, by kernel_rfl, .inl rfl⟩
theorem okt32 : okT prg (32, ti_float32) := ⟨_, Try.t32, Try.underlying32, by kernel_rfl, by kernel_rfl, by kernel_rfl, by kernel_rfl, .inr ⟨_, rfl, by kernel_rfl⟩⟩
theorem okt34 : okT prg (34, ti_int16) := ⟨_, Try.t34, Try.underlying34, by kernel_rfl, by kernel_rfl, by kernel_rfl, by kernel_rfl, .inr ⟨_, rfl, by kernel_rfl⟩⟩
theorem okt36 : okT prg (36, ti_sl_float32_int64) := ⟨_, Try.t36, Try.underlying36, by kernel_rfl, by kernel_rfl, by kernel_rfl, by kernel_rfl, .inl rfl⟩
theorem okt83 : okT prg (83, ti_p_spec_l00Src) := ⟨_, Try.t83, Try.underlying83, by kernel_rfl, by kernel_rfl, by kernel_rfl, by kernel_rfl, .inr ⟨_, rfl, by kernel_rfl⟩⟩
theorem okt89 : okT prg (89, ti_int64_int64_int_bool) := ⟨_, Try.t89, Try.underlying89, by kernel_rfl, by kernel_rfl, by kernel_rfl, by kernel_rfl, .inl rfl⟩
theorem okt93 : okT prg (93, ti_float64) := ⟨_, Try.t93, Try.underlying93, by kernel_rfl, by kernel_rfl, by kernel_rfl, by kernel_rfl, .inr ⟨_, rfl, by kernel_rfl⟩⟩
theorem okt133 : okT prg (133, ti_uint64) := ⟨_, Try.t133, Try.underlying133, by kernel_rfl, by kernel_rfl, by kernel_rfl, by kernel_rfl, .inr ⟨_, rfl, by kernel_rfl⟩⟩
theorem okt135 : okT prg (135, ti_spec_l00Src) := ⟨_, Try.t135, Try.underlying135, by kernel_rfl, by kernel_rfl, by kernel_rfl, by kernel_rfl, .inr ⟨_, rfl, by kernel_rfl⟩⟩
theorem okt138 : okT prg (138, ti_uint16) := ⟨_, Try.t138, Try.underlying138, by kernel_rfl, by kernel_rfl, by kernel_rfl, by kernel_rfl, .inr ⟨_, rfl, by kernel_rfl⟩⟩
theorem okt139 : okT prg (139, ti_uint32) := ⟨_, Try.t139, Try.underlying139, by kernel_rfl, by kernel_rfl, by kernel_rfl, by kernel_rfl, .inr ⟨_, rfl, by kernel_rfl⟩⟩
theorem tau_ok : OkS prg tau := ok_cons okt2 <| ok_cons okt3 <| ok_cons okt4 <| ok_cons okt5 <| ok_cons okt9 <| ok_cons okt22 <| ok_cons okt24 <| ok_cons okt27 <| ok_cons okt29 <| ok_cons okt32 <| ok_cons okt34 <| ok_cons okt36 <| ok_cons okt83 <| ok_cons okt89 <| ok_cons okt93 <| ok_cons okt133 <| ok_cons okt135 <| ok_cons okt138 <| ok_cons okt139 <| ok_nil
theorem mixed : prg.follows .mixedOrders = true := by kernel_rfl
end Go.Sx
