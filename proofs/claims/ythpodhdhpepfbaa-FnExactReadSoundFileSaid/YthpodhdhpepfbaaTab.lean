/- The types of this seat's program, as the walk looks them up; its functions' and types' numbers by name. -/
import Derived.Test.YthpodhdhpepfbaaSx10
import Derived.Test.YthpodhdhpepfbaaChecked
namespace Go.Sx
open Go.Proofs
noncomputable abbrev prg : Program := Try.prog
abbrev f_main_main : Nat := 0
abbrev f_gosem_cut : Nat := 1
abbrev f_gosem_cut_init : Nat := 2
abbrev f_laws_FnExactCheckOf : Nat := 3
abbrev f_laws_FnExactValidDeed : Nat := 4
abbrev f_laws_FnExactTornSamples : Nat := 5
abbrev f_laws_FnExactMakeSoundFile : Nat := 6
abbrev f_laws_FnExactReadSoundFile : Nat := 7
abbrev f_laws_FnSoundFiles : Nat := 8
abbrev f_spec_CheckOf : Nat := 9
abbrev f_laws_toBlock : Nat := 10
abbrev f_impl_CheckOf : Nat := 11
abbrev f_spec_ValidDeed : Nat := 12
abbrev f_laws_toDeed : Nat := 13
abbrev f_impl_ValidDeed : Nat := 14
abbrev f_spec_TornSamples : Nat := 15
abbrev f_laws_toByteS : Nat := 16
abbrev f_impl_TornSamples : Nat := 17
abbrev f_laws_eqFloat32S : Nat := 18
abbrev f_laws_eqByteS : Nat := 19
abbrev f_laws_markByteS : Nat := 20
abbrev f_laws_markFloat32S : Nat := 21
abbrev f_laws_heldFloat32S : Nat := 22
abbrev f_spec_MakeSoundFile : Nat := 23
abbrev f_laws_toFloat32S : Nat := 24
abbrev f_impl_MakeSoundFile : Nat := 25
abbrev f_laws_heldByteS : Nat := 26
abbrev f_spec_ReadSoundFile : Nat := 27
abbrev f_impl_ReadSoundFile : Nat := 28
abbrev f_laws_f6big : Nat := 29
abbrev f_spec_P6Samples : Nat := 30
abbrev f_spec_P6Pick : Nat := 31
abbrev f_spec_SameReals : Nat := 32
abbrev f_impl_FromShort : Nat := 33
abbrev f_impl_ToShort : Nat := 34
abbrev f_spec_l10Check : Nat := 35
abbrev f_impl_checked : Nat := 36
abbrev f_impl_checkOfBytes_string : Nat := 37
abbrev f_impl_bitsOf : Nat := 38
abbrev f_spec_l00In : Nat := 39
abbrev f_spec_l10Numbers : Nat := 40
abbrev f_impl_deedWord : Nat := 41
abbrev f_impl_within : Nat := 42
abbrev f_spec_l10Long : Nat := 43
abbrev f_spec_l10Head : Nat := 44
abbrev f_spec_l10Samples : Nat := 45
abbrev f_impl_isLongFile : Nat := 46
abbrev f_impl_soundHead : Nat := 47
abbrev f_impl_soundSamples : Nat := 48
abbrev f_laws_sameFloat : Nat := 49
abbrev f_spec_l10Width : Nat := 50
abbrev f_spec_l10Rate : Nat := 51
abbrev f_spec_l10File : Nat := 52
abbrev f_impl_isSoundKind : Nat := 53
abbrev f_impl_soundFile : Nat := 54
abbrev f_impl_sampleSize : Nat := 55
abbrev f_bytes_Equal : Nat := 56
abbrev f_spec_l01Samples : Nat := 57
abbrev f_spec_l00From : Nat := 58
abbrev f_p_spec_l00Src_pick : Nat := 59
abbrev f_spec_l02SameList : Nat := 60
abbrev f_math_RoundToEven : Nat := 61
abbrev f_spec_l10Mix : Nat := 62
abbrev f_spec_l01Bits : Nat := 63
abbrev f_math_Float32bits : Nat := 64
abbrev f_spec_l10Number : Nat := 65
abbrev f_math_Float32frombits : Nat := 66
abbrev f_impl_littleOf : Nat := 67
abbrev f_spec_l10Four : Nat := 68
abbrev f_spec_l01Short : Nat := 69
abbrev f_spec_l10Sum : Nat := 70
abbrev f_impl_littleBytes : Nat := 71
abbrev f_impl_checkOfBytes_sl_byte : Nat := 72
abbrev f_spec_l01Any : Nat := 73
abbrev f_p_spec_l00Src_one : Nat := 74
abbrev f_p_spec_l00Src_next : Nat := 75
abbrev f_spec_l01Same : Nat := 76
abbrev f_spec_l01NaN : Nat := 77
abbrev f_math_NaN : Nat := 78
abbrev f_math_Inf : Nat := 79
abbrev f_spec_l01Plain : Nat := 80
abbrev f_math_Float64frombits : Nat := 81
abbrev f_runtime_boundsError_Error : Nat := 82
abbrev f_runtime_boundsError_RuntimeError : Nat := 83
abbrev f_runtime_errorString_Error : Nat := 84
abbrev f_runtime_errorString_RuntimeError : Nat := 85
abbrev f_runtime_plainError_Error : Nat := 86
abbrev f_runtime_plainError_RuntimeError : Nat := 87
abbrev f_runtime_errorAddressString_Error : Nat := 88
abbrev f_runtime_errorAddressString_RuntimeError : Nat := 89
abbrev f_p_runtime_TypeAssertionError_Error : Nat := 90
abbrev f_p_runtime_TypeAssertionError_RuntimeError : Nat := 91
abbrev f_p_runtime_PanicNilError_Error : Nat := 92
abbrev f_p_runtime_PanicNilError_RuntimeError : Nat := 93
abbrev f_p_internal_abi_Type_Align : Nat := 94
abbrev f_internal_runtime_maps_unhashableTypeError_Error : Nat := 95
abbrev f_internal_runtime_maps_unhashableTypeError_RuntimeError : Nat := 96
abbrev f_internal_abi_Kind_String : Nat := 97
abbrev T_int64 : Nat := 2
def Z_int64 : List Value := [.int .i64 (0 : Int)]
def ti_int64 : TI := ⟨.int .i64, 1, 8, Z_int64⟩
theorem U_int64 : prg.underlying T_int64 = some (.int .i64) := Try.underlying2
abbrev T_int : Nat := 3
def Z_int : List Value := [.int .i64 (0 : Int)]
def ti_int : TI := ⟨.int .i64, 1, 8, Z_int⟩
theorem U_int : prg.underlying T_int = some (.int .i64) := Try.underlying3
abbrev T_bool : Nat := 4
def Z_bool : List Value := [.bool false]
def ti_bool : TI := ⟨.bool, 1, 1, Z_bool⟩
theorem U_bool : prg.underlying T_bool = some (.bool) := Try.underlying4
abbrev T_uint8 : Nat := 5
def Z_uint8 : List Value := [.int .u8 (0 : Int)]
def ti_uint8 : TI := ⟨.int .u8, 1, 1, Z_uint8⟩
theorem U_uint8 : prg.underlying T_uint8 = some (.int .u8) := Try.underlying5
abbrev T_string : Nat := 9
def Z_string : List Value := [.string (⟨#[]⟩ : ByteArray)]
def ti_string : TI := ⟨.str, 1, 16, Z_string⟩
theorem U_string : prg.underlying T_string = some (.string) := Try.underlying9
abbrev T_float32 : Nat := 22
def Z_float32 : List Value := [.float .f32 0]
def ti_float32 : TI := ⟨.float .f32, 1, 4, Z_float32⟩
theorem U_float32 : prg.underlying T_float32 = some (.float .f32) := Try.underlying22
abbrev T_16_float32 : Nat := 23
def Z_16_float32 : List Value := List.replicate 16 (.float .f32 0)
def ti_16_float32 : TI := ⟨.arr 16 22, 16, 64, Z_16_float32⟩
abbrev T_uint32 : Nat := 24
def Z_uint32 : List Value := [.int .u32 (0 : Int)]
def ti_uint32 : TI := ⟨.int .u32, 1, 4, Z_uint32⟩
theorem U_uint32 : prg.underlying T_uint32 = some (.int .u32) := Try.underlying24
abbrev T_impl_Block : Nat := 26
def Z_impl_Block : List Value := List.replicate 16 (.float .f32 0)
def ti_impl_Block : TI := ⟨.arr 16 22, 16, 64, Z_impl_Block⟩
abbrev T_laws_Deed : Nat := 30
def Z_laws_Deed : List Value := [.int .i64 (0 : Int), .int .i64 (0 : Int), .int .i64 (0 : Int)]
def ti_laws_Deed : TI := ⟨.st [(2, 0), (2, 1), (2, 2)], 3, 24, Z_laws_Deed⟩
abbrev T_impl_Deed : Nat := 32
def Z_impl_Deed : List Value := [.int .i64 (0 : Int), .int .i64 (0 : Int), .int .i64 (0 : Int)]
def ti_impl_Deed : TI := ⟨.st [(2, 0), (2, 1), (2, 2)], 3, 24, Z_impl_Deed⟩
abbrev T_sl_uint8 : Nat := 35
def Z_sl_uint8 : List Value := [.slice none 0 0]
def ti_sl_uint8 : TI := ⟨.sl 5, 1, 24, Z_sl_uint8⟩
theorem U_sl_uint8 : prg.underlying T_sl_uint8 = some (.slice 5) := Try.underlying35
abbrev T_sl_float32 : Nat := 36
def Z_sl_float32 : List Value := [.slice none 0 0]
def ti_sl_float32 : TI := ⟨.sl 22, 1, 24, Z_sl_float32⟩
theorem U_sl_float32 : prg.underlying T_sl_float32 = some (.slice 22) := Try.underlying36
abbrev T_sl_float32_int64 : Nat := 37
def Z_sl_float32_int64 : List Value := []
def ti_sl_float32_int64 : TI := ⟨.tup [36, 2], 1, 0, Z_sl_float32_int64⟩
abbrev T_sl_uint8_int64 : Nat := 45
def Z_sl_uint8_int64 : List Value := []
def ti_sl_uint8_int64 : TI := ⟨.tup [35, 2], 1, 0, Z_sl_uint8_int64⟩
abbrev T_int64_int64_sl_float32_int64 : Nat := 49
def Z_int64_int64_sl_float32_int64 : List Value := []
def ti_int64_int64_sl_float32_int64 : TI := ⟨.tup [2, 2, 36, 2], 1, 0, Z_int64_int64_sl_float32_int64⟩
abbrev T_int16 : Nat := 54
def Z_int16 : List Value := [.int .i16 (0 : Int)]
def ti_int16 : TI := ⟨.int .i16, 1, 2, Z_int16⟩
theorem U_int16 : prg.underlying T_int16 = some (.int .i16) := Try.underlying54
abbrev T_string_int : Nat := 63
def Z_string_int : List Value := []
def ti_string_int : TI := ⟨.tup [9, 3], 1, 0, Z_string_int⟩
abbrev T_int64_int64_int_bool : Nat := 65
def Z_int64_int64_int_bool : List Value := []
def ti_int64_int64_int_bool : TI := ⟨.tup [2, 2, 3, 4], 1, 0, Z_int64_int64_int_bool⟩
abbrev T_float64 : Nat := 70
def Z_float64 : List Value := [.float .f64 0]
def ti_float64 : TI := ⟨.float .f64, 1, 8, Z_float64⟩
theorem U_float64 : prg.underlying T_float64 = some (.float .f64) := Try.underlying70
abbrev T_p_spec_l00Src : Nat := 75
def Z_p_spec_l00Src : List Value := [.pointer none]
def ti_p_spec_l00Src : TI := ⟨.ptr, 1, 8, Z_p_spec_l00Src⟩
abbrev T_uint16 : Nat := 79
def Z_uint16 : List Value := [.int .u16 (0 : Int)]
def ti_uint16 : TI := ⟨.int .u16, 1, 2, Z_uint16⟩
theorem U_uint16 : prg.underlying T_uint16 = some (.int .u16) := Try.underlying79
abbrev T_uint64 : Nat := 82
def Z_uint64 : List Value := [.int .u64 (0 : Int)]
def ti_uint64 : TI := ⟨.int .u64, 1, 8, Z_uint64⟩
theorem U_uint64 : prg.underlying T_uint64 = some (.int .u64) := Try.underlying82
abbrev T_spec_l00Src : Nat := 88
def Z_spec_l00Src : List Value := [.slice none 0 0, .int .i64 (0 : Int), .int .u64 (0 : Int)]
def ti_spec_l00Src : TI := ⟨.st [(35, 0), (3, 1), (82, 2)], 3, 40, Z_spec_l00Src⟩
theorem X_main_main : prg.funcs[f_main_main]? = some Try.f0 := Try.func0
theorem X_gosem_cut : prg.funcs[f_gosem_cut]? = some Try.f1 := Try.func1
theorem X_math_RoundToEven : prg.funcs[f_math_RoundToEven]? = some Try.f61 := Try.func61
theorem X_math_Float32bits : prg.funcs[f_math_Float32bits]? = some Try.f64 := Try.func64
theorem X_math_Float32frombits : prg.funcs[f_math_Float32frombits]? = some Try.f66 := Try.func66
theorem X_math_Float64frombits : prg.funcs[f_math_Float64frombits]? = some Try.f81 := Try.func81
theorem X_runtime_boundsError_Error : prg.funcs[f_runtime_boundsError_Error]? = some Try.f82 := Try.func82
theorem X_runtime_boundsError_RuntimeError : prg.funcs[f_runtime_boundsError_RuntimeError]? = some Try.f83 := Try.func83
theorem X_runtime_errorString_Error : prg.funcs[f_runtime_errorString_Error]? = some Try.f84 := Try.func84
theorem X_runtime_errorString_RuntimeError : prg.funcs[f_runtime_errorString_RuntimeError]? = some Try.f85 := Try.func85
theorem X_runtime_plainError_Error : prg.funcs[f_runtime_plainError_Error]? = some Try.f86 := Try.func86
theorem X_runtime_plainError_RuntimeError : prg.funcs[f_runtime_plainError_RuntimeError]? = some Try.f87 := Try.func87
theorem X_runtime_errorAddressString_Error : prg.funcs[f_runtime_errorAddressString_Error]? = some Try.f88 := Try.func88
theorem X_runtime_errorAddressString_RuntimeError : prg.funcs[f_runtime_errorAddressString_RuntimeError]? = some Try.f89 := Try.func89
theorem X_p_runtime_TypeAssertionError_Error : prg.funcs[f_p_runtime_TypeAssertionError_Error]? = some Try.f90 := Try.func90
theorem X_p_runtime_TypeAssertionError_RuntimeError : prg.funcs[f_p_runtime_TypeAssertionError_RuntimeError]? = some Try.f91 := Try.func91
theorem X_p_runtime_PanicNilError_Error : prg.funcs[f_p_runtime_PanicNilError_Error]? = some Try.f92 := Try.func92
theorem X_p_runtime_PanicNilError_RuntimeError : prg.funcs[f_p_runtime_PanicNilError_RuntimeError]? = some Try.f93 := Try.func93
theorem X_p_internal_abi_Type_Align : prg.funcs[f_p_internal_abi_Type_Align]? = some Try.f94 := Try.func94
theorem X_internal_runtime_maps_unhashableTypeError_Error : prg.funcs[f_internal_runtime_maps_unhashableTypeError_Error]? = some Try.f95 := Try.func95
theorem X_internal_runtime_maps_unhashableTypeError_RuntimeError : prg.funcs[f_internal_runtime_maps_unhashableTypeError_RuntimeError]? = some Try.f96 := Try.func96
theorem X_internal_abi_Kind_String : prg.funcs[f_internal_abi_Kind_String]? = some Try.f97 := Try.func97
def tau : Static := [(2, ti_int64), (3, ti_int), (4, ti_bool), (5, ti_uint8), (9, ti_string), (22, ti_float32), (23, ti_16_float32), (24, ti_uint32), (26, ti_impl_Block), (30, ti_laws_Deed), (32, ti_impl_Deed), (35, ti_sl_uint8), (36, ti_sl_float32), (37, ti_sl_float32_int64), (45, ti_sl_uint8_int64), (49, ti_int64_int64_sl_float32_int64), (54, ti_int16), (63, ti_string_int), (65, ti_int64_int64_int_bool), (70, ti_float64), (75, ti_p_spec_l00Src), (79, ti_uint16), (82, ti_uint64), (88, ti_spec_l00Src)]
theorem ok_nil {P : Program} : OkS P [] := fun _ h => by cases h
theorem ok_cons {P : Program} {e : Nat × TI} {r : Static} (h : okT P e) (k : OkS P r) : OkS P (e :: r) := fun x hx => by
  rcases List.mem_cons.1 hx with rfl | hx
  · exact h
  · exact k x hx
theorem okt2 : okT prg (2, ti_int64) := ⟨_, Try.t2, Try.underlying2, by kernel_rfl, by kernel_rfl, by kernel_rfl, by kernel_rfl, .inr ⟨_, rfl, by kernel_rfl⟩⟩
theorem okt3 : okT prg (3, ti_int) := ⟨_, Try.t3, Try.underlying3, by kernel_rfl, by kernel_rfl, by kernel_rfl, by kernel_rfl, .inr ⟨_, rfl, by kernel_rfl⟩⟩
theorem okt4 : okT prg (4, ti_bool) := ⟨_, Try.t4, Try.underlying4, by kernel_rfl, by kernel_rfl, by kernel_rfl, by kernel_rfl, .inr ⟨_, rfl, by kernel_rfl⟩⟩
theorem okt5 : okT prg (5, ti_uint8) := ⟨_, Try.t5, Try.underlying5, by kernel_rfl, by kernel_rfl, by kernel_rfl, by kernel_rfl, .inr ⟨_, rfl, by kernel_rfl⟩⟩
theorem okt9 : okT prg (9, ti_string) := ⟨_, Try.t9, Try.underlying9, by kernel_rfl, by kernel_rfl, by kernel_rfl, by kernel_rfl, .inr ⟨_, rfl, by kernel_rfl⟩⟩
theorem okt22 : okT prg (22, ti_float32) := ⟨_, Try.t22, Try.underlying22, by kernel_rfl, by kernel_rfl, by kernel_rfl, by kernel_rfl, .inr ⟨_, rfl, by kernel_rfl⟩⟩
theorem okt23 : okT prg (23, ti_16_float32) := ⟨_, Try.t23, Try.underlying23, by kernel_rfl, by kernel_rfl, by kernel_rfl, by kernel_rfl, .inr ⟨_, rfl, by kernel_rfl⟩⟩
theorem okt24 : okT prg (24, ti_uint32) := ⟨_, Try.t24, Try.underlying24, by kernel_rfl, by kernel_rfl, by kernel_rfl, by kernel_rfl, .inr ⟨_, rfl, by kernel_rfl⟩⟩
theorem okt26 : okT prg (26, ti_impl_Block) := ⟨_, Try.t26, Try.underlying26, by kernel_rfl, by kernel_rfl, by kernel_rfl, by kernel_rfl, .inr ⟨_, rfl, by kernel_rfl⟩⟩
theorem okt30 : okT prg (30, ti_laws_Deed) := ⟨_, Try.t30, Try.underlying30, by kernel_rfl, by kernel_rfl, by kernel_rfl, by kernel_rfl, .inr ⟨_, rfl, by kernel_rfl⟩⟩
theorem okt32 : okT prg (32, ti_impl_Deed) := ⟨_, Try.t32, Try.underlying32, by kernel_rfl, by kernel_rfl, by kernel_rfl, by kernel_rfl, .inr ⟨_, rfl, by kernel_rfl⟩⟩
theorem okt35 : okT prg (35, ti_sl_uint8) := ⟨_, Try.t35, Try.underlying35, by kernel_rfl, by kernel_rfl, by kernel_rfl, by kernel_rfl, .inr ⟨_, rfl, by kernel_rfl⟩⟩
theorem okt36 : okT prg (36, ti_sl_float32) := ⟨_, Try.t36, Try.underlying36, by kernel_rfl, by kernel_rfl, by kernel_rfl, by kernel_rfl, .inr ⟨_, rfl, by kernel_rfl⟩⟩
theorem okt37 : okT prg (37, ti_sl_float32_int64) := ⟨_, Try.t37, Try.underlying37, by kernel_rfl, by kernel_rfl, by kernel_rfl, by kernel_rfl, .inl rfl⟩
theorem okt45 : okT prg (45, ti_sl_uint8_int64) := ⟨_, Try.t45, Try.underlying45, by kernel_rfl, by kernel_rfl, by kernel_rfl, by kernel_rfl, .inl rfl⟩
theorem okt49 : okT prg (49, ti_int64_int64_sl_float32_int64) := ⟨_, Try.t49, Try.underlying49, by kernel_rfl, by kernel_rfl, by kernel_rfl, by kernel_rfl, .inl rfl⟩
theorem okt54 : okT prg (54, ti_int16) := ⟨_, Try.t54, Try.underlying54, by kernel_rfl, by kernel_rfl, by kernel_rfl, by kernel_rfl, .inr ⟨_, rfl, by kernel_rfl⟩⟩
theorem okt63 : okT prg (63, ti_string_int) := ⟨_, Try.t63, Try.underlying63, by kernel_rfl, by kernel_rfl, by kernel_rfl, by kernel_rfl, .inl rfl⟩
theorem okt65 : okT prg (65, ti_int64_int64_int_bool) := ⟨_, Try.t65, Try.underlying65, by kernel_rfl, by kernel_rfl, by kernel_rfl, by kernel_rfl, .inl rfl⟩
theorem okt70 : okT prg (70, ti_float64) := ⟨_, Try.t70, Try.underlying70, by kernel_rfl, by kernel_rfl, by kernel_rfl, by kernel_rfl, .inr ⟨_, rfl, by kernel_rfl⟩⟩
theorem okt75 : okT prg (75, ti_p_spec_l00Src) := ⟨_, Try.t75, Try.underlying75, by kernel_rfl, by kernel_rfl, by kernel_rfl, by kernel_rfl, .inr ⟨_, rfl, by kernel_rfl⟩⟩
theorem okt79 : okT prg (79, ti_uint16) := ⟨_, Try.t79, Try.underlying79, by kernel_rfl, by kernel_rfl, by kernel_rfl, by kernel_rfl, .inr ⟨_, rfl, by kernel_rfl⟩⟩
theorem okt82 : okT prg (82, ti_uint64) := ⟨_, Try.t82, Try.underlying82, by kernel_rfl, by kernel_rfl, by kernel_rfl, by kernel_rfl, .inr ⟨_, rfl, by kernel_rfl⟩⟩
theorem okt88 : okT prg (88, ti_spec_l00Src) := ⟨_, Try.t88, Try.underlying88, by kernel_rfl, by kernel_rfl, by kernel_rfl, by kernel_rfl, .inr ⟨_, rfl, by kernel_rfl⟩⟩
theorem tau_ok : OkS prg tau := ok_cons okt2 <| ok_cons okt3 <| ok_cons okt4 <| ok_cons okt5 <| ok_cons okt9 <| ok_cons okt22 <| ok_cons okt23 <| ok_cons okt24 <| ok_cons okt26 <| ok_cons okt30 <| ok_cons okt32 <| ok_cons okt35 <| ok_cons okt36 <| ok_cons okt37 <| ok_cons okt45 <| ok_cons okt49 <| ok_cons okt54 <| ok_cons okt63 <| ok_cons okt65 <| ok_cons okt70 <| ok_cons okt75 <| ok_cons okt79 <| ok_cons okt82 <| ok_cons okt88 <| ok_nil
theorem mixed : prg.follows .mixedOrders = true := by kernel_rfl
end Go.Sx
