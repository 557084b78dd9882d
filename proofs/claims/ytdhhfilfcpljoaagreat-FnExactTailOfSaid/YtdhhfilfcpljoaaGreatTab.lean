/- The types of this seat's program, as the walk looks them up; its functions' and types' numbers by name. -/
import Derived.Test.YtdhhfilfcpljoaaGreatSx10
import Derived.Test.YtdhhfilfcpljoaaGreatChecked
namespace Go.Sx
open Go.Proofs
noncomputable abbrev prg : Program := Tryz.prog
abbrev f_main_main : Nat := 0
abbrev f_gosem_cut : Nat := 1
abbrev f_gosem_cut_init : Nat := 2
abbrev f_laws_FnTail : Nat := 3
abbrev f_laws_FnExactTailOf : Nat := 4
abbrev f_laws_FnExactStepRoom : Nat := 5
abbrev f_laws_FnExactPlayRoom : Nat := 6
abbrev f_laws_FnExactBlockOfRoom : Nat := 7
abbrev f_laws_FnSilentStays : Nat := 8
abbrev f_laws_f6big : Nat := 9
abbrev f_spec_P6Room : Nat := 10
abbrev f_spec_P6Pick : Nat := 11
abbrev f_impl_TailOf : Nat := 12
abbrev f_spec_TailOf : Nat := 13
abbrev f_impl_PlayRoom : Nat := 14
abbrev f_impl_IsSilentRoom : Nat := 15
abbrev f_spec_P6Plain : Nat := 16
abbrev f_impl_WithTaps : Nat := 17
abbrev f_spec_WithTaps : Nat := 18
abbrev f_spec_SameRoom : Nat := 19
abbrev f_laws_szRoom : Nat := 20
abbrev f_laws_toRoom : Nat := 21
abbrev f_laws_eqRoom : Nat := 22
abbrev f_spec_StepRoom : Nat := 23
abbrev f_impl_StepRoom : Nat := 24
abbrev f_laws_sameFloat : Nat := 25
abbrev f_laws_markRoom : Nat := 26
abbrev f_laws_heldRoom : Nat := 27
abbrev f_spec_PlayRoom : Nat := 28
abbrev f_laws_toFloat32S : Nat := 29
abbrev f_laws_eqFloat32S : Nat := 30
abbrev f_laws_markFloat32S : Nat := 31
abbrev f_laws_heldFloat32S : Nat := 32
abbrev f_spec_BlockOfRoom : Nat := 33
abbrev f_laws_toBlock : Nat := 34
abbrev f_impl_BlockOfRoom : Nat := 35
abbrev f_laws_eqBlock : Nat := 36
abbrev f_spec_MuteBow : Nat := 37
abbrev f_spec_P6Bow : Nat := 38
abbrev f_spec_MuteJet : Nat := 39
abbrev f_spec_P6Jet : Nat := 40
abbrev f_spec_MuteRoom : Nat := 41
abbrev f_impl_PlayBow : Nat := 42
abbrev f_impl_PlayJet : Nat := 43
abbrev f_impl_IsSilentBow : Nat := 44
abbrev f_impl_IsSilentJet : Nat := 45
abbrev f_impl_PullBow : Nat := 46
abbrev f_impl_StepBow : Nat := 47
abbrev f_spec_l06Drawn : Nat := 48
abbrev f_spec_l00From : Nat := 49
abbrev f_p_spec_l00Src_pick : Nat := 50
abbrev f_impl_ValidRoom : Nat := 51
abbrev f_impl_within : Nat := 52
abbrev f_impl_Room_clone : Nat := 53
abbrev f_impl_steps : Nat := 54
abbrev f_p_impl_Room_rings : Nat := 55
abbrev f_p_impl_Room_isStill : Nat := 56
abbrev f_impl_TailOf_c1 : Nat := 57
abbrev f_p_impl_Room_step : Nat := 58
abbrev f_spec_l06Ok : Nat := 59
abbrev f_spec_l00In : Nat := 60
abbrev f_spec_l06Copy : Nat := 61
abbrev f_spec_l06Silent : Nat := 62
abbrev f_spec_l06Step : Nat := 63
abbrev f_impl_areQuiet : Nat := 64
abbrev f_spec_l01Plain : Nat := 65
abbrev f_slices_ContainsFunc_sl_impl_Tap_impl_Tap : Nat := 66
abbrev f_impl_WithTaps_c1 : Nat := 67
abbrev f_impl_isTap : Nat := 68
abbrev f_impl_NewRing : Nat := 69
abbrev f_slices_Clone_sl_impl_Tap_impl_Tap : Nat := 70
abbrev f_spec_l01Finite : Nat := 71
abbrev f_spec_l06Silence : Nat := 72
abbrev f_spec_l06Same : Nat := 73
abbrev f_laws_szRing : Nat := 74
abbrev f_laws_szTapS : Nat := 75
abbrev f_laws_szCombA2 : Nat := 76
abbrev f_laws_szRingA4 : Nat := 77
abbrev f_laws_toRing : Nat := 78
abbrev f_laws_toTapS : Nat := 79
abbrev f_laws_toCombA2 : Nat := 80
abbrev f_laws_toRingA4 : Nat := 81
abbrev f_laws_toFilterA4 : Nat := 82
abbrev f_laws_toFloat32A4 : Nat := 83
abbrev f_laws_eqRing : Nat := 84
abbrev f_laws_eqTapS : Nat := 85
abbrev f_laws_eqCombA2 : Nat := 86
abbrev f_laws_eqRingA4 : Nat := 87
abbrev f_laws_eqFilterA4 : Nat := 88
abbrev f_laws_eqFloat32A4 : Nat := 89
abbrev f_laws_markRing : Nat := 90
abbrev f_laws_markTapS : Nat := 91
abbrev f_laws_markCombA2 : Nat := 92
abbrev f_laws_markRingA4 : Nat := 93
abbrev f_laws_heldRing : Nat := 94
abbrev f_laws_heldTapS : Nat := 95
abbrev f_laws_heldCombA2 : Nat := 96
abbrev f_laws_heldRingA4 : Nat := 97
abbrev f_impl_made : Nat := 98
abbrev f_impl_BlockOfRoom_c1 : Nat := 99
abbrev f_spec_l05Bow : Nat := 100
abbrev f_spec_l05CopyBow : Nat := 101
abbrev f_spec_l05Muted : Nat := 102
abbrev f_spec_l05DrawnBow : Nat := 103
abbrev f_spec_l05Jet : Nat := 104
abbrev f_spec_l05CopyJet : Nat := 105
abbrev f_spec_l05DrawnJet : Nat := 106
abbrev f_impl_ValidBow : Nat := 107
abbrev f_impl_Bow_clone : Nat := 108
abbrev f_p_impl_Bow_step : Nat := 109
abbrev f_impl_ValidJet : Nat := 110
abbrev f_impl_Jet_clone : Nat := 111
abbrev f_p_impl_Jet_step : Nat := 112
abbrev f_impl_Ring_isQuiet : Nat := 113
abbrev f_impl_Filter_isStill : Nat := 114
abbrev f_impl_isFinite : Nat := 115
abbrev f_impl_kept : Nat := 116
abbrev f_spec_NewRoom : Nat := 117
abbrev f_p_spec_l00Src_one : Nat := 118
abbrev f_spec_l06Taps : Nat := 119
abbrev f_p_spec_l00Src_next : Nat := 120
abbrev f_impl_isRing : Nat := 121
abbrev f_impl_areFinite : Nat := 122
abbrev f_impl_ValidComb : Nat := 123
abbrev f_impl_isFilter : Nat := 124
abbrev f_impl_ValidRoom_c1 : Nat := 125
abbrev f_impl_length_float32 : Nat := 126
abbrev f_impl_Ring_clone : Nat := 127
abbrev f_impl_Ring_quiet : Nat := 128
abbrev f_impl_Ring_back : Nat := 129
abbrev f_p_impl_Room_early : Nat := 130
abbrev f_p_impl_Ring_push : Nat := 131
abbrev f_p_impl_Comb_step : Nat := 132
abbrev f_impl_Ring_oldest : Nat := 133
abbrev f_p_impl_Filter_step : Nat := 134
abbrev f_impl_MixFour : Nat := 135
abbrev f_spec_l04Rings : Nat := 136
abbrev f_spec_l06Comb : Nat := 137
abbrev f_spec_l06Loops : Nat := 138
abbrev f_spec_l02Ok : Nat := 139
abbrev f_spec_l04All : Nat := 140
abbrev f_spec_l02Copy : Nat := 141
abbrev f_spec_l06CopyComb : Nat := 142
abbrev f_spec_l02Still : Nat := 143
abbrev f_spec_l04Zero : Nat := 144
abbrev f_spec_l02Back : Nat := 145
abbrev f_spec_l02Push : Nat := 146
abbrev f_spec_l02Kept : Nat := 147
abbrev f_spec_l06StepComb : Nat := 148
abbrev f_spec_l02Step : Nat := 149
abbrev f_spec_MixFour : Nat := 150
abbrev f_slices_ContainsFunc_sl_impl_Ring_impl_Ring : Nat := 151
abbrev f_impl_areQuiet_c1 : Nat := 152
abbrev f_slices_IndexFunc_sl_impl_Tap_impl_Tap : Nat := 153
abbrev f_spec_l04SameRings : Nat := 154
abbrev f_spec_l06SameComb : Nat := 155
abbrev f_spec_l01Same : Nat := 156
abbrev f_spec_l02Same : Nat := 157
abbrev f_laws_szFloat32S : Nat := 158
abbrev f_laws_szComb : Nat := 159
abbrev f_laws_toTap : Nat := 160
abbrev f_laws_toComb : Nat := 161
abbrev f_laws_toFilter : Nat := 162
abbrev f_laws_eqTap : Nat := 163
abbrev f_laws_eqComb : Nat := 164
abbrev f_laws_eqFilter : Nat := 165
abbrev f_laws_markComb : Nat := 166
abbrev f_laws_heldComb : Nat := 167
abbrev f_spec_NewBow : Nat := 168
abbrev f_spec_l05StepBow : Nat := 169
abbrev f_spec_NewJet : Nat := 170
abbrev f_spec_l05StepJet : Nat := 171
abbrev f_p_impl_Bow_meet : Nat := 172
abbrev f_impl_FrictionAt : Nat := 173
abbrev f_impl_JetAt : Nat := 174
abbrev f_impl_FlushSample : Nat := 175
abbrev f_spec_l06Tail : Nat := 176
abbrev f_spec_OnePole : Nat := 177
abbrev f_spec_l06Gain : Nat := 178
abbrev f_spec_l00Max : Nat := 179
abbrev f_impl_ValidRing : Nat := 180
abbrev f_slices_ContainsFunc_sl_float32_float32 : Nat := 181
abbrev f_impl_areFinite_c1 : Nat := 182
abbrev f_impl_ValidFilter : Nat := 183
abbrev f_slices_Clone_sl_float32_float32 : Nat := 184
abbrev f_spec_l02Ring : Nat := 185
abbrev f_spec_l02Uses : Nat := 186
abbrev f_spec_l01Flush : Nat := 187
abbrev f_slices_IndexFunc_sl_impl_Ring_impl_Ring : Nat := 188
abbrev f_spec_l02SameList : Nat := 189
abbrev f_spec_l01NaN : Nat := 190
abbrev f_math_Float32bits : Nat := 191
abbrev f_laws_toFloat32A3 : Nat := 192
abbrev f_laws_toFloat32A2 : Nat := 193
abbrev f_laws_eqFloat32A3 : Nat := 194
abbrev f_laws_eqFloat32A2 : Nat := 195
abbrev f_math_Floor : Nat := 196
abbrev f_spec_l00Min : Nat := 197
abbrev f_spec_l05Draw : Nat := 198
abbrev f_spec_l05Friction : Nat := 199
abbrev f_spec_BlockDc : Nat := 200
abbrev f_spec_l05Edge : Nat := 201
abbrev f_impl_absolute : Nat := 202
abbrev f_impl_ClampSample : Nat := 203
abbrev f_slices_IndexFunc_sl_float32_float32 : Nat := 204
abbrev f_impl_uses : Nat := 205
abbrev f_impl_isUsed : Nat := 206
abbrev f_spec_l01Abs : Nat := 207
abbrev f_math_Float32frombits : Nat := 208
abbrev f_math_archFloor : Nat := 209
abbrev f_math_floor : Nat := 210
abbrev f_spec_l01Clamp : Nat := 211
abbrev f_math_Abs : Nat := 212
abbrev f_impl_bitsOf : Nat := 213
abbrev f_math_IsNaN : Nat := 214
abbrev f_math_IsInf : Nat := 215
abbrev f_math_Modf : Nat := 216
abbrev f_math_Float64frombits : Nat := 217
abbrev f_math_Float64bits : Nat := 218
abbrev f_math_Trunc : Nat := 219
abbrev f_math_Copysign : Nat := 220
abbrev f_math_archTrunc : Nat := 221
abbrev f_math_trunc : Nat := 222
abbrev f_runtime_boundsError_Error : Nat := 223
abbrev f_runtime_boundsError_RuntimeError : Nat := 224
abbrev f_runtime_errorString_Error : Nat := 225
abbrev f_runtime_errorString_RuntimeError : Nat := 226
abbrev f_runtime_plainError_Error : Nat := 227
abbrev f_runtime_plainError_RuntimeError : Nat := 228
abbrev f_runtime_errorAddressString_Error : Nat := 229
abbrev f_runtime_errorAddressString_RuntimeError : Nat := 230
abbrev f_p_runtime_TypeAssertionError_Error : Nat := 231
abbrev f_p_runtime_TypeAssertionError_RuntimeError : Nat := 232
abbrev f_p_runtime_PanicNilError_Error : Nat := 233
abbrev f_p_runtime_PanicNilError_RuntimeError : Nat := 234
abbrev f_p_internal_abi_Type_Align : Nat := 235
abbrev f_internal_runtime_maps_unhashableTypeError_Error : Nat := 236
abbrev f_internal_runtime_maps_unhashableTypeError_RuntimeError : Nat := 237
abbrev f_p_impl_Ring_mute : Nat := 238
abbrev f_internal_abi_Kind_String : Nat := 239
abbrev T__0 : Nat := 0
def Z__0 : List Value := []
def ti__0 : TI := ⟨.tup [], 1, 0, Z__0⟩
abbrev T_int64 : Nat := 2
def Z_int64 : List Value := [.int .i64 (0 : Int)]
def ti_int64 : TI := ⟨.int .i64, 1, 8, Z_int64⟩
theorem U_int64 : prg.underlying T_int64 = some (.int .i64) := Tryz.underlying2
abbrev T_int : Nat := 3
def Z_int : List Value := [.int .i64 (0 : Int)]
def ti_int : TI := ⟨.int .i64, 1, 8, Z_int⟩
theorem U_int : prg.underlying T_int = some (.int .i64) := Tryz.underlying3
abbrev T_bool : Nat := 4
def Z_bool : List Value := [.bool false]
def ti_bool : TI := ⟨.bool, 1, 1, Z_bool⟩
theorem U_bool : prg.underlying T_bool = some (.bool) := Tryz.underlying4
abbrev T_sl_float32 : Nat := 24
def Z_sl_float32 : List Value := [.slice none 0 0]
def ti_sl_float32 : TI := ⟨.sl 28, 1, 24, Z_sl_float32⟩
theorem U_sl_float32 : prg.underlying T_sl_float32 = some (.slice 28) := Tryz.underlying24
abbrev T_impl_Ring : Nat := 26
def Z_impl_Ring : List Value := [.slice none 0 0, .int .i64 (0 : Int)]
def ti_impl_Ring : TI := ⟨.st [(24, 0), (2, 1)], 2, 32, Z_impl_Ring⟩
abbrev T_sl_impl_Tap : Nat := 27
def Z_sl_impl_Tap : List Value := [.slice none 0 0]
def ti_sl_impl_Tap : TI := ⟨.sl 51, 1, 24, Z_sl_impl_Tap⟩
theorem U_sl_impl_Tap : prg.underlying T_sl_impl_Tap = some (.slice 51) := Tryz.underlying27
abbrev T_float32 : Nat := 28
def Z_float32 : List Value := [.float .f32 0]
def ti_float32 : TI := ⟨.float .f32, 1, 4, Z_float32⟩
theorem U_float32 : prg.underlying T_float32 = some (.float .f32) := Tryz.underlying28
abbrev T_impl_Comb : Nat := 30
def Z_impl_Comb : List Value := [.slice none 0 0, .int .i64 (0 : Int), .float .f32 0]
def ti_impl_Comb : TI := ⟨.st [(26, 0), (28, 2)], 3, 40, Z_impl_Comb⟩
abbrev T_2_impl_Comb : Nat := 31
def Z_2_impl_Comb : List Value := [.slice none 0 0, .int .i64 (0 : Int), .float .f32 0, .slice none 0 0, .int .i64 (0 : Int), .float .f32 0]
def ti_2_impl_Comb : TI := ⟨.arr 2 30, 6, 80, Z_2_impl_Comb⟩
abbrev T_4_impl_Ring : Nat := 32
def Z_4_impl_Ring : List Value := [.slice none 0 0, .int .i64 (0 : Int), .slice none 0 0, .int .i64 (0 : Int), .slice none 0 0, .int .i64 (0 : Int), .slice none 0 0, .int .i64 (0 : Int)]
def ti_4_impl_Ring : TI := ⟨.arr 4 26, 8, 128, Z_4_impl_Ring⟩
abbrev T_3_float32 : Nat := 33
def Z_3_float32 : List Value := [.float .f32 0, .float .f32 0, .float .f32 0]
def ti_3_float32 : TI := ⟨.arr 3 28, 3, 12, Z_3_float32⟩
abbrev T_2_float32 : Nat := 34
def Z_2_float32 : List Value := [.float .f32 0, .float .f32 0]
def ti_2_float32 : TI := ⟨.arr 2 28, 2, 8, Z_2_float32⟩
abbrev T_impl_Filter : Nat := 36
def Z_impl_Filter : List Value := [.int .i64 (0 : Int), .float .f32 0, .float .f32 0, .float .f32 0, .float .f32 0, .float .f32 0]
def ti_impl_Filter : TI := ⟨.st [(2, 0), (33, 1), (34, 4)], 6, 32, Z_impl_Filter⟩
abbrev T_4_impl_Filter : Nat := 37
def Z_4_impl_Filter : List Value := [.int .i64 (0 : Int), .float .f32 0, .float .f32 0, .float .f32 0, .float .f32 0, .float .f32 0, .int .i64 (0 : Int), .float .f32 0, .float .f32 0, .float .f32 0, .float .f32 0, .float .f32 0, .int .i64 (0 : Int), .float .f32 0, .float .f32 0, .float .f32 0, .float .f32 0, .float .f32 0, .int .i64 (0 : Int), .float .f32 0, .float .f32 0, .float .f32 0, .float .f32 0, .float .f32 0]
def ti_4_impl_Filter : TI := ⟨.arr 4 36, 24, 128, Z_4_impl_Filter⟩
abbrev T_4_float32 : Nat := 38
def Z_4_float32 : List Value := [.float .f32 0, .float .f32 0, .float .f32 0, .float .f32 0]
def ti_4_float32 : TI := ⟨.arr 4 28, 4, 16, Z_4_float32⟩
abbrev T_impl_Room : Nat := 40
def Z_impl_Room : List Value := [.slice none 0 0, .int .i64 (0 : Int), .slice none 0 0, .slice none 0 0, .int .i64 (0 : Int), .float .f32 0, .slice none 0 0, .int .i64 (0 : Int), .float .f32 0, .slice none 0 0, .int .i64 (0 : Int), .slice none 0 0, .int .i64 (0 : Int), .slice none 0 0, .int .i64 (0 : Int), .slice none 0 0, .int .i64 (0 : Int), .int .i64 (0 : Int), .float .f32 0, .float .f32 0, .float .f32 0, .float .f32 0, .float .f32 0, .int .i64 (0 : Int), .float .f32 0, .float .f32 0, .float .f32 0, .float .f32 0, .float .f32 0, .int .i64 (0 : Int), .float .f32 0, .float .f32 0, .float .f32 0, .float .f32 0, .float .f32 0, .int .i64 (0 : Int), .float .f32 0, .float .f32 0, .float .f32 0, .float .f32 0, .float .f32 0, .float .f32 0, .float .f32 0, .float .f32 0, .float .f32 0, .float .f32 0, .float .f32 0]
def ti_impl_Room : TI := ⟨.st [(26, 0), (27, 2), (31, 3), (32, 9), (37, 17), (38, 41), (28, 45), (28, 46)], 47, 416, Z_impl_Room⟩
abbrev T_int64_int64 : Nat := 43
def Z_int64_int64 : List Value := []
def ti_int64_int64 : TI := ⟨.tup [2, 2], 1, 0, Z_int64_int64⟩
abbrev T_impl_Room_sl_float32_int64 : Nat := 45
def Z_impl_Room_sl_float32_int64 : List Value := []
def ti_impl_Room_sl_float32_int64 : TI := ⟨.tup [40, 24, 2], 1, 0, Z_impl_Room_sl_float32_int64⟩
abbrev T_impl_Tap : Nat := 51
def Z_impl_Tap : List Value := [.int .i64 (0 : Int), .float .f32 0]
def ti_impl_Tap : TI := ⟨.st [(2, 0), (28, 1)], 2, 16, Z_impl_Tap⟩
abbrev T_laws_Ring : Nat := 56
def Z_laws_Ring : List Value := [.slice none 0 0, .int .i64 (0 : Int)]
def ti_laws_Ring : TI := ⟨.st [(24, 0), (2, 1)], 2, 32, Z_laws_Ring⟩
abbrev T_sl_laws_Tap : Nat := 57
def Z_sl_laws_Tap : List Value := [.slice none 0 0]
def ti_sl_laws_Tap : TI := ⟨.sl 208, 1, 24, Z_sl_laws_Tap⟩
theorem U_sl_laws_Tap : prg.underlying T_sl_laws_Tap = some (.slice 208) := Tryz.underlying57
abbrev T_laws_Comb : Nat := 59
def Z_laws_Comb : List Value := [.slice none 0 0, .int .i64 (0 : Int), .float .f32 0]
def ti_laws_Comb : TI := ⟨.st [(56, 0), (28, 2)], 3, 40, Z_laws_Comb⟩
abbrev T_2_laws_Comb : Nat := 60
def Z_2_laws_Comb : List Value := [.slice none 0 0, .int .i64 (0 : Int), .float .f32 0, .slice none 0 0, .int .i64 (0 : Int), .float .f32 0]
def ti_2_laws_Comb : TI := ⟨.arr 2 59, 6, 80, Z_2_laws_Comb⟩
abbrev T_4_laws_Ring : Nat := 61
def Z_4_laws_Ring : List Value := [.slice none 0 0, .int .i64 (0 : Int), .slice none 0 0, .int .i64 (0 : Int), .slice none 0 0, .int .i64 (0 : Int), .slice none 0 0, .int .i64 (0 : Int)]
def ti_4_laws_Ring : TI := ⟨.arr 4 56, 8, 128, Z_4_laws_Ring⟩
abbrev T_laws_Filter : Nat := 62
def Z_laws_Filter : List Value := [.int .i64 (0 : Int), .float .f32 0, .float .f32 0, .float .f32 0, .float .f32 0, .float .f32 0]
def ti_laws_Filter : TI := ⟨.st [(2, 0), (33, 1), (34, 4)], 6, 32, Z_laws_Filter⟩
abbrev T_4_laws_Filter : Nat := 63
def Z_4_laws_Filter : List Value := [.int .i64 (0 : Int), .float .f32 0, .float .f32 0, .float .f32 0, .float .f32 0, .float .f32 0, .int .i64 (0 : Int), .float .f32 0, .float .f32 0, .float .f32 0, .float .f32 0, .float .f32 0, .int .i64 (0 : Int), .float .f32 0, .float .f32 0, .float .f32 0, .float .f32 0, .float .f32 0, .int .i64 (0 : Int), .float .f32 0, .float .f32 0, .float .f32 0, .float .f32 0, .float .f32 0]
def ti_4_laws_Filter : TI := ⟨.arr 4 62, 24, 128, Z_4_laws_Filter⟩
abbrev T_laws_Room : Nat := 65
def Z_laws_Room : List Value := [.slice none 0 0, .int .i64 (0 : Int), .slice none 0 0, .slice none 0 0, .int .i64 (0 : Int), .float .f32 0, .slice none 0 0, .int .i64 (0 : Int), .float .f32 0, .slice none 0 0, .int .i64 (0 : Int), .slice none 0 0, .int .i64 (0 : Int), .slice none 0 0, .int .i64 (0 : Int), .slice none 0 0, .int .i64 (0 : Int), .int .i64 (0 : Int), .float .f32 0, .float .f32 0, .float .f32 0, .float .f32 0, .float .f32 0, .int .i64 (0 : Int), .float .f32 0, .float .f32 0, .float .f32 0, .float .f32 0, .float .f32 0, .int .i64 (0 : Int), .float .f32 0, .float .f32 0, .float .f32 0, .float .f32 0, .float .f32 0, .int .i64 (0 : Int), .float .f32 0, .float .f32 0, .float .f32 0, .float .f32 0, .float .f32 0, .float .f32 0, .float .f32 0, .float .f32 0, .float .f32 0, .float .f32 0, .float .f32 0]
def ti_laws_Room : TI := ⟨.st [(56, 0), (57, 2), (60, 3), (61, 9), (63, 17), (38, 41), (28, 45), (28, 46)], 47, 416, Z_laws_Room⟩
abbrev T_impl_Room_float32_int64 : Nat := 69
def Z_impl_Room_float32_int64 : List Value := []
def ti_impl_Room_float32_int64 : TI := ⟨.tup [40, 28, 2], 1, 0, Z_impl_Room_float32_int64⟩
abbrev T_float64 : Nat := 72
def Z_float64 : List Value := [.float .f64 0]
def ti_float64 : TI := ⟨.float .f64, 1, 8, Z_float64⟩
theorem U_float64 : prg.underlying T_float64 = some (.float .f64) := Tryz.underlying72
abbrev T_16_float32 : Nat := 79
def Z_16_float32 : List Value := List.replicate 16 (.float .f32 0)
def ti_16_float32 : TI := ⟨.arr 16 28, 16, 64, Z_16_float32⟩
abbrev T_impl_Block : Nat := 80
def Z_impl_Block : List Value := List.replicate 16 (.float .f32 0)
def ti_impl_Block : TI := ⟨.arr 16 28, 16, 64, Z_impl_Block⟩
abbrev T_impl_Room_impl_Block_int64 : Nat := 81
def Z_impl_Room_impl_Block_int64 : List Value := []
def ti_impl_Room_impl_Block_int64 : TI := ⟨.tup [40, 80, 2], 1, 0, Z_impl_Room_impl_Block_int64⟩
abbrev T_sl_p_impl_Ring : Nat := 114
def Z_sl_p_impl_Ring : List Value := [.slice none 0 0]
def ti_sl_p_impl_Ring : TI := ⟨.sl 159, 1, 24, Z_sl_p_impl_Ring⟩
theorem U_sl_p_impl_Ring : prg.underlying T_sl_p_impl_Ring = some (.slice 159) := Tryz.underlying114
abbrev T_impl_Ring_int64 : Nat := 127
def Z_impl_Ring_int64 : List Value := []
def ti_impl_Ring_int64 : TI := ⟨.tup [26, 2], 1, 0, Z_impl_Ring_int64⟩
abbrev T_p_impl_Ring : Nat := 159
def Z_p_impl_Ring : List Value := [.pointer none]
def ti_p_impl_Ring : TI := ⟨.ptr, 1, 8, Z_p_impl_Ring⟩
abbrev T_uint64 : Nat := 173
def Z_uint64 : List Value := [.int .u64 (0 : Int)]
def ti_uint64 : TI := ⟨.int .u64, 1, 8, Z_uint64⟩
theorem U_uint64 : prg.underlying T_uint64 = some (.int .u64) := Tryz.underlying173
abbrev T_sl_int64 : Nat := 183
def Z_sl_int64 : List Value := [.slice none 0 0]
def ti_sl_int64 : TI := ⟨.sl 2, 1, 24, Z_sl_int64⟩
theorem U_sl_int64 : prg.underlying T_sl_int64 = some (.slice 2) := Tryz.underlying183
abbrev T_sl_impl_Ring : Nat := 187
def Z_sl_impl_Ring : List Value := [.slice none 0 0]
def ti_sl_impl_Ring : TI := ⟨.sl 26, 1, 24, Z_sl_impl_Ring⟩
theorem U_sl_impl_Ring : prg.underlying T_sl_impl_Ring = some (.slice 26) := Tryz.underlying187
abbrev T_laws_Tap : Nat := 208
def Z_laws_Tap : List Value := [.int .i64 (0 : Int), .float .f32 0]
def ti_laws_Tap : TI := ⟨.st [(2, 0), (28, 1)], 2, 16, Z_laws_Tap⟩
abbrev T_int_int : Nat := 228
def Z_int_int : List Value := []
def ti_int_int : TI := ⟨.tup [3, 3], 1, 0, Z_int_int⟩
abbrev T_uint32 : Nat := 231
def Z_uint32 : List Value := [.int .u32 (0 : Int)]
def ti_uint32 : TI := ⟨.int .u32, 1, 4, Z_uint32⟩
theorem U_uint32 : prg.underlying T_uint32 = some (.int .u32) := Tryz.underlying231
theorem X_main_main : prg.funcs[f_main_main]? = some Tryz.f0 := Tryz.func0
theorem X_gosem_cut : prg.funcs[f_gosem_cut]? = some Tryz.f1 := Tryz.func1
theorem X_math_Float32bits : prg.funcs[f_math_Float32bits]? = some Tryz.f191 := Tryz.func191
theorem X_math_Float32frombits : prg.funcs[f_math_Float32frombits]? = some Tryz.f208 := Tryz.func208
theorem X_math_archFloor : prg.funcs[f_math_archFloor]? = some Tryz.f209 := Tryz.func209
theorem X_math_Float64frombits : prg.funcs[f_math_Float64frombits]? = some Tryz.f217 := Tryz.func217
theorem X_math_Float64bits : prg.funcs[f_math_Float64bits]? = some Tryz.f218 := Tryz.func218
theorem X_math_archTrunc : prg.funcs[f_math_archTrunc]? = some Tryz.f221 := Tryz.func221
theorem X_runtime_boundsError_Error : prg.funcs[f_runtime_boundsError_Error]? = some Tryz.f223 := Tryz.func223
theorem X_runtime_boundsError_RuntimeError : prg.funcs[f_runtime_boundsError_RuntimeError]? = some Tryz.f224 := Tryz.func224
theorem X_runtime_errorString_Error : prg.funcs[f_runtime_errorString_Error]? = some Tryz.f225 := Tryz.func225
theorem X_runtime_errorString_RuntimeError : prg.funcs[f_runtime_errorString_RuntimeError]? = some Tryz.f226 := Tryz.func226
theorem X_runtime_plainError_Error : prg.funcs[f_runtime_plainError_Error]? = some Tryz.f227 := Tryz.func227
theorem X_runtime_plainError_RuntimeError : prg.funcs[f_runtime_plainError_RuntimeError]? = some Tryz.f228 := Tryz.func228
theorem X_runtime_errorAddressString_Error : prg.funcs[f_runtime_errorAddressString_Error]? = some Tryz.f229 := Tryz.func229
theorem X_runtime_errorAddressString_RuntimeError : prg.funcs[f_runtime_errorAddressString_RuntimeError]? = some Tryz.f230 := Tryz.func230
theorem X_p_runtime_TypeAssertionError_Error : prg.funcs[f_p_runtime_TypeAssertionError_Error]? = some Tryz.f231 := Tryz.func231
theorem X_p_runtime_TypeAssertionError_RuntimeError : prg.funcs[f_p_runtime_TypeAssertionError_RuntimeError]? = some Tryz.f232 := Tryz.func232
theorem X_p_runtime_PanicNilError_Error : prg.funcs[f_p_runtime_PanicNilError_Error]? = some Tryz.f233 := Tryz.func233
theorem X_p_runtime_PanicNilError_RuntimeError : prg.funcs[f_p_runtime_PanicNilError_RuntimeError]? = some Tryz.f234 := Tryz.func234
theorem X_p_internal_abi_Type_Align : prg.funcs[f_p_internal_abi_Type_Align]? = some Tryz.f235 := Tryz.func235
theorem X_internal_runtime_maps_unhashableTypeError_Error : prg.funcs[f_internal_runtime_maps_unhashableTypeError_Error]? = some Tryz.f236 := Tryz.func236
theorem X_internal_runtime_maps_unhashableTypeError_RuntimeError : prg.funcs[f_internal_runtime_maps_unhashableTypeError_RuntimeError]? = some Tryz.f237 := Tryz.func237
theorem X_p_impl_Ring_mute : prg.funcs[f_p_impl_Ring_mute]? = some Tryz.f238 := Tryz.func238
theorem X_internal_abi_Kind_String : prg.funcs[f_internal_abi_Kind_String]? = some Tryz.f239 := Tryz.func239
def tau : Static := [(0, ti__0), (2, ti_int64), (3, ti_int), (4, ti_bool), (24, ti_sl_float32), (26, ti_impl_Ring), (27, ti_sl_impl_Tap), (28, ti_float32), (30, ti_impl_Comb), (31, ti_2_impl_Comb), (32, ti_4_impl_Ring), (33, ti_3_float32), (34, ti_2_float32), (36, ti_impl_Filter), (37, ti_4_impl_Filter), (38, ti_4_float32), (40, ti_impl_Room), (43, ti_int64_int64), (45, ti_impl_Room_sl_float32_int64), (51, ti_impl_Tap), (56, ti_laws_Ring), (57, ti_sl_laws_Tap), (59, ti_laws_Comb), (60, ti_2_laws_Comb), (61, ti_4_laws_Ring), (62, ti_laws_Filter), (63, ti_4_laws_Filter), (65, ti_laws_Room), (69, ti_impl_Room_float32_int64), (72, ti_float64), (79, ti_16_float32), (80, ti_impl_Block), (81, ti_impl_Room_impl_Block_int64), (114, ti_sl_p_impl_Ring), (127, ti_impl_Ring_int64), (159, ti_p_impl_Ring), (173, ti_uint64), (183, ti_sl_int64), (187, ti_sl_impl_Ring), (208, ti_laws_Tap), (228, ti_int_int), (231, ti_uint32)]
theorem ok_nil {P : Program} : OkS P [] := fun _ h => by cases h
theorem ok_cons {P : Program} {e : Nat × TI} {r : Static} (h : okT P e) (k : OkS P r) : OkS P (e :: r) := fun x hx => by
  rcases List.mem_cons.1 hx with rfl | hx
  · exact h
  · exact k x hx
theorem okt0 : okT prg (0, ti__0) := ⟨_, Tryz.t0, Tryz.underlying0, by kernel_rfl, by kernel_rfl, by kernel_rfl, by kernel_rfl, .inl rfl⟩
theorem okt2 : okT prg (2, ti_int64) := ⟨_, Tryz.t2, Tryz.underlying2, by kernel_rfl, by kernel_rfl, by kernel_rfl, by kernel_rfl, .inr ⟨_, rfl, by kernel_rfl⟩⟩
theorem okt3 : okT prg (3, ti_int) := ⟨_, Tryz.t3, Tryz.underlying3, by kernel_rfl, by kernel_rfl, by kernel_rfl, by kernel_rfl, .inr ⟨_, rfl, by kernel_rfl⟩⟩
theorem okt4 : okT prg (4, ti_bool) := ⟨_, Tryz.t4, Tryz.underlying4, by kernel_rfl, by kernel_rfl, by kernel_rfl, by kernel_rfl, .inr ⟨_, rfl, by kernel_rfl⟩⟩
theorem okt24 : okT prg (24, ti_sl_float32) := ⟨_, Tryz.t24, Tryz.underlying24, by kernel_rfl, by kernel_rfl, by kernel_rfl, by kernel_rfl, .inr ⟨_, rfl, by kernel_rfl⟩⟩
theorem okt26 : okT prg (26, ti_impl_Ring) := ⟨_, Tryz.t26, Tryz.underlying26, by kernel_rfl, by kernel_rfl, by kernel_rfl, by kernel_rfl, .inr ⟨_, rfl, by kernel_rfl⟩⟩
theorem okt27 : okT prg (27, ti_sl_impl_Tap) := ⟨_, Tryz.t27, Tryz.underlying27, by kernel_rfl, by kernel_rfl, by kernel_rfl, by kernel_rfl, .inr ⟨_, rfl, by kernel_rfl⟩⟩
theorem okt28 : okT prg (28, ti_float32) := ⟨_, Tryz.t28, Tryz.underlying28, by kernel_rfl, by kernel_rfl, by kernel_rfl, by kernel_rfl, .inr ⟨_, rfl, by kernel_rfl⟩⟩
theorem okt30 : okT prg (30, ti_impl_Comb) := ⟨_, Tryz.t30, Tryz.underlying30, by kernel_rfl, by kernel_rfl, by kernel_rfl, by kernel_rfl, .inr ⟨_, rfl, by kernel_rfl⟩⟩
theorem okt31 : okT prg (31, ti_2_impl_Comb) := ⟨_, Tryz.t31, Tryz.underlying31, by kernel_rfl, by kernel_rfl, by kernel_rfl, by kernel_rfl, .inr ⟨_, rfl, by kernel_rfl⟩⟩
theorem okt32 : okT prg (32, ti_4_impl_Ring) := ⟨_, Tryz.t32, Tryz.underlying32, by kernel_rfl, by kernel_rfl, by kernel_rfl, by kernel_rfl, .inr ⟨_, rfl, by kernel_rfl⟩⟩
theorem okt33 : okT prg (33, ti_3_float32) := ⟨_, Tryz.t33, Tryz.underlying33, by kernel_rfl, by kernel_rfl, by kernel_rfl, by kernel_rfl, .inr ⟨_, rfl, by kernel_rfl⟩⟩
theorem okt34 : okT prg (34, ti_2_float32) := ⟨_, Tryz.t34, Tryz.underlying34, by kernel_rfl, by kernel_rfl, by kernel_rfl, by kernel_rfl, .inr ⟨_, rfl, by kernel_rfl⟩⟩
theorem okt36 : okT prg (36, ti_impl_Filter) := ⟨_, Tryz.t36, Tryz.underlying36, by kernel_rfl, by kernel_rfl, by kernel_rfl, by kernel_rfl, .inr ⟨_, rfl, by kernel_rfl⟩⟩
theorem okt37 : okT prg (37, ti_4_impl_Filter) := ⟨_, Tryz.t37, Tryz.underlying37, by kernel_rfl, by kernel_rfl, by kernel_rfl, by kernel_rfl, .inr ⟨_, rfl, by kernel_rfl⟩⟩
theorem okt38 : okT prg (38, ti_4_float32) := ⟨_, Tryz.t38, Tryz.underlying38, by kernel_rfl, by kernel_rfl, by kernel_rfl, by kernel_rfl, .inr ⟨_, rfl, by kernel_rfl⟩⟩
theorem okt40 : okT prg (40, ti_impl_Room) := ⟨_, Tryz.t40, Tryz.underlying40, by kernel_rfl, by kernel_rfl, by kernel_rfl, by kernel_rfl, .inr ⟨_, rfl, by kernel_rfl⟩⟩
theorem okt43 : okT prg (43, ti_int64_int64) := ⟨_, Tryz.t43, Tryz.underlying43, by kernel_rfl, by kernel_rfl, by kernel_rfl, by kernel_rfl, .inl rfl⟩
theorem okt45 : okT prg (45, ti_impl_Room_sl_float32_int64) := ⟨_, Tryz.t45, Tryz.underlying45, by kernel_rfl, by kernel_rfl, by kernel_rfl, by kernel_rfl, .inl rfl⟩
theorem okt51 : okT prg (51, ti_impl_Tap) := ⟨_, Tryz.t51, Tryz.underlying51, by kernel_rfl, by kernel_rfl, by kernel_rfl, by kernel_rfl, .inr ⟨_, rfl, by kernel_rfl⟩⟩
theorem okt56 : okT prg (56, ti_laws_Ring) := ⟨_, Tryz.t56, Tryz.underlying56, by kernel_rfl, by kernel_rfl, by kernel_rfl, by kernel_rfl, .inr ⟨_, rfl, by kernel_rfl⟩⟩
theorem okt57 : okT prg (57, ti_sl_laws_Tap) := ⟨_, Tryz.t57, Tryz.underlying57, by kernel_rfl, by kernel_rfl, by kernel_rfl, by kernel_rfl, .inr ⟨_, rfl, by kernel_rfl⟩⟩
theorem okt59 : okT prg (59, ti_laws_Comb) := ⟨_, Tryz.t59, Tryz.underlying59, by kernel_rfl, by kernel_rfl, by kernel_rfl, by kernel_rfl, .inr ⟨_, rfl, by kernel_rfl⟩⟩
theorem okt60 : okT prg (60, ti_2_laws_Comb) := ⟨_, Tryz.t60, Tryz.underlying60, by kernel_rfl, by kernel_rfl, by kernel_rfl, by kernel_rfl, .inr ⟨_, rfl, by kernel_rfl⟩⟩
theorem okt61 : okT prg (61, ti_4_laws_Ring) := ⟨_, Tryz.t61, Tryz.underlying61, by kernel_rfl, by kernel_rfl, by kernel_rfl, by kernel_rfl, .inr ⟨_, rfl, by kernel_rfl⟩⟩
theorem okt62 : okT prg (62, ti_laws_Filter) := ⟨_, Tryz.t62, Tryz.underlying62, by kernel_rfl, by kernel_rfl, by kernel_rfl, by kernel_rfl, .inr ⟨_, rfl, by kernel_rfl⟩⟩
theorem okt63 : okT prg (63, ti_4_laws_Filter) := ⟨_, Tryz.t63, Tryz.underlying63, by kernel_rfl, by kernel_rfl, by kernel_rfl, by kernel_rfl, .inr ⟨_, rfl, by kernel_rfl⟩⟩
theorem okt65 : okT prg (65, ti_laws_Room) := ⟨_, Tryz.t65, Tryz.underlying65, by kernel_rfl, by kernel_rfl, by kernel_rfl, by kernel_rfl, .inr ⟨_, rfl, by kernel_rfl⟩⟩
theorem okt69 : okT prg (69, ti_impl_Room_float32_int64) := ⟨_, Tryz.t69, Tryz.underlying69, by kernel_rfl, by kernel_rfl, by kernel_rfl, by kernel_rfl, .inl rfl⟩
theorem okt72 : okT prg (72, ti_float64) := ⟨_, Tryz.t72, Tryz.underlying72, by kernel_rfl, by kernel_rfl, by kernel_rfl, by kernel_rfl, .inr ⟨_, rfl, by kernel_rfl⟩⟩
theorem okt79 : okT prg (79, ti_16_float32) := ⟨_, Tryz.t79, Tryz.underlying79, by kernel_rfl, by kernel_rfl, by kernel_rfl, by kernel_rfl, .inr ⟨_, rfl, by kernel_rfl⟩⟩
theorem okt80 : okT prg (80, ti_impl_Block) := ⟨_, Tryz.t80, Tryz.underlying80, by kernel_rfl, by kernel_rfl, by kernel_rfl, by kernel_rfl, .inr ⟨_, rfl, by kernel_rfl⟩⟩
theorem okt81 : okT prg (81, ti_impl_Room_impl_Block_int64) := ⟨_, Tryz.t81, Tryz.underlying81, by kernel_rfl, by kernel_rfl, by kernel_rfl, by kernel_rfl, .inl rfl⟩
theorem okt114 : okT prg (114, ti_sl_p_impl_Ring) := ⟨_, Tryz.t114, Tryz.underlying114, by kernel_rfl, by kernel_rfl, by kernel_rfl, by kernel_rfl, .inr ⟨_, rfl, by kernel_rfl⟩⟩
theorem okt127 : okT prg (127, ti_impl_Ring_int64) := ⟨_, Tryz.t127, Tryz.underlying127, by kernel_rfl, by kernel_rfl, by kernel_rfl, by kernel_rfl, .inl rfl⟩
theorem okt159 : okT prg (159, ti_p_impl_Ring) := ⟨_, Tryz.t159, Tryz.underlying159, by kernel_rfl, by kernel_rfl, by kernel_rfl, by kernel_rfl, .inr ⟨_, rfl, by kernel_rfl⟩⟩
theorem okt173 : okT prg (173, ti_uint64) := ⟨_, Tryz.t173, Tryz.underlying173, by kernel_rfl, by kernel_rfl, by kernel_rfl, by kernel_rfl, .inr ⟨_, rfl, by kernel_rfl⟩⟩
theorem okt183 : okT prg (183, ti_sl_int64) := ⟨_, Tryz.t183, Tryz.underlying183, by kernel_rfl, by kernel_rfl, by kernel_rfl, by kernel_rfl, .inr ⟨_, rfl, by kernel_rfl⟩⟩
theorem okt187 : okT prg (187, ti_sl_impl_Ring) := ⟨_, Tryz.t187, Tryz.underlying187, by kernel_rfl, by kernel_rfl, by kernel_rfl, by kernel_rfl, .inr ⟨_, rfl, by kernel_rfl⟩⟩
theorem okt208 : okT prg (208, ti_laws_Tap) := ⟨_, Tryz.t208, Tryz.underlying208, by kernel_rfl, by kernel_rfl, by kernel_rfl, by kernel_rfl, .inr ⟨_, rfl, by kernel_rfl⟩⟩
theorem okt228 : okT prg (228, ti_int_int) := ⟨_, Tryz.t228, Tryz.underlying228, by kernel_rfl, by kernel_rfl, by kernel_rfl, by kernel_rfl, .inl rfl⟩
theorem okt231 : okT prg (231, ti_uint32) := ⟨_, Tryz.t231, Tryz.underlying231, by kernel_rfl, by kernel_rfl, by kernel_rfl, by kernel_rfl, .inr ⟨_, rfl, by kernel_rfl⟩⟩
theorem tau_ok : OkS prg tau := ok_cons okt0 <| ok_cons okt2 <| ok_cons okt3 <| ok_cons okt4 <| ok_cons okt24 <| ok_cons okt26 <| ok_cons okt27 <| ok_cons okt28 <| ok_cons okt30 <| ok_cons okt31 <| ok_cons okt32 <| ok_cons okt33 <| ok_cons okt34 <| ok_cons okt36 <| ok_cons okt37 <| ok_cons okt38 <| ok_cons okt40 <| ok_cons okt43 <| ok_cons okt45 <| ok_cons okt51 <| ok_cons okt56 <| ok_cons okt57 <| ok_cons okt59 <| ok_cons okt60 <| ok_cons okt61 <| ok_cons okt62 <| ok_cons okt63 <| ok_cons okt65 <| ok_cons okt69 <| ok_cons okt72 <| ok_cons okt79 <| ok_cons okt80 <| ok_cons okt81 <| ok_cons okt114 <| ok_cons okt127 <| ok_cons okt159 <| ok_cons okt173 <| ok_cons okt183 <| ok_cons okt187 <| ok_cons okt208 <| ok_cons okt228 <| ok_cons okt231 <| ok_nil
theorem mixed : prg.follows .mixedOrders = true := by kernel_rfl
end Go.Sx
