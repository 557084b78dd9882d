/- The types of this seat's program, as the walk looks them up; its functions' and types' numbers by name. -/
import Derived.Test.YtdhhfilfcpljoaaSx10
import Derived.Test.YtdhhfilfcpljoaaChecked
namespace Go.Sx
open Go.Proofs
noncomputable abbrev prg : Program := Try.prog
abbrev f_main_main : Nat := 0
abbrev f_gosem_cut : Nat := 1
abbrev f_gosem_cut_init : Nat := 2
abbrev f_laws_FnExactBlockOfPipe : Nat := 3
abbrev f_laws_FnExactWithTaps : Nat := 4
abbrev f_laws_FnExactMuteRoom : Nat := 5
abbrev f_laws_FnExactSamePlayer : Nat := 6
abbrev f_laws_szPipe : Nat := 7
abbrev f_spec_BlockOfPipe : Nat := 8
abbrev f_laws_toPipe : Nat := 9
abbrev f_laws_toBlock : Nat := 10
abbrev f_impl_BlockOfPipe : Nat := 11
abbrev f_laws_eqPipe : Nat := 12
abbrev f_laws_eqBlock : Nat := 13
abbrev f_laws_markPipe : Nat := 14
abbrev f_laws_heldPipe : Nat := 15
abbrev f_laws_szRoom : Nat := 16
abbrev f_laws_szTapS : Nat := 17
abbrev f_spec_WithTaps : Nat := 18
abbrev f_laws_toRoom : Nat := 19
abbrev f_laws_toTapS : Nat := 20
abbrev f_impl_WithTaps : Nat := 21
abbrev f_laws_eqRoom : Nat := 22
abbrev f_laws_eqTapS : Nat := 23
abbrev f_laws_markRoom : Nat := 24
abbrev f_laws_markTapS : Nat := 25
abbrev f_laws_heldRoom : Nat := 26
abbrev f_spec_MuteRoom : Nat := 27
abbrev f_impl_MuteRoom : Nat := 28
abbrev f_laws_szPlayer : Nat := 29
abbrev f_spec_SamePlayer : Nat := 30
abbrev f_laws_toPlayer : Nat := 31
abbrev f_impl_SamePlayer : Nat := 32
abbrev f_laws_eqPlayer : Nat := 33
abbrev f_laws_szRingS : Nat := 34
abbrev f_laws_szFloat32S : Nat := 35
abbrev f_spec_l04Ok : Nat := 36
abbrev f_spec_l04Copy : Nat := 37
abbrev f_spec_l04Step : Nat := 38
abbrev f_laws_toRingS : Nat := 39
abbrev f_laws_toFloat32S : Nat := 40
abbrev f_laws_toFilter : Nat := 41
abbrev f_impl_ValidPipe : Nat := 42
abbrev f_impl_Pipe_clone : Nat := 43
abbrev f_impl_made : Nat := 44
abbrev f_impl_BlockOfPipe_c1 : Nat := 45
abbrev f_p_impl_Pipe_step : Nat := 46
abbrev f_laws_eqRingS : Nat := 47
abbrev f_laws_eqFloat32S : Nat := 48
abbrev f_laws_eqFilter : Nat := 49
abbrev f_laws_sameFloat : Nat := 50
abbrev f_laws_markRingS : Nat := 51
abbrev f_laws_markFloat32S : Nat := 52
abbrev f_laws_heldRingS : Nat := 53
abbrev f_laws_heldFloat32S : Nat := 54
abbrev f_laws_szRing : Nat := 55
abbrev f_laws_szCombA2 : Nat := 56
abbrev f_laws_szRingA4 : Nat := 57
abbrev f_spec_l06Ok : Nat := 58
abbrev f_spec_l00In : Nat := 59
abbrev f_spec_l01Finite : Nat := 60
abbrev f_spec_l06Copy : Nat := 61
abbrev f_spec_l06Silence : Nat := 62
abbrev f_laws_toRing : Nat := 63
abbrev f_laws_toCombA2 : Nat := 64
abbrev f_laws_toRingA4 : Nat := 65
abbrev f_laws_toFilterA4 : Nat := 66
abbrev f_laws_toFloat32A4 : Nat := 67
abbrev f_laws_toTap : Nat := 68
abbrev f_impl_ValidRoom : Nat := 69
abbrev f_impl_within : Nat := 70
abbrev f_slices_ContainsFunc_sl_impl_Tap_impl_Tap : Nat := 71
abbrev f_impl_WithTaps_c1 : Nat := 72
abbrev f_impl_isTap : Nat := 73
abbrev f_impl_Room_clone : Nat := 74
abbrev f_impl_NewRing : Nat := 75
abbrev f_slices_Clone_sl_impl_Tap_impl_Tap : Nat := 76
abbrev f_laws_eqRing : Nat := 77
abbrev f_laws_eqCombA2 : Nat := 78
abbrev f_laws_eqRingA4 : Nat := 79
abbrev f_laws_eqFilterA4 : Nat := 80
abbrev f_laws_eqFloat32A4 : Nat := 81
abbrev f_laws_eqTap : Nat := 82
abbrev f_laws_markRing : Nat := 83
abbrev f_laws_markCombA2 : Nat := 84
abbrev f_laws_markRingA4 : Nat := 85
abbrev f_laws_heldRing : Nat := 86
abbrev f_laws_heldTapS : Nat := 87
abbrev f_laws_heldCombA2 : Nat := 88
abbrev f_laws_heldRingA4 : Nat := 89
abbrev f_spec_l05Muted : Nat := 90
abbrev f_p_impl_Room_rings : Nat := 91
abbrev f_p_impl_Ring_mute : Nat := 92
abbrev f_laws_szScore : Nat := 93
abbrev f_laws_szVoiceS : Nat := 94
abbrev f_spec_SameScore : Nat := 95
abbrev f_spec_l09SameVoice : Nat := 96
abbrev f_laws_toScore : Nat := 97
abbrev f_laws_toVoiceS : Nat := 98
abbrev f_impl_SameScore : Nat := 99
abbrev f_slices_EqualFunc_sl_impl_Voice_sl_impl_Voice_impl_Voice_impl_Voice : Nat := 100
abbrev f_impl_sameVoice : Nat := 101
abbrev f_laws_eqScore : Nat := 102
abbrev f_laws_eqVoiceS : Nat := 103
abbrev f_spec_l04Rings : Nat := 104
abbrev f_spec_l02Ok : Nat := 105
abbrev f_spec_l04All : Nat := 106
abbrev f_spec_l04Copies : Nat := 107
abbrev f_spec_l04Oldest : Nat := 108
abbrev f_spec_l02Push : Nat := 109
abbrev f_spec_l02Kept : Nat := 110
abbrev f_spec_l04Reed : Nat := 111
abbrev f_spec_l02Step : Nat := 112
abbrev f_laws_toFloat32A3 : Nat := 113
abbrev f_laws_toFloat32A2 : Nat := 114
abbrev f_impl_isFilter : Nat := 115
abbrev f_impl_areFinite : Nat := 116
abbrev f_impl_isRing : Nat := 117
abbrev f_slices_ContainsFunc_sl_float32_float32 : Nat := 118
abbrev f_impl_ValidPipe_c1 : Nat := 119
abbrev f_impl_inside : Nat := 120
abbrev f_impl_cloneRings : Nat := 121
abbrev f_slices_Clone_sl_float32_float32 : Nat := 122
abbrev f_impl_Ring_oldest : Nat := 123
abbrev f_p_impl_Ring_push : Nat := 124
abbrev f_impl_kept : Nat := 125
abbrev f_impl_ReedAt : Nat := 126
abbrev f_p_impl_Filter_step : Nat := 127
abbrev f_laws_eqFloat32A3 : Nat := 128
abbrev f_laws_eqFloat32A2 : Nat := 129
abbrev f_laws_szComb : Nat := 130
abbrev f_spec_l06Comb : Nat := 131
abbrev f_spec_l06Loops : Nat := 132
abbrev f_spec_l02Copy : Nat := 133
abbrev f_spec_l06CopyComb : Nat := 134
abbrev f_laws_toComb : Nat := 135
abbrev f_impl_ValidComb : Nat := 136
abbrev f_impl_ValidRoom_c1 : Nat := 137
abbrev f_impl_length_float32 : Nat := 138
abbrev f_slices_IndexFunc_sl_impl_Tap_impl_Tap : Nat := 139
abbrev f_impl_isFinite : Nat := 140
abbrev f_impl_Ring_clone : Nat := 141
abbrev f_laws_eqComb : Nat := 142
abbrev f_laws_markComb : Nat := 143
abbrev f_laws_heldComb : Nat := 144
abbrev f_laws_szTuning : Nat := 145
abbrev f_laws_szInstrumentS : Nat := 146
abbrev f_laws_szEventS : Nat := 147
abbrev f_laws_szVoice : Nat := 148
abbrev f_spec_l01Same : Nat := 149
abbrev f_spec_SameTuning : Nat := 150
abbrev f_spec_l08SameInstruments : Nat := 151
abbrev f_spec_SameString : Nat := 152
abbrev f_spec_l04Same : Nat := 153
abbrev f_spec_l05SameBow : Nat := 154
abbrev f_laws_toTuning : Nat := 155
abbrev f_laws_toInstrumentS : Nat := 156
abbrev f_laws_toEventS : Nat := 157
abbrev f_laws_toVoice : Nat := 158
abbrev f_impl_sameGround : Nat := 159
abbrev f_slices_EqualFunc_sl_impl_Event_sl_impl_Event_impl_Event_impl_Event : Nat := 160
abbrev f_impl_sameEvent : Nat := 161
abbrev f_impl_SameSample : Nat := 162
abbrev f_impl_SameString : Nat := 163
abbrev f_impl_SamePipe : Nat := 164
abbrev f_impl_SameBow : Nat := 165
abbrev f_laws_eqTuning : Nat := 166
abbrev f_laws_eqInstrumentS : Nat := 167
abbrev f_laws_eqEventS : Nat := 168
abbrev f_laws_eqVoice : Nat := 169
abbrev f_spec_l02Ring : Nat := 170
abbrev f_spec_l02Uses : Nat := 171
abbrev f_spec_l01Flush : Nat := 172
abbrev f_spec_l01Clamp : Nat := 173
abbrev f_impl_ValidFilter : Nat := 174
abbrev f_impl_areFinite_c1 : Nat := 175
abbrev f_impl_ValidRing : Nat := 176
abbrev f_slices_IndexFunc_sl_float32_float32 : Nat := 177
abbrev f_impl_FlushSample : Nat := 178
abbrev f_impl_ClampSample : Nat := 179
abbrev f_laws_szInstrument : Nat := 180
abbrev f_laws_szString : Nat := 181
abbrev f_laws_szBow : Nat := 182
abbrev f_spec_l01NaN : Nat := 183
abbrev f_math_Float32bits : Nat := 184
abbrev f_spec_l02SameList : Nat := 185
abbrev f_spec_SameRing : Nat := 186
abbrev f_spec_l02Same : Nat := 187
abbrev f_spec_l04SameRings : Nat := 188
abbrev f_laws_toInstrument : Nat := 189
abbrev f_laws_toEvent : Nat := 190
abbrev f_laws_toString : Nat := 191
abbrev f_laws_toBow : Nat := 192
abbrev f_impl_SameTuning : Nat := 193
abbrev f_impl_sameInstruments : Nat := 194
abbrev f_impl_bitsOf : Nat := 195
abbrev f_impl_SameRing : Nat := 196
abbrev f_impl_SameFilter : Nat := 197
abbrev f_slices_EqualFunc_sl_impl_Ring_sl_impl_Ring_impl_Ring_impl_Ring : Nat := 198
abbrev f_impl_sameSamples : Nat := 199
abbrev f_laws_eqInstrument : Nat := 200
abbrev f_laws_eqEvent : Nat := 201
abbrev f_laws_eqString : Nat := 202
abbrev f_laws_eqBow : Nat := 203
abbrev f_spec_l01Abs : Nat := 204
abbrev f_math_Float32frombits : Nat := 205
abbrev f_impl_uses : Nat := 206
abbrev f_impl_isUsed : Nat := 207
abbrev f_impl_absolute : Nat := 208
abbrev f_slices_EqualFunc_sl_impl_Instrument_sl_impl_Instrument_impl_Instrument_impl_Instrument : Nat := 209
abbrev f_impl_sameInstruments_c1 : Nat := 210
abbrev f_slices_EqualFunc_sl_float32_sl_float32_float32_float32 : Nat := 211
abbrev f_math_Abs : Nat := 212
abbrev f_math_Float64frombits : Nat := 213
abbrev f_math_Float64bits : Nat := 214
abbrev f_runtime_boundsError_Error : Nat := 215
abbrev f_runtime_boundsError_RuntimeError : Nat := 216
abbrev f_runtime_errorString_Error : Nat := 217
abbrev f_runtime_errorString_RuntimeError : Nat := 218
abbrev f_runtime_plainError_Error : Nat := 219
abbrev f_runtime_plainError_RuntimeError : Nat := 220
abbrev f_runtime_errorAddressString_Error : Nat := 221
abbrev f_runtime_errorAddressString_RuntimeError : Nat := 222
abbrev f_p_runtime_TypeAssertionError_Error : Nat := 223
abbrev f_p_runtime_TypeAssertionError_RuntimeError : Nat := 224
abbrev f_p_runtime_PanicNilError_Error : Nat := 225
abbrev f_p_runtime_PanicNilError_RuntimeError : Nat := 226
abbrev f_p_internal_abi_Type_Align : Nat := 227
abbrev f_internal_runtime_maps_unhashableTypeError_Error : Nat := 228
abbrev f_internal_runtime_maps_unhashableTypeError_RuntimeError : Nat := 229
abbrev f_impl_Filter_isStill : Nat := 230
abbrev f_impl_Pipe_places : Nat := 231
abbrev f_impl_Ring_isQuiet : Nat := 232
abbrev f_impl_Tuning_cents : Nat := 233
abbrev f_impl_Score_happened : Nat := 234
abbrev f_impl_Player_isLate : Nat := 235
abbrev f_p_impl_Room_early : Nat := 236
abbrev f_impl_Voice_isFree : Nat := 237
abbrev f_impl_String_isSilent : Nat := 238
abbrev f_impl_Bow_clone : Nat := 239
abbrev f_p_impl_Comb_step : Nat := 240
abbrev f_impl_Event_order : Nat := 241
abbrev f_p_impl_Bow_step : Nat := 242
abbrev f_internal_abi_Kind_String : Nat := 243
abbrev T__0 : Nat := 0
def Z__0 : List Value := []
def ti__0 : TI := ⟨.tup [], 1, 0, Z__0⟩
abbrev T_int64 : Nat := 2
def Z_int64 : List Value := [.int .i64 (0 : Int)]
def ti_int64 : TI := ⟨.int .i64, 1, 8, Z_int64⟩
theorem U_int64 : prg.underlying T_int64 = some (.int .i64) := Try.underlying2
abbrev T_int : Nat := 3
def Z_int : List Value := [.int .i64 (0 : Int)]
def ti_int : TI := ⟨.int .i64, 1, 8, Z_int⟩
theorem U_int : prg.underlying T_int = some (.int .i64) := Try.underlying3
abbrev T_bool : Nat := 4
def Z_bool : List Value := [.bool false]
def ti_bool : TI := ⟨.bool, 1, 1, Z_bool⟩
theorem U_bool : prg.underlying T_bool = some (.bool) := Try.underlying4
abbrev T_sl_laws_Ring : Nat := 22
def Z_sl_laws_Ring : List Value := [.slice none 0 0]
def ti_sl_laws_Ring : TI := ⟨.sl 47, 1, 24, Z_sl_laws_Ring⟩
theorem U_sl_laws_Ring : prg.underlying T_sl_laws_Ring = some (.slice 47) := Try.underlying22
abbrev T_sl_float32 : Nat := 23
def Z_sl_float32 : List Value := [.slice none 0 0]
def ti_sl_float32 : TI := ⟨.sl 24, 1, 24, Z_sl_float32⟩
theorem U_sl_float32 : prg.underlying T_sl_float32 = some (.slice 24) := Try.underlying23
abbrev T_float32 : Nat := 24
def Z_float32 : List Value := [.float .f32 0]
def ti_float32 : TI := ⟨.float .f32, 1, 4, Z_float32⟩
theorem U_float32 : prg.underlying T_float32 = some (.float .f32) := Try.underlying24
abbrev T_3_float32 : Nat := 25
def Z_3_float32 : List Value := [.float .f32 0, .float .f32 0, .float .f32 0]
def ti_3_float32 : TI := ⟨.arr 3 24, 3, 12, Z_3_float32⟩
abbrev T_2_float32 : Nat := 26
def Z_2_float32 : List Value := [.float .f32 0, .float .f32 0]
def ti_2_float32 : TI := ⟨.arr 2 24, 2, 8, Z_2_float32⟩
abbrev T_laws_Filter : Nat := 28
def Z_laws_Filter : List Value := [.int .i64 (0 : Int), .float .f32 0, .float .f32 0, .float .f32 0, .float .f32 0, .float .f32 0]
def ti_laws_Filter : TI := ⟨.st [(2, 0), (25, 1), (26, 4)], 6, 32, Z_laws_Filter⟩
abbrev T_laws_Pipe : Nat := 30
def Z_laws_Pipe : List Value := [.slice none 0 0, .slice none 0 0, .slice none 0 0, .int .i64 (0 : Int), .float .f32 0, .float .f32 0, .float .f32 0, .float .f32 0, .float .f32 0, .bool false, .float .f32 0, .float .f32 0, .float .f32 0]
def ti_laws_Pipe : TI := ⟨.st [(22, 0), (22, 1), (23, 2), (28, 3), (4, 9), (24, 10), (24, 11), (24, 12)], 13, 120, Z_laws_Pipe⟩
abbrev T_16_float32 : Nat := 31
def Z_16_float32 : List Value := List.replicate 16 (.float .f32 0)
def ti_16_float32 : TI := ⟨.arr 16 24, 16, 64, Z_16_float32⟩
abbrev T_sl_impl_Ring : Nat := 33
def Z_sl_impl_Ring : List Value := [.slice none 0 0]
def ti_sl_impl_Ring : TI := ⟨.sl 59, 1, 24, Z_sl_impl_Ring⟩
theorem U_sl_impl_Ring : prg.underlying T_sl_impl_Ring = some (.slice 59) := Try.underlying33
abbrev T_impl_Filter : Nat := 34
def Z_impl_Filter : List Value := [.int .i64 (0 : Int), .float .f32 0, .float .f32 0, .float .f32 0, .float .f32 0, .float .f32 0]
def ti_impl_Filter : TI := ⟨.st [(2, 0), (25, 1), (26, 4)], 6, 32, Z_impl_Filter⟩
abbrev T_impl_Pipe : Nat := 36
def Z_impl_Pipe : List Value := [.slice none 0 0, .slice none 0 0, .slice none 0 0, .int .i64 (0 : Int), .float .f32 0, .float .f32 0, .float .f32 0, .float .f32 0, .float .f32 0, .bool false, .float .f32 0, .float .f32 0, .float .f32 0]
def ti_impl_Pipe : TI := ⟨.st [(33, 0), (33, 1), (23, 2), (34, 3), (4, 9), (24, 10), (24, 11), (24, 12)], 13, 120, Z_impl_Pipe⟩
abbrev T_impl_Block : Nat := 37
def Z_impl_Block : List Value := List.replicate 16 (.float .f32 0)
def ti_impl_Block : TI := ⟨.arr 16 24, 16, 64, Z_impl_Block⟩
abbrev T_impl_Pipe_impl_Block_int64 : Nat := 38
def Z_impl_Pipe_impl_Block_int64 : List Value := []
def ti_impl_Pipe_impl_Block_int64 : TI := ⟨.tup [36, 37, 2], 1, 0, Z_impl_Pipe_impl_Block_int64⟩
abbrev T_laws_Ring : Nat := 47
def Z_laws_Ring : List Value := [.slice none 0 0, .int .i64 (0 : Int)]
def ti_laws_Ring : TI := ⟨.st [(23, 0), (2, 1)], 2, 32, Z_laws_Ring⟩
abbrev T_sl_laws_Tap : Nat := 48
def Z_sl_laws_Tap : List Value := [.slice none 0 0]
def ti_sl_laws_Tap : TI := ⟨.sl 137, 1, 24, Z_sl_laws_Tap⟩
theorem U_sl_laws_Tap : prg.underlying T_sl_laws_Tap = some (.slice 137) := Try.underlying48
abbrev T_laws_Comb : Nat := 50
def Z_laws_Comb : List Value := [.slice none 0 0, .int .i64 (0 : Int), .float .f32 0]
def ti_laws_Comb : TI := ⟨.st [(47, 0), (24, 2)], 3, 40, Z_laws_Comb⟩
abbrev T_2_laws_Comb : Nat := 51
def Z_2_laws_Comb : List Value := [.slice none 0 0, .int .i64 (0 : Int), .float .f32 0, .slice none 0 0, .int .i64 (0 : Int), .float .f32 0]
def ti_2_laws_Comb : TI := ⟨.arr 2 50, 6, 80, Z_2_laws_Comb⟩
abbrev T_4_laws_Ring : Nat := 52
def Z_4_laws_Ring : List Value := [.slice none 0 0, .int .i64 (0 : Int), .slice none 0 0, .int .i64 (0 : Int), .slice none 0 0, .int .i64 (0 : Int), .slice none 0 0, .int .i64 (0 : Int)]
def ti_4_laws_Ring : TI := ⟨.arr 4 47, 8, 128, Z_4_laws_Ring⟩
abbrev T_4_laws_Filter : Nat := 53
def Z_4_laws_Filter : List Value := [.int .i64 (0 : Int), .float .f32 0, .float .f32 0, .float .f32 0, .float .f32 0, .float .f32 0, .int .i64 (0 : Int), .float .f32 0, .float .f32 0, .float .f32 0, .float .f32 0, .float .f32 0, .int .i64 (0 : Int), .float .f32 0, .float .f32 0, .float .f32 0, .float .f32 0, .float .f32 0, .int .i64 (0 : Int), .float .f32 0, .float .f32 0, .float .f32 0, .float .f32 0, .float .f32 0]
def ti_4_laws_Filter : TI := ⟨.arr 4 28, 24, 128, Z_4_laws_Filter⟩
abbrev T_4_float32 : Nat := 54
def Z_4_float32 : List Value := [.float .f32 0, .float .f32 0, .float .f32 0, .float .f32 0]
def ti_4_float32 : TI := ⟨.arr 4 24, 4, 16, Z_4_float32⟩
abbrev T_laws_Room : Nat := 56
def Z_laws_Room : List Value := [.slice none 0 0, .int .i64 (0 : Int), .slice none 0 0, .slice none 0 0, .int .i64 (0 : Int), .float .f32 0, .slice none 0 0, .int .i64 (0 : Int), .float .f32 0, .slice none 0 0, .int .i64 (0 : Int), .slice none 0 0, .int .i64 (0 : Int), .slice none 0 0, .int .i64 (0 : Int), .slice none 0 0, .int .i64 (0 : Int), .int .i64 (0 : Int), .float .f32 0, .float .f32 0, .float .f32 0, .float .f32 0, .float .f32 0, .int .i64 (0 : Int), .float .f32 0, .float .f32 0, .float .f32 0, .float .f32 0, .float .f32 0, .int .i64 (0 : Int), .float .f32 0, .float .f32 0, .float .f32 0, .float .f32 0, .float .f32 0, .int .i64 (0 : Int), .float .f32 0, .float .f32 0, .float .f32 0, .float .f32 0, .float .f32 0, .float .f32 0, .float .f32 0, .float .f32 0, .float .f32 0, .float .f32 0, .float .f32 0]
def ti_laws_Room : TI := ⟨.st [(47, 0), (48, 2), (51, 3), (52, 9), (53, 17), (54, 41), (24, 45), (24, 46)], 47, 416, Z_laws_Room⟩
abbrev T_impl_Ring : Nat := 59
def Z_impl_Ring : List Value := [.slice none 0 0, .int .i64 (0 : Int)]
def ti_impl_Ring : TI := ⟨.st [(23, 0), (2, 1)], 2, 32, Z_impl_Ring⟩
abbrev T_sl_impl_Tap : Nat := 60
def Z_sl_impl_Tap : List Value := [.slice none 0 0]
def ti_sl_impl_Tap : TI := ⟨.sl 127, 1, 24, Z_sl_impl_Tap⟩
theorem U_sl_impl_Tap : prg.underlying T_sl_impl_Tap = some (.slice 127) := Try.underlying60
abbrev T_impl_Comb : Nat := 62
def Z_impl_Comb : List Value := [.slice none 0 0, .int .i64 (0 : Int), .float .f32 0]
def ti_impl_Comb : TI := ⟨.st [(59, 0), (24, 2)], 3, 40, Z_impl_Comb⟩
abbrev T_2_impl_Comb : Nat := 63
def Z_2_impl_Comb : List Value := [.slice none 0 0, .int .i64 (0 : Int), .float .f32 0, .slice none 0 0, .int .i64 (0 : Int), .float .f32 0]
def ti_2_impl_Comb : TI := ⟨.arr 2 62, 6, 80, Z_2_impl_Comb⟩
abbrev T_4_impl_Ring : Nat := 64
def Z_4_impl_Ring : List Value := [.slice none 0 0, .int .i64 (0 : Int), .slice none 0 0, .int .i64 (0 : Int), .slice none 0 0, .int .i64 (0 : Int), .slice none 0 0, .int .i64 (0 : Int)]
def ti_4_impl_Ring : TI := ⟨.arr 4 59, 8, 128, Z_4_impl_Ring⟩
abbrev T_4_impl_Filter : Nat := 65
def Z_4_impl_Filter : List Value := [.int .i64 (0 : Int), .float .f32 0, .float .f32 0, .float .f32 0, .float .f32 0, .float .f32 0, .int .i64 (0 : Int), .float .f32 0, .float .f32 0, .float .f32 0, .float .f32 0, .float .f32 0, .int .i64 (0 : Int), .float .f32 0, .float .f32 0, .float .f32 0, .float .f32 0, .float .f32 0, .int .i64 (0 : Int), .float .f32 0, .float .f32 0, .float .f32 0, .float .f32 0, .float .f32 0]
def ti_4_impl_Filter : TI := ⟨.arr 4 34, 24, 128, Z_4_impl_Filter⟩
abbrev T_impl_Room : Nat := 67
def Z_impl_Room : List Value := [.slice none 0 0, .int .i64 (0 : Int), .slice none 0 0, .slice none 0 0, .int .i64 (0 : Int), .float .f32 0, .slice none 0 0, .int .i64 (0 : Int), .float .f32 0, .slice none 0 0, .int .i64 (0 : Int), .slice none 0 0, .int .i64 (0 : Int), .slice none 0 0, .int .i64 (0 : Int), .slice none 0 0, .int .i64 (0 : Int), .int .i64 (0 : Int), .float .f32 0, .float .f32 0, .float .f32 0, .float .f32 0, .float .f32 0, .int .i64 (0 : Int), .float .f32 0, .float .f32 0, .float .f32 0, .float .f32 0, .float .f32 0, .int .i64 (0 : Int), .float .f32 0, .float .f32 0, .float .f32 0, .float .f32 0, .float .f32 0, .int .i64 (0 : Int), .float .f32 0, .float .f32 0, .float .f32 0, .float .f32 0, .float .f32 0, .float .f32 0, .float .f32 0, .float .f32 0, .float .f32 0, .float .f32 0, .float .f32 0]
def ti_impl_Room : TI := ⟨.st [(59, 0), (60, 2), (63, 3), (64, 9), (65, 17), (54, 41), (24, 45), (24, 46)], 47, 416, Z_impl_Room⟩
abbrev T_impl_Room_int64 : Nat := 68
def Z_impl_Room_int64 : List Value := []
def ti_impl_Room_int64 : TI := ⟨.tup [67, 2], 1, 0, Z_impl_Room_int64⟩
abbrev T_float64 : Nat := 118
def Z_float64 : List Value := [.float .f64 0]
def ti_float64 : TI := ⟨.float .f64, 1, 8, Z_float64⟩
theorem U_float64 : prg.underlying T_float64 = some (.float .f64) := Try.underlying118
abbrev T_impl_Tap : Nat := 127
def Z_impl_Tap : List Value := [.int .i64 (0 : Int), .float .f32 0]
def ti_impl_Tap : TI := ⟨.st [(2, 0), (24, 1)], 2, 16, Z_impl_Tap⟩
abbrev T_laws_Tap : Nat := 137
def Z_laws_Tap : List Value := [.int .i64 (0 : Int), .float .f32 0]
def ti_laws_Tap : TI := ⟨.st [(2, 0), (24, 1)], 2, 16, Z_laws_Tap⟩
abbrev T_impl_Ring_int64 : Nat := 143
def Z_impl_Ring_int64 : List Value := []
def ti_impl_Ring_int64 : TI := ⟨.tup [59, 2], 1, 0, Z_impl_Ring_int64⟩
abbrev T_p_impl_Ring : Nat := 156
def Z_p_impl_Ring : List Value := [.pointer none]
def ti_p_impl_Ring : TI := ⟨.ptr, 1, 8, Z_p_impl_Ring⟩
abbrev T_sl_p_impl_Ring : Nat := 157
def Z_sl_p_impl_Ring : List Value := [.slice none 0 0]
def ti_sl_p_impl_Ring : TI := ⟨.sl 156, 1, 24, Z_sl_p_impl_Ring⟩
theorem U_sl_p_impl_Ring : prg.underlying T_sl_p_impl_Ring = some (.slice 156) := Try.underlying157
abbrev T_int_int : Nat := 234
def Z_int_int : List Value := []
def ti_int_int : TI := ⟨.tup [3, 3], 1, 0, Z_int_int⟩
abbrev T_uint32 : Nat := 244
def Z_uint32 : List Value := [.int .u32 (0 : Int)]
def ti_uint32 : TI := ⟨.int .u32, 1, 4, Z_uint32⟩
theorem U_uint32 : prg.underlying T_uint32 = some (.int .u32) := Try.underlying244
abbrev T_uint64 : Nat := 261
def Z_uint64 : List Value := [.int .u64 (0 : Int)]
def ti_uint64 : TI := ⟨.int .u64, 1, 8, Z_uint64⟩
theorem U_uint64 : prg.underlying T_uint64 = some (.int .u64) := Try.underlying261
theorem X_main_main : prg.funcs[f_main_main]? = some Try.f0 := Try.func0
theorem X_gosem_cut : prg.funcs[f_gosem_cut]? = some Try.f1 := Try.func1
theorem X_math_Float32bits : prg.funcs[f_math_Float32bits]? = some Try.f184 := Try.func184
theorem X_math_Float32frombits : prg.funcs[f_math_Float32frombits]? = some Try.f205 := Try.func205
theorem X_math_Float64frombits : prg.funcs[f_math_Float64frombits]? = some Try.f213 := Try.func213
theorem X_math_Float64bits : prg.funcs[f_math_Float64bits]? = some Try.f214 := Try.func214
theorem X_runtime_boundsError_Error : prg.funcs[f_runtime_boundsError_Error]? = some Try.f215 := Try.func215
theorem X_runtime_boundsError_RuntimeError : prg.funcs[f_runtime_boundsError_RuntimeError]? = some Try.f216 := Try.func216
theorem X_runtime_errorString_Error : prg.funcs[f_runtime_errorString_Error]? = some Try.f217 := Try.func217
theorem X_runtime_errorString_RuntimeError : prg.funcs[f_runtime_errorString_RuntimeError]? = some Try.f218 := Try.func218
theorem X_runtime_plainError_Error : prg.funcs[f_runtime_plainError_Error]? = some Try.f219 := Try.func219
theorem X_runtime_plainError_RuntimeError : prg.funcs[f_runtime_plainError_RuntimeError]? = some Try.f220 := Try.func220
theorem X_runtime_errorAddressString_Error : prg.funcs[f_runtime_errorAddressString_Error]? = some Try.f221 := Try.func221
theorem X_runtime_errorAddressString_RuntimeError : prg.funcs[f_runtime_errorAddressString_RuntimeError]? = some Try.f222 := Try.func222
theorem X_p_runtime_TypeAssertionError_Error : prg.funcs[f_p_runtime_TypeAssertionError_Error]? = some Try.f223 := Try.func223
theorem X_p_runtime_TypeAssertionError_RuntimeError : prg.funcs[f_p_runtime_TypeAssertionError_RuntimeError]? = some Try.f224 := Try.func224
theorem X_p_runtime_PanicNilError_Error : prg.funcs[f_p_runtime_PanicNilError_Error]? = some Try.f225 := Try.func225
theorem X_p_runtime_PanicNilError_RuntimeError : prg.funcs[f_p_runtime_PanicNilError_RuntimeError]? = some Try.f226 := Try.func226
theorem X_p_internal_abi_Type_Align : prg.funcs[f_p_internal_abi_Type_Align]? = some Try.f227 := Try.func227
theorem X_internal_runtime_maps_unhashableTypeError_Error : prg.funcs[f_internal_runtime_maps_unhashableTypeError_Error]? = some Try.f228 := Try.func228
theorem X_internal_runtime_maps_unhashableTypeError_RuntimeError : prg.funcs[f_internal_runtime_maps_unhashableTypeError_RuntimeError]? = some Try.f229 := Try.func229
theorem X_impl_Filter_isStill : prg.funcs[f_impl_Filter_isStill]? = some Try.f230 := Try.func230
theorem X_impl_Pipe_places : prg.funcs[f_impl_Pipe_places]? = some Try.f231 := Try.func231
theorem X_impl_Ring_isQuiet : prg.funcs[f_impl_Ring_isQuiet]? = some Try.f232 := Try.func232
theorem X_impl_Tuning_cents : prg.funcs[f_impl_Tuning_cents]? = some Try.f233 := Try.func233
theorem X_impl_Score_happened : prg.funcs[f_impl_Score_happened]? = some Try.f234 := Try.func234
theorem X_impl_Player_isLate : prg.funcs[f_impl_Player_isLate]? = some Try.f235 := Try.func235
theorem X_p_impl_Room_early : prg.funcs[f_p_impl_Room_early]? = some Try.f236 := Try.func236
theorem X_impl_Voice_isFree : prg.funcs[f_impl_Voice_isFree]? = some Try.f237 := Try.func237
theorem X_impl_String_isSilent : prg.funcs[f_impl_String_isSilent]? = some Try.f238 := Try.func238
theorem X_impl_Bow_clone : prg.funcs[f_impl_Bow_clone]? = some Try.f239 := Try.func239
theorem X_p_impl_Comb_step : prg.funcs[f_p_impl_Comb_step]? = some Try.f240 := Try.func240
theorem X_impl_Event_order : prg.funcs[f_impl_Event_order]? = some Try.f241 := Try.func241
theorem X_p_impl_Bow_step : prg.funcs[f_p_impl_Bow_step]? = some Try.f242 := Try.func242
theorem X_internal_abi_Kind_String : prg.funcs[f_internal_abi_Kind_String]? = some Try.f243 := Try.func243
def tau : Static := [(0, ti__0), (2, ti_int64), (3, ti_int), (4, ti_bool), (22, ti_sl_laws_Ring), (23, ti_sl_float32), (24, ti_float32), (25, ti_3_float32), (26, ti_2_float32), (28, ti_laws_Filter), (30, ti_laws_Pipe), (31, ti_16_float32), (33, ti_sl_impl_Ring), (34, ti_impl_Filter), (36, ti_impl_Pipe), (37, ti_impl_Block), (38, ti_impl_Pipe_impl_Block_int64), (47, ti_laws_Ring), (48, ti_sl_laws_Tap), (50, ti_laws_Comb), (51, ti_2_laws_Comb), (52, ti_4_laws_Ring), (53, ti_4_laws_Filter), (54, ti_4_float32), (56, ti_laws_Room), (59, ti_impl_Ring), (60, ti_sl_impl_Tap), (62, ti_impl_Comb), (63, ti_2_impl_Comb), (64, ti_4_impl_Ring), (65, ti_4_impl_Filter), (67, ti_impl_Room), (68, ti_impl_Room_int64), (118, ti_float64), (127, ti_impl_Tap), (137, ti_laws_Tap), (143, ti_impl_Ring_int64), (156, ti_p_impl_Ring), (157, ti_sl_p_impl_Ring), (234, ti_int_int), (244, ti_uint32), (261, ti_uint64)]
theorem ok_nil {P : Program} : OkS P [] := fun _ h => by cases h
theorem ok_cons {P : Program} {e : Nat × TI} {r : Static} (h : okT P e) (k : OkS P r) : OkS P (e :: r) := fun x hx => by
  rcases List.mem_cons.1 hx with rfl | hx
  · exact h
  · exact k x hx
theorem okt0 : okT prg (0, ti__0) := ⟨_, Try.t0, Try.underlying0, by kernel_rfl, by kernel_rfl, by kernel_rfl, by kernel_rfl, .inl rfl⟩
theorem okt2 : okT prg (2, ti_int64) := ⟨_, Try.t2, Try.underlying2, by kernel_rfl, by kernel_rfl, by kernel_rfl, by kernel_rfl, .inr ⟨_, rfl, by kernel_rfl⟩⟩
theorem okt3 : okT prg (3, ti_int) := ⟨_, Try.t3, Try.underlying3, by kernel_rfl, by kernel_rfl, by kernel_rfl, by kernel_rfl, .inr ⟨_, rfl, by kernel_rfl⟩⟩
theorem okt4 : okT prg (4, ti_bool) := ⟨_, Try.t4, Try.underlying4, by kernel_rfl, by kernel_rfl, by kernel_rfl, by kernel_rfl, .inr ⟨_, rfl, by kernel_rfl⟩⟩
theorem okt22 : okT prg (22, ti_sl_laws_Ring) := ⟨_, Try.t22, Try.underlying22, by kernel_rfl, by kernel_rfl, by kernel_rfl, by kernel_rfl, .inr ⟨_, rfl, by kernel_rfl⟩⟩
theorem okt23 : okT prg (23, ti_sl_float32) := ⟨_, Try.t23, Try.underlying23, by kernel_rfl, by kernel_rfl, by kernel_rfl, by kernel_rfl, .inr ⟨_, rfl, by kernel_rfl⟩⟩
theorem okt24 : okT prg (24, ti_float32) := ⟨_, Try.t24, Try.underlying24, by kernel_rfl, by kernel_rfl, by kernel_rfl, by kernel_rfl, .inr ⟨_, rfl, by kernel_rfl⟩⟩
theorem okt25 : okT prg (25, ti_3_float32) := ⟨_, Try.t25, Try.underlying25, by kernel_rfl, by kernel_rfl, by kernel_rfl, by kernel_rfl, .inr ⟨_, rfl, by kernel_rfl⟩⟩
theorem okt26 : okT prg (26, ti_2_float32) := ⟨_, Try.t26, Try.underlying26, by kernel_rfl, by kernel_rfl, by kernel_rfl, by kernel_rfl, .inr ⟨_, rfl, by kernel_rfl⟩⟩
theorem okt28 : okT prg (28, ti_laws_Filter) := ⟨_, Try.t28, Try.underlying28, by kernel_rfl, by kernel_rfl, by kernel_rfl, by kernel_rfl, .inr ⟨_, rfl, by kernel_rfl⟩⟩
theorem okt30 : okT prg (30, ti_laws_Pipe) := ⟨_, Try.t30, Try.underlying30, by kernel_rfl, by kernel_rfl, by kernel_rfl, by kernel_rfl, .inr ⟨_, rfl, by kernel_rfl⟩⟩
theorem okt31 : okT prg (31, ti_16_float32) := ⟨_, Try.t31, Try.underlying31, by kernel_rfl, by kernel_rfl, by kernel_rfl, by kernel_rfl, .inr ⟨_, rfl, by kernel_rfl⟩⟩
theorem okt33 : okT prg (33, ti_sl_impl_Ring) := ⟨_, Try.t33, Try.underlying33, by kernel_rfl, by kernel_rfl, by kernel_rfl, by kernel_rfl, .inr ⟨_, rfl, by kernel_rfl⟩⟩
theorem okt34 : okT prg (34, ti_impl_Filter) := ⟨_, Try.t34, Try.underlying34, by kernel_rfl, by kernel_rfl, by kernel_rfl, by kernel_rfl, .inr ⟨_, rfl, by kernel_rfl⟩⟩
theorem okt36 : okT prg (36, ti_impl_Pipe) := ⟨_, Try.t36, Try.underlying36, by kernel_rfl, by kernel_rfl, by kernel_rfl, by kernel_rfl, .inr ⟨_, rfl, by kernel_rfl⟩⟩
theorem okt37 : okT prg (37, ti_impl_Block) := ⟨_, Try.t37, Try.underlying37, by kernel_rfl, by kernel_rfl, by kernel_rfl, by kernel_rfl, .inr ⟨_, rfl, by kernel_rfl⟩⟩
theorem okt38 : okT prg (38, ti_impl_Pipe_impl_Block_int64) := ⟨_, Try.t38, Try.underlying38, by kernel_rfl, by kernel_rfl, by kernel_rfl, by kernel_rfl, .inl rfl⟩
theorem okt47 : okT prg (47, ti_laws_Ring) := ⟨_, Try.t47, Try.underlying47, by kernel_rfl, by kernel_rfl, by kernel_rfl, by kernel_rfl, .inr ⟨_, rfl, by kernel_rfl⟩⟩
theorem okt48 : okT prg (48, ti_sl_laws_Tap) := ⟨_, Try.t48, Try.underlying48, by kernel_rfl, by kernel_rfl, by kernel_rfl, by kernel_rfl, .inr ⟨_, rfl, by kernel_rfl⟩⟩
theorem okt50 : okT prg (50, ti_laws_Comb) := ⟨_, Try.t50, Try.underlying50, by kernel_rfl, by kernel_rfl, by kernel_rfl, by kernel_rfl, .inr ⟨_, rfl, by kernel_rfl⟩⟩
theorem okt51 : okT prg (51, ti_2_laws_Comb) := ⟨_, Try.t51, Try.underlying51, by kernel_rfl, by kernel_rfl, by kernel_rfl, by kernel_rfl, .inr ⟨_, rfl, by kernel_rfl⟩⟩
theorem okt52 : okT prg (52, ti_4_laws_Ring) := ⟨_, Try.t52, Try.underlying52, by kernel_rfl, by kernel_rfl, by kernel_rfl, by kernel_rfl, .inr ⟨_, rfl, by kernel_rfl⟩⟩
theorem okt53 : okT prg (53, ti_4_laws_Filter) := ⟨_, Try.t53, Try.underlying53, by kernel_rfl, by kernel_rfl, by kernel_rfl, by kernel_rfl, .inr ⟨_, rfl, by kernel_rfl⟩⟩
theorem okt54 : okT prg (54, ti_4_float32) := ⟨_, Try.t54, Try.underlying54, by kernel_rfl, by kernel_rfl, by kernel_rfl, by kernel_rfl, .inr ⟨_, rfl, by kernel_rfl⟩⟩
theorem okt56 : okT prg (56, ti_laws_Room) := ⟨_, Try.t56, Try.underlying56, by kernel_rfl, by kernel_rfl, by kernel_rfl, by kernel_rfl, .inr ⟨_, rfl, by kernel_rfl⟩⟩
theorem okt59 : okT prg (59, ti_impl_Ring) := ⟨_, Try.t59, Try.underlying59, by kernel_rfl, by kernel_rfl, by kernel_rfl, by kernel_rfl, .inr ⟨_, rfl, by kernel_rfl⟩⟩
theorem okt60 : okT prg (60, ti_sl_impl_Tap) := ⟨_, Try.t60, Try.underlying60, by kernel_rfl, by kernel_rfl, by kernel_rfl, by kernel_rfl, .inr ⟨_, rfl, by kernel_rfl⟩⟩
theorem okt62 : okT prg (62, ti_impl_Comb) := ⟨_, Try.t62, Try.underlying62, by kernel_rfl, by kernel_rfl, by kernel_rfl, by kernel_rfl, .inr ⟨_, rfl, by kernel_rfl⟩⟩
theorem okt63 : okT prg (63, ti_2_impl_Comb) := ⟨_, Try.t63, Try.underlying63, by kernel_rfl, by kernel_rfl, by kernel_rfl, by kernel_rfl, .inr ⟨_, rfl, by kernel_rfl⟩⟩
theorem okt64 : okT prg (64, ti_4_impl_Ring) := ⟨_, Try.t64, Try.underlying64, by kernel_rfl, by kernel_rfl, by kernel_rfl, by kernel_rfl, .inr ⟨_, rfl, by kernel_rfl⟩⟩
theorem okt65 : okT prg (65, ti_4_impl_Filter) := ⟨_, Try.t65, Try.underlying65, by kernel_rfl, by kernel_rfl, by kernel_rfl, by kernel_rfl, .inr ⟨_, rfl, by kernel_rfl⟩⟩
theorem okt67 : okT prg (67, ti_impl_Room) := ⟨_, Try.t67, Try.underlying67, by kernel_rfl, by kernel_rfl, by kernel_rfl, by kernel_rfl, .inr ⟨_, rfl, by kernel_rfl⟩⟩
theorem okt68 : okT prg (68, ti_impl_Room_int64) := ⟨_, Try.t68, Try.underlying68, by kernel_rfl, by kernel_rfl, by kernel_rfl, by kernel_rfl, .inl rfl⟩
theorem okt118 : okT prg (118, ti_float64) := ⟨_, Try.t118, Try.underlying118, by kernel_rfl, by kernel_rfl, by kernel_rfl, by kernel_rfl, .inr ⟨_, rfl, by kernel_rfl⟩⟩
theorem okt127 : okT prg (127, ti_impl_Tap) := ⟨_, Try.t127, Try.underlying127, by kernel_rfl, by kernel_rfl, by kernel_rfl, by kernel_rfl, .inr ⟨_, rfl, by kernel_rfl⟩⟩
theorem okt137 : okT prg (137, ti_laws_Tap) := ⟨_, Try.t137, Try.underlying137, by kernel_rfl, by kernel_rfl, by kernel_rfl, by kernel_rfl, .inr ⟨_, rfl, by kernel_rfl⟩⟩
theorem okt143 : okT prg (143, ti_impl_Ring_int64) := ⟨_, Try.t143, Try.underlying143, by kernel_rfl, by kernel_rfl, by kernel_rfl, by kernel_rfl, .inl rfl⟩
theorem okt156 : okT prg (156, ti_p_impl_Ring) := ⟨_, Try.t156, Try.underlying156, by kernel_rfl, by kernel_rfl, by kernel_rfl, by kernel_rfl, .inr ⟨_, rfl, by kernel_rfl⟩⟩
theorem okt157 : okT prg (157, ti_sl_p_impl_Ring) := ⟨_, Try.t157, Try.underlying157, by kernel_rfl, by kernel_rfl, by kernel_rfl, by kernel_rfl, .inr ⟨_, rfl, by kernel_rfl⟩⟩
theorem okt234 : okT prg (234, ti_int_int) := ⟨_, Try.t234, Try.underlying234, by kernel_rfl, by kernel_rfl, by kernel_rfl, by kernel_rfl, .inl rfl⟩
theorem okt244 : okT prg (244, ti_uint32) := ⟨_, Try.t244, Try.underlying244, by kernel_rfl, by kernel_rfl, by kernel_rfl, by kernel_rfl, .inr ⟨_, rfl, by kernel_rfl⟩⟩
theorem okt261 : okT prg (261, ti_uint64) := ⟨_, Try.t261, Try.underlying261, by kernel_rfl, by kernel_rfl, by kernel_rfl, by kernel_rfl, .inr ⟨_, rfl, by kernel_rfl⟩⟩
theorem tau_ok : OkS prg tau := ok_cons okt0 <| ok_cons okt2 <| ok_cons okt3 <| ok_cons okt4 <| ok_cons okt22 <| ok_cons okt23 <| ok_cons okt24 <| ok_cons okt25 <| ok_cons okt26 <| ok_cons okt28 <| ok_cons okt30 <| ok_cons okt31 <| ok_cons okt33 <| ok_cons okt34 <| ok_cons okt36 <| ok_cons okt37 <| ok_cons okt38 <| ok_cons okt47 <| ok_cons okt48 <| ok_cons okt50 <| ok_cons okt51 <| ok_cons okt52 <| ok_cons okt53 <| ok_cons okt54 <| ok_cons okt56 <| ok_cons okt59 <| ok_cons okt60 <| ok_cons okt62 <| ok_cons okt63 <| ok_cons okt64 <| ok_cons okt65 <| ok_cons okt67 <| ok_cons okt68 <| ok_cons okt118 <| ok_cons okt127 <| ok_cons okt137 <| ok_cons okt143 <| ok_cons okt156 <| ok_cons okt157 <| ok_cons okt234 <| ok_cons okt244 <| ok_cons okt261 <| ok_nil
theorem mixed : prg.follows .mixedOrders = true := by kernel_rfl
end Go.Sx
