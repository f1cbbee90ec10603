/- Numbers of functions and types. -/
import Derived.Test.YtkkkcafkepnecaaGreatZA
import Derived.Test.YtkkkcafkepnecaaGreatProg
import Derived.OpenShut
import Derived.ShutString
import Derived.ChangeOld
import Derived.Carry
import Derived.Deep.Slices
import Derived.SizedLaws

namespace Go.Proofs.YtkkkcafkepnecaaGreat
open Go Go.RowKit Vc
noncomputable abbrev PG : Program := Tryz.prog
theorem mixed : PG.follows .mixedOrders = true := by kernel_rfl
namespace N
abbrev main_main : FuncId := 0
abbrev gosem_cut : FuncId := 1
abbrev gosem_cut_init : FuncId := 2
abbrev linesmanlaw12_StackStarts : FuncId := 3
abbrev linesmanlaw10_ImageSealed : FuncId := 4
abbrev linesmanlaw10_ImageEncodes : FuncId := 5
abbrev linesmanlaw12_StackHolds : FuncId := 6
abbrev linesmanlaw10_ImageEach : FuncId := 7
abbrev linesmanlaw12_StackNone : FuncId := 8
abbrev linesmanlaw17_FiberHolds : FuncId := 9
abbrev linesmanlaw17_FiberNone : FuncId := 10
abbrev linesmanlaw12_small : FuncId := 11
abbrev linesmanlaw12_works : FuncId := 12
abbrev stack_New : FuncId := 13
abbrev linesmanref12_New : FuncId := 14
abbrev linesmanlaw12_num : FuncId := 15
abbrev linesmanlaw12_is : FuncId := 16
abbrev linesmanlaw10_works : FuncId := 17
abbrev linesmanref10_Sealed : FuncId := 18
abbrev image_Decode : FuncId := 19
abbrev linesmanref10_Decode : FuncId := 20
abbrev linesmanref09_Same : FuncId := 21
abbrev linesmanlaw10_num : FuncId := 22
abbrev linesmanlaw10_few : FuncId := 23
abbrev image_Encode : FuncId := 24
abbrev image_Len : FuncId := 25
abbrev linesmanref10_Encode : FuncId := 26
abbrev image_Is : FuncId := 27
abbrev linesmanref09_Right : FuncId := 28
abbrev stack_Stack_Copy : FuncId := 29
abbrev stack_Stack_Depth : FuncId := 30
abbrev stack_Stack_Step : FuncId := 31
abbrev stack_Stack_Pass : FuncId := 32
abbrev stack_Same : FuncId := 33
abbrev stack_Stack_Next : FuncId := 34
abbrev linesmanref09_At : FuncId := 35
abbrev linesmanref09_Len : FuncId := 36
abbrev linesmanref10_First : FuncId := 37
abbrev image_Each : FuncId := 38
abbrev stack_Stack_Frames : FuncId := 39
abbrev linesmanlaw12_given : FuncId := 40
abbrev stack_Stack_Reg : FuncId := 41
abbrev stack_Stack_Result : FuncId := 42
abbrev linesmanlaw17_small : FuncId := 43
abbrev linesmanlaw17_works : FuncId := 44
abbrev fiber_New : FuncId := 45
abbrev linesmanlaw17_num : FuncId := 46
abbrev fiber_Fiber_Copy : FuncId := 47
abbrev fiber_Fiber_Want : FuncId := 48
abbrev fiber_Same : FuncId := 49
abbrev fiber_Fiber_Ended : FuncId := 50
abbrev fiber_Fiber_Do : FuncId := 51
abbrev fiber_Fiber_Stack : FuncId := 52
abbrev fiber_Fiber_Run : FuncId := 53
abbrev fiber_Ahead : FuncId := 54
abbrev linesmanref17_Same : FuncId := 55
abbrev linesmanlaw12_few : FuncId := 56
abbrev program_Check : FuncId := 57
abbrev program_Copy : FuncId := 58
abbrev stack_entered : FuncId := 59
abbrev linesmanref12_entered : FuncId := 60
abbrev linesmanref12_Stack_Next : FuncId := 61
abbrev linesmanref12_Stack_Reg : FuncId := 62
abbrev linesmanref12_SameFrame : FuncId := 63
abbrev linesmanref01_Fixed : FuncId := 64
abbrev linesmanref02_Of : FuncId := 65
abbrev image_first : FuncId := 66
abbrev image_begins : FuncId := 67
abbrev image_writer_byte : FuncId := 68
abbrev image_each_int : FuncId := 69
abbrev image_writer_number : FuncId := 70
abbrev instr_Bytes : FuncId := 71
abbrev digest_Of : FuncId := 72
abbrev linesmanref10_Bare : FuncId := 73
abbrev linesmanref09_Wrong : FuncId := 74
abbrev linesmanref09_numbers : FuncId := 75
abbrev stack_Stack_none : FuncId := 76
abbrev stack_copied_api_Frame : FuncId := 77
abbrev stack_cloned : FuncId := 78
abbrev stack_caught : FuncId := 79
abbrev stack_must : FuncId := 80
abbrev stack_Stack_ins : FuncId := 81
abbrev stack_Stack_refused : FuncId := 82
abbrev stack_Stack_top : FuncId := 83
abbrev stack_does : FuncId := 84
abbrev instr_Local : FuncId := 85
abbrev program_Same : FuncId := 86
abbrev slices_EqualFunc_sl_api_Frame_sl_api_Frame_api_Frame_api_Frame : FuncId := 87
abbrev stack_same : FuncId := 88
abbrev linesmanref10_Reader_program : FuncId := 89
abbrev slices_Clone_sl_byte_byte : FuncId := 90
abbrev image_Each_1 : FuncId := 91
abbrev image_every : FuncId := 92
abbrev stack_Stack_Frames_1 : FuncId := 93
abbrev stack_Stack_Frames_2 : FuncId := 94
abbrev slices_Backward_sl_api_Frame_api_Frame : FuncId := 95
abbrev linesmanlaw17_given : FuncId := 96
abbrev fiber_Fiber_none : FuncId := 97
abbrev fiber_wants : FuncId := 98
abbrev fiber_Fiber_local : FuncId := 99
abbrev slices_Equal_sl_uint32_uint32 : FuncId := 100
abbrev fiber_caught : FuncId := 101
abbrev fiber_must : FuncId := 102
abbrev fiber_Ahead_1 : FuncId := 103
abbrev fiber_every : FuncId := 104
abbrev program_numbers : FuncId := 105
abbrev program_Wrong : FuncId := 106
abbrev slices_Clone_sl_api_Func_api_Func : FuncId := 107
abbrev slices_Clone_sl_api_Ins_api_Ins : FuncId := 108
abbrev linesmanref01_right : FuncId := 109
abbrev image_caught : FuncId := 110
abbrev image_first_1 : FuncId := 111
abbrev image_reader_program : FuncId := 112
abbrev octet_Fixed : FuncId := 113
abbrev instr_Check : FuncId := 114
abbrev instr_named : FuncId := 115
abbrev digest_New : FuncId := 116
abbrev digest_Digest_Write : FuncId := 117
abbrev digest_Digest_Sum : FuncId := 118
abbrev linesmanref08_Bytes : FuncId := 119
abbrev linesmanref09_fine : FuncId := 120
abbrev slices_Clone_sl_api_Frame_api_Frame : FuncId := 121
abbrev slices_Clone_sl_uint32_uint32 : FuncId := 122
abbrev arith_Do : FuncId := 123
abbrev stack_Stack_consts : FuncId := 124
abbrev stack_Stack_moves : FuncId := 125
abbrev stack_Stack_ariths : FuncId := 126
abbrev stack_Stack_jumps : FuncId := 127
abbrev stack_Stack_ifs : FuncId := 128
abbrev stack_Stack_calls : FuncId := 129
abbrev stack_Stack_returns : FuncId := 130
abbrev stack_Stack_yields : FuncId := 131
abbrev instr_right : FuncId := 132
abbrev instr_among_api_Op : FuncId := 133
abbrev slices_EqualFunc_sl_api_Func_sl_api_Func_api_Func_api_Func : FuncId := 134
abbrev program_Same_1 : FuncId := 135
abbrev slices_Equal_sl_api_Ins_api_Ins : FuncId := 136
abbrev linesmanref10_Reader_number : FuncId := 137
abbrev linesmanref10_Reader_ins : FuncId := 138
abbrev image_every_1 : FuncId := 139
abbrev slices_Backward_sl_api_Frame_api_Frame_1 : FuncId := 140
abbrev fiber_Fiber_loads : FuncId := 141
abbrev fiber_Fiber_stores : FuncId := 142
abbrev fiber_Fiber_begins : FuncId := 143
abbrev fiber_Fiber_counts : FuncId := 144
abbrev fiber_Fiber_shares : FuncId := 145
abbrev fiber_every_1 : FuncId := 146
abbrev program_within : FuncId := 147
abbrev program_every : FuncId := 148
abbrev program_place_fine : FuncId := 149
abbrev image_must : FuncId := 150
abbrev image_reader_byte : FuncId := 151
abbrev image_reader_number : FuncId := 152
abbrev image_reader_ins : FuncId := 153
abbrev octet_right : FuncId := 154
abbrev instr_first : FuncId := 155
abbrev instr_second : FuncId := 156
abbrev instr_imm : FuncId := 157
abbrev instr_third : FuncId := 158
abbrev instr_many : FuncId := 159
abbrev digest_table_fill : FuncId := 160
abbrev digest_Digest_none : FuncId := 161
abbrev digest_folded_uint64_byte : FuncId := 162
abbrev digest_table_step : FuncId := 163
abbrev linesmanref08_in : FuncId := 164
abbrev linesmanref08_Right : FuncId := 165
abbrev linesmanref08_Regs : FuncId := 166
abbrev linesmanref08_Leaves : FuncId := 167
abbrev arith_does : FuncId := 168
abbrev instr_is : FuncId := 169
abbrev arith_Name : FuncId := 170
abbrev slices_Contains_sl_api_Op_api_Op : FuncId := 171
abbrev linesmanref01_ReadFixed : FuncId := 172
abbrev linesmanref08_Read : FuncId := 173
abbrev fiber_gathered_uint32 : FuncId := 174
abbrev arith_Signed : FuncId := 175
abbrev fiber_shared : FuncId := 176
abbrev program_all_program_bound : FuncId := 177
abbrev program_within_1 : FuncId := 178
abbrev program_every_1 : FuncId := 179
abbrev program_place_fits : FuncId := 180
abbrev program_place_jumps : FuncId := 181
abbrev program_place_calls : FuncId := 182
abbrev program_place_ends : FuncId := 183
abbrev octet_ReadFixed : FuncId := 184
abbrev image_tape_from : FuncId := 185
abbrev instr_Read : FuncId := 186
abbrev octet_widths : FuncId := 187
abbrev octet_among_int : FuncId := 188
abbrev instr_first_1 : FuncId := 189
abbrev instr_first_2 : FuncId := 190
abbrev instr_second_1 : FuncId := 191
abbrev instr_second_2 : FuncId := 192
abbrev instr_imm_1 : FuncId := 193
abbrev instr_imm_2 : FuncId := 194
abbrev instr_third_1 : FuncId := 195
abbrev instr_third_2 : FuncId := 196
abbrev slices_Values_sl_byte_byte : FuncId := 197
abbrev linesmanref08_Names : FuncId := 198
abbrev linesmanref08_reg : FuncId := 199
abbrev arith_does_1 : FuncId := 200
abbrev arith_does_2 : FuncId := 201
abbrev arith_does_3 : FuncId := 202
abbrev arith_does_4 : FuncId := 203
abbrev arith_does_5 : FuncId := 204
abbrev arith_does_6 : FuncId := 205
abbrev arith_does_7 : FuncId := 206
abbrev arith_does_8 : FuncId := 207
abbrev arith_does_9 : FuncId := 208
abbrev arith_pair_at : FuncId := 209
abbrev arith_does_10 : FuncId := 210
abbrev arith_does_11 : FuncId := 211
abbrev arith_one : FuncId := 212
abbrev arith_does_12 : FuncId := 213
abbrev arith_every : FuncId := 214
abbrev slices_Index_sl_api_Op_api_Op : FuncId := 215
abbrev arith_word_signed : FuncId := 216
abbrev slices_ContainsFunc_sl_program_bound_program_bound : FuncId := 217
abbrev program_all_program_bound_1 : FuncId := 218
abbrev program_place_ins : FuncId := 219
abbrev instr_Regs : FuncId := 220
abbrev instr_Leaves : FuncId := 221
abbrev instr_caught : FuncId := 222
abbrev instr_Read_1 : FuncId := 223
abbrev instr_reader_number : FuncId := 224
abbrev instr_must : FuncId := 225
abbrev slices_Contains_sl_int_int : FuncId := 226
abbrev slices_Values_sl_byte_byte_1 : FuncId := 227
abbrev arith_every_1 : FuncId := 228
abbrev arith_names : FuncId := 229
abbrev slices_IndexFunc_sl_program_bound_program_bound : FuncId := 230
abbrev instr_tape_left : FuncId := 231
abbrev slices_Index_sl_int_int : FuncId := 232
abbrev runtime_boundsError_Error : FuncId := 233
abbrev runtime_boundsError_RuntimeError : FuncId := 234
abbrev runtime_errorString_Error : FuncId := 235
abbrev runtime_errorString_RuntimeError : FuncId := 236
abbrev runtime_plainError_Error : FuncId := 237
abbrev runtime_plainError_RuntimeError : FuncId := 238
abbrev runtime_errorAddressString_Error : FuncId := 239
abbrev runtime_errorAddressString_RuntimeError : FuncId := 240
abbrev runtime_TypeAssertionError_Error : FuncId := 241
abbrev runtime_TypeAssertionError_RuntimeError : FuncId := 242
abbrev runtime_PanicNilError_Error : FuncId := 243
abbrev runtime_PanicNilError_RuntimeError : FuncId := 244
abbrev internal_abi_Type_Align : FuncId := 245
abbrev internal_runtime_maps_unhashableTypeError_Error : FuncId := 246
abbrev internal_runtime_maps_unhashableTypeError_RuntimeError : FuncId := 247
abbrev api_Errno_Error : FuncId := 248
abbrev internal_abi_Kind_String : FuncId := 249
end N
namespace T
abbrev t_ : TypeId := 0
abbrev t_func : TypeId := 1
abbrev t_int64 : TypeId := 2
abbrev t_int : TypeId := 3
abbrev t_bool : TypeId := 4
abbrev t_uint8 : TypeId := 5
abbrev t_abi_BoundsErrorCode : TypeId := 6
abbrev t_struct_x_int64_y_int_signed_bool_code_abi_BoundsErrorCode : TypeId := 7
abbrev t_runtime_boundsError : TypeId := 8
abbrev t_string : TypeId := 9
abbrev t_runtime_errorString : TypeId := 10
abbrev t_runtime_plainError : TypeId := 11
abbrev t_uintptr : TypeId := 12
abbrev t_struct_msg_string_addr_uintptr : TypeId := 13
abbrev t_runtime_errorAddressString : TypeId := 14
abbrev t_ptr_runtime_TypeAssertionError : TypeId := 15
abbrev t_ptr_runtime_PanicNilError : TypeId := 16
abbrev t_ptr_abi_Type : TypeId := 17
abbrev t_struct_typ_ptr_abi_Type : TypeId := 18
abbrev t_maps_unhashableTypeError : TypeId := 19
abbrev t_interface : TypeId := 20
abbrev t_int32 : TypeId := 21
abbrev t_sl_api_Func : TypeId := 22
abbrev t_struct_Funcs_sl_api_Func_Mutexes_int_Rwlocks_int_Groups_in : TypeId := 23
abbrev t_api_Program : TypeId := 24
abbrev t_sl_uint32 : TypeId := 25
abbrev t_struct_Program_api_Program_Func_int_Args_sl_uint32 : TypeId := 26
abbrev t_linesmanlaw12_Start : TypeId := 27
abbrev t_func_linesmanlaw12_Start_bool : TypeId := 28
abbrev t_func_bool : TypeId := 29
abbrev t_uint32 : TypeId := 30
abbrev t_ptr_stack_Stack : TypeId := 31
abbrev t_api_Errno : TypeId := 32
abbrev t_ptr_stack_Stack_api_Errno : TypeId := 33
abbrev t_func_api_Program_int_uint32_ptr_stack_Stack_api_Errno : TypeId := 34
abbrev t_sl_api_Frame : TypeId := 35
abbrev t_struct_P_api_Program_L_sl_api_Frame_Result_uint32 : TypeId := 36
abbrev t_linesmanref12_Stack : TypeId := 37
abbrev t_linesmanref12_Stack_int : TypeId := 38
abbrev t_func_api_Program_int_sl_uint32_linesmanref12_Stack_int : TypeId := 39
abbrev t_func_api_Errno_int : TypeId := 40
abbrev t_func_ptr_stack_Stack_linesmanref12_Stack_int_bool : TypeId := 41
abbrev t_sl_uint8 : TypeId := 42
abbrev t_func_sl_uint8_sl_uint8 : TypeId := 43
abbrev t_api_Program_api_Errno : TypeId := 44
abbrev t_func_sl_uint8_api_Program_api_Errno : TypeId := 45
abbrev t_api_Program_int : TypeId := 46
abbrev t_func_sl_uint8_api_Program_int : TypeId := 47
abbrev t_func_api_Program_api_Program_bool : TypeId := 48
abbrev t_func_sl_uint8_sl_uint8_bool : TypeId := 49
abbrev t_func_api_Program_bool : TypeId := 50
abbrev t_sl_uint8_api_Errno : TypeId := 51
abbrev t_func_api_Program_sl_uint8_api_Errno : TypeId := 52
abbrev t_int_api_Errno : TypeId := 53
abbrev t_func_api_Program_int_api_Errno : TypeId := 54
abbrev t_sl_uint8_int : TypeId := 55
abbrev t_func_api_Program_sl_uint8_int : TypeId := 56
abbrev t_func_sl_uint8_bool : TypeId := 57
abbrev t_sl_linesmanlaw12_Act : TypeId := 58
abbrev t_sl_api_Ins : TypeId := 59
abbrev t_struct_Regs_int_Code_sl_api_Ins : TypeId := 60
abbrev t_api_Func : TypeId := 61
abbrev t_func_ptr_stack_Stack : TypeId := 62
abbrev t_func_int : TypeId := 63
abbrev t_struct_What_int_Most_int_Reg_int_Word_uint32 : TypeId := 64
abbrev t_linesmanlaw12_Act : TypeId := 65
abbrev t_func_int_api_Errno : TypeId := 66
abbrev t_func_int_uint32_api_Errno : TypeId := 67
abbrev t_func_ptr_stack_Stack_ptr_stack_Stack_bool : TypeId := 68
abbrev t_api_Op : TypeId := 69
abbrev t_struct_Op_api_Op_A_int_B_int_C_int_Imm_uint32 : TypeId := 70
abbrev t_api_Ins : TypeId := 71
abbrev t_struct_Func_int_Pc_int : TypeId := 72
abbrev t_api_Site : TypeId := 73
abbrev t_api_Ins_api_Site_bool : TypeId := 74
abbrev t_func_api_Ins_api_Site_bool : TypeId := 75
abbrev t_api_Ins_int : TypeId := 76
abbrev t_func_api_Program_api_Site_api_Ins_int : TypeId := 77
abbrev t_func_linesmanlaw12_Start_sl_linesmanlaw12_Act_bool : TypeId := 78
abbrev t_sl_api_Program : TypeId := 79
abbrev t_func_api_Program_int : TypeId := 80
abbrev t_sl_int : TypeId := 81
abbrev t_api_Program_int_int : TypeId := 82
abbrev t_func_sl_uint8_api_Program_int_int : TypeId := 83
abbrev t_func_func_int_api_Program_bool : TypeId := 84
abbrev t_iter_Seq2_int_linesman_api_Program : TypeId := 85
abbrev t_func_sl_uint8_iter_Seq2_int_linesman_api_Program : TypeId := 86
abbrev t_func_sl_api_Program_sl_uint8_int_bool : TypeId := 87
abbrev t_struct_api_Program_frames_sl_api_Frame_result_uint32_made_ : TypeId := 88
abbrev t_stack_Stack : TypeId := 89
abbrev t_func_func_int_api_Frame_bool : TypeId := 90
abbrev t_iter_Seq2_int_linesman_api_Frame : TypeId := 91
abbrev t_func_iter_Seq2_int_linesman_api_Frame : TypeId := 92
abbrev t_func_api_Program : TypeId := 93
abbrev t_func_int_uint32 : TypeId := 94
abbrev t_func_uint32 : TypeId := 95
abbrev t_func_linesmanlaw12_Act_bool_bool : TypeId := 96
abbrev t_struct_Program_api_Program_Frames_int_Func_int_Args_sl_uin : TypeId := 97
abbrev t_linesmanlaw17_Start : TypeId := 98
abbrev t_func_linesmanlaw17_Start_bool : TypeId := 99
abbrev t_ptr_fiber_Fiber : TypeId := 100
abbrev t_ptr_fiber_Fiber_api_Errno : TypeId := 101
abbrev t_func_api_Program_int_int_uint32_ptr_fiber_Fiber_api_Errno : TypeId := 102
abbrev t_func_ptr_fiber_Fiber : TypeId := 103
abbrev t_api_EvKind : TypeId := 104
abbrev t_api_Trap : TypeId := 105
abbrev t_struct_Kind_api_EvKind_Site_api_Site_Addr_uint32_Word_uint : TypeId := 106
abbrev t_api_Want : TypeId := 107
abbrev t_api_Want_bool : TypeId := 108
abbrev t_func_api_Want_bool : TypeId := 109
abbrev t_func_api_Want_api_Want_bool : TypeId := 110
abbrev t_func_uint32_api_Errno : TypeId := 111
abbrev t_func_linesmanlaw17_Start_sl_uint32_bool : TypeId := 112
abbrev t_struct_ptr_stack_Stack : TypeId := 113
abbrev t_fiber_tower : TypeId := 114
abbrev t_struct_fiber_tower_frames_int : TypeId := 115
abbrev t_fiber_Fiber : TypeId := 116
abbrev t_func_int_int_api_Errno : TypeId := 117
abbrev t_func_func_int_api_Want_bool : TypeId := 118
abbrev t_iter_Seq2_int_linesman_api_Want : TypeId := 119
abbrev t_func_ptr_fiber_Fiber_int_iter_Seq2_int_linesman_api_Want : TypeId := 120
abbrev t_func_api_Want_api_Want_bool_bool : TypeId := 121
abbrev t_func_api_Program_api_Errno : TypeId := 122
abbrev t_func_api_Program_api_Program : TypeId := 123
abbrev t_struct_Func_int_Pc_int_Dest_int_Regs_sl_uint32 : TypeId := 124
abbrev t_api_Frame : TypeId := 125
abbrev t_func_int_int_int_uint32_api_Frame : TypeId := 126
abbrev t_func_int_sl_uint32_sl_uint32 : TypeId := 127
abbrev t_func_api_Frame_api_Frame_bool : TypeId := 128
abbrev t_func_uint64_int_sl_uint8_int : TypeId := 129
abbrev t_uint64 : TypeId := 130
abbrev t_func_sl_uint8_uint64 : TypeId := 131
abbrev t_api_Program_int_api_Errno : TypeId := 132
abbrev t_func_sl_uint8_api_Program_int_api_Errno : TypeId := 133
abbrev t_ptr_image_writer : TypeId := 134
abbrev t_struct_out_sl_uint8 : TypeId := 135
abbrev t_image_writer : TypeId := 136
abbrev t_4_uint8 : TypeId := 137
abbrev t_func_4_uint8 : TypeId := 138
abbrev t_func_int_2 : TypeId := 139
abbrev t_func_func_int_int : TypeId := 140
abbrev t_func_uint64_int : TypeId := 141
abbrev t_func_api_Ins_sl_uint8_api_Errno : TypeId := 142
abbrev t_func_sl_uint8_uint64_2 : TypeId := 143
abbrev t_func_api_Program_sl_uint8 : TypeId := 144
abbrev t_api_Site_bool : TypeId := 145
abbrev t_func_api_Program_api_Site_bool : TypeId := 146
abbrev t_func_sl_api_Frame_func_api_Frame_api_Frame_sl_api_Frame : TypeId := 147
abbrev t_func_api_Frame_api_Frame : TypeId := 148
abbrev t_func_ptr_api_Errno : TypeId := 149
abbrev t_ptr_api_Errno : TypeId := 150
abbrev t_func_bool_api_Errno : TypeId := 151
abbrev t_func_api_Ins : TypeId := 152
abbrev t_func_api_Ins_int : TypeId := 153
abbrev t_ptr_api_Frame : TypeId := 154
abbrev t_func_ptr_api_Frame : TypeId := 155
abbrev t_func_ptr_stack_Stack_api_Ins : TypeId := 156
abbrev t_map_api_Op_func_ptr_stack_Stack_api_Ins : TypeId := 157
abbrev t_func_map_api_Op_func_ptr_stack_Stack_api_Ins : TypeId := 158
abbrev t_func_api_Ins_bool : TypeId := 159
abbrev t_func_sl_api_Frame_sl_api_Frame_func_api_Frame_api_Frame_bo : TypeId := 160
abbrev t_struct_B_sl_uint8_At_int_Bad_int : TypeId := 161
abbrev t_linesmanref10_Reader : TypeId := 162
abbrev t_linesmanref10_Reader_api_Program : TypeId := 163
abbrev t_func_linesmanref10_Reader_api_Program : TypeId := 164
abbrev t_func_int_api_Program_bool : TypeId := 165
abbrev t_func_int_api_Frame_bool : TypeId := 166
abbrev t_func_sl_api_Frame_iter_Seq2_int_linesman_api_Frame : TypeId := 167
abbrev t_func_ptr_fiber_Fiber_api_Ins_ptr_api_Want : TypeId := 168
abbrev t_func_ptr_fiber_Fiber_api_Ins_ptr_api_Want_bool : TypeId := 169
abbrev t_map_api_Op_func_ptr_fiber_Fiber_api_Ins_ptr_api_Want : TypeId := 170
abbrev t_func_map_api_Op_func_ptr_fiber_Fiber_api_Ins_ptr_api_Want : TypeId := 171
abbrev t_func_api_Ins_ptr_api_Want : TypeId := 172
abbrev t_ptr_api_Want : TypeId := 173
abbrev t_func_sl_uint32_sl_uint32_bool : TypeId := 174
abbrev t_func_int_api_Want_bool : TypeId := 175
abbrev t_func_sl_api_Func_sl_api_Func : TypeId := 176
abbrev t_func_sl_api_Ins_sl_api_Ins : TypeId := 177
abbrev t_func_int_bool : TypeId := 178
abbrev t_func_ptr_api_Errno_func : TypeId := 179
abbrev t_ptr_image_reader : TypeId := 180
abbrev t_struct_bytes_sl_uint8 : TypeId := 181
abbrev t_image_tape : TypeId := 182
abbrev t_struct_image_tape_at_int : TypeId := 183
abbrev t_image_reader : TypeId := 184
abbrev t_func_uint64_int_sl_uint8_api_Errno : TypeId := 185
abbrev t_func_api_Ins_api_Errno : TypeId := 186
abbrev t_sl_instr_part : TypeId := 187
abbrev t_func_api_Op_sl_instr_part : TypeId := 188
abbrev t_func_api_Ins_uint64 : TypeId := 189
abbrev t_func_ptr_api_Ins_uint64 : TypeId := 190
abbrev t_struct_wide_int_mark_string_get_func_api_Ins_uint64_put_fu : TypeId := 191
abbrev t_instr_part : TypeId := 192
abbrev t_sl_sl_uint8 : TypeId := 193
abbrev t_ptr_digest_Digest : TypeId := 194
abbrev t_func_ptr_digest_Digest : TypeId := 195
abbrev t_func_sl_uint8_api_Errno : TypeId := 196
abbrev t_func_uint64 : TypeId := 197
abbrev t_func_api_Ins_sl_uint8 : TypeId := 198
abbrev t_func_api_Program_int_int_bool : TypeId := 199
abbrev t_func_sl_api_Frame_sl_api_Frame : TypeId := 200
abbrev t_func_sl_uint32_sl_uint32 : TypeId := 201
abbrev t_api_Errno_bool : TypeId := 202
abbrev t_uint32_api_Errno : TypeId := 203
abbrev t_func_api_Arith_uint32_uint32_uint32_api_Errno : TypeId := 204
abbrev t_api_Arith : TypeId := 205
abbrev t_func_api_Ins_2 : TypeId := 206
abbrev t_func_api_Op_api_Op_bool : TypeId := 207
abbrev t_func_sl_api_Func_sl_api_Func_func_api_Func_api_Func_bool_b : TypeId := 208
abbrev t_func_sl_api_Ins_sl_api_Ins_bool : TypeId := 209
abbrev t_func_api_Func_api_Func_bool : TypeId := 210
abbrev t_3_int : TypeId := 211
abbrev t_linesmanref10_Reader_int : TypeId := 212
abbrev t_func_int_linesmanref10_Reader_int : TypeId := 213
abbrev t_linesmanref10_Reader_api_Ins : TypeId := 214
abbrev t_func_linesmanref10_Reader_api_Ins : TypeId := 215
abbrev t_struct_n_int_least_int_most_int : TypeId := 216
abbrev t_program_bound : TypeId := 217
abbrev t_sl_program_bound : TypeId := 218
abbrev t_func_program_bound_bool : TypeId := 219
abbrev t_func_func_api_Site_program_place_bool : TypeId := 220
abbrev t_iter_Seq2_linesman_api_Site_linesman_program_place : TypeId := 221
abbrev t_func_api_Program_iter_Seq2_linesman_api_Site_linesman_prog : TypeId := 222
abbrev t_struct_api_Func_p_api_Program_pc_int : TypeId := 223
abbrev t_program_place : TypeId := 224
abbrev t_func_int_uint64 : TypeId := 225
abbrev t_func_instr_part : TypeId := 226
abbrev t_func_string_instr_part : TypeId := 227
abbrev t_map_api_Op_sl_instr_part : TypeId := 228
abbrev t_256_uint64 : TypeId := 229
abbrev t_digest_table : TypeId := 230
abbrev t_struct_digest_table_sum_uint64_many_int_made_bool : TypeId := 231
abbrev t_digest_Digest : TypeId := 232
abbrev t_func_uint64_sl_uint8_func_uint64_uint8_uint64_uint64 : TypeId := 233
abbrev t_func_uint64_uint8_uint64 : TypeId := 234
abbrev t_func_int_uint8_bool : TypeId := 235
abbrev t_func_api_Ins_int_2 : TypeId := 236
abbrev t_func_arith_pair_uint32 : TypeId := 237
abbrev t_func_arith_pair_uint32_bool : TypeId := 238
abbrev t_map_api_Arith_func_arith_pair_uint32 : TypeId := 239
abbrev t_func_map_api_Arith_func_arith_pair_uint32 : TypeId := 240
abbrev t_arith_word : TypeId := 241
abbrev t_struct_arith_word_by_uint32 : TypeId := 242
abbrev t_arith_pair : TypeId := 243
abbrev t_func_api_Op_bool : TypeId := 244
abbrev t_ptr_api_Ins : TypeId := 245
abbrev t_string_api_Errno : TypeId := 246
abbrev t_func_api_Arith_string_api_Errno : TypeId := 247
abbrev t_sl_api_Op : TypeId := 248
abbrev t_func_sl_api_Op_api_Op_bool : TypeId := 249
abbrev t_uint64_int : TypeId := 250
abbrev t_func_sl_uint8_int_uint64_int : TypeId := 251
abbrev t_api_Ins_int_int : TypeId := 252
abbrev t_func_sl_uint8_api_Ins_int_int : TypeId := 253
abbrev t_func_int_int_func_int_uint32_sl_uint32 : TypeId := 254
abbrev t_func_uint32_int64 : TypeId := 255
abbrev t_8_api_EvKind : TypeId := 256
abbrev t_func_8_api_EvKind : TypeId := 257
abbrev t_func_func_program_bound_bool_program_bound_bool : TypeId := 258
abbrev t_func_program_bound_bool_2 : TypeId := 259
abbrev t_func_api_Site_program_place_bool : TypeId := 260
abbrev t_4_func_bool : TypeId := 261
abbrev t_uint64_api_Errno : TypeId := 262
abbrev t_func_sl_uint8_int_uint64_api_Errno : TypeId := 263
abbrev t_func_int_sl_uint8 : TypeId := 264
abbrev t_api_Ins_int_api_Errno : TypeId := 265
abbrev t_func_sl_uint8_api_Ins_int_api_Errno : TypeId := 266
abbrev t_4_int : TypeId := 267
abbrev t_func_4_int : TypeId := 268
abbrev t_func_int_int_bool : TypeId := 269
abbrev t_ptr_digest_table : TypeId := 270
abbrev t_uint : TypeId := 271
abbrev t_func_func_uint8_bool : TypeId := 272
abbrev t_iter_Seq_uint8 : TypeId := 273
abbrev t_func_sl_uint8_iter_Seq_uint8 : TypeId := 274
abbrev t_func_int_string : TypeId := 275
abbrev t_func_int_bool_bool : TypeId := 276
abbrev t_func_bool_uint32 : TypeId := 277
abbrev t_func_func_api_Arith_string_bool : TypeId := 278
abbrev t_iter_Seq2_linesman_api_Arith_string : TypeId := 279
abbrev t_func_iter_Seq2_linesman_api_Arith_string : TypeId := 280
abbrev t_func_sl_api_Op_api_Op_int : TypeId := 281
abbrev t_func_int64 : TypeId := 282
abbrev t_func_sl_program_bound_func_program_bound_bool_bool : TypeId := 283
abbrev t_ptr_instr_reader : TypeId := 284
abbrev t_struct_bytes_sl_uint8_2 : TypeId := 285
abbrev t_instr_tape : TypeId := 286
abbrev t_struct_instr_tape_at_int : TypeId := 287
abbrev t_instr_reader : TypeId := 288
abbrev t_func_sl_int_int_bool : TypeId := 289
abbrev t_func_uint8_bool : TypeId := 290
abbrev t_sl_string : TypeId := 291
abbrev t_func_api_Arith_string_bool : TypeId := 292
abbrev t_12_string : TypeId := 293
abbrev t_func_12_string : TypeId := 294
abbrev t_func_sl_program_bound_func_program_bound_bool_int : TypeId := 295
abbrev t_func_int_int_bool_2 : TypeId := 296
abbrev t_func_sl_int_int_int : TypeId := 297
abbrev t_func_string : TypeId := 298
abbrev t_struct_interface_ptr_abi_Type_concrete_ptr_abi_Type_assert : TypeId := 299
abbrev t_runtime_TypeAssertionError : TypeId := 300
abbrev t_0_ptr_runtime_PanicNilError : TypeId := 301
abbrev t_struct_0_ptr_runtime_PanicNilError : TypeId := 302
abbrev t_runtime_PanicNilError : TypeId := 303
abbrev t_abi_TFlag : TypeId := 304
abbrev t_abi_Kind : TypeId := 305
abbrev t_func_unsafe_Pointer_unsafe_Pointer_bool : TypeId := 306
abbrev t_ptr_uint8 : TypeId := 307
abbrev t_abi_NameOff : TypeId := 308
abbrev t_abi_TypeOff : TypeId := 309
abbrev t_struct_Size_uintptr_PtrBytes_uintptr_Hash_uint32_TFlag_abi : TypeId := 310
abbrev t_abi_Type : TypeId := 311
abbrev t_unsafe_Pointer : TypeId := 312
end T
end Go.Proofs.YtkkkcafkepnecaaGreat

/-! From an argument's reading to what the walks hold of memory, and back to a row's end. -/
set_option linter.unusedVariables false
set_option linter.unusedSimpArgs false
namespace Go.Proofs.YtkkkcafkepnecaaGreat.Vc
open Go Go.RowKit Go.ChangeShapes Go.WideShapes

/-- All blocks of a world. -/
def blocks (W : World) : Hp := (List.range W.heap.size).map fun b => (b, W.heap.getD b (.cells #[] 0))
theorem mem_blocks {W : World} {b : Nat} {o : Obj} : (b, o) ∈ blocks W ↔ W.heap[b]? = some o := by
  simp only [blocks, List.mem_map, List.mem_range, Prod.mk.injEq]
  constructor
  · rintro ⟨a, ha, rfl, rfl⟩
    simp [ha]
  · intro h
    obtain ⟨hb, he⟩ := Array.getElem?_eq_some_iff.1 h
    exact ⟨b, hb, rfl, by simp [hb, he]⟩
theorem ow_blocks (W : World) : Ow W W (blocks W) where
  os := rfl
  tape := rfl
  output := rfl
  mem := fun b o h => mem_blocks.1 h
  nd := by
    have : (blocks W).map Prod.fst = List.range W.heap.size := by
      simp only [blocks, List.map_map]
      exact List.map_id _
    rw [this]; exact List.nodup_range
theorem below_of {W W' : World} (h : Ow W W' (blocks W)) : Below W.heap.size W W' where
  os := h.os
  tape := h.tape
  output := h.output
  size := by
    by_cases h0 : W.heap.size = 0
    · omega
    · have := h.lt (b := W.heap.size - 1) (mem_blocks.2 (by rw [Array.getElem?_eq_getElem (by omega)]))
      omega
  block := fun k hk => by
    rw [h.mem k W.heap[k] (mem_blocks.2 (by simp [hk]))]
    simp [hk]
theorem cell_blocks {W : World} {p : Addr} {v : Value} (h : W.cell? p = some v) : Cell (blocks W) p v := by
  unfold World.cell? at h
  split at h
  · rename_i c e fz hb
    split at h
    · cases h
    · rename_i hs
      exact ⟨c, e, fz, mem_blocks.2 hb, by simpa using hs, h⟩
  · cases h

/-! ### What lies at a type -/
inductive Fit (P : Program) (H : Hp) : TypeId → List Value → Prop
  | int {t : TypeId} {k : IntKind} {n : Int} : P.underlying t = some (.int k) → (Lit.int k n).wf = true → Fit P H t [.int k n]
  | bool {t : TypeId} {b : Bool} : P.underlying t = some .bool → Fit P H t [.bool b]
  | str {t : TypeId} {s : ByteArray} : P.underlying t = some .string → s.size ≤ maxLen → Fit P H t [.string s]
  | nil {t e : TypeId} : P.underlying t = some (.slice e) → Fit P H t [.slice none 0 0]
  | slice {t e : TypeId} {a : Addr} {len cap : Nat} (g : Nat → List Value) : P.underlying t = some (.slice e) → len ≤ cap → cap ≤ maxLen → (∀ i, i < len → (g i).length = P.cellsOf e) →
      (∀ i, i < len → ∀ j x, (g i)[j]? = some x → Cell H (a.add (i * P.cellsOf e + j)) x) → (∀ i, i < len → Fit P H e (g i)) → Fit P H t [.slice (some a) len cap]
  | struct {t : TypeId} {fs : Array Field} {cs : List Value} : P.underlying t = some (.struct fs) → cs.length = P.cellsOf t →
      (∀ (i : Nat) (f : Field), fs[i]? = some f → Fit P H f.type ((cs.drop f.offset).take (P.cellsOf f.type))) → Fit P H t cs
  | array {t e : TypeId} {n : Nat} {cs : List Value} : P.underlying t = some (.array n e) → cs.length = P.cellsOf t →
      (∀ i, i < n → Fit P H e ((cs.drop (i * P.cellsOf e)).take (P.cellsOf e))) → Fit P H t cs
def dataB (P : Program) : Nat → TypeId → Bool
  | 0, _ => false
  | n + 1, t => match P.underlying t with
    | some (.int _) => true
    | some .bool => true
    | some .string => true
    | some (.slice e) => dataB P n e
    | some (.struct fs) => fs.toList.all fun f => dataB P n f.type
    | some (.array _ e) => dataB P n e
    | _ => false

section
variable {H : Type} {enc : TypeId × Value → H} {P : Program} {w : World} {spare : Nat → Bool} {held : Bool}
theorem fit_of : ∀ (m fuel : Nat) (t : TypeId) (cs : List Value) (x : DataW H × List MemPlace), dataB P m t = true → DataW.trod enc P w 0 spare held fuel t cs = some x → Fit P (blocks w) t cs
  | 0, _, _, _, _, h, _ => by cases h
  | m + 1, fuel, t, cs, x, h, hx => by
    unfold dataB at h
    split at h
    · rename_i k ht
      obtain ⟨n, rfl, _, hw⟩ := DataW.trod_int ht hx
      exact .int ht hw
    · rename_i ht
      obtain ⟨b, rfl, _⟩ := DataW.trod_bool ht hx
      exact .bool ht
    · rename_i ht
      obtain ⟨s, rfl, _, hs⟩ := DataW.trod_string ht hx
      exact .str ht hs
    · rename_i e ht
      rcases DataW.trod_slice ht hx with ⟨rfl, _⟩ | ⟨a, len, cap, elems, rest, n, _, rfl, rfl, hb, hl, hm, hlen, hel, hsp, hns⟩
      · exact .nil ht
      · have each : ∀ i, i < len → ∃ cs', w.cells? 0 (a.add (i * P.cellsOf e)) (P.cellsOf e) = some cs' ∧ ∃ y, DataW.trod enc P w 0 spare held n e cs' = some y := by
          intro i hi
          have h1 := hel i hi
          rw [List.getElem?_eq_getElem (by omega)] at h1
          obtain ⟨cs', h2, h3⟩ := Option.bind_eq_some_iff.1 h1
          exact ⟨cs', h2, _, h3⟩
        obtain ⟨g, hg⟩ := Go.Deep.choose_lt each
        refine .slice g ht hl hm (fun i hi => ((World.cells?_some (hg i hi).1).2.1)) (fun i hi j v hj => ?_) (fun i hi => ?_)
        · have := (World.cells?_some (hg i hi).1).2.2 j (by have := (World.cells?_some (hg i hi).1).2.1; have := (List.getElem?_eq_some_iff.1 hj).1; omega)
          rw [Go.Deep.add_add] at this
          rw [hj] at this
          exact cell_blocks this
        · obtain ⟨y, hy⟩ := (hg i hi).2
          exact fit_of m _ _ _ _ h hy
    · rename_i fs ht
      obtain ⟨xs, n, _, _, hl, hxl, hf⟩ := DataW.trod_struct ht hx
      refine .struct ht hl fun i f hif => ?_
      have h1 := hf i f hif
      have hi : i < fs.size := (Array.getElem?_eq_some_iff.1 hif).1
      rw [List.getElem?_eq_getElem (by omega)] at h1
      refine fit_of m _ _ _ _ (List.all_eq_true.1 h f ?_) h1
      obtain ⟨_, rfl⟩ := Array.getElem?_eq_some_iff.1 hif
      simp
    · rename_i n e ht
      obtain ⟨xs, q, _, _, hl, hxl, hf⟩ := DataW.trod_array ht hx
      refine .array ht hl fun i hi => ?_
      have h1 := hf i hi
      rw [List.getElem?_eq_getElem (by omega)] at h1
      exact fit_of m _ _ _ _ h h1
    · cases h
/-- An argument: outer form and inner one. -/
def FitV (P : Program) (H : Hp) (t : TypeId) (v : Value) : Prop := Fit P H t v.cells.toList ∧ match P.underlying t with
  | some (.struct _) | some (.array _ _) => ∃ cs : List Value, v = .agg cs.toArray
  | _ => plainV v = true
theorem fitV_of {t : TypeId} {v : Value} {d : DataW H} {ps : List MemPlace} {b0 : Nat} (m : Nat) (hd : dataB P m t = true) (hv : Value.okWide P w .any b0 t v) (h : DataW.Trod enc P w 0 spare held t v d ps) : FitV P (blocks w) t v := by
  obtain ⟨fuel, h⟩ := h
  refine ⟨fit_of m _ _ _ _ hd h, ?_⟩
  split
  · rename_i fs ht
    simp only [Value.okWide, ht] at hv
    obtain ⟨cs, rfl, _⟩ := hv
    exact ⟨cs.toList, by simp⟩
  · rename_i n e ht
    simp only [Value.okWide, ht] at hv
    obtain ⟨cs, rfl, _⟩ := hv
    exact ⟨cs.toList, by simp⟩
  · rename_i hns hna
    cases m with
    | zero => cases hd
    | succ m =>
    unfold dataB at hd
    split at hd
    · rename_i k ht; obtain ⟨n, rfl⟩ := okWide_int ht hv; rfl
    · rename_i ht; obtain ⟨n, rfl⟩ := okWide_bool ht hv; rfl
    · rename_i ht; obtain ⟨n, rfl⟩ := okWide_string ht hv; rfl
    · rename_i e ht; obtain ⟨a, l, c, rfl⟩ := okWide_slice ht hv; rfl
    · rename_i fs ht; exact absurd ht (hns _)
    · rename_i n e ht; exact absurd ht (hna _ _)
    · cases hd
end

section
variable {P : Program} {H : Hp} {t : TypeId} {v : Value}
theorem plain_cells {v : Value} (h : plainV v = true) : v.cells = #[v] := by cases v <;> first | rfl | cases h
theorem Fit.of_int {k : IntKind} {cs : List Value} (ht : P.underlying t = some (.int k)) (h : Fit P H t cs) : ∃ n, cs = [.int k n] ∧ (Lit.int k n).wf = true := by
  cases h <;> simp_all
theorem Fit.of_bool {cs : List Value} (ht : P.underlying t = some .bool) (h : Fit P H t cs) : ∃ b, cs = [.bool b] := by
  cases h <;> simp_all
theorem Fit.of_str {cs : List Value} (ht : P.underlying t = some .string) (h : Fit P H t cs) : ∃ s, cs = [.string s] ∧ s.size ≤ maxLen := by
  cases h <;> simp_all
theorem Fit.of_struct {fs : Array Field} {cs : List Value} (ht : P.underlying t = some (.struct fs)) (h : Fit P H t cs) : cs.length = P.cellsOf t ∧ ∀ (i : Nat) (f : Field), fs[i]? = some f → Fit P H f.type ((cs.drop f.offset).take (P.cellsOf f.type)) := by
  cases h with
  | struct h1 h2 h3 => rw [ht] at h1; cases h1; exact ⟨h2, h3⟩
  | _ => simp_all
theorem Fit.of_array {n : Nat} {e : TypeId} {cs : List Value} (ht : P.underlying t = some (.array n e)) (h : Fit P H t cs) : cs.length = P.cellsOf t ∧ ∀ i, i < n → Fit P H e ((cs.drop (i * P.cellsOf e)).take (P.cellsOf e)) := by
  cases h with
  | array h1 h2 h3 => rw [ht] at h1; cases h1; exact ⟨h2, h3⟩
  | _ => simp_all
/-- A slice that is read, of elements of some cells. -/
def Sls (H : Hp) (v : Value) (size : Nat) (xs : List (List Value)) : Prop :=
  ∃ a cap, v = .slice a xs.length cap ∧ xs.length ≤ cap ∧ cap ≤ maxLen ∧ (∀ x ∈ xs, x.length = size) ∧ ∀ i x, xs[i]? = some x → ∃ p, a = some p ∧ ∀ j y, x[j]? = some y → Cell H (p.add (i * size + j)) y
theorem Fit.of_slice {e : TypeId} {cs : List Value} (ht : P.underlying t = some (.slice e)) (h : Fit P H t cs) : ∃ v xs, cs = [v] ∧ Sls H v (P.cellsOf e) xs ∧ (∀ x ∈ xs, Fit P H e x) := by
  cases h with
  | nil h1 => exact ⟨_, [], rfl, ⟨none, 0, rfl, Nat.zero_le _, Nat.zero_le _, by simp, by simp⟩, by simp⟩
  | @slice _ e' a len cap g h1 h2 h3 h4 h5 h6 =>
    rw [ht] at h1; cases h1
    refine ⟨_, (List.range len).map g, rfl, ⟨some a, cap, by simp, by simpa using h2, h3, ?_, fun i x hx => ⟨a, rfl, ?_⟩⟩, ?_⟩
    · intro x hx
      obtain ⟨i, hi, rfl⟩ := List.mem_map.1 hx
      exact h4 i (List.mem_range.1 hi)
    · simp only [List.getElem?_map, Option.map_eq_some_iff] at hx
      obtain ⟨i', hi', rfl⟩ := hx
      obtain ⟨hlt, rfl⟩ := List.getElem?_eq_some_iff.1 hi'
      simp only [List.length_range] at hlt
      simpa using h5 i hlt
    · intro x hx
      obtain ⟨i, hi, rfl⟩ := List.mem_map.1 hx
      exact h6 i (List.mem_range.1 hi)
  | _ h1 => rw [ht] at h1; cases h1
theorem FitV.cells1 {x : Value} (hp : plainV v = true) (h : v.cells.toList = [x]) : v = x := by
  rw [plain_cells hp] at h; simpa using h
theorem FitV.int {k : IntKind} (ht : P.underlying t = some (.int k)) (h : FitV P H t v) : ∃ n, v = .int k n ∧ (Lit.int k n).wf = true := by
  obtain ⟨h1, h2⟩ := h
  rw [ht] at h2
  obtain ⟨n, hc, hw⟩ := h1.of_int ht
  exact ⟨n, FitV.cells1 h2 hc, hw⟩
theorem FitV.bool (ht : P.underlying t = some .bool) (h : FitV P H t v) : ∃ b, v = .bool b := by
  obtain ⟨h1, h2⟩ := h
  rw [ht] at h2
  obtain ⟨n, hc⟩ := h1.of_bool ht
  exact ⟨n, FitV.cells1 h2 hc⟩
theorem FitV.str (ht : P.underlying t = some .string) (h : FitV P H t v) : ∃ s, v = .string s ∧ s.size ≤ maxLen := by
  obtain ⟨h1, h2⟩ := h
  rw [ht] at h2
  obtain ⟨n, hc, hw⟩ := h1.of_str ht
  exact ⟨n, FitV.cells1 h2 hc, hw⟩
theorem FitV.slice {e : TypeId} (ht : P.underlying t = some (.slice e)) (h : FitV P H t v) : ∃ xs, Sls H v (P.cellsOf e) xs ∧ ∀ x ∈ xs, Fit P H e x := by
  obtain ⟨h1, h2⟩ := h
  rw [ht] at h2
  obtain ⟨n, xs, hc, hw⟩ := h1.of_slice ht
  cases FitV.cells1 h2 hc
  exact ⟨xs, hw⟩
theorem FitV.struct {fs : Array Field} (ht : P.underlying t = some (.struct fs)) (h : FitV P H t v) : ∃ cs : List Value, v = .agg cs.toArray ∧ Fit P H t cs := by
  obtain ⟨h1, h2⟩ := h
  rw [ht] at h2
  obtain ⟨cs, rfl⟩ := h2
  exact ⟨cs, rfl, by simpa [Value.cells] using h1⟩
theorem FitV.array {n : Nat} {e : TypeId} (ht : P.underlying t = some (.array n e)) (h : FitV P H t v) : ∃ cs : List Value, v = .agg cs.toArray ∧ Fit P H t cs := by
  obtain ⟨h1, h2⟩ := h
  rw [ht] at h2
  obtain ⟨cs, rfl⟩ := h2
  exact ⟨cs, rfl, by simpa [Value.cells] using h1⟩
/-- Of numbers. -/
theorem FitV.ints {e : TypeId} {k : IntKind} (ht : P.underlying t = some (.slice e)) (he : P.underlying e = some (.int k)) (hc : P.cellsOf e = 1) (h : FitV P H t v) :
    ∃ xs : List Int, Sl H v (xs.map (.int k ·)) ∧ xs.length ≤ maxLen ∧ ∀ x ∈ xs, (Lit.int k x).wf = true := by
  obtain ⟨ys, ⟨a, cap, rfl, h1, h2, h3, h4⟩, hf⟩ := h.slice ht
  have hy : ∀ y ∈ ys, ∃ n, y = [.int k n] ∧ (Lit.int k n).wf = true := fun y hy => (hf y hy).of_int he
  let nm : List Value → Int := fun y => match y with | [.int _ n] => n | _ => 0
  have e1 : ∀ y ∈ ys, y = [.int k (nm y)] ∧ (Lit.int k (nm y)).wf = true := fun y hm => by
    obtain ⟨n, rfl, hw⟩ := hy y hm
    exact ⟨rfl, hw⟩
  refine ⟨ys.map nm, ⟨a, cap, by simp, by simpa using h1, fun i x hx => ?_⟩, by simpa using Nat.le_trans h1 h2, ?_⟩
  · simp only [List.map_map, List.getElem?_map, Option.map_eq_some_iff] at hx
    obtain ⟨y, hy, rfl⟩ := hx
    obtain ⟨p, hp, hcell⟩ := h4 i y hy
    refine ⟨p, hp, ?_⟩
    have := hcell 0 (.int k (nm y)) (by rw [(e1 y (List.mem_of_getElem? hy)).1]; rfl)
    rw [hc] at this
    simpa using this
  · intro x hx
    obtain ⟨y, hy, rfl⟩ := List.mem_map.1 hx
    exact (e1 y hy).2
end

/-- A walk's end as a row wants it. -/
theorem calls_of {P : Program} {f : FuncId} {args : List Value} {W : World} {as_ : Array Value} (ha : as_ = args.toArray)
    (h : ∀ (K : Value → World → Prop) (PK : List PanicEntry → World → Prop), (∀ w', Ow W w' (blocks W) → K (.bool true) w') → callW P f args K PK W) :
    Calls P f as_ W fun e W' => e = .returned (.bool true) ∧ Below W.heap.size W W' := by
  subst ha
  refine Calls.mono (h (fun v w' => v = .bool true ∧ Ow W w' (blocks W)) (fun _ _ => False) fun w' h' => ⟨rfl, h'⟩) fun e w' he => ?_
  cases e with
  | returned v => obtain ⟨rfl, ho⟩ := he; exact ⟨rfl, below_of ho⟩
  | panicked ch => exact he.elim
  | outgrown => exact he.elim
end Go.Proofs.YtkkkcafkepnecaaGreat.Vc

/-! Slices of structs that are read. -/
set_option linter.unusedVariables false
set_option linter.unusedSimpArgs false
namespace Go.Proofs.YtkkkcafkepnecaaGreat.Vc
open Go Go.RowKit
section
variable {P : Program} {B w : World} {H : Hp} {K : Value → Prop} {Q : World → Prop} {s : Value} {size : Nat} {xs : List (List Value)} {x : List Value} {n : Int} {kd : IntKind}
theorem Sls.mono {H' : Hp} (h : Sls H s size xs) (hs : ∀ x, x ∈ H → x ∈ H') : Sls H' s size xs := by
  obtain ⟨a, cap, hv, h1, h2, h3, h4⟩ := h
  exact ⟨a, cap, hv, h1, h2, h3, fun i x hx => let ⟨p, hp, hc⟩ := h4 i x hx; ⟨p, hp, fun j y hy => (hc j y hy).mono hs⟩⟩
theorem sls_ln {K : Value → Prop} (hs : Sls H s size xs) (k : K (vI xs.length)) : lnS s K := by
  obtain ⟨a, cap, rfl, _⟩ := hs
  exact k
theorem Sls.max (hs : Sls H s size xs) : xs.length ≤ maxLen := by
  obtain ⟨a, cap, rfl, h1, h2, _⟩ := hs
  omega
theorem sls_rd (hs : Sls H s size xs) (h0 : 0 ≤ n) (hv : xs[n.toNat]? = some x) : ∃ p : Addr, (∀ {K : Value → Prop}, K (.pointer (some p)) → ixS size s (.int kd n) K) ∧ ∀ w, Ow B w H → rdW (some size) (.pointer (some p)) w (.agg x.toArray) := by
  obtain ⟨a, cap, rfl, h1, h2, h3, h4⟩ := hs
  obtain ⟨p, rfl, hc⟩ := h4 _ _ hv
  have hlt := (List.getElem?_eq_some_iff.1 hv).1
  refine ⟨p.add (n.toNat * size), fun k => ixS_rule h0 (by omega) k, fun w hw => ⟨_, x, rfl, h3 x (List.mem_of_getElem? hv), fun i u hu => ?_, rfl⟩⟩
  rw [Go.Deep.add_add]
  exact hw.cell (hc i u hu)
theorem sls_lds (h : ∀ w, Q w → Ow B w H) (hs : Sls H s size xs) (h0 : 0 ≤ n) (hv : xs[n.toNat]? = some x) (k : K (.agg x.toArray)) : ixS size s (.int kd n) fun p => ldS (some size) p Q K := by
  obtain ⟨p, h1, h2⟩ := sls_rd (B := B) (kd := kd) hs h0 hv
  exact h1 ⟨_, fun w hw => h2 w (h w hw), k⟩
theorem sls_ld (h : Ow B w H) (hs : Sls H s size xs) (h0 : 0 ≤ n) (hv : xs[n.toNat]? = some x) (k : K (.agg x.toArray)) : ixS size s (.int kd n) fun p => ldW (some size) p w K := by
  obtain ⟨p, h1, h2⟩ := sls_rd (B := B) (kd := kd) hs h0 hv
  exact h1 ⟨_, h2 w h, k⟩
end
section
variable {P : Program} {H : Hp} {t : TypeId} {cs : List Value} {v : Value}
/-- A field: its type, its place, how many cells. -/
def fieldB (P : Program) (t : TypeId) (i : Nat) : Option (TypeId × Nat × Nat) := match P.underlying t with
  | some (.struct fs) => (fs[i]?).map fun f => (f.type, f.offset, P.cellsOf f.type)
  | _ => none
theorem Fit.field {i : Nat} {T : TypeId} {off n : Nat} (h : Fit P H t cs) (he : fieldB P t i = some (T, off, n)) : Fit P H T ((cs.drop off).take n) := by
  unfold fieldB at he
  split at he
  · rename_i fs ht
    obtain ⟨f, hf, hq⟩ := Option.map_eq_some_iff.1 he
    simp only [Prod.mk.injEq] at hq
    obtain ⟨rfl, rfl, rfl⟩ := hq
    exact (h.of_struct ht).2 i f hf
  · cases he
theorem Fit.len {n : Nat} (h : Fit P H t cs) (ha : agT P t = true) (hn : P.cellsOf t = n) : cs.length = n := by
  subst hn
  unfold agT at ha
  split at ha
  · rename_i fs ht; exact (h.of_struct ht).1
  · rename_i m e ht; exact (h.of_array ht).1
  · cases ha
theorem FitV.agg (h : FitV P H t v) (ha : agT P t = true) : ∃ cs : List Value, v = .agg cs.toArray ∧ Fit P H t cs := by
  unfold agT at ha
  split at ha
  · rename_i fs ht; exact h.struct ht
  · rename_i m e ht; exact h.array ht
  · cases ha
end
end Go.Proofs.YtkkkcafkepnecaaGreat.Vc

/-! What is handed in, and how large it is at most. -/
set_option linter.unusedVariables false
set_option linter.unusedSimpArgs false
namespace Go.Proofs.YtkkkcafkepnecaaGreat.Vc
open Go Go.RowKit

/-- As Fit; and no slice is larger than what may be reached. -/
inductive FitZ (P : Program) (H : Hp) : TypeId → List Value → Prop
  | int {t : TypeId} {k : IntKind} {n : Int} : P.underlying t = some (.int k) → (Lit.int k n).wf = true → FitZ P H t [.int k n]
  | bool {t : TypeId} {b : Bool} : P.underlying t = some .bool → FitZ P H t [.bool b]
  | str {t : TypeId} {s : ByteArray} : P.underlying t = some .string → s.size ≤ maxLen → FitZ P H t [.string s]
  | nil {t e : TypeId} : P.underlying t = some (.slice e) → FitZ P H t [.slice none 0 0]
  | slice {t e : TypeId} {a : Addr} {len cap : Nat} (g : Nat → List Value) : P.underlying t = some (.slice e) → len ≤ cap → cap ≤ maxLen → len * P.bytesOf e ≤ reachBytes → (∀ i, i < len → (g i).length = P.cellsOf e) →
      (∀ i, i < len → ∀ j x, (g i)[j]? = some x → Cell H (a.add (i * P.cellsOf e + j)) x) → (∀ i, i < len → FitZ P H e (g i)) → FitZ P H t [.slice (some a) len cap]
  | struct {t : TypeId} {fs : Array Field} {cs : List Value} : P.underlying t = some (.struct fs) → cs.length = P.cellsOf t →
      (∀ (i : Nat) (f : Field), fs[i]? = some f → FitZ P H f.type ((cs.drop f.offset).take (P.cellsOf f.type))) → FitZ P H t cs
  | array {t e : TypeId} {n : Nat} {cs : List Value} : P.underlying t = some (.array n e) → cs.length = P.cellsOf t →
      (∀ i, i < n → FitZ P H e ((cs.drop (i * P.cellsOf e)).take (P.cellsOf e))) → FitZ P H t cs
theorem FitZ.fit {P : Program} {H : Hp} {t : TypeId} {cs : List Value} (h : FitZ P H t cs) : Fit P H t cs := by
  induction h with
  | int h1 h2 => exact .int h1 h2
  | bool h1 => exact .bool h1
  | str h1 h2 => exact .str h1 h2
  | nil h1 => exact .nil h1
  | slice g h1 h2 h3 h4 h5 h6 h7 ih => exact .slice g h1 h2 h3 h5 h6 ih
  | struct h1 h2 h3 ih => exact .struct h1 h2 ih
  | array h1 h2 h3 ih => exact .array h1 h2 ih
section
variable {H : Type} {enc : TypeId × Value → H} {P : Program} {w : World} {spare : Nat → Bool} {held : Bool}
theorem weightsAll_mem {e : TypeId} : ∀ {l : List (DataW H)} {d : DataW H}, d ∈ l → ∀ n ∈ d.weights P e, n ∈ DataW.weightsAll P e l
  | x :: l, d, hd, n, hn => by
    simp only [DataW.weightsAll, List.mem_append]
    rcases List.mem_cons.1 hd with rfl | hd
    · exact .inl hn
    · exact .inr (weightsAll_mem hd n hn)
theorem fitZ_of : ∀ (m fuel : Nat) (t : TypeId) (cs : List Value) (x : DataW H × List MemPlace), dataB P m t = true → DataW.trod enc P w 0 spare held fuel t cs = some x → (∀ n ∈ x.1.weights P t, n ≤ reachBytes) → FitZ P (blocks w) t cs
  | 0, _, _, _, _, h, _, _ => by cases h
  | m + 1, fuel, t, cs, x, h, hx, hz => by
    unfold dataB at h
    split at h
    · rename_i k ht
      obtain ⟨n, rfl, _, hw⟩ := DataW.trod_int ht hx
      exact .int ht hw
    · rename_i ht
      obtain ⟨b, rfl, _⟩ := DataW.trod_bool ht hx
      exact .bool ht
    · rename_i ht
      obtain ⟨s, rfl, _, hs⟩ := DataW.trod_string ht hx
      exact .str ht hs
    · rename_i e ht
      rcases DataW.trod_slice ht hx with ⟨rfl, _⟩ | ⟨a, len, cap, elems, rest, n, _, rfl, rfl, hb, hl, hm, hlen, hel, hsp, hns⟩
      · exact .nil ht
      · have hwt : ∀ n ∈ ((elems.map (·.1)).length + (rest.map (·.1)).length) * P.bytesOf e :: (DataW.weightsAll P e (elems.map (·.1)) ++ DataW.weightsAll P e (rest.map (·.1))), n ≤ reachBytes := by
          intro n hn
          refine hz n ?_
          simp only [DataW.weights, ht]
          exact hn
        have each : ∀ i, i < len → ∃ cs', w.cells? 0 (a.add (i * P.cellsOf e)) (P.cellsOf e) = some cs' ∧ ∃ y, DataW.trod enc P w 0 spare held n e cs' = some y ∧ ∀ n ∈ y.1.weights P e, n ≤ reachBytes := by
          intro i hi
          have h1 := hel i hi
          rw [List.getElem?_eq_getElem (by omega)] at h1
          obtain ⟨cs', h2, h3⟩ := Option.bind_eq_some_iff.1 h1
          refine ⟨cs', h2, _, h3, fun n hn => hwt n (List.mem_cons_of_mem _ (List.mem_append_left _ (weightsAll_mem (List.mem_map_of_mem (List.getElem_mem _)) n hn)))⟩
        obtain ⟨g, hg⟩ := Go.Deep.choose_lt each
        refine .slice g ht hl hm ?_ (fun i hi => ((World.cells?_some (hg i hi).1).2.1)) (fun i hi j v hj => ?_) (fun i hi => ?_)
        · have := hwt _ List.mem_cons_self
          simp only [List.length_map] at this
          refine Nat.le_trans (Nat.mul_le_mul_right _ ?_) this
          omega
        · have := (World.cells?_some (hg i hi).1).2.2 j (by have := (World.cells?_some (hg i hi).1).2.1; have := (List.getElem?_eq_some_iff.1 hj).1; omega)
          rw [Go.Deep.add_add] at this
          rw [hj] at this
          exact cell_blocks this
        · obtain ⟨y, hy, hyz⟩ := (hg i hi).2
          exact fitZ_of m _ _ _ _ h hy hyz
    · rename_i fs ht
      obtain ⟨xs, n, _, rfl, hl, hxl, hf⟩ := DataW.trod_struct ht hx
      refine .struct ht hl fun i f hif => ?_
      have h1 := hf i f hif
      have hi : i < fs.size := (Array.getElem?_eq_some_iff.1 hif).1
      rw [List.getElem?_eq_getElem (by omega)] at h1
      refine fitZ_of m _ _ _ _ (List.all_eq_true.1 h f ?_) h1 fun n hn => hz n ?_
      · obtain ⟨_, rfl⟩ := Array.getElem?_eq_some_iff.1 hif
        simp
      · simp only [DataW.weights, ht]
        refine DataW.weights_mem_each (j := i) ?_ ?_ n hn
        · rw [List.getElem?_map, Array.getElem?_toList, hif]; rfl
        · rw [List.getElem?_map, List.getElem?_eq_getElem (by omega)]; rfl
    · rename_i n e ht
      obtain ⟨xs, q, _, rfl, hl, hxl, hf⟩ := DataW.trod_array ht hx
      refine .array ht hl fun i hi => ?_
      have h1 := hf i hi
      rw [List.getElem?_eq_getElem (by omega)] at h1
      refine fitZ_of m _ _ _ _ h h1 fun n hn => hz n ?_
      simp only [DataW.weights, ht]
      exact weightsAll_mem (List.mem_map_of_mem (List.getElem_mem _)) n hn
    · cases h
/-- An argument, sized. -/
def FitZV (P : Program) (H : Hp) (t : TypeId) (v : Value) : Prop := FitZ P H t v.cells.toList ∧ FitV P H t v
theorem fitZV_of {t : TypeId} {v : Value} {d : DataW H} {ps : List MemPlace} {b0 : Nat} (m : Nat) (hd : dataB P m t = true) (hv : Value.okWide P w .any b0 t v) (h : DataW.Trod enc P w 0 spare held t v d ps) (hz : ∀ n ∈ d.weights P t, n ≤ reachBytes) : FitZV P (blocks w) t v := by
  refine ⟨?_, fitV_of m hd hv h⟩
  obtain ⟨fuel, h⟩ := h
  exact fitZ_of m _ _ _ _ hd h hz
theorem weights_arg {ts us : List TypeId} {ds gs : List (DataW H)} (h : (DataW.weightsEach P (ts ++ us) (ds ++ gs)).all (· ≤ reachBytes) = true) (hl : ts.length = ds.length) {j : Nat} {t : TypeId} {d : DataW H} (ht : ts[j]? = some t) (hd : ds[j]? = some d) : ∀ n ∈ d.weights P t, n ≤ reachBytes := fun n hn => by
  have h1 := (List.getElem?_eq_some_iff.1 ht).1
  have := List.all_eq_true.1 h n (DataW.weights_mem_each (j := j) (by rw [List.getElem?_append_left h1]; exact ht) (by rw [List.getElem?_append_left (by omega)]; exact hd) n hn)
  simpa using this
end
section
variable {P : Program} {H : Hp} {t : TypeId} {cs : List Value}
theorem FitZ.of_struct {fs : Array Field} (ht : P.underlying t = some (.struct fs)) (h : FitZ P H t cs) : ∀ (i : Nat) (f : Field), fs[i]? = some f → FitZ P H f.type ((cs.drop f.offset).take (P.cellsOf f.type)) := by
  cases h with
  | struct h1 h2 h3 => rw [ht] at h1; cases h1; exact h3
  | _ => simp_all
theorem FitZ.field {i : Nat} {T : TypeId} {off n : Nat} (h : FitZ P H t cs) (he : fieldB P t i = some (T, off, n)) : FitZ P H T ((cs.drop off).take n) := by
  unfold fieldB at he
  split at he
  · rename_i fs ht
    obtain ⟨f, hf, hq⟩ := Option.map_eq_some_iff.1 he
    simp only [Prod.mk.injEq] at hq
    obtain ⟨rfl, rfl, rfl⟩ := hq
    exact h.of_struct ht i f hf
  · cases he
theorem FitZ.of_slice {e : TypeId} (ht : P.underlying t = some (.slice e)) (h : FitZ P H t cs) : ∃ v xs, cs = [v] ∧ Sls H v (P.cellsOf e) xs ∧ (∀ x ∈ xs, FitZ P H e x) ∧ xs.length * P.bytesOf e ≤ reachBytes := by
  cases h with
  | nil h1 => exact ⟨_, [], rfl, ⟨none, 0, rfl, Nat.zero_le _, Nat.zero_le _, by simp, by simp⟩, by simp, by simp⟩
  | @slice _ e' a len cap g h1 h2 h3 h4 h5 h6 h7 =>
    rw [ht] at h1; cases h1
    refine ⟨_, (List.range len).map g, rfl, ⟨some a, cap, by simp, by simpa using h2, h3, ?_, fun i x hx => ⟨a, rfl, ?_⟩⟩, ?_, by simpa using h4⟩
    · intro x hx
      obtain ⟨i, hi, rfl⟩ := List.mem_map.1 hx
      exact h5 i (List.mem_range.1 hi)
    · simp only [List.getElem?_map, Option.map_eq_some_iff] at hx
      obtain ⟨i', hi', rfl⟩ := hx
      obtain ⟨hlt, rfl⟩ := List.getElem?_eq_some_iff.1 hi'
      simp only [List.length_range] at hlt
      simpa using h6 i hlt
    · intro x hx
      obtain ⟨i, hi, rfl⟩ := List.mem_map.1 hx
      exact h7 i (List.mem_range.1 hi)
  | _ h1 => rw [ht] at h1; cases h1
end
end Go.Proofs.YtkkkcafkepnecaaGreat.Vc

