/- Texts of this claim, one behind the other. -/
import Derived.Test.YtjnacjniiogjcaaGreatProg
import Derived.KernelRfl
import Derived.Test.YtjnacjniiogjcaaGreatA0
set_option linter.unusedSimpArgs false
set_option linter.unusedVariables false
set_option maxRecDepth 20000
namespace Go.Proofs.YtjnacjniiogjcaaGreat
open Go Go.Fw
@[reducible] def ty_unit : TypeId := 0
@[reducible] def ty_int : TypeId := 3
@[reducible] def ty_bool : TypeId := 4
@[reducible] def ty_p_magpielaw17_W : TypeId := 22
@[reducible] def ty_p_arena_Arena : TypeId := 26
@[reducible] def ty_p_guard_Guard : TypeId := 27
@[reducible] def ty_free_Place : TypeId := 29
@[reducible] def ty_s_p_deque_Own : TypeId := 30
@[reducible] def ty_magpielaw17_W : TypeId := 32
@[reducible] def ty_s_int : TypeId := 35
@[reducible] def ty_p_deque_Push : TypeId := 36
@[reducible] def ty_p_deque_Own : TypeId := 37
@[reducible] def ty_p_thief_Steal : TypeId := 40
@[reducible] def ty_p_deque_Pop : TypeId := 47
@[reducible] def ty_s_bool : TypeId := 59
@[reducible] def ty_p_slab_Alloc : TypeId := 70
@[reducible] def ty_p_int : TypeId := 73
@[reducible] def ty_guard_Machine : TypeId := 78
@[reducible] def ty_deque_Push : TypeId := 80
@[reducible] def ty_s_func_thief_machine : TypeId := 82
@[reducible] def ty_thief_machine : TypeId := 83
@[reducible] def ty_thief_Steal : TypeId := 85
@[reducible] def ty_func_thief_machine : TypeId := 86
@[reducible] def ty_m_int_arena_slot : TypeId := 87
@[reducible] def ty_m_int_int : TypeId := 88
@[reducible] def ty_arena_Arena : TypeId := 92
@[reducible] def ty_deque_Own : TypeId := 94
@[reducible] def ty_deque_Pop : TypeId := 98
@[reducible] def ty_arena_slot : TypeId := 104
@[reducible] def ty_guard_mode : TypeId := 108
@[reducible] def ty_m_int_s_epoch_Limbo : TypeId := 110
@[reducible] def ty_guard_Guard : TypeId := 112
@[reducible] def ty_slab_Alloc : TypeId := 115
@[reducible] def ty_thief_one : TypeId := 120
@[reducible] def ty_ring_Copy : TypeId := 125
@[reducible] def ty_s_epoch_Limbo : TypeId := 126
@[reducible] def ty_epoch_Limbo : TypeId := 128
@[reducible] def ty_epoch_Table : TypeId := 130
@[reducible] def ty_guard_epochs : TypeId := 132
@[reducible] def ty_guard_epochs_bool : TypeId := 133
@[reducible] def ty_p_guard_look : TypeId := 134
@[reducible] def ty_guard_look : TypeId := 136
@[reducible] def ty_a3_int : TypeId := 139
@[reducible] def ty_hazard_Table : TypeId := 142
@[reducible] def ty_guard_hazards : TypeId := 146
@[reducible] def ty_p_free_popper : TypeId := 147
@[reducible] def ty_free_popper : TypeId := 152
@[reducible] def ty_free_Pop : TypeId := 155
@[reducible] def ty_p_epoch_Pin : TypeId := 156
@[reducible] def ty_p_guard_sets : TypeId := 159
@[reducible] def ty_guard_sets : TypeId := 161
@[reducible] def ty_p_epoch_Turn : TypeId := 164
@[reducible] def ty_p_hazard_Scan : TypeId := 166
@[reducible] def ty_epoch_step : TypeId := 171
@[reducible] def ty_epoch_Pin : TypeId := 173
@[reducible] def ty_s_p_slab_Free : TypeId := 174
@[reducible] def ty_epoch_Turn : TypeId := 176
@[reducible] def ty_m_int_bool : TypeId := 177
@[reducible] def ty_hazard_Scan : TypeId := 179
@[reducible] def ty_p_slab_Free : TypeId := 180
@[reducible] def ty_slab_Free : TypeId := 185
@[reducible] def ty_p_free_pusher : TypeId := 186
@[reducible] def ty_free_pusher : TypeId := 188
@[reducible] def ty_free_Push : TypeId := 190
@[reducible] def f_magpielaw17_ThiefLast : FuncId := 6
@[reducible] def f_magpielaw17_Make : FuncId := 9
@[reducible] def f_magpielaw00_Place : FuncId := 10
@[reducible] def f_magpielaw17_W_slot : FuncId := 11
@[reducible] def f_arena_Arena_Store : FuncId := 12
@[reducible] def f_deque_Own_Push : FuncId := 14
@[reducible] def f_magpielaw17_run : FuncId := 15
@[reducible] def f_thief_New : FuncId := 16
@[reducible] def f_arena_Arena_Uses : FuncId := 17
@[reducible] def f_thief_Steal_Value : FuncId := 18
@[reducible] def f_arena_Arena_Fault : FuncId := 19
@[reducible] def f_magpielaw17_awake : FuncId := 20
@[reducible] def f_thief_Steal_Step : FuncId := 21
@[reducible] def f_deque_Push_Step : FuncId := 22
@[reducible] def f_deque_Push_Went : FuncId := 23
@[reducible] def f_deque_Pop_Step : FuncId := 24
@[reducible] def f_deque_Pop_Value : FuncId := 25
@[reducible] def f_deque_Own_Pop : FuncId := 26
@[reducible] def f_key_Ahead : FuncId := 28
@[reducible] def f_deque_Own_Size : FuncId := 29
@[reducible] def f_arena_Arena_State : FuncId := 30
@[reducible] def f_arena_Arena_Raw : FuncId := 31
@[reducible] def f_deque_Word : FuncId := 32
@[reducible] def f_arena_Arena_Load : FuncId := 33
@[reducible] def f_free_Raw : FuncId := 34
@[reducible] def f_guard_Raw : FuncId := 35
@[reducible] def f_guard_New : FuncId := 36
@[reducible] def f_arena_New : FuncId := 37
@[reducible] def f_deque_Raw : FuncId := 38
@[reducible] def f_deque_New : FuncId := 39
@[reducible] def f_slab_NewAlloc : FuncId := 40
@[reducible] def f_slab_Alloc_Handle : FuncId := 41
@[reducible] def f_arena_store : FuncId := 42
@[reducible] def f_arena_Arena_in : FuncId := 43
@[reducible] def f_thief_Steal_enter : FuncId := 45
@[reducible] def f_thief_Steal_reads : FuncId := 46
@[reducible] def f_thief_Steal_lasts : FuncId := 47
@[reducible] def f_thief_Steal_buffers : FuncId := 48
@[reducible] def f_thief_Steal_holds : FuncId := 49
@[reducible] def f_thief_Steal_again : FuncId := 50
@[reducible] def f_thief_Steal_loads : FuncId := 51
@[reducible] def f_thief_Steal_still : FuncId := 52
@[reducible] def f_thief_Steal_keeps : FuncId := 53
@[reducible] def f_thief_Steal_more : FuncId := 54
@[reducible] def f_thief_Steal_keys : FuncId := 55
@[reducible] def f_thief_Steal_takes : FuncId := 56
@[reducible] def f_thief_Steal_next : FuncId := 57
@[reducible] def f_deque_Own_word : FuncId := 58
@[reducible] def f_ring_Room : FuncId := 59
@[reducible] def f_deque_Push_grow : FuncId := 60
@[reducible] def f_slab_Alloc_Step : FuncId := 61
@[reducible] def f_deque_Push_allocated : FuncId := 62
@[reducible] def f_ring_Copy_Step : FuncId := 63
@[reducible] def f_arena_Arena_SetRaw : FuncId := 64
@[reducible] def f_guard_Guard_Retire : FuncId := 65
@[reducible] def f_ring_Word : FuncId := 66
@[reducible] def f_arena_Arena_SwapRaw : FuncId := 67
@[reducible] def f_key_Check : FuncId := 68
@[reducible] def f_key_Under : FuncId := 69
@[reducible] def f_handle_Open : FuncId := 70
@[reducible] def f_arena_load : FuncId := 71
@[reducible] def f_arena_Arena_at : FuncId := 72
@[reducible] def f_guard_of : FuncId := 73
@[reducible] def f_handle_Size : FuncId := 74
@[reducible] def f_free_NewPop : FuncId := 75
@[reducible] def f_arena_Arena_body : FuncId := 76
@[reducible] def f_key_Depth : FuncId := 77
@[reducible] def f_key_place : FuncId := 78
@[reducible] def f_guard_Guard_Enter : FuncId := 79
@[reducible] def f_thief_Steal_reads_1 : FuncId := 80
@[reducible] def f_thief_Steal_word : FuncId := 81
@[reducible] def f_thief_Steal_lasts_1 : FuncId := 82
@[reducible] def f_thief_Steal_none : FuncId := 83
@[reducible] def f_thief_Steal_buffers_1 : FuncId := 84
@[reducible] def f_thief_Steal_kept : FuncId := 85
@[reducible] def f_thief_Steal_again_1 : FuncId := 86
@[reducible] def f_thief_Steal_loads_1 : FuncId := 87
@[reducible] def f_thief_Steal_still_1 : FuncId := 88
@[reducible] def f_thief_Steal_keys_1 : FuncId := 89
@[reducible] def f_thief_Steal_takes_1 : FuncId := 90
@[reducible] def f_guard_Guard_Leave : FuncId := 91
@[reducible] def f_free_Pop_Step : FuncId := 92
@[reducible] def f_slab_Alloc_popped : FuncId := 93
@[reducible] def f_arena_Arena_Words : FuncId := 94
@[reducible] def f_arena_Arena_AddRaw : FuncId := 95
@[reducible] def f_handle_Pack : FuncId := 96
@[reducible] def f_arena_Arena_Born : FuncId := 97
@[reducible] def f_ring_NewCopy : FuncId := 98
@[reducible] def f_arena_Arena_Retire : FuncId := 99
@[reducible] def f_guard_look_begin : FuncId := 100
@[reducible] def f_ring_word : FuncId := 101
@[reducible] def f_arena_swap : FuncId := 102
@[reducible] def f_key_digits : FuncId := 103
@[reducible] def f_handle_places : FuncId := 104
@[reducible] def f_handle_masks : FuncId := 105
@[reducible] def f_guard_epochTable : FuncId := 106
@[reducible] def f_hazard_Raw : FuncId := 107
@[reducible] def f_free_Place_head : FuncId := 108
@[reducible] def f_epoch_NewPin : FuncId := 109
@[reducible] def f_guard_Guard_Protect : FuncId := 110
@[reducible] def f_epoch_Table_Word : FuncId := 111
@[reducible] def f_hazard_Table_Word : FuncId := 112
@[reducible] def f_free_Pop_Base : FuncId := 113
@[reducible] def f_arena_add : FuncId := 114
@[reducible] def f_arena_Arena_turn : FuncId := 115
@[reducible] def f_epoch_NewTurn : FuncId := 116
@[reducible] def f_hazard_NewScan : FuncId := 117
@[reducible] def f_guard_handles : FuncId := 118
@[reducible] def f_ring_word_1 : FuncId := 119
@[reducible] def f_key_digits_1 : FuncId := 120
@[reducible] def f_epoch_Raw : FuncId := 121
@[reducible] def f_epoch_Pin_global : FuncId := 122
@[reducible] def f_epoch_Turn_global : FuncId := 123
@[reducible] def f_epoch_Table_Global : FuncId := 124
@[reducible] def f_epoch_Pin_own : FuncId := 125
@[reducible] def f_epoch_Turn_look : FuncId := 126
@[reducible] def f_epoch_Turn_swap : FuncId := 127
@[reducible] def f_epoch_Pin_again : FuncId := 128
@[reducible] def f_epoch_Turn_sort : FuncId := 129
@[reducible] def f_slab_NewFree : FuncId := 130
@[reducible] def f_epoch_Turn_free : FuncId := 131
@[reducible] def f_free_NewPush : FuncId := 132
@[reducible] def f_slab_Free_Step : FuncId := 133
@[reducible] def f_free_Push_Step : FuncId := 134
@[reducible] def f_arena_Arena_Died : FuncId := 135
@[reducible] def f_thief_one_Step : FuncId := 152
@[reducible] def f_guard_epochs_words : FuncId := 153
@[reducible] def f_guard_look_Step : FuncId := 154
@[reducible] def f_guard_look_end : FuncId := 155
@[reducible] def f_epoch_Turn_Left : FuncId := 156
@[reducible] def f_hazard_Scan_Left : FuncId := 157
@[reducible] def f_guard_hazards_words : FuncId := 158
@[reducible] def f_free_popper_Step : FuncId := 159
@[reducible] def f_free_next : FuncId := 160
@[reducible] def f_epoch_Pin_Step : FuncId := 161
@[reducible] def f_guard_sets_Step : FuncId := 162
@[reducible] def f_epoch_Turn_Step : FuncId := 163
@[reducible] def f_hazard_Scan_Step : FuncId := 164
@[reducible] def f_hazard_Scan_sort : FuncId := 165
@[reducible] def f_free_pusher_Step : FuncId := 166
@[reducible] def tcfg0 : Cfg := { quiet := [10, 32, 38, 59, 70, 74, 96, 104, 105, 106, 107, 108, 111, 112, 121, 124, 153, 158, 160], quietTmp := false, fncs := [], ifcs := [] }
@[reducible] def tcfg1 : Cfg := { quiet := [10, 32, 38, 59, 70, 74, 96, 104, 105, 106, 107, 108, 111, 112, 121, 124, 153, 158, 160], quietTmp := true, fncs := [], ifcs := [] }
@[reducible] noncomputable def nck (p : Option Addr) : Sem Next := opS Tryz.prog (.nilCheck (.tmp 0)) ty_unit [(.pointer p)]
@[reducible] noncomputable def lkN (p : Option Addr) (k : Addr → Tree) : Tree := .look (nck p) (.one (.leaf .addr)) k
@[reducible] def SpT (f : FuncId) (a : Array Value) (t : Tree) : Prop := ∀ {H : Heap} {R : Value → Heap → Prop}, (∀ L, wp Tryz.prog t L H R) → SpecF Tryz.prog f a H R
theorem spT {f : FuncId} {fn : Func} {a : List Value} {t : Tree} (cfg : Cfg) (hf : Tryz.prog.funcs[f]? = some fn) (he : funcTree Tryz.prog cfg fn a = t) : SpT f a.toArray t := fun {H R} h => spec_of_tree (args := a.toArray) (cfg := cfg) hf fun L => (show funcTree Tryz.prog cfg fn a = t from he).symm ▸ h L
noncomputable def t_arena_New (p0 : Int) (p1 : Int) (p2 : Bool) : Tree :=
 .make (opS Tryz.prog (.makeSlice ty_s_int (.tmp 0) (.tmp 1)) ty_s_int [(.int .i64 (imax 0 (imin p0 65536))), (.int .i64 (imax 0 (imin p0 65536)))]) (.one (.leaf .slice)) fun x14 =>
 .make (opS Tryz.prog (.makeSlice ty_s_int (.tmp 0) (.tmp 1)) ty_s_int [(.int .i64 (imax 0 (imin p1 65536))), (.int .i64 (imax 0 (imin p1 65536)))]) (.one (.leaf .slice)) fun x16 =>
 .newM fun x18 =>
 .make (opS Tryz.prog (.makeSlice ty_s_bool (.tmp 0) (.tmp 1)) ty_s_bool [(.int .i64 (imax 0 (imin p1 65536))), (.int .i64 (imax 0 (imin p1 65536)))]) (.one (.leaf .slice)) fun x20 =>
 .make (opS Tryz.prog (.makeSlice ty_s_bool (.tmp 0) (.tmp 1)) ty_s_bool [(.int .i64 (imax 0 (imin p1 65536))), (.int .i64 (imax 0 (imin p1 65536)))]) (.one (.leaf .slice)) fun x22 =>
 .newM fun x23 =>
 .newP (.cells #[(.slice x14.a x14.len x14.cap), (.slice x16.a x16.len x16.cap), (.bool p2), (.map x18), (.slice x20.a x20.len x20.cap), (.slice x22.a x22.len x22.cap), (.map x23), (.int .i64 0), (.int .i64 0), (.int .i64 0), (.int .i64 0), (.bool false), (.int .i64 0)] ty_arena_Arena) fun x25 =>
 .ret (.pointer (some x25))
theorem t_arena_New_spec {p0 : Int} {p1 : Int} {p2 : Bool} : SpT f_arena_New #[(.int .i64 p0), (.int .i64 p1), (.bool p2)] (t_arena_New p0 p1 p2) := spT tcfg1 Tryz.func37 (by kernel_rfl)
noncomputable def t_arena_load (p0 : Option Addr) : Tree :=
 .look (opS Tryz.prog (.binOp .eql ty_p_int (.tmp 0) (.const (.pointer none)) ty_p_int) ty_bool [(.pointer p0)]) (.one (.leaf .bool)) fun x4 =>
 bif x4 then (
 .ret (.int .i64 0))
 else (
 lkN p0 fun x6 =>
 .ld x6 (.int .i64) fun x7 =>
 .ret (.int .i64 x7))
theorem t_arena_load_spec {p0 : Option Addr} : SpT f_arena_load #[(.pointer p0)] (t_arena_load p0) := spT tcfg1 Tryz.func71 (by kernel_rfl)
noncomputable def t_arena_store (p0 : Option Addr) (p1 : Int) : Tree :=
 .look (opS Tryz.prog (.binOp .neq ty_p_int (.tmp 0) (.const (.pointer none)) ty_p_int) ty_bool [(.pointer p0)]) (.one (.leaf .bool)) fun x5 =>
 bif x5 then (
 lkN p0 fun x8 =>
 .st x8 (.int .i64 p1) <|
 .ret (.tuple #[]))
 else (
 .ret (.tuple #[]))
theorem t_arena_store_spec {p0 : Option Addr} {p1 : Int} : SpT f_arena_store #[(.pointer p0), (.int .i64 p1)] (t_arena_store p0 p1) := spT tcfg1 Tryz.func42 (by kernel_rfl)
noncomputable def t_arena_swap (p0 : Option Addr) (p1 : Int) (p2 : Int) : Tree :=
 .look (opS Tryz.prog (.binOp .eql ty_p_int (.tmp 0) (.const (.pointer none)) ty_p_int) ty_bool [(.pointer p0)]) (.one (.leaf .bool)) fun x8 =>
 bif x8 then (
 .ret (.bool false))
 else (
 lkN p0 fun x11 =>
 .ld x11 (.int .i64) fun x12 =>
 bif ((x12 : Int) != p1) then (
 .ret (.bool false))
 else (
 lkN p0 fun x18 =>
 .st x18 (.int .i64 p2) <|
 .ret (.bool true)))
theorem t_arena_swap_spec {p0 : Option Addr} {p1 : Int} {p2 : Int} : SpT f_arena_swap #[(.pointer p0), (.int .i64 p1), (.int .i64 p2)] (t_arena_swap p0 p1 p2) := spT tcfg1 Tryz.func102 (by kernel_rfl)
noncomputable def t_arena_Arena_at (p0 : Option Addr) (p1 : Int) : Tree :=
 lkN p0 fun x6 =>
 .ld (x6.add 12) (.int .i64) fun x8 =>
 lkN p0 fun x10 =>
 .st (x10.add 12) (.int .i64 (w64 (x8 + 1))) <|
 bif (decide ((p1 : Int) < 0)) then (
 lkN p0 fun x24 =>
 .st (x24.add 11) (.bool true) <|
 .ret (.pointer none))
 else (
 lkN p0 fun x17 =>
 .ld x17 .slice fun x19 =>
 bif (decide ((p1 : Int) ≥ ((x19.len : Nat) : Int))) then (
 lkN p0 fun x24 =>
 .st (x24.add 11) (.bool true) <|
 .ret (.pointer none))
 else (
 lkN p0 fun x27 =>
 .ld x27 .slice fun x29 =>
 .look (opS Tryz.prog (.indexAddr ty_s_int (.tmp 0) (.tmp 1)) ty_unit [(.slice x29.a x29.len x29.cap), (.int .i64 p1)]) (.one (.leaf .addr)) fun x31 =>
 .ret (.pointer (some x31))))
theorem t_arena_Arena_at_spec {p0 : Option Addr} {p1 : Int} : SpT f_arena_Arena_at #[(.pointer p0), (.int .i64 p1)] (t_arena_Arena_at p0 p1) := spT tcfg1 Tryz.func72 (by kernel_rfl)
noncomputable def t_arena_Arena_body (p0 : Option Addr) (p1 : Int) : Tree :=
 .qcall f_handle_Open [(.int .i64 p1)] (.tup [(.leaf (.int .i64)), (.leaf (.int .i64)), (.leaf (.int .i64)), (.leaf .bool)]) fun x12 =>
 .qcall f_handle_Size [(.int .i64 x12.2.2.1)] (.one (.leaf (.int .i64))) fun x19 =>
 lkN p0 fun x22 =>
 .ld (x22.add 1) .slice fun x24 =>
 .look (opS Tryz.prog (.slice ty_s_int (.tmp 0) (some (.tmp 1)) (some (.tmp 2)) (some (.tmp 3))) ty_s_int [(.slice x24.a x24.len x24.cap), (.int .i64 x12.1), (.int .i64 (w64 (x12.1 + x19))), (.int .i64 (w64 (x12.1 + x19)))]) (.one (.leaf .slice)) fun x28 =>
 .ret (.slice x28.a x28.len x28.cap)
theorem t_arena_Arena_body_spec {p0 : Option Addr} {p1 : Int} : SpT f_arena_Arena_body #[(.pointer p0), (.int .i64 p1)] (t_arena_Arena_body p0 p1) := spT tcfg1 Tryz.func76 (by kernel_rfl)
noncomputable def t_arena_Arena_in (p0 : Option Addr) (p1 : Int) (p2 : Int) : Tree :=
 lkN p0 fun x9 =>
 .ld (x9.add 12) (.int .i64) fun x11 =>
 lkN p0 fun x13 =>
 .st (x13.add 12) (.int .i64 (w64 (x11 + 1))) <|
 .call f_arena_Arena_State [(.pointer p0), (.int .i64 p1)] (.one (.leaf (.int .i64))) fun x17 =>
 bif ((x17 : Int) == 0) then (
 lkN p0 fun x20 =>
 .st (x20.add 11) (.bool true) <|
 .ret (.pointer none))
 else (
 .call f_arena_Arena_body [(.pointer p0), (.int .i64 p1)] (.one (.leaf .slice)) fun x24 =>
 bif (decide ((p2 : Int) < 0)) then (
 lkN p0 fun x34 =>
 .st (x34.add 11) (.bool true) <|
 .ret (.pointer none))
 else (
 bif (decide ((p2 : Int) ≥ ((x24.len : Nat) : Int))) then (
 lkN p0 fun x34 =>
 .st (x34.add 11) (.bool true) <|
 .ret (.pointer none))
 else (
 .look (opS Tryz.prog (.indexAddr ty_s_int (.tmp 0) (.tmp 1)) ty_unit [(.slice x24.a x24.len x24.cap), (.int .i64 p2)]) (.one (.leaf .addr)) fun x38 =>
 .ret (.pointer (some x38)))))
theorem t_arena_Arena_in_spec {p0 : Option Addr} {p1 : Int} {p2 : Int} : SpT f_arena_Arena_in #[(.pointer p0), (.int .i64 p1), (.int .i64 p2)] (t_arena_Arena_in p0 p1 p2) := spT tcfg1 Tryz.func43 (by kernel_rfl)
noncomputable def t_arena_Arena_Raw (p0 : Option Addr) (p1 : Int) : Tree :=
 .call f_arena_Arena_at [(.pointer p0), (.int .i64 p1)] (.one (.leaf .ptr)) fun x7 =>
 .call f_arena_load [(.pointer x7)] (.one (.leaf (.int .i64))) fun x8 =>
 .ret (.int .i64 x8)
theorem t_arena_Arena_Raw_spec {p0 : Option Addr} {p1 : Int} : SpT f_arena_Arena_Raw #[(.pointer p0), (.int .i64 p1)] (t_arena_Arena_Raw p0 p1) := spT tcfg1 Tryz.func31 (by kernel_rfl)
noncomputable def t_arena_Arena_SetRaw (p0 : Option Addr) (p1 : Int) (p2 : Int) : Tree :=
 .call f_arena_Arena_at [(.pointer p0), (.int .i64 p1)] (.one (.leaf .ptr)) fun x8 =>
 .call f_arena_store [(.pointer x8), (.int .i64 p2)] .unit fun _ =>
 .ret (.tuple #[])
theorem t_arena_Arena_SetRaw_spec {p0 : Option Addr} {p1 : Int} {p2 : Int} : SpT f_arena_Arena_SetRaw #[(.pointer p0), (.int .i64 p1), (.int .i64 p2)] (t_arena_Arena_SetRaw p0 p1 p2) := spT tcfg1 Tryz.func64 (by kernel_rfl)
noncomputable def t_arena_Arena_SwapRaw (p0 : Option Addr) (p1 : Int) (p2 : Int) (p3 : Int) : Tree :=
 .call f_arena_Arena_at [(.pointer p0), (.int .i64 p1)] (.one (.leaf .ptr)) fun x11 =>
 .call f_arena_swap [(.pointer x11), (.int .i64 p2), (.int .i64 p3)] (.one (.leaf .bool)) fun x14 =>
 .ret (.bool x14)
theorem t_arena_Arena_SwapRaw_spec {p0 : Option Addr} {p1 : Int} {p2 : Int} {p3 : Int} : SpT f_arena_Arena_SwapRaw #[(.pointer p0), (.int .i64 p1), (.int .i64 p2), (.int .i64 p3)] (t_arena_Arena_SwapRaw p0 p1 p2 p3) := spT tcfg1 Tryz.func67 (by kernel_rfl)
noncomputable def t_arena_Arena_Load (p0 : Option Addr) (p1 : Int) (p2 : Int) : Tree :=
 .call f_arena_Arena_in [(.pointer p0), (.int .i64 p1), (.int .i64 p2)] (.one (.leaf .ptr)) fun x10 =>
 .call f_arena_load [(.pointer x10)] (.one (.leaf (.int .i64))) fun x11 =>
 .ret (.int .i64 x11)
theorem t_arena_Arena_Load_spec {p0 : Option Addr} {p1 : Int} {p2 : Int} : SpT f_arena_Arena_Load #[(.pointer p0), (.int .i64 p1), (.int .i64 p2)] (t_arena_Arena_Load p0 p1 p2) := spT tcfg1 Tryz.func33 (by kernel_rfl)
noncomputable def t_arena_Arena_Store (p0 : Option Addr) (p1 : Int) (p2 : Int) (p3 : Int) : Tree :=
 .call f_arena_Arena_in [(.pointer p0), (.int .i64 p1), (.int .i64 p2)] (.one (.leaf .ptr)) fun x11 =>
 .call f_arena_store [(.pointer x11), (.int .i64 p3)] .unit fun _ =>
 .ret (.tuple #[])
theorem t_arena_Arena_Store_spec {p0 : Option Addr} {p1 : Int} {p2 : Int} {p3 : Int} : SpT f_arena_Arena_Store #[(.pointer p0), (.int .i64 p1), (.int .i64 p2), (.int .i64 p3)] (t_arena_Arena_Store p0 p1 p2 p3) := spT tcfg1 Tryz.func12 (by kernel_rfl)
noncomputable def t_arena_Arena_State (p0 : Option Addr) (p1 : Int) : Tree :=
 .qcall f_handle_Open [(.int .i64 p1)] (.tup [(.leaf (.int .i64)), (.leaf (.int .i64)), (.leaf (.int .i64)), (.leaf .bool)]) fun x12 =>
 lkN p0 fun x18 =>
 .ld (x18.add 3) .map fun x20 =>
 .look (opS Tryz.prog (.lookup ty_m_int_arena_slot (.tmp 0) (.tmp 1) false) ty_arena_slot [(.map x20), (.int .i64 x12.1)]) (.one (.agg [(.int .i64), (.int .i64)])) fun x22 =>
 .newP (.cells #[(.int .i64 0), (.int .i64 0)] ty_arena_slot) fun x9 =>
 .stA x9 [(.int .i64 x22.1), (.int .i64 x22.2.1)] <|
 bif x12.2.2.2.1 then (
 .ld x9 (.int .i64) fun x26 =>
 bif ((x26 : Int) == p1) then (
 .ld (x9.add 1) (.int .i64) fun x31 =>
 .ret (.int .i64 x31))
 else (
 .ret (.int .i64 0)))
 else (
 .ret (.int .i64 0))
theorem t_arena_Arena_State_spec {p0 : Option Addr} {p1 : Int} : SpT f_arena_Arena_State #[(.pointer p0), (.int .i64 p1)] (t_arena_Arena_State p0 p1) := spT tcfg1 Tryz.func30 (by kernel_rfl)
noncomputable def t_arena_Arena_turn (p0 : Option Addr) (p1 : Int) (p2 : Int) (p3 : Int) : Tree :=
 .call f_arena_Arena_State [(.pointer p0), (.int .i64 p1)] (.one (.leaf (.int .i64))) fun x16 =>
 bif ((x16 : Int) != p2) then (
 .ret (.tuple #[(.int .i64 0), (.bool false)]))
 else (
 .qcall f_handle_Open [(.int .i64 p1)] (.tup [(.leaf (.int .i64)), (.leaf (.int .i64)), (.leaf (.int .i64)), (.leaf .bool)]) fun x21 =>
 lkN p0 fun x27 =>
 .ld (x27.add 3) .map fun x29 =>
 .act (opS Tryz.prog (.mapUpdate ty_m_int_arena_slot (.tmp 0) (.tmp 1) (.tmp 2)) ty_unit [(.map x29), (.int .i64 x21.1), (.agg #[(.int .i64 p1), (.int .i64 p3)])]) .unit fun _ =>
 .qcall f_handle_Size [(.int .i64 x21.2.2.1)] (.one (.leaf (.int .i64))) fun x35 =>
 .ret (.tuple #[(.int .i64 x35), (.bool true)]))
theorem t_arena_Arena_turn_spec {p0 : Option Addr} {p1 : Int} {p2 : Int} {p3 : Int} : SpT f_arena_Arena_turn #[(.pointer p0), (.int .i64 p1), (.int .i64 p2), (.int .i64 p3)] (t_arena_Arena_turn p0 p1 p2 p3) := spT tcfg1 Tryz.func115 (by kernel_rfl)
noncomputable def t_arena_Arena_Retire (p0 : Option Addr) (p1 : Int) : Tree :=
 .call f_arena_Arena_turn [(.pointer p0), (.int .i64 p1), (.int .i64 1), (.int .i64 2)] (.tup [(.leaf (.int .i64)), (.leaf .bool)]) fun x10 =>
 lkN p0 fun x14 =>
 .ld ((x14.add 7).add 1) (.int .i64) fun x17 =>
 lkN p0 fun x20 =>
 .st ((x20.add 7).add 1) (.int .i64 (w64 (x17 - x10.1))) <|
 lkN p0 fun x24 =>
 .ld ((x24.add 7).add 2) (.int .i64) fun x27 =>
 lkN p0 fun x30 =>
 .st ((x30.add 7).add 2) (.int .i64 (w64 (x27 + x10.1))) <|
 .ret (.bool x10.2.1)
theorem t_arena_Arena_Retire_spec {p0 : Option Addr} {p1 : Int} : SpT f_arena_Arena_Retire #[(.pointer p0), (.int .i64 p1)] (t_arena_Arena_Retire p0 p1) := spT tcfg1 Tryz.func99 (by kernel_rfl)
@[reducible] def t_arena_Arena_Died_L1_sh : List Sh1 := [(.leaf (.int .i64))]
noncomputable def t_arena_Arena_Died_L1 (p0 : Option Addr) (x15 : HL Sh1.T [(.leaf (.int .i64)), (.leaf .bool)]) (x20 : HL Sh1.T [(.leaf (.int .i64)), (.leaf (.int .i64)), (.leaf (.int .i64)), (.leaf .bool)]) (y1 : HL Sh1.T t_arena_Arena_Died_L1_sh) : Tree :=
 bif (decide ((y1.1 : Int) < x15.1)) then (
 lkN p0 fun x30 =>
 .ld (x30.add 4) .slice fun x32 =>
 .look (opS Tryz.prog (.indexAddr ty_s_bool (.tmp 0) (.tmp 1)) ty_unit [(.slice x32.a x32.len x32.cap), (.int .i64 (w64 (x20.1 + y1.1)))]) (.one (.leaf .addr)) fun x36 =>
 .st x36 (.bool false) <|
 .again 256 [(.int .i64 (w64 (y1.1 + 1)))])
 else (
 lkN p0 fun x39 =>
 .ld ((x39.add 7).add 2) (.int .i64) fun x42 =>
 lkN p0 fun x45 =>
 .st ((x45.add 7).add 2) (.int .i64 (w64 (x42 - x15.1))) <|
 lkN p0 fun x49 =>
 .ld ((x49.add 7).add 3) (.int .i64) fun x52 =>
 lkN p0 fun x55 =>
 .st ((x55.add 7).add 3) (.int .i64 (w64 (x52 + x15.1))) <|
 .ret (.bool x15.2.1))
noncomputable def t_arena_Arena_Died (p0 : Option Addr) (p1 : Int) : Tree :=
 .call f_arena_Arena_turn [(.pointer p0), (.int .i64 p1), (.int .i64 2), (.int .i64 0)] (.tup [(.leaf (.int .i64)), (.leaf .bool)]) fun x15 =>
 .qcall f_handle_Open [(.int .i64 p1)] (.tup [(.leaf (.int .i64)), (.leaf (.int .i64)), (.leaf (.int .i64)), (.leaf .bool)]) fun x20 =>
 .loop 256 t_arena_Arena_Died_L1_sh [(.int .i64 0)] (t_arena_Arena_Died_L1 p0 x15 x20)
theorem t_arena_Arena_Died_spec {p0 : Option Addr} {p1 : Int} : SpT f_arena_Arena_Died #[(.pointer p0), (.int .i64 p1)] (t_arena_Arena_Died p0 p1) := spT tcfg1 Tryz.func135 (by kernel_rfl)
noncomputable def t_arena_Arena_Uses (p0 : Option Addr) : Tree :=
 lkN p0 fun x4 =>
 .ld (x4.add 12) (.int .i64) fun x6 =>
 .ret (.int .i64 x6)
theorem t_arena_Arena_Uses_spec {p0 : Option Addr} : SpT f_arena_Arena_Uses #[(.pointer p0)] (t_arena_Arena_Uses p0) := spT tcfg1 Tryz.func17 (by kernel_rfl)
noncomputable def t_arena_Arena_Fault (p0 : Option Addr) : Tree :=
 lkN p0 fun x4 =>
 .ld (x4.add 11) .bool fun x6 =>
 .ret (.bool x6)
theorem t_arena_Arena_Fault_spec {p0 : Option Addr} : SpT f_arena_Arena_Fault #[(.pointer p0)] (t_arena_Arena_Fault p0) := spT tcfg1 Tryz.func19 (by kernel_rfl)
@[reducible] def t_arena_Arena_Born_L2_sh : List Sh1 := [(.leaf (.int .i64))]
noncomputable def t_arena_Arena_Born_L2 (p0 : Option Addr) (p1 : Int) (x14 : HL Sh1.T [(.leaf (.int .i64)), (.leaf (.int .i64)), (.leaf (.int .i64)), (.leaf .bool)]) (x45 : Sl) (y2 : HL Sh1.T t_arena_Arena_Born_L2_sh) : Tree :=
 bif (decide ((y2.1 : Int) < ((x45.len : Nat) : Int))) then (
 lkN p0 fun x67 =>
 .ld (x67.add 5) .slice fun x69 =>
 .look (opS Tryz.prog (.indexAddr ty_s_bool (.tmp 0) (.tmp 1)) ty_unit [(.slice x69.a x69.len x69.cap), (.int .i64 (w64 (x14.1 + y2.1)))]) (.one (.leaf .addr)) fun x73 =>
 .ld x73 .bool fun x74 =>
 bif (!x74) then (
 lkN p0 fun x77 =>
 .ld (x77.add 7) (.int .i64) fun x80 =>
 lkN p0 fun x82 =>
 .st (x82.add 7) (.int .i64 (w64 (x80 + 1))) <|
 lkN p0 fun x86 =>
 .ld ((x86.add 7).add 3) (.int .i64) fun x89 =>
 lkN p0 fun x91 =>
 .st ((x91.add 7).add 3) (.int .i64 (w64 (x89 + 1))) <|
 lkN p0 fun x95 =>
 .ld (x95.add 4) .slice fun x97 =>
 lkN p0 fun x102 =>
 .ld (x102.add 5) .slice fun x104 =>
 .look (opS Tryz.prog (.indexAddr ty_s_bool (.tmp 0) (.tmp 1)) ty_unit [(.slice x97.a x97.len x97.cap), (.int .i64 (w64 (x14.1 + y2.1)))]) (.one (.leaf .addr)) fun x108 =>
 .st x108 (.bool true) <|
 .look (opS Tryz.prog (.indexAddr ty_s_bool (.tmp 0) (.tmp 1)) ty_unit [(.slice x104.a x104.len x104.cap), (.int .i64 (w64 (x14.1 + y2.1)))]) (.one (.leaf .addr)) fun x109 =>
 .st x109 (.bool true) <|
 lkN p0 fun x111 =>
 .ld (x111.add 2) .bool fun x113 =>
 bif x113 then (
 .look (opS Tryz.prog (.indexAddr ty_s_int (.tmp 0) (.tmp 1)) ty_unit [(.slice x45.a x45.len x45.cap), (.int .i64 y2.1)]) (.one (.leaf .addr)) fun x116 =>
 .st x116 (.int .i64 0) <|
 .again 768 [(.int .i64 (w64 (y2.1 + 1)))])
 else (
 .again 768 [(.int .i64 (w64 (y2.1 + 1)))]))
 else (
 lkN p0 fun x95 =>
 .ld (x95.add 4) .slice fun x97 =>
 lkN p0 fun x102 =>
 .ld (x102.add 5) .slice fun x104 =>
 .look (opS Tryz.prog (.indexAddr ty_s_bool (.tmp 0) (.tmp 1)) ty_unit [(.slice x97.a x97.len x97.cap), (.int .i64 (w64 (x14.1 + y2.1)))]) (.one (.leaf .addr)) fun x108 =>
 .st x108 (.bool true) <|
 .look (opS Tryz.prog (.indexAddr ty_s_bool (.tmp 0) (.tmp 1)) ty_unit [(.slice x104.a x104.len x104.cap), (.int .i64 (w64 (x14.1 + y2.1)))]) (.one (.leaf .addr)) fun x109 =>
 .st x109 (.bool true) <|
 lkN p0 fun x111 =>
 .ld (x111.add 2) .bool fun x113 =>
 bif x113 then (
 .look (opS Tryz.prog (.indexAddr ty_s_int (.tmp 0) (.tmp 1)) ty_unit [(.slice x45.a x45.len x45.cap), (.int .i64 y2.1)]) (.one (.leaf .addr)) fun x116 =>
 .st x116 (.int .i64 0) <|
 .again 768 [(.int .i64 (w64 (y2.1 + 1)))])
 else (
 .again 768 [(.int .i64 (w64 (y2.1 + 1)))])))
 else (
 lkN p0 fun x119 =>
 .ld (x119.add 3) .map fun x121 =>
 lkN p0 fun x124 =>
 .ld (x124.add 6) .map fun x126 =>
 .act (opS Tryz.prog (.mapEntry ty_m_int_arena_slot (.tmp 0) (.tmp 1)) ty_unit [(.map x121), (.int .i64 x14.1)]) (.tup [(.agg [(.int .i64), (.int .i64)]), (.leaf (.int .i64))]) fun x131 =>
 .act (opS Tryz.prog (.entryStore ty_m_int_arena_slot (.tmp 0) (.tmp 1) (.tmp 2)) ty_unit [(.map x121), (.int .i64 x131.2.1), (.agg #[(.int .i64 p1), (.int .i64 1)])]) .unit fun _ =>
 .act (opS Tryz.prog (.mapEntry ty_m_int_int (.tmp 0) (.tmp 1)) ty_unit [(.map x126), (.int .i64 x14.1)]) (.tup [(.leaf (.int .i64)), (.leaf (.int .i64))]) fun x133 =>
 .act (opS Tryz.prog (.entryStore ty_m_int_int (.tmp 0) (.tmp 1) (.tmp 2)) ty_unit [(.map x126), (.int .i64 x133.2.1), (.int .i64 x14.2.1)]) .unit fun _ =>
 lkN p0 fun x136 =>
 .ld ((x136.add 7).add 1) (.int .i64) fun x139 =>
 lkN p0 fun x143 =>
 .st ((x143.add 7).add 1) (.int .i64 (w64 (x139 + ((x45.len : Nat) : Int)))) <|
 lkN p0 fun x147 =>
 .ld ((x147.add 7).add 3) (.int .i64) fun x150 =>
 lkN p0 fun x154 =>
 .st ((x154.add 7).add 3) (.int .i64 (w64 (x150 - ((x45.len : Nat) : Int)))) <|
 .ret (.bool true))
@[reducible] def t_arena_Arena_Born_L1_sh : List Sh1 := [(.leaf .bool), (.leaf (.int .i64))]
noncomputable def t_arena_Arena_Born_L1 (p0 : Option Addr) (p1 : Int) (x14 : HL Sh1.T [(.leaf (.int .i64)), (.leaf (.int .i64)), (.leaf (.int .i64)), (.leaf .bool)]) (x45 : Sl) (y1 : HL Sh1.T t_arena_Arena_Born_L1_sh) : Tree :=
 bif (decide ((y1.2.1 : Int) < ((x45.len : Nat) : Int))) then (
 lkN p0 fun x52 =>
 .ld (x52.add 4) .slice fun x54 =>
 .look (opS Tryz.prog (.indexAddr ty_s_bool (.tmp 0) (.tmp 1)) ty_unit [(.slice x54.a x54.len x54.cap), (.int .i64 (w64 (x14.1 + y1.2.1)))]) (.one (.leaf .addr)) fun x58 =>
 .ld x58 .bool fun x59 =>
 bif x59 then (
 .ret (.bool false))
 else (
 .again 384 [(.bool y1.1), (.int .i64 (w64 (y1.2.1 + 1)))]))
 else (
 .loop 768 t_arena_Arena_Born_L2_sh [(.int .i64 0)] (t_arena_Arena_Born_L2 p0 p1 x14 x45))
noncomputable def t_arena_Arena_Born (p0 : Option Addr) (p1 : Int) : Tree :=
 .qcall f_handle_Open [(.int .i64 p1)] (.tup [(.leaf (.int .i64)), (.leaf (.int .i64)), (.leaf (.int .i64)), (.leaf .bool)]) fun x14 =>
 bif (!x14.2.2.2.1) then (
 .ret (.bool false))
 else (
 lkN p0 fun x24 =>
 .ld (x24.add 1) .slice fun x26 =>
 .qcall f_handle_Size [(.int .i64 x14.2.2.1)] (.one (.leaf (.int .i64))) fun x29 =>
 bif (decide ((x14.1 : Int) > (w64 (((x26.len : Nat) : Int) - x29)))) then (
 .ret (.bool false))
 else (
 lkN p0 fun x36 =>
 .ld (x36.add 6) .map fun x38 =>
 .look (opS Tryz.prog (.lookup ty_m_int_int (.tmp 0) (.tmp 1) false) ty_int [(.map x38), (.int .i64 x14.1)]) (.one (.leaf (.int .i64))) fun x40 =>
 bif (decide ((x14.2.1 : Int) ≤ x40)) then (
 .ret (.bool false))
 else (
 .call f_arena_Arena_body [(.pointer p0), (.int .i64 p1)] (.one (.leaf .slice)) fun x45 =>
 .loop 384 t_arena_Arena_Born_L1_sh [(.bool false), (.int .i64 0)] (t_arena_Arena_Born_L1 p0 p1 x14 x45))))
theorem t_arena_Arena_Born_spec {p0 : Option Addr} {p1 : Int} : SpT f_arena_Arena_Born #[(.pointer p0), (.int .i64 p1)] (t_arena_Arena_Born p0 p1) := spT tcfg1 Tryz.func97 (by kernel_rfl)
noncomputable def t_magpielaw00_Place (p0 : Int) (p1 : Int) : Tree :=
 .look (opS Tryz.prog (.binOp .rem ty_int (.tmp 0) (.tmp 1) ty_int) ty_int [(.int .i64 p0), (.int .i64 p1)]) (.one (.leaf (.int .i64))) fun x8 =>
 bif (decide ((x8 : Int) < 0)) then (
 .ret (.int .i64 (w64 (x8 + p1))))
 else (
 .ret (.int .i64 x8))
theorem t_magpielaw00_Place_spec {p0 : Int} {p1 : Int} : SpT f_magpielaw00_Place #[(.int .i64 p0), (.int .i64 p1)] (t_magpielaw00_Place p0 p1) := spT tcfg1 Tryz.func10 (by kernel_rfl)
@[reducible] def t_handle_Pack_L1_sh : List Sh1 := [(.leaf (.int .i64)), (.leaf (.int .i64))]
noncomputable def t_handle_Pack_L1 (p0 : Int) (p1 : Int) (p2 : Int) (x8 : Addr) (y1 : HL Sh1.T t_handle_Pack_L1_sh) : Tree :=
 bif (decide ((y1.2.1 : Int) < 3)) then (
 .look (opS Tryz.prog (.index ty_a3_int (.tmp 0) (.tmp 1)) ty_int [(.agg #[(.int .i64 p2), (.int .i64 p1), (.int .i64 p0)]), (.int .i64 y1.2.1)]) (.one (.leaf (.int .i64))) fun x41 =>
 .look (opS Tryz.prog (.indexAddr ty_a3_int (.tmp 0) (.tmp 1)) ty_unit [(.pointer (some x8)), (.int .i64 y1.2.1)]) (.one (.leaf .addr)) fun x45 =>
 .ld x45 (.int .i64) fun x46 =>
 .look (opS Tryz.prog (.binOp .shl ty_int (.tmp 0) (.tmp 1) ty_int) ty_int [(.int .i64 x41), (.int .i64 x46)]) (.one (.leaf (.int .i64))) fun x47 =>
 .again 384 [(.int .i64 (ior y1.1 x47)), (.int .i64 (w64 (y1.2.1 + 1)))])
 else (
 .ret (.int .i64 y1.1))
noncomputable def t_handle_Pack (p0 : Int) (p1 : Int) (p2 : Int) : Tree :=
 bif (decide ((p0 : Int) < 0)) then (
 .ret (.int .i64 0))
 else (
 bif (decide ((p0 : Int) ≥ 65536)) then (
 .ret (.int .i64 0))
 else (
 bif (decide ((p1 : Int) < 1)) then (
 .ret (.int .i64 0))
 else (
 bif (decide ((p1 : Int) > 1073741823)) then (
 .ret (.int .i64 0))
 else (
 bif (decide ((p2 : Int) < 0)) then (
 .ret (.int .i64 0))
 else (
 bif (decide ((p2 : Int) ≥ 4)) then (
 .ret (.int .i64 0))
 else (
 .qcall f_handle_places [] (.one (.agg [(.int .i64), (.int .i64), (.int .i64)])) fun x33 =>
 .newP (.cells #[(.int .i64 0), (.int .i64 0), (.int .i64 0)] ty_a3_int) fun x8 =>
 .stA x8 [(.int .i64 x33.1), (.int .i64 x33.2.1), (.int .i64 x33.2.2.1)] <|
 .loop 384 t_handle_Pack_L1_sh [(.int .i64 1125899906842624), (.int .i64 0)] (t_handle_Pack_L1 p0 p1 p2 x8)))))))
theorem t_handle_Pack_spec {p0 : Int} {p1 : Int} {p2 : Int} : SpT f_handle_Pack #[(.int .i64 p0), (.int .i64 p1), (.int .i64 p2)] (t_handle_Pack p0 p1 p2) := spT tcfg1 Tryz.func96 (by kernel_rfl)
@[reducible] def t_handle_Open_L1_sh : List Sh1 := [(.leaf (.int .i64))]
noncomputable def t_handle_Open_L1 (p0 : Int) (x6 : Addr) (x7 : Addr) (x8 : Addr) (y1 : HL Sh1.T t_handle_Open_L1_sh) : Tree :=
 bif (decide ((y1.1 : Int) < 3)) then (
 .look (opS Tryz.prog (.indexAddr ty_a3_int (.tmp 0) (.tmp 1)) ty_unit [(.pointer (some x6)), (.int .i64 y1.1)]) (.one (.leaf .addr)) fun x18 =>
 .ld x18 (.int .i64) fun x19 =>
 .look (opS Tryz.prog (.binOp .shr ty_int (.tmp 0) (.tmp 1) ty_int) ty_int [(.int .i64 p0), (.int .i64 x19)]) (.one (.leaf (.int .i64))) fun x20 =>
 .look (opS Tryz.prog (.indexAddr ty_a3_int (.tmp 0) (.tmp 1)) ty_unit [(.pointer (some x7)), (.int .i64 y1.1)]) (.one (.leaf .addr)) fun x22 =>
 .ld x22 (.int .i64) fun x23 =>
 .look (opS Tryz.prog (.indexAddr ty_a3_int (.tmp 0) (.tmp 1)) ty_unit [(.pointer (some x8)), (.int .i64 y1.1)]) (.one (.leaf .addr)) fun x25 =>
 .st x25 (.int .i64 (iand x20 x23)) <|
 .again 256 [(.int .i64 (w64 (y1.1 + 1)))])
 else (
 .ld (x8.add 2) (.int .i64) fun x28 =>
 .ld (x8.add 1) (.int .i64) fun x30 =>
 .ld x8 (.int .i64) fun x32 =>
 bif ((p0 : Int) == 0) then (
 .ret (.tuple #[(.int .i64 0), (.int .i64 0), (.int .i64 0), (.bool false)]))
 else (
 .qcall f_handle_Pack [(.int .i64 x28), (.int .i64 x30), (.int .i64 x32)] (.one (.leaf (.int .i64))) fun x39 =>
 bif ((x39 : Int) != p0) then (
 .ret (.tuple #[(.int .i64 0), (.int .i64 0), (.int .i64 0), (.bool false)]))
 else (
 .ret (.tuple #[(.int .i64 x28), (.int .i64 x30), (.int .i64 x32), (.bool true)]))))
noncomputable def t_handle_Open (p0 : Int) : Tree :=
 .qcall f_handle_places [] (.one (.agg [(.int .i64), (.int .i64), (.int .i64)])) fun x10 =>
 .qcall f_handle_masks [] (.one (.agg [(.int .i64), (.int .i64), (.int .i64)])) fun x11 =>
 .newP (.cells #[(.int .i64 0), (.int .i64 0), (.int .i64 0)] ty_a3_int) fun x6 =>
 .newP (.cells #[(.int .i64 0), (.int .i64 0), (.int .i64 0)] ty_a3_int) fun x7 =>
 .stA x6 [(.int .i64 x10.1), (.int .i64 x10.2.1), (.int .i64 x10.2.2.1)] <|
 .stA x7 [(.int .i64 x11.1), (.int .i64 x11.2.1), (.int .i64 x11.2.2.1)] <|
 .newP (.cells #[(.int .i64 0), (.int .i64 0), (.int .i64 0)] ty_a3_int) fun x8 =>
 .loop 256 t_handle_Open_L1_sh [(.int .i64 0)] (t_handle_Open_L1 p0 x6 x7 x8)
theorem t_handle_Open_spec {p0 : Int} : SpT f_handle_Open #[(.int .i64 p0)] (t_handle_Open p0) := spT tcfg1 Tryz.func70 (by kernel_rfl)
noncomputable def t_handle_places : Tree :=
 .newP (.cells #[(.int .i64 0), (.int .i64 0), (.int .i64 0)] ty_a3_int) fun x0 =>
 .stA x0 [(.int .i64 0), (.int .i64 2), (.int .i64 32)] <|
 .look (ldK x0 3 0 #[] fun r0 => .pure (.value (.agg r0))) (.one (.agg [(.int .i64), (.int .i64), (.int .i64)])) fun r => .ret (Sh.toVal (.one (.agg [(.int .i64), (.int .i64), (.int .i64)])) r)
theorem t_handle_places_spec : SpT f_handle_places #[] (t_handle_places ) := spT tcfg1 Tryz.func104 (by kernel_rfl)
noncomputable def t_handle_masks : Tree :=
 .newP (.cells #[(.int .i64 0), (.int .i64 0), (.int .i64 0)] ty_a3_int) fun x0 =>
 .stA x0 [(.int .i64 3), (.int .i64 1073741823), (.int .i64 262143)] <|
 .look (ldK x0 3 0 #[] fun r0 => .pure (.value (.agg r0))) (.one (.agg [(.int .i64), (.int .i64), (.int .i64)])) fun r => .ret (Sh.toVal (.one (.agg [(.int .i64), (.int .i64), (.int .i64)])) r)
theorem t_handle_masks_spec : SpT f_handle_masks #[] (t_handle_masks ) := spT tcfg1 Tryz.func105 (by kernel_rfl)
noncomputable def t_handle_Size (p0 : Int) : Tree :=
 bif (decide ((p0 : Int) < 0)) then (
 .ret (.int .i64 0))
 else (
 bif (decide ((p0 : Int) ≥ 4)) then (
 .ret (.int .i64 0))
 else (
 .look (opS Tryz.prog (.binOp .shl ty_int (.const (.int .i64 8)) (.tmp 0) ty_int) ty_int [(.int .i64 p0)]) (.one (.leaf (.int .i64))) fun x10 =>
 .ret (.int .i64 x10)))
theorem t_handle_Size_spec {p0 : Int} : SpT f_handle_Size #[(.int .i64 p0)] (t_handle_Size p0) := spT tcfg1 Tryz.func74 (by kernel_rfl)
end Go.Proofs.YtjnacjniiogjcaaGreat
namespace Go.Fw
open Go
theorem w64_nat {n : Nat} (h : n < 9223372036854775808) : w64 (n : Int) = n := w64_in (by omega) (by omega)
theorem ofInt_nat (n : Nat) : BitVec.ofInt 64 (n : Int) = BitVec.ofNat 64 n := by
  apply BitVec.eq_of_toNat_eq; simp
theorem ior_nat {x y : Nat} (hx : x < 2 ^ 63) (hy : y < 2 ^ 63) : ior (x : Int) (y : Int) = ((x ||| y : Nat) : Int) := by
  unfold ior
  rw [ofInt_nat, ofInt_nat, BitVec.toNat_or, BitVec.toNat_ofNat, BitVec.toNat_ofNat, Nat.mod_eq_of_lt (by omega), Nat.mod_eq_of_lt (by omega)]
  have := Nat.or_lt_two_pow hx hy
  exact w64_nat (by omega)
theorem iand_mask (x : Int) (k : Nat) (hk : k ≤ 62) : iand x ((2 ^ k - 1 : Nat) : Int) = x % (2 ^ k : Nat) := by
  unfold iand
  have hlt : 2 ^ k ≤ 2 ^ 62 := Nat.pow_le_pow_right (by omega) hk
  have hpos : 0 < 2 ^ k := Nat.two_pow_pos k
  rw [ofInt_nat, BitVec.toNat_and, BitVec.toNat_ofNat, Nat.mod_eq_of_lt (by omega : 2 ^ k - 1 < 2 ^ 64), Nat.and_two_pow_sub_one_eq_mod, BitVec.toNat_ofInt]
  have h1 : (((x % ((2 ^ 64 : Nat) : Int)).toNat % 2 ^ k : Nat) : Int) = x % ((2 ^ k : Nat) : Int) := by
    have hnn : 0 ≤ x % ((2 ^ 64 : Nat) : Int) := Int.emod_nonneg _ (by decide)
    rw [Int.natCast_emod, Int.toNat_of_nonneg hnn, Int.emod_emod_of_dvd]
    exact Int.natCast_dvd_natCast.2 (Nat.pow_dvd_pow 2 (by omega))
  rw [h1]
  have h2 := Int.emod_nonneg x (b := ((2 ^ k : Nat) : Int)) (by omega)
  have h3 := Int.emod_lt_of_pos x (b := ((2 ^ k : Nat) : Int)) (by omega)
  exact w64_in (by omega) (by omega)
def packN (b g c : Int) : Int := 1125899906842624 + c + 4 * g + 4294967296 * b
def validN (b g c : Int) : Prop := 0 ≤ b ∧ b < 65536 ∧ 1 ≤ g ∧ g ≤ 1073741823 ∧ 0 ≤ c ∧ c < 4
instance (b g c : Int) : Decidable (validN b g c) := by unfold validN; infer_instance
def packF (b g c : Int) : Int := if validN b g c then packN b g c else 0
def oBase (h : Int) : Int := (h / 4294967296) % 262144
def oGen (h : Int) : Int := (h / 4) % 1073741824
def oClass (h : Int) : Int := h % 4
def openOk (h : Int) : Bool := decide (h ≠ 0 ∧ packF (oBase h) (oGen h) (oClass h) = h)
theorem open_pack {b g c : Int} (h : validN b g c) : oBase (packN b g c) = b ∧ oGen (packN b g c) = g ∧ oClass (packN b g c) = c ∧ openOk (packN b g c) = true := by
  obtain ⟨h1, h2, h3, h4, h5, h6⟩ := h
  have e1 : oBase (packN b g c) = b := by unfold oBase packN; omega
  have e2 : oGen (packN b g c) = g := by unfold oGen packN; omega
  have e3 : oClass (packN b g c) = c := by unfold oClass packN; omega
  refine ⟨e1, e2, e3, ?_⟩
  unfold openOk
  rw [e1, e2, e3, packF, if_pos ⟨h1, h2, h3, h4, h5, h6⟩]
  simp only [decide_eq_true_eq, and_true]
  unfold packN; omega
theorem open_ok {h : Int} (hk : openOk h = true) : validN (oBase h) (oGen h) (oClass h) ∧ h = packN (oBase h) (oGen h) (oClass h) := by
  unfold openOk at hk
  simp only [decide_eq_true_eq] at hk
  obtain ⟨h0, h1⟩ := hk
  unfold packF at h1
  split at h1
  · rename_i hv; exact ⟨hv, h1.symm⟩
  · exact absurd h1.symm h0
theorem or_step1 (c : Nat) (hc : c < 4) : 1125899906842624 ||| c = 1125899906842624 + c := by
  have := Nat.two_pow_add_eq_or_of_lt (i := 50) (b := c) (by omega) 1; simp only [Nat.reducePow, Nat.mul_one] at this
  omega
theorem or_step2 (c g : Nat) (hc : c < 4) (hg : g < 1073741824) : (1125899906842624 + c) ||| (4 * g) = 1125899906842624 + c + 4 * g := by
  have h1 := Nat.two_pow_add_eq_or_of_lt (i := 2) (b := c) (by omega) g; simp only [Nat.reducePow] at h1
  have h2 := Nat.two_pow_add_eq_or_of_lt (i := 50) (b := 4 * g + c) (by omega) 1; simp only [Nat.reducePow, Nat.mul_one] at h2
  rw [← or_step1 c hc, Nat.or_assoc, Nat.or_comm c]
  have e : 4 * g ||| c = 4 * g + c := by omega
  have h3 := or_step1 c hc
  rw [e]; omega
theorem or_step3 (c g b : Nat) (hc : c < 4) (hg : g < 1073741824) (hb : b < 262144) : (1125899906842624 + c + 4 * g) ||| (4294967296 * b) = 1125899906842624 + c + 4 * g + 4294967296 * b := by
  have h1 := Nat.two_pow_add_eq_or_of_lt (i := 32) (b := 4 * g + c) (by omega) b; simp only [Nat.reducePow] at h1
  have h2 := Nat.two_pow_add_eq_or_of_lt (i := 50) (b := 4294967296 * b + (4 * g + c)) (by omega) 1; simp only [Nat.reducePow, Nat.mul_one] at h2
  have h3 := Nat.two_pow_add_eq_or_of_lt (i := 50) (b := 4 * g + c) (by omega) 1; simp only [Nat.reducePow, Nat.mul_one] at h3
  have e0 : 1125899906842624 + c + 4 * g = 1125899906842624 ||| (4 * g + c) := by omega
  rw [e0, Nat.or_assoc, Nat.or_comm (4 * g + c)]
  have e : 4294967296 * b ||| (4 * g + c) = 4294967296 * b + (4 * g + c) := by omega
  rw [e]; omega
theorem ior1 {c : Nat} (hc : c < 4) : ior 1125899906842624 (c : Int) = 1125899906842624 + (c : Int) := by
  have h := ior_nat (x := 1125899906842624) (y := c) (by omega) (by omega)
  rw [or_step1 c hc] at h
  have e : ((1125899906842624 + c : Nat) : Int) = 1125899906842624 + (c : Int) := by omega
  rw [e] at h; exact h
theorem ior2 {c g : Nat} (hc : c < 4) (hg : g < 1073741824) : ior (1125899906842624 + (c : Int)) ((4 * g : Nat) : Int) = 1125899906842624 + (c : Int) + 4 * (g : Int) := by
  have h := ior_nat (x := 1125899906842624 + c) (y := 4 * g) (by omega) (by omega)
  rw [or_step2 c g hc hg] at h
  have e : ((1125899906842624 + c : Nat) : Int) = 1125899906842624 + (c : Int) := by omega
  have e' : ((1125899906842624 + c + 4 * g : Nat) : Int) = 1125899906842624 + (c : Int) + 4 * (g : Int) := by omega
  rw [e, e'] at h; exact h
theorem ior3 {c g b : Nat} (hc : c < 4) (hg : g < 1073741824) (hb : b < 262144) : ior (1125899906842624 + (c : Int) + 4 * (g : Int)) ((4294967296 * b : Nat) : Int) = packN b g c := by
  have h := ior_nat (x := 1125899906842624 + c + 4 * g) (y := 4294967296 * b) (by omega) (by omega)
  rw [or_step3 c g b hc hg hb] at h
  have e : ((1125899906842624 + c + 4 * g : Nat) : Int) = 1125899906842624 + (c : Int) + 4 * (g : Int) := by omega
  have e' : ((1125899906842624 + c + 4 * g + 4294967296 * b : Nat) : Int) = packN b g c := by unfold packN; omega
  rw [e, e'] at h; exact h
theorem shl0 {c : Nat} (hc : c < 4) : w64 ((c : Int) * 2 ^ (min (Int.toNat 0) 64)) = (c : Int) := by
  rw [show min (Int.toNat 0) 64 = 0 from rfl, Int.pow_zero, Int.mul_one]; exact w64_nat (by omega)
theorem shl2 {g : Nat} (hg : g < 1073741824) : w64 ((g : Int) * 2 ^ (min (Int.toNat 2) 64)) = ((4 * g : Nat) : Int) := by
  rw [show (2 : Int) ^ (min (Int.toNat 2) 64) = 4 from rfl, show (g : Int) * 4 = ((4 * g : Nat) : Int) by omega]; exact w64_nat (by omega)
theorem shl32 {b : Nat} (hb : b < 262144) : w64 ((b : Int) * 2 ^ (min (Int.toNat 32) 64)) = ((4294967296 * b : Nat) : Int) := by
  rw [show (2 : Int) ^ (min (Int.toNat 32) 64) = 4294967296 from rfl, show (b : Int) * 4294967296 = ((4294967296 * b : Nat) : Int) by omega]; exact w64_nat (by omega)
theorem w64_1 : w64 (0 + 1) = 1 := w64_in (by omega) (by omega)
theorem w64_2 : w64 (1 + 1) = 2 := w64_in (by omega) (by omega)
theorem w64_3 : w64 (2 + 1) = 3 := w64_in (by omega) (by omega)
def sizeF (c : Int) : Int := if c < 0 then 0 else if c ≥ 4 then 0 else 8 * 2 ^ c.toNat
theorem sizeF_cases {c : Int} (h0 : 0 ≤ c) (h1 : c < 4) : (c = 0 ∧ sizeF c = 8) ∨ (c = 1 ∧ sizeF c = 16) ∨ (c = 2 ∧ sizeF c = 32) ∨ (c = 3 ∧ sizeF c = 64) := by
  have : c = 0 ∨ c = 1 ∨ c = 2 ∨ c = 3 := by omega
  rcases this with rfl | rfl | rfl | rfl <;> simp [sizeF]
end Go.Fw
namespace Go.Proofs.YtjnacjniiogjcaaGreat
open Go Go.Fw
theorem tmod_place (v n : Int) (hn : 0 < n) : (if v.tmod n < 0 then v.tmod n + n else v.tmod n) = v % n := by
  have h1 := Int.emod_nonneg v (by omega : n ≠ 0)
  have h2 := Int.emod_lt_of_pos v hn
  have h3 := Int.tmod_eq_emod (a := v) (b := n)
  rw [h3]
  split at h3 <;> rename_i h
  · rw [if_pos h]; simp; omega
  · rw [if_neg h]
    have : (n.natAbs : Int) = n := by omega
    split <;> omega
theorem Place_det (v n : Int) (hn : 0 < n) (hn2 : n ≤ 4611686018427387904) (H : Heap) : Det Tryz.prog f_magpielaw00_Place [.int .i64 v, .int .i64 n] H (.int .i64 (v % n)) H := by
  refine t_magpielaw00_Place_spec fun L => ?_
  unfold t_magpielaw00_Place
  refine look_val (x := v.tmod n) (opS_rem (by omega)) ?_
  rw [wp_bif]
  have h := tmod_place v n hn
  have h1 := Int.emod_nonneg v (by omega : n ≠ 0)
  have h2 := Int.emod_lt_of_pos v hn
  constructor
  · intro hb
    rw [decide_eq_true_eq] at hb
    rw [if_pos hb] at h
    refine wp_ret_of ⟨?_, rfl⟩
    rw [w64_in (by omega) (by omega), h]
  · intro hb
    rw [decide_eq_false_iff_not] at hb
    rw [if_neg hb] at h
    exact wp_ret_of ⟨by rw [h], rfl⟩
theorem places_det (H : Heap) : Det Tryz.prog f_handle_places [] H (.agg #[.int .i64 0, .int .i64 2, .int .i64 32]) H := by
  refine t_handle_places_spec fun L => ?_
  unfold t_handle_places
  refine wp_newP fun b hb => ?_
  refine wp_stA_of (Heap.set_same _ _ _) (by simp) (by simp [Value.single]) ?_
  rw [Heap.set_set]
  refine ⟨(0, 2, 32, ()), ldK_still (Heap.set_same _ _ _) 3 0 #[] (by simp [putAll]) rfl, H, Heap.le_set_new _ hb, rfl, rfl⟩
theorem masks_det (H : Heap) : Det Tryz.prog f_handle_masks [] H (.agg #[.int .i64 3, .int .i64 1073741823, .int .i64 262143]) H := by
  refine t_handle_masks_spec fun L => ?_
  unfold t_handle_masks
  refine wp_newP fun b hb => ?_
  refine wp_stA_of (Heap.set_same _ _ _) (by simp) (by simp [Value.single]) ?_
  rw [Heap.set_set]
  refine ⟨(3, 1073741823, 262143, ()), ldK_still (Heap.set_same _ _ _) 3 0 #[] (by simp [putAll]) rfl, H, Heap.le_set_new _ hb, rfl, rfl⟩
theorem Size_det (c : Int) (H : Heap) : Det Tryz.prog f_handle_Size [.int .i64 c] H (.int .i64 (sizeF c)) H := by
  refine t_handle_Size_spec fun L => ?_
  unfold t_handle_Size
  simp only [wp_bif, decide_eq_true_eq, decide_eq_false_iff_not]
  refine ⟨fun h => wp_ret_of ⟨by simp [sizeF, h], rfl⟩, fun h => ⟨fun h' => wp_ret_of ⟨by simp [sizeF, h, h'], rfl⟩, fun h' => ?_⟩⟩
  have : c = 0 ∨ c = 1 ∨ c = 2 ∨ c = 3 := by omega
  rcases this with rfl | rfl | rfl | rfl
  all_goals exact look_val (x := (sizeF _ : Int)) (by kernel_rfl) (wp_ret_of ⟨rfl, rfl⟩)
theorem Pack_det (b g c : Int) (H : Heap) : Det Tryz.prog f_handle_Pack [.int .i64 b, .int .i64 g, .int .i64 c] H (.int .i64 (packF b g c)) H := by
  refine t_handle_Pack_spec fun L => ?_
  unfold t_handle_Pack
  simp only [wp_bif, decide_eq_true_eq, decide_eq_false_iff_not]
  have no : ¬ validN b g c → wp Tryz.prog (.ret (.int .i64 0)) L H (fun u K => u = .int .i64 (packF b g c) ∧ K = H) := fun h => wp_ret_of ⟨by rw [packF, if_neg h], rfl⟩
  refine ⟨fun h => no (by unfold validN; omega), fun h0 => ⟨fun h => no (by unfold validN; omega), fun h1 => ⟨fun h => no (by unfold validN; omega), fun h2 => ⟨fun h => no (by unfold validN; omega), fun h3 =>
    ⟨fun h => no (by unfold validN; omega), fun h4 => ⟨fun h => no (by unfold validN; omega), fun h5 => ?_⟩⟩⟩⟩⟩⟩
  have hv : validN b g c := by unfold validN; omega
  refine wp_qcall_det (x := (0, 2, 32, ())) (places_det H) ?_
  refine wp_newP fun x hx => ?_
  refine wp_stA_of (Heap.set_same _ _ _) (by simp) (by simp [Value.single]) ?_
  rw [Heap.set_set]
  obtain ⟨b, rfl⟩ := Int.eq_ofNat_of_zero_le (by omega : 0 ≤ b)
  obtain ⟨g, rfl⟩ := Int.eq_ofNat_of_zero_le (by omega : 0 ≤ g)
  obtain ⟨c, rfl⟩ := Int.eq_ofNat_of_zero_le (by omega : 0 ≤ c)
  have e1 := or_step1 c (by omega)
  have e2 := or_step2 c g (by omega) (by omega)
  have e3 := or_step3 c g b (by omega) (by omega) (by omega)
  have s0 : (opS Tryz.prog (.index ty_a3_int (.tmp 0) (.tmp 1)) ty_int [(.agg #[(.int .i64 c), (.int .i64 g), (.int .i64 b)]), (.int .i64 0)]) = .pure (.value (.int .i64 c)) := by kernel_rfl
  have s1 : (opS Tryz.prog (.index ty_a3_int (.tmp 0) (.tmp 1)) ty_int [(.agg #[(.int .i64 c), (.int .i64 g), (.int .i64 b)]), (.int .i64 1)]) = .pure (.value (.int .i64 g)) := by kernel_rfl
  have s2 : (opS Tryz.prog (.index ty_a3_int (.tmp 0) (.tmp 1)) ty_int [(.agg #[(.int .i64 c), (.int .i64 g), (.int .i64 b)]), (.int .i64 2)]) = .pure (.value (.int .i64 b)) := by kernel_rfl
  have t0 : ∀ a, (opS Tryz.prog (.indexAddr ty_a3_int (.tmp 0) (.tmp 1)) ty_unit [(.pointer (some a)), (.int .i64 0)]) = .pure (.value (.pointer (some (a.add 0)))) := fun a => by kernel_rfl
  have t1 : ∀ a, (opS Tryz.prog (.indexAddr ty_a3_int (.tmp 0) (.tmp 1)) ty_unit [(.pointer (some a)), (.int .i64 1)]) = .pure (.value (.pointer (some (a.add 1)))) := fun a => by kernel_rfl
  have t2 : ∀ a, (opS Tryz.prog (.indexAddr ty_a3_int (.tmp 0) (.tmp 1)) ty_unit [(.pointer (some a)), (.int .i64 2)]) = .pure (.value (.pointer (some (a.add 2)))) := fun a => by kernel_rfl
  -- round 0
  refine wp_loop_unroll (1125899906842624, 0, ()) rfl ?_
  rw [t_handle_Pack_L1]
  rw [show (decide ((0 : Int) < 3)) = true from rfl, cond_true]
  refine look_val (x := (c : Int)) s0 ?_
  refine look_val (x := ⟨x, 0, none⟩) (t0 _) ?_
  refine wp_ld_of (x := (0 : Int)) (by rw [Heap.cell_set]; rfl) ?_
  refine look_val (x := (c : Int)) (by rw [opS_shl (by omega), shl0 (by omega)]) ?_
  refine wp_again ?_
  rw [ior1 (by omega), w64_1]
  -- round 1
  refine wp_loop_unroll (1125899906842624 + c, 1, ()) rfl ?_
  rw [t_handle_Pack_L1]
  rw [show (decide ((1 : Int) < 3)) = true from rfl, cond_true]
  refine look_val (x := (g : Int)) s1 ?_
  refine look_val (x := ⟨x, 1, none⟩) (t1 _) ?_
  refine wp_ld_of (x := (2 : Int)) (by rw [Heap.cell_set]; rfl) ?_
  refine look_val (x := ((4 * g : Nat) : Int)) (by rw [opS_shl (by omega), shl2 (by omega)]) ?_
  refine wp_again ?_
  rw [ior2 (by omega) (by omega), w64_2]
  -- round 2
  refine wp_loop_unroll (1125899906842624 + c + 4 * g, 2, ()) rfl ?_
  rw [t_handle_Pack_L1]
  rw [show (decide ((2 : Int) < 3)) = true from rfl, cond_true]
  refine look_val (x := (b : Int)) s2 ?_
  refine look_val (x := ⟨x, 2, none⟩) (t2 _) ?_
  refine wp_ld_of (x := (32 : Int)) (by rw [Heap.cell_set]; rfl) ?_
  refine look_val (x := ((4294967296 * b : Nat) : Int)) (by rw [opS_shl (by omega), shl32 (by omega)]) ?_
  refine wp_again ?_
  rw [ior3 (by omega) (by omega) (by omega), w64_3]
  refine wp_loop_unroll (packN b g c, 3, ()) rfl ?_
  rw [t_handle_Pack_L1]
  rw [show (decide ((3 : Int) < 3)) = false from rfl, cond_false]
  exact ⟨H, Heap.le_set_new _ hx, by rw [packF, if_pos hv], rfl⟩
def openV (h : Int) : Value := if openOk h then .tuple #[.int .i64 (oBase h), .int .i64 (oGen h), .int .i64 (oClass h), .bool true] else .tuple #[.int .i64 0, .int .i64 0, .int .i64 0, .bool false]
theorem shr0 (h : Int) : h.fdiv (2 ^ (min (Int.toNat 0) 64)) = h := by
  rw [show (2 : Int) ^ (min (Int.toNat 0) 64) = 1 from rfl]; simp
theorem shr2 (h : Int) : h.fdiv (2 ^ (min (Int.toNat 2) 64)) = h / 4 := by
  rw [show (2 : Int) ^ (min (Int.toNat 2) 64) = 4 from rfl, Int.fdiv_eq_ediv_of_nonneg _ (by omega)]
theorem shr32 (h : Int) : h.fdiv (2 ^ (min (Int.toNat 32) 64)) = h / 4294967296 := by
  rw [show (2 : Int) ^ (min (Int.toNat 32) 64) = 4294967296 from rfl, Int.fdiv_eq_ediv_of_nonneg _ (by omega)]
theorem mask2 (x : Int) : iand x 3 = x % 4 := iand_mask x 2 (by omega)
theorem mask30 (x : Int) : iand x 1073741823 = x % 1073741824 := iand_mask x 30 (by omega)
theorem mask18 (x : Int) : iand x 262143 = x % 262144 := iand_mask x 18 (by omega)
theorem Open_det (h : Int) (H : Heap) : Det Tryz.prog f_handle_Open [.int .i64 h] H (openV h) H := by
  refine t_handle_Open_spec fun L => ?_
  unfold t_handle_Open
  refine wp_qcall_det (x := (0, 2, 32, ())) (places_det H) ?_
  refine wp_qcall_det (x := (3, 1073741823, 262143, ())) (masks_det H) ?_
  refine wp_newP fun a ha => ?_
  refine wp_newP fun m hm => ?_
  have hma : m ≠ a := fun e => by subst e; simp [Heap.set] at hm
  have ham : a ≠ m := fun e => hma e.symm
  refine wp_stA_of (c := #[.int .i64 0, .int .i64 0, .int .i64 0]) (T := ty_a3_int) (by rw [Heap.set_ne _ _ ham, Heap.set_same]) (by simp) (by simp [Value.single]) ?_
  refine wp_stA_of (c := #[.int .i64 0, .int .i64 0, .int .i64 0]) (T := ty_a3_int) (by rw [Heap.set_ne _ _ hma, Heap.set_same]) (by simp) (by simp [Value.single]) ?_
  refine wp_newP fun l hl => ?_
  have hla : l ≠ a := fun e => by subst e; rw [Heap.set_ne _ _ ham, Heap.set_same] at hl; cases hl
  have hlm : l ≠ m := fun e => by subst e; rw [Heap.set_same] at hl; cases hl
  have hl0 : H l = none := by
    rw [Heap.set_ne _ _ hlm, Heap.set_ne _ _ hla, Heap.set_ne _ _ hlm, Heap.set_ne _ _ hla] at hl; exact hl
  have hm0 : H m = none := by rw [Heap.set_ne _ _ hma] at hm; exact hm
  -- the heap at the loop
  generalize hK : ((((H.set a _).set m _).set a _).set m _) = K
  have Ka : K a = some (.cells #[.int .i64 0, .int .i64 2, .int .i64 32] ty_a3_int (0, 0)) := by rw [← hK, Heap.set_ne _ _ ham, Heap.set_same]; rfl
  have Km : K m = some (.cells #[.int .i64 3, .int .i64 1073741823, .int .i64 262143] ty_a3_int (0, 0)) := by rw [← hK, Heap.set_same]; rfl
  have hle : H.le K := fun b o e => by
    have h1 : b ≠ a := fun e' => by subst e'; rw [ha] at e; cases e
    have h2 : b ≠ m := fun e' => by subst e'; rw [hm0] at e; cases e
    rw [← hK, Heap.set_ne _ _ h2, Heap.set_ne _ _ h1, Heap.set_ne _ _ h2, Heap.set_ne _ _ h1]; exact e
  have hle' : ∀ o, H.le (K.set l o) := fun o b o' e => by
    have h1 : b ≠ l := fun e' => by subst e'; rw [hl0] at e; cases e
    rw [Heap.set_ne _ _ h1]; exact hle b o' e
  clear hK
  have t0 : ∀ a, (opS Tryz.prog (.indexAddr ty_a3_int (.tmp 0) (.tmp 1)) ty_unit [(.pointer (some a)), (.int .i64 0)]) = .pure (.value (.pointer (some (a.add 0)))) := fun a => by kernel_rfl
  have t1 : ∀ a, (opS Tryz.prog (.indexAddr ty_a3_int (.tmp 0) (.tmp 1)) ty_unit [(.pointer (some a)), (.int .i64 1)]) = .pure (.value (.pointer (some (a.add 1)))) := fun a => by kernel_rfl
  have t2 : ∀ a, (opS Tryz.prog (.indexAddr ty_a3_int (.tmp 0) (.tmp 1)) ty_unit [(.pointer (some a)), (.int .i64 2)]) = .pure (.value (.pointer (some (a.add 2)))) := fun a => by kernel_rfl
  refine wp_loop_unroll (0, ()) rfl ?_
  rw [t_handle_Open_L1, show (decide ((0 : Int) < 3)) = true from rfl, cond_true]
  refine look_val (x := ⟨a, 0, none⟩) (t0 _) ?_
  refine wp_ld_of (x := (0 : Int)) (by rw [Heap.cell_ne hla.symm, Heap.cell_of Ka]; rfl) ?_
  refine look_val (x := (h : Int)) (by rw [opS_shr (by omega), shr0]) ?_
  refine look_val (x := ⟨m, 0, none⟩) (t0 _) ?_
  refine wp_ld_of (x := (3 : Int)) (by rw [Heap.cell_ne hlm.symm, Heap.cell_of Km]; rfl) ?_
  refine look_val (x := ⟨l, 0, none⟩) (t0 _) ?_
  refine wp_st_of (Heap.set_same _ _ _) rfl rfl ?_
  rw [Heap.set_set, w64_1, mask2]
  refine wp_again ?_
  refine wp_loop_unroll (1, ()) rfl ?_
  rw [t_handle_Open_L1, show (decide ((1 : Int) < 3)) = true from rfl, cond_true]
  refine look_val (x := ⟨a, 1, none⟩) (t1 _) ?_
  refine wp_ld_of (x := (2 : Int)) (by rw [Heap.cell_ne hla.symm, Heap.cell_of Ka]; rfl) ?_
  refine look_val (x := (h / 4 : Int)) (by rw [opS_shr (by omega), shr2]) ?_
  refine look_val (x := ⟨m, 1, none⟩) (t1 _) ?_
  refine wp_ld_of (x := (1073741823 : Int)) (by rw [Heap.cell_ne hlm.symm, Heap.cell_of Km]; rfl) ?_
  refine look_val (x := ⟨l, 1, none⟩) (t1 _) ?_
  refine wp_st_of (Heap.set_same _ _ _) rfl rfl ?_
  rw [Heap.set_set, w64_2, mask30]
  refine wp_again ?_
  refine wp_loop_unroll (2, ()) rfl ?_
  rw [t_handle_Open_L1, show (decide ((2 : Int) < 3)) = true from rfl, cond_true]
  refine look_val (x := ⟨a, 2, none⟩) (t2 _) ?_
  refine wp_ld_of (x := (32 : Int)) (by rw [Heap.cell_ne hla.symm, Heap.cell_of Ka]; rfl) ?_
  refine look_val (x := (h / 4294967296 : Int)) (by rw [opS_shr (by omega), shr32]) ?_
  refine look_val (x := ⟨m, 2, none⟩) (t2 _) ?_
  refine wp_ld_of (x := (262143 : Int)) (by rw [Heap.cell_ne hlm.symm, Heap.cell_of Km]; rfl) ?_
  refine look_val (x := ⟨l, 2, none⟩) (t2 _) ?_
  refine wp_st_of (Heap.set_same _ _ _) rfl rfl ?_
  rw [Heap.set_set, w64_3, mask18]
  refine wp_again ?_
  refine wp_loop_unroll (3, ()) rfl ?_
  rw [t_handle_Open_L1, show (decide ((3 : Int) < 3)) = false from rfl, cond_false]
  refine wp_ld_of (x := oBase h) (by rw [Addr.add_mk, Heap.cell_set]; rfl) ?_
  refine wp_ld_of (x := oGen h) (by rw [Addr.add_mk, Heap.cell_set]; rfl) ?_
  refine wp_ld_of (x := oClass h) (by rw [Heap.cell_set]; rfl) ?_
  rw [wp_bif]
  have no : openOk h = false → wp Tryz.prog (.ret (.tuple #[(.int .i64 0), (.int .i64 0), (.int .i64 0), (.bool false)])) L
      (K.set l (.cells #[.int .i64 (h % 4), .int .i64 (h / 4 % 1073741824), .int .i64 (h / 4294967296 % 262144)] ty_a3_int (0, 0))) (fun u K => u = openV h ∧ K = H) := fun hk => ⟨H, hle' _, by rw [openV, hk]; rfl, rfl⟩
  refine ⟨fun h0 => no ?_, fun h0 => ?_⟩
  · unfold openOk; simp only [beq_iff_eq] at h0; simp [h0]
  · refine wp_qcall_det (x := packF (oBase h) (oGen h) (oClass h)) (Pack_det _ _ _ _) ?_
    rw [wp_bif]
    simp only [beq_eq_false_iff_ne] at h0
    refine ⟨fun h1 => no ?_, fun h1 => ?_⟩
    · unfold openOk; simp only [bne_iff_ne] at h1; simp [h1]
    · have hk : openOk h = true := by
        unfold openOk; simp only [bne_eq_false_iff_eq] at h1; simp [h0, h1]
      exact ⟨H, hle' _, by rw [openV, hk]; rfl, rfl⟩
theorem Open_at {h : Int} {v : Value} (H : Heap) (e : openV h = v) : Det Tryz.prog f_handle_Open [.int .i64 h] H v H := e ▸ Open_det h H
theorem Pack_at {b g c v : Int} (H : Heap) (e : packF b g c = v) : Det Tryz.prog f_handle_Pack [.int .i64 b, .int .i64 g, .int .i64 c] H (.int .i64 v) H := e ▸ Pack_det b g c H
theorem openV_bad {h : Int} (hk : openOk h = false) : openV h = .tuple #[.int .i64 0, .int .i64 0, .int .i64 0, .bool false] := by
  rw [openV, hk]; rfl
structure Ar where
  a : Nat
  r : Nat
  w : Nat
  s : Nat
  b : Nat
  c : Nat
  g : Nat
  raw : List Int
  words : List Int
  fresh : Bool
  slots : List (Int × (Int × Int))
  busy : List Bool
  carved : List Bool
  gens : List (Int × Int)
  nC : Int
  nL : Int
  nR : Int
  nF : Int
  fault : Bool
  uses : Int
def encSlot (p : Int × Int) : Value := .agg #[.int .i64 p.1, .int .i64 p.2]
def encInt (n : Int) : Value := .int .i64 n
def ints (l : List Int) : Array Value := (l.map (Value.int .i64)).toArray
def bools (l : List Bool) : Array Value := (l.map Value.bool).toArray
namespace Ar
def arrA (A : Ar) : Array Value := #[.slice (some ⟨A.r, 0, none⟩) A.raw.length A.raw.length, .slice (some ⟨A.w, 0, none⟩) A.words.length A.words.length, .bool A.fresh, .map (some A.s),
  .slice (some ⟨A.b, 0, none⟩) A.busy.length A.busy.length, .slice (some ⟨A.c, 0, none⟩) A.carved.length A.carved.length, .map (some A.g),
  .int .i64 A.nC, .int .i64 A.nL, .int .i64 A.nR, .int .i64 A.nF, .bool A.fault, .int .i64 A.uses]
def objA (A : Ar) : Obj := .cells A.arrA ty_arena_Arena (0, 0)
def objR (A : Ar) : Obj := .cells (ints A.raw) ty_int (0, 0)
def objW (A : Ar) : Obj := .cells (ints A.words) ty_int (0, 0)
def objS (A : Ar) : Obj := mapObj encSlot A.slots
def objB (A : Ar) : Obj := .cells (bools A.busy) ty_bool (0, 0)
def objC (A : Ar) : Obj := .cells (bools A.carved) ty_bool (0, 0)
def objG (A : Ar) : Obj := mapObj encInt A.gens
def ids (A : Ar) : List Nat := [A.a, A.r, A.w, A.s, A.b, A.c, A.g]
def nd (A : Ar) : Prop := A.ids.Nodup
def put (A : Ar) (H : Heap) : Heap := fun x =>
  if x = A.a then some A.objA else if x = A.r then some A.objR else if x = A.w then some A.objW else if x = A.s then some A.objS else if x = A.b then some A.objB else
  if x = A.c then some A.objC else if x = A.g then some A.objG else H x
theorem ne (A : Ar) (h : A.nd) : A.r ≠ A.a ∧ A.w ≠ A.a ∧ A.w ≠ A.r ∧ A.s ≠ A.a ∧ A.s ≠ A.r ∧ A.s ≠ A.w ∧ A.b ≠ A.a ∧ A.b ≠ A.r ∧ A.b ≠ A.w ∧ A.b ≠ A.s ∧
    A.c ≠ A.a ∧ A.c ≠ A.r ∧ A.c ≠ A.w ∧ A.c ≠ A.s ∧ A.c ≠ A.b ∧ A.g ≠ A.a ∧ A.g ≠ A.r ∧ A.g ≠ A.w ∧ A.g ≠ A.s ∧ A.g ≠ A.b ∧ A.g ≠ A.c := by
  unfold nd ids at h
  simp only [List.nodup_cons, List.mem_cons, not_or, List.not_mem_nil, not_false_eq_true, and_true, List.nodup_nil] at h
  obtain ⟨⟨h1, h2, h3, h4, h5, h6⟩, ⟨h7, h8, h9, h10, h11⟩, ⟨h12, h13, h14, h15⟩, ⟨h16, h17, h18⟩, ⟨h19, h20⟩, h21⟩ := h
  exact ⟨fun e => h1 e.symm, fun e => h2 e.symm, fun e => h7 e.symm, fun e => h3 e.symm, fun e => h8 e.symm, fun e => h12 e.symm, fun e => h4 e.symm, fun e => h9 e.symm, fun e => h13 e.symm, fun e => h16 e.symm,
    fun e => h5 e.symm, fun e => h10 e.symm, fun e => h14 e.symm, fun e => h17 e.symm, fun e => h19 e.symm, fun e => h6 e.symm, fun e => h11 e.symm, fun e => h15 e.symm, fun e => h18 e.symm, fun e => h20 e.symm, fun e => h21 e.symm⟩
theorem at_a (A : Ar) (H : Heap) : A.put H A.a = some A.objA := by unfold put; rw [if_pos rfl]
theorem at_r {A : Ar} (h : A.nd) (H : Heap) : A.put H A.r = some A.objR := by have := A.ne h; simp [put, this]
theorem at_w {A : Ar} (h : A.nd) (H : Heap) : A.put H A.w = some A.objW := by have := A.ne h; simp [put, this]
theorem at_s {A : Ar} (h : A.nd) (H : Heap) : A.put H A.s = some A.objS := by have := A.ne h; simp [put, this]
theorem at_b {A : Ar} (h : A.nd) (H : Heap) : A.put H A.b = some A.objB := by have := A.ne h; simp [put, this]
theorem at_c {A : Ar} (h : A.nd) (H : Heap) : A.put H A.c = some A.objC := by have := A.ne h; simp [put, this]
theorem at_g {A : Ar} (h : A.nd) (H : Heap) : A.put H A.g = some A.objG := by have := A.ne h; simp [put, this]
structure Alike (A B : Ar) : Prop where
  a : B.a = A.a
  r : B.r = A.r
  w : B.w = A.w
  s : B.s = A.s
  b : B.b = A.b
  c : B.c = A.c
  g : B.g = A.g
theorem Alike.refl (A : Ar) : Alike A A := ⟨rfl, rfl, rfl, rfl, rfl, rfl, rfl⟩
theorem Alike.trans {A B C : Ar} (h : Alike A B) (k : Alike B C) : Alike A C := ⟨k.a.trans h.a, k.r.trans h.r, k.w.trans h.w, k.s.trans h.s, k.b.trans h.b, k.c.trans h.c, k.g.trans h.g⟩
theorem Alike.ids {A B : Ar} (h : Alike A B) : B.ids = A.ids := by unfold Ar.ids; rw [h.a, h.r, h.w, h.s, h.b, h.c, h.g]
theorem Alike.nd {A B : Ar} (h : Alike A B) (hn : A.nd) : B.nd := by unfold Ar.nd at *; rw [h.ids]; exact hn
theorem put_out {A : Ar} {H : Heap} {x : Nat} (h : x ∉ A.ids) : A.put H x = H x := by
  unfold ids at h
  simp only [List.mem_cons, not_or, List.not_mem_nil, not_false_eq_true, and_true] at h
  unfold put
  rw [if_neg h.1, if_neg h.2.1, if_neg h.2.2.1, if_neg h.2.2.2.1, if_neg h.2.2.2.2.1, if_neg h.2.2.2.2.2.1, if_neg h.2.2.2.2.2.2]
theorem put_none {A : Ar} {H : Heap} {x : Nat} (h : A.put H x = none) : x ∉ A.ids ∧ H x = none := by
  have hx : x ∉ A.ids := fun hm => by
    unfold ids at hm
    simp only [List.mem_cons, List.not_mem_nil, or_false] at hm
    unfold put at h
    repeat' split at h
    all_goals first | cases h | skip
    rename_i h1 h2 h3 h4 h5 h6 h7
    rcases hm with e | e | e | e | e | e | e <;> first | exact h1 e | exact h2 e | exact h3 e | exact h4 e | exact h5 e | exact h6 e | exact h7 e
  exact ⟨hx, by rw [put_out hx] at h; exact h⟩
theorem put_set {A : Ar} {H : Heap} {x : Nat} (o : Obj) (h : x ∉ A.ids) : (A.put H).set x o = A.put (H.set x o) := by
  funext y
  by_cases hy : y = x
  · subst hy; rw [Heap.set_same, put_out h, Heap.set_same]
  · rw [Heap.set_ne _ _ hy]
    unfold put Heap.set
    rw [if_neg hy]
theorem put_le {A : Ar} {H K : Heap} (h : H.le K) : (A.put H).le (A.put K) := fun x o e => by
  unfold put at *
  repeat' split at e
  all_goals first | (rename_i h1; simp_all; done) | skip
  all_goals simp_all
  exact h x o e
theorem set_any {A B : Ar} (hA : A.nd) (h : Alike A B) (H : Heap) (x : Nat) (o : Obj)
    (hx : (x = A.a ∧ o = B.objA ∧ B.objR = A.objR ∧ B.objW = A.objW ∧ B.objS = A.objS ∧ B.objB = A.objB ∧ B.objC = A.objC ∧ B.objG = A.objG) ∨
      (x = A.r ∧ o = B.objR ∧ B.objA = A.objA ∧ B.objW = A.objW ∧ B.objS = A.objS ∧ B.objB = A.objB ∧ B.objC = A.objC ∧ B.objG = A.objG) ∨
      (x = A.w ∧ o = B.objW ∧ B.objA = A.objA ∧ B.objR = A.objR ∧ B.objS = A.objS ∧ B.objB = A.objB ∧ B.objC = A.objC ∧ B.objG = A.objG) ∨
      (x = A.s ∧ o = B.objS ∧ B.objA = A.objA ∧ B.objR = A.objR ∧ B.objW = A.objW ∧ B.objB = A.objB ∧ B.objC = A.objC ∧ B.objG = A.objG) ∨
      (x = A.b ∧ o = B.objB ∧ B.objA = A.objA ∧ B.objR = A.objR ∧ B.objW = A.objW ∧ B.objS = A.objS ∧ B.objC = A.objC ∧ B.objG = A.objG) ∨
      (x = A.c ∧ o = B.objC ∧ B.objA = A.objA ∧ B.objR = A.objR ∧ B.objW = A.objW ∧ B.objS = A.objS ∧ B.objB = A.objB ∧ B.objG = A.objG) ∨
      (x = A.g ∧ o = B.objG ∧ B.objA = A.objA ∧ B.objR = A.objR ∧ B.objW = A.objW ∧ B.objS = A.objS ∧ B.objB = A.objB ∧ B.objC = A.objC)) : (A.put H).set x o = B.put H := by
  have hne := A.ne hA
  funext y
  rcases hx with hx | hx | hx | hx | hx | hx | hx
  · obtain ⟨hx, ho, e1, e2, e3, e4, e5, e6⟩ := hx
    rw [hx, ho]
    by_cases hy : y = A.a
    · rw [hy, Heap.set_same]
      have := B.at_a  H
      rw [h.a] at this
      exact this.symm
    · rw [Heap.set_ne _ _ hy]
      unfold put
      rw [h.a, h.r, h.w, h.s, h.b, h.c, h.g, e1, e2, e3, e4, e5, e6]
      rw [if_neg hy, if_neg hy]
  · obtain ⟨hx, ho, e1, e2, e3, e4, e5, e6⟩ := hx
    rw [hx, ho]
    by_cases hy : y = A.r
    · rw [hy, Heap.set_same]
      have := B.at_r (h.nd hA) H
      rw [h.r] at this
      exact this.symm
    · rw [Heap.set_ne _ _ hy]
      unfold put
      rw [h.a, h.r, h.w, h.s, h.b, h.c, h.g, e1, e2, e3, e4, e5, e6]
      simp only [if_neg hy]
  · obtain ⟨hx, ho, e1, e2, e3, e4, e5, e6⟩ := hx
    rw [hx, ho]
    by_cases hy : y = A.w
    · rw [hy, Heap.set_same]
      have := B.at_w (h.nd hA) H
      rw [h.w] at this
      exact this.symm
    · rw [Heap.set_ne _ _ hy]
      unfold put
      rw [h.a, h.r, h.w, h.s, h.b, h.c, h.g, e1, e2, e3, e4, e5, e6]
      simp only [if_neg hy]
  · obtain ⟨hx, ho, e1, e2, e3, e4, e5, e6⟩ := hx
    rw [hx, ho]
    by_cases hy : y = A.s
    · rw [hy, Heap.set_same]
      have := B.at_s (h.nd hA) H
      rw [h.s] at this
      exact this.symm
    · rw [Heap.set_ne _ _ hy]
      unfold put
      rw [h.a, h.r, h.w, h.s, h.b, h.c, h.g, e1, e2, e3, e4, e5, e6]
      simp only [if_neg hy]
  · obtain ⟨hx, ho, e1, e2, e3, e4, e5, e6⟩ := hx
    rw [hx, ho]
    by_cases hy : y = A.b
    · rw [hy, Heap.set_same]
      have := B.at_b (h.nd hA) H
      rw [h.b] at this
      exact this.symm
    · rw [Heap.set_ne _ _ hy]
      unfold put
      rw [h.a, h.r, h.w, h.s, h.b, h.c, h.g, e1, e2, e3, e4, e5, e6]
      simp only [if_neg hy]
  · obtain ⟨hx, ho, e1, e2, e3, e4, e5, e6⟩ := hx
    rw [hx, ho]
    by_cases hy : y = A.c
    · rw [hy, Heap.set_same]
      have := B.at_c (h.nd hA) H
      rw [h.c] at this
      exact this.symm
    · rw [Heap.set_ne _ _ hy]
      unfold put
      rw [h.a, h.r, h.w, h.s, h.b, h.c, h.g, e1, e2, e3, e4, e5, e6]
      simp only [if_neg hy]
  · obtain ⟨hx, ho, e1, e2, e3, e4, e5, e6⟩ := hx
    rw [hx, ho]
    by_cases hy : y = A.g
    · rw [hy, Heap.set_same]
      have := B.at_g (h.nd hA) H
      rw [h.g] at this
      exact this.symm
    · rw [Heap.set_ne _ _ hy]
      unfold put
      rw [h.a, h.r, h.w, h.s, h.b, h.c, h.g, e1, e2, e3, e4, e5, e6]
      simp only [if_neg hy]
end Ar
def pA (A : Ar) : Value := .pointer (some ⟨A.a, 0, none⟩)
def opB (h : Int) : Int := if openOk h then oBase h else 0
def opG (h : Int) : Int := if openOk h then oGen h else 0
def opC (h : Int) : Int := if openOk h then oClass h else 0
theorem Open_all (H : Heap) (h : Int) : Det Tryz.prog f_handle_Open [.int .i64 h] H (Sh.toVal (.tup [(.leaf (.int .i64)), (.leaf (.int .i64)), (.leaf (.int .i64)), (.leaf .bool)]) (opB h, opG h, opC h, openOk h, ())) H := by
  refine Open_at H ?_
  unfold openV opB opG opC
  cases openOk h <;> rfl
section
variable {L : Hands} {H : Heap} {R : Value → Heap → Prop} {A B : Ar}
theorem wp_fld {p : Addr} {n : Nat} {l : Leaf} {x : l.T} {k : l.T → Tree} (h : wp Tryz.prog (k x) L (A.put H) R) (hp : p = ⟨A.a, n, none⟩ := by rfl) (hx : A.arrA[n]? = some (l.toVal x) := by rfl) :
    wp Tryz.prog (.ld p l k) L (A.put H) R := by
  subst hp
  exact wp_ld_of (by rw [Heap.cell_of (A.at_a H)]; exact hx) h
structure ButA (A B : Ar) : Prop where
  al : Ar.Alike A B
  r : B.objR = A.objR
  w : B.objW = A.objW
  s : B.objS = A.objS
  b : B.objB = A.objB
  c : B.objC = A.objC
  g : B.objG = A.objG
theorem wp_setf (B : Ar) {p : Addr} {n : Nat} {v u : Value} {k : Tree} (hA : A.nd) (h : wp Tryz.prog k L (B.put H) R) (hp : p = ⟨A.a, n, none⟩ := by rfl) (hn : A.arrA[n]? = some u := by rfl)
    (hb : A.arrA.setIfInBounds n v = B.arrA := by rfl) (hB : ButA A B := by exact ⟨⟨rfl, rfl, rfl, rfl, rfl, rfl, rfl⟩, rfl, rfl, rfl, rfl, rfl, rfl⟩) (hs : Value.single v = true := by rfl) :
    wp Tryz.prog (.st p v k) L (A.put H) R := by
  subst hp
  refine wp_st_of (A.at_a H) hn hs ?_
  rw [Ar.set_any (B := B) hA hB.al H _ _ (.inl ⟨rfl, by unfold Ar.objA; rw [hb], hB.r, hB.w, hB.s, hB.b, hB.c, hB.g⟩)]
  exact h
end
def Ar.stF (A : Ar) (h : Int) : Int := match alGet A.slots (opB h) with
  | some (h', s) => if openOk h = true ∧ h' = h then s else 0
  | none => 0
theorem State_det {A : Ar} (hA : A.nd) (h : Int) (H : Heap) : Det Tryz.prog f_arena_Arena_State [pA A, .int .i64 h] (A.put H) (.int .i64 (A.stF h)) (A.put H) := by
  refine t_arena_Arena_State_spec fun L => ?_
  unfold t_arena_Arena_State
  refine wp_qcall_det (Open_all _ _) ?_
  refine wp_nil.2 ?_
  refine wp_fld (x := some A.s) (n := 3) ?_
  have key : ∀ y : Int × Int × Unit, (match alGet A.slots (opB h) with | some v => encSlot v | none => .agg #[.int .i64 0, .int .i64 0]) = Sh.toVal (.one (.agg [(.int .i64), (.int .i64)])) y →
      A.stF h = (if openOk h = true then if y.1 = h then y.2.1 else 0 else 0) → 
      wp Tryz.prog (.newP (.cells #[(.int .i64 0), (.int .i64 0)] ty_arena_slot) fun x9 =>
  .stA x9 [(.int .i64 y.1), (.int .i64 y.2.1)] <|
  bif openOk h then (
    .ld x9 (.int .i64) fun x26 =>
    bif ((x26 : Int) == h) then (
      .ld (x9.add 1) (.int .i64) fun x31 =>
      .ret (.int .i64 x31))
    else (
      .ret (.int .i64 0)))
  else (
    .ret (.int .i64 0))) L (A.put H) (fun u K => u = .int .i64 (A.stF h) ∧ K = A.put H) := by
    intro y hy hst
    refine wp_newP fun b hb => ?_
    refine wp_stA_of (Heap.set_same _ _ _) (by exact Nat.le_refl 2) (by intro v hv; simp only [List.mem_cons, List.not_mem_nil, or_false] at hv; rcases hv with rfl | rfl <;> rfl) ?_
    rw [Heap.set_set]
    have hle := Heap.le_set_new (.cells (putAll #[.int .i64 0, .int .i64 0] 0 [.int .i64 y.1, .int .i64 y.2.1]) ty_arena_slot (0, 0)) hb
    cases hk : openOk h with
    | false =>
      refine wp_false rfl ⟨A.put H, hle, ?_, rfl⟩
      rw [hst, hk]; rfl
    | true =>
      refine wp_true rfl ?_
      refine wp_ld_of (x := y.1) (by rw [Heap.cell_set]; rfl) ?_
      rw [hk, if_pos rfl] at hst
      by_cases e : y.1 = h
      · refine wp_true (ibeq e) ?_
        refine wp_ld_of (x := y.2.1) (by show Heap.cell? _ ⟨b, 1, none⟩ = _; rw [Heap.cell_set]; rfl) ⟨A.put H, hle, ?_, rfl⟩
        rw [hst, if_pos e]
      · refine wp_false (ibef e) ⟨A.put H, hle, ?_, rfl⟩
        rw [hst, if_neg e]
  unfold Ar.stF at *
  refine wp_lookup (l := A.slots) (enc := encSlot) (kt := ty_int) (et := ty_arena_slot) (y := match alGet A.slots (opB h) with | some v => (v.1, v.2, ()) | none => (0, 0, ())) (Ar.at_s hA H) rfl rfl rfl rfl ?_ (key _ ?_ ?_)
  · cases alGet A.slots (opB h) <;> rfl
  · cases alGet A.slots (opB h) <;> rfl
  · cases alGet A.slots (opB h) with
    | none => simp
    | some v => 
      obtain ⟨v1, v2⟩ := v
      by_cases h1 : openOk h = true <;> by_cases h2 : v1 = h <;> simp [h1, h2]
theorem load_none (H : Heap) : Det Tryz.prog f_arena_load [.pointer none] H (.int .i64 0) H := by
  refine t_arena_load_spec fun L => ?_
  unfold t_arena_load
  exact ⟨true, rfl, wp_true rfl (wp_ret_of ⟨rfl, rfl⟩)⟩
theorem neql_some (a : Addr) : opS Tryz.prog (.binOp .eql ty_p_int (.tmp 0) (.const (.pointer none)) ty_p_int) ty_bool [(.pointer (some a))] = .pure (.value (.bool false)) := by kernel_rfl
theorem neq_some (a : Addr) : opS Tryz.prog (.binOp .neq ty_p_int (.tmp 0) (.const (.pointer none)) ty_p_int) ty_bool [(.pointer (some a))] = .pure (.value (.bool true)) := by kernel_rfl
theorem load_some {a : Addr} {x : Int} {H : Heap} (h : H.cell? a = some (.int .i64 x)) : Det Tryz.prog f_arena_load [.pointer (some a)] H (.int .i64 x) H := by
  refine t_arena_load_spec fun L => ?_
  unfold t_arena_load
  refine look_val (x := false) (neql_some a) ?_
  refine wp_false rfl (wp_nil.2 ?_)
  exact wp_ld_of (x := x) h (wp_ret_of ⟨rfl, rfl⟩)
theorem store_none (v : Int) (H : Heap) : Det Tryz.prog f_arena_store [.pointer none, .int .i64 v] H (.tuple #[]) H := by
  refine t_arena_store_spec fun L => ?_
  unfold t_arena_store
  exact ⟨false, rfl, wp_false rfl (wp_ret_of ⟨rfl, rfl⟩)⟩
theorem store_some {b n T : Nat} {c : Array Value} {u : Value} {v : Int} {H : Heap} (hb : H b = some (.cells c T (0, 0))) (hn : c[n]? = some u) :
    Det Tryz.prog f_arena_store [.pointer (some ⟨b, n, none⟩), .int .i64 v] H (.tuple #[]) (H.set b (.cells (c.setIfInBounds n (.int .i64 v)) T (0, 0))) := by
  refine t_arena_store_spec fun L => ?_
  unfold t_arena_store
  refine look_val (x := true) (neq_some _) ?_
  refine wp_true rfl (wp_nil.2 ?_)
  exact wp_st_of hb hn rfl (wp_ret_of ⟨rfl, rfl⟩)
theorem swap_none (v w : Int) (H : Heap) : Det Tryz.prog f_arena_swap [.pointer none, .int .i64 v, .int .i64 w] H (.bool false) H := by
  refine t_arena_swap_spec fun L => ?_
  unfold t_arena_swap
  exact ⟨true, rfl, wp_true rfl (wp_ret_of ⟨rfl, rfl⟩)⟩
theorem swap_no {a : Addr} {x v w : Int} {H : Heap} (h : H.cell? a = some (.int .i64 x)) (hx : x ≠ v) : Det Tryz.prog f_arena_swap [.pointer (some a), .int .i64 v, .int .i64 w] H (.bool false) H := by
  refine t_arena_swap_spec fun L => ?_
  unfold t_arena_swap
  refine look_val (x := false) (neql_some a) ?_
  refine wp_false rfl (wp_nil.2 ?_)
  refine wp_ld_of (x := x) h ?_
  exact wp_true (ibne hx) (wp_ret_of ⟨rfl, rfl⟩)
theorem swap_yes {b n T : Nat} {c : Array Value} {v w : Int} {H : Heap} (hb : H b = some (.cells c T (0, 0))) (hn : c[n]? = some (.int .i64 v)) :
    Det Tryz.prog f_arena_swap [.pointer (some ⟨b, n, none⟩), .int .i64 v, .int .i64 w] H (.bool true) (H.set b (.cells (c.setIfInBounds n (.int .i64 w)) T (0, 0))) := by
  refine t_arena_swap_spec fun L => ?_
  unfold t_arena_swap
  refine look_val (x := false) (neql_some _) ?_
  refine wp_false rfl (wp_nil.2 ?_)
  refine wp_ld_of (x := v) (by rw [Heap.cell_of hb]; exact hn) ?_
  refine wp_false (ibnf rfl) (wp_nil.2 ?_)
  exact wp_st_of hb hn rfl (wp_ret_of ⟨rfl, rfl⟩)
theorem idxS1 {t u e : TypeId} {n l c b o : Nat} {i : Int} {info : TypeInfo} (hu : Tryz.prog.underlying t = some (.slice e)) (hi : Tryz.prog.info? e = some info) (hs : info.size = 1) (h0 : 0 ≤ i) (h1 : i < l) :
    opS Tryz.prog (.indexAddr t (.tmp 0) (.tmp 1)) u [.slice (some ⟨b, o, none⟩) l c, .int .i64 i] = .pure (.value (.pointer (some ⟨b, o + i.toNat, none⟩))) := by
  rw [opS_idxS hu hi h0 h1, Addr.add_mk, hs, Nat.mul_one]
theorem idx_int {u : TypeId} {l c b o : Nat} {i : Int} (h0 : 0 ≤ i) (h1 : i < l) :
    opS Tryz.prog (.indexAddr ty_s_int (.tmp 0) (.tmp 1)) u [.slice (some ⟨b, o, none⟩) l c, .int .i64 i] = .pure (.value (.pointer (some ⟨b, o + i.toNat, none⟩))) := idxS1 (n := 0) rfl rfl rfl h0 h1
theorem idx_bool {u : TypeId} {l c b o : Nat} {i : Int} (h0 : 0 ≤ i) (h1 : i < l) :
    opS Tryz.prog (.indexAddr ty_s_bool (.tmp 0) (.tmp 1)) u [.slice (some ⟨b, o, none⟩) l c, .int .i64 i] = .pure (.value (.pointer (some ⟨b, o + i.toNat, none⟩))) := idxS1 (n := 0) rfl rfl rfl h0 h1
def Ar.tick (A : Ar) : Ar := { A with uses := w64 (A.uses + 1) }
def Ar.bad (A : Ar) : Ar := { A with fault := true }
theorem ints_get {l : List Int} {n : Nat} (h : n < l.length) : (ints l)[n]? = some (.int .i64 l[n]) := by simp [ints, h]
theorem ints_set (l : List Int) (n : Nat) (v : Int) : (ints l).setIfInBounds n (.int .i64 v) = ints (l.set n v) := by simp [ints, List.map_set]
theorem bools_set (l : List Bool) (n : Nat) (v : Bool) : (bools l).setIfInBounds n (.bool v) = bools (l.set n v) := by simp [bools, List.map_set]
def Ar.rawOk (A : Ar) (i : Int) : Prop := 0 ≤ i ∧ i < A.raw.length
instance (A : Ar) (i : Int) : Decidable (A.rawOk i) := by unfold Ar.rawOk; infer_instance
theorem at_ok {A : Ar} (hA : A.nd) {i : Int} (hi : A.rawOk i) (H : Heap) : Det Tryz.prog f_arena_Arena_at [pA A, .int .i64 i] (A.put H) (.pointer (some ⟨A.r, i.toNat, none⟩)) (A.tick.put H) := by
  obtain ⟨h0, h1⟩ := hi
  refine t_arena_Arena_at_spec fun L => ?_
  unfold t_arena_Arena_at
  refine wp_nil.2 (wp_fld (x := A.uses) (n := 12) (wp_nil.2 ?_))
  refine wp_setf A.tick (n := 12) (u := .int .i64 A.uses) hA ?_
  refine wp_false (inlt h0) (wp_nil.2 ?_)
  refine wp_fld (A := A.tick) (x := Sl.mk (some ⟨A.r, 0, none⟩) A.raw.length A.raw.length) (n := 0) ?_
  refine wp_false (decide_eq_false (by show ¬ i ≥ ((A.raw.length : Nat) : Int); omega)) (wp_nil.2 ?_)
  refine wp_fld (A := A.tick) (x := Sl.mk (some ⟨A.r, 0, none⟩) A.raw.length A.raw.length) (n := 0) ?_
  refine look_val (x := Addr.mk A.r (0 + i.toNat) none) (idx_int h0 h1) ?_
  exact wp_ret_of ⟨by rw [Nat.zero_add], rfl⟩
theorem at_bad {A : Ar} (hA : A.nd) {i : Int} (hi : ¬ A.rawOk i) (H : Heap) : Det Tryz.prog f_arena_Arena_at [pA A, .int .i64 i] (A.put H) (.pointer none) (A.tick.bad.put H) := by
  refine t_arena_Arena_at_spec fun L => ?_
  unfold t_arena_Arena_at
  refine wp_nil.2 (wp_fld (x := A.uses) (n := 12) (wp_nil.2 ?_))
  refine wp_setf A.tick (n := 12) (u := .int .i64 A.uses) hA ?_
  by_cases h0 : i < 0
  · refine wp_true (ilt h0) (wp_nil.2 ?_)
    exact wp_setf (A := A.tick) A.tick.bad (n := 11) (u := .bool A.fault) hA (wp_ret_of ⟨rfl, rfl⟩)
  · refine wp_false (inlt (by omega)) (wp_nil.2 ?_)
    refine wp_fld (A := A.tick) (x := Sl.mk (some ⟨A.r, 0, none⟩) A.raw.length A.raw.length) (n := 0) ?_
    have : i ≥ ((A.raw.length : Nat) : Int) := by unfold Ar.rawOk at hi; omega
    refine wp_true (decide_eq_true this) (wp_nil.2 ?_)
    exact wp_setf (A := A.tick) A.tick.bad (n := 11) (u := .bool A.fault) hA (wp_ret_of ⟨rfl, rfl⟩)
structure Ar.wf (A : Ar) : Prop where
  nd : A.nd
  fit : ∀ h, A.stF h ≠ 0 → opB h + sizeF (opC h) ≤ A.words.length
  busy : A.busy.length = A.words.length
  carved : A.carved.length = A.words.length
  words : A.words.length ≤ 65536
  raw : A.raw.length ≤ 65536
  wC : w64 A.nC = A.nC
  wL : w64 A.nL = A.nL
  wR : w64 A.nR = A.nR
  wF : w64 A.nF = A.nF
theorem w64_w64 (x : Int) : w64 (w64 x) = w64 x := by
  have h : -9223372036854775808 ≤ w64 x ∧ w64 x ≤ 9223372036854775807 := by unfold w64; rw [IntKind.wrap_i64]; omega
  exact w64_in h.1 h.2
theorem opB_nat (h : Int) : 0 ≤ opB h ∧ opB h < 65536 := by
  unfold opB
  split
  · rename_i e; obtain ⟨⟨h1, h2, _⟩, _⟩ := open_ok e; exact ⟨h1, h2⟩
  · omega
theorem opC_nat (h : Int) : 0 ≤ opC h ∧ opC h < 4 := by
  unfold opC
  split
  · rename_i e; obtain ⟨⟨h1, h2, _, _, h3, h4⟩, _⟩ := open_ok e; exact ⟨h3, h4⟩
  · omega
theorem size_opC (h : Int) : 8 ≤ sizeF (opC h) ∧ sizeF (opC h) ≤ 64 := by
  have := sizeF_cases (opC_nat h).1 (opC_nat h).2
  omega
theorem stF_ok {A : Ar} {h : Int} (hs : A.stF h ≠ 0) : openOk h = true := by
  unfold Ar.stF at hs
  split at hs
  · split at hs
    · rename_i e; exact e.1
    · exact (hs rfl).elim
  · exact (hs rfl).elim
theorem body_det {A : Ar} (hA : A.wf) {h : Int} (hf : opB h + sizeF (opC h) ≤ A.words.length) (H : Heap) :
    Det Tryz.prog f_arena_Arena_body [pA A, .int .i64 h] (A.put H) (.slice (some ⟨A.w, (opB h).toNat, none⟩) (sizeF (opC h)).toNat (sizeF (opC h)).toNat) (A.put H) := by
  have h1 := opB_nat h
  have h2 := size_opC h
  have hw := hA.words
  refine t_arena_Arena_body_spec fun L => ?_
  unfold t_arena_Arena_body
  refine wp_qcall_det (Open_all _ _) ?_
  refine wp_qcall_det (Size_det _ _) (wp_nil.2 ?_)
  refine wp_fld (x := Sl.mk (some ⟨A.w, 0, none⟩) A.words.length A.words.length) (n := 1) ?_
  have e1 : w64 (opB h + sizeF (opC h)) = opB h + sizeF (opC h) := w64_in (by omega) (by omega)
  refine look_val (x := Sl.mk (some ⟨A.w, (opB h).toNat, none⟩) (sizeF (opC h)).toNat (sizeF (opC h)).toNat) ?_ (wp_ret_of ⟨rfl, rfl⟩)
  have hs := opS_slice3 (P := Tryz.prog) (t := ty_s_int) (u := ty_s_int) (e := ty_int) (a := some ⟨A.w, 0, none⟩) (len := A.words.length) (cap := A.words.length) (lo := opB h) (hi := w64 (opB h + sizeF (opC h))) rfl rfl rfl h1.1 (by omega) (by omega)
  rw [e1] at hs
  show opS Tryz.prog _ _ [_, _, .int .i64 (w64 (opB h + sizeF (opC h))), .int .i64 (w64 (opB h + sizeF (opC h)))] = _
  rw [e1]
  refine hs.trans ?_
  rw [if_neg (by omega)]
  show Sem.pure (Next.value (.slice (some ((Addr.mk A.w 0 none).add _)) _ _)) = _
  rw [Addr.add_mk, Nat.zero_add, show (opB h + sizeF (opC h)).toNat - (opB h).toNat = (sizeF (opC h)).toNat by omega]
def Ar.inOk (A : Ar) (h off : Int) : Prop := A.stF h ≠ 0 ∧ 0 ≤ off ∧ off < sizeF (opC h)
instance (A : Ar) (h off : Int) : Decidable (A.inOk h off) := by unfold Ar.inOk; infer_instance
def pos (h off : Int) : Nat := (opB h).toNat + off.toNat
theorem in_ok {A : Ar} (hA : A.wf) {h off : Int} (hi : A.inOk h off) (H : Heap) : Det Tryz.prog f_arena_Arena_in [pA A, .int .i64 h, .int .i64 off] (A.put H) (.pointer (some ⟨A.w, pos h off, none⟩)) (A.tick.put H) := by
  obtain ⟨h0, h1, h2⟩ := hi
  have h3 := size_opC h
  refine t_arena_Arena_in_spec fun L => ?_
  unfold t_arena_Arena_in
  refine wp_nil.2 (wp_fld (x := A.uses) (n := 12) (wp_nil.2 ?_))
  refine wp_setf A.tick (n := 12) (u := .int .i64 A.uses) hA.nd ?_
  refine wp_call_det (State_det (A := A.tick) hA.nd h H) ?_
  refine wp_false (ibef h0) ?_
  refine wp_call_det (x := Sl.mk (some ⟨A.w, (opB h).toNat, none⟩) (sizeF (opC h)).toNat (sizeF (opC h)).toNat) (body_det (A := A.tick) ⟨hA.nd, hA.fit, hA.busy, hA.carved, hA.words, hA.raw, hA.wC, hA.wL, hA.wR, hA.wF⟩ (hA.fit h h0) H) ?_
  refine wp_false (inlt h1) ?_
  refine wp_false (decide_eq_false (by show ¬ off ≥ (((sizeF (opC h)).toNat : Nat) : Int); omega)) ?_
  refine look_val (x := Addr.mk A.w (pos h off) none) (idx_int h1 (by show off < (((sizeF (opC h)).toNat : Nat) : Int); omega)) ?_
  exact wp_ret_of ⟨rfl, rfl⟩
theorem tick_wf {A : Ar} (hA : A.wf) : A.tick.wf := ⟨hA.nd, hA.fit, hA.busy, hA.carved, hA.words, hA.raw, hA.wC, hA.wL, hA.wR, hA.wF⟩
theorem bad_wf {A : Ar} (hA : A.wf) : A.bad.wf := ⟨hA.nd, hA.fit, hA.busy, hA.carved, hA.words, hA.raw, hA.wC, hA.wL, hA.wR, hA.wF⟩
theorem in_bad {A : Ar} (hA : A.wf) {h off : Int} (hi : ¬ A.inOk h off) (H : Heap) : Det Tryz.prog f_arena_Arena_in [pA A, .int .i64 h, .int .i64 off] (A.put H) (.pointer none) (A.tick.bad.put H) := by
  have h3 := size_opC h
  refine t_arena_Arena_in_spec fun L => ?_
  unfold t_arena_Arena_in
  refine wp_nil.2 (wp_fld (x := A.uses) (n := 12) (wp_nil.2 ?_))
  refine wp_setf A.tick (n := 12) (u := .int .i64 A.uses) hA.nd ?_
  refine wp_call_det (State_det (A := A.tick) hA.nd h H) ?_
  by_cases h0 : A.stF h = 0
  · refine wp_true (ibeq h0) (wp_nil.2 ?_)
    exact wp_setf (A := A.tick) A.tick.bad (n := 11) (u := .bool A.fault) hA.nd (wp_ret_of ⟨rfl, rfl⟩)
  · refine wp_false (ibef h0) ?_
    refine wp_call_det (x := Sl.mk (some ⟨A.w, (opB h).toNat, none⟩) (sizeF (opC h)).toNat (sizeF (opC h)).toNat) (body_det (A := A.tick) (tick_wf hA) (hA.fit h h0) H) ?_
    by_cases h1 : off < 0
    · refine wp_true (ilt h1) (wp_nil.2 ?_)
      exact wp_setf (A := A.tick) A.tick.bad (n := 11) (u := .bool A.fault) hA.nd (wp_ret_of ⟨rfl, rfl⟩)
    · refine wp_false (inlt (by omega)) ?_
      have h2 : off ≥ (((sizeF (opC h)).toNat : Nat) : Int) := by unfold Ar.inOk at hi; omega
      refine wp_true (decide_eq_true h2) (wp_nil.2 ?_)
      exact wp_setf (A := A.tick) A.tick.bad (n := 11) (u := .bool A.fault) hA.nd (wp_ret_of ⟨rfl, rfl⟩)
theorem pos_lt {A : Ar} (hA : A.wf) {h off : Int} (hi : A.inOk h off) : pos h off < A.words.length := by
  obtain ⟨h0, h1, h2⟩ := hi
  have := hA.fit h h0
  have := opB_nat h
  unfold pos; omega
theorem ints_getD {l : List Int} {n : Nat} (h : n < l.length) : (ints l)[n]? = some (.int .i64 (l.getD n 0)) := by simp [ints, h]
theorem bools_getD {l : List Bool} {n : Nat} (h : n < l.length) : (bools l)[n]? = some (.bool (l.getD n false)) := by simp [bools, h]
def Ar.touch (A : Ar) (h off : Int) : Ar := if A.inOk h off then A.tick else A.tick.bad
def Ar.loadF (A : Ar) (h off : Int) : Int := if A.inOk h off then A.words.getD (pos h off) 0 else 0
def Ar.setW (A : Ar) (n : Nat) (v : Int) : Ar := { A with words := A.words.set n v }
def Ar.storeF (A : Ar) (h off v : Int) : Ar := if A.inOk h off then A.tick.setW (pos h off) v else A.tick.bad
theorem touch_wf {A : Ar} (hA : A.wf) (h off : Int) : (A.touch h off).wf := by unfold Ar.touch; split; exact tick_wf hA; exact bad_wf (tick_wf hA)
theorem setW_wf {A : Ar} (hA : A.wf) (n : Nat) (v : Int) : (A.setW n v).wf :=
  ⟨hA.nd, fun h hs => by unfold Ar.setW; simp only [List.length_set]; exact hA.fit h hs, by unfold Ar.setW; simp only [List.length_set]; exact hA.busy, by unfold Ar.setW; simp only [List.length_set]; exact hA.carved,
    by unfold Ar.setW; simp only [List.length_set]; exact hA.words, hA.raw, hA.wC, hA.wL, hA.wR, hA.wF⟩
theorem storeF_wf {A : Ar} (hA : A.wf) (h off v : Int) : (A.storeF h off v).wf := by unfold Ar.storeF; split; exact setW_wf (tick_wf hA) _ _; exact bad_wf (tick_wf hA)
theorem set_words {A : Ar} (hA : A.nd) (n : Nat) (v : Int) (H : Heap) : (A.put H).set A.w (.cells ((ints A.words).setIfInBounds n (.int .i64 v)) ty_int (0, 0)) = (A.setW n v).put H := by
  refine Ar.set_any (B := A.setW n v) hA ⟨rfl, rfl, rfl, rfl, rfl, rfl, rfl⟩ H _ _ (.inr (.inr (.inl ⟨rfl, ?_, ?_, rfl, rfl, rfl, rfl, rfl⟩)))
  · unfold Ar.objW Ar.setW; rw [ints_set]
  · unfold Ar.objA Ar.arrA Ar.setW; simp only [List.length_set]
theorem Load_det {A : Ar} (hA : A.wf) (h off : Int) (H : Heap) : Det Tryz.prog f_arena_Arena_Load [pA A, .int .i64 h, .int .i64 off] (A.put H) (.int .i64 (A.loadF h off)) ((A.touch h off).put H) := by
  refine t_arena_Arena_Load_spec fun L => ?_
  unfold t_arena_Arena_Load Ar.loadF Ar.touch
  by_cases hi : A.inOk h off
  · have hl := pos_lt hA hi
    rw [if_pos hi, if_pos hi]
    refine wp_call_det (x := some ⟨A.w, pos h off, none⟩) (in_ok hA hi H) ?_
    refine wp_call_det (x := A.words.getD (pos h off) 0) (load_some ?_) (wp_ret_of ⟨rfl, rfl⟩)
    exact (Heap.cell_of (Ar.at_w (A := A.tick) hA.nd H) _).trans (ints_getD hl)
  · rw [if_neg hi, if_neg hi]
    refine wp_call_det (x := none) (in_bad hA hi H) ?_
    exact wp_call_det (load_none _) (wp_ret_of ⟨rfl, rfl⟩)
theorem Store_det {A : Ar} (hA : A.wf) (h off v : Int) (H : Heap) : Det Tryz.prog f_arena_Arena_Store [pA A, .int .i64 h, .int .i64 off, .int .i64 v] (A.put H) (.tuple #[]) ((A.storeF h off v).put H) := by
  refine t_arena_Arena_Store_spec fun L => ?_
  unfold t_arena_Arena_Store Ar.storeF
  by_cases hi : A.inOk h off
  · have hl := pos_lt hA hi
    rw [if_pos hi]
    refine wp_call_det (x := some ⟨A.w, pos h off, none⟩) (in_ok hA hi H) ?_
    refine wp_call_det (x := ()) (store_some (Ar.at_w (A := A.tick) hA.nd H) (ints_get hl)) ?_
    refine wp_ret_of ⟨rfl, ?_⟩
    exact set_words (A := A.tick) hA.nd _ _ _
  · rw [if_neg hi]
    refine wp_call_det (x := none) (in_bad hA hi H) ?_
    exact wp_call_det (x := ()) (store_none _ _) (wp_ret_of ⟨rfl, rfl⟩)
def Ar.rawF (A : Ar) (i : Int) : Int := if A.rawOk i then A.raw.getD i.toNat 0 else 0
def Ar.touchR (A : Ar) (i : Int) : Ar := if A.rawOk i then A.tick else A.tick.bad
def Ar.setR (A : Ar) (n : Nat) (v : Int) : Ar := { A with raw := A.raw.set n v }
def Ar.storeR (A : Ar) (i v : Int) : Ar := if A.rawOk i then A.tick.setR i.toNat v else A.tick.bad
def Ar.swapR (A : Ar) (i v w : Int) : Ar := if A.rawOk i then if A.raw.getD i.toNat 0 = v then A.tick.setR i.toNat w else A.tick else A.tick.bad
def Ar.swapRb (A : Ar) (i v : Int) : Bool := decide (A.rawOk i ∧ A.raw.getD i.toNat 0 = v)
theorem touchR_wf {A : Ar} (hA : A.wf) (i : Int) : (A.touchR i).wf := by unfold Ar.touchR; split; exact tick_wf hA; exact bad_wf (tick_wf hA)
theorem setR_wf {A : Ar} (hA : A.wf) (n : Nat) (v : Int) : (A.setR n v).wf :=
  ⟨hA.nd, hA.fit, hA.busy, hA.carved, hA.words, by unfold Ar.setR; simp only [List.length_set]; exact hA.raw, hA.wC, hA.wL, hA.wR, hA.wF⟩
theorem storeR_wf {A : Ar} (hA : A.wf) (i v : Int) : (A.storeR i v).wf := by unfold Ar.storeR; split; exact setR_wf (tick_wf hA) _ _; exact bad_wf (tick_wf hA)
theorem swapR_wf {A : Ar} (hA : A.wf) (i v w : Int) : (A.swapR i v w).wf := by
  unfold Ar.swapR; split
  · split; exact setR_wf (tick_wf hA) _ _; exact tick_wf hA
  · exact bad_wf (tick_wf hA)
theorem set_raw {A : Ar} (hA : A.nd) (n : Nat) (v : Int) (H : Heap) : (A.put H).set A.r (.cells ((ints A.raw).setIfInBounds n (.int .i64 v)) ty_int (0, 0)) = (A.setR n v).put H := by
  refine Ar.set_any (B := A.setR n v) hA ⟨rfl, rfl, rfl, rfl, rfl, rfl, rfl⟩ H _ _ (.inr (.inl ⟨rfl, ?_, ?_, rfl, rfl, rfl, rfl, rfl⟩))
  · unfold Ar.objR Ar.setR; rw [ints_set]
  · unfold Ar.objA Ar.arrA Ar.setR; simp only [List.length_set]
theorem raw_cell {A : Ar} (hA : A.nd) {i : Int} (hi : A.rawOk i) (H : Heap) : (ints A.raw)[i.toNat]? = some (.int .i64 (A.raw.getD i.toNat 0)) := by
  have hl : i.toNat < A.raw.length := by unfold Ar.rawOk at hi; omega
  exact ints_getD hl
theorem Raw_det {A : Ar} (hA : A.wf) (i : Int) (H : Heap) : Det Tryz.prog f_arena_Arena_Raw [pA A, .int .i64 i] (A.put H) (.int .i64 (A.rawF i)) ((A.touchR i).put H) := by
  refine t_arena_Arena_Raw_spec fun L => ?_
  unfold t_arena_Arena_Raw Ar.rawF Ar.touchR
  by_cases hi : A.rawOk i
  · rw [if_pos hi, if_pos hi]
    refine wp_call_det (x := some ⟨A.r, i.toNat, none⟩) (at_ok hA.nd hi H) ?_
    refine wp_call_det (x := A.raw.getD i.toNat 0) (load_some ?_) (wp_ret_of ⟨rfl, rfl⟩)
    exact (Heap.cell_of (Ar.at_r (A := A.tick) hA.nd H) _).trans (raw_cell hA.nd hi H)
  · rw [if_neg hi, if_neg hi]
    refine wp_call_det (x := none) (at_bad hA.nd hi H) ?_
    exact wp_call_det (load_none _) (wp_ret_of ⟨rfl, rfl⟩)
theorem SetRaw_det {A : Ar} (hA : A.wf) (i v : Int) (H : Heap) : Det Tryz.prog f_arena_Arena_SetRaw [pA A, .int .i64 i, .int .i64 v] (A.put H) (.tuple #[]) ((A.storeR i v).put H) := by
  refine t_arena_Arena_SetRaw_spec fun L => ?_
  unfold t_arena_Arena_SetRaw Ar.storeR
  by_cases hi : A.rawOk i
  · rw [if_pos hi]
    refine wp_call_det (x := some ⟨A.r, i.toNat, none⟩) (at_ok hA.nd hi H) ?_
    refine wp_call_det (x := ()) (store_some (Ar.at_r (A := A.tick) hA.nd H) (raw_cell hA.nd hi H)) ?_
    exact wp_ret_of ⟨rfl, set_raw (A := A.tick) hA.nd _ _ _⟩
  · rw [if_neg hi]
    refine wp_call_det (x := none) (at_bad hA.nd hi H) ?_
    exact wp_call_det (x := ()) (store_none _ _) (wp_ret_of ⟨rfl, rfl⟩)
theorem SwapRaw_det {A : Ar} (hA : A.wf) (i v w : Int) (H : Heap) : Det Tryz.prog f_arena_Arena_SwapRaw [pA A, .int .i64 i, .int .i64 v, .int .i64 w] (A.put H) (.bool (A.swapRb i v)) ((A.swapR i v w).put H) := by
  refine t_arena_Arena_SwapRaw_spec fun L => ?_
  unfold t_arena_Arena_SwapRaw Ar.swapR Ar.swapRb
  by_cases hi : A.rawOk i
  · rw [if_pos hi]
    refine wp_call_det (x := some ⟨A.r, i.toNat, none⟩) (at_ok hA.nd hi H) ?_
    by_cases hv : A.raw.getD i.toNat 0 = v
    · rw [if_pos hv, decide_eq_true ⟨hi, hv⟩]
      refine wp_call_det (x := true) (swap_yes (Ar.at_r (A := A.tick) hA.nd H) (by rw [← hv]; exact raw_cell hA.nd hi H)) ?_
      exact wp_ret_of ⟨rfl, set_raw (A := A.tick) hA.nd _ _ _⟩
    · rw [if_neg hv, decide_eq_false (fun h => hv h.2)]
      refine wp_call_det (x := false) (swap_no (x := A.raw.getD i.toNat 0) ?_ hv) (wp_ret_of ⟨rfl, rfl⟩)
      exact (Heap.cell_of (Ar.at_r (A := A.tick) hA.nd H) _).trans (raw_cell hA.nd hi H)
  · rw [if_neg hi, decide_eq_false (fun h => hi h.1)]
    refine wp_call_det (x := none) (at_bad hA.nd hi H) ?_
    exact wp_call_det (x := false) (swap_none _ _ _) (wp_ret_of ⟨rfl, rfl⟩)
theorem wp_loop_int {L : Hands} {H : Heap} {R : Value → Heap → Prop} {n : Nat} {init : List Value} {body : HL Sh1.T [.leaf (.int .i64)] → Tree} (I : Int → Heap → Prop) (m : Int → Nat) (i0 : Int) (hi : I i0 H)
    (hstep : ∀ (i : Int) H', I i H' → wp Tryz.prog (body (i, ())) (L.set n fun vals H'' => ∃ j : Int, vals = [.int .i64 j] ∧ I j H'' ∧ m j < m i) H' R) (h0 : init = [.int .i64 i0] := by rfl) :
    wp Tryz.prog (.loop n [.leaf (.int .i64)] init body) L H R := by
  refine wp_loop_inv (fun x K => I x.1 K) (fun x _ => m x.1) (i0, ()) h0 hi ?_
  rintro ⟨i, u⟩ K hI
  refine Go.Fw.wp_mono _ (hstep i K hI) (fun k vals H'' hk => ?_) (fun _ _ h => h)
  unfold Hands.set at *
  split at hk
  · rename_i e; rw [if_pos e]; obtain ⟨j, h1, h2, h3⟩ := hk; exact ⟨(j, ()), h1, h2, h3⟩
  · rename_i e; rw [if_neg e]; exact hk
def Ar.withS (A : Ar) (b h s : Int) : Ar := { A with slots := alPut A.slots b (h, s) }
theorem set_slots {A : Ar} (hA : A.nd) (b h s : Int) (H : Heap) : (A.put H).set A.s (mapObj encSlot (alPut A.slots b (h, s))) = (A.withS b h s).put H :=
  Ar.set_any (B := A.withS b h s) hA ⟨rfl, rfl, rfl, rfl, rfl, rfl, rfl⟩ H _ _ (.inr (.inr (.inr (.inl ⟨rfl, rfl, rfl, rfl, rfl, rfl, rfl, rfl⟩))))
def Ar.turnF (A : Ar) (h s t : Int) : Ar := if A.stF h = s then A.withS (opB h) h t else A
def Ar.turnN (A : Ar) (h s : Int) : Int := if A.stF h = s then sizeF (opC h) else 0
def Ar.turnB (A : Ar) (h s : Int) : Bool := decide (A.stF h = s)
theorem turn_det {A : Ar} (hA : A.nd) (h s t : Int) (H : Heap) : Det Tryz.prog f_arena_Arena_turn [pA A, .int .i64 h, .int .i64 s, .int .i64 t] (A.put H)
    (.tuple #[.int .i64 (A.turnN h s), .bool (A.turnB h s)]) ((A.turnF h s t).put H) := by
  refine t_arena_Arena_turn_spec fun L => ?_
  unfold t_arena_Arena_turn Ar.turnF Ar.turnN Ar.turnB
  refine wp_call_det (State_det hA h H) ?_
  by_cases e : A.stF h = s
  · rw [if_pos e, if_pos e, decide_eq_true e]
    refine wp_false (ibnf e) ?_
    refine wp_qcall_det (Open_all _ _) (wp_nil.2 ?_)
    refine wp_fld (x := some A.s) (n := 3) ?_
    refine wp_mapUpdate (kt := ty_int) (et := ty_arena_slot) (enc := encSlot) (v := (h, t)) (Ar.at_s hA H) rfl rfl ?_
    rw [set_slots hA]
    exact wp_qcall_det (Size_det _ _) (wp_ret_of ⟨rfl, rfl⟩)
  · rw [if_neg e, if_neg e, decide_eq_false e]
    exact wp_true (ibne e) (wp_ret_of ⟨rfl, rfl⟩)
theorem turnF_nd {A : Ar} (hA : A.nd) (h s t : Int) : (A.turnF h s t).nd := by unfold Ar.turnF; split <;> exact hA
def Ar.addL (A : Ar) (n : Int) : Ar := { A with nL := w64 (A.nL + n) }
def Ar.subL (A : Ar) (n : Int) : Ar := { A with nL := w64 (A.nL - n) }
def Ar.addR (A : Ar) (n : Int) : Ar := { A with nR := w64 (A.nR + n) }
def Ar.subR (A : Ar) (n : Int) : Ar := { A with nR := w64 (A.nR - n) }
def Ar.addF (A : Ar) (n : Int) : Ar := { A with nF := w64 (A.nF + n) }
def Ar.subF (A : Ar) (n : Int) : Ar := { A with nF := w64 (A.nF - n) }
def Ar.addC (A : Ar) (n : Int) : Ar := { A with nC := w64 (A.nC + n) }
def Ar.retireF (A : Ar) (h : Int) : Ar := ((A.turnF h 1 2).subL (A.turnN h 1)).addR (A.turnN h 1)
theorem Retire_det {A : Ar} (hA : A.nd) (h : Int) (H : Heap) : Det Tryz.prog f_arena_Arena_Retire [pA A, .int .i64 h] (A.put H) (.bool (A.turnB h 1)) ((A.retireF h).put H) := by
  refine t_arena_Arena_Retire_spec fun L => ?_
  unfold t_arena_Arena_Retire
  refine wp_call_det (x := (A.turnN h 1, A.turnB h 1, ())) (turn_det hA h 1 2 H) (wp_nil.2 ?_)
  have hB := turnF_nd hA h 1 2
  have ea : A.a = (A.turnF h 1 2).a := by unfold Ar.turnF; split <;> rfl
  have er : A.retireF h = ((A.turnF h 1 2).subL (A.turnN h 1)).addR (A.turnN h 1) := rfl
  rw [er, ea]
  generalize A.turnF h 1 2 = B at hB ⊢
  generalize A.turnN h 1 = n
  refine wp_fld (x := B.nL) (n := 8) (wp_nil.2 ?_)
  refine wp_setf (B.subL n) (n := 8) (u := .int .i64 B.nL) hB (wp_nil.2 ?_)
  refine wp_fld (A := B.subL n) (x := B.nR) (n := 9) (wp_nil.2 ?_)
  exact wp_setf (A := B.subL n) ((B.subL n).addR n) (n := 9) (u := .int .i64 B.nR) hB (wp_ret_of ⟨rfl, rfl⟩)
def setN {α : Type} (l : List α) (b : Nat) (v : α) : Nat → List α
  | 0 => l
  | n + 1 => (setN l b v n).set (b + n) v
theorem setN_length {α : Type} (l : List α) (b : Nat) (v : α) (n : Nat) : (setN l b v n).length = l.length := by
  induction n with
  | zero => rfl
  | succ n ih => simp only [setN, List.length_set, ih]
theorem setN_get {α : Type} (l : List α) (b : Nat) (v : α) (n i : Nat) : (setN l b v n)[i]? = if b ≤ i ∧ i < b + n ∧ i < l.length then some v else l[i]? := by
  induction n with
  | zero => rw [if_neg (by omega)]; rfl
  | succ n ih =>
    simp only [setN, List.getElem?_set, setN_length, ih]
    by_cases h1 : b + n = i
    · rw [if_pos h1]
      by_cases h2 : b + n < l.length
      · rw [if_pos h2, if_pos (by omega)]
      · rw [if_neg h2, if_neg (by omega)]
        exact (List.getElem?_eq_none (by omega)).symm
    · rw [if_neg h1]
      by_cases h2 : b ≤ i ∧ i < b + n ∧ i < l.length
      · rw [if_pos h2, if_pos (by omega)]
      · rw [if_neg h2, if_neg (by omega)]
def Ar.busyN (A : Ar) (b : Nat) (v : Bool) (n : Nat) : Ar := { A with busy := setN A.busy b v n }
theorem set_busy {A B : Ar} (hA : A.nd) (h : Ar.Alike A B) (v : Bool) (n : Nat) (hb : B.busy = A.busy.set n v) (hB : B.arrA = A.arrA ∧ B.objR = A.objR ∧ B.objW = A.objW ∧ B.objS = A.objS ∧ B.objC = A.objC ∧ B.objG = A.objG) (H : Heap) :
    (A.put H).set A.b (.cells ((bools A.busy).setIfInBounds n (.bool v)) ty_bool (0, 0)) = B.put H := by
  refine Ar.set_any (B := B) hA h H _ _ (.inr (.inr (.inr (.inr (.inl ⟨rfl, ?_, ?_, hB.2.1, hB.2.2.1, hB.2.2.2.1, hB.2.2.2.2.1, hB.2.2.2.2.2⟩)))))
  · unfold Ar.objB; rw [bools_set, hb]
  · unfold Ar.objA; rw [hB.1]
theorem set_carved {A B : Ar} (hA : A.nd) (h : Ar.Alike A B) (v : Bool) (n : Nat) (hb : B.carved = A.carved.set n v) (hB : B.arrA = A.arrA ∧ B.objR = A.objR ∧ B.objW = A.objW ∧ B.objS = A.objS ∧ B.objB = A.objB ∧ B.objG = A.objG) (H : Heap) :
    (A.put H).set A.c (.cells ((bools A.carved).setIfInBounds n (.bool v)) ty_bool (0, 0)) = B.put H := by
  refine Ar.set_any (B := B) hA h H _ _ (.inr (.inr (.inr (.inr (.inr (.inl ⟨rfl, ?_, ?_, hB.2.1, hB.2.2.1, hB.2.2.2.1, hB.2.2.2.2.1, hB.2.2.2.2.2⟩))))))
  · unfold Ar.objC; rw [bools_set, hb]
  · unfold Ar.objA; rw [hB.1]
def Ar.diedF (A : Ar) (h : Int) : Ar := (((A.turnF h 2 0).busyN (opB h).toNat false (A.turnN h 2).toNat).subR (A.turnN h 2)).addF (A.turnN h 2)
theorem turnN_le {A : Ar} (hA : A.wf) (h : Int) {s : Int} (hs : s ≠ 0) : 0 ≤ A.turnN h s ∧ A.turnN h s ≤ 64 ∧ (A.turnN h s ≠ 0 → opB h + A.turnN h s ≤ A.words.length) := by
  unfold Ar.turnN
  have := size_opC h
  split
  · rename_i e
    refine ⟨by omega, by omega, fun _ => hA.fit h (by omega)⟩
  · omega
theorem Died_det {A : Ar} (hA : A.wf) (h : Int) (H : Heap) : Det Tryz.prog f_arena_Arena_Died [pA A, .int .i64 h] (A.put H) (.bool (A.turnB h 2)) ((A.diedF h).put H) := by
  have hn := turnN_le hA h (s := 2) (by omega)
  have hB := turnF_nd hA.nd h 2 0
  have hbl : (A.turnF h 2 0).busy.length = A.words.length := by unfold Ar.turnF; split <;> exact hA.busy
  have hw := hA.words
  have ho := opB_nat h
  refine t_arena_Arena_Died_spec fun L => ?_
  unfold t_arena_Arena_Died
  refine wp_call_det (x := (A.turnN h 2, A.turnB h 2, ())) (turn_det hA.nd h 2 0 H) ?_
  refine wp_qcall_det (Open_all _ _) ?_
  have ea : A.a = (A.turnF h 2 0).a := by unfold Ar.turnF; split <;> rfl
  have er : A.diedF h = (((A.turnF h 2 0).busyN (opB h).toNat false (A.turnN h 2).toNat).subR (A.turnN h 2)).addF (A.turnN h 2) := rfl
  rw [er, ea]
  generalize A.turnF h 2 0 = B at hB hbl ⊢
  generalize A.turnN h 2 = n at hn ⊢
  refine wp_loop_int (fun i K => 0 ≤ i ∧ i ≤ n ∧ K = (B.busyN (opB h).toNat false i.toNat).put H) (fun i => (n - i).toNat) 0 ⟨Int.le_refl 0, hn.1, rfl⟩ ?_
  intro i K ⟨h0, h1, hK⟩
  rw [hK]
  rw [t_arena_Arena_Died_L1]
  have hC : (B.busyN (opB h).toNat false i.toNat).nd := hB
  have hCl : (B.busyN (opB h).toNat false i.toNat).busy.length = A.words.length := (setN_length _ _ _ _).trans hbl
  by_cases hlt : i < n
  · refine wp_true (ilt hlt) (wp_nil.2 ?_)
    have hfit := hn.2.2 (by omega)
    have e1 : w64 (opB h + i) = opB h + i := w64_in (by omega) (by omega)
    have e2 : w64 (i + 1) = i + 1 := w64_in (by omega) (by omega)
    refine wp_fld (A := B.busyN (opB h).toNat false i.toNat) (x := Sl.mk (some ⟨B.b, 0, none⟩) A.words.length A.words.length) (n := 4) (hx := by
      rw [← hCl]; rfl) ?_
    refine look_val (x := Addr.mk B.b (0 + (opB h + i).toNat) none) ?_ ?_
    · show opS Tryz.prog _ _ [_, .int .i64 (w64 (opB h + i))] = _
      rw [e1]
      exact idx_bool (by omega) (by show opB h + i < ((A.words.length : Nat) : Int); omega)
    · have hl : 0 + (opB h + i).toNat < (B.busyN (opB h).toNat false i.toNat).busy.length := by omega
      refine wp_st_of (Ar.at_b hC H) (bools_getD hl) rfl ?_
      have e3 : 0 + (opB h + i).toNat = (opB h).toNat + i.toNat := by omega
      have e4 : (i + 1).toNat = i.toNat + 1 := by omega
      rw [e3]
      have hset := set_busy (B := B.busyN (opB h).toNat false (i + 1).toNat) hC ⟨rfl, rfl, rfl, rfl, rfl, rfl, rfl⟩ false ((opB h).toNat + i.toNat) (by rw [e4]; rfl)
        ⟨by rw [e4]; unfold Ar.busyN Ar.arrA; simp only [setN_length], rfl, rfl, rfl, rfl, rfl⟩ H
      refine wp_again ?_
      refine ⟨i + 1, by rw [e2], ⟨by omega, by omega, hset⟩, by omega⟩
  · have hx : i = n := by omega
    refine wp_false (inlt (by omega)) (wp_nil.2 ?_)
    rw [hx] at hC ⊢
    have ec : B.a = (B.busyN (opB h).toNat false n.toNat).a := rfl
    rw [ec]
    generalize B.busyN (opB h).toNat false n.toNat = C at hC ⊢
    refine wp_fld (x := C.nR) (n := 9) (wp_nil.2 ?_)
    refine wp_setf (C.subR n) (n := 9) (u := .int .i64 C.nR) hC (wp_nil.2 ?_)
    refine wp_fld (A := C.subR n) (x := C.nF) (n := 10) (wp_nil.2 ?_)
    exact wp_setf (A := C.subR n) ((C.subR n).addF n) (n := 10) (u := .int .i64 C.nF) hC (wp_ret_of ⟨rfl, rfl⟩)
theorem Uses_det {A : Ar} (H : Heap) : Det Tryz.prog f_arena_Arena_Uses [pA A] (A.put H) (.int .i64 A.uses) (A.put H) := by
  refine t_arena_Arena_Uses_spec fun L => ?_
  unfold t_arena_Arena_Uses
  exact wp_nil.2 (wp_fld (x := A.uses) (n := 12) (wp_ret_of ⟨rfl, rfl⟩))
theorem Fault_det {A : Ar} (H : Heap) : Det Tryz.prog f_arena_Arena_Fault [pA A] (A.put H) (.bool A.fault) (A.put H) := by
  refine t_arena_Arena_Fault_spec fun L => ?_
  unfold t_arena_Arena_Fault
  exact wp_nil.2 (wp_fld (x := A.fault) (n := 11) (wp_ret_of ⟨rfl, rfl⟩))
theorem wp_heap {t : Tree} {L : Hands} {H K : Heap} {R : Value → Heap → Prop} (e : H = K) (h : wp Tryz.prog t L K R) : wp Tryz.prog t L H R := e ▸ h
theorem wp_entryStore {V : Type} {enc : V → Value} {l : List (Int × V)} {L : Hands} {H : Heap} {R : Value → Heap → Prop} {s t u : TypeId} {x : Int} {v w : V} {k : Unit → Tree} (hs : H s = some (mapObj enc (alPut l x w)))
    (h : wp Tryz.prog (k ()) L (H.set s (mapObj enc (alPut l x v))) R) : wp Tryz.prog (.act (opS Tryz.prog (.entryStore t (.tmp 0) (.tmp 1) (.tmp 2)) u [.map (some s), .int .i64 (alIdx l x), enc v]) .unit k) L H R := by
  rw [← alIdx_put x w l]
  refine run_entryStore (enc := enc) (w := w) hs (by rw [alGet_put, if_pos rfl]) ⟨(), rfl, ?_⟩
  rw [alPut_put]; exact h
def Ar.setB (A : Ar) (n : Nat) (v : Bool) : Ar := { A with busy := A.busy.set n v }
def Ar.setC (A : Ar) (n : Nat) (v : Bool) : Ar := { A with carved := A.carved.set n v }
def Ar.new1 (A : Ar) (n : Nat) : Ar := if A.carved.getD n false then A else (A.addC 1).addF 1
def Ar.new2 (A : Ar) (n : Nat) : Ar := let B := (A.setB n true).setC n true; if A.fresh then B.setW n 0 else B
def Ar.bornN (A : Ar) (b : Nat) : Nat → Ar
  | 0 => A
  | i + 1 => ((A.bornN b i).new1 (b + i)).new2 (b + i)
theorem wp_loop_bi {L : Hands} {H : Heap} {R : Value → Heap → Prop} {n : Nat} {b : Bool} {init : List Value} {body : HL Sh1.T [.leaf .bool, .leaf (.int .i64)] → Tree} (I : Int → Heap → Prop) (m : Int → Nat) (i0 : Int) (hi : I i0 H)
    (hstep : ∀ (i : Int) (b : Bool) H', I i H' → wp Tryz.prog (body (b, i, ())) (L.set n fun vals H'' => ∃ (c : Bool) (j : Int), vals = [.bool c, .int .i64 j] ∧ I j H'' ∧ m j < m i) H' R) (h0 : init = [.bool b, .int .i64 i0] := by rfl) :
    wp Tryz.prog (.loop n [.leaf .bool, .leaf (.int .i64)] init body) L H R := by
  refine wp_loop_inv (fun x K => I x.2.1 K) (fun x _ => m x.2.1) (b, i0, ()) h0 hi ?_
  rintro ⟨c, i, u⟩ K hI
  refine Go.Fw.wp_mono _ (hstep i c K hI) (fun k vals H'' hk => ?_) (fun _ _ h => h)
  unfold Hands.set at *
  split at hk
  · rename_i e; rw [if_pos e]; obtain ⟨c, j, h1, h2, h3⟩ := hk; exact ⟨(c, j, ()), h1, h2, h3⟩
  · rename_i e; rw [if_neg e]; exact hk
def Ar.withG (A : Ar) (b g : Int) : Ar := { A with gens := alPut A.gens b g }
def Ar.bornF (A : Ar) (h : Int) : Ar :=
  ((((A.bornN (opB h).toNat (sizeF (opC h)).toNat).withS (opB h) h 1).withG (opB h) (opG h)).addL (sizeF (opC h))).subF (sizeF (opC h))
def Ar.free (A : Ar) (h : Int) : Prop := ∀ i : Nat, i < (sizeF (opC h)).toNat → A.busy.getD ((opB h).toNat + i) false = false
instance (A : Ar) (h : Int) : Decidable (A.free h) := by unfold Ar.free; infer_instance
def Ar.bornOk (A : Ar) (h : Int) : Prop := openOk h = true ∧ opB h + sizeF (opC h) ≤ A.words.length ∧ (alGet A.gens (opB h)).getD 0 < opG h ∧ A.free h
instance (A : Ar) (h : Int) : Decidable (A.bornOk h) := by unfold Ar.bornOk; infer_instance
structure Ar.Like (A B : Ar) : Prop where
  al : Ar.Alike A B
  bl : B.busy.length = A.busy.length
  cl : B.carved.length = A.carved.length
  wl : B.words.length = A.words.length
  rw : B.raw = A.raw
  sl : B.slots = A.slots
  gs : B.gens = A.gens
  fr : B.fresh = A.fresh
  fa : B.fault = A.fault
  us : B.uses = A.uses
theorem Ar.Like.trans {A B C : Ar} (h : Like A B) (k : Like B C) : Like A C :=
  ⟨h.al.trans k.al, k.bl.trans h.bl, k.cl.trans h.cl, k.wl.trans h.wl, k.rw.trans h.rw, k.sl.trans h.sl, k.gs.trans h.gs, k.fr.trans h.fr, k.fa.trans h.fa, k.us.trans h.us⟩
theorem Ar.Like.refl (A : Ar) : Like A A := ⟨.refl A, rfl, rfl, rfl, rfl, rfl, rfl, rfl, rfl, rfl⟩
theorem new1_like (A : Ar) (n : Nat) : A.Like (A.new1 n) := by unfold Ar.new1; split; exact .refl A; exact ⟨⟨rfl, rfl, rfl, rfl, rfl, rfl, rfl⟩, rfl, rfl, rfl, rfl, rfl, rfl, rfl, rfl, rfl⟩
theorem new2_like (A : Ar) (n : Nat) : A.Like (A.new2 n) := by
  unfold Ar.new2
  simp only
  split
  · exact ⟨⟨rfl, rfl, rfl, rfl, rfl, rfl, rfl⟩, by simp [Ar.setB, Ar.setC, Ar.setW], by simp [Ar.setB, Ar.setC, Ar.setW], by simp [Ar.setB, Ar.setC, Ar.setW], rfl, rfl, rfl, rfl, rfl, rfl⟩
  · exact ⟨⟨rfl, rfl, rfl, rfl, rfl, rfl, rfl⟩, by simp [Ar.setB, Ar.setC], by simp [Ar.setB, Ar.setC], by simp [Ar.setB, Ar.setC], rfl, rfl, rfl, rfl, rfl, rfl⟩
theorem bornN_like (A : Ar) (b n : Nat) : A.Like (A.bornN b n) := by
  induction n with
  | zero => exact .refl A
  | succ n ih => exact (ih.trans (new1_like _ _)).trans (new2_like _ _)
theorem Ar.Like.nd {A B : Ar} (h : A.Like B) (hA : A.nd) : B.nd := h.al.nd hA
theorem set_gens {A : Ar} (hA : A.nd) (b g : Int) (H : Heap) : (A.put H).set A.g (mapObj encInt (alPut A.gens b g)) = (A.withG b g).put H :=
  Ar.set_any (B := A.withG b g) hA ⟨rfl, rfl, rfl, rfl, rfl, rfl, rfl⟩ H _ _ (.inr (.inr (.inr (.inr (.inr (.inr ⟨rfl, rfl, rfl, rfl, rfl, rfl, rfl, rfl⟩))))))
theorem born_tail {C : Ar} {L : Hands} {H : Heap} {R : Value → Heap → Prop} (hC : C.nd) {b n i len : Int} {x45 : Sl} (hb : C.busy.length = len) (hc : C.carved.length = len) (hw : C.words.length = len) (hl : len ≤ 65536)
    (h0 : 0 ≤ b) (hi : 0 ≤ i) (hlt : i < n) (hf : b + n ≤ len) (hx : x45 = ⟨some ⟨C.w, b.toNat, none⟩, n.toNat, n.toNat⟩)
    (hk : L 768 [.int .i64 (i + 1)] ((C.new2 (b.toNat + i.toNat)).put H)) :
    wp Tryz.prog (
      .look (opS Tryz.prog (.nilCheck (.tmp 0)) ty_unit [pA C]) (.one (.leaf .addr)) fun x95 =>
      .ld (x95.add 4) .slice fun x97 =>
      .look (opS Tryz.prog (.nilCheck (.tmp 0)) ty_unit [pA C]) (.one (.leaf .addr)) fun x102 =>
      .ld (x102.add 5) .slice fun x104 =>
      .look (opS Tryz.prog (.indexAddr ty_s_bool (.tmp 0) (.tmp 1)) ty_unit [(.slice x97.a x97.len x97.cap), (.int .i64 (w64 (b + i)))]) (.one (.leaf .addr)) fun x108 =>
      .st x108 (.bool true) <|
      .look (opS Tryz.prog (.indexAddr ty_s_bool (.tmp 0) (.tmp 1)) ty_unit [(.slice x104.a x104.len x104.cap), (.int .i64 (w64 (b + i)))]) (.one (.leaf .addr)) fun x109 =>
      .st x109 (.bool true) <|
      .look (opS Tryz.prog (.nilCheck (.tmp 0)) ty_unit [pA C]) (.one (.leaf .addr)) fun x111 =>
      .ld (x111.add 2) .bool fun x113 =>
      bif x113 then (
        .look (opS Tryz.prog (.indexAddr ty_s_int (.tmp 0) (.tmp 1)) ty_unit [(.slice x45.a x45.len x45.cap), (.int .i64 i)]) (.one (.leaf .addr)) fun x116 =>
        .st x116 (.int .i64 0) <|
        .again 768 [(.int .i64 (w64 (i + 1)))])
      else (
        .again 768 [(.int .i64 (w64 (i + 1)))])) L (C.put H) R := by
  have e1 : w64 (b + i) = b + i := w64_in (by omega) (by omega)
  have e2 : w64 (i + 1) = i + 1 := w64_in (by omega) (by omega)
  have e3 : 0 + (b + i).toNat = b.toNat + i.toNat := by omega
  rw [e1, e2, hx]
  refine wp_nil.2 (wp_fld (x := Sl.mk (some ⟨C.b, 0, none⟩) C.busy.length C.busy.length) (n := 4) (wp_nil.2 ?_))
  refine wp_fld (x := Sl.mk (some ⟨C.c, 0, none⟩) C.carved.length C.carved.length) (n := 5) ?_
  refine look_val (x := Addr.mk C.b (0 + (b + i).toNat) none) (idx_bool (by omega) (by show b + i < ((C.busy.length : Nat) : Int); omega)) ?_
  rw [e3]
  refine wp_st_of (Ar.at_b hC H) (bools_getD (by omega)) rfl ?_
  have hD : (C.setB (b.toNat + i.toNat) true).nd := hC
  refine wp_heap (set_busy (B := C.setB (b.toNat + i.toNat) true) hC ⟨rfl, rfl, rfl, rfl, rfl, rfl, rfl⟩ true (b.toNat + i.toNat) rfl ⟨by unfold Ar.setB Ar.arrA; simp only [List.length_set], rfl, rfl, rfl, rfl, rfl⟩ H) ?_
  refine look_val (x := Addr.mk C.c (0 + (b + i).toNat) none) (idx_bool (by omega) (by show b + i < ((C.carved.length : Nat) : Int); omega)) ?_
  rw [e3]
  refine wp_st_of (Ar.at_c hD H) (bools_getD (by show _ < C.carved.length; omega)) rfl ?_
  have hE : ((C.setB (b.toNat + i.toNat) true).setC (b.toNat + i.toNat) true).nd := hC
  refine wp_heap (set_carved (B := (C.setB (b.toNat + i.toNat) true).setC (b.toNat + i.toNat) true) hD ⟨rfl, rfl, rfl, rfl, rfl, rfl, rfl⟩ true (b.toNat + i.toNat) rfl ⟨by unfold Ar.setC Ar.arrA; simp only [List.length_set], rfl, rfl, rfl, rfl, rfl⟩ H) ?_
  unfold Ar.new2 at hk
  simp only at hk
  refine wp_nil.2 (wp_fld (A := (C.setB (b.toNat + i.toNat) true).setC (b.toNat + i.toNat) true) (x := C.fresh) (n := 2) ?_)
  cases hf : C.fresh with
  | true =>
    rw [hf, if_pos rfl] at hk
    refine wp_true rfl ?_
    refine look_val (x := Addr.mk C.w (b.toNat + i.toNat) none) (idx_int hi (by show i < ((n.toNat : Nat) : Int); omega)) ?_
    refine wp_st_of (Ar.at_w hE H) (ints_getD (by show _ < C.words.length; omega)) rfl ?_
    exact wp_heap (set_words hE _ _ _) hk
  | false =>
    rw [hf, if_neg (by decide)] at hk
    exact wp_false rfl hk
theorem Born_det {A : Ar} (hA : A.wf) (h : Int) (H : Heap) : Det Tryz.prog f_arena_Arena_Born [pA A, .int .i64 h] (A.put H) (.bool (decide (A.bornOk h))) ((if A.bornOk h then A.bornF h else A).put H) := by
  have hw := hA.words
  have ho := opB_nat h
  have hs := size_opC h
  refine t_arena_Arena_Born_spec fun L => ?_
  unfold t_arena_Arena_Born
  refine wp_qcall_det (Open_all _ _) ?_
  cases hk : openOk h with
  | false =>
    refine wp_true rfl (wp_ret_of ⟨?_, ?_⟩)
    · rw [decide_eq_false (fun e => by rw [e.1] at hk; cases hk)]
    · rw [if_neg (fun e => by rw [e.1] at hk; cases hk)]
  | true =>
  refine wp_false rfl (wp_nil.2 ?_)
  refine wp_fld (x := Sl.mk (some ⟨A.w, 0, none⟩) A.words.length A.words.length) (n := 1) ?_
  refine wp_qcall_det (Size_det _ _) ?_
  have e1 : w64 (((A.words.length : Nat) : Int) - sizeF (opC h)) = ((A.words.length : Nat) : Int) - sizeF (opC h) := w64_in (by omega) (by omega)
  by_cases h1 : opB h + sizeF (opC h) ≤ A.words.length
  case neg =>
    refine wp_true (decide_eq_true (by show opB h > w64 (((A.words.length : Nat) : Int) - sizeF (opC h)); omega)) (wp_ret_of ⟨?_, ?_⟩)
    · rw [decide_eq_false (fun e => h1 e.2.1)]
    · rw [if_neg (fun e => h1 e.2.1)]
  refine wp_false (decide_eq_false (by show ¬ opB h > w64 (((A.words.length : Nat) : Int) - sizeF (opC h)); omega)) (wp_nil.2 ?_)
  refine wp_fld (x := some A.g) (n := 6) ?_
  refine wp_lookup (l := A.gens) (enc := encInt) (kt := ty_int) (et := ty_int) (z := .int .i64 0) (y := (alGet A.gens (opB h)).getD 0) (Ar.at_g hA.nd H) rfl rfl rfl rfl (by cases alGet A.gens (opB h) <;> rfl) ?_
  by_cases h2 : (alGet A.gens (opB h)).getD 0 < opG h
  case neg =>
    refine wp_true (ile (by show opG h ≤ (alGet A.gens (opB h)).getD 0; omega)) (wp_ret_of ⟨?_, ?_⟩)
    · rw [decide_eq_false (fun e => h2 e.2.2.1)]
    · rw [if_neg (fun e => h2 e.2.2.1)]
  refine wp_false (inle h2) ?_
  refine wp_call_det (x := Sl.mk (some ⟨A.w, (opB h).toNat, none⟩) (sizeF (opC h)).toNat (sizeF (opC h)).toNat) (body_det hA h1 H) ?_
  refine wp_loop_bi (fun i K => 0 ≤ i ∧ i ≤ sizeF (opC h) ∧ K = A.put H ∧ ∀ j : Nat, j < i.toNat → A.busy.getD ((opB h).toNat + j) false = false) (fun i => (sizeF (opC h) - i).toNat) 0 ⟨Int.le_refl 0, by omega, rfl, fun j hj => by omega⟩ ?_
  rintro i b K ⟨h3, h4, rfl, h5⟩
  rw [t_arena_Arena_Born_L1]
  by_cases hlt : i < sizeF (opC h)
  · refine wp_true (ilt (by show i < (((sizeF (opC h)).toNat : Nat) : Int); omega)) (wp_nil.2 ?_)
    have e2 : w64 (opB h + i) = opB h + i := w64_in (by omega) (by omega)
    have e3 : w64 (i + 1) = i + 1 := w64_in (by omega) (by omega)
    have hbl := hA.busy
    refine wp_fld (x := Sl.mk (some ⟨A.b, 0, none⟩) A.busy.length A.busy.length) (n := 4) ?_
    refine look_val (x := Addr.mk A.b (0 + (opB h + i).toNat) none) ?_ ?_
    · show opS Tryz.prog _ _ [_, .int .i64 (w64 (opB h + i))] = _
      rw [e2]
      exact idx_bool (by omega) (by show opB h + i < ((A.busy.length : Nat) : Int); omega)
    · have e4 : 0 + (opB h + i).toNat = (opB h).toNat + i.toNat := by omega
      rw [e4]
      refine wp_ld_of (x := A.busy.getD ((opB h).toNat + i.toNat) false) ((Heap.cell_of (Ar.at_b hA.nd H) _).trans (bools_getD (by omega))) ?_
      cases hb : A.busy.getD ((opB h).toNat + i.toNat) false with
      | true =>
        have hno : ¬ A.bornOk h := fun e => by
          have := e.2.2.2 i.toNat (by omega)
          rw [hb] at this; cases this
        refine wp_true rfl (wp_ret_of ⟨?_, ?_⟩)
        · rw [decide_eq_false hno]
        · rw [if_neg hno]
      | false =>
        refine wp_false rfl (wp_again ?_)
        refine ⟨b, i + 1, by rw [e3], ⟨by omega, by omega, rfl, fun j hj => ?_⟩, by omega⟩
        by_cases hj' : j < i.toNat
        · exact h5 j hj'
        · rw [show j = i.toNat by omega]; exact hb
  · have hx : i = sizeF (opC h) := by omega
    subst hx
    have hyes : A.bornOk h := ⟨hk, h1, h2, h5⟩
    rw [if_pos hyes, decide_eq_true hyes]
    refine wp_false (inlt (by show (((sizeF (opC h)).toNat : Nat) : Int) ≤ sizeF (opC h); omega)) ?_
    have hl0 : ∀ i, A.Like (A.bornN (opB h).toNat i) := fun i => bornN_like A _ i
    refine wp_loop_int (fun i K => 0 ≤ i ∧ i ≤ sizeF (opC h) ∧ K = (A.bornN (opB h).toNat i.toNat).put H) (fun i => (sizeF (opC h) - i).toNat) 0 ⟨Int.le_refl 0, by omega, rfl⟩ ?_
    intro i K ⟨h6, h7, hK⟩
    rw [hK]
    have hl := hl0 i.toNat
    have hbl := hA.busy
    have hcl := hA.carved
    rw [t_arena_Arena_Born_L2]
    have ea : pA A = pA (A.bornN (opB h).toNat i.toNat) := by unfold pA; rw [hl.al.a]
    have hB := hl.nd hA.nd
    have hs1 : ((A.bornN (opB h).toNat (i + 1).toNat)) = ((A.bornN (opB h).toNat i.toNat).new1 ((opB h).toNat + i.toNat)).new2 ((opB h).toNat + i.toNat) := by
      rw [show (i + 1).toNat = i.toNat + 1 by omega]; rfl
    by_cases hlt : i < sizeF (opC h)
    · refine wp_true (ilt (by show i < (((sizeF (opC h)).toNat : Nat) : Int); omega)) (wp_nil.2 ?_)
      have e2 : w64 (opB h + i) = opB h + i := w64_in (by omega) (by omega)
      have e5 : ((opB h + i).toNat) = (opB h).toNat + i.toNat := by omega
      have hk2 : ∃ j : Int, [Value.int .i64 (i + 1)] = [Value.int .i64 j] ∧ (0 ≤ j ∧ j ≤ sizeF (opC h) ∧ ((A.bornN (opB h).toNat (i + 1).toNat).put H) = (A.bornN (opB h).toNat j.toNat).put H) ∧ (sizeF (opC h) - j).toNat < (sizeF (opC h) - i).toNat :=
        ⟨i + 1, rfl, ⟨by omega, by omega, rfl⟩, by omega⟩
      rw [hs1] at hk2
      have ea2 : A.a = (A.bornN (opB h).toNat i.toNat).a := hl.al.a.symm
      have ew2 : A.w = (A.bornN (opB h).toNat i.toNat).w := hl.al.w.symm
      rw [ea2, ew2]
      have hbl1 := hl.bl
      have hcl1 := hl.cl
      have hwl1 := hl.wl
      generalize A.bornN (opB h).toNat i.toNat = B at *
      refine wp_fld (A := B) (x := Sl.mk (some ⟨B.c, 0, none⟩) B.carved.length B.carved.length) (n := 5) ?_
      refine look_val (x := Addr.mk B.c (0 + (opB h + i).toNat) none) ?_ ?_
      · show opS Tryz.prog _ _ [_, .int .i64 (w64 (opB h + i))] = _
        rw [e2]
        exact idx_bool (by omega) (by show opB h + i < ((B.carved.length : Nat) : Int); omega)
      · rw [Nat.zero_add, e5]
        refine wp_ld_of (x := B.carved.getD ((opB h).toNat + i.toNat) false) ((Heap.cell_of (Ar.at_c hB H) _).trans (bools_getD (by omega))) ?_
        cases hb : B.carved.getD ((opB h).toNat + i.toNat) false with
        | true =>
          have en : B.new1 ((opB h).toNat + i.toNat) = B := by unfold Ar.new1; rw [hb, if_pos rfl]
          rw [en] at hk2
          refine wp_false rfl ?_
          refine born_tail (C := B) (len := A.words.length) (b := opB h) (n := sizeF (opC h)) (i := i) hB (by omega) (by omega) (by omega) (by omega) (by omega) h6 hlt (by omega) rfl ?_
          show (L.set 384 _).set 768 _ 768 _ _
          unfold Hands.set; rw [if_pos rfl]; exact hk2
        | false =>
          have en : B.new1 ((opB h).toNat + i.toNat) = (B.addC 1).addF 1 := by unfold Ar.new1; rw [hb, if_neg (by decide)]
          rw [en] at hk2
          refine wp_true rfl (wp_nil.2 ?_)
          refine wp_fld (A := B) (x := B.nC) (n := 7) (wp_nil.2 ?_)
          refine wp_setf (B.addC 1) (n := 7) (u := .int .i64 B.nC) hB (wp_nil.2 ?_)
          refine wp_fld (A := B.addC 1) (x := B.nF) (n := 10) (wp_nil.2 ?_)
          refine wp_setf (A := B.addC 1) ((B.addC 1).addF 1) (n := 10) (u := .int .i64 B.nF) hB ?_
          refine born_tail (C := (B.addC 1).addF 1) (len := A.words.length) (b := opB h) (n := sizeF (opC h)) (i := i) hB (by show ((B.busy.length : Nat) : Int) = _; omega) (by show ((B.carved.length : Nat) : Int) = _; omega) (by show ((B.words.length : Nat) : Int) = _; omega) (by omega) (by omega) h6 hlt (by omega) rfl ?_
          show (L.set 384 _).set 768 _ 768 _ _
          unfold Hands.set; rw [if_pos rfl]; exact hk2
    · have hx : i = sizeF (opC h) := by omega
      subst hx
      refine wp_false (inlt (by show (((sizeF (opC h)).toNat : Nat) : Int) ≤ sizeF (opC h); omega)) (wp_nil.2 ?_)
      unfold Ar.bornF
      have ea2 : A.a = (A.bornN (opB h).toNat (sizeF (opC h)).toNat).a := hl.al.a.symm
      rw [ea2]
      generalize A.bornN (opB h).toNat (sizeF (opC h)).toNat = B at *
      have ez : (((sizeF (opC h)).toNat : Nat) : Int) = sizeF (opC h) := by omega
      rw [ez]
      refine wp_fld (A := B) (x := some B.s) (n := 3) (wp_nil.2 ?_)
      refine wp_fld (A := B) (x := some B.g) (n := 6) ?_
      refine run_mapEntry (enc := encSlot) (z := ((0, 0) : Int × Int)) (kt := ty_int) (et := ty_arena_slot) (Ar.at_s hB H) rfl rfl rfl rfl ?_
      refine ⟨((((alGet B.slots (opB h)).getD (0, 0)).1, ((alGet B.slots (opB h)).getD (0, 0)).2, ()), (alIdx B.slots (opB h) : Int), ()), rfl, ?_⟩
      refine wp_entryStore (enc := encSlot) (v := ((h, 1) : Int × Int)) (Heap.set_same _ _ _) ?_
      rw [Heap.set_set]
      refine wp_heap (set_slots hB _ _ _ _) ?_
      refine run_mapEntry (enc := encInt) (z := (0 : Int)) (l := B.gens) (kt := ty_int) (et := ty_int) (Ar.at_g (A := B.withS (opB h) h 1) hB H) rfl rfl rfl rfl ?_
      refine ⟨(((alGet B.gens (opB h)).getD 0), (alIdx B.gens (opB h) : Int), ()), rfl, ?_⟩
      refine wp_entryStore (enc := encInt) (l := B.gens) (v := opG h) (Heap.set_same _ _ _) ?_
      rw [Heap.set_set]
      refine wp_heap (set_gens (A := B.withS (opB h) h 1) hB _ _ _) (wp_nil.2 ?_)
      refine wp_fld (A := (B.withS (opB h) h 1).withG (opB h) (opG h)) (x := B.nL) (n := 8) (wp_nil.2 ?_)
      refine wp_setf (A := (B.withS (opB h) h 1).withG (opB h) (opG h)) (((B.withS (opB h) h 1).withG (opB h) (opG h)).addL (sizeF (opC h))) (n := 8) (u := .int .i64 B.nL) hB (wp_nil.2 ?_)
      refine wp_fld (A := ((B.withS (opB h) h 1).withG (opB h) (opG h)).addL (sizeF (opC h))) (x := B.nF) (n := 10) (wp_nil.2 ?_)
      exact wp_setf (A := ((B.withS (opB h) h 1).withG (opB h) (opG h)).addL (sizeF (opC h))) ((((B.withS (opB h) h 1).withG (opB h) (opG h)).addL (sizeF (opC h))).subF (sizeF (opC h))) (n := 10) (u := .int .i64 B.nF) hB (wp_ret_of ⟨rfl, rfl⟩)
theorem stF_withS (A : Ar) (b h s k : Int) : (A.withS b h s).stF k = if opB k = b then (if openOk k = true ∧ h = k then s else 0) else A.stF k := by
  unfold Ar.stF Ar.withS
  simp only [alGet_put]
  by_cases e : opB k = b
  · rw [if_pos e, if_pos e]
  · rw [if_neg e, if_neg e]
theorem withS_wf {A : Ar} (hA : A.wf) {h : Int} (s : Int) (hf : opB h + sizeF (opC h) ≤ A.words.length) : (A.withS (opB h) h s).wf :=
  ⟨hA.nd, fun k hk => by
    rw [stF_withS] at hk
    split at hk
    · split at hk
      · rename_i e; rw [← e.2]; exact hf
      · exact (hk rfl).elim
    · exact hA.fit k hk, hA.busy, hA.carved, hA.words, hA.raw, hA.wC, hA.wL, hA.wR, hA.wF⟩
theorem turnF_wf {A : Ar} (hA : A.wf) (h : Int) {s : Int} (t : Int) (hs : s ≠ 0) : (A.turnF h s t).wf := by
  unfold Ar.turnF
  split
  · rename_i e; exact withS_wf hA t (hA.fit h (by rw [e]; exact hs))
  · exact hA
theorem addL_wf {A : Ar} (hA : A.wf) (n : Int) : (A.addL n).wf := ⟨hA.nd, hA.fit, hA.busy, hA.carved, hA.words, hA.raw, hA.wC, w64_w64 _, hA.wR, hA.wF⟩
theorem subL_wf {A : Ar} (hA : A.wf) (n : Int) : (A.subL n).wf := ⟨hA.nd, hA.fit, hA.busy, hA.carved, hA.words, hA.raw, hA.wC, w64_w64 _, hA.wR, hA.wF⟩
theorem addR_wf {A : Ar} (hA : A.wf) (n : Int) : (A.addR n).wf := ⟨hA.nd, hA.fit, hA.busy, hA.carved, hA.words, hA.raw, hA.wC, hA.wL, w64_w64 _, hA.wF⟩
theorem subR_wf {A : Ar} (hA : A.wf) (n : Int) : (A.subR n).wf := ⟨hA.nd, hA.fit, hA.busy, hA.carved, hA.words, hA.raw, hA.wC, hA.wL, w64_w64 _, hA.wF⟩
theorem addF_wf {A : Ar} (hA : A.wf) (n : Int) : (A.addF n).wf := ⟨hA.nd, hA.fit, hA.busy, hA.carved, hA.words, hA.raw, hA.wC, hA.wL, hA.wR, w64_w64 _⟩
theorem subF_wf {A : Ar} (hA : A.wf) (n : Int) : (A.subF n).wf := ⟨hA.nd, hA.fit, hA.busy, hA.carved, hA.words, hA.raw, hA.wC, hA.wL, hA.wR, w64_w64 _⟩
theorem addC_wf {A : Ar} (hA : A.wf) (n : Int) : (A.addC n).wf := ⟨hA.nd, hA.fit, hA.busy, hA.carved, hA.words, hA.raw, w64_w64 _, hA.wL, hA.wR, hA.wF⟩
theorem busyN_wf {A : Ar} (hA : A.wf) (b : Nat) (v : Bool) (n : Nat) : (A.busyN b v n).wf := ⟨hA.nd, hA.fit, (setN_length _ _ _ _).trans hA.busy, hA.carved, hA.words, hA.raw, hA.wC, hA.wL, hA.wR, hA.wF⟩
theorem withG_wf {A : Ar} (hA : A.wf) (b g : Int) : (A.withG b g).wf := ⟨hA.nd, hA.fit, hA.busy, hA.carved, hA.words, hA.raw, hA.wC, hA.wL, hA.wR, hA.wF⟩
theorem setB_wf {A : Ar} (hA : A.wf) (n : Nat) (v : Bool) : (A.setB n v).wf := ⟨hA.nd, hA.fit, (List.length_set ..).trans hA.busy, hA.carved, hA.words, hA.raw, hA.wC, hA.wL, hA.wR, hA.wF⟩
theorem setC_wf {A : Ar} (hA : A.wf) (n : Nat) (v : Bool) : (A.setC n v).wf := ⟨hA.nd, hA.fit, hA.busy, (List.length_set ..).trans hA.carved, hA.words, hA.raw, hA.wC, hA.wL, hA.wR, hA.wF⟩
theorem retireF_wf {A : Ar} (hA : A.wf) (h : Int) : (A.retireF h).wf := addR_wf (subL_wf (turnF_wf hA h 2 (by omega)) _) _
theorem diedF_wf {A : Ar} (hA : A.wf) (h : Int) : (A.diedF h).wf := addF_wf (subR_wf (busyN_wf (turnF_wf hA h 0 (by omega)) _ _ _) _) _
theorem new1_wf {A : Ar} (hA : A.wf) (n : Nat) : (A.new1 n).wf := by unfold Ar.new1; split; exact hA; exact addF_wf (addC_wf hA _) _
theorem new2_wf {A : Ar} (hA : A.wf) (n : Nat) : (A.new2 n).wf := by
  unfold Ar.new2; simp only
  split
  · exact setW_wf (setC_wf (setB_wf hA _ _) _ _) _ _
  · exact setC_wf (setB_wf hA _ _) _ _
theorem bornN_wf {A : Ar} (hA : A.wf) (b n : Nat) : (A.bornN b n).wf := by
  induction n with
  | zero => exact hA
  | succ n ih => exact new2_wf (new1_wf ih _) _
theorem bornF_wf {A : Ar} (hA : A.wf) (h : Int) (hf : opB h + sizeF (opC h) ≤ A.words.length) : (A.bornF h).wf :=
  subF_wf (addL_wf (withG_wf (withS_wf (bornN_wf hA _ _) 1 (by rw [(bornN_like A _ _).wl]; exact hf)) _ _) _) _
structure Ar.made (A : Ar) (nr nw : Nat) (fr : Bool) : Prop where
  nd : A.nd
  raw : A.raw = List.replicate nr 0
  words : A.words = List.replicate nw 0
  fresh : A.fresh = fr
  slots : A.slots = []
  busy : A.busy = List.replicate nw false
  carved : A.carved = List.replicate nw false
  gens : A.gens = []
  nC : A.nC = 0
  nL : A.nL = 0
  nR : A.nR = 0
  nF : A.nF = 0
  fault : A.fault = false
  uses : A.uses = 0
theorem made_wf {A : Ar} {r w : Nat} {f : Bool} (h : A.made r w f) (hr : r ≤ 65536) (hw : w ≤ 65536) : A.wf :=
  have w0 : w64 0 = 0 := w64_in (by omega) (by omega)
  ⟨h.nd, fun k hk => (hk (by unfold Ar.stF; rw [h.slots]; rfl)).elim, by rw [h.busy, h.words]; simp, by rw [h.carved, h.words]; simp, by rw [h.words]; simpa using hw, by rw [h.raw]; simpa using hr,
    by rw [h.nC]; exact w0, by rw [h.nL]; exact w0, by rw [h.nR]; exact w0, by rw [h.nF]; exact w0⟩
theorem set_none {H : Heap} {b x : Nat} {o : Obj} (h : (H.set b o) x = none) : x ≠ b ∧ H x = none := by
  by_cases e : x = b
  · rw [e, Heap.set_same] at h; cases h
  · rw [Heap.set_ne _ _ e] at h; exact ⟨e, h⟩
theorem clamp (p : Int) : imax 0 (imin p 65536) = if p ≤ 0 then 0 else if p ≥ 65536 then 65536 else p := by
  unfold imax imin; split <;> split <;> first | omega | (split <;> omega) | skip
  all_goals (try split) <;> (try split) <;> omega
theorem New_spec (p0 p1 : Int) (f : Bool) (H : Heap) (h0 : 0 ≤ p0 ∧ p0 ≤ 65536) (h1 : 0 ≤ p1 ∧ p1 ≤ 65536) :
    SpecF Tryz.prog f_arena_New #[.int .i64 p0, .int .i64 p1, .bool f] H fun v K => ∃ A : Ar, A.made p0.toNat p1.toNat f ∧ (∀ x ∈ A.ids, H x = none) ∧ v = pA A ∧ K = A.put H := by
  have c0 : imax 0 (imin p0 65536) = p0 := by rw [clamp]; split <;> (try split) <;> omega
  have c1 : imax 0 (imin p1 65536) = p1 := by rw [clamp]; split <;> (try split) <;> omega
  refine t_arena_New_spec fun L => ?_
  unfold t_arena_New
  rw [c0, c1]
  refine wp_make (make_slice (e := ty_int) rfl rfl rfl (by exact Nat.le_refl 8) rfl rfl h0.1 (by omega)) (x := fun b => Sl.mk (some ⟨b, 0, none⟩) p0.toNat p0.toNat) (fun _ => rfl) fun r hr => ?_
  refine wp_make (make_slice (e := ty_int) rfl rfl rfl (by exact Nat.le_refl 8) rfl rfl h1.1 (by omega)) (x := fun b => Sl.mk (some ⟨b, 0, none⟩) p1.toNat p1.toNat) (fun _ => rfl) fun w hw => ?_
  refine wp_newM fun s hs => ?_
  refine wp_make (make_slice (e := ty_bool) rfl rfl rfl (by exact Nat.le_add_left 1 7) rfl rfl h1.1 (by omega)) (x := fun b => Sl.mk (some ⟨b, 0, none⟩) p1.toNat p1.toNat) (fun _ => rfl) fun b hb => ?_
  refine wp_make (make_slice (e := ty_bool) rfl rfl rfl (by exact Nat.le_add_left 1 7) rfl rfl h1.1 (by omega)) (x := fun b => Sl.mk (some ⟨b, 0, none⟩) p1.toNat p1.toNat) (fun _ => rfl) fun c hc => ?_
  refine wp_newM fun g hg => ?_
  refine wp_newP fun a ha => ?_
  obtain ⟨w1, w0⟩ := set_none hw
  obtain ⟨s1, hs⟩ := set_none hs
  obtain ⟨s2, s0⟩ := set_none hs
  obtain ⟨b1, hb⟩ := set_none hb
  obtain ⟨b2, hb⟩ := set_none hb
  obtain ⟨b3, b0⟩ := set_none hb
  obtain ⟨k1, hc⟩ := set_none hc
  obtain ⟨k2, hc⟩ := set_none hc
  obtain ⟨k3, hc⟩ := set_none hc
  obtain ⟨k4, k0⟩ := set_none hc
  obtain ⟨g1, hg⟩ := set_none hg
  obtain ⟨g2, hg⟩ := set_none hg
  obtain ⟨g3, hg⟩ := set_none hg
  obtain ⟨g4, hg⟩ := set_none hg
  obtain ⟨g5, g0⟩ := set_none hg
  obtain ⟨a1, ha⟩ := set_none ha
  obtain ⟨a2, ha⟩ := set_none ha
  obtain ⟨a3, ha⟩ := set_none ha
  obtain ⟨a4, ha⟩ := set_none ha
  obtain ⟨a5, ha⟩ := set_none ha
  obtain ⟨a6, a0⟩ := set_none ha
  refine wp_ret_of ⟨⟨a, r, w, s, b, c, g, List.replicate p0.toNat 0, List.replicate p1.toNat 0, f, [], List.replicate p1.toNat false, List.replicate p1.toNat false, [], 0, 0, 0, 0, false, 0⟩, ?_, ?_, rfl, ?_⟩
  · refine ⟨?_, rfl, rfl, rfl, rfl, rfl, rfl, rfl, rfl, rfl, rfl, rfl, rfl, rfl⟩
    unfold Ar.nd Ar.ids
    simp [*, Ne.symm w1, Ne.symm s1, Ne.symm s2, Ne.symm b1, Ne.symm b2, Ne.symm b3, Ne.symm k1, Ne.symm k2, Ne.symm k3, Ne.symm k4, Ne.symm g1, Ne.symm g2, Ne.symm g3, Ne.symm g4, Ne.symm g5]
  · intro x hx
    unfold Ar.ids at hx
    simp only [List.mem_cons, List.not_mem_nil, or_false] at hx
    rcases hx with rfl | rfl | rfl | rfl | rfl | rfl | rfl <;> assumption
  · funext x
    unfold Heap.set Ar.put
    simp only [Ar.objA, Ar.arrA, Ar.objR, Ar.objW, Ar.objS, Ar.objB, Ar.objC, Ar.objG, List.length_replicate, ints, bools, List.map_replicate, List.toArray_replicate]
    by_cases xa : x = a
    · rw [if_pos xa, if_pos xa]
    rw [if_neg xa, if_neg xa]
    by_cases xr : x = r
    · rw [if_pos xr, xr, if_neg (Ne.symm g5), if_neg (Ne.symm k4), if_neg (Ne.symm b3), if_neg (Ne.symm s2), if_neg (Ne.symm w1), if_pos rfl]
    rw [if_neg xr, if_neg xr]
    by_cases xw : x = w
    · rw [if_pos xw, xw, if_neg (Ne.symm g4), if_neg (Ne.symm k3), if_neg (Ne.symm b2), if_neg (Ne.symm s1), if_pos rfl]
    rw [if_neg xw, if_neg xw]
    by_cases xs : x = s
    · rw [if_pos xs, xs, if_neg (Ne.symm g3), if_neg (Ne.symm k2), if_neg (Ne.symm b1), if_pos rfl]; rfl
    rw [if_neg xs, if_neg xs]
    by_cases xb : x = b
    · rw [if_pos xb, xb, if_neg (Ne.symm g2), if_neg (Ne.symm k1), if_pos rfl]
    rw [if_neg xb, if_neg xb]
    by_cases xc : x = c
    · rw [if_pos xc, xc, if_neg (Ne.symm g1), if_pos rfl]
    rw [if_neg xc, if_neg xc]
    rfl
theorem turnF_alike (A : Ar) (h s t : Int) : Ar.Alike A (A.turnF h s t) := by unfold Ar.turnF; split; exact ⟨rfl, rfl, rfl, rfl, rfl, rfl, rfl⟩; exact .refl A
theorem retireF_alike (A : Ar) (h : Int) : Ar.Alike A (A.retireF h) := (turnF_alike A h 1 2).trans ⟨rfl, rfl, rfl, rfl, rfl, rfl, rfl⟩
theorem diedF_alike (A : Ar) (h : Int) : Ar.Alike A (A.diedF h) := (turnF_alike A h 2 0).trans ⟨rfl, rfl, rfl, rfl, rfl, rfl, rfl⟩
theorem born_end (B : Ar) (h n : Int) : Ar.Alike B ((((B.withS (opB h) h 1).withG (opB h) (opG h)).addL n).subF n) := ⟨rfl, rfl, rfl, rfl, rfl, rfl, rfl⟩
theorem bornF_alike (A : Ar) (h : Int) : Ar.Alike A (A.bornF h) := (bornN_like A _ _).al.trans (born_end _ _ _)
theorem touch_alike (A : Ar) (h off : Int) : Ar.Alike A (A.touch h off) := by unfold Ar.touch; split <;> exact ⟨rfl, rfl, rfl, rfl, rfl, rfl, rfl⟩
theorem storeF_alike (A : Ar) (h off v : Int) : Ar.Alike A (A.storeF h off v) := by unfold Ar.storeF; split <;> exact ⟨rfl, rfl, rfl, rfl, rfl, rfl, rfl⟩
theorem touchR_alike (A : Ar) (i : Int) : Ar.Alike A (A.touchR i) := by unfold Ar.touchR; split <;> exact ⟨rfl, rfl, rfl, rfl, rfl, rfl, rfl⟩
theorem storeR_alike (A : Ar) (i v : Int) : Ar.Alike A (A.storeR i v) := by unfold Ar.storeR; split <;> exact ⟨rfl, rfl, rfl, rfl, rfl, rfl, rfl⟩
theorem swapR_alike (A : Ar) (i v w : Int) : Ar.Alike A (A.swapR i v w) := by unfold Ar.swapR; split <;> (try split) <;> exact ⟨rfl, rfl, rfl, rfl, rfl, rfl, rfl⟩
theorem np_some (a : Addr) : opS Tryz.prog (.binOp .eql ty_p_arena_Arena (.tmp 0) (.const (.pointer none)) ty_p_arena_Arena) ty_bool [(.pointer (some a))] = .pure (.value (.bool false)) := by kernel_rfl
theorem Load_at {A : Ar} (hA : A.wf) {h off x : Int} {p : Value} (hp : p = pA A) (hx : A.loadF h off = x) (H : Heap) : Det Tryz.prog f_arena_Arena_Load [p, .int .i64 h, .int .i64 off] (A.put H) (.int .i64 x) ((A.touch h off).put H) := by
  rw [hp, ← hx]; exact Load_det hA h off H
theorem Store_at {A : Ar} (hA : A.wf) {h off x : Int} {p : Value} (hp : p = pA A) (H : Heap) : Det Tryz.prog f_arena_Arena_Store [p, .int .i64 h, .int .i64 off, .int .i64 x] (A.put H) (.tuple #[]) ((A.storeF h off x).put H) := by
  rw [hp]; exact Store_det hA h off x H
def IsSl (H : Heap) (s : Sl) (xs : List Int) : Prop :=
  (s = ⟨none, 0, 0⟩ ∧ xs = []) ∨ ∃ (b : Nat) (rest : Array Value), s = ⟨some ⟨b, 0, none⟩, xs.length, xs.length + rest.size⟩ ∧ H b = some (.cells (ints xs ++ rest) ty_int (0, 0))
theorem IsSl.len {H : Heap} {s : Sl} {xs : List Int} (h : IsSl H s xs) : s.len = xs.length := by
  rcases h with ⟨rfl, rfl⟩ | ⟨b, rest, rfl, _⟩ <;> rfl
theorem IsSl.nil (H : Heap) : IsSl H ⟨none, 0, 0⟩ [] := .inl ⟨rfl, rfl⟩
theorem IsSl.le {H K : Heap} (hk : H.le K) {s : Sl} {xs : List Int} (h : IsSl H s xs) : IsSl K s xs := by
  rcases h with h | ⟨b, rest, h1, h2⟩
  · exact .inl h
  · exact .inr ⟨b, rest, h1, hk _ _ h2⟩
section
variable {L : Hands} {G : Heap} {R : Value → Heap → Prop} {A : Ar} {q T : Nat} {c : Array Value}
theorem bl_fld {p : Addr} {n : Nat} {l : Leaf} {x : l.T} {k : l.T → Tree} (hq : q ∉ A.ids) (h : wp Tryz.prog (k x) L (A.put (G.set q (.cells c T (0, 0)))) R) (hp : p = ⟨q, n, none⟩ := by rfl) (hx : c[n]? = some (l.toVal x) := by rfl) :
    wp Tryz.prog (.ld p l k) L (A.put (G.set q (.cells c T (0, 0)))) R := by
  subst hp
  exact wp_ld_of ((Heap.cell_of (by rw [Ar.put_out hq, Heap.set_same]) _).trans hx) h
theorem bl_set {p : Addr} {n : Nat} {v u : Value} {k : Tree} (hq : q ∉ A.ids) (c' : Array Value) (h : wp Tryz.prog k L (A.put (G.set q (.cells c' T (0, 0)))) R) (hp : p = ⟨q, n, none⟩ := by rfl) (hx : c[n]? = some u := by rfl)
    (hc : c.setIfInBounds n v = c' := by rfl) (hs : Value.single v = true := by rfl) :
    wp Tryz.prog (.st p v k) L (A.put (G.set q (.cells c T (0, 0)))) R := by
  subst hp
  refine wp_st_of (by rw [Ar.put_out hq, Heap.set_same]) hx hs ?_
  rw [Ar.put_set _ hq, Heap.set_set, hc]; exact h
end
theorem touchR_yes {A : Ar} {i : Int} (h : A.rawOk i) : A.touchR i = A.tick := by unfold Ar.touchR; rw [if_pos h]
noncomputable def t_free_next (p0 : Int) (p1 : Int) : Tree :=
 .ret (.int .i64 (ior (w64 ((w64 ((Int.fdiv p0 (2 ^ 17)) + 1)) * 2 ^ 17)) p1))
theorem t_free_next_spec {p0 : Int} {p1 : Int} : SpT f_free_next #[(.int .i64 p0), (.int .i64 p1)] (t_free_next p0 p1) := spT tcfg1 Tryz.func160 (by kernel_rfl)
noncomputable def t_free_Place_head (p0_0 : Int) (p0_1 : Int) (p0_2 : Int) (p0_3 : Int) (p0_4 : Int) (p1 : Int) (p2 : Int) : Tree :=
 .newP (.cells #[(.int .i64 p0_0), (.int .i64 p0_1), (.int .i64 p0_2), (.int .i64 p0_3), (.int .i64 p0_4)] ty_free_Place) fun x3 =>
 .ld (x3.add 1) (.int .i64) fun x8 =>
 .ret (.int .i64 (w64 ((w64 (x8 + (w64 (4 * p1)))) + p2)))
theorem t_free_Place_head_spec {p0_0 : Int} {p0_1 : Int} {p0_2 : Int} {p0_3 : Int} {p0_4 : Int} {p1 : Int} {p2 : Int} : SpT f_free_Place_head #[(.agg #[(.int .i64 p0_0), (.int .i64 p0_1), (.int .i64 p0_2), (.int .i64 p0_3), (.int .i64 p0_4)]), (.int .i64 p1), (.int .i64 p2)] (t_free_Place_head p0_0 p0_1 p0_2 p0_3 p0_4 p1 p2) := spT tcfg1 Tryz.func108 (by kernel_rfl)
noncomputable def t_free_Raw (p0 : Int) (p1 : Int) : Tree :=
 .newP (.cells #[(.int .i64 0), (.int .i64 0), (.int .i64 0), (.int .i64 0), (.int .i64 0)] ty_free_Place) fun x4 =>
 .newP (.cells #[(.int .i64 0), (.int .i64 0), (.int .i64 0), (.int .i64 0), (.int .i64 0)] ty_free_Place) fun x7 =>
 .stA x7 [(.int .i64 (imax p0 0)), (.int .i64 0), (.int .i64 (w64 (4 * (imax p0 0)))), (.int .i64 0), (.int .i64 0)] <|
 .ld (x7.add 2) (.int .i64) fun x23 =>
 .st (x7.add 3) (.int .i64 (w64 (x23 + (w64 ((w64 (Int.tdiv (imax p1 0) 8)) + (imin (Int.tmod (imax p1 0) 8) 1)))))) <|
 .ld (x7.add 3) (.int .i64) fun x28 =>
 .st (x7.add 4) (.int .i64 (w64 (x28 + (w64 ((w64 (Int.tdiv (imax p1 0) 8)) + (imin (Int.tmod (imax p1 0) 8) 1)))))) <|
 .ldA x7 [(.int .i64), (.int .i64), (.int .i64), (.int .i64), (.int .i64)] fun x32 =>
 .ld (x7.add 4) (.int .i64) fun x34 =>
 .stA x4 [(.int .i64 x32.1), (.int .i64 x32.2.1), (.int .i64 x32.2.2.1), (.int .i64 x32.2.2.2.1), (.int .i64 x32.2.2.2.2.1)] <|
 .check (ldS (x7.add 4)) (.int .i64 x34) <|
 .look (ldK x4 5 0 #[] fun r0 => .pure (.value (.tuple #[(.agg r0), (.int .i64 (w64 (x34 + 1)))]))) (.tup [(.agg [(.int .i64), (.int .i64), (.int .i64), (.int .i64), (.int .i64)]), (.leaf (.int .i64))]) fun r => .ret (Sh.toVal (.tup [(.agg [(.int .i64), (.int .i64), (.int .i64), (.int .i64), (.int .i64)]), (.leaf (.int .i64))]) r)
theorem t_free_Raw_spec {p0 : Int} {p1 : Int} : SpT f_free_Raw #[(.int .i64 p0), (.int .i64 p1)] (t_free_Raw p0 p1) := spT tcfg1 Tryz.func34 (by kernel_rfl)
noncomputable def t_free_NewPush (p0_0 : Int) (p0_1 : Int) (p0_2 : Int) (p0_3 : Int) (p0_4 : Int) (p1 : Int) (p2 : Int) (p3 : Int) : Tree :=
 .newP (.cells #[(.int .i64 p0_0), (.int .i64 p0_1), (.int .i64 p0_2), (.int .i64 p0_3), (.int .i64 p0_4)] ty_free_Place) fun x4 =>
 .ldA x4 [(.int .i64), (.int .i64), (.int .i64), (.int .i64), (.int .i64)] fun x9 =>
 .ldA x4 [(.int .i64), (.int .i64), (.int .i64), (.int .i64), (.int .i64)] fun x10 =>
 .qcall f_free_Place_head [(.agg #[(.int .i64 x10.1), (.int .i64 x10.2.1), (.int .i64 x10.2.2.1), (.int .i64 x10.2.2.2.1), (.int .i64 x10.2.2.2.2.1)]), (.int .i64 p1), (.int .i64 p2)] (.one (.leaf (.int .i64))) fun x13 =>
 .newP (.cells #[(.int .i64 x9.1), (.int .i64 x9.2.1), (.int .i64 x9.2.2.1), (.int .i64 x9.2.2.2.1), (.int .i64 x9.2.2.2.2.1), (.int .i64 x13), (.int .i64 0), (.int .i64 0), (.int .i64 p3)] ty_free_pusher) fun x17 =>
 .newP (.cells #[(.iface ty_p_free_pusher (.pointer (some x17)))] ty_free_Push) fun x20 =>
 .ret (.pointer (some x20))
theorem t_free_NewPush_spec {p0_0 : Int} {p0_1 : Int} {p0_2 : Int} {p0_3 : Int} {p0_4 : Int} {p1 : Int} {p2 : Int} {p3 : Int} : SpT f_free_NewPush #[(.agg #[(.int .i64 p0_0), (.int .i64 p0_1), (.int .i64 p0_2), (.int .i64 p0_3), (.int .i64 p0_4)]), (.int .i64 p1), (.int .i64 p2), (.int .i64 p3)] (t_free_NewPush p0_0 p0_1 p0_2 p0_3 p0_4 p1 p2 p3) := spT tcfg1 Tryz.func132 (by kernel_rfl)
noncomputable def t_free_NewPop (p0_0 : Int) (p0_1 : Int) (p0_2 : Int) (p0_3 : Int) (p0_4 : Int) (p1 : Int) (p2 : Int) : Tree :=
 .newP (.cells #[(.int .i64 p0_0), (.int .i64 p0_1), (.int .i64 p0_2), (.int .i64 p0_3), (.int .i64 p0_4)] ty_free_Place) fun x3 =>
 .ldA x3 [(.int .i64), (.int .i64), (.int .i64), (.int .i64), (.int .i64)] fun x8 =>
 .ldA x3 [(.int .i64), (.int .i64), (.int .i64), (.int .i64), (.int .i64)] fun x9 =>
 .qcall f_free_Place_head [(.agg #[(.int .i64 x9.1), (.int .i64 x9.2.1), (.int .i64 x9.2.2.1), (.int .i64 x9.2.2.2.1), (.int .i64 x9.2.2.2.2.1)]), (.int .i64 p1), (.int .i64 p2)] (.one (.leaf (.int .i64))) fun x12 =>
 .newP (.cells #[(.int .i64 x8.1), (.int .i64 x8.2.1), (.int .i64 x8.2.2.1), (.int .i64 x8.2.2.2.1), (.int .i64 x8.2.2.2.2.1), (.int .i64 x12), (.int .i64 0), (.int .i64 0), (.int .i64 0), (.int .i64 0), (.bool false)] ty_free_popper) fun x15 =>
 .newP (.cells #[(.iface ty_p_free_popper (.pointer (some x15))), (.pointer (some x15))] ty_free_Pop) fun x20 =>
 .ret (.pointer (some x20))
theorem t_free_NewPop_spec {p0_0 : Int} {p0_1 : Int} {p0_2 : Int} {p0_3 : Int} {p0_4 : Int} {p1 : Int} {p2 : Int} : SpT f_free_NewPop #[(.agg #[(.int .i64 p0_0), (.int .i64 p0_1), (.int .i64 p0_2), (.int .i64 p0_3), (.int .i64 p0_4)]), (.int .i64 p1), (.int .i64 p2)] (t_free_NewPop p0_0 p0_1 p0_2 p0_3 p0_4 p1 p2) := spT tcfg1 Tryz.func75 (by kernel_rfl)
noncomputable def t_free_Push_Step (p0 : Option Addr) (p1 : Option Addr) : Tree :=
 lkN p0 fun x6 =>
 .ld x6 .val fun x8 =>
 .act (opS Tryz.prog (.call { callee := .invoke (.tmp 0) "Step", args := #[(.tmp 1)], argTypes := #[ty_p_arena_Arena] }) ty_bool [x8, (.pointer p1)]) (.one (.leaf .bool)) fun x10 =>
 .ret (.bool x10)
theorem t_free_Push_Step_spec {p0 : Option Addr} {p1 : Option Addr} : SpT f_free_Push_Step #[(.pointer p0), (.pointer p1)] (t_free_Push_Step p0 p1) := spT tcfg1 Tryz.func134 (by kernel_rfl)
noncomputable def t_free_Pop_Step (p0 : Option Addr) (p1 : Option Addr) : Tree :=
 lkN p0 fun x6 =>
 .ld x6 .val fun x8 =>
 .act (opS Tryz.prog (.call { callee := .invoke (.tmp 0) "Step", args := #[(.tmp 1)], argTypes := #[ty_p_arena_Arena] }) ty_bool [x8, (.pointer p1)]) (.one (.leaf .bool)) fun x10 =>
 .ret (.bool x10)
theorem t_free_Pop_Step_spec {p0 : Option Addr} {p1 : Option Addr} : SpT f_free_Pop_Step #[(.pointer p0), (.pointer p1)] (t_free_Pop_Step p0 p1) := spT tcfg1 Tryz.func92 (by kernel_rfl)
noncomputable def t_free_pusher_Step (p0 : Option Addr) (p1 : Option Addr) : Tree :=
 lkN p0 fun x6 =>
 .ld (x6.add 7) (.int .i64) fun x9 =>
 bif ((x9 : Int) == 1) then (
 lkN p0 fun x33 =>
 .ld (x33.add 2) (.int .i64) fun x37 =>
 lkN p0 fun x39 =>
 .ld (x39.add 8) (.int .i64) fun x41 =>
 lkN p0 fun x45 =>
 .ld (x45.add 6) (.int .i64) fun x48 =>
 .call f_arena_Arena_SetRaw [(.pointer p1), (.int .i64 (w64 (x37 + (w64 (Int.tdiv x41 8))))), (.int .i64 (iand x48 131071))] .unit fun _ =>
 lkN p0 fun x52 =>
 .st (x52.add 7) (.int .i64 2) <|
 .ret (.bool false))
 else (
 bif ((x9 : Int) == 2) then (
 lkN p0 fun x56 =>
 .st (x56.add 7) (.int .i64 0) <|
 lkN p0 fun x61 =>
 .ld (x61.add 5) (.int .i64) fun x64 =>
 lkN p0 fun x66 =>
 .ld (x66.add 6) (.int .i64) fun x69 =>
 lkN p0 fun x71 =>
 .ld (x71.add 6) (.int .i64) fun x74 =>
 lkN p0 fun x76 =>
 .ld (x76.add 8) (.int .i64) fun x78 =>
 .qcall f_free_next [(.int .i64 x74), (.int .i64 (w64 ((w64 (Int.tdiv x78 8)) + 1)))] (.one (.leaf (.int .i64))) fun x81 =>
 .call f_arena_Arena_SwapRaw [(.pointer p1), (.int .i64 x64), (.int .i64 x69), (.int .i64 x81)] (.one (.leaf .bool)) fun x82 =>
 bif x82 then (
 lkN p0 fun x84 =>
 .st (x84.add 7) (.int .i64 3) <|
 lkN p0 fun x88 =>
 .ld (x88.add 7) (.int .i64) fun x91 =>
 .ret (.bool ((x91 : Int) == 3)))
 else (
 lkN p0 fun x88 =>
 .ld (x88.add 7) (.int .i64) fun x91 =>
 .ret (.bool ((x91 : Int) == 3))))
 else (
 bif ((x9 : Int) == 3) then (
 .ret (.bool true))
 else (
 lkN p0 fun x19 =>
 .ld (x19.add 5) (.int .i64) fun x22 =>
 .call f_arena_Arena_Raw [(.pointer p1), (.int .i64 x22)] (.one (.leaf (.int .i64))) fun x23 =>
 lkN p0 fun x24 =>
 .st (x24.add 6) (.int .i64 x23) <|
 lkN p0 fun x28 =>
 .st (x28.add 7) (.int .i64 1) <|
 .ret (.bool false))))
theorem t_free_pusher_Step_spec {p0 : Option Addr} {p1 : Option Addr} : SpT f_free_pusher_Step #[(.pointer p0), (.pointer p1)] (t_free_pusher_Step p0 p1) := spT tcfg1 Tryz.func166 (by kernel_rfl)
noncomputable def t_free_popper_Step (p0 : Option Addr) (p1 : Option Addr) : Tree :=
 lkN p0 fun x6 =>
 .ld (x6.add 7) (.int .i64) fun x9 =>
 bif ((x9 : Int) == 1) then (
 lkN p0 fun x51 =>
 .ld (x51.add 2) (.int .i64) fun x55 =>
 lkN p0 fun x57 =>
 .ld (x57.add 6) (.int .i64) fun x60 =>
 .call f_arena_Arena_Raw [(.pointer p1), (.int .i64 (w64 ((w64 (x55 + (iand x60 131071))) - 1)))] (.one (.leaf (.int .i64))) fun x64 =>
 lkN p0 fun x65 =>
 .st (x65.add 8) (.int .i64 x64) <|
 lkN p0 fun x68 =>
 .st (x68.add 7) (.int .i64 2) <|
 .ret (.bool false))
 else (
 bif ((x9 : Int) == 2) then (
 lkN p0 fun x72 =>
 .st (x72.add 7) (.int .i64 0) <|
 lkN p0 fun x77 =>
 .ld (x77.add 5) (.int .i64) fun x80 =>
 lkN p0 fun x82 =>
 .ld (x82.add 6) (.int .i64) fun x85 =>
 lkN p0 fun x87 =>
 .ld (x87.add 6) (.int .i64) fun x90 =>
 lkN p0 fun x92 =>
 .ld (x92.add 8) (.int .i64) fun x94 =>
 .qcall f_free_next [(.int .i64 x90), (.int .i64 x94)] (.one (.leaf (.int .i64))) fun x95 =>
 .call f_arena_Arena_SwapRaw [(.pointer p1), (.int .i64 x80), (.int .i64 x85), (.int .i64 x95)] (.one (.leaf .bool)) fun x96 =>
 bif x96 then (
 lkN p0 fun x101 =>
 .ld (x101.add 6) (.int .i64) fun x104 =>
 lkN p0 fun x108 =>
 .st (x108.add 7) (.int .i64 3) <|
 lkN p0 fun x111 =>
 .st (x111.add 9) (.int .i64 (w64 ((w64 ((iand x104 131071) - 1)) * 8))) <|
 lkN p0 fun x113 =>
 .st (x113.add 10) (.bool true) <|
 lkN p0 fun x116 =>
 .ld (x116.add 7) (.int .i64) fun x119 =>
 .ret (.bool ((x119 : Int) == 3)))
 else (
 lkN p0 fun x116 =>
 .ld (x116.add 7) (.int .i64) fun x119 =>
 .ret (.bool ((x119 : Int) == 3))))
 else (
 bif ((x9 : Int) == 3) then (
 .ret (.bool true))
 else (
 lkN p0 fun x19 =>
 .ld (x19.add 5) (.int .i64) fun x22 =>
 .call f_arena_Arena_Raw [(.pointer p1), (.int .i64 x22)] (.one (.leaf (.int .i64))) fun x23 =>
 lkN p0 fun x24 =>
 .st (x24.add 6) (.int .i64 x23) <|
 lkN p0 fun x28 =>
 .st (x28.add 7) (.int .i64 1) <|
 lkN p0 fun x32 =>
 .ld (x32.add 6) (.int .i64) fun x35 =>
 bif (((iand x35 131071) : Int) == 0) then (
 lkN p0 fun x39 =>
 .st (x39.add 7) (.int .i64 3) <|
 lkN p0 fun x43 =>
 .ld (x43.add 7) (.int .i64) fun x46 =>
 .ret (.bool ((x46 : Int) == 3)))
 else (
 lkN p0 fun x43 =>
 .ld (x43.add 7) (.int .i64) fun x46 =>
 .ret (.bool ((x46 : Int) == 3))))))
theorem t_free_popper_Step_spec {p0 : Option Addr} {p1 : Option Addr} : SpT f_free_popper_Step #[(.pointer p0), (.pointer p1)] (t_free_popper_Step p0 p1) := spT tcfg1 Tryz.func159 (by kernel_rfl)
noncomputable def t_free_Pop_Base (p0 : Option Addr) : Tree :=
 lkN p0 fun x5 =>
 .ld (x5.add 1) .ptr fun x7 =>
 lkN x7 fun x8 =>
 .ld (x8.add 9) (.int .i64) fun x10 =>
 lkN p0 fun x12 =>
 .ld (x12.add 1) .ptr fun x14 =>
 lkN x14 fun x15 =>
 .ld (x15.add 10) .bool fun x17 =>
 .ret (.tuple #[(.int .i64 x10), (.bool x17)])
theorem t_free_Pop_Base_spec {p0 : Option Addr} : SpT f_free_Pop_Base #[(.pointer p0)] (t_free_Pop_Base p0) := spT tcfg1 Tryz.func113 (by kernel_rfl)
structure Pl where
  work : Int
  heads : Int
  links : Int
  gens : Int
  carved : Int
def Pl.cells (p : Pl) : Array Value := #[.int .i64 p.work, .int .i64 p.heads, .int .i64 p.links, .int .i64 p.gens, .int .i64 p.carved]
def Pl.val (p : Pl) : Value := .agg p.cells
structure Pu where
  pl : Pl
  head : Int
  was : Int
  at' : Int
  base : Int
def Pu.cells (x : Pu) : Array Value := #[.int .i64 x.pl.work, .int .i64 x.pl.heads, .int .i64 x.pl.links, .int .i64 x.pl.gens, .int .i64 x.pl.carved, .int .i64 x.head, .int .i64 x.was, .int .i64 x.at', .int .i64 x.base]
def Pu.obj (x : Pu) : Obj := .cells x.cells ty_free_pusher (0, 0)
structure Po where
  pl : Pl
  head : Int
  was : Int
  at' : Int
  link : Int
  base : Int
  ok : Bool
def Po.cells (x : Po) : Array Value := #[.int .i64 x.pl.work, .int .i64 x.pl.heads, .int .i64 x.pl.links, .int .i64 x.pl.gens, .int .i64 x.pl.carved, .int .i64 x.head, .int .i64 x.was, .int .i64 x.at', .int .i64 x.link, .int .i64 x.base, .bool x.ok]
def Po.obj (x : Po) : Obj := .cells x.cells ty_free_popper (0, 0)
def nextF (h f : Int) : Int := ior (w64 ((w64 ((Int.fdiv h (2 ^ 17)) + 1)) * 2 ^ 17)) f
theorem next_det (h f : Int) (H : Heap) : Det Tryz.prog f_free_next [.int .i64 h, .int .i64 f] H (.int .i64 (nextF h f)) H := by
  refine t_free_next_spec fun L => ?_
  unfold t_free_next
  exact wp_ret_of ⟨rfl, rfl⟩
def Pu.stepB (x : Pu) (A : Ar) : Bool := if x.at' = 2 then A.swapRb x.head x.was else decide (x.at' = 3)
def Pu.stepA (x : Pu) (A : Ar) : Ar :=
  if x.at' = 1 then A.storeR (w64 (x.pl.links + w64 (Int.tdiv x.base 8))) (iand x.was 131071)
  else if x.at' = 2 then A.swapR x.head x.was (nextF x.was (w64 (w64 (Int.tdiv x.base 8) + 1)))
  else if x.at' = 3 then A else A.touchR x.head
def Pu.stepM (x : Pu) (A : Ar) : Pu :=
  if x.at' = 1 then { x with at' := 2 }
  else if x.at' = 2 then { x with at' := if A.swapRb x.head x.was then 3 else 0 }
  else if x.at' = 3 then x else { x with was := A.rawF x.head, at' := 1 }
theorem pusher_det {A : Ar} (hA : A.wf) (x : Pu) {q : Nat} (hq : q ∉ A.ids) (G : Heap) :
    Det Tryz.prog f_free_pusher_Step [.pointer (some ⟨q, 0, none⟩), pA A] (A.put (G.set q x.obj)) (.bool (x.stepB A)) ((x.stepA A).put (G.set q (x.stepM A).obj)) := by
  refine t_free_pusher_Step_spec fun L => ?_
  unfold t_free_pusher_Step Pu.stepB Pu.stepA Pu.stepM
  refine wp_nil.2 (bl_fld (x := x.at') (n := 7) hq ?_)
  by_cases h1 : x.at' = 1
  · rw [if_neg (by omega), if_pos h1, if_pos h1, decide_eq_false (by omega)]
    refine wp_true (ibeq h1) (wp_nil.2 ?_)
    refine bl_fld (x := x.pl.links) (n := 2) hq (wp_nil.2 ?_)
    refine bl_fld (x := x.base) (n := 8) hq (wp_nil.2 ?_)
    refine bl_fld (x := x.was) (n := 6) hq ?_
    refine wp_call_det (x := ()) (SetRaw_det hA _ _ _) (wp_nil.2 ?_)
    have hq' : q ∉ (A.storeR (w64 (x.pl.links + w64 (Int.tdiv x.base 8))) (iand x.was 131071)).ids := by rw [(storeR_alike A _ _).ids]; exact hq
    refine bl_set (u := .int .i64 x.at') (n := 7) hq' (({ x with at' := 2 } : Pu).cells) ?_
    exact wp_ret_of ⟨rfl, rfl⟩
  · refine wp_false (ibef h1) ?_
    rw [if_neg h1, if_neg h1]
    by_cases h2 : x.at' = 2
    · rw [if_pos h2, if_pos h2, if_pos h2]
      refine wp_true (ibeq h2) (wp_nil.2 ?_)
      refine bl_set (u := .int .i64 x.at') (n := 7) hq (({ x with at' := 0 } : Pu).cells) (wp_nil.2 ?_)
      refine bl_fld (x := x.head) (n := 5) hq (wp_nil.2 ?_)
      refine bl_fld (x := x.was) (n := 6) hq (wp_nil.2 ?_)
      refine bl_fld (x := x.was) (n := 6) hq (wp_nil.2 ?_)
      refine bl_fld (x := x.base) (n := 8) hq ?_
      refine wp_qcall_det (next_det _ _ _) ?_
      refine wp_call_det (SwapRaw_det hA _ _ _ _) ?_
      have hq' : q ∉ (A.swapR x.head x.was (nextF x.was (w64 (w64 (Int.tdiv x.base 8) + 1)))).ids := by rw [(swapR_alike A _ _ _).ids]; exact hq
      cases hb : A.swapRb x.head x.was with
      | true =>
        refine wp_true rfl (wp_nil.2 ?_)
        refine bl_set (u := .int .i64 0) (n := 7) hq' (({ x with at' := 3 } : Pu).cells) (wp_nil.2 ?_)
        refine bl_fld (x := (3 : Int)) (n := 7) hq' ?_
        exact wp_ret_of ⟨rfl, rfl⟩
      | false =>
        refine wp_false rfl (wp_nil.2 ?_)
        refine bl_fld (x := (0 : Int)) (n := 7) hq' ?_
        exact wp_ret_of ⟨rfl, rfl⟩
    · refine wp_false (ibef h2) ?_
      rw [if_neg h2, if_neg h2, if_neg h2]
      by_cases h3 : x.at' = 3
      · rw [if_pos h3, if_pos h3, decide_eq_true h3]
        exact wp_true (ibeq h3) (wp_ret_of ⟨rfl, rfl⟩)
      · refine wp_false (ibef h3) (wp_nil.2 ?_)
        rw [if_neg h3, if_neg h3, decide_eq_false h3]
        refine bl_fld (x := x.head) (n := 5) hq ?_
        refine wp_call_det (Raw_det hA _ _) (wp_nil.2 ?_)
        have hq' : q ∉ (A.touchR x.head).ids := by rw [(touchR_alike A _).ids]; exact hq
        refine bl_set (u := .int .i64 x.was) (n := 6) hq' (({ x with was := A.rawF x.head } : Pu).cells) (wp_nil.2 ?_)
        refine bl_set (u := .int .i64 x.at') (n := 7) hq' (({ x with was := A.rawF x.head, at' := 1 } : Pu).cells) ?_
        exact wp_ret_of ⟨rfl, rfl⟩
def Po.stepB (x : Po) (A : Ar) : Bool := if x.at' = 1 then false else if x.at' = 2 then A.swapRb x.head x.was else if x.at' = 3 then true else decide (iand (A.rawF x.head) 131071 = 0)
def Po.stepA (x : Po) (A : Ar) : Ar :=
  if x.at' = 1 then A.touchR (w64 (w64 (x.pl.links + iand x.was 131071) - 1))
  else if x.at' = 2 then A.swapR x.head x.was (nextF x.was x.link)
  else if x.at' = 3 then A else A.touchR x.head
def Po.stepM (x : Po) (A : Ar) : Po :=
  if x.at' = 1 then { x with link := A.rawF (w64 (w64 (x.pl.links + iand x.was 131071) - 1)), at' := 2 }
  else if x.at' = 2 then if A.swapRb x.head x.was then { x with at' := 3, base := w64 (w64 (iand x.was 131071 - 1) * 8), ok := true } else { x with at' := 0 }
  else if x.at' = 3 then x else { x with was := A.rawF x.head, at' := if iand (A.rawF x.head) 131071 = 0 then 3 else 1 }
theorem popper_det {A : Ar} (hA : A.wf) (x : Po) {q : Nat} (hq : q ∉ A.ids) (G : Heap) :
    Det Tryz.prog f_free_popper_Step [.pointer (some ⟨q, 0, none⟩), pA A] (A.put (G.set q x.obj)) (.bool (x.stepB A)) ((x.stepA A).put (G.set q (x.stepM A).obj)) := by
  refine t_free_popper_Step_spec fun L => ?_
  unfold t_free_popper_Step Po.stepB Po.stepA Po.stepM
  refine wp_nil.2 (bl_fld (x := x.at') (n := 7) hq ?_)
  by_cases h1 : x.at' = 1
  · rw [if_pos h1, if_pos h1, if_pos h1]
    refine wp_true (ibeq h1) (wp_nil.2 ?_)
    refine bl_fld (x := x.pl.links) (n := 2) hq (wp_nil.2 ?_)
    refine bl_fld (x := x.was) (n := 6) hq ?_
    refine wp_call_det (Raw_det hA _ _) (wp_nil.2 ?_)
    have hq' : q ∉ (A.touchR (w64 (w64 (x.pl.links + iand x.was 131071) - 1))).ids := by rw [(touchR_alike A _).ids]; exact hq
    refine bl_set (u := .int .i64 x.link) (n := 8) hq' (({ x with link := A.rawF (w64 (w64 (x.pl.links + iand x.was 131071) - 1)) } : Po).cells) (wp_nil.2 ?_)
    refine bl_set (u := .int .i64 x.at') (n := 7) hq' (({ x with link := A.rawF (w64 (w64 (x.pl.links + iand x.was 131071) - 1)), at' := 2 } : Po).cells) ?_
    exact wp_ret_of ⟨rfl, rfl⟩
  · refine wp_false (ibef h1) ?_
    rw [if_neg h1, if_neg h1, if_neg h1]
    by_cases h2 : x.at' = 2
    · rw [if_pos h2, if_pos h2, if_pos h2]
      refine wp_true (ibeq h2) (wp_nil.2 ?_)
      refine bl_set (u := .int .i64 x.at') (n := 7) hq (({ x with at' := 0 } : Po).cells) (wp_nil.2 ?_)
      refine bl_fld (x := x.head) (n := 5) hq (wp_nil.2 ?_)
      refine bl_fld (x := x.was) (n := 6) hq (wp_nil.2 ?_)
      refine bl_fld (x := x.was) (n := 6) hq (wp_nil.2 ?_)
      refine bl_fld (x := x.link) (n := 8) hq ?_
      refine wp_qcall_det (next_det _ _ _) ?_
      refine wp_call_det (SwapRaw_det hA _ _ _ _) ?_
      have hq' : q ∉ (A.swapR x.head x.was (nextF x.was x.link)).ids := by rw [(swapR_alike A _ _ _).ids]; exact hq
      cases hb : A.swapRb x.head x.was with
      | true =>
        refine wp_true rfl (wp_nil.2 ?_)
        refine bl_fld (x := x.was) (n := 6) hq' (wp_nil.2 ?_)
        refine bl_set (u := .int .i64 0) (n := 7) hq' (({ x with at' := 3 } : Po).cells) (wp_nil.2 ?_)
        refine bl_set (u := .int .i64 x.base) (n := 9) hq' (({ x with at' := 3, base := w64 (w64 (iand x.was 131071 - 1) * 8) } : Po).cells) (wp_nil.2 ?_)
        refine bl_set (u := .bool x.ok) (n := 10) hq' (({ x with at' := 3, base := w64 (w64 (iand x.was 131071 - 1) * 8), ok := true } : Po).cells) (wp_nil.2 ?_)
        refine bl_fld (x := (3 : Int)) (n := 7) hq' ?_
        exact wp_ret_of ⟨rfl, rfl⟩
      | false =>
        refine wp_false rfl (wp_nil.2 ?_)
        refine bl_fld (x := (0 : Int)) (n := 7) hq' ?_
        exact wp_ret_of ⟨rfl, rfl⟩
    · refine wp_false (ibef h2) ?_
      rw [if_neg h2, if_neg h2, if_neg h2]
      by_cases h3 : x.at' = 3
      · rw [if_pos h3, if_pos h3, if_pos h3]
        exact wp_true (ibeq h3) (wp_ret_of ⟨rfl, rfl⟩)
      · refine wp_false (ibef h3) (wp_nil.2 ?_)
        rw [if_neg h3, if_neg h3, if_neg h3]
        refine bl_fld (x := x.head) (n := 5) hq ?_
        refine wp_call_det (Raw_det hA _ _) (wp_nil.2 ?_)
        have hq' : q ∉ (A.touchR x.head).ids := by rw [(touchR_alike A _).ids]; exact hq
        refine bl_set (u := .int .i64 x.was) (n := 6) hq' (({ x with was := A.rawF x.head } : Po).cells) (wp_nil.2 ?_)
        refine bl_set (u := .int .i64 x.at') (n := 7) hq' (({ x with was := A.rawF x.head, at' := 1 } : Po).cells) (wp_nil.2 ?_)
        refine bl_fld (x := A.rawF x.head) (n := 6) hq' ?_
        by_cases h4 : iand (A.rawF x.head) 131071 = 0
        · rw [decide_eq_true h4, if_pos h4]
          refine wp_true (ibeq h4) (wp_nil.2 ?_)
          refine bl_set (u := .int .i64 1) (n := 7) hq' (({ x with was := A.rawF x.head, at' := 3 } : Po).cells) (wp_nil.2 ?_)
          refine bl_fld (x := (3 : Int)) (n := 7) hq' ?_
          exact wp_ret_of ⟨rfl, rfl⟩
        · rw [decide_eq_false h4, if_neg h4]
          refine wp_false (ibef h4) (wp_nil.2 ?_)
          refine bl_fld (x := (1 : Int)) (n := 7) hq' ?_
          exact wp_ret_of ⟨rfl, rfl⟩
theorem wp_pl {L : Hands} {H : Heap} {R : Value → Heap → Prop} {b : Nat} {p : Pl} {k : HL Leaf.T [(.int .i64), (.int .i64), (.int .i64), (.int .i64), (.int .i64)] → Tree} (hb : H b = some (.cells p.cells ty_free_Place (0, 0)))
    (h : wp Tryz.prog (k (p.work, p.heads, p.links, p.gens, p.carved, ())) L H R) : wp Tryz.prog (.ldA ⟨b, 0, none⟩ [(.int .i64), (.int .i64), (.int .i64), (.int .i64), (.int .i64)] k) L H R :=
  wp_ldA_of (c := p.cells) (n := 0) hb (by exact Nat.le_refl 5) rfl h
def headF (p : Pl) (w c : Int) : Int := w64 (w64 (p.heads + w64 (4 * w)) + c)
theorem head_det (p : Pl) (w c : Int) (H : Heap) : Det Tryz.prog f_free_Place_head [p.val, .int .i64 w, .int .i64 c] H (.int .i64 (headF p w c)) H := by
  refine t_free_Place_head_spec (p0_0 := p.work) (p0_1 := p.heads) (p0_2 := p.links) (p0_3 := p.gens) (p0_4 := p.carved) fun L => ?_
  unfold t_free_Place_head
  refine wp_newP fun b hb => ?_
  refine wp_ld_of (x := p.heads) (by show Heap.cell? _ ⟨b, 1, none⟩ = _; rw [Heap.cell_set]; rfl) ?_
  exact ⟨H, Heap.le_set_new _ hb, rfl, rfl⟩
def pushObj (q : Nat) : Obj := .cells #[.iface ty_p_free_pusher (.pointer (some ⟨q, 0, none⟩))] ty_free_Push (0, 0)
def popObj (q : Nat) : Obj := .cells #[.iface ty_p_free_popper (.pointer (some ⟨q, 0, none⟩)), .pointer (some ⟨q, 0, none⟩)] ty_free_Pop (0, 0)
theorem NewPush_spec (p : Pl) (w c b : Int) (H : Heap) : SpecF Tryz.prog f_free_NewPush #[p.val, .int .i64 w, .int .i64 c, .int .i64 b] H fun v K => ∃ q0 q1 : Nat, H q0 = none ∧ H q1 = none ∧ q0 ≠ q1 ∧ v = .pointer (some ⟨q0, 0, none⟩) ∧
    K = (H.set q1 (Pu.obj ⟨p, headF p w c, 0, 0, b⟩)).set q0 (pushObj q1) := by
  refine t_free_NewPush_spec (p0_0 := p.work) (p0_1 := p.heads) (p0_2 := p.links) (p0_3 := p.gens) (p0_4 := p.carved) fun L => ?_
  unfold t_free_NewPush
  refine wp_newP fun e he => ?_
  refine wp_pl (p := p) (Heap.set_same _ _ _) (wp_pl (p := p) (Heap.set_same _ _ _) ?_)
  refine wp_qcall_det (head_det p w c _) ?_
  refine wp_newP fun q1 h1 => ?_
  refine wp_newP fun q0 h0 => ?_
  obtain ⟨n1, h1⟩ := set_none h1
  obtain ⟨n2, h0⟩ := set_none h0
  obtain ⟨n3, h0⟩ := set_none h0
  refine ⟨(H.set q1 (Pu.obj ⟨p, headF p w c, 0, 0, b⟩)).set q0 (pushObj q1), ?_, q0, q1, h0, h1, n2, rfl, rfl⟩
  intro x o hx
  by_cases x0 : x = q0
  · rw [x0, Heap.set_same] at hx ⊢; exact hx
  · rw [Heap.set_ne _ _ x0] at hx ⊢
    by_cases x1 : x = q1
    · rw [x1, Heap.set_same] at hx ⊢; exact hx
    · rw [Heap.set_ne _ _ x1] at hx ⊢
      exact Heap.le_set_new _ he _ _ hx
theorem NewPop_spec (p : Pl) (w c : Int) (H : Heap) : SpecF Tryz.prog f_free_NewPop #[p.val, .int .i64 w, .int .i64 c] H fun v K => ∃ q0 q1 : Nat, H q0 = none ∧ H q1 = none ∧ q0 ≠ q1 ∧ v = .pointer (some ⟨q0, 0, none⟩) ∧
    K = (H.set q1 (Po.obj ⟨p, headF p w c, 0, 0, 0, 0, false⟩)).set q0 (popObj q1) := by
  refine t_free_NewPop_spec (p0_0 := p.work) (p0_1 := p.heads) (p0_2 := p.links) (p0_3 := p.gens) (p0_4 := p.carved) fun L => ?_
  unfold t_free_NewPop
  refine wp_newP fun e he => ?_
  refine wp_pl (p := p) (Heap.set_same _ _ _) (wp_pl (p := p) (Heap.set_same _ _ _) ?_)
  refine wp_qcall_det (head_det p w c _) ?_
  refine wp_newP fun q1 h1 => ?_
  refine wp_newP fun q0 h0 => ?_
  obtain ⟨n1, h1⟩ := set_none h1
  obtain ⟨n2, h0⟩ := set_none h0
  obtain ⟨n3, h0⟩ := set_none h0
  refine ⟨(H.set q1 (Po.obj ⟨p, headF p w c, 0, 0, 0, 0, false⟩)).set q0 (popObj q1), ?_, q0, q1, h0, h1, n2, rfl, rfl⟩
  intro x o hx
  by_cases x0 : x = q0
  · rw [x0, Heap.set_same] at hx ⊢; exact hx
  · rw [Heap.set_ne _ _ x0] at hx ⊢
    by_cases x1 : x = q1
    · rw [x1, Heap.set_same] at hx ⊢; exact hx
    · rw [Heap.set_ne _ _ x1] at hx ⊢
      exact Heap.le_set_new _ he _ _ hx
theorem inv_pusher (q : Nat) (p : Option Addr) : opS Tryz.prog (.call { callee := .invoke (.tmp 0) "Step", args := #[(.tmp 1)], argTypes := #[ty_p_arena_Arena] }) ty_bool [(.iface ty_p_free_pusher (.pointer (some ⟨q, 0, none⟩))), (.pointer p)] =
    .pure (.enter f_free_pusher_Step [.pointer (some ⟨q, 0, none⟩), .pointer p].toArray) := by kernel_rfl
theorem inv_popper (q : Nat) (p : Option Addr) : opS Tryz.prog (.call { callee := .invoke (.tmp 0) "Step", args := #[(.tmp 1)], argTypes := #[ty_p_arena_Arena] }) ty_bool [(.iface ty_p_free_popper (.pointer (some ⟨q, 0, none⟩))), (.pointer p)] =
    .pure (.enter f_free_popper_Step [.pointer (some ⟨q, 0, none⟩), .pointer p].toArray) := by kernel_rfl
theorem Push_det {A : Ar} (hA : A.wf) (x : Pu) {q0 q1 : Nat} {G : Heap} (h0 : q0 ∉ A.ids) (h1 : q1 ∉ A.ids) (hg : G q0 = some (pushObj q1)) (hx : G q1 = some x.obj) :
    Det Tryz.prog f_free_Push_Step [.pointer (some ⟨q0, 0, none⟩), pA A] (A.put G) (.bool (x.stepB A)) ((x.stepA A).put (G.set q1 (x.stepM A).obj)) := by
  refine t_free_Push_Step_spec fun L => ?_
  unfold t_free_Push_Step
  refine wp_nil.2 (wp_ld_of (x := Value.iface ty_p_free_pusher (.pointer (some ⟨q1, 0, none⟩))) ((Heap.cell_of (by rw [Ar.put_out h0]; exact hg) _).trans rfl) ?_)
  refine act_enter (inv_pusher q1 _) ?_
  refine wp_call_det (x := x.stepB A) ?_ (wp_ret_of ⟨rfl, rfl⟩)
  have := pusher_det hA x h1 G
  rw [Heap.set_self hx] at this
  exact this
theorem Pop_det {A : Ar} (hA : A.wf) (x : Po) {q0 q1 : Nat} {G : Heap} (h0 : q0 ∉ A.ids) (h1 : q1 ∉ A.ids) (hg : G q0 = some (popObj q1)) (hx : G q1 = some x.obj) :
    Det Tryz.prog f_free_Pop_Step [.pointer (some ⟨q0, 0, none⟩), pA A] (A.put G) (.bool (x.stepB A)) ((x.stepA A).put (G.set q1 (x.stepM A).obj)) := by
  refine t_free_Pop_Step_spec fun L => ?_
  unfold t_free_Pop_Step
  refine wp_nil.2 (wp_ld_of (x := Value.iface ty_p_free_popper (.pointer (some ⟨q1, 0, none⟩))) ((Heap.cell_of (by rw [Ar.put_out h0]; exact hg) _).trans rfl) ?_)
  refine act_enter (inv_popper q1 _) ?_
  refine wp_call_det (x := x.stepB A) ?_ (wp_ret_of ⟨rfl, rfl⟩)
  have := popper_det hA x h1 G
  rw [Heap.set_self hx] at this
  exact this
theorem Base_det {A : Ar} (x : Po) {q0 q1 : Nat} {G : Heap} (h0 : q0 ∉ A.ids) (h1 : q1 ∉ A.ids) (hg : G q0 = some (popObj q1)) (hx : G q1 = some x.obj) :
    Det Tryz.prog f_free_Pop_Base [.pointer (some ⟨q0, 0, none⟩)] (A.put G) (.tuple #[.int .i64 x.base, .bool x.ok]) (A.put G) := by
  have e0 : A.put G q0 = some (popObj q1) := by rw [Ar.put_out h0]; exact hg
  have e1 : A.put G q1 = some x.obj := by rw [Ar.put_out h1]; exact hx
  refine t_free_Pop_Base_spec fun L => ?_
  unfold t_free_Pop_Base
  refine wp_nil.2 (wp_ld_of (x := some ⟨q1, 0, none⟩) ((Heap.cell_of e0 1).trans rfl) (wp_nil.2 ?_))
  refine wp_ld_of (x := x.base) ((Heap.cell_of e1 9).trans rfl) (wp_nil.2 ?_)
  refine wp_ld_of (x := some ⟨q1, 0, none⟩) ((Heap.cell_of e0 1).trans rfl) (wp_nil.2 ?_)
  exact wp_ld_of (x := x.ok) ((Heap.cell_of e1 10).trans rfl) (wp_ret_of ⟨rfl, rfl⟩)
theorem stF_slots {A B : Ar} (h : B.slots = A.slots) (k : Int) : B.stF k = A.stF k := by unfold Ar.stF; rw [h]
theorem bornN_busy (A : Ar) (b n : Nat) : (A.bornN b n).busy = setN A.busy b true n := by
  induction n with
  | zero => rfl
  | succ n ih =>
    have h1 : ∀ (B : Ar) m, (B.new1 m).busy = B.busy := fun B m => by unfold Ar.new1; split <;> rfl
    have h2 : ∀ (B : Ar) m, (B.new2 m).busy = B.busy.set m true := fun B m => by unfold Ar.new2; simp only; split <;> rfl
    show ((((A.bornN b n).new1 (b + n)).new2 (b + n))).busy = (setN A.busy b true n).set (b + n) true
    rw [h2, h1, ih]
theorem bornN_carved (A : Ar) (b n : Nat) : (A.bornN b n).carved = setN A.carved b true n := by
  induction n with
  | zero => rfl
  | succ n ih =>
    have h1 : ∀ (B : Ar) m, (B.new1 m).carved = B.carved := fun B m => by unfold Ar.new1; split <;> rfl
    have h2 : ∀ (B : Ar) m, (B.new2 m).carved = B.carved.set m true := fun B m => by unfold Ar.new2; simp only; split <;> rfl
    show ((((A.bornN b n).new1 (b + n)).new2 (b + n))).carved = (setN A.carved b true n).set (b + n) true
    rw [h2, h1, ih]
theorem bornN_words (A : Ar) (b n : Nat) : (A.bornN b n).words = if A.fresh then setN A.words b 0 n else A.words := by
  induction n with
  | zero => cases A.fresh <;> rfl
  | succ n ih =>
    have h1 : ∀ (B : Ar) m, (B.new1 m).words = B.words := fun B m => by unfold Ar.new1; split <;> rfl
    have h2 : ∀ (B : Ar) m, (B.new2 m).words = if B.fresh then B.words.set m 0 else B.words := fun B m => by unfold Ar.new2; simp only; split <;> rfl
    have h3 : ∀ (B : Ar) m, (B.new1 m).fresh = B.fresh := fun B m => by unfold Ar.new1; split <;> rfl
    show ((((A.bornN b n).new1 (b + n)).new2 (b + n))).words = _
    rw [h2, h1, h3, (bornN_like A b n).fr, ih]
    cases A.fresh <;> rfl
def newsN (l : List Bool) (b : Nat) : Nat → Nat
  | 0 => 0
  | n + 1 => newsN l b n + (if l.getD (b + n) false then 0 else 1)
theorem w64_add (x y : Int) : w64 (w64 x + y) = w64 (x + y) := by unfold w64; simp only [IntKind.wrap_i64]; omega
theorem bornN_rest (A : Ar) (b n : Nat) : (A.bornN b n).nL = A.nL ∧ (A.bornN b n).nR = A.nR := by
  induction n with
  | zero => exact ⟨rfl, rfl⟩
  | succ n ih =>
    have h1 : ∀ (B : Ar) m, (B.new1 m).nL = B.nL ∧ (B.new1 m).nR = B.nR := fun B m => by unfold Ar.new1; split <;> exact ⟨rfl, rfl⟩
    have h2 : ∀ (B : Ar) m, (B.new2 m).nL = B.nL ∧ (B.new2 m).nR = B.nR := fun B m => by unfold Ar.new2; simp only; split <;> exact ⟨rfl, rfl⟩
    show ((((A.bornN b n).new1 (b + n)).new2 (b + n))).nL = _ ∧ ((((A.bornN b n).new1 (b + n)).new2 (b + n))).nR = _
    rw [(h2 _ _).1, (h1 _ _).1, (h2 _ _).2, (h1 _ _).2]; exact ih
theorem bornN_counts (A : Ar) (hC : w64 A.nC = A.nC) (hF : w64 A.nF = A.nF) (b n : Nat) : (A.bornN b n).nC = w64 (A.nC + newsN A.carved b n) ∧ (A.bornN b n).nF = w64 (A.nF + newsN A.carved b n) := by
  induction n with
  | zero => exact ⟨by show A.nC = w64 (A.nC + ((0 : Nat) : Int)); rw [Int.natCast_zero, Int.add_zero, hC], by show A.nF = w64 (A.nF + ((0 : Nat) : Int)); rw [Int.natCast_zero, Int.add_zero, hF]⟩
  | succ n ih =>
    have h2 : ∀ (B : Ar) m, (B.new2 m).nC = B.nC ∧ (B.new2 m).nF = B.nF := fun B m => by unfold Ar.new2; simp only; split <;> exact ⟨rfl, rfl⟩
    show ((((A.bornN b n).new1 (b + n)).new2 (b + n))).nC = _ ∧ ((((A.bornN b n).new1 (b + n)).new2 (b + n))).nF = _
    rw [(h2 _ _).1, (h2 _ _).2]
    have hg : (A.bornN b n).carved.getD (b + n) false = A.carved.getD (b + n) false := by
      rw [bornN_carved, List.getD_eq_getElem?_getD, List.getD_eq_getElem?_getD, setN_get, if_neg (by omega)]
    unfold Ar.new1 newsN
    rw [hg]
    cases A.carved.getD (b + n) false with
    | true => simpa using ih
    | false =>
      simp only [if_false, Bool.false_eq_true]
      refine ⟨?_, ?_⟩
      · show w64 ((A.bornN b n).nC + 1) = _
        rw [ih.1, w64_add]; congr 1; omega
      · show w64 ((A.bornN b n).nF + 1) = _
        rw [ih.2, w64_add]; congr 1; omega
theorem bornF_slots (A : Ar) (h : Int) : (A.bornF h).slots = alPut A.slots (opB h) (h, 1) := by
  have e := (bornN_like A (opB h).toNat (sizeF (opC h)).toNat).sl
  unfold Ar.bornF
  generalize A.bornN (opB h).toNat (sizeF (opC h)).toNat = B at *
  rw [← e]; rfl
theorem bornF_gens (A : Ar) (h : Int) : (A.bornF h).gens = alPut A.gens (opB h) (opG h) := by
  have e := (bornN_like A (opB h).toNat (sizeF (opC h)).toNat).gs
  unfold Ar.bornF
  generalize A.bornN (opB h).toNat (sizeF (opC h)).toNat = B at *
  rw [← e]; rfl
theorem bornF_busy (A : Ar) (h : Int) : (A.bornF h).busy = setN A.busy (opB h).toNat true (sizeF (opC h)).toNat := by
  have e := bornN_busy A (opB h).toNat (sizeF (opC h)).toNat
  unfold Ar.bornF
  generalize A.bornN (opB h).toNat (sizeF (opC h)).toNat = B at *
  exact e
theorem bornF_carved (A : Ar) (h : Int) : (A.bornF h).carved = setN A.carved (opB h).toNat true (sizeF (opC h)).toNat := by
  have e := bornN_carved A (opB h).toNat (sizeF (opC h)).toNat
  unfold Ar.bornF
  generalize A.bornN (opB h).toNat (sizeF (opC h)).toNat = B at *
  exact e
theorem bornF_words (A : Ar) (h : Int) : (A.bornF h).words = if A.fresh then setN A.words (opB h).toNat 0 (sizeF (opC h)).toNat else A.words := by
  have e := bornN_words A (opB h).toNat (sizeF (opC h)).toNat
  unfold Ar.bornF
  generalize A.bornN (opB h).toNat (sizeF (opC h)).toNat = B at *
  exact e
theorem bornF_raw (A : Ar) (h : Int) : (A.bornF h).raw = A.raw := by
  have e := (bornN_like A (opB h).toNat (sizeF (opC h)).toNat).rw
  unfold Ar.bornF
  generalize A.bornN (opB h).toNat (sizeF (opC h)).toNat = B at *
  exact e
theorem bornF_fresh (A : Ar) (h : Int) : (A.bornF h).fresh = A.fresh := by
  have e := (bornN_like A (opB h).toNat (sizeF (opC h)).toNat).fr
  unfold Ar.bornF
  generalize A.bornN (opB h).toNat (sizeF (opC h)).toNat = B at *
  exact e
theorem bornF_fault (A : Ar) (h : Int) : (A.bornF h).fault = A.fault := by
  have e := (bornN_like A (opB h).toNat (sizeF (opC h)).toNat).fa
  unfold Ar.bornF
  generalize A.bornN (opB h).toNat (sizeF (opC h)).toNat = B at *
  exact e
theorem bornF_uses (A : Ar) (h : Int) : (A.bornF h).uses = A.uses := by
  have e := (bornN_like A (opB h).toNat (sizeF (opC h)).toNat).us
  unfold Ar.bornF
  generalize A.bornN (opB h).toNat (sizeF (opC h)).toNat = B at *
  exact e
theorem bornF_wl (A : Ar) (h : Int) : (A.bornF h).words.length = A.words.length := by
  have e := (bornN_like A (opB h).toNat (sizeF (opC h)).toNat).wl
  unfold Ar.bornF
  generalize A.bornN (opB h).toNat (sizeF (opC h)).toNat = B at *
  exact e
theorem stF_bornF (A : Ar) (h k : Int) : (A.bornF h).stF k = if opB k = opB h then (if openOk k = true ∧ h = k then 1 else 0) else A.stF k := by
  rw [← stF_withS]; exact stF_slots (bornF_slots A h) k
theorem stF_turnF (A : Ar) (h s t k : Int) : (A.turnF h s t).stF k = if A.stF h = s ∧ opB k = opB h then (if openOk k = true ∧ h = k then t else 0) else A.stF k := by
  unfold Ar.turnF
  by_cases e : A.stF h = s
  · rw [if_pos e, stF_withS]
    by_cases e2 : opB k = opB h
    · rw [if_pos e2, if_pos (⟨e, e2⟩ : A.stF h = s ∧ opB k = opB h)]
    · rw [if_neg e2, if_neg (fun h => e2 h.2)]
  · rw [if_neg e, if_neg (fun h => e h.1)]
theorem stF_retireF (A : Ar) (h k : Int) : (A.retireF h).stF k = if A.stF h = 1 ∧ opB k = opB h then (if openOk k = true ∧ h = k then 2 else 0) else A.stF k := by
  rw [← stF_turnF]; exact stF_slots rfl k
theorem stF_diedF (A : Ar) (h k : Int) : (A.diedF h).stF k = if A.stF h = 2 ∧ opB k = opB h then (if openOk k = true ∧ h = k then 0 else 0) else A.stF k := by
  rw [← stF_turnF]; exact stF_slots rfl k
theorem stF_storeF (A : Ar) (h off v k : Int) : (A.storeF h off v).stF k = A.stF k := by unfold Ar.storeF; split <;> exact stF_slots rfl k
theorem touch_yes {A : Ar} {h off : Int} (hi : A.inOk h off) : A.touch h off = A.tick := by unfold Ar.touch; rw [if_pos hi]
theorem storeF_yes {A : Ar} {h off : Int} (hi : A.inOk h off) (v : Int) : A.storeF h off v = A.tick.setW (pos h off) v := by unfold Ar.storeF; rw [if_pos hi]
theorem inOk_st {A B : Ar} (e : ∀ k, B.stF k = A.stF k) {h off : Int} : B.inOk h off ↔ A.inOk h off := by unfold Ar.inOk; rw [e]
theorem loadF_storeF {A : Ar} (hA : A.wf) {h off v k j : Int} (hi : A.inOk h off) (hk : A.inOk k j) : (A.storeF h off v).loadF k j = if pos k j = pos h off then v else A.loadF k j := by
  have hl := pos_lt hA hi
  have hk' : (A.storeF h off v).inOk k j := (inOk_st (stF_storeF A h off v)).2 hk
  unfold Ar.loadF
  rw [if_pos hk', if_pos hk, storeF_yes hi]
  show (A.words.set (pos h off) v).getD (pos k j) 0 = _
  rw [List.getD_eq_getElem?_getD, List.getD_eq_getElem?_getD, List.getElem?_set]
  by_cases e : pos k j = pos h off
  · rw [if_pos e, if_pos e.symm, if_pos hl]; rfl
  · rw [if_neg e, if_neg (fun h => e h.symm)]
theorem opB_pack {b g c : Int} (h : validN b g c) : opB (packF b g c) = b ∧ opG (packF b g c) = g ∧ opC (packF b g c) = c ∧ openOk (packF b g c) = true := by
  have hp : packF b g c = packN b g c := by unfold packF; rw [if_pos h]
  obtain ⟨h1, h2, h3, h4⟩ := open_pack h
  unfold opB opG opC
  rw [hp, h4]
  exact ⟨h1, h2, h3, rfl⟩
structure Stp (f : FuncId) (q : Nat) (A : Ar) (G : Heap) (b : Bool) (B : Ar) (K : Heap) : Prop where
  det : Det Tryz.prog f [.pointer (some ⟨q, 0, none⟩), pA A] (A.put G) (.bool b) (B.put K)
  al : Ar.Alike A B
  us : B.uses ≤ w64 (A.uses + 1)
inductive Runs (f : FuncId) (q : Nat) : Nat → Ar → Heap → Ar → Heap → Prop
  | one {A G B K} : Stp f q A G true B K → Runs f q 1 A G B K
  | more {n A G B K C M} : Stp f q A G false B K → Runs f q n B K C M → Runs f q (n + 1) A G C M
def Ar.pushed (A : Ar) (hd lk base : Int) : Ar :=
  { A with raw := (A.raw.set lk.toNat (iand (A.rawF hd) 131071)).set hd.toNat (nextF (A.rawF hd) (w64 (w64 (Int.tdiv base 8) + 1))), uses := A.uses + 3 }
def Ar.popped (A : Ar) (hd lk : Int) : Ar := { A with raw := A.raw.set hd.toNat (nextF (A.rawF hd) (A.rawF lk)), uses := A.uses + 3 }
theorem mask17 (x : Int) : iand x 131071 = x % 131072 := iand_mask x 17 (by omega)
theorem nextF_eq {h f : Int} (h0 : 0 ≤ h) (h1 : h < 4611686018427387904) (f0 : 0 ≤ f) (f1 : f < 131072) : nextF h f = (h / 131072 + 1) * 131072 + f := by
  unfold nextF
  have e1 : Int.fdiv h (2 ^ 17) = h / 131072 := by rw [Int.fdiv_eq_ediv_of_nonneg _ (by decide)]; rfl
  rw [e1, w64_in (x := h / 131072 + 1) (by omega) (by omega)]
  have e2 : (h / 131072 + 1) * 2 ^ 17 = (h / 131072 + 1) * 131072 := rfl
  rw [e2, w64_in (by omega) (by omega)]
  obtain ⟨k, hk⟩ := Int.eq_ofNat_of_zero_le (show 0 ≤ h / 131072 + 1 by omega)
  obtain ⟨g, rfl⟩ := Int.eq_ofNat_of_zero_le f0
  rw [hk]
  have e3 : ((k : Int) * 131072) = ((2 ^ 17 * k : Nat) : Int) := by omega
  rw [e3, ior_nat (by omega) (by omega), ← Nat.two_pow_add_eq_or_of_lt (by omega)]
  omega
def chain (A : Ar) (lk : Int) : Int → List Int → Prop
  | f, [] => f = 0
  | f, b :: l => 0 < f ∧ f ≤ 1000000 ∧ b = (f - 1) * 8 ∧ A.rawOk (lk + f - 1) ∧ chain A lk (A.rawF (lk + f - 1)) l
theorem rawF_congr {A B : Ar} (h : B.raw = A.raw) (i : Int) : B.rawF i = A.rawF i := by
  unfold Ar.rawF
  by_cases hi : A.rawOk i
  · have hb : B.rawOk i := by unfold Ar.rawOk at *; rw [h]; exact hi
    rw [if_pos hi, if_pos hb, h]
  · have hb : ¬ B.rawOk i := by unfold Ar.rawOk at *; rw [h]; exact hi
    rw [if_neg hi, if_neg hb]
def Ar.later (A : Ar) (n : Int) : Ar := { A with uses := A.uses + n }
theorem later_wf {A : Ar} (hA : A.wf) (n : Int) : (A.later n).wf := ⟨hA.nd, hA.fit, hA.busy, hA.carved, hA.words, hA.raw, hA.wC, hA.wL, hA.wR, hA.wF⟩
theorem later_alike (A : Ar) (n : Int) : Ar.Alike A (A.later n) := ⟨rfl, rfl, rfl, rfl, rfl, rfl, rfl⟩
def plOf (w m : Int) : Pl := ⟨w, 0, 4 * w, 4 * w + (m + 7) / 8, 4 * w + 2 * ((m + 7) / 8)⟩
theorem singles (l : List Value) (h : l.all Value.single = true) : ∀ v ∈ l, Value.single v = true := fun v hv => List.all_eq_true.1 h v hv
theorem Raw5_det (w m w' m' : Int) (hw : imax w 0 = w') (hm : imax m 0 = m') (b1 : 0 ≤ w' ∧ w' ≤ 100000) (b2 : 0 ≤ m' ∧ m' ≤ 100000) (H : Heap) :
    Det Tryz.prog f_free_Raw [.int .i64 w, .int .i64 m] H (.tuple #[(plOf w' m').val, .int .i64 (4 * w' + 2 * ((m' + 7) / 8) + 1)]) H := by
  refine t_free_Raw_spec fun L => ?_
  unfold t_free_Raw
  rw [hw, hm]
  refine wp_newP fun b4 h4 => wp_newP fun b7 h7 => ?_
  obtain ⟨n7, h7⟩ := set_none h7
  have en : w64 (w64 (Int.tdiv m' 8) + imin (Int.tmod m' 8) 1) = (m' + 7) / 8 := by
    rw [Int.tdiv_eq_ediv_of_nonneg b2.1, Int.tmod_eq_emod_of_nonneg b2.1, w64_in (x := m' / 8) (by omega) (by omega)]
    unfold imin
    split <;> rw [w64_in (by omega) (by omega)] <;> omega
  rw [en]
  have e4 : w64 (4 * w') = 4 * w' := w64_in (by omega) (by omega)
  rw [e4]
  refine wp_stA_of (Heap.set_same _ _ _) (by exact Nat.le_refl 5) (singles _ rfl) ?_
  rw [Heap.set_set]
  have c1 : putAll #[.int .i64 0, .int .i64 0, .int .i64 0, .int .i64 0, .int .i64 0] 0 [.int .i64 w', .int .i64 0, .int .i64 (4 * w'), .int .i64 0, .int .i64 0] = #[.int .i64 w', .int .i64 0, .int .i64 (4 * w'), .int .i64 0, .int .i64 0] := rfl
  rw [c1]
  refine wp_ld_of (x := 4 * w') ((Heap.cell_set 2).trans rfl) ?_
  rw [w64_in (x := 4 * w' + (m' + 7) / 8) (by omega) (by omega)]
  refine wp_st_of (n := 3) (u := .int .i64 0) (Heap.set_same _ _ _) rfl rfl ?_
  rw [Heap.set_set]
  refine wp_ld_of (x := 4 * w' + (m' + 7) / 8) ((Heap.cell_set 3).trans rfl) ?_
  rw [w64_in (x := 4 * w' + (m' + 7) / 8 + (m' + 7) / 8) (by omega) (by omega)]
  refine wp_st_of (n := 4) (u := .int .i64 0) (Heap.set_same _ _ _) rfl rfl ?_
  rw [Heap.set_set]
  have e5 : 4 * w' + (m' + 7) / 8 + (m' + 7) / 8 = 4 * w' + 2 * ((m' + 7) / 8) := by omega
  rw [e5]
  have hc : H.set b4 (.cells #[.int .i64 0, .int .i64 0, .int .i64 0, .int .i64 0, .int .i64 0] ty_free_Place (0, 0)) b7 = none := by rw [Heap.set_ne _ _ n7]; exact h7
  refine wp_pl (p := plOf w' m') (Heap.set_same _ _ _) ?_
  refine wp_ld_of (x := 4 * w' + 2 * ((m' + 7) / 8)) ((Heap.cell_set 4).trans rfl) ?_
  rw [Heap.set_comm _ _ _ (Ne.symm n7)]
  refine wp_stA_of (Heap.set_same _ _ _) (by exact Nat.le_refl 5) (singles _ rfl) ?_
  rw [Heap.set_set, Heap.set_comm _ _ _ n7]
  refine ⟨⟨_, (Heap.cell_set 4).trans rfl, rfl⟩, ?_⟩
  rw [Heap.set_comm _ _ _ (Ne.symm n7)]
  refine ⟨((w', 0, 4 * w', 4 * w' + (m' + 7) / 8, 4 * w' + 2 * ((m' + 7) / 8), ()), 4 * w' + 2 * ((m' + 7) / 8) + 1, ()), ?_, ?_⟩
  · refine ldK_still (Heap.set_same _ _ _) 5 0 #[] (by exact Nat.le_refl 5) ?_
    have hx : (#[] ++ (plOf w' m').cells.extract 0 5) = (plOf w' m').cells := by unfold Pl.cells; simp
    show Value.tuple #[.agg (#[] ++ (plOf w' m').cells.extract 0 5), .int .i64 (w64 (4 * w' + 2 * ((m' + 7) / 8) + 1))] = _
    rw [hx, w64_in (by omega) (by omega)]; rfl
  · refine ⟨H, ?_, rfl, rfl⟩
    exact Heap.le_trans (Heap.le_set_new _ h7) (Heap.le_set_new _ (by rw [Heap.set_ne _ _ (Ne.symm n7)]; exact h4))
theorem pushed_wf {A : Ar} (hA : A.wf) (hd lk b : Int) : (A.pushed hd lk b).wf :=
  ⟨hA.nd, hA.fit, hA.busy, hA.carved, hA.words, by unfold Ar.pushed; simp only [List.length_set]; exact hA.raw, hA.wC, hA.wL, hA.wR, hA.wF⟩
theorem pushed_alike (A : Ar) (hd lk b : Int) : Ar.Alike A (A.pushed hd lk b) := ⟨rfl, rfl, rfl, rfl, rfl, rfl, rfl⟩
theorem popped_wf {A : Ar} (hA : A.wf) (hd lk : Int) : (A.popped hd lk).wf :=
  ⟨hA.nd, hA.fit, hA.busy, hA.carved, hA.words, by unfold Ar.popped; simp only [List.length_set]; exact hA.raw, hA.wC, hA.wL, hA.wR, hA.wF⟩
theorem popped_alike (A : Ar) (hd lk : Int) : Ar.Alike A (A.popped hd lk) := ⟨rfl, rfl, rfl, rfl, rfl, rfl, rfl⟩
structure MadeM (A : Ar) (G : Heap) (q0 q1 : Nat) (o0 o1 : Obj) (K : Heap) : Prop where
  i0 : q0 ∉ A.ids
  i1 : q1 ∉ A.ids
  ne : q0 ≠ q1
  n0 : G q0 = none
  n1 : G q1 = none
  le : G.le K
  g0 : K q0 = some o0
  g1 : K q1 = some o1
theorem pushed_ok {A : Ar} {hd lk b i : Int} : (A.pushed hd lk b).rawOk i ↔ A.rawOk i := by unfold Ar.rawOk Ar.pushed; simp only [List.length_set]
theorem popped_ok {A : Ar} {hd lk i : Int} : (A.popped hd lk).rawOk i ↔ A.rawOk i := by unfold Ar.rawOk Ar.popped; simp only [List.length_set]
theorem rawF_pushed {A : Ar} {hd lk b i : Int} (h1 : A.rawOk hd) (h2 : A.rawOk lk) (hi : A.rawOk i) :
    (A.pushed hd lk b).rawF i = if i = hd then nextF (A.rawF hd) (w64 (w64 (Int.tdiv b 8) + 1)) else if i = lk then iand (A.rawF hd) 131071 else A.rawF i := by
  have e : (A.pushed hd lk b).rawF i = (A.pushed hd lk b).raw.getD i.toNat 0 := by unfold Ar.rawF; rw [if_pos (pushed_ok.2 hi)]
  have e2 : A.rawF i = A.raw.getD i.toNat 0 := by unfold Ar.rawF; rw [if_pos hi]
  rw [e, e2]
  unfold Ar.rawOk at h1 h2 hi
  show ((A.raw.set lk.toNat (iand (A.rawF hd) 131071)).set hd.toNat (nextF (A.rawF hd) (w64 (w64 (Int.tdiv b 8) + 1)))).getD i.toNat 0 = _
  rw [List.getD_eq_getElem?_getD, List.getD_eq_getElem?_getD, List.getElem?_set, List.getElem?_set]
  simp only [List.length_set]
  by_cases c1 : i = hd
  · rw [if_pos c1, if_pos (by rw [c1]), if_pos (by omega)]; rfl
  · rw [if_neg c1, if_neg (by omega)]
    by_cases c2 : i = lk
    · rw [if_pos c2, if_pos (by rw [c2]), if_pos (by omega)]; rfl
    · rw [if_neg c2, if_neg (by omega)]
theorem rawF_popped {A : Ar} {hd lk i : Int} (h1 : A.rawOk hd) (hi : A.rawOk i) : (A.popped hd lk).rawF i = if i = hd then nextF (A.rawF hd) (A.rawF lk) else A.rawF i := by
  have e : (A.popped hd lk).rawF i = (A.popped hd lk).raw.getD i.toNat 0 := by unfold Ar.rawF; rw [if_pos (popped_ok.2 hi)]
  have e2 : A.rawF i = A.raw.getD i.toNat 0 := by unfold Ar.rawF; rw [if_pos hi]
  rw [e, e2]
  unfold Ar.rawOk at h1 hi
  show (A.raw.set hd.toNat (nextF (A.rawF hd) (A.rawF lk))).getD i.toNat 0 = _
  rw [List.getD_eq_getElem?_getD, List.getD_eq_getElem?_getD, List.getElem?_set]
  by_cases c1 : i = hd
  · rw [if_pos c1, if_pos (by rw [c1]), if_pos (by omega)]; rfl
  · rw [if_neg c1, if_neg (by omega)]
theorem cell_le {H K : Heap} (h : H.le K) {a : Addr} {v : Value} (hc : H.cell? a = some v) : K.cell? a = some v := by
  unfold Heap.cell? at *
  cases hx : H a.block with
  | none => rw [hx] at hc; cases hc
  | some o => rw [hx] at hc; rw [h _ _ hx]; exact hc
theorem chk_cell {L : Hands} {H : Heap} {R : Value → Heap → Prop} {a : Addr} {v : Value} {t : Tree} (hc : H.cell? a = some v) (h : wp Tryz.prog t L H R) : wp Tryz.prog (.check (ldS a) v t) L H R := ⟨⟨_, hc, rfl⟩, h⟩
abbrev Bl := List (Nat × Obj)
def oc (T : TypeId) (c : List Value) : Obj := .cells c.toArray T (0, 0)
def putL : Bl → Heap → Heap
  | [], H => H
  | p :: l, H => (putL l H).set p.1 p.2
@[reducible] def keys (l : Bl) : List Nat := l.map Prod.fst
def own (A : Ar) (l : Bl) (G : Heap) : Heap := A.put (putL l G)
structure Ok (I : List Nat) (G : Heap) (ks : List Nat) : Prop where
  nd : ks.Nodup
  out : ∀ b ∈ ks, b ∉ I
  no : ∀ b ∈ ks, G b = none
structure Aw (I : List Nat) (A : Ar) : Prop where
  wf : A.wf
  ids : A.ids = I
theorem putL_append (l k : Bl) (G : Heap) : putL (l ++ k) G = putL l (putL k G) := by
  induction l with
  | nil => rfl
  | cons p l ih => show (putL (l ++ k) G).set p.1 p.2 = (putL l (putL k G)).set p.1 p.2; rw [ih]
theorem putL_out {l : Bl} {b : Nat} (h : b ∉ keys l) (G : Heap) : putL l G b = G b := by
  induction l with
  | nil => rfl
  | cons p l ih =>
    simp only [keys, List.map_cons, List.mem_cons, not_or] at h
    show (putL l G).set p.1 p.2 b = _
    rw [Heap.set_ne _ _ h.1]; exact ih h.2
theorem putL_get {l : Bl} (G : Heap) : ∀ {i : Nat} {b : Nat} {o : Obj}, (keys l).Nodup → l[i]? = some (b, o) → putL l G b = some o := by
  induction l with
  | nil => intro i b o _ h; simp at h
  | cons p l ih =>
    intro i b o hn h
    simp only [keys, List.map_cons, List.nodup_cons] at hn
    cases i with
    | zero =>
      simp only [List.getElem?_cons_zero, Option.some.injEq] at h
      subst h; exact Heap.set_same _ _ _
    | succ i =>
      simp only [List.getElem?_cons_succ] at h
      have hm : b ∈ keys l := List.mem_map.2 ⟨(b, o), List.mem_of_getElem? h, rfl⟩
      show (putL l G).set p.1 p.2 b = _
      rw [Heap.set_ne _ _ (fun e => hn.1 (by rw [← e]; exact hm))]
      exact ih hn.2 h
theorem putL_set {l : Bl} (G : Heap) : ∀ {i : Nat} {b : Nat} {o o' : Obj}, (keys l).Nodup → l[i]? = some (b, o) → (putL l G).set b o' = putL (l.set i (b, o')) G := by
  induction l with
  | nil => intro i b o o' _ h; simp at h
  | cons p l ih =>
    intro i b o o' hn h
    simp only [keys, List.map_cons, List.nodup_cons] at hn
    cases i with
    | zero =>
      simp only [List.getElem?_cons_zero, Option.some.injEq] at h
      subst h; exact Heap.set_set _ _ _ _
    | succ i =>
      simp only [List.getElem?_cons_succ] at h
      have hm : b ∈ keys l := List.mem_map.2 ⟨(b, o), List.mem_of_getElem? h, rfl⟩
      show ((putL l G).set p.1 p.2).set b o' = (putL (l.set i (b, o')) G).set p.1 p.2
      rw [Heap.set_comm _ _ _ (fun e => hn.1 (by rw [e]; exact hm)), ih hn.2 h]
theorem putL_none {l : Bl} {G : Heap} {b : Nat} (h : putL l G b = none) : b ∉ keys l ∧ G b = none := by
  induction l with
  | nil => exact ⟨by simp [keys], h⟩
  | cons p l ih =>
    obtain ⟨h1, h2⟩ := set_none (H := putL l G) h
    obtain ⟨h3, h4⟩ := ih h2
    exact ⟨by simp only [keys, List.map_cons, List.mem_cons, not_or]; exact ⟨h1, h3⟩, h4⟩
theorem putL_front {l : Bl} (G : Heap) : ∀ {i : Nat} {p : Nat × Obj}, (keys l).Nodup → l[i]? = some p → putL l G = putL (p :: l.eraseIdx i) G := by
  induction l with
  | nil => intro i p _ h; simp at h
  | cons q l ih =>
    intro i p hn h
    simp only [keys, List.map_cons, List.nodup_cons] at hn
    cases i with
    | zero => simp only [List.getElem?_cons_zero, Option.some.injEq] at h; subst h; rfl
    | succ i =>
      simp only [List.getElem?_cons_succ] at h
      have hm : p.1 ∈ keys l := List.mem_map.2 ⟨p, List.mem_of_getElem? h, rfl⟩
      show (putL l G).set q.1 q.2 = ((putL (l.eraseIdx i) G).set q.1 q.2).set p.1 p.2
      rw [ih hn.2 h]
      show ((putL (l.eraseIdx i) G).set p.1 p.2).set q.1 q.2 = _
      exact Heap.set_comm _ _ _ (fun e => hn.1 (by first | (rw [← e]; exact hm) | (rw [e]; exact hm)))
section
variable {I : List Nat} {A : Ar} {l : Bl} {G : Heap}
theorem own_get (hA : Aw I A) (ok : Ok I G (keys l)) {i b : Nat} {o : Obj} (h : l[i]? = some (b, o)) : own A l G b = some o := by
  unfold own
  rw [Ar.put_out, putL_get G ok.nd h]
  rw [hA.ids]; exact ok.out b (List.mem_map.2 ⟨(b, o), List.mem_of_getElem? h, rfl⟩)
theorem own_set (hA : Aw I A) (ok : Ok I G (keys l)) {i b : Nat} {o : Obj} (o' : Obj) (h : l[i]? = some (b, o)) : (own A l G).set b o' = own A (l.set i (b, o')) G := by
  unfold own
  rw [Ar.put_set, putL_set G ok.nd h]
  rw [hA.ids]; exact ok.out b (List.mem_map.2 ⟨(b, o), List.mem_of_getElem? h, rfl⟩)
theorem own_none (hA : Aw I A) {b : Nat} (h : own A l G b = none) : b ∉ I ∧ b ∉ keys l ∧ G b = none := by
  obtain ⟨h1, h2⟩ := Ar.put_none h
  obtain ⟨h3, h4⟩ := putL_none h2
  exact ⟨by rw [← hA.ids]; exact h1, h3, h4⟩
theorem own_new (hA : Aw I A) (ok : Ok I G (keys l)) {b : Nat} (h : own A l G b = none) (o : Obj) : Ok I G (keys ((b, o) :: l)) ∧ (own A l G).set b o = own A ((b, o) :: l) G := by
  obtain ⟨h1, h2, h3⟩ := own_none hA h
  refine ⟨⟨?_, ?_, ?_⟩, ?_⟩
  · simp only [keys, List.map_cons, List.nodup_cons]; exact ⟨h2, ok.nd⟩
  · intro c hc
    simp only [keys, List.map_cons, List.mem_cons] at hc
    rcases hc with rfl | hc
    · exact h1
    · exact ok.out c hc
  · intro c hc
    simp only [keys, List.map_cons, List.mem_cons] at hc
    rcases hc with rfl | hc
    · exact h3
    · exact ok.no c hc
  · unfold own
    rw [Ar.put_set]
    · rfl
    · rw [hA.ids]; exact h1
theorem own_front (ok : Ok I G (keys l)) {i : Nat} {p : Nat × Obj} (h : l[i]? = some p) : own A l G = own A (p :: l.eraseIdx i) G := by
  unfold own; rw [putL_front G ok.nd h]
def pick (l : Bl) : List Nat → Option Bl
  | [] => some []
  | i :: is => match l[i]?, pick l is with
    | some p, some r => some (p :: r)
    | _, _ => none
theorem pick_mem {l : Bl} : ∀ {is : List Nat} {l' : Bl}, pick l is = some l' → ∀ p ∈ l', p ∈ l
  | [], l', h, p, hp => by cases h; cases hp
  | i :: is, l', h, p, hp => by
    simp only [pick] at h
    split at h
    · rename_i x r hx hr
      cases h
      rcases List.mem_cons.1 hp with rfl | hp
      · exact List.mem_of_getElem? hx
      · exact pick_mem hr p hp
    · cases h
theorem own_sub {l' : Bl} (ok : Ok I G (keys l)) (nd : (keys l').Nodup) (hm : ∀ p ∈ l', p ∈ l) : (own A l' G).le (own A l G) := by
  unfold own
  refine Ar.put_le fun b o hb => ?_
  by_cases hk : b ∈ keys l'
  · obtain ⟨⟨b', o'⟩, h1, rfl⟩ := List.mem_map.1 hk
    obtain ⟨i, hi⟩ := List.mem_iff_getElem?.1 h1
    rw [putL_get G nd hi] at hb
    cases hb
    obtain ⟨j, hj⟩ := List.mem_iff_getElem?.1 (hm _ h1)
    exact putL_get G ok.nd hj
  · rw [putL_out hk] at hb
    rw [putL_out]
    · exact hb
    · intro h; rw [ok.no b h] at hb; cases hb
theorem Ok.sub {ks ks' : List Nat} (ok : Ok I G ks) (nd : ks'.Nodup) (h : ∀ b ∈ ks', b ∈ ks) : Ok I G ks' := ⟨nd, fun b hb => ok.out b (h b hb), fun b hb => ok.no b (h b hb)⟩
theorem Ok.pick (is : List Nat) {l' : Bl} (ok : Ok I G (keys l)) (h : pick l is = some l') (nd : is.Nodup) : Ok I G (keys l') := by
  refine ok.sub ?_ fun b hb => ?_
  · have key : ∀ (is : List Nat) (l' : Bl), Proofs.YtjnacjniiogjcaaGreat.pick l is = some l' → is.Nodup → (keys l').Nodup ∧ ∀ b ∈ keys l', ∃ i ∈ is, (l[i]?).map Prod.fst = some b := by
      intro is
      induction is with
      | nil => intro l' h _; cases h; exact ⟨by simp [keys], by simp [keys]⟩
      | cons i is ih =>
        intro l' h nd
        simp only [Proofs.YtjnacjniiogjcaaGreat.pick] at h
        split at h
        · rename_i x r hx hr
          cases h
          obtain ⟨h1, h2⟩ := List.nodup_cons.1 nd
          obtain ⟨h3, h4⟩ := ih r hr h2
          refine ⟨?_, ?_⟩
          · simp only [keys, List.map_cons, List.nodup_cons]
            refine ⟨fun hm => ?_, h3⟩
            obtain ⟨j, hj, he⟩ := h4 x.1 hm
            have : i = j := by
              have n := ok.nd
              cases hlj : l[j]? with
              | none => rw [hlj] at he; cases he
              | some y =>
                rw [hlj] at he
                simp only [Option.map_some, Option.some.injEq] at he
                have hi1 : (keys l)[i]? = some x.1 := by simp [keys, hx]
                have hj1 : (keys l)[j]? = some x.1 := by simp [keys, hlj, he]
                exact (List.getElem?_inj (by
                  have := List.getElem?_eq_some_iff.1 hi1
                  exact this.1) n).1 (hi1.trans hj1.symm)
            exact h1 (this ▸ hj)
          · intro b hb
            simp only [keys, List.map_cons, List.mem_cons] at hb
            rcases hb with rfl | hb
            · exact ⟨i, List.mem_cons_self, by rw [hx]; rfl⟩
            · obtain ⟨j, hj, he⟩ := h4 b hb
              exact ⟨j, List.mem_cons_of_mem _ hj, he⟩
        · cases h
    exact (key is l' h nd).1
  · obtain ⟨p, hp, rfl⟩ := List.mem_map.1 hb
    exact List.mem_map.2 ⟨p, pick_mem h p hp, rfl⟩
theorem own_pick (is : List Nat) {l' : Bl} (ok : Ok I G (keys l)) (h : pick l is = some l') (nd : is.Nodup) : (own A l' G).le (own A l G) := own_sub ok (ok.pick is h nd).nd (pick_mem h)
end
def Lf.dec : (l : Leaf) → Value → Option l.T
  | .int k, .int k' n => if k = k' then some n else none
  | .bool, .bool b => some b
  | .ptr, .pointer p => some p
  | .addr, .pointer (some a) => some a
  | .slice, .slice a n c => some ⟨a, n, c⟩
  | .map, .map r => some r
  | .val, v => some v
  | _, _ => none
theorem Lf.dec_ok {l : Leaf} {v : Value} {x : l.T} (h : Lf.dec l v = some x) : v = l.toVal x := by
  cases l <;> cases v <;> simp only [Lf.dec] at h
  all_goals first
    | (cases h; done)
    | (cases h; rfl)
    | (split at h
       · rename_i e; cases h; rw [← e]
       · cases h)
    | (rename_i p; cases p
       · cases h
       · cases h; rfl)
def Lf.decs : (ls : List Leaf) → List Value → Option (HL Leaf.T ls)
  | [], _ => some ()
  | l :: ls, v :: vs => match Lf.dec l v, Lf.decs ls vs with
    | some x, some y => some (x, y)
    | _, _ => none
  | _ :: _, [] => none
theorem Lf.decs_ok : ∀ {ls : List Leaf} {vs : List Value} {x : HL Leaf.T ls}, Lf.decs ls vs = some x → ls.length ≤ vs.length ∧ vs.take ls.length = HL.vals Leaf.toVal ls x
  | [], vs, x, h => ⟨by simp, by simp [HL.vals]⟩
  | l :: ls, [], x, h => by simp [Lf.decs] at h
  | l :: ls, v :: vs, x, h => by
    simp only [Lf.decs] at h
    split at h
    · rename_i a b ha hb
      cases h
      obtain ⟨h1, h2⟩ := Lf.decs_ok hb
      refine ⟨by simp; exact h1, ?_⟩
      simp only [List.length_cons, List.take_succ_cons, h2, HL.vals, Lf.dec_ok ha]
    · cases h
section
variable {L : Hands} {G : Heap} {R : Value → Heap → Prop} {A : Ar} {I : List Nat} {l : Bl}
theorem w_ld (i : Nat) {a : Addr} {b n : Nat} {T : TypeId} {c : List Value} {lf : Leaf} {k : lf.T → Tree} {x : lf.T} (hA : Aw I A) (ok : Ok I G (keys l)) (ha : a = ⟨b, n, none⟩) (hi : l[i]? = some (b, oc T c)) (hx : (c[n]?).bind (Lf.dec lf) = some x)
    (h : wp Tryz.prog (k x) L (own A l G) R) : wp Tryz.prog (.ld a lf k) L (own A l G) R := by
  subst ha
  refine wp_ld_of (x := x) ?_ h
  rw [Heap.cell_of (own_get hA ok hi)]
  rw [List.getElem?_toArray]
  cases hc : c[n]? with
  | none => rw [hc] at hx; cases hx
  | some v => rw [hc] at hx; exact congrArg some (Lf.dec_ok hx)
theorem w_ldA (i : Nat) {a : Addr} {b n : Nat} {T : TypeId} {c : List Value} {ls : List Leaf} {k : HL Leaf.T ls → Tree} {x : HL Leaf.T ls} (hA : Aw I A) (ok : Ok I G (keys l)) (ha : a = ⟨b, n, none⟩) (hi : l[i]? = some (b, oc T c)) (hx : Lf.decs ls (c.drop n) = some x)
    (h : wp Tryz.prog (k x) L (own A l G) R) (hn : decide (n ≤ c.length) = true := by rfl) : wp Tryz.prog (.ldA a ls k) L (own A l G) R := by
  subst ha
  have hn := of_decide_eq_true hn
  obtain ⟨h1, h2⟩ := Lf.decs_ok hx
  rw [List.length_drop] at h1
  refine wp_ldA_of (x := x) (own_get hA ok hi) (by simp; omega) ?_ h
  rw [← h2]; simp [List.extract_eq_take_drop]
theorem w_st (i : Nat) {a : Addr} {b n : Nat} {T : TypeId} {c : List Value} {v : Value} {k : Tree} (hA : Aw I A) (ok : Ok I G (keys l)) (ha : a = ⟨b, n, none⟩) (hi : l[i]? = some (b, oc T c)) (hs : Value.single v = true) (hn : (decide (n < c.length)) = true)
    (h : wp Tryz.prog k L (own A (l.set i (b, oc T (c.set n v))) G) R) : wp Tryz.prog (.st a v k) L (own A l G) R := by
  subst ha
  have hn := of_decide_eq_true hn
  refine wp_st_of (u := c[n]) (own_get hA ok hi) (by simp [hn]) hs ?_
  rw [own_set hA ok _ hi]
  have : (c.toArray.setIfInBounds n v) = (c.set n v).toArray := by simp
  rw [this]; exact h
def setAll (c : List Value) : Nat → List Value → List Value
  | _, [] => c
  | n, v :: l => setAll (c.set n v) (n + 1) l
theorem setAll_put (vs : List Value) : ∀ (c : List Value) (n : Nat), putAll c.toArray n vs = (setAll c n vs).toArray := by
  induction vs with
  | nil => intro c n; rfl
  | cons v vs ih => intro c n; simp only [putAll, setAll]; rw [← ih]; simp
theorem w_stA (i : Nat) {a : Addr} {b n : Nat} {T : TypeId} {c : List Value} {vs : List Value} {k : Tree} (hA : Aw I A) (ok : Ok I G (keys l)) (ha : a = ⟨b, n, none⟩) (hi : l[i]? = some (b, oc T c)) (hs : vs.all Value.single = true) (hn : (decide (n + vs.length ≤ c.length)) = true)
    (h : wp Tryz.prog k L (own A (l.set i (b, oc T (setAll c n vs))) G) R) : wp Tryz.prog (.stA a vs k) L (own A l G) R := by
  subst ha
  have hn := of_decide_eq_true hn
  refine wp_stA_of (own_get hA ok hi) (by simpa using hn) (fun v hv => List.all_eq_true.1 hs v hv) ?_
  rw [own_set hA ok _ hi, setAll_put]; exact h
theorem w_newP {c : List Value} {T : TypeId} {k : Addr → Tree} (hA : Aw I A) (ok : Ok I G (keys l)) (h : ∀ b, Ok I G (keys ((b, oc T c) :: l)) → wp Tryz.prog (k ⟨b, 0, none⟩) L (own A ((b, oc T c) :: l) G) R) :
    wp Tryz.prog (.newP (.cells c.toArray T) k) L (own A l G) R := by
  refine wp_newP fun b hb => ?_
  obtain ⟨h1, h2⟩ := own_new hA ok hb (oc T c)
  show wp Tryz.prog (k ⟨b, 0, none⟩) L ((own A l G).set b (oc T c)) R
  rw [h2]; exact h b h1
theorem w_newS {c : List Value} {T : TypeId} {n : Nat} {k : Sl → Tree} (hA : Aw I A) (ok : Ok I G (keys l)) (h : ∀ b, Ok I G (keys ((b, oc T c) :: l)) → wp Tryz.prog (k ⟨some ⟨b, 0, none⟩, n, n⟩) L (own A ((b, oc T c) :: l) G) R) :
    wp Tryz.prog (.newS (.cells c.toArray T) n k) L (own A l G) R := by
  refine wp_newS fun b hb => ?_
  obtain ⟨h1, h2⟩ := own_new hA ok hb (oc T c)
  show wp Tryz.prog (k ⟨some ⟨b, 0, none⟩, n, n⟩) L ((own A l G).set b (oc T c)) R
  rw [h2]; exact h b h1
theorem w_newM {k : Option Nat → Tree} (hA : Aw I A) (ok : Ok I G (keys l)) (h : ∀ b, Ok I G (keys ((b, .map #[] 0) :: l)) → wp Tryz.prog (k (some b)) L (own A ((b, .map #[] 0) :: l) G) R) :
    wp Tryz.prog (.newM k) L (own A l G) R := by
  refine wp_newM fun b hb => ?_
  obtain ⟨h1, h2⟩ := own_new hA ok hb (.map #[] 0)
  rw [h2]; exact h b h1
theorem w_ck (i : Nat) {a : Addr} {b n : Nat} {T : TypeId} {c : List Value} {v : Value} {t : Tree} (hA : Aw I A) (ok : Ok I G (keys l)) (ha : a = ⟨b, n, none⟩) (hi : l[i]? = some (b, oc T c)) (hx : c[n]? = some v) (h : wp Tryz.prog t L (own A l G) R) : wp Tryz.prog (.check (ldS a) v t) L (own A l G) R := by
  subst ha
  refine chk_cell ?_ h
  rw [Heap.cell_of (own_get hA ok hi), List.getElem?_toArray]; exact hx
theorem w_ckn {a : Addr} {t : TypeId} {v : Value} {s : Tree} (hv : v = .pointer (some a)) (h : wp Tryz.prog s L (own A l G) R) : wp Tryz.prog (.check (opS Tryz.prog (.nilCheck (.tmp 0)) t [.pointer (some a)]) v s) L (own A l G) R := by
  subst hv; exact check_val (by rfl) h
theorem w_ret (is : List Nat) {v : Value} {l' : Bl} (ok : Ok I G (keys l)) (h : pick l is = some l') (nd : is.Nodup) (hR : Ok I G (keys l') → R v (own A l' G)) : wp Tryz.prog (.ret v) L (own A l G) R := ⟨own A l' G, own_pick is ok h nd, hR (ok.pick is h nd)⟩
end
noncomputable def t_arena_add (p0 : Option Addr) (p1 : Int) : Tree :=
 .call f_arena_load [(.pointer p0)] (.one (.leaf (.int .i64))) fun x7 =>
 .call f_arena_store [(.pointer p0), (.int .i64 (w64 (x7 + p1)))] .unit fun _ =>
 .ret (.int .i64 x7)
theorem t_arena_add_spec {p0 : Option Addr} {p1 : Int} : SpT f_arena_add #[(.pointer p0), (.int .i64 p1)] (t_arena_add p0 p1) := spT tcfg1 Tryz.func114 (by kernel_rfl)
noncomputable def t_arena_Arena_AddRaw (p0 : Option Addr) (p1 : Int) (p2 : Int) : Tree :=
 .call f_arena_Arena_at [(.pointer p0), (.int .i64 p1)] (.one (.leaf .ptr)) fun x9 =>
 .call f_arena_add [(.pointer x9), (.int .i64 p2)] (.one (.leaf (.int .i64))) fun x11 =>
 .ret (.int .i64 x11)
theorem t_arena_Arena_AddRaw_spec {p0 : Option Addr} {p1 : Int} {p2 : Int} : SpT f_arena_Arena_AddRaw #[(.pointer p0), (.int .i64 p1), (.int .i64 p2)] (t_arena_Arena_AddRaw p0 p1 p2) := spT tcfg1 Tryz.func95 (by kernel_rfl)
noncomputable def t_arena_Arena_Words (p0 : Option Addr) : Tree :=
 lkN p0 fun x4 =>
 .ld (x4.add 1) .slice fun x6 =>
 .ret (.int .i64 ((x6.len : Nat) : Int))
theorem t_arena_Arena_Words_spec {p0 : Option Addr} : SpT f_arena_Arena_Words #[(.pointer p0)] (t_arena_Arena_Words p0) := spT tcfg1 Tryz.func94 (by kernel_rfl)
theorem add_none (v : Int) (H : Heap) : Det Tryz.prog f_arena_add [.pointer none, .int .i64 v] H (.int .i64 0) H := by
  refine t_arena_add_spec fun L => ?_
  unfold t_arena_add
  refine wp_call_det (load_none _) ?_
  exact wp_call_det (x := ()) (store_none _ _) (wp_ret_of ⟨rfl, rfl⟩)
theorem add_some {b n T : Nat} {c : Array Value} {u v : Int} {H : Heap} (hb : H b = some (.cells c T (0, 0))) (hn : c[n]? = some (.int .i64 u)) :
    Det Tryz.prog f_arena_add [.pointer (some ⟨b, n, none⟩), .int .i64 v] H (.int .i64 u) (H.set b (.cells (c.setIfInBounds n (.int .i64 (w64 (u + v)))) T (0, 0))) := by
  refine t_arena_add_spec fun L => ?_
  unfold t_arena_add
  refine wp_call_det (load_some (x := u) ((Heap.cell_of hb _).trans hn)) ?_
  exact wp_call_det (x := ()) (store_some hb hn) (wp_ret_of ⟨rfl, rfl⟩)
theorem AddRaw_det {A : Ar} (hA : A.wf) (i v : Int) (H : Heap) : Det Tryz.prog f_arena_Arena_AddRaw [pA A, .int .i64 i, .int .i64 v] (A.put H) (.int .i64 (A.rawF i)) ((A.storeR i (w64 (A.rawF i + v))).put H) := by
  refine t_arena_Arena_AddRaw_spec fun L => ?_
  unfold t_arena_Arena_AddRaw Ar.storeR Ar.rawF
  by_cases hi : A.rawOk i
  · rw [if_pos hi, if_pos hi]
    refine wp_call_det (x := some ⟨A.r, i.toNat, none⟩) (at_ok hA.nd hi H) ?_
    refine wp_call_det (x := A.raw.getD i.toNat 0) (add_some (Ar.at_r (A := A.tick) hA.nd H) (raw_cell hA.nd hi H)) ?_
    exact wp_ret_of ⟨rfl, set_raw (A := A.tick) hA.nd _ _ _⟩
  · rw [if_neg hi, if_neg hi]
    refine wp_call_det (x := none) (at_bad hA.nd hi H) ?_
    exact wp_call_det (x := (0 : Int)) (add_none _ _) (wp_ret_of ⟨rfl, rfl⟩)
theorem Words_det {A : Ar} (H : Heap) : Det Tryz.prog f_arena_Arena_Words [pA A] (A.put H) (.int .i64 A.words.length) (A.put H) := by
  refine t_arena_Arena_Words_spec fun L => ?_
  unfold t_arena_Arena_Words
  exact wp_nil.2 (wp_fld (x := Sl.mk (some ⟨A.w, 0, none⟩) A.words.length A.words.length) (n := 1) (wp_ret_of ⟨rfl, rfl⟩))
@[reducible] def aI (I : List Nat) : Option Addr := some ⟨I.headD 0, 0, none⟩
theorem Aw.pA {I : List Nat} {A : Ar} (h : Aw I A) : .pointer (aI I) = pA A := by unfold Proofs.YtjnacjniiogjcaaGreat.pA aI; rw [← h.ids]; rfl
theorem Aw.of {I : List Nat} {A B : Ar} (h : Aw I A) (al : Ar.Alike A B) (w : B.wf) : Aw I B := ⟨w, al.ids.trans h.ids⟩
def Ar.bornX (A : Ar) (h : Int) : Ar := if A.bornOk h then A.bornF h else A
section
variable {L : Hands} {R : Value → Heap → Prop} {A : Ar} {I : List Nat} {l : Bl} {G : Heap}
theorem Aw.touchR (h : Aw I A) (i : Int) : Aw I (A.touchR i) := h.of (touchR_alike A i) (touchR_wf h.wf i)
theorem Aw.storeR (h : Aw I A) (i v : Int) : Aw I (A.storeR i v) := h.of (storeR_alike A i v) (storeR_wf h.wf i v)
theorem Aw.swapR (h : Aw I A) (i v w : Int) : Aw I (A.swapR i v w) := h.of (swapR_alike A i v w) (swapR_wf h.wf i v w)
theorem Aw.touch (h : Aw I A) (k i : Int) : Aw I (A.touch k i) := h.of (touch_alike A k i) (touch_wf h.wf k i)
theorem Aw.storeF (h : Aw I A) (k i v : Int) : Aw I (A.storeF k i v) := h.of (storeF_alike A k i v) (storeF_wf h.wf k i v)
theorem Aw.retireF (h : Aw I A) (k : Int) : Aw I (A.retireF k) := h.of (retireF_alike A k) (retireF_wf h.wf k)
theorem Aw.diedF (h : Aw I A) (k : Int) : Aw I (A.diedF k) := h.of (diedF_alike A k) (diedF_wf h.wf k)
theorem Aw.bornX (h : Aw I A) (k : Int) : Aw I (A.bornX k) := by
  unfold Ar.bornX; split
  · rename_i e; exact h.of (bornF_alike A k) (bornF_wf h.wf k e.2.1)
  · exact h
theorem w_Raw {i : Int} {k : Int → Tree} (hA : Aw I A) (h : Aw I (A.touchR i) → wp Tryz.prog (k (A.rawF i)) L (own (A.touchR i) l G) R) :
    wp Tryz.prog (.call f_arena_Arena_Raw [.pointer (aI I), .int .i64 i] (.one (.leaf (.int .i64))) k) L (own A l G) R :=
  wp_call_det (x := A.rawF i) (by rw [hA.pA]; exact Raw_det hA.wf i _) (h (hA.touchR i))
theorem w_SetRaw {i v : Int} {k : Unit → Tree} (hA : Aw I A) (h : Aw I (A.storeR i v) → wp Tryz.prog (k ()) L (own (A.storeR i v) l G) R) :
    wp Tryz.prog (.call f_arena_Arena_SetRaw [.pointer (aI I), .int .i64 i, .int .i64 v] .unit k) L (own A l G) R :=
  wp_call_det (x := ()) (by rw [hA.pA]; exact SetRaw_det hA.wf i v _) (h (hA.storeR i v))
theorem w_SwapRaw {i v w : Int} {k : Bool → Tree} (hA : Aw I A) (h : Aw I (A.swapR i v w) → wp Tryz.prog (k (A.swapRb i v)) L (own (A.swapR i v w) l G) R) :
    wp Tryz.prog (.call f_arena_Arena_SwapRaw [.pointer (aI I), .int .i64 i, .int .i64 v, .int .i64 w] (.one (.leaf .bool)) k) L (own A l G) R :=
  wp_call_det (x := A.swapRb i v) (by rw [hA.pA]; exact SwapRaw_det hA.wf i v w _) (h (hA.swapR i v w))
theorem w_AddRaw {i v : Int} {k : Int → Tree} (hA : Aw I A) (h : Aw I (A.storeR i (w64 (A.rawF i + v))) → wp Tryz.prog (k (A.rawF i)) L (own (A.storeR i (w64 (A.rawF i + v))) l G) R) :
    wp Tryz.prog (.call f_arena_Arena_AddRaw [.pointer (aI I), .int .i64 i, .int .i64 v] (.one (.leaf (.int .i64))) k) L (own A l G) R :=
  wp_call_det (x := A.rawF i) (by rw [hA.pA]; exact AddRaw_det hA.wf i v _) (h (hA.storeR i _))
theorem w_Load {b i : Int} {k : Int → Tree} (hA : Aw I A) (h : Aw I (A.touch b i) → wp Tryz.prog (k (A.loadF b i)) L (own (A.touch b i) l G) R) :
    wp Tryz.prog (.call f_arena_Arena_Load [.pointer (aI I), .int .i64 b, .int .i64 i] (.one (.leaf (.int .i64))) k) L (own A l G) R :=
  wp_call_det (x := A.loadF b i) (by rw [hA.pA]; exact Load_det hA.wf b i _) (h (hA.touch b i))
theorem w_Store {b i v : Int} {k : Unit → Tree} (hA : Aw I A) (h : Aw I (A.storeF b i v) → wp Tryz.prog (k ()) L (own (A.storeF b i v) l G) R) :
    wp Tryz.prog (.call f_arena_Arena_Store [.pointer (aI I), .int .i64 b, .int .i64 i, .int .i64 v] .unit k) L (own A l G) R :=
  wp_call_det (x := ()) (by rw [hA.pA]; exact Store_det hA.wf b i v _) (h (hA.storeF b i v))
theorem w_State {b : Int} {k : Int → Tree} (hA : Aw I A) (h : wp Tryz.prog (k (A.stF b)) L (own A l G) R) :
    wp Tryz.prog (.call f_arena_Arena_State [.pointer (aI I), .int .i64 b] (.one (.leaf (.int .i64))) k) L (own A l G) R :=
  wp_call_det (x := A.stF b) (by rw [hA.pA]; exact State_det hA.wf.nd b _) h
theorem w_Retire {b : Int} {k : Bool → Tree} (hA : Aw I A) (h : Aw I (A.retireF b) → wp Tryz.prog (k (A.turnB b 1)) L (own (A.retireF b) l G) R) :
    wp Tryz.prog (.call f_arena_Arena_Retire [.pointer (aI I), .int .i64 b] (.one (.leaf .bool)) k) L (own A l G) R :=
  wp_call_det (x := A.turnB b 1) (by rw [hA.pA]; exact Retire_det hA.wf.nd b _) (h (hA.retireF b))
theorem w_Died {b : Int} {k : Bool → Tree} (hA : Aw I A) (h : Aw I (A.diedF b) → wp Tryz.prog (k (A.turnB b 2)) L (own (A.diedF b) l G) R) :
    wp Tryz.prog (.call f_arena_Arena_Died [.pointer (aI I), .int .i64 b] (.one (.leaf .bool)) k) L (own A l G) R :=
  wp_call_det (x := A.turnB b 2) (by rw [hA.pA]; exact Died_det hA.wf b _) (h (hA.diedF b))
theorem w_Born {b : Int} {k : Bool → Tree} (hA : Aw I A) (h : Aw I (A.bornX b) → wp Tryz.prog (k (decide (A.bornOk b))) L (own (A.bornX b) l G) R) :
    wp Tryz.prog (.call f_arena_Arena_Born [.pointer (aI I), .int .i64 b] (.one (.leaf .bool)) k) L (own A l G) R :=
  wp_call_det (x := decide (A.bornOk b)) (H' := own (A.bornX b) l G) (by
    rw [hA.pA]
    have := Born_det hA.wf b (putL l G)
    unfold own Ar.bornX
    exact this) (h (hA.bornX b))
theorem w_Uses {k : Int → Tree} (hA : Aw I A) (h : wp Tryz.prog (k A.uses) L (own A l G) R) :
    wp Tryz.prog (.call f_arena_Arena_Uses [.pointer (aI I)] (.one (.leaf (.int .i64))) k) L (own A l G) R :=
  wp_call_det (x := A.uses) (by rw [hA.pA]; exact Uses_det _) h
theorem w_Fault {k : Bool → Tree} (hA : Aw I A) (h : wp Tryz.prog (k A.fault) L (own A l G) R) :
    wp Tryz.prog (.call f_arena_Arena_Fault [.pointer (aI I)] (.one (.leaf .bool)) k) L (own A l G) R :=
  wp_call_det (x := A.fault) (by rw [hA.pA]; exact Fault_det _) h
theorem w_Words {k : Int → Tree} (hA : Aw I A) (h : wp Tryz.prog (k A.words.length) L (own A l G) R) :
    wp Tryz.prog (.call f_arena_Arena_Words [.pointer (aI I)] (.one (.leaf (.int .i64))) k) L (own A l G) R :=
  wp_call_det (x := (A.words.length : Int)) (by rw [hA.pA]; exact Words_det _) h
theorem wq_Size {c : Int} {k : Int → Tree} {H : Heap} (h : wp Tryz.prog (k (sizeF c)) L H R) : wp Tryz.prog (.qcall f_handle_Size [.int .i64 c] (.one (.leaf (.int .i64))) k) L H R := wp_qcall_det (x := sizeF c) (Size_det _ _) h
theorem wq_Open {b : Int} {k : HL Sh1.T [(.leaf (.int .i64)), (.leaf (.int .i64)), (.leaf (.int .i64)), (.leaf .bool)] → Tree} {H : Heap} (h : wp Tryz.prog (k (opB b, opG b, opC b, openOk b, ())) L H R) :
    wp Tryz.prog (.qcall f_handle_Open [.int .i64 b] (.tup [(.leaf (.int .i64)), (.leaf (.int .i64)), (.leaf (.int .i64)), (.leaf .bool)]) k) L H R := wp_qcall_det (x := (opB b, opG b, opC b, openOk b, ())) (Open_all _ _) h
theorem wq_Pack {b g c : Int} {k : Int → Tree} {H : Heap} (h : wp Tryz.prog (k (packF b g c)) L H R) : wp Tryz.prog (.qcall f_handle_Pack [.int .i64 b, .int .i64 g, .int .i64 c] (.one (.leaf (.int .i64))) k) L H R := wp_qcall_det (x := packF b g c) (Pack_at _ rfl) h
theorem wq_head {p : Pl} {w c : Int} {k : Int → Tree} {H : Heap} (h : wp Tryz.prog (k (headF p w c)) L H R) : wp Tryz.prog (.qcall f_free_Place_head [p.val, .int .i64 w, .int .i64 c] (.one (.leaf (.int .i64))) k) L H R := wp_qcall_det (x := headF p w c) (head_det p w c _) h
end
theorem keys_append (l k : Bl) : keys (l ++ k) = keys l ++ keys k := by simp [keys]
theorem own_append (A : Ar) (l k : Bl) (G : Heap) : own A (l ++ k) G = own A l (putL k G) := by unfold own; rw [putL_append]
theorem Ok.split {I : List Nat} {G : Heap} {ks : List Nat} {k : Bl} (h : Ok I G (ks ++ keys k)) : Ok I (putL k G) ks ∧ Ok I G (keys k) := by
  obtain ⟨n1, n2, n3⟩ := List.nodup_append.1 h.nd
  refine ⟨⟨n1, fun b hb => h.out b (List.mem_append_left _ hb), fun b hb => ?_⟩, ⟨n2, fun b hb => h.out b (List.mem_append_right _ hb), fun b hb => h.no b (List.mem_append_right _ hb)⟩⟩
  rw [putL_out (fun hk => n3 b hb b hk rfl)]
  exact h.no b (List.mem_append_left _ hb)
theorem Ok.join {I : List Nat} {G : Heap} {ks : List Nat} {k : Bl} (h : Ok I (putL k G) ks) (h' : Ok I G (keys k)) : Ok I G (ks ++ keys k) := by
  refine ⟨List.nodup_append.2 ⟨h.nd, h'.nd, fun a ha b hb e => (putL_none (h.no a ha)).1 (e ▸ hb)⟩, fun b hb => ?_, fun b hb => ?_⟩
  · rcases List.mem_append.1 hb with e | e
    · exact h.out b e
    · exact h'.out b e
  · rcases List.mem_append.1 hb with e | e
    · exact (putL_none (h.no b e)).2
    · exact h'.no b e
theorem w_make {L : Hands} {R : Value → Heap → Prop} {A : Ar} {I : List Nat} {l : Bl} {G : Heap} {f : FuncId} {args : List Value} {sh : Sh} {k : sh.T → Tree} {J : Type} {bl : J → Bl} {val : J → sh.T}
    (h : ∀ G, SpecF Tryz.prog f args.toArray (own A [] G) fun v K => ∃ j, v = sh.toVal (val j) ∧ K = own A (bl j) G ∧ Ok I G (keys (bl j))) (ok : Ok I G (keys l))
    (hk : ∀ j, Ok I G (keys (bl j ++ l)) → wp Tryz.prog (k (val j)) L (own A (bl j ++ l) G) R) : wp Tryz.prog (.call f args sh k) L (own A l G) R := by
  refine wp_call_of (h (putL l G)) ?_
  rintro v K ⟨j, rfl, rfl, o⟩
  refine ⟨_, rfl, ?_⟩
  rw [← own_append]
  exact hk j (by rw [keys_append]; exact o.join ok)
theorem w_sub {L : Hands} {R : Value → Heap → Prop} {A : Ar} {bl rest : Bl} {G : Heap} {f : FuncId} {args : List Value} {sh : Sh} {k : sh.T → Tree} {R0 : Value → Heap → Prop}
    (h : SpecF Tryz.prog f args.toArray (own A bl (putL rest G)) R0) (hk : ∀ v K, R0 v K → ∃ x, v = sh.toVal x ∧ wp Tryz.prog (k x) L K R) : wp Tryz.prog (.call f args sh k) L (own A (bl ++ rest) G) R := by
  rw [own_append]; exact wp_call_of h hk
structure Mch (M J : Type) where
  f : FuncId
  addr : J → Nat
  bl : M → J → Bl
  inv : M → Ar → Prop
  step : M → Ar → M × Ar
  fin : M → Bool
def Mch.ok {M J : Type} (X : Mch M J) : Prop := ∀ (I : List Nat) (A : Ar) (G : Heap) (m : M) (j : J), Aw I A → Ok I G (keys (X.bl m j)) → X.inv m A →
  SpecF Tryz.prog X.f #[.pointer (some ⟨X.addr j, 0, none⟩), .pointer (aI I)] (own A (X.bl m j) G) fun v K => ∃ j', v = .bool (X.fin (X.step m A).1) ∧ K = own (X.step m A).2 (X.bl (X.step m A).1 j') G ∧ X.addr j' = X.addr j ∧
    Ok I G (keys (X.bl (X.step m A).1 j')) ∧ Aw I (X.step m A).2
inductive Mch.Runs {M J : Type} (X : Mch M J) : Nat → M → Ar → M → Ar → Prop
  | one {m A} : X.inv m A → (X.step m A).2.uses ≤ w64 (A.uses + 1) → X.fin (X.step m A).1 = true → Runs X 1 m A (X.step m A).1 (X.step m A).2
  | more {n m A m' A'} : X.inv m A → (X.step m A).2.uses ≤ w64 (A.uses + 1) → X.fin (X.step m A).1 = false → Runs X n (X.step m A).1 (X.step m A).2 m' A' → Runs X (n + 1) m A m' A'
def Mch.inv' {M J : Type} (X : Mch M J) (t : TypeId) : Prop := ∀ (q : Nat) (p : Option Addr), opS Tryz.prog (.call { callee := .invoke (.tmp 0) "Step", args := #[(.tmp 1)], argTypes := #[ty_p_arena_Arena] }) ty_bool [(.iface t (.pointer (some ⟨q, 0, none⟩))), (.pointer p)] =
    .pure (.enter X.f [.pointer (some ⟨q, 0, none⟩), .pointer p].toArray)
end Go.Proofs.YtjnacjniiogjcaaGreat
