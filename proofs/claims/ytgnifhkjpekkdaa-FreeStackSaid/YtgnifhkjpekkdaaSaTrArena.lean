import Derived.Test.YtgnifhkjpekkdaaSaNames
set_option linter.unusedVariables false
set_option maxRecDepth 10000
namespace Go.Proofs.Ytgnifhkjpekkdaa
open Go Go.Fw
/- magpie/arena.New -/
noncomputable def t_arena_New (p0 : Int) (p1 : Int) (p2 : Bool) : Tree :=
  .make (opS Try.prog (.makeSlice ty_s_int (.tmp 0) (.tmp 1)) ty_s_int [(.int .i64 (imax 0 (imin p0 65536))), (.int .i64 (imax 0 (imin p0 65536)))]) (.one (.leaf .slice)) fun x14 =>
  .make (opS Try.prog (.makeSlice ty_s_int (.tmp 0) (.tmp 1)) ty_s_int [(.int .i64 (imax 0 (imin p1 65536))), (.int .i64 (imax 0 (imin p1 65536)))]) (.one (.leaf .slice)) fun x16 =>
  .newM fun x18 =>
  .make (opS Try.prog (.makeSlice ty_s_bool (.tmp 0) (.tmp 1)) ty_s_bool [(.int .i64 (imax 0 (imin p1 65536))), (.int .i64 (imax 0 (imin p1 65536)))]) (.one (.leaf .slice)) fun x20 =>
  .make (opS Try.prog (.makeSlice ty_s_bool (.tmp 0) (.tmp 1)) ty_s_bool [(.int .i64 (imax 0 (imin p1 65536))), (.int .i64 (imax 0 (imin p1 65536)))]) (.one (.leaf .slice)) fun x22 =>
  .newM fun x23 =>
  .newP (.cells #[(.slice x14.a x14.len x14.cap), (.slice x16.a x16.len x16.cap), (.bool p2), (.map x18), (.slice x20.a x20.len x20.cap), (.slice x22.a x22.len x22.cap), (.map x23), (.int .i64 0), (.int .i64 0), (.int .i64 0), (.int .i64 0), (.bool false), (.int .i64 0)] ty_arena_Arena) fun x25 =>
  .ret (.pointer (some x25))
theorem t_arena_New_eq (p0 : Int) (p1 : Int) (p2 : Bool) : funcTree Try.prog { quiet := [17, 18, 19, 21, 22, 48, 49, 51, 77], quietTmp := true, fncs := [], ifcs := [] } Try.f25 [(.int .i64 p0), (.int .i64 p1), (.bool p2)] = t_arena_New p0 p1 p2 := by kernel_rfl
theorem t_arena_New_spec {p0 : Int} {p1 : Int} {p2 : Bool} {H : Heap} {R : Value → Heap → Prop} (h : ∀ L, wp Try.prog (t_arena_New p0 p1 p2) L H R) : SpecF Try.prog f_arena_New #[(.int .i64 p0), (.int .i64 p1), (.bool p2)] H R :=
  spec_of_tree (cfg := { quiet := [17, 18, 19, 21, 22, 48, 49, 51, 77], quietTmp := true, fncs := [], ifcs := [] }) Try.func25 fun L => (t_arena_New_eq p0 p1 p2).symm ▸ h L

/- magpie/arena.load -/
noncomputable def t_arena_load (p0 : Option Addr) : Tree :=
  .look (opS Try.prog (.binOp .eql ty_p_int (.tmp 0) (.const (.pointer none)) ty_p_int) ty_bool [(.pointer p0)]) (.one (.leaf .bool)) fun x4 =>
  bif x4 then (
    .ret (.int .i64 0))
  else (
    .look (opS Try.prog (.nilCheck (.tmp 0)) ty_unit [(.pointer p0)]) (.one (.leaf .addr)) fun x6 =>
    .ld x6 (.int .i64) fun x7 =>
    .ret (.int .i64 x7))
theorem t_arena_load_eq (p0 : Option Addr) : funcTree Try.prog { quiet := [17, 18, 19, 21, 22, 48, 49, 51, 77], quietTmp := true, fncs := [], ifcs := [] } Try.f52 [(.pointer p0)] = t_arena_load p0 := by kernel_rfl
theorem t_arena_load_spec {p0 : Option Addr} {H : Heap} {R : Value → Heap → Prop} (h : ∀ L, wp Try.prog (t_arena_load p0) L H R) : SpecF Try.prog f_arena_load #[(.pointer p0)] H R :=
  spec_of_tree (cfg := { quiet := [17, 18, 19, 21, 22, 48, 49, 51, 77], quietTmp := true, fncs := [], ifcs := [] }) Try.func52 fun L => (t_arena_load_eq p0).symm ▸ h L

/- magpie/arena.store -/
noncomputable def t_arena_store (p0 : Option Addr) (p1 : Int) : Tree :=
  .look (opS Try.prog (.binOp .neq ty_p_int (.tmp 0) (.const (.pointer none)) ty_p_int) ty_bool [(.pointer p0)]) (.one (.leaf .bool)) fun x5 =>
  bif x5 then (
    .look (opS Try.prog (.nilCheck (.tmp 0)) ty_unit [(.pointer p0)]) (.one (.leaf .addr)) fun x8 =>
    .st x8 (.int .i64 p1) <|
    .ret (.tuple #[]))
  else (
    .ret (.tuple #[]))
theorem t_arena_store_eq (p0 : Option Addr) (p1 : Int) : funcTree Try.prog { quiet := [17, 18, 19, 21, 22, 48, 49, 51, 77], quietTmp := true, fncs := [], ifcs := [] } Try.f57 [(.pointer p0), (.int .i64 p1)] = t_arena_store p0 p1 := by kernel_rfl
theorem t_arena_store_spec {p0 : Option Addr} {p1 : Int} {H : Heap} {R : Value → Heap → Prop} (h : ∀ L, wp Try.prog (t_arena_store p0 p1) L H R) : SpecF Try.prog f_arena_store #[(.pointer p0), (.int .i64 p1)] H R :=
  spec_of_tree (cfg := { quiet := [17, 18, 19, 21, 22, 48, 49, 51, 77], quietTmp := true, fncs := [], ifcs := [] }) Try.func57 fun L => (t_arena_store_eq p0 p1).symm ▸ h L

/- magpie/arena.swap -/
noncomputable def t_arena_swap (p0 : Option Addr) (p1 : Int) (p2 : Int) : Tree :=
  .look (opS Try.prog (.binOp .eql ty_p_int (.tmp 0) (.const (.pointer none)) ty_p_int) ty_bool [(.pointer p0)]) (.one (.leaf .bool)) fun x8 =>
  bif x8 then (
    .ret (.bool false))
  else (
    .look (opS Try.prog (.nilCheck (.tmp 0)) ty_unit [(.pointer p0)]) (.one (.leaf .addr)) fun x11 =>
    .ld x11 (.int .i64) fun x12 =>
    bif ((x12 : Int) != p1) then (
      .ret (.bool false))
    else (
      .look (opS Try.prog (.nilCheck (.tmp 0)) ty_unit [(.pointer p0)]) (.one (.leaf .addr)) fun x18 =>
      .st x18 (.int .i64 p2) <|
      .ret (.bool true)))
theorem t_arena_swap_eq (p0 : Option Addr) (p1 : Int) (p2 : Int) : funcTree Try.prog { quiet := [17, 18, 19, 21, 22, 48, 49, 51, 77], quietTmp := true, fncs := [], ifcs := [] } Try.f78 [(.pointer p0), (.int .i64 p1), (.int .i64 p2)] = t_arena_swap p0 p1 p2 := by kernel_rfl
theorem t_arena_swap_spec {p0 : Option Addr} {p1 : Int} {p2 : Int} {H : Heap} {R : Value → Heap → Prop} (h : ∀ L, wp Try.prog (t_arena_swap p0 p1 p2) L H R) : SpecF Try.prog f_arena_swap #[(.pointer p0), (.int .i64 p1), (.int .i64 p2)] H R :=
  spec_of_tree (cfg := { quiet := [17, 18, 19, 21, 22, 48, 49, 51, 77], quietTmp := true, fncs := [], ifcs := [] }) Try.func78 fun L => (t_arena_swap_eq p0 p1 p2).symm ▸ h L

/- (*magpie/arena.Arena).at -/
noncomputable def t_arena_Arena_at (p0 : Option Addr) (p1 : Int) : Tree :=
  .look (opS Try.prog (.nilCheck (.tmp 0)) ty_unit [(.pointer p0)]) (.one (.leaf .addr)) fun x6 =>
  .ld (x6.add 12) (.int .i64) fun x8 =>
  .look (opS Try.prog (.nilCheck (.tmp 0)) ty_unit [(.pointer p0)]) (.one (.leaf .addr)) fun x10 =>
  .st (x10.add 12) (.int .i64 (w64 (x8 + 1))) <|
  bif (decide ((p1 : Int) < 0)) then (
    .look (opS Try.prog (.nilCheck (.tmp 0)) ty_unit [(.pointer p0)]) (.one (.leaf .addr)) fun x24 =>
    .st (x24.add 11) (.bool true) <|
    .ret (.pointer none))
  else (
    .look (opS Try.prog (.nilCheck (.tmp 0)) ty_unit [(.pointer p0)]) (.one (.leaf .addr)) fun x17 =>
    .ld x17 .slice fun x19 =>
    bif (decide ((p1 : Int) ≥ ((x19.len : Nat) : Int))) then (
      .look (opS Try.prog (.nilCheck (.tmp 0)) ty_unit [(.pointer p0)]) (.one (.leaf .addr)) fun x24 =>
      .st (x24.add 11) (.bool true) <|
      .ret (.pointer none))
    else (
      .look (opS Try.prog (.nilCheck (.tmp 0)) ty_unit [(.pointer p0)]) (.one (.leaf .addr)) fun x27 =>
      .ld x27 .slice fun x29 =>
      .look (opS Try.prog (.indexAddr ty_s_int (.tmp 0) (.tmp 1)) ty_unit [(.slice x29.a x29.len x29.cap), (.int .i64 p1)]) (.one (.leaf .addr)) fun x31 =>
      .ret (.pointer (some x31))))
theorem t_arena_Arena_at_eq (p0 : Option Addr) (p1 : Int) : funcTree Try.prog { quiet := [17, 18, 19, 21, 22, 48, 49, 51, 77], quietTmp := true, fncs := [], ifcs := [] } Try.f53 [(.pointer p0), (.int .i64 p1)] = t_arena_Arena_at p0 p1 := by kernel_rfl
theorem t_arena_Arena_at_spec {p0 : Option Addr} {p1 : Int} {H : Heap} {R : Value → Heap → Prop} (h : ∀ L, wp Try.prog (t_arena_Arena_at p0 p1) L H R) : SpecF Try.prog f_arena_Arena_at #[(.pointer p0), (.int .i64 p1)] H R :=
  spec_of_tree (cfg := { quiet := [17, 18, 19, 21, 22, 48, 49, 51, 77], quietTmp := true, fncs := [], ifcs := [] }) Try.func53 fun L => (t_arena_Arena_at_eq p0 p1).symm ▸ h L

/- (*magpie/arena.Arena).body -/
noncomputable def t_arena_Arena_body (p0 : Option Addr) (p1 : Int) : Tree :=
  .qcall f_handle_Open [(.int .i64 p1)] (.tup [(.leaf (.int .i64)), (.leaf (.int .i64)), (.leaf (.int .i64)), (.leaf .bool)]) fun x12 =>
  .qcall f_handle_Size [(.int .i64 x12.2.2.1)] (.one (.leaf (.int .i64))) fun x19 =>
  .look (opS Try.prog (.nilCheck (.tmp 0)) ty_unit [(.pointer p0)]) (.one (.leaf .addr)) fun x22 =>
  .ld (x22.add 1) .slice fun x24 =>
  .look (opS Try.prog (.slice ty_s_int (.tmp 0) (some (.tmp 1)) (some (.tmp 2)) (some (.tmp 3))) ty_s_int [(.slice x24.a x24.len x24.cap), (.int .i64 x12.1), (.int .i64 (w64 (x12.1 + x19))), (.int .i64 (w64 (x12.1 + x19)))]) (.one (.leaf .slice)) fun x28 =>
  .ret (.slice x28.a x28.len x28.cap)
theorem t_arena_Arena_body_eq (p0 : Option Addr) (p1 : Int) : funcTree Try.prog { quiet := [17, 18, 19, 21, 22, 48, 49, 51, 77], quietTmp := true, fncs := [], ifcs := [] } Try.f55 [(.pointer p0), (.int .i64 p1)] = t_arena_Arena_body p0 p1 := by kernel_rfl
theorem t_arena_Arena_body_spec {p0 : Option Addr} {p1 : Int} {H : Heap} {R : Value → Heap → Prop} (h : ∀ L, wp Try.prog (t_arena_Arena_body p0 p1) L H R) : SpecF Try.prog f_arena_Arena_body #[(.pointer p0), (.int .i64 p1)] H R :=
  spec_of_tree (cfg := { quiet := [17, 18, 19, 21, 22, 48, 49, 51, 77], quietTmp := true, fncs := [], ifcs := [] }) Try.func55 fun L => (t_arena_Arena_body_eq p0 p1).symm ▸ h L

/- (*magpie/arena.Arena).in -/
noncomputable def t_arena_Arena_in (p0 : Option Addr) (p1 : Int) (p2 : Int) : Tree :=
  .look (opS Try.prog (.nilCheck (.tmp 0)) ty_unit [(.pointer p0)]) (.one (.leaf .addr)) fun x9 =>
  .ld (x9.add 12) (.int .i64) fun x11 =>
  .look (opS Try.prog (.nilCheck (.tmp 0)) ty_unit [(.pointer p0)]) (.one (.leaf .addr)) fun x13 =>
  .st (x13.add 12) (.int .i64 (w64 (x11 + 1))) <|
  .call f_arena_Arena_State [(.pointer p0), (.int .i64 p1)] (.one (.leaf (.int .i64))) fun x17 =>
  bif ((x17 : Int) == 0) then (
    .look (opS Try.prog (.nilCheck (.tmp 0)) ty_unit [(.pointer p0)]) (.one (.leaf .addr)) fun x20 =>
    .st (x20.add 11) (.bool true) <|
    .ret (.pointer none))
  else (
    .call f_arena_Arena_body [(.pointer p0), (.int .i64 p1)] (.one (.leaf .slice)) fun x24 =>
    bif (decide ((p2 : Int) < 0)) then (
      .look (opS Try.prog (.nilCheck (.tmp 0)) ty_unit [(.pointer p0)]) (.one (.leaf .addr)) fun x34 =>
      .st (x34.add 11) (.bool true) <|
      .ret (.pointer none))
    else (
      bif (decide ((p2 : Int) ≥ ((x24.len : Nat) : Int))) then (
        .look (opS Try.prog (.nilCheck (.tmp 0)) ty_unit [(.pointer p0)]) (.one (.leaf .addr)) fun x34 =>
        .st (x34.add 11) (.bool true) <|
        .ret (.pointer none))
      else (
        .look (opS Try.prog (.indexAddr ty_s_int (.tmp 0) (.tmp 1)) ty_unit [(.slice x24.a x24.len x24.cap), (.int .i64 p2)]) (.one (.leaf .addr)) fun x38 =>
        .ret (.pointer (some x38)))))
theorem t_arena_Arena_in_eq (p0 : Option Addr) (p1 : Int) (p2 : Int) : funcTree Try.prog { quiet := [17, 18, 19, 21, 22, 48, 49, 51, 77], quietTmp := true, fncs := [], ifcs := [] } Try.f56 [(.pointer p0), (.int .i64 p1), (.int .i64 p2)] = t_arena_Arena_in p0 p1 p2 := by kernel_rfl
theorem t_arena_Arena_in_spec {p0 : Option Addr} {p1 : Int} {p2 : Int} {H : Heap} {R : Value → Heap → Prop} (h : ∀ L, wp Try.prog (t_arena_Arena_in p0 p1 p2) L H R) : SpecF Try.prog f_arena_Arena_in #[(.pointer p0), (.int .i64 p1), (.int .i64 p2)] H R :=
  spec_of_tree (cfg := { quiet := [17, 18, 19, 21, 22, 48, 49, 51, 77], quietTmp := true, fncs := [], ifcs := [] }) Try.func56 fun L => (t_arena_Arena_in_eq p0 p1 p2).symm ▸ h L

/- (*magpie/arena.Arena).Raw -/
noncomputable def t_arena_Arena_Raw (p0 : Option Addr) (p1 : Int) : Tree :=
  .call f_arena_Arena_at [(.pointer p0), (.int .i64 p1)] (.one (.leaf .ptr)) fun x7 =>
  .call f_arena_load [(.pointer x7)] (.one (.leaf (.int .i64))) fun x8 =>
  .ret (.int .i64 x8)
theorem t_arena_Arena_Raw_eq (p0 : Option Addr) (p1 : Int) : funcTree Try.prog { quiet := [17, 18, 19, 21, 22, 48, 49, 51, 77], quietTmp := true, fncs := [], ifcs := [] } Try.f39 [(.pointer p0), (.int .i64 p1)] = t_arena_Arena_Raw p0 p1 := by kernel_rfl
theorem t_arena_Arena_Raw_spec {p0 : Option Addr} {p1 : Int} {H : Heap} {R : Value → Heap → Prop} (h : ∀ L, wp Try.prog (t_arena_Arena_Raw p0 p1) L H R) : SpecF Try.prog f_arena_Arena_Raw #[(.pointer p0), (.int .i64 p1)] H R :=
  spec_of_tree (cfg := { quiet := [17, 18, 19, 21, 22, 48, 49, 51, 77], quietTmp := true, fncs := [], ifcs := [] }) Try.func39 fun L => (t_arena_Arena_Raw_eq p0 p1).symm ▸ h L

/- (*magpie/arena.Arena).SetRaw -/
noncomputable def t_arena_Arena_SetRaw (p0 : Option Addr) (p1 : Int) (p2 : Int) : Tree :=
  .call f_arena_Arena_at [(.pointer p0), (.int .i64 p1)] (.one (.leaf .ptr)) fun x8 =>
  .call f_arena_store [(.pointer x8), (.int .i64 p2)] .unit fun _ =>
  .ret (.tuple #[])
theorem t_arena_Arena_SetRaw_eq (p0 : Option Addr) (p1 : Int) (p2 : Int) : funcTree Try.prog { quiet := [17, 18, 19, 21, 22, 48, 49, 51, 77], quietTmp := true, fncs := [], ifcs := [] } Try.f75 [(.pointer p0), (.int .i64 p1), (.int .i64 p2)] = t_arena_Arena_SetRaw p0 p1 p2 := by kernel_rfl
theorem t_arena_Arena_SetRaw_spec {p0 : Option Addr} {p1 : Int} {p2 : Int} {H : Heap} {R : Value → Heap → Prop} (h : ∀ L, wp Try.prog (t_arena_Arena_SetRaw p0 p1 p2) L H R) : SpecF Try.prog f_arena_Arena_SetRaw #[(.pointer p0), (.int .i64 p1), (.int .i64 p2)] H R :=
  spec_of_tree (cfg := { quiet := [17, 18, 19, 21, 22, 48, 49, 51, 77], quietTmp := true, fncs := [], ifcs := [] }) Try.func75 fun L => (t_arena_Arena_SetRaw_eq p0 p1 p2).symm ▸ h L

/- (*magpie/arena.Arena).SwapRaw -/
noncomputable def t_arena_Arena_SwapRaw (p0 : Option Addr) (p1 : Int) (p2 : Int) (p3 : Int) : Tree :=
  .call f_arena_Arena_at [(.pointer p0), (.int .i64 p1)] (.one (.leaf .ptr)) fun x11 =>
  .call f_arena_swap [(.pointer x11), (.int .i64 p2), (.int .i64 p3)] (.one (.leaf .bool)) fun x14 =>
  .ret (.bool x14)
theorem t_arena_Arena_SwapRaw_eq (p0 : Option Addr) (p1 : Int) (p2 : Int) (p3 : Int) : funcTree Try.prog { quiet := [17, 18, 19, 21, 22, 48, 49, 51, 77], quietTmp := true, fncs := [], ifcs := [] } Try.f76 [(.pointer p0), (.int .i64 p1), (.int .i64 p2), (.int .i64 p3)] = t_arena_Arena_SwapRaw p0 p1 p2 p3 := by kernel_rfl
theorem t_arena_Arena_SwapRaw_spec {p0 : Option Addr} {p1 : Int} {p2 : Int} {p3 : Int} {H : Heap} {R : Value → Heap → Prop} (h : ∀ L, wp Try.prog (t_arena_Arena_SwapRaw p0 p1 p2 p3) L H R) : SpecF Try.prog f_arena_Arena_SwapRaw #[(.pointer p0), (.int .i64 p1), (.int .i64 p2), (.int .i64 p3)] H R :=
  spec_of_tree (cfg := { quiet := [17, 18, 19, 21, 22, 48, 49, 51, 77], quietTmp := true, fncs := [], ifcs := [] }) Try.func76 fun L => (t_arena_Arena_SwapRaw_eq p0 p1 p2 p3).symm ▸ h L

/- (*magpie/arena.Arena).Load -/
noncomputable def t_arena_Arena_Load (p0 : Option Addr) (p1 : Int) (p2 : Int) : Tree :=
  .call f_arena_Arena_in [(.pointer p0), (.int .i64 p1), (.int .i64 p2)] (.one (.leaf .ptr)) fun x10 =>
  .call f_arena_load [(.pointer x10)] (.one (.leaf (.int .i64))) fun x11 =>
  .ret (.int .i64 x11)
theorem t_arena_Arena_Load_eq (p0 : Option Addr) (p1 : Int) (p2 : Int) : funcTree Try.prog { quiet := [17, 18, 19, 21, 22, 48, 49, 51, 77], quietTmp := true, fncs := [], ifcs := [] } Try.f44 [(.pointer p0), (.int .i64 p1), (.int .i64 p2)] = t_arena_Arena_Load p0 p1 p2 := by kernel_rfl
theorem t_arena_Arena_Load_spec {p0 : Option Addr} {p1 : Int} {p2 : Int} {H : Heap} {R : Value → Heap → Prop} (h : ∀ L, wp Try.prog (t_arena_Arena_Load p0 p1 p2) L H R) : SpecF Try.prog f_arena_Arena_Load #[(.pointer p0), (.int .i64 p1), (.int .i64 p2)] H R :=
  spec_of_tree (cfg := { quiet := [17, 18, 19, 21, 22, 48, 49, 51, 77], quietTmp := true, fncs := [], ifcs := [] }) Try.func44 fun L => (t_arena_Arena_Load_eq p0 p1 p2).symm ▸ h L

/- (*magpie/arena.Arena).Store -/
noncomputable def t_arena_Arena_Store (p0 : Option Addr) (p1 : Int) (p2 : Int) (p3 : Int) : Tree :=
  .call f_arena_Arena_in [(.pointer p0), (.int .i64 p1), (.int .i64 p2)] (.one (.leaf .ptr)) fun x11 =>
  .call f_arena_store [(.pointer x11), (.int .i64 p3)] .unit fun _ =>
  .ret (.tuple #[])
theorem t_arena_Arena_Store_eq (p0 : Option Addr) (p1 : Int) (p2 : Int) (p3 : Int) : funcTree Try.prog { quiet := [17, 18, 19, 21, 22, 48, 49, 51, 77], quietTmp := true, fncs := [], ifcs := [] } Try.f45 [(.pointer p0), (.int .i64 p1), (.int .i64 p2), (.int .i64 p3)] = t_arena_Arena_Store p0 p1 p2 p3 := by kernel_rfl
theorem t_arena_Arena_Store_spec {p0 : Option Addr} {p1 : Int} {p2 : Int} {p3 : Int} {H : Heap} {R : Value → Heap → Prop} (h : ∀ L, wp Try.prog (t_arena_Arena_Store p0 p1 p2 p3) L H R) : SpecF Try.prog f_arena_Arena_Store #[(.pointer p0), (.int .i64 p1), (.int .i64 p2), (.int .i64 p3)] H R :=
  spec_of_tree (cfg := { quiet := [17, 18, 19, 21, 22, 48, 49, 51, 77], quietTmp := true, fncs := [], ifcs := [] }) Try.func45 fun L => (t_arena_Arena_Store_eq p0 p1 p2 p3).symm ▸ h L

/- (*magpie/arena.Arena).State -/
noncomputable def t_arena_Arena_State (p0 : Option Addr) (p1 : Int) : Tree :=
  .qcall f_handle_Open [(.int .i64 p1)] (.tup [(.leaf (.int .i64)), (.leaf (.int .i64)), (.leaf (.int .i64)), (.leaf .bool)]) fun x12 =>
  .look (opS Try.prog (.nilCheck (.tmp 0)) ty_unit [(.pointer p0)]) (.one (.leaf .addr)) fun x18 =>
  .ld (x18.add 3) .map fun x20 =>
  .look (opS Try.prog (.lookup ty_m_int_arena_slot (.tmp 0) (.tmp 1) false) ty_arena_slot [(.map x20), (.int .i64 x12.1)]) (.one (.agg [(.int .i64), (.int .i64)])) fun x22 =>
  .newP (.cells #[(.int .i64 0), (.int .i64 0)] ty_arena_slot) fun x9 =>
  .stA x9 [(.int .i64 x22.1), (.int .i64 x22.2.1)] <|
  bif x12.2.2.2.1 then (
    .ld x9 (.int .i64) fun x26 =>
    bif ((x26 : Int) == p1) then (
      .ld (x9.add 1) (.int .i64) fun x31 =>
      .ret (.int .i64 x31))
    else (
      .ret (.int .i64 0)))
  else (
    .ret (.int .i64 0))
theorem t_arena_Arena_State_eq (p0 : Option Addr) (p1 : Int) : funcTree Try.prog { quiet := [17, 18, 19, 21, 22, 48, 49, 51, 77], quietTmp := true, fncs := [], ifcs := [] } Try.f42 [(.pointer p0), (.int .i64 p1)] = t_arena_Arena_State p0 p1 := by kernel_rfl
theorem t_arena_Arena_State_spec {p0 : Option Addr} {p1 : Int} {H : Heap} {R : Value → Heap → Prop} (h : ∀ L, wp Try.prog (t_arena_Arena_State p0 p1) L H R) : SpecF Try.prog f_arena_Arena_State #[(.pointer p0), (.int .i64 p1)] H R :=
  spec_of_tree (cfg := { quiet := [17, 18, 19, 21, 22, 48, 49, 51, 77], quietTmp := true, fncs := [], ifcs := [] }) Try.func42 fun L => (t_arena_Arena_State_eq p0 p1).symm ▸ h L

/- (*magpie/arena.Arena).turn -/
noncomputable def t_arena_Arena_turn (p0 : Option Addr) (p1 : Int) (p2 : Int) (p3 : Int) : Tree :=
  .call f_arena_Arena_State [(.pointer p0), (.int .i64 p1)] (.one (.leaf (.int .i64))) fun x16 =>
  bif ((x16 : Int) != p2) then (
    .ret (.tuple #[(.int .i64 0), (.bool false)]))
  else (
    .qcall f_handle_Open [(.int .i64 p1)] (.tup [(.leaf (.int .i64)), (.leaf (.int .i64)), (.leaf (.int .i64)), (.leaf .bool)]) fun x21 =>
    .look (opS Try.prog (.nilCheck (.tmp 0)) ty_unit [(.pointer p0)]) (.one (.leaf .addr)) fun x27 =>
    .ld (x27.add 3) .map fun x29 =>
    .act (opS Try.prog (.mapUpdate ty_m_int_arena_slot (.tmp 0) (.tmp 1) (.tmp 2)) ty_unit [(.map x29), (.int .i64 x21.1), (.agg #[(.int .i64 p1), (.int .i64 p3)])]) .unit fun _ =>
    .qcall f_handle_Size [(.int .i64 x21.2.2.1)] (.one (.leaf (.int .i64))) fun x35 =>
    .ret (.tuple #[(.int .i64 x35), (.bool true)]))
theorem t_arena_Arena_turn_eq (p0 : Option Addr) (p1 : Int) (p2 : Int) (p3 : Int) : funcTree Try.prog { quiet := [17, 18, 19, 21, 22, 48, 49, 51, 77], quietTmp := true, fncs := [], ifcs := [] } Try.f54 [(.pointer p0), (.int .i64 p1), (.int .i64 p2), (.int .i64 p3)] = t_arena_Arena_turn p0 p1 p2 p3 := by kernel_rfl
theorem t_arena_Arena_turn_spec {p0 : Option Addr} {p1 : Int} {p2 : Int} {p3 : Int} {H : Heap} {R : Value → Heap → Prop} (h : ∀ L, wp Try.prog (t_arena_Arena_turn p0 p1 p2 p3) L H R) : SpecF Try.prog f_arena_Arena_turn #[(.pointer p0), (.int .i64 p1), (.int .i64 p2), (.int .i64 p3)] H R :=
  spec_of_tree (cfg := { quiet := [17, 18, 19, 21, 22, 48, 49, 51, 77], quietTmp := true, fncs := [], ifcs := [] }) Try.func54 fun L => (t_arena_Arena_turn_eq p0 p1 p2 p3).symm ▸ h L

/- (*magpie/arena.Arena).Retire -/
noncomputable def t_arena_Arena_Retire (p0 : Option Addr) (p1 : Int) : Tree :=
  .call f_arena_Arena_turn [(.pointer p0), (.int .i64 p1), (.int .i64 1), (.int .i64 2)] (.tup [(.leaf (.int .i64)), (.leaf .bool)]) fun x10 =>
  .look (opS Try.prog (.nilCheck (.tmp 0)) ty_unit [(.pointer p0)]) (.one (.leaf .addr)) fun x14 =>
  .ld ((x14.add 7).add 1) (.int .i64) fun x17 =>
  .look (opS Try.prog (.nilCheck (.tmp 0)) ty_unit [(.pointer p0)]) (.one (.leaf .addr)) fun x20 =>
  .st ((x20.add 7).add 1) (.int .i64 (w64 (x17 - x10.1))) <|
  .look (opS Try.prog (.nilCheck (.tmp 0)) ty_unit [(.pointer p0)]) (.one (.leaf .addr)) fun x24 =>
  .ld ((x24.add 7).add 2) (.int .i64) fun x27 =>
  .look (opS Try.prog (.nilCheck (.tmp 0)) ty_unit [(.pointer p0)]) (.one (.leaf .addr)) fun x30 =>
  .st ((x30.add 7).add 2) (.int .i64 (w64 (x27 + x10.1))) <|
  .ret (.bool x10.2.1)
theorem t_arena_Arena_Retire_eq (p0 : Option Addr) (p1 : Int) : funcTree Try.prog { quiet := [17, 18, 19, 21, 22, 48, 49, 51, 77], quietTmp := true, fncs := [], ifcs := [] } Try.f40 [(.pointer p0), (.int .i64 p1)] = t_arena_Arena_Retire p0 p1 := by kernel_rfl
theorem t_arena_Arena_Retire_spec {p0 : Option Addr} {p1 : Int} {H : Heap} {R : Value → Heap → Prop} (h : ∀ L, wp Try.prog (t_arena_Arena_Retire p0 p1) L H R) : SpecF Try.prog f_arena_Arena_Retire #[(.pointer p0), (.int .i64 p1)] H R :=
  spec_of_tree (cfg := { quiet := [17, 18, 19, 21, 22, 48, 49, 51, 77], quietTmp := true, fncs := [], ifcs := [] }) Try.func40 fun L => (t_arena_Arena_Retire_eq p0 p1).symm ▸ h L

/- (*magpie/arena.Arena).Died -/
@[reducible] def t_arena_Arena_Died_L1_sh : List Sh1 := [(.leaf (.int .i64))]
noncomputable def t_arena_Arena_Died_L1 (p0 : Option Addr) (x15 : HL Sh1.T [(.leaf (.int .i64)), (.leaf .bool)]) (x20 : HL Sh1.T [(.leaf (.int .i64)), (.leaf (.int .i64)), (.leaf (.int .i64)), (.leaf .bool)]) (y1 : HL Sh1.T t_arena_Arena_Died_L1_sh) : Tree :=
  bif (decide ((y1.1 : Int) < x15.1)) then (
    .look (opS Try.prog (.nilCheck (.tmp 0)) ty_unit [(.pointer p0)]) (.one (.leaf .addr)) fun x30 =>
    .ld (x30.add 4) .slice fun x32 =>
    .look (opS Try.prog (.indexAddr ty_s_bool (.tmp 0) (.tmp 1)) ty_unit [(.slice x32.a x32.len x32.cap), (.int .i64 (w64 (x20.1 + y1.1)))]) (.one (.leaf .addr)) fun x36 =>
    .st x36 (.bool false) <|
    .again 256 [(.int .i64 (w64 (y1.1 + 1)))])
  else (
    .look (opS Try.prog (.nilCheck (.tmp 0)) ty_unit [(.pointer p0)]) (.one (.leaf .addr)) fun x39 =>
    .ld ((x39.add 7).add 2) (.int .i64) fun x42 =>
    .look (opS Try.prog (.nilCheck (.tmp 0)) ty_unit [(.pointer p0)]) (.one (.leaf .addr)) fun x45 =>
    .st ((x45.add 7).add 2) (.int .i64 (w64 (x42 - x15.1))) <|
    .look (opS Try.prog (.nilCheck (.tmp 0)) ty_unit [(.pointer p0)]) (.one (.leaf .addr)) fun x49 =>
    .ld ((x49.add 7).add 3) (.int .i64) fun x52 =>
    .look (opS Try.prog (.nilCheck (.tmp 0)) ty_unit [(.pointer p0)]) (.one (.leaf .addr)) fun x55 =>
    .st ((x55.add 7).add 3) (.int .i64 (w64 (x52 + x15.1))) <|
    .ret (.bool x15.2.1))
noncomputable def t_arena_Arena_Died (p0 : Option Addr) (p1 : Int) : Tree :=
  .call f_arena_Arena_turn [(.pointer p0), (.int .i64 p1), (.int .i64 2), (.int .i64 0)] (.tup [(.leaf (.int .i64)), (.leaf .bool)]) fun x15 =>
  .qcall f_handle_Open [(.int .i64 p1)] (.tup [(.leaf (.int .i64)), (.leaf (.int .i64)), (.leaf (.int .i64)), (.leaf .bool)]) fun x20 =>
  .loop 256 t_arena_Arena_Died_L1_sh [(.int .i64 0)] (t_arena_Arena_Died_L1 p0 x15 x20)
theorem t_arena_Arena_Died_eq (p0 : Option Addr) (p1 : Int) : funcTree Try.prog { quiet := [17, 18, 19, 21, 22, 48, 49, 51, 77], quietTmp := true, fncs := [], ifcs := [] } Try.f41 [(.pointer p0), (.int .i64 p1)] = t_arena_Arena_Died p0 p1 := by kernel_rfl
theorem t_arena_Arena_Died_spec {p0 : Option Addr} {p1 : Int} {H : Heap} {R : Value → Heap → Prop} (h : ∀ L, wp Try.prog (t_arena_Arena_Died p0 p1) L H R) : SpecF Try.prog f_arena_Arena_Died #[(.pointer p0), (.int .i64 p1)] H R :=
  spec_of_tree (cfg := { quiet := [17, 18, 19, 21, 22, 48, 49, 51, 77], quietTmp := true, fncs := [], ifcs := [] }) Try.func41 fun L => (t_arena_Arena_Died_eq p0 p1).symm ▸ h L

/- (*magpie/arena.Arena).Uses -/
noncomputable def t_arena_Arena_Uses (p0 : Option Addr) : Tree :=
  .look (opS Try.prog (.nilCheck (.tmp 0)) ty_unit [(.pointer p0)]) (.one (.leaf .addr)) fun x4 =>
  .ld (x4.add 12) (.int .i64) fun x6 =>
  .ret (.int .i64 x6)
theorem t_arena_Arena_Uses_eq (p0 : Option Addr) : funcTree Try.prog { quiet := [17, 18, 19, 21, 22, 48, 49, 51, 77], quietTmp := true, fncs := [], ifcs := [] } Try.f28 [(.pointer p0)] = t_arena_Arena_Uses p0 := by kernel_rfl
theorem t_arena_Arena_Uses_spec {p0 : Option Addr} {H : Heap} {R : Value → Heap → Prop} (h : ∀ L, wp Try.prog (t_arena_Arena_Uses p0) L H R) : SpecF Try.prog f_arena_Arena_Uses #[(.pointer p0)] H R :=
  spec_of_tree (cfg := { quiet := [17, 18, 19, 21, 22, 48, 49, 51, 77], quietTmp := true, fncs := [], ifcs := [] }) Try.func28 fun L => (t_arena_Arena_Uses_eq p0).symm ▸ h L

/- (*magpie/arena.Arena).Fault -/
noncomputable def t_arena_Arena_Fault (p0 : Option Addr) : Tree :=
  .look (opS Try.prog (.nilCheck (.tmp 0)) ty_unit [(.pointer p0)]) (.one (.leaf .addr)) fun x4 =>
  .ld (x4.add 11) .bool fun x6 =>
  .ret (.bool x6)
theorem t_arena_Arena_Fault_eq (p0 : Option Addr) : funcTree Try.prog { quiet := [17, 18, 19, 21, 22, 48, 49, 51, 77], quietTmp := true, fncs := [], ifcs := [] } Try.f29 [(.pointer p0)] = t_arena_Arena_Fault p0 := by kernel_rfl
theorem t_arena_Arena_Fault_spec {p0 : Option Addr} {H : Heap} {R : Value → Heap → Prop} (h : ∀ L, wp Try.prog (t_arena_Arena_Fault p0) L H R) : SpecF Try.prog f_arena_Arena_Fault #[(.pointer p0)] H R :=
  spec_of_tree (cfg := { quiet := [17, 18, 19, 21, 22, 48, 49, 51, 77], quietTmp := true, fncs := [], ifcs := [] }) Try.func29 fun L => (t_arena_Arena_Fault_eq p0).symm ▸ h L

/- (*magpie/arena.Arena).Count -/
noncomputable def t_arena_Arena_Count (p0 : Option Addr) : Tree :=
  .newP (.cells #[(.int .i64 0), (.int .i64 0), (.int .i64 0), (.int .i64 0)] ty_api_Count) fun x2 =>
  .look (opS Try.prog (.nilCheck (.tmp 0)) ty_unit [(.pointer p0)]) (.one (.leaf .addr)) fun x4 =>
  .ldA (x4.add 7) [(.int .i64), (.int .i64), (.int .i64), (.int .i64)] fun x6 =>
  .stA x2 [(.int .i64 x6.1), (.int .i64 x6.2.1), (.int .i64 x6.2.2.1), (.int .i64 x6.2.2.2.1)] <|
  .look (ldK x2 4 0 #[] fun r0 => .pure (.value (.agg r0))) (.one (.agg [(.int .i64), (.int .i64), (.int .i64), (.int .i64)])) fun r => .ret (Sh.toVal (.one (.agg [(.int .i64), (.int .i64), (.int .i64), (.int .i64)])) r)
theorem t_arena_Arena_Count_eq (p0 : Option Addr) : funcTree Try.prog { quiet := [17, 18, 19, 21, 22, 48, 49, 51, 77], quietTmp := true, fncs := [], ifcs := [] } Try.f47 [(.pointer p0)] = t_arena_Arena_Count p0 := by kernel_rfl
theorem t_arena_Arena_Count_spec {p0 : Option Addr} {H : Heap} {R : Value → Heap → Prop} (h : ∀ L, wp Try.prog (t_arena_Arena_Count p0) L H R) : SpecF Try.prog f_arena_Arena_Count #[(.pointer p0)] H R :=
  spec_of_tree (cfg := { quiet := [17, 18, 19, 21, 22, 48, 49, 51, 77], quietTmp := true, fncs := [], ifcs := [] }) Try.func47 fun L => (t_arena_Arena_Count_eq p0).symm ▸ h L

/- (*magpie/arena.Arena).Born -/
@[reducible] def t_arena_Arena_Born_L2_sh : List Sh1 := [(.leaf (.int .i64))]
noncomputable def t_arena_Arena_Born_L2 (p0 : Option Addr) (p1 : Int) (x14 : HL Sh1.T [(.leaf (.int .i64)), (.leaf (.int .i64)), (.leaf (.int .i64)), (.leaf .bool)]) (x45 : Sl) (y2 : HL Sh1.T t_arena_Arena_Born_L2_sh) : Tree :=
  bif (decide ((y2.1 : Int) < ((x45.len : Nat) : Int))) then (
    .look (opS Try.prog (.nilCheck (.tmp 0)) ty_unit [(.pointer p0)]) (.one (.leaf .addr)) fun x67 =>
    .ld (x67.add 5) .slice fun x69 =>
    .look (opS Try.prog (.indexAddr ty_s_bool (.tmp 0) (.tmp 1)) ty_unit [(.slice x69.a x69.len x69.cap), (.int .i64 (w64 (x14.1 + y2.1)))]) (.one (.leaf .addr)) fun x73 =>
    .ld x73 .bool fun x74 =>
    bif (!x74) then (
      .look (opS Try.prog (.nilCheck (.tmp 0)) ty_unit [(.pointer p0)]) (.one (.leaf .addr)) fun x77 =>
      .ld (x77.add 7) (.int .i64) fun x80 =>
      .look (opS Try.prog (.nilCheck (.tmp 0)) ty_unit [(.pointer p0)]) (.one (.leaf .addr)) fun x82 =>
      .st (x82.add 7) (.int .i64 (w64 (x80 + 1))) <|
      .look (opS Try.prog (.nilCheck (.tmp 0)) ty_unit [(.pointer p0)]) (.one (.leaf .addr)) fun x86 =>
      .ld ((x86.add 7).add 3) (.int .i64) fun x89 =>
      .look (opS Try.prog (.nilCheck (.tmp 0)) ty_unit [(.pointer p0)]) (.one (.leaf .addr)) fun x91 =>
      .st ((x91.add 7).add 3) (.int .i64 (w64 (x89 + 1))) <|
      .look (opS Try.prog (.nilCheck (.tmp 0)) ty_unit [(.pointer p0)]) (.one (.leaf .addr)) fun x95 =>
      .ld (x95.add 4) .slice fun x97 =>
      .look (opS Try.prog (.nilCheck (.tmp 0)) ty_unit [(.pointer p0)]) (.one (.leaf .addr)) fun x102 =>
      .ld (x102.add 5) .slice fun x104 =>
      .look (opS Try.prog (.indexAddr ty_s_bool (.tmp 0) (.tmp 1)) ty_unit [(.slice x97.a x97.len x97.cap), (.int .i64 (w64 (x14.1 + y2.1)))]) (.one (.leaf .addr)) fun x108 =>
      .st x108 (.bool true) <|
      .look (opS Try.prog (.indexAddr ty_s_bool (.tmp 0) (.tmp 1)) ty_unit [(.slice x104.a x104.len x104.cap), (.int .i64 (w64 (x14.1 + y2.1)))]) (.one (.leaf .addr)) fun x109 =>
      .st x109 (.bool true) <|
      .look (opS Try.prog (.nilCheck (.tmp 0)) ty_unit [(.pointer p0)]) (.one (.leaf .addr)) fun x111 =>
      .ld (x111.add 2) .bool fun x113 =>
      bif x113 then (
        .look (opS Try.prog (.indexAddr ty_s_int (.tmp 0) (.tmp 1)) ty_unit [(.slice x45.a x45.len x45.cap), (.int .i64 y2.1)]) (.one (.leaf .addr)) fun x116 =>
        .st x116 (.int .i64 0) <|
        .again 768 [(.int .i64 (w64 (y2.1 + 1)))])
      else (
        .again 768 [(.int .i64 (w64 (y2.1 + 1)))]))
    else (
      .look (opS Try.prog (.nilCheck (.tmp 0)) ty_unit [(.pointer p0)]) (.one (.leaf .addr)) fun x95 =>
      .ld (x95.add 4) .slice fun x97 =>
      .look (opS Try.prog (.nilCheck (.tmp 0)) ty_unit [(.pointer p0)]) (.one (.leaf .addr)) fun x102 =>
      .ld (x102.add 5) .slice fun x104 =>
      .look (opS Try.prog (.indexAddr ty_s_bool (.tmp 0) (.tmp 1)) ty_unit [(.slice x97.a x97.len x97.cap), (.int .i64 (w64 (x14.1 + y2.1)))]) (.one (.leaf .addr)) fun x108 =>
      .st x108 (.bool true) <|
      .look (opS Try.prog (.indexAddr ty_s_bool (.tmp 0) (.tmp 1)) ty_unit [(.slice x104.a x104.len x104.cap), (.int .i64 (w64 (x14.1 + y2.1)))]) (.one (.leaf .addr)) fun x109 =>
      .st x109 (.bool true) <|
      .look (opS Try.prog (.nilCheck (.tmp 0)) ty_unit [(.pointer p0)]) (.one (.leaf .addr)) fun x111 =>
      .ld (x111.add 2) .bool fun x113 =>
      bif x113 then (
        .look (opS Try.prog (.indexAddr ty_s_int (.tmp 0) (.tmp 1)) ty_unit [(.slice x45.a x45.len x45.cap), (.int .i64 y2.1)]) (.one (.leaf .addr)) fun x116 =>
        .st x116 (.int .i64 0) <|
        .again 768 [(.int .i64 (w64 (y2.1 + 1)))])
      else (
        .again 768 [(.int .i64 (w64 (y2.1 + 1)))])))
  else (
    .look (opS Try.prog (.nilCheck (.tmp 0)) ty_unit [(.pointer p0)]) (.one (.leaf .addr)) fun x119 =>
    .ld (x119.add 3) .map fun x121 =>
    .look (opS Try.prog (.nilCheck (.tmp 0)) ty_unit [(.pointer p0)]) (.one (.leaf .addr)) fun x124 =>
    .ld (x124.add 6) .map fun x126 =>
    .act (opS Try.prog (.mapEntry ty_m_int_arena_slot (.tmp 0) (.tmp 1)) ty_unit [(.map x121), (.int .i64 x14.1)]) (.tup [(.agg [(.int .i64), (.int .i64)]), (.leaf (.int .i64))]) fun x131 =>
    .act (opS Try.prog (.entryStore ty_m_int_arena_slot (.tmp 0) (.tmp 1) (.tmp 2)) ty_unit [(.map x121), (.int .i64 x131.2.1), (.agg #[(.int .i64 p1), (.int .i64 1)])]) .unit fun _ =>
    .act (opS Try.prog (.mapEntry ty_m_int_int (.tmp 0) (.tmp 1)) ty_unit [(.map x126), (.int .i64 x14.1)]) (.tup [(.leaf (.int .i64)), (.leaf (.int .i64))]) fun x133 =>
    .act (opS Try.prog (.entryStore ty_m_int_int (.tmp 0) (.tmp 1) (.tmp 2)) ty_unit [(.map x126), (.int .i64 x133.2.1), (.int .i64 x14.2.1)]) .unit fun _ =>
    .look (opS Try.prog (.nilCheck (.tmp 0)) ty_unit [(.pointer p0)]) (.one (.leaf .addr)) fun x136 =>
    .ld ((x136.add 7).add 1) (.int .i64) fun x139 =>
    .look (opS Try.prog (.nilCheck (.tmp 0)) ty_unit [(.pointer p0)]) (.one (.leaf .addr)) fun x143 =>
    .st ((x143.add 7).add 1) (.int .i64 (w64 (x139 + ((x45.len : Nat) : Int)))) <|
    .look (opS Try.prog (.nilCheck (.tmp 0)) ty_unit [(.pointer p0)]) (.one (.leaf .addr)) fun x147 =>
    .ld ((x147.add 7).add 3) (.int .i64) fun x150 =>
    .look (opS Try.prog (.nilCheck (.tmp 0)) ty_unit [(.pointer p0)]) (.one (.leaf .addr)) fun x154 =>
    .st ((x154.add 7).add 3) (.int .i64 (w64 (x150 - ((x45.len : Nat) : Int)))) <|
    .ret (.bool true))

@[reducible] def t_arena_Arena_Born_L1_sh : List Sh1 := [(.leaf .bool), (.leaf (.int .i64))]
noncomputable def t_arena_Arena_Born_L1 (p0 : Option Addr) (p1 : Int) (x14 : HL Sh1.T [(.leaf (.int .i64)), (.leaf (.int .i64)), (.leaf (.int .i64)), (.leaf .bool)]) (x45 : Sl) (y1 : HL Sh1.T t_arena_Arena_Born_L1_sh) : Tree :=
  bif (decide ((y1.2.1 : Int) < ((x45.len : Nat) : Int))) then (
    .look (opS Try.prog (.nilCheck (.tmp 0)) ty_unit [(.pointer p0)]) (.one (.leaf .addr)) fun x52 =>
    .ld (x52.add 4) .slice fun x54 =>
    .look (opS Try.prog (.indexAddr ty_s_bool (.tmp 0) (.tmp 1)) ty_unit [(.slice x54.a x54.len x54.cap), (.int .i64 (w64 (x14.1 + y1.2.1)))]) (.one (.leaf .addr)) fun x58 =>
    .ld x58 .bool fun x59 =>
    bif x59 then (
      .ret (.bool false))
    else (
      .again 384 [(.bool y1.1), (.int .i64 (w64 (y1.2.1 + 1)))]))
  else (
    .loop 768 t_arena_Arena_Born_L2_sh [(.int .i64 0)] (t_arena_Arena_Born_L2 p0 p1 x14 x45))
noncomputable def t_arena_Arena_Born (p0 : Option Addr) (p1 : Int) : Tree :=
  .qcall f_handle_Open [(.int .i64 p1)] (.tup [(.leaf (.int .i64)), (.leaf (.int .i64)), (.leaf (.int .i64)), (.leaf .bool)]) fun x14 =>
  bif (!x14.2.2.2.1) then (
    .ret (.bool false))
  else (
    .look (opS Try.prog (.nilCheck (.tmp 0)) ty_unit [(.pointer p0)]) (.one (.leaf .addr)) fun x24 =>
    .ld (x24.add 1) .slice fun x26 =>
    .qcall f_handle_Size [(.int .i64 x14.2.2.1)] (.one (.leaf (.int .i64))) fun x29 =>
    bif (decide ((x14.1 : Int) > (w64 (((x26.len : Nat) : Int) - x29)))) then (
      .ret (.bool false))
    else (
      .look (opS Try.prog (.nilCheck (.tmp 0)) ty_unit [(.pointer p0)]) (.one (.leaf .addr)) fun x36 =>
      .ld (x36.add 6) .map fun x38 =>
      .look (opS Try.prog (.lookup ty_m_int_int (.tmp 0) (.tmp 1) false) ty_int [(.map x38), (.int .i64 x14.1)]) (.one (.leaf (.int .i64))) fun x40 =>
      bif (decide ((x14.2.1 : Int) ≤ x40)) then (
        .ret (.bool false))
      else (
        .call f_arena_Arena_body [(.pointer p0), (.int .i64 p1)] (.one (.leaf .slice)) fun x45 =>
        .loop 384 t_arena_Arena_Born_L1_sh [(.bool false), (.int .i64 0)] (t_arena_Arena_Born_L1 p0 p1 x14 x45))))
theorem t_arena_Arena_Born_eq (p0 : Option Addr) (p1 : Int) : funcTree Try.prog { quiet := [17, 18, 19, 21, 22, 48, 49, 51, 77], quietTmp := true, fncs := [], ifcs := [] } Try.f43 [(.pointer p0), (.int .i64 p1)] = t_arena_Arena_Born p0 p1 := by kernel_rfl
theorem t_arena_Arena_Born_spec {p0 : Option Addr} {p1 : Int} {H : Heap} {R : Value → Heap → Prop} (h : ∀ L, wp Try.prog (t_arena_Arena_Born p0 p1) L H R) : SpecF Try.prog f_arena_Arena_Born #[(.pointer p0), (.int .i64 p1)] H R :=
  spec_of_tree (cfg := { quiet := [17, 18, 19, 21, 22, 48, 49, 51, 77], quietTmp := true, fncs := [], ifcs := [] }) Try.func43 fun L => (t_arena_Arena_Born_eq p0 p1).symm ▸ h L

/- magpie/magpielaw09.awake -/
noncomputable def t_magpielaw09_awake : Tree :=
  .call f_arena_New [(.int .i64 4), (.int .i64 64), (.bool false)] (.one (.leaf .ptr)) fun x3 =>
  .qcall f_handle_Pack [(.int .i64 8), (.int .i64 1), (.int .i64 0)] (.one (.leaf (.int .i64))) fun x4 =>
  .look (opS Try.prog (.binOp .eql ty_p_arena_Arena (.tmp 0) (.const (.pointer none)) ty_p_arena_Arena) ty_bool [(.pointer x3)]) (.one (.leaf .bool)) fun x6 =>
  bif x6 then (
    .ret (.bool false))
  else (
    .call f_arena_Arena_Born [(.pointer x3), (.int .i64 x4)] (.one (.leaf .bool)) fun x10 =>
    bif (!x10) then (
      .ret (.bool false))
    else (
      .call f_arena_Arena_Born [(.pointer x3), (.int .i64 x4)] (.one (.leaf .bool)) fun x16 =>
      bif x16 then (
        .ret (.bool false))
      else (
        .call f_arena_Arena_Store [(.pointer x3), (.int .i64 x4), (.int .i64 3), (.int .i64 77)] .unit fun _ =>
        .call f_arena_Arena_Load [(.pointer x3), (.int .i64 x4), (.int .i64 3)] (.one (.leaf (.int .i64))) fun x23 =>
        bif ((x23 : Int) != 77) then (
          .ret (.bool false))
        else (
          .call f_arena_Arena_Fault [(.pointer x3)] (.one (.leaf .bool)) fun x27 =>
          bif x27 then (
            .ret (.bool false))
          else (
            .call f_arena_Arena_Retire [(.pointer x3), (.int .i64 x4)] (.one (.leaf .bool)) fun x32 =>
            bif (!x32) then (
              .ret (.bool false))
            else (
              .call f_arena_Arena_Died [(.pointer x3), (.int .i64 x4)] (.one (.leaf .bool)) fun x38 =>
              bif (!x38) then (
                .ret (.bool false))
              else (
                .call f_arena_Arena_Load [(.pointer x3), (.int .i64 x4), (.int .i64 3)] (.one (.leaf (.int .i64))) fun x43 =>
                bif ((x43 : Int) == 0) then (
                  .call f_arena_Arena_Fault [(.pointer x3)] (.one (.leaf .bool)) fun x47 =>
                  bif x47 then (
                    .call f_arena_Arena_Uses [(.pointer x3)] (.one (.leaf (.int .i64))) fun x51 =>
                    .ret (.bool ((x51 : Int) == 3)))
                  else (
                    .ret (.bool false)))
                else (
                  .ret (.bool false)))))))))
theorem t_magpielaw09_awake_eq : funcTree Try.prog { quiet := [17, 18, 19, 21, 22, 48, 49, 51, 77], quietTmp := true, fncs := [], ifcs := [] } Try.f46 [] = t_magpielaw09_awake  := by kernel_rfl
theorem t_magpielaw09_awake_spec {H : Heap} {R : Value → Heap → Prop} (h : ∀ L, wp Try.prog (t_magpielaw09_awake ) L H R) : SpecF Try.prog f_magpielaw09_awake #[] H R :=
  spec_of_tree (cfg := { quiet := [17, 18, 19, 21, 22, 48, 49, 51, 77], quietTmp := true, fncs := [], ifcs := [] }) Try.func46 fun L => (t_magpielaw09_awake_eq ).symm ▸ h L

end Go.Proofs.Ytgnifhkjpekkdaa
