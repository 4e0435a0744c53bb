import Derived.Test.YtgnifhkjpekkdaaSaNames
set_option linter.unusedVariables false
set_option maxRecDepth 10000
namespace Go.Proofs.Ytgnifhkjpekkdaa
open Go Go.Fw
/- magpie/free.next -/
noncomputable def t_free_next (p0 : Int) (p1 : Int) : Tree :=
  .ret (.int .i64 (ior (w64 ((w64 ((Int.fdiv p0 (2 ^ 17)) + 1)) * 2 ^ 17)) p1))
theorem t_free_next_eq (p0 : Int) (p1 : Int) : funcTree Try.prog { quiet := [17, 18, 19, 21, 22, 48, 49, 51, 77], quietTmp := true, fncs := [], ifcs := [] } Try.f77 [(.int .i64 p0), (.int .i64 p1)] = t_free_next p0 p1 := by kernel_rfl
theorem t_free_next_spec {p0 : Int} {p1 : Int} {H : Heap} {R : Value → Heap → Prop} (h : ∀ L, wp Try.prog (t_free_next p0 p1) L H R) : SpecF Try.prog f_free_next #[(.int .i64 p0), (.int .i64 p1)] H R :=
  spec_of_tree (cfg := { quiet := [17, 18, 19, 21, 22, 48, 49, 51, 77], quietTmp := true, fncs := [], ifcs := [] }) Try.func77 fun L => (t_free_next_eq p0 p1).symm ▸ h L

/- (magpie/free.Place).head -/
noncomputable def t_free_Place_head (p0_0 : Int) (p0_1 : Int) (p0_2 : Int) (p0_3 : Int) (p0_4 : Int) (p1 : Int) (p2 : Int) : Tree :=
  .newP (.cells #[(.int .i64 p0_0), (.int .i64 p0_1), (.int .i64 p0_2), (.int .i64 p0_3), (.int .i64 p0_4)] ty_free_Place) fun x3 =>
  .ld (x3.add 1) (.int .i64) fun x8 =>
  .ret (.int .i64 (w64 ((w64 (x8 + (w64 (4 * p1)))) + p2)))
theorem t_free_Place_head_eq (p0_0 : Int) (p0_1 : Int) (p0_2 : Int) (p0_3 : Int) (p0_4 : Int) (p1 : Int) (p2 : Int) : funcTree Try.prog { quiet := [17, 18, 19, 21, 22, 48, 49, 51, 77], quietTmp := true, fncs := [], ifcs := [] } Try.f51 [(.agg #[(.int .i64 p0_0), (.int .i64 p0_1), (.int .i64 p0_2), (.int .i64 p0_3), (.int .i64 p0_4)]), (.int .i64 p1), (.int .i64 p2)] = t_free_Place_head p0_0 p0_1 p0_2 p0_3 p0_4 p1 p2 := by kernel_rfl
theorem t_free_Place_head_spec {p0_0 : Int} {p0_1 : Int} {p0_2 : Int} {p0_3 : Int} {p0_4 : Int} {p1 : Int} {p2 : Int} {H : Heap} {R : Value → Heap → Prop} (h : ∀ L, wp Try.prog (t_free_Place_head p0_0 p0_1 p0_2 p0_3 p0_4 p1 p2) L H R) : SpecF Try.prog f_free_Place_head #[(.agg #[(.int .i64 p0_0), (.int .i64 p0_1), (.int .i64 p0_2), (.int .i64 p0_3), (.int .i64 p0_4)]), (.int .i64 p1), (.int .i64 p2)] H R :=
  spec_of_tree (cfg := { quiet := [17, 18, 19, 21, 22, 48, 49, 51, 77], quietTmp := true, fncs := [], ifcs := [] }) Try.func51 fun L => (t_free_Place_head_eq p0_0 p0_1 p0_2 p0_3 p0_4 p1 p2).symm ▸ h L

/- magpie/free.Raw -/
noncomputable def t_free_Raw (p0 : Int) (p1 : Int) : Tree :=
  .newP (.cells #[(.int .i64 0), (.int .i64 0), (.int .i64 0), (.int .i64 0), (.int .i64 0)] ty_free_Place) fun x4 =>
  .newP (.cells #[(.int .i64 0), (.int .i64 0), (.int .i64 0), (.int .i64 0), (.int .i64 0)] ty_free_Place) fun x7 =>
  .stA x7 [(.int .i64 (imax p0 0)), (.int .i64 0), (.int .i64 (w64 (4 * (imax p0 0)))), (.int .i64 0), (.int .i64 0)] <|
  .ld (x7.add 2) (.int .i64) fun x23 =>
  .st (x7.add 3) (.int .i64 (w64 (x23 + (w64 ((w64 (Int.tdiv (imax p1 0) 8)) + (imin (Int.tmod (imax p1 0) 8) 1)))))) <|
  .ld (x7.add 3) (.int .i64) fun x28 =>
  .st (x7.add 4) (.int .i64 (w64 (x28 + (w64 ((w64 (Int.tdiv (imax p1 0) 8)) + (imin (Int.tmod (imax p1 0) 8) 1)))))) <|
  .ldA x7 [(.int .i64), (.int .i64), (.int .i64), (.int .i64), (.int .i64)] fun x32 =>
  .ld (x7.add 4) (.int .i64) fun x34 =>
  .stA x4 [(.int .i64 x32.1), (.int .i64 x32.2.1), (.int .i64 x32.2.2.1), (.int .i64 x32.2.2.2.1), (.int .i64 x32.2.2.2.2.1)] <|
  .check (ldS (x7.add 4)) (.int .i64 x34) <|
  .look (ldK x4 5 0 #[] fun r0 => .pure (.value (.tuple #[(.agg r0), (.int .i64 (w64 (x34 + 1)))]))) (.tup [(.agg [(.int .i64), (.int .i64), (.int .i64), (.int .i64), (.int .i64)]), (.leaf (.int .i64))]) fun r => .ret (Sh.toVal (.tup [(.agg [(.int .i64), (.int .i64), (.int .i64), (.int .i64), (.int .i64)]), (.leaf (.int .i64))]) r)
theorem t_free_Raw_eq (p0 : Int) (p1 : Int) : funcTree Try.prog { quiet := [17, 18, 19, 21, 22, 48, 49, 51, 77], quietTmp := true, fncs := [], ifcs := [] } Try.f30 [(.int .i64 p0), (.int .i64 p1)] = t_free_Raw p0 p1 := by kernel_rfl
theorem t_free_Raw_spec {p0 : Int} {p1 : Int} {H : Heap} {R : Value → Heap → Prop} (h : ∀ L, wp Try.prog (t_free_Raw p0 p1) L H R) : SpecF Try.prog f_free_Raw #[(.int .i64 p0), (.int .i64 p1)] H R :=
  spec_of_tree (cfg := { quiet := [17, 18, 19, 21, 22, 48, 49, 51, 77], quietTmp := true, fncs := [], ifcs := [] }) Try.func30 fun L => (t_free_Raw_eq p0 p1).symm ▸ h L

/- magpie/free.NewPush -/
noncomputable def t_free_NewPush (p0_0 : Int) (p0_1 : Int) (p0_2 : Int) (p0_3 : Int) (p0_4 : Int) (p1 : Int) (p2 : Int) (p3 : Int) : Tree :=
  .newP (.cells #[(.int .i64 p0_0), (.int .i64 p0_1), (.int .i64 p0_2), (.int .i64 p0_3), (.int .i64 p0_4)] ty_free_Place) fun x4 =>
  .ldA x4 [(.int .i64), (.int .i64), (.int .i64), (.int .i64), (.int .i64)] fun x9 =>
  .ldA x4 [(.int .i64), (.int .i64), (.int .i64), (.int .i64), (.int .i64)] fun x10 =>
  .qcall f_free_Place_head [(.agg #[(.int .i64 x10.1), (.int .i64 x10.2.1), (.int .i64 x10.2.2.1), (.int .i64 x10.2.2.2.1), (.int .i64 x10.2.2.2.2.1)]), (.int .i64 p1), (.int .i64 p2)] (.one (.leaf (.int .i64))) fun x13 =>
  .newP (.cells #[(.int .i64 x9.1), (.int .i64 x9.2.1), (.int .i64 x9.2.2.1), (.int .i64 x9.2.2.2.1), (.int .i64 x9.2.2.2.2.1), (.int .i64 x13), (.int .i64 0), (.int .i64 0), (.int .i64 p3)] ty_free_pusher) fun x17 =>
  .newP (.cells #[(.iface ty_p_free_pusher (.pointer (some x17)))] ty_free_Push) fun x20 =>
  .ret (.pointer (some x20))
theorem t_free_NewPush_eq (p0_0 : Int) (p0_1 : Int) (p0_2 : Int) (p0_3 : Int) (p0_4 : Int) (p1 : Int) (p2 : Int) (p3 : Int) : funcTree Try.prog { quiet := [17, 18, 19, 21, 22, 48, 49, 51, 77], quietTmp := true, fncs := [], ifcs := [] } Try.f32 [(.agg #[(.int .i64 p0_0), (.int .i64 p0_1), (.int .i64 p0_2), (.int .i64 p0_3), (.int .i64 p0_4)]), (.int .i64 p1), (.int .i64 p2), (.int .i64 p3)] = t_free_NewPush p0_0 p0_1 p0_2 p0_3 p0_4 p1 p2 p3 := by kernel_rfl
theorem t_free_NewPush_spec {p0_0 : Int} {p0_1 : Int} {p0_2 : Int} {p0_3 : Int} {p0_4 : Int} {p1 : Int} {p2 : Int} {p3 : Int} {H : Heap} {R : Value → Heap → Prop} (h : ∀ L, wp Try.prog (t_free_NewPush p0_0 p0_1 p0_2 p0_3 p0_4 p1 p2 p3) L H R) : SpecF Try.prog f_free_NewPush #[(.agg #[(.int .i64 p0_0), (.int .i64 p0_1), (.int .i64 p0_2), (.int .i64 p0_3), (.int .i64 p0_4)]), (.int .i64 p1), (.int .i64 p2), (.int .i64 p3)] H R :=
  spec_of_tree (cfg := { quiet := [17, 18, 19, 21, 22, 48, 49, 51, 77], quietTmp := true, fncs := [], ifcs := [] }) Try.func32 fun L => (t_free_NewPush_eq p0_0 p0_1 p0_2 p0_3 p0_4 p1 p2 p3).symm ▸ h L

/- magpie/free.NewPop -/
noncomputable def t_free_NewPop (p0_0 : Int) (p0_1 : Int) (p0_2 : Int) (p0_3 : Int) (p0_4 : Int) (p1 : Int) (p2 : Int) : Tree :=
  .newP (.cells #[(.int .i64 p0_0), (.int .i64 p0_1), (.int .i64 p0_2), (.int .i64 p0_3), (.int .i64 p0_4)] ty_free_Place) fun x3 =>
  .ldA x3 [(.int .i64), (.int .i64), (.int .i64), (.int .i64), (.int .i64)] fun x8 =>
  .ldA x3 [(.int .i64), (.int .i64), (.int .i64), (.int .i64), (.int .i64)] fun x9 =>
  .qcall f_free_Place_head [(.agg #[(.int .i64 x9.1), (.int .i64 x9.2.1), (.int .i64 x9.2.2.1), (.int .i64 x9.2.2.2.1), (.int .i64 x9.2.2.2.2.1)]), (.int .i64 p1), (.int .i64 p2)] (.one (.leaf (.int .i64))) fun x12 =>
  .newP (.cells #[(.int .i64 x8.1), (.int .i64 x8.2.1), (.int .i64 x8.2.2.1), (.int .i64 x8.2.2.2.1), (.int .i64 x8.2.2.2.2.1), (.int .i64 x12), (.int .i64 0), (.int .i64 0), (.int .i64 0), (.int .i64 0), (.bool false)] ty_free_popper) fun x15 =>
  .newP (.cells #[(.iface ty_p_free_popper (.pointer (some x15))), (.pointer (some x15))] ty_free_Pop) fun x20 =>
  .ret (.pointer (some x20))
theorem t_free_NewPop_eq (p0_0 : Int) (p0_1 : Int) (p0_2 : Int) (p0_3 : Int) (p0_4 : Int) (p1 : Int) (p2 : Int) : funcTree Try.prog { quiet := [17, 18, 19, 21, 22, 48, 49, 51, 77], quietTmp := true, fncs := [], ifcs := [] } Try.f33 [(.agg #[(.int .i64 p0_0), (.int .i64 p0_1), (.int .i64 p0_2), (.int .i64 p0_3), (.int .i64 p0_4)]), (.int .i64 p1), (.int .i64 p2)] = t_free_NewPop p0_0 p0_1 p0_2 p0_3 p0_4 p1 p2 := by kernel_rfl
theorem t_free_NewPop_spec {p0_0 : Int} {p0_1 : Int} {p0_2 : Int} {p0_3 : Int} {p0_4 : Int} {p1 : Int} {p2 : Int} {H : Heap} {R : Value → Heap → Prop} (h : ∀ L, wp Try.prog (t_free_NewPop p0_0 p0_1 p0_2 p0_3 p0_4 p1 p2) L H R) : SpecF Try.prog f_free_NewPop #[(.agg #[(.int .i64 p0_0), (.int .i64 p0_1), (.int .i64 p0_2), (.int .i64 p0_3), (.int .i64 p0_4)]), (.int .i64 p1), (.int .i64 p2)] H R :=
  spec_of_tree (cfg := { quiet := [17, 18, 19, 21, 22, 48, 49, 51, 77], quietTmp := true, fncs := [], ifcs := [] }) Try.func33 fun L => (t_free_NewPop_eq p0_0 p0_1 p0_2 p0_3 p0_4 p1 p2).symm ▸ h L

/- (*magpie/free.Push).Step -/
noncomputable def t_free_Push_Step (p0 : Option Addr) (p1 : Option Addr) : Tree :=
  .look (opS Try.prog (.nilCheck (.tmp 0)) ty_unit [(.pointer p0)]) (.one (.leaf .addr)) fun x6 =>
  .ld x6 .val fun x8 =>
  .act (opS Try.prog (.call { callee := .invoke (.tmp 0) "Step", args := #[(.tmp 1)], argTypes := #[ty_p_arena_Arena] }) ty_bool [x8, (.pointer p1)]) (.one (.leaf .bool)) fun x10 =>
  .ret (.bool x10)
theorem t_free_Push_Step_eq (p0 : Option Addr) (p1 : Option Addr) : funcTree Try.prog { quiet := [17, 18, 19, 21, 22, 48, 49, 51, 77], quietTmp := true, fncs := [], ifcs := [] } Try.f37 [(.pointer p0), (.pointer p1)] = t_free_Push_Step p0 p1 := by kernel_rfl
theorem t_free_Push_Step_spec {p0 : Option Addr} {p1 : Option Addr} {H : Heap} {R : Value → Heap → Prop} (h : ∀ L, wp Try.prog (t_free_Push_Step p0 p1) L H R) : SpecF Try.prog f_free_Push_Step #[(.pointer p0), (.pointer p1)] H R :=
  spec_of_tree (cfg := { quiet := [17, 18, 19, 21, 22, 48, 49, 51, 77], quietTmp := true, fncs := [], ifcs := [] }) Try.func37 fun L => (t_free_Push_Step_eq p0 p1).symm ▸ h L

/- (*magpie/free.Pop).Step -/
noncomputable def t_free_Pop_Step (p0 : Option Addr) (p1 : Option Addr) : Tree :=
  .look (opS Try.prog (.nilCheck (.tmp 0)) ty_unit [(.pointer p0)]) (.one (.leaf .addr)) fun x6 =>
  .ld x6 .val fun x8 =>
  .act (opS Try.prog (.call { callee := .invoke (.tmp 0) "Step", args := #[(.tmp 1)], argTypes := #[ty_p_arena_Arena] }) ty_bool [x8, (.pointer p1)]) (.one (.leaf .bool)) fun x10 =>
  .ret (.bool x10)
theorem t_free_Pop_Step_eq (p0 : Option Addr) (p1 : Option Addr) : funcTree Try.prog { quiet := [17, 18, 19, 21, 22, 48, 49, 51, 77], quietTmp := true, fncs := [], ifcs := [] } Try.f38 [(.pointer p0), (.pointer p1)] = t_free_Pop_Step p0 p1 := by kernel_rfl
theorem t_free_Pop_Step_spec {p0 : Option Addr} {p1 : Option Addr} {H : Heap} {R : Value → Heap → Prop} (h : ∀ L, wp Try.prog (t_free_Pop_Step p0 p1) L H R) : SpecF Try.prog f_free_Pop_Step #[(.pointer p0), (.pointer p1)] H R :=
  spec_of_tree (cfg := { quiet := [17, 18, 19, 21, 22, 48, 49, 51, 77], quietTmp := true, fncs := [], ifcs := [] }) Try.func38 fun L => (t_free_Pop_Step_eq p0 p1).symm ▸ h L

/- (*magpie/free.pusher).Step -/
noncomputable def t_free_pusher_Step (p0 : Option Addr) (p1 : Option Addr) : Tree :=
  .look (opS Try.prog (.nilCheck (.tmp 0)) ty_unit [(.pointer p0)]) (.one (.leaf .addr)) fun x6 =>
  .ld (x6.add 7) (.int .i64) fun x9 =>
  bif ((x9 : Int) == 1) then (
    .look (opS Try.prog (.nilCheck (.tmp 0)) ty_unit [(.pointer p0)]) (.one (.leaf .addr)) fun x33 =>
    .ld (x33.add 2) (.int .i64) fun x37 =>
    .look (opS Try.prog (.nilCheck (.tmp 0)) ty_unit [(.pointer p0)]) (.one (.leaf .addr)) fun x39 =>
    .ld (x39.add 8) (.int .i64) fun x41 =>
    .look (opS Try.prog (.nilCheck (.tmp 0)) ty_unit [(.pointer p0)]) (.one (.leaf .addr)) fun x45 =>
    .ld (x45.add 6) (.int .i64) fun x48 =>
    .call f_arena_Arena_SetRaw [(.pointer p1), (.int .i64 (w64 (x37 + (w64 (Int.tdiv x41 8))))), (.int .i64 (iand x48 131071))] .unit fun _ =>
    .look (opS Try.prog (.nilCheck (.tmp 0)) ty_unit [(.pointer p0)]) (.one (.leaf .addr)) fun x52 =>
    .st (x52.add 7) (.int .i64 2) <|
    .ret (.bool false))
  else (
    bif ((x9 : Int) == 2) then (
      .look (opS Try.prog (.nilCheck (.tmp 0)) ty_unit [(.pointer p0)]) (.one (.leaf .addr)) fun x56 =>
      .st (x56.add 7) (.int .i64 0) <|
      .look (opS Try.prog (.nilCheck (.tmp 0)) ty_unit [(.pointer p0)]) (.one (.leaf .addr)) fun x61 =>
      .ld (x61.add 5) (.int .i64) fun x64 =>
      .look (opS Try.prog (.nilCheck (.tmp 0)) ty_unit [(.pointer p0)]) (.one (.leaf .addr)) fun x66 =>
      .ld (x66.add 6) (.int .i64) fun x69 =>
      .look (opS Try.prog (.nilCheck (.tmp 0)) ty_unit [(.pointer p0)]) (.one (.leaf .addr)) fun x71 =>
      .ld (x71.add 6) (.int .i64) fun x74 =>
      .look (opS Try.prog (.nilCheck (.tmp 0)) ty_unit [(.pointer p0)]) (.one (.leaf .addr)) fun x76 =>
      .ld (x76.add 8) (.int .i64) fun x78 =>
      .qcall f_free_next [(.int .i64 x74), (.int .i64 (w64 ((w64 (Int.tdiv x78 8)) + 1)))] (.one (.leaf (.int .i64))) fun x81 =>
      .call f_arena_Arena_SwapRaw [(.pointer p1), (.int .i64 x64), (.int .i64 x69), (.int .i64 x81)] (.one (.leaf .bool)) fun x82 =>
      bif x82 then (
        .look (opS Try.prog (.nilCheck (.tmp 0)) ty_unit [(.pointer p0)]) (.one (.leaf .addr)) fun x84 =>
        .st (x84.add 7) (.int .i64 3) <|
        .look (opS Try.prog (.nilCheck (.tmp 0)) ty_unit [(.pointer p0)]) (.one (.leaf .addr)) fun x88 =>
        .ld (x88.add 7) (.int .i64) fun x91 =>
        .ret (.bool ((x91 : Int) == 3)))
      else (
        .look (opS Try.prog (.nilCheck (.tmp 0)) ty_unit [(.pointer p0)]) (.one (.leaf .addr)) fun x88 =>
        .ld (x88.add 7) (.int .i64) fun x91 =>
        .ret (.bool ((x91 : Int) == 3))))
    else (
      bif ((x9 : Int) == 3) then (
        .ret (.bool true))
      else (
        .look (opS Try.prog (.nilCheck (.tmp 0)) ty_unit [(.pointer p0)]) (.one (.leaf .addr)) fun x19 =>
        .ld (x19.add 5) (.int .i64) fun x22 =>
        .call f_arena_Arena_Raw [(.pointer p1), (.int .i64 x22)] (.one (.leaf (.int .i64))) fun x23 =>
        .look (opS Try.prog (.nilCheck (.tmp 0)) ty_unit [(.pointer p0)]) (.one (.leaf .addr)) fun x24 =>
        .st (x24.add 6) (.int .i64 x23) <|
        .look (opS Try.prog (.nilCheck (.tmp 0)) ty_unit [(.pointer p0)]) (.one (.leaf .addr)) fun x28 =>
        .st (x28.add 7) (.int .i64 1) <|
        .ret (.bool false))))
theorem t_free_pusher_Step_eq (p0 : Option Addr) (p1 : Option Addr) : funcTree Try.prog { quiet := [17, 18, 19, 21, 22, 48, 49, 51, 77], quietTmp := true, fncs := [], ifcs := [] } Try.f74 [(.pointer p0), (.pointer p1)] = t_free_pusher_Step p0 p1 := by kernel_rfl
theorem t_free_pusher_Step_spec {p0 : Option Addr} {p1 : Option Addr} {H : Heap} {R : Value → Heap → Prop} (h : ∀ L, wp Try.prog (t_free_pusher_Step p0 p1) L H R) : SpecF Try.prog f_free_pusher_Step #[(.pointer p0), (.pointer p1)] H R :=
  spec_of_tree (cfg := { quiet := [17, 18, 19, 21, 22, 48, 49, 51, 77], quietTmp := true, fncs := [], ifcs := [] }) Try.func74 fun L => (t_free_pusher_Step_eq p0 p1).symm ▸ h L

/- (*magpie/free.popper).Step -/
noncomputable def t_free_popper_Step (p0 : Option Addr) (p1 : Option Addr) : Tree :=
  .look (opS Try.prog (.nilCheck (.tmp 0)) ty_unit [(.pointer p0)]) (.one (.leaf .addr)) fun x6 =>
  .ld (x6.add 7) (.int .i64) fun x9 =>
  bif ((x9 : Int) == 1) then (
    .look (opS Try.prog (.nilCheck (.tmp 0)) ty_unit [(.pointer p0)]) (.one (.leaf .addr)) fun x51 =>
    .ld (x51.add 2) (.int .i64) fun x55 =>
    .look (opS Try.prog (.nilCheck (.tmp 0)) ty_unit [(.pointer p0)]) (.one (.leaf .addr)) fun x57 =>
    .ld (x57.add 6) (.int .i64) fun x60 =>
    .call f_arena_Arena_Raw [(.pointer p1), (.int .i64 (w64 ((w64 (x55 + (iand x60 131071))) - 1)))] (.one (.leaf (.int .i64))) fun x64 =>
    .look (opS Try.prog (.nilCheck (.tmp 0)) ty_unit [(.pointer p0)]) (.one (.leaf .addr)) fun x65 =>
    .st (x65.add 8) (.int .i64 x64) <|
    .look (opS Try.prog (.nilCheck (.tmp 0)) ty_unit [(.pointer p0)]) (.one (.leaf .addr)) fun x68 =>
    .st (x68.add 7) (.int .i64 2) <|
    .ret (.bool false))
  else (
    bif ((x9 : Int) == 2) then (
      .look (opS Try.prog (.nilCheck (.tmp 0)) ty_unit [(.pointer p0)]) (.one (.leaf .addr)) fun x72 =>
      .st (x72.add 7) (.int .i64 0) <|
      .look (opS Try.prog (.nilCheck (.tmp 0)) ty_unit [(.pointer p0)]) (.one (.leaf .addr)) fun x77 =>
      .ld (x77.add 5) (.int .i64) fun x80 =>
      .look (opS Try.prog (.nilCheck (.tmp 0)) ty_unit [(.pointer p0)]) (.one (.leaf .addr)) fun x82 =>
      .ld (x82.add 6) (.int .i64) fun x85 =>
      .look (opS Try.prog (.nilCheck (.tmp 0)) ty_unit [(.pointer p0)]) (.one (.leaf .addr)) fun x87 =>
      .ld (x87.add 6) (.int .i64) fun x90 =>
      .look (opS Try.prog (.nilCheck (.tmp 0)) ty_unit [(.pointer p0)]) (.one (.leaf .addr)) fun x92 =>
      .ld (x92.add 8) (.int .i64) fun x94 =>
      .qcall f_free_next [(.int .i64 x90), (.int .i64 x94)] (.one (.leaf (.int .i64))) fun x95 =>
      .call f_arena_Arena_SwapRaw [(.pointer p1), (.int .i64 x80), (.int .i64 x85), (.int .i64 x95)] (.one (.leaf .bool)) fun x96 =>
      bif x96 then (
        .look (opS Try.prog (.nilCheck (.tmp 0)) ty_unit [(.pointer p0)]) (.one (.leaf .addr)) fun x101 =>
        .ld (x101.add 6) (.int .i64) fun x104 =>
        .look (opS Try.prog (.nilCheck (.tmp 0)) ty_unit [(.pointer p0)]) (.one (.leaf .addr)) fun x108 =>
        .st (x108.add 7) (.int .i64 3) <|
        .look (opS Try.prog (.nilCheck (.tmp 0)) ty_unit [(.pointer p0)]) (.one (.leaf .addr)) fun x111 =>
        .st (x111.add 9) (.int .i64 (w64 ((w64 ((iand x104 131071) - 1)) * 8))) <|
        .look (opS Try.prog (.nilCheck (.tmp 0)) ty_unit [(.pointer p0)]) (.one (.leaf .addr)) fun x113 =>
        .st (x113.add 10) (.bool true) <|
        .look (opS Try.prog (.nilCheck (.tmp 0)) ty_unit [(.pointer p0)]) (.one (.leaf .addr)) fun x116 =>
        .ld (x116.add 7) (.int .i64) fun x119 =>
        .ret (.bool ((x119 : Int) == 3)))
      else (
        .look (opS Try.prog (.nilCheck (.tmp 0)) ty_unit [(.pointer p0)]) (.one (.leaf .addr)) fun x116 =>
        .ld (x116.add 7) (.int .i64) fun x119 =>
        .ret (.bool ((x119 : Int) == 3))))
    else (
      bif ((x9 : Int) == 3) then (
        .ret (.bool true))
      else (
        .look (opS Try.prog (.nilCheck (.tmp 0)) ty_unit [(.pointer p0)]) (.one (.leaf .addr)) fun x19 =>
        .ld (x19.add 5) (.int .i64) fun x22 =>
        .call f_arena_Arena_Raw [(.pointer p1), (.int .i64 x22)] (.one (.leaf (.int .i64))) fun x23 =>
        .look (opS Try.prog (.nilCheck (.tmp 0)) ty_unit [(.pointer p0)]) (.one (.leaf .addr)) fun x24 =>
        .st (x24.add 6) (.int .i64 x23) <|
        .look (opS Try.prog (.nilCheck (.tmp 0)) ty_unit [(.pointer p0)]) (.one (.leaf .addr)) fun x28 =>
        .st (x28.add 7) (.int .i64 1) <|
        .look (opS Try.prog (.nilCheck (.tmp 0)) ty_unit [(.pointer p0)]) (.one (.leaf .addr)) fun x32 =>
        .ld (x32.add 6) (.int .i64) fun x35 =>
        bif (((iand x35 131071) : Int) == 0) then (
          .look (opS Try.prog (.nilCheck (.tmp 0)) ty_unit [(.pointer p0)]) (.one (.leaf .addr)) fun x39 =>
          .st (x39.add 7) (.int .i64 3) <|
          .look (opS Try.prog (.nilCheck (.tmp 0)) ty_unit [(.pointer p0)]) (.one (.leaf .addr)) fun x43 =>
          .ld (x43.add 7) (.int .i64) fun x46 =>
          .ret (.bool ((x46 : Int) == 3)))
        else (
          .look (opS Try.prog (.nilCheck (.tmp 0)) ty_unit [(.pointer p0)]) (.one (.leaf .addr)) fun x43 =>
          .ld (x43.add 7) (.int .i64) fun x46 =>
          .ret (.bool ((x46 : Int) == 3))))))
theorem t_free_popper_Step_eq (p0 : Option Addr) (p1 : Option Addr) : funcTree Try.prog { quiet := [17, 18, 19, 21, 22, 48, 49, 51, 77], quietTmp := true, fncs := [], ifcs := [] } Try.f79 [(.pointer p0), (.pointer p1)] = t_free_popper_Step p0 p1 := by kernel_rfl
theorem t_free_popper_Step_spec {p0 : Option Addr} {p1 : Option Addr} {H : Heap} {R : Value → Heap → Prop} (h : ∀ L, wp Try.prog (t_free_popper_Step p0 p1) L H R) : SpecF Try.prog f_free_popper_Step #[(.pointer p0), (.pointer p1)] H R :=
  spec_of_tree (cfg := { quiet := [17, 18, 19, 21, 22, 48, 49, 51, 77], quietTmp := true, fncs := [], ifcs := [] }) Try.func79 fun L => (t_free_popper_Step_eq p0 p1).symm ▸ h L

/- (*magpie/free.Pop).Base -/
noncomputable def t_free_Pop_Base (p0 : Option Addr) : Tree :=
  .look (opS Try.prog (.nilCheck (.tmp 0)) ty_unit [(.pointer p0)]) (.one (.leaf .addr)) fun x5 =>
  .ld (x5.add 1) .ptr fun x7 =>
  .look (opS Try.prog (.nilCheck (.tmp 0)) ty_unit [(.pointer x7)]) (.one (.leaf .addr)) fun x8 =>
  .ld (x8.add 9) (.int .i64) fun x10 =>
  .look (opS Try.prog (.nilCheck (.tmp 0)) ty_unit [(.pointer p0)]) (.one (.leaf .addr)) fun x12 =>
  .ld (x12.add 1) .ptr fun x14 =>
  .look (opS Try.prog (.nilCheck (.tmp 0)) ty_unit [(.pointer x14)]) (.one (.leaf .addr)) fun x15 =>
  .ld (x15.add 10) .bool fun x17 =>
  .ret (.tuple #[(.int .i64 x10), (.bool x17)])
theorem t_free_Pop_Base_eq (p0 : Option Addr) : funcTree Try.prog { quiet := [17, 18, 19, 21, 22, 48, 49, 51, 77], quietTmp := true, fncs := [], ifcs := [] } Try.f34 [(.pointer p0)] = t_free_Pop_Base p0 := by kernel_rfl
theorem t_free_Pop_Base_spec {p0 : Option Addr} {H : Heap} {R : Value → Heap → Prop} (h : ∀ L, wp Try.prog (t_free_Pop_Base p0) L H R) : SpecF Try.prog f_free_Pop_Base #[(.pointer p0)] H R :=
  spec_of_tree (cfg := { quiet := [17, 18, 19, 21, 22, 48, 49, 51, 77], quietTmp := true, fncs := [], ifcs := [] }) Try.func34 fun L => (t_free_Pop_Base_eq p0).symm ▸ h L

/- magpie/free.List -/
@[reducible] def t_free_List_L1_sh : List Sh1 := [(.leaf .slice), (.leaf (.int .i64))]
noncomputable def t_free_List_L1 (p0 : Option Addr) (x5 : Addr) (y1 : HL Sh1.T t_free_List_L1_sh) : Tree :=
  bif (decide ((y1.2.1 : Int) > 0)) then (
    bif (decide ((((y1.1.len : Nat) : Int) : Int) < 10000)) then (
      .newS (.cells #[(.int .i64 (w64 ((w64 (y1.2.1 - 1)) * 8)))] ty_int) 1 fun x36 =>
      .act (opS Try.prog (.call { callee := .builtin .append, args := #[(.tmp 0), (.tmp 1)], argTypes := #[ty_s_int, ty_s_int] }) ty_s_int [(.slice y1.1.a y1.1.len y1.1.cap), (.slice x36.a x36.len x36.cap)]) (.one (.leaf .slice)) fun x37 =>
      .ld (x5.add 2) (.int .i64) fun x27 =>
      .call f_arena_Arena_Raw [(.pointer p0), (.int .i64 (w64 ((w64 (x27 + y1.2.1)) - 1)))] (.one (.leaf (.int .i64))) fun x31 =>
      .again 192 [(.slice x37.a x37.len x37.cap), (.int .i64 x31)])
    else (
      .ret (.slice y1.1.a y1.1.len y1.1.cap)))
  else (
    .ret (.slice y1.1.a y1.1.len y1.1.cap))
noncomputable def t_free_List (p0 : Option Addr) (p1_0 : Int) (p1_1 : Int) (p1_2 : Int) (p1_3 : Int) (p1_4 : Int) (p2 : Int) (p3 : Int) : Tree :=
  .newP (.cells #[(.int .i64 p1_0), (.int .i64 p1_1), (.int .i64 p1_2), (.int .i64 p1_3), (.int .i64 p1_4)] ty_free_Place) fun x5 =>
  .ldA x5 [(.int .i64), (.int .i64), (.int .i64), (.int .i64), (.int .i64)] fun x12 =>
  .qcall f_free_Place_head [(.agg #[(.int .i64 x12.1), (.int .i64 x12.2.1), (.int .i64 x12.2.2.1), (.int .i64 x12.2.2.2.1), (.int .i64 x12.2.2.2.2.1)]), (.int .i64 p2), (.int .i64 p3)] (.one (.leaf (.int .i64))) fun x15 =>
  .call f_arena_Arena_Raw [(.pointer p0), (.int .i64 x15)] (.one (.leaf (.int .i64))) fun x16 =>
  .loop 192 t_free_List_L1_sh [(.slice none 0 0), (.int .i64 (iand x16 131071))] (t_free_List_L1 p0 x5)
theorem t_free_List_eq (p0 : Option Addr) (p1_0 : Int) (p1_1 : Int) (p1_2 : Int) (p1_3 : Int) (p1_4 : Int) (p2 : Int) (p3 : Int) : funcTree Try.prog { quiet := [17, 18, 19, 21, 22, 48, 49, 51, 77], quietTmp := true, fncs := [], ifcs := [] } Try.f35 [(.pointer p0), (.agg #[(.int .i64 p1_0), (.int .i64 p1_1), (.int .i64 p1_2), (.int .i64 p1_3), (.int .i64 p1_4)]), (.int .i64 p2), (.int .i64 p3)] = t_free_List p0 p1_0 p1_1 p1_2 p1_3 p1_4 p2 p3 := by kernel_rfl
theorem t_free_List_spec {p0 : Option Addr} {p1_0 : Int} {p1_1 : Int} {p1_2 : Int} {p1_3 : Int} {p1_4 : Int} {p2 : Int} {p3 : Int} {H : Heap} {R : Value → Heap → Prop} (h : ∀ L, wp Try.prog (t_free_List p0 p1_0 p1_1 p1_2 p1_3 p1_4 p2 p3) L H R) : SpecF Try.prog f_free_List #[(.pointer p0), (.agg #[(.int .i64 p1_0), (.int .i64 p1_1), (.int .i64 p1_2), (.int .i64 p1_3), (.int .i64 p1_4)]), (.int .i64 p2), (.int .i64 p3)] H R :=
  spec_of_tree (cfg := { quiet := [17, 18, 19, 21, 22, 48, 49, 51, 77], quietTmp := true, fncs := [], ifcs := [] }) Try.func35 fun L => (t_free_List_eq p0 p1_0 p1_1 p1_2 p1_3 p1_4 p2 p3).symm ▸ h L

end Go.Proofs.Ytgnifhkjpekkdaa
