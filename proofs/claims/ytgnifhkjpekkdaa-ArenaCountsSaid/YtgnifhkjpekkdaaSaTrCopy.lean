import Derived.Test.YtgnifhkjpekkdaaSaNames
set_option linter.unusedVariables false
set_option maxRecDepth 10000
namespace Go.Proofs.Ytgnifhkjpekkdaa
open Go Go.Fw
/- magpie/ring.NewCopy -/
noncomputable def t_ring_NewCopy (p0 : Int) (p1 : Int) (p2 : Int) (p3 : Int) : Tree :=
  .call f_ring_word [(.int .i64 p0)] (.one (.leaf .fnc)) fun x14 =>
  .call f_ring_word [(.int .i64 p1)] (.one (.leaf .fnc)) fun x16 =>
  .newP (.cells #[(.int .i64 p0), (.int .i64 p1), (.int .i64 p2), (.int .i64 p3), (.func x14.fn x14.first x14.cap), (.func x16.fn x16.first x16.cap), (.int .i64 0), (.bool false)] ty_ring_Copy) fun x18 =>
  .ret (.pointer (some x18))
theorem t_ring_NewCopy_eq (p0 : Int) (p1 : Int) (p2 : Int) (p3 : Int) : funcTree Try.prog { quiet := [17, 18, 19, 21, 22, 48, 49, 51, 77], quietTmp := true, fncs := [], ifcs := [] } Try.f26 [(.int .i64 p0), (.int .i64 p1), (.int .i64 p2), (.int .i64 p3)] = t_ring_NewCopy p0 p1 p2 p3 := by kernel_rfl
theorem t_ring_NewCopy_spec {p0 : Int} {p1 : Int} {p2 : Int} {p3 : Int} {H : Heap} {R : Value → Heap → Prop} (h : ∀ L, wp Try.prog (t_ring_NewCopy p0 p1 p2 p3) L H R) : SpecF Try.prog f_ring_NewCopy #[(.int .i64 p0), (.int .i64 p1), (.int .i64 p2), (.int .i64 p3)] H R :=
  spec_of_tree (cfg := { quiet := [17, 18, 19, 21, 22, 48, 49, 51, 77], quietTmp := true, fncs := [], ifcs := [] }) Try.func26 fun L => (t_ring_NewCopy_eq p0 p1 p2 p3).symm ▸ h L

/- (*magpie/ring.Copy).Step -/
noncomputable def t_ring_Copy_Step (p0 : Option Addr) (p1 : Option Addr) : Tree :=
  .look (opS Try.prog (.nilCheck (.tmp 0)) ty_unit [(.pointer p0)]) (.one (.leaf .addr)) fun x37 =>
  .ld (x37.add 2) (.int .i64) fun x39 =>
  .look (opS Try.prog (.nilCheck (.tmp 0)) ty_unit [(.pointer p0)]) (.one (.leaf .addr)) fun x41 =>
  .ld (x41.add 3) (.int .i64) fun x43 =>
  bif (decide ((x39 : Int) ≥ x43)) then (
    .look (opS Try.prog (.nilCheck (.tmp 0)) ty_unit [(.pointer p0)]) (.one (.leaf .addr)) fun x73 =>
    .ld (x73.add 2) (.int .i64) fun x75 =>
    .look (opS Try.prog (.nilCheck (.tmp 0)) ty_unit [(.pointer p0)]) (.one (.leaf .addr)) fun x77 =>
    .ld (x77.add 3) (.int .i64) fun x79 =>
    .ret (.bool (decide ((x75 : Int) ≥ x79))))
  else (
    .look (opS Try.prog (.nilCheck (.tmp 0)) ty_unit [(.pointer p0)]) (.one (.leaf .addr)) fun x47 =>
    .ld (x47.add 7) .bool fun x49 =>
    bif (!x49) then (
      .look (opS Try.prog (.nilCheck (.tmp 0)) ty_unit [(.pointer p0)]) (.one (.leaf .addr)) fun x55 =>
      .ld x55 (.int .i64) fun x57 =>
      .look (opS Try.prog (.nilCheck (.tmp 0)) ty_unit [(.pointer p0)]) (.one (.leaf .addr)) fun x59 =>
      .ld (x59.add 4) .fnc fun x61 =>
      .look (opS Try.prog (.nilCheck (.tmp 0)) ty_unit [(.pointer p0)]) (.one (.leaf .addr)) fun x63 =>
      .ld (x63.add 2) (.int .i64) fun x65 =>
      .look (opS Try.prog (.call { callee := .value (.tmp 0), args := #[(.tmp 1)], argTypes := #[ty_int] }) ty_int [(.func x61.fn x61.first x61.cap), (.int .i64 x65)]) (.one (.leaf (.int .i64))) fun x66 =>
      .call f_arena_Arena_Load [(.pointer p1), (.int .i64 x57), (.int .i64 x66)] (.one (.leaf (.int .i64))) fun x67 =>
      .look (opS Try.prog (.nilCheck (.tmp 0)) ty_unit [(.pointer p0)]) (.one (.leaf .addr)) fun x68 =>
      .st (x68.add 6) (.int .i64 x67) <|
      .look (opS Try.prog (.nilCheck (.tmp 0)) ty_unit [(.pointer p0)]) (.one (.leaf .addr)) fun x70 =>
      .st (x70.add 7) (.bool true) <|
      .look (opS Try.prog (.nilCheck (.tmp 0)) ty_unit [(.pointer p0)]) (.one (.leaf .addr)) fun x73 =>
      .ld (x73.add 2) (.int .i64) fun x75 =>
      .look (opS Try.prog (.nilCheck (.tmp 0)) ty_unit [(.pointer p0)]) (.one (.leaf .addr)) fun x77 =>
      .ld (x77.add 3) (.int .i64) fun x79 =>
      .ret (.bool (decide ((x75 : Int) ≥ x79))))
    else (
      .look (opS Try.prog (.nilCheck (.tmp 0)) ty_unit [(.pointer p0)]) (.one (.leaf .addr)) fun x7 =>
      .ld (x7.add 1) (.int .i64) fun x9 =>
      .look (opS Try.prog (.nilCheck (.tmp 0)) ty_unit [(.pointer p0)]) (.one (.leaf .addr)) fun x11 =>
      .ld (x11.add 5) .fnc fun x13 =>
      .look (opS Try.prog (.nilCheck (.tmp 0)) ty_unit [(.pointer p0)]) (.one (.leaf .addr)) fun x15 =>
      .ld (x15.add 2) (.int .i64) fun x17 =>
      .look (opS Try.prog (.call { callee := .value (.tmp 0), args := #[(.tmp 1)], argTypes := #[ty_int] }) ty_int [(.func x13.fn x13.first x13.cap), (.int .i64 x17)]) (.one (.leaf (.int .i64))) fun x18 =>
      .look (opS Try.prog (.nilCheck (.tmp 0)) ty_unit [(.pointer p0)]) (.one (.leaf .addr)) fun x20 =>
      .ld (x20.add 6) (.int .i64) fun x22 =>
      .call f_arena_Arena_Store [(.pointer p1), (.int .i64 x9), (.int .i64 x18), (.int .i64 x22)] .unit fun _ =>
      .look (opS Try.prog (.nilCheck (.tmp 0)) ty_unit [(.pointer p0)]) (.one (.leaf .addr)) fun x27 =>
      .ld (x27.add 2) (.int .i64) fun x29 =>
      .look (opS Try.prog (.nilCheck (.tmp 0)) ty_unit [(.pointer p0)]) (.one (.leaf .addr)) fun x31 =>
      .st (x31.add 2) (.int .i64 (w64 (x29 + 1))) <|
      .look (opS Try.prog (.nilCheck (.tmp 0)) ty_unit [(.pointer p0)]) (.one (.leaf .addr)) fun x33 =>
      .st (x33.add 7) (.bool false) <|
      .look (opS Try.prog (.nilCheck (.tmp 0)) ty_unit [(.pointer p0)]) (.one (.leaf .addr)) fun x73 =>
      .ld (x73.add 2) (.int .i64) fun x75 =>
      .look (opS Try.prog (.nilCheck (.tmp 0)) ty_unit [(.pointer p0)]) (.one (.leaf .addr)) fun x77 =>
      .ld (x77.add 3) (.int .i64) fun x79 =>
      .ret (.bool (decide ((x75 : Int) ≥ x79)))))
theorem t_ring_Copy_Step_eq (p0 : Option Addr) (p1 : Option Addr) : funcTree Try.prog { quiet := [17, 18, 19, 21, 22, 48, 49, 51, 77], quietTmp := true, fncs := [], ifcs := [] } Try.f27 [(.pointer p0), (.pointer p1)] = t_ring_Copy_Step p0 p1 := by kernel_rfl
theorem t_ring_Copy_Step_spec {p0 : Option Addr} {p1 : Option Addr} {H : Heap} {R : Value → Heap → Prop} (h : ∀ L, wp Try.prog (t_ring_Copy_Step p0 p1) L H R) : SpecF Try.prog f_ring_Copy_Step #[(.pointer p0), (.pointer p1)] H R :=
  spec_of_tree (cfg := { quiet := [17, 18, 19, 21, 22, 48, 49, 51, 77], quietTmp := true, fncs := [], ifcs := [] }) Try.func27 fun L => (t_ring_Copy_Step_eq p0 p1).symm ▸ h L

end Go.Proofs.Ytgnifhkjpekkdaa
