import Derived.Test.YtgnifhkjpekkdaaSaNames
set_option linter.unusedVariables false
set_option maxRecDepth 10000
namespace Go.Proofs.Ytgnifhkjpekkdaa
open Go Go.Fw
/- magpie/ring.Room -/
noncomputable def t_ring_Room (p0 : Int) : Tree :=
  .qcall f_handle_Open [(.int .i64 p0)] (.tup [(.leaf (.int .i64)), (.leaf (.int .i64)), (.leaf (.int .i64)), (.leaf .bool)]) fun x9 =>
  bif (!x9.2.2.2.1) then (
    .ret (.int .i64 0))
  else (
    .qcall f_handle_Size [(.int .i64 x9.2.2.1)] (.one (.leaf (.int .i64))) fun x17 =>
    .ret (.int .i64 x17))
theorem t_ring_Room_eq (p0 : Int) : funcTree Try.prog { quiet := [17, 18, 19, 21, 22, 48, 49, 51, 77], quietTmp := true, fncs := [], ifcs := [] } Try.f22 [(.int .i64 p0)] = t_ring_Room p0 := by kernel_rfl
theorem t_ring_Room_spec {p0 : Int} {H : Heap} {R : Value → Heap → Prop} (h : ∀ L, wp Try.prog (t_ring_Room p0) L H R) : SpecF Try.prog f_ring_Room #[(.int .i64 p0)] H R :=
  spec_of_tree (cfg := { quiet := [17, 18, 19, 21, 22, 48, 49, 51, 77], quietTmp := true, fncs := [], ifcs := [] }) Try.func22 fun L => (t_ring_Room_eq p0).symm ▸ h L

/- magpie/ring.word -/
noncomputable def t_ring_word (p0 : Int) : Tree :=
  .qcall f_ring_Room [(.int .i64 p0)] (.one (.leaf (.int .i64))) fun x5 =>
  .newP (.cells #[(.int .i64 0)] ty_int) fun x3 =>
  .st x3 (.int .i64 x5) <|
  .ret (.func (.func f_ring_word_1) #[] #[(.pointer (some x3))])
theorem t_ring_word_eq (p0 : Int) : funcTree Try.prog { quiet := [17, 18, 19, 21, 22, 48, 49, 51, 77], quietTmp := true, fncs := [], ifcs := [] } Try.f50 [(.int .i64 p0)] = t_ring_word p0 := by kernel_rfl
theorem t_ring_word_spec {p0 : Int} {H : Heap} {R : Value → Heap → Prop} (h : ∀ L, wp Try.prog (t_ring_word p0) L H R) : SpecF Try.prog f_ring_word #[(.int .i64 p0)] H R :=
  spec_of_tree (cfg := { quiet := [17, 18, 19, 21, 22, 48, 49, 51, 77], quietTmp := true, fncs := [], ifcs := [] }) Try.func50 fun L => (t_ring_word_eq p0).symm ▸ h L

/- magpie/ring.word$1 -/
noncomputable def t_ring_word_1 (p0 : Int) (c0 : Addr) : Tree :=
  .ld c0 (.int .i64) fun x4 =>
  bif ((x4 : Int) == 0) then (
    .ret (.int .i64 0))
  else (
    .ld c0 (.int .i64) fun x7 =>
    .look (opS Try.prog (.binOp .rem ty_int (.tmp 0) (.tmp 1) ty_int) ty_int [(.int .i64 p0), (.int .i64 x7)]) (.one (.leaf (.int .i64))) fun x8 =>
    .ld c0 (.int .i64) fun x9 =>
    .ld c0 (.int .i64) fun x11 =>
    .look (opS Try.prog (.binOp .rem ty_int (.tmp 0) (.tmp 1) ty_int) ty_int [(.int .i64 (w64 (x8 + x9))), (.int .i64 x11)]) (.one (.leaf (.int .i64))) fun x12 =>
    .ret (.int .i64 x12))
theorem t_ring_word_1_eq (p0 : Int) (c0 : Addr) : funcTree Try.prog { quiet := [17, 18, 19, 21, 22, 48, 49, 51, 77], quietTmp := true, fncs := [], ifcs := [] } Try.f58 [(.int .i64 p0), (.pointer (some c0))] = t_ring_word_1 p0 c0 := by kernel_rfl
theorem t_ring_word_1_spec {p0 : Int} {c0 : Addr} {H : Heap} {R : Value → Heap → Prop} (h : ∀ L, wp Try.prog (t_ring_word_1 p0 c0) L H R) : SpecF Try.prog f_ring_word_1 #[(.int .i64 p0), (.pointer (some c0))] H R :=
  spec_of_tree (cfg := { quiet := [17, 18, 19, 21, 22, 48, 49, 51, 77], quietTmp := true, fncs := [], ifcs := [] }) Try.func58 fun L => (t_ring_word_1_eq p0 c0).symm ▸ h L

/- magpie/ring.Word -/
noncomputable def t_ring_Word (p0 : Int) (p1 : Int) : Tree :=
  .call f_ring_word [(.int .i64 p0)] (.one (.leaf .fnc)) fun x6 =>
  .look (opS Try.prog (.call { callee := .value (.tmp 0), args := #[(.tmp 1)], argTypes := #[ty_int] }) ty_int [(.func x6.fn x6.first x6.cap), (.int .i64 p1)]) (.one (.leaf (.int .i64))) fun x8 =>
  .ret (.int .i64 x8)
theorem t_ring_Word_eq (p0 : Int) (p1 : Int) : funcTree Try.prog { quiet := [17, 18, 19, 21, 22, 48, 49, 51, 77], quietTmp := true, fncs := [], ifcs := [] } Try.f23 [(.int .i64 p0), (.int .i64 p1)] = t_ring_Word p0 p1 := by kernel_rfl
theorem t_ring_Word_spec {p0 : Int} {p1 : Int} {H : Heap} {R : Value → Heap → Prop} (h : ∀ L, wp Try.prog (t_ring_Word p0 p1) L H R) : SpecF Try.prog f_ring_Word #[(.int .i64 p0), (.int .i64 p1)] H R :=
  spec_of_tree (cfg := { quiet := [17, 18, 19, 21, 22, 48, 49, 51, 77], quietTmp := true, fncs := [], ifcs := [] }) Try.func23 fun L => (t_ring_Word_eq p0 p1).symm ▸ h L

end Go.Proofs.Ytgnifhkjpekkdaa
