/- Texts of this claim, one behind the other. -/
import Derived.Test.YtcjhakdopnamoaaCWFrameWords3
set_option linter.unusedSimpArgs false
set_option linter.unusedVariables false
set_option linter.unusedVariables false
set_option maxRecDepth 10000
namespace Go.Proofs.Ytcjhakdopnamoaa
open Go Go.Fw
/- magpie/guard.of -/
noncomputable def t_guard_of (p0 : Int) (p1 : Int) (p2 : Bool) : Tree :=
  bif p2 then (
    .qcall f_guard_epochTable [(.int .i64 p0), (.int .i64 p1)] (.one (.agg [(.int .i64), (.int .i64)])) fun x12 =>
    .ret (.iface ty_guard_epochs (.agg #[(.int .i64 x12.1), (.int .i64 x12.2.1)])))
  else (
    .qcall f_hazard_Raw [(.int .i64 p0), (.int .i64 p1)] (.tup [(.agg [(.int .i64), (.int .i64)]), (.leaf (.int .i64))]) fun x18 =>
    .newP (.cells #[(.int .i64 0), (.int .i64 0)] ty_hazard_Table) fun x7 =>
    .stA x7 [(.int .i64 x18.1.1), (.int .i64 x18.1.2.1)] <|
    .ldA x7 [(.int .i64), (.int .i64)] fun x21 =>
    .ret (.iface ty_guard_hazards (.agg #[(.int .i64 x21.1), (.int .i64 x21.2.1)])))
theorem t_guard_of_eq (p0 : Int) (p1 : Int) (p2 : Bool) : funcTree Try.prog { quiet := [16, 34, 36, 40, 41, 66, 67, 75, 76, 77, 97, 98, 103, 108, 110, 139, 146, 149, 161], quietTmp := false, fncs := [], ifcs := [] } Try.f68 [(.int .i64 p0), (.int .i64 p1), (.bool p2)] = t_guard_of p0 p1 p2 := by kernel_rfl
theorem t_guard_of_spec {p0 : Int} {p1 : Int} {p2 : Bool} {H : Heap} {R : Value → Heap → Prop} (h : ∀ L, wp Try.prog (t_guard_of p0 p1 p2) L H R) : SpecF Try.prog f_guard_of #[(.int .i64 p0), (.int .i64 p1), (.bool p2)] H R :=
  spec_of_tree (cfg := { quiet := [16, 34, 36, 40, 41, 66, 67, 75, 76, 77, 97, 98, 103, 108, 110, 139, 146, 149, 161], quietTmp := false, fncs := [], ifcs := [] }) Try.func68 fun L => (t_guard_of_eq p0 p1 p2).symm ▸ h L

/- magpie/guard.epochTable -/
noncomputable def t_guard_epochTable (p0 : Int) (p1 : Int) : Tree :=
  .newP (.cells #[(.int .i64 0), (.int .i64 0)] ty_epoch_Table) fun x4 =>
  .qcall f_epoch_Raw [(.int .i64 p0), (.int .i64 p1)] (.tup [(.agg [(.int .i64), (.int .i64)]), (.leaf (.int .i64))]) fun x10 =>
  .newP (.cells #[(.int .i64 0), (.int .i64 0)] ty_epoch_Table) fun x5 =>
  .stA x5 [(.int .i64 x10.1.1), (.int .i64 x10.1.2.1)] <|
  .ldA x5 [(.int .i64), (.int .i64)] fun x13 =>
  .stA x4 [(.int .i64 x13.1), (.int .i64 x13.2.1)] <|
  .look (ldK x4 2 0 #[] fun r0 => .pure (.value (.agg r0))) (.one (.agg [(.int .i64), (.int .i64)])) fun r => .ret (Sh.toVal (.one (.agg [(.int .i64), (.int .i64)])) r)
theorem t_guard_epochTable_eq (p0 : Int) (p1 : Int) : funcTree Try.prog { quiet := [16, 34, 36, 40, 41, 66, 67, 75, 76, 77, 97, 98, 103, 108, 110, 139, 146, 149, 161], quietTmp := false, fncs := [], ifcs := [] } Try.f97 [(.int .i64 p0), (.int .i64 p1)] = t_guard_epochTable p0 p1 := by kernel_rfl
theorem t_guard_epochTable_spec {p0 : Int} {p1 : Int} {H : Heap} {R : Value → Heap → Prop} (h : ∀ L, wp Try.prog (t_guard_epochTable p0 p1) L H R) : SpecF Try.prog f_guard_epochTable #[(.int .i64 p0), (.int .i64 p1)] H R :=
  spec_of_tree (cfg := { quiet := [16, 34, 36, 40, 41, 66, 67, 75, 76, 77, 97, 98, 103, 108, 110, 139, 146, 149, 161], quietTmp := false, fncs := [], ifcs := [] }) Try.func97 fun L => (t_guard_epochTable_eq p0 p1).symm ▸ h L

/- magpie/guard.Raw -/
noncomputable def t_guard_Raw (p0 : Int) (p1 : Int) (p2 : Bool) : Tree :=
  .call f_guard_of [(.int .i64 p0), (.int .i64 p1), (.bool p2)] (.one (.leaf .val)) fun x10 =>
  .act (opS Try.prog (.call { callee := .invoke (.tmp 0) "magpie/guard.words", args := #[], argTypes := #[] }) ty_int [x10]) (.one (.leaf (.int .i64))) fun x11 =>
  .ret (.int .i64 x11)
theorem t_guard_Raw_eq (p0 : Int) (p1 : Int) (p2 : Bool) : funcTree Try.prog { quiet := [16, 34, 36, 40, 41, 66, 67, 75, 76, 77, 97, 98, 103, 108, 110, 139, 146, 149, 161], quietTmp := false, fncs := [], ifcs := [] } Try.f31 [(.int .i64 p0), (.int .i64 p1), (.bool p2)] = t_guard_Raw p0 p1 p2 := by kernel_rfl
theorem t_guard_Raw_spec {p0 : Int} {p1 : Int} {p2 : Bool} {H : Heap} {R : Value → Heap → Prop} (h : ∀ L, wp Try.prog (t_guard_Raw p0 p1 p2) L H R) : SpecF Try.prog f_guard_Raw #[(.int .i64 p0), (.int .i64 p1), (.bool p2)] H R :=
  spec_of_tree (cfg := { quiet := [16, 34, 36, 40, 41, 66, 67, 75, 76, 77, 97, 98, 103, 108, 110, 139, 146, 149, 161], quietTmp := false, fncs := [], ifcs := [] }) Try.func31 fun L => (t_guard_Raw_eq p0 p1 p2).symm ▸ h L

/- magpie/guard.New -/
noncomputable def t_guard_New (p0 : Int) (p1 : Int) (p2 : Bool) (p3 : Int) (p4_0 : Int) (p4_1 : Int) (p4_2 : Int) (p4_3 : Int) (p4_4 : Int) : Tree :=
  .newP (.cells #[(.int .i64 p4_0), (.int .i64 p4_1), (.int .i64 p4_2), (.int .i64 p4_3), (.int .i64 p4_4)] ty_free_Place) fun x9 =>
  .ldA x9 [(.int .i64), (.int .i64), (.int .i64), (.int .i64), (.int .i64)] fun x15 =>
  .both (
    .call f_guard_of [(.int .i64 p0), (.int .i64 p1), (.bool p2)] (.one (.leaf .ifc)) fun x14 =>
    .check (ldAS x9 5 0 #[]) (.agg #[(.int .i64 x15.1), (.int .i64 x15.2.1), (.int .i64 x15.2.2.1), (.int .i64 x15.2.2.2.1), (.int .i64 x15.2.2.2.2.1)]) <|
    .newM fun x19 =>
    .check (ldAS x9 5 0 #[]) (.agg #[(.int .i64 x15.1), (.int .i64 x15.2.1), (.int .i64 x15.2.2.1), (.int .i64 x15.2.2.2.1), (.int .i64 x15.2.2.2.2.1)]) <|
    .newP (.cells #[(.iface x14.t x14.v), (.int .i64 x15.1), (.int .i64 x15.2.1), (.int .i64 x15.2.2.1), (.int .i64 x15.2.2.2.1), (.int .i64 x15.2.2.2.2.1), (.int .i64 (imax 1 (imin p3 64))), (.map x19)] ty_guard_Guard) fun x21 =>
    .ret (.pointer (some x21))) (
    .newM fun x19 =>
    .check (ldAS x9 5 0 #[]) (.agg #[(.int .i64 x15.1), (.int .i64 x15.2.1), (.int .i64 x15.2.2.1), (.int .i64 x15.2.2.2.1), (.int .i64 x15.2.2.2.2.1)]) <|
    .call f_guard_of [(.int .i64 p0), (.int .i64 p1), (.bool p2)] (.one (.leaf .ifc)) fun x14 =>
    .check (ldAS x9 5 0 #[]) (.agg #[(.int .i64 x15.1), (.int .i64 x15.2.1), (.int .i64 x15.2.2.1), (.int .i64 x15.2.2.2.1), (.int .i64 x15.2.2.2.2.1)]) <|
    .newP (.cells #[(.iface x14.t x14.v), (.int .i64 x15.1), (.int .i64 x15.2.1), (.int .i64 x15.2.2.1), (.int .i64 x15.2.2.2.1), (.int .i64 x15.2.2.2.2.1), (.int .i64 (imax 1 (imin p3 64))), (.map x19)] ty_guard_Guard) fun x21 =>
    .ret (.pointer (some x21)))
theorem t_guard_New_eq (p0 : Int) (p1 : Int) (p2 : Bool) (p3 : Int) (p4_0 : Int) (p4_1 : Int) (p4_2 : Int) (p4_3 : Int) (p4_4 : Int) : funcTree Try.prog { quiet := [16, 34, 36, 40, 41, 66, 67, 75, 76, 77, 97, 98, 103, 108, 110, 139, 146, 149, 161], quietTmp := false, fncs := [], ifcs := [14] } Try.f59 [(.int .i64 p0), (.int .i64 p1), (.bool p2), (.int .i64 p3), (.agg #[(.int .i64 p4_0), (.int .i64 p4_1), (.int .i64 p4_2), (.int .i64 p4_3), (.int .i64 p4_4)])] = t_guard_New p0 p1 p2 p3 p4_0 p4_1 p4_2 p4_3 p4_4 := by kernel_rfl
theorem t_guard_New_spec {p0 : Int} {p1 : Int} {p2 : Bool} {p3 : Int} {p4_0 : Int} {p4_1 : Int} {p4_2 : Int} {p4_3 : Int} {p4_4 : Int} {H : Heap} {R : Value → Heap → Prop} (h : ∀ L, wp Try.prog (t_guard_New p0 p1 p2 p3 p4_0 p4_1 p4_2 p4_3 p4_4) L H R) : SpecF Try.prog f_guard_New #[(.int .i64 p0), (.int .i64 p1), (.bool p2), (.int .i64 p3), (.agg #[(.int .i64 p4_0), (.int .i64 p4_1), (.int .i64 p4_2), (.int .i64 p4_3), (.int .i64 p4_4)])] H R :=
  spec_of_tree (cfg := { quiet := [16, 34, 36, 40, 41, 66, 67, 75, 76, 77, 97, 98, 103, 108, 110, 139, 146, 149, 161], quietTmp := false, fncs := [], ifcs := [14] }) Try.func59 fun L => (t_guard_New_eq p0 p1 p2 p3 p4_0 p4_1 p4_2 p4_3 p4_4).symm ▸ h L

/- (magpie/guard.hazards).words -/
noncomputable def t_guard_hazards_words (p0_0 : Int) (p0_1 : Int) : Tree :=
  .newP (.cells #[(.int .i64 p0_0), (.int .i64 p0_1)] ty_guard_hazards) fun x1 =>
  .ld x1 (.int .i64) fun x5 =>
  .ret (.int .i64 (w64 (2 * (imax x5 0))))
theorem t_guard_hazards_words_eq (p0_0 : Int) (p0_1 : Int) : funcTree Try.prog { quiet := [16, 34, 36, 40, 41, 66, 67, 75, 76, 77, 97, 98, 103, 108, 110, 139, 146, 149, 161], quietTmp := false, fncs := [], ifcs := [] } Try.f146 [(.agg #[(.int .i64 p0_0), (.int .i64 p0_1)])] = t_guard_hazards_words p0_0 p0_1 := by kernel_rfl
theorem t_guard_hazards_words_spec {p0_0 : Int} {p0_1 : Int} {H : Heap} {R : Value → Heap → Prop} (h : ∀ L, wp Try.prog (t_guard_hazards_words p0_0 p0_1) L H R) : SpecF Try.prog f_guard_hazards_words #[(.agg #[(.int .i64 p0_0), (.int .i64 p0_1)])] H R :=
  spec_of_tree (cfg := { quiet := [16, 34, 36, 40, 41, 66, 67, 75, 76, 77, 97, 98, 103, 108, 110, 139, 146, 149, 161], quietTmp := false, fncs := [], ifcs := [] }) Try.func146 fun L => (t_guard_hazards_words_eq p0_0 p0_1).symm ▸ h L

/- (magpie/guard.epochs).words -/
noncomputable def t_guard_epochs_words (p0_0 : Int) (p0_1 : Int) : Tree :=
  .newP (.cells #[(.int .i64 p0_0), (.int .i64 p0_1)] ty_guard_epochs) fun x1 =>
  .ld x1 (.int .i64) fun x5 =>
  .ret (.int .i64 (w64 (1 + (imax x5 0))))
theorem t_guard_epochs_words_eq (p0_0 : Int) (p0_1 : Int) : funcTree Try.prog { quiet := [16, 34, 36, 40, 41, 66, 67, 75, 76, 77, 97, 98, 103, 108, 110, 139, 146, 149, 161], quietTmp := false, fncs := [], ifcs := [] } Try.f139 [(.agg #[(.int .i64 p0_0), (.int .i64 p0_1)])] = t_guard_epochs_words p0_0 p0_1 := by kernel_rfl
theorem t_guard_epochs_words_spec {p0_0 : Int} {p0_1 : Int} {H : Heap} {R : Value → Heap → Prop} (h : ∀ L, wp Try.prog (t_guard_epochs_words p0_0 p0_1) L H R) : SpecF Try.prog f_guard_epochs_words #[(.agg #[(.int .i64 p0_0), (.int .i64 p0_1)])] H R :=
  spec_of_tree (cfg := { quiet := [16, 34, 36, 40, 41, 66, 67, 75, 76, 77, 97, 98, 103, 108, 110, 139, 146, 149, 161], quietTmp := false, fncs := [], ifcs := [] }) Try.func139 fun L => (t_guard_epochs_words_eq p0_0 p0_1).symm ▸ h L

/- magpie/guard.handles -/
@[reducible] def t_guard_handles_L1_sh : List Sh1 := [(.leaf .slice), (.leaf (.int .i64))]
noncomputable def t_guard_handles_L1 (p0 : Sl) (y1 : HL Sh1.T t_guard_handles_L1_sh) : Tree :=
  bif (decide ((y1.2.1 : Int) < ((p0.len : Nat) : Int))) then (
    .look (opS Try.prog (.indexAddr ty_s_epoch_Limbo (.tmp 0) (.tmp 1)) ty_unit [(.slice p0.a p0.len p0.cap), (.int .i64 y1.2.1)]) (.one (.leaf .addr)) fun x10 =>
    .ldA x10 [(.int .i64), (.int .i64)] fun x11 =>
    .newP (.cells #[(.int .i64 0), (.int .i64 0)] ty_epoch_Limbo) fun x5 =>
    .stA x5 [(.int .i64 x11.1), (.int .i64 x11.2.1)] <|
    .ld x5 (.int .i64) fun x14 =>
    .newS (.cells #[(.int .i64 x14)] ty_int) 1 fun x15 =>
    .act (opS Try.prog (.call { callee := .builtin .append, args := #[(.tmp 0), (.tmp 1)], argTypes := #[ty_s_int, ty_s_int] }) ty_s_int [(.slice y1.1.a y1.1.len y1.1.cap), (.slice x15.a x15.len x15.cap)]) (.one (.leaf .slice)) fun x16 =>
    .again 192 [(.slice x16.a x16.len x16.cap), (.int .i64 (w64 (y1.2.1 + 1)))])
  else (
    .ret (.slice y1.1.a y1.1.len y1.1.cap))
noncomputable def t_guard_handles (p0 : Sl) : Tree :=
  .loop 192 t_guard_handles_L1_sh [(.slice none 0 0), (.int .i64 0)] (t_guard_handles_L1 p0)
theorem t_guard_handles_eq (p0 : Sl) : funcTree Try.prog { quiet := [16, 34, 36, 40, 41, 66, 67, 75, 76, 77, 97, 98, 103, 108, 110, 139, 146, 149, 161], quietTmp := false, fncs := [], ifcs := [] } Try.f95 [(.slice p0.a p0.len p0.cap)] = t_guard_handles p0 := by kernel_rfl
theorem t_guard_handles_spec {p0 : Sl} {H : Heap} {R : Value → Heap → Prop} (h : ∀ L, wp Try.prog (t_guard_handles p0) L H R) : SpecF Try.prog f_guard_handles #[(.slice p0.a p0.len p0.cap)] H R :=
  spec_of_tree (cfg := { quiet := [16, 34, 36, 40, 41, 66, 67, 75, 76, 77, 97, 98, 103, 108, 110, 139, 146, 149, 161], quietTmp := false, fncs := [], ifcs := [] }) Try.func95 fun L => (t_guard_handles_eq p0).symm ▸ h L

/- (*magpie/guard.look).begin -/
noncomputable def t_guard_look_begin (p0 : Option Addr) : Tree :=
  .look (opS Try.prog (.nilCheck (.tmp 0)) ty_unit [(.pointer p0)]) (.one (.leaf .addr)) fun x5 =>
  .ld x5 .ptr fun x7 =>
  .look (opS Try.prog (.nilCheck (.tmp 0)) ty_unit [(.pointer x7)]) (.one (.leaf .addr)) fun x8 =>
  .ld x8 .val fun x10 =>
  .look (opS Try.prog (.typeAssert (.tmp 0) ty_guard_mode ty_guard_epochs true) ty_unit [x10]) (.tup [(.agg [(.int .i64), (.int .i64)]), (.leaf .bool)]) fun x11 =>
  bif x11.2.1 then (
    .newP (.cells #[(.int .i64 0), (.int .i64 0)] ty_guard_epochs) fun x2 =>
    .stA x2 [(.int .i64 x11.1.1), (.int .i64 x11.1.2.1)] <|
    .ldA x2 [(.int .i64), (.int .i64)] fun x16 =>
    .look (opS Try.prog (.nilCheck (.tmp 0)) ty_unit [(.pointer p0)]) (.one (.leaf .addr)) fun x18 =>
    .ld x18 .ptr fun x20 =>
    .look (opS Try.prog (.nilCheck (.tmp 0)) ty_unit [(.pointer x20)]) (.one (.leaf .addr)) fun x21 =>
    .ldA (x21.add 1) [(.int .i64), (.int .i64), (.int .i64), (.int .i64), (.int .i64)] fun x23 =>
    .look (opS Try.prog (.nilCheck (.tmp 0)) ty_unit [(.pointer p0)]) (.one (.leaf .addr)) fun x25 =>
    .ld (x25.add 1) (.int .i64) fun x27 =>
    .look (opS Try.prog (.nilCheck (.tmp 0)) ty_unit [(.pointer p0)]) (.one (.leaf .addr)) fun x29 =>
    .ld x29 .ptr fun x31 =>
    .look (opS Try.prog (.nilCheck (.tmp 0)) ty_unit [(.pointer x31)]) (.one (.leaf .addr)) fun x32 =>
    .ld (x32.add 7) .map fun x34 =>
    .look (opS Try.prog (.nilCheck (.tmp 0)) ty_unit [(.pointer p0)]) (.one (.leaf .addr)) fun x36 =>
    .ld (x36.add 1) (.int .i64) fun x38 =>
    .look (opS Try.prog (.lookup ty_m_int_s_epoch_Limbo (.tmp 0) (.tmp 1) false) ty_s_epoch_Limbo [(.map x34), (.int .i64 x38)]) (.one (.leaf .slice)) fun x39 =>
    .call f_epoch_NewTurn [(.agg #[(.int .i64 x16.1), (.int .i64 x16.2.1)]), (.agg #[(.int .i64 x23.1), (.int .i64 x23.2.1), (.int .i64 x23.2.2.1), (.int .i64 x23.2.2.2.1), (.int .i64 x23.2.2.2.2.1)]), (.int .i64 x27), (.slice x39.a x39.len x39.cap)] (.one (.leaf .ptr)) fun x40 =>
    .look (opS Try.prog (.nilCheck (.tmp 0)) ty_unit [(.pointer p0)]) (.one (.leaf .addr)) fun x42 =>
    .st (x42.add 4) (.iface ty_p_epoch_Turn (.pointer x40)) <|
    .look (opS Try.prog (.nilCheck (.tmp 0)) ty_unit [(.pointer p0)]) (.one (.leaf .addr)) fun x79 =>
    .ld (x79.add 3) (.int .i64) fun x81 =>
    .look (opS Try.prog (.nilCheck (.tmp 0)) ty_unit [(.pointer p0)]) (.one (.leaf .addr)) fun x83 =>
    .st (x83.add 3) (.int .i64 (w64 (x81 - 1))) <|
    .ret (.tuple #[]))
  else (
    .look (opS Try.prog (.typeAssert (.tmp 0) ty_guard_mode ty_guard_hazards true) ty_unit [x10]) (.tup [(.agg [(.int .i64), (.int .i64)]), (.leaf .bool)]) fun x44 =>
    bif x44.2.1 then (
      .newP (.cells #[(.int .i64 0), (.int .i64 0)] ty_guard_hazards) fun x3 =>
      .stA x3 [(.int .i64 x44.1.1), (.int .i64 x44.1.2.1)] <|
      .ldA x3 [(.int .i64), (.int .i64)] fun x49 =>
      .look (opS Try.prog (.nilCheck (.tmp 0)) ty_unit [(.pointer p0)]) (.one (.leaf .addr)) fun x51 =>
      .ld x51 .ptr fun x53 =>
      .look (opS Try.prog (.nilCheck (.tmp 0)) ty_unit [(.pointer x53)]) (.one (.leaf .addr)) fun x54 =>
      .ldA (x54.add 1) [(.int .i64), (.int .i64), (.int .i64), (.int .i64), (.int .i64)] fun x56 =>
      .look (opS Try.prog (.nilCheck (.tmp 0)) ty_unit [(.pointer p0)]) (.one (.leaf .addr)) fun x58 =>
      .ld (x58.add 1) (.int .i64) fun x60 =>
      .look (opS Try.prog (.nilCheck (.tmp 0)) ty_unit [(.pointer p0)]) (.one (.leaf .addr)) fun x62 =>
      .ld x62 .ptr fun x64 =>
      .look (opS Try.prog (.nilCheck (.tmp 0)) ty_unit [(.pointer x64)]) (.one (.leaf .addr)) fun x65 =>
      .ld (x65.add 7) .map fun x67 =>
      .look (opS Try.prog (.nilCheck (.tmp 0)) ty_unit [(.pointer p0)]) (.one (.leaf .addr)) fun x69 =>
      .ld (x69.add 1) (.int .i64) fun x71 =>
      .look (opS Try.prog (.lookup ty_m_int_s_epoch_Limbo (.tmp 0) (.tmp 1) false) ty_s_epoch_Limbo [(.map x67), (.int .i64 x71)]) (.one (.leaf .slice)) fun x72 =>
      .call f_guard_handles [(.slice x72.a x72.len x72.cap)] (.one (.leaf .slice)) fun x73 =>
      .check (ldS (x58.add 1)) (.int .i64 x60) <|
      .check (opS Try.prog (.nilCheck (.tmp 0)) ty_unit [(.pointer p0)]) (.pointer (some x58)) <|
      .check (ldAS (x54.add 1) 5 0 #[]) (.agg #[(.int .i64 x56.1), (.int .i64 x56.2.1), (.int .i64 x56.2.2.1), (.int .i64 x56.2.2.2.1), (.int .i64 x56.2.2.2.2.1)]) <|
      .check (opS Try.prog (.nilCheck (.tmp 0)) ty_unit [(.pointer x53)]) (.pointer (some x54)) <|
      .check (ldS x51) (.pointer x53) <|
      .check (opS Try.prog (.nilCheck (.tmp 0)) ty_unit [(.pointer p0)]) (.pointer (some x51)) <|
      .check (ldAS x3 2 0 #[]) (.agg #[(.int .i64 x49.1), (.int .i64 x49.2.1)]) <|
      .call f_hazard_NewScan [(.agg #[(.int .i64 x49.1), (.int .i64 x49.2.1)]), (.agg #[(.int .i64 x56.1), (.int .i64 x56.2.1), (.int .i64 x56.2.2.1), (.int .i64 x56.2.2.2.1), (.int .i64 x56.2.2.2.2.1)]), (.int .i64 x60), (.slice x73.a x73.len x73.cap)] (.one (.leaf .ptr)) fun x74 =>
      .look (opS Try.prog (.nilCheck (.tmp 0)) ty_unit [(.pointer p0)]) (.one (.leaf .addr)) fun x76 =>
      .st (x76.add 4) (.iface ty_p_hazard_Scan (.pointer x74)) <|
      .look (opS Try.prog (.nilCheck (.tmp 0)) ty_unit [(.pointer p0)]) (.one (.leaf .addr)) fun x79 =>
      .ld (x79.add 3) (.int .i64) fun x81 =>
      .look (opS Try.prog (.nilCheck (.tmp 0)) ty_unit [(.pointer p0)]) (.one (.leaf .addr)) fun x83 =>
      .st (x83.add 3) (.int .i64 (w64 (x81 - 1))) <|
      .ret (.tuple #[]))
    else (
      .look (opS Try.prog (.nilCheck (.tmp 0)) ty_unit [(.pointer p0)]) (.one (.leaf .addr)) fun x79 =>
      .ld (x79.add 3) (.int .i64) fun x81 =>
      .look (opS Try.prog (.nilCheck (.tmp 0)) ty_unit [(.pointer p0)]) (.one (.leaf .addr)) fun x83 =>
      .st (x83.add 3) (.int .i64 (w64 (x81 - 1))) <|
      .ret (.tuple #[])))
theorem t_guard_look_begin_eq (p0 : Option Addr) : funcTree Try.prog { quiet := [16, 34, 36, 40, 41, 66, 67, 75, 76, 77, 97, 98, 103, 108, 110, 139, 146, 149, 161], quietTmp := false, fncs := [], ifcs := [] } Try.f64 [(.pointer p0)] = t_guard_look_begin p0 := by kernel_rfl
theorem t_guard_look_begin_spec {p0 : Option Addr} {H : Heap} {R : Value → Heap → Prop} (h : ∀ L, wp Try.prog (t_guard_look_begin p0) L H R) : SpecF Try.prog f_guard_look_begin #[(.pointer p0)] H R :=
  spec_of_tree (cfg := { quiet := [16, 34, 36, 40, 41, 66, 67, 75, 76, 77, 97, 98, 103, 108, 110, 139, 146, 149, 161], quietTmp := false, fncs := [], ifcs := [] }) Try.func64 fun L => (t_guard_look_begin_eq p0).symm ▸ h L

/- (*magpie/guard.look).end -/
@[reducible] def t_guard_look_end_L1_sh : List Sh1 := [(.leaf .slice), (.leaf (.int .i64))]
noncomputable def t_guard_look_end_L1 (p0 : Option Addr) (x31 : Sl) (y1 : HL Sh1.T t_guard_look_end_L1_sh) : Tree :=
  bif (decide ((y1.2.1 : Int) < ((x31.len : Nat) : Int))) then (
    .look (opS Try.prog (.indexAddr ty_s_int (.tmp 0) (.tmp 1)) ty_unit [(.slice x31.a x31.len x31.cap), (.int .i64 y1.2.1)]) (.one (.leaf .addr)) fun x35 =>
    .ld x35 (.int .i64) fun x36 =>
    .newS (.cells #[(.int .i64 x36), (.int .i64 0)] ty_epoch_Limbo) 1 fun x40 =>
    .act (opS Try.prog (.call { callee := .builtin .append, args := #[(.tmp 0), (.tmp 1)], argTypes := #[ty_s_epoch_Limbo, ty_s_epoch_Limbo] }) ty_s_epoch_Limbo [(.slice y1.1.a y1.1.len y1.1.cap), (.slice x40.a x40.len x40.cap)]) (.one (.leaf .slice)) fun x41 =>
    .again 512 [(.slice x41.a x41.len x41.cap), (.int .i64 (w64 (y1.2.1 + 1)))])
  else (
    .look (opS Try.prog (.nilCheck (.tmp 0)) ty_unit [(.pointer p0)]) (.one (.leaf .addr)) fun x44 =>
    .ld x44 .ptr fun x46 =>
    .look (opS Try.prog (.nilCheck (.tmp 0)) ty_unit [(.pointer x46)]) (.one (.leaf .addr)) fun x47 =>
    .ld (x47.add 7) .map fun x49 =>
    .look (opS Try.prog (.nilCheck (.tmp 0)) ty_unit [(.pointer p0)]) (.one (.leaf .addr)) fun x51 =>
    .ld (x51.add 1) (.int .i64) fun x53 =>
    .act (opS Try.prog (.mapUpdate ty_m_int_s_epoch_Limbo (.tmp 0) (.tmp 1) (.tmp 2)) ty_unit [(.map x49), (.int .i64 x53), (.slice y1.1.a y1.1.len y1.1.cap)]) .unit fun _ =>
    .look (opS Try.prog (.nilCheck (.tmp 0)) ty_unit [(.pointer p0)]) (.one (.leaf .addr)) fun x56 =>
    .st (x56.add 4) .nilIface <|
    .ret (.tuple #[]))
noncomputable def t_guard_look_end (p0 : Option Addr) : Tree :=
  .look (opS Try.prog (.nilCheck (.tmp 0)) ty_unit [(.pointer p0)]) (.one (.leaf .addr)) fun x8 =>
  .ld (x8.add 4) .val fun x10 =>
  .look (opS Try.prog (.typeAssert (.tmp 0) ty_guard_Machine ty_p_epoch_Turn true) ty_unit [x10]) (.tup [(.leaf .ptr), (.leaf .bool)]) fun x11 =>
  bif x11.2.1 then (
    .look (opS Try.prog (.nilCheck (.tmp 0)) ty_unit [(.pointer p0)]) (.one (.leaf .addr)) fun x15 =>
    .ld x15 .ptr fun x17 =>
    .look (opS Try.prog (.nilCheck (.tmp 0)) ty_unit [(.pointer x17)]) (.one (.leaf .addr)) fun x18 =>
    .ld (x18.add 7) .map fun x20 =>
    .look (opS Try.prog (.nilCheck (.tmp 0)) ty_unit [(.pointer p0)]) (.one (.leaf .addr)) fun x22 =>
    .ld (x22.add 1) (.int .i64) fun x24 =>
    .call f_epoch_Turn_Left [(.pointer x11.1)] (.one (.leaf .slice)) fun x26 =>
    .check (ldS (x22.add 1)) (.int .i64 x24) <|
    .check (opS Try.prog (.nilCheck (.tmp 0)) ty_unit [(.pointer p0)]) (.pointer (some x22)) <|
    .check (ldS (x18.add 7)) (.map x20) <|
    .check (opS Try.prog (.nilCheck (.tmp 0)) ty_unit [(.pointer x17)]) (.pointer (some x18)) <|
    .check (ldS x15) (.pointer x17) <|
    .check (opS Try.prog (.nilCheck (.tmp 0)) ty_unit [(.pointer p0)]) (.pointer (some x15)) <|
    .act (opS Try.prog (.mapUpdate ty_m_int_s_epoch_Limbo (.tmp 0) (.tmp 1) (.tmp 2)) ty_unit [(.map x20), (.int .i64 x24), (.slice x26.a x26.len x26.cap)]) .unit fun _ =>
    .look (opS Try.prog (.nilCheck (.tmp 0)) ty_unit [(.pointer p0)]) (.one (.leaf .addr)) fun x56 =>
    .st (x56.add 4) .nilIface <|
    .ret (.tuple #[]))
  else (
    .look (opS Try.prog (.typeAssert (.tmp 0) ty_guard_Machine ty_p_hazard_Scan true) ty_unit [x10]) (.tup [(.leaf .ptr), (.leaf .bool)]) fun x27 =>
    bif x27.2.1 then (
      .call f_hazard_Scan_Left [(.pointer x27.1)] (.one (.leaf .slice)) fun x31 =>
      .loop 512 t_guard_look_end_L1_sh [(.slice none 0 0), (.int .i64 0)] (t_guard_look_end_L1 p0 x31))
    else (
      .look (opS Try.prog (.nilCheck (.tmp 0)) ty_unit [(.pointer p0)]) (.one (.leaf .addr)) fun x56 =>
      .st (x56.add 4) .nilIface <|
      .ret (.tuple #[])))
theorem t_guard_look_end_eq (p0 : Option Addr) : funcTree Try.prog { quiet := [16, 34, 36, 40, 41, 66, 67, 75, 76, 77, 97, 98, 103, 108, 110, 139, 146, 149, 161], quietTmp := false, fncs := [], ifcs := [] } Try.f141 [(.pointer p0)] = t_guard_look_end p0 := by kernel_rfl
theorem t_guard_look_end_spec {p0 : Option Addr} {H : Heap} {R : Value → Heap → Prop} (h : ∀ L, wp Try.prog (t_guard_look_end p0) L H R) : SpecF Try.prog f_guard_look_end #[(.pointer p0)] H R :=
  spec_of_tree (cfg := { quiet := [16, 34, 36, 40, 41, 66, 67, 75, 76, 77, 97, 98, 103, 108, 110, 139, 146, 149, 161], quietTmp := false, fncs := [], ifcs := [] }) Try.func141 fun L => (t_guard_look_end_eq p0).symm ▸ h L

/- (*magpie/guard.look).Step -/
noncomputable def t_guard_look_Step (p0 : Option Addr) (p1 : Option Addr) : Tree :=
  .look (opS Try.prog (.nilCheck (.tmp 0)) ty_unit [(.pointer p0)]) (.one (.leaf .addr)) fun x7 =>
  .ld (x7.add 2) .bool fun x9 =>
  bif x9 then (
    .look (opS Try.prog (.nilCheck (.tmp 0)) ty_unit [(.pointer p0)]) (.one (.leaf .addr)) fun x11 =>
    .st (x11.add 2) (.bool false) <|
    .look (opS Try.prog (.nilCheck (.tmp 0)) ty_unit [(.pointer p0)]) (.one (.leaf .addr)) fun x14 =>
    .ld x14 .ptr fun x16 =>
    .look (opS Try.prog (.nilCheck (.tmp 0)) ty_unit [(.pointer x16)]) (.one (.leaf .addr)) fun x17 =>
    .ld (x17.add 7) .map fun x19 =>
    .look (opS Try.prog (.nilCheck (.tmp 0)) ty_unit [(.pointer p0)]) (.one (.leaf .addr)) fun x21 =>
    .ld (x21.add 1) (.int .i64) fun x23 =>
    .look (opS Try.prog (.lookup ty_m_int_s_epoch_Limbo (.tmp 0) (.tmp 1) false) ty_s_epoch_Limbo [(.map x19), (.int .i64 x23)]) (.one (.leaf .slice)) fun x24 =>
    .look (opS Try.prog (.nilCheck (.tmp 0)) ty_unit [(.pointer p0)]) (.one (.leaf .addr)) fun x31 =>
    .ld x31 .ptr fun x33 =>
    .look (opS Try.prog (.nilCheck (.tmp 0)) ty_unit [(.pointer x33)]) (.one (.leaf .addr)) fun x34 =>
    .ld x34 .val fun x36 =>
    .look (opS Try.prog (.typeAssert (.tmp 0) ty_guard_mode ty_guard_epochs false) ty_guard_epochs [x36]) (.one (.agg [(.int .i64), (.int .i64)])) fun x37 =>
    .qcall f_epoch_Table_Global [(.agg #[(.int .i64 x37.1), (.int .i64 x37.2.1)])] (.one (.leaf (.int .i64))) fun x39 =>
    .call f_arena_Arena_Raw [(.pointer p1), (.int .i64 x39)] (.one (.leaf (.int .i64))) fun x40 =>
    .look (opS Try.prog (.indexAddr ty_s_epoch_Limbo (.tmp 0) (.tmp 1)) ty_unit [(.slice x24.a x24.len x24.cap), (.int .i64 (w64 (((x24.len : Nat) : Int) - 1)))]) (.one (.leaf .addr)) fun x41 =>
    .st (x41.add 1) (.int .i64 x40) <|
    .look (opS Try.prog (.nilCheck (.tmp 0)) ty_unit [(.pointer p0)]) (.one (.leaf .addr)) fun x44 =>
    .ld (x44.add 3) (.int .i64) fun x46 =>
    .ret (.bool ((x46 : Int) == 0)))
  else (
    .look (opS Try.prog (.nilCheck (.tmp 0)) ty_unit [(.pointer p0)]) (.one (.leaf .addr)) fun x49 =>
    .ld (x49.add 4) .val fun x51 =>
    .look (opS Try.prog (.binOp .eql ty_guard_Machine (.tmp 0) (.const .nilIface) ty_guard_Machine) ty_bool [x51]) (.one (.leaf .bool)) fun x52 =>
    bif x52 then (
      .look (opS Try.prog (.nilCheck (.tmp 0)) ty_unit [(.pointer p0)]) (.one (.leaf .addr)) fun x55 =>
      .ld (x55.add 3) (.int .i64) fun x57 =>
      bif (decide ((x57 : Int) > 0)) then (
        .call f_guard_look_begin [(.pointer p0)] .unit fun _ =>
        .look (opS Try.prog (.nilCheck (.tmp 0)) ty_unit [(.pointer p0)]) (.one (.leaf .addr)) fun x63 =>
        .ld (x63.add 4) .val fun x65 =>
        .look (opS Try.prog (.binOp .neq ty_guard_Machine (.tmp 0) (.const .nilIface) ty_guard_Machine) ty_bool [x65]) (.one (.leaf .bool)) fun x66 =>
        bif x66 then (
          .look (opS Try.prog (.nilCheck (.tmp 0)) ty_unit [(.pointer p0)]) (.one (.leaf .addr)) fun x69 =>
          .ld (x69.add 4) .val fun x71 =>
          .act (opS Try.prog (.call { callee := .invoke (.tmp 0) "Step", args := #[(.tmp 1)], argTypes := #[ty_p_arena_Arena] }) ty_bool [x71, (.pointer p1)]) (.one (.leaf .bool)) fun x73 =>
          bif x73 then (
            .call f_guard_look_end [(.pointer p0)] .unit fun _ =>
            .look (opS Try.prog (.nilCheck (.tmp 0)) ty_unit [(.pointer p0)]) (.one (.leaf .addr)) fun x78 =>
            .ld (x78.add 4) .val fun x80 =>
            .look (opS Try.prog (.binOp .eql ty_guard_Machine (.tmp 0) (.const .nilIface) ty_guard_Machine) ty_bool [x80]) (.one (.leaf .bool)) fun x81 =>
            bif x81 then (
              .look (opS Try.prog (.nilCheck (.tmp 0)) ty_unit [(.pointer p0)]) (.one (.leaf .addr)) fun x84 =>
              .ld (x84.add 3) (.int .i64) fun x86 =>
              .ret (.bool ((x86 : Int) == 0)))
            else (
              .ret (.bool false)))
          else (
            .look (opS Try.prog (.nilCheck (.tmp 0)) ty_unit [(.pointer p0)]) (.one (.leaf .addr)) fun x78 =>
            .ld (x78.add 4) .val fun x80 =>
            .look (opS Try.prog (.binOp .eql ty_guard_Machine (.tmp 0) (.const .nilIface) ty_guard_Machine) ty_bool [x80]) (.one (.leaf .bool)) fun x81 =>
            bif x81 then (
              .look (opS Try.prog (.nilCheck (.tmp 0)) ty_unit [(.pointer p0)]) (.one (.leaf .addr)) fun x84 =>
              .ld (x84.add 3) (.int .i64) fun x86 =>
              .ret (.bool ((x86 : Int) == 0)))
            else (
              .ret (.bool false))))
        else (
          .look (opS Try.prog (.nilCheck (.tmp 0)) ty_unit [(.pointer p0)]) (.one (.leaf .addr)) fun x78 =>
          .ld (x78.add 4) .val fun x80 =>
          .look (opS Try.prog (.binOp .eql ty_guard_Machine (.tmp 0) (.const .nilIface) ty_guard_Machine) ty_bool [x80]) (.one (.leaf .bool)) fun x81 =>
          bif x81 then (
            .look (opS Try.prog (.nilCheck (.tmp 0)) ty_unit [(.pointer p0)]) (.one (.leaf .addr)) fun x84 =>
            .ld (x84.add 3) (.int .i64) fun x86 =>
            .ret (.bool ((x86 : Int) == 0)))
          else (
            .ret (.bool false))))
      else (
        .look (opS Try.prog (.nilCheck (.tmp 0)) ty_unit [(.pointer p0)]) (.one (.leaf .addr)) fun x63 =>
        .ld (x63.add 4) .val fun x65 =>
        .look (opS Try.prog (.binOp .neq ty_guard_Machine (.tmp 0) (.const .nilIface) ty_guard_Machine) ty_bool [x65]) (.one (.leaf .bool)) fun x66 =>
        bif x66 then (
          .look (opS Try.prog (.nilCheck (.tmp 0)) ty_unit [(.pointer p0)]) (.one (.leaf .addr)) fun x69 =>
          .ld (x69.add 4) .val fun x71 =>
          .act (opS Try.prog (.call { callee := .invoke (.tmp 0) "Step", args := #[(.tmp 1)], argTypes := #[ty_p_arena_Arena] }) ty_bool [x71, (.pointer p1)]) (.one (.leaf .bool)) fun x73 =>
          bif x73 then (
            .call f_guard_look_end [(.pointer p0)] .unit fun _ =>
            .look (opS Try.prog (.nilCheck (.tmp 0)) ty_unit [(.pointer p0)]) (.one (.leaf .addr)) fun x78 =>
            .ld (x78.add 4) .val fun x80 =>
            .look (opS Try.prog (.binOp .eql ty_guard_Machine (.tmp 0) (.const .nilIface) ty_guard_Machine) ty_bool [x80]) (.one (.leaf .bool)) fun x81 =>
            bif x81 then (
              .look (opS Try.prog (.nilCheck (.tmp 0)) ty_unit [(.pointer p0)]) (.one (.leaf .addr)) fun x84 =>
              .ld (x84.add 3) (.int .i64) fun x86 =>
              .ret (.bool ((x86 : Int) == 0)))
            else (
              .ret (.bool false)))
          else (
            .look (opS Try.prog (.nilCheck (.tmp 0)) ty_unit [(.pointer p0)]) (.one (.leaf .addr)) fun x78 =>
            .ld (x78.add 4) .val fun x80 =>
            .look (opS Try.prog (.binOp .eql ty_guard_Machine (.tmp 0) (.const .nilIface) ty_guard_Machine) ty_bool [x80]) (.one (.leaf .bool)) fun x81 =>
            bif x81 then (
              .look (opS Try.prog (.nilCheck (.tmp 0)) ty_unit [(.pointer p0)]) (.one (.leaf .addr)) fun x84 =>
              .ld (x84.add 3) (.int .i64) fun x86 =>
              .ret (.bool ((x86 : Int) == 0)))
            else (
              .ret (.bool false))))
        else (
          .look (opS Try.prog (.nilCheck (.tmp 0)) ty_unit [(.pointer p0)]) (.one (.leaf .addr)) fun x78 =>
          .ld (x78.add 4) .val fun x80 =>
          .look (opS Try.prog (.binOp .eql ty_guard_Machine (.tmp 0) (.const .nilIface) ty_guard_Machine) ty_bool [x80]) (.one (.leaf .bool)) fun x81 =>
          bif x81 then (
            .look (opS Try.prog (.nilCheck (.tmp 0)) ty_unit [(.pointer p0)]) (.one (.leaf .addr)) fun x84 =>
            .ld (x84.add 3) (.int .i64) fun x86 =>
            .ret (.bool ((x86 : Int) == 0)))
          else (
            .ret (.bool false)))))
    else (
      .look (opS Try.prog (.nilCheck (.tmp 0)) ty_unit [(.pointer p0)]) (.one (.leaf .addr)) fun x63 =>
      .ld (x63.add 4) .val fun x65 =>
      .look (opS Try.prog (.binOp .neq ty_guard_Machine (.tmp 0) (.const .nilIface) ty_guard_Machine) ty_bool [x65]) (.one (.leaf .bool)) fun x66 =>
      bif x66 then (
        .look (opS Try.prog (.nilCheck (.tmp 0)) ty_unit [(.pointer p0)]) (.one (.leaf .addr)) fun x69 =>
        .ld (x69.add 4) .val fun x71 =>
        .act (opS Try.prog (.call { callee := .invoke (.tmp 0) "Step", args := #[(.tmp 1)], argTypes := #[ty_p_arena_Arena] }) ty_bool [x71, (.pointer p1)]) (.one (.leaf .bool)) fun x73 =>
        bif x73 then (
          .call f_guard_look_end [(.pointer p0)] .unit fun _ =>
          .look (opS Try.prog (.nilCheck (.tmp 0)) ty_unit [(.pointer p0)]) (.one (.leaf .addr)) fun x78 =>
          .ld (x78.add 4) .val fun x80 =>
          .look (opS Try.prog (.binOp .eql ty_guard_Machine (.tmp 0) (.const .nilIface) ty_guard_Machine) ty_bool [x80]) (.one (.leaf .bool)) fun x81 =>
          bif x81 then (
            .look (opS Try.prog (.nilCheck (.tmp 0)) ty_unit [(.pointer p0)]) (.one (.leaf .addr)) fun x84 =>
            .ld (x84.add 3) (.int .i64) fun x86 =>
            .ret (.bool ((x86 : Int) == 0)))
          else (
            .ret (.bool false)))
        else (
          .look (opS Try.prog (.nilCheck (.tmp 0)) ty_unit [(.pointer p0)]) (.one (.leaf .addr)) fun x78 =>
          .ld (x78.add 4) .val fun x80 =>
          .look (opS Try.prog (.binOp .eql ty_guard_Machine (.tmp 0) (.const .nilIface) ty_guard_Machine) ty_bool [x80]) (.one (.leaf .bool)) fun x81 =>
          bif x81 then (
            .look (opS Try.prog (.nilCheck (.tmp 0)) ty_unit [(.pointer p0)]) (.one (.leaf .addr)) fun x84 =>
            .ld (x84.add 3) (.int .i64) fun x86 =>
            .ret (.bool ((x86 : Int) == 0)))
          else (
            .ret (.bool false))))
      else (
        .look (opS Try.prog (.nilCheck (.tmp 0)) ty_unit [(.pointer p0)]) (.one (.leaf .addr)) fun x78 =>
        .ld (x78.add 4) .val fun x80 =>
        .look (opS Try.prog (.binOp .eql ty_guard_Machine (.tmp 0) (.const .nilIface) ty_guard_Machine) ty_bool [x80]) (.one (.leaf .bool)) fun x81 =>
        bif x81 then (
          .look (opS Try.prog (.nilCheck (.tmp 0)) ty_unit [(.pointer p0)]) (.one (.leaf .addr)) fun x84 =>
          .ld (x84.add 3) (.int .i64) fun x86 =>
          .ret (.bool ((x86 : Int) == 0)))
        else (
          .ret (.bool false)))))
theorem t_guard_look_Step_eq (p0 : Option Addr) (p1 : Option Addr) : funcTree Try.prog { quiet := [16, 34, 36, 40, 41, 66, 67, 75, 76, 77, 97, 98, 103, 108, 110, 139, 146, 149, 161], quietTmp := false, fncs := [], ifcs := [] } Try.f140 [(.pointer p0), (.pointer p1)] = t_guard_look_Step p0 p1 := by kernel_rfl
theorem t_guard_look_Step_spec {p0 : Option Addr} {p1 : Option Addr} {H : Heap} {R : Value → Heap → Prop} (h : ∀ L, wp Try.prog (t_guard_look_Step p0 p1) L H R) : SpecF Try.prog f_guard_look_Step #[(.pointer p0), (.pointer p1)] H R :=
  spec_of_tree (cfg := { quiet := [16, 34, 36, 40, 41, 66, 67, 75, 76, 77, 97, 98, 103, 108, 110, 139, 146, 149, 161], quietTmp := false, fncs := [], ifcs := [] }) Try.func140 fun L => (t_guard_look_Step_eq p0 p1).symm ▸ h L

/- (*magpie/guard.Guard).Force -/
noncomputable def t_guard_Guard_Force (p0 : Option Addr) (p1 : Int) : Tree :=
  .look (opS Try.prog (.nilCheck (.tmp 0)) ty_unit [(.pointer p0)]) (.one (.leaf .addr)) fun x9 =>
  .ld (x9.add 7) .map fun x11 =>
  .look (opS Try.prog (.lookup ty_m_int_s_epoch_Limbo (.tmp 0) (.tmp 1) false) ty_s_epoch_Limbo [(.map x11), (.int .i64 p1)]) (.one (.leaf .slice)) fun x13 =>
  bif ((((x13.len : Nat) : Int) : Int) == 0) then (
    .ret .nilIface)
  else (
    .newP (.cells #[(.pointer p0), (.int .i64 p1), (.bool false), (.int .i64 1), .nilIface] ty_guard_look) fun x19 =>
    .look (opS Try.prog (.nilCheck (.tmp 0)) ty_unit [(.pointer p0)]) (.one (.leaf .addr)) fun x22 =>
    .ld x22 .val fun x24 =>
    .look (opS Try.prog (.typeAssert (.tmp 0) ty_guard_mode ty_guard_epochs true) ty_guard_epochs_bool [x24]) (.tup [(.agg [(.int .i64), (.int .i64)]), (.leaf .bool)]) fun x25 =>
    .newP (.cells #[(.int .i64 0), (.int .i64 0)] ty_guard_epochs) fun x6 =>
    .stA x6 [(.int .i64 x25.1.1), (.int .i64 x25.1.2.1)] <|
    bif x25.2.1 then (
      .look (opS Try.prog (.nilCheck (.tmp 0)) ty_unit [(.pointer (some x19))]) (.one (.leaf .addr)) fun x30 =>
      .st (x30.add 3) (.int .i64 3) <|
      .call f_guard_look_begin [(.pointer (some x19))] .unit fun _ =>
      .ret (.iface ty_p_guard_look (.pointer (some x19))))
    else (
      .call f_guard_look_begin [(.pointer (some x19))] .unit fun _ =>
      .ret (.iface ty_p_guard_look (.pointer (some x19)))))
theorem t_guard_Guard_Force_eq (p0 : Option Addr) (p1 : Int) : funcTree Try.prog { quiet := [16, 34, 36, 40, 41, 66, 67, 75, 76, 77, 97, 98, 103, 108, 110, 139, 146, 149, 161], quietTmp := false, fncs := [], ifcs := [] } Try.f26 [(.pointer p0), (.int .i64 p1)] = t_guard_Guard_Force p0 p1 := by kernel_rfl
theorem t_guard_Guard_Force_spec {p0 : Option Addr} {p1 : Int} {H : Heap} {R : Value → Heap → Prop} (h : ∀ L, wp Try.prog (t_guard_Guard_Force p0 p1) L H R) : SpecF Try.prog f_guard_Guard_Force #[(.pointer p0), (.int .i64 p1)] H R :=
  spec_of_tree (cfg := { quiet := [16, 34, 36, 40, 41, 66, 67, 75, 76, 77, 97, 98, 103, 108, 110, 139, 146, 149, 161], quietTmp := false, fncs := [], ifcs := [] }) Try.func26 fun L => (t_guard_Guard_Force_eq p0 p1).symm ▸ h L

end Go.Proofs.Ytcjhakdopnamoaa

set_option linter.unusedVariables false
set_option linter.unusedSimpArgs false
set_option maxRecDepth 20000
namespace Go.Proofs.Ytcjhakdopnamoaa
open Go Go.Fw

/-! ### guard.Guard -/

structure Gd where
  ep : Bool
  w : Int
  ta : Int
  pl : Pl
  th : Int
def gmode (ep : Bool) (w ta : Int) : Value := .iface (bif ep then ty_guard_epochs else ty_guard_hazards) (.agg #[.int .i64 w, .int .i64 ta])
def Gd.cells (g : Gd) (mq : Nat) : List Value := [gmode g.ep g.w g.ta, .int .i64 g.pl.work, .int .i64 g.pl.heads, .int .i64 g.pl.links, .int .i64 g.pl.gens, .int .i64 g.pl.carved, .int .i64 g.th, .map (some mq)]

/-- What each worker has retired: a slice, what it has, its blocks. -/
structure LE where
  k : Int
  s : Sl
  xs : List (Int × Int)
  hb : Bl
def leC (e : List LE) : List (Int × Sl) := e.map fun x => (x.k, x.s)
def leB : List LE → Bl
  | [] => []
  | x :: e => x.hb ++ leB e
def leGet : List LE → Int → LE
  | [], k => ⟨k, sl0, [], []⟩
  | x :: e, k => if k = x.k then x else leGet e k
def leRest : List LE → Int → Bl
  | [], _ => []
  | x :: e, k => if k = x.k then leB e else x.hb ++ leRest e k
def lePut : List LE → LE → List LE
  | [], y => [y]
  | x :: e, y => if y.k = x.k then y :: e else x :: lePut e y
theorem leC_get : ∀ (e : List LE) (k : Int), (match alGet (leC e) k with | some v => slV v | none => slV sl0) = slV (leGet e k).s
  | [], k => rfl
  | x :: e, k => by
    show (match (if k = x.k then some x.s else alGet (leC e) k) with | some v => slV v | none => slV sl0) = slV (if k = x.k then x else leGet e k).s
    by_cases h : k = x.k
    · rw [if_pos h, if_pos h]
    · rw [if_neg h, if_neg h]; exact leC_get e k
theorem leC_put : ∀ (e : List LE) (y : LE), leC (lePut e y) = alPut (leC e) y.k y.s
  | [], y => rfl
  | x :: e, y => by
    show leC (if y.k = x.k then y :: e else x :: lePut e y) = if y.k = x.k then (x.k, y.s) :: leC e else (x.k, x.s) :: alPut (leC e) y.k y.s
    by_cases h : y.k = x.k
    · rw [if_pos h, if_pos h, ← h]; rfl
    · rw [if_neg h, if_neg h, ← leC_put e y]; rfl
theorem leGet_put : ∀ (e : List LE) (y : LE) (k : Int), leGet (lePut e y) k = if k = y.k then y else leGet e k
  | [], y, k => rfl
  | x :: e, y, k => by
    show leGet (if y.k = x.k then y :: e else x :: lePut e y) k = if k = y.k then y else if k = x.k then x else leGet e k
    by_cases h : y.k = x.k
    · rw [if_pos h]
      show (if k = y.k then y else leGet e k) = _
      by_cases h2 : k = y.k
      · rw [if_pos h2, if_pos h2]
      · rw [if_neg h2, if_neg h2, if_neg (by rw [← h]; exact h2)]
    · rw [if_neg h]
      show (if k = x.k then x else leGet (lePut e y) k) = _
      by_cases h2 : k = x.k
      · rw [if_pos h2, if_pos h2, if_neg (by rw [h2]; exact fun e => h e.symm)]
      · rw [if_neg h2, if_neg h2]; exact leGet_put e y k
theorem leB_c {c : Bl → Nat} (c0 : c [] = 0) (ca : ∀ a b, c (a ++ b) = c a + c b) : ∀ (e : List LE) (k : Int), c (leB e) = c (leGet e k).hb + c (leRest e k)
  | [], k => by show c [] = c [] + c []; omega
  | x :: e, k => by
    show c (x.hb ++ leB e) = c (if k = x.k then x else leGet e k).hb + c (if k = x.k then leB e else x.hb ++ leRest e k)
    by_cases h : k = x.k
    · rw [if_pos h, if_pos h, ca]
    · rw [if_neg h, if_neg h, ca, ca, leB_c c0 ca e k]; omega
theorem leB_put_c {c : Bl → Nat} (c0 : c [] = 0) (ca : ∀ a b, c (a ++ b) = c a + c b) : ∀ (e : List LE) (y : LE), c (leB (lePut e y)) = c y.hb + c (leRest e y.k)
  | [], y => ca _ _
  | x :: e, y => by
    show c (leB (if y.k = x.k then y :: e else x :: lePut e y)) = c y.hb + c (if y.k = x.k then leB e else x.hb ++ leRest e y.k)
    by_cases h : y.k = x.k
    · rw [if_pos h, if_pos h]; exact ca _ _
    · rw [if_neg h, if_neg h, ca]
      show c (x.hb ++ leB (lePut e y)) = _
      rw [ca, leB_put_c c0 ca e y]; omega

/-- A guard's blocks. -/
def Gd.bl (g : Gd) (q mq : Nat) (e : List LE) : Bl := (q, oc ty_guard_Guard (g.cells mq)) :: (mq, mapObj slV (leC e)) :: leB e
/-- Its lists are what they say. -/
def leOk (e : List LE) : Prop := ∀ k, SlOf (leGet e k).hb ty_epoch_Limbo eL (leGet e k).s (leGet e k).xs
theorem leOk.put {e : List LE} (h : leOk e) {y : LE} (hy : SlOf y.hb ty_epoch_Limbo eL y.s y.xs) : leOk (lePut e y) := fun k => by
  rw [leGet_put]
  split
  · exact hy
  · exact h k

theorem ta_epT (w ta : Int) (u : TypeId) : opS Try.prog (.typeAssert (.tmp 0) ty_guard_mode ty_guard_epochs true) u [gmode true w ta] = .pure (.value (.tuple #[.agg #[.int .i64 w, .int .i64 ta], .bool true])) := by kernel_rfl
theorem ta_epF (w ta : Int) (u : TypeId) : opS Try.prog (.typeAssert (.tmp 0) ty_guard_mode ty_guard_epochs true) u [gmode false w ta] = .pure (.value (.tuple #[.agg #[.int .i64 0, .int .i64 0], .bool false])) := by kernel_rfl
theorem ta_haT (w ta : Int) (u : TypeId) : opS Try.prog (.typeAssert (.tmp 0) ty_guard_mode ty_guard_hazards true) u [gmode false w ta] = .pure (.value (.tuple #[.agg #[.int .i64 w, .int .i64 ta], .bool true])) := by kernel_rfl
theorem ta_ep (w ta : Int) (u : TypeId) : opS Try.prog (.typeAssert (.tmp 0) ty_guard_mode ty_guard_epochs false) u [gmode true w ta] = .pure (.value (.agg #[.int .i64 w, .int .i64 ta])) := by kernel_rfl
end Go.Proofs.Ytcjhakdopnamoaa

set_option linter.unusedVariables false
set_option linter.unusedSimpArgs false
set_option maxRecDepth 20000
namespace Go.Proofs.Ytcjhakdopnamoaa
open Go Go.Fw

section
variable {L : Hands} {R : Value → Heap → Prop} {G : Heap} {l rest : Bl} {A : Ar} {I : List Nat}

theorem gp_end (ok : Ok0 G (keys l)) : G.le (putL l G) := by
  intro b o hb
  rw [putL_out]
  · exact hb
  · intro h; rw [ok.no b h] at hb; cases hb

theorem epochTable_det {w n : Int} (b : 0 ≤ w ∧ w ≤ 100000) (H : Heap) : Det Try.prog f_guard_epochTable [.int .i64 w, .int .i64 n] H (.agg #[.int .i64 w, .int .i64 n]) H := by
  refine t_guard_epochTable_spec fun L => ?_
  unfold t_guard_epochTable
  have ok0 : Ok0 H (keys []) := ⟨.nil, fun b h => (by cases h)⟩
  refine p_newP (l := []) ok0 fun x4 ok0 => ?_
  refine wq_ERaw (w := w) (n := n) b ?_
  refine p_newP ok0 fun x5 ok0 => ?_
  refine p_stA 0 ok0 rfl rfl rfl rfl ?_
  have ok1 : Ok0 H (keys [(x5, oc ty_epoch_Table [.int .i64 w, .int .i64 n]), (x4, oc ty_epoch_Table [.int .i64 0, .int .i64 0])]) := ok0
  show wp Try.prog _ L (putL [(x5, oc ty_epoch_Table [.int .i64 w, .int .i64 n]), (x4, oc ty_epoch_Table [.int .i64 0, .int .i64 0])] H) _
  refine p_ldA (l := [(x5, oc ty_epoch_Table [.int .i64 w, .int .i64 n]), (x4, oc ty_epoch_Table [.int .i64 0, .int .i64 0])]) 0 ok1 rfl rfl rfl ?_
  refine p_stA 1 ok1 rfl rfl rfl rfl ?_
  refine ⟨(w, n, ()), ?_, H, gp_end (by exact ok1), rfl, rfl⟩
  refine ldK_still (putL_get (i := 1) H (by exact ok1.nd) rfl) 2 0 #[] (by exact Nat.le_refl 2) ?_
  rfl
theorem of_det {w n : Int} (ep : Bool) (b : 0 ≤ w ∧ w ≤ 100000) (H : Heap) : Det Try.prog f_guard_of [.int .i64 w, .int .i64 n, .bool ep] H (gmode ep w n) H := by
  refine t_guard_of_spec fun L => ?_
  unfold t_guard_of
  have ok0 : Ok0 H (keys []) := ⟨.nil, fun b h => (by cases h)⟩
  cases ep with
  | true =>
    refine wp_true rfl ?_
    refine wp_qcall_det (x := (w, n, ())) (epochTable_det b H) ?_
    exact wp_ret_of ⟨rfl, rfl⟩
  | false =>
    refine wp_false rfl ?_
    refine wq_HRaw (w := w) (n := n) b ?_
    refine p_newP (l := []) ok0 fun x7 ok0 => ?_
    refine p_stA 0 ok0 rfl rfl rfl rfl ?_
    have ok1 : Ok0 H (keys [(x7, oc ty_hazard_Table [.int .i64 w, .int .i64 n])]) := ok0
    show wp Try.prog _ L (putL [(x7, oc ty_hazard_Table [.int .i64 w, .int .i64 n])] H) _
    refine p_ldA (l := [(x7, oc ty_hazard_Table [.int .i64 w, .int .i64 n])]) 0 ok1 rfl rfl rfl ?_
    exact ⟨H, gp_end ok1, rfl, rfl⟩
theorem gwords_ep (w n : Int) : opS Try.prog (.call { callee := .invoke (.tmp 0) "magpie/guard.words", args := #[], argTypes := #[] }) ty_int [gmode true w n] = .pure (.enter f_guard_epochs_words [.agg #[.int .i64 w, .int .i64 n]].toArray) := by kernel_rfl
theorem gwords_ha (w n : Int) : opS Try.prog (.call { callee := .invoke (.tmp 0) "magpie/guard.words", args := #[], argTypes := #[] }) ty_int [gmode false w n] = .pure (.enter f_guard_hazards_words [.agg #[.int .i64 w, .int .i64 n]].toArray) := by kernel_rfl
theorem GRaw_det {w n : Int} (ep : Bool) (b : 0 ≤ w ∧ w ≤ 100000) (H : Heap) : Det Try.prog f_guard_Raw [.int .i64 w, .int .i64 n, .bool ep] H (.int .i64 (bif ep then 1 + w else 2 * w)) H := by
  refine t_guard_Raw_spec fun L => ?_
  unfold t_guard_Raw
  refine wp_call_det (x := gmode ep w n) (of_det ep b H) ?_
  have e1 : imax w 0 = w := by unfold imax; rw [if_neg (by omega)]
  cases ep with
  | true =>
    refine act_enter (gwords_ep w n) ?_
    refine wp_call_det (x := 1 + w) ?_ (wp_ret_of ⟨rfl, rfl⟩)
    refine t_guard_epochs_words_spec (p0_0 := w) (p0_1 := n) fun L => ?_
    unfold t_guard_epochs_words
    refine wp_newP fun b hb => ?_
    refine wp_ld_of (x := w) (by rw [Heap.cell_set]; rfl) ?_
    rw [e1, w64_in (by omega) (by omega)]
    exact ⟨H, Heap.le_set_new _ hb, rfl, rfl⟩
  | false =>
    refine act_enter (gwords_ha w n) ?_
    refine wp_call_det (x := 2 * w) ?_ (wp_ret_of ⟨rfl, rfl⟩)
    refine t_guard_hazards_words_spec (p0_0 := w) (p0_1 := n) fun L => ?_
    unfold t_guard_hazards_words
    refine wp_newP fun b hb => ?_
    refine wp_ld_of (x := w) (by rw [Heap.cell_set]; rfl) ?_
    rw [e1, w64_in (by omega) (by omega)]
    exact ⟨H, Heap.le_set_new _ hb, rfl, rfl⟩

end
end Go.Proofs.Ytcjhakdopnamoaa

set_option linter.unusedVariables false
set_option maxRecDepth 20000
namespace Go.Proofs.Ytcjhakdopnamoaa
open Go Go.Fw

section
variable {L : Hands} {R : Value → Heap → Prop} {A : Ar} {I : List Nat} {l l' : Bl} {G : Heap}

theorem SlAt.row {α : Type} {E : Enc α} {e : TypeId} {s : Sl} {xs : List α} (hA : Aw I A) (ok : Ok I G (keys l)) (h : SlAt l e E s xs) : Row (own A l G) s.a (E.all xs) := by
  rcases h with ⟨rfl, rfl⟩ | ⟨b, pre, rest, r, rfl, h2, h3⟩
  · intro i hi; simp [Enc.all] at hi
  · refine cell_row hA ok h3 pre.length ?_
    rw [List.append_assoc, List.drop_left, List.take_left]
theorem SlAt.nil (l : Bl) {α : Type} (e : TypeId) (E : Enc α) : SlAt l e E ⟨none, 0, 0⟩ [] := .inl ⟨rfl, rfl⟩

/-- An element of a slice of numbers. -/
theorem rdA {s : Sl} {xs : List Int} {i : Int} {u : TypeId} {k : Int → Tree} (hA : Aw I A) (ok : Ok I G (keys l)) (hs : SlAt l ty_int eI s xs) (h0 : 0 ≤ i) (h1 : i < xs.length) (h : wp Try.prog (k (xs.getD i.toNat 0)) L (own A l G) R) :
    wp Try.prog (.look (opS Try.prog (.indexAddr ty_s_int (.tmp 0) (.tmp 1)) u [.slice s.a s.len s.cap, .int .i64 i]) (.one (.leaf .addr)) fun x => .ld x (.int .i64) k) L (own A l G) R := by
  rcases hs with ⟨rfl, rfl⟩ | ⟨b, pre, rest, r, rfl, h2, h3⟩
  · have : (([] : List Int).length : Int) = 0 := rfl
    omega
  · refine w_ixS (e := ty_int) rfl rfl rfl h0 h1 ?_
    refine w_ldm (x := xs.getD i.toNat 0) hA ok rfl h3 ?_ h
    have hl : i.toNat < xs.length := by omega
    rw [List.append_assoc, List.getElem?_append_right (by omega), eI_all, show pre.length + i.toNat - pre.length = i.toNat by omega, List.getElem?_append_left (by simpa using hl), List.getElem?_map, List.getElem?_eq_getElem hl]
    show some _ = _
    rw [List.getD_eq_getElem?_getD, List.getElem?_eq_getElem hl]; rfl

end
end Go.Proofs.Ytcjhakdopnamoaa

set_option linter.unusedVariables false
set_option linter.unusedSimpArgs false
set_option maxRecDepth 20000
namespace Go.Proofs.Ytcjhakdopnamoaa
open Go Go.Fw

/-- Words set, one by one. -/
structure Se where
  ws : List Int
  v : Int
structure SeJ where
  q : Nat
  s : Sl
  hb : Bl
def Se.bl (x : Se) (j : SeJ) : Bl := (j.q, oc ty_guard_sets [slV j.s, .int .i64 x.v]) :: j.hb
def Se.step (x : Se) (A : Ar) : Se × Ar :=
  match x.ws with
  | [] => (x, A)
  | w :: ws => ({ x with ws := ws }, A.storeR w x.v)
section
variable {L : Hands} {R : Value → Heap → Prop} {G : Heap} {l rest : Bl} {A : Ar} {I : List Nat}

/-- A guard is made. -/
theorem w_GNew {w n th : Int} {ep : Bool} {p : Pl} {K : Option Addr → Tree} (b : 0 ≤ w ∧ w ≤ 100000) (hA : Aw I A) (ok : Ok I G (keys l))
    (h : ∀ q mq, Ok I G (keys (Gd.bl ⟨ep, w, n, p, imax 1 (imin th 64)⟩ q mq [] ++ l)) → wp Try.prog (K (some ⟨q, 0, none⟩)) L (own A (Gd.bl ⟨ep, w, n, p, imax 1 (imin th 64)⟩ q mq [] ++ l) G) R) :
    wp Try.prog (.call f_guard_New [.int .i64 w, .int .i64 n, .bool ep, .int .i64 th, p.val] (.one (.leaf .ptr)) K) L (own A l G) R := by
  refine wp_call_of (R0 := fun v H => ∃ q mq, v = .pointer (some ⟨q, 0, none⟩) ∧ H = own A (Gd.bl ⟨ep, w, n, p, imax 1 (imin th 64)⟩ q mq [] ++ l) G ∧ Ok I G (keys (Gd.bl ⟨ep, w, n, p, imax 1 (imin th 64)⟩ q mq [] ++ l))) ?_ ?_
  · refine t_guard_New_spec (p0 := w) (p1 := n) (p2 := ep) (p3 := th) (p4_0 := p.work) (p4_1 := p.heads) (p4_2 := p.links) (p4_3 := p.gens) (p4_4 := p.carved) fun L => ?_
    unfold t_guard_New
    refine w_newP (c := plCells p) hA ok fun x9 ok1 => ?_
    refine w_ldA 0 hA ok1 rfl rfl rfl ?_
    have fin : ∀ {x9 x19 x21 : Nat} {rest : Bl} {l' : Bl}, Ok I G (keys l') → l'.Perm (Gd.bl ⟨ep, w, n, p, imax 1 (imin th 64)⟩ x21 x19 [] ++ (x9, oc ty_free_Place (plCells p)) :: l) → wp Try.prog (.ret (.pointer (some ⟨x21, 0, none⟩))) L (own A l' G) fun v H => ∃ q mq, v = .pointer (some ⟨q, 0, none⟩) ∧ H = own A (Gd.bl ⟨ep, w, n, p, imax 1 (imin th 64)⟩ q mq [] ++ l) G ∧ Ok I G (keys (Gd.bl ⟨ep, w, n, p, imax 1 (imin th 64)⟩ q mq [] ++ l)) := fun {x9 x19 x21 rest l'} ok hp => by
      obtain ⟨e1, ok2⟩ := own_perm (A := A) ok hp
      have nd : (keys (Gd.bl ⟨ep, w, n, p, imax 1 (imin th 64)⟩ x21 x19 [] ++ l)).Nodup := by
        have := ok2.nd
        exact (show (keys (Gd.bl ⟨ep, w, n, p, imax 1 (imin th 64)⟩ x21 x19 [] ++ l)).Sublist (keys (Gd.bl ⟨ep, w, n, p, imax 1 (imin th 64)⟩ x21 x19 [] ++ (x9, oc ty_free_Place (plCells p)) :: l)) from ((List.Sublist.refl _).append (List.sublist_cons_self _ _)).map _).nodup this
      have hm : ∀ q ∈ Gd.bl ⟨ep, w, n, p, imax 1 (imin th 64)⟩ x21 x19 [] ++ l, q ∈ Gd.bl ⟨ep, w, n, p, imax 1 (imin th 64)⟩ x21 x19 [] ++ (x9, oc ty_free_Place (plCells p)) :: l := fun q hq => by
        rcases List.mem_append.1 hq with h | h
        · exact List.mem_append_left _ h
        · exact List.mem_append_right _ (List.mem_cons_of_mem _ h)
      rw [e1]
      exact ⟨own A (Gd.bl ⟨ep, w, n, p, imax 1 (imin th 64)⟩ x21 x19 [] ++ l) G, own_sub ok2 nd hm, x21, x19, rfl, rfl, ok2.sub nd fun b hb => by
        obtain ⟨q, hq, e⟩ := List.mem_map.1 hb
        exact List.mem_map.2 ⟨q, hm q hq, e⟩⟩
    refine ⟨?_, ?_⟩
    · refine wp_call_det (x := (⟨bif ep then ty_guard_epochs else ty_guard_hazards, .agg #[.int .i64 w, .int .i64 n]⟩ : Ifv)) (of_det ep b _) ?_
      refine w_ckA 0 hA ok1 rfl rfl rfl rfl ?_
      refine w_newM hA ok1 fun x19 ok2 => ?_
      refine w_ckA 1 hA ok2 rfl rfl rfl rfl ?_
      refine w_newP (c := Gd.cells ⟨ep, w, n, p, imax 1 (imin th 64)⟩ x19) hA ok2 fun x21 ok3 => ?_
      exact fin (x9 := x9) (x19 := x19) (rest := []) ok3 (.refl _)
    · refine w_newM hA ok1 fun x19 ok2 => ?_
      refine w_ckA 1 hA ok2 rfl rfl rfl rfl ?_
      refine wp_call_det (x := (⟨bif ep then ty_guard_epochs else ty_guard_hazards, .agg #[.int .i64 w, .int .i64 n]⟩ : Ifv)) (of_det ep b _) ?_
      refine w_ckA 1 hA ok2 rfl rfl rfl rfl ?_
      refine w_newP (c := Gd.cells ⟨ep, w, n, p, imax 1 (imin th 64)⟩ x19) hA ok2 fun x21 ok3 => ?_
      exact fin (x9 := x9) (x19 := x19) (rest := []) ok3 (.refl _)
  · rintro v H ⟨q, mq, rfl, rfl, o⟩
    exact ⟨_, rfl, h q mq o⟩
end
end Go.Proofs.Ytcjhakdopnamoaa

set_option linter.unusedVariables false
set_option linter.unusedSimpArgs false
set_option maxRecDepth 20000
namespace Go.Proofs.Ytcjhakdopnamoaa
open Go Go.Fw

section
variable {L : Hands} {R : Value → Heap → Prop} {G : Heap} {l rest : Bl} {A : Ar} {I : List Nat} {g : Gd} {e : List LE} {q mq : Nat}

end
end Go.Proofs.Ytcjhakdopnamoaa

set_option linter.unusedVariables false
set_option linter.unusedSimpArgs false
set_option maxRecDepth 20000
namespace Go.Proofs.Ytcjhakdopnamoaa
open Go Go.Fw

theorem take_fst {xs : List (Int × Int)} {n : Nat} (h : n < xs.length) : (xs.map Prod.fst).take (n + 1) = (xs.map Prod.fst).take n ++ [(xs.getD n (0, 0)).1] := by
  rw [List.take_succ_eq_append_getElem (by simpa using h)]
  simp [List.getD, List.getElem?_eq_getElem h]

section
variable {L : Hands} {R : Value → Heap → Prop} {G : Heap} {l rest : Bl} {A : Ar} {I : List Nat}

/-- The handles of a list. -/
theorem w_handles {s : Sl} {xs : List (Int × Int)} {K : Sl → Tree} (hA : Aw I A) (ok : Ok I G (keys l)) (hs : SlOf l ty_epoch_Limbo eL s xs) (hm : xs.length ≤ 1000)
    (h : ∀ s' tl, SlOf tl ty_int eI s' (xs.map Prod.fst) → Ok I G (keys (l ++ tl)) → wp Try.prog (K s') L (own A (l ++ tl) G) R) :
    wp Try.prog (.call f_guard_handles [.slice s.a s.len s.cap] (.one (.leaf .slice)) K) L (own A l G) R := by
  refine wp_call_of (R0 := fun v H => ∃ s' tl, v = .slice s'.a s'.len s'.cap ∧ H = own A (l ++ tl) G ∧ SlOf tl ty_int eI s' (xs.map Prod.fst) ∧ Ok I G (keys (l ++ tl))) ?_ ?_
  · refine t_guard_handles_spec (p0 := s) fun L => ?_
    unfold t_guard_handles
    have hl := hs.len
    have es : own A l G = own A (l ++ []) G := by rw [List.append_nil]
    rw [es]
    refine wl_si (fun s' i H => 0 ≤ i ∧ i ≤ xs.length ∧ ∃ tl, SlOf tl ty_int eI s' ((xs.map Prod.fst).take i.toNat) ∧ Ok I G (keys (l ++ tl)) ∧ H = own A (l ++ tl) G) (fun _ i => (xs.length - i).toNat) ⟨none, 0, 0⟩ 0 ⟨by omega, by omega, [], .inl ⟨rfl, rfl⟩, by rw [List.append_nil]; exact ok, rfl⟩ ?_
    rintro s' i K ⟨i0, i1, tl, hs', ok4, rfl⟩
    rw [t_guard_handles_L1]
    by_cases d : i < xs.length
    · refine wp_true (decide_eq_true (by show i < ((s.len : Nat) : Int); rw [hl]; exact d)) ?_
      refine w_rdL hA ok4 (hs.mono fun p hp => List.mem_append_left _ hp) i0 d ?_
      refine w_newP (c := [.int .i64 0, .int .i64 0]) hA ok4 fun x5 ok5 => ?_
      refine w_stA 0 hA ok5 rfl rfl rfl rfl ?_
      obtain ⟨y, hy⟩ : ∃ y : Nat × Obj, y = (x5, oc ty_epoch_Limbo [.int .i64 (xs.getD i.toNat (0, 0)).1, .int .i64 (xs.getD i.toNat (0, 0)).2]) := ⟨_, rfl⟩
      have ok5 : Ok I G (keys ((y :: l) ++ tl)) := by rw [hy]; exact ok5
      have ee : ((x5, oc ty_epoch_Limbo [.int .i64 (xs.getD i.toNat (0, 0)).1, .int .i64 (xs.getD i.toNat (0, 0)).2]) :: l) ++ tl = (y :: l) ++ tl := by rw [hy]
      show wp Try.prog _ _ (own A (((x5, oc ty_epoch_Limbo [.int .i64 (xs.getD i.toNat (0, 0)).1, .int .i64 (xs.getD i.toNat (0, 0)).2]) :: l) ++ tl) G) _
      rw [ee]
      refine w_ld 0 (x := (xs.getD i.toNat (0, 0)).1) hA ok5 rfl (by rw [hy]; rfl) rfl ?_
      refine w_app1 hA ok5 hs' (by simp; omega) fun s2 tl2 hs2 ok6 _ => ?_
      obtain ⟨p1, ok7⟩ := own_perm (A := A) (l' := l ++ (y :: tl2)) ok6 (perm_by fun c d c0 cd ca => by simp only [List.cons_append, cd, ca]; omega)
      rw [w64_in (x := i + 1) (by omega) (by omega), p1]
      refine wp_again ⟨s2, i + 1, rfl, ⟨by omega, by omega, y :: tl2, ?_, ok7, rfl⟩, by omega⟩
      rw [show (i + 1).toNat = i.toNat + 1 by omega, take_fst (by omega)]
      exact hs2.mono fun p hp => List.mem_cons_of_mem _ hp
    · have hi : i = xs.length := by omega
      refine wp_false (decide_eq_false (by show ¬ i < ((s.len : Nat) : Int); rw [hl]; exact d)) ?_
      refine wp_ret_of ⟨s', tl, rfl, rfl, ?_, ok4⟩
      have e1 : (xs.map Prod.fst).take i.toNat = xs.map Prod.fst := List.take_of_length_le (by rw [List.length_map]; omega)
      rw [e1] at hs'; exact hs'
  · rintro v H ⟨s', tl, rfl, rfl, a, b⟩
    exact ⟨_, rfl, h s' tl a b⟩
end

/-! ### guard.look -/
inductive In where
  | no
  | tn (m : Tn)
  | sc (m : Sc)
def In.bl : In → TnJ → ScJ → Bl
  | .no, _, _ => []
  | .tn m, t, _ => m.bl t
  | .sc m, _, s => m.bl s
def In.val : In → TnJ → ScJ → Value
  | .no, _, _ => .nilIface
  | .tn m, t, _ => .iface ty_p_epoch_Turn (.pointer (some ⟨t.q, 0, none⟩))
  | .sc m, _, s => .iface ty_p_hazard_Scan (.pointer (some ⟨s.q, 0, none⟩))
def In.rep : In → TnJ → ScJ → Prop
  | .no, _, _ => True
  | .tn m, t, _ => m.rep t
  | .sc m, _, s => m.rep s

structure Lk where
  g : Gd
  ls : Int → List (Int × Int)
  work : Int
  first : Bool
  times : Int
  m : In
structure LkJ where
  q : Nat
  gq : Nat
  mq : Nat
  e : List LE
  tj : TnJ
  sj : ScJ
  gar : Bl
def lkC (gq : Nat) (work : Int) (first : Bool) (times : Int) (v : Value) : List Value := [.pointer (some ⟨gq, 0, none⟩), .int .i64 work, .bool first, .int .i64 times, v]
def Lk.bl (x : Lk) (j : LkJ) : Bl := (j.q, oc ty_guard_look (lkC j.gq x.work x.first x.times (x.m.val j.tj j.sj))) :: (x.g.bl j.gq j.mq j.e ++ (x.m.bl j.tj j.sj ++ j.gar))
structure Lk.rep (x : Lk) (j : LkJ) : Prop where
  le : leOk j.e
  ls : ∀ k, (leGet j.e k).xs = x.ls k
  m : x.m.rep j.tj j.sj
def Lk.begin (x : Lk) : Lk := { x with times := w64 (x.times - 1), m := if x.g.ep = true then .tn (newTn x.g.w x.g.ta x.g.pl x.work (x.ls x.work)) else .sc (newSc x.g.w x.g.ta x.g.pl x.work ((x.ls x.work).map Prod.fst)) }

theorem leB_mem : ∀ {e : List LE} {k : Int} {p : Nat × Obj}, p ∈ (leGet e k).hb → p ∈ leB e
  | [], k, p, h => by cases h
  | x :: e, k, p, h => by
    show p ∈ x.hb ++ leB e
    unfold leGet at h
    split at h
    · exact List.mem_append_left _ h
    · exact List.mem_append_right _ (leB_mem h)

section
variable {L : Hands} {R : Value → Heap → Prop} {G : Heap} {l rest : Bl} {A : Ar} {I : List Nat}

theorem w_lk {e : List LE} {k : Int} {mq : Nat} {K : Sl → Tree} (ix : Nat) (hA : Aw I A) (ok : Ok I G (keys l)) (hi : l[ix]? = some (mq, mapObj slV (leC e)))
    (h : wp Try.prog (K (leGet e k).s) L (own A l G) R) :
    wp Try.prog (.look (opS Try.prog (.lookup ty_m_int_s_epoch_Limbo (.tmp 0) (.tmp 1) false) ty_s_epoch_Limbo [(.map (some mq)), (.int .i64 k)]) (.one (.leaf .slice)) K) L (own A l G) R :=
  w_lookup ix (enc := slV) (c := leC e) (y := (leGet e k).s) hA ok hi rfl rfl rfl rfl (by have h := leC_get e k; revert h; cases alGet (leC e) k <;> exact fun h => h) h
end
end Go.Proofs.Ytcjhakdopnamoaa

set_option linter.unusedVariables false
set_option linter.unusedSimpArgs false
set_option maxRecDepth 20000
namespace Go.Proofs.Ytcjhakdopnamoaa
open Go Go.Fw

section
variable {L : Hands} {R : Value → Heap → Prop} {G : Heap} {l rest : Bl} {A : Ar} {I : List Nat}

theorem w_ckAo (i : Nat) {a : Addr} {b n m : Nat} {T : TypeId} {c : List Value} {v : Value} {t : Tree} (hA : Aw I A) (ok : Ok I G (keys l)) (ha : a = ⟨b, n, none⟩) (hi : l[i]? = some (b, oc T c)) (hn : n + m ≤ c.length) (hv : v = .agg (c.toArray.extract n (n + m))) (h : wp Try.prog t L (own A l G) R) :
    wp Try.prog (.check (ldAS a m 0 #[]) v t) L (own A l G) R := by
  subst ha; subst hv
  refine ⟨?_, h⟩
  rw [ldAS_eq]
  refine ldK_still (own_get hA ok hi) _ 0 #[] (by simpa using hn) ?_
  show (Value.agg (#[] ++ c.toArray.extract (n + 0) (n + 0 + m)) : Value) = _
  simp

def LkB (x : Lk) (j : LkJ) (Q : Lk) (A : Ar) (I : List Nat) (G : Heap) : Value → Heap → Prop := fun v K => ∃ j' : LkJ, v = .tuple #[] ∧ K = own A (Q.bl j') G ∧ j'.q = j.q ∧ j'.gq = j.gq ∧ j'.mq = j.mq ∧ Ok I G (keys (Q.bl j')) ∧ Q.rep j'

set_option maxHeartbeats 1000000 in
theorem begin_spec (x : Lk) (j : LkJ) (hA : Aw I A) (ok : Ok I G (keys (x.bl j))) (rp : x.rep j) (hn : x.m = .no) (hl : (x.ls x.work).length ≤ 1000) :
    SpecF Try.prog f_guard_look_begin #[.pointer (some ⟨j.q, 0, none⟩)] (own A (x.bl j) G) (LkB x j x.begin A I G) := by
  refine t_guard_look_begin_spec fun L => ?_
  unfold t_guard_look_begin
  obtain ⟨g, ls, work, first, times, m⟩ := x
  have hn : m = .no := hn
  subst hn
  obtain ⟨q, gq, mq, e, tj, sj, gar⟩ := j
  have hl : (ls work).length ≤ 1000 := hl
  have ok : Ok I G (keys ((q, oc ty_guard_look (lkC gq work first times .nilIface)) :: (gq, oc ty_guard_Guard (g.cells mq)) :: (mq, mapObj slV (leC e)) :: (leB e ++ gar))) := ok
  show wp Try.prog _ L (own A ((q, oc ty_guard_look (lkC gq work first times .nilIface)) :: (gq, oc ty_guard_Guard (g.cells mq)) :: (mq, mapObj slV (leC e)) :: (leB e ++ gar)) G) _
  have hs0 : SlOf (leGet e work).hb ty_epoch_Limbo eL (leGet e work).s (leGet e work).xs := rp.le work
  rw [rp.ls work] at hs0
  have hs0 : SlOf (leGet e work).hb ty_epoch_Limbo eL (leGet e work).s (ls work) := hs0
  refine wp_nil.2 (w_ld 0 (x := some ⟨gq, 0, none⟩) hA ok rfl rfl rfl ?_)
  refine wp_nil.2 (w_ld 1 (x := gmode g.ep g.w g.ta) hA ok rfl rfl rfl ?_)
  cases hp : g.ep with
  | true =>
    have hb : Lk.begin ⟨g, ls, work, first, times, .no⟩ = ⟨g, ls, work, first, w64 (times - 1), .tn (newTn g.w g.ta g.pl work (ls work))⟩ := by unfold Lk.begin; rw [if_pos hp]
    rw [hb]
    refine look_val (x := ((g.w, g.ta, ()), true, ())) (ta_epT _ _ _) (wp_true rfl ?_)
    refine w_newP (c := [.int .i64 0, .int .i64 0]) hA ok fun x2 ok1 => ?_
    refine w_stA 0 hA ok1 rfl rfl rfl rfl ?_
    have ok1 : Ok I G (keys ((x2, oc ty_guard_epochs [.int .i64 g.w, .int .i64 g.ta]) :: (q, oc ty_guard_look (lkC gq work first times .nilIface)) :: (gq, oc ty_guard_Guard (g.cells mq)) :: (mq, mapObj slV (leC e)) :: (leB e ++ gar))) := ok1
    show wp Try.prog _ L (own A ((x2, oc ty_guard_epochs [.int .i64 g.w, .int .i64 g.ta]) :: (q, oc ty_guard_look (lkC gq work first times .nilIface)) :: (gq, oc ty_guard_Guard (g.cells mq)) :: (mq, mapObj slV (leC e)) :: (leB e ++ gar)) G) _
    refine w_ldA 0 hA ok1 rfl rfl rfl ?_
    refine wp_nil.2 (w_ld 1 (x := some ⟨gq, 0, none⟩) hA ok1 rfl rfl rfl ?_)
    refine wp_nil.2 (w_ldA 2 hA ok1 rfl rfl rfl ?_)
    refine wp_nil.2 (w_ld 1 (x := work) hA ok1 rfl rfl rfl ?_)
    refine wp_nil.2 (w_ld 1 (x := some ⟨gq, 0, none⟩) hA ok1 rfl rfl rfl ?_)
    refine wp_nil.2 (w_ld 2 (x := some mq) hA ok1 rfl rfl rfl ?_)
    refine wp_nil.2 (w_ld 1 (x := work) hA ok1 rfl rfl rfl ?_)
    refine w_lk 3 hA ok1 rfl ?_
    refine w_NewTurn (tw := g.w) (ta := g.ta) (p := g.pl) (work := work) (xs := ls work) hA ok1 (hs0.mono fun p hp => List.mem_cons_of_mem _ (List.mem_cons_of_mem _ (List.mem_cons_of_mem _ (List.mem_cons_of_mem _ (List.mem_append_left _ (leB_mem hp)))))) hl fun t ok2 rt => ?_
    obtain ⟨p1, ok3⟩ := own_perm (A := A) (l' := (q, oc ty_guard_look (lkC gq work first times .nilIface)) :: (gq, oc ty_guard_Guard (g.cells mq)) :: (mq, mapObj slV (leC e)) :: (leB e ++ ((newTn g.w g.ta g.pl work (ls work)).bl t ++ ((x2, oc ty_guard_epochs [.int .i64 g.w, .int .i64 g.ta]) :: gar)))) ok2 (perm_by fun c d c0 cd ca => by simp only [cd, ca]; omega)
    rw [p1]
    refine wp_nil.2 (w_st 0 hA ok3 rfl rfl rfl rfl ?_)
    refine wp_nil.2 (w_ld 0 (x := times) hA (by exact ok3) rfl rfl rfl ?_)
    refine wp_nil.2 (w_st 0 hA (by exact ok3) rfl rfl rfl rfl ?_)
    exact wp_ret_of ⟨⟨q, gq, mq, e, t, sj, (x2, oc ty_guard_epochs [.int .i64 g.w, .int .i64 g.ta]) :: gar⟩, rfl, rfl, rfl, rfl, rfl, ok3, ⟨rp.le, rp.ls, rt⟩⟩
  | false =>
    have hb : Lk.begin ⟨g, ls, work, first, times, .no⟩ = ⟨g, ls, work, first, w64 (times - 1), .sc (newSc g.w g.ta g.pl work ((ls work).map Prod.fst))⟩ := by unfold Lk.begin; rw [if_neg (by rw [hp]; decide)]
    rw [hb]
    refine look_val (x := ((0, 0, ()), false, ())) (ta_epF _ _ _) (wp_false rfl ?_)
    refine look_val (x := ((g.w, g.ta, ()), true, ())) (ta_haT _ _ _) (wp_true rfl ?_)
    refine w_newP (c := [.int .i64 0, .int .i64 0]) hA ok fun x2 ok1 => ?_
    refine w_stA 0 hA ok1 rfl rfl rfl rfl ?_
    have ok1 : Ok I G (keys ((x2, oc ty_guard_hazards [.int .i64 g.w, .int .i64 g.ta]) :: (q, oc ty_guard_look (lkC gq work first times .nilIface)) :: (gq, oc ty_guard_Guard (g.cells mq)) :: (mq, mapObj slV (leC e)) :: (leB e ++ gar))) := ok1
    show wp Try.prog _ L (own A ((x2, oc ty_guard_hazards [.int .i64 g.w, .int .i64 g.ta]) :: (q, oc ty_guard_look (lkC gq work first times .nilIface)) :: (gq, oc ty_guard_Guard (g.cells mq)) :: (mq, mapObj slV (leC e)) :: (leB e ++ gar)) G) _
    refine w_ldA 0 hA ok1 rfl rfl rfl ?_
    refine wp_nil.2 (w_ld 1 (x := some ⟨gq, 0, none⟩) hA ok1 rfl rfl rfl ?_)
    refine wp_nil.2 (w_ldA 2 hA ok1 rfl rfl rfl ?_)
    refine wp_nil.2 (w_ld 1 (x := work) hA ok1 rfl rfl rfl ?_)
    refine wp_nil.2 (w_ld 1 (x := some ⟨gq, 0, none⟩) hA ok1 rfl rfl rfl ?_)
    refine wp_nil.2 (w_ld 2 (x := some mq) hA ok1 rfl rfl rfl ?_)
    refine wp_nil.2 (w_ld 1 (x := work) hA ok1 rfl rfl rfl ?_)
    refine w_lk 3 hA ok1 rfl ?_
    refine w_handles hA ok1 (hs0.mono fun p hp => List.mem_cons_of_mem _ (List.mem_cons_of_mem _ (List.mem_cons_of_mem _ (List.mem_cons_of_mem _ (List.mem_append_left _ (leB_mem hp)))))) hl fun s' tl hs' ok1 => ?_
    refine w_ck 1 hA ok1 rfl rfl rfl ?_
    refine w_ckn rfl ?_
    refine w_ckAo 2 hA ok1 rfl rfl (by show 1 + 5 ≤ 8; decide) rfl ?_
    refine w_ckn rfl ?_
    refine w_ck 1 hA ok1 rfl rfl rfl ?_
    refine w_ckn rfl ?_
    refine w_ckAo 0 hA ok1 rfl rfl (by show 0 + 2 ≤ 2; decide) rfl ?_
    refine w_NewScan (tw := g.w) (ta := g.ta) (p := g.pl) (work := work) (xs := (ls work).map Prod.fst) hA ok1 (SlOf.row hA ok1 (hs'.mono fun p hp => List.mem_append_right _ hp)) hs'.len (by rw [List.length_map]; exact hl) fun t ok2 rt => ?_
    obtain ⟨p1, ok3⟩ := own_perm (A := A) (l' := (q, oc ty_guard_look (lkC gq work first times .nilIface)) :: (gq, oc ty_guard_Guard (g.cells mq)) :: (mq, mapObj slV (leC e)) :: (leB e ++ ((newSc g.w g.ta g.pl work ((ls work).map Prod.fst)).bl t ++ ((x2, oc ty_guard_hazards [.int .i64 g.w, .int .i64 g.ta]) :: (tl ++ gar))))) ok2 (perm_by fun c d c0 cd ca => by simp only [List.cons_append, List.append_assoc, cd, ca]; omega)
    rw [p1]
    refine wp_nil.2 (w_st 0 hA ok3 rfl rfl rfl rfl ?_)
    refine wp_nil.2 (w_ld 0 (x := times) hA (by exact ok3) rfl rfl rfl ?_)
    refine wp_nil.2 (w_st 0 hA (by exact ok3) rfl rfl rfl rfl ?_)
    exact wp_ret_of ⟨⟨q, gq, mq, e, tj, t, (x2, oc ty_guard_hazards [.int .i64 g.w, .int .i64 g.ta]) :: (tl ++ gar)⟩, rfl, rfl, rfl, rfl, rfl, ok3, ⟨rp.le, rp.ls, rt⟩⟩
end
end Go.Proofs.Ytcjhakdopnamoaa

set_option linter.unusedVariables false
set_option linter.unusedSimpArgs false
set_option maxRecDepth 20000
namespace Go.Proofs.Ytcjhakdopnamoaa
open Go Go.Fw

def setL (f : Int → List (Int × Int)) (k : Int) (xs : List (Int × Int)) : Int → List (Int × Int) := fun i => if i = k then xs else f i
theorem setL_same (f : Int → List (Int × Int)) (k : Int) (xs : List (Int × Int)) : setL f k xs k = xs := if_pos rfl
theorem setL_ne (f : Int → List (Int × Int)) {k i : Int} (xs : List (Int × Int)) (h : i ≠ k) : setL f k xs i = f i := if_neg h
def In.gone : In → List (Int × Int)
  | .no => []
  | .tn m => m.left
  | .sc m => m.left.map fun h => (h, 0)
def In.fin : In → Bool
  | .no => false
  | .tn m => decide (4 ≤ m.ph)
  | .sc m => m.ended
def Lk.end_ (x : Lk) : Lk := { x with m := .no, ls := setL x.ls x.work x.m.gone }

theorem ta_mTT (q : Option Addr) (u : TypeId) : opS Try.prog (.typeAssert (.tmp 0) ty_guard_Machine ty_p_epoch_Turn true) u [.iface ty_p_epoch_Turn (.pointer q)] = .pure (.value (.tuple #[.pointer q, .bool true])) := by kernel_rfl
theorem ta_mTF (q : Option Addr) (u : TypeId) : opS Try.prog (.typeAssert (.tmp 0) ty_guard_Machine ty_p_epoch_Turn true) u [.iface ty_p_hazard_Scan (.pointer q)] = .pure (.value (.tuple #[.pointer none, .bool false])) := by kernel_rfl
theorem ta_mST (q : Option Addr) (u : TypeId) : opS Try.prog (.typeAssert (.tmp 0) ty_guard_Machine ty_p_hazard_Scan true) u [.iface ty_p_hazard_Scan (.pointer q)] = .pure (.value (.tuple #[.pointer q, .bool true])) := by kernel_rfl

theorem lsPut {e : List LE} {ls : Int → List (Int × Int)} (h : ∀ k, (leGet e k).xs = ls k) (y : LE) : ∀ k, (leGet (lePut e y) k).xs = setL ls y.k y.xs k := fun k => by
  rw [leGet_put]
  unfold setL
  by_cases c : k = y.k
  · rw [if_pos c, if_pos c]
  · rw [if_neg c, if_neg c]; exact h k

section
variable {L : Hands} {R : Value → Heap → Prop} {G : Heap} {l rest : Bl} {A : Ar} {I : List Nat}

theorem w_app1L {s : Sl} {xs : List (Int × Int)} {v w : Int} {k : Sl → Tree} {pre tl : Bl} (hA : Aw I A) (ok : Ok I G (keys (pre ++ tl))) (hs : SlOf tl ty_epoch_Limbo eL s xs) (hm : xs.length ≤ 1000000)
    (h : ∀ s' tl', SlOf tl' ty_epoch_Limbo eL s' (xs ++ [(v, w)]) → Ok I G (keys (pre ++ tl')) → wp Try.prog (k s') L (own A (pre ++ tl') G) R) :
    wp Try.prog (.newS (.cells #[.int .i64 v, .int .i64 w] ty_epoch_Limbo) 1 fun x => .act (opS Try.prog (.call { callee := .builtin .append, args := #[(.tmp 0), (.tmp 1)], argTypes := #[ty_s_epoch_Limbo, ty_s_epoch_Limbo] }) ty_s_epoch_Limbo [(.slice s.a s.len s.cap), (.slice x.a x.len x.cap)]) (.one (.leaf .slice)) k) L (own A (pre ++ tl) G) R := by
  refine w_newS (c := [.int .i64 v, .int .i64 w]) hA ok fun q ok1 => ?_
  have ok' : Ok I G (keys (((q, oc ty_epoch_Limbo [.int .i64 v, .int .i64 w]) :: pre) ++ tl)) := ok1
  show wp Try.prog _ L (own A (((q, oc ty_epoch_Limbo [.int .i64 v, .int .i64 w]) :: pre) ++ tl) G) R
  refine w_appT (E := eL) elL (ys := [(v, w)]) (t := ⟨some ⟨q, 0, none⟩, 1, 1⟩) hA ok' hs ?_ rfl (by simp; omega) fun s' tl' hs' ok2 ap => ?_
  · exact cell_row hA ok' List.mem_cons_self 0 rfl
  · obtain ⟨m3, m4⟩ := own_mid (A := A) ok2
    show wp Try.prog _ L (own A ((q, oc ty_epoch_Limbo [.int .i64 v, .int .i64 w]) :: (pre ++ tl')) G) R
    rw [m3]
    exact h s' _ (hs'.mono fun p hp => List.mem_cons_of_mem _ hp) m4

theorem w_mapS {e : List LE} {k : Int} {mq : Nat} {s : Sl} {u : TypeId} {K : Unit → Tree} (ix : Nat) (hA : Aw I A) (ok : Ok I G (keys l)) (hi : l[ix]? = some (mq, mapObj slV (leC e)))
    (h : wp Try.prog (K ()) L (own A (l.set ix (mq, mapObj slV (alPut (leC e) k s))) G) R) :
    wp Try.prog (.act (opS Try.prog (.mapUpdate ty_m_int_s_epoch_Limbo (.tmp 0) (.tmp 1) (.tmp 2)) u [(.map (some mq)), (.int .i64 k), (.slice s.a s.len s.cap)]) .unit K) L (own A l G) R :=
  w_mapPut ix (enc := slV) (c := leC e) (v := s) hA ok hi rfl rfl h

set_option maxHeartbeats 1000000 in
/-- The new list is kept. -/
theorem keep_end {g : Gd} {e : List LE} {ls : Int → List (Int × Int)} {q gq mq : Nat} {work times : Int} {first : Bool} {v : Value} {gar : Bl} {s : Sl} {xs : List (Int × Int)} {tl : Bl} {j : LkJ} {x : Lk} (tj : TnJ) (sj : ScJ) (hx : x.end_ = ⟨g, setL ls work xs, work, first, times, .no⟩) (hj : j.q = q ∧ j.gq = gq ∧ j.mq = mq)
    (le : leOk e) (hls : ∀ k, (leGet e k).xs = ls k) (hs : SlOf tl ty_epoch_Limbo eL s xs) (hA : Aw I A)
    (ok : Ok I G (keys ((q, oc ty_guard_look (lkC gq work first times v)) :: (gq, oc ty_guard_Guard (g.cells mq)) :: (mq, mapObj slV (leC e)) :: (leB e ++ (tl ++ gar))))) :
    wp Try.prog (.act (opS Try.prog (.mapUpdate ty_m_int_s_epoch_Limbo (.tmp 0) (.tmp 1) (.tmp 2)) ty_unit [(.map (some mq)), (.int .i64 work), (.slice s.a s.len s.cap)]) .unit fun _ =>
    .look (opS Try.prog (.nilCheck (.tmp 0)) ty_unit [(.pointer (some ⟨q, 0, none⟩))]) (.one (.leaf .addr)) fun x56 =>
    .st (x56.add 4) .nilIface <|
    .ret (.tuple #[])) L (own A ((q, oc ty_guard_look (lkC gq work first times v)) :: (gq, oc ty_guard_Guard (g.cells mq)) :: (mq, mapObj slV (leC e)) :: (leB e ++ (tl ++ gar))) G) (LkB x j x.end_ A I G) := by
  obtain ⟨y, hy⟩ : ∃ y : LE, y = ⟨work, s, xs, tl⟩ := ⟨_, rfl⟩
  have eput : alPut (leC e) work s = leC (lePut e y) := by rw [leC_put, hy]
  refine w_mapS 2 hA ok rfl ?_
  rw [eput]
  have ok1 : Ok I G (keys ((q, oc ty_guard_look (lkC gq work first times v)) :: (gq, oc ty_guard_Guard (g.cells mq)) :: (mq, mapObj slV (leC (lePut e y))) :: (leB e ++ (tl ++ gar)))) := ok
  show wp Try.prog _ L (own A ((q, oc ty_guard_look (lkC gq work first times v)) :: (gq, oc ty_guard_Guard (g.cells mq)) :: (mq, mapObj slV (leC (lePut e y))) :: (leB e ++ (tl ++ gar))) G) _
  refine wp_nil.2 (w_st 0 hA ok1 rfl rfl rfl rfl ?_)
  have ok2 : Ok I G (keys ((q, oc ty_guard_look (lkC gq work first times .nilIface)) :: (gq, oc ty_guard_Guard (g.cells mq)) :: (mq, mapObj slV (leC (lePut e y))) :: (leB e ++ (tl ++ gar)))) := ok1
  show wp Try.prog _ L (own A ((q, oc ty_guard_look (lkC gq work first times .nilIface)) :: (gq, oc ty_guard_Guard (g.cells mq)) :: (mq, mapObj slV (leC (lePut e y))) :: (leB e ++ (tl ++ gar))) G) _
  obtain ⟨p1, ok3⟩ := own_perm (A := A) (l' := (q, oc ty_guard_look (lkC gq work first times .nilIface)) :: (gq, oc ty_guard_Guard (g.cells mq)) :: (mq, mapObj slV (leC (lePut e y))) :: (leB (lePut e y) ++ ((leGet e work).hb ++ gar))) ok2 (perm_by fun c d c0 cd ca => by
    have h1 := leB_c c0 ca e work
    have h2 := leB_put_c c0 ca e y
    have h3 : c y.hb = c tl := by rw [hy]
    have h4 : c (leRest e y.k) = c (leRest e work) := by rw [hy]
    simp only [cd, ca]; omega)
  rw [p1, hx]
  obtain ⟨j1, j2, j3⟩ := hj
  refine wp_ret_of ⟨⟨q, gq, mq, lePut e y, tj, sj, (leGet e work).hb ++ gar⟩, rfl, rfl, j1.symm, j2.symm, j3.symm, ok3, ⟨le.put (by rw [hy]; exact hs), ?_, trivial⟩⟩
  have := lsPut hls y
  rw [hy] at this ⊢
  exact this

set_option maxHeartbeats 1000000 in
theorem end_spec (x : Lk) (j : LkJ) (hA : Aw I A) (ok : Ok I G (keys (x.bl j))) (rp : x.rep j) (hf : x.m.fin = true) (hl : x.m.gone.length ≤ 1000) :
    SpecF Try.prog f_guard_look_end #[.pointer (some ⟨j.q, 0, none⟩)] (own A (x.bl j) G) (LkB x j x.end_ A I G) := by
  refine t_guard_look_end_spec fun L => ?_
  unfold t_guard_look_end
  obtain ⟨g, ls, work, first, times, m⟩ := x
  obtain ⟨q, gq, mq, e, tj, sj, gar⟩ := j
  cases m with
  | no => cases hf
  | tn m =>
    have hl : m.left.length ≤ 1000 := hl
    have hm : m.rep tj := rp.m
    have hf : 4 ≤ m.ph := of_decide_eq_true hf
    have ok : Ok I G (keys ((q, oc ty_guard_look (lkC gq work first times (.iface ty_p_epoch_Turn (.pointer (some ⟨tj.q, 0, none⟩))))) :: (gq, oc ty_guard_Guard (g.cells mq)) :: (mq, mapObj slV (leC e)) :: (leB e ++ (m.bl tj ++ gar)))) := ok
    show wp Try.prog _ L (own A ((q, oc ty_guard_look (lkC gq work first times (.iface ty_p_epoch_Turn (.pointer (some ⟨tj.q, 0, none⟩))))) :: (gq, oc ty_guard_Guard (g.cells mq)) :: (mq, mapObj slV (leC e)) :: (leB e ++ (m.bl tj ++ gar))) G) _
    refine wp_nil.2 (w_ld 0 (x := .iface ty_p_epoch_Turn (.pointer (some ⟨tj.q, 0, none⟩))) hA ok rfl rfl rfl ?_)
    refine look_val (x := (some ⟨tj.q, 0, none⟩, true, ())) (ta_mTT _ _) (wp_true rfl ?_)
    refine wp_nil.2 (w_ld 0 (x := some ⟨gq, 0, none⟩) hA ok rfl rfl rfl ?_)
    refine wp_nil.2 (w_ld 1 (x := some mq) hA ok rfl rfl rfl ?_)
    refine wp_nil.2 (w_ld 0 (x := work) hA ok rfl rfl rfl ?_)
    obtain ⟨p1, ok1⟩ := own_perm (A := A) (l' := m.bl tj ++ ((q, oc ty_guard_look (lkC gq work first times (.iface ty_p_epoch_Turn (.pointer (some ⟨tj.q, 0, none⟩))))) :: (gq, oc ty_guard_Guard (g.cells mq)) :: (mq, mapObj slV (leC e)) :: (leB e ++ gar))) ok (perm_by fun c d c0 cd ca => by simp only [cd, ca]; omega)
    rw [p1]
    refine w_TLeft hA ok1 hm hf hl fun s tl hs ok2 => ?_
    obtain ⟨p2, ok3⟩ := own_perm (A := A) (l' := (q, oc ty_guard_look (lkC gq work first times (.iface ty_p_epoch_Turn (.pointer (some ⟨tj.q, 0, none⟩))))) :: (gq, oc ty_guard_Guard (g.cells mq)) :: (mq, mapObj slV (leC e)) :: (leB e ++ (tl ++ (m.bl tj ++ gar)))) ok2 (perm_by fun c d c0 cd ca => by simp only [cd, ca]; omega)
    rw [p2]
    refine w_ck 0 hA ok3 rfl rfl rfl ?_
    refine w_ckn rfl ?_
    refine w_ck 1 hA ok3 rfl rfl rfl ?_
    refine w_ckn rfl ?_
    refine w_ck 0 hA ok3 rfl rfl rfl ?_
    refine w_ckn rfl ?_
    exact keep_end tj sj rfl ⟨rfl, rfl, rfl⟩ rp.le rp.ls hs hA ok3
  | sc m =>
    have hl : m.left.length ≤ 1000 := by have : (m.left.map fun h => (h, (0 : Int))).length ≤ 1000 := hl; rwa [List.length_map] at this
    have hm : m.rep sj := rp.m
    have hf : m.ended = true := hf
    have ok : Ok I G (keys ((q, oc ty_guard_look (lkC gq work first times (.iface ty_p_hazard_Scan (.pointer (some ⟨sj.q, 0, none⟩))))) :: (gq, oc ty_guard_Guard (g.cells mq)) :: (mq, mapObj slV (leC e)) :: (leB e ++ (m.bl sj ++ gar)))) := ok
    show wp Try.prog _ L (own A ((q, oc ty_guard_look (lkC gq work first times (.iface ty_p_hazard_Scan (.pointer (some ⟨sj.q, 0, none⟩))))) :: (gq, oc ty_guard_Guard (g.cells mq)) :: (mq, mapObj slV (leC e)) :: (leB e ++ (m.bl sj ++ gar))) G) _
    refine wp_nil.2 (w_ld 0 (x := .iface ty_p_hazard_Scan (.pointer (some ⟨sj.q, 0, none⟩))) hA ok rfl rfl rfl ?_)
    refine look_val (x := (none, false, ())) (ta_mTF _ _) (wp_false rfl ?_)
    refine look_val (x := (some ⟨sj.q, 0, none⟩, true, ())) (ta_mST _ _) (wp_true rfl ?_)
    obtain ⟨p1, ok1⟩ := own_perm (A := A) (l' := m.bl sj ++ ((q, oc ty_guard_look (lkC gq work first times (.iface ty_p_hazard_Scan (.pointer (some ⟨sj.q, 0, none⟩))))) :: (gq, oc ty_guard_Guard (g.cells mq)) :: (mq, mapObj slV (leC e)) :: (leB e ++ gar))) ok (perm_by fun c d c0 cd ca => by simp only [cd, ca]; omega)
    rw [p1]
    refine w_Left hA ok1 hm hf hl fun s tl hs ok2 => ?_
    have hsl := hs.len
    obtain ⟨pre, hpre⟩ : ∃ pre : Bl, pre = (q, oc ty_guard_look (lkC gq work first times (.iface ty_p_hazard_Scan (.pointer (some ⟨sj.q, 0, none⟩))))) :: (gq, oc ty_guard_Guard (g.cells mq)) :: (mq, mapObj slV (leC e)) :: (leB e ++ (tl ++ (m.bl sj ++ gar))) := ⟨_, rfl⟩
    obtain ⟨p2, ok3⟩ := own_perm (A := A) (l' := pre ++ []) ok2 (perm_by fun c d c0 cd ca => by rw [hpre]; simp only [List.append_nil, cd, ca]; omega)
    rw [p2]
    have hspre : SlOf pre ty_int eI s m.left := hs.mono fun p hp => by rw [hpre]; exact List.mem_cons_of_mem _ (List.mem_cons_of_mem _ (List.mem_cons_of_mem _ (List.mem_append_right _ (List.mem_append_left _ hp))))
    refine wl_si (fun s' i H => 0 ≤ i ∧ i ≤ m.left.length ∧ ∃ tl, SlOf tl ty_epoch_Limbo eL s' ((m.left.take i.toNat).map fun h => (h, 0)) ∧ Ok I G (keys (pre ++ tl)) ∧ H = own A (pre ++ tl) G) (fun _ i => (m.left.length - i).toNat) ⟨none, 0, 0⟩ 0 ⟨by omega, by omega, [], .inl ⟨rfl, rfl⟩, ok3, rfl⟩ ?_
    rintro s' i K ⟨i0, i1, tl', hs', ok4, rfl⟩
    rw [t_guard_look_end_L1]
    by_cases d : i < m.left.length
    · refine wp_true (decide_eq_true (by show i < ((s.len : Nat) : Int); rw [hsl]; exact d)) ?_
      refine rdA hA ok4 (hspre.mono fun p hp => List.mem_append_left _ hp).at' i0 d ?_
      refine w_app1L hA ok4 hs' (by simp; omega) fun s2 tl2 hs2 ok6 => ?_
      rw [w64_in (x := i + 1) (by omega) (by omega)]
      refine wp_again ⟨s2, i + 1, rfl, ⟨by omega, by omega, tl2, ?_, ok6, rfl⟩, by omega⟩
      rw [show (i + 1).toNat = i.toNat + 1 by omega]
      have e1 : (m.left.take (i.toNat + 1)).map (fun h => (h, (0 : Int))) = (m.left.take i.toNat).map (fun h => (h, (0 : Int))) ++ [(m.left.getD i.toNat 0, 0)] := by
        have hi : i.toNat < m.left.length := by omega
        rw [List.take_succ_eq_append_getElem hi, List.map_append]
        simp only [List.map_cons, List.map_nil, List.getD, List.getElem?_eq_getElem hi, Option.getD_some]
      rw [e1]; exact hs2
    · refine wp_false (decide_eq_false (by show ¬ i < ((s.len : Nat) : Int); rw [hsl]; exact d)) ?_
      have e1 : m.left.take i.toNat = m.left := List.take_of_length_le (by omega)
      rw [e1] at hs'
      have ok5 := ok4
      rw [hpre] at ok5 ⊢
      obtain ⟨p3, ok6⟩ := own_perm (A := A) (l' := (q, oc ty_guard_look (lkC gq work first times (.iface ty_p_hazard_Scan (.pointer (some ⟨sj.q, 0, none⟩))))) :: (gq, oc ty_guard_Guard (g.cells mq)) :: (mq, mapObj slV (leC e)) :: (leB e ++ (tl' ++ (tl ++ (m.bl sj ++ gar))))) ok5 (perm_by fun c d c0 cd ca => by simp only [List.cons_append, List.append_assoc, cd, ca]; omega)
      rw [p3]
      refine wp_nil.2 (w_ld 0 (x := some ⟨gq, 0, none⟩) hA ok6 rfl rfl rfl ?_)
      refine wp_nil.2 (w_ld 1 (x := some mq) hA ok6 rfl rfl rfl ?_)
      refine wp_nil.2 (w_ld 0 (x := work) hA ok6 rfl rfl rfl ?_)
      exact keep_end tj sj rfl ⟨rfl, rfl, rfl⟩ rp.le rp.ls hs' hA ok6
end
end Go.Proofs.Ytcjhakdopnamoaa

set_option linter.unusedVariables false
set_option maxRecDepth 10000
namespace Go.Proofs.Ytcjhakdopnamoaa
open Go Go.Fw
end Go.Proofs.Ytcjhakdopnamoaa

set_option linter.unusedVariables false
set_option maxRecDepth 20000
namespace Go.Proofs.Ytcjhakdopnamoaa
open Go Go.Fw

theorem neqMc (t : TypeId) (q : Nat) (u : TypeId) : opS Try.prog (.binOp .neq ty_guard_Machine (.tmp 0) (.const .nilIface) ty_guard_Machine) u [.iface t (.pointer (some ⟨q, 0, none⟩))] = .pure (.value (.bool true)) := by kernel_rfl
theorem neqMc0 (u : TypeId) : opS Try.prog (.binOp .neq ty_guard_Machine (.tmp 0) (.const .nilIface) ty_guard_Machine) u [.nilIface] = .pure (.value (.bool false)) := by kernel_rfl
theorem eqlMc0 (u : TypeId) : opS Try.prog (.binOp .eql ty_guard_Machine (.tmp 0) (.const .nilIface) ty_guard_Machine) u [.nilIface] = .pure (.value (.bool true)) := by kernel_rfl

end Go.Proofs.Ytcjhakdopnamoaa

set_option linter.unusedVariables false
set_option linter.unusedSimpArgs false
set_option maxRecDepth 20000
namespace Go.Proofs.Ytcjhakdopnamoaa
open Go Go.Fw

theorem eqlMc (t : TypeId) (q : Nat) (u : TypeId) : opS Try.prog (.binOp .eql ty_guard_Machine (.tmp 0) (.const .nilIface) ty_guard_Machine) u [.iface t (.pointer (some ⟨q, 0, none⟩))] = .pure (.value (.bool false)) := by kernel_rfl

noncomputable def lkT2 (q : Nat) : Tree :=
  .look (opS Try.prog (.nilCheck (.tmp 0)) ty_unit [(.pointer (some ⟨q, 0, none⟩))]) (.one (.leaf .addr)) fun x78 =>
  .ld (x78.add 4) .val fun x80 =>
  .look (opS Try.prog (.binOp .eql ty_guard_Machine (.tmp 0) (.const .nilIface) ty_guard_Machine) ty_bool [x80]) (.one (.leaf .bool)) fun x81 =>
  bif x81 then (
    .look (opS Try.prog (.nilCheck (.tmp 0)) ty_unit [(.pointer (some ⟨q, 0, none⟩))]) (.one (.leaf .addr)) fun x84 =>
    .ld (x84.add 3) (.int .i64) fun x86 =>
    .ret (.bool ((x86 : Int) == 0)))
  else (
    .ret (.bool false))
noncomputable def lkT (q : Nat) (p1 : Option Addr) : Tree :=
  .look (opS Try.prog (.nilCheck (.tmp 0)) ty_unit [(.pointer (some ⟨q, 0, none⟩))]) (.one (.leaf .addr)) fun x63 =>
  .ld (x63.add 4) .val fun x65 =>
  .look (opS Try.prog (.binOp .neq ty_guard_Machine (.tmp 0) (.const .nilIface) ty_guard_Machine) ty_bool [x65]) (.one (.leaf .bool)) fun x66 =>
  bif x66 then (
    .look (opS Try.prog (.nilCheck (.tmp 0)) ty_unit [(.pointer (some ⟨q, 0, none⟩))]) (.one (.leaf .addr)) fun x69 =>
    .ld (x69.add 4) .val fun x71 =>
    .act (opS Try.prog (.call { callee := .invoke (.tmp 0) "Step", args := #[(.tmp 1)], argTypes := #[ty_p_arena_Arena] }) ty_bool [x71, (.pointer p1)]) (.one (.leaf .bool)) fun x73 =>
    bif x73 then (
      .call f_guard_look_end [(.pointer (some ⟨q, 0, none⟩))] .unit fun _ => lkT2 q)
    else (lkT2 q))
  else (lkT2 q)

def Lk.fin (x : Lk) : Bool := match x.m with
  | .no => x.times == 0
  | _ => false
def Lk.go (x : Lk) : Lk := match x.m with
  | .no => if 0 < x.times then x.begin else x
  | _ => x
def In.step : In → Ar → In × Ar
  | .no, A => (.no, A)
  | .tn m, A => (.tn (m.step A).1, (m.step A).2)
  | .sc m, A => (.sc (m.step A).1, (m.step A).2)
def In.inv : In → Ar → Prop
  | .no, _ => True
  | .tn m, A => m.inv A ∧ m.left.length ≤ 1000
  | .sc m, A => m.inv A ∧ m.left.length ≤ 1000
def setLast (xs : List (Int × Int)) (v : Int) : List (Int × Int) := xs.set (xs.length - 1) ((xs.getD (xs.length - 1) (0, 0)).1, v)
def Lk.mid (y : Lk) (A : Ar) : Lk × Ar := (if (y.m.step A).1.fin = true then Lk.end_ { y with m := (y.m.step A).1 } else { y with m := (y.m.step A).1 }, (y.m.step A).2)
def Lk.step (x : Lk) (A : Ar) : Lk × Ar :=
  if x.first = true then ({ x with first := false, ls := setL x.ls x.work (setLast (x.ls x.work) (A.rawF x.g.ta)) }, A.touchR x.g.ta)
  else x.go.mid A

theorem Tn.left_step (m : Tn) (A : Ar) (h : m.l.length ≤ 1000) (h2 : m.left.length ≤ 1000) : (m.step A).1.left.length ≤ 1000 := by
  have hs : ∀ m : Tn, m.l.length ≤ 1000 → m.sort.left.length ≤ 1000 := fun m h => by
    show ((m.l.take m.l.length).filter _).length ≤ 1000
    exact Nat.le_trans (List.length_filter_le _ _) (by rw [List.take_length]; exact h)
  unfold Tn.step
  split
  · exact h2
  · split
    · show (if _ then Tn.sort _ else _ : Tn).left.length ≤ 1000
      split
      · exact hs _ h
      · exact h2
    · split
      · show (if _ then Tn.sort _ else _ : Tn).left.length ≤ 1000
        split
        · exact hs _ h
        · exact hs _ h
      · split
        · cases m.frees with
          | nil => exact h2
          | cons f fs => dsimp only; split <;> exact h2
        · exact h2
theorem Sc.left_step (m : Sc) (A : Ar) (h : m.l.length ≤ 1000) (h2 : m.left.length ≤ 1000) : (m.step A).1.left.length ≤ 1000 := by
  have hs : ∀ m : Sc, m.l.length ≤ 1000 → m.sort.left.length ≤ 1000 := fun m h => by
    show ((m.l.take m.l.length).filter _).length ≤ 1000
    exact Nat.le_trans (List.length_filter_le _ _) (by rw [List.take_length]; exact h)
  unfold Sc.step
  split
  · exact h2
  · split
    · show (if _ then Sc.sort _ else _ : Sc).left.length ≤ 1000
      split
      · exact hs _ h
      · exact h2
    · cases m.frees with
      | nil => exact h2
      | cons f fs => dsimp only; split <;> exact h2
theorem In.gone_step (i : In) (A : Ar) (h : i.inv A) : (i.step A).1.gone.length ≤ 1000 := by
  cases i with
  | no => exact Nat.zero_le _
  | tn m => exact Tn.left_step m A h.1.ll h.2
  | sc m =>
    show ((m.step A).1.left.map fun h => (h, (0 : Int))).length ≤ 1000
    rw [List.length_map]; exact Sc.left_step m A h.1.ll h.2

section
variable {L : Hands} {R : Value → Heap → Prop} {G : Heap} {l rest : Bl} {A : Ar} {I : List Nat}

def LkP (z : Lk × Ar) (j : LkJ) (I : List Nat) (G : Heap) : Value → Heap → Prop := fun v K => ∃ j' : LkJ, v = .bool z.1.fin ∧ K = own z.2 (z.1.bl j') G ∧ (j'.q = j.q ∧ j'.gq = j.gq ∧ j'.mq = j.mq) ∧ Ok I G (keys (z.1.bl j')) ∧ z.1.rep j' ∧ Aw I z.2

theorem lkT2_wp {x : Lk} {j j0 : LkJ} (hj : j.q = j0.q ∧ j.gq = j0.gq ∧ j.mq = j0.mq) (hA : Aw I A) (ok : Ok I G (keys (x.bl j))) (rp : x.rep j) : wp Try.prog (lkT2 j.q) L (own A (x.bl j) G) (LkP (x, A) j0 I G) := by
  unfold lkT2
  have ok0 := ok
  obtain ⟨g, ls, work, first, times, m⟩ := x
  unfold Lk.bl at ok
  cases m with
  | no =>
    refine wp_nil.2 (w_ld 0 (x := .nilIface) hA ok rfl rfl rfl ?_)
    refine look_val (x := true) (eqlMc0 _) (wp_true rfl ?_)
    refine wp_nil.2 (w_ld 0 (x := times) hA ok rfl rfl rfl ?_)
    exact wp_ret_of ⟨j, rfl, rfl, hj, ok0, rp, hA⟩
  | tn m =>
    refine wp_nil.2 (w_ld 0 (x := .iface ty_p_epoch_Turn (.pointer (some ⟨j.tj.q, 0, none⟩))) hA ok rfl rfl rfl ?_)
    refine look_val (x := false) (eqlMc _ _ _) (wp_false rfl ?_)
    exact wp_ret_of ⟨j, rfl, rfl, hj, ok0, rp, hA⟩
  | sc m =>
    refine wp_nil.2 (w_ld 0 (x := .iface ty_p_hazard_Scan (.pointer (some ⟨j.sj.q, 0, none⟩))) hA ok rfl rfl rfl ?_)
    refine look_val (x := false) (eqlMc _ _ _) (wp_false rfl ?_)
    exact wp_ret_of ⟨j, rfl, rfl, hj, ok0, rp, hA⟩

theorem lkT_fin {x : Lk} {j j0 : LkJ} {b : Bool} (hb : b = x.m.fin) (hj : j.q = j0.q ∧ j.gq = j0.gq ∧ j.mq = j0.mq) (hA : Aw I A) (ok : Ok I G (keys (x.bl j))) (rp : x.rep j) (hl : x.m.gone.length ≤ 1000) :
    wp Try.prog (bif b then (.call f_guard_look_end [(.pointer (some ⟨j.q, 0, none⟩))] .unit fun _ => lkT2 j.q) else (lkT2 j.q)) L (own A (x.bl j) G) (LkP (if x.m.fin = true then x.end_ else x, A) j0 I G) := by
  subst hb
  by_cases hf : x.m.fin = true
  · rw [if_pos hf]
    refine wp_true hf ?_
    refine wp_call_of (end_spec x j hA ok rp hf hl) ?_
    rintro v K ⟨j', rfl, rfl, e1, e2, e3, ok', rp'⟩
    refine ⟨(), rfl, ?_⟩
    rw [← e1]
    exact lkT2_wp ⟨e1.trans hj.1, e2.trans hj.2.1, e3.trans hj.2.2⟩ hA ok' rp'
  · rw [if_neg hf]
    refine wp_false (by simpa using hf) ?_
    exact lkT2_wp hj hA ok rp

set_option maxHeartbeats 1000000 in
theorem lkT_wp {x : Lk} {j j0 : LkJ} (hj : j.q = j0.q ∧ j.gq = j0.gq ∧ j.mq = j0.mq) (hA : Aw I A) (ok : Ok I G (keys (x.bl j))) (rp : x.rep j) (hi : x.m.inv A) : wp Try.prog (lkT j.q (aI I)) L (own A (x.bl j) G) (LkP (x.mid A) j0 I G) := by
  have hg := x.m.gone_step A hi
  unfold lkT Lk.mid
  have ok0 := ok
  obtain ⟨g, ls, work, first, times, m⟩ := x
  obtain ⟨q, gq, mq, e, tj, sj, gar⟩ := j
  cases m with
  | no =>
    unfold Lk.bl at ok
    refine wp_nil.2 (w_ld 0 (x := .nilIface) hA ok rfl rfl rfl ?_)
    refine look_val (x := false) (neqMc0 _) (wp_false rfl ?_)
    exact lkT2_wp hj hA ok0 rp
  | tn m =>
    have ok : Ok I G (keys ((q, oc ty_guard_look (lkC gq work first times (.iface ty_p_epoch_Turn (.pointer (some ⟨tj.q, 0, none⟩))))) :: (g.bl gq mq e ++ (m.bl tj ++ gar)))) := ok
    show wp Try.prog _ L (own A ((q, oc ty_guard_look (lkC gq work first times (.iface ty_p_epoch_Turn (.pointer (some ⟨tj.q, 0, none⟩))))) :: (g.bl gq mq e ++ (m.bl tj ++ gar))) G) _
    refine wp_nil.2 (w_ld 0 (x := .iface ty_p_epoch_Turn (.pointer (some ⟨tj.q, 0, none⟩))) hA ok rfl rfl rfl ?_)
    refine look_val (x := true) (neqMc _ _ _) (wp_true rfl ?_)
    refine wp_nil.2 (w_ld 0 (x := .iface ty_p_epoch_Turn (.pointer (some ⟨tj.q, 0, none⟩))) hA ok rfl rfl rfl ?_)
    refine act_enter (mTn_inv _ _) ?_
    obtain ⟨p1, ok1⟩ := own_perm (A := A) (l' := m.bl tj ++ ((q, oc ty_guard_look (lkC gq work first times (.iface ty_p_epoch_Turn (.pointer (some ⟨tj.q, 0, none⟩))))) :: (g.bl gq mq e ++ gar))) ok (perm_by fun c d c0 cd ca => by simp only [cd, ca]; omega)
    rw [p1]
    rw [keys_append] at ok1
    obtain ⟨o1, o2⟩ := ok1.split
    refine w_sub (mTn_ok I A _ m tj hA o1 rp.m hi.1) ?_
    rintro v K ⟨tj', rfl, rfl, ea, o3, rt, hA'⟩
    have ea : tj'.q = tj.q := ea
    refine ⟨_, rfl, ?_⟩
    have o4 : Ok I G (keys ((m.step A).1.bl tj' ++ ((q, oc ty_guard_look (lkC gq work first times (.iface ty_p_epoch_Turn (.pointer (some ⟨tj.q, 0, none⟩))))) :: (g.bl gq mq e ++ gar)))) := by rw [keys_append]; exact o3.join o2
    show wp Try.prog _ L (own (m.step A).2 ((m.step A).1.bl tj') (putL _ G)) _
    rw [← own_append]
    rw [← ea] at o4 ⊢
    obtain ⟨p2, o5⟩ := own_perm (A := (m.step A).2) (l' := Lk.bl ⟨g, ls, work, first, times, .tn (m.step A).1⟩ ⟨q, gq, mq, e, tj', sj, gar⟩) o4 (perm_by fun c d c0 cd ca => by
      show _ = c ((q, oc ty_guard_look (lkC gq work first times (.iface ty_p_epoch_Turn (.pointer (some ⟨tj'.q, 0, none⟩))))) :: (g.bl gq mq e ++ ((m.step A).1.bl tj' ++ gar)))
      simp only [cd, ca]; omega)
    rw [p2]
    exact lkT_fin (x := ⟨g, ls, work, first, times, .tn (m.step A).1⟩) (j := ⟨q, gq, mq, e, tj', sj, gar⟩) rfl hj hA' o5 ⟨rp.le, rp.ls, rt⟩ hg
  | sc m =>
    have ok : Ok I G (keys ((q, oc ty_guard_look (lkC gq work first times (.iface ty_p_hazard_Scan (.pointer (some ⟨sj.q, 0, none⟩))))) :: (g.bl gq mq e ++ (m.bl sj ++ gar)))) := ok
    show wp Try.prog _ L (own A ((q, oc ty_guard_look (lkC gq work first times (.iface ty_p_hazard_Scan (.pointer (some ⟨sj.q, 0, none⟩))))) :: (g.bl gq mq e ++ (m.bl sj ++ gar))) G) _
    refine wp_nil.2 (w_ld 0 (x := .iface ty_p_hazard_Scan (.pointer (some ⟨sj.q, 0, none⟩))) hA ok rfl rfl rfl ?_)
    refine look_val (x := true) (neqMc _ _ _) (wp_true rfl ?_)
    refine wp_nil.2 (w_ld 0 (x := .iface ty_p_hazard_Scan (.pointer (some ⟨sj.q, 0, none⟩))) hA ok rfl rfl rfl ?_)
    refine act_enter (mSc_inv _ _) ?_
    obtain ⟨p1, ok1⟩ := own_perm (A := A) (l' := m.bl sj ++ ((q, oc ty_guard_look (lkC gq work first times (.iface ty_p_hazard_Scan (.pointer (some ⟨sj.q, 0, none⟩))))) :: (g.bl gq mq e ++ gar))) ok (perm_by fun c d c0 cd ca => by simp only [cd, ca]; omega)
    rw [p1]
    rw [keys_append] at ok1
    obtain ⟨o1, o2⟩ := ok1.split
    refine w_sub (mSc_ok I A _ m sj hA o1 rp.m hi.1) ?_
    rintro v K ⟨sj', rfl, rfl, ea, o3, rt, hA'⟩
    have ea : sj'.q = sj.q := ea
    refine ⟨_, rfl, ?_⟩
    have o4 : Ok I G (keys ((m.step A).1.bl sj' ++ ((q, oc ty_guard_look (lkC gq work first times (.iface ty_p_hazard_Scan (.pointer (some ⟨sj.q, 0, none⟩))))) :: (g.bl gq mq e ++ gar)))) := by rw [keys_append]; exact o3.join o2
    show wp Try.prog _ L (own (m.step A).2 ((m.step A).1.bl sj') (putL _ G)) _
    rw [← own_append]
    rw [← ea] at o4 ⊢
    obtain ⟨p2, o5⟩ := own_perm (A := (m.step A).2) (l' := Lk.bl ⟨g, ls, work, first, times, .sc (m.step A).1⟩ ⟨q, gq, mq, e, tj, sj', gar⟩) o4 (perm_by fun c d c0 cd ca => by
      show _ = c ((q, oc ty_guard_look (lkC gq work first times (.iface ty_p_hazard_Scan (.pointer (some ⟨sj'.q, 0, none⟩))))) :: (g.bl gq mq e ++ ((m.step A).1.bl sj' ++ gar)))
      simp only [cd, ca]; omega)
    rw [p2]
    exact lkT_fin (x := ⟨g, ls, work, first, times, .sc (m.step A).1⟩) (j := ⟨q, gq, mq, e, tj, sj', gar⟩) rfl hj hA' o5 ⟨rp.le, rp.ls, rt⟩ hg
end
end Go.Proofs.Ytcjhakdopnamoaa

set_option linter.unusedVariables false
set_option linter.unusedSimpArgs false
set_option maxRecDepth 20000
namespace Go.Proofs.Ytcjhakdopnamoaa
open Go Go.Fw

theorem eL_set (rest : List Value) (v : Int) : ∀ (xs : List (Int × Int)) (n : Nat), n < xs.length → (eL.all xs ++ rest).set (n * 2 + 1) (.int .i64 v) = eL.all (xs.set n ((xs.getD n (0, 0)).1, v)) ++ rest
  | [], n, h => by simp at h
  | x :: xs, 0, _ => rfl
  | x :: xs, n + 1, h => by
    have ih := eL_set rest v xs n (by simpa using h)
    show (Value.int .i64 x.1 :: .int .i64 x.2 :: (eL.all xs ++ rest)).set ((n + 1) * 2 + 1) _ = .int .i64 x.1 :: .int .i64 x.2 :: (eL.all (xs.set n ((xs.getD n (0, 0)).1, v)) ++ rest)
    rw [← ih, show (n + 1) * 2 + 1 = (n * 2 + 1) + 1 + 1 by omega]
    rfl
theorem leC_same : ∀ {e : List LE} {y : LE}, (leGet e y.k).xs ≠ [] → y.s = (leGet e y.k).s → leC (lePut e y) = leC e
  | [], y, h, _ => (h rfl).elim
  | x :: e, y, h, hs => by
    unfold leGet at h hs
    show leC (if y.k = x.k then y :: e else x :: lePut e y) = leC (x :: e)
    by_cases c : y.k = x.k
    · rw [if_pos c] at h hs ⊢
      show (y.k, y.s) :: leC e = (x.k, x.s) :: leC e
      rw [c, hs]
    · rw [if_neg c] at h hs ⊢
      show (x.k, x.s) :: leC (lePut e y) = (x.k, x.s) :: leC e
      rw [leC_same h hs]

structure Lk.inv (x : Lk) (A : Ar) : Prop where
  ll : (x.ls x.work).length ≤ 1000
  fs : x.first = true → x.g.ep = true ∧ x.ls x.work ≠ [] ∧ x.m = .no
  wb : 1 ≤ x.g.w ∧ x.g.w ≤ 1000
  mi : x.m.inv A
theorem begin_inv {x : Lk} {A : Ar} (ll : (x.ls x.work).length ≤ 1000) (wb : 1 ≤ x.g.w ∧ x.g.w ≤ 1000) : x.begin.m.inv A := by
  unfold Lk.begin
  dsimp only
  split
  · exact ⟨⟨ll, fun _ => ⟨rfl, rfl⟩, fun h => by cases h⟩, Nat.zero_le _⟩
  · exact ⟨⟨wb, Int.le_refl 0, by show ((x.ls x.work).map Prod.fst).length ≤ 1000; rw [List.length_map]; exact ll, fun _ => .inl ⟨by show (0 : Int) < 2 * x.g.w; omega, rfl, rfl, rfl⟩⟩, Nat.zero_le _⟩
def mLk (gq mq : Nat) : MchR Lk LkJ where
  f := f_guard_look_Step
  addr := LkJ.q
  bl := Lk.bl
  rep := fun x j => x.rep j ∧ j.gq = gq ∧ j.mq = mq
  inv := Lk.inv
  step := Lk.step
  fin := Lk.fin
theorem mLk_inv (gq mq : Nat) : (mLk gq mq).inv' ty_p_guard_look := fun q p => by
  show opS _ _ _ _ = .pure (.enter f_guard_look_Step [.pointer (some ⟨q, 0, none⟩), .pointer p].toArray)
  kernel_rfl

section
variable {L : Hands} {R : Value → Heap → Prop} {G : Heap} {l rest : Bl} {A : Ar} {I : List Nat}

set_option maxHeartbeats 1000000 in
theorem look_first (x : Lk) (j : LkJ) (hA : Aw I A) (ok : Ok I G (keys (x.bl j))) (rp : x.rep j) (hf : x.first = true) (hi : x.inv A) :
    wp Try.prog (t_guard_look_Step (some ⟨j.q, 0, none⟩) (aI I)) L (own A (x.bl j) G) (LkP (x.step A) j I G) := by
  obtain ⟨h1, h2, h3⟩ := hi.fs hf
  have hlen := hi.ll
  unfold Lk.step
  rw [if_pos hf]
  obtain ⟨g, ls, work, first, times, m⟩ := x
  obtain ⟨q, gq, mq, e, tj, sj, gar⟩ := j
  have h1 : g.ep = true := h1
  have h2 : ls work ≠ [] := h2
  have h3 : m = .no := h3
  have hf : first = true := hf
  have hlen : (ls work).length ≤ 1000 := hlen
  subst h3 hf
  unfold t_guard_look_Step
  have ok : Ok I G (keys ((q, oc ty_guard_look (lkC gq work true times .nilIface)) :: (gq, oc ty_guard_Guard (g.cells mq)) :: (mq, mapObj slV (leC e)) :: (leB e ++ gar))) := ok
  show wp Try.prog _ L (own A ((q, oc ty_guard_look (lkC gq work true times .nilIface)) :: (gq, oc ty_guard_Guard (g.cells mq)) :: (mq, mapObj slV (leC e)) :: (leB e ++ gar)) G) _
  refine wp_nil.2 (w_ld 0 (x := true) hA ok rfl rfl rfl (wp_true rfl ?_))
  refine wp_nil.2 (w_st 0 hA ok rfl rfl rfl rfl ?_)
  have ok1 : Ok I G (keys ((q, oc ty_guard_look (lkC gq work false times .nilIface)) :: (gq, oc ty_guard_Guard (g.cells mq)) :: (mq, mapObj slV (leC e)) :: (leB e ++ gar))) := ok
  show wp Try.prog _ L (own A ((q, oc ty_guard_look (lkC gq work false times .nilIface)) :: (gq, oc ty_guard_Guard (g.cells mq)) :: (mq, mapObj slV (leC e)) :: (leB e ++ gar)) G) _
  refine wp_nil.2 (w_ld 0 (x := some ⟨gq, 0, none⟩) hA ok1 rfl rfl rfl ?_)
  refine wp_nil.2 (w_ld 1 (x := some mq) hA ok1 rfl rfl rfl ?_)
  refine wp_nil.2 (w_ld 0 (x := work) hA ok1 rfl rfl rfl ?_)
  refine w_lk 2 hA ok1 rfl ?_
  refine wp_nil.2 (w_ld 0 (x := some ⟨gq, 0, none⟩) hA ok1 rfl rfl rfl ?_)
  refine wp_nil.2 (w_ld 1 (x := gmode g.ep g.w g.ta) hA ok1 rfl rfl rfl ?_)
  rw [h1]
  refine look_val (x := (g.w, g.ta, ())) (ta_ep _ _ _) ?_
  refine wq_Global (tw := g.w) (ta := g.ta) ?_
  refine w_Raw hA fun hA => ?_
  have hs : SlOf (leGet e work).hb ty_epoch_Limbo eL (leGet e work).s (leGet e work).xs := rp.le work
  have hxs : (leGet e work).xs = ls work := rp.ls work
  rcases hs with ⟨_, h0⟩ | ⟨b, rest, r, hsl, hr, hm⟩
  · exact (h2 (hxs.symm.trans h0)).elim
  · have hpos : 0 < (ls work).length := List.length_pos_iff.2 h2
    rw [hxs] at hsl hm
    obtain ⟨s1, s2, hsp⟩ := List.mem_iff_append.1 hm
    rw [hsl]
    have e64 : w64 ((((ls work).length : Nat) : Int) - 1) = (((ls work).length - 1 : Nat) : Int) := by rw [w64_in (by omega) (by omega)]; omega
    show wp Try.prog (.look (opS Try.prog (.indexAddr ty_s_epoch_Limbo (.tmp 0) (.tmp 1)) ty_unit [(.slice (some ⟨b, 0, none⟩) (ls work).length ((ls work).length + r)), (.int .i64 (w64 ((((ls work).length : Nat) : Int) - 1)))]) (.one (.leaf .addr)) _) L _ _
    rw [e64]
    refine look_val (x := ⟨b, ((ls work).length - 1) * 2, none⟩) ?_ ?_
    · rw [opS_idxS (e := ty_epoch_Limbo) rfl rfl (by omega) (by omega), Addr.add_mk, Nat.zero_add]; rfl
    obtain ⟨y, hy⟩ : ∃ y : LE, y = ⟨work, (leGet e work).s, setLast (ls work) (A.rawF g.ta), s1 ++ (b, oc ty_epoch_Limbo (eL.all (setLast (ls work) (A.rawF g.ta)) ++ rest)) :: s2⟩ := ⟨_, rfl⟩
    obtain ⟨p1, ok2⟩ := own_perm (A := A.touchR g.ta) (l' := (b, oc ty_epoch_Limbo (eL.all (ls work) ++ rest)) :: (q, oc ty_guard_look (lkC gq work false times .nilIface)) :: (gq, oc ty_guard_Guard (g.cells mq)) :: (mq, mapObj slV (leC e)) :: ((s1 ++ s2) ++ (leRest e work ++ gar))) ok1 (perm_by fun c d c0 cd ca => by
      have h1 := leB_c c0 ca e work
      have h2 : c (leGet e work).hb = c s1 + c ((b, oc ty_epoch_Limbo (eL.all (ls work) ++ rest)) :: s2) := by rw [hsp, ca]
      simp only [cd, ca] at h2 ⊢; omega)
    rw [p1]
    refine w_st 0 hA ok2 rfl rfl rfl (decide_eq_true (by rw [List.length_append, eL.all_len]; show ((ls work).length - 1) * 2 + 1 < (ls work).length * 2 + _; omega)) ?_
    have eset : (eL.all (ls work) ++ rest).set (((ls work).length - 1) * 2 + 1) (.int .i64 (A.rawF g.ta)) = eL.all (setLast (ls work) (A.rawF g.ta)) ++ rest := eL_set rest _ (ls work) _ (by omega)
    have ok3 : Ok I G (keys ((b, oc ty_epoch_Limbo (eL.all (setLast (ls work) (A.rawF g.ta)) ++ rest)) :: (q, oc ty_guard_look (lkC gq work false times .nilIface)) :: (gq, oc ty_guard_Guard (g.cells mq)) :: (mq, mapObj slV (leC e)) :: ((s1 ++ s2) ++ (leRest e work ++ gar)))) := ok2
    show wp Try.prog _ L (own (A.touchR g.ta) ((b, oc ty_epoch_Limbo ((eL.all (ls work) ++ rest).set (((ls work).length - 1) * 2 + 1) (.int .i64 (A.rawF g.ta)))) :: (q, oc ty_guard_look (lkC gq work false times .nilIface)) :: (gq, oc ty_guard_Guard (g.cells mq)) :: (mq, mapObj slV (leC e)) :: ((s1 ++ s2) ++ (leRest e work ++ gar))) G) _
    rw [eset]
    have hl2 : (setLast (ls work) (A.rawF g.ta)).length = (ls work).length := by unfold setLast; rw [List.length_set]
    have hsY : SlOf y.hb ty_epoch_Limbo eL y.s y.xs := by
      rw [hy]
      exact .inr ⟨b, rest, r, by rw [hl2]; exact hsl, hr, List.mem_append_right _ List.mem_cons_self⟩
    have hyk : y.k = work := by rw [hy]
    have eC : leC (lePut e y) = leC e := leC_same (by rw [hyk, hxs]; exact h2) (by rw [hyk]; rw [hy])
    obtain ⟨p2, ok4⟩ := own_perm (A := A.touchR g.ta) (l' := (q, oc ty_guard_look (lkC gq work false times .nilIface)) :: (gq, oc ty_guard_Guard (g.cells mq)) :: (mq, mapObj slV (leC (lePut e y))) :: (leB (lePut e y) ++ gar)) ok3 (perm_by fun c d c0 cd ca => by
      have h1 := leB_put_c c0 ca e y
      have h2 : c y.hb = c s1 + c ((b, oc ty_epoch_Limbo (eL.all (setLast (ls work) (A.rawF g.ta)) ++ rest)) :: s2) := by rw [hy]; exact ca _ _
      rw [eC]
      rw [hyk] at h1
      simp only [cd, ca] at h2 ⊢; omega)
    rw [p2]
    refine wp_nil.2 (w_ld 0 (x := times) hA ok4 rfl rfl rfl ?_)
    refine wp_ret_of ⟨⟨q, gq, mq, lePut e y, tj, sj, gar⟩, rfl, rfl, ⟨rfl, rfl, rfl⟩, ok4, ⟨rp.le.put hsY, ?_, trivial⟩, hA⟩
    have := lsPut rp.ls y
    rw [hy] at this ⊢
    exact this

theorem look_rest (x : Lk) (j : LkJ) (hA : Aw I A) (ok : Ok I G (keys (x.bl j))) (rp : x.rep j) (hf : x.first = false) (hi : x.inv A) :
    wp Try.prog (t_guard_look_Step (some ⟨j.q, 0, none⟩) (aI I)) L (own A (x.bl j) G) (LkP (x.step A) j I G) := by
  have hlen := hi.ll
  have hwb := hi.wb
  have hmi := hi.mi
  unfold Lk.step
  rw [if_neg (by rw [hf]; decide)]
  unfold Lk.go t_guard_look_Step
  have ok0 := ok
  obtain ⟨g, ls, work, first, times, m⟩ := x
  have hf : first = false := hf
  subst hf
  cases m with
  | no =>
    have bs := begin_spec ⟨g, ls, work, false, times, .no⟩ j hA ok rp rfl hlen
    unfold Lk.bl at ok
    refine wp_nil.2 (w_ld 0 (x := false) hA ok rfl rfl rfl (wp_false rfl ?_))
    refine wp_nil.2 (w_ld 0 (x := .nilIface) hA ok rfl rfl rfl ?_)
    refine look_val (x := true) (eqlMc0 _) (wp_true rfl ?_)
    refine wp_nil.2 (w_ld 0 (x := times) hA ok rfl rfl rfl ?_)
    by_cases ht : 0 < times
    · refine wp_true (decide_eq_true ht) ?_
      refine wp_call_of bs ?_
      rintro v K ⟨j', rfl, rfl, e1, e2, e3, ok', rp'⟩
      refine ⟨(), rfl, ?_⟩
      show wp Try.prog _ L _ (LkP ((if 0 < times then Lk.begin ⟨g, ls, work, false, times, .no⟩ else ⟨g, ls, work, false, times, .no⟩).mid A) j I G)
      rw [if_pos ht, ← e1]
      exact lkT_wp ⟨e1, e2, e3⟩ hA ok' rp' (begin_inv hlen hwb)
    · refine wp_false (decide_eq_false ht) ?_
      show wp Try.prog _ L _ (LkP ((if 0 < times then Lk.begin ⟨g, ls, work, false, times, .no⟩ else ⟨g, ls, work, false, times, .no⟩).mid A) j I G)
      rw [if_neg ht]
      exact lkT_wp (x := ⟨g, ls, work, false, times, .no⟩) ⟨rfl, rfl, rfl⟩ hA ok0 rp hmi
  | tn m =>
    unfold Lk.bl at ok
    refine wp_nil.2 (w_ld 0 (x := false) hA ok rfl rfl rfl (wp_false rfl ?_))
    refine wp_nil.2 (w_ld 0 (x := .iface ty_p_epoch_Turn (.pointer (some ⟨j.tj.q, 0, none⟩))) hA ok rfl rfl rfl ?_)
    refine look_val (x := false) (eqlMc _ _ _) (wp_false rfl ?_)
    exact lkT_wp (x := ⟨g, ls, work, false, times, .tn m⟩) ⟨rfl, rfl, rfl⟩ hA ok0 rp hmi
  | sc m =>
    unfold Lk.bl at ok
    refine wp_nil.2 (w_ld 0 (x := false) hA ok rfl rfl rfl (wp_false rfl ?_))
    refine wp_nil.2 (w_ld 0 (x := .iface ty_p_hazard_Scan (.pointer (some ⟨j.sj.q, 0, none⟩))) hA ok rfl rfl rfl ?_)
    refine look_val (x := false) (eqlMc _ _ _) (wp_false rfl ?_)
    exact lkT_wp (x := ⟨g, ls, work, false, times, .sc m⟩) ⟨rfl, rfl, rfl⟩ hA ok0 rp hmi
end

theorem mLk_ok (gq mq : Nat) : (mLk gq mq).ok := by
  rintro I A G x j hA ok ⟨rp, e1, e2⟩ hi
  refine t_guard_look_Step_spec fun L => ?_
  refine Go.Fw.wp_mono _ (R := LkP (x.step A) j I G) ?_ (fun _ _ _ h => h) ?_
  · by_cases hf : x.first = true
    · exact look_first x j hA ok rp hf hi
    · exact look_rest x j hA ok rp (by simpa using hf) hi
  · rintro v K ⟨j', rfl, rfl, ⟨a, b, c⟩, ok', rp', hA'⟩
    exact ⟨j', rfl, rfl, a, ok', ⟨rp', b.trans e1, c.trans e2⟩, hA'⟩
end Go.Proofs.Ytcjhakdopnamoaa

set_option linter.unusedVariables false
set_option linter.unusedSimpArgs false
set_option maxRecDepth 20000
namespace Go.Proofs.Ytcjhakdopnamoaa
open Go Go.Fw

def retLk (g : Gd) (ls : Int → List (Int × Int)) (k h : Int) : Lk := ⟨g, setL ls k (ls k ++ [(h, 0)]), k, g.ep, if g.th ≤ ((ls k).length : Int) + 1 then 1 else 0, .no⟩
def retM (g : Gd) (ls : Int → List (Int × Int)) (k h : Int) : Option Lk :=
  if g.ep = true then some (retLk g ls k h) else if g.th ≤ ((ls k).length : Int) + 1 then some (retLk g ls k h).begin else none
def forLk (g : Gd) (ls : Int → List (Int × Int)) (k : Int) : Lk := ⟨g, ls, k, false, if g.ep = true then 3 else 1, .no⟩
def forM (g : Gd) (ls : Int → List (Int × Int)) (k : Int) : Option Lk := if ls k = [] then none else some (forLk g ls k).begin

/-- A guard's lists in memory. -/
structure GdS (e : List LE) (ls : Int → List (Int × Int)) : Prop where
  le : leOk e
  ls : ∀ k, (leGet e k).xs = ls k

def GPost (o : Option Lk) (g : Gd) (ls : Int → List (Int × Int)) (q mq : Nat) (A : Ar) (I : List Nat) (G : Heap) : Value → Heap → Prop := fun v K => match o with
  | none => ∃ e gar, v = .nilIface ∧ K = own A (g.bl q mq e ++ gar) G ∧ Ok I G (keys (g.bl q mq e ++ gar)) ∧ GdS e ls
  | some x => ∃ j : LkJ, v = .iface ty_p_guard_look (.pointer (some ⟨j.q, 0, none⟩)) ∧ K = own A (x.bl j) G ∧ Ok I G (keys (x.bl j)) ∧ (mLk q mq).rep x j

section
variable {L : Hands} {R : Value → Heap → Prop} {G : Heap} {l rest : Bl} {A : Ar} {I : List Nat}

set_option maxHeartbeats 1000000 in
theorem force_spec {g : Gd} {e : List LE} {ls : Int → List (Int × Int)} {q mq : Nat} {k : Int} (hA : Aw I A) (ok : Ok I G (keys (g.bl q mq e))) (gs : GdS e ls) (hl : (ls k).length ≤ 1000) :
    SpecF Try.prog f_guard_Guard_Force #[.pointer (some ⟨q, 0, none⟩), .int .i64 k] (own A (g.bl q mq e) G) (GPost (forM g ls k) g ls q mq A I G) := by
  refine t_guard_Guard_Force_spec fun L => ?_
  unfold t_guard_Guard_Force
  have hsl : (leGet e k).s.len = (ls k).length := by rw [← gs.ls k]; exact (gs.le k).len
  refine wp_nil.2 (w_ld 0 (x := some mq) hA ok rfl rfl rfl ?_)
  refine w_lk 1 hA ok rfl ?_
  unfold forM
  by_cases h0 : ls k = []
  · rw [if_pos h0]
    refine wp_true (ibeq (by rw [hsl, h0]; rfl)) ?_
    refine wp_ret_of ⟨e, [], rfl, by rw [List.append_nil], by rw [List.append_nil]; exact ok, gs⟩
  · rw [if_neg h0]
    have hp := List.length_pos_iff.2 h0
    refine wp_false (ibef (by rw [hsl]; omega)) ?_
    refine w_newP (c := [.pointer (some ⟨q, 0, none⟩), .int .i64 k, .bool false, .int .i64 1, .nilIface]) hA ok fun z ok1 => ?_
    refine wp_nil.2 (w_ld 1 (x := gmode g.ep g.w g.ta) hA ok1 rfl rfl rfl ?_)
    have tail : ∀ (L : Hands) (x6 : Nat) (o : Obj) (t : Int), Ok I G (keys ((x6, o) :: (z, oc ty_guard_look (lkC q k false t .nilIface)) :: g.bl q mq e)) → (forLk g ls k) = ⟨g, ls, k, false, t, .no⟩ →
        wp Try.prog (.call f_guard_look_begin [(.pointer (some ⟨z, 0, none⟩))] .unit fun _ => .ret (.iface ty_p_guard_look (.pointer (some ⟨z, 0, none⟩)))) L (own A ((x6, o) :: (z, oc ty_guard_look (lkC q k false t .nilIface)) :: g.bl q mq e) G) (GPost (some (forLk g ls k).begin) g ls q mq A I G) := fun L x6 o t ok2 et => by
      rw [et]
      obtain ⟨p1, ok3⟩ := own_perm (A := A) (l' := Lk.bl ⟨g, ls, k, false, t, .no⟩ ⟨z, q, mq, e, ⟨0, sl0, sl0, sl0, [], [], [], []⟩, ⟨0, 0, sl0, sl0, sl0, [], [], [], []⟩, [(x6, o)]⟩) ok2 (perm_by fun c d c0 cd ca => by
        show _ = c ((z, oc ty_guard_look (lkC q k false t .nilIface)) :: (g.bl q mq e ++ ([] ++ [(x6, o)])))
        simp only [cd, ca, c0]; omega)
      rw [p1]
      refine wp_call_of (begin_spec _ ⟨z, q, mq, e, ⟨0, sl0, sl0, sl0, [], [], [], []⟩, ⟨0, 0, sl0, sl0, sl0, [], [], [], []⟩, [(x6, o)]⟩ hA ok3 ⟨gs.le, gs.ls, trivial⟩ rfl hl) ?_
      rintro v K ⟨j', rfl, rfl, e1, e2, e3, ok', rp'⟩
      refine ⟨(), rfl, wp_ret_of ⟨j', ?_, rfl, ok', rp', e2, e3⟩⟩
      have e1 : j'.q = z := e1
      rw [e1]
    cases hp : g.ep with
    | true =>
      refine look_val (x := ((g.w, g.ta, ()), true, ())) (ta_epT _ _ _) ?_
      refine w_newP (c := [.int .i64 0, .int .i64 0]) hA ok1 fun x6 ok2 => ?_
      refine w_stA 0 hA ok2 rfl rfl rfl rfl (wp_true rfl ?_)
      refine wp_nil.2 (w_st 1 hA (by exact ok2) rfl rfl rfl rfl ?_)
      exact tail _ x6 _ 3 ok2 (by unfold forLk; rw [if_pos hp])
    | false =>
      refine look_val (x := ((0, 0, ()), false, ())) (ta_epF _ _ _) ?_
      refine w_newP (c := [.int .i64 0, .int .i64 0]) hA ok1 fun x6 ok2 => ?_
      refine w_stA 0 hA ok2 rfl rfl rfl rfl (wp_false rfl ?_)
      exact tail _ x6 _ 1 ok2 (by unfold forLk; rw [if_neg (by rw [hp]; decide)])
end
end Go.Proofs.Ytcjhakdopnamoaa

set_option linter.unusedVariables false
set_option linter.unusedSimpArgs false
set_option maxRecDepth 20000
namespace Go.Proofs.Ytcjhakdopnamoaa
open Go Go.Fw

def tj0 : TnJ := ⟨0, sl0, sl0, sl0, [], [], [], []⟩
def sj0 : ScJ := ⟨0, 0, sl0, sl0, sl0, [], [], [], []⟩

section
variable {L : Hands} {R : Value → Heap → Prop} {G : Heap} {l rest : Bl} {A : Ar} {I : List Nat}

theorem GdS.put {e : List LE} {ls : Int → List (Int × Int)} (gs : GdS e ls) {y : LE} (hy : SlOf y.hb ty_epoch_Limbo eL y.s y.xs) : GdS (lePut e y) (setL ls y.k y.xs) := ⟨gs.le.put hy, lsPut gs.ls y⟩

end
end Go.Proofs.Ytcjhakdopnamoaa

set_option linter.unusedVariables false
set_option linter.unusedSimpArgs false
set_option maxRecDepth 20000
namespace Go.Proofs.Ytcjhakdopnamoaa
open Go Go.Fw

/-! ### Scans and turns alone, slots of any class -/

def szs : List Int → Int
  | [] => 0
  | h :: t => sizeF (opC h) + szs t
theorem sz_op (h : Int) : 8 ≤ sizeF (opC h) ∧ sizeF (opC h) ≤ 64 ∧ sizeF (opC h) % 8 = 0 := sz_pos (opC_nat h).1 (opC_nat h).2
theorem szs_nn : ∀ xs : List Int, 0 ≤ szs xs
  | [] => Int.le_refl 0
  | h :: t => by have := sz_op h; have := szs_nn t; show 0 ≤ sizeF (opC h) + szs t; omega
theorem szs_append : ∀ xs ys : List Int, szs (xs ++ ys) = szs xs + szs ys
  | [], ys => by show szs ys = 0 + szs ys; omega
  | h :: t, ys => by show sizeF (opC h) + szs (t ++ ys) = sizeF (opC h) + szs t + szs ys; rw [szs_append t ys]; omega
theorem szs_filter (q : Int → Bool) : ∀ xs : List Int, szs (xs.filter q) + szs (xs.filter fun x => !q x) = szs xs
  | [] => rfl
  | h :: t => by
    have ih := szs_filter q t
    cases hq : q h with
    | true =>
      simp only [List.filter_cons, hq, if_true, Bool.not_true, Bool.false_eq_true, if_false]
      show sizeF (opC h) + _ + _ = sizeF (opC h) + szs t; omega
    | false =>
      simp only [List.filter_cons, hq, if_true, Bool.not_false, Bool.false_eq_true, if_false]
      show _ + (sizeF (opC h) + _) = sizeF (opC h) + szs t; omega
theorem szs_perm {xs ys : List Int} (h : xs.Perm ys) : szs xs = szs ys := by
  induction h with
  | nil => rfl
  | cons x _ ih => show sizeF (opC x) + _ = sizeF (opC x) + _; rw [ih]
  | swap x y l => show sizeF (opC y) + (sizeF (opC x) + szs l) = sizeF (opC x) + (sizeF (opC y) + szs l); omega
  | trans _ _ a b => exact a.trans b

/-- Freed, one by one. -/
def frS (who : Int) : Sg → List Int → Sg
  | S, [] => S
  | S, h :: hs => frS who { S with ch := upd S.ch (4 * who + opC h) (opB h :: S.ch (4 * who + opC h)) } hs
theorem frS_append (who : Int) : ∀ (hs ks : List Int) (S : Sg), frS who S (hs ++ ks) = frS who (frS who S hs) ks
  | [], ks, S => rfl
  | h :: hs, ks, S => frS_append who hs ks _
structure SweptG (A : Ar) (p : Pl) (w m : Int) (S : Sg) (who : Int) (hs : List Int) (A' : Ar) : Prop where
  off : Off p.carved (3 * hs.length) A A'
  sl : SL A' p w m (frS who S hs)
  st : ∀ k, A'.stF k = if k ∈ hs then 0 else A.stF k
  nL : A'.nL = A.nL
  nR : A'.nR = A.nR - szs hs

section
variable {A : Ar} {p : Pl} {w m : Int} {S : Sg}

theorem SweptG.refl {who : Int} (X : SL A p w m S) (h : A.wf) : SweptG A p w m S who [] A := ⟨.refl h, X, fun k => by rw [if_neg (by simp)], rfl, by show _ = _ - (0 : Int); omega⟩
theorem SweptG.trans {who : Int} {hs ks : List Int} {B C : Ar} (h : SweptG A p w m S who hs B) (g : SweptG B p w m (frS who S hs) who ks C) : SweptG A p w m S who (hs ++ ks) C := by
  refine ⟨?_, by rw [frS_append]; exact g.sl, fun k => ?_, g.nL.trans h.nL, by rw [g.nR, h.nR, szs_append]; omega⟩
  · have := h.off.trans g.off
    rw [List.length_append]
    rw [show (3 * ((hs.length + ks.length : Nat) : Int)) = 3 * (hs.length : Int) + 3 * (ks.length : Int) by omega]
    exact this
  · rw [g.st, h.st]
    by_cases e1 : k ∈ ks
    · rw [if_pos e1, if_pos (List.mem_append_right _ e1)]
    · rw [if_neg e1]
      by_cases e2 : k ∈ hs
      · rw [if_pos e2, if_pos (List.mem_append_left _ e2)]
      · rw [if_neg e2, if_neg (fun h => (List.mem_append.1 h).elim e2 e1)]

theorem sweepG {M J : Type} {X : MchR M J} {on : List Fe → M} (hl : ∀ (fs : List Fe) {n : Nat} {f f' : Fe} {A A' : Ar}, mFe.Runs n f A f' A' → f.done = false → (fs ≠ [] → X.Path n (on (f :: fs)) A (on fs) A') ∧ (fs = [] → X.Runs n (on [f]) A (on []) A'))
    {p : Pl} {w mm who : Int} (wh : 0 ≤ who ∧ who < w) : ∀ (hs : List Int) (A : Ar) (S : Sg), hs ≠ [] → hs.Nodup → SL A p w mm S → A.wf → A.uses + 3 * hs.length ≤ 1000000 → szs hs ≤ A.nR → (∀ h ∈ hs, A.stF h = 2) →
    ∃ A', X.Runs (3 * hs.length) (on (hs.map (newFe p who))) A (on []) A' ∧ SweptG A p w mm S who hs A'
  | [], _, _, h, _, _, _, _, _, _ => (h rfl).elim
  | h :: hs, A, S, _, hnd, X, hwf, hu, hr, hh => by
    obtain ⟨n1, n2⟩ := List.nodup_cons.1 hnd
    have h1 := hh h List.mem_cons_self
    have hr : sizeF (opC h) + szs hs ≤ A.nR := hr
    have sz := sz_op h
    have sn := szs_nn hs
    simp only [List.length_cons] at hu
    have us := X.F.us
    obtain ⟨x', A1, Z⟩ := free_solo X hwf (by omega) wh h1 (by omega)
    obtain ⟨f1, f2⟩ := hl (hs.map (newFe p who)) Z.run rfl
    have z1 := Z.off.us
    have z2 := Z.nR
    have W1 : SweptG A p w mm S who [h] A1 := ⟨Z.off, Z.sl, fun k => by rw [Z.st k]; simp, Z.nL, by rw [z2]; show _ = A.nR - (sizeF (opC h) + 0); omega⟩
    by_cases he : hs = []
    · subst he
      exact ⟨A1, f2 rfl, W1⟩
    · obtain ⟨A2, r2, W⟩ := sweepG hl wh hs A1 _ he n2 Z.sl Z.off.wf (by omega) (by omega) fun k hk => by
        have := hh k (List.mem_cons_of_mem _ hk)
        rw [Z.st k, if_neg (fun e : k = h => n1 (by rw [← e]; exact hk))]; exact this
      refine ⟨A2, ?_, W1.trans W⟩
      have := (f1 (by simpa using he)).run r2
      rw [List.length_cons, show 3 * (hs.length + 1) = 3 + 3 * hs.length by omega]
      exact this

/-- A whole scan. -/
theorem scanG {tw ta who : Int} {xs : List Int} (X : SL A p w m S) (hwf : A.wf) (tb : 1 ≤ tw ∧ tw ≤ 1000) (ll : xs.length ≤ 1000) (h0 : 0 ≤ ta) (h1 : ta + 2 * tw ≤ A.raw.length) (h2 : (A.raw.length : Int) ≤ 1000000) (u1 : A.uses ≤ 900000)
    (wh : 0 ≤ who ∧ who < w) (nd : xs.Nodup) (nr : szs xs ≤ A.nR) (hh : ∀ h ∈ xs, A.stF h = 2) :
    ∃ A' m' n, mSc.Runs n (newSc tw ta p who xs) A m' A' ∧ n = 2 * tw.toNat + 3 * (gone A tw ta xs).length ∧ m'.left = lft A tw ta xs ∧ m'.ended = true ∧ SweptG (A.later (2 * tw)) p w m S who (gone A tw ta xs) A' := by
  have u0 := X.F.us
  have pth := words_path (p := p) (who := who) (xs := xs) tb ll h0 h1 h2 u0 (by omega) ((2 * tw).toNat - 1) (by omega)
  have epp : (((2 * tw).toNat - 1 : Nat) : Int) = 2 * tw - 1 := by omega
  rw [epp] at pth
  suffices hs : ∃ A' m', mSc.Runs (1 + 3 * (gone A tw ta xs).length) (scN A tw ta p who xs ((2 * tw).toNat - 1)) (A.later (2 * tw - 1)) m' A' ∧ m'.left = lft A tw ta xs ∧ m'.ended = true ∧ SweptG (A.later (2 * tw)) p w m S who (gone A tw ta xs) A' by
    obtain ⟨A', m', r, q1, q2, q3⟩ := hs
    exact ⟨A', m', _, pth.run r, by omega, q1, q2, q3⟩
  have e : w64 (ta + (2 * tw - 1)) = ta + (2 * tw - 1) := w64_in (by omega) (by omega)
  have e2 : w64 (A.uses + (2 * tw - 1) + 1) = A.uses + (2 * tw - 1) + 1 := w64_in (by omega) (by omega)
  obtain ⟨n, hn⟩ : ∃ n : Nat, (2 * tw).toNat = n + 1 := ⟨(2 * tw).toNat - 1, by omega⟩
  have hn1 : (n : Int) = 2 * tw - 1 := by omega
  rw [hn, Nat.add_sub_cancel, ← hn1]
  rw [← hn1] at e e2
  let B : Sc := ⟨tw, ta, p, who, n + 1, xs, seenN A ta (n + 1), true, [], lft A tw ta xs, false⟩
  have hgo : xs.filter (fun h => !inS (seenN A ta (n + 1)) h) = gone A tw ta xs := by unfold gone; rw [hn]
  have hlf : xs.filter (inS (seenN A ta (n + 1))) = lft A tw ta xs := by unfold lft; rw [hn]
  have hB : B.base := ⟨tb, by show ((n : Int) + 1) = 2 * tw; omega, ll, rfl⟩
  have hst : mSc.step (scN A tw ta p who xs n) (A.later n) = (B.on ((gone A tw ta xs).map (newFe p who)), A.later (2 * tw)) := by
    show Sc.step (scN A tw ta p who xs n) (A.later n) = _
    unfold Sc.step
    rw [if_neg (show ¬ (scN A tw ta p who xs n).ended = true by intro h; cases h)]
    have en : (scN A tw ta p who xs n).word = n := rfl
    have et : (scN A tw ta p who xs n).ta = ta := rfl
    have ew : (scN A tw ta p who xs n).tw = tw := rfl
    rw [en, et, ew, if_pos (show (n : Int) < 2 * tw by omega), if_pos (by omega), e, tick_later (A := A.later n) (i := ta + n) ⟨by omega, by show ta + n < (A.raw.length : Int); omega⟩ (by show 0 ≤ A.uses + n; omega) (by show A.uses + n ≤ _; omega), later_add, show (n : Int) + 1 = 2 * tw by omega]
    refine Prod.ext ?_ rfl
    have hs : (scN A tw ta p who xs n).word1 (A.later n) = ⟨tw, ta, p, who, n + 1, xs, seenN A ta (n + 1), false, [], [], false⟩ := by
      unfold Sc.word1
      rw [en, et, e]; rfl
    dsimp only
    rw [hs]
    show Sc.mk tw ta p who (n + 1) xs (seenN A ta (n + 1)) true (((xs.take xs.length).filter fun h => !inS (seenN A ta (n + 1)) h).map (newFe p who)) ((xs.take xs.length).filter (inS (seenN A ta (n + 1)))) (decide ((((xs.take xs.length).filter fun h => !inS (seenN A ta (n + 1)) h).map (newFe p who)) = [])) = _
    rw [List.take_length, hgo, hlf]
  have iv : mSc.inv (scN A tw ta p who xs n) (A.later n) := ⟨tb, by show (0 : Int) ≤ n; omega, ll, fun _ => .inl ⟨by show (n : Int) < 2 * tw; omega, rfl, rfl, rfl⟩⟩
  have hu : (A.later (2 * tw)).uses ≤ w64 ((A.later n).uses + 1) := by
    show A.uses + 2 * tw ≤ w64 (A.uses + n + 1)
    rw [e2]; omega
  have hle : (gone A tw ta xs).length ≤ xs.length := List.length_filter_le _ _
  have hsz : szs (gone A tw ta xs) ≤ szs xs := by
    have h1 := szs_filter (inS (seenN A ta (2 * tw).toNat)) xs
    have h2 := szs_nn (xs.filter (inS (seenN A ta (2 * tw).toNat)))
    show szs (xs.filter fun h => !inS (seenN A ta (2 * tw).toNat) h) ≤ _; omega
  by_cases hg : gone A tw ta xs = []
  · refine ⟨A.later (2 * tw), B.on [], ?_, rfl, rfl, ?_⟩
    · rw [hg] at hst ⊢
      exact .one iv hst hu rfl
    · rw [hg]; exact .refl (X.later (by omega)) (later_wf hwf _)
  · obtain ⟨A', r, W⟩ := sweepG (X := mSc) (on := B.on) (fun fs {n f f' A A'} h hf => sc_free hB h hf) (p := p) (w := w) (mm := m) wh (gone A tw ta xs) (A.later (2 * tw)) S hg (nd.filter _) (X.later (by omega)) (later_wf hwf _) (by show A.uses + 2 * tw + _ ≤ _; omega) (by show _ ≤ A.nR; omega) fun h hm => hh h (List.mem_filter.1 hm).1
    refine ⟨A', B.on [], ?_, rfl, rfl, W⟩
    rw [Nat.add_comm]
    refine .more iv hst hu ?_ r
    show decide ((gone A tw ta xs).map (newFe p who) = []) = false
    simpa using hg

theorem turnG_end {who : Int} {B D : Ar} {mm t : Tn} (X : SL B p w m S) (hwf : B.wf) (wh : 0 ≤ who ∧ who < w) (tp : t.pl = p) (tw : t.work = who) (ll : t.l.length ≤ 1000) (u1 : B.uses ≤ 900000)
    (nd : (t.l.map Prod.fst).Nodup) (nr : szs (t.l.map Prod.fst) ≤ B.nR) (hh : ∀ x ∈ t.l, B.stF x.1 = 2) (iv : mTn.inv mm D) (hst : mTn.step mm D = (t.sort, B)) (hu : B.uses ≤ w64 (D.uses + 1)) :
    ∃ A' m', mTn.Runs (1 + 3 * (tgone t.e t.l).length) mm D m' A' ∧ m'.left = tleft t.e t.l ∧ 4 ≤ m'.ph ∧ SweptG B p w m S who (tgone t.e t.l) A' := by
  subst tp; subst tw
  rw [tn_sorted] at hst
  have hle : (tgone t.e t.l).length ≤ t.l.length := by unfold tgone; rw [List.length_map]; exact List.length_filter_le _ _
  have hsz : szs (tgone t.e t.l) ≤ szs (t.l.map Prod.fst) := by
    have : ∀ l : List (Int × Int), szs ((l.filter (due t.e)).map Prod.fst) ≤ szs (l.map Prod.fst) := fun l => by
      induction l with
      | nil => exact Int.le_refl 0
      | cons x l ih =>
        have sx := sz_op x.1
        rw [List.filter_cons]
        split
        · show sizeF (opC x.1) + _ ≤ sizeF (opC x.1) + _; omega
        · show _ ≤ sizeF (opC x.1) + _; omega
    exact this _
  by_cases hg : tgone t.e t.l = []
  · refine ⟨B, Tn.on { t with left := tleft t.e t.l } [], ?_, rfl, Nat.le_refl 4, ?_⟩
    · rw [hg] at hst ⊢
      exact .one iv hst hu rfl
    · rw [hg]; exact .refl X hwf
  · obtain ⟨A', r, W⟩ := sweepG (X := mTn) (on := Tn.on { t with left := tleft t.e t.l }) (fun fs {n f f' A A'} h hf => tn_free (m := { t with left := tleft t.e t.l }) ll h hf) (p := t.pl) (w := w) (mm := m) wh (tgone t.e t.l) B S hg (((List.filter_sublist (l := t.l) (p := due t.e)).map Prod.fst).nodup nd) X hwf (by omega) (by omega) fun h hm => by
      obtain ⟨x, hx, rfl⟩ := List.mem_map.1 hm
      exact hh x (List.mem_filter.1 hx).1
    refine ⟨A', Tn.on { t with left := tleft t.e t.l } [], ?_, rfl, Nat.le_refl 4, W⟩
    rw [Nat.add_comm]
    refine .more iv hst hu ?_ r
    have : (tgone t.e t.l).map (newFe t.pl t.work) ≠ [] := by simpa using hg
    show decide (4 ≤ (Tn.on { t with left := tleft t.e t.l } ((tgone t.e t.l).map (newFe t.pl t.work))).ph) = false
    rw [show (Tn.on { t with left := tleft t.e t.l } ((tgone t.e t.l).map (newFe t.pl t.work))).ph = 3 from if_neg this]; rfl

/-- A whole turn: B is the arena when it sorts, e1 the epoch then. -/
structure TurnB (A : Ar) (p : Pl) (w m : Int) (S : Sg) (tw ta e e1 : Int) (B : Ar) : Prop where
  sl : SL B p w m S
  wf : B.wf
  al : Ar.Alike A B
  wd : B.words = A.words
  fa : B.fault = A.fault
  fr : B.fresh = A.fresh
  rl : B.raw.length = A.raw.length
  rw : ∀ i, B.rawF i = if i = ta then e1 else A.rawF i
  us : A.uses + 1 ≤ B.uses ∧ B.uses ≤ A.uses + 2 + tw
  st : ∀ h, B.stF h = A.stF h
  nL : B.nL = A.nL
  nR : B.nR = A.nR
  ei : e1 = e ∨ e1 = e + 1
  up : (∀ i : Nat, (i : Int) < tw → A.rawF (ta + 1 + i) = 0 ∨ A.rawF (ta + 1 + i) = e + 1) → e1 = e + 1
  dn : e1 = e + 1 → ∀ i : Nat, (i : Int) < tw → A.rawF (ta + 1 + i) = 0 ∨ A.rawF (ta + 1 + i) = e + 1

theorem turnG {tw ta who e : Int} {xs : List (Int × Int)} (X : SL A p w m S) (hwf : A.wf) (tb : 1 ≤ tw ∧ tw ≤ 1000) (ll : xs.length ≤ 1000) (h0 : p.carved < ta) (h1 : ta + 1 + tw ≤ A.raw.length) (h2 : (A.raw.length : Int) ≤ 1000000) (u1 : A.uses ≤ 800000)
    (he : A.rawF ta = e) (eb : 0 ≤ e ∧ e ≤ 1000000) (wh : 0 ≤ who ∧ who < w) (nd : (xs.map Prod.fst).Nodup) (nr : szs (xs.map Prod.fst) ≤ A.nR) (hh : ∀ x ∈ xs, A.stF x.1 = 2) :
    ∃ e1 B A' m' n, mTn.Runs n (newTn tw ta p who xs) A m' A' ∧ (n : Int) ≤ 2 + tw + 3 * xs.length ∧ m'.left = tleft e1 xs ∧ 4 ≤ m'.ph ∧ TurnB A p w m S tw ta e e1 B ∧ SweptG B p w m S who (tgone e1 xs) A' := by
  have u0 := X.F.us
  obtain ⟨p1, p2, p3, p4, p5⟩ := X.places
  have wb := X.wb
  have mb := X.mb
  have t0 : 0 ≤ ta := by omega
  have hlen : ∀ e, ((tgone e xs).length : Int) ≤ xs.length := fun e => by
    have : (tgone e xs).length ≤ xs.length := by unfold tgone; rw [List.length_map]; exact List.length_filter_le _ _
    omega
  have e3 : w64 (e + 1) = e + 1 := w64_in (by omega) (by omega)
  by_cases hw : ∀ i : Nat, (i : Int) < tw → A.rawF (ta + 1 + i) = 0 ∨ A.rawF (ta + 1 + i) = e + 1
  · have pth := looks_path (p := p) (who := who) (xs := xs) tb ll t0 h1 h2 u0 (by omega) he eb tw.toNat (by omega) fun i hi => hw i (by omega)
    have O := outS (X.later (n := 1 + tw) (by omega)) (i := ta) (v := e + 1) ⟨h0, by show ta < (A.raw.length : Int); omega⟩ (by show A.uses + _ ≤ _; omega)
    obtain ⟨B, hB⟩ : ∃ B, B = (A.later (1 + tw)).storeR ta (e + 1) := ⟨_, rfl⟩
    rw [← hB] at O
    have hBw : B.wf := by rw [hB]; exact storeR_wf (later_wf hwf _) _ _
    have okB : (A.later (1 + tw)).rawOk ta := ⟨by omega, by show ta < (A.raw.length : Int); omega⟩
    have hBs : B = ((A.later (1 + tw)).tick).setR ta.toNat (e + 1) := by rw [hB]; unfold Ar.storeR; rw [if_pos okB]
    have us := O.us
    have us1 : (A.later (1 + tw)).uses = A.uses + (1 + tw) := rfl
    have etn : ((tw.toNat : Nat) : Int) = tw := by omega
    have ph2 : (tnN tw ta p who xs e tw.toNat).ph = 2 := if_pos etn
    rw [etn] at pth
    obtain ⟨A', m', r, q1, q2, q3⟩ := turnG_end (t := { tnN tw ta p who xs e tw.toNat with e := e + 1 }) (mm := tnN tw ta p who xs e tw.toNat) (D := A.later (1 + tw)) O.sl hBw wh rfl rfl ll (by omega) nd (by rw [O.nR]; exact nr) (fun x hx => by rw [O.st]; exact hh x hx) ⟨ll, fun _ => ⟨rfl, rfl⟩, fun h => by rw [ph2] at h; omega⟩ (by
        show Tn.step (tnN tw ta p who xs e tw.toNat) (A.later (1 + tw)) = _
        unfold Tn.step
        have et : (tnN tw ta p who xs e tw.toNat).ta = ta := rfl
        have ee : (tnN tw ta p who xs e tw.toNat).e = e := rfl
        obtain ⟨s1, s2⟩ := swapR_yes (A := A.later (1 + tw)) (i := ta) (v := e) (x := e + 1) ⟨by omega, by show ta < (A.raw.length : Int); omega⟩ he
        rw [if_neg (by rw [ph2]; decide), if_neg (by rw [ph2]; decide), if_pos ph2, et, ee, e3, s2, if_pos s1, hB]; rfl) (by
        rw [us, us1, w64_in (by omega) (by omega)]; omega)
    refine ⟨e + 1, B, A', m', _, pth.run r, ?_, q1, q2, ?_, q3⟩
    · have := hlen (e + 1)
      show ((1 + tw.toNat + (1 + 3 * (tgone (e + 1) xs).length) : Nat) : Int) ≤ _; omega
    · refine ⟨O.sl, hBw, ?_, by rw [hBs]; rfl, by rw [hBs]; rfl, by rw [hBs]; rfl, O.rl, fun i => by rw [O.rf]; rfl, ⟨by omega, by omega⟩, O.st, O.nL, O.nR, .inr rfl, fun _ => rfl, fun _ => hw⟩
      rw [hBs]; exact ⟨rfl, rfl, rfl, rfl, rfl, rfl, rfl⟩
  · obtain ⟨k, hk, hk0, hn⟩ : ∃ k : Nat, (k : Int) < tw ∧ (∀ i : Nat, i < k → A.rawF (ta + 1 + i) = 0 ∨ A.rawF (ta + 1 + i) = e + 1) ∧ (A.rawF (ta + 1 + k) ≠ 0 ∧ A.rawF (ta + 1 + k) ≠ e + 1) := by
      have key : ∀ n : Nat, (∀ i : Nat, i < n → A.rawF (ta + 1 + i) = 0 ∨ A.rawF (ta + 1 + i) = e + 1) ∨ ∃ k : Nat, k < n ∧ (∀ i : Nat, i < k → A.rawF (ta + 1 + i) = 0 ∨ A.rawF (ta + 1 + i) = e + 1) ∧ (A.rawF (ta + 1 + k) ≠ 0 ∧ A.rawF (ta + 1 + k) ≠ e + 1) := fun n => by
        induction n with
        | zero => exact .inl fun i hi => by omega
        | succ n ih =>
          rcases ih with h | ⟨k, a, b, c⟩
          · by_cases hz : A.rawF (ta + 1 + n) = 0 ∨ A.rawF (ta + 1 + n) = e + 1
            · refine .inl fun i hi => ?_
              by_cases en : i = n
              · rw [en]; exact hz
              · exact h i (by omega)
            · exact .inr ⟨n, by omega, h, fun e => hz (.inl e), fun e => hz (.inr e)⟩
          · exact .inr ⟨k, by omega, b, c⟩
      rcases key tw.toNat with h | ⟨k, a, b, c⟩
      · exact (hw fun i hi => h i (by omega)).elim
      · exact ⟨k, by omega, b, c⟩
    have pth := looks_path (p := p) (who := who) (xs := xs) tb ll t0 h1 h2 u0 (by omega) he eb k (by omega) hk0
    have e1 : w64 ((k : Int) + 1) = k + 1 := w64_in (by omega) (by omega)
    have ew : ewd ta k = ta + 1 + k := ewd_eq ⟨by omega, by omega, by omega, by omega⟩
    have ph1 : (tnN tw ta p who xs e k).ph = 1 := if_neg (by omega)
    obtain ⟨A', m', r, q1, q2, q3⟩ := turnG_end (t := { tnN tw ta p who xs e k with word := (k : Int) + 1 }) (mm := tnN tw ta p who xs e k) (D := A.later (1 + k)) (B := A.later (2 + k)) (X.later (by omega)) (later_wf hwf _) wh rfl rfl ll (by show A.uses + _ ≤ _; omega) nd nr hh ⟨ll, fun _ => ⟨rfl, rfl⟩, fun h => by rw [ph1] at h; omega⟩ (by
        show Tn.step (tnN tw ta p who xs e k) (A.later (1 + k)) = _
        unfold Tn.step
        have et : (tnN tw ta p who xs e k).ta = ta := rfl
        have ee : (tnN tw ta p who xs e k).e = e := rfl
        have en : (tnN tw ta p who xs e k).word = k := rfl
        have er : (A.later (1 + k)).rawF (ta + 1 + k) = A.rawF (ta + 1 + k) := rfl
        rw [if_neg (by rw [ph1]; decide), if_pos ph1, et, ee, en, ew, e1, e3, er, if_pos hn, tick_later (A := A.later (1 + k)) ⟨by omega, by show ta + 1 + (k : Int) < (A.raw.length : Int); omega⟩ (by show 0 ≤ A.uses + _; omega) (by show A.uses + _ ≤ _; omega), later_add, show 1 + (k : Int) + 1 = 2 + k by omega]; rfl) (by
        show A.uses + (2 + k) ≤ w64 (A.uses + (1 + k) + 1)
        rw [w64_in (by omega) (by omega)]; omega)
    refine ⟨e, A.later (2 + k), A', m', _, pth.run r, ?_, q1, q2, ?_, q3⟩
    · have := hlen e
      show ((1 + k + (1 + 3 * (tgone e xs).length) : Nat) : Int) ≤ _; omega
    · refine ⟨X.later (by omega), later_wf hwf _, later_alike A _, rfl, rfl, rfl, rfl, fun i => ?_, ⟨by show A.uses + 1 ≤ A.uses + (2 + k); omega, by show A.uses + (2 + k) ≤ _; omega⟩, fun h => stF_slots rfl h, rfl, rfl, .inl rfl, fun h => ?_, fun h => by omega⟩
      · split
        · rename_i h; rw [h]; exact he
        · rfl
      · have := h k hk; rcases this with h' | h'
        · exact (hn.1 h').elim
        · exact (hn.2 h').elim
end
end Go.Proofs.Ytcjhakdopnamoaa

set_option linter.unusedVariables false
set_option linter.unusedSimpArgs false
set_option maxRecDepth 20000
namespace Go.Proofs.Ytcjhakdopnamoaa
open Go Go.Fw

/-! ### A guard by what it has; what a look does, alone -/

def gwords (ep : Bool) (w : Int) : Int := bif ep then 1 + w else 2 * w

/-- All that is retired. -/
def totR (ls : Int → List (Int × Int)) : Nat → Int
  | 0 => 0
  | n + 1 => totR ls n + szs ((ls (n : Int)).map Prod.fst)
theorem totR_nn (ls : Int → List (Int × Int)) : ∀ n, 0 ≤ totR ls n
  | 0 => Int.le_refl 0
  | n + 1 => by have := totR_nn ls n; have := szs_nn ((ls (n : Int)).map Prod.fst); show 0 ≤ totR ls n + _; omega
theorem totR_out {ls : Int → List (Int × Int)} {k : Int} {xs : List (Int × Int)} : ∀ {n : Nat}, (n : Int) ≤ k → totR (setL ls k xs) n = totR ls n
  | 0, _ => rfl
  | n + 1, h => by
    show totR (setL ls k xs) n + szs ((setL ls k xs (n : Int)).map Prod.fst) = totR ls n + _
    rw [totR_out (n := n) (by omega), setL_ne ls xs (show (n : Int) ≠ k by omega)]
theorem totR_set {ls : Int → List (Int × Int)} {k : Int} {xs : List (Int × Int)} (h0 : 0 ≤ k) : ∀ {n : Nat}, k < n → totR (setL ls k xs) n = totR ls n - szs ((ls k).map Prod.fst) + szs (xs.map Prod.fst)
  | 0, h => by omega
  | n + 1, h => by
    show totR (setL ls k xs) n + szs ((setL ls k xs (n : Int)).map Prod.fst) = totR ls n + szs ((ls (n : Int)).map Prod.fst) - _ + _
    by_cases e : (n : Int) = k
    · rw [totR_out (by omega), e, setL_same]; omega
    · rw [totR_set h0 (n := n) (by omega), setL_ne ls xs e]; omega
theorem totR_le {ls : Int → List (Int × Int)} {k : Int} (h0 : 0 ≤ k) : ∀ {n : Nat}, k < n → szs ((ls k).map Prod.fst) ≤ totR ls n
  | 0, h => by omega
  | n + 1, h => by
    have a := totR_nn ls n
    have b := szs_nn ((ls (n : Int)).map Prod.fst)
    show _ ≤ totR ls n + szs ((ls (n : Int)).map Prod.fst)
    by_cases e : (n : Int) = k
    · rw [e] at b ⊢; omega
    · have := totR_le (ls := ls) h0 (n := n) (by omega); omega
theorem setL_setL (f : Int → List (Int × Int)) (k : Int) (xs ys : List (Int × Int)) : setL (setL f k xs) k ys = setL f k ys := by
  funext i; unfold setL; split <;> rfl
structure GI (A : Ar) (g : Gd) (m : Int) (S : Sg) (l : Int → List (Int × Int)) : Prop where
  wf : A.wf
  sl : SL A g.pl g.w m S
  fa : A.fault = false
  ta : g.pl.carved < g.ta
  wb : 1 ≤ g.w ∧ g.w ≤ 100
  rl : g.ta + gwords g.ep g.w ≤ A.raw.length
  rb : (A.raw.length : Int) ≤ 1000000
  st : ∀ k x, x ∈ l k → A.stF x.1 = 2
  nd : ∀ k, ((l k).map Prod.fst).Nodup
  dj : ∀ k j x y, x ∈ l k → y ∈ l j → x.1 = y.1 → k = j
  rg : ∀ k, l k ≠ [] → 0 ≤ k ∧ k < g.w
  nR : A.nR = totR l g.w.toNat
  l0 : 0 ≤ A.nL
  nu : A.nL + A.nR ≤ 64 * A.uses
  ze : g.ep = false → ∀ k x, x ∈ l k → x.2 = 0
  eb : g.ep = true → 0 ≤ A.rawF g.ta ∧ A.rawF g.ta ≤ A.uses
  es : g.ep = true → ∀ k x, x ∈ l k → 0 ≤ x.2 ∧ x.2 ≤ A.rawF g.ta

/-- What a look leaves. -/
structure Lkd (A : Ar) (g : Gd) (m : Int) (S : Sg) (l : Int → List (Int × Int)) (k : Int) (keep : Int × Int → Bool) (hs : List Int) (t : Nat) (A' : Ar) : Prop where
  pm : hs.Perm (((l k).filter fun x => !keep x).map Prod.fst)
  wf : A'.wf
  al : Ar.Alike A A'
  wd : A'.words = A.words
  fa : A'.fault = A.fault
  fr : A'.fresh = A.fresh
  rl : A'.raw.length = A.raw.length
  sl : SL A' g.pl g.w m (frS k S hs)
  st : ∀ j, A'.stF j = if j ∈ hs then 0 else A.stF j
  nL : A'.nL = A.nL
  nR : A'.nR = A.nR - szs hs
  rw : ∀ i, g.pl.carved < i → i ≠ g.ta → A'.rawF i = A.rawF i
  us : A.uses ≤ A'.uses ∧ A'.uses ≤ A.uses + 202 * t + 3 * ((l k).length - ((l k).filter keep).length)
  ha : g.ep = false → A'.rawF g.ta = A.rawF g.ta ∧ ∀ x, keep x = true ↔ ∃ i : Nat, (i : Int) < 2 * g.w ∧ A.rawF (g.ta + i) = x.1
  ep : g.ep = true → A.rawF g.ta ≤ A'.rawF g.ta ∧ A'.rawF g.ta ≤ A.rawF g.ta + t ∧ A'.rawF g.ta ≤ A'.uses ∧ keep = fun x => !due (A'.rawF g.ta) x
  free : g.ep = true → (∀ i : Nat, (i : Int) < g.w → A.rawF (g.ta + 1 + i) = 0) → A'.rawF g.ta = A.rawF g.ta + t
  held : g.ep = true → ∀ (i : Nat) (v : Int), (i : Int) < g.w → A.rawF (g.ta + 1 + i) = v + 1 → 0 ≤ v → A.rawF g.ta ≤ v + 1 → A'.rawF g.ta ≤ v + 1

section
variable {A B C : Ar} {g : Gd} {m : Int} {S : Sg} {l : Int → List (Int × Int)} {k h : Int}

theorem len_keep (xs : List (Int × Int)) (q : Int × Int → Bool) : (xs.filter q).length + (xs.filter fun x => !q x).length = xs.length := by
  induction xs with
  | nil => rfl
  | cons x xs ih => rw [List.filter_cons, List.filter_cons]; cases q x <;> simp <;> omega

theorem Lkd.gone {keep : Int × Int → Bool} {hs : List Int} {t : Nat} (L : Lkd A g m S l k keep hs t B) {j : Int} : j ∈ hs ↔ ∃ x ∈ l k, keep x = false ∧ x.1 = j := by
  rw [L.pm.mem_iff, List.mem_map]
  constructor
  · rintro ⟨x, hx, e⟩
    obtain ⟨a, b⟩ := List.mem_filter.1 hx
    exact ⟨x, a, by simpa using b, e⟩
  · rintro ⟨x, a, b, e⟩
    exact ⟨x, List.mem_filter.2 ⟨a, by rw [b]; rfl⟩, e⟩

theorem nodup_inj {xs : List (Int × Int)} (h : (xs.map Prod.fst).Nodup) : ∀ {x y : Int × Int}, x ∈ xs → y ∈ xs → x.1 = y.1 → x = y := by
  induction xs with
  | nil => intro x y hx; cases hx
  | cons z xs ih =>
    intro x y hx hy e
    obtain ⟨n1, n2⟩ := List.nodup_cons.1 (show (z.1 :: xs.map Prod.fst).Nodup from h)
    rcases List.mem_cons.1 hx with e1 | hx <;> rcases List.mem_cons.1 hy with e2 | hy
    · rw [e1, e2]
    · exact (n1 (List.mem_map.2 ⟨y, hy, by rw [← e, e1]⟩)).elim
    · exact (n1 (List.mem_map.2 ⟨x, hx, by rw [e, e2]⟩)).elim
    · exact ih n2 hx hy e

/-- What stays is as it was. -/
theorem GI.lkd (X : GI A g m S l) {keep : Int × Int → Bool} {hs : List Int} {t : Nat} (kb : 0 ≤ k ∧ k < g.w) (L : Lkd A g m S l k keep hs t B) : GI B g m (frS k S hs) (setL l k ((l k).filter keep)) := by
  have us := L.us
  have mem : ∀ {j x}, x ∈ setL l k ((l k).filter keep) j → x ∈ l j ∧ (j = k → keep x = true) := fun {j x} hx => by
    by_cases e : j = k
    · rw [e, setL_same] at hx
      obtain ⟨a, b⟩ := List.mem_filter.1 hx
      exact ⟨by rw [e]; exact a, fun _ => b⟩
    · rw [setL_ne l _ e] at hx
      exact ⟨hx, fun h => (e h).elim⟩
  have hsz : szs ((l k).map Prod.fst) = szs (((l k).filter keep).map Prod.fst) + szs hs := by
    rw [szs_perm L.pm]
    have : ∀ xs : List (Int × Int), szs (xs.map Prod.fst) = szs ((xs.filter keep).map Prod.fst) + szs ((xs.filter fun x => !keep x).map Prod.fst) := fun xs => by
      induction xs with
      | nil => rfl
      | cons x xs ih =>
        rw [List.filter_cons, List.filter_cons]
        cases keep x with
        | true => show sizeF (opC x.1) + _ = (sizeF (opC x.1) + _) + _; simp only [Bool.not_true]; simp only [Bool.false_eq_true, if_false]; omega
        | false => show sizeF (opC x.1) + _ = _ + (sizeF (opC x.1) + _); simp only [Bool.false_eq_true, if_false]; omega
    exact this _
  have tR := X.nR
  refine ⟨L.wf, L.sl, L.fa.trans X.fa, X.ta, X.wb, by rw [L.rl]; exact X.rl, by rw [L.rl]; exact X.rb, fun j x hx => ?_, fun j => ?_, fun j i x y hx hy e => X.dj j i x y (mem hx).1 (mem hy).1 e, fun j hj => ?_, ?_, by rw [L.nL]; exact X.l0, ?_, fun he j x hx => X.ze he j x (mem hx).1, fun he => ?_, fun he j x hx => ?_⟩
  · obtain ⟨a, b⟩ := mem hx
    rw [L.st, if_neg fun hm => ?_]
    · exact X.st j x a
    · obtain ⟨y, y1, y2, y3⟩ := L.gone.1 hm
      have ej := X.dj j k x y a y1 y3.symm
      subst ej
      have := nodup_inj (X.nd j) y1 a y3
      rw [this, b rfl] at y2; cases y2
  · by_cases e : j = k
    · rw [e, setL_same]; exact ((List.filter_sublist (l := l k) (p := keep)).map Prod.fst).nodup (X.nd k)
    · rw [setL_ne l _ e]; exact X.nd j
  · by_cases e : j = k
    · rw [e]; exact kb
    · rw [setL_ne l _ e] at hj; exact X.rg j hj
  · rw [L.nR, tR, totR_set kb.1 (by omega)]; omega
  · have := szs_nn hs; have := X.nu; have := L.nL; have := L.nR; omega
  · obtain ⟨e1, e2, e3, _⟩ := L.ep he
    have := X.eb he; omega
  · obtain ⟨e1, e2, e3, _⟩ := L.ep he
    have := X.es he j x (mem hx).1; omega

/-! ### Runs of look -/
variable {q mq : Nat}

theorem tn_lift {n : Nat} {u u' : Tn} {ls : Int → List (Int × Int)} {work T : Int} (hl : (ls work).length ≤ 1000) (wb : 1 ≤ g.w ∧ g.w ≤ 1000) (h : mTn.Runs n u A u' B) (hm : u.left.length ≤ 1000) :
    (T = 0 → (mLk q mq).Runs n ⟨g, ls, work, false, T, .tn u⟩ A (Lk.end_ ⟨g, ls, work, false, T, .tn u'⟩) B) ∧ (T ≠ 0 → (mLk q mq).Path n ⟨g, ls, work, false, T, .tn u⟩ A (Lk.end_ ⟨g, ls, work, false, T, .tn u'⟩) B) := by
  have st : ∀ (m : Tn) (A : Ar) (m1 : Tn) (A1 : Ar), mTn.step m A = (m1, A1) → Lk.step ⟨g, ls, work, false, T, .tn m⟩ A = (if decide (4 ≤ m1.ph) = true then Lk.end_ ⟨g, ls, work, false, T, .tn m1⟩ else ⟨g, ls, work, false, T, .tn m1⟩, A1) := fun m A m1 A1 h => by
    have h : m.step A = (m1, A1) := h
    show (if decide (4 ≤ (m.step A).1.ph) = true then Lk.end_ ⟨g, ls, work, false, T, .tn (m.step A).1⟩ else ⟨g, ls, work, false, T, .tn (m.step A).1⟩, (m.step A).2) = _
    rw [h]
  induction h with
  | @one m A m1 A1 hi hst hu hf =>
    have hf : decide (4 ≤ m1.ph) = true := hf
    have s1 : (mLk q mq).step ⟨g, ls, work, false, T, .tn m⟩ A = (Lk.end_ ⟨g, ls, work, false, T, .tn m1⟩, A1) := (st m A m1 A1 hst).trans (by rw [if_pos hf])
    refine ⟨fun e => .one ⟨hl, fun h => (by cases h), wb, ⟨hi, hm⟩⟩ s1 hu ?_, fun e => .cons ⟨hl, fun h => (by cases h), wb, ⟨hi, hm⟩⟩ s1 hu ?_ .nil⟩
    · show (T == 0) = true; rw [e]; rfl
    · show (T == 0) = false; simpa using e
  | @more n m A m1 A1 m' A' hi hst hu hf hr ih =>
    have hf : decide (4 ≤ m1.ph) = false := hf
    have hl1 : m1.left.length ≤ 1000 := by
      have := m.left_step A hi.ll hm
      have h : m.step A = (m1, A1) := hst
      rwa [h] at this
    have s1 : (mLk q mq).step ⟨g, ls, work, false, T, .tn m⟩ A = (⟨g, ls, work, false, T, .tn m1⟩, A1) := (st m A m1 A1 hst).trans (by rw [if_neg (by rw [hf]; decide)])
    obtain ⟨i1, i2⟩ := ih hl1
    exact ⟨fun e => .more (x1 := ⟨g, ls, work, false, T, .tn m1⟩) ⟨hl, fun h => (by cases h), wb, ⟨hi, hm⟩⟩ s1 hu rfl (i1 e), fun e => .cons (x1 := ⟨g, ls, work, false, T, .tn m1⟩) ⟨hl, fun h => (by cases h), wb, ⟨hi, hm⟩⟩ s1 hu rfl (i2 e)⟩

theorem sc_lift' {n : Nat} {u u' : Sc} {ls : Int → List (Int × Int)} {work : Int} (hl : (ls work).length ≤ 1000) (wb : 1 ≤ g.w ∧ g.w ≤ 1000) (h : mSc.Runs n u A u' B) (hm : u.left.length ≤ 1000) :
    (mLk q mq).Runs n ⟨g, ls, work, false, 0, .sc u⟩ A (Lk.end_ ⟨g, ls, work, false, 0, .sc u'⟩) B := by
  have st : ∀ (m : Sc) (A : Ar) (m1 : Sc) (A1 : Ar), mSc.step m A = (m1, A1) → Lk.step ⟨g, ls, work, false, 0, .sc m⟩ A = (if m1.ended = true then Lk.end_ ⟨g, ls, work, false, 0, .sc m1⟩ else ⟨g, ls, work, false, 0, .sc m1⟩, A1) := fun m A m1 A1 h => by
    have h : m.step A = (m1, A1) := h
    show (if (m.step A).1.ended = true then Lk.end_ ⟨g, ls, work, false, 0, .sc (m.step A).1⟩ else ⟨g, ls, work, false, 0, .sc (m.step A).1⟩, (m.step A).2) = _
    rw [h]
  induction h with
  | @one m A m1 A1 hi hst hu hf =>
    have hf : m1.ended = true := hf
    refine .one ⟨hl, fun h => (by cases h), wb, ⟨hi, hm⟩⟩ ?_ hu rfl
    exact (st m A m1 A1 hst).trans (by rw [if_pos hf])
  | @more n m A m1 A1 m' A' hi hst hu hf hr ih =>
    have hf : m1.ended = false := hf
    have hl1 : m1.left.length ≤ 1000 := by
      have := m.left_step A hi.ll hm
      have h : m.step A = (m1, A1) := hst
      rwa [h] at this
    refine .more (x1 := ⟨g, ls, work, false, 0, .sc m1⟩) ⟨hl, fun h => (by cases h), wb, ⟨hi, hm⟩⟩ ?_ hu rfl (ih hl1)
    exact (st m A m1 A1 hst).trans (by rw [if_neg (by rw [hf]; decide)])

theorem no_runs {n : Nat} {ls : Int → List (Int × Int)} {work t : Int} {z : Lk} (ht : 0 < t) (h : (mLk q mq).Runs n (Lk.begin ⟨g, ls, work, false, t, .no⟩) A z B) : (mLk q mq).Runs n ⟨g, ls, work, false, t, .no⟩ A z B := by
  have e1 : (mLk q mq).step ⟨g, ls, work, false, t, .no⟩ A = (mLk q mq).step (Lk.begin ⟨g, ls, work, false, t, .no⟩) A := by
    show (if 0 < t then Lk.begin ⟨g, ls, work, false, t, .no⟩ else ⟨g, ls, work, false, t, .no⟩ : Lk).mid A = (Lk.go (Lk.begin ⟨g, ls, work, false, t, .no⟩)).mid A
    rw [if_pos ht]
    have : Lk.go (Lk.begin ⟨g, ls, work, false, t, .no⟩) = Lk.begin ⟨g, ls, work, false, t, .no⟩ := by
      unfold Lk.begin Lk.go
      dsimp only
      split <;> rename_i hh <;> revert hh <;> split <;> simp
    rw [this]
  have iv : (mLk q mq).inv (Lk.begin ⟨g, ls, work, false, t, .no⟩) A → (mLk q mq).inv ⟨g, ls, work, false, t, .no⟩ A := fun hi => ⟨hi.ll, fun h => (by cases h), hi.wb, trivial⟩
  generalize hb : Lk.begin ⟨g, ls, work, false, t, .no⟩ = b at *
  cases h with
  | one hi hst hu hf => exact .one (iv hi) (e1.trans hst) hu hf
  | more hi hst hu hf hr => exact .more (iv hi) (e1.trans hst) hu hf hr
end
end Go.Proofs.Ytcjhakdopnamoaa

set_option linter.unusedVariables false
set_option linter.unusedSimpArgs false
set_option maxRecDepth 20000
namespace Go.Proofs.Ytcjhakdopnamoaa
open Go Go.Fw

section
variable {A B C : Ar} {g : Gd} {m : Int} {S : Sg} {l : Int → List (Int × Int)} {k h : Int} {q mq : Nat}

theorem GI.u0 (X : GI A g m S l) : 0 ≤ A.uses := X.sl.F.us
theorem GI.r0 (X : GI A g m S l) : 0 ≤ A.nR := by rw [X.nR]; exact totR_nn _ _
theorem GI.c0 (X : GI A g m S l) : 0 ≤ g.pl.carved := by
  obtain ⟨p1, p2, p3, p4, p5⟩ := X.sl.places
  have := X.wb; have := X.sl.mb; omega

theorem GI.later (X : GI A g m S l) {n : Int} (hn : 0 ≤ n) : GI (A.later n) g m S l :=
  ⟨later_wf X.wf n, X.sl.later hn, X.fa, X.ta, X.wb, X.rl, X.rb, fun k x hx => by rw [stF_slots (B := A.later n) (A := A) rfl]; exact X.st k x hx, X.nd, X.dj, X.rg, X.nR, X.l0, by have := X.nu; show A.nL + A.nR ≤ 64 * (A.uses + n); omega, X.ze,
    fun he => by have := X.eb he; show 0 ≤ A.rawF g.ta ∧ A.rawF g.ta ≤ A.uses + n; omega, X.es⟩

/-- A word that is no part of the slab, nor the global epoch. -/
theorem GI.out (X : GI A g m S l) {i v : Int} (O : OutS A g.pl g.w m S i v B) (hw : B.wf) (hi : g.ep = true → i ≠ g.ta) : GI B g m S l :=
  ⟨hw, O.sl, O.fa.trans X.fa, X.ta, X.wb, by rw [O.rl]; exact X.rl, by rw [O.rl]; exact X.rb, fun k x hx => by rw [O.st]; exact X.st k x hx, X.nd, X.dj, X.rg, O.nR.trans X.nR, by rw [O.nL]; exact X.l0, by have := X.nu; have := O.nL; have := O.nR; have := O.us; omega, X.ze,
    fun he => by have := X.eb he; have := O.us; have r := O.rf g.ta; rw [if_neg (fun e => hi he e.symm)] at r; omega, fun he => by have r := O.rf g.ta; rw [if_neg (fun e => hi he e.symm)] at r; rw [r]; exact X.es he⟩

theorem GI.alloc {who c : Int} {n : Nat} {x : Al} {S' : Sg} (X : GI A g m S l) (hc : 0 ≤ c ∧ c < 4) (Z : Alloced A g.pl g.w m S who c n x B S') : GI B g m S' l := by
  have off := Z.off
  have us := off.us
  have sz := sz_pos hc.1 hc.2
  have n1 : 1 ≤ n := by
    have := Z.run
    cases this <;> omega
  have hta : B.rawF g.ta = A.rawF g.ta := off.rw _ X.ta
  have nL := Z.nL
  have nL2 : A.nL ≤ B.nL ∧ B.nL ≤ A.nL + 64 := by rw [nL]; split <;> omega
  refine ⟨off.wf, Z.sl, off.fa.trans X.fa, X.ta, X.wb, by rw [off.rl]; exact X.rl, by rw [off.rl]; exact X.rb, fun k y hy => ?_, X.nd, X.dj, X.rg, Z.nR.trans X.nR, by have := X.l0; omega, by have := X.nu; have := Z.nR; omega, X.ze, fun he => ?_, fun he => by rw [hta]; exact X.es he⟩
  · have h2 := X.st k y hy
    rw [Z.st, if_neg fun e => ?_]
    · exact h2
    · have := (Z.hd e.1).2.2
      rw [← e.2, h2] at this; cases this
  · have := X.eb he; rw [hta]; omega

theorem filt_perm (p r : Int × Int → Bool) (hp : ∀ x, p x = false → r x = false) : ∀ xs : List (Int × Int), ((xs.filter fun x => !p x) ++ ((xs.filter p).filter fun x => !r x)).Perm (xs.filter fun x => !r x)
  | [] => .nil
  | x :: xs => by
    have ih := filt_perm p r hp xs
    cases hx : p x with
    | false =>
      have hr := hp x hx
      simp only [List.filter_cons, hx, hr, Bool.not_false, if_true, Bool.false_eq_true, if_false, List.cons_append]
      exact ih.cons x
    | true =>
      cases hr : r x with
      | true => simpa only [List.filter_cons, hx, hr, Bool.not_true, if_true, Bool.false_eq_true, if_false] using ih
      | false =>
        simp only [List.filter_cons, hx, hr, Bool.not_true, Bool.not_false, if_true, Bool.false_eq_true, if_false]
        exact List.perm_middle.trans (ih.cons x)
theorem filt_filt (p r : Int × Int → Bool) (hp : ∀ x, p x = false → r x = false) (xs : List (Int × Int)) : (xs.filter p).filter r = xs.filter r := by
  rw [List.filter_filter]
  refine List.filter_congr fun x _ => ?_
  cases hx : p x with
  | true => simp
  | false => rw [hp x hx]; rfl

theorem due_mono {e1 e2 : Int} (h : e1 ≤ e2) {x : Int × Int} (hd : due e1 x = true) : due e2 x = true := by
  unfold due at *
  have := of_decide_eq_true hd
  exact decide_eq_true (by omega)

theorem Lkd.comp {e1 : Int} {keep2 : Int × Int → Bool} {hs1 hs2 : List Int} {t : Nat} (he : g.ep = true) (hta : g.pl.carved < g.ta) (L1 : Lkd A g m S l k (fun x => !due e1 x) hs1 1 B)
    (L2 : Lkd B g m (frS k S hs1) (setL l k ((l k).filter fun x => !due e1 x)) k keep2 hs2 t C) (h1 : B.rawF g.ta = e1) : Lkd A g m S l k keep2 (hs1 ++ hs2) (t + 1) C ∧ ((l k).filter fun x => !due e1 x).filter keep2 = (l k).filter keep2 := by
  obtain ⟨a1, a2, a3, a4⟩ := L1.ep he
  obtain ⟨b1, b2, b3, b4⟩ := L2.ep he
  have hk : ∀ x, (fun x => !due e1 x) x = false → keep2 x = false := fun x hx => by
    rw [b4]
    have h1' : due e1 x = true := by simpa using hx
    show (!due _ x) = false
    rw [due_mono (by omega) h1']; rfl
  have ff := filt_filt _ _ hk (l k)
  have pm2 := L2.pm
  have u2 := L2.us
  have u1 := L1.us
  rw [setL_same] at pm2 u2
  rw [ff] at u2
  refine ⟨⟨?_, L2.wf, L1.al.trans L2.al, L2.wd.trans L1.wd, L2.fa.trans L1.fa, L2.fr.trans L1.fr, L2.rl.trans L1.rl, by rw [frS_append]; exact L2.sl, fun j => ?_, L2.nL.trans L1.nL, by rw [L2.nR, L1.nR, szs_append]; omega, fun i hi hn => (L2.rw i hi hn).trans (L1.rw i hi hn), ?_, fun h => (by rw [he] at h; cases h), fun _ => ⟨by omega, by omega, b3, b4⟩, fun _ hw => ?_, fun _ i v hi hv v0 hva => ?_⟩, ff⟩
  · have h4 := (filt_perm _ _ hk (l k)).map Prod.fst
    rw [List.map_append] at h4
    exact (L1.pm.append pm2).trans h4
  · rw [L2.st, L1.st]
    by_cases e1 : j ∈ hs2
    · rw [if_pos e1, if_pos (List.mem_append_right _ e1)]
    · rw [if_neg e1]
      by_cases e2 : j ∈ hs1
      · rw [if_pos e2, if_pos (List.mem_append_left _ e2)]
      · rw [if_neg e2, if_neg (fun h => (List.mem_append.1 h).elim e2 e1)]
  · refine ⟨by omega, ?_⟩
    have e1 : ((t + 1 : Nat) : Int) = t + 1 := by omega
    rw [e1]; omega
  · have f1 := L1.free he hw
    have f2 := L2.free he fun i hi => by rw [L1.rw _ (by omega) (by omega)]; exact hw i hi
    have e1 : ((t + 1 : Nat) : Int) = t + 1 := by omega
    rw [e1]; omega
  · refine L2.held he i v hi ?_ v0 (L1.held he i v hi hv v0 hva)
    rw [L1.rw _ (by omega) (by omega)]; exact hv

/-- One turn. -/
theorem turn1 (X : GI A g m S l) (he : g.ep = true) (kb : 0 ≤ k ∧ k < g.w) (ll : (l k).length ≤ 200) (hu : A.uses ≤ 700000) :
    ∃ e1 A' m' n, mTn.Runs n (newTn g.w g.ta g.pl k (l k)) A m' A' ∧ n ≤ 800 ∧ m'.left = tleft e1 (l k) ∧ A'.rawF g.ta = e1 ∧ Lkd A g m S l k (fun x => !due e1 x) (tgone e1 (l k)) 1 A' := by
  have wb := X.wb
  have c0 := X.c0
  have ta := X.ta
  have rl := X.rl
  rw [he] at rl
  have rl : g.ta + (1 + g.w) ≤ A.raw.length := rl
  have u0 := X.u0
  have eb := X.eb he
  have hle := totR_le (ls := l) kb.1 (n := g.w.toNat) (by omega)
  obtain ⟨e1, B, A', m', n, run, hn, ml, mp, T, W⟩ := turnG (xs := l k) (tw := g.w) (ta := g.ta) (who := k) (e := A.rawF g.ta) X.sl X.wf ⟨by omega, by omega⟩ (by omega) ta (by omega) X.rb (by omega) rfl ⟨by omega, by omega⟩ kb (X.nd k) (by rw [X.nR]; exact hle) fun x hx => X.st k x hx
  have off := W.off
  have us := off.us
  have tu := T.us
  have hta : A'.rawF g.ta = e1 := by rw [off.rw _ ta, T.rw, if_pos rfl]
  have lk := len_keep (l k) fun x => !due e1 x
  have ed : ((l k).filter fun x => !!due e1 x) = (l k).filter (due e1) := List.filter_congr fun x _ => by simp
  rw [ed] at lk
  have lg : (tgone e1 (l k)).length = ((l k).filter (due e1)).length := by unfold tgone; rw [List.length_map]
  have ei := T.ei
  refine ⟨e1, A', m', n, run, by omega, ml, hta, ⟨by rw [ed]; exact .refl _, off.wf, T.al.trans off.al, off.wd.trans T.wd, off.fa.trans T.fa, off.fr.trans T.fr, off.rl.trans T.rl, W.sl, fun j => by rw [W.st, T.st], W.nL.trans T.nL, by rw [W.nR, T.nR], fun i hi hn => by rw [off.rw i hi, T.rw, if_neg hn], ⟨by omega, by omega⟩, fun h => (by rw [he] at h; cases h), fun _ => ⟨by omega, by omega, by omega, by rw [hta]⟩, fun _ hw => ?_, fun _ i v hi hv v0 hva => ?_⟩⟩
  · rw [hta, T.up fun i hi => .inl (hw i hi)]; rfl
  · rw [hta]
    rcases ei with h | h
    · omega
    · rcases T.dn h i hi with h2 | h2 <;> omega

/-- A look by hazards. -/
theorem haz_look (X : GI A g m S l) (he : g.ep = false) (kb : 0 ≤ k ∧ k < g.w) (ll : (l k).length ≤ 200) (hu : A.uses ≤ 700000) :
    ∃ keep hs n A', (mLk q mq).Runs n (Lk.begin ⟨g, l, k, false, 1, .no⟩) A ⟨g, setL l k ((l k).filter keep), k, false, 0, .no⟩ A' ∧ n ≤ 800 ∧ Lkd A g m S l k keep hs 1 A' := by
  have wb := X.wb
  have c0 := X.c0
  have ta := X.ta
  have rl := X.rl
  rw [he] at rl
  have rl : g.ta + 2 * g.w ≤ A.raw.length := rl
  have u0 := X.u0
  have hle := totR_le (ls := l) kb.1 (n := g.w.toNat) (by omega)
  obtain ⟨A', m', n, run, en, ml, me, W⟩ := scanG (xs := (l k).map Prod.fst) (tw := g.w) (ta := g.ta) (who := k) X.sl X.wf ⟨by omega, by omega⟩ (by rw [List.length_map]; omega) (by omega) rl X.rb (by omega) kb (X.nd k) (by rw [X.nR]; exact hle) fun h hh => by
    obtain ⟨x, hx, rfl⟩ := List.mem_map.1 hh
    exact X.st k x hx
  obtain ⟨keep, hk⟩ : ∃ keep : Int × Int → Bool, keep = fun x => inS (seenN A g.ta (2 * g.w).toNat) x.1 := ⟨_, rfl⟩
  have eg : gone A g.w g.ta ((l k).map Prod.fst) = ((l k).filter fun x => !keep x).map Prod.fst := by
    unfold gone; rw [List.filter_map, hk]; rfl
  have el : lft A g.w g.ta ((l k).map Prod.fst) = ((l k).filter keep).map Prod.fst := by
    unfold lft; rw [List.filter_map, hk]; rfl
  have lk := len_keep (l k) keep
  have lg : (gone A g.w g.ta ((l k).map Prod.fst)).length + ((l k).filter keep).length = (l k).length := by rw [eg, List.length_map]; omega
  have off := W.off
  have us := off.us
  have us2 : (A.later (2 * g.w)).uses = A.uses + 2 * g.w := rfl
  have lift := sc_lift' (g := g) (q := q) (mq := mq) (ls := l) (work := k) (by omega) ⟨by omega, by omega⟩ run (Nat.zero_le 1000)
  have eend : Lk.end_ ⟨g, l, k, false, 0, .sc m'⟩ = ⟨g, setL l k ((l k).filter keep), k, false, 0, .no⟩ := by
    show Lk.mk g (setL l k (m'.left.map fun h => (h, (0 : Int)))) k false 0 .no = _
    rw [ml, el, List.map_map]
    have : ∀ xs : List (Int × Int), (∀ x ∈ xs, x.2 = 0) → xs.map ((fun h => (h, (0 : Int))) ∘ Prod.fst) = xs := fun xs hx => by
      induction xs with
      | nil => rfl
      | cons x xs ih =>
        rw [List.map_cons, ih fun y hy => hx y (List.mem_cons_of_mem _ hy)]
        have := hx x List.mem_cons_self
        obtain ⟨a, b⟩ := x
        have this : b = 0 := this
        rw [this]; rfl
    rw [this _ fun x hx => X.ze he k x (List.mem_filter.1 hx).1]
  rw [eend] at lift
  have ebeg : Lk.begin ⟨g, l, k, false, 1, .no⟩ = ⟨g, l, k, false, 0, .sc (newSc g.w g.ta g.pl k ((l k).map Prod.fst))⟩ := by
    unfold Lk.begin
    rw [if_neg (by show ¬ g.ep = true; rw [he]; decide)]
    rfl
  rw [ebeg]
  refine ⟨keep, _, n, A', lift, by omega, ⟨by rw [eg], off.wf, (later_alike A _).trans off.al, off.wd, off.fa, off.fr, off.rl, W.sl, W.st, W.nL, W.nR, fun i hi _ => off.rw i hi, ⟨by omega, by omega⟩, fun _ => ⟨off.rw _ ta, fun x => ?_⟩, fun h => (by rw [he] at h; cases h), fun h => (by rw [he] at h; cases h), fun h => (by rw [he] at h; cases h)⟩⟩
  rw [hk]
  refine (seenN_in A g.ta x.1 _).trans ⟨?_, ?_⟩
  · rintro ⟨i, a, b⟩; exact ⟨i, by omega, b⟩
  · rintro ⟨i, a, b⟩; exact ⟨i, by omega, b⟩

/-- Looks by epochs. -/
theorem ep_look (he : g.ep = true) (kb : 0 ≤ k ∧ k < g.w) : ∀ (t : Nat) (A : Ar) (S : Sg) (l : Int → List (Int × Int)), GI A g m S l → t ≤ 2 → (l k).length ≤ 200 → A.uses + 1000 * t ≤ 700000 →
    ∃ keep hs n A', (mLk q mq).Runs n (Lk.begin ⟨g, l, k, false, ((t + 1 : Nat) : Int), .no⟩) A ⟨g, setL l k ((l k).filter keep), k, false, 0, .no⟩ A' ∧ n ≤ 800 * (t + 1) ∧ Lkd A g m S l k keep hs (t + 1) A' := by
  intro t
  induction t with
  | zero =>
    intro A S l X ht ll hu
    obtain ⟨e1, A', m', n, run, hn, ml, mp, L⟩ := turn1 X he kb ll (by omega)
    obtain ⟨i1, _⟩ := tn_lift (g := g) (q := q) (mq := mq) (ls := l) (work := k) (T := 0) (by omega) ⟨by have := X.wb; omega, by have := X.wb; omega⟩ run (Nat.zero_le 1000)
    refine ⟨_, _, n, A', ?_, by omega, L⟩
    have eb : Lk.begin ⟨g, l, k, false, ((0 + 1 : Nat) : Int), .no⟩ = ⟨g, l, k, false, 0, .tn (newTn g.w g.ta g.pl k (l k))⟩ := by
      unfold Lk.begin
      rw [if_pos (show (Lk.mk g l k false ((0 + 1 : Nat) : Int) .no).g.ep = true from he)]; rfl
    rw [eb]
    have := i1 rfl
    rw [show Lk.end_ ⟨g, l, k, false, 0, .tn m'⟩ = ⟨g, setL l k m'.left, k, false, 0, .no⟩ from rfl, ml] at this
    exact this
  | succ t ih =>
    intro A S l X ht ll hu
    obtain ⟨e1, A1, m', n, run, hn, ml, mp, L⟩ := turn1 X he kb ll (by omega)
    have wb := X.wb
    obtain ⟨_, i2⟩ := tn_lift (g := g) (q := q) (mq := mq) (ls := l) (work := k) (T := ((t + 1 : Nat) : Int)) (by omega) ⟨by omega, by omega⟩ run (Nat.zero_le 1000)
    have eb : Lk.begin ⟨g, l, k, false, ((t + 1 + 1 : Nat) : Int), .no⟩ = ⟨g, l, k, false, ((t + 1 : Nat) : Int), .tn (newTn g.w g.ta g.pl k (l k))⟩ := by
      unfold Lk.begin
      rw [if_pos (show (Lk.mk g l k false ((t + 1 + 1 : Nat) : Int) .no).g.ep = true from he)]
      have : w64 (((t + 1 + 1 : Nat) : Int) - 1) = ((t + 1 : Nat) : Int) := by rw [w64_in (by omega) (by omega)]; omega
      show Lk.mk g l k false (w64 (((t + 1 + 1 : Nat) : Int) - 1)) _ = _
      rw [this]
    have pth := i2 (by omega)
    rw [show Lk.end_ ⟨g, l, k, false, ((t + 1 : Nat) : Int), .tn m'⟩ = ⟨g, setL l k m'.left, k, false, ((t + 1 : Nat) : Int), .no⟩ from rfl, ml] at pth
    have X1 := X.lkd kb L
    have us1 := L.us
    have lk := len_keep (l k) fun x => !due e1 x
    obtain ⟨keep, hs2, n2, A2, r2, hn2, L2⟩ := ih A1 _ _ X1 (by omega) (by rw [setL_same]; omega) (by omega)
    obtain ⟨Lc, fc⟩ := Lkd.comp he X.ta L L2 mp
    refine ⟨keep, _, n + n2, A2, ?_, by omega, Lc⟩
    rw [eb]
    have r3 := pth.run (no_runs (by omega) r2)
    rw [setL_same, setL_setL, fc] at r3
    exact r3
end
end Go.Proofs.Ytcjhakdopnamoaa

set_option linter.unusedVariables false
set_option linter.unusedSimpArgs false
set_option maxRecDepth 20000
namespace Go.Proofs.Ytcjhakdopnamoaa
open Go Go.Fw

/-- Retired; perhaps the epoch was read. -/
structure Ret1 (A : Ar) (h : Int) (A1 : Ar) : Prop where
  al : Ar.Alike A A1
  wd : A1.words = A.words
  fa : A1.fault = A.fault
  fr : A1.fresh = A.fresh
  rl : A1.raw.length = A.raw.length
  rw : ∀ i, 0 < i → A1.rawF i = A.rawF i
  st : ∀ j, A1.stF j = if j = h then 2 else A.stF j
  nL : A1.nL = A.nL - sizeF (opC h)
  us : A.uses ≤ A1.uses ∧ A1.uses ≤ A.uses + 1

section
variable {A B C : Ar} {g : Gd} {m : Int} {S : Sg} {l : Int → List (Int × Int)} {k h : Int} {q mq : Nat}

theorem GI.look (X : GI A g m S l) (kb : 0 ≤ k ∧ k < g.w) (ll : (l k).length ≤ 200) (hu : A.uses ≤ 690000) {t : Nat} (h1 : 1 ≤ t) (h3 : t ≤ 3) (ht : g.ep = false → t = 1) :
    ∃ keep hs n A', (mLk q mq).Runs n (Lk.begin ⟨g, l, k, false, (t : Int), .no⟩) A ⟨g, setL l k ((l k).filter keep), k, false, 0, .no⟩ A' ∧ n ≤ 800 * t ∧ Lkd A g m S l k keep hs t A' := by
  cases he : g.ep with
  | false =>
    obtain rfl := ht he
    obtain ⟨keep, hs, n, A', r, hn, L⟩ := haz_look (q := q) (mq := mq) X he kb ll (by omega)
    exact ⟨keep, hs, n, A', r, hn, L⟩
  | true =>
    obtain ⟨t', rfl⟩ : ∃ t', t = t' + 1 := ⟨t - 1, by omega⟩
    exact ep_look (q := q) (mq := mq) he kb t' A S l X (by omega) ll (by omega)

/-- How often a forced look goes. -/
def forT (g : Gd) : Nat := if g.ep = true then 3 else 1

end
end Go.Proofs.Ytcjhakdopnamoaa

set_option linter.unusedVariables false
set_option linter.unusedSimpArgs false
set_option maxRecDepth 20000
namespace Go.Proofs.Ytcjhakdopnamoaa
open Go Go.Fw

def gdOf (ep : Bool) (w s th : Int) : Gd := ⟨ep, w, 4 * w + 2 * s + 1, plOf w (8 * s), imax 1 (imin th 64)⟩
/-- An arena with a guard's words behind the slab's. -/
structure GZ (I : List Nat) (A : Ar) (ep : Bool) (w s : Int) (S : Sg) : Prop where
  aw : Aw I A
  sl : SL A (plOf w (8 * s)) w (8 * s) S
  fa : A.fault = false
  rl : (A.raw.length : Int) = 4 * w + 2 * s + 1 + gwords ep w
  wb : 1 ≤ w ∧ w ≤ 9
  sb : 0 ≤ s ∧ s ≤ 120

section
variable {A B : Ar} {w s : Int} {S S' : Sg} {I : List Nat} {L : Hands} {R : Value → Heap → Prop} {G : Heap} {l : Bl} {ep : Bool}

theorem GZ.later (E : GZ I A ep w s S) {n : Int} (hn : 0 ≤ n) : GZ I (A.later n) ep w s S := ⟨later_aw E.aw n, E.sl.later hn, E.fa, E.rl, E.wb, E.sb⟩
theorem GZ.out (E : GZ I A ep w s S) {i v : Int} (hA : Aw I B) (O : OutS A (plOf w (8 * s)) w (8 * s) S i v B) : GZ I B ep w s S := ⟨hA, O.sl, O.fa.trans E.fa, by rw [O.rl]; exact E.rl, E.wb, E.sb⟩
end
end Go.Proofs.Ytcjhakdopnamoaa

set_option linter.unusedVariables false
set_option maxRecDepth 10000
namespace Go.Proofs.Ytcjhakdopnamoaa
open Go Go.Fw
end Go.Proofs.Ytcjhakdopnamoaa

set_option linter.unusedVariables false
set_option linter.unusedSimpArgs false
set_option maxRecDepth 20000
namespace Go.Proofs.Ytcjhakdopnamoaa
open Go Go.Fw

section
variable {L : Hands} {R : Value → Heap → Prop} {G : Heap} {l rest : Bl} {A A' : Ar} {I : List Nat}

end
end Go.Proofs.Ytcjhakdopnamoaa

set_option linter.unusedVariables false
set_option linter.unusedSimpArgs false
set_option maxRecDepth 20000
namespace Go.Proofs.Ytcjhakdopnamoaa
open Go Go.Fw

theorem npGd (a : Addr) : opS Try.prog (.binOp .eql ty_p_guard_Guard (.tmp 0) (.const (.pointer none)) ty_p_guard_Guard) ty_bool [(.pointer (some a))] = .pure (.value (.bool false)) := by kernel_rfl
abbrev S0g : Sg := ⟨fun _ => [], 0, fun _ => 0, fun _ => -1, 0⟩
theorem gd0 : GdS [] fun _ => [] := ⟨fun k => .inl ⟨rfl, rfl⟩, fun k => rfl⟩

/-- The first slot of all. -/
structure One1 (I : List Nat) (A : Ar) (ep : Bool) (w s k : Int) (n : Nat) (x : Al) (A' : Ar) (S' : Sg) : Prop where
  run : mAl.Runs n (newAl (plOf w (8 * s)) k 0) A x A'
  nn : (n : Int) ≤ w + 5
  sl : SL A' (plOf w (8 * s)) w (8 * s) S'
  off : Off (plOf w (8 * s)).carved n A A'
  h0 : x.h ≠ 0
  hc : opC x.h = 0
  st : A'.stF x.h = 1
  nL : A'.nL = A.nL + 8
  nR : A'.nR = A.nR
  nc : S'.nc = 8
section
variable {L : Hands} {R : Value → Heap → Prop} {G : Heap} {l rest : Bl} {A A' : Ar} {I : List Nat}

end
end Go.Proofs.Ytcjhakdopnamoaa

set_option linter.unusedVariables false
set_option linter.unusedSimpArgs false
set_option maxRecDepth 20000
namespace Go.Proofs.Ytcjhakdopnamoaa
open Go Go.Fw

def Mch.toR {M J : Type} (X : Mch M J) : MchR M J := ⟨X.f, X.addr, X.bl, fun _ _ => True, X.inv, X.step, X.fin⟩
theorem Mch.toR_ok {M J : Type} {X : Mch M J} (h : X.ok) : X.toR.ok := fun I A G m j hA ok _ hi => by
  obtain ⟨h0⟩ : Nonempty (SpecF Try.prog X.f #[.pointer (some ⟨X.addr j, 0, none⟩), .pointer (aI I)] (own A (X.bl m j) G) fun v K => ∃ j', v = .bool (X.fin (X.step m A).1) ∧ K = own (X.step m A).2 (X.bl (X.step m A).1 j') G ∧ X.addr j' = X.addr j ∧ Ok I G (keys (X.bl (X.step m A).1 j')) ∧ Aw I (X.step m A).2) := ⟨h I A G m j hA ok hi⟩
  refine h0.mono ?_
  rintro v K ⟨j', a, b, c, d, e⟩
  exact ⟨j', a, b, c, d, trivial, e⟩
theorem Mch.toR_runs {M J : Type} {X : Mch M J} {n : Nat} {m m' : M} {A A' : Ar} (h : X.Runs n m A m' A') : X.toR.Runs n m A m' A' := by
  induction h with
  | one hi hu hf => exact .one hi rfl hu hf
  | more hi hu hf _ ih => exact .more hi rfl hu hf ih
end Go.Proofs.Ytcjhakdopnamoaa

set_option linter.unusedVariables false
set_option linter.unusedSimpArgs false
set_option maxRecDepth 20000
namespace Go.Proofs.Ytcjhakdopnamoaa
open Go Go.Fw

section
variable {L : Hands} {R : Value → Heap → Prop} {G : Heap} {rest : Bl} {A A' : Ar} {I : List Nat} {w s th : Int} {ep : Bool}

theorem GZ.gi (E : GZ I A ep w s S0g) (r0 : ∀ i, A.rawF i = 0) (u0 : A.uses = 0) (nl : A.nL = 0) (nr : A.nR = 0) : GI A (gdOf ep w s th) (8 * s) S0g fun _ => [] := by
  have wb := E.wb
  have sb := E.sb
  have rl := E.rl
  have gw : gwords ep w ≤ 100 := by unfold gwords; cases ep <;> simp <;> omega
  refine ⟨E.aw.wf, E.sl, E.fa, ?_, ⟨wb.1, by show w ≤ 100; omega⟩, ?_, by omega, fun _ _ h => (by cases h), fun _ => .nil, fun _ _ _ _ h => (by cases h), fun _ h => (h rfl).elim, ?_, by omega, by omega, fun _ _ _ h => (by cases h), fun _ => ?_, fun _ _ _ h => (by cases h)⟩
  · show 4 * w + 2 * ((8 * s + 7) / 8) < 4 * w + 2 * s + 1; omega
  · show 4 * w + 2 * s + 1 + gwords ep w ≤ _; omega
  · rw [nr]
    have : ∀ n, totR (fun _ => []) n = 0 := fun n => by
      induction n with
      | zero => rfl
      | succ n ih => show totR (fun _ => []) n + 0 = 0; omega
    exact (this _).symm
  · rw [r0, u0]; exact ⟨Int.le_refl 0, Int.le_refl 0⟩

theorem w_GForce {g : Gd} {e : List LE} {ls : Int → List (Int × Int)} {q mq : Nat} {k : Int} {K : Value → Tree} (hA : Aw I A) (ok : Ok I G (keys (g.bl q mq e ++ rest))) (gs : GdS e ls) (hl : (ls k).length ≤ 1000)
    (h0 : forM g ls k = none → ∀ e' gar, Ok I G (keys (g.bl q mq e' ++ (gar ++ rest))) → GdS e' ls → wp Try.prog (K .nilIface) L (own A (g.bl q mq e' ++ (gar ++ rest)) G) R)
    (h1 : ∀ x, forM g ls k = some x → ∀ j : LkJ, Ok I G (keys (x.bl j ++ rest)) → (mLk q mq).rep x j → wp Try.prog (K (.iface ty_p_guard_look (.pointer (some ⟨j.q, 0, none⟩)))) L (own A (x.bl j ++ rest) G) R) :
    wp Try.prog (.call f_guard_Guard_Force [.pointer (some ⟨q, 0, none⟩), .int .i64 k] (.one (.leaf .val)) K) L (own A (g.bl q mq e ++ rest) G) R := by
  rw [keys_append] at ok
  obtain ⟨o1, o2⟩ := ok.split
  refine w_sub (force_spec hA o1 gs hl) ?_
  intro v H hp
  unfold GPost at hp
  cases hm : forM g ls k with
  | none =>
    rw [hm] at hp
    obtain ⟨e', gar, rfl, rfl, o, gs'⟩ := hp
    refine ⟨_, rfl, ?_⟩
    rw [← own_append, List.append_assoc]
    refine h0 hm e' gar ?_ gs'
    have := o.join o2
    rw [← keys_append, List.append_assoc] at this
    exact this
  | some x =>
    rw [hm] at hp
    obtain ⟨j, rfl, rfl, o, rp⟩ := hp
    refine ⟨_, rfl, ?_⟩
    rw [← own_append]
    exact h1 x hm j (by rw [keys_append]; exact o.join o2) rp

end

/-- A new slot, where there is room. -/
structure SlotZ (A : Ar) (g : Gd) (m : Int) (S : Sg) (l : Int → List (Int × Int)) (who c : Int) (n : Nat) (x : Al) (B : Ar) (S' : Sg) : Prop where
  z : Alloced A g.pl g.w m S who c n x B S'
  gi : GI B g m S' l
  cv : S'.cv ≤ S.cv + sizeF c
  nz : S.cv + sizeF c ≤ m → x.h ≠ 0
  un : A.uses ≤ B.uses ∧ B.uses ≤ A.uses + g.w + 5
theorem GI.slot {A : Ar} {g : Gd} {m : Int} {S : Sg} {l : Int → List (Int × Int)} (X : GI A g m S l) (hu : A.uses ≤ 900000) {who c : Int} (wh : 0 ≤ who ∧ who < g.w) (hc : 0 ≤ c ∧ c < 4) : ∃ n x B S', SlotZ A g m S l who c n x B S' := by
  obtain ⟨n, x, B, S', Z⟩ := alloc_solo X.sl X.wf (by omega) wh hc
  have sz := sz_pos hc.1 hc.2
  have us := Z.off.us
  have nn := Z.nn
  refine ⟨n, x, B, S', Z, X.alloc hc Z, ?_, fun hm => ?_, ⟨by omega, by omega⟩⟩
  · obtain ⟨kk, b', l', h1, h2, _, _, _, h3, _⟩ | ⟨h1, h2, h3, h4⟩ | ⟨h1, h2, h3, _⟩ := Z.gives.or
    · rw [h3]; show S.cv ≤ _; omega
    · rw [h3]; show S.cv + _ ≤ _; omega
    · rw [h3]; omega
  · obtain ⟨kk, b', l', h1, h2, _, _, hcc, h3, h4⟩ | ⟨h1, h2, h3, h4⟩ | ⟨h1, h2, h3, _⟩ := Z.gives.or
    · rw [h4]; exact (list_name X.sl (by omega) h2 hcc).2.2.2.2
    · rw [h4]; exact (carve_name X.sl hc h2).2.2.2.2
    · exact (h2 hm).elim
end Go.Proofs.Ytcjhakdopnamoaa

set_option linter.unusedVariables false
set_option maxRecDepth 20000
namespace Go.Proofs.Ytcjhakdopnamoaa
open Go Go.Fw

end Go.Proofs.Ytcjhakdopnamoaa

set_option linter.unusedVariables false
set_option linter.unusedSimpArgs false
set_option maxRecDepth 20000
namespace Go.Proofs.Ytcjhakdopnamoaa
open Go Go.Fw

/-! ### A guard, perhaps with a look under way -/

def lj0 : LkJ := ⟨0, 0, 0, [], tj0, sj0, []⟩
def gmB (g : Gd) (q mq : Nat) : Option Lk → List LE → LkJ → Bl
  | none, e, _ => g.bl q mq e
  | some x, _, j => x.bl j
def gmV : Option Lk → LkJ → Value
  | none, _ => .nilIface
  | some _, j => .iface ty_p_guard_look (.pointer (some ⟨j.q, 0, none⟩))
def gmR (g : Gd) (q mq : Nat) (ls : Int → List (Int × Int)) : Option Lk → List LE → LkJ → Prop
  | none, e, _ => GdS e ls
  | some x, _, j => (mLk q mq).rep x j ∧ x.g = g

theorem forM_g {g : Gd} {ls : Int → List (Int × Int)} {k : Int} {x : Lk} (hm : forM g ls k = some x) : x.g = g := by
  unfold forM at hm
  split at hm
  · cases hm
  · obtain rfl := Option.some.inj hm; rfl
section
variable {L : Hands} {R : Value → Heap → Prop} {G : Heap} {l rest : Bl} {A A' : Ar} {I : List Nat} {g : Gd} {q mq : Nat}

theorem w_forGm {e : List LE} {ls : Int → List (Int × Int)} {k : Int} {K : Value → Tree} (hA : Aw I A) (ok : Ok I G (keys (g.bl q mq e ++ rest))) (gs : GdS e ls) (hl : (ls k).length ≤ 1000)
    (hk : ∀ e' lj gar, Ok I G (keys (gmB g q mq (forM g ls k) e' lj ++ (gar ++ rest))) → gmR g q mq ls (forM g ls k) e' lj → wp Try.prog (K (gmV (forM g ls k) lj)) L (own A (gmB g q mq (forM g ls k) e' lj ++ (gar ++ rest)) G) R) :
    wp Try.prog (.call f_guard_Guard_Force [.pointer (some ⟨q, 0, none⟩), .int .i64 k] (.one (.leaf .val)) K) L (own A (g.bl q mq e ++ rest) G) R := by
  refine w_GForce hA ok gs hl (fun hm e' gar ok' gs' => ?_) fun x hm j ok' rp => ?_
  · rw [hm] at hk
    exact hk e' lj0 gar ok' gs'
  · have hg := forM_g hm
    rw [hm] at hk
    exact hk [] j [] ok' ⟨rp, hg⟩

theorem Lk.step_g (x : Lk) (A : Ar) : (x.step A).1.g = x.g ∧ (x.step A).1.work = x.work := by
  unfold Lk.step
  split
  · exact ⟨rfl, rfl⟩
  · have hg : x.go.g = x.g ∧ x.go.work = x.work := by
      unfold Lk.go
      split
      · split <;> exact ⟨rfl, rfl⟩
      · exact ⟨rfl, rfl⟩
    unfold Lk.mid
    dsimp only
    split <;> exact hg

/-- A step of the look. -/
theorem w_lkStep {x : Lk} {lj : LkJ} {k : Bool → Tree} (hA : Aw I A) (ok : Ok I G (keys (x.bl lj ++ rest))) (rp : (mLk q mq).rep x lj) (hi : x.inv A)
    (hk : ∀ lj' : LkJ, lj'.q = lj.q → Aw I (x.step A).2 → Ok I G (keys ((x.step A).1.bl lj' ++ rest)) → (mLk q mq).rep (x.step A).1 lj' → wp Try.prog (k (x.step A).1.fin) L (own (x.step A).2 ((x.step A).1.bl lj' ++ rest) G) R) :
    wp Try.prog (.act (opS Try.prog (.call { callee := .invoke (.tmp 0) "Step", args := #[(.tmp 1)], argTypes := #[ty_p_arena_Arena] }) ty_bool [(.iface ty_p_guard_look (.pointer (some ⟨lj.q, 0, none⟩))), (.pointer (aI I))]) (.one (.leaf .bool)) k) L (own A (x.bl lj ++ rest) G) R := by
  refine act_enter (mLk_inv q mq _ _) ?_
  rw [keys_append] at ok
  obtain ⟨o1, o2⟩ := ok.split
  refine w_sub (mLk_ok q mq I A _ x lj hA o1 rp hi) ?_
  rintro v K ⟨lj', rfl, rfl, ha, ok', rp', hA'⟩
  refine ⟨(x.step A).1.fin, rfl, ?_⟩
  rw [← own_append]
  exact hk lj' ha hA' (by rw [keys_append]; exact ok'.join o2) rp'

theorem Lk.fin_no {x : Lk} (h : x.fin = true) : x.m = .no := by
  unfold Lk.fin at h
  split at h
  · assumption
  · cases h

/-- A look that has ended. -/
theorem lk_done {x : Lk} {lj : LkJ} (hm : x.fin = true) (rp : (mLk q mq).rep x lj) (ok : Ok I G (keys (x.bl lj ++ rest))) :
    ∃ e gar, own A (x.bl lj ++ rest) G = own A (x.g.bl q mq e ++ (gar ++ rest)) G ∧ Ok I G (keys (x.g.bl q mq e ++ (gar ++ rest))) ∧ GdS e x.ls := by
  obtain ⟨rp, e1, e2⟩ := rp
  have hm := Lk.fin_no hm
  refine ⟨lj.e, (lj.q, oc ty_guard_look (lkC lj.gq x.work x.first x.times .nilIface)) :: lj.gar, ?_⟩
  have hb : x.bl lj = (lj.q, oc ty_guard_look (lkC lj.gq x.work x.first x.times .nilIface)) :: (x.g.bl q mq lj.e ++ ([] ++ lj.gar)) := by
    unfold Lk.bl; rw [hm, e1, e2]; rfl
  rw [hb] at ok ⊢
  obtain ⟨p, ok'⟩ := own_perm (A := A) (l' := x.g.bl q mq lj.e ++ (((lj.q, oc ty_guard_look (lkC lj.gq x.work x.first x.times .nilIface)) :: lj.gar) ++ rest)) ok (perm_by fun c d c0 cd ca => by simp only [List.cons_append, List.append_assoc, List.nil_append, cd, ca]; omega)
  exact ⟨p, ok', ⟨rp.le, rp.ls⟩⟩

theorem gmV_nil (o : Option Lk) (j : LkJ) (u : TypeId) : opS Try.prog (.binOp .eql ty_guard_Machine (.tmp 0) (.const .nilIface) ty_guard_Machine) u [gmV o j] = .pure (.value (.bool o.isNone)) := by
  cases o
  · exact eqlMc0 u
  · exact eqlMc _ _ u
theorem gmV_nn (o : Option Lk) (j : LkJ) (u : TypeId) : opS Try.prog (.binOp .neq ty_guard_Machine (.tmp 0) (.const .nilIface) ty_guard_Machine) u [gmV o j] = .pure (.value (.bool o.isSome)) := by
  cases o
  · exact neqMc0 u
  · exact neqMc _ _ u
theorem st_gm (a : Addr) (o : Option Lk) (j : LkJ) : opS Try.prog (.store ty_guard_Machine (.tmp 0) (.tmp 1)) ty_unit [.pointer (some a), gmV o j] = .store .plain a (gmV o j) (.pure .skip) := by cases o <;> kernel_rfl
theorem gmV_single (o : Option Lk) (j : LkJ) : Value.single (gmV o j) = true := by cases o <;> rfl
theorem w_stGm (ix : Nat) {a : Addr} {b n : Nat} {T : TypeId} {c : List Value} {o : Option Lk} {j : LkJ} {k : Unit → Tree} (hA : Aw I A) (ok : Ok I G (keys l)) (ha : a = ⟨b, n, none⟩) (hi : l[ix]? = some (b, oc T c)) (hn : (decide (n < c.length)) = true)
    (h : wp Try.prog (k ()) L (own A (l.set ix (b, oc T (c.set n (gmV o j)))) G) R) : wp Try.prog (.act (opS Try.prog (.store ty_guard_Machine (.tmp 0) (.tmp 1)) ty_unit [.pointer (some a), gmV o j]) .unit k) L (own A l G) R := by
  rw [st_gm]
  exact w_st (k := k ()) ix hA ok ha hi (gmV_single _ _) hn h
end
end Go.Proofs.Ytcjhakdopnamoaa

set_option linter.unusedVariables false
set_option maxRecDepth 10000
namespace Go.Proofs.Ytcjhakdopnamoaa
open Go Go.Fw
/- (magpie/frame.Task).words -/
noncomputable def t_frame_Task_words (p0_0 : Int) (p0_1 : Int) (p0_2 : Int) (p0_3 : Bool) : Tree :=
  .newP (.cells #[(.int .i64 p0_0), (.int .i64 p0_1), (.int .i64 p0_2), (.bool p0_3)] ty_frame_Task) fun x1 =>
  .newP (.cells #[(.int .i64 0), (.int .i64 0), (.int .i64 0), (.int .i64 0), (.int .i64 0), (.int .i64 0), (.int .i64 0)] ty_a7_int) fun x2 =>
  .ld x1 (.int .i64) fun x5 =>
  .ld (x1.add 1) (.int .i64) fun x7 =>
  .ld (x1.add 2) (.int .i64) fun x9 =>
  .newP (.cells #[(.int .i64 0), (.int .i64 0), (.int .i64 0), (.int .i64 0), (.int .i64 0), (.int .i64 0), (.int .i64 0)] ty_a7_int) fun x3 =>
  .stA x3 [(.int .i64 0), (.int .i64 0), (.int .i64 2), (.int .i64 x5), (.int .i64 x7), (.int .i64 x9), (.int .i64 0)] <|
  .ld (x1.add 3) .bool fun x12 =>
  bif x12 then (
    .st (x3.add 6) (.int .i64 1) <|
    .ldA x3 [(.int .i64), (.int .i64), (.int .i64), (.int .i64), (.int .i64), (.int .i64), (.int .i64)] fun x14 =>
    .stA x2 [(.int .i64 x14.1), (.int .i64 x14.2.1), (.int .i64 x14.2.2.1), (.int .i64 x14.2.2.2.1), (.int .i64 x14.2.2.2.2.1), (.int .i64 x14.2.2.2.2.2.1), (.int .i64 x14.2.2.2.2.2.2.1)] <|
    .look (ldK x2 7 0 #[] fun r0 => .pure (.value (.agg r0))) (.one (.agg [(.int .i64), (.int .i64), (.int .i64), (.int .i64), (.int .i64), (.int .i64), (.int .i64)])) fun r => .ret (Sh.toVal (.one (.agg [(.int .i64), (.int .i64), (.int .i64), (.int .i64), (.int .i64), (.int .i64), (.int .i64)])) r))
  else (
    .ldA x3 [(.int .i64), (.int .i64), (.int .i64), (.int .i64), (.int .i64), (.int .i64), (.int .i64)] fun x14 =>
    .stA x2 [(.int .i64 x14.1), (.int .i64 x14.2.1), (.int .i64 x14.2.2.1), (.int .i64 x14.2.2.2.1), (.int .i64 x14.2.2.2.2.1), (.int .i64 x14.2.2.2.2.2.1), (.int .i64 x14.2.2.2.2.2.2.1)] <|
    .look (ldK x2 7 0 #[] fun r0 => .pure (.value (.agg r0))) (.one (.agg [(.int .i64), (.int .i64), (.int .i64), (.int .i64), (.int .i64), (.int .i64), (.int .i64)])) fun r => .ret (Sh.toVal (.one (.agg [(.int .i64), (.int .i64), (.int .i64), (.int .i64), (.int .i64), (.int .i64), (.int .i64)])) r))
theorem t_frame_Task_words_eq (p0_0 : Int) (p0_1 : Int) (p0_2 : Int) (p0_3 : Bool) : funcTree Try.prog { quiet := [16, 34, 36, 40, 41, 66, 67, 75, 76, 77, 97, 98, 103, 108, 110, 139, 146, 149, 161], quietTmp := false, fncs := [], ifcs := [] } Try.f82 [(.agg #[(.int .i64 p0_0), (.int .i64 p0_1), (.int .i64 p0_2), (.bool p0_3)])] = t_frame_Task_words p0_0 p0_1 p0_2 p0_3 := by kernel_rfl
theorem t_frame_Task_words_spec {p0_0 : Int} {p0_1 : Int} {p0_2 : Int} {p0_3 : Bool} {H : Heap} {R : Value → Heap → Prop} (h : ∀ L, wp Try.prog (t_frame_Task_words p0_0 p0_1 p0_2 p0_3) L H R) : SpecF Try.prog f_frame_Task_words #[(.agg #[(.int .i64 p0_0), (.int .i64 p0_1), (.int .i64 p0_2), (.bool p0_3)])] H R :=
  spec_of_tree (cfg := { quiet := [16, 34, 36, 40, 41, 66, 67, 75, 76, 77, 97, 98, 103, 108, 110, 139, 146, 149, 161], quietTmp := false, fncs := [], ifcs := [] }) Try.func82 fun L => (t_frame_Task_words_eq p0_0 p0_1 p0_2 p0_3).symm ▸ h L

/- magpie/frame.NewMake -/
noncomputable def t_frame_NewMake (p0_0 : Int) (p0_1 : Int) (p0_2 : Int) (p0_3 : Int) (p0_4 : Int) (p1 : Option Addr) (p2 : Int) (p3_0 : Int) (p3_1 : Int) (p3_2 : Int) (p3_3 : Bool) : Tree :=
  .newP (.cells #[(.int .i64 p0_0), (.int .i64 p0_1), (.int .i64 p0_2), (.int .i64 p0_3), (.int .i64 p0_4)] ty_free_Place) fun x4 =>
  .newP (.cells #[(.int .i64 p3_0), (.int .i64 p3_1), (.int .i64 p3_2), (.bool p3_3)] ty_frame_Task) fun x7 =>
  .ldA x4 [(.int .i64), (.int .i64), (.int .i64), (.int .i64), (.int .i64)] fun x9 =>
  .ldA x7 [(.int .i64), (.int .i64), (.int .i64), .bool] fun x12 =>
  .ldA x4 [(.int .i64), (.int .i64), (.int .i64), (.int .i64), (.int .i64)] fun x14 =>
  .call f_frame_Task_words [(.agg #[(.int .i64 x12.1), (.int .i64 x12.2.1), (.int .i64 x12.2.2.1), (.bool x12.2.2.2.1)])] (.one (.agg [(.int .i64), (.int .i64), (.int .i64), (.int .i64), (.int .i64), (.int .i64), (.int .i64)])) fun x13 =>
  .check (ldAS x4 5 0 #[]) (.agg #[(.int .i64 x14.1), (.int .i64 x14.2.1), (.int .i64 x14.2.2.1), (.int .i64 x14.2.2.2.1), (.int .i64 x14.2.2.2.2.1)]) <|
  .check (ldAS x4 5 0 #[]) (.agg #[(.int .i64 x9.1), (.int .i64 x9.2.1), (.int .i64 x9.2.2.1), (.int .i64 x9.2.2.2.1), (.int .i64 x9.2.2.2.2.1)]) <|
  .call f_slab_NewAlloc [(.agg #[(.int .i64 x14.1), (.int .i64 x14.2.1), (.int .i64 x14.2.2.1), (.int .i64 x14.2.2.2.1), (.int .i64 x14.2.2.2.2.1)]), (.int .i64 p2), (.int .i64 0)] (.one (.leaf .ptr)) fun x16 =>
  .check (ldAS x4 5 0 #[]) (.agg #[(.int .i64 x9.1), (.int .i64 x9.2.1), (.int .i64 x9.2.2.1), (.int .i64 x9.2.2.2.1), (.int .i64 x9.2.2.2.2.1)]) <|
  .newP (.cells #[(.int .i64 x9.1), (.int .i64 x9.2.1), (.int .i64 x9.2.2.1), (.int .i64 x9.2.2.2.1), (.int .i64 x9.2.2.2.2.1), (.pointer p1), (.int .i64 p2), (.int .i64 x13.1), (.int .i64 x13.2.1), (.int .i64 x13.2.2.1), (.int .i64 x13.2.2.2.1), (.int .i64 x13.2.2.2.2.1), (.int .i64 x13.2.2.2.2.2.1), (.int .i64 x13.2.2.2.2.2.2.1), (.pointer x16), .nilIface, (.int .i64 0), (.int .i64 0), (.int .i64 0), (.bool false)] ty_frame_Make) fun x18 =>
  .ret (.pointer (some x18))
theorem t_frame_NewMake_eq (p0_0 : Int) (p0_1 : Int) (p0_2 : Int) (p0_3 : Int) (p0_4 : Int) (p1 : Option Addr) (p2 : Int) (p3_0 : Int) (p3_1 : Int) (p3_2 : Int) (p3_3 : Bool) : funcTree Try.prog { quiet := [16, 34, 36, 40, 41, 66, 67, 75, 76, 77, 97, 98, 103, 108, 110, 139, 146, 149, 161], quietTmp := false, fncs := [], ifcs := [] } Try.f44 [(.agg #[(.int .i64 p0_0), (.int .i64 p0_1), (.int .i64 p0_2), (.int .i64 p0_3), (.int .i64 p0_4)]), (.pointer p1), (.int .i64 p2), (.agg #[(.int .i64 p3_0), (.int .i64 p3_1), (.int .i64 p3_2), (.bool p3_3)])] = t_frame_NewMake p0_0 p0_1 p0_2 p0_3 p0_4 p1 p2 p3_0 p3_1 p3_2 p3_3 := by kernel_rfl
theorem t_frame_NewMake_spec {p0_0 : Int} {p0_1 : Int} {p0_2 : Int} {p0_3 : Int} {p0_4 : Int} {p1 : Option Addr} {p2 : Int} {p3_0 : Int} {p3_1 : Int} {p3_2 : Int} {p3_3 : Bool} {H : Heap} {R : Value → Heap → Prop} (h : ∀ L, wp Try.prog (t_frame_NewMake p0_0 p0_1 p0_2 p0_3 p0_4 p1 p2 p3_0 p3_1 p3_2 p3_3) L H R) : SpecF Try.prog f_frame_NewMake #[(.agg #[(.int .i64 p0_0), (.int .i64 p0_1), (.int .i64 p0_2), (.int .i64 p0_3), (.int .i64 p0_4)]), (.pointer p1), (.int .i64 p2), (.agg #[(.int .i64 p3_0), (.int .i64 p3_1), (.int .i64 p3_2), (.bool p3_3)])] H R :=
  spec_of_tree (cfg := { quiet := [16, 34, 36, 40, 41, 66, 67, 75, 76, 77, 97, 98, 103, 108, 110, 139, 146, 149, 161], quietTmp := false, fncs := [], ifcs := [] }) Try.func44 fun L => (t_frame_NewMake_eq p0_0 p0_1 p0_2 p0_3 p0_4 p1 p2 p3_0 p3_1 p3_2 p3_3).symm ▸ h L

/- magpie/frame.NewRead -/
noncomputable def t_frame_NewRead (p0 : Int) : Tree :=
  .newP (.cells #[(.int .i64 p0), (.int .i64 0), (.int .i64 0), (.int .i64 0), (.bool false), (.int .i64 3)] ty_frame_Read) fun x5 =>
  .ret (.pointer (some x5))
theorem t_frame_NewRead_eq (p0 : Int) : funcTree Try.prog { quiet := [16, 34, 36, 40, 41, 66, 67, 75, 76, 77, 97, 98, 103, 108, 110, 139, 146, 149, 161], quietTmp := false, fncs := [], ifcs := [] } Try.f47 [(.int .i64 p0)] = t_frame_NewRead p0 := by kernel_rfl
theorem t_frame_NewRead_spec {p0 : Int} {H : Heap} {R : Value → Heap → Prop} (h : ∀ L, wp Try.prog (t_frame_NewRead p0) L H R) : SpecF Try.prog f_frame_NewRead #[(.int .i64 p0)] H R :=
  spec_of_tree (cfg := { quiet := [16, 34, 36, 40, 41, 66, 67, 75, 76, 77, 97, 98, 103, 108, 110, 139, 146, 149, 161], quietTmp := false, fncs := [], ifcs := [] }) Try.func47 fun L => (t_frame_NewRead_eq p0).symm ▸ h L

/- (*magpie/frame.Make).allocated -/
noncomputable def t_frame_Make_allocated (p0 : Option Addr) : Tree :=
  .look (opS Try.prog (.nilCheck (.tmp 0)) ty_unit [(.pointer p0)]) (.one (.leaf .addr)) fun x5 =>
  .ld (x5.add 16) (.int .i64) fun x7 =>
  .look (opS Try.prog (.nilCheck (.tmp 0)) ty_unit [(.pointer p0)]) (.one (.leaf .addr)) fun x9 =>
  .st (x9.add 16) (.int .i64 (w64 (x7 + 1))) <|
  .look (opS Try.prog (.nilCheck (.tmp 0)) ty_unit [(.pointer p0)]) (.one (.leaf .addr)) fun x13 =>
  .ld (x13.add 14) .ptr fun x15 =>
  .call f_slab_Alloc_Handle [(.pointer x15)] (.tup [(.leaf (.int .i64)), (.leaf .bool)]) fun x16 =>
  .look (opS Try.prog (.nilCheck (.tmp 0)) ty_unit [(.pointer p0)]) (.one (.leaf .addr)) fun x20 =>
  .st (x20.add 14) (.pointer none) <|
  bif x16.2.1 then (
    .look (opS Try.prog (.nilCheck (.tmp 0)) ty_unit [(.pointer p0)]) (.one (.leaf .addr)) fun x55 =>
    .st (x55.add 18) (.int .i64 x16.1) <|
    .ret (.tuple #[]))
  else (
    .look (opS Try.prog (.nilCheck (.tmp 0)) ty_unit [(.pointer p0)]) (.one (.leaf .addr)) fun x59 =>
    .ld (x59.add 16) (.int .i64) fun x61 =>
    bif (decide ((x61 : Int) > 1)) then (
      .look (opS Try.prog (.nilCheck (.tmp 0)) ty_unit [(.pointer p0)]) (.one (.leaf .addr)) fun x64 =>
      .st (x64.add 19) (.bool true) <|
      .ret (.tuple #[]))
    else (
      .look (opS Try.prog (.nilCheck (.tmp 0)) ty_unit [(.pointer p0)]) (.one (.leaf .addr)) fun x24 =>
      .ld (x24.add 5) .ptr fun x26 =>
      .look (opS Try.prog (.nilCheck (.tmp 0)) ty_unit [(.pointer p0)]) (.one (.leaf .addr)) fun x28 =>
      .ld (x28.add 6) (.int .i64) fun x30 =>
      .call f_guard_Guard_Force [(.pointer x26), (.int .i64 x30)] (.one (.leaf .val)) fun x31 =>
      .look (opS Try.prog (.nilCheck (.tmp 0)) ty_unit [(.pointer p0)]) (.one (.leaf .addr)) fun x32 =>
      .act (opS Try.prog (.store ty_guard_Machine (.tmp 0) (.tmp 1)) ty_unit [(.pointer (some (x32.add 15))), x31]) .unit fun _ =>
      .look (opS Try.prog (.nilCheck (.tmp 0)) ty_unit [(.pointer p0)]) (.one (.leaf .addr)) fun x35 =>
      .ld (x35.add 15) .val fun x37 =>
      .look (opS Try.prog (.binOp .eql ty_guard_Machine (.tmp 0) (.const .nilIface) ty_guard_Machine) ty_bool [x37]) (.one (.leaf .bool)) fun x38 =>
      bif x38 then (
        .look (opS Try.prog (.nilCheck (.tmp 0)) ty_unit [(.pointer p0)]) (.one (.leaf .addr)) fun x41 =>
        .ldA x41 [(.int .i64), (.int .i64), (.int .i64), (.int .i64), (.int .i64)] fun x43 =>
        .look (opS Try.prog (.nilCheck (.tmp 0)) ty_unit [(.pointer p0)]) (.one (.leaf .addr)) fun x45 =>
        .ld (x45.add 6) (.int .i64) fun x47 =>
        .call f_slab_NewAlloc [(.agg #[(.int .i64 x43.1), (.int .i64 x43.2.1), (.int .i64 x43.2.2.1), (.int .i64 x43.2.2.2.1), (.int .i64 x43.2.2.2.2.1)]), (.int .i64 x47), (.int .i64 0)] (.one (.leaf .ptr)) fun x48 =>
        .look (opS Try.prog (.nilCheck (.tmp 0)) ty_unit [(.pointer p0)]) (.one (.leaf .addr)) fun x49 =>
        .st (x49.add 14) (.pointer x48) <|
        .ret (.tuple #[]))
      else (
        .ret (.tuple #[]))))
theorem t_frame_Make_allocated_eq (p0 : Option Addr) : funcTree Try.prog { quiet := [16, 34, 36, 40, 41, 66, 67, 75, 76, 77, 97, 98, 103, 108, 110, 139, 146, 149, 161], quietTmp := false, fncs := [], ifcs := [] } Try.f137 [(.pointer p0)] = t_frame_Make_allocated p0 := by kernel_rfl
theorem t_frame_Make_allocated_spec {p0 : Option Addr} {H : Heap} {R : Value → Heap → Prop} (h : ∀ L, wp Try.prog (t_frame_Make_allocated p0) L H R) : SpecF Try.prog f_frame_Make_allocated #[(.pointer p0)] H R :=
  spec_of_tree (cfg := { quiet := [16, 34, 36, 40, 41, 66, 67, 75, 76, 77, 97, 98, 103, 108, 110, 139, 146, 149, 161], quietTmp := false, fncs := [], ifcs := [] }) Try.func137 fun L => (t_frame_Make_allocated_eq p0).symm ▸ h L

/- (*magpie/frame.Make).Step -/
noncomputable def t_frame_Make_Step (p0 : Option Addr) (p1 : Option Addr) : Tree :=
  .look (opS Try.prog (.nilCheck (.tmp 0)) ty_unit [(.pointer p0)]) (.one (.leaf .addr)) fun x41 =>
  .ld (x41.add 19) .bool fun x43 =>
  bif x43 then (
    .look (opS Try.prog (.nilCheck (.tmp 0)) ty_unit [(.pointer p0)]) (.one (.leaf .addr)) fun x86 =>
    .ld (x86.add 19) .bool fun x88 =>
    .ret (.bool x88))
  else (
    .look (opS Try.prog (.nilCheck (.tmp 0)) ty_unit [(.pointer p0)]) (.one (.leaf .addr)) fun x46 =>
    .ld (x46.add 15) .val fun x48 =>
    .look (opS Try.prog (.binOp .neq ty_guard_Machine (.tmp 0) (.const .nilIface) ty_guard_Machine) ty_bool [x48]) (.one (.leaf .bool)) fun x49 =>
    bif x49 then (
      .look (opS Try.prog (.nilCheck (.tmp 0)) ty_unit [(.pointer p0)]) (.one (.leaf .addr)) fun x51 =>
      .ld (x51.add 15) .val fun x53 =>
      .act (opS Try.prog (.call { callee := .invoke (.tmp 0) "Step", args := #[(.tmp 1)], argTypes := #[ty_p_arena_Arena] }) ty_bool [x53, (.pointer p1)]) (.one (.leaf .bool)) fun x55 =>
      bif x55 then (
        .look (opS Try.prog (.nilCheck (.tmp 0)) ty_unit [(.pointer p0)]) (.one (.leaf .addr)) fun x59 =>
        .ldA x59 [(.int .i64), (.int .i64), (.int .i64), (.int .i64), (.int .i64)] fun x61 =>
        .look (opS Try.prog (.nilCheck (.tmp 0)) ty_unit [(.pointer p0)]) (.one (.leaf .addr)) fun x63 =>
        .ld (x63.add 6) (.int .i64) fun x65 =>
        .call f_slab_NewAlloc [(.agg #[(.int .i64 x61.1), (.int .i64 x61.2.1), (.int .i64 x61.2.2.1), (.int .i64 x61.2.2.2.1), (.int .i64 x61.2.2.2.2.1)]), (.int .i64 x65), (.int .i64 0)] (.one (.leaf .ptr)) fun x66 =>
        .look (opS Try.prog (.nilCheck (.tmp 0)) ty_unit [(.pointer p0)]) (.one (.leaf .addr)) fun x67 =>
        .st (x67.add 15) .nilIface <|
        .look (opS Try.prog (.nilCheck (.tmp 0)) ty_unit [(.pointer p0)]) (.one (.leaf .addr)) fun x69 =>
        .st (x69.add 14) (.pointer x66) <|
        .look (opS Try.prog (.nilCheck (.tmp 0)) ty_unit [(.pointer p0)]) (.one (.leaf .addr)) fun x86 =>
        .ld (x86.add 19) .bool fun x88 =>
        .ret (.bool x88))
      else (
        .look (opS Try.prog (.nilCheck (.tmp 0)) ty_unit [(.pointer p0)]) (.one (.leaf .addr)) fun x86 =>
        .ld (x86.add 19) .bool fun x88 =>
        .ret (.bool x88)))
    else (
      .look (opS Try.prog (.nilCheck (.tmp 0)) ty_unit [(.pointer p0)]) (.one (.leaf .addr)) fun x73 =>
      .ld (x73.add 14) .ptr fun x75 =>
      .look (opS Try.prog (.binOp .neq ty_p_slab_Alloc (.tmp 0) (.const (.pointer none)) ty_p_slab_Alloc) ty_bool [(.pointer x75)]) (.one (.leaf .bool)) fun x76 =>
      bif x76 then (
        .look (opS Try.prog (.nilCheck (.tmp 0)) ty_unit [(.pointer p0)]) (.one (.leaf .addr)) fun x78 =>
        .ld (x78.add 14) .ptr fun x80 =>
        .call f_slab_Alloc_Step [(.pointer x80), (.pointer p1)] (.one (.leaf .bool)) fun x82 =>
        bif x82 then (
          .call f_frame_Make_allocated [(.pointer p0)] .unit fun _ =>
          .look (opS Try.prog (.nilCheck (.tmp 0)) ty_unit [(.pointer p0)]) (.one (.leaf .addr)) fun x86 =>
          .ld (x86.add 19) .bool fun x88 =>
          .ret (.bool x88))
        else (
          .look (opS Try.prog (.nilCheck (.tmp 0)) ty_unit [(.pointer p0)]) (.one (.leaf .addr)) fun x86 =>
          .ld (x86.add 19) .bool fun x88 =>
          .ret (.bool x88)))
      else (
        .look (opS Try.prog (.nilCheck (.tmp 0)) ty_unit [(.pointer p0)]) (.one (.leaf .addr)) fun x7 =>
        .ld (x7.add 18) (.int .i64) fun x9 =>
        .look (opS Try.prog (.nilCheck (.tmp 0)) ty_unit [(.pointer p0)]) (.one (.leaf .addr)) fun x11 =>
        .ld (x11.add 17) (.int .i64) fun x13 =>
        .look (opS Try.prog (.nilCheck (.tmp 0)) ty_unit [(.pointer p0)]) (.one (.leaf .addr)) fun x16 =>
        .ld (x16.add 17) (.int .i64) fun x18 =>
        .look (opS Try.prog (.nilCheck (.tmp 0)) ty_unit [(.pointer p0)]) (.one (.leaf .addr)) fun x19 =>
        .look (opS Try.prog (.indexAddr ty_a7_int (.tmp 0) (.tmp 1)) ty_unit [(.pointer (some (x19.add 7))), (.int .i64 x18)]) (.one (.leaf .addr)) fun x21 =>
        .ld x21 (.int .i64) fun x22 =>
        .call f_arena_Arena_Store [(.pointer p1), (.int .i64 x9), (.int .i64 x13), (.int .i64 x22)] .unit fun _ =>
        .look (opS Try.prog (.nilCheck (.tmp 0)) ty_unit [(.pointer p0)]) (.one (.leaf .addr)) fun x25 =>
        .ld (x25.add 17) (.int .i64) fun x27 =>
        .look (opS Try.prog (.nilCheck (.tmp 0)) ty_unit [(.pointer p0)]) (.one (.leaf .addr)) fun x29 =>
        .st (x29.add 17) (.int .i64 (w64 (x27 + 1))) <|
        .look (opS Try.prog (.nilCheck (.tmp 0)) ty_unit [(.pointer p0)]) (.one (.leaf .addr)) fun x33 =>
        .ld (x33.add 17) (.int .i64) fun x35 =>
        .look (opS Try.prog (.nilCheck (.tmp 0)) ty_unit [(.pointer p0)]) (.one (.leaf .addr)) fun x37 =>
        .st (x37.add 19) (.bool ((x35 : Int) == 7)) <|
        .look (opS Try.prog (.nilCheck (.tmp 0)) ty_unit [(.pointer p0)]) (.one (.leaf .addr)) fun x86 =>
        .ld (x86.add 19) .bool fun x88 =>
        .ret (.bool x88))))
theorem t_frame_Make_Step_eq (p0 : Option Addr) (p1 : Option Addr) : funcTree Try.prog { quiet := [16, 34, 36, 40, 41, 66, 67, 75, 76, 77, 97, 98, 103, 108, 110, 139, 146, 149, 161], quietTmp := false, fncs := [], ifcs := [] } Try.f136 [(.pointer p0), (.pointer p1)] = t_frame_Make_Step p0 p1 := by kernel_rfl
theorem t_frame_Make_Step_spec {p0 : Option Addr} {p1 : Option Addr} {H : Heap} {R : Value → Heap → Prop} (h : ∀ L, wp Try.prog (t_frame_Make_Step p0 p1) L H R) : SpecF Try.prog f_frame_Make_Step #[(.pointer p0), (.pointer p1)] H R :=
  spec_of_tree (cfg := { quiet := [16, 34, 36, 40, 41, 66, 67, 75, 76, 77, 97, 98, 103, 108, 110, 139, 146, 149, 161], quietTmp := false, fncs := [], ifcs := [] }) Try.func136 fun L => (t_frame_Make_Step_eq p0 p1).symm ▸ h L

/- (*magpie/frame.Make).Handle -/
noncomputable def t_frame_Make_Handle (p0 : Option Addr) : Tree :=
  .look (opS Try.prog (.nilCheck (.tmp 0)) ty_unit [(.pointer p0)]) (.one (.leaf .addr)) fun x5 =>
  .ld (x5.add 18) (.int .i64) fun x7 =>
  .look (opS Try.prog (.nilCheck (.tmp 0)) ty_unit [(.pointer p0)]) (.one (.leaf .addr)) fun x9 =>
  .ld (x9.add 19) .bool fun x11 =>
  bif x11 then (
    .look (opS Try.prog (.nilCheck (.tmp 0)) ty_unit [(.pointer p0)]) (.one (.leaf .addr)) fun x14 =>
    .ld (x14.add 18) (.int .i64) fun x16 =>
    .ret (.tuple #[(.int .i64 x7), (.bool ((x16 : Int) != 0))]))
  else (
    .ret (.tuple #[(.int .i64 x7), (.bool false)]))
theorem t_frame_Make_Handle_eq (p0 : Option Addr) : funcTree Try.prog { quiet := [16, 34, 36, 40, 41, 66, 67, 75, 76, 77, 97, 98, 103, 108, 110, 139, 146, 149, 161], quietTmp := false, fncs := [], ifcs := [] } Try.f46 [(.pointer p0)] = t_frame_Make_Handle p0 := by kernel_rfl
theorem t_frame_Make_Handle_spec {p0 : Option Addr} {H : Heap} {R : Value → Heap → Prop} (h : ∀ L, wp Try.prog (t_frame_Make_Handle p0) L H R) : SpecF Try.prog f_frame_Make_Handle #[(.pointer p0)] H R :=
  spec_of_tree (cfg := { quiet := [16, 34, 36, 40, 41, 66, 67, 75, 76, 77, 97, 98, 103, 108, 110, 139, 146, 149, 161], quietTmp := false, fncs := [], ifcs := [] }) Try.func46 fun L => (t_frame_Make_Handle_eq p0).symm ▸ h L

/- (*magpie/frame.Read).Step -/
noncomputable def t_frame_Read_Step (p0 : Option Addr) (p1 : Option Addr) : Tree :=
  .look (opS Try.prog (.nilCheck (.tmp 0)) ty_unit [(.pointer p0)]) (.one (.leaf .addr)) fun x7 =>
  .ld (x7.add 5) (.int .i64) fun x9 =>
  bif (decide ((x9 : Int) < 7)) then (
    .look (opS Try.prog (.nilCheck (.tmp 0)) ty_unit [(.pointer p0)]) (.one (.leaf .addr)) fun x13 =>
    .ld x13 (.int .i64) fun x15 =>
    .look (opS Try.prog (.nilCheck (.tmp 0)) ty_unit [(.pointer p0)]) (.one (.leaf .addr)) fun x17 =>
    .ld (x17.add 5) (.int .i64) fun x19 =>
    .call f_arena_Arena_Load [(.pointer p1), (.int .i64 x15), (.int .i64 x19)] (.one (.leaf (.int .i64))) fun x20 =>
    .look (opS Try.prog (.nilCheck (.tmp 0)) ty_unit [(.pointer p0)]) (.one (.leaf .addr)) fun x22 =>
    .ld (x22.add 5) (.int .i64) fun x24 =>
    bif ((x24 : Int) == 3) then (
      .look (opS Try.prog (.nilCheck (.tmp 0)) ty_unit [(.pointer p0)]) (.one (.leaf .addr)) fun x29 =>
      .st (x29.add 1) (.int .i64 x20) <|
      .look (opS Try.prog (.nilCheck (.tmp 0)) ty_unit [(.pointer p0)]) (.one (.leaf .addr)) fun x55 =>
      .ld (x55.add 5) (.int .i64) fun x57 =>
      .look (opS Try.prog (.nilCheck (.tmp 0)) ty_unit [(.pointer p0)]) (.one (.leaf .addr)) fun x59 =>
      .st (x59.add 5) (.int .i64 (w64 (x57 + 1))) <|
      .look (opS Try.prog (.nilCheck (.tmp 0)) ty_unit [(.pointer p0)]) (.one (.leaf .addr)) fun x62 =>
      .ld (x62.add 5) (.int .i64) fun x64 =>
      .ret (.bool ((x64 : Int) == 7)))
    else (
      bif ((x24 : Int) == 4) then (
        .look (opS Try.prog (.nilCheck (.tmp 0)) ty_unit [(.pointer p0)]) (.one (.leaf .addr)) fun x36 =>
        .st ((x36.add 1).add 1) (.int .i64 x20) <|
        .look (opS Try.prog (.nilCheck (.tmp 0)) ty_unit [(.pointer p0)]) (.one (.leaf .addr)) fun x55 =>
        .ld (x55.add 5) (.int .i64) fun x57 =>
        .look (opS Try.prog (.nilCheck (.tmp 0)) ty_unit [(.pointer p0)]) (.one (.leaf .addr)) fun x59 =>
        .st (x59.add 5) (.int .i64 (w64 (x57 + 1))) <|
        .look (opS Try.prog (.nilCheck (.tmp 0)) ty_unit [(.pointer p0)]) (.one (.leaf .addr)) fun x62 =>
        .ld (x62.add 5) (.int .i64) fun x64 =>
        .ret (.bool ((x64 : Int) == 7)))
      else (
        bif ((x24 : Int) == 5) then (
          .look (opS Try.prog (.nilCheck (.tmp 0)) ty_unit [(.pointer p0)]) (.one (.leaf .addr)) fun x43 =>
          .st ((x43.add 1).add 2) (.int .i64 x20) <|
          .look (opS Try.prog (.nilCheck (.tmp 0)) ty_unit [(.pointer p0)]) (.one (.leaf .addr)) fun x55 =>
          .ld (x55.add 5) (.int .i64) fun x57 =>
          .look (opS Try.prog (.nilCheck (.tmp 0)) ty_unit [(.pointer p0)]) (.one (.leaf .addr)) fun x59 =>
          .st (x59.add 5) (.int .i64 (w64 (x57 + 1))) <|
          .look (opS Try.prog (.nilCheck (.tmp 0)) ty_unit [(.pointer p0)]) (.one (.leaf .addr)) fun x62 =>
          .ld (x62.add 5) (.int .i64) fun x64 =>
          .ret (.bool ((x64 : Int) == 7)))
        else (
          bif ((x24 : Int) == 6) then (
            .look (opS Try.prog (.nilCheck (.tmp 0)) ty_unit [(.pointer p0)]) (.one (.leaf .addr)) fun x51 =>
            .st ((x51.add 1).add 3) (.bool ((x20 : Int) == 1)) <|
            .look (opS Try.prog (.nilCheck (.tmp 0)) ty_unit [(.pointer p0)]) (.one (.leaf .addr)) fun x55 =>
            .ld (x55.add 5) (.int .i64) fun x57 =>
            .look (opS Try.prog (.nilCheck (.tmp 0)) ty_unit [(.pointer p0)]) (.one (.leaf .addr)) fun x59 =>
            .st (x59.add 5) (.int .i64 (w64 (x57 + 1))) <|
            .look (opS Try.prog (.nilCheck (.tmp 0)) ty_unit [(.pointer p0)]) (.one (.leaf .addr)) fun x62 =>
            .ld (x62.add 5) (.int .i64) fun x64 =>
            .ret (.bool ((x64 : Int) == 7)))
          else (
            .look (opS Try.prog (.nilCheck (.tmp 0)) ty_unit [(.pointer p0)]) (.one (.leaf .addr)) fun x55 =>
            .ld (x55.add 5) (.int .i64) fun x57 =>
            .look (opS Try.prog (.nilCheck (.tmp 0)) ty_unit [(.pointer p0)]) (.one (.leaf .addr)) fun x59 =>
            .st (x59.add 5) (.int .i64 (w64 (x57 + 1))) <|
            .look (opS Try.prog (.nilCheck (.tmp 0)) ty_unit [(.pointer p0)]) (.one (.leaf .addr)) fun x62 =>
            .ld (x62.add 5) (.int .i64) fun x64 =>
            .ret (.bool ((x64 : Int) == 7)))))))
  else (
    .look (opS Try.prog (.nilCheck (.tmp 0)) ty_unit [(.pointer p0)]) (.one (.leaf .addr)) fun x62 =>
    .ld (x62.add 5) (.int .i64) fun x64 =>
    .ret (.bool ((x64 : Int) == 7)))
theorem t_frame_Read_Step_eq (p0 : Option Addr) (p1 : Option Addr) : funcTree Try.prog { quiet := [16, 34, 36, 40, 41, 66, 67, 75, 76, 77, 97, 98, 103, 108, 110, 139, 146, 149, 161], quietTmp := false, fncs := [], ifcs := [] } Try.f138 [(.pointer p0), (.pointer p1)] = t_frame_Read_Step p0 p1 := by kernel_rfl
theorem t_frame_Read_Step_spec {p0 : Option Addr} {p1 : Option Addr} {H : Heap} {R : Value → Heap → Prop} (h : ∀ L, wp Try.prog (t_frame_Read_Step p0 p1) L H R) : SpecF Try.prog f_frame_Read_Step #[(.pointer p0), (.pointer p1)] H R :=
  spec_of_tree (cfg := { quiet := [16, 34, 36, 40, 41, 66, 67, 75, 76, 77, 97, 98, 103, 108, 110, 139, 146, 149, 161], quietTmp := false, fncs := [], ifcs := [] }) Try.func138 fun L => (t_frame_Read_Step_eq p0 p1).symm ▸ h L

/- (*magpie/frame.Read).Task -/
noncomputable def t_frame_Read_Task (p0 : Option Addr) : Tree :=
  .newP (.cells #[(.int .i64 0), (.int .i64 0), (.int .i64 0), (.bool false)] ty_frame_Task) fun x2 =>
  .look (opS Try.prog (.nilCheck (.tmp 0)) ty_unit [(.pointer p0)]) (.one (.leaf .addr)) fun x4 =>
  .ldA (x4.add 1) [(.int .i64), (.int .i64), (.int .i64), .bool] fun x6 =>
  .stA x2 [(.int .i64 x6.1), (.int .i64 x6.2.1), (.int .i64 x6.2.2.1), (.bool x6.2.2.2.1)] <|
  .look (ldK x2 4 0 #[] fun r0 => .pure (.value (.agg r0))) (.one (.agg [(.int .i64), (.int .i64), (.int .i64), .bool])) fun r => .ret (Sh.toVal (.one (.agg [(.int .i64), (.int .i64), (.int .i64), .bool])) r)
theorem t_frame_Read_Task_eq (p0 : Option Addr) : funcTree Try.prog { quiet := [16, 34, 36, 40, 41, 66, 67, 75, 76, 77, 97, 98, 103, 108, 110, 139, 146, 149, 161], quietTmp := false, fncs := [], ifcs := [] } Try.f48 [(.pointer p0)] = t_frame_Read_Task p0 := by kernel_rfl
theorem t_frame_Read_Task_spec {p0 : Option Addr} {H : Heap} {R : Value → Heap → Prop} (h : ∀ L, wp Try.prog (t_frame_Read_Task p0) L H R) : SpecF Try.prog f_frame_Read_Task #[(.pointer p0)] H R :=
  spec_of_tree (cfg := { quiet := [16, 34, 36, 40, 41, 66, 67, 75, 76, 77, 97, 98, 103, 108, 110, 139, 146, 149, 161], quietTmp := false, fncs := [], ifcs := [] }) Try.func48 fun L => (t_frame_Read_Task_eq p0).symm ▸ h L

end Go.Proofs.Ytcjhakdopnamoaa

set_option linter.unusedVariables false
set_option linter.unusedSimpArgs false
set_option maxRecDepth 20000
namespace Go.Proofs.Ytcjhakdopnamoaa
open Go Go.Fw

/-! ### frame.Drop -/
structure Dr where
  g : Gd
  ls : Int → List (Int × Int)
  work : Int
  h : Int
  added : Bool
  m : Option Lk
def Dr.fin (x : Dr) : Bool := x.m.isNone
def Dr.add (x : Dr) (A : Ar) : Ar := A.storeF x.h 2 (w64 (A.loadF x.h 2 + -1))
def Dr.step (x : Dr) (A : Ar) : Dr × Ar :=
  if x.added = false then
    if A.loadF x.h 2 = 1 then ({ x with added := true, m := retM x.g x.ls x.work x.h, ls := setL x.ls x.work (x.ls x.work ++ [(x.h, 0)]) }, (x.add A).retireF x.h)
    else ({ x with added := true }, x.add A)
  else match x.m with
    | none => (x, A)
    | some y => if (y.step A).1.fin = true then ({ x with m := none, ls := (y.step A).1.ls }, (y.step A).2) else ({ x with m := some (y.step A).1 }, (y.step A).2)
structure Dr.inv (x : Dr) (A : Ar) : Prop where
  wb : 1 ≤ x.g.w ∧ x.g.w ≤ 1000
  ll : (x.ls x.work).length < 1000
  no : x.added = false → x.m = none
  mi : ∀ y, x.m = some y → y.inv A

section
variable {L : Hands} {R : Value → Heap → Prop} {G : Heap} {l rest : Bl} {A A' : Ar} {I : List Nat} {g : Gd} {q mq b : Nat} {T : TypeId} {tail : List Value}

end
end Go.Proofs.Ytcjhakdopnamoaa

set_option linter.unusedVariables false
set_option linter.unusedSimpArgs false
set_option maxRecDepth 20000
namespace Go.Proofs.Ytcjhakdopnamoaa
open Go Go.Fw

structure FJ where
  b : Nat
  e : List LE
  lj : LkJ
  gar : Bl
/-! ### End -/
structure En where
  d : Dr
  how : Int
  val : Int
  at_ : Int
  told : Bool
def En.tail (x : En) : List Value := [.int .i64 x.how, .int .i64 x.val, .int .i64 x.at_, .bool x.told]
def En.step (x : En) (A : Ar) : En × Ar :=
  if x.told = true then ({ x with d := (x.d.step A).1 }, (x.d.step A).2)
  else if x.at_ = 1 then ({ x with at_ := 0 }, A.storeF x.d.h 1 x.val)
  else ({ x with told := true }, A.storeF x.d.h 0 x.how)
structure En.inv (x : En) (A : Ar) : Prop where
  d : x.d.inv A
  no : x.told = false → x.d.added = false
/-! ### Ask -/
structure As where
  d : Dr
  how : Int
  val : Int
  at_ : Int
  drops : Bool
  ended : Bool
def As.tail (x : As) : List Value := [.int .i64 x.how, .int .i64 x.val, .int .i64 x.at_, .bool x.drops, .bool x.ended]
def As.step (x : As) (A : Ar) : As × Ar :=
  if x.ended = true then (x, A)
  else if x.drops = true then ({ x with d := (x.d.step A).1, ended := (x.d.step A).1.fin }, (x.d.step A).2)
  else if x.at_ = 0 then ({ x with how := A.loadF x.d.h 0, at_ := 1, ended := (A.loadF x.d.h 0 : Int) == 0 }, A.touch x.d.h 0)
  else ({ x with val := A.loadF x.d.h 1, drops := true }, A.touch x.d.h 1)
end Go.Proofs.Ytcjhakdopnamoaa

set_option linter.unusedVariables false
set_option linter.unusedSimpArgs false
set_option maxRecDepth 20000
namespace Go.Proofs.Ytcjhakdopnamoaa
open Go Go.Fw

theorem ptrA_nn (a : Addr) : opS Try.prog (.binOp .neq ty_p_slab_Alloc (.tmp 0) (.const (.pointer none)) ty_p_slab_Alloc) ty_bool [(.pointer (some a))] = .pure (.value (.bool true)) := by kernel_rfl
theorem ptrA_nn0 : opS Try.prog (.binOp .neq ty_p_slab_Alloc (.tmp 0) (.const (.pointer none)) ty_p_slab_Alloc) ty_bool [(.pointer none)] = .pure (.value (.bool false)) := by kernel_rfl

/-! ### Make -/
structure Mk where
  g : Gd
  ls : Int → List (Int × Int)
  p : Pl
  work : Int
  w : Nat → Int
  alloc : Option Al
  force : Option Lk
  tries : Int
  at_ : Int
  h : Int
  ended : Bool
structure MkJ where
  b : Nat
  e : List LE
  lj : LkJ
  aj : Nat × Nat × Nat
  gar : Bl
def alX : Option Al → Nat × Nat × Nat → Option Addr
  | none, _ => none
  | some _, j => some ⟨j.1, 0, none⟩
def alBl : Option Al → Nat × Nat × Nat → Bl
  | none, _ => []
  | some a, j => a.bl j
def mkC (q : Nat) (p : Pl) (work : Int) (w : Nat → Int) (ap : Option Addr) (fv : Value) (tries at_ h : Int) (ended : Bool) : List Value :=
  [.int .i64 p.work, .int .i64 p.heads, .int .i64 p.links, .int .i64 p.gens, .int .i64 p.carved, .pointer (some ⟨q, 0, none⟩), .int .i64 work,
   .int .i64 (w 0), .int .i64 (w 1), .int .i64 (w 2), .int .i64 (w 3), .int .i64 (w 4), .int .i64 (w 5), .int .i64 (w 6), .pointer ap, fv, .int .i64 tries, .int .i64 at_, .int .i64 h, .bool ended]
def Mk.bl (q mq : Nat) (x : Mk) (j : MkJ) : Bl := (j.b, oc ty_frame_Make (mkC q x.p x.work x.w (alX x.alloc j.aj) (gmV x.force j.lj) x.tries x.at_ x.h x.ended)) :: (gmB x.g q mq x.force j.e j.lj ++ (alBl x.alloc j.aj ++ j.gar))

/-- The alloc has ended. -/
def Mk.got (x : Mk) (h : Int) : Mk :=
  if h ≠ 0 then { x with tries := w64 (x.tries + 1), alloc := none, h := h }
  else if 1 < w64 (x.tries + 1) then { x with tries := w64 (x.tries + 1), alloc := none, ended := true }
  else match forM x.g x.ls x.work with
    | none => { x with tries := w64 (x.tries + 1), alloc := some (newAl x.p x.work 0) }
    | some y => { x with tries := w64 (x.tries + 1), alloc := none, force := some y }
def Mk.step (x : Mk) (A : Ar) : Mk × Ar :=
  if x.ended = true then (x, A)
  else match x.force with
    | some y => if (y.step A).1.fin = true then ({ x with force := none, ls := (y.step A).1.ls, alloc := some (newAl x.p x.work 0) }, (y.step A).2) else ({ x with force := some (y.step A).1 }, (y.step A).2)
    | none => match x.alloc with
      | some a => if mAl.fin (a.step A).1 = true then (({ x with alloc := some (a.step A).1 } : Mk).got (a.step A).1.h, (a.step A).2) else ({ x with alloc := some (a.step A).1 }, (a.step A).2)
      | none => ({ x with at_ := w64 (x.at_ + 1), ended := (w64 (x.at_ + 1) : Int) == 7 }, A.storeF x.h x.at_ (x.w x.at_.toNat))
structure Mk.inv (x : Mk) (A : Ar) : Prop where
  wb : 1 ≤ x.g.w ∧ x.g.w ≤ 1000
  ll : (x.ls x.work).length ≤ 1000
  fi : ∀ y, x.force = some y → y.inv A ∧ x.alloc = none
  ai : ∀ a, x.alloc = some a → mAl.inv a A
  ab : x.ended = false → x.force = none → x.alloc = none → 0 ≤ x.at_ ∧ x.at_ < 7

def mMk (q mq : Nat) : MchR Mk MkJ where
  f := f_frame_Make_Step
  addr := MkJ.b
  bl := Mk.bl q mq
  rep := fun x j => gmR x.g q mq x.ls x.force j.e j.lj
  inv := Mk.inv
  step := Mk.step
  fin := fun x => x.ended
theorem mMk_inv (q mq : Nat) : (mMk q mq).inv' ty_p_frame_Make := fun q p => by
  show opS _ _ _ _ = .pure (.enter f_frame_Make_Step [.pointer (some ⟨q, 0, none⟩), .pointer p].toArray)
  kernel_rfl

section
variable {L : Hands} {R : Value → Heap → Prop} {G : Heap} {l rest : Bl} {A A' : Ar} {I : List Nat} {q mq : Nat}

theorem mkC_w (q : Nat) (p : Pl) (work : Int) (w : Nat → Int) (ap : Option Addr) (fv : Value) (tries at_ h : Int) (ended : Bool) : ∀ n, n < 7 → (mkC q p work w ap fv tries at_ h ended)[7 + n]? = some (.int .i64 (w n)) := by
  intro n hn
  match n, hn with
  | 0, _ => rfl
  | 1, _ => rfl
  | 2, _ => rfl
  | 3, _ => rfl
  | 4, _ => rfl
  | 5, _ => rfl
  | 6, _ => rfl

set_option maxHeartbeats 1000000 in
theorem allocated_spec (x : Mk) (a : Al) {b : Nat} {e : List LE} {lj : LkJ} {aj : Nat × Nat × Nat} {gar : Bl} (hx : x.alloc = some a) (hf : x.force = none) (hA : Aw I A) (ok : Ok I G (keys (Mk.bl q mq x ⟨b, e, lj, aj, gar⟩))) (gs : GdS e x.ls) (ll : (x.ls x.work).length ≤ 1000) :
    SpecF Try.prog f_frame_Make_allocated #[.pointer (some ⟨b, 0, none⟩)] (own A (Mk.bl q mq x ⟨b, e, lj, aj, gar⟩) G) fun v K => ∃ e' lj' aj' gar', v = .tuple #[] ∧ K = own A (Mk.bl q mq (x.got a.h) ⟨b, e', lj', aj', gar'⟩) G ∧ Ok I G (keys (Mk.bl q mq (x.got a.h) ⟨b, e', lj', aj', gar'⟩)) ∧
      gmR (x.got a.h).g q mq (x.got a.h).ls (x.got a.h).force e' lj' := by
  refine t_frame_Make_allocated_spec fun L => ?_
  unfold t_frame_Make_allocated
  obtain ⟨g, ls, p, work, w, alloc, force, tries, at_, h, ended⟩ := x
  have hx : alloc = some a := hx
  have hf : force = none := hf
  subst hx hf
  obtain ⟨aq, aq0, aq1⟩ := aj
  have ok : Ok I G (keys ((b, oc ty_frame_Make (mkC q p work w (some ⟨aq, 0, none⟩) .nilIface tries at_ h ended)) :: (g.bl q mq e ++ (a.bl (aq, aq0, aq1) ++ gar)))) := ok
  show wp Try.prog _ L (own A ((b, oc ty_frame_Make (mkC q p work w (some ⟨aq, 0, none⟩) .nilIface tries at_ h ended)) :: (g.bl q mq e ++ (a.bl (aq, aq0, aq1) ++ gar))) G) _
  refine wp_nil.2 (w_ld 0 (x := tries) hA ok rfl rfl rfl ?_)
  refine wp_nil.2 (w_st 0 hA ok rfl rfl rfl rfl ?_)
  refine wp_nil.2 (w_ld 0 (x := some ⟨aq, 0, none⟩) hA (by exact ok) rfl rfl rfl ?_)
  obtain ⟨cM, hcM⟩ : ∃ cM : Nat × Obj, cM = (b, oc ty_frame_Make (mkC q p work w (some ⟨aq, 0, none⟩) .nilIface (w64 (tries + 1)) at_ h ended)) := ⟨_, rfl⟩
  have ok1 : Ok I G (keys (cM :: (g.bl q mq e ++ (a.bl (aq, aq0, aq1) ++ gar)))) := by rw [hcM]; exact ok
  have es : own A ((b, oc ty_frame_Make (mkC q p work w (some ⟨aq, 0, none⟩) .nilIface (w64 (tries + 1)) at_ h ended)) :: (g.bl q mq e ++ (a.bl (aq, aq0, aq1) ++ gar))) G = own A (cM :: (g.bl q mq e ++ (a.bl (aq, aq0, aq1) ++ gar))) G := by rw [hcM]
  show wp Try.prog _ L (own A ((b, oc ty_frame_Make (mkC q p work w (some ⟨aq, 0, none⟩) .nilIface (w64 (tries + 1)) at_ h ended)) :: (g.bl q mq e ++ (a.bl (aq, aq0, aq1) ++ gar))) G) _
  rw [es]
  obtain ⟨p1, ok2⟩ := own_perm (A := A) (l' := a.bl (aq, aq0, aq1) ++ (cM :: (g.bl q mq e ++ gar))) ok1 (perm_by fun c d c0 cd ca => by simp only [cd, ca, c0]; omega)
  rw [p1]
  refine w_Handle 0 hA ok2 rfl ?_
  obtain ⟨p2, ok3⟩ := own_perm (A := A) (l' := cM :: (g.bl q mq e ++ (a.bl (aq, aq0, aq1) ++ gar))) ok2 (perm_by fun c d c0 cd ca => by simp only [cd, ca, c0]; omega)
  rw [p2, hcM]
  rw [hcM] at ok3
  refine wp_nil.2 (w_st 0 hA ok3 rfl rfl rfl rfl ?_)
  obtain ⟨gr, hgr⟩ : ∃ gr : Bl, gr = a.bl (aq, aq0, aq1) ++ gar := ⟨_, rfl⟩
  rw [← hgr] at ok3 ⊢
  have ok4 : Ok I G (keys ((b, oc ty_frame_Make (mkC q p work w none .nilIface (w64 (tries + 1)) at_ h ended)) :: (g.bl q mq e ++ gr))) := ok3
  show wp Try.prog _ L (own A ((b, oc ty_frame_Make (mkC q p work w none .nilIface (w64 (tries + 1)) at_ h ended)) :: (g.bl q mq e ++ gr)) G) _
  by_cases h0 : a.h = 0
  · refine wp_false (ibnf h0) ?_
    refine wp_nil.2 (w_ld 0 (x := w64 (tries + 1)) hA ok4 rfl rfl rfl ?_)
    by_cases h1 : 1 < w64 (tries + 1)
    · refine wp_true (decide_eq_true h1) ?_
      refine wp_nil.2 (w_st 0 hA ok4 rfl rfl rfl rfl ?_)
      have hz : Mk.got ⟨g, ls, p, work, w, some a, none, tries, at_, h, ended⟩ a.h = ⟨g, ls, p, work, w, none, none, w64 (tries + 1), at_, h, true⟩ := by
        unfold Mk.got; rw [if_neg (fun h => h h0), if_pos h1]
      rw [hz]
      exact wp_ret_of ⟨e, lj, (aq, aq0, aq1), gr, rfl, rfl, ok4, gs⟩
    · refine wp_false (decide_eq_false h1) ?_
      refine wp_nil.2 (w_ld 0 (x := some ⟨q, 0, none⟩) hA ok4 rfl rfl rfl ?_)
      refine wp_nil.2 (w_ld 0 (x := work) hA ok4 rfl rfl rfl ?_)
      obtain ⟨cN, hcN⟩ : ∃ cN : Nat × Obj, cN = (b, oc ty_frame_Make (mkC q p work w none .nilIface (w64 (tries + 1)) at_ h ended)) := ⟨_, rfl⟩
      rw [← hcN] at ok4 ⊢
      obtain ⟨p3, ok5⟩ := own_perm (A := A) (l' := g.bl q mq e ++ (cN :: gr)) ok4 (perm_by fun c d c0 cd ca => by simp only [cd, ca, c0]; omega)
      rw [p3]
      refine w_forGm hA ok5 gs ll fun e' lj' gar' ok6 rp' => ?_
      obtain ⟨p4, ok7⟩ := own_perm (A := A) (l' := cN :: (gmB g q mq (forM g ls work) e' lj' ++ (gar' ++ gr))) ok6 (perm_by fun c d c0 cd ca => by simp only [cd, ca, c0]; omega)
      rw [p4, hcN]
      rw [hcN] at ok7
      refine wp_nil.2 (w_stGm 0 hA ok7 rfl rfl rfl ?_)
      have ok8 : Ok I G (keys ((b, oc ty_frame_Make (mkC q p work w none (gmV (forM g ls work) lj') (w64 (tries + 1)) at_ h ended)) :: (gmB g q mq (forM g ls work) e' lj' ++ (gar' ++ gr)))) := ok7
      show wp Try.prog _ L (own A ((b, oc ty_frame_Make (mkC q p work w none (gmV (forM g ls work) lj') (w64 (tries + 1)) at_ h ended)) :: (gmB g q mq (forM g ls work) e' lj' ++ (gar' ++ gr))) G) _
      refine wp_nil.2 (w_ld 0 (x := gmV (forM g ls work) lj') hA ok8 rfl rfl rfl ?_)
      refine look_val (x := (forM g ls work).isNone) (gmV_nil _ _ _) ?_
      cases hm : forM g ls work with
      | none =>
        rw [hm] at ok8 rp'
        have hz : Mk.got ⟨g, ls, p, work, w, some a, none, tries, at_, h, ended⟩ a.h = ⟨g, ls, p, work, w, some (newAl p work 0), none, w64 (tries + 1), at_, h, ended⟩ := by
          unfold Mk.got; rw [if_neg (fun h => h h0), if_neg h1]; dsimp only; rw [hm]
        rw [hz]
        refine wp_true rfl ?_
        have ok8 : Ok I G (keys ((b, oc ty_frame_Make (mkC q p work w none .nilIface (w64 (tries + 1)) at_ h ended)) :: (g.bl q mq e' ++ (gar' ++ gr)))) := ok8
        show wp Try.prog _ L (own A ((b, oc ty_frame_Make (mkC q p work w none .nilIface (w64 (tries + 1)) at_ h ended)) :: (g.bl q mq e' ++ (gar' ++ gr))) G) _
        refine wp_nil.2 (w_ldA (x := (p.work, p.heads, p.links, p.gens, p.carved, ())) 0 hA ok8 rfl rfl rfl ?_)
        refine wp_nil.2 (w_ld 0 (x := work) hA ok8 rfl rfl rfl ?_)
        refine w_NewAlloc (p := p) (w := work) (c := 0) hA ok8 (by decide) fun j ok9 => ?_
        obtain ⟨cO, hcO⟩ : ∃ cO : Nat × Obj, cO = (b, oc ty_frame_Make (mkC q p work w none .nilIface (w64 (tries + 1)) at_ h ended)) := ⟨_, rfl⟩
        rw [← hcO] at ok9 ⊢
        obtain ⟨p5, ok10⟩ := own_perm (A := A) (l' := cO :: (g.bl q mq e' ++ ((newAl p work 0).bl j ++ (gar' ++ gr)))) ok9 (perm_by fun c d c0 cd ca => by simp only [cd, ca, c0]; omega)
        rw [p5, hcO]
        rw [hcO] at ok10
        refine wp_nil.2 (w_st 0 hA ok10 rfl rfl rfl rfl ?_)
        exact wp_ret_of ⟨e', lj', j, gar' ++ gr, rfl, rfl, ok10, rp'⟩
      | some y =>
        rw [hm] at ok8 rp'
        have hz : Mk.got ⟨g, ls, p, work, w, some a, none, tries, at_, h, ended⟩ a.h = ⟨g, ls, p, work, w, none, some y, w64 (tries + 1), at_, h, ended⟩ := by
          unfold Mk.got; rw [if_neg (fun h => h h0), if_neg h1]; dsimp only; rw [hm]
        rw [hz]
        exact wp_false rfl (wp_ret_of ⟨e', lj', (aq, aq0, aq1), gar' ++ gr, rfl, rfl, ok8, rp'⟩)
  · refine wp_true (ibne h0) ?_
    refine wp_nil.2 (w_st 0 hA ok4 rfl rfl rfl rfl ?_)
    have hz : Mk.got ⟨g, ls, p, work, w, some a, none, tries, at_, h, ended⟩ a.h = ⟨g, ls, p, work, w, none, none, w64 (tries + 1), at_, a.h, ended⟩ := by
      unfold Mk.got; rw [if_pos h0]
    rw [hz]
    exact wp_ret_of ⟨e, lj, (aq, aq0, aq1), gr, rfl, rfl, ok4, gs⟩
end
end Go.Proofs.Ytcjhakdopnamoaa

set_option linter.unusedVariables false
set_option maxRecDepth 10000
namespace Go.Proofs.Ytcjhakdopnamoaa
open Go Go.Fw
/- magpie/magpielaw18.run -/
@[reducible] def t_magpielaw18_run_L1_sh : List Sh1 := [(.leaf .bool), (.leaf (.int .i64))]
noncomputable def t_magpielaw18_run_L1 (p0 : Option Addr) (p1 : Value) (y1 : HL Sh1.T t_magpielaw18_run_L1_sh) : Tree :=
  bif (decide ((y1.2.1 : Int) < 4000)) then (
    .call f_arena_Arena_Uses [(.pointer p0)] (.one (.leaf (.int .i64))) fun x13 =>
    .act (opS Try.prog (.call { callee := .invoke (.tmp 0) "Step", args := #[(.tmp 1)], argTypes := #[ty_p_arena_Arena] }) ty_bool [p1, (.pointer p0)]) (.one (.leaf .bool)) fun x16 =>
    .call f_arena_Arena_Uses [(.pointer p0)] (.one (.leaf (.int .i64))) fun x18 =>
    bif (decide ((x18 : Int) > (w64 (x13 + 1)))) then (
      .ret (.bool false))
    else (
      bif x16 then (
        .ret (.bool true))
      else (
        .again 128 [(.bool y1.1), (.int .i64 (w64 (y1.2.1 + 1)))])))
  else (
    .ret (.bool false))
noncomputable def t_magpielaw18_run (p0 : Option Addr) (p1 : Value) : Tree :=
  .loop 128 t_magpielaw18_run_L1_sh [(.bool false), (.int .i64 0)] (t_magpielaw18_run_L1 p0 p1)
theorem t_magpielaw18_run_eq (p0 : Option Addr) (p1 : Value) : funcTree Try.prog { quiet := [16, 34, 36, 40, 41, 66, 67, 75, 76, 77, 97, 98, 103, 108, 110, 139, 146, 149, 161], quietTmp := true, fncs := [], ifcs := [] } Try.f45 [(.pointer p0), p1] = t_magpielaw18_run p0 p1 := by kernel_rfl
theorem t_magpielaw18_run_spec {p0 : Option Addr} {p1 : Value} {H : Heap} {R : Value → Heap → Prop} (h : ∀ L, wp Try.prog (t_magpielaw18_run p0 p1) L H R) : SpecF Try.prog f_magpielaw18_run #[(.pointer p0), p1] H R :=
  spec_of_tree (cfg := { quiet := [16, 34, 36, 40, 41, 66, 67, 75, 76, 77, 97, 98, 103, 108, 110, 139, 146, 149, 161], quietTmp := true, fncs := [], ifcs := [] }) Try.func45 fun L => (t_magpielaw18_run_eq p0 p1).symm ▸ h L

/- magpie/magpielaw18.make1 -/
noncomputable def t_magpielaw18_make1 (p0 : Int) (p1 : Int) (p2 : Bool) : Tree :=
  .newP (.cells #[(.int .i64 0), (.int .i64 0), (.int .i64 0), (.int .i64 0), (.int .i64 0)] ty_free_Place) fun x7 =>
  .call f_free_Raw [(.int .i64 p0), (.int .i64 (w64 (8 * p1)))] (.tup [(.agg [(.int .i64), (.int .i64), (.int .i64), (.int .i64), (.int .i64)]), (.leaf (.int .i64))]) fun x16 =>
  .newP (.cells #[(.int .i64 0), (.int .i64 0), (.int .i64 0), (.int .i64 0), (.int .i64 0)] ty_free_Place) fun x9 =>
  .stA x9 [(.int .i64 x16.1.1), (.int .i64 x16.1.2.1), (.int .i64 x16.1.2.2.1), (.int .i64 x16.1.2.2.2.1), (.int .i64 x16.1.2.2.2.2.1)] <|
  .call f_guard_Raw [(.int .i64 p0), (.int .i64 x16.2.1), (.bool p2)] (.one (.leaf (.int .i64))) fun x22 =>
  .ldA x9 [(.int .i64), (.int .i64), (.int .i64), (.int .i64), (.int .i64)] fun x29 =>
  .ldA x9 [(.int .i64), (.int .i64), (.int .i64), (.int .i64), (.int .i64)] fun x33 =>
  .call f_arena_New [(.int .i64 (w64 (x16.2.1 + x22))), (.int .i64 (w64 (8 * p1))), (.bool false)] (.one (.leaf .ptr)) fun x28 =>
  .check (ldAS x9 5 0 #[]) (.agg #[(.int .i64 x33.1), (.int .i64 x33.2.1), (.int .i64 x33.2.2.1), (.int .i64 x33.2.2.2.1), (.int .i64 x33.2.2.2.2.1)]) <|
  .check (ldAS x9 5 0 #[]) (.agg #[(.int .i64 x29.1), (.int .i64 x29.2.1), (.int .i64 x29.2.2.1), (.int .i64 x29.2.2.2.1), (.int .i64 x29.2.2.2.2.1)]) <|
  .call f_guard_New [(.int .i64 p0), (.int .i64 x16.2.1), (.bool p2), (.int .i64 1), (.agg #[(.int .i64 x33.1), (.int .i64 x33.2.1), (.int .i64 x33.2.2.1), (.int .i64 x33.2.2.2.1), (.int .i64 x33.2.2.2.2.1)])] (.one (.leaf .ptr)) fun x34 =>
  .check (ldAS x9 5 0 #[]) (.agg #[(.int .i64 x29.1), (.int .i64 x29.2.1), (.int .i64 x29.2.2.1), (.int .i64 x29.2.2.2.1), (.int .i64 x29.2.2.2.2.1)]) <|
  .stA x7 [(.int .i64 x29.1), (.int .i64 x29.2.1), (.int .i64 x29.2.2.1), (.int .i64 x29.2.2.2.1), (.int .i64 x29.2.2.2.2.1)] <|
  .look (ldK x7 5 0 #[] fun r1 => .pure (.value (.tuple #[(.pointer x28), (.agg r1), (.pointer x34)]))) (.tup [(.leaf .ptr), (.agg [(.int .i64), (.int .i64), (.int .i64), (.int .i64), (.int .i64)]), (.leaf .ptr)]) fun r => .ret (Sh.toVal (.tup [(.leaf .ptr), (.agg [(.int .i64), (.int .i64), (.int .i64), (.int .i64), (.int .i64)]), (.leaf .ptr)]) r)
theorem t_magpielaw18_make1_eq (p0 : Int) (p1 : Int) (p2 : Bool) : funcTree Try.prog { quiet := [16, 34, 36, 40, 41, 66, 67, 75, 76, 77, 97, 98, 103, 108, 110, 139, 146, 149, 161], quietTmp := true, fncs := [], ifcs := [] } Try.f43 [(.int .i64 p0), (.int .i64 p1), (.bool p2)] = t_magpielaw18_make1 p0 p1 p2 := by kernel_rfl
theorem t_magpielaw18_make1_spec {p0 : Int} {p1 : Int} {p2 : Bool} {H : Heap} {R : Value → Heap → Prop} (h : ∀ L, wp Try.prog (t_magpielaw18_make1 p0 p1 p2) L H R) : SpecF Try.prog f_magpielaw18_make1 #[(.int .i64 p0), (.int .i64 p1), (.bool p2)] H R :=
  spec_of_tree (cfg := { quiet := [16, 34, 36, 40, 41, 66, 67, 75, 76, 77, 97, 98, 103, 108, 110, 139, 146, 149, 161], quietTmp := true, fncs := [], ifcs := [] }) Try.func43 fun L => (t_magpielaw18_make1_eq p0 p1 p2).symm ▸ h L

/- magpie/magpielaw18.awake -/
noncomputable def t_magpielaw18_awake : Tree :=
  .call f_magpielaw18_make1 [(.int .i64 1), (.int .i64 2), (.bool false)] (.tup [(.leaf .ptr), (.agg [(.int .i64), (.int .i64), (.int .i64), (.int .i64), (.int .i64)]), (.leaf .ptr)]) fun x10 =>
  .newP (.cells #[(.int .i64 0), (.int .i64 0), (.int .i64 0), (.int .i64 0), (.int .i64 0)] ty_free_Place) fun x2 =>
  .stA x2 [(.int .i64 x10.2.1.1), (.int .i64 x10.2.1.2.1), (.int .i64 x10.2.1.2.2.1), (.int .i64 x10.2.1.2.2.2.1), (.int .i64 x10.2.1.2.2.2.2.1)] <|
  .ldA x2 [(.int .i64), (.int .i64), (.int .i64), (.int .i64), (.int .i64)] fun x14 =>
  .call f_frame_NewMake [(.agg #[(.int .i64 x14.1), (.int .i64 x14.2.1), (.int .i64 x14.2.2.1), (.int .i64 x14.2.2.2.1), (.int .i64 x14.2.2.2.2.1)]), (.pointer x10.2.2.1), (.int .i64 0), (.agg #[(.int .i64 3), (.int .i64 (-7)), (.int .i64 1125899906842624), (.bool true)])] (.one (.leaf .ptr)) fun x17 =>
  .look (opS Try.prog (.binOp .eql ty_p_arena_Arena (.tmp 0) (.const (.pointer none)) ty_p_arena_Arena) ty_bool [(.pointer x10.1)]) (.one (.leaf .bool)) fun x19 =>
  bif x19 then (
    .ret (.bool false))
  else (
    .look (opS Try.prog (.binOp .eql ty_p_guard_Guard (.tmp 0) (.const (.pointer none)) ty_p_guard_Guard) ty_bool [(.pointer x10.2.2.1)]) (.one (.leaf .bool)) fun x22 =>
    bif x22 then (
      .ret (.bool false))
    else (
      .look (opS Try.prog (.binOp .eql ty_p_frame_Make (.tmp 0) (.const (.pointer none)) ty_p_frame_Make) ty_bool [(.pointer x17)]) (.one (.leaf .bool)) fun x26 =>
      bif x26 then (
        .ret (.bool false))
      else (
        .call f_magpielaw18_run [(.pointer x10.1), (.iface ty_p_frame_Make (.pointer x17))] (.one (.leaf .bool)) fun x32 =>
        bif (!x32) then (
          .ret (.bool false))
        else (
          .call f_frame_Make_Handle [(.pointer x17)] (.tup [(.leaf (.int .i64)), (.leaf .bool)]) fun x37 =>
          .call f_frame_NewRead [(.int .i64 x37.1)] (.one (.leaf .ptr)) fun x41 =>
          bif (!x37.2.1) then (
            .ret (.bool false))
          else (
            .look (opS Try.prog (.binOp .eql ty_p_frame_Read (.tmp 0) (.const (.pointer none)) ty_p_frame_Read) ty_bool [(.pointer x41)]) (.one (.leaf .bool)) fun x46 =>
            bif x46 then (
              .ret (.bool false))
            else (
              .call f_magpielaw18_run [(.pointer x10.1), (.iface ty_p_frame_Read (.pointer x41))] (.one (.leaf .bool)) fun x52 =>
              bif (!x52) then (
                .ret (.bool false))
              else (
                .call f_frame_Read_Task [(.pointer x41)] (.one (.agg [(.int .i64), (.int .i64), (.int .i64), .bool])) fun x56 =>
                .newP (.cells #[(.int .i64 0), (.int .i64 0), (.int .i64 0), (.bool false)] ty_frame_Task) fun x8 =>
                .stA x8 [(.int .i64 x56.1), (.int .i64 x56.2.1), (.int .i64 x56.2.2.1), (.bool x56.2.2.2.1)] <|
                .ld x8 (.int .i64) fun x58 =>
                bif ((x58 : Int) == 3) then (
                  .ld (x8.add 1) (.int .i64) fun x62 =>
                  bif ((x62 : Int) == (-7)) then (
                    .ld (x8.add 2) (.int .i64) fun x67 =>
                    bif ((x67 : Int) == 1125899906842624) then (
                      .ld (x8.add 3) .bool fun x72 =>
                      bif x72 then (
                        .call f_arena_Arena_Load [(.pointer x10.1), (.int .i64 x37.1), (.int .i64 2)] (.one (.leaf (.int .i64))) fun x77 =>
                        bif ((x77 : Int) == 2) then (
                          .call f_arena_Arena_Fault [(.pointer x10.1)] (.one (.leaf .bool)) fun x82 =>
                          .ret (.bool (!x82)))
                        else (
                          .ret (.bool false)))
                      else (
                        .ret (.bool false)))
                    else (
                      .ret (.bool false)))
                  else (
                    .ret (.bool false)))
                else (
                  .ret (.bool false)))))))))
theorem t_magpielaw18_awake_eq : funcTree Try.prog { quiet := [16, 34, 36, 40, 41, 66, 67, 75, 76, 77, 97, 98, 103, 108, 110, 139, 146, 149, 161], quietTmp := true, fncs := [], ifcs := [] } Try.f49 [] = t_magpielaw18_awake  := by kernel_rfl
theorem t_magpielaw18_awake_spec {H : Heap} {R : Value → Heap → Prop} (h : ∀ L, wp Try.prog (t_magpielaw18_awake ) L H R) : SpecF Try.prog f_magpielaw18_awake #[] H R :=
  spec_of_tree (cfg := { quiet := [16, 34, 36, 40, 41, 66, 67, 75, 76, 77, 97, 98, 103, 108, 110, 139, 146, 149, 161], quietTmp := true, fncs := [], ifcs := [] }) Try.func49 fun L => (t_magpielaw18_awake_eq ).symm ▸ h L

end Go.Proofs.Ytcjhakdopnamoaa

set_option linter.unusedVariables false
set_option maxRecDepth 20000
namespace Go.Proofs.Ytcjhakdopnamoaa
open Go Go.Fw

theorem runR18_go {M J : Type} {X : MchR M J} (hX : X.ok) {t : TypeId} (hinv : X.inv' t) {I : List Nat} {G : Heap} {n : Nat} {m m' : M} {A A' : Ar} (h : X.Runs n m A m' A') {L : Hands} :
    ∀ {i : Int} {b : Bool} {j : J} {R : Value → Heap → Prop}, (∀ j', Ok I G (keys (X.bl m' j')) → X.rep m' j' → Aw I A' → X.addr j' = X.addr j → R (.bool true) (own A' (X.bl m' j') G)) → Aw I A → Ok I G (keys (X.bl m j)) → X.rep m j → 0 ≤ i → i + n ≤ 4000 →
      wp Try.prog (.loop 128 t_magpielaw18_run_L1_sh [(.bool b), (.int .i64 i)] (t_magpielaw18_run_L1 (aI I) (.iface t (.pointer (some ⟨X.addr j, 0, none⟩))))) L (own A (X.bl m j) G) R := by
  induction h with
  | @one m A m1 A1 hi hst hu hf =>
    intro i b j R hR hA ok rp h0 h1
    refine wp_loop_unroll (b, i, ()) rfl ?_
    rw [t_magpielaw18_run_L1]
    refine wp_true (ilt (by show i < 4000; omega)) ?_
    refine w_Uses hA ?_
    refine act_enter (hinv _ _) ?_
    refine wp_call_of (hX I A G m j hA ok rp hi) ?_
    rintro v K ⟨j', rfl, rfl, ha, ok', rp', hA'⟩
    rw [hst] at ok' rp' hA' ⊢
    refine ⟨true, by rw [hf], ?_⟩
    refine w_Uses hA' ?_
    refine wp_false (inlt hu) ?_
    exact wp_true rfl (wp_ret_of (hR j' ok' rp' hA' ha))
  | @more n m A m1 A1 m' A' hi hst hu hf hr ih =>
    intro i b j R hR hA ok rp h0 h1
    refine wp_loop_unroll (b, i, ()) rfl ?_
    rw [t_magpielaw18_run_L1]
    refine wp_true (ilt (by show i < 4000; omega)) ?_
    refine w_Uses hA ?_
    refine act_enter (hinv _ _) ?_
    refine wp_call_of (hX I A G m j hA ok rp hi) ?_
    rintro v K ⟨j', rfl, rfl, ha, ok', rp', hA'⟩
    rw [hst] at ok' rp' hA' ⊢
    refine ⟨false, by rw [hf], ?_⟩
    refine w_Uses hA' ?_
    refine wp_false (inlt hu) (wp_false rfl (wp_again ?_))
    have e : w64 (i + 1) = i + 1 := w64_in (by omega) (by omega)
    rw [e, ← ha]
    exact ih (fun j2 k1 k2 k3 k4 => hR j2 k1 k2 k3 (k4.trans ha)) hA' ok' rp' (by omega) (by omega)

theorem w_runR18 {M J : Type} {X : MchR M J} (hX : X.ok) {t : TypeId} (hinv : X.inv' t) {I : List Nat} {G : Heap} {n : Nat} {m m' : M} {A A' : Ar} (h : X.Runs n m A m' A') (hn : n ≤ 4000) {j : J} {rest : Bl} (hA : Aw I A) (ok : Ok I G (keys (X.bl m j ++ rest))) (rp : X.rep m j)
    {L : Hands} {R : Value → Heap → Prop} {k : Bool → Tree} (hk : ∀ j', X.addr j' = X.addr j → Aw I A' → Ok I G (keys (X.bl m' j' ++ rest)) → X.rep m' j' → wp Try.prog (k true) L (own A' (X.bl m' j' ++ rest) G) R) :
    wp Try.prog (.call f_magpielaw18_run [.pointer (aI I), .iface t (.pointer (some ⟨X.addr j, 0, none⟩))] (.one (.leaf .bool)) k) L (own A (X.bl m j ++ rest) G) R := by
  rw [keys_append] at ok
  obtain ⟨o1, o2⟩ := ok.split
  refine w_sub (R0 := fun v K => ∃ j', v = .bool true ∧ K = own A' (X.bl m' j') (putL rest G) ∧ Ok I (putL rest G) (keys (X.bl m' j')) ∧ X.rep m' j' ∧ Aw I A' ∧ X.addr j' = X.addr j) ?_ ?_
  · refine t_magpielaw18_run_spec fun L => ?_
    unfold t_magpielaw18_run
    exact runR18_go hX hinv h (fun j' a b c d => ⟨j', rfl, rfl, a, b, c, d⟩) hA o1 rp (Int.le_refl 0) (by omega)
  · rintro v K ⟨j', rfl, rfl, ok', rp', hA', ha⟩
    refine ⟨true, rfl, ?_⟩
    rw [← own_append]
    exact hk j' ha hA' (by rw [keys_append]; exact ok'.join o2) rp'
end Go.Proofs.Ytcjhakdopnamoaa

