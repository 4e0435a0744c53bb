import Derived.Test.YtgnifhkjpekkdaaSaNames
set_option linter.unusedVariables false
set_option maxRecDepth 10000
namespace Go.Proofs.Ytgnifhkjpekkdaa
open Go Go.Fw
/- magpie/magpielaw00.Place -/
noncomputable def t_magpielaw00_Place (p0 : Int) (p1 : Int) : Tree :=
  .look (opS Try.prog (.binOp .rem ty_int (.tmp 0) (.tmp 1) ty_int) ty_int [(.int .i64 p0), (.int .i64 p1)]) (.one (.leaf (.int .i64))) fun x8 =>
  bif (decide ((x8 : Int) < 0)) then (
    .ret (.int .i64 (w64 (x8 + p1))))
  else (
    .ret (.int .i64 x8))
theorem t_magpielaw00_Place_eq (p0 : Int) (p1 : Int) : funcTree Try.prog { quiet := [17, 18, 19, 21, 22, 48, 49, 51, 77], quietTmp := true, fncs := [], ifcs := [] } Try.f17 [(.int .i64 p0), (.int .i64 p1)] = t_magpielaw00_Place p0 p1 := by kernel_rfl
theorem t_magpielaw00_Place_spec {p0 : Int} {p1 : Int} {H : Heap} {R : Value → Heap → Prop} (h : ∀ L, wp Try.prog (t_magpielaw00_Place p0 p1) L H R) : SpecF Try.prog f_magpielaw00_Place #[(.int .i64 p0), (.int .i64 p1)] H R :=
  spec_of_tree (cfg := { quiet := [17, 18, 19, 21, 22, 48, 49, 51, 77], quietTmp := true, fncs := [], ifcs := [] }) Try.func17 fun L => (t_magpielaw00_Place_eq p0 p1).symm ▸ h L

/- magpie/handle.Pack -/
@[reducible] def t_handle_Pack_L1_sh : List Sh1 := [(.leaf (.int .i64)), (.leaf (.int .i64))]
noncomputable def t_handle_Pack_L1 (p0 : Int) (p1 : Int) (p2 : Int) (x8 : Addr) (y1 : HL Sh1.T t_handle_Pack_L1_sh) : Tree :=
  bif (decide ((y1.2.1 : Int) < 3)) then (
    .look (opS Try.prog (.index ty_a3_int (.tmp 0) (.tmp 1)) ty_int [(.agg #[(.int .i64 p2), (.int .i64 p1), (.int .i64 p0)]), (.int .i64 y1.2.1)]) (.one (.leaf (.int .i64))) fun x41 =>
    .look (opS Try.prog (.indexAddr ty_a3_int (.tmp 0) (.tmp 1)) ty_unit [(.pointer (some x8)), (.int .i64 y1.2.1)]) (.one (.leaf .addr)) fun x45 =>
    .ld x45 (.int .i64) fun x46 =>
    .look (opS Try.prog (.binOp .shl ty_int (.tmp 0) (.tmp 1) ty_int) ty_int [(.int .i64 x41), (.int .i64 x46)]) (.one (.leaf (.int .i64))) fun x47 =>
    .again 384 [(.int .i64 (ior y1.1 x47)), (.int .i64 (w64 (y1.2.1 + 1)))])
  else (
    .ret (.int .i64 y1.1))
noncomputable def t_handle_Pack (p0 : Int) (p1 : Int) (p2 : Int) : Tree :=
  bif (decide ((p0 : Int) < 0)) then (
    .ret (.int .i64 0))
  else (
    bif (decide ((p0 : Int) ≥ 65536)) then (
      .ret (.int .i64 0))
    else (
      bif (decide ((p1 : Int) < 1)) then (
        .ret (.int .i64 0))
      else (
        bif (decide ((p1 : Int) > 1073741823)) then (
          .ret (.int .i64 0))
        else (
          bif (decide ((p2 : Int) < 0)) then (
            .ret (.int .i64 0))
          else (
            bif (decide ((p2 : Int) ≥ 4)) then (
              .ret (.int .i64 0))
            else (
              .qcall f_handle_places [] (.one (.agg [(.int .i64), (.int .i64), (.int .i64)])) fun x33 =>
              .newP (.cells #[(.int .i64 0), (.int .i64 0), (.int .i64 0)] ty_a3_int) fun x8 =>
              .stA x8 [(.int .i64 x33.1), (.int .i64 x33.2.1), (.int .i64 x33.2.2.1)] <|
              .loop 384 t_handle_Pack_L1_sh [(.int .i64 1125899906842624), (.int .i64 0)] (t_handle_Pack_L1 p0 p1 p2 x8)))))))
theorem t_handle_Pack_eq (p0 : Int) (p1 : Int) (p2 : Int) : funcTree Try.prog { quiet := [17, 18, 19, 21, 22, 48, 49, 51, 77], quietTmp := true, fncs := [], ifcs := [] } Try.f18 [(.int .i64 p0), (.int .i64 p1), (.int .i64 p2)] = t_handle_Pack p0 p1 p2 := by kernel_rfl
theorem t_handle_Pack_spec {p0 : Int} {p1 : Int} {p2 : Int} {H : Heap} {R : Value → Heap → Prop} (h : ∀ L, wp Try.prog (t_handle_Pack p0 p1 p2) L H R) : SpecF Try.prog f_handle_Pack #[(.int .i64 p0), (.int .i64 p1), (.int .i64 p2)] H R :=
  spec_of_tree (cfg := { quiet := [17, 18, 19, 21, 22, 48, 49, 51, 77], quietTmp := true, fncs := [], ifcs := [] }) Try.func18 fun L => (t_handle_Pack_eq p0 p1 p2).symm ▸ h L

/- magpie/handle.Open -/
@[reducible] def t_handle_Open_L1_sh : List Sh1 := [(.leaf (.int .i64))]
noncomputable def t_handle_Open_L1 (p0 : Int) (x6 : Addr) (x7 : Addr) (x8 : Addr) (y1 : HL Sh1.T t_handle_Open_L1_sh) : Tree :=
  bif (decide ((y1.1 : Int) < 3)) then (
    .look (opS Try.prog (.indexAddr ty_a3_int (.tmp 0) (.tmp 1)) ty_unit [(.pointer (some x6)), (.int .i64 y1.1)]) (.one (.leaf .addr)) fun x18 =>
    .ld x18 (.int .i64) fun x19 =>
    .look (opS Try.prog (.binOp .shr ty_int (.tmp 0) (.tmp 1) ty_int) ty_int [(.int .i64 p0), (.int .i64 x19)]) (.one (.leaf (.int .i64))) fun x20 =>
    .look (opS Try.prog (.indexAddr ty_a3_int (.tmp 0) (.tmp 1)) ty_unit [(.pointer (some x7)), (.int .i64 y1.1)]) (.one (.leaf .addr)) fun x22 =>
    .ld x22 (.int .i64) fun x23 =>
    .look (opS Try.prog (.indexAddr ty_a3_int (.tmp 0) (.tmp 1)) ty_unit [(.pointer (some x8)), (.int .i64 y1.1)]) (.one (.leaf .addr)) fun x25 =>
    .st x25 (.int .i64 (iand x20 x23)) <|
    .again 256 [(.int .i64 (w64 (y1.1 + 1)))])
  else (
    .ld (x8.add 2) (.int .i64) fun x28 =>
    .ld (x8.add 1) (.int .i64) fun x30 =>
    .ld x8 (.int .i64) fun x32 =>
    bif ((p0 : Int) == 0) then (
      .ret (.tuple #[(.int .i64 0), (.int .i64 0), (.int .i64 0), (.bool false)]))
    else (
      .qcall f_handle_Pack [(.int .i64 x28), (.int .i64 x30), (.int .i64 x32)] (.one (.leaf (.int .i64))) fun x39 =>
      bif ((x39 : Int) != p0) then (
        .ret (.tuple #[(.int .i64 0), (.int .i64 0), (.int .i64 0), (.bool false)]))
      else (
        .ret (.tuple #[(.int .i64 x28), (.int .i64 x30), (.int .i64 x32), (.bool true)]))))
noncomputable def t_handle_Open (p0 : Int) : Tree :=
  .qcall f_handle_places [] (.one (.agg [(.int .i64), (.int .i64), (.int .i64)])) fun x10 =>
  .qcall f_handle_masks [] (.one (.agg [(.int .i64), (.int .i64), (.int .i64)])) fun x11 =>
  .newP (.cells #[(.int .i64 0), (.int .i64 0), (.int .i64 0)] ty_a3_int) fun x6 =>
  .newP (.cells #[(.int .i64 0), (.int .i64 0), (.int .i64 0)] ty_a3_int) fun x7 =>
  .stA x6 [(.int .i64 x10.1), (.int .i64 x10.2.1), (.int .i64 x10.2.2.1)] <|
  .stA x7 [(.int .i64 x11.1), (.int .i64 x11.2.1), (.int .i64 x11.2.2.1)] <|
  .newP (.cells #[(.int .i64 0), (.int .i64 0), (.int .i64 0)] ty_a3_int) fun x8 =>
  .loop 256 t_handle_Open_L1_sh [(.int .i64 0)] (t_handle_Open_L1 p0 x6 x7 x8)
theorem t_handle_Open_eq (p0 : Int) : funcTree Try.prog { quiet := [17, 18, 19, 21, 22, 48, 49, 51, 77], quietTmp := true, fncs := [], ifcs := [] } Try.f19 [(.int .i64 p0)] = t_handle_Open p0 := by kernel_rfl
theorem t_handle_Open_spec {p0 : Int} {H : Heap} {R : Value → Heap → Prop} (h : ∀ L, wp Try.prog (t_handle_Open p0) L H R) : SpecF Try.prog f_handle_Open #[(.int .i64 p0)] H R :=
  spec_of_tree (cfg := { quiet := [17, 18, 19, 21, 22, 48, 49, 51, 77], quietTmp := true, fncs := [], ifcs := [] }) Try.func19 fun L => (t_handle_Open_eq p0).symm ▸ h L

/- magpie/handle.places -/
noncomputable def t_handle_places : Tree :=
  .newP (.cells #[(.int .i64 0), (.int .i64 0), (.int .i64 0)] ty_a3_int) fun x0 =>
  .stA x0 [(.int .i64 0), (.int .i64 2), (.int .i64 32)] <|
  .look (ldK x0 3 0 #[] fun r0 => .pure (.value (.agg r0))) (.one (.agg [(.int .i64), (.int .i64), (.int .i64)])) fun r => .ret (Sh.toVal (.one (.agg [(.int .i64), (.int .i64), (.int .i64)])) r)
theorem t_handle_places_eq : funcTree Try.prog { quiet := [17, 18, 19, 21, 22, 48, 49, 51, 77], quietTmp := true, fncs := [], ifcs := [] } Try.f48 [] = t_handle_places  := by kernel_rfl
theorem t_handle_places_spec {H : Heap} {R : Value → Heap → Prop} (h : ∀ L, wp Try.prog (t_handle_places ) L H R) : SpecF Try.prog f_handle_places #[] H R :=
  spec_of_tree (cfg := { quiet := [17, 18, 19, 21, 22, 48, 49, 51, 77], quietTmp := true, fncs := [], ifcs := [] }) Try.func48 fun L => (t_handle_places_eq ).symm ▸ h L

/- magpie/handle.masks -/
noncomputable def t_handle_masks : Tree :=
  .newP (.cells #[(.int .i64 0), (.int .i64 0), (.int .i64 0)] ty_a3_int) fun x0 =>
  .stA x0 [(.int .i64 3), (.int .i64 1073741823), (.int .i64 262143)] <|
  .look (ldK x0 3 0 #[] fun r0 => .pure (.value (.agg r0))) (.one (.agg [(.int .i64), (.int .i64), (.int .i64)])) fun r => .ret (Sh.toVal (.one (.agg [(.int .i64), (.int .i64), (.int .i64)])) r)
theorem t_handle_masks_eq : funcTree Try.prog { quiet := [17, 18, 19, 21, 22, 48, 49, 51, 77], quietTmp := true, fncs := [], ifcs := [] } Try.f49 [] = t_handle_masks  := by kernel_rfl
theorem t_handle_masks_spec {H : Heap} {R : Value → Heap → Prop} (h : ∀ L, wp Try.prog (t_handle_masks ) L H R) : SpecF Try.prog f_handle_masks #[] H R :=
  spec_of_tree (cfg := { quiet := [17, 18, 19, 21, 22, 48, 49, 51, 77], quietTmp := true, fncs := [], ifcs := [] }) Try.func49 fun L => (t_handle_masks_eq ).symm ▸ h L

/- magpie/handle.Size -/
noncomputable def t_handle_Size (p0 : Int) : Tree :=
  bif (decide ((p0 : Int) < 0)) then (
    .ret (.int .i64 0))
  else (
    bif (decide ((p0 : Int) ≥ 4)) then (
      .ret (.int .i64 0))
    else (
      .look (opS Try.prog (.binOp .shl ty_int (.const (.int .i64 8)) (.tmp 0) ty_int) ty_int [(.int .i64 p0)]) (.one (.leaf (.int .i64))) fun x10 =>
      .ret (.int .i64 x10)))
theorem t_handle_Size_eq (p0 : Int) : funcTree Try.prog { quiet := [17, 18, 19, 21, 22, 48, 49, 51, 77], quietTmp := true, fncs := [], ifcs := [] } Try.f21 [(.int .i64 p0)] = t_handle_Size p0 := by kernel_rfl
theorem t_handle_Size_spec {p0 : Int} {H : Heap} {R : Value → Heap → Prop} (h : ∀ L, wp Try.prog (t_handle_Size p0) L H R) : SpecF Try.prog f_handle_Size #[(.int .i64 p0)] H R :=
  spec_of_tree (cfg := { quiet := [17, 18, 19, 21, 22, 48, 49, 51, 77], quietTmp := true, fncs := [], ifcs := [] }) Try.func21 fun L => (t_handle_Size_eq p0).symm ▸ h L

end Go.Proofs.Ytgnifhkjpekkdaa
