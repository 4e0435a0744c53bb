import Derived.Test.YtgnifhkjpekkdaaSaNames
set_option linter.unusedVariables false
set_option maxRecDepth 10000
namespace Go.Proofs.Ytgnifhkjpekkdaa
open Go Go.Fw
/- magpie/magpielaw15.awake -/
noncomputable def t_magpielaw15_awake : Tree :=
  .qcall f_handle_Pack [(.int .i64 8), (.int .i64 1), (.int .i64 0)] (.one (.leaf (.int .i64))) fun x2 =>
  .qcall f_ring_Room [(.int .i64 x2)] (.one (.leaf (.int .i64))) fun x4 =>
  bif ((x4 : Int) == 8) then (
    .call f_ring_Word [(.int .i64 x2), (.int .i64 9)] (.one (.leaf (.int .i64))) fun x8 =>
    bif ((x8 : Int) == 1) then (
      .call f_ring_Word [(.int .i64 0), (.int .i64 9)] (.one (.leaf (.int .i64))) fun x12 =>
      .ret (.bool ((x12 : Int) == 0)))
    else (
      .ret (.bool false)))
  else (
    .ret (.bool false))
theorem t_magpielaw15_awake_eq : funcTree Try.prog { quiet := [17, 18, 19, 21, 22, 48, 49, 51, 77], quietTmp := true, fncs := [], ifcs := [] } Try.f24 [] = t_magpielaw15_awake  := by kernel_rfl
theorem t_magpielaw15_awake_spec {H : Heap} {R : Value → Heap → Prop} (h : ∀ L, wp Try.prog (t_magpielaw15_awake ) L H R) : SpecF Try.prog f_magpielaw15_awake #[] H R :=
  spec_of_tree (cfg := { quiet := [17, 18, 19, 21, 22, 48, 49, 51, 77], quietTmp := true, fncs := [], ifcs := [] }) Try.func24 fun L => (t_magpielaw15_awake_eq ).symm ▸ h L

/- magpie/magpielaw15.RingWords -/
noncomputable def t_magpielaw15_RingWords (p0 : Int) (p1 : Int) : Tree :=
  .qcall f_ring_Room [(.int .i64 p0)] (.one (.leaf (.int .i64))) fun x12 =>
  .qcall f_handle_Open [(.int .i64 p0)] (.tup [(.leaf (.int .i64)), (.leaf (.int .i64)), (.leaf (.int .i64)), (.leaf .bool)]) fun x15 =>
  bif (!x15.2.2.2.1) then (
    bif ((x12 : Int) == 0) then (
      .call f_ring_Word [(.int .i64 p0), (.int .i64 p1)] (.one (.leaf (.int .i64))) fun x27 =>
      bif ((x27 : Int) == 0) then (
        .call f_magpielaw15_awake [] (.one (.leaf .bool)) fun x31 =>
        .ret (.bool x31))
      else (
        .ret (.bool false)))
    else (
      .ret (.bool false)))
  else (
    .qcall f_magpielaw00_Place [(.int .i64 p1), (.int .i64 1099511627776)] (.one (.leaf (.int .i64))) fun x34 =>
    .qcall f_handle_Size [(.int .i64 x15.2.2.1)] (.one (.leaf (.int .i64))) fun x37 =>
    bif ((x12 : Int) == x37) then (
      bif (decide ((x12 : Int) > 0)) then (
        .look (opS Try.prog (.binOp .rem ty_int (.tmp 0) (.tmp 1) ty_int) ty_int [(.int .i64 x34), (.int .i64 x12)]) (.one (.leaf (.int .i64))) fun x49 =>
        .call f_ring_Word [(.int .i64 p0), (.int .i64 x34)] (.one (.leaf (.int .i64))) fun x46 =>
        .check (opS Try.prog (.binOp .rem ty_int (.tmp 0) (.tmp 1) ty_int) ty_int [(.int .i64 x34), (.int .i64 x12)]) (.int .i64 x49) <|
        bif ((x46 : Int) == x49) then (
          .look (opS Try.prog (.binOp .rem ty_int (.tmp 0) (.tmp 1) ty_int) ty_int [(.int .i64 x34), (.int .i64 x12)]) (.one (.leaf (.int .i64))) fun x61 =>
          .call f_ring_Word [(.int .i64 p0), (.int .i64 (w64 ((-1) - x34)))] (.one (.leaf (.int .i64))) fun x56 =>
          .check (opS Try.prog (.binOp .rem ty_int (.tmp 0) (.tmp 1) ty_int) ty_int [(.int .i64 x34), (.int .i64 x12)]) (.int .i64 x61) <|
          bif ((x56 : Int) == (w64 ((w64 (x12 - 1)) - x61))) then (
            .call f_ring_Word [(.int .i64 p0), (.int .i64 p1)] (.one (.leaf (.int .i64))) fun x68 =>
            bif (decide ((x68 : Int) ≥ 0)) then (
              .call f_ring_Word [(.int .i64 p0), (.int .i64 p1)] (.one (.leaf (.int .i64))) fun x74 =>
              bif (decide ((x74 : Int) < x12)) then (
                .call f_magpielaw15_awake [] (.one (.leaf .bool)) fun x79 =>
                .ret (.bool x79))
              else (
                .ret (.bool false)))
            else (
              .ret (.bool false)))
          else (
            .ret (.bool false)))
        else (
          .ret (.bool false)))
      else (
        .ret (.bool false)))
    else (
      .ret (.bool false)))
theorem t_magpielaw15_RingWords_eq (p0 : Int) (p1 : Int) : funcTree Try.prog { quiet := [17, 18, 19, 21, 22, 48, 49, 51, 77], quietTmp := true, fncs := [], ifcs := [] } Try.f6 [(.int .i64 p0), (.int .i64 p1)] = t_magpielaw15_RingWords p0 p1 := by kernel_rfl
theorem t_magpielaw15_RingWords_spec {p0 : Int} {p1 : Int} {H : Heap} {R : Value → Heap → Prop} (h : ∀ L, wp Try.prog (t_magpielaw15_RingWords p0 p1) L H R) : SpecF Try.prog f_magpielaw15_RingWords #[(.int .i64 p0), (.int .i64 p1)] H R :=
  spec_of_tree (cfg := { quiet := [17, 18, 19, 21, 22, 48, 49, 51, 77], quietTmp := true, fncs := [], ifcs := [] }) Try.func6 fun L => (t_magpielaw15_RingWords_eq p0 p1).symm ▸ h L

/- magpie/magpielaw15.RingRounds -/
noncomputable def t_magpielaw15_RingRounds (p0 : Int) (p1 : Int) (p2 : Int) : Tree :=
  .qcall f_magpielaw00_Place [(.int .i64 p0), (.int .i64 4)] (.one (.leaf (.int .i64))) fun x13 =>
  .qcall f_handle_Pack [(.int .i64 64), (.int .i64 5), (.int .i64 x13)] (.one (.leaf (.int .i64))) fun x15 =>
  .qcall f_ring_Room [(.int .i64 x15)] (.one (.leaf (.int .i64))) fun x17 =>
  .qcall f_magpielaw00_Place [(.int .i64 p1), (.int .i64 1099511627776)] (.one (.leaf (.int .i64))) fun x19 =>
  .qcall f_magpielaw00_Place [(.int .i64 p2), (.int .i64 200)] (.one (.leaf (.int .i64))) fun x21 =>
  .qcall f_handle_Size [(.int .i64 x13)] (.one (.leaf (.int .i64))) fun x24 =>
  bif ((x17 : Int) == x24) then (
    bif (decide ((x17 : Int) > 0)) then (
      .look (opS Try.prog (.binOp .rem ty_int (.tmp 0) (.tmp 1) ty_int) ty_int [(.int .i64 x21), (.int .i64 x17)]) (.one (.leaf (.int .i64))) fun x42 =>
      .call f_ring_Word [(.int .i64 x15), (.int .i64 x19)] (.one (.leaf (.int .i64))) fun x33 =>
      .check (opS Try.prog (.binOp .rem ty_int (.tmp 0) (.tmp 1) ty_int) ty_int [(.int .i64 x21), (.int .i64 x17)]) (.int .i64 x42) <|
      .call f_ring_Word [(.int .i64 x15), (.int .i64 (w64 (x19 + x21)))] (.one (.leaf (.int .i64))) fun x38 =>
      .check (opS Try.prog (.binOp .rem ty_int (.tmp 0) (.tmp 1) ty_int) ty_int [(.int .i64 x21), (.int .i64 x17)]) (.int .i64 x42) <|
      bif (((x33 : Int) == x38) == ((x42 : Int) == 0)) then (
        .call f_ring_Word [(.int .i64 x15), (.int .i64 (w64 (x19 + 1)))] (.one (.leaf (.int .i64))) fun x50 =>
        .call f_ring_Word [(.int .i64 x15), (.int .i64 x19)] (.one (.leaf (.int .i64))) fun x53 =>
        .look (opS Try.prog (.binOp .rem ty_int (.tmp 0) (.tmp 1) ty_int) ty_int [(.int .i64 (w64 (x53 + 1))), (.int .i64 x17)]) (.one (.leaf (.int .i64))) fun x56 =>
        bif ((x50 : Int) == x56) then (
          .call f_magpielaw15_awake [] (.one (.leaf .bool)) fun x60 =>
          .ret (.bool x60))
        else (
          .ret (.bool false)))
      else (
        .ret (.bool false)))
    else (
      .ret (.bool false)))
  else (
    .ret (.bool false))
theorem t_magpielaw15_RingRounds_eq (p0 : Int) (p1 : Int) (p2 : Int) : funcTree Try.prog { quiet := [17, 18, 19, 21, 22, 48, 49, 51, 77], quietTmp := true, fncs := [], ifcs := [] } Try.f7 [(.int .i64 p0), (.int .i64 p1), (.int .i64 p2)] = t_magpielaw15_RingRounds p0 p1 p2 := by kernel_rfl
theorem t_magpielaw15_RingRounds_spec {p0 : Int} {p1 : Int} {p2 : Int} {H : Heap} {R : Value → Heap → Prop} (h : ∀ L, wp Try.prog (t_magpielaw15_RingRounds p0 p1 p2) L H R) : SpecF Try.prog f_magpielaw15_RingRounds #[(.int .i64 p0), (.int .i64 p1), (.int .i64 p2)] H R :=
  spec_of_tree (cfg := { quiet := [17, 18, 19, 21, 22, 48, 49, 51, 77], quietTmp := true, fncs := [], ifcs := [] }) Try.func7 fun L => (t_magpielaw15_RingRounds_eq p0 p1 p2).symm ▸ h L

end Go.Proofs.Ytgnifhkjpekkdaa
