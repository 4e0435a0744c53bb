import Derived.Test.YtgnifhkjpekkdaaSaNames
set_option linter.unusedVariables false
set_option maxRecDepth 10000
namespace Go.Proofs.Ytgnifhkjpekkdaa
open Go Go.Fw
/- magpie/magpielaw10.awake -/
noncomputable def t_magpielaw10_awake : Tree :=
  .call f_free_Raw [(.int .i64 2), (.int .i64 64)] (.tup [(.agg [(.int .i64), (.int .i64), (.int .i64), (.int .i64), (.int .i64)]), (.leaf (.int .i64))]) fun x10 =>
  .newP (.cells #[(.int .i64 0), (.int .i64 0), (.int .i64 0), (.int .i64 0), (.int .i64 0)] ty_free_Place) fun x1 =>
  .stA x1 [(.int .i64 x10.1.1), (.int .i64 x10.1.2.1), (.int .i64 x10.1.2.2.1), (.int .i64 x10.1.2.2.2.1), (.int .i64 x10.1.2.2.2.2.1)] <|
  .call f_arena_New [(.int .i64 x10.2.1), (.int .i64 64), (.bool false)] (.one (.leaf .ptr)) fun x14 =>
  .ldA x1 [(.int .i64), (.int .i64), (.int .i64), (.int .i64), (.int .i64)] fun x15 =>
  .ldA x1 [(.int .i64), (.int .i64), (.int .i64), (.int .i64), (.int .i64)] fun x17 =>
  .ldA x1 [(.int .i64), (.int .i64), (.int .i64), (.int .i64), (.int .i64)] fun x19 =>
  .call f_free_NewPush [(.agg #[(.int .i64 x15.1), (.int .i64 x15.2.1), (.int .i64 x15.2.2.1), (.int .i64 x15.2.2.2.1), (.int .i64 x15.2.2.2.2.1)]), (.int .i64 0), (.int .i64 0), (.int .i64 8)] (.one (.leaf .ptr)) fun x16 =>
  .check (ldAS x1 5 0 #[]) (.agg #[(.int .i64 x19.1), (.int .i64 x19.2.1), (.int .i64 x19.2.2.1), (.int .i64 x19.2.2.2.1), (.int .i64 x19.2.2.2.2.1)]) <|
  .check (ldAS x1 5 0 #[]) (.agg #[(.int .i64 x17.1), (.int .i64 x17.2.1), (.int .i64 x17.2.2.1), (.int .i64 x17.2.2.2.1), (.int .i64 x17.2.2.2.2.1)]) <|
  .call f_free_NewPush [(.agg #[(.int .i64 x17.1), (.int .i64 x17.2.1), (.int .i64 x17.2.2.1), (.int .i64 x17.2.2.2.1), (.int .i64 x17.2.2.2.2.1)]), (.int .i64 0), (.int .i64 0), (.int .i64 16)] (.one (.leaf .ptr)) fun x18 =>
  .check (ldAS x1 5 0 #[]) (.agg #[(.int .i64 x19.1), (.int .i64 x19.2.1), (.int .i64 x19.2.2.1), (.int .i64 x19.2.2.2.1), (.int .i64 x19.2.2.2.2.1)]) <|
  .call f_free_NewPop [(.agg #[(.int .i64 x19.1), (.int .i64 x19.2.1), (.int .i64 x19.2.2.1), (.int .i64 x19.2.2.2.1), (.int .i64 x19.2.2.2.2.1)]), (.int .i64 0), (.int .i64 0)] (.one (.leaf .ptr)) fun x20 =>
  .look (opS Try.prog (.binOp .eql ty_p_arena_Arena (.tmp 0) (.const (.pointer none)) ty_p_arena_Arena) ty_bool [(.pointer x14)]) (.one (.leaf .bool)) fun x22 =>
  bif x22 then (
    .ret (.bool false))
  else (
    .look (opS Try.prog (.binOp .eql ty_p_free_Push (.tmp 0) (.const (.pointer none)) ty_p_free_Push) ty_bool [(.pointer x16)]) (.one (.leaf .bool)) fun x25 =>
    bif x25 then (
      .ret (.bool false))
    else (
      .look (opS Try.prog (.binOp .eql ty_p_free_Push (.tmp 0) (.const (.pointer none)) ty_p_free_Push) ty_bool [(.pointer x18)]) (.one (.leaf .bool)) fun x29 =>
      bif x29 then (
        .ret (.bool false))
      else (
        .look (opS Try.prog (.binOp .eql ty_p_free_Pop (.tmp 0) (.const (.pointer none)) ty_p_free_Pop) ty_bool [(.pointer x20)]) (.one (.leaf .bool)) fun x33 =>
        bif x33 then (
          .ret (.bool false))
        else (
          .call f_magpielaw10_run [(.pointer x14), (.iface ty_p_free_Push (.pointer x16))] (.one (.leaf .bool)) fun x39 =>
          bif (!x39) then (
            .ret (.bool false))
          else (
            .call f_magpielaw10_run [(.pointer x14), (.iface ty_p_free_Push (.pointer x18))] (.one (.leaf .bool)) fun x46 =>
            bif (!x46) then (
              .ret (.bool false))
            else (
              .ldA x1 [(.int .i64), (.int .i64), (.int .i64), (.int .i64), (.int .i64)] fun x51 =>
              .call f_free_List [(.pointer x14), (.agg #[(.int .i64 x51.1), (.int .i64 x51.2.1), (.int .i64 x51.2.2.1), (.int .i64 x51.2.2.2.1), (.int .i64 x51.2.2.2.2.1)]), (.int .i64 0), (.int .i64 0)] (.one (.leaf .slice)) fun x52 =>
              bif ((((x52.len : Nat) : Int) : Int) != 2) then (
                .ret (.bool false))
              else (
                .call f_magpielaw10_run [(.pointer x14), (.iface ty_p_free_Pop (.pointer x20))] (.one (.leaf .bool)) fun x60 =>
                bif (!x60) then (
                  .ret (.bool false))
                else (
                  .call f_free_Pop_Base [(.pointer x20)] (.tup [(.leaf (.int .i64)), (.leaf .bool)]) fun x65 =>
                  bif x65.2.1 then (
                    bif ((x65.1 : Int) == 16) then (
                      bif ((x10.2.1 : Int) == 25) then (
                        .call f_arena_Arena_Fault [(.pointer x14)] (.one (.leaf .bool)) fun x79 =>
                        .ret (.bool (!x79)))
                      else (
                        .ret (.bool false)))
                    else (
                      .ret (.bool false)))
                  else (
                    .ret (.bool false))))))))))
theorem t_magpielaw10_awake_eq : funcTree Try.prog { quiet := [17, 18, 19, 21, 22, 48, 49, 51, 77], quietTmp := true, fncs := [], ifcs := [] } Try.f36 [] = t_magpielaw10_awake  := by kernel_rfl
theorem t_magpielaw10_awake_spec {H : Heap} {R : Value → Heap → Prop} (h : ∀ L, wp Try.prog (t_magpielaw10_awake ) L H R) : SpecF Try.prog f_magpielaw10_awake #[] H R :=
  spec_of_tree (cfg := { quiet := [17, 18, 19, 21, 22, 48, 49, 51, 77], quietTmp := true, fncs := [], ifcs := [] }) Try.func36 fun L => (t_magpielaw10_awake_eq ).symm ▸ h L

/- magpie/magpielaw10.run -/
@[reducible] def t_magpielaw10_run_L1_sh : List Sh1 := [(.leaf .bool), (.leaf (.int .i64))]
noncomputable def t_magpielaw10_run_L1 (p0 : Option Addr) (p1 : Value) (y1 : HL Sh1.T t_magpielaw10_run_L1_sh) : Tree :=
  bif (decide ((y1.2.1 : Int) < 100)) then (
    .call f_arena_Arena_Uses [(.pointer p0)] (.one (.leaf (.int .i64))) fun x13 =>
    .act (opS Try.prog (.call { callee := .invoke (.tmp 0) "Step", args := #[(.tmp 1)], argTypes := #[ty_p_arena_Arena] }) ty_bool [p1, (.pointer p0)]) (.one (.leaf .bool)) fun x16 =>
    .call f_arena_Arena_Uses [(.pointer p0)] (.one (.leaf (.int .i64))) fun x18 =>
    bif (decide ((x18 : Int) > (w64 (x13 + 1)))) then (
      .ret (.bool false))
    else (
      bif x16 then (
        .ret (.bool true))
      else (
        .again 128 [(.bool y1.1), (.int .i64 (w64 (y1.2.1 + 1)))])))
  else (
    .ret (.bool false))
noncomputable def t_magpielaw10_run (p0 : Option Addr) (p1 : Value) : Tree :=
  .loop 128 t_magpielaw10_run_L1_sh [(.bool false), (.int .i64 0)] (t_magpielaw10_run_L1 p0 p1)
theorem t_magpielaw10_run_eq (p0 : Option Addr) (p1 : Value) : funcTree Try.prog { quiet := [17, 18, 19, 21, 22, 48, 49, 51, 77], quietTmp := true, fncs := [], ifcs := [] } Try.f31 [(.pointer p0), p1] = t_magpielaw10_run p0 p1 := by kernel_rfl
theorem t_magpielaw10_run_spec {p0 : Option Addr} {p1 : Value} {H : Heap} {R : Value → Heap → Prop} (h : ∀ L, wp Try.prog (t_magpielaw10_run p0 p1) L H R) : SpecF Try.prog f_magpielaw10_run #[(.pointer p0), p1] H R :=
  spec_of_tree (cfg := { quiet := [17, 18, 19, 21, 22, 48, 49, 51, 77], quietTmp := true, fncs := [], ifcs := [] }) Try.func31 fun L => (t_magpielaw10_run_eq p0 p1).symm ▸ h L

/- magpie/magpielaw10.FreePlaces -/
noncomputable def t_magpielaw10_FreePlaces (p0 : Int) (p1 : Int) : Tree :=
  .qcall f_magpielaw00_Place [(.int .i64 p0), (.int .i64 70)] (.one (.leaf (.int .i64))) fun x13 =>
  .qcall f_magpielaw00_Place [(.int .i64 p1), (.int .i64 70000)] (.one (.leaf (.int .i64))) fun x15 =>
  .call f_free_Raw [(.int .i64 x13), (.int .i64 x15)] (.tup [(.agg [(.int .i64), (.int .i64), (.int .i64), (.int .i64), (.int .i64)]), (.leaf (.int .i64))]) fun x19 =>
  .newP (.cells #[(.int .i64 0), (.int .i64 0), (.int .i64 0), (.int .i64 0), (.int .i64 0)] ty_free_Place) fun x7 =>
  .stA x7 [(.int .i64 x19.1.1), (.int .i64 x19.1.2.1), (.int .i64 x19.1.2.2.1), (.int .i64 x19.1.2.2.2.1), (.int .i64 x19.1.2.2.2.2.1)] <|
  .call f_free_Raw [(.int .i64 (w64 ((-1) - x13))), (.int .i64 (w64 ((-1) - x15)))] (.tup [(.agg [(.int .i64), (.int .i64), (.int .i64), (.int .i64), (.int .i64)]), (.leaf (.int .i64))]) fun x27 =>
  .newP (.cells #[(.int .i64 0), (.int .i64 0), (.int .i64 0), (.int .i64 0), (.int .i64 0)] ty_free_Place) fun x9 =>
  .stA x9 [(.int .i64 x27.1.1), (.int .i64 x27.1.2.1), (.int .i64 x27.1.2.2.1), (.int .i64 x27.1.2.2.2.1), (.int .i64 x27.1.2.2.2.2.1)] <|
  .ld x7 (.int .i64) fun x34 =>
  bif ((x34 : Int) == x13) then (
    .ld (x7.add 1) (.int .i64) fun x39 =>
    bif ((x39 : Int) == 0) then (
      .ld (x7.add 2) (.int .i64) fun x44 =>
      bif ((x44 : Int) == (w64 (4 * x13))) then (
        .ld (x7.add 3) (.int .i64) fun x51 =>
        bif ((x51 : Int) == (w64 ((w64 (4 * x13)) + (w64 (Int.tdiv (w64 (x15 + 7)) 8))))) then (
          .ld (x7.add 4) (.int .i64) fun x60 =>
          bif ((x60 : Int) == (w64 ((w64 (4 * x13)) + (w64 (2 * (w64 (Int.tdiv (w64 (x15 + 7)) 8))))))) then (
            bif ((x19.2.1 : Int) == (w64 ((w64 ((w64 (4 * x13)) + (w64 (2 * (w64 (Int.tdiv (w64 (x15 + 7)) 8)))))) + 1))) then (
              .ld x9 (.int .i64) fun x80 =>
              bif ((x80 : Int) == 0) then (
                bif ((x27.2.1 : Int) == 1) then (
                  .call f_magpielaw10_awake [] (.one (.leaf .bool)) fun x88 =>
                  .ret (.bool x88))
                else (
                  .ret (.bool false)))
              else (
                .ret (.bool false)))
            else (
              .ret (.bool false)))
          else (
            .ret (.bool false)))
        else (
          .ret (.bool false)))
      else (
        .ret (.bool false)))
    else (
      .ret (.bool false)))
  else (
    .ret (.bool false))
theorem t_magpielaw10_FreePlaces_eq (p0 : Int) (p1 : Int) : funcTree Try.prog { quiet := [17, 18, 19, 21, 22, 48, 49, 51, 77], quietTmp := true, fncs := [], ifcs := [] } Try.f11 [(.int .i64 p0), (.int .i64 p1)] = t_magpielaw10_FreePlaces p0 p1 := by kernel_rfl
theorem t_magpielaw10_FreePlaces_spec {p0 : Int} {p1 : Int} {H : Heap} {R : Value → Heap → Prop} (h : ∀ L, wp Try.prog (t_magpielaw10_FreePlaces p0 p1) L H R) : SpecF Try.prog f_magpielaw10_FreePlaces #[(.int .i64 p0), (.int .i64 p1)] H R :=
  spec_of_tree (cfg := { quiet := [17, 18, 19, 21, 22, 48, 49, 51, 77], quietTmp := true, fncs := [], ifcs := [] }) Try.func11 fun L => (t_magpielaw10_FreePlaces_eq p0 p1).symm ▸ h L

/- magpie/magpielaw10.FreeEnds -/
@[reducible] def t_magpielaw10_FreeEnds_L1_sh : List Sh1 := [(.leaf .bool), (.leaf (.int .i64))]
noncomputable def t_magpielaw10_FreeEnds_L1 (x5 : Addr) (x20 : Option Addr) (x22 : Int) (x26 : Option Addr) (x28 : Option Addr) (x54 : Int) (y1 : HL Sh1.T t_magpielaw10_FreeEnds_L1_sh) : Tree :=
  bif (decide ((y1.2.1 : Int) > 0)) then (
    .call f_free_Push_Step [(.pointer x26), (.pointer x20)] (.one (.leaf .bool)) fun x63 =>
    bif (!x63) then (
      .ret (.bool false))
    else (
      .call f_free_Pop_Step [(.pointer x28), (.pointer x20)] (.one (.leaf .bool)) fun x68 =>
      bif (!x68) then (
        .ret (.bool false))
      else (
        .again 576 [(.bool y1.1), (.int .i64 (w64 (y1.2.1 - 1)))])))
  else (
    .call f_free_Pop_Base [(.pointer x28)] (.tup [(.leaf (.int .i64)), (.leaf .bool)]) fun x73 =>
    bif x73.2.1 then (
      bif ((x73.1 : Int) == (w64 (8 * x22))) then (
        .call f_arena_Arena_Uses [(.pointer x20)] (.one (.leaf (.int .i64))) fun x84 =>
        bif ((x84 : Int) == x54) then (
          .ldA x5 [(.int .i64), (.int .i64), (.int .i64), (.int .i64), (.int .i64)] fun x90 =>
          .call f_free_List [(.pointer x20), (.agg #[(.int .i64 x90.1), (.int .i64 x90.2.1), (.int .i64 x90.2.2.1), (.int .i64 x90.2.2.2.1), (.int .i64 x90.2.2.2.2.1)]), (.int .i64 0), (.int .i64 0)] (.one (.leaf .slice)) fun x91 =>
          bif ((((x91.len : Nat) : Int) : Int) == 0) then (
            .call f_magpielaw10_awake [] (.one (.leaf .bool)) fun x96 =>
            .ret (.bool x96))
          else (
            .ret (.bool false)))
        else (
          .ret (.bool false)))
      else (
        .ret (.bool false)))
    else (
      .ret (.bool false)))
noncomputable def t_magpielaw10_FreeEnds (p0 : Int) (p1 : Int) : Tree :=
  .call f_free_Raw [(.int .i64 1), (.int .i64 512)] (.tup [(.agg [(.int .i64), (.int .i64), (.int .i64), (.int .i64), (.int .i64)]), (.leaf (.int .i64))]) fun x16 =>
  .newP (.cells #[(.int .i64 0), (.int .i64 0), (.int .i64 0), (.int .i64 0), (.int .i64 0)] ty_free_Place) fun x5 =>
  .stA x5 [(.int .i64 x16.1.1), (.int .i64 x16.1.2.1), (.int .i64 x16.1.2.2.1), (.int .i64 x16.1.2.2.2.1), (.int .i64 x16.1.2.2.2.2.1)] <|
  .call f_arena_New [(.int .i64 x16.2.1), (.int .i64 512), (.bool false)] (.one (.leaf .ptr)) fun x20 =>
  .qcall f_magpielaw00_Place [(.int .i64 p0), (.int .i64 64)] (.one (.leaf (.int .i64))) fun x22 =>
  .ldA x5 [(.int .i64), (.int .i64), (.int .i64), (.int .i64), (.int .i64)] fun x24 =>
  .ldA x5 [(.int .i64), (.int .i64), (.int .i64), (.int .i64), (.int .i64)] fun x27 =>
  .call f_free_NewPush [(.agg #[(.int .i64 x24.1), (.int .i64 x24.2.1), (.int .i64 x24.2.2.1), (.int .i64 x24.2.2.2.1), (.int .i64 x24.2.2.2.2.1)]), (.int .i64 0), (.int .i64 0), (.int .i64 (w64 (8 * x22)))] (.one (.leaf .ptr)) fun x26 =>
  .check (ldAS x5 5 0 #[]) (.agg #[(.int .i64 x27.1), (.int .i64 x27.2.1), (.int .i64 x27.2.2.1), (.int .i64 x27.2.2.2.1), (.int .i64 x27.2.2.2.2.1)]) <|
  .call f_free_NewPop [(.agg #[(.int .i64 x27.1), (.int .i64 x27.2.1), (.int .i64 x27.2.2.1), (.int .i64 x27.2.2.2.1), (.int .i64 x27.2.2.2.2.1)]), (.int .i64 0), (.int .i64 0)] (.one (.leaf .ptr)) fun x28 =>
  .look (opS Try.prog (.binOp .eql ty_p_arena_Arena (.tmp 0) (.const (.pointer none)) ty_p_arena_Arena) ty_bool [(.pointer x20)]) (.one (.leaf .bool)) fun x30 =>
  bif x30 then (
    .ret (.bool false))
  else (
    .look (opS Try.prog (.binOp .eql ty_p_free_Push (.tmp 0) (.const (.pointer none)) ty_p_free_Push) ty_bool [(.pointer x26)]) (.one (.leaf .bool)) fun x33 =>
    bif x33 then (
      .ret (.bool false))
    else (
      .look (opS Try.prog (.binOp .eql ty_p_free_Pop (.tmp 0) (.const (.pointer none)) ty_p_free_Pop) ty_bool [(.pointer x28)]) (.one (.leaf .bool)) fun x37 =>
      bif x37 then (
        .ret (.bool false))
      else (
        .call f_magpielaw10_run [(.pointer x20), (.iface ty_p_free_Push (.pointer x26))] (.one (.leaf .bool)) fun x43 =>
        bif (!x43) then (
          .ret (.bool false))
        else (
          .call f_magpielaw10_run [(.pointer x20), (.iface ty_p_free_Pop (.pointer x28))] (.one (.leaf .bool)) fun x50 =>
          bif (!x50) then (
            .ret (.bool false))
          else (
            .call f_arena_Arena_Uses [(.pointer x20)] (.one (.leaf (.int .i64))) fun x54 =>
            .qcall f_magpielaw00_Place [(.int .i64 p1), (.int .i64 5)] (.one (.leaf (.int .i64))) fun x56 =>
            .loop 576 t_magpielaw10_FreeEnds_L1_sh [(.bool false), (.int .i64 x56)] (t_magpielaw10_FreeEnds_L1 x5 x20 x22 x26 x28 x54))))))
theorem t_magpielaw10_FreeEnds_eq (p0 : Int) (p1 : Int) : funcTree Try.prog { quiet := [17, 18, 19, 21, 22, 48, 49, 51, 77], quietTmp := true, fncs := [], ifcs := [] } Try.f13 [(.int .i64 p0), (.int .i64 p1)] = t_magpielaw10_FreeEnds p0 p1 := by kernel_rfl
theorem t_magpielaw10_FreeEnds_spec {p0 : Int} {p1 : Int} {H : Heap} {R : Value → Heap → Prop} (h : ∀ L, wp Try.prog (t_magpielaw10_FreeEnds p0 p1) L H R) : SpecF Try.prog f_magpielaw10_FreeEnds #[(.int .i64 p0), (.int .i64 p1)] H R :=
  spec_of_tree (cfg := { quiet := [17, 18, 19, 21, 22, 48, 49, 51, 77], quietTmp := true, fncs := [], ifcs := [] }) Try.func13 fun L => (t_magpielaw10_FreeEnds_eq p0 p1).symm ▸ h L

end Go.Proofs.Ytgnifhkjpekkdaa
