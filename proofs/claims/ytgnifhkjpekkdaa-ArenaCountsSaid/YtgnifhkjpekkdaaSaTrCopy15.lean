import Derived.Test.YtgnifhkjpekkdaaSaNames
set_option linter.unusedVariables false
set_option maxRecDepth 10000
namespace Go.Proofs.Ytgnifhkjpekkdaa
open Go Go.Fw
/- magpie/magpielaw15.RingNone -/
noncomputable def t_magpielaw15_RingNone (p0 : Int) (p1 : Int) (p2 : Int) (p3 : Int) : Tree :=
  .qcall f_handle_Open [(.int .i64 p0)] (.tup [(.leaf (.int .i64)), (.leaf (.int .i64)), (.leaf (.int .i64)), (.leaf .bool)]) fun x18 =>
  bif x18.2.2.2.1 then (
    .qcall f_ring_Room [(.int .i64 p0)] (.one (.leaf (.int .i64))) fun x25 =>
    bif (decide ((x25 : Int) ≥ 8)) then (
      .call f_magpielaw15_awake [] (.one (.leaf .bool)) fun x28 =>
      .ret (.bool x28))
    else (
      .ret (.bool false)))
  else (
    .call f_arena_New [(.int .i64 0), (.int .i64 64), (.bool false)] (.one (.leaf .ptr)) fun x30 =>
    .qcall f_magpielaw00_Place [(.int .i64 p2), (.int .i64 1000)] (.one (.leaf (.int .i64))) fun x32 =>
    .qcall f_magpielaw00_Place [(.int .i64 p3), (.int .i64 50)] (.one (.leaf (.int .i64))) fun x38 =>
    .call f_ring_NewCopy [(.int .i64 p0), (.int .i64 p0), (.int .i64 x32), (.int .i64 (w64 (x32 - x38)))] (.one (.leaf .ptr)) fun x40 =>
    .look (opS Try.prog (.binOp .neq ty_p_arena_Arena (.tmp 0) (.const (.pointer none)) ty_p_arena_Arena) ty_bool [(.pointer x30)]) (.one (.leaf .bool)) fun x42 =>
    bif x42 then (
      .look (opS Try.prog (.binOp .neq ty_p_ring_Copy (.tmp 0) (.const (.pointer none)) ty_p_ring_Copy) ty_bool [(.pointer x40)]) (.one (.leaf .bool)) fun x45 =>
      bif x45 then (
        .qcall f_ring_Room [(.int .i64 p0)] (.one (.leaf (.int .i64))) fun x49 =>
        bif ((x49 : Int) == 0) then (
          .call f_ring_Word [(.int .i64 p0), (.int .i64 p1)] (.one (.leaf (.int .i64))) fun x55 =>
          bif ((x55 : Int) == 0) then (
            .call f_ring_Copy_Step [(.pointer x40), (.pointer x30)] (.one (.leaf .bool)) fun x61 =>
            bif x61 then (
              .call f_ring_Copy_Step [(.pointer x40), (.pointer x30)] (.one (.leaf .bool)) fun x66 =>
              bif x66 then (
                .call f_arena_Arena_Uses [(.pointer x30)] (.one (.leaf (.int .i64))) fun x70 =>
                bif ((x70 : Int) == 0) then (
                  .call f_arena_Arena_Fault [(.pointer x30)] (.one (.leaf .bool)) fun x75 =>
                  bif (!x75) then (
                    .call f_magpielaw15_awake [] (.one (.leaf .bool)) fun x79 =>
                    .ret (.bool x79))
                  else (
                    .ret (.bool false)))
                else (
                  .ret (.bool false)))
              else (
                .ret (.bool false)))
            else (
              .ret (.bool false)))
          else (
            .ret (.bool false)))
        else (
          .ret (.bool false)))
      else (
        .ret (.bool false)))
    else (
      .ret (.bool false)))
theorem t_magpielaw15_RingNone_eq (p0 : Int) (p1 : Int) (p2 : Int) (p3 : Int) : funcTree Try.prog { quiet := [17, 18, 19, 21, 22, 48, 49, 51, 77], quietTmp := true, fncs := [], ifcs := [] } Try.f8 [(.int .i64 p0), (.int .i64 p1), (.int .i64 p2), (.int .i64 p3)] = t_magpielaw15_RingNone p0 p1 p2 p3 := by kernel_rfl
theorem t_magpielaw15_RingNone_spec {p0 : Int} {p1 : Int} {p2 : Int} {p3 : Int} {H : Heap} {R : Value → Heap → Prop} (h : ∀ L, wp Try.prog (t_magpielaw15_RingNone p0 p1 p2 p3) L H R) : SpecF Try.prog f_magpielaw15_RingNone #[(.int .i64 p0), (.int .i64 p1), (.int .i64 p2), (.int .i64 p3)] H R :=
  spec_of_tree (cfg := { quiet := [17, 18, 19, 21, 22, 48, 49, 51, 77], quietTmp := true, fncs := [], ifcs := [] }) Try.func8 fun L => (t_magpielaw15_RingNone_eq p0 p1 p2 p3).symm ▸ h L

/- magpie/magpielaw15.RingCopies -/
@[reducible] def t_magpielaw15_RingCopies_L3_sh : List Sh1 := [(.leaf .bool), (.leaf (.int .i64))]
noncomputable def t_magpielaw15_RingCopies_L3 (x19 : Option Addr) (x25 : Int) (x41 : Int) (x49 : Int) (y3 : HL Sh1.T t_magpielaw15_RingCopies_L3_sh) : Tree :=
  bif (decide ((y3.2.1 : Int) < x49)) then (
    .call f_ring_Word [(.int .i64 x25), (.int .i64 (w64 (x41 + y3.2.1)))] (.one (.leaf (.int .i64))) fun x118 =>
    .call f_arena_Arena_Load [(.pointer x19), (.int .i64 x25), (.int .i64 x118)] (.one (.leaf (.int .i64))) fun x119 =>
    bif ((x119 : Int) != (w64 (100 + y3.2.1))) then (
      .ret (.bool false))
    else (
      .again 1408 [(.bool y3.1), (.int .i64 (w64 (y3.2.1 + 1)))]))
  else (
    .call f_arena_Arena_Fault [(.pointer x19)] (.one (.leaf .bool)) fun x124 =>
    bif (!x124) then (
      bif (decide ((x49 : Int) ≤ 65536)) then (
        .call f_magpielaw15_awake [] (.one (.leaf .bool)) fun x131 =>
        .ret (.bool x131))
      else (
        .ret (.bool false)))
    else (
      .ret (.bool false)))

@[reducible] def t_magpielaw15_RingCopies_L2_sh : List Sh1 := [(.leaf .bool), (.leaf (.int .i64))]
noncomputable def t_magpielaw15_RingCopies_L2 (x19 : Option Addr) (x25 : Int) (x41 : Int) (x49 : Int) (x66 : Int) (x73 : Option Addr) (y2 : HL Sh1.T t_magpielaw15_RingCopies_L2_sh) : Tree :=
  .call f_ring_Copy_Step [(.pointer x73), (.pointer x19)] (.one (.leaf .bool)) fun x78 =>
  bif (!x78) then (
    bif (decide (((w64 (y2.2.1 + 1)) : Int) > 200)) then (
      .ret (.bool false))
    else (
      .call f_arena_Arena_Uses [(.pointer x19)] (.one (.leaf (.int .i64))) fun x86 =>
      bif ((x86 : Int) != (w64 ((w64 (x66 + (w64 (y2.2.1 + 1)))) - 1))) then (
        .ret (.bool false))
      else (
        .again 960 [(.bool y2.1), (.int .i64 (w64 (y2.2.1 + 1)))])))
  else (
    .call f_arena_Arena_Uses [(.pointer x19)] (.one (.leaf (.int .i64))) fun x94 =>
    bif ((x94 : Int) != (w64 (x66 + (w64 (2 * x49))))) then (
      .ret (.bool false))
    else (
      bif ((y2.2.1 : Int) != (imax (w64 (2 * x49)) 1)) then (
        .ret (.bool false))
      else (
        .loop 1408 t_magpielaw15_RingCopies_L3_sh [(.bool y2.1), (.int .i64 0)] (t_magpielaw15_RingCopies_L3 x19 x25 x41 x49))))

@[reducible] def t_magpielaw15_RingCopies_L1_sh : List Sh1 := [(.leaf (.int .i64))]
noncomputable def t_magpielaw15_RingCopies_L1 (x19 : Option Addr) (x22 : Int) (x25 : Int) (x41 : Int) (x49 : Int) (y1 : HL Sh1.T t_magpielaw15_RingCopies_L1_sh) : Tree :=
  bif (decide ((y1.1 : Int) < x49)) then (
    .call f_ring_Word [(.int .i64 x22), (.int .i64 (w64 (x41 + y1.1)))] (.one (.leaf (.int .i64))) fun x61 =>
    .call f_arena_Arena_Store [(.pointer x19), (.int .i64 x22), (.int .i64 x61), (.int .i64 (w64 (100 + y1.1)))] .unit fun _ =>
    .again 448 [(.int .i64 (w64 (y1.1 + 1)))])
  else (
    .call f_arena_Arena_Uses [(.pointer x19)] (.one (.leaf (.int .i64))) fun x66 =>
    .call f_ring_NewCopy [(.int .i64 x22), (.int .i64 x25), (.int .i64 x41), (.int .i64 (w64 (x41 + x49)))] (.one (.leaf .ptr)) fun x73 =>
    .look (opS Try.prog (.binOp .eql ty_p_ring_Copy (.tmp 0) (.const (.pointer none)) ty_p_ring_Copy) ty_bool [(.pointer x73)]) (.one (.leaf .bool)) fun x75 =>
    bif x75 then (
      .ret (.bool false))
    else (
      .loop 960 t_magpielaw15_RingCopies_L2_sh [(.bool false), (.int .i64 1)] (t_magpielaw15_RingCopies_L2 x19 x25 x41 x49 x66 x73)))
noncomputable def t_magpielaw15_RingCopies (p0 : Int) (p1 : Int) (p2 : Int) (p3 : Int) : Tree :=
  .call f_arena_New [(.int .i64 0), (.int .i64 256), (.bool false)] (.one (.leaf .ptr)) fun x19 =>
  .qcall f_magpielaw00_Place [(.int .i64 p0), (.int .i64 3)] (.one (.leaf (.int .i64))) fun x21 =>
  .qcall f_handle_Pack [(.int .i64 0), (.int .i64 1), (.int .i64 x21)] (.one (.leaf (.int .i64))) fun x22 =>
  .qcall f_magpielaw00_Place [(.int .i64 p1), (.int .i64 4)] (.one (.leaf (.int .i64))) fun x24 =>
  .qcall f_handle_Pack [(.int .i64 64), (.int .i64 1), (.int .i64 x24)] (.one (.leaf (.int .i64))) fun x25 =>
  .look (opS Try.prog (.binOp .eql ty_p_arena_Arena (.tmp 0) (.const (.pointer none)) ty_p_arena_Arena) ty_bool [(.pointer x19)]) (.one (.leaf .bool)) fun x27 =>
  bif x27 then (
    .ret (.bool false))
  else (
    .call f_arena_Arena_Born [(.pointer x19), (.int .i64 x22)] (.one (.leaf .bool)) fun x31 =>
    bif (!x31) then (
      .ret (.bool false))
    else (
      .call f_arena_Arena_Born [(.pointer x19), (.int .i64 x25)] (.one (.leaf .bool)) fun x37 =>
      bif (!x37) then (
        .ret (.bool false))
      else (
        .qcall f_magpielaw00_Place [(.int .i64 p2), (.int .i64 1000)] (.one (.leaf (.int .i64))) fun x41 =>
        .qcall f_ring_Room [(.int .i64 x22)] (.one (.leaf (.int .i64))) fun x44 =>
        .qcall f_ring_Room [(.int .i64 x25)] (.one (.leaf (.int .i64))) fun x46 =>
        .qcall f_magpielaw00_Place [(.int .i64 p3), (.int .i64 (w64 ((imin x44 x46) + 1)))] (.one (.leaf (.int .i64))) fun x49 =>
        .loop 448 t_magpielaw15_RingCopies_L1_sh [(.int .i64 0)] (t_magpielaw15_RingCopies_L1 x19 x22 x25 x41 x49))))
theorem t_magpielaw15_RingCopies_eq (p0 : Int) (p1 : Int) (p2 : Int) (p3 : Int) : funcTree Try.prog { quiet := [17, 18, 19, 21, 22, 48, 49, 51, 77], quietTmp := true, fncs := [], ifcs := [] } Try.f16 [(.int .i64 p0), (.int .i64 p1), (.int .i64 p2), (.int .i64 p3)] = t_magpielaw15_RingCopies p0 p1 p2 p3 := by kernel_rfl
theorem t_magpielaw15_RingCopies_spec {p0 : Int} {p1 : Int} {p2 : Int} {p3 : Int} {H : Heap} {R : Value → Heap → Prop} (h : ∀ L, wp Try.prog (t_magpielaw15_RingCopies p0 p1 p2 p3) L H R) : SpecF Try.prog f_magpielaw15_RingCopies #[(.int .i64 p0), (.int .i64 p1), (.int .i64 p2), (.int .i64 p3)] H R :=
  spec_of_tree (cfg := { quiet := [17, 18, 19, 21, 22, 48, 49, 51, 77], quietTmp := true, fncs := [], ifcs := [] }) Try.func16 fun L => (t_magpielaw15_RingCopies_eq p0 p1 p2 p3).symm ▸ h L

end Go.Proofs.Ytgnifhkjpekkdaa
