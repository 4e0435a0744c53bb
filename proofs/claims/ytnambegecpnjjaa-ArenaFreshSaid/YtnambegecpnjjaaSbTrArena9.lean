import Derived.Test.YtnambegecpnjjaaSbNames
set_option linter.unusedVariables false
set_option maxRecDepth 10000
namespace Go.Proofs.Ytnambegecpnjjaa
open Go Go.Fw
/- magpie/magpielaw09.ArenaFresh -/
@[reducible] def t_magpielaw09_ArenaFresh_L3_sh : List Sh1 := [(.leaf .bool), (.leaf (.int .i64))]
noncomputable def t_magpielaw09_ArenaFresh_L3 (x12 : Option Addr) (x13 : Option Addr) (y1 : HL Sh1.T [(.leaf .bool), (.leaf (.int .i64))]) (x34 : Int) (x47 : Int) (y3 : HL Sh1.T t_magpielaw09_ArenaFresh_L3_sh) : Tree :=
  bif (decide ((y3.2.1 : Int) < 8)) then (
    .call f_arena_Arena_Load [(.pointer x12), (.int .i64 x47), (.int .i64 y3.2.1)] (.one (.leaf (.int .i64))) fun x83 =>
    bif ((x83 : Int) != (w64 (x34 + y3.2.1))) then (
      .ret (.bool false))
    else (
      .call f_arena_Arena_Load [(.pointer x13), (.int .i64 x47), (.int .i64 y3.2.1)] (.one (.leaf (.int .i64))) fun x92 =>
      bif ((x92 : Int) != (w64 (x34 + y3.2.1))) then (
        .ret (.bool false))
      else (
        .call f_arena_Arena_Add [(.pointer x12), (.int .i64 x47), (.int .i64 y3.2.1), (.int .i64 1)] (.one (.leaf (.int .i64))) fun x102 =>
        .call f_arena_Arena_Add [(.pointer x13), (.int .i64 x47), (.int .i64 y3.2.1), (.int .i64 1)] (.one (.leaf (.int .i64))) fun x106 =>
        bif ((x102 : Int) != x106) then (
          .ret (.bool false))
        else (
          .call f_arena_Arena_Swap [(.pointer x12), (.int .i64 x47), (.int .i64 y3.2.1), (.int .i64 (w64 ((w64 (x34 + y3.2.1)) + 1))), (.int .i64 y1.2.1)] (.one (.leaf .bool)) fun x118 =>
          .call f_arena_Arena_Swap [(.pointer x13), (.int .i64 x47), (.int .i64 y3.2.1), (.int .i64 (w64 ((w64 (x34 + y3.2.1)) + 1))), (.int .i64 y1.2.1)] (.one (.leaf .bool)) fun x127 =>
          bif (!(x118 == x127)) then (
            .ret (.bool false))
          else (
            .call f_arena_Arena_Load [(.pointer x12), (.int .i64 x47), (.int .i64 y3.2.1)] (.one (.leaf (.int .i64))) fun x134 =>
            bif ((x134 : Int) != y1.2.1) then (
              .ret (.bool false))
            else (
              .again 1280 [(.bool y3.1), (.int .i64 (w64 (y3.2.1 + 1)))]))))))
  else (
    .call f_arena_Arena_Retire [(.pointer x12), (.int .i64 x47)] (.one (.leaf .bool)) fun x140 =>
    bif (!x140) then (
      .ret (.bool false))
    else (
      .call f_arena_Arena_Retire [(.pointer x13), (.int .i64 x47)] (.one (.leaf .bool)) fun x145 =>
      bif (!x145) then (
        .ret (.bool false))
      else (
        .call f_arena_Arena_Load [(.pointer x12), (.int .i64 x47), (.int .i64 3)] (.one (.leaf (.int .i64))) fun x151 =>
        .call f_arena_Arena_Load [(.pointer x13), (.int .i64 x47), (.int .i64 3)] (.one (.leaf (.int .i64))) fun x154 =>
        bif ((x151 : Int) != x154) then (
          .ret (.bool false))
        else (
          .call f_arena_Arena_Died [(.pointer x12), (.int .i64 x47)] (.one (.leaf .bool)) fun x160 =>
          bif (!x160) then (
            .ret (.bool false))
          else (
            .call f_arena_Arena_Died [(.pointer x13), (.int .i64 x47)] (.one (.leaf .bool)) fun x166 =>
            bif (!x166) then (
              .ret (.bool false))
            else (
              .again 385 [(.bool y3.1), (.int .i64 (w64 (y1.2.1 + 1)))]))))))

@[reducible] def t_magpielaw09_ArenaFresh_L2_sh : List Sh1 := [(.leaf (.int .i64))]
noncomputable def t_magpielaw09_ArenaFresh_L2 (x12 : Option Addr) (x13 : Option Addr) (y1 : HL Sh1.T [(.leaf .bool), (.leaf (.int .i64))]) (x34 : Int) (x47 : Int) (y2 : HL Sh1.T t_magpielaw09_ArenaFresh_L2_sh) : Tree :=
  bif (decide ((y2.1 : Int) < 8)) then (
    .call f_arena_Arena_Store [(.pointer x12), (.int .i64 x47), (.int .i64 y2.1), (.int .i64 (w64 (x34 + y2.1)))] .unit fun _ =>
    .call f_arena_Arena_Store [(.pointer x13), (.int .i64 x47), (.int .i64 y2.1), (.int .i64 (w64 (x34 + y2.1)))] .unit fun _ =>
    .again 960 [(.int .i64 (w64 (y2.1 + 1)))])
  else (
    .loop 1280 t_magpielaw09_ArenaFresh_L3_sh [(.bool y1.1), (.int .i64 0)] (t_magpielaw09_ArenaFresh_L3 x12 x13 y1 x34 x47))

noncomputable def t_magpielaw09_ArenaFresh_J8 (x12 : Option Addr) (x13 : Option Addr) : Tree :=
  .call f_arena_Arena_Fault [(.pointer x12)] (.one (.leaf .bool)) fun x170 =>
  bif (!x170) then (
    .call f_arena_Arena_Fault [(.pointer x13)] (.one (.leaf .bool)) fun x174 =>
    bif (!x174) then (
      .call f_arena_Arena_Count [(.pointer x12)] (.one (.agg [(.int .i64), (.int .i64), (.int .i64), (.int .i64)])) fun x179 =>
      .call f_arena_Arena_Count [(.pointer x13)] (.one (.agg [(.int .i64), (.int .i64), (.int .i64), (.int .i64)])) fun x182 =>
      bif ((x179.1 : Int) == x182.1) then (
        .call f_magpielaw09_awake [] (.one (.leaf .bool)) fun x187 =>
        .ret (.bool x187))
      else (
        .ret (.bool false)))
    else (
      .ret (.bool false)))
  else (
    .ret (.bool false))

@[reducible] def t_magpielaw09_ArenaFresh_L1_sh : List Sh1 := [(.leaf .bool), (.leaf (.int .i64))]
noncomputable def t_magpielaw09_ArenaFresh_L1 (p0 : Sl) (x12 : Option Addr) (x13 : Option Addr) (x5 : Addr) (y1 : HL Sh1.T t_magpielaw09_ArenaFresh_L1_sh) : Tree :=
  bif (decide ((y1.2.1 : Int) < ((p0.len : Nat) : Int))) then (
    bif (decide ((y1.2.1 : Int) < 60)) then (
      .look (opS Try.prog (.indexAddr ty_s_int (.tmp 0) (.tmp 1)) ty_unit [(.slice p0.a p0.len p0.cap), (.int .i64 y1.2.1)]) (.one (.leaf .addr)) fun x32 =>
      .ld x32 (.int .i64) fun x33 =>
      .qcall f_magpielaw00_Place [(.int .i64 x33), (.int .i64 1048576)] (.one (.leaf (.int .i64))) fun x34 =>
      .look (opS Try.prog (.indexAddr ty_a16_int (.tmp 0) (.tmp 1)) ty_unit [(.pointer (some x5)), (.int .i64 (Int.tmod x34 16))]) (.one (.leaf .addr)) fun x38 =>
      .ld x38 (.int .i64) fun x39 =>
      .look (opS Try.prog (.indexAddr ty_a16_int (.tmp 0) (.tmp 1)) ty_unit [(.pointer (some x5)), (.int .i64 (Int.tmod x34 16))]) (.one (.leaf .addr)) fun x41 =>
      .st x41 (.int .i64 (w64 (x39 + 1))) <|
      .look (opS Try.prog (.indexAddr ty_a16_int (.tmp 0) (.tmp 1)) ty_unit [(.pointer (some x5)), (.int .i64 (Int.tmod x34 16))]) (.one (.leaf .addr)) fun x45 =>
      .ld x45 (.int .i64) fun x46 =>
      .qcall f_handle_Pack [(.int .i64 (w64 (8 * (Int.tmod x34 16)))), (.int .i64 x46), (.int .i64 0)] (.one (.leaf (.int .i64))) fun x47 =>
      .call f_arena_Arena_Born [(.pointer x12), (.int .i64 x47)] (.one (.leaf .bool)) fun x50 =>
      bif (!x50) then (
        .ret (.bool false))
      else (
        .call f_arena_Arena_Born [(.pointer x13), (.int .i64 x47)] (.one (.leaf .bool)) fun x55 =>
        bif (!x55) then (
          .ret (.bool false))
        else (
          .loop 960 t_magpielaw09_ArenaFresh_L2_sh [(.int .i64 0)] (t_magpielaw09_ArenaFresh_L2 x12 x13 y1 x34 x47))))
    else (
      t_magpielaw09_ArenaFresh_J8 x12 x13))
  else (
    t_magpielaw09_ArenaFresh_J8 x12 x13)
noncomputable def t_magpielaw09_ArenaFresh (p0 : Sl) : Tree :=
  .call f_arena_New [(.int .i64 0), (.int .i64 128), (.bool false)] (.one (.leaf .ptr)) fun x12 =>
  .call f_arena_New [(.int .i64 0), (.int .i64 128), (.bool true)] (.one (.leaf .ptr)) fun x13 =>
  .look (opS Try.prog (.binOp .eql ty_p_arena_Arena (.tmp 0) (.const (.pointer none)) ty_p_arena_Arena) ty_bool [(.pointer x12)]) (.one (.leaf .bool)) fun x15 =>
  bif x15 then (
    .ret (.bool false))
  else (
    .look (opS Try.prog (.binOp .eql ty_p_arena_Arena (.tmp 0) (.const (.pointer none)) ty_p_arena_Arena) ty_bool [(.pointer x13)]) (.one (.leaf .bool)) fun x18 =>
    bif x18 then (
      .ret (.bool false))
    else (
      .newP (.cells #[(.int .i64 0), (.int .i64 0), (.int .i64 0), (.int .i64 0), (.int .i64 0), (.int .i64 0), (.int .i64 0), (.int .i64 0), (.int .i64 0), (.int .i64 0), (.int .i64 0), (.int .i64 0), (.int .i64 0), (.int .i64 0), (.int .i64 0), (.int .i64 0)] ty_a16_int) fun x5 =>
      .loop 385 t_magpielaw09_ArenaFresh_L1_sh [(.bool false), (.int .i64 0)] (t_magpielaw09_ArenaFresh_L1 p0 x12 x13 x5)))
theorem t_magpielaw09_ArenaFresh_eq (p0 : Sl) : funcTree Try.prog { quiet := [7, 8, 24, 25, 26, 35], quietTmp := true, fncs := [], ifcs := [] } Try.f3 [(.slice p0.a p0.len p0.cap)] = t_magpielaw09_ArenaFresh p0 := by kernel_rfl
theorem t_magpielaw09_ArenaFresh_spec {p0 : Sl} {H : Heap} {R : Value → Heap → Prop} (h : ∀ L, wp Try.prog (t_magpielaw09_ArenaFresh p0) L H R) : SpecF Try.prog f_magpielaw09_ArenaFresh #[(.slice p0.a p0.len p0.cap)] H R :=
  spec_of_tree (cfg := { quiet := [7, 8, 24, 25, 26, 35], quietTmp := true, fncs := [], ifcs := [] }) Try.func3 fun L => (t_magpielaw09_ArenaFresh_eq p0).symm ▸ h L

/- magpie/magpielaw09.ArenaFaults -/
noncomputable def t_magpielaw09_ArenaFaults_J0 (p2 : Int) (x11 : Option Addr) (x12 : Int) (x23 : Int) : Tree :=
  .call f_arena_Arena_Fault [(.pointer x11)] (.one (.leaf .bool)) fun x68 =>
  bif x68 then (
    .call f_arena_Arena_Load [(.pointer x11), (.int .i64 x12), (.int .i64 x23)] (.one (.leaf (.int .i64))) fun x73 =>
    bif ((x73 : Int) == p2) then (
      .call f_arena_Arena_Fault [(.pointer x11)] (.one (.leaf .bool)) fun x79 =>
      bif x79 then (
        .call f_arena_Arena_Uses [(.pointer x11)] (.one (.leaf (.int .i64))) fun x83 =>
        bif ((x83 : Int) == 3) then (
          .qcall f_handle_Pack [(.int .i64 16), (.int .i64 2), (.int .i64 0)] (.one (.leaf (.int .i64))) fun x88 =>
          .call f_arena_Arena_Born [(.pointer x11), (.int .i64 x88)] (.one (.leaf .bool)) fun x89 =>
          bif (!x89) then (
            .qcall f_handle_Pack [(.int .i64 8), (.int .i64 9), (.int .i64 1)] (.one (.leaf (.int .i64))) fun x94 =>
            .call f_arena_Arena_Born [(.pointer x11), (.int .i64 x94)] (.one (.leaf .bool)) fun x95 =>
            bif (!x95) then (
              .qcall f_handle_Pack [(.int .i64 8), (.int .i64 9), (.int .i64 0)] (.one (.leaf (.int .i64))) fun x100 =>
              .call f_arena_Arena_Born [(.pointer x11), (.int .i64 x100)] (.one (.leaf .bool)) fun x101 =>
              bif x101 then (
                .call f_magpielaw09_awake [] (.one (.leaf .bool)) fun x104 =>
                .ret (.bool x104))
              else (
                .ret (.bool false)))
            else (
              .ret (.bool false)))
          else (
            .ret (.bool false)))
        else (
          .ret (.bool false)))
      else (
        .ret (.bool false)))
    else (
      .ret (.bool false)))
  else (
    .ret (.bool false))
noncomputable def t_magpielaw09_ArenaFaults (p0 : Int) (p1 : Int) (p2 : Int) : Tree :=
  .call f_arena_New [(.int .i64 2), (.int .i64 64), (.bool false)] (.one (.leaf .ptr)) fun x11 =>
  .qcall f_handle_Pack [(.int .i64 16), (.int .i64 2), (.int .i64 0)] (.one (.leaf (.int .i64))) fun x12 =>
  .qcall f_handle_Pack [(.int .i64 16), (.int .i64 3), (.int .i64 0)] (.one (.leaf (.int .i64))) fun x13 =>
  .look (opS Try.prog (.binOp .eql ty_p_arena_Arena (.tmp 0) (.const (.pointer none)) ty_p_arena_Arena) ty_bool [(.pointer x11)]) (.one (.leaf .bool)) fun x15 =>
  bif x15 then (
    .ret (.bool false))
  else (
    .call f_arena_Arena_Born [(.pointer x11), (.int .i64 x12)] (.one (.leaf .bool)) fun x19 =>
    bif (!x19) then (
      .ret (.bool false))
    else (
      .qcall f_magpielaw00_Place [(.int .i64 p1), (.int .i64 8)] (.one (.leaf (.int .i64))) fun x23 =>
      .call f_arena_Arena_Store [(.pointer x11), (.int .i64 x12), (.int .i64 x23), (.int .i64 p2)] .unit fun _ =>
      .qcall f_magpielaw00_Place [(.int .i64 p0), (.int .i64 6)] (.one (.leaf (.int .i64))) fun x30 =>
      bif ((x30 : Int) == 0) then (
        .call f_arena_Arena_Store [(.pointer x11), (.int .i64 x13), (.int .i64 x23), (.int .i64 1)] .unit fun _ =>
        t_magpielaw09_ArenaFaults_J0 p2 x11 x12 x23)
      else (
        bif ((x30 : Int) == 1) then (
          .call f_arena_Arena_Load [(.pointer x11), (.int .i64 x12), (.int .i64 (w64 (8 + x23)))] (.one (.leaf (.int .i64))) fun x48 =>
          t_magpielaw09_ArenaFaults_J0 p2 x11 x12 x23)
        else (
          bif ((x30 : Int) == 2) then (
            .qcall f_handle_Pack [(.int .i64 16), (.int .i64 1), (.int .i64 0)] (.one (.leaf (.int .i64))) fun x52 =>
            .call f_arena_Arena_Add [(.pointer x11), (.int .i64 x52), (.int .i64 x23), (.int .i64 1)] (.one (.leaf (.int .i64))) fun x54 =>
            t_magpielaw09_ArenaFaults_J0 p2 x11 x12 x23)
          else (
            bif ((x30 : Int) == 3) then (
              .call f_arena_Arena_Raw [(.pointer x11), (.int .i64 (w64 (2 + x23)))] (.one (.leaf (.int .i64))) fun x60 =>
              t_magpielaw09_ArenaFaults_J0 p2 x11 x12 x23)
            else (
              bif ((x30 : Int) == 4) then (
                .call f_arena_Arena_Swap [(.pointer x11), (.int .i64 0), (.int .i64 x23), (.int .i64 p2), (.int .i64 1)] (.one (.leaf .bool)) fun x66 =>
                t_magpielaw09_ArenaFaults_J0 p2 x11 x12 x23)
              else (
                .call f_arena_Arena_Load [(.pointer x11), (.int .i64 x12), (.int .i64 (w64 ((-1) - x23)))] (.one (.leaf (.int .i64))) fun x35 =>
                t_magpielaw09_ArenaFaults_J0 p2 x11 x12 x23)))))))
theorem t_magpielaw09_ArenaFaults_eq (p0 : Int) (p1 : Int) (p2 : Int) : funcTree Try.prog { quiet := [7, 8, 24, 25, 26, 35], quietTmp := true, fncs := [], ifcs := [] } Try.f4 [(.int .i64 p0), (.int .i64 p1), (.int .i64 p2)] = t_magpielaw09_ArenaFaults p0 p1 p2 := by kernel_rfl
theorem t_magpielaw09_ArenaFaults_spec {p0 : Int} {p1 : Int} {p2 : Int} {H : Heap} {R : Value → Heap → Prop} (h : ∀ L, wp Try.prog (t_magpielaw09_ArenaFaults p0 p1 p2) L H R) : SpecF Try.prog f_magpielaw09_ArenaFaults #[(.int .i64 p0), (.int .i64 p1), (.int .i64 p2)] H R :=
  spec_of_tree (cfg := { quiet := [7, 8, 24, 25, 26, 35], quietTmp := true, fncs := [], ifcs := [] }) Try.func4 fun L => (t_magpielaw09_ArenaFaults_eq p0 p1 p2).symm ▸ h L

/- magpie/magpielaw09.ArenaRaws -/
noncomputable def t_magpielaw09_ArenaRaws_J0 (y1 : HL Sh1.T [(.leaf .bool), (.leaf (.int .i64)), (.leaf (.int .i64))]) (x107 : Int) : Tree :=
  bif ((x107 : Int) != (w64 (y1.2.1 + 1))) then (
    .ret (.bool false))
  else (
    .again 512 [(.bool y1.1), (.int .i64 (w64 (y1.2.1 + 1))), (.int .i64 (w64 (y1.2.2.1 + 1)))])

noncomputable def t_magpielaw09_ArenaRaws_J11 (x17 : Option Addr) : Tree :=
  .call f_arena_Arena_Fault [(.pointer x17)] (.one (.leaf .bool)) fun x111 =>
  bif (!x111) then (
    .call f_magpielaw09_awake [] (.one (.leaf .bool)) fun x114 =>
    .ret (.bool x114))
  else (
    .ret (.bool false))

@[reducible] def t_magpielaw09_ArenaRaws_L1_sh : List Sh1 := [(.leaf .bool), (.leaf (.int .i64)), (.leaf (.int .i64))]
noncomputable def t_magpielaw09_ArenaRaws_L1 (p1 : Sl) (x14 : Int) (x17 : Option Addr) (x7 : Addr) (y1 : HL Sh1.T t_magpielaw09_ArenaRaws_L1_sh) : Tree :=
  bif (decide ((y1.2.2.1 : Int) < ((p1.len : Nat) : Int))) then (
    bif (decide ((y1.2.2.1 : Int) < 60)) then (
      .look (opS Try.prog (.indexAddr ty_s_int (.tmp 0) (.tmp 1)) ty_unit [(.slice p1.a p1.len p1.cap), (.int .i64 y1.2.2.1)]) (.one (.leaf .addr)) fun x32 =>
      .ld x32 (.int .i64) fun x33 =>
      .qcall f_magpielaw00_Place [(.int .i64 x33), (.int .i64 1048576)] (.one (.leaf (.int .i64))) fun x34 =>
      .look (opS Try.prog (.binOp .rem ty_int (.tmp 0) (.tmp 1) ty_int) ty_int [(.int .i64 (w64 (Int.tdiv x34 4))), (.int .i64 (w64 (1 + x14)))]) (.one (.leaf (.int .i64))) fun x38 =>
      bif (((Int.tmod x34 4) : Int) == 0) then (
        .call f_arena_Arena_SetRaw [(.pointer x17), (.int .i64 x38), (.int .i64 x34)] .unit fun _ =>
        .look (opS Try.prog (.indexAddr ty_a21_int (.tmp 0) (.tmp 1)) ty_unit [(.pointer (some x7)), (.int .i64 x38)]) (.one (.leaf .addr)) fun x58 =>
        .st x58 (.int .i64 x34) <|
        .call f_arena_Arena_Uses [(.pointer x17)] (.one (.leaf (.int .i64))) fun x107 =>
        t_magpielaw09_ArenaRaws_J0 y1 x107)
      else (
        bif (((Int.tmod x34 4) : Int) == 1) then (
          .look (opS Try.prog (.indexAddr ty_a21_int (.tmp 0) (.tmp 1)) ty_unit [(.pointer (some x7)), (.int .i64 x38)]) (.one (.leaf .addr)) fun x62 =>
          .ld x62 (.int .i64) fun x63 =>
          .look (opS Try.prog (.indexAddr ty_a21_int (.tmp 0) (.tmp 1)) ty_unit [(.pointer (some x7)), (.int .i64 x38)]) (.one (.leaf .addr)) fun x75 =>
          .ld x75 (.int .i64) fun x76 =>
          .call f_arena_Arena_SwapRaw [(.pointer x17), (.int .i64 x38), (.int .i64 (w64 (x63 - (Int.tmod (w64 (Int.tdiv x34 400)) 2)))), (.int .i64 x34)] (.one (.leaf .bool)) fun x72 =>
          .check (ldS x75) (.int .i64 x76) <|
          .check (opS Try.prog (.indexAddr ty_a21_int (.tmp 0) (.tmp 1)) ty_unit [(.pointer (some x7)), (.int .i64 x38)]) (.pointer (some x75)) <|
          bif (!(x72 == (((w64 (x63 - (Int.tmod (w64 (Int.tdiv x34 400)) 2))) : Int) == x76))) then (
            .ret (.bool false))
          else (
            .look (opS Try.prog (.indexAddr ty_a21_int (.tmp 0) (.tmp 1)) ty_unit [(.pointer (some x7)), (.int .i64 x38)]) (.one (.leaf .addr)) fun x81 =>
            .ld x81 (.int .i64) fun x82 =>
            bif (((w64 (x63 - (Int.tmod (w64 (Int.tdiv x34 400)) 2))) : Int) == x82) then (
              .look (opS Try.prog (.indexAddr ty_a21_int (.tmp 0) (.tmp 1)) ty_unit [(.pointer (some x7)), (.int .i64 x38)]) (.one (.leaf .addr)) fun x86 =>
              .st x86 (.int .i64 x34) <|
              .call f_arena_Arena_Uses [(.pointer x17)] (.one (.leaf (.int .i64))) fun x107 =>
              t_magpielaw09_ArenaRaws_J0 y1 x107)
            else (
              .call f_arena_Arena_Uses [(.pointer x17)] (.one (.leaf (.int .i64))) fun x107 =>
              t_magpielaw09_ArenaRaws_J0 y1 x107)))
        else (
          bif (((Int.tmod x34 4) : Int) == 2) then (
            .look (opS Try.prog (.indexAddr ty_a21_int (.tmp 0) (.tmp 1)) ty_unit [(.pointer (some x7)), (.int .i64 x38)]) (.one (.leaf .addr)) fun x95 =>
            .ld x95 (.int .i64) fun x96 =>
            .call f_arena_Arena_AddRaw [(.pointer x17), (.int .i64 x38), (.int .i64 (w64 (x34 - 50000)))] (.one (.leaf (.int .i64))) fun x93 =>
            .check (ldS x95) (.int .i64 x96) <|
            .check (opS Try.prog (.indexAddr ty_a21_int (.tmp 0) (.tmp 1)) ty_unit [(.pointer (some x7)), (.int .i64 x38)]) (.pointer (some x95)) <|
            bif ((x93 : Int) != x96) then (
              .ret (.bool false))
            else (
              .look (opS Try.prog (.indexAddr ty_a21_int (.tmp 0) (.tmp 1)) ty_unit [(.pointer (some x7)), (.int .i64 x38)]) (.one (.leaf .addr)) fun x100 =>
              .ld x100 (.int .i64) fun x101 =>
              .look (opS Try.prog (.indexAddr ty_a21_int (.tmp 0) (.tmp 1)) ty_unit [(.pointer (some x7)), (.int .i64 x38)]) (.one (.leaf .addr)) fun x105 =>
              .st x105 (.int .i64 (w64 ((w64 (x101 + x34)) - 50000))) <|
              .call f_arena_Arena_Uses [(.pointer x17)] (.one (.leaf (.int .i64))) fun x107 =>
              t_magpielaw09_ArenaRaws_J0 y1 x107))
          else (
            .look (opS Try.prog (.indexAddr ty_a21_int (.tmp 0) (.tmp 1)) ty_unit [(.pointer (some x7)), (.int .i64 x38)]) (.one (.leaf .addr)) fun x47 =>
            .ld x47 (.int .i64) fun x48 =>
            .call f_arena_Arena_Raw [(.pointer x17), (.int .i64 x38)] (.one (.leaf (.int .i64))) fun x45 =>
            .check (ldS x47) (.int .i64 x48) <|
            .check (opS Try.prog (.indexAddr ty_a21_int (.tmp 0) (.tmp 1)) ty_unit [(.pointer (some x7)), (.int .i64 x38)]) (.pointer (some x47)) <|
            bif ((x45 : Int) != x48) then (
              .ret (.bool false))
            else (
              .call f_arena_Arena_Uses [(.pointer x17)] (.one (.leaf (.int .i64))) fun x107 =>
              t_magpielaw09_ArenaRaws_J0 y1 x107)))))
    else (
      t_magpielaw09_ArenaRaws_J11 x17))
  else (
    t_magpielaw09_ArenaRaws_J11 x17)
noncomputable def t_magpielaw09_ArenaRaws (p0 : Int) (p1 : Sl) : Tree :=
  .qcall f_magpielaw00_Place [(.int .i64 p0), (.int .i64 20)] (.one (.leaf (.int .i64))) fun x14 =>
  .call f_arena_New [(.int .i64 (w64 (1 + x14))), (.int .i64 0), (.bool false)] (.one (.leaf .ptr)) fun x17 =>
  .look (opS Try.prog (.binOp .eql ty_p_arena_Arena (.tmp 0) (.const (.pointer none)) ty_p_arena_Arena) ty_bool [(.pointer x17)]) (.one (.leaf .bool)) fun x19 =>
  bif x19 then (
    .ret (.bool false))
  else (
    .newP (.cells #[(.int .i64 0), (.int .i64 0), (.int .i64 0), (.int .i64 0), (.int .i64 0), (.int .i64 0), (.int .i64 0), (.int .i64 0), (.int .i64 0), (.int .i64 0), (.int .i64 0), (.int .i64 0), (.int .i64 0), (.int .i64 0), (.int .i64 0), (.int .i64 0), (.int .i64 0), (.int .i64 0), (.int .i64 0), (.int .i64 0), (.int .i64 0)] ty_a21_int) fun x7 =>
    .loop 512 t_magpielaw09_ArenaRaws_L1_sh [(.bool false), (.int .i64 0), (.int .i64 0)] (t_magpielaw09_ArenaRaws_L1 p1 x14 x17 x7))
theorem t_magpielaw09_ArenaRaws_eq (p0 : Int) (p1 : Sl) : funcTree Try.prog { quiet := [7, 8, 24, 25, 26, 35], quietTmp := true, fncs := [], ifcs := [] } Try.f5 [(.int .i64 p0), (.slice p1.a p1.len p1.cap)] = t_magpielaw09_ArenaRaws p0 p1 := by kernel_rfl
theorem t_magpielaw09_ArenaRaws_spec {p0 : Int} {p1 : Sl} {H : Heap} {R : Value → Heap → Prop} (h : ∀ L, wp Try.prog (t_magpielaw09_ArenaRaws p0 p1) L H R) : SpecF Try.prog f_magpielaw09_ArenaRaws #[(.int .i64 p0), (.slice p1.a p1.len p1.cap)] H R :=
  spec_of_tree (cfg := { quiet := [7, 8, 24, 25, 26, 35], quietTmp := true, fncs := [], ifcs := [] }) Try.func5 fun L => (t_magpielaw09_ArenaRaws_eq p0 p1).symm ▸ h L

end Go.Proofs.Ytnambegecpnjjaa
