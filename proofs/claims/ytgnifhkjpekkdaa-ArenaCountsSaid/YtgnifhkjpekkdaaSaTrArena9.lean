import Derived.Test.YtgnifhkjpekkdaaSaNames
set_option linter.unusedVariables false
set_option maxRecDepth 10000
namespace Go.Proofs.Ytgnifhkjpekkdaa
open Go Go.Fw
/- magpie/magpielaw09.ArenaApart -/
@[reducible] def t_magpielaw09_ArenaApart_L4_sh : List Sh1 := [(.leaf .bool), (.leaf (.int .i64))]
noncomputable def t_magpielaw09_ArenaApart_L4 (x24 : Option Addr) (x144 : Sl) (x148 : Sl) (y3 : HL Sh1.T [(.leaf .bool), (.leaf (.int .i64))]) (x160 : HL Sh1.T [(.leaf (.int .i64)), (.leaf (.int .i64)), (.leaf (.int .i64)), (.leaf .bool)]) (y4 : HL Sh1.T t_magpielaw09_ArenaApart_L4_sh) : Tree :=
  .qcall f_handle_Size [(.int .i64 x160.2.2.1)] (.one (.leaf (.int .i64))) fun x167 =>
  bif (decide ((y4.2.1 : Int) < x167)) then (
    .look (opS Try.prog (.indexAddr ty_s_int (.tmp 0) (.tmp 1)) ty_unit [(.slice x144.a x144.len x144.cap), (.int .i64 y3.2.1)]) (.one (.leaf .addr)) fun x174 =>
    .ld x174 (.int .i64) fun x175 =>
    .look (opS Try.prog (.indexAddr ty_s_int (.tmp 0) (.tmp 1)) ty_unit [(.slice x148.a x148.len x148.cap), (.int .i64 y3.2.1)]) (.one (.leaf .addr)) fun x180 =>
    .ld x180 (.int .i64) fun x181 =>
    .call f_arena_Arena_Load [(.pointer x24), (.int .i64 x175), (.int .i64 y4.2.1)] (.one (.leaf (.int .i64))) fun x177 =>
    .check (ldS x180) (.int .i64 x181) <|
    .check (opS Try.prog (.indexAddr ty_s_int (.tmp 0) (.tmp 1)) ty_unit [(.slice x148.a x148.len x148.cap), (.int .i64 y3.2.1)]) (.pointer (some x180)) <|
    bif ((x177 : Int) != (w64 ((w64 (100 * x181)) + y4.2.1))) then (
      .ret (.bool false))
    else (
      .look (opS Try.prog (.indexAddr ty_s_int (.tmp 0) (.tmp 1)) ty_unit [(.slice x144.a x144.len x144.cap), (.int .i64 y3.2.1)]) (.one (.leaf .addr)) fun x190 =>
      .ld x190 (.int .i64) fun x191 =>
      .call f_arena_Arena_State [(.pointer x24), (.int .i64 x191)] (.one (.leaf (.int .i64))) fun x192 =>
      bif ((x192 : Int) != 1) then (
        .ret (.bool false))
      else (
        .again 1856 [(.bool y4.1), (.int .i64 (w64 (y4.2.1 + 1)))])))
  else (
    .again 1601 [(.bool y4.1), (.int .i64 (w64 (y3.2.1 + 1)))])

@[reducible] def t_magpielaw09_ArenaApart_L3_sh : List Sh1 := [(.leaf .bool), (.leaf (.int .i64))]
noncomputable def t_magpielaw09_ArenaApart_L3 (x24 : Option Addr) (y1 : HL Sh1.T [(.leaf .bool), (.leaf .slice), (.leaf .slice), (.leaf (.int .i64))]) (x144 : Sl) (x148 : Sl) (y3 : HL Sh1.T t_magpielaw09_ArenaApart_L3_sh) : Tree :=
  bif (decide ((y3.2.1 : Int) < ((x144.len : Nat) : Int))) then (
    .look (opS Try.prog (.indexAddr ty_s_int (.tmp 0) (.tmp 1)) ty_unit [(.slice x144.a x144.len x144.cap), (.int .i64 y3.2.1)]) (.one (.leaf .addr)) fun x158 =>
    .ld x158 (.int .i64) fun x159 =>
    .qcall f_handle_Open [(.int .i64 x159)] (.tup [(.leaf (.int .i64)), (.leaf (.int .i64)), (.leaf (.int .i64)), (.leaf .bool)]) fun x160 =>
    .loop 1856 t_magpielaw09_ArenaApart_L4_sh [(.bool y3.1), (.int .i64 0)] (t_magpielaw09_ArenaApart_L4 x24 x144 x148 y3 x160))
  else (
    .again 386 [(.bool y3.1), (.slice x144.a x144.len x144.cap), (.slice x148.a x148.len x148.cap), (.int .i64 (w64 (y1.2.2.2.1 + 1)))])

@[reducible] def t_magpielaw09_ArenaApart_L2_sh : List Sh1 := [(.leaf .bool), (.leaf (.int .i64))]
noncomputable def t_magpielaw09_ArenaApart_L2 (p1 : Bool) (x24 : Option Addr) (y1 : HL Sh1.T [(.leaf .bool), (.leaf .slice), (.leaf .slice), (.leaf (.int .i64))]) (x107 : Int) (x114 : HL Sh1.T [(.leaf (.int .i64)), (.leaf (.int .i64)), (.leaf (.int .i64)), (.leaf .bool)]) (y2 : HL Sh1.T t_magpielaw09_ArenaApart_L2_sh) : Tree :=
  .qcall f_handle_Size [(.int .i64 x114.2.2.1)] (.one (.leaf (.int .i64))) fun x121 =>
  bif (decide ((y2.2.1 : Int) < x121)) then (
    bif p1 then (
      .call f_arena_Arena_Load [(.pointer x24), (.int .i64 x107), (.int .i64 y2.2.1)] (.one (.leaf (.int .i64))) fun x130 =>
      bif ((x130 : Int) != 0) then (
        .ret (.bool false))
      else (
        .call f_arena_Arena_Store [(.pointer x24), (.int .i64 x107), (.int .i64 y2.2.1), (.int .i64 (w64 ((w64 (100 * y1.2.2.2.1)) + y2.2.1)))] .unit fun _ =>
        .again 1152 [(.bool y2.1), (.int .i64 (w64 (y2.2.1 + 1)))]))
    else (
      .call f_arena_Arena_Store [(.pointer x24), (.int .i64 x107), (.int .i64 y2.2.1), (.int .i64 (w64 ((w64 (100 * y1.2.2.2.1)) + y2.2.1)))] .unit fun _ =>
      .again 1152 [(.bool y2.1), (.int .i64 (w64 (y2.2.1 + 1)))]))
  else (
    .newS (.cells #[(.int .i64 x107)] ty_int) 1 fun x143 =>
    .act (opS Try.prog (.call { callee := .builtin .append, args := #[(.tmp 0), (.tmp 1)], argTypes := #[ty_s_int, ty_s_int] }) ty_s_int [(.slice y1.2.1.a y1.2.1.len y1.2.1.cap), (.slice x143.a x143.len x143.cap)]) (.one (.leaf .slice)) fun x144 =>
    .newS (.cells #[(.int .i64 y1.2.2.2.1)] ty_int) 1 fun x147 =>
    .act (opS Try.prog (.call { callee := .builtin .append, args := #[(.tmp 0), (.tmp 1)], argTypes := #[ty_s_int, ty_s_int] }) ty_s_int [(.slice y1.2.2.1.a y1.2.2.1.len y1.2.2.1.cap), (.slice x147.a x147.len x147.cap)]) (.one (.leaf .slice)) fun x148 =>
    .loop 1601 t_magpielaw09_ArenaApart_L3_sh [(.bool y2.1), (.int .i64 0)] (t_magpielaw09_ArenaApart_L3 x24 y1 x144 x148))

@[reducible] def t_magpielaw09_ArenaApart_L7_sh : List Sh1 := [(.leaf .bool), (.leaf (.int .i64))]
noncomputable def t_magpielaw09_ArenaApart_L7 (x24 : Option Addr) (x144 : Sl) (x148 : Sl) (y6 : HL Sh1.T [(.leaf .bool), (.leaf (.int .i64))]) (x160 : HL Sh1.T [(.leaf (.int .i64)), (.leaf (.int .i64)), (.leaf (.int .i64)), (.leaf .bool)]) (y7 : HL Sh1.T t_magpielaw09_ArenaApart_L7_sh) : Tree :=
  .qcall f_handle_Size [(.int .i64 x160.2.2.1)] (.one (.leaf (.int .i64))) fun x167 =>
  bif (decide ((y7.2.1 : Int) < x167)) then (
    .look (opS Try.prog (.indexAddr ty_s_int (.tmp 0) (.tmp 1)) ty_unit [(.slice x144.a x144.len x144.cap), (.int .i64 y6.2.1)]) (.one (.leaf .addr)) fun x174 =>
    .ld x174 (.int .i64) fun x175 =>
    .look (opS Try.prog (.indexAddr ty_s_int (.tmp 0) (.tmp 1)) ty_unit [(.slice x148.a x148.len x148.cap), (.int .i64 y6.2.1)]) (.one (.leaf .addr)) fun x180 =>
    .ld x180 (.int .i64) fun x181 =>
    .call f_arena_Arena_Load [(.pointer x24), (.int .i64 x175), (.int .i64 y7.2.1)] (.one (.leaf (.int .i64))) fun x177 =>
    .check (ldS x180) (.int .i64 x181) <|
    .check (opS Try.prog (.indexAddr ty_s_int (.tmp 0) (.tmp 1)) ty_unit [(.slice x148.a x148.len x148.cap), (.int .i64 y6.2.1)]) (.pointer (some x180)) <|
    bif ((x177 : Int) != (w64 ((w64 (100 * x181)) + y7.2.1))) then (
      .ret (.bool false))
    else (
      .look (opS Try.prog (.indexAddr ty_s_int (.tmp 0) (.tmp 1)) ty_unit [(.slice x144.a x144.len x144.cap), (.int .i64 y6.2.1)]) (.one (.leaf .addr)) fun x190 =>
      .ld x190 (.int .i64) fun x191 =>
      .call f_arena_Arena_State [(.pointer x24), (.int .i64 x191)] (.one (.leaf (.int .i64))) fun x192 =>
      bif ((x192 : Int) != 1) then (
        .ret (.bool false))
      else (
        .again 1856 [(.bool y7.1), (.int .i64 (w64 (y7.2.1 + 1)))])))
  else (
    .again 1601 [(.bool y7.1), (.int .i64 (w64 (y6.2.1 + 1)))])

@[reducible] def t_magpielaw09_ArenaApart_L6_sh : List Sh1 := [(.leaf .bool), (.leaf (.int .i64))]
noncomputable def t_magpielaw09_ArenaApart_L6 (x24 : Option Addr) (y1 : HL Sh1.T [(.leaf .bool), (.leaf .slice), (.leaf .slice), (.leaf (.int .i64))]) (x144 : Sl) (x148 : Sl) (y6 : HL Sh1.T t_magpielaw09_ArenaApart_L6_sh) : Tree :=
  bif (decide ((y6.2.1 : Int) < ((x144.len : Nat) : Int))) then (
    .look (opS Try.prog (.indexAddr ty_s_int (.tmp 0) (.tmp 1)) ty_unit [(.slice x144.a x144.len x144.cap), (.int .i64 y6.2.1)]) (.one (.leaf .addr)) fun x158 =>
    .ld x158 (.int .i64) fun x159 =>
    .qcall f_handle_Open [(.int .i64 x159)] (.tup [(.leaf (.int .i64)), (.leaf (.int .i64)), (.leaf (.int .i64)), (.leaf .bool)]) fun x160 =>
    .loop 1856 t_magpielaw09_ArenaApart_L7_sh [(.bool y6.1), (.int .i64 0)] (t_magpielaw09_ArenaApart_L7 x24 x144 x148 y6 x160))
  else (
    .again 386 [(.bool y6.1), (.slice x144.a x144.len x144.cap), (.slice x148.a x148.len x148.cap), (.int .i64 (w64 (y1.2.2.2.1 + 1)))])

@[reducible] def t_magpielaw09_ArenaApart_L5_sh : List Sh1 := [(.leaf .bool), (.leaf (.int .i64))]
noncomputable def t_magpielaw09_ArenaApart_L5 (p1 : Bool) (x24 : Option Addr) (y1 : HL Sh1.T [(.leaf .bool), (.leaf .slice), (.leaf .slice), (.leaf (.int .i64))]) (x107 : Int) (x114 : HL Sh1.T [(.leaf (.int .i64)), (.leaf (.int .i64)), (.leaf (.int .i64)), (.leaf .bool)]) (y5 : HL Sh1.T t_magpielaw09_ArenaApart_L5_sh) : Tree :=
  .qcall f_handle_Size [(.int .i64 x114.2.2.1)] (.one (.leaf (.int .i64))) fun x121 =>
  bif (decide ((y5.2.1 : Int) < x121)) then (
    bif p1 then (
      .call f_arena_Arena_Load [(.pointer x24), (.int .i64 x107), (.int .i64 y5.2.1)] (.one (.leaf (.int .i64))) fun x130 =>
      bif ((x130 : Int) != 0) then (
        .ret (.bool false))
      else (
        .call f_arena_Arena_Store [(.pointer x24), (.int .i64 x107), (.int .i64 y5.2.1), (.int .i64 (w64 ((w64 (100 * y1.2.2.2.1)) + y5.2.1)))] .unit fun _ =>
        .again 1152 [(.bool y5.1), (.int .i64 (w64 (y5.2.1 + 1)))]))
    else (
      .call f_arena_Arena_Store [(.pointer x24), (.int .i64 x107), (.int .i64 y5.2.1), (.int .i64 (w64 ((w64 (100 * y1.2.2.2.1)) + y5.2.1)))] .unit fun _ =>
      .again 1152 [(.bool y5.1), (.int .i64 (w64 (y5.2.1 + 1)))]))
  else (
    .newS (.cells #[(.int .i64 x107)] ty_int) 1 fun x143 =>
    .act (opS Try.prog (.call { callee := .builtin .append, args := #[(.tmp 0), (.tmp 1)], argTypes := #[ty_s_int, ty_s_int] }) ty_s_int [(.slice y1.2.1.a y1.2.1.len y1.2.1.cap), (.slice x143.a x143.len x143.cap)]) (.one (.leaf .slice)) fun x144 =>
    .newS (.cells #[(.int .i64 y1.2.2.2.1)] ty_int) 1 fun x147 =>
    .act (opS Try.prog (.call { callee := .builtin .append, args := #[(.tmp 0), (.tmp 1)], argTypes := #[ty_s_int, ty_s_int] }) ty_s_int [(.slice y1.2.2.1.a y1.2.2.1.len y1.2.2.1.cap), (.slice x147.a x147.len x147.cap)]) (.one (.leaf .slice)) fun x148 =>
    .loop 1601 t_magpielaw09_ArenaApart_L6_sh [(.bool y5.1), (.int .i64 0)] (t_magpielaw09_ArenaApart_L6 x24 y1 x144 x148))

noncomputable def t_magpielaw09_ArenaApart_J19 (x24 : Option Addr) : Tree :=
  .call f_arena_Arena_Fault [(.pointer x24)] (.one (.leaf .bool)) fun x196 =>
  bif (!x196) then (
    .call f_magpielaw09_awake [] (.one (.leaf .bool)) fun x199 =>
    .ret (.bool x199))
  else (
    .ret (.bool false))

@[reducible] def t_magpielaw09_ArenaApart_L1_sh : List Sh1 := [(.leaf .bool), (.leaf .slice), (.leaf .slice), (.leaf (.int .i64))]
noncomputable def t_magpielaw09_ArenaApart_L1 (p0 : Sl) (p1 : Bool) (x24 : Option Addr) (y1 : HL Sh1.T t_magpielaw09_ArenaApart_L1_sh) : Tree :=
  bif (decide ((y1.2.2.2.1 : Int) < ((p0.len : Nat) : Int))) then (
    bif (decide ((y1.2.2.2.1 : Int) < 40)) then (
      .look (opS Try.prog (.indexAddr ty_s_int (.tmp 0) (.tmp 1)) ty_unit [(.slice p0.a p0.len p0.cap), (.int .i64 y1.2.2.2.1)]) (.one (.leaf .addr)) fun x39 =>
      .ld x39 (.int .i64) fun x40 =>
      .qcall f_magpielaw00_Place [(.int .i64 x40), (.int .i64 1048576)] (.one (.leaf (.int .i64))) fun x41 =>
      bif (((Int.tmod x41 4) : Int) == 0) then (
        bif (decide ((((y1.2.1.len : Nat) : Int) : Int) > 0)) then (
          .look (opS Try.prog (.binOp .rem ty_int (.tmp 0) (.tmp 1) ty_int) ty_int [(.int .i64 (w64 (Int.tdiv x41 4))), (.int .i64 ((y1.2.1.len : Nat) : Int))]) (.one (.leaf (.int .i64))) fun x54 =>
          .look (opS Try.prog (.indexAddr ty_s_int (.tmp 0) (.tmp 1)) ty_unit [(.slice y1.2.1.a y1.2.1.len y1.2.1.cap), (.int .i64 x54)]) (.one (.leaf .addr)) fun x58 =>
          .ld x58 (.int .i64) fun x59 =>
          .call f_arena_Arena_Retire [(.pointer x24), (.int .i64 x59)] (.one (.leaf .bool)) fun x60 =>
          bif (!x60) then (
            .ret (.bool false))
          else (
            .look (opS Try.prog (.indexAddr ty_s_int (.tmp 0) (.tmp 1)) ty_unit [(.slice y1.2.1.a y1.2.1.len y1.2.1.cap), (.int .i64 x54)]) (.one (.leaf .addr)) fun x66 =>
            .ld x66 (.int .i64) fun x67 =>
            .call f_arena_Arena_Died [(.pointer x24), (.int .i64 x67)] (.one (.leaf .bool)) fun x68 =>
            bif (!x68) then (
              .ret (.bool false))
            else (
              .look (opS Try.prog (.indexAddr ty_s_int (.tmp 0) (.tmp 1)) ty_unit [(.slice y1.2.1.a y1.2.1.len y1.2.1.cap), (.int .i64 x54)]) (.one (.leaf .addr)) fun x75 =>
              .ld x75 (.int .i64) fun x76 =>
              .call f_arena_Arena_State [(.pointer x24), (.int .i64 x76)] (.one (.leaf (.int .i64))) fun x77 =>
              bif ((x77 : Int) != 0) then (
                .ret (.bool false))
              else (
                .look (opS Try.prog (.slice ty_s_int (.tmp 0) none (some (.tmp 1)) none) ty_s_int [(.slice y1.2.1.a y1.2.1.len y1.2.1.cap), (.int .i64 x54)]) (.one (.leaf .slice)) fun x82 =>
                .look (opS Try.prog (.slice ty_s_int (.tmp 0) (some (.tmp 1)) none none) ty_s_int [(.slice y1.2.1.a y1.2.1.len y1.2.1.cap), (.int .i64 (w64 (x54 + 1)))]) (.one (.leaf .slice)) fun x87 =>
                .look (opS Try.prog (.slice ty_s_int (.tmp 0) none (some (.tmp 1)) none) ty_s_int [(.slice y1.2.2.1.a y1.2.2.1.len y1.2.2.1.cap), (.int .i64 x54)]) (.one (.leaf .slice)) fun x91 =>
                .look (opS Try.prog (.slice ty_s_int (.tmp 0) (some (.tmp 1)) none none) ty_s_int [(.slice y1.2.2.1.a y1.2.2.1.len y1.2.2.1.cap), (.int .i64 (w64 (x54 + 1)))]) (.one (.leaf .slice)) fun x96 =>
                .act (opS Try.prog (.call { callee := .builtin .append, args := #[(.const (.slice none 0 0)), (.tmp 0)], argTypes := #[ty_s_int, ty_s_int] }) ty_s_int [(.slice x82.a x82.len x82.cap)]) (.one (.leaf .slice)) fun x83 =>
                .check (opS Try.prog (.slice ty_s_int (.tmp 0) (some (.tmp 1)) none none) ty_s_int [(.slice y1.2.2.1.a y1.2.2.1.len y1.2.2.1.cap), (.int .i64 (w64 (x54 + 1)))]) (.slice x96.a x96.len x96.cap) <|
                .check (opS Try.prog (.slice ty_s_int (.tmp 0) none (some (.tmp 1)) none) ty_s_int [(.slice y1.2.2.1.a y1.2.2.1.len y1.2.2.1.cap), (.int .i64 x54)]) (.slice x91.a x91.len x91.cap) <|
                .check (opS Try.prog (.slice ty_s_int (.tmp 0) (some (.tmp 1)) none none) ty_s_int [(.slice y1.2.1.a y1.2.1.len y1.2.1.cap), (.int .i64 (w64 (x54 + 1)))]) (.slice x87.a x87.len x87.cap) <|
                .act (opS Try.prog (.call { callee := .builtin .append, args := #[(.tmp 0), (.tmp 1)], argTypes := #[ty_s_int, ty_s_int] }) ty_s_int [(.slice x83.a x83.len x83.cap), (.slice x87.a x87.len x87.cap)]) (.one (.leaf .slice)) fun x88 =>
                .check (opS Try.prog (.slice ty_s_int (.tmp 0) (some (.tmp 1)) none none) ty_s_int [(.slice y1.2.2.1.a y1.2.2.1.len y1.2.2.1.cap), (.int .i64 (w64 (x54 + 1)))]) (.slice x96.a x96.len x96.cap) <|
                .check (opS Try.prog (.slice ty_s_int (.tmp 0) none (some (.tmp 1)) none) ty_s_int [(.slice y1.2.2.1.a y1.2.2.1.len y1.2.2.1.cap), (.int .i64 x54)]) (.slice x91.a x91.len x91.cap) <|
                .act (opS Try.prog (.call { callee := .builtin .append, args := #[(.const (.slice none 0 0)), (.tmp 0)], argTypes := #[ty_s_int, ty_s_int] }) ty_s_int [(.slice x91.a x91.len x91.cap)]) (.one (.leaf .slice)) fun x92 =>
                .check (opS Try.prog (.slice ty_s_int (.tmp 0) (some (.tmp 1)) none none) ty_s_int [(.slice y1.2.2.1.a y1.2.2.1.len y1.2.2.1.cap), (.int .i64 (w64 (x54 + 1)))]) (.slice x96.a x96.len x96.cap) <|
                .act (opS Try.prog (.call { callee := .builtin .append, args := #[(.tmp 0), (.tmp 1)], argTypes := #[ty_s_int, ty_s_int] }) ty_s_int [(.slice x92.a x92.len x92.cap), (.slice x96.a x96.len x96.cap)]) (.one (.leaf .slice)) fun x97 =>
                .again 386 [(.bool y1.1), (.slice x88.a x88.len x88.cap), (.slice x97.a x97.len x97.cap), (.int .i64 (w64 (y1.2.2.2.1 + 1)))]))))
        else (
          .qcall f_handle_Pack [(.int .i64 (w64 (8 * (Int.tmod (w64 (Int.tdiv x41 4)) 60)))), (.int .i64 (w64 (y1.2.2.2.1 + 1))), (.int .i64 (Int.tmod (w64 (Int.tdiv x41 240)) 4))] (.one (.leaf (.int .i64))) fun x107 =>
          .call f_arena_Arena_Born [(.pointer x24), (.int .i64 x107)] (.one (.leaf .bool)) fun x110 =>
          bif (!x110) then (
            .again 386 [(.bool y1.1), (.slice y1.2.1.a y1.2.1.len y1.2.1.cap), (.slice y1.2.2.1.a y1.2.2.1.len y1.2.2.1.cap), (.int .i64 (w64 (y1.2.2.2.1 + 1)))])
          else (
            .qcall f_handle_Open [(.int .i64 x107)] (.tup [(.leaf (.int .i64)), (.leaf (.int .i64)), (.leaf (.int .i64)), (.leaf .bool)]) fun x114 =>
            .loop 1152 t_magpielaw09_ArenaApart_L2_sh [(.bool y1.1), (.int .i64 0)] (t_magpielaw09_ArenaApart_L2 p1 x24 y1 x107 x114))))
      else (
        .qcall f_handle_Pack [(.int .i64 (w64 (8 * (Int.tmod (w64 (Int.tdiv x41 4)) 60)))), (.int .i64 (w64 (y1.2.2.2.1 + 1))), (.int .i64 (Int.tmod (w64 (Int.tdiv x41 240)) 4))] (.one (.leaf (.int .i64))) fun x107 =>
        .call f_arena_Arena_Born [(.pointer x24), (.int .i64 x107)] (.one (.leaf .bool)) fun x110 =>
        bif (!x110) then (
          .again 386 [(.bool y1.1), (.slice y1.2.1.a y1.2.1.len y1.2.1.cap), (.slice y1.2.2.1.a y1.2.2.1.len y1.2.2.1.cap), (.int .i64 (w64 (y1.2.2.2.1 + 1)))])
        else (
          .qcall f_handle_Open [(.int .i64 x107)] (.tup [(.leaf (.int .i64)), (.leaf (.int .i64)), (.leaf (.int .i64)), (.leaf .bool)]) fun x114 =>
          .loop 1152 t_magpielaw09_ArenaApart_L5_sh [(.bool y1.1), (.int .i64 0)] (t_magpielaw09_ArenaApart_L5 p1 x24 y1 x107 x114))))
    else (
      t_magpielaw09_ArenaApart_J19 x24))
  else (
    t_magpielaw09_ArenaApart_J19 x24)
noncomputable def t_magpielaw09_ArenaApart (p0 : Sl) (p1 : Bool) : Tree :=
  .call f_arena_New [(.int .i64 0), (.int .i64 512), (.bool p1)] (.one (.leaf .ptr)) fun x24 =>
  .look (opS Try.prog (.binOp .eql ty_p_arena_Arena (.tmp 0) (.const (.pointer none)) ty_p_arena_Arena) ty_bool [(.pointer x24)]) (.one (.leaf .bool)) fun x26 =>
  bif x26 then (
    .ret (.bool false))
  else (
    .loop 386 t_magpielaw09_ArenaApart_L1_sh [(.bool false), (.slice none 0 0), (.slice none 0 0), (.int .i64 0)] (t_magpielaw09_ArenaApart_L1 p0 p1 x24))
theorem t_magpielaw09_ArenaApart_eq (p0 : Sl) (p1 : Bool) : funcTree Try.prog { quiet := [17, 18, 19, 21, 22, 48, 49, 51, 77], quietTmp := true, fncs := [], ifcs := [] } Try.f14 [(.slice p0.a p0.len p0.cap), (.bool p1)] = t_magpielaw09_ArenaApart p0 p1 := by kernel_rfl
theorem t_magpielaw09_ArenaApart_spec {p0 : Sl} {p1 : Bool} {H : Heap} {R : Value → Heap → Prop} (h : ∀ L, wp Try.prog (t_magpielaw09_ArenaApart p0 p1) L H R) : SpecF Try.prog f_magpielaw09_ArenaApart #[(.slice p0.a p0.len p0.cap), (.bool p1)] H R :=
  spec_of_tree (cfg := { quiet := [17, 18, 19, 21, 22, 48, 49, 51, 77], quietTmp := true, fncs := [], ifcs := [] }) Try.func14 fun L => (t_magpielaw09_ArenaApart_eq p0 p1).symm ▸ h L

/- magpie/magpielaw09.ArenaCounts -/
@[reducible] def t_magpielaw09_ArenaCounts_L2_sh : List Sh1 := [(.leaf (.int .i64)), (.leaf (.int .i64)), (.leaf (.int .i64)), (.leaf (.int .i64))]
noncomputable def t_magpielaw09_ArenaCounts_L2 (x23 : Int) (x8 : Addr) (x10 : Addr) (y1 : HL Sh1.T [(.leaf .bool), (.leaf (.int .i64))]) (x15 : Addr) (y2 : HL Sh1.T t_magpielaw09_ArenaCounts_L2_sh) : Tree :=
  bif (decide ((y2.2.2.2.1 : Int) < 8)) then (
    .look (opS Try.prog (.indexAddr ty_a8_bool (.tmp 0) (.tmp 1)) ty_unit [(.pointer (some x10)), (.int .i64 y2.2.2.2.1)]) (.one (.leaf .addr)) fun x130 =>
    .ld x130 .bool fun x131 =>
    bif x131 then (
      .look (opS Try.prog (.indexAddr ty_a8_int (.tmp 0) (.tmp 1)) ty_unit [(.pointer (some x8)), (.int .i64 y2.2.2.2.1)]) (.one (.leaf .addr)) fun x136 =>
      .ld x136 (.int .i64) fun x137 =>
      bif ((x137 : Int) == 1) then (
        .again 2112 [(.int .i64 (w64 (y2.1 + x23))), (.int .i64 (w64 (y2.2.1 + x23))), (.int .i64 y2.2.2.1), (.int .i64 (w64 (y2.2.2.2.1 + 1)))])
      else (
        bif ((x137 : Int) == 2) then (
          .again 2112 [(.int .i64 (w64 (y2.1 + x23))), (.int .i64 y2.2.1), (.int .i64 (w64 (y2.2.2.1 + x23))), (.int .i64 (w64 (y2.2.2.2.1 + 1)))])
        else (
          .again 2112 [(.int .i64 (w64 (y2.1 + x23))), (.int .i64 y2.2.1), (.int .i64 y2.2.2.1), (.int .i64 (w64 (y2.2.2.2.1 + 1)))])))
    else (
      .look (opS Try.prog (.indexAddr ty_a8_int (.tmp 0) (.tmp 1)) ty_unit [(.pointer (some x8)), (.int .i64 y2.2.2.2.1)]) (.one (.leaf .addr)) fun x136 =>
      .ld x136 (.int .i64) fun x137 =>
      bif ((x137 : Int) == 1) then (
        .again 2112 [(.int .i64 y2.1), (.int .i64 (w64 (y2.2.1 + x23))), (.int .i64 y2.2.2.1), (.int .i64 (w64 (y2.2.2.2.1 + 1)))])
      else (
        bif ((x137 : Int) == 2) then (
          .again 2112 [(.int .i64 y2.1), (.int .i64 y2.2.1), (.int .i64 (w64 (y2.2.2.1 + x23))), (.int .i64 (w64 (y2.2.2.2.1 + 1)))])
        else (
          .again 2112 [(.int .i64 y2.1), (.int .i64 y2.2.1), (.int .i64 y2.2.2.1), (.int .i64 (w64 (y2.2.2.2.1 + 1)))]))))
  else (
    .ld x15 (.int .i64) fun x149 =>
    bif ((x149 : Int) != y2.1) then (
      .ret (.bool false))
    else (
      .ld (x15.add 1) (.int .i64) fun x154 =>
      bif ((x154 : Int) != y2.2.1) then (
        .ret (.bool false))
      else (
        .ld (x15.add 2) (.int .i64) fun x160 =>
        bif ((x160 : Int) != y2.2.2.1) then (
          .ret (.bool false))
        else (
          .ld (x15.add 3) (.int .i64) fun x166 =>
          bif ((x166 : Int) != (w64 ((w64 (y2.1 - y2.2.1)) - y2.2.2.1))) then (
            .ret (.bool false))
          else (
            .again 577 [(.bool y1.1), (.int .i64 (w64 (y1.2.1 + 1)))])))))

noncomputable def t_magpielaw09_ArenaCounts_J8 (x23 : Int) (x24 : Option Addr) (x8 : Addr) (x10 : Addr) (y1 : HL Sh1.T [(.leaf .bool), (.leaf (.int .i64))]) : Tree :=
  .call f_arena_Arena_Count [(.pointer x24)] (.one (.agg [(.int .i64), (.int .i64), (.int .i64), (.int .i64)])) fun x124 =>
  .newP (.cells #[(.int .i64 0), (.int .i64 0), (.int .i64 0), (.int .i64 0)] ty_api_Count) fun x15 =>
  .stA x15 [(.int .i64 x124.1), (.int .i64 x124.2.1), (.int .i64 x124.2.2.1), (.int .i64 x124.2.2.2.1)] <|
  .loop 2112 t_magpielaw09_ArenaCounts_L2_sh [(.int .i64 0), (.int .i64 0), (.int .i64 0), (.int .i64 0)] (t_magpielaw09_ArenaCounts_L2 x23 x8 x10 y1 x15)

noncomputable def t_magpielaw09_ArenaCounts_J60 (x24 : Option Addr) : Tree :=
  .call f_arena_Arena_Fault [(.pointer x24)] (.one (.leaf .bool)) fun x175 =>
  bif (!x175) then (
    .call f_arena_Arena_Uses [(.pointer x24)] (.one (.leaf (.int .i64))) fun x179 =>
    bif ((x179 : Int) == 0) then (
      .call f_magpielaw09_awake [] (.one (.leaf .bool)) fun x183 =>
      .ret (.bool x183))
    else (
      .ret (.bool false)))
  else (
    .ret (.bool false))

@[reducible] def t_magpielaw09_ArenaCounts_L1_sh : List Sh1 := [(.leaf .bool), (.leaf (.int .i64))]
noncomputable def t_magpielaw09_ArenaCounts_L1 (p1 : Sl) (x21 : Int) (x23 : Int) (x24 : Option Addr) (x8 : Addr) (x9 : Addr) (x10 : Addr) (y1 : HL Sh1.T t_magpielaw09_ArenaCounts_L1_sh) : Tree :=
  bif (decide ((y1.2.1 : Int) < ((p1.len : Nat) : Int))) then (
    bif (decide ((y1.2.1 : Int) < 60)) then (
      .look (opS Try.prog (.indexAddr ty_s_int (.tmp 0) (.tmp 1)) ty_unit [(.slice p1.a p1.len p1.cap), (.int .i64 y1.2.1)]) (.one (.leaf .addr)) fun x43 =>
      .ld x43 (.int .i64) fun x44 =>
      .qcall f_magpielaw00_Place [(.int .i64 x44), (.int .i64 1048576)] (.one (.leaf (.int .i64))) fun x45 =>
      .look (opS Try.prog (.indexAddr ty_a8_int (.tmp 0) (.tmp 1)) ty_unit [(.pointer (some x9)), (.int .i64 (Int.tmod (w64 (Int.tdiv x45 3)) 8))]) (.one (.leaf .addr)) fun x53 =>
      .ld x53 (.int .i64) fun x54 =>
      .qcall f_handle_Pack [(.int .i64 (w64 (x23 * (Int.tmod (w64 (Int.tdiv x45 3)) 8)))), (.int .i64 (imax x54 1)), (.int .i64 x21)] (.one (.leaf (.int .i64))) fun x57 =>
      bif (((Int.tmod x45 3) : Int) == 0) then (
        .look (opS Try.prog (.indexAddr ty_a8_int (.tmp 0) (.tmp 1)) ty_unit [(.pointer (some x9)), (.int .i64 (Int.tmod (w64 (Int.tdiv x45 3)) 8))]) (.one (.leaf .addr)) fun x80 =>
        .ld x80 (.int .i64) fun x81 =>
        .qcall f_handle_Pack [(.int .i64 (w64 (x23 * (Int.tmod (w64 (Int.tdiv x45 3)) 8)))), (.int .i64 (w64 (x81 + 1))), (.int .i64 x21)] (.one (.leaf (.int .i64))) fun x84 =>
        .look (opS Try.prog (.indexAddr ty_a8_int (.tmp 0) (.tmp 1)) ty_unit [(.pointer (some x8)), (.int .i64 (Int.tmod (w64 (Int.tdiv x45 3)) 8))]) (.one (.leaf .addr)) fun x89 =>
        .ld x89 (.int .i64) fun x90 =>
        .call f_arena_Arena_Born [(.pointer x24), (.int .i64 x84)] (.one (.leaf .bool)) fun x87 =>
        .check (ldS x89) (.int .i64 x90) <|
        .check (opS Try.prog (.indexAddr ty_a8_int (.tmp 0) (.tmp 1)) ty_unit [(.pointer (some x8)), (.int .i64 (Int.tmod (w64 (Int.tdiv x45 3)) 8))]) (.pointer (some x89)) <|
        bif (!(x87 == ((x90 : Int) == 0))) then (
          .ret (.bool false))
        else (
          .look (opS Try.prog (.indexAddr ty_a8_int (.tmp 0) (.tmp 1)) ty_unit [(.pointer (some x8)), (.int .i64 (Int.tmod (w64 (Int.tdiv x45 3)) 8))]) (.one (.leaf .addr)) fun x94 =>
          .ld x94 (.int .i64) fun x95 =>
          bif ((x95 : Int) == 0) then (
            .look (opS Try.prog (.indexAddr ty_a8_int (.tmp 0) (.tmp 1)) ty_unit [(.pointer (some x9)), (.int .i64 (Int.tmod (w64 (Int.tdiv x45 3)) 8))]) (.one (.leaf .addr)) fun x101 =>
            .ld x101 (.int .i64) fun x102 =>
            .look (opS Try.prog (.indexAddr ty_a8_int (.tmp 0) (.tmp 1)) ty_unit [(.pointer (some x8)), (.int .i64 (Int.tmod (w64 (Int.tdiv x45 3)) 8))]) (.one (.leaf .addr)) fun x104 =>
            .st x104 (.int .i64 1) <|
            .check (ldS x101) (.int .i64 x102) <|
            .check (opS Try.prog (.indexAddr ty_a8_int (.tmp 0) (.tmp 1)) ty_unit [(.pointer (some x9)), (.int .i64 (Int.tmod (w64 (Int.tdiv x45 3)) 8))]) (.pointer (some x101)) <|
            .look (opS Try.prog (.indexAddr ty_a8_int (.tmp 0) (.tmp 1)) ty_unit [(.pointer (some x9)), (.int .i64 (Int.tmod (w64 (Int.tdiv x45 3)) 8))]) (.one (.leaf .addr)) fun x105 =>
            .st x105 (.int .i64 (w64 (x102 + 1))) <|
            .look (opS Try.prog (.indexAddr ty_a8_bool (.tmp 0) (.tmp 1)) ty_unit [(.pointer (some x10)), (.int .i64 (Int.tmod (w64 (Int.tdiv x45 3)) 8))]) (.one (.leaf .addr)) fun x106 =>
            .st x106 (.bool true) <|
            t_magpielaw09_ArenaCounts_J8 x23 x24 x8 x10 y1)
          else (
            t_magpielaw09_ArenaCounts_J8 x23 x24 x8 x10 y1)))
      else (
        bif (((Int.tmod x45 3) : Int) == 1) then (
          .look (opS Try.prog (.indexAddr ty_a8_int (.tmp 0) (.tmp 1)) ty_unit [(.pointer (some x8)), (.int .i64 (Int.tmod (w64 (Int.tdiv x45 3)) 8))]) (.one (.leaf .addr)) fun x113 =>
          .ld x113 (.int .i64) fun x114 =>
          .call f_arena_Arena_Retire [(.pointer x24), (.int .i64 x57)] (.one (.leaf .bool)) fun x111 =>
          .check (ldS x113) (.int .i64 x114) <|
          .check (opS Try.prog (.indexAddr ty_a8_int (.tmp 0) (.tmp 1)) ty_unit [(.pointer (some x8)), (.int .i64 (Int.tmod (w64 (Int.tdiv x45 3)) 8))]) (.pointer (some x113)) <|
          bif (!(x111 == ((x114 : Int) == 1))) then (
            .ret (.bool false))
          else (
            .look (opS Try.prog (.indexAddr ty_a8_int (.tmp 0) (.tmp 1)) ty_unit [(.pointer (some x8)), (.int .i64 (Int.tmod (w64 (Int.tdiv x45 3)) 8))]) (.one (.leaf .addr)) fun x118 =>
            .ld x118 (.int .i64) fun x119 =>
            bif ((x119 : Int) == 1) then (
              .look (opS Try.prog (.indexAddr ty_a8_int (.tmp 0) (.tmp 1)) ty_unit [(.pointer (some x8)), (.int .i64 (Int.tmod (w64 (Int.tdiv x45 3)) 8))]) (.one (.leaf .addr)) fun x122 =>
              .st x122 (.int .i64 2) <|
              t_magpielaw09_ArenaCounts_J8 x23 x24 x8 x10 y1)
            else (
              t_magpielaw09_ArenaCounts_J8 x23 x24 x8 x10 y1)))
        else (
          .look (opS Try.prog (.indexAddr ty_a8_int (.tmp 0) (.tmp 1)) ty_unit [(.pointer (some x8)), (.int .i64 (Int.tmod (w64 (Int.tdiv x45 3)) 8))]) (.one (.leaf .addr)) fun x64 =>
          .ld x64 (.int .i64) fun x65 =>
          .call f_arena_Arena_Died [(.pointer x24), (.int .i64 x57)] (.one (.leaf .bool)) fun x62 =>
          .check (ldS x64) (.int .i64 x65) <|
          .check (opS Try.prog (.indexAddr ty_a8_int (.tmp 0) (.tmp 1)) ty_unit [(.pointer (some x8)), (.int .i64 (Int.tmod (w64 (Int.tdiv x45 3)) 8))]) (.pointer (some x64)) <|
          bif (!(x62 == ((x65 : Int) == 2))) then (
            .ret (.bool false))
          else (
            .look (opS Try.prog (.indexAddr ty_a8_int (.tmp 0) (.tmp 1)) ty_unit [(.pointer (some x8)), (.int .i64 (Int.tmod (w64 (Int.tdiv x45 3)) 8))]) (.one (.leaf .addr)) fun x69 =>
            .ld x69 (.int .i64) fun x70 =>
            bif ((x70 : Int) == 2) then (
              .look (opS Try.prog (.indexAddr ty_a8_int (.tmp 0) (.tmp 1)) ty_unit [(.pointer (some x8)), (.int .i64 (Int.tmod (w64 (Int.tdiv x45 3)) 8))]) (.one (.leaf .addr)) fun x73 =>
              .st x73 (.int .i64 0) <|
              t_magpielaw09_ArenaCounts_J8 x23 x24 x8 x10 y1)
            else (
              t_magpielaw09_ArenaCounts_J8 x23 x24 x8 x10 y1)))))
    else (
      t_magpielaw09_ArenaCounts_J60 x24))
  else (
    t_magpielaw09_ArenaCounts_J60 x24)
noncomputable def t_magpielaw09_ArenaCounts (p0 : Int) (p1 : Sl) : Tree :=
  .qcall f_magpielaw00_Place [(.int .i64 p0), (.int .i64 4)] (.one (.leaf (.int .i64))) fun x21 =>
  .qcall f_handle_Size [(.int .i64 x21)] (.one (.leaf (.int .i64))) fun x23 =>
  .call f_arena_New [(.int .i64 0), (.int .i64 512), (.bool false)] (.one (.leaf .ptr)) fun x24 =>
  .look (opS Try.prog (.binOp .eql ty_p_arena_Arena (.tmp 0) (.const (.pointer none)) ty_p_arena_Arena) ty_bool [(.pointer x24)]) (.one (.leaf .bool)) fun x26 =>
  bif x26 then (
    .ret (.bool false))
  else (
    bif (decide ((x23 : Int) < 8)) then (
      .ret (.bool false))
    else (
      .newP (.cells #[(.int .i64 0), (.int .i64 0), (.int .i64 0), (.int .i64 0), (.int .i64 0), (.int .i64 0), (.int .i64 0), (.int .i64 0)] ty_a8_int) fun x8 =>
      .newP (.cells #[(.int .i64 0), (.int .i64 0), (.int .i64 0), (.int .i64 0), (.int .i64 0), (.int .i64 0), (.int .i64 0), (.int .i64 0)] ty_a8_int) fun x9 =>
      .newP (.cells #[(.bool false), (.bool false), (.bool false), (.bool false), (.bool false), (.bool false), (.bool false), (.bool false)] ty_a8_bool) fun x10 =>
      .loop 577 t_magpielaw09_ArenaCounts_L1_sh [(.bool false), (.int .i64 0)] (t_magpielaw09_ArenaCounts_L1 p1 x21 x23 x24 x8 x9 x10)))
theorem t_magpielaw09_ArenaCounts_eq (p0 : Int) (p1 : Sl) : funcTree Try.prog { quiet := [17, 18, 19, 21, 22, 48, 49, 51, 77], quietTmp := true, fncs := [], ifcs := [] } Try.f15 [(.int .i64 p0), (.slice p1.a p1.len p1.cap)] = t_magpielaw09_ArenaCounts p0 p1 := by kernel_rfl
theorem t_magpielaw09_ArenaCounts_spec {p0 : Int} {p1 : Sl} {H : Heap} {R : Value → Heap → Prop} (h : ∀ L, wp Try.prog (t_magpielaw09_ArenaCounts p0 p1) L H R) : SpecF Try.prog f_magpielaw09_ArenaCounts #[(.int .i64 p0), (.slice p1.a p1.len p1.cap)] H R :=
  spec_of_tree (cfg := { quiet := [17, 18, 19, 21, 22, 48, 49, 51, 77], quietTmp := true, fncs := [], ifcs := [] }) Try.func15 fun L => (t_magpielaw09_ArenaCounts_eq p0 p1).symm ▸ h L

end Go.Proofs.Ytgnifhkjpekkdaa
