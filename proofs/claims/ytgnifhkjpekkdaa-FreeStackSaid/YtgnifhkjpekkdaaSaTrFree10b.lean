import Derived.Test.YtgnifhkjpekkdaaSaNames
set_option linter.unusedVariables false
set_option maxRecDepth 10000
namespace Go.Proofs.Ytgnifhkjpekkdaa
open Go Go.Fw
/- magpie/magpielaw10.FreeStack -/
@[reducible] def t_magpielaw10_FreeStack_L2_sh : List Sh1 := [(.leaf .bool), (.leaf (.int .i64))]
noncomputable def t_magpielaw10_FreeStack_L2 (x6 : Addr) (y1 : HL Sh1.T [(.leaf .bool), (.leaf (.int .i64))]) (x41 : Int) (x154 : Sl) (y2 : HL Sh1.T t_magpielaw10_FreeStack_L2_sh) : Tree :=
  bif (decide ((y2.2.1 : Int) < ((x154.len : Nat) : Int))) then (
    .look (opS Try.prog (.indexAddr ty_s_int (.tmp 0) (.tmp 1)) ty_unit [(.slice x154.a x154.len x154.cap), (.int .i64 y2.2.1)]) (.one (.leaf .addr)) fun x170 =>
    .ld x170 (.int .i64) fun x171 =>
    .look (opS Try.prog (.indexAddr ty_a12_s_int (.tmp 0) (.tmp 1)) ty_unit [(.pointer (some x6)), (.int .i64 (w64 ((w64 (4 * (Int.tmod (w64 (Int.tdiv x41 2)) 3))) + (Int.tmod (w64 (Int.tdiv x41 6)) 4))))]) (.one (.leaf .addr)) fun x173 =>
    .ld x173 .slice fun x174 =>
    .look (opS Try.prog (.indexAddr ty_s_int (.tmp 0) (.tmp 1)) ty_unit [(.slice x174.a x174.len x174.cap), (.int .i64 (w64 ((w64 (((x154.len : Nat) : Int) - 1)) - y2.2.1)))]) (.one (.leaf .addr)) fun x180 =>
    .ld x180 (.int .i64) fun x181 =>
    bif ((x171 : Int) != x181) then (
      .ret (.bool false))
    else (
      .again 1920 [(.bool y2.1), (.int .i64 (w64 (y2.2.1 + 1)))]))
  else (
    .again 513 [(.bool y2.1), (.int .i64 (w64 (y1.2.1 + 1)))])

noncomputable def t_magpielaw10_FreeStack_J2 (x3 : Addr) (x24 : Option Addr) (x6 : Addr) (y1 : HL Sh1.T [(.leaf .bool), (.leaf (.int .i64))]) (x41 : Int) : Tree :=
  .ldA x3 [(.int .i64), (.int .i64), (.int .i64), (.int .i64), (.int .i64)] fun x151 =>
  .call f_free_List [(.pointer x24), (.agg #[(.int .i64 x151.1), (.int .i64 x151.2.1), (.int .i64 x151.2.2.1), (.int .i64 x151.2.2.2.1), (.int .i64 x151.2.2.2.2.1)]), (.int .i64 (Int.tmod (w64 (Int.tdiv x41 2)) 3)), (.int .i64 (Int.tmod (w64 (Int.tdiv x41 6)) 4))] (.one (.leaf .slice)) fun x154 =>
  .look (opS Try.prog (.indexAddr ty_a12_s_int (.tmp 0) (.tmp 1)) ty_unit [(.pointer (some x6)), (.int .i64 (w64 ((w64 (4 * (Int.tmod (w64 (Int.tdiv x41 2)) 3))) + (Int.tmod (w64 (Int.tdiv x41 6)) 4))))]) (.one (.leaf .addr)) fun x158 =>
  .ld x158 .slice fun x159 =>
  bif ((((x154.len : Nat) : Int) : Int) != ((x159.len : Nat) : Int)) then (
    .ret (.bool false))
  else (
    .loop 1920 t_magpielaw10_FreeStack_L2_sh [(.bool y1.1), (.int .i64 0)] (t_magpielaw10_FreeStack_L2 x6 y1 x41 x154))

noncomputable def t_magpielaw10_FreeStack_J7 (x3 : Addr) (x24 : Option Addr) (x6 : Addr) (x7 : Addr) (y1 : HL Sh1.T [(.leaf .bool), (.leaf (.int .i64))]) (x41 : Int) (x100 : HL Sh1.T [(.leaf (.int .i64)), (.leaf .bool)]) : Tree :=
  bif x100.2.1 then (
    .look (opS Try.prog (.indexAddr ty_a32_bool (.tmp 0) (.tmp 1)) ty_unit [(.pointer (some x7)), (.int .i64 (w64 (Int.tdiv x100.1 8)))]) (.one (.leaf .addr)) fun x138 =>
    .st x138 (.bool false) <|
    .look (opS Try.prog (.indexAddr ty_a12_s_int (.tmp 0) (.tmp 1)) ty_unit [(.pointer (some x6)), (.int .i64 (w64 ((w64 (4 * (Int.tmod (w64 (Int.tdiv x41 2)) 3))) + (Int.tmod (w64 (Int.tdiv x41 6)) 4))))]) (.one (.leaf .addr)) fun x141 =>
    .ld x141 .slice fun x142 =>
    .look (opS Try.prog (.indexAddr ty_a12_s_int (.tmp 0) (.tmp 1)) ty_unit [(.pointer (some x6)), (.int .i64 (w64 ((w64 (4 * (Int.tmod (w64 (Int.tdiv x41 2)) 3))) + (Int.tmod (w64 (Int.tdiv x41 6)) 4))))]) (.one (.leaf .addr)) fun x144 =>
    .ld x144 .slice fun x145 =>
    .look (opS Try.prog (.slice ty_s_int (.tmp 0) none (some (.tmp 1)) none) ty_s_int [(.slice x142.a x142.len x142.cap), (.int .i64 (w64 (((x145.len : Nat) : Int) - 1)))]) (.one (.leaf .slice)) fun x148 =>
    .look (opS Try.prog (.indexAddr ty_a12_s_int (.tmp 0) (.tmp 1)) ty_unit [(.pointer (some x6)), (.int .i64 (w64 ((w64 (4 * (Int.tmod (w64 (Int.tdiv x41 2)) 3))) + (Int.tmod (w64 (Int.tdiv x41 6)) 4))))]) (.one (.leaf .addr)) fun x149 =>
    .st x149 (.slice x148.a x148.len x148.cap) <|
    t_magpielaw10_FreeStack_J2 x3 x24 x6 y1 x41)
  else (
    t_magpielaw10_FreeStack_J2 x3 x24 x6 y1 x41)

noncomputable def t_magpielaw10_FreeStack_J16 (x3 : Addr) (x24 : Option Addr) (x6 : Addr) (x7 : Addr) (y1 : HL Sh1.T [(.leaf .bool), (.leaf (.int .i64))]) (x41 : Int) (x88 : Option Addr) : Tree :=
  .look (opS Try.prog (.binOp .eql ty_p_free_Pop (.tmp 0) (.const (.pointer none)) ty_p_free_Pop) ty_bool [(.pointer x88)]) (.one (.leaf .bool)) fun x90 =>
  bif x90 then (
    .ret (.bool false))
  else (
    .call f_magpielaw10_run [(.pointer x24), (.iface ty_p_free_Pop (.pointer x88))] (.one (.leaf .bool)) fun x95 =>
    bif (!x95) then (
      .ret (.bool false))
    else (
      .call f_free_Pop_Base [(.pointer x88)] (.tup [(.leaf (.int .i64)), (.leaf .bool)]) fun x100 =>
      .look (opS Try.prog (.indexAddr ty_a12_s_int (.tmp 0) (.tmp 1)) ty_unit [(.pointer (some x6)), (.int .i64 (w64 ((w64 (4 * (Int.tmod (w64 (Int.tdiv x41 2)) 3))) + (Int.tmod (w64 (Int.tdiv x41 6)) 4))))]) (.one (.leaf .addr)) fun x105 =>
      .ld x105 .slice fun x106 =>
      bif (!(x100.2.1 == (decide ((((x106.len : Nat) : Int) : Int) > 0)))) then (
        .ret (.bool false))
      else (
        bif x100.2.1 then (
          .look (opS Try.prog (.indexAddr ty_a12_s_int (.tmp 0) (.tmp 1)) ty_unit [(.pointer (some x6)), (.int .i64 (w64 ((w64 (4 * (Int.tmod (w64 (Int.tdiv x41 2)) 3))) + (Int.tmod (w64 (Int.tdiv x41 6)) 4))))]) (.one (.leaf .addr)) fun x115 =>
          .ld x115 .slice fun x116 =>
          .look (opS Try.prog (.indexAddr ty_a12_s_int (.tmp 0) (.tmp 1)) ty_unit [(.pointer (some x6)), (.int .i64 (w64 ((w64 (4 * (Int.tmod (w64 (Int.tdiv x41 2)) 3))) + (Int.tmod (w64 (Int.tdiv x41 6)) 4))))]) (.one (.leaf .addr)) fun x118 =>
          .ld x118 .slice fun x119 =>
          .look (opS Try.prog (.indexAddr ty_s_int (.tmp 0) (.tmp 1)) ty_unit [(.slice x116.a x116.len x116.cap), (.int .i64 (w64 (((x119.len : Nat) : Int) - 1)))]) (.one (.leaf .addr)) fun x122 =>
          .ld x122 (.int .i64) fun x123 =>
          bif ((x100.1 : Int) != x123) then (
            .ret (.bool false))
          else (
            bif (!x100.2.1) then (
              bif ((x100.1 : Int) != 0) then (
                .ret (.bool false))
              else (
                t_magpielaw10_FreeStack_J7 x3 x24 x6 x7 y1 x41 x100))
            else (
              t_magpielaw10_FreeStack_J7 x3 x24 x6 x7 y1 x41 x100)))
        else (
          bif (!x100.2.1) then (
            bif ((x100.1 : Int) != 0) then (
              .ret (.bool false))
            else (
              t_magpielaw10_FreeStack_J7 x3 x24 x6 x7 y1 x41 x100))
          else (
            t_magpielaw10_FreeStack_J7 x3 x24 x6 x7 y1 x41 x100)))))

noncomputable def t_magpielaw10_FreeStack_J28 (x24 : Option Addr) : Tree :=
  .call f_arena_Arena_Fault [(.pointer x24)] (.one (.leaf .bool)) fun x184 =>
  bif (!x184) then (
    .call f_magpielaw10_awake [] (.one (.leaf .bool)) fun x187 =>
    .ret (.bool x187))
  else (
    .ret (.bool false))

@[reducible] def t_magpielaw10_FreeStack_L1_sh : List Sh1 := [(.leaf .bool), (.leaf (.int .i64))]
noncomputable def t_magpielaw10_FreeStack_L1 (p0 : Sl) (x3 : Addr) (x24 : Option Addr) (x6 : Addr) (x7 : Addr) (y1 : HL Sh1.T t_magpielaw10_FreeStack_L1_sh) : Tree :=
  bif (decide ((y1.2.1 : Int) < ((p0.len : Nat) : Int))) then (
    bif (decide ((y1.2.1 : Int) < 60)) then (
      .look (opS Try.prog (.indexAddr ty_s_int (.tmp 0) (.tmp 1)) ty_unit [(.slice p0.a p0.len p0.cap), (.int .i64 y1.2.1)]) (.one (.leaf .addr)) fun x39 =>
      .ld x39 (.int .i64) fun x40 =>
      .qcall f_magpielaw00_Place [(.int .i64 x40), (.int .i64 1048576)] (.one (.leaf (.int .i64))) fun x41 =>
      bif (((Int.tmod x41 2) : Int) == 0) then (
        .look (opS Try.prog (.indexAddr ty_a32_bool (.tmp 0) (.tmp 1)) ty_unit [(.pointer (some x7)), (.int .i64 (Int.tmod (w64 (Int.tdiv x41 24)) 32))]) (.one (.leaf .addr)) fun x60 =>
        .ld x60 .bool fun x61 =>
        bif (!x61) then (
          .ldA x3 [(.int .i64), (.int .i64), (.int .i64), (.int .i64), (.int .i64)] fun x65 =>
          .call f_free_NewPush [(.agg #[(.int .i64 x65.1), (.int .i64 x65.2.1), (.int .i64 x65.2.2.1), (.int .i64 x65.2.2.2.1), (.int .i64 x65.2.2.2.2.1)]), (.int .i64 (Int.tmod (w64 (Int.tdiv x41 2)) 3)), (.int .i64 (Int.tmod (w64 (Int.tdiv x41 6)) 4)), (.int .i64 (w64 (8 * (Int.tmod (w64 (Int.tdiv x41 24)) 32))))] (.one (.leaf .ptr)) fun x70 =>
          .call f_magpielaw10_run [(.pointer x24), (.iface ty_p_free_Push (.pointer x70))] (.one (.leaf .bool)) fun x72 =>
          bif (!x72) then (
            .ret (.bool false))
          else (
            .look (opS Try.prog (.indexAddr ty_a12_s_int (.tmp 0) (.tmp 1)) ty_unit [(.pointer (some x6)), (.int .i64 (w64 ((w64 (4 * (Int.tmod (w64 (Int.tdiv x41 2)) 3))) + (Int.tmod (w64 (Int.tdiv x41 6)) 4))))]) (.one (.leaf .addr)) fun x77 =>
            .ld x77 .slice fun x78 =>
            .newS (.cells #[(.int .i64 (w64 (8 * (Int.tmod (w64 (Int.tdiv x41 24)) 32))))] ty_int) 1 fun x81 =>
            .act (opS Try.prog (.call { callee := .builtin .append, args := #[(.tmp 0), (.tmp 1)], argTypes := #[ty_s_int, ty_s_int] }) ty_s_int [(.slice x78.a x78.len x78.cap), (.slice x81.a x81.len x81.cap)]) (.one (.leaf .slice)) fun x82 =>
            .look (opS Try.prog (.indexAddr ty_a12_s_int (.tmp 0) (.tmp 1)) ty_unit [(.pointer (some x6)), (.int .i64 (w64 ((w64 (4 * (Int.tmod (w64 (Int.tdiv x41 2)) 3))) + (Int.tmod (w64 (Int.tdiv x41 6)) 4))))]) (.one (.leaf .addr)) fun x83 =>
            .st x83 (.slice x82.a x82.len x82.cap) <|
            .look (opS Try.prog (.indexAddr ty_a32_bool (.tmp 0) (.tmp 1)) ty_unit [(.pointer (some x7)), (.int .i64 (Int.tmod (w64 (Int.tdiv x41 24)) 32))]) (.one (.leaf .addr)) fun x84 =>
            .st x84 (.bool true) <|
            t_magpielaw10_FreeStack_J2 x3 x24 x6 y1 x41))
        else (
          .ldA x3 [(.int .i64), (.int .i64), (.int .i64), (.int .i64), (.int .i64)] fun x85 =>
          .call f_free_NewPop [(.agg #[(.int .i64 x85.1), (.int .i64 x85.2.1), (.int .i64 x85.2.2.1), (.int .i64 x85.2.2.2.1), (.int .i64 x85.2.2.2.2.1)]), (.int .i64 (Int.tmod (w64 (Int.tdiv x41 2)) 3)), (.int .i64 (Int.tmod (w64 (Int.tdiv x41 6)) 4))] (.one (.leaf .ptr)) fun x88 =>
          t_magpielaw10_FreeStack_J16 x3 x24 x6 x7 y1 x41 x88))
      else (
        .ldA x3 [(.int .i64), (.int .i64), (.int .i64), (.int .i64), (.int .i64)] fun x85 =>
        .call f_free_NewPop [(.agg #[(.int .i64 x85.1), (.int .i64 x85.2.1), (.int .i64 x85.2.2.1), (.int .i64 x85.2.2.2.1), (.int .i64 x85.2.2.2.2.1)]), (.int .i64 (Int.tmod (w64 (Int.tdiv x41 2)) 3)), (.int .i64 (Int.tmod (w64 (Int.tdiv x41 6)) 4))] (.one (.leaf .ptr)) fun x88 =>
        t_magpielaw10_FreeStack_J16 x3 x24 x6 x7 y1 x41 x88))
    else (
      t_magpielaw10_FreeStack_J28 x24))
  else (
    t_magpielaw10_FreeStack_J28 x24)
noncomputable def t_magpielaw10_FreeStack (p0 : Sl) : Tree :=
  .call f_free_Raw [(.int .i64 3), (.int .i64 256)] (.tup [(.agg [(.int .i64), (.int .i64), (.int .i64), (.int .i64), (.int .i64)]), (.leaf (.int .i64))]) fun x20 =>
  .newP (.cells #[(.int .i64 0), (.int .i64 0), (.int .i64 0), (.int .i64 0), (.int .i64 0)] ty_free_Place) fun x3 =>
  .stA x3 [(.int .i64 x20.1.1), (.int .i64 x20.1.2.1), (.int .i64 x20.1.2.2.1), (.int .i64 x20.1.2.2.2.1), (.int .i64 x20.1.2.2.2.2.1)] <|
  .call f_arena_New [(.int .i64 x20.2.1), (.int .i64 256), (.bool false)] (.one (.leaf .ptr)) fun x24 =>
  .look (opS Try.prog (.binOp .eql ty_p_arena_Arena (.tmp 0) (.const (.pointer none)) ty_p_arena_Arena) ty_bool [(.pointer x24)]) (.one (.leaf .bool)) fun x26 =>
  bif x26 then (
    .ret (.bool false))
  else (
    .newP (.cells #[(.slice none 0 0), (.slice none 0 0), (.slice none 0 0), (.slice none 0 0), (.slice none 0 0), (.slice none 0 0), (.slice none 0 0), (.slice none 0 0), (.slice none 0 0), (.slice none 0 0), (.slice none 0 0), (.slice none 0 0)] ty_a12_s_int) fun x6 =>
    .newP (.cells #[(.bool false), (.bool false), (.bool false), (.bool false), (.bool false), (.bool false), (.bool false), (.bool false), (.bool false), (.bool false), (.bool false), (.bool false), (.bool false), (.bool false), (.bool false), (.bool false), (.bool false), (.bool false), (.bool false), (.bool false), (.bool false), (.bool false), (.bool false), (.bool false), (.bool false), (.bool false), (.bool false), (.bool false), (.bool false), (.bool false), (.bool false), (.bool false)] ty_a32_bool) fun x7 =>
    .loop 513 t_magpielaw10_FreeStack_L1_sh [(.bool false), (.int .i64 0)] (t_magpielaw10_FreeStack_L1 p0 x3 x24 x6 x7))
theorem t_magpielaw10_FreeStack_eq (p0 : Sl) : funcTree Try.prog { quiet := [17, 18, 19, 21, 22, 48, 49, 51, 77], quietTmp := true, fncs := [], ifcs := [] } Try.f9 [(.slice p0.a p0.len p0.cap)] = t_magpielaw10_FreeStack p0 := by kernel_rfl
theorem t_magpielaw10_FreeStack_spec {p0 : Sl} {H : Heap} {R : Value → Heap → Prop} (h : ∀ L, wp Try.prog (t_magpielaw10_FreeStack p0) L H R) : SpecF Try.prog f_magpielaw10_FreeStack #[(.slice p0.a p0.len p0.cap)] H R :=
  spec_of_tree (cfg := { quiet := [17, 18, 19, 21, 22, 48, 49, 51, 77], quietTmp := true, fncs := [], ifcs := [] }) Try.func9 fun L => (t_magpielaw10_FreeStack_eq p0).symm ▸ h L

/- magpie/magpielaw10.FreeTags -/
@[reducible] def t_magpielaw10_FreeTags_L2_sh : List Sh1 := [(.leaf .bool), (.leaf (.int .i64))]
noncomputable def t_magpielaw10_FreeTags_L2 (x3 : Addr) (x18 : Option Addr) (y1 : HL Sh1.T [(.leaf .bool), (.leaf .slice), (.leaf (.int .i64)), (.leaf (.int .i64)), (.leaf (.int .i64))]) (x51 : Sl) (y2 : HL Sh1.T t_magpielaw10_FreeTags_L2_sh) : Tree :=
  bif (decide ((y2.2.1 : Int) < ((x51.len : Nat) : Int))) then (
    .ld (x3.add 2) (.int .i64) fun x107 =>
    .look (opS Try.prog (.indexAddr ty_s_int (.tmp 0) (.tmp 1)) ty_unit [(.slice x51.a x51.len x51.cap), (.int .i64 y2.2.1)]) (.one (.leaf .addr)) fun x110 =>
    .ld x110 (.int .i64) fun x111 =>
    .look (opS Try.prog (.indexAddr ty_s_int (.tmp 0) (.tmp 1)) ty_unit [(.slice x51.a x51.len x51.cap), (.int .i64 (w64 (y2.2.1 - 1)))]) (.one (.leaf .addr)) fun x118 =>
    .ld x118 (.int .i64) fun x119 =>
    .call f_arena_Arena_Raw [(.pointer x18), (.int .i64 (w64 (x107 + (w64 (Int.tdiv x111 8)))))] (.one (.leaf (.int .i64))) fun x114 =>
    .check (ldS x118) (.int .i64 x119) <|
    .check (opS Try.prog (.indexAddr ty_s_int (.tmp 0) (.tmp 1)) ty_unit [(.slice x51.a x51.len x51.cap), (.int .i64 (w64 (y2.2.1 - 1)))]) (.pointer (some x118)) <|
    bif ((x114 : Int) != (w64 ((w64 (Int.tdiv x119 8)) + 1))) then (
      .ret (.bool false))
    else (
      .again 1664 [(.bool y2.1), (.int .i64 (w64 (y2.2.1 + 1)))]))
  else (
    .again 513 [(.bool y2.1), (.slice x51.a x51.len x51.cap), (.int .i64 (w64 (y1.2.2.1 + 1))), (.int .i64 (w64 (y1.2.2.2.1 + 1))), (.int .i64 (w64 (y1.2.2.2.2.1 + 1)))])

@[reducible] def t_magpielaw10_FreeTags_L4_sh : List Sh1 := [(.leaf .bool), (.leaf (.int .i64))]
noncomputable def t_magpielaw10_FreeTags_L4 (x3 : Addr) (x18 : Option Addr) (y1 : HL Sh1.T [(.leaf .bool), (.leaf .slice), (.leaf (.int .i64)), (.leaf (.int .i64)), (.leaf (.int .i64))]) (x74 : Sl) (y4 : HL Sh1.T t_magpielaw10_FreeTags_L4_sh) : Tree :=
  bif (decide ((y4.2.1 : Int) < ((x74.len : Nat) : Int))) then (
    .ld (x3.add 2) (.int .i64) fun x107 =>
    .look (opS Try.prog (.indexAddr ty_s_int (.tmp 0) (.tmp 1)) ty_unit [(.slice x74.a x74.len x74.cap), (.int .i64 y4.2.1)]) (.one (.leaf .addr)) fun x110 =>
    .ld x110 (.int .i64) fun x111 =>
    .look (opS Try.prog (.indexAddr ty_s_int (.tmp 0) (.tmp 1)) ty_unit [(.slice x74.a x74.len x74.cap), (.int .i64 (w64 (y4.2.1 - 1)))]) (.one (.leaf .addr)) fun x118 =>
    .ld x118 (.int .i64) fun x119 =>
    .call f_arena_Arena_Raw [(.pointer x18), (.int .i64 (w64 (x107 + (w64 (Int.tdiv x111 8)))))] (.one (.leaf (.int .i64))) fun x114 =>
    .check (ldS x118) (.int .i64 x119) <|
    .check (opS Try.prog (.indexAddr ty_s_int (.tmp 0) (.tmp 1)) ty_unit [(.slice x74.a x74.len x74.cap), (.int .i64 (w64 (y4.2.1 - 1)))]) (.pointer (some x118)) <|
    bif ((x114 : Int) != (w64 ((w64 (Int.tdiv x119 8)) + 1))) then (
      .ret (.bool false))
    else (
      .again 1664 [(.bool y4.1), (.int .i64 (w64 (y4.2.1 + 1)))]))
  else (
    .again 513 [(.bool y4.1), (.slice x74.a x74.len x74.cap), (.int .i64 (w64 (y1.2.2.1 + 1))), (.int .i64 y1.2.2.2.1), (.int .i64 (w64 (y1.2.2.2.2.1 + 1)))])

@[reducible] def t_magpielaw10_FreeTags_L6_sh : List Sh1 := [(.leaf .bool), (.leaf (.int .i64))]
noncomputable def t_magpielaw10_FreeTags_L6 (x3 : Addr) (x18 : Option Addr) (y1 : HL Sh1.T [(.leaf .bool), (.leaf .slice), (.leaf (.int .i64)), (.leaf (.int .i64)), (.leaf (.int .i64))]) (y6 : HL Sh1.T t_magpielaw10_FreeTags_L6_sh) : Tree :=
  bif (decide ((y6.2.1 : Int) < ((y1.2.1.len : Nat) : Int))) then (
    .ld (x3.add 2) (.int .i64) fun x107 =>
    .look (opS Try.prog (.indexAddr ty_s_int (.tmp 0) (.tmp 1)) ty_unit [(.slice y1.2.1.a y1.2.1.len y1.2.1.cap), (.int .i64 y6.2.1)]) (.one (.leaf .addr)) fun x110 =>
    .ld x110 (.int .i64) fun x111 =>
    .look (opS Try.prog (.indexAddr ty_s_int (.tmp 0) (.tmp 1)) ty_unit [(.slice y1.2.1.a y1.2.1.len y1.2.1.cap), (.int .i64 (w64 (y6.2.1 - 1)))]) (.one (.leaf .addr)) fun x118 =>
    .ld x118 (.int .i64) fun x119 =>
    .call f_arena_Arena_Raw [(.pointer x18), (.int .i64 (w64 (x107 + (w64 (Int.tdiv x111 8)))))] (.one (.leaf (.int .i64))) fun x114 =>
    .check (ldS x118) (.int .i64 x119) <|
    .check (opS Try.prog (.indexAddr ty_s_int (.tmp 0) (.tmp 1)) ty_unit [(.slice y1.2.1.a y1.2.1.len y1.2.1.cap), (.int .i64 (w64 (y6.2.1 - 1)))]) (.pointer (some x118)) <|
    bif ((x114 : Int) != (w64 ((w64 (Int.tdiv x119 8)) + 1))) then (
      .ret (.bool false))
    else (
      .again 1664 [(.bool y6.1), (.int .i64 (w64 (y6.2.1 + 1)))]))
  else (
    .again 513 [(.bool y6.1), (.slice y1.2.1.a y1.2.1.len y1.2.1.cap), (.int .i64 y1.2.2.1), (.int .i64 y1.2.2.2.1), (.int .i64 (w64 (y1.2.2.2.2.1 + 1)))])

noncomputable def t_magpielaw10_FreeTags_J29 (x3 : Addr) (x18 : Option Addr) (y1 : HL Sh1.T [(.leaf .bool), (.leaf .slice), (.leaf (.int .i64)), (.leaf (.int .i64)), (.leaf (.int .i64))]) (x57 : Option Addr) : Tree :=
  .look (opS Try.prog (.binOp .eql ty_p_free_Pop (.tmp 0) (.const (.pointer none)) ty_p_free_Pop) ty_bool [(.pointer x57)]) (.one (.leaf .bool)) fun x59 =>
  bif x59 then (
    .ret (.bool false))
  else (
    .call f_magpielaw10_run [(.pointer x18), (.iface ty_p_free_Pop (.pointer x57))] (.one (.leaf .bool)) fun x64 =>
    bif (!x64) then (
      .ret (.bool false))
    else (
      bif (decide ((((y1.2.1.len : Nat) : Int) : Int) > 0)) then (
        .look (opS Try.prog (.slice ty_s_int (.tmp 0) none (some (.tmp 1)) none) ty_s_int [(.slice y1.2.1.a y1.2.1.len y1.2.1.cap), (.int .i64 (w64 (((y1.2.1.len : Nat) : Int) - 1)))]) (.one (.leaf .slice)) fun x74 =>
        bif (decide ((((x74.len : Nat) : Int) : Int) > 0)) then (
          .look (opS Try.prog (.indexAddr ty_s_int (.tmp 0) (.tmp 1)) ty_unit [(.slice x74.a x74.len x74.cap), (.int .i64 (w64 (((x74.len : Nat) : Int) - 1)))]) (.one (.leaf .addr)) fun x87 =>
          .ld x87 (.int .i64) fun x88 =>
          .ld (x3.add 1) (.int .i64) fun x94 =>
          .call f_arena_Arena_Raw [(.pointer x18), (.int .i64 (w64 (x94 + 3)))] (.one (.leaf (.int .i64))) fun x96 =>
          bif ((x96 : Int) != (w64 ((w64 ((w64 ((w64 (y1.2.2.1 + 1)) * 2 ^ 17)) + (w64 (Int.tdiv x88 8)))) + 1))) then (
            .ret (.bool false))
          else (
            .loop 1664 t_magpielaw10_FreeTags_L4_sh [(.bool y1.1), (.int .i64 1)] (t_magpielaw10_FreeTags_L4 x3 x18 y1 x74)))
        else (
          .ld (x3.add 1) (.int .i64) fun x94 =>
          .call f_arena_Arena_Raw [(.pointer x18), (.int .i64 (w64 (x94 + 3)))] (.one (.leaf (.int .i64))) fun x96 =>
          bif ((x96 : Int) != (w64 ((w64 (y1.2.2.1 + 1)) * 2 ^ 17))) then (
            .ret (.bool false))
          else (
            .loop 1664 t_magpielaw10_FreeTags_L4_sh [(.bool y1.1), (.int .i64 1)] (t_magpielaw10_FreeTags_L4 x3 x18 y1 x74))))
      else (
        bif (decide ((((y1.2.1.len : Nat) : Int) : Int) > 0)) then (
          .look (opS Try.prog (.indexAddr ty_s_int (.tmp 0) (.tmp 1)) ty_unit [(.slice y1.2.1.a y1.2.1.len y1.2.1.cap), (.int .i64 (w64 (((y1.2.1.len : Nat) : Int) - 1)))]) (.one (.leaf .addr)) fun x87 =>
          .ld x87 (.int .i64) fun x88 =>
          .ld (x3.add 1) (.int .i64) fun x94 =>
          .call f_arena_Arena_Raw [(.pointer x18), (.int .i64 (w64 (x94 + 3)))] (.one (.leaf (.int .i64))) fun x96 =>
          bif ((x96 : Int) != (w64 ((w64 ((w64 (y1.2.2.1 * 2 ^ 17)) + (w64 (Int.tdiv x88 8)))) + 1))) then (
            .ret (.bool false))
          else (
            .loop 1664 t_magpielaw10_FreeTags_L6_sh [(.bool y1.1), (.int .i64 1)] (t_magpielaw10_FreeTags_L6 x3 x18 y1)))
        else (
          .ld (x3.add 1) (.int .i64) fun x94 =>
          .call f_arena_Arena_Raw [(.pointer x18), (.int .i64 (w64 (x94 + 3)))] (.one (.leaf (.int .i64))) fun x96 =>
          bif ((x96 : Int) != (w64 (y1.2.2.1 * 2 ^ 17))) then (
            .ret (.bool false))
          else (
            .loop 1664 t_magpielaw10_FreeTags_L6_sh [(.bool y1.1), (.int .i64 1)] (t_magpielaw10_FreeTags_L6 x3 x18 y1))))))

noncomputable def t_magpielaw10_FreeTags_J44 (x18 : Option Addr) : Tree :=
  .call f_arena_Arena_Fault [(.pointer x18)] (.one (.leaf .bool)) fun x124 =>
  bif (!x124) then (
    .call f_magpielaw10_awake [] (.one (.leaf .bool)) fun x127 =>
    .ret (.bool x127))
  else (
    .ret (.bool false))

@[reducible] def t_magpielaw10_FreeTags_L1_sh : List Sh1 := [(.leaf .bool), (.leaf .slice), (.leaf (.int .i64)), (.leaf (.int .i64)), (.leaf (.int .i64))]
noncomputable def t_magpielaw10_FreeTags_L1 (p0 : Sl) (x3 : Addr) (x18 : Option Addr) (y1 : HL Sh1.T t_magpielaw10_FreeTags_L1_sh) : Tree :=
  bif (decide ((y1.2.2.2.2.1 : Int) < ((p0.len : Nat) : Int))) then (
    bif (decide ((y1.2.2.2.2.1 : Int) < 60)) then (
      .look (opS Try.prog (.indexAddr ty_s_bool (.tmp 0) (.tmp 1)) ty_unit [(.slice p0.a p0.len p0.cap), (.int .i64 y1.2.2.2.2.1)]) (.one (.leaf .addr)) fun x33 =>
      .ld x33 .bool fun x34 =>
      bif x34 then (
        bif (decide ((y1.2.2.2.1 : Int) < 60)) then (
          .ldA x3 [(.int .i64), (.int .i64), (.int .i64), (.int .i64), (.int .i64)] fun x40 =>
          .call f_free_NewPush [(.agg #[(.int .i64 x40.1), (.int .i64 x40.2.1), (.int .i64 x40.2.2.1), (.int .i64 x40.2.2.2.1), (.int .i64 x40.2.2.2.2.1)]), (.int .i64 0), (.int .i64 3), (.int .i64 (w64 (8 * y1.2.2.2.1)))] (.one (.leaf .ptr)) fun x43 =>
          .call f_magpielaw10_run [(.pointer x18), (.iface ty_p_free_Push (.pointer x43))] (.one (.leaf .bool)) fun x45 =>
          bif (!x45) then (
            .ret (.bool false))
          else (
            .newS (.cells #[(.int .i64 (w64 (8 * y1.2.2.2.1)))] ty_int) 1 fun x50 =>
            .act (opS Try.prog (.call { callee := .builtin .append, args := #[(.tmp 0), (.tmp 1)], argTypes := #[ty_s_int, ty_s_int] }) ty_s_int [(.slice y1.2.1.a y1.2.1.len y1.2.1.cap), (.slice x50.a x50.len x50.cap)]) (.one (.leaf .slice)) fun x51 =>
            bif (decide ((((x51.len : Nat) : Int) : Int) > 0)) then (
              .look (opS Try.prog (.indexAddr ty_s_int (.tmp 0) (.tmp 1)) ty_unit [(.slice x51.a x51.len x51.cap), (.int .i64 (w64 (((x51.len : Nat) : Int) - 1)))]) (.one (.leaf .addr)) fun x87 =>
              .ld x87 (.int .i64) fun x88 =>
              .ld (x3.add 1) (.int .i64) fun x94 =>
              .call f_arena_Arena_Raw [(.pointer x18), (.int .i64 (w64 (x94 + 3)))] (.one (.leaf (.int .i64))) fun x96 =>
              bif ((x96 : Int) != (w64 ((w64 ((w64 ((w64 (y1.2.2.1 + 1)) * 2 ^ 17)) + (w64 (Int.tdiv x88 8)))) + 1))) then (
                .ret (.bool false))
              else (
                .loop 1664 t_magpielaw10_FreeTags_L2_sh [(.bool y1.1), (.int .i64 1)] (t_magpielaw10_FreeTags_L2 x3 x18 y1 x51)))
            else (
              .ld (x3.add 1) (.int .i64) fun x94 =>
              .call f_arena_Arena_Raw [(.pointer x18), (.int .i64 (w64 (x94 + 3)))] (.one (.leaf (.int .i64))) fun x96 =>
              bif ((x96 : Int) != (w64 ((w64 (y1.2.2.1 + 1)) * 2 ^ 17))) then (
                .ret (.bool false))
              else (
                .loop 1664 t_magpielaw10_FreeTags_L2_sh [(.bool y1.1), (.int .i64 1)] (t_magpielaw10_FreeTags_L2 x3 x18 y1 x51)))))
        else (
          .ldA x3 [(.int .i64), (.int .i64), (.int .i64), (.int .i64), (.int .i64)] fun x56 =>
          .call f_free_NewPop [(.agg #[(.int .i64 x56.1), (.int .i64 x56.2.1), (.int .i64 x56.2.2.1), (.int .i64 x56.2.2.2.1), (.int .i64 x56.2.2.2.2.1)]), (.int .i64 0), (.int .i64 3)] (.one (.leaf .ptr)) fun x57 =>
          t_magpielaw10_FreeTags_J29 x3 x18 y1 x57))
      else (
        .ldA x3 [(.int .i64), (.int .i64), (.int .i64), (.int .i64), (.int .i64)] fun x56 =>
        .call f_free_NewPop [(.agg #[(.int .i64 x56.1), (.int .i64 x56.2.1), (.int .i64 x56.2.2.1), (.int .i64 x56.2.2.2.1), (.int .i64 x56.2.2.2.2.1)]), (.int .i64 0), (.int .i64 3)] (.one (.leaf .ptr)) fun x57 =>
        t_magpielaw10_FreeTags_J29 x3 x18 y1 x57))
    else (
      t_magpielaw10_FreeTags_J44 x18))
  else (
    t_magpielaw10_FreeTags_J44 x18)
noncomputable def t_magpielaw10_FreeTags (p0 : Sl) : Tree :=
  .call f_free_Raw [(.int .i64 1), (.int .i64 512)] (.tup [(.agg [(.int .i64), (.int .i64), (.int .i64), (.int .i64), (.int .i64)]), (.leaf (.int .i64))]) fun x14 =>
  .newP (.cells #[(.int .i64 0), (.int .i64 0), (.int .i64 0), (.int .i64 0), (.int .i64 0)] ty_free_Place) fun x3 =>
  .stA x3 [(.int .i64 x14.1.1), (.int .i64 x14.1.2.1), (.int .i64 x14.1.2.2.1), (.int .i64 x14.1.2.2.2.1), (.int .i64 x14.1.2.2.2.2.1)] <|
  .call f_arena_New [(.int .i64 x14.2.1), (.int .i64 512), (.bool false)] (.one (.leaf .ptr)) fun x18 =>
  .look (opS Try.prog (.binOp .eql ty_p_arena_Arena (.tmp 0) (.const (.pointer none)) ty_p_arena_Arena) ty_bool [(.pointer x18)]) (.one (.leaf .bool)) fun x20 =>
  bif x20 then (
    .ret (.bool false))
  else (
    .loop 513 t_magpielaw10_FreeTags_L1_sh [(.bool false), (.slice none 0 0), (.int .i64 0), (.int .i64 0), (.int .i64 0)] (t_magpielaw10_FreeTags_L1 p0 x3 x18))
theorem t_magpielaw10_FreeTags_eq (p0 : Sl) : funcTree Try.prog { quiet := [17, 18, 19, 21, 22, 48, 49, 51, 77], quietTmp := true, fncs := [], ifcs := [] } Try.f12 [(.slice p0.a p0.len p0.cap)] = t_magpielaw10_FreeTags p0 := by kernel_rfl
theorem t_magpielaw10_FreeTags_spec {p0 : Sl} {H : Heap} {R : Value → Heap → Prop} (h : ∀ L, wp Try.prog (t_magpielaw10_FreeTags p0) L H R) : SpecF Try.prog f_magpielaw10_FreeTags #[(.slice p0.a p0.len p0.cap)] H R :=
  spec_of_tree (cfg := { quiet := [17, 18, 19, 21, 22, 48, 49, 51, 77], quietTmp := true, fncs := [], ifcs := [] }) Try.func12 fun L => (t_magpielaw10_FreeTags_eq p0).symm ▸ h L

/- magpie/magpielaw10.FreeMixes -/
@[reducible] def t_magpielaw10_FreeMixes_L5_sh : List Sh1 := [(.leaf (.int .i64))]
noncomputable def t_magpielaw10_FreeMixes_L5 (x21 : Addr) (y3 : HL Sh1.T [(.leaf .bool), (.leaf (.int .i64))]) (x243 : Sl) (y5 : HL Sh1.T t_magpielaw10_FreeMixes_L5_sh) : Tree :=
  bif (decide ((y5.1 : Int) < ((x243.len : Nat) : Int))) then (
    .look (opS Try.prog (.indexAddr ty_s_int (.tmp 0) (.tmp 1)) ty_unit [(.slice x243.a x243.len x243.cap), (.int .i64 y5.1)]) (.one (.leaf .addr)) fun x247 =>
    .ld x247 (.int .i64) fun x248 =>
    .qcall f_magpielaw00_Place [(.int .i64 (w64 (Int.tdiv x248 8))), (.int .i64 32)] (.one (.leaf (.int .i64))) fun x251 =>
    .look (opS Try.prog (.indexAddr ty_a32_int (.tmp 0) (.tmp 1)) ty_unit [(.pointer (some x21)), (.int .i64 x251)]) (.one (.leaf .addr)) fun x252 =>
    .ld x252 (.int .i64) fun x253 =>
    .look (opS Try.prog (.indexAddr ty_a32_int (.tmp 0) (.tmp 1)) ty_unit [(.pointer (some x21)), (.int .i64 x251)]) (.one (.leaf .addr)) fun x255 =>
    .st x255 (.int .i64 (w64 (x253 + 1))) <|
    .again 3456 [(.int .i64 (w64 (y5.1 + 1)))])
  else (
    .again 2497 [(.bool y3.1), (.int .i64 (w64 (y3.2.1 + 1)))])

noncomputable def t_magpielaw10_FreeMixes_J16 (x36 : Option Addr) (x9 : Addr) (x11 : Addr) (y3 : HL Sh1.T [(.leaf .bool), (.leaf (.int .i64))]) (y4 : HL Sh1.T [(.leaf (.int .i64))]) : Tree :=
  .look (opS Try.prog (.indexAddr ty_a6_p_free_Pop (.tmp 0) (.tmp 1)) ty_unit [(.pointer (some x11)), (.int .i64 y3.2.1)]) (.one (.leaf .addr)) fun x203 =>
  .ld x203 .ptr fun x204 =>
  .look (opS Try.prog (.binOp .neq ty_p_free_Pop (.tmp 0) (.const (.pointer none)) ty_p_free_Pop) ty_bool [(.pointer x204)]) (.one (.leaf .bool)) fun x205 =>
  bif x205 then (
    .look (opS Try.prog (.indexAddr ty_a6_p_free_Pop (.tmp 0) (.tmp 1)) ty_unit [(.pointer (some x11)), (.int .i64 y3.2.1)]) (.one (.leaf .addr)) fun x208 =>
    .ld x208 .ptr fun x209 =>
    .call f_free_Pop_Step [(.pointer x209), (.pointer x36)] (.one (.leaf .bool)) fun x211 =>
    bif x211 then (
      .look (opS Try.prog (.indexAddr ty_a6_p_free_Pop (.tmp 0) (.tmp 1)) ty_unit [(.pointer (some x11)), (.int .i64 y3.2.1)]) (.one (.leaf .addr)) fun x215 =>
      .ld x215 .ptr fun x216 =>
      .call f_free_Pop_Base [(.pointer x216)] (.tup [(.leaf (.int .i64)), (.leaf .bool)]) fun x217 =>
      bif x217.2.1 then (
        .look (opS Try.prog (.indexAddr ty_a6_s_int (.tmp 0) (.tmp 1)) ty_unit [(.pointer (some x9)), (.int .i64 y3.2.1)]) (.one (.leaf .addr)) fun x223 =>
        .ld x223 .slice fun x224 =>
        .newS (.cells #[(.int .i64 x217.1)] ty_int) 1 fun x226 =>
        .act (opS Try.prog (.call { callee := .builtin .append, args := #[(.tmp 0), (.tmp 1)], argTypes := #[ty_s_int, ty_s_int] }) ty_s_int [(.slice x224.a x224.len x224.cap), (.slice x226.a x226.len x226.cap)]) (.one (.leaf .slice)) fun x227 =>
        .look (opS Try.prog (.indexAddr ty_a6_s_int (.tmp 0) (.tmp 1)) ty_unit [(.pointer (some x9)), (.int .i64 y3.2.1)]) (.one (.leaf .addr)) fun x228 =>
        .st x228 (.slice x227.a x227.len x227.cap) <|
        .look (opS Try.prog (.indexAddr ty_a6_p_free_Pop (.tmp 0) (.tmp 1)) ty_unit [(.pointer (some x11)), (.int .i64 y3.2.1)]) (.one (.leaf .addr)) fun x230 =>
        .st x230 (.pointer none) <|
        .again 2688 [(.int .i64 (w64 (y4.1 + 1)))])
      else (
        .look (opS Try.prog (.indexAddr ty_a6_p_free_Pop (.tmp 0) (.tmp 1)) ty_unit [(.pointer (some x11)), (.int .i64 y3.2.1)]) (.one (.leaf .addr)) fun x230 =>
        .st x230 (.pointer none) <|
        .again 2688 [(.int .i64 (w64 (y4.1 + 1)))]))
    else (
      .again 2688 [(.int .i64 (w64 (y4.1 + 1)))]))
  else (
    .again 2688 [(.int .i64 (w64 (y4.1 + 1)))])

noncomputable def t_magpielaw10_FreeMixes_J18 (x36 : Option Addr) (x9 : Addr) (x10 : Addr) (x11 : Addr) (y3 : HL Sh1.T [(.leaf .bool), (.leaf (.int .i64))]) (y4 : HL Sh1.T [(.leaf (.int .i64))]) : Tree :=
  .look (opS Try.prog (.indexAddr ty_a6_p_free_Push (.tmp 0) (.tmp 1)) ty_unit [(.pointer (some x10)), (.int .i64 y3.2.1)]) (.one (.leaf .addr)) fun x190 =>
  .ld x190 .ptr fun x191 =>
  .look (opS Try.prog (.binOp .neq ty_p_free_Push (.tmp 0) (.const (.pointer none)) ty_p_free_Push) ty_bool [(.pointer x191)]) (.one (.leaf .bool)) fun x192 =>
  bif x192 then (
    .look (opS Try.prog (.indexAddr ty_a6_p_free_Push (.tmp 0) (.tmp 1)) ty_unit [(.pointer (some x10)), (.int .i64 y3.2.1)]) (.one (.leaf .addr)) fun x195 =>
    .ld x195 .ptr fun x196 =>
    .call f_free_Push_Step [(.pointer x196), (.pointer x36)] (.one (.leaf .bool)) fun x198 =>
    bif x198 then (
      .look (opS Try.prog (.indexAddr ty_a6_p_free_Push (.tmp 0) (.tmp 1)) ty_unit [(.pointer (some x10)), (.int .i64 y3.2.1)]) (.one (.leaf .addr)) fun x201 =>
      .st x201 (.pointer none) <|
      t_magpielaw10_FreeMixes_J16 x36 x9 x11 y3 y4)
    else (
      t_magpielaw10_FreeMixes_J16 x36 x9 x11 y3 y4))
  else (
    t_magpielaw10_FreeMixes_J16 x36 x9 x11 y3 y4)

noncomputable def t_magpielaw10_FreeMixes_J22 (x9 : Addr) (x10 : Addr) (x11 : Addr) (x21 : Addr) (y3 : HL Sh1.T [(.leaf .bool), (.leaf (.int .i64))]) : Tree :=
  .look (opS Try.prog (.indexAddr ty_a6_p_free_Push (.tmp 0) (.tmp 1)) ty_unit [(.pointer (some x10)), (.int .i64 y3.2.1)]) (.one (.leaf .addr)) fun x232 =>
  .ld x232 .ptr fun x233 =>
  .look (opS Try.prog (.binOp .neq ty_p_free_Push (.tmp 0) (.const (.pointer none)) ty_p_free_Push) ty_bool [(.pointer x233)]) (.one (.leaf .bool)) fun x234 =>
  bif x234 then (
    .ret (.bool false))
  else (
    .look (opS Try.prog (.indexAddr ty_a6_p_free_Pop (.tmp 0) (.tmp 1)) ty_unit [(.pointer (some x11)), (.int .i64 y3.2.1)]) (.one (.leaf .addr)) fun x237 =>
    .ld x237 .ptr fun x238 =>
    .look (opS Try.prog (.binOp .neq ty_p_free_Pop (.tmp 0) (.const (.pointer none)) ty_p_free_Pop) ty_bool [(.pointer x238)]) (.one (.leaf .bool)) fun x239 =>
    bif x239 then (
      .ret (.bool false))
    else (
      .look (opS Try.prog (.indexAddr ty_a6_s_int (.tmp 0) (.tmp 1)) ty_unit [(.pointer (some x9)), (.int .i64 y3.2.1)]) (.one (.leaf .addr)) fun x242 =>
      .ld x242 .slice fun x243 =>
      .loop 3456 t_magpielaw10_FreeMixes_L5_sh [(.int .i64 0)] (t_magpielaw10_FreeMixes_L5 x21 y3 x243)))

@[reducible] def t_magpielaw10_FreeMixes_L4_sh : List Sh1 := [(.leaf (.int .i64))]
noncomputable def t_magpielaw10_FreeMixes_L4 (x36 : Option Addr) (x9 : Addr) (x10 : Addr) (x11 : Addr) (x21 : Addr) (y3 : HL Sh1.T [(.leaf .bool), (.leaf (.int .i64))]) (y4 : HL Sh1.T t_magpielaw10_FreeMixes_L4_sh) : Tree :=
  bif (decide ((y4.1 : Int) < 100)) then (
    .look (opS Try.prog (.indexAddr ty_a6_p_free_Push (.tmp 0) (.tmp 1)) ty_unit [(.pointer (some x10)), (.int .i64 y3.2.1)]) (.one (.leaf .addr)) fun x177 =>
    .ld x177 .ptr fun x178 =>
    .look (opS Try.prog (.binOp .neq ty_p_free_Push (.tmp 0) (.const (.pointer none)) ty_p_free_Push) ty_bool [(.pointer x178)]) (.one (.leaf .bool)) fun x179 =>
    bif x179 then (
      t_magpielaw10_FreeMixes_J18 x36 x9 x10 x11 y3 y4)
    else (
      .look (opS Try.prog (.indexAddr ty_a6_p_free_Pop (.tmp 0) (.tmp 1)) ty_unit [(.pointer (some x11)), (.int .i64 y3.2.1)]) (.one (.leaf .addr)) fun x182 =>
      .ld x182 .ptr fun x183 =>
      .look (opS Try.prog (.binOp .neq ty_p_free_Pop (.tmp 0) (.const (.pointer none)) ty_p_free_Pop) ty_bool [(.pointer x183)]) (.one (.leaf .bool)) fun x184 =>
      bif x184 then (
        t_magpielaw10_FreeMixes_J18 x36 x9 x10 x11 y3 y4)
      else (
        t_magpielaw10_FreeMixes_J22 x9 x10 x11 x21 y3)))
  else (
    t_magpielaw10_FreeMixes_J22 x9 x10 x11 x21 y3)

noncomputable def t_magpielaw10_FreeMixes_J26 (x40 : Int) (y8 : HL Sh1.T [(.leaf .bool), (.leaf (.int .i64))]) : Tree :=
  bif (decide ((y8.2.1 : Int) ≥ (w64 (2 * (w64 (1 + x40)))))) then (
    .ret (.bool false))
  else (
    .again 4096 [(.bool y8.1), (.int .i64 (w64 (y8.2.1 + 1)))])

@[reducible] def t_magpielaw10_FreeMixes_L8_sh : List Sh1 := [(.leaf .bool), (.leaf (.int .i64))]
noncomputable def t_magpielaw10_FreeMixes_L8 (x36 : Option Addr) (x40 : Int) (x21 : Addr) (y8 : HL Sh1.T t_magpielaw10_FreeMixes_L8_sh) : Tree :=
  bif (decide ((y8.2.1 : Int) < 32)) then (
    .look (opS Try.prog (.indexAddr ty_a32_int (.tmp 0) (.tmp 1)) ty_unit [(.pointer (some x21)), (.int .i64 y8.2.1)]) (.one (.leaf .addr)) fun x278 =>
    .ld x278 (.int .i64) fun x279 =>
    bif ((x279 : Int) != 1) then (
      bif (decide ((y8.2.1 : Int) < (w64 (2 * (w64 (1 + x40)))))) then (
        .ret (.bool false))
      else (
        .look (opS Try.prog (.indexAddr ty_a32_int (.tmp 0) (.tmp 1)) ty_unit [(.pointer (some x21)), (.int .i64 y8.2.1)]) (.one (.leaf .addr)) fun x289 =>
        .ld x289 (.int .i64) fun x290 =>
        bif ((x290 : Int) != 0) then (
          t_magpielaw10_FreeMixes_J26 x40 y8)
        else (
          .again 4096 [(.bool y8.1), (.int .i64 (w64 (y8.2.1 + 1)))])))
    else (
      .look (opS Try.prog (.indexAddr ty_a32_int (.tmp 0) (.tmp 1)) ty_unit [(.pointer (some x21)), (.int .i64 y8.2.1)]) (.one (.leaf .addr)) fun x289 =>
      .ld x289 (.int .i64) fun x290 =>
      bif ((x290 : Int) != 0) then (
        t_magpielaw10_FreeMixes_J26 x40 y8)
      else (
        .again 4096 [(.bool y8.1), (.int .i64 (w64 (y8.2.1 + 1)))])))
  else (
    .call f_arena_Arena_Fault [(.pointer x36)] (.one (.leaf .bool)) fun x300 =>
    bif !x300 then
      bif (decide (((w64 (1 + x40)) : Int) ≤ 64)) then (
        .call f_magpielaw10_awake [] (.one (.leaf .bool)) fun x309 =>
        .ret (.bool x309))
      else (
        .ret (.bool false))
    else
      .ret (.bool false))

@[reducible] def t_magpielaw10_FreeMixes_L7_sh : List Sh1 := [(.leaf (.int .i64))]
noncomputable def t_magpielaw10_FreeMixes_L7 (x36 : Option Addr) (x40 : Int) (x21 : Addr) (y3 : HL Sh1.T [(.leaf .bool), (.leaf (.int .i64))]) (x259 : Sl) (y7 : HL Sh1.T t_magpielaw10_FreeMixes_L7_sh) : Tree :=
  bif (decide ((y7.1 : Int) < ((x259.len : Nat) : Int))) then (
    .look (opS Try.prog (.indexAddr ty_s_int (.tmp 0) (.tmp 1)) ty_unit [(.slice x259.a x259.len x259.cap), (.int .i64 y7.1)]) (.one (.leaf .addr)) fun x263 =>
    .ld x263 (.int .i64) fun x264 =>
    .qcall f_magpielaw00_Place [(.int .i64 (w64 (Int.tdiv x264 8))), (.int .i64 32)] (.one (.leaf (.int .i64))) fun x267 =>
    .look (opS Try.prog (.indexAddr ty_a32_int (.tmp 0) (.tmp 1)) ty_unit [(.pointer (some x21)), (.int .i64 x267)]) (.one (.leaf .addr)) fun x268 =>
    .ld x268 (.int .i64) fun x269 =>
    .look (opS Try.prog (.indexAddr ty_a32_int (.tmp 0) (.tmp 1)) ty_unit [(.pointer (some x21)), (.int .i64 x267)]) (.one (.leaf .addr)) fun x271 =>
    .st x271 (.int .i64 (w64 (x269 + 1))) <|
    .again 3776 [(.int .i64 (w64 (y7.1 + 1)))])
  else (
    .loop 4096 t_magpielaw10_FreeMixes_L8_sh [(.bool y3.1), (.int .i64 0)] (t_magpielaw10_FreeMixes_L8 x36 x40 x21))

@[reducible] def t_magpielaw10_FreeMixes_L3_sh : List Sh1 := [(.leaf .bool), (.leaf (.int .i64))]
noncomputable def t_magpielaw10_FreeMixes_L3 (x5 : Addr) (x36 : Option Addr) (x40 : Int) (x9 : Addr) (x10 : Addr) (x11 : Addr) (x21 : Addr) (y3 : HL Sh1.T t_magpielaw10_FreeMixes_L3_sh) : Tree :=
  bif (decide ((y3.2.1 : Int) < (w64 (1 + x40)))) then (
    .loop 2688 t_magpielaw10_FreeMixes_L4_sh [(.int .i64 0)] (t_magpielaw10_FreeMixes_L4 x36 x9 x10 x11 x21 y3))
  else (
    .ldA x5 [(.int .i64), (.int .i64), (.int .i64), (.int .i64), (.int .i64)] fun x258 =>
    .call f_free_List [(.pointer x36), (.agg #[(.int .i64 x258.1), (.int .i64 x258.2.1), (.int .i64 x258.2.2.1), (.int .i64 x258.2.2.2.1), (.int .i64 x258.2.2.2.2.1)]), (.int .i64 1), (.int .i64 2)] (.one (.leaf .slice)) fun x259 =>
    .loop 3776 t_magpielaw10_FreeMixes_L7_sh [(.int .i64 0)] (t_magpielaw10_FreeMixes_L7 x36 x40 x21 y3 x259))

@[reducible] def t_magpielaw10_FreeMixes_L11_sh : List Sh1 := [(.leaf (.int .i64))]
noncomputable def t_magpielaw10_FreeMixes_L11 (x21 : Addr) (y9 : HL Sh1.T [(.leaf .bool), (.leaf (.int .i64))]) (x243 : Sl) (y11 : HL Sh1.T t_magpielaw10_FreeMixes_L11_sh) : Tree :=
  bif (decide ((y11.1 : Int) < ((x243.len : Nat) : Int))) then (
    .look (opS Try.prog (.indexAddr ty_s_int (.tmp 0) (.tmp 1)) ty_unit [(.slice x243.a x243.len x243.cap), (.int .i64 y11.1)]) (.one (.leaf .addr)) fun x247 =>
    .ld x247 (.int .i64) fun x248 =>
    .qcall f_magpielaw00_Place [(.int .i64 (w64 (Int.tdiv x248 8))), (.int .i64 32)] (.one (.leaf (.int .i64))) fun x251 =>
    .look (opS Try.prog (.indexAddr ty_a32_int (.tmp 0) (.tmp 1)) ty_unit [(.pointer (some x21)), (.int .i64 x251)]) (.one (.leaf .addr)) fun x252 =>
    .ld x252 (.int .i64) fun x253 =>
    .look (opS Try.prog (.indexAddr ty_a32_int (.tmp 0) (.tmp 1)) ty_unit [(.pointer (some x21)), (.int .i64 x251)]) (.one (.leaf .addr)) fun x255 =>
    .st x255 (.int .i64 (w64 (x253 + 1))) <|
    .again 3456 [(.int .i64 (w64 (y11.1 + 1)))])
  else (
    .again 2497 [(.bool y9.1), (.int .i64 (w64 (y9.2.1 + 1)))])

noncomputable def t_magpielaw10_FreeMixes_J34 (x36 : Option Addr) (x9 : Addr) (x11 : Addr) (y9 : HL Sh1.T [(.leaf .bool), (.leaf (.int .i64))]) (y10 : HL Sh1.T [(.leaf (.int .i64))]) : Tree :=
  .look (opS Try.prog (.indexAddr ty_a6_p_free_Pop (.tmp 0) (.tmp 1)) ty_unit [(.pointer (some x11)), (.int .i64 y9.2.1)]) (.one (.leaf .addr)) fun x203 =>
  .ld x203 .ptr fun x204 =>
  .look (opS Try.prog (.binOp .neq ty_p_free_Pop (.tmp 0) (.const (.pointer none)) ty_p_free_Pop) ty_bool [(.pointer x204)]) (.one (.leaf .bool)) fun x205 =>
  bif x205 then (
    .look (opS Try.prog (.indexAddr ty_a6_p_free_Pop (.tmp 0) (.tmp 1)) ty_unit [(.pointer (some x11)), (.int .i64 y9.2.1)]) (.one (.leaf .addr)) fun x208 =>
    .ld x208 .ptr fun x209 =>
    .call f_free_Pop_Step [(.pointer x209), (.pointer x36)] (.one (.leaf .bool)) fun x211 =>
    bif x211 then (
      .look (opS Try.prog (.indexAddr ty_a6_p_free_Pop (.tmp 0) (.tmp 1)) ty_unit [(.pointer (some x11)), (.int .i64 y9.2.1)]) (.one (.leaf .addr)) fun x215 =>
      .ld x215 .ptr fun x216 =>
      .call f_free_Pop_Base [(.pointer x216)] (.tup [(.leaf (.int .i64)), (.leaf .bool)]) fun x217 =>
      bif x217.2.1 then (
        .look (opS Try.prog (.indexAddr ty_a6_s_int (.tmp 0) (.tmp 1)) ty_unit [(.pointer (some x9)), (.int .i64 y9.2.1)]) (.one (.leaf .addr)) fun x223 =>
        .ld x223 .slice fun x224 =>
        .newS (.cells #[(.int .i64 x217.1)] ty_int) 1 fun x226 =>
        .act (opS Try.prog (.call { callee := .builtin .append, args := #[(.tmp 0), (.tmp 1)], argTypes := #[ty_s_int, ty_s_int] }) ty_s_int [(.slice x224.a x224.len x224.cap), (.slice x226.a x226.len x226.cap)]) (.one (.leaf .slice)) fun x227 =>
        .look (opS Try.prog (.indexAddr ty_a6_s_int (.tmp 0) (.tmp 1)) ty_unit [(.pointer (some x9)), (.int .i64 y9.2.1)]) (.one (.leaf .addr)) fun x228 =>
        .st x228 (.slice x227.a x227.len x227.cap) <|
        .look (opS Try.prog (.indexAddr ty_a6_p_free_Pop (.tmp 0) (.tmp 1)) ty_unit [(.pointer (some x11)), (.int .i64 y9.2.1)]) (.one (.leaf .addr)) fun x230 =>
        .st x230 (.pointer none) <|
        .again 2688 [(.int .i64 (w64 (y10.1 + 1)))])
      else (
        .look (opS Try.prog (.indexAddr ty_a6_p_free_Pop (.tmp 0) (.tmp 1)) ty_unit [(.pointer (some x11)), (.int .i64 y9.2.1)]) (.one (.leaf .addr)) fun x230 =>
        .st x230 (.pointer none) <|
        .again 2688 [(.int .i64 (w64 (y10.1 + 1)))]))
    else (
      .again 2688 [(.int .i64 (w64 (y10.1 + 1)))]))
  else (
    .again 2688 [(.int .i64 (w64 (y10.1 + 1)))])

noncomputable def t_magpielaw10_FreeMixes_J36 (x36 : Option Addr) (x9 : Addr) (x10 : Addr) (x11 : Addr) (y9 : HL Sh1.T [(.leaf .bool), (.leaf (.int .i64))]) (y10 : HL Sh1.T [(.leaf (.int .i64))]) : Tree :=
  .look (opS Try.prog (.indexAddr ty_a6_p_free_Push (.tmp 0) (.tmp 1)) ty_unit [(.pointer (some x10)), (.int .i64 y9.2.1)]) (.one (.leaf .addr)) fun x190 =>
  .ld x190 .ptr fun x191 =>
  .look (opS Try.prog (.binOp .neq ty_p_free_Push (.tmp 0) (.const (.pointer none)) ty_p_free_Push) ty_bool [(.pointer x191)]) (.one (.leaf .bool)) fun x192 =>
  bif x192 then (
    .look (opS Try.prog (.indexAddr ty_a6_p_free_Push (.tmp 0) (.tmp 1)) ty_unit [(.pointer (some x10)), (.int .i64 y9.2.1)]) (.one (.leaf .addr)) fun x195 =>
    .ld x195 .ptr fun x196 =>
    .call f_free_Push_Step [(.pointer x196), (.pointer x36)] (.one (.leaf .bool)) fun x198 =>
    bif x198 then (
      .look (opS Try.prog (.indexAddr ty_a6_p_free_Push (.tmp 0) (.tmp 1)) ty_unit [(.pointer (some x10)), (.int .i64 y9.2.1)]) (.one (.leaf .addr)) fun x201 =>
      .st x201 (.pointer none) <|
      t_magpielaw10_FreeMixes_J34 x36 x9 x11 y9 y10)
    else (
      t_magpielaw10_FreeMixes_J34 x36 x9 x11 y9 y10))
  else (
    t_magpielaw10_FreeMixes_J34 x36 x9 x11 y9 y10)

noncomputable def t_magpielaw10_FreeMixes_J40 (x9 : Addr) (x10 : Addr) (x11 : Addr) (x21 : Addr) (y9 : HL Sh1.T [(.leaf .bool), (.leaf (.int .i64))]) : Tree :=
  .look (opS Try.prog (.indexAddr ty_a6_p_free_Push (.tmp 0) (.tmp 1)) ty_unit [(.pointer (some x10)), (.int .i64 y9.2.1)]) (.one (.leaf .addr)) fun x232 =>
  .ld x232 .ptr fun x233 =>
  .look (opS Try.prog (.binOp .neq ty_p_free_Push (.tmp 0) (.const (.pointer none)) ty_p_free_Push) ty_bool [(.pointer x233)]) (.one (.leaf .bool)) fun x234 =>
  bif x234 then (
    .ret (.bool false))
  else (
    .look (opS Try.prog (.indexAddr ty_a6_p_free_Pop (.tmp 0) (.tmp 1)) ty_unit [(.pointer (some x11)), (.int .i64 y9.2.1)]) (.one (.leaf .addr)) fun x237 =>
    .ld x237 .ptr fun x238 =>
    .look (opS Try.prog (.binOp .neq ty_p_free_Pop (.tmp 0) (.const (.pointer none)) ty_p_free_Pop) ty_bool [(.pointer x238)]) (.one (.leaf .bool)) fun x239 =>
    bif x239 then (
      .ret (.bool false))
    else (
      .look (opS Try.prog (.indexAddr ty_a6_s_int (.tmp 0) (.tmp 1)) ty_unit [(.pointer (some x9)), (.int .i64 y9.2.1)]) (.one (.leaf .addr)) fun x242 =>
      .ld x242 .slice fun x243 =>
      .loop 3456 t_magpielaw10_FreeMixes_L11_sh [(.int .i64 0)] (t_magpielaw10_FreeMixes_L11 x21 y9 x243)))

@[reducible] def t_magpielaw10_FreeMixes_L10_sh : List Sh1 := [(.leaf (.int .i64))]
noncomputable def t_magpielaw10_FreeMixes_L10 (x36 : Option Addr) (x9 : Addr) (x10 : Addr) (x11 : Addr) (x21 : Addr) (y9 : HL Sh1.T [(.leaf .bool), (.leaf (.int .i64))]) (y10 : HL Sh1.T t_magpielaw10_FreeMixes_L10_sh) : Tree :=
  bif (decide ((y10.1 : Int) < 100)) then (
    .look (opS Try.prog (.indexAddr ty_a6_p_free_Push (.tmp 0) (.tmp 1)) ty_unit [(.pointer (some x10)), (.int .i64 y9.2.1)]) (.one (.leaf .addr)) fun x177 =>
    .ld x177 .ptr fun x178 =>
    .look (opS Try.prog (.binOp .neq ty_p_free_Push (.tmp 0) (.const (.pointer none)) ty_p_free_Push) ty_bool [(.pointer x178)]) (.one (.leaf .bool)) fun x179 =>
    bif x179 then (
      t_magpielaw10_FreeMixes_J36 x36 x9 x10 x11 y9 y10)
    else (
      .look (opS Try.prog (.indexAddr ty_a6_p_free_Pop (.tmp 0) (.tmp 1)) ty_unit [(.pointer (some x11)), (.int .i64 y9.2.1)]) (.one (.leaf .addr)) fun x182 =>
      .ld x182 .ptr fun x183 =>
      .look (opS Try.prog (.binOp .neq ty_p_free_Pop (.tmp 0) (.const (.pointer none)) ty_p_free_Pop) ty_bool [(.pointer x183)]) (.one (.leaf .bool)) fun x184 =>
      bif x184 then (
        t_magpielaw10_FreeMixes_J36 x36 x9 x10 x11 y9 y10)
      else (
        t_magpielaw10_FreeMixes_J40 x9 x10 x11 x21 y9)))
  else (
    t_magpielaw10_FreeMixes_J40 x9 x10 x11 x21 y9)

@[reducible] def t_magpielaw10_FreeMixes_L13_sh : List Sh1 := [(.leaf (.int .i64))]
noncomputable def t_magpielaw10_FreeMixes_L13 (x36 : Option Addr) (x40 : Int) (x21 : Addr) (y9 : HL Sh1.T [(.leaf .bool), (.leaf (.int .i64))]) (x259 : Sl) (y13 : HL Sh1.T t_magpielaw10_FreeMixes_L13_sh) : Tree :=
  bif (decide ((y13.1 : Int) < ((x259.len : Nat) : Int))) then (
    .look (opS Try.prog (.indexAddr ty_s_int (.tmp 0) (.tmp 1)) ty_unit [(.slice x259.a x259.len x259.cap), (.int .i64 y13.1)]) (.one (.leaf .addr)) fun x263 =>
    .ld x263 (.int .i64) fun x264 =>
    .qcall f_magpielaw00_Place [(.int .i64 (w64 (Int.tdiv x264 8))), (.int .i64 32)] (.one (.leaf (.int .i64))) fun x267 =>
    .look (opS Try.prog (.indexAddr ty_a32_int (.tmp 0) (.tmp 1)) ty_unit [(.pointer (some x21)), (.int .i64 x267)]) (.one (.leaf .addr)) fun x268 =>
    .ld x268 (.int .i64) fun x269 =>
    .look (opS Try.prog (.indexAddr ty_a32_int (.tmp 0) (.tmp 1)) ty_unit [(.pointer (some x21)), (.int .i64 x267)]) (.one (.leaf .addr)) fun x271 =>
    .st x271 (.int .i64 (w64 (x269 + 1))) <|
    .again 3776 [(.int .i64 (w64 (y13.1 + 1)))])
  else (
    .loop 4096 t_magpielaw10_FreeMixes_L8_sh [(.bool y9.1), (.int .i64 0)] (t_magpielaw10_FreeMixes_L8 x36 x40 x21))

@[reducible] def t_magpielaw10_FreeMixes_L9_sh : List Sh1 := [(.leaf .bool), (.leaf (.int .i64))]
noncomputable def t_magpielaw10_FreeMixes_L9 (x5 : Addr) (x36 : Option Addr) (x40 : Int) (x9 : Addr) (x10 : Addr) (x11 : Addr) (x21 : Addr) (y9 : HL Sh1.T t_magpielaw10_FreeMixes_L9_sh) : Tree :=
  bif (decide ((y9.2.1 : Int) < (w64 (1 + x40)))) then (
    .loop 2688 t_magpielaw10_FreeMixes_L10_sh [(.int .i64 0)] (t_magpielaw10_FreeMixes_L10 x36 x9 x10 x11 x21 y9))
  else (
    .ldA x5 [(.int .i64), (.int .i64), (.int .i64), (.int .i64), (.int .i64)] fun x258 =>
    .call f_free_List [(.pointer x36), (.agg #[(.int .i64 x258.1), (.int .i64 x258.2.1), (.int .i64 x258.2.2.1), (.int .i64 x258.2.2.2.1), (.int .i64 x258.2.2.2.2.1)]), (.int .i64 1), (.int .i64 2)] (.one (.leaf .slice)) fun x259 =>
    .loop 3776 t_magpielaw10_FreeMixes_L13_sh [(.int .i64 0)] (t_magpielaw10_FreeMixes_L13 x36 x40 x21 y9 x259))

noncomputable def t_magpielaw10_FreeMixes_J1 (x36 : Option Addr) (y2 : HL Sh1.T [(.leaf .bool), (.leaf (.int .i64))]) (x75 : Int) : Tree :=
  .call f_arena_Arena_Uses [(.pointer x36)] (.one (.leaf (.int .i64))) fun x164 =>
  bif (decide ((x164 : Int) > (w64 (x75 + 1)))) then (
    .ret (.bool false))
  else (
    .again 960 [(.bool y2.1), (.int .i64 (w64 (y2.2.1 + 1)))])

@[reducible] def t_magpielaw10_FreeMixes_L2_sh : List Sh1 := [(.leaf .bool), (.leaf (.int .i64))]
noncomputable def t_magpielaw10_FreeMixes_L2 (p1 : Sl) (x5 : Addr) (x36 : Option Addr) (x40 : Int) (x9 : Addr) (x10 : Addr) (x11 : Addr) (x13 : Addr) (y2 : HL Sh1.T t_magpielaw10_FreeMixes_L2_sh) : Tree :=
  bif (decide ((y2.2.1 : Int) < ((p1.len : Nat) : Int))) then (
    bif (decide ((y2.2.1 : Int) < 400)) then (
      .look (opS Try.prog (.indexAddr ty_s_int (.tmp 0) (.tmp 1)) ty_unit [(.slice p1.a p1.len p1.cap), (.int .i64 y2.2.1)]) (.one (.leaf .addr)) fun x68 =>
      .ld x68 (.int .i64) fun x69 =>
      .qcall f_magpielaw00_Place [(.int .i64 x69), (.int .i64 1048576)] (.one (.leaf (.int .i64))) fun x70 =>
      .look (opS Try.prog (.binOp .rem ty_int (.tmp 0) (.tmp 1) ty_int) ty_int [(.int .i64 x70), (.int .i64 (w64 (1 + x40)))]) (.one (.leaf (.int .i64))) fun x73 =>
      .call f_arena_Arena_Uses [(.pointer x36)] (.one (.leaf (.int .i64))) fun x75 =>
      .look (opS Try.prog (.indexAddr ty_a6_p_free_Push (.tmp 0) (.tmp 1)) ty_unit [(.pointer (some x10)), (.int .i64 x73)]) (.one (.leaf .addr)) fun x82 =>
      .ld x82 .ptr fun x83 =>
      .look (opS Try.prog (.binOp .neq ty_p_free_Push (.tmp 0) (.const (.pointer none)) ty_p_free_Push) ty_bool [(.pointer x83)]) (.one (.leaf .bool)) fun x84 =>
      bif x84 then (
        .look (opS Try.prog (.indexAddr ty_a6_p_free_Push (.tmp 0) (.tmp 1)) ty_unit [(.pointer (some x10)), (.int .i64 x73)]) (.one (.leaf .addr)) fun x86 =>
        .ld x86 .ptr fun x87 =>
        .call f_free_Push_Step [(.pointer x87), (.pointer x36)] (.one (.leaf .bool)) fun x89 =>
        bif x89 then (
          .look (opS Try.prog (.indexAddr ty_a6_p_free_Push (.tmp 0) (.tmp 1)) ty_unit [(.pointer (some x10)), (.int .i64 x73)]) (.one (.leaf .addr)) fun x91 =>
          .st x91 (.pointer none) <|
          t_magpielaw10_FreeMixes_J1 x36 y2 x75)
        else (
          t_magpielaw10_FreeMixes_J1 x36 y2 x75))
      else (
        .look (opS Try.prog (.indexAddr ty_a6_p_free_Pop (.tmp 0) (.tmp 1)) ty_unit [(.pointer (some x11)), (.int .i64 x73)]) (.one (.leaf .addr)) fun x94 =>
        .ld x94 .ptr fun x95 =>
        .look (opS Try.prog (.binOp .neq ty_p_free_Pop (.tmp 0) (.const (.pointer none)) ty_p_free_Pop) ty_bool [(.pointer x95)]) (.one (.leaf .bool)) fun x96 =>
        bif x96 then (
          .look (opS Try.prog (.indexAddr ty_a6_p_free_Pop (.tmp 0) (.tmp 1)) ty_unit [(.pointer (some x11)), (.int .i64 x73)]) (.one (.leaf .addr)) fun x98 =>
          .ld x98 .ptr fun x99 =>
          .call f_free_Pop_Step [(.pointer x99), (.pointer x36)] (.one (.leaf .bool)) fun x101 =>
          bif x101 then (
            .look (opS Try.prog (.indexAddr ty_a6_p_free_Pop (.tmp 0) (.tmp 1)) ty_unit [(.pointer (some x11)), (.int .i64 x73)]) (.one (.leaf .addr)) fun x104 =>
            .ld x104 .ptr fun x105 =>
            .call f_free_Pop_Base [(.pointer x105)] (.tup [(.leaf (.int .i64)), (.leaf .bool)]) fun x106 =>
            bif x106.2.1 then (
              .look (opS Try.prog (.indexAddr ty_a6_s_int (.tmp 0) (.tmp 1)) ty_unit [(.pointer (some x9)), (.int .i64 x73)]) (.one (.leaf .addr)) fun x112 =>
              .ld x112 .slice fun x113 =>
              .newS (.cells #[(.int .i64 x106.1)] ty_int) 1 fun x115 =>
              .act (opS Try.prog (.call { callee := .builtin .append, args := #[(.tmp 0), (.tmp 1)], argTypes := #[ty_s_int, ty_s_int] }) ty_s_int [(.slice x113.a x113.len x113.cap), (.slice x115.a x115.len x115.cap)]) (.one (.leaf .slice)) fun x116 =>
              .look (opS Try.prog (.indexAddr ty_a6_s_int (.tmp 0) (.tmp 1)) ty_unit [(.pointer (some x9)), (.int .i64 x73)]) (.one (.leaf .addr)) fun x117 =>
              .st x117 (.slice x116.a x116.len x116.cap) <|
              .look (opS Try.prog (.indexAddr ty_a6_p_free_Pop (.tmp 0) (.tmp 1)) ty_unit [(.pointer (some x11)), (.int .i64 x73)]) (.one (.leaf .addr)) fun x119 =>
              .st x119 (.pointer none) <|
              t_magpielaw10_FreeMixes_J1 x36 y2 x75)
            else (
              .look (opS Try.prog (.indexAddr ty_a6_p_free_Pop (.tmp 0) (.tmp 1)) ty_unit [(.pointer (some x11)), (.int .i64 x73)]) (.one (.leaf .addr)) fun x119 =>
              .st x119 (.pointer none) <|
              t_magpielaw10_FreeMixes_J1 x36 y2 x75))
          else (
            t_magpielaw10_FreeMixes_J1 x36 y2 x75))
        else (
          .look (opS Try.prog (.binOp .quo ty_int (.tmp 0) (.tmp 1) ty_int) ty_int [(.int .i64 x70), (.int .i64 (w64 (1 + x40)))]) (.one (.leaf (.int .i64))) fun x123 =>
          bif (((Int.tmod x123 2) : Int) == 0) then (
            .look (opS Try.prog (.indexAddr ty_a6_s_int (.tmp 0) (.tmp 1)) ty_unit [(.pointer (some x9)), (.int .i64 x73)]) (.one (.leaf .addr)) fun x128 =>
            .ld x128 .slice fun x129 =>
            bif (decide ((((x129.len : Nat) : Int) : Int) > 0)) then (
              .look (opS Try.prog (.indexAddr ty_a6_s_int (.tmp 0) (.tmp 1)) ty_unit [(.pointer (some x9)), (.int .i64 x73)]) (.one (.leaf .addr)) fun x134 =>
              .ld x134 .slice fun x135 =>
              .look (opS Try.prog (.indexAddr ty_a6_s_int (.tmp 0) (.tmp 1)) ty_unit [(.pointer (some x9)), (.int .i64 x73)]) (.one (.leaf .addr)) fun x140 =>
              .ld x140 .slice fun x141 =>
              .look (opS Try.prog (.indexAddr ty_s_int (.tmp 0) (.tmp 1)) ty_unit [(.slice x141.a x141.len x141.cap), (.int .i64 (w64 (((x135.len : Nat) : Int) - 1)))]) (.one (.leaf .addr)) fun x143 =>
              .ld x143 (.int .i64) fun x144 =>
              .look (opS Try.prog (.indexAddr ty_a6_int (.tmp 0) (.tmp 1)) ty_unit [(.pointer (some x13)), (.int .i64 x73)]) (.one (.leaf .addr)) fun x145 =>
              .st x145 (.int .i64 x144) <|
              .ldA x5 [(.int .i64), (.int .i64), (.int .i64), (.int .i64), (.int .i64)] fun x147 =>
              .look (opS Try.prog (.indexAddr ty_a6_s_int (.tmp 0) (.tmp 1)) ty_unit [(.pointer (some x9)), (.int .i64 x73)]) (.one (.leaf .addr)) fun x149 =>
              .ld x149 .slice fun x150 =>
              .look (opS Try.prog (.indexAddr ty_s_int (.tmp 0) (.tmp 1)) ty_unit [(.slice x150.a x150.len x150.cap), (.int .i64 (w64 (((x135.len : Nat) : Int) - 1)))]) (.one (.leaf .addr)) fun x152 =>
              .ld x152 (.int .i64) fun x153 =>
              .call f_free_NewPush [(.agg #[(.int .i64 x147.1), (.int .i64 x147.2.1), (.int .i64 x147.2.2.1), (.int .i64 x147.2.2.2.1), (.int .i64 x147.2.2.2.2.1)]), (.int .i64 1), (.int .i64 2), (.int .i64 x153)] (.one (.leaf .ptr)) fun x154 =>
              .look (opS Try.prog (.indexAddr ty_a6_p_free_Push (.tmp 0) (.tmp 1)) ty_unit [(.pointer (some x10)), (.int .i64 x73)]) (.one (.leaf .addr)) fun x155 =>
              .st x155 (.pointer x154) <|
              .look (opS Try.prog (.indexAddr ty_a6_s_int (.tmp 0) (.tmp 1)) ty_unit [(.pointer (some x9)), (.int .i64 x73)]) (.one (.leaf .addr)) fun x158 =>
              .ld x158 .slice fun x159 =>
              .look (opS Try.prog (.slice ty_s_int (.tmp 0) none (some (.tmp 1)) none) ty_s_int [(.slice x159.a x159.len x159.cap), (.int .i64 (w64 (((x135.len : Nat) : Int) - 1)))]) (.one (.leaf .slice)) fun x161 =>
              .look (opS Try.prog (.indexAddr ty_a6_s_int (.tmp 0) (.tmp 1)) ty_unit [(.pointer (some x9)), (.int .i64 x73)]) (.one (.leaf .addr)) fun x162 =>
              .st x162 (.slice x161.a x161.len x161.cap) <|
              t_magpielaw10_FreeMixes_J1 x36 y2 x75)
            else (
              .ldA x5 [(.int .i64), (.int .i64), (.int .i64), (.int .i64), (.int .i64)] fun x77 =>
              .call f_free_NewPop [(.agg #[(.int .i64 x77.1), (.int .i64 x77.2.1), (.int .i64 x77.2.2.1), (.int .i64 x77.2.2.2.1), (.int .i64 x77.2.2.2.2.1)]), (.int .i64 1), (.int .i64 2)] (.one (.leaf .ptr)) fun x78 =>
              .look (opS Try.prog (.indexAddr ty_a6_p_free_Pop (.tmp 0) (.tmp 1)) ty_unit [(.pointer (some x11)), (.int .i64 x73)]) (.one (.leaf .addr)) fun x79 =>
              .st x79 (.pointer x78) <|
              t_magpielaw10_FreeMixes_J1 x36 y2 x75))
          else (
            .ldA x5 [(.int .i64), (.int .i64), (.int .i64), (.int .i64), (.int .i64)] fun x77 =>
            .call f_free_NewPop [(.agg #[(.int .i64 x77.1), (.int .i64 x77.2.1), (.int .i64 x77.2.2.1), (.int .i64 x77.2.2.2.1), (.int .i64 x77.2.2.2.2.1)]), (.int .i64 1), (.int .i64 2)] (.one (.leaf .ptr)) fun x78 =>
            .look (opS Try.prog (.indexAddr ty_a6_p_free_Pop (.tmp 0) (.tmp 1)) ty_unit [(.pointer (some x11)), (.int .i64 x73)]) (.one (.leaf .addr)) fun x79 =>
            .st x79 (.pointer x78) <|
            t_magpielaw10_FreeMixes_J1 x36 y2 x75))))
    else (
      .newP (.cells #[(.int .i64 0), (.int .i64 0), (.int .i64 0), (.int .i64 0), (.int .i64 0), (.int .i64 0), (.int .i64 0), (.int .i64 0), (.int .i64 0), (.int .i64 0), (.int .i64 0), (.int .i64 0), (.int .i64 0), (.int .i64 0), (.int .i64 0), (.int .i64 0), (.int .i64 0), (.int .i64 0), (.int .i64 0), (.int .i64 0), (.int .i64 0), (.int .i64 0), (.int .i64 0), (.int .i64 0), (.int .i64 0), (.int .i64 0), (.int .i64 0), (.int .i64 0), (.int .i64 0), (.int .i64 0), (.int .i64 0), (.int .i64 0)] ty_a32_int) fun x21 =>
      .loop 2497 t_magpielaw10_FreeMixes_L3_sh [(.bool y2.1), (.int .i64 0)] (t_magpielaw10_FreeMixes_L3 x5 x36 x40 x9 x10 x11 x21)))
  else (
    .newP (.cells #[(.int .i64 0), (.int .i64 0), (.int .i64 0), (.int .i64 0), (.int .i64 0), (.int .i64 0), (.int .i64 0), (.int .i64 0), (.int .i64 0), (.int .i64 0), (.int .i64 0), (.int .i64 0), (.int .i64 0), (.int .i64 0), (.int .i64 0), (.int .i64 0), (.int .i64 0), (.int .i64 0), (.int .i64 0), (.int .i64 0), (.int .i64 0), (.int .i64 0), (.int .i64 0), (.int .i64 0), (.int .i64 0), (.int .i64 0), (.int .i64 0), (.int .i64 0), (.int .i64 0), (.int .i64 0), (.int .i64 0), (.int .i64 0)] ty_a32_int) fun x21 =>
    .loop 2497 t_magpielaw10_FreeMixes_L9_sh [(.bool y2.1), (.int .i64 0)] (t_magpielaw10_FreeMixes_L9 x5 x36 x40 x9 x10 x11 x21))

@[reducible] def t_magpielaw10_FreeMixes_L1_sh : List Sh1 := [(.leaf (.int .i64))]
noncomputable def t_magpielaw10_FreeMixes_L1 (p1 : Sl) (x5 : Addr) (x36 : Option Addr) (x40 : Int) (x9 : Addr) (x10 : Addr) (x11 : Addr) (y1 : HL Sh1.T t_magpielaw10_FreeMixes_L1_sh) : Tree :=
  bif (decide ((y1.1 : Int) < (w64 (1 + x40)))) then (
    .newS (.cells #[(.int .i64 (w64 (16 * y1.1))), (.int .i64 (w64 ((w64 (16 * y1.1)) + 8)))] ty_int) 2 fun x53 =>
    .look (opS Try.prog (.indexAddr ty_a6_s_int (.tmp 0) (.tmp 1)) ty_unit [(.pointer (some x9)), (.int .i64 y1.1)]) (.one (.leaf .addr)) fun x54 =>
    .st x54 (.slice x53.a x53.len x53.cap) <|
    .again 640 [(.int .i64 (w64 (y1.1 + 1)))])
  else (
    .newP (.cells #[(.int .i64 0), (.int .i64 0), (.int .i64 0), (.int .i64 0), (.int .i64 0), (.int .i64 0)] ty_a6_int) fun x13 =>
    .stA x13 [(.int .i64 0), (.int .i64 0), (.int .i64 0), (.int .i64 0), (.int .i64 0), (.int .i64 0)] <|
    .loop 960 t_magpielaw10_FreeMixes_L2_sh [(.bool false), (.int .i64 0)] (t_magpielaw10_FreeMixes_L2 p1 x5 x36 x40 x9 x10 x11 x13))
noncomputable def t_magpielaw10_FreeMixes (p0 : Int) (p1 : Sl) : Tree :=
  .call f_free_Raw [(.int .i64 4), (.int .i64 256)] (.tup [(.agg [(.int .i64), (.int .i64), (.int .i64), (.int .i64), (.int .i64)]), (.leaf (.int .i64))]) fun x32 =>
  .newP (.cells #[(.int .i64 0), (.int .i64 0), (.int .i64 0), (.int .i64 0), (.int .i64 0)] ty_free_Place) fun x5 =>
  .stA x5 [(.int .i64 x32.1.1), (.int .i64 x32.1.2.1), (.int .i64 x32.1.2.2.1), (.int .i64 x32.1.2.2.2.1), (.int .i64 x32.1.2.2.2.2.1)] <|
  .call f_arena_New [(.int .i64 x32.2.1), (.int .i64 256), (.bool false)] (.one (.leaf .ptr)) fun x36 =>
  .look (opS Try.prog (.binOp .eql ty_p_arena_Arena (.tmp 0) (.const (.pointer none)) ty_p_arena_Arena) ty_bool [(.pointer x36)]) (.one (.leaf .bool)) fun x38 =>
  bif x38 then (
    .ret (.bool false))
  else (
    .qcall f_magpielaw00_Place [(.int .i64 p0), (.int .i64 6)] (.one (.leaf (.int .i64))) fun x40 =>
    .newP (.cells #[(.slice none 0 0), (.slice none 0 0), (.slice none 0 0), (.slice none 0 0), (.slice none 0 0), (.slice none 0 0)] ty_a6_s_int) fun x9 =>
    .newP (.cells #[(.pointer none), (.pointer none), (.pointer none), (.pointer none), (.pointer none), (.pointer none)] ty_a6_p_free_Push) fun x10 =>
    .newP (.cells #[(.pointer none), (.pointer none), (.pointer none), (.pointer none), (.pointer none), (.pointer none)] ty_a6_p_free_Pop) fun x11 =>
    .loop 640 t_magpielaw10_FreeMixes_L1_sh [(.int .i64 0)] (t_magpielaw10_FreeMixes_L1 p1 x5 x36 x40 x9 x10 x11))
theorem t_magpielaw10_FreeMixes_eq (p0 : Int) (p1 : Sl) : funcTree Try.prog { quiet := [17, 18, 19, 21, 22, 48, 49, 51, 77], quietTmp := true, fncs := [], ifcs := [] } Try.f10 [(.int .i64 p0), (.slice p1.a p1.len p1.cap)] = t_magpielaw10_FreeMixes p0 p1 := by kernel_rfl
theorem t_magpielaw10_FreeMixes_spec {p0 : Int} {p1 : Sl} {H : Heap} {R : Value → Heap → Prop} (h : ∀ L, wp Try.prog (t_magpielaw10_FreeMixes p0 p1) L H R) : SpecF Try.prog f_magpielaw10_FreeMixes #[(.int .i64 p0), (.slice p1.a p1.len p1.cap)] H R :=
  spec_of_tree (cfg := { quiet := [17, 18, 19, 21, 22, 48, 49, 51, 77], quietTmp := true, fncs := [], ifcs := [] }) Try.func10 fun L => (t_magpielaw10_FreeMixes_eq p0 p1).symm ▸ h L

end Go.Proofs.Ytgnifhkjpekkdaa
