/- Texts of this claim, one behind the other. -/
import Derived.Test.YtgnifhkjpekkdaaB1
set_option linter.unusedVariables false
set_option maxRecDepth 10000
namespace Go.Proofs.Ytgnifhkjpekkdaa
open Go Go.Fw
/- magpie/magpielaw10.FreeStack -/
@[reducible] def t_magpielaw10_FreeStack_L2_sh : List Sh1 := [(.leaf .bool), (.leaf (.int .i64))]
noncomputable def t_magpielaw10_FreeStack_L2 (x6 : Addr) (y1 : HL Sh1.T [(.leaf .bool), (.leaf (.int .i64))]) (x41 : Int) (x154 : Sl) (y2 : HL Sh1.T t_magpielaw10_FreeStack_L2_sh) : Tree :=
  bif (decide ((y2.2.1 : Int) < ((x154.len : Nat) : Int))) then (
    .look (opS Try.prog (.indexAddr ty_s_int (.tmp 0) (.tmp 1)) ty_unit [(.slice x154.a x154.len x154.cap), (.int .i64 y2.2.1)]) (.one (.leaf .addr)) fun x170 =>
    .ld x170 (.int .i64) fun x171 =>
    .look (opS Try.prog (.indexAddr ty_a12_s_int (.tmp 0) (.tmp 1)) ty_unit [(.pointer (some x6)), (.int .i64 (w64 ((w64 (4 * (Int.tmod (w64 (Int.tdiv x41 2)) 3))) + (Int.tmod (w64 (Int.tdiv x41 6)) 4))))]) (.one (.leaf .addr)) fun x173 =>
    .ld x173 .slice fun x174 =>
    .look (opS Try.prog (.indexAddr ty_s_int (.tmp 0) (.tmp 1)) ty_unit [(.slice x174.a x174.len x174.cap), (.int .i64 (w64 ((w64 (((x154.len : Nat) : Int) - 1)) - y2.2.1)))]) (.one (.leaf .addr)) fun x180 =>
    .ld x180 (.int .i64) fun x181 =>
    bif ((x171 : Int) != x181) then (
      .ret (.bool false))
    else (
      .again 1920 [(.bool y2.1), (.int .i64 (w64 (y2.2.1 + 1)))]))
  else (
    .again 513 [(.bool y2.1), (.int .i64 (w64 (y1.2.1 + 1)))])

noncomputable def t_magpielaw10_FreeStack_J2 (x3 : Addr) (x24 : Option Addr) (x6 : Addr) (y1 : HL Sh1.T [(.leaf .bool), (.leaf (.int .i64))]) (x41 : Int) : Tree :=
  .ldA x3 [(.int .i64), (.int .i64), (.int .i64), (.int .i64), (.int .i64)] fun x151 =>
  .call f_free_List [(.pointer x24), (.agg #[(.int .i64 x151.1), (.int .i64 x151.2.1), (.int .i64 x151.2.2.1), (.int .i64 x151.2.2.2.1), (.int .i64 x151.2.2.2.2.1)]), (.int .i64 (Int.tmod (w64 (Int.tdiv x41 2)) 3)), (.int .i64 (Int.tmod (w64 (Int.tdiv x41 6)) 4))] (.one (.leaf .slice)) fun x154 =>
  .look (opS Try.prog (.indexAddr ty_a12_s_int (.tmp 0) (.tmp 1)) ty_unit [(.pointer (some x6)), (.int .i64 (w64 ((w64 (4 * (Int.tmod (w64 (Int.tdiv x41 2)) 3))) + (Int.tmod (w64 (Int.tdiv x41 6)) 4))))]) (.one (.leaf .addr)) fun x158 =>
  .ld x158 .slice fun x159 =>
  bif ((((x154.len : Nat) : Int) : Int) != ((x159.len : Nat) : Int)) then (
    .ret (.bool false))
  else (
    .loop 1920 t_magpielaw10_FreeStack_L2_sh [(.bool y1.1), (.int .i64 0)] (t_magpielaw10_FreeStack_L2 x6 y1 x41 x154))

noncomputable def t_magpielaw10_FreeStack_J7 (x3 : Addr) (x24 : Option Addr) (x6 : Addr) (x7 : Addr) (y1 : HL Sh1.T [(.leaf .bool), (.leaf (.int .i64))]) (x41 : Int) (x100 : HL Sh1.T [(.leaf (.int .i64)), (.leaf .bool)]) : Tree :=
  bif x100.2.1 then (
    .look (opS Try.prog (.indexAddr ty_a32_bool (.tmp 0) (.tmp 1)) ty_unit [(.pointer (some x7)), (.int .i64 (w64 (Int.tdiv x100.1 8)))]) (.one (.leaf .addr)) fun x138 =>
    .st x138 (.bool false) <|
    .look (opS Try.prog (.indexAddr ty_a12_s_int (.tmp 0) (.tmp 1)) ty_unit [(.pointer (some x6)), (.int .i64 (w64 ((w64 (4 * (Int.tmod (w64 (Int.tdiv x41 2)) 3))) + (Int.tmod (w64 (Int.tdiv x41 6)) 4))))]) (.one (.leaf .addr)) fun x141 =>
    .ld x141 .slice fun x142 =>
    .look (opS Try.prog (.indexAddr ty_a12_s_int (.tmp 0) (.tmp 1)) ty_unit [(.pointer (some x6)), (.int .i64 (w64 ((w64 (4 * (Int.tmod (w64 (Int.tdiv x41 2)) 3))) + (Int.tmod (w64 (Int.tdiv x41 6)) 4))))]) (.one (.leaf .addr)) fun x144 =>
    .ld x144 .slice fun x145 =>
    .look (opS Try.prog (.slice ty_s_int (.tmp 0) none (some (.tmp 1)) none) ty_s_int [(.slice x142.a x142.len x142.cap), (.int .i64 (w64 (((x145.len : Nat) : Int) - 1)))]) (.one (.leaf .slice)) fun x148 =>
    .look (opS Try.prog (.indexAddr ty_a12_s_int (.tmp 0) (.tmp 1)) ty_unit [(.pointer (some x6)), (.int .i64 (w64 ((w64 (4 * (Int.tmod (w64 (Int.tdiv x41 2)) 3))) + (Int.tmod (w64 (Int.tdiv x41 6)) 4))))]) (.one (.leaf .addr)) fun x149 =>
    .st x149 (.slice x148.a x148.len x148.cap) <|
    t_magpielaw10_FreeStack_J2 x3 x24 x6 y1 x41)
  else (
    t_magpielaw10_FreeStack_J2 x3 x24 x6 y1 x41)

noncomputable def t_magpielaw10_FreeStack_J16 (x3 : Addr) (x24 : Option Addr) (x6 : Addr) (x7 : Addr) (y1 : HL Sh1.T [(.leaf .bool), (.leaf (.int .i64))]) (x41 : Int) (x88 : Option Addr) : Tree :=
  .look (opS Try.prog (.binOp .eql ty_p_free_Pop (.tmp 0) (.const (.pointer none)) ty_p_free_Pop) ty_bool [(.pointer x88)]) (.one (.leaf .bool)) fun x90 =>
  bif x90 then (
    .ret (.bool false))
  else (
    .call f_magpielaw10_run [(.pointer x24), (.iface ty_p_free_Pop (.pointer x88))] (.one (.leaf .bool)) fun x95 =>
    bif (!x95) then (
      .ret (.bool false))
    else (
      .call f_free_Pop_Base [(.pointer x88)] (.tup [(.leaf (.int .i64)), (.leaf .bool)]) fun x100 =>
      .look (opS Try.prog (.indexAddr ty_a12_s_int (.tmp 0) (.tmp 1)) ty_unit [(.pointer (some x6)), (.int .i64 (w64 ((w64 (4 * (Int.tmod (w64 (Int.tdiv x41 2)) 3))) + (Int.tmod (w64 (Int.tdiv x41 6)) 4))))]) (.one (.leaf .addr)) fun x105 =>
      .ld x105 .slice fun x106 =>
      bif (!(x100.2.1 == (decide ((((x106.len : Nat) : Int) : Int) > 0)))) then (
        .ret (.bool false))
      else (
        bif x100.2.1 then (
          .look (opS Try.prog (.indexAddr ty_a12_s_int (.tmp 0) (.tmp 1)) ty_unit [(.pointer (some x6)), (.int .i64 (w64 ((w64 (4 * (Int.tmod (w64 (Int.tdiv x41 2)) 3))) + (Int.tmod (w64 (Int.tdiv x41 6)) 4))))]) (.one (.leaf .addr)) fun x115 =>
          .ld x115 .slice fun x116 =>
          .look (opS Try.prog (.indexAddr ty_a12_s_int (.tmp 0) (.tmp 1)) ty_unit [(.pointer (some x6)), (.int .i64 (w64 ((w64 (4 * (Int.tmod (w64 (Int.tdiv x41 2)) 3))) + (Int.tmod (w64 (Int.tdiv x41 6)) 4))))]) (.one (.leaf .addr)) fun x118 =>
          .ld x118 .slice fun x119 =>
          .look (opS Try.prog (.indexAddr ty_s_int (.tmp 0) (.tmp 1)) ty_unit [(.slice x116.a x116.len x116.cap), (.int .i64 (w64 (((x119.len : Nat) : Int) - 1)))]) (.one (.leaf .addr)) fun x122 =>
          .ld x122 (.int .i64) fun x123 =>
          bif ((x100.1 : Int) != x123) then (
            .ret (.bool false))
          else (
            bif (!x100.2.1) then (
              bif ((x100.1 : Int) != 0) then (
                .ret (.bool false))
              else (
                t_magpielaw10_FreeStack_J7 x3 x24 x6 x7 y1 x41 x100))
            else (
              t_magpielaw10_FreeStack_J7 x3 x24 x6 x7 y1 x41 x100)))
        else (
          bif (!x100.2.1) then (
            bif ((x100.1 : Int) != 0) then (
              .ret (.bool false))
            else (
              t_magpielaw10_FreeStack_J7 x3 x24 x6 x7 y1 x41 x100))
          else (
            t_magpielaw10_FreeStack_J7 x3 x24 x6 x7 y1 x41 x100)))))

noncomputable def t_magpielaw10_FreeStack_J28 (x24 : Option Addr) : Tree :=
  .call f_arena_Arena_Fault [(.pointer x24)] (.one (.leaf .bool)) fun x184 =>
  bif (!x184) then (
    .call f_magpielaw10_awake [] (.one (.leaf .bool)) fun x187 =>
    .ret (.bool x187))
  else (
    .ret (.bool false))

@[reducible] def t_magpielaw10_FreeStack_L1_sh : List Sh1 := [(.leaf .bool), (.leaf (.int .i64))]
noncomputable def t_magpielaw10_FreeStack_L1 (p0 : Sl) (x3 : Addr) (x24 : Option Addr) (x6 : Addr) (x7 : Addr) (y1 : HL Sh1.T t_magpielaw10_FreeStack_L1_sh) : Tree :=
  bif (decide ((y1.2.1 : Int) < ((p0.len : Nat) : Int))) then (
    bif (decide ((y1.2.1 : Int) < 60)) then (
      .look (opS Try.prog (.indexAddr ty_s_int (.tmp 0) (.tmp 1)) ty_unit [(.slice p0.a p0.len p0.cap), (.int .i64 y1.2.1)]) (.one (.leaf .addr)) fun x39 =>
      .ld x39 (.int .i64) fun x40 =>
      .qcall f_magpielaw00_Place [(.int .i64 x40), (.int .i64 1048576)] (.one (.leaf (.int .i64))) fun x41 =>
      bif (((Int.tmod x41 2) : Int) == 0) then (
        .look (opS Try.prog (.indexAddr ty_a32_bool (.tmp 0) (.tmp 1)) ty_unit [(.pointer (some x7)), (.int .i64 (Int.tmod (w64 (Int.tdiv x41 24)) 32))]) (.one (.leaf .addr)) fun x60 =>
        .ld x60 .bool fun x61 =>
        bif (!x61) then (
          .ldA x3 [(.int .i64), (.int .i64), (.int .i64), (.int .i64), (.int .i64)] fun x65 =>
          .call f_free_NewPush [(.agg #[(.int .i64 x65.1), (.int .i64 x65.2.1), (.int .i64 x65.2.2.1), (.int .i64 x65.2.2.2.1), (.int .i64 x65.2.2.2.2.1)]), (.int .i64 (Int.tmod (w64 (Int.tdiv x41 2)) 3)), (.int .i64 (Int.tmod (w64 (Int.tdiv x41 6)) 4)), (.int .i64 (w64 (8 * (Int.tmod (w64 (Int.tdiv x41 24)) 32))))] (.one (.leaf .ptr)) fun x70 =>
          .call f_magpielaw10_run [(.pointer x24), (.iface ty_p_free_Push (.pointer x70))] (.one (.leaf .bool)) fun x72 =>
          bif (!x72) then (
            .ret (.bool false))
          else (
            .look (opS Try.prog (.indexAddr ty_a12_s_int (.tmp 0) (.tmp 1)) ty_unit [(.pointer (some x6)), (.int .i64 (w64 ((w64 (4 * (Int.tmod (w64 (Int.tdiv x41 2)) 3))) + (Int.tmod (w64 (Int.tdiv x41 6)) 4))))]) (.one (.leaf .addr)) fun x77 =>
            .ld x77 .slice fun x78 =>
            .newS (.cells #[(.int .i64 (w64 (8 * (Int.tmod (w64 (Int.tdiv x41 24)) 32))))] ty_int) 1 fun x81 =>
            .act (opS Try.prog (.call { callee := .builtin .append, args := #[(.tmp 0), (.tmp 1)], argTypes := #[ty_s_int, ty_s_int] }) ty_s_int [(.slice x78.a x78.len x78.cap), (.slice x81.a x81.len x81.cap)]) (.one (.leaf .slice)) fun x82 =>
            .look (opS Try.prog (.indexAddr ty_a12_s_int (.tmp 0) (.tmp 1)) ty_unit [(.pointer (some x6)), (.int .i64 (w64 ((w64 (4 * (Int.tmod (w64 (Int.tdiv x41 2)) 3))) + (Int.tmod (w64 (Int.tdiv x41 6)) 4))))]) (.one (.leaf .addr)) fun x83 =>
            .st x83 (.slice x82.a x82.len x82.cap) <|
            .look (opS Try.prog (.indexAddr ty_a32_bool (.tmp 0) (.tmp 1)) ty_unit [(.pointer (some x7)), (.int .i64 (Int.tmod (w64 (Int.tdiv x41 24)) 32))]) (.one (.leaf .addr)) fun x84 =>
            .st x84 (.bool true) <|
            t_magpielaw10_FreeStack_J2 x3 x24 x6 y1 x41))
        else (
          .ldA x3 [(.int .i64), (.int .i64), (.int .i64), (.int .i64), (.int .i64)] fun x85 =>
          .call f_free_NewPop [(.agg #[(.int .i64 x85.1), (.int .i64 x85.2.1), (.int .i64 x85.2.2.1), (.int .i64 x85.2.2.2.1), (.int .i64 x85.2.2.2.2.1)]), (.int .i64 (Int.tmod (w64 (Int.tdiv x41 2)) 3)), (.int .i64 (Int.tmod (w64 (Int.tdiv x41 6)) 4))] (.one (.leaf .ptr)) fun x88 =>
          t_magpielaw10_FreeStack_J16 x3 x24 x6 x7 y1 x41 x88))
      else (
        .ldA x3 [(.int .i64), (.int .i64), (.int .i64), (.int .i64), (.int .i64)] fun x85 =>
        .call f_free_NewPop [(.agg #[(.int .i64 x85.1), (.int .i64 x85.2.1), (.int .i64 x85.2.2.1), (.int .i64 x85.2.2.2.1), (.int .i64 x85.2.2.2.2.1)]), (.int .i64 (Int.tmod (w64 (Int.tdiv x41 2)) 3)), (.int .i64 (Int.tmod (w64 (Int.tdiv x41 6)) 4))] (.one (.leaf .ptr)) fun x88 =>
        t_magpielaw10_FreeStack_J16 x3 x24 x6 x7 y1 x41 x88))
    else (
      t_magpielaw10_FreeStack_J28 x24))
  else (
    t_magpielaw10_FreeStack_J28 x24)
noncomputable def t_magpielaw10_FreeStack (p0 : Sl) : Tree :=
  .call f_free_Raw [(.int .i64 3), (.int .i64 256)] (.tup [(.agg [(.int .i64), (.int .i64), (.int .i64), (.int .i64), (.int .i64)]), (.leaf (.int .i64))]) fun x20 =>
  .newP (.cells #[(.int .i64 0), (.int .i64 0), (.int .i64 0), (.int .i64 0), (.int .i64 0)] ty_free_Place) fun x3 =>
  .stA x3 [(.int .i64 x20.1.1), (.int .i64 x20.1.2.1), (.int .i64 x20.1.2.2.1), (.int .i64 x20.1.2.2.2.1), (.int .i64 x20.1.2.2.2.2.1)] <|
  .call f_arena_New [(.int .i64 x20.2.1), (.int .i64 256), (.bool false)] (.one (.leaf .ptr)) fun x24 =>
  .look (opS Try.prog (.binOp .eql ty_p_arena_Arena (.tmp 0) (.const (.pointer none)) ty_p_arena_Arena) ty_bool [(.pointer x24)]) (.one (.leaf .bool)) fun x26 =>
  bif x26 then (
    .ret (.bool false))
  else (
    .newP (.cells #[(.slice none 0 0), (.slice none 0 0), (.slice none 0 0), (.slice none 0 0), (.slice none 0 0), (.slice none 0 0), (.slice none 0 0), (.slice none 0 0), (.slice none 0 0), (.slice none 0 0), (.slice none 0 0), (.slice none 0 0)] ty_a12_s_int) fun x6 =>
    .newP (.cells #[(.bool false), (.bool false), (.bool false), (.bool false), (.bool false), (.bool false), (.bool false), (.bool false), (.bool false), (.bool false), (.bool false), (.bool false), (.bool false), (.bool false), (.bool false), (.bool false), (.bool false), (.bool false), (.bool false), (.bool false), (.bool false), (.bool false), (.bool false), (.bool false), (.bool false), (.bool false), (.bool false), (.bool false), (.bool false), (.bool false), (.bool false), (.bool false)] ty_a32_bool) fun x7 =>
    .loop 513 t_magpielaw10_FreeStack_L1_sh [(.bool false), (.int .i64 0)] (t_magpielaw10_FreeStack_L1 p0 x3 x24 x6 x7))
theorem t_magpielaw10_FreeStack_eq (p0 : Sl) : funcTree Try.prog { quiet := [17, 18, 19, 21, 22, 48, 49, 51, 77], quietTmp := true, fncs := [], ifcs := [] } Try.f9 [(.slice p0.a p0.len p0.cap)] = t_magpielaw10_FreeStack p0 := by kernel_rfl
theorem t_magpielaw10_FreeStack_spec {p0 : Sl} {H : Heap} {R : Value → Heap → Prop} (h : ∀ L, wp Try.prog (t_magpielaw10_FreeStack p0) L H R) : SpecF Try.prog f_magpielaw10_FreeStack #[(.slice p0.a p0.len p0.cap)] H R :=
  spec_of_tree (cfg := { quiet := [17, 18, 19, 21, 22, 48, 49, 51, 77], quietTmp := true, fncs := [], ifcs := [] }) Try.func9 fun L => (t_magpielaw10_FreeStack_eq p0).symm ▸ h L

/- magpie/magpielaw10.FreeTags -/
@[reducible] def t_magpielaw10_FreeTags_L2_sh : List Sh1 := [(.leaf .bool), (.leaf (.int .i64))]
noncomputable def t_magpielaw10_FreeTags_L2 (x3 : Addr) (x18 : Option Addr) (y1 : HL Sh1.T [(.leaf .bool), (.leaf .slice), (.leaf (.int .i64)), (.leaf (.int .i64)), (.leaf (.int .i64))]) (x51 : Sl) (y2 : HL Sh1.T t_magpielaw10_FreeTags_L2_sh) : Tree :=
  bif (decide ((y2.2.1 : Int) < ((x51.len : Nat) : Int))) then (
    .ld (x3.add 2) (.int .i64) fun x107 =>
    .look (opS Try.prog (.indexAddr ty_s_int (.tmp 0) (.tmp 1)) ty_unit [(.slice x51.a x51.len x51.cap), (.int .i64 y2.2.1)]) (.one (.leaf .addr)) fun x110 =>
    .ld x110 (.int .i64) fun x111 =>
    .look (opS Try.prog (.indexAddr ty_s_int (.tmp 0) (.tmp 1)) ty_unit [(.slice x51.a x51.len x51.cap), (.int .i64 (w64 (y2.2.1 - 1)))]) (.one (.leaf .addr)) fun x118 =>
    .ld x118 (.int .i64) fun x119 =>
    .call f_arena_Arena_Raw [(.pointer x18), (.int .i64 (w64 (x107 + (w64 (Int.tdiv x111 8)))))] (.one (.leaf (.int .i64))) fun x114 =>
    .check (ldS x118) (.int .i64 x119) <|
    .check (opS Try.prog (.indexAddr ty_s_int (.tmp 0) (.tmp 1)) ty_unit [(.slice x51.a x51.len x51.cap), (.int .i64 (w64 (y2.2.1 - 1)))]) (.pointer (some x118)) <|
    bif ((x114 : Int) != (w64 ((w64 (Int.tdiv x119 8)) + 1))) then (
      .ret (.bool false))
    else (
      .again 1664 [(.bool y2.1), (.int .i64 (w64 (y2.2.1 + 1)))]))
  else (
    .again 513 [(.bool y2.1), (.slice x51.a x51.len x51.cap), (.int .i64 (w64 (y1.2.2.1 + 1))), (.int .i64 (w64 (y1.2.2.2.1 + 1))), (.int .i64 (w64 (y1.2.2.2.2.1 + 1)))])

@[reducible] def t_magpielaw10_FreeTags_L4_sh : List Sh1 := [(.leaf .bool), (.leaf (.int .i64))]
noncomputable def t_magpielaw10_FreeTags_L4 (x3 : Addr) (x18 : Option Addr) (y1 : HL Sh1.T [(.leaf .bool), (.leaf .slice), (.leaf (.int .i64)), (.leaf (.int .i64)), (.leaf (.int .i64))]) (x74 : Sl) (y4 : HL Sh1.T t_magpielaw10_FreeTags_L4_sh) : Tree :=
  bif (decide ((y4.2.1 : Int) < ((x74.len : Nat) : Int))) then (
    .ld (x3.add 2) (.int .i64) fun x107 =>
    .look (opS Try.prog (.indexAddr ty_s_int (.tmp 0) (.tmp 1)) ty_unit [(.slice x74.a x74.len x74.cap), (.int .i64 y4.2.1)]) (.one (.leaf .addr)) fun x110 =>
    .ld x110 (.int .i64) fun x111 =>
    .look (opS Try.prog (.indexAddr ty_s_int (.tmp 0) (.tmp 1)) ty_unit [(.slice x74.a x74.len x74.cap), (.int .i64 (w64 (y4.2.1 - 1)))]) (.one (.leaf .addr)) fun x118 =>
    .ld x118 (.int .i64) fun x119 =>
    .call f_arena_Arena_Raw [(.pointer x18), (.int .i64 (w64 (x107 + (w64 (Int.tdiv x111 8)))))] (.one (.leaf (.int .i64))) fun x114 =>
    .check (ldS x118) (.int .i64 x119) <|
    .check (opS Try.prog (.indexAddr ty_s_int (.tmp 0) (.tmp 1)) ty_unit [(.slice x74.a x74.len x74.cap), (.int .i64 (w64 (y4.2.1 - 1)))]) (.pointer (some x118)) <|
    bif ((x114 : Int) != (w64 ((w64 (Int.tdiv x119 8)) + 1))) then (
      .ret (.bool false))
    else (
      .again 1664 [(.bool y4.1), (.int .i64 (w64 (y4.2.1 + 1)))]))
  else (
    .again 513 [(.bool y4.1), (.slice x74.a x74.len x74.cap), (.int .i64 (w64 (y1.2.2.1 + 1))), (.int .i64 y1.2.2.2.1), (.int .i64 (w64 (y1.2.2.2.2.1 + 1)))])

@[reducible] def t_magpielaw10_FreeTags_L6_sh : List Sh1 := [(.leaf .bool), (.leaf (.int .i64))]
noncomputable def t_magpielaw10_FreeTags_L6 (x3 : Addr) (x18 : Option Addr) (y1 : HL Sh1.T [(.leaf .bool), (.leaf .slice), (.leaf (.int .i64)), (.leaf (.int .i64)), (.leaf (.int .i64))]) (y6 : HL Sh1.T t_magpielaw10_FreeTags_L6_sh) : Tree :=
  bif (decide ((y6.2.1 : Int) < ((y1.2.1.len : Nat) : Int))) then (
    .ld (x3.add 2) (.int .i64) fun x107 =>
    .look (opS Try.prog (.indexAddr ty_s_int (.tmp 0) (.tmp 1)) ty_unit [(.slice y1.2.1.a y1.2.1.len y1.2.1.cap), (.int .i64 y6.2.1)]) (.one (.leaf .addr)) fun x110 =>
    .ld x110 (.int .i64) fun x111 =>
    .look (opS Try.prog (.indexAddr ty_s_int (.tmp 0) (.tmp 1)) ty_unit [(.slice y1.2.1.a y1.2.1.len y1.2.1.cap), (.int .i64 (w64 (y6.2.1 - 1)))]) (.one (.leaf .addr)) fun x118 =>
    .ld x118 (.int .i64) fun x119 =>
    .call f_arena_Arena_Raw [(.pointer x18), (.int .i64 (w64 (x107 + (w64 (Int.tdiv x111 8)))))] (.one (.leaf (.int .i64))) fun x114 =>
    .check (ldS x118) (.int .i64 x119) <|
    .check (opS Try.prog (.indexAddr ty_s_int (.tmp 0) (.tmp 1)) ty_unit [(.slice y1.2.1.a y1.2.1.len y1.2.1.cap), (.int .i64 (w64 (y6.2.1 - 1)))]) (.pointer (some x118)) <|
    bif ((x114 : Int) != (w64 ((w64 (Int.tdiv x119 8)) + 1))) then (
      .ret (.bool false))
    else (
      .again 1664 [(.bool y6.1), (.int .i64 (w64 (y6.2.1 + 1)))]))
  else (
    .again 513 [(.bool y6.1), (.slice y1.2.1.a y1.2.1.len y1.2.1.cap), (.int .i64 y1.2.2.1), (.int .i64 y1.2.2.2.1), (.int .i64 (w64 (y1.2.2.2.2.1 + 1)))])

noncomputable def t_magpielaw10_FreeTags_J29 (x3 : Addr) (x18 : Option Addr) (y1 : HL Sh1.T [(.leaf .bool), (.leaf .slice), (.leaf (.int .i64)), (.leaf (.int .i64)), (.leaf (.int .i64))]) (x57 : Option Addr) : Tree :=
  .look (opS Try.prog (.binOp .eql ty_p_free_Pop (.tmp 0) (.const (.pointer none)) ty_p_free_Pop) ty_bool [(.pointer x57)]) (.one (.leaf .bool)) fun x59 =>
  bif x59 then (
    .ret (.bool false))
  else (
    .call f_magpielaw10_run [(.pointer x18), (.iface ty_p_free_Pop (.pointer x57))] (.one (.leaf .bool)) fun x64 =>
    bif (!x64) then (
      .ret (.bool false))
    else (
      bif (decide ((((y1.2.1.len : Nat) : Int) : Int) > 0)) then (
        .look (opS Try.prog (.slice ty_s_int (.tmp 0) none (some (.tmp 1)) none) ty_s_int [(.slice y1.2.1.a y1.2.1.len y1.2.1.cap), (.int .i64 (w64 (((y1.2.1.len : Nat) : Int) - 1)))]) (.one (.leaf .slice)) fun x74 =>
        bif (decide ((((x74.len : Nat) : Int) : Int) > 0)) then (
          .look (opS Try.prog (.indexAddr ty_s_int (.tmp 0) (.tmp 1)) ty_unit [(.slice x74.a x74.len x74.cap), (.int .i64 (w64 (((x74.len : Nat) : Int) - 1)))]) (.one (.leaf .addr)) fun x87 =>
          .ld x87 (.int .i64) fun x88 =>
          .ld (x3.add 1) (.int .i64) fun x94 =>
          .call f_arena_Arena_Raw [(.pointer x18), (.int .i64 (w64 (x94 + 3)))] (.one (.leaf (.int .i64))) fun x96 =>
          bif ((x96 : Int) != (w64 ((w64 ((w64 ((w64 (y1.2.2.1 + 1)) * 2 ^ 17)) + (w64 (Int.tdiv x88 8)))) + 1))) then (
            .ret (.bool false))
          else (
            .loop 1664 t_magpielaw10_FreeTags_L4_sh [(.bool y1.1), (.int .i64 1)] (t_magpielaw10_FreeTags_L4 x3 x18 y1 x74)))
        else (
          .ld (x3.add 1) (.int .i64) fun x94 =>
          .call f_arena_Arena_Raw [(.pointer x18), (.int .i64 (w64 (x94 + 3)))] (.one (.leaf (.int .i64))) fun x96 =>
          bif ((x96 : Int) != (w64 ((w64 (y1.2.2.1 + 1)) * 2 ^ 17))) then (
            .ret (.bool false))
          else (
            .loop 1664 t_magpielaw10_FreeTags_L4_sh [(.bool y1.1), (.int .i64 1)] (t_magpielaw10_FreeTags_L4 x3 x18 y1 x74))))
      else (
        bif (decide ((((y1.2.1.len : Nat) : Int) : Int) > 0)) then (
          .look (opS Try.prog (.indexAddr ty_s_int (.tmp 0) (.tmp 1)) ty_unit [(.slice y1.2.1.a y1.2.1.len y1.2.1.cap), (.int .i64 (w64 (((y1.2.1.len : Nat) : Int) - 1)))]) (.one (.leaf .addr)) fun x87 =>
          .ld x87 (.int .i64) fun x88 =>
          .ld (x3.add 1) (.int .i64) fun x94 =>
          .call f_arena_Arena_Raw [(.pointer x18), (.int .i64 (w64 (x94 + 3)))] (.one (.leaf (.int .i64))) fun x96 =>
          bif ((x96 : Int) != (w64 ((w64 ((w64 (y1.2.2.1 * 2 ^ 17)) + (w64 (Int.tdiv x88 8)))) + 1))) then (
            .ret (.bool false))
          else (
            .loop 1664 t_magpielaw10_FreeTags_L6_sh [(.bool y1.1), (.int .i64 1)] (t_magpielaw10_FreeTags_L6 x3 x18 y1)))
        else (
          .ld (x3.add 1) (.int .i64) fun x94 =>
          .call f_arena_Arena_Raw [(.pointer x18), (.int .i64 (w64 (x94 + 3)))] (.one (.leaf (.int .i64))) fun x96 =>
          bif ((x96 : Int) != (w64 (y1.2.2.1 * 2 ^ 17))) then (
            .ret (.bool false))
          else (
            .loop 1664 t_magpielaw10_FreeTags_L6_sh [(.bool y1.1), (.int .i64 1)] (t_magpielaw10_FreeTags_L6 x3 x18 y1))))))

noncomputable def t_magpielaw10_FreeTags_J44 (x18 : Option Addr) : Tree :=
  .call f_arena_Arena_Fault [(.pointer x18)] (.one (.leaf .bool)) fun x124 =>
  bif (!x124) then (
    .call f_magpielaw10_awake [] (.one (.leaf .bool)) fun x127 =>
    .ret (.bool x127))
  else (
    .ret (.bool false))

@[reducible] def t_magpielaw10_FreeTags_L1_sh : List Sh1 := [(.leaf .bool), (.leaf .slice), (.leaf (.int .i64)), (.leaf (.int .i64)), (.leaf (.int .i64))]
noncomputable def t_magpielaw10_FreeTags_L1 (p0 : Sl) (x3 : Addr) (x18 : Option Addr) (y1 : HL Sh1.T t_magpielaw10_FreeTags_L1_sh) : Tree :=
  bif (decide ((y1.2.2.2.2.1 : Int) < ((p0.len : Nat) : Int))) then (
    bif (decide ((y1.2.2.2.2.1 : Int) < 60)) then (
      .look (opS Try.prog (.indexAddr ty_s_bool (.tmp 0) (.tmp 1)) ty_unit [(.slice p0.a p0.len p0.cap), (.int .i64 y1.2.2.2.2.1)]) (.one (.leaf .addr)) fun x33 =>
      .ld x33 .bool fun x34 =>
      bif x34 then (
        bif (decide ((y1.2.2.2.1 : Int) < 60)) then (
          .ldA x3 [(.int .i64), (.int .i64), (.int .i64), (.int .i64), (.int .i64)] fun x40 =>
          .call f_free_NewPush [(.agg #[(.int .i64 x40.1), (.int .i64 x40.2.1), (.int .i64 x40.2.2.1), (.int .i64 x40.2.2.2.1), (.int .i64 x40.2.2.2.2.1)]), (.int .i64 0), (.int .i64 3), (.int .i64 (w64 (8 * y1.2.2.2.1)))] (.one (.leaf .ptr)) fun x43 =>
          .call f_magpielaw10_run [(.pointer x18), (.iface ty_p_free_Push (.pointer x43))] (.one (.leaf .bool)) fun x45 =>
          bif (!x45) then (
            .ret (.bool false))
          else (
            .newS (.cells #[(.int .i64 (w64 (8 * y1.2.2.2.1)))] ty_int) 1 fun x50 =>
            .act (opS Try.prog (.call { callee := .builtin .append, args := #[(.tmp 0), (.tmp 1)], argTypes := #[ty_s_int, ty_s_int] }) ty_s_int [(.slice y1.2.1.a y1.2.1.len y1.2.1.cap), (.slice x50.a x50.len x50.cap)]) (.one (.leaf .slice)) fun x51 =>
            bif (decide ((((x51.len : Nat) : Int) : Int) > 0)) then (
              .look (opS Try.prog (.indexAddr ty_s_int (.tmp 0) (.tmp 1)) ty_unit [(.slice x51.a x51.len x51.cap), (.int .i64 (w64 (((x51.len : Nat) : Int) - 1)))]) (.one (.leaf .addr)) fun x87 =>
              .ld x87 (.int .i64) fun x88 =>
              .ld (x3.add 1) (.int .i64) fun x94 =>
              .call f_arena_Arena_Raw [(.pointer x18), (.int .i64 (w64 (x94 + 3)))] (.one (.leaf (.int .i64))) fun x96 =>
              bif ((x96 : Int) != (w64 ((w64 ((w64 ((w64 (y1.2.2.1 + 1)) * 2 ^ 17)) + (w64 (Int.tdiv x88 8)))) + 1))) then (
                .ret (.bool false))
              else (
                .loop 1664 t_magpielaw10_FreeTags_L2_sh [(.bool y1.1), (.int .i64 1)] (t_magpielaw10_FreeTags_L2 x3 x18 y1 x51)))
            else (
              .ld (x3.add 1) (.int .i64) fun x94 =>
              .call f_arena_Arena_Raw [(.pointer x18), (.int .i64 (w64 (x94 + 3)))] (.one (.leaf (.int .i64))) fun x96 =>
              bif ((x96 : Int) != (w64 ((w64 (y1.2.2.1 + 1)) * 2 ^ 17))) then (
                .ret (.bool false))
              else (
                .loop 1664 t_magpielaw10_FreeTags_L2_sh [(.bool y1.1), (.int .i64 1)] (t_magpielaw10_FreeTags_L2 x3 x18 y1 x51)))))
        else (
          .ldA x3 [(.int .i64), (.int .i64), (.int .i64), (.int .i64), (.int .i64)] fun x56 =>
          .call f_free_NewPop [(.agg #[(.int .i64 x56.1), (.int .i64 x56.2.1), (.int .i64 x56.2.2.1), (.int .i64 x56.2.2.2.1), (.int .i64 x56.2.2.2.2.1)]), (.int .i64 0), (.int .i64 3)] (.one (.leaf .ptr)) fun x57 =>
          t_magpielaw10_FreeTags_J29 x3 x18 y1 x57))
      else (
        .ldA x3 [(.int .i64), (.int .i64), (.int .i64), (.int .i64), (.int .i64)] fun x56 =>
        .call f_free_NewPop [(.agg #[(.int .i64 x56.1), (.int .i64 x56.2.1), (.int .i64 x56.2.2.1), (.int .i64 x56.2.2.2.1), (.int .i64 x56.2.2.2.2.1)]), (.int .i64 0), (.int .i64 3)] (.one (.leaf .ptr)) fun x57 =>
        t_magpielaw10_FreeTags_J29 x3 x18 y1 x57))
    else (
      t_magpielaw10_FreeTags_J44 x18))
  else (
    t_magpielaw10_FreeTags_J44 x18)
noncomputable def t_magpielaw10_FreeTags (p0 : Sl) : Tree :=
  .call f_free_Raw [(.int .i64 1), (.int .i64 512)] (.tup [(.agg [(.int .i64), (.int .i64), (.int .i64), (.int .i64), (.int .i64)]), (.leaf (.int .i64))]) fun x14 =>
  .newP (.cells #[(.int .i64 0), (.int .i64 0), (.int .i64 0), (.int .i64 0), (.int .i64 0)] ty_free_Place) fun x3 =>
  .stA x3 [(.int .i64 x14.1.1), (.int .i64 x14.1.2.1), (.int .i64 x14.1.2.2.1), (.int .i64 x14.1.2.2.2.1), (.int .i64 x14.1.2.2.2.2.1)] <|
  .call f_arena_New [(.int .i64 x14.2.1), (.int .i64 512), (.bool false)] (.one (.leaf .ptr)) fun x18 =>
  .look (opS Try.prog (.binOp .eql ty_p_arena_Arena (.tmp 0) (.const (.pointer none)) ty_p_arena_Arena) ty_bool [(.pointer x18)]) (.one (.leaf .bool)) fun x20 =>
  bif x20 then (
    .ret (.bool false))
  else (
    .loop 513 t_magpielaw10_FreeTags_L1_sh [(.bool false), (.slice none 0 0), (.int .i64 0), (.int .i64 0), (.int .i64 0)] (t_magpielaw10_FreeTags_L1 p0 x3 x18))
theorem t_magpielaw10_FreeTags_eq (p0 : Sl) : funcTree Try.prog { quiet := [17, 18, 19, 21, 22, 48, 49, 51, 77], quietTmp := true, fncs := [], ifcs := [] } Try.f12 [(.slice p0.a p0.len p0.cap)] = t_magpielaw10_FreeTags p0 := by kernel_rfl
theorem t_magpielaw10_FreeTags_spec {p0 : Sl} {H : Heap} {R : Value → Heap → Prop} (h : ∀ L, wp Try.prog (t_magpielaw10_FreeTags p0) L H R) : SpecF Try.prog f_magpielaw10_FreeTags #[(.slice p0.a p0.len p0.cap)] H R :=
  spec_of_tree (cfg := { quiet := [17, 18, 19, 21, 22, 48, 49, 51, 77], quietTmp := true, fncs := [], ifcs := [] }) Try.func12 fun L => (t_magpielaw10_FreeTags_eq p0).symm ▸ h L

/- magpie/magpielaw10.FreeMixes -/
@[reducible] def t_magpielaw10_FreeMixes_L5_sh : List Sh1 := [(.leaf (.int .i64))]
noncomputable def t_magpielaw10_FreeMixes_L5 (x21 : Addr) (y3 : HL Sh1.T [(.leaf .bool), (.leaf (.int .i64))]) (x243 : Sl) (y5 : HL Sh1.T t_magpielaw10_FreeMixes_L5_sh) : Tree :=
  bif (decide ((y5.1 : Int) < ((x243.len : Nat) : Int))) then (
    .look (opS Try.prog (.indexAddr ty_s_int (.tmp 0) (.tmp 1)) ty_unit [(.slice x243.a x243.len x243.cap), (.int .i64 y5.1)]) (.one (.leaf .addr)) fun x247 =>
    .ld x247 (.int .i64) fun x248 =>
    .qcall f_magpielaw00_Place [(.int .i64 (w64 (Int.tdiv x248 8))), (.int .i64 32)] (.one (.leaf (.int .i64))) fun x251 =>
    .look (opS Try.prog (.indexAddr ty_a32_int (.tmp 0) (.tmp 1)) ty_unit [(.pointer (some x21)), (.int .i64 x251)]) (.one (.leaf .addr)) fun x252 =>
    .ld x252 (.int .i64) fun x253 =>
    .look (opS Try.prog (.indexAddr ty_a32_int (.tmp 0) (.tmp 1)) ty_unit [(.pointer (some x21)), (.int .i64 x251)]) (.one (.leaf .addr)) fun x255 =>
    .st x255 (.int .i64 (w64 (x253 + 1))) <|
    .again 3456 [(.int .i64 (w64 (y5.1 + 1)))])
  else (
    .again 2497 [(.bool y3.1), (.int .i64 (w64 (y3.2.1 + 1)))])

noncomputable def t_magpielaw10_FreeMixes_J16 (x36 : Option Addr) (x9 : Addr) (x11 : Addr) (y3 : HL Sh1.T [(.leaf .bool), (.leaf (.int .i64))]) (y4 : HL Sh1.T [(.leaf (.int .i64))]) : Tree :=
  .look (opS Try.prog (.indexAddr ty_a6_p_free_Pop (.tmp 0) (.tmp 1)) ty_unit [(.pointer (some x11)), (.int .i64 y3.2.1)]) (.one (.leaf .addr)) fun x203 =>
  .ld x203 .ptr fun x204 =>
  .look (opS Try.prog (.binOp .neq ty_p_free_Pop (.tmp 0) (.const (.pointer none)) ty_p_free_Pop) ty_bool [(.pointer x204)]) (.one (.leaf .bool)) fun x205 =>
  bif x205 then (
    .look (opS Try.prog (.indexAddr ty_a6_p_free_Pop (.tmp 0) (.tmp 1)) ty_unit [(.pointer (some x11)), (.int .i64 y3.2.1)]) (.one (.leaf .addr)) fun x208 =>
    .ld x208 .ptr fun x209 =>
    .call f_free_Pop_Step [(.pointer x209), (.pointer x36)] (.one (.leaf .bool)) fun x211 =>
    bif x211 then (
      .look (opS Try.prog (.indexAddr ty_a6_p_free_Pop (.tmp 0) (.tmp 1)) ty_unit [(.pointer (some x11)), (.int .i64 y3.2.1)]) (.one (.leaf .addr)) fun x215 =>
      .ld x215 .ptr fun x216 =>
      .call f_free_Pop_Base [(.pointer x216)] (.tup [(.leaf (.int .i64)), (.leaf .bool)]) fun x217 =>
      bif x217.2.1 then (
        .look (opS Try.prog (.indexAddr ty_a6_s_int (.tmp 0) (.tmp 1)) ty_unit [(.pointer (some x9)), (.int .i64 y3.2.1)]) (.one (.leaf .addr)) fun x223 =>
        .ld x223 .slice fun x224 =>
        .newS (.cells #[(.int .i64 x217.1)] ty_int) 1 fun x226 =>
        .act (opS Try.prog (.call { callee := .builtin .append, args := #[(.tmp 0), (.tmp 1)], argTypes := #[ty_s_int, ty_s_int] }) ty_s_int [(.slice x224.a x224.len x224.cap), (.slice x226.a x226.len x226.cap)]) (.one (.leaf .slice)) fun x227 =>
        .look (opS Try.prog (.indexAddr ty_a6_s_int (.tmp 0) (.tmp 1)) ty_unit [(.pointer (some x9)), (.int .i64 y3.2.1)]) (.one (.leaf .addr)) fun x228 =>
        .st x228 (.slice x227.a x227.len x227.cap) <|
        .look (opS Try.prog (.indexAddr ty_a6_p_free_Pop (.tmp 0) (.tmp 1)) ty_unit [(.pointer (some x11)), (.int .i64 y3.2.1)]) (.one (.leaf .addr)) fun x230 =>
        .st x230 (.pointer none) <|
        .again 2688 [(.int .i64 (w64 (y4.1 + 1)))])
      else (
        .look (opS Try.prog (.indexAddr ty_a6_p_free_Pop (.tmp 0) (.tmp 1)) ty_unit [(.pointer (some x11)), (.int .i64 y3.2.1)]) (.one (.leaf .addr)) fun x230 =>
        .st x230 (.pointer none) <|
        .again 2688 [(.int .i64 (w64 (y4.1 + 1)))]))
    else (
      .again 2688 [(.int .i64 (w64 (y4.1 + 1)))]))
  else (
    .again 2688 [(.int .i64 (w64 (y4.1 + 1)))])

noncomputable def t_magpielaw10_FreeMixes_J18 (x36 : Option Addr) (x9 : Addr) (x10 : Addr) (x11 : Addr) (y3 : HL Sh1.T [(.leaf .bool), (.leaf (.int .i64))]) (y4 : HL Sh1.T [(.leaf (.int .i64))]) : Tree :=
  .look (opS Try.prog (.indexAddr ty_a6_p_free_Push (.tmp 0) (.tmp 1)) ty_unit [(.pointer (some x10)), (.int .i64 y3.2.1)]) (.one (.leaf .addr)) fun x190 =>
  .ld x190 .ptr fun x191 =>
  .look (opS Try.prog (.binOp .neq ty_p_free_Push (.tmp 0) (.const (.pointer none)) ty_p_free_Push) ty_bool [(.pointer x191)]) (.one (.leaf .bool)) fun x192 =>
  bif x192 then (
    .look (opS Try.prog (.indexAddr ty_a6_p_free_Push (.tmp 0) (.tmp 1)) ty_unit [(.pointer (some x10)), (.int .i64 y3.2.1)]) (.one (.leaf .addr)) fun x195 =>
    .ld x195 .ptr fun x196 =>
    .call f_free_Push_Step [(.pointer x196), (.pointer x36)] (.one (.leaf .bool)) fun x198 =>
    bif x198 then (
      .look (opS Try.prog (.indexAddr ty_a6_p_free_Push (.tmp 0) (.tmp 1)) ty_unit [(.pointer (some x10)), (.int .i64 y3.2.1)]) (.one (.leaf .addr)) fun x201 =>
      .st x201 (.pointer none) <|
      t_magpielaw10_FreeMixes_J16 x36 x9 x11 y3 y4)
    else (
      t_magpielaw10_FreeMixes_J16 x36 x9 x11 y3 y4))
  else (
    t_magpielaw10_FreeMixes_J16 x36 x9 x11 y3 y4)

noncomputable def t_magpielaw10_FreeMixes_J22 (x9 : Addr) (x10 : Addr) (x11 : Addr) (x21 : Addr) (y3 : HL Sh1.T [(.leaf .bool), (.leaf (.int .i64))]) : Tree :=
  .look (opS Try.prog (.indexAddr ty_a6_p_free_Push (.tmp 0) (.tmp 1)) ty_unit [(.pointer (some x10)), (.int .i64 y3.2.1)]) (.one (.leaf .addr)) fun x232 =>
  .ld x232 .ptr fun x233 =>
  .look (opS Try.prog (.binOp .neq ty_p_free_Push (.tmp 0) (.const (.pointer none)) ty_p_free_Push) ty_bool [(.pointer x233)]) (.one (.leaf .bool)) fun x234 =>
  bif x234 then (
    .ret (.bool false))
  else (
    .look (opS Try.prog (.indexAddr ty_a6_p_free_Pop (.tmp 0) (.tmp 1)) ty_unit [(.pointer (some x11)), (.int .i64 y3.2.1)]) (.one (.leaf .addr)) fun x237 =>
    .ld x237 .ptr fun x238 =>
    .look (opS Try.prog (.binOp .neq ty_p_free_Pop (.tmp 0) (.const (.pointer none)) ty_p_free_Pop) ty_bool [(.pointer x238)]) (.one (.leaf .bool)) fun x239 =>
    bif x239 then (
      .ret (.bool false))
    else (
      .look (opS Try.prog (.indexAddr ty_a6_s_int (.tmp 0) (.tmp 1)) ty_unit [(.pointer (some x9)), (.int .i64 y3.2.1)]) (.one (.leaf .addr)) fun x242 =>
      .ld x242 .slice fun x243 =>
      .loop 3456 t_magpielaw10_FreeMixes_L5_sh [(.int .i64 0)] (t_magpielaw10_FreeMixes_L5 x21 y3 x243)))

@[reducible] def t_magpielaw10_FreeMixes_L4_sh : List Sh1 := [(.leaf (.int .i64))]
noncomputable def t_magpielaw10_FreeMixes_L4 (x36 : Option Addr) (x9 : Addr) (x10 : Addr) (x11 : Addr) (x21 : Addr) (y3 : HL Sh1.T [(.leaf .bool), (.leaf (.int .i64))]) (y4 : HL Sh1.T t_magpielaw10_FreeMixes_L4_sh) : Tree :=
  bif (decide ((y4.1 : Int) < 100)) then (
    .look (opS Try.prog (.indexAddr ty_a6_p_free_Push (.tmp 0) (.tmp 1)) ty_unit [(.pointer (some x10)), (.int .i64 y3.2.1)]) (.one (.leaf .addr)) fun x177 =>
    .ld x177 .ptr fun x178 =>
    .look (opS Try.prog (.binOp .neq ty_p_free_Push (.tmp 0) (.const (.pointer none)) ty_p_free_Push) ty_bool [(.pointer x178)]) (.one (.leaf .bool)) fun x179 =>
    bif x179 then (
      t_magpielaw10_FreeMixes_J18 x36 x9 x10 x11 y3 y4)
    else (
      .look (opS Try.prog (.indexAddr ty_a6_p_free_Pop (.tmp 0) (.tmp 1)) ty_unit [(.pointer (some x11)), (.int .i64 y3.2.1)]) (.one (.leaf .addr)) fun x182 =>
      .ld x182 .ptr fun x183 =>
      .look (opS Try.prog (.binOp .neq ty_p_free_Pop (.tmp 0) (.const (.pointer none)) ty_p_free_Pop) ty_bool [(.pointer x183)]) (.one (.leaf .bool)) fun x184 =>
      bif x184 then (
        t_magpielaw10_FreeMixes_J18 x36 x9 x10 x11 y3 y4)
      else (
        t_magpielaw10_FreeMixes_J22 x9 x10 x11 x21 y3)))
  else (
    t_magpielaw10_FreeMixes_J22 x9 x10 x11 x21 y3)

noncomputable def t_magpielaw10_FreeMixes_J26 (x40 : Int) (y8 : HL Sh1.T [(.leaf .bool), (.leaf (.int .i64))]) : Tree :=
  bif (decide ((y8.2.1 : Int) ≥ (w64 (2 * (w64 (1 + x40)))))) then (
    .ret (.bool false))
  else (
    .again 4096 [(.bool y8.1), (.int .i64 (w64 (y8.2.1 + 1)))])

@[reducible] def t_magpielaw10_FreeMixes_L8_sh : List Sh1 := [(.leaf .bool), (.leaf (.int .i64))]
noncomputable def t_magpielaw10_FreeMixes_L8 (x36 : Option Addr) (x40 : Int) (x21 : Addr) (y8 : HL Sh1.T t_magpielaw10_FreeMixes_L8_sh) : Tree :=
  bif (decide ((y8.2.1 : Int) < 32)) then (
    .look (opS Try.prog (.indexAddr ty_a32_int (.tmp 0) (.tmp 1)) ty_unit [(.pointer (some x21)), (.int .i64 y8.2.1)]) (.one (.leaf .addr)) fun x278 =>
    .ld x278 (.int .i64) fun x279 =>
    bif ((x279 : Int) != 1) then (
      bif (decide ((y8.2.1 : Int) < (w64 (2 * (w64 (1 + x40)))))) then (
        .ret (.bool false))
      else (
        .look (opS Try.prog (.indexAddr ty_a32_int (.tmp 0) (.tmp 1)) ty_unit [(.pointer (some x21)), (.int .i64 y8.2.1)]) (.one (.leaf .addr)) fun x289 =>
        .ld x289 (.int .i64) fun x290 =>
        bif ((x290 : Int) != 0) then (
          t_magpielaw10_FreeMixes_J26 x40 y8)
        else (
          .again 4096 [(.bool y8.1), (.int .i64 (w64 (y8.2.1 + 1)))])))
    else (
      .look (opS Try.prog (.indexAddr ty_a32_int (.tmp 0) (.tmp 1)) ty_unit [(.pointer (some x21)), (.int .i64 y8.2.1)]) (.one (.leaf .addr)) fun x289 =>
      .ld x289 (.int .i64) fun x290 =>
      bif ((x290 : Int) != 0) then (
        t_magpielaw10_FreeMixes_J26 x40 y8)
      else (
        .again 4096 [(.bool y8.1), (.int .i64 (w64 (y8.2.1 + 1)))])))
  else (
    .call f_arena_Arena_Fault [(.pointer x36)] (.one (.leaf .bool)) fun x300 =>
    bif !x300 then
      bif (decide (((w64 (1 + x40)) : Int) ≤ 64)) then (
        .call f_magpielaw10_awake [] (.one (.leaf .bool)) fun x309 =>
        .ret (.bool x309))
      else (
        .ret (.bool false))
    else
      .ret (.bool false))

@[reducible] def t_magpielaw10_FreeMixes_L7_sh : List Sh1 := [(.leaf (.int .i64))]
noncomputable def t_magpielaw10_FreeMixes_L7 (x36 : Option Addr) (x40 : Int) (x21 : Addr) (y3 : HL Sh1.T [(.leaf .bool), (.leaf (.int .i64))]) (x259 : Sl) (y7 : HL Sh1.T t_magpielaw10_FreeMixes_L7_sh) : Tree :=
  bif (decide ((y7.1 : Int) < ((x259.len : Nat) : Int))) then (
    .look (opS Try.prog (.indexAddr ty_s_int (.tmp 0) (.tmp 1)) ty_unit [(.slice x259.a x259.len x259.cap), (.int .i64 y7.1)]) (.one (.leaf .addr)) fun x263 =>
    .ld x263 (.int .i64) fun x264 =>
    .qcall f_magpielaw00_Place [(.int .i64 (w64 (Int.tdiv x264 8))), (.int .i64 32)] (.one (.leaf (.int .i64))) fun x267 =>
    .look (opS Try.prog (.indexAddr ty_a32_int (.tmp 0) (.tmp 1)) ty_unit [(.pointer (some x21)), (.int .i64 x267)]) (.one (.leaf .addr)) fun x268 =>
    .ld x268 (.int .i64) fun x269 =>
    .look (opS Try.prog (.indexAddr ty_a32_int (.tmp 0) (.tmp 1)) ty_unit [(.pointer (some x21)), (.int .i64 x267)]) (.one (.leaf .addr)) fun x271 =>
    .st x271 (.int .i64 (w64 (x269 + 1))) <|
    .again 3776 [(.int .i64 (w64 (y7.1 + 1)))])
  else (
    .loop 4096 t_magpielaw10_FreeMixes_L8_sh [(.bool y3.1), (.int .i64 0)] (t_magpielaw10_FreeMixes_L8 x36 x40 x21))

@[reducible] def t_magpielaw10_FreeMixes_L3_sh : List Sh1 := [(.leaf .bool), (.leaf (.int .i64))]
noncomputable def t_magpielaw10_FreeMixes_L3 (x5 : Addr) (x36 : Option Addr) (x40 : Int) (x9 : Addr) (x10 : Addr) (x11 : Addr) (x21 : Addr) (y3 : HL Sh1.T t_magpielaw10_FreeMixes_L3_sh) : Tree :=
  bif (decide ((y3.2.1 : Int) < (w64 (1 + x40)))) then (
    .loop 2688 t_magpielaw10_FreeMixes_L4_sh [(.int .i64 0)] (t_magpielaw10_FreeMixes_L4 x36 x9 x10 x11 x21 y3))
  else (
    .ldA x5 [(.int .i64), (.int .i64), (.int .i64), (.int .i64), (.int .i64)] fun x258 =>
    .call f_free_List [(.pointer x36), (.agg #[(.int .i64 x258.1), (.int .i64 x258.2.1), (.int .i64 x258.2.2.1), (.int .i64 x258.2.2.2.1), (.int .i64 x258.2.2.2.2.1)]), (.int .i64 1), (.int .i64 2)] (.one (.leaf .slice)) fun x259 =>
    .loop 3776 t_magpielaw10_FreeMixes_L7_sh [(.int .i64 0)] (t_magpielaw10_FreeMixes_L7 x36 x40 x21 y3 x259))

@[reducible] def t_magpielaw10_FreeMixes_L11_sh : List Sh1 := [(.leaf (.int .i64))]
noncomputable def t_magpielaw10_FreeMixes_L11 (x21 : Addr) (y9 : HL Sh1.T [(.leaf .bool), (.leaf (.int .i64))]) (x243 : Sl) (y11 : HL Sh1.T t_magpielaw10_FreeMixes_L11_sh) : Tree :=
  bif (decide ((y11.1 : Int) < ((x243.len : Nat) : Int))) then (
    .look (opS Try.prog (.indexAddr ty_s_int (.tmp 0) (.tmp 1)) ty_unit [(.slice x243.a x243.len x243.cap), (.int .i64 y11.1)]) (.one (.leaf .addr)) fun x247 =>
    .ld x247 (.int .i64) fun x248 =>
    .qcall f_magpielaw00_Place [(.int .i64 (w64 (Int.tdiv x248 8))), (.int .i64 32)] (.one (.leaf (.int .i64))) fun x251 =>
    .look (opS Try.prog (.indexAddr ty_a32_int (.tmp 0) (.tmp 1)) ty_unit [(.pointer (some x21)), (.int .i64 x251)]) (.one (.leaf .addr)) fun x252 =>
    .ld x252 (.int .i64) fun x253 =>
    .look (opS Try.prog (.indexAddr ty_a32_int (.tmp 0) (.tmp 1)) ty_unit [(.pointer (some x21)), (.int .i64 x251)]) (.one (.leaf .addr)) fun x255 =>
    .st x255 (.int .i64 (w64 (x253 + 1))) <|
    .again 3456 [(.int .i64 (w64 (y11.1 + 1)))])
  else (
    .again 2497 [(.bool y9.1), (.int .i64 (w64 (y9.2.1 + 1)))])

noncomputable def t_magpielaw10_FreeMixes_J34 (x36 : Option Addr) (x9 : Addr) (x11 : Addr) (y9 : HL Sh1.T [(.leaf .bool), (.leaf (.int .i64))]) (y10 : HL Sh1.T [(.leaf (.int .i64))]) : Tree :=
  .look (opS Try.prog (.indexAddr ty_a6_p_free_Pop (.tmp 0) (.tmp 1)) ty_unit [(.pointer (some x11)), (.int .i64 y9.2.1)]) (.one (.leaf .addr)) fun x203 =>
  .ld x203 .ptr fun x204 =>
  .look (opS Try.prog (.binOp .neq ty_p_free_Pop (.tmp 0) (.const (.pointer none)) ty_p_free_Pop) ty_bool [(.pointer x204)]) (.one (.leaf .bool)) fun x205 =>
  bif x205 then (
    .look (opS Try.prog (.indexAddr ty_a6_p_free_Pop (.tmp 0) (.tmp 1)) ty_unit [(.pointer (some x11)), (.int .i64 y9.2.1)]) (.one (.leaf .addr)) fun x208 =>
    .ld x208 .ptr fun x209 =>
    .call f_free_Pop_Step [(.pointer x209), (.pointer x36)] (.one (.leaf .bool)) fun x211 =>
    bif x211 then (
      .look (opS Try.prog (.indexAddr ty_a6_p_free_Pop (.tmp 0) (.tmp 1)) ty_unit [(.pointer (some x11)), (.int .i64 y9.2.1)]) (.one (.leaf .addr)) fun x215 =>
      .ld x215 .ptr fun x216 =>
      .call f_free_Pop_Base [(.pointer x216)] (.tup [(.leaf (.int .i64)), (.leaf .bool)]) fun x217 =>
      bif x217.2.1 then (
        .look (opS Try.prog (.indexAddr ty_a6_s_int (.tmp 0) (.tmp 1)) ty_unit [(.pointer (some x9)), (.int .i64 y9.2.1)]) (.one (.leaf .addr)) fun x223 =>
        .ld x223 .slice fun x224 =>
        .newS (.cells #[(.int .i64 x217.1)] ty_int) 1 fun x226 =>
        .act (opS Try.prog (.call { callee := .builtin .append, args := #[(.tmp 0), (.tmp 1)], argTypes := #[ty_s_int, ty_s_int] }) ty_s_int [(.slice x224.a x224.len x224.cap), (.slice x226.a x226.len x226.cap)]) (.one (.leaf .slice)) fun x227 =>
        .look (opS Try.prog (.indexAddr ty_a6_s_int (.tmp 0) (.tmp 1)) ty_unit [(.pointer (some x9)), (.int .i64 y9.2.1)]) (.one (.leaf .addr)) fun x228 =>
        .st x228 (.slice x227.a x227.len x227.cap) <|
        .look (opS Try.prog (.indexAddr ty_a6_p_free_Pop (.tmp 0) (.tmp 1)) ty_unit [(.pointer (some x11)), (.int .i64 y9.2.1)]) (.one (.leaf .addr)) fun x230 =>
        .st x230 (.pointer none) <|
        .again 2688 [(.int .i64 (w64 (y10.1 + 1)))])
      else (
        .look (opS Try.prog (.indexAddr ty_a6_p_free_Pop (.tmp 0) (.tmp 1)) ty_unit [(.pointer (some x11)), (.int .i64 y9.2.1)]) (.one (.leaf .addr)) fun x230 =>
        .st x230 (.pointer none) <|
        .again 2688 [(.int .i64 (w64 (y10.1 + 1)))]))
    else (
      .again 2688 [(.int .i64 (w64 (y10.1 + 1)))]))
  else (
    .again 2688 [(.int .i64 (w64 (y10.1 + 1)))])

noncomputable def t_magpielaw10_FreeMixes_J36 (x36 : Option Addr) (x9 : Addr) (x10 : Addr) (x11 : Addr) (y9 : HL Sh1.T [(.leaf .bool), (.leaf (.int .i64))]) (y10 : HL Sh1.T [(.leaf (.int .i64))]) : Tree :=
  .look (opS Try.prog (.indexAddr ty_a6_p_free_Push (.tmp 0) (.tmp 1)) ty_unit [(.pointer (some x10)), (.int .i64 y9.2.1)]) (.one (.leaf .addr)) fun x190 =>
  .ld x190 .ptr fun x191 =>
  .look (opS Try.prog (.binOp .neq ty_p_free_Push (.tmp 0) (.const (.pointer none)) ty_p_free_Push) ty_bool [(.pointer x191)]) (.one (.leaf .bool)) fun x192 =>
  bif x192 then (
    .look (opS Try.prog (.indexAddr ty_a6_p_free_Push (.tmp 0) (.tmp 1)) ty_unit [(.pointer (some x10)), (.int .i64 y9.2.1)]) (.one (.leaf .addr)) fun x195 =>
    .ld x195 .ptr fun x196 =>
    .call f_free_Push_Step [(.pointer x196), (.pointer x36)] (.one (.leaf .bool)) fun x198 =>
    bif x198 then (
      .look (opS Try.prog (.indexAddr ty_a6_p_free_Push (.tmp 0) (.tmp 1)) ty_unit [(.pointer (some x10)), (.int .i64 y9.2.1)]) (.one (.leaf .addr)) fun x201 =>
      .st x201 (.pointer none) <|
      t_magpielaw10_FreeMixes_J34 x36 x9 x11 y9 y10)
    else (
      t_magpielaw10_FreeMixes_J34 x36 x9 x11 y9 y10))
  else (
    t_magpielaw10_FreeMixes_J34 x36 x9 x11 y9 y10)

noncomputable def t_magpielaw10_FreeMixes_J40 (x9 : Addr) (x10 : Addr) (x11 : Addr) (x21 : Addr) (y9 : HL Sh1.T [(.leaf .bool), (.leaf (.int .i64))]) : Tree :=
  .look (opS Try.prog (.indexAddr ty_a6_p_free_Push (.tmp 0) (.tmp 1)) ty_unit [(.pointer (some x10)), (.int .i64 y9.2.1)]) (.one (.leaf .addr)) fun x232 =>
  .ld x232 .ptr fun x233 =>
  .look (opS Try.prog (.binOp .neq ty_p_free_Push (.tmp 0) (.const (.pointer none)) ty_p_free_Push) ty_bool [(.pointer x233)]) (.one (.leaf .bool)) fun x234 =>
  bif x234 then (
    .ret (.bool false))
  else (
    .look (opS Try.prog (.indexAddr ty_a6_p_free_Pop (.tmp 0) (.tmp 1)) ty_unit [(.pointer (some x11)), (.int .i64 y9.2.1)]) (.one (.leaf .addr)) fun x237 =>
    .ld x237 .ptr fun x238 =>
    .look (opS Try.prog (.binOp .neq ty_p_free_Pop (.tmp 0) (.const (.pointer none)) ty_p_free_Pop) ty_bool [(.pointer x238)]) (.one (.leaf .bool)) fun x239 =>
    bif x239 then (
      .ret (.bool false))
    else (
      .look (opS Try.prog (.indexAddr ty_a6_s_int (.tmp 0) (.tmp 1)) ty_unit [(.pointer (some x9)), (.int .i64 y9.2.1)]) (.one (.leaf .addr)) fun x242 =>
      .ld x242 .slice fun x243 =>
      .loop 3456 t_magpielaw10_FreeMixes_L11_sh [(.int .i64 0)] (t_magpielaw10_FreeMixes_L11 x21 y9 x243)))

@[reducible] def t_magpielaw10_FreeMixes_L10_sh : List Sh1 := [(.leaf (.int .i64))]
noncomputable def t_magpielaw10_FreeMixes_L10 (x36 : Option Addr) (x9 : Addr) (x10 : Addr) (x11 : Addr) (x21 : Addr) (y9 : HL Sh1.T [(.leaf .bool), (.leaf (.int .i64))]) (y10 : HL Sh1.T t_magpielaw10_FreeMixes_L10_sh) : Tree :=
  bif (decide ((y10.1 : Int) < 100)) then (
    .look (opS Try.prog (.indexAddr ty_a6_p_free_Push (.tmp 0) (.tmp 1)) ty_unit [(.pointer (some x10)), (.int .i64 y9.2.1)]) (.one (.leaf .addr)) fun x177 =>
    .ld x177 .ptr fun x178 =>
    .look (opS Try.prog (.binOp .neq ty_p_free_Push (.tmp 0) (.const (.pointer none)) ty_p_free_Push) ty_bool [(.pointer x178)]) (.one (.leaf .bool)) fun x179 =>
    bif x179 then (
      t_magpielaw10_FreeMixes_J36 x36 x9 x10 x11 y9 y10)
    else (
      .look (opS Try.prog (.indexAddr ty_a6_p_free_Pop (.tmp 0) (.tmp 1)) ty_unit [(.pointer (some x11)), (.int .i64 y9.2.1)]) (.one (.leaf .addr)) fun x182 =>
      .ld x182 .ptr fun x183 =>
      .look (opS Try.prog (.binOp .neq ty_p_free_Pop (.tmp 0) (.const (.pointer none)) ty_p_free_Pop) ty_bool [(.pointer x183)]) (.one (.leaf .bool)) fun x184 =>
      bif x184 then (
        t_magpielaw10_FreeMixes_J36 x36 x9 x10 x11 y9 y10)
      else (
        t_magpielaw10_FreeMixes_J40 x9 x10 x11 x21 y9)))
  else (
    t_magpielaw10_FreeMixes_J40 x9 x10 x11 x21 y9)

@[reducible] def t_magpielaw10_FreeMixes_L13_sh : List Sh1 := [(.leaf (.int .i64))]
noncomputable def t_magpielaw10_FreeMixes_L13 (x36 : Option Addr) (x40 : Int) (x21 : Addr) (y9 : HL Sh1.T [(.leaf .bool), (.leaf (.int .i64))]) (x259 : Sl) (y13 : HL Sh1.T t_magpielaw10_FreeMixes_L13_sh) : Tree :=
  bif (decide ((y13.1 : Int) < ((x259.len : Nat) : Int))) then (
    .look (opS Try.prog (.indexAddr ty_s_int (.tmp 0) (.tmp 1)) ty_unit [(.slice x259.a x259.len x259.cap), (.int .i64 y13.1)]) (.one (.leaf .addr)) fun x263 =>
    .ld x263 (.int .i64) fun x264 =>
    .qcall f_magpielaw00_Place [(.int .i64 (w64 (Int.tdiv x264 8))), (.int .i64 32)] (.one (.leaf (.int .i64))) fun x267 =>
    .look (opS Try.prog (.indexAddr ty_a32_int (.tmp 0) (.tmp 1)) ty_unit [(.pointer (some x21)), (.int .i64 x267)]) (.one (.leaf .addr)) fun x268 =>
    .ld x268 (.int .i64) fun x269 =>
    .look (opS Try.prog (.indexAddr ty_a32_int (.tmp 0) (.tmp 1)) ty_unit [(.pointer (some x21)), (.int .i64 x267)]) (.one (.leaf .addr)) fun x271 =>
    .st x271 (.int .i64 (w64 (x269 + 1))) <|
    .again 3776 [(.int .i64 (w64 (y13.1 + 1)))])
  else (
    .loop 4096 t_magpielaw10_FreeMixes_L8_sh [(.bool y9.1), (.int .i64 0)] (t_magpielaw10_FreeMixes_L8 x36 x40 x21))

@[reducible] def t_magpielaw10_FreeMixes_L9_sh : List Sh1 := [(.leaf .bool), (.leaf (.int .i64))]
noncomputable def t_magpielaw10_FreeMixes_L9 (x5 : Addr) (x36 : Option Addr) (x40 : Int) (x9 : Addr) (x10 : Addr) (x11 : Addr) (x21 : Addr) (y9 : HL Sh1.T t_magpielaw10_FreeMixes_L9_sh) : Tree :=
  bif (decide ((y9.2.1 : Int) < (w64 (1 + x40)))) then (
    .loop 2688 t_magpielaw10_FreeMixes_L10_sh [(.int .i64 0)] (t_magpielaw10_FreeMixes_L10 x36 x9 x10 x11 x21 y9))
  else (
    .ldA x5 [(.int .i64), (.int .i64), (.int .i64), (.int .i64), (.int .i64)] fun x258 =>
    .call f_free_List [(.pointer x36), (.agg #[(.int .i64 x258.1), (.int .i64 x258.2.1), (.int .i64 x258.2.2.1), (.int .i64 x258.2.2.2.1), (.int .i64 x258.2.2.2.2.1)]), (.int .i64 1), (.int .i64 2)] (.one (.leaf .slice)) fun x259 =>
    .loop 3776 t_magpielaw10_FreeMixes_L13_sh [(.int .i64 0)] (t_magpielaw10_FreeMixes_L13 x36 x40 x21 y9 x259))

noncomputable def t_magpielaw10_FreeMixes_J1 (x36 : Option Addr) (y2 : HL Sh1.T [(.leaf .bool), (.leaf (.int .i64))]) (x75 : Int) : Tree :=
  .call f_arena_Arena_Uses [(.pointer x36)] (.one (.leaf (.int .i64))) fun x164 =>
  bif (decide ((x164 : Int) > (w64 (x75 + 1)))) then (
    .ret (.bool false))
  else (
    .again 960 [(.bool y2.1), (.int .i64 (w64 (y2.2.1 + 1)))])

@[reducible] def t_magpielaw10_FreeMixes_L2_sh : List Sh1 := [(.leaf .bool), (.leaf (.int .i64))]
noncomputable def t_magpielaw10_FreeMixes_L2 (p1 : Sl) (x5 : Addr) (x36 : Option Addr) (x40 : Int) (x9 : Addr) (x10 : Addr) (x11 : Addr) (x13 : Addr) (y2 : HL Sh1.T t_magpielaw10_FreeMixes_L2_sh) : Tree :=
  bif (decide ((y2.2.1 : Int) < ((p1.len : Nat) : Int))) then (
    bif (decide ((y2.2.1 : Int) < 400)) then (
      .look (opS Try.prog (.indexAddr ty_s_int (.tmp 0) (.tmp 1)) ty_unit [(.slice p1.a p1.len p1.cap), (.int .i64 y2.2.1)]) (.one (.leaf .addr)) fun x68 =>
      .ld x68 (.int .i64) fun x69 =>
      .qcall f_magpielaw00_Place [(.int .i64 x69), (.int .i64 1048576)] (.one (.leaf (.int .i64))) fun x70 =>
      .look (opS Try.prog (.binOp .rem ty_int (.tmp 0) (.tmp 1) ty_int) ty_int [(.int .i64 x70), (.int .i64 (w64 (1 + x40)))]) (.one (.leaf (.int .i64))) fun x73 =>
      .call f_arena_Arena_Uses [(.pointer x36)] (.one (.leaf (.int .i64))) fun x75 =>
      .look (opS Try.prog (.indexAddr ty_a6_p_free_Push (.tmp 0) (.tmp 1)) ty_unit [(.pointer (some x10)), (.int .i64 x73)]) (.one (.leaf .addr)) fun x82 =>
      .ld x82 .ptr fun x83 =>
      .look (opS Try.prog (.binOp .neq ty_p_free_Push (.tmp 0) (.const (.pointer none)) ty_p_free_Push) ty_bool [(.pointer x83)]) (.one (.leaf .bool)) fun x84 =>
      bif x84 then (
        .look (opS Try.prog (.indexAddr ty_a6_p_free_Push (.tmp 0) (.tmp 1)) ty_unit [(.pointer (some x10)), (.int .i64 x73)]) (.one (.leaf .addr)) fun x86 =>
        .ld x86 .ptr fun x87 =>
        .call f_free_Push_Step [(.pointer x87), (.pointer x36)] (.one (.leaf .bool)) fun x89 =>
        bif x89 then (
          .look (opS Try.prog (.indexAddr ty_a6_p_free_Push (.tmp 0) (.tmp 1)) ty_unit [(.pointer (some x10)), (.int .i64 x73)]) (.one (.leaf .addr)) fun x91 =>
          .st x91 (.pointer none) <|
          t_magpielaw10_FreeMixes_J1 x36 y2 x75)
        else (
          t_magpielaw10_FreeMixes_J1 x36 y2 x75))
      else (
        .look (opS Try.prog (.indexAddr ty_a6_p_free_Pop (.tmp 0) (.tmp 1)) ty_unit [(.pointer (some x11)), (.int .i64 x73)]) (.one (.leaf .addr)) fun x94 =>
        .ld x94 .ptr fun x95 =>
        .look (opS Try.prog (.binOp .neq ty_p_free_Pop (.tmp 0) (.const (.pointer none)) ty_p_free_Pop) ty_bool [(.pointer x95)]) (.one (.leaf .bool)) fun x96 =>
        bif x96 then (
          .look (opS Try.prog (.indexAddr ty_a6_p_free_Pop (.tmp 0) (.tmp 1)) ty_unit [(.pointer (some x11)), (.int .i64 x73)]) (.one (.leaf .addr)) fun x98 =>
          .ld x98 .ptr fun x99 =>
          .call f_free_Pop_Step [(.pointer x99), (.pointer x36)] (.one (.leaf .bool)) fun x101 =>
          bif x101 then (
            .look (opS Try.prog (.indexAddr ty_a6_p_free_Pop (.tmp 0) (.tmp 1)) ty_unit [(.pointer (some x11)), (.int .i64 x73)]) (.one (.leaf .addr)) fun x104 =>
            .ld x104 .ptr fun x105 =>
            .call f_free_Pop_Base [(.pointer x105)] (.tup [(.leaf (.int .i64)), (.leaf .bool)]) fun x106 =>
            bif x106.2.1 then (
              .look (opS Try.prog (.indexAddr ty_a6_s_int (.tmp 0) (.tmp 1)) ty_unit [(.pointer (some x9)), (.int .i64 x73)]) (.one (.leaf .addr)) fun x112 =>
              .ld x112 .slice fun x113 =>
              .newS (.cells #[(.int .i64 x106.1)] ty_int) 1 fun x115 =>
              .act (opS Try.prog (.call { callee := .builtin .append, args := #[(.tmp 0), (.tmp 1)], argTypes := #[ty_s_int, ty_s_int] }) ty_s_int [(.slice x113.a x113.len x113.cap), (.slice x115.a x115.len x115.cap)]) (.one (.leaf .slice)) fun x116 =>
              .look (opS Try.prog (.indexAddr ty_a6_s_int (.tmp 0) (.tmp 1)) ty_unit [(.pointer (some x9)), (.int .i64 x73)]) (.one (.leaf .addr)) fun x117 =>
              .st x117 (.slice x116.a x116.len x116.cap) <|
              .look (opS Try.prog (.indexAddr ty_a6_p_free_Pop (.tmp 0) (.tmp 1)) ty_unit [(.pointer (some x11)), (.int .i64 x73)]) (.one (.leaf .addr)) fun x119 =>
              .st x119 (.pointer none) <|
              t_magpielaw10_FreeMixes_J1 x36 y2 x75)
            else (
              .look (opS Try.prog (.indexAddr ty_a6_p_free_Pop (.tmp 0) (.tmp 1)) ty_unit [(.pointer (some x11)), (.int .i64 x73)]) (.one (.leaf .addr)) fun x119 =>
              .st x119 (.pointer none) <|
              t_magpielaw10_FreeMixes_J1 x36 y2 x75))
          else (
            t_magpielaw10_FreeMixes_J1 x36 y2 x75))
        else (
          .look (opS Try.prog (.binOp .quo ty_int (.tmp 0) (.tmp 1) ty_int) ty_int [(.int .i64 x70), (.int .i64 (w64 (1 + x40)))]) (.one (.leaf (.int .i64))) fun x123 =>
          bif (((Int.tmod x123 2) : Int) == 0) then (
            .look (opS Try.prog (.indexAddr ty_a6_s_int (.tmp 0) (.tmp 1)) ty_unit [(.pointer (some x9)), (.int .i64 x73)]) (.one (.leaf .addr)) fun x128 =>
            .ld x128 .slice fun x129 =>
            bif (decide ((((x129.len : Nat) : Int) : Int) > 0)) then (
              .look (opS Try.prog (.indexAddr ty_a6_s_int (.tmp 0) (.tmp 1)) ty_unit [(.pointer (some x9)), (.int .i64 x73)]) (.one (.leaf .addr)) fun x134 =>
              .ld x134 .slice fun x135 =>
              .look (opS Try.prog (.indexAddr ty_a6_s_int (.tmp 0) (.tmp 1)) ty_unit [(.pointer (some x9)), (.int .i64 x73)]) (.one (.leaf .addr)) fun x140 =>
              .ld x140 .slice fun x141 =>
              .look (opS Try.prog (.indexAddr ty_s_int (.tmp 0) (.tmp 1)) ty_unit [(.slice x141.a x141.len x141.cap), (.int .i64 (w64 (((x135.len : Nat) : Int) - 1)))]) (.one (.leaf .addr)) fun x143 =>
              .ld x143 (.int .i64) fun x144 =>
              .look (opS Try.prog (.indexAddr ty_a6_int (.tmp 0) (.tmp 1)) ty_unit [(.pointer (some x13)), (.int .i64 x73)]) (.one (.leaf .addr)) fun x145 =>
              .st x145 (.int .i64 x144) <|
              .ldA x5 [(.int .i64), (.int .i64), (.int .i64), (.int .i64), (.int .i64)] fun x147 =>
              .look (opS Try.prog (.indexAddr ty_a6_s_int (.tmp 0) (.tmp 1)) ty_unit [(.pointer (some x9)), (.int .i64 x73)]) (.one (.leaf .addr)) fun x149 =>
              .ld x149 .slice fun x150 =>
              .look (opS Try.prog (.indexAddr ty_s_int (.tmp 0) (.tmp 1)) ty_unit [(.slice x150.a x150.len x150.cap), (.int .i64 (w64 (((x135.len : Nat) : Int) - 1)))]) (.one (.leaf .addr)) fun x152 =>
              .ld x152 (.int .i64) fun x153 =>
              .call f_free_NewPush [(.agg #[(.int .i64 x147.1), (.int .i64 x147.2.1), (.int .i64 x147.2.2.1), (.int .i64 x147.2.2.2.1), (.int .i64 x147.2.2.2.2.1)]), (.int .i64 1), (.int .i64 2), (.int .i64 x153)] (.one (.leaf .ptr)) fun x154 =>
              .look (opS Try.prog (.indexAddr ty_a6_p_free_Push (.tmp 0) (.tmp 1)) ty_unit [(.pointer (some x10)), (.int .i64 x73)]) (.one (.leaf .addr)) fun x155 =>
              .st x155 (.pointer x154) <|
              .look (opS Try.prog (.indexAddr ty_a6_s_int (.tmp 0) (.tmp 1)) ty_unit [(.pointer (some x9)), (.int .i64 x73)]) (.one (.leaf .addr)) fun x158 =>
              .ld x158 .slice fun x159 =>
              .look (opS Try.prog (.slice ty_s_int (.tmp 0) none (some (.tmp 1)) none) ty_s_int [(.slice x159.a x159.len x159.cap), (.int .i64 (w64 (((x135.len : Nat) : Int) - 1)))]) (.one (.leaf .slice)) fun x161 =>
              .look (opS Try.prog (.indexAddr ty_a6_s_int (.tmp 0) (.tmp 1)) ty_unit [(.pointer (some x9)), (.int .i64 x73)]) (.one (.leaf .addr)) fun x162 =>
              .st x162 (.slice x161.a x161.len x161.cap) <|
              t_magpielaw10_FreeMixes_J1 x36 y2 x75)
            else (
              .ldA x5 [(.int .i64), (.int .i64), (.int .i64), (.int .i64), (.int .i64)] fun x77 =>
              .call f_free_NewPop [(.agg #[(.int .i64 x77.1), (.int .i64 x77.2.1), (.int .i64 x77.2.2.1), (.int .i64 x77.2.2.2.1), (.int .i64 x77.2.2.2.2.1)]), (.int .i64 1), (.int .i64 2)] (.one (.leaf .ptr)) fun x78 =>
              .look (opS Try.prog (.indexAddr ty_a6_p_free_Pop (.tmp 0) (.tmp 1)) ty_unit [(.pointer (some x11)), (.int .i64 x73)]) (.one (.leaf .addr)) fun x79 =>
              .st x79 (.pointer x78) <|
              t_magpielaw10_FreeMixes_J1 x36 y2 x75))
          else (
            .ldA x5 [(.int .i64), (.int .i64), (.int .i64), (.int .i64), (.int .i64)] fun x77 =>
            .call f_free_NewPop [(.agg #[(.int .i64 x77.1), (.int .i64 x77.2.1), (.int .i64 x77.2.2.1), (.int .i64 x77.2.2.2.1), (.int .i64 x77.2.2.2.2.1)]), (.int .i64 1), (.int .i64 2)] (.one (.leaf .ptr)) fun x78 =>
            .look (opS Try.prog (.indexAddr ty_a6_p_free_Pop (.tmp 0) (.tmp 1)) ty_unit [(.pointer (some x11)), (.int .i64 x73)]) (.one (.leaf .addr)) fun x79 =>
            .st x79 (.pointer x78) <|
            t_magpielaw10_FreeMixes_J1 x36 y2 x75))))
    else (
      .newP (.cells #[(.int .i64 0), (.int .i64 0), (.int .i64 0), (.int .i64 0), (.int .i64 0), (.int .i64 0), (.int .i64 0), (.int .i64 0), (.int .i64 0), (.int .i64 0), (.int .i64 0), (.int .i64 0), (.int .i64 0), (.int .i64 0), (.int .i64 0), (.int .i64 0), (.int .i64 0), (.int .i64 0), (.int .i64 0), (.int .i64 0), (.int .i64 0), (.int .i64 0), (.int .i64 0), (.int .i64 0), (.int .i64 0), (.int .i64 0), (.int .i64 0), (.int .i64 0), (.int .i64 0), (.int .i64 0), (.int .i64 0), (.int .i64 0)] ty_a32_int) fun x21 =>
      .loop 2497 t_magpielaw10_FreeMixes_L3_sh [(.bool y2.1), (.int .i64 0)] (t_magpielaw10_FreeMixes_L3 x5 x36 x40 x9 x10 x11 x21)))
  else (
    .newP (.cells #[(.int .i64 0), (.int .i64 0), (.int .i64 0), (.int .i64 0), (.int .i64 0), (.int .i64 0), (.int .i64 0), (.int .i64 0), (.int .i64 0), (.int .i64 0), (.int .i64 0), (.int .i64 0), (.int .i64 0), (.int .i64 0), (.int .i64 0), (.int .i64 0), (.int .i64 0), (.int .i64 0), (.int .i64 0), (.int .i64 0), (.int .i64 0), (.int .i64 0), (.int .i64 0), (.int .i64 0), (.int .i64 0), (.int .i64 0), (.int .i64 0), (.int .i64 0), (.int .i64 0), (.int .i64 0), (.int .i64 0), (.int .i64 0)] ty_a32_int) fun x21 =>
    .loop 2497 t_magpielaw10_FreeMixes_L9_sh [(.bool y2.1), (.int .i64 0)] (t_magpielaw10_FreeMixes_L9 x5 x36 x40 x9 x10 x11 x21))

@[reducible] def t_magpielaw10_FreeMixes_L1_sh : List Sh1 := [(.leaf (.int .i64))]
noncomputable def t_magpielaw10_FreeMixes_L1 (p1 : Sl) (x5 : Addr) (x36 : Option Addr) (x40 : Int) (x9 : Addr) (x10 : Addr) (x11 : Addr) (y1 : HL Sh1.T t_magpielaw10_FreeMixes_L1_sh) : Tree :=
  bif (decide ((y1.1 : Int) < (w64 (1 + x40)))) then (
    .newS (.cells #[(.int .i64 (w64 (16 * y1.1))), (.int .i64 (w64 ((w64 (16 * y1.1)) + 8)))] ty_int) 2 fun x53 =>
    .look (opS Try.prog (.indexAddr ty_a6_s_int (.tmp 0) (.tmp 1)) ty_unit [(.pointer (some x9)), (.int .i64 y1.1)]) (.one (.leaf .addr)) fun x54 =>
    .st x54 (.slice x53.a x53.len x53.cap) <|
    .again 640 [(.int .i64 (w64 (y1.1 + 1)))])
  else (
    .newP (.cells #[(.int .i64 0), (.int .i64 0), (.int .i64 0), (.int .i64 0), (.int .i64 0), (.int .i64 0)] ty_a6_int) fun x13 =>
    .stA x13 [(.int .i64 0), (.int .i64 0), (.int .i64 0), (.int .i64 0), (.int .i64 0), (.int .i64 0)] <|
    .loop 960 t_magpielaw10_FreeMixes_L2_sh [(.bool false), (.int .i64 0)] (t_magpielaw10_FreeMixes_L2 p1 x5 x36 x40 x9 x10 x11 x13))
noncomputable def t_magpielaw10_FreeMixes (p0 : Int) (p1 : Sl) : Tree :=
  .call f_free_Raw [(.int .i64 4), (.int .i64 256)] (.tup [(.agg [(.int .i64), (.int .i64), (.int .i64), (.int .i64), (.int .i64)]), (.leaf (.int .i64))]) fun x32 =>
  .newP (.cells #[(.int .i64 0), (.int .i64 0), (.int .i64 0), (.int .i64 0), (.int .i64 0)] ty_free_Place) fun x5 =>
  .stA x5 [(.int .i64 x32.1.1), (.int .i64 x32.1.2.1), (.int .i64 x32.1.2.2.1), (.int .i64 x32.1.2.2.2.1), (.int .i64 x32.1.2.2.2.2.1)] <|
  .call f_arena_New [(.int .i64 x32.2.1), (.int .i64 256), (.bool false)] (.one (.leaf .ptr)) fun x36 =>
  .look (opS Try.prog (.binOp .eql ty_p_arena_Arena (.tmp 0) (.const (.pointer none)) ty_p_arena_Arena) ty_bool [(.pointer x36)]) (.one (.leaf .bool)) fun x38 =>
  bif x38 then (
    .ret (.bool false))
  else (
    .qcall f_magpielaw00_Place [(.int .i64 p0), (.int .i64 6)] (.one (.leaf (.int .i64))) fun x40 =>
    .newP (.cells #[(.slice none 0 0), (.slice none 0 0), (.slice none 0 0), (.slice none 0 0), (.slice none 0 0), (.slice none 0 0)] ty_a6_s_int) fun x9 =>
    .newP (.cells #[(.pointer none), (.pointer none), (.pointer none), (.pointer none), (.pointer none), (.pointer none)] ty_a6_p_free_Push) fun x10 =>
    .newP (.cells #[(.pointer none), (.pointer none), (.pointer none), (.pointer none), (.pointer none), (.pointer none)] ty_a6_p_free_Pop) fun x11 =>
    .loop 640 t_magpielaw10_FreeMixes_L1_sh [(.int .i64 0)] (t_magpielaw10_FreeMixes_L1 p1 x5 x36 x40 x9 x10 x11))
theorem t_magpielaw10_FreeMixes_eq (p0 : Int) (p1 : Sl) : funcTree Try.prog { quiet := [17, 18, 19, 21, 22, 48, 49, 51, 77], quietTmp := true, fncs := [], ifcs := [] } Try.f10 [(.int .i64 p0), (.slice p1.a p1.len p1.cap)] = t_magpielaw10_FreeMixes p0 p1 := by kernel_rfl
theorem t_magpielaw10_FreeMixes_spec {p0 : Int} {p1 : Sl} {H : Heap} {R : Value → Heap → Prop} (h : ∀ L, wp Try.prog (t_magpielaw10_FreeMixes p0 p1) L H R) : SpecF Try.prog f_magpielaw10_FreeMixes #[(.int .i64 p0), (.slice p1.a p1.len p1.cap)] H R :=
  spec_of_tree (cfg := { quiet := [17, 18, 19, 21, 22, 48, 49, 51, 77], quietTmp := true, fncs := [], ifcs := [] }) Try.func10 fun L => (t_magpielaw10_FreeMixes_eq p0 p1).symm ▸ h L

end Go.Proofs.Ytgnifhkjpekkdaa

set_option linter.unusedVariables false
set_option linter.unusedSimpArgs false
set_option maxRecDepth 20000
namespace Go.Proofs.Ytgnifhkjpekkdaa
open Go Go.Fw

def chT (l : List Int) : Int → List Int := fun k => if k = 3 then l.reverse else []

theorem chain_next {A : Ar} {lk : Int} : ∀ (ys : List Int) (f b c : Int) (zs : List Int), chain A lk f (ys ++ b :: c :: zs) → A.rawF (lk + b / 8) = c / 8 + 1
  | [], f, b, c, zs, h => by
    obtain ⟨h1, h2, h3, h4, h5, h6, h7, _⟩ := h
    have e : lk + b / 8 = lk + f - 1 := by omega
    rw [e]; omega
  | y :: ys, f, b, c, zs, h => by
    obtain ⟨_, _, _, _, h5⟩ := h
    exact chain_next ys _ b c zs h5

/-- The head behind a push, behind a pop. -/
theorem FL.push_head {A : Ar} {p : Pl} {w n : Int} {ch : Int → List Int} (F : FL A p w n ch) (hu : A.uses ≤ 1000000000) {k b : Int} (h0 : 0 ≤ k) (h1 : k < 4 * w) (hb : 0 ≤ b ∧ b % 8 = 0 ∧ b / 8 < n) :
    (A.pushed k (4 * w + b / 8) b).rawF k / 131072 = A.rawF k / 131072 + 1 := by
  have wb := F.wb
  have nb := F.nb
  have hk := F.hd k h0 h1
  have td : Int.tdiv b 8 = b / 8 := Int.tdiv_eq_ediv_of_nonneg hb.1
  have e1 : w64 (w64 (Int.tdiv b 8) + 1) = b / 8 + 1 := by rw [td, w64_in (x := b / 8) (by omega) (by omega), w64_in (by omega) (by omega)]
  rw [rawF_pushed (F.hdOk h0 h1) (F.lkOk hb.1 hb.2.2) (F.hdOk h0 h1), if_pos rfl, e1, nextF_eq (by omega) (by omega) (by omega) (by omega)]
  omega
theorem FL.pop_head {A : Ar} {p : Pl} {w n : Int} {ch : Int → List Int} (F : FL A p w n ch) (hu : A.uses ≤ 1000000000) {k b : Int} {l : List Int} (hk : ch k = b :: l) :
    (A.popped k (4 * w + b / 8)).rawF k / 131072 = A.rawF k / 131072 + 1 := by
  obtain ⟨h0, h1⟩ := F.rg k (by rw [hk]; simp)
  have wb := F.wb
  have nb := F.nb
  have hkd := F.hd k h0 h1
  have us := F.us
  have hch := F.chn k h0 h1
  rw [hk] at hch
  have hc := chain_pop (A := A) (lk := 4 * w) (hd := k) (b := b) (l := l) (by rw [mod17]; exact hch) (F.hdOk h0 h1) (by omega) (fun x hx => by
    obtain ⟨a1, a2, a3⟩ := F.mem k x (by rw [hk]; exact hx)
    exact ⟨a2, a1, by omega, F.lkOk a1 a3, by omega⟩)
  rw [hc.2.2.1]; omega

structure FT (A : Ar) (l : List Int) (tag nx n : Int) : Prop where
  F : FL A (plOf 1 512) 1 64 (chT l)
  fa : A.fault = false
  us : A.uses ≤ 100 * n
  tg : A.rawF 3 / 131072 = tag
  nx0 : 0 ≤ nx
  nx1 : nx ≤ 60
  le : ∀ b ∈ l, b < 8 * nx
  ln : (l.length : Int) ≤ nx
  tb : 0 ≤ tag ∧ tag ≤ n

theorem chT3 (l : List Int) : chT l 3 = l.reverse := if_pos rfl
theorem chT_upd (l m : List Int) : upd (chT l) 3 m.reverse = chT m := by
  funext j; unfold upd chT; split
  · rfl
  · rfl
theorem FT.head {A : Ar} {l : List Int} {tag nx n : Int} (S : FT A l tag nx n) : A.rawF 3 = tag * 131072 + match l.getLast? with | none => 0 | some b => b / 8 + 1 := by
  have h := S.F.hd 3 (by omega) (by omega)
  have t := S.tg
  have c := S.F.chn 3 (by omega) (by omega)
  rw [chT3] at c
  rcases List.eq_nil_or_concat l with rfl | ⟨m, b, rfl⟩
  · have c : A.rawF 3 % 131072 = 0 := c
    show _ = _ + 0; omega
  · rw [List.concat_eq_append, List.reverse_append] at c
    have c : A.rawF 3 % 131072 = b / 8 + 1 := chain_head c
    rw [List.concat_eq_append, List.getLast?_append]
    show _ = _ + (b / 8 + 1); omega
theorem FT.link {A : Ar} {l : List Int} {tag nx n : Int} (S : FT A l tag nx n) {k : Nat} (h0 : 1 ≤ k) (h1 : k < l.length) : A.rawF (4 + l.getD k 0 / 8) = l.getD (k - 1) 0 / 8 + 1 := by
  have c := S.F.chn 3 (by omega) (by omega)
  rw [chT3] at c
  have e : l.reverse = (l.drop (k + 1)).reverse ++ l[k] :: l[k - 1] :: (l.take (k - 1)).reverse := by
    have e1 : l = l.take (k - 1) ++ l[k - 1] :: l[k] :: l.drop (k + 1) := by
      have a1 := List.take_append_drop (k - 1) l
      rw [List.drop_eq_getElem_cons (by omega)] at a1
      have a2 : k - 1 + 1 = k := by omega
      rw [a2, List.drop_eq_getElem_cons h1] at a1
      exact a1.symm
    have := congrArg List.reverse e1
    rw [this, List.reverse_append, List.reverse_cons, List.reverse_cons]
    simp only [List.append_assoc, List.cons_append, List.nil_append]
  rw [e] at c
  have := chain_next _ _ _ _ _ c
  rw [List.getD_eq_getElem?_getD, List.getElem?_eq_getElem h1, List.getD_eq_getElem?_getD, List.getElem?_eq_getElem (by omega)]
  exact this

theorem FT.push {A : Ar} {l : List Int} {tag nx n : Int} (S : FT A l tag nx n) (n0 : 0 ≤ n) (n1 : n ≤ 60) (hx : nx < 60) :
    FT (A.pushed 3 (4 + nx) (8 * nx)) (l ++ [8 * nx]) (tag + 1) (nx + 1) (n + 1) ∧ ∃ y : Pu, mPu.Runs 3 ⟨plOf 1 512, 3, 0, 0, 8 * nx⟩ A y (A.pushed 3 (4 + nx) (8 * nx)) := by
  obtain ⟨F, fa, us, tg, nx0, nx1, le, ln, tb⟩ := S
  have hb : 0 ≤ 8 * nx ∧ 8 * nx % 8 = 0 ∧ 8 * nx / 8 < 64 := ⟨by omega, by omega, by omega⟩
  have hn : ∀ j, 8 * nx ∉ chT l j := fun j h => by
    unfold chT at h; split at h
    · have := le _ (List.mem_reverse.1 h); omega
    · cases h
  have F2 := F.push (by omega) (k := 3) (by omega) (by omega) hb hn
  have H2 := F.push_head (by omega) (k := 3) (by omega) (by omega) hb
  obtain ⟨y, _, _, hr⟩ := Pu.solo F (by omega) (k := 3) (by omega) (by omega) hb
  have e4 : (4 * 1 + 8 * nx / 8 : Int) = 4 + nx := by omega
  rw [e4] at F2 H2 hr
  refine ⟨⟨?_, fa, ?_, ?_, by omega, by omega, ?_, ?_, by omega⟩, y, hr⟩
  · have := chT_upd l (l ++ [8 * nx])
    rw [List.reverse_append] at this
    rw [chT3] at F2
    rw [← this]; exact F2
  · show A.uses + 3 ≤ _; omega
  · rw [H2, tg]
  · intro b hb
    rcases List.mem_append.1 hb with h | h
    · have := le b h; omega
    · simp only [List.mem_singleton] at h; omega
  · rw [List.length_append]; simp only [List.length_singleton]; omega

theorem FT.none {A : Ar} {tag nx n : Int} (S : FT A [] tag nx n) (n0 : 0 ≤ n) (n1 : n ≤ 60) :
    FT (A.later 1) [] tag nx (n + 1) ∧ ∃ y : Po, mPo.Runs 1 ⟨plOf 1 512, 3, 0, 0, 0, 0, false⟩ A y (A.later 1) := by
  obtain ⟨F, fa, us, tg, nx0, nx1, le, ln, tb⟩ := S
  obtain ⟨y, _, _, _, hr⟩ := Po.solo_none F (by omega) (k := 3) (by omega) (by omega) rfl
  exact ⟨⟨F.congr (fun _ _ _ => rfl) rfl (by show A.uses ≤ A.uses + 1; omega), fa, by show A.uses + 1 ≤ _; omega, tg, nx0, nx1, le, ln, by omega⟩, y, hr⟩

theorem FT.some {A : Ar} {l : List Int} {b tag nx n : Int} (S : FT A (l ++ [b]) tag nx n) (n0 : 0 ≤ n) (n1 : n ≤ 60) :
    FT (A.popped 3 (4 + b / 8)) l (tag + 1) nx (n + 1) ∧ ∃ y : Po, mPo.Runs 3 ⟨plOf 1 512, 3, 0, 0, 0, 0, false⟩ A y (A.popped 3 (4 + b / 8)) := by
  obtain ⟨F, fa, us, tg, nx0, nx1, le, ln, tb⟩ := S
  have hc : chT (l ++ [b]) 3 = b :: l.reverse := by rw [chT3]; simp
  obtain ⟨y, _, _, _, hr⟩ := Po.solo_some F (by omega) hc
  have F2 := F.pop (by omega) hc
  have H2 := F.pop_head (by omega) hc
  rw [List.length_append] at ln
  simp only [List.length_singleton] at ln
  refine ⟨⟨?_, fa, ?_, ?_, nx0, nx1, fun x hx => le x (List.mem_append_left _ hx), by omega, by omega⟩, y, hr⟩
  · rw [← chT_upd (l ++ [b]) l]; exact F2
  · show A.uses + 3 ≤ _; omega
  · have e : (4 * 1 : Int) = 4 := rfl
    rw [e] at H2; rw [H2, tg]

theorem FT.later {A : Ar} {l : List Int} {tag nx n : Int} (S : FT A l tag nx n) {k : Int} (k0 : 0 ≤ k) (hk : A.uses + k ≤ 100 * n) : FT (A.later k) l tag nx n :=
  ⟨S.F.congr (fun _ _ _ => rfl) rfl (by show A.uses ≤ A.uses + k; omega), S.fa, hk, S.tg, S.nx0, S.nx1, S.le, S.ln, S.tb⟩
end Go.Proofs.Ytgnifhkjpekkdaa

set_option linter.unusedVariables false
set_option linter.unusedSimpArgs false
set_option maxRecDepth 20000
namespace Go.Proofs.Ytgnifhkjpekkdaa
open Go Go.Fw

/-- A row of truths that came in. -/
def RowB (H : Heap) (a : Option Addr) (len : Nat) (B : Nat → Bool) : Prop := ∀ i, i < len → ∃ x, a = some x ∧ H.cell? (x.add i) = some (.bool (B i))
theorem wp_rowB {L : Hands} {H K : Heap} {R : Value → Heap → Prop} {s : Sl} {B : Nat → Bool} (hz : RowB H s.a s.len B) (hK : H.le K) {i : Int} (h0 : 0 ≤ i) (h1 : i < ((s.len : Nat) : Int)) {k : Bool → Tree} (h : wp Try.prog (k (B i.toNat)) L K R) :
    wp Try.prog (.look (opS Try.prog (.indexAddr ty_s_bool (.tmp 0) (.tmp 1)) ty_unit [(.slice s.a s.len s.cap), (.int .i64 i)]) (.one (.leaf .addr)) fun x => .ld x .bool k) L K R := by
  obtain ⟨x, hx, hc⟩ := hz i.toNat (by omega)
  rw [hx]
  have hi := opS_idxS (P := Try.prog) (t := ty_s_bool) (u := ty_unit) (e := ty_bool) (l := s.len) (c := s.cap) (i := i) (a := x) rfl rfl h0 h1
  refine look_val (x := x.add i.toNat) ?_ (wp_ld_of (x := B i.toNat) (cell_le hK hc) h)
  refine hi.trans ?_
  show Sem.pure (Next.value (.pointer (some (x.add (i.toNat * 1))))) = _
  rw [Nat.mul_one]

@[reducible] def tgPre (b3 : Nat) : Bl := [(b3, oc ty_free_Place [.int .i64 1, .int .i64 0, .int .i64 4, .int .i64 68, .int .i64 132])]
structure TgI (I : List Nat) (H : Heap) (b3 : Nat) (n : Int) (A : Ar) (l : List Int) (tag nx : Int) (s : Sl) (tl : Bl) : Prop where
  aw : Aw I A
  ok : Ok I H (keys (tgPre b3 ++ tl))
  ft : FT A l tag nx n
  sl : SlOf tl ty_int eI s l

section
variable {L : Hands} {H : Heap} {I : List Nat} {A : Ar} {l : List Int} {s : Sl} {tl : Bl} {b3 : Nat} {n tag nx : Int}

theorem w_touchR {A : Ar} {i : Int} (h : A.rawOk i) (h0 : 0 ≤ A.uses) (h1 : A.uses ≤ 1000000000) : A.touchR i = A.later 1 := by
  rw [touchR_yes h]; unfold Ar.tick Ar.later; rw [w64_in (by omega) (by omega)]
theorem later_add (A : Ar) (a b : Int) : (A.later a).later b = A.later (a + b) := by unfold Ar.later; simp only [Ar.mk.injEq, true_and]; omega

/-- The words, looked at. -/
theorem tg_loop {R : Value → Heap → Prop} {q : Bool} {body : HL Sh1.T [.leaf .bool, .leaf (.int .i64)] → Tree} {v1 v2 : Int} (S : TgI I H b3 (n + 1) A l tag nx s tl) (us : A.uses ≤ 100 * n + 10) (n0 : 0 ≤ n) (n1 : n < 60)
    (hb : ∀ (q : Bool) (j : Int), body (q, j, ()) = bif (decide ((j : Int) < ((s.len : Nat) : Int))) then (
    .ld ((⟨b3, 0, none⟩ : Addr).add 2) (.int .i64) fun x107 =>
    .look (opS Try.prog (.indexAddr ty_s_int (.tmp 0) (.tmp 1)) ty_unit [(.slice s.a s.len s.cap), (.int .i64 j)]) (.one (.leaf .addr)) fun x110 =>
    .ld x110 (.int .i64) fun x111 =>
    .look (opS Try.prog (.indexAddr ty_s_int (.tmp 0) (.tmp 1)) ty_unit [(.slice s.a s.len s.cap), (.int .i64 (w64 (j - 1)))]) (.one (.leaf .addr)) fun x118 =>
    .ld x118 (.int .i64) fun x119 =>
    .call f_arena_Arena_Raw [(.pointer (aI I)), (.int .i64 (w64 (x107 + (w64 (Int.tdiv x111 8)))))] (.one (.leaf (.int .i64))) fun x114 =>
    .check (ldS x118) (.int .i64 x119) <|
    .check (opS Try.prog (.indexAddr ty_s_int (.tmp 0) (.tmp 1)) ty_unit [(.slice s.a s.len s.cap), (.int .i64 (w64 (j - 1)))]) (.pointer (some x118)) <|
    bif ((x114 : Int) != (w64 ((w64 (Int.tdiv x119 8)) + 1))) then (
      .ret (.bool false))
    else (
      .again 1664 [(.bool q), (.int .i64 (w64 (j + 1)))]))
  else (
    .again 513 [(.bool q), (.slice s.a s.len s.cap), (.int .i64 v1), (.int .i64 v2), (.int .i64 (w64 (n + 1)))]))
    (hR : ∀ A' tl' p, TgI I H b3 (n + 1) A' l tag nx s tl' → wp Try.prog (.again 513 [(.bool p), (.slice s.a s.len s.cap), (.int .i64 v1), (.int .i64 v2), (.int .i64 (n + 1))]) L (own A' (tgPre b3 ++ tl') H) R) :
    wp Try.prog (.loop 1664 [.leaf .bool, .leaf (.int .i64)] [(.bool q), (.int .i64 1)] body) L (own A (tgPre b3 ++ tl) H) R := by
  obtain ⟨hA, ok, ft, hs⟩ := S
  have us0 := ft.F.us
  have hlen := hs.len
  have hln := ft.ln
  have hnx := ft.nx1
  refine wl_bi (fun _ j K => 1 ≤ j ∧ j ≤ 61 ∧ K = own (A.later (j - 1)) (tgPre b3 ++ tl) H) (fun _ j => (61 - j).toNat) q 1 ⟨by omega, by omega, by
    have e : A.later (1 - 1) = A := by unfold Ar.later; rw [Int.sub_self, Int.add_zero]
    rw [e]⟩ ?_
  rintro q2 j K ⟨j0, j1, rfl⟩
  rw [hb]
  have hA2 := later_aw hA (j - 1)
  by_cases hj : j < ((s.len : Nat) : Int)
  · refine wp_true (decide_eq_true hj) ?_
    refine w_ld 0 hA2 ok rfl rfl rfl ?_
    have hs' : SlOf (tgPre b3 ++ tl) ty_int eI s l := hs.mono fun p hp => List.mem_append_right _ hp
    have em : w64 (j - 1) = j - 1 := w64_in (by omega) (by omega)
    rw [em]
    refine w_rdI hA2 ok hs' (by omega) (by omega) ?_
    rcases hs' with ⟨rfl, rfl⟩ | ⟨b, rest, r, rfl, h2, h3⟩
    · have : ((0 : Nat) : Int) = 0 := rfl
      have hj' : j < 0 := hj
      omega
    have hj' : j < (l.length : Int) := hj
    have hk1 : j.toNat < l.length := by omega
    have hk2 : (j - 1).toNat < l.length := by omega
    refine w_ixS (e := ty_int) rfl rfl rfl (by omega) (by show j - 1 < (l.length : Int); omega) ?_
    have cell2 : (((eI.all l ++ rest)[0 + (j - 1).toNat]?).bind (Lf.dec (.int .i64))) = some (l.getD (j - 1).toNat 0) := by
      rw [Nat.zero_add, eI_all, List.getElem?_append_left (by simpa using hk2), List.getElem?_map, List.getElem?_eq_getElem hk2]
      show some _ = _
      rw [List.getD_eq_getElem?_getD, List.getElem?_eq_getElem hk2]; rfl
    refine w_ldm (x := l.getD (j - 1).toNat 0) hA2 ok rfl h3 cell2 ?_
    have hm : ∀ k, k < l.length → 0 ≤ l.getD k 0 ∧ l.getD k 0 / 8 < 64 := fun k hk => by
      have := ft.F.mem 3 (l.getD k 0) (by rw [chT3, List.mem_reverse, List.getD_eq_getElem?_getD, List.getElem?_eq_getElem hk]; exact List.getElem_mem hk)
      exact ⟨this.1, this.2.2⟩
    have m1 := hm _ hk1
    have m2 := hm _ hk2
    have e1 : w64 (4 + w64 (Int.tdiv (l.getD j.toNat 0) 8)) = 4 + l.getD j.toNat 0 / 8 := by
      rw [Int.tdiv_eq_ediv_of_nonneg m1.1, w64_in (x := l.getD j.toNat 0 / 8) (by omega) (by omega), w64_in (by omega) (by omega)]
    have e2 : w64 (w64 (Int.tdiv (l.getD (j - 1).toNat 0) 8) + 1) = l.getD (j - 1).toNat 0 / 8 + 1 := by
      rw [Int.tdiv_eq_ediv_of_nonneg m2.1, w64_in (x := l.getD (j - 1).toNat 0 / 8) (by omega) (by omega), w64_in (by omega) (by omega)]
    rw [e1, e2]
    refine w_Raw hA2 fun hA3 => ?_
    have ro : (A.later (j - 1)).rawOk (4 + l.getD j.toNat 0 / 8) := ft.F.lkOk (w := 1) m1.1 m1.2
    have et : (A.later (j - 1)).touchR (4 + l.getD j.toNat 0 / 8) = A.later (j + 1 - 1) := by
      have u1 : (A.later (j - 1)).uses = A.uses + (j - 1) := rfl
      rw [w_touchR ro (by rw [u1]; omega) (by rw [u1]; omega), later_add]
      congr 1; omega
    rw [et] at hA3 ⊢
    obtain ⟨i3, hi3⟩ := mem_idx h3
    have cell3 : (eI.all l ++ rest)[0 + (j - 1).toNat]? = some (.int .i64 (l.getD (j - 1).toNat 0)) := by
      rw [Nat.zero_add, eI_all, List.getElem?_append_left (by simpa using hk2), List.getElem?_map, List.getElem?_eq_getElem hk2]
      show some _ = _
      rw [List.getD_eq_getElem?_getD, List.getElem?_eq_getElem hk2]; rfl
    refine w_ck i3 hA3 ok rfl hi3 cell3 ?_
    refine check_val ((opS_idxS (P := Try.prog) (e := ty_int) (info := _) rfl rfl (by omega) (by show j - 1 < (l.length : Int); omega)).trans ?_) ?_
    · show Sem.pure (Next.value (.pointer (some ((Addr.mk b 0 none).add ((j - 1).toNat * 1))))) = _
      rw [Addr.add_mk, Nat.mul_one]
    · have hl := ft.link (k := j.toNat) (by omega) hk1
      have ej : j.toNat - 1 = (j - 1).toNat := by omega
      rw [ej] at hl
      refine wp_false (ibnf hl) ?_
      have e3 : w64 (j + 1) = j + 1 := w64_in (by omega) (by omega)
      exact wp_again ⟨q2, j + 1, by rw [e3], ⟨by omega, by omega, rfl⟩, by omega⟩
  · refine wp_false (decide_eq_false hj) (wp_again_up (by decide) ?_)
    have e1 : w64 (n + 1) = n + 1 := w64_in (by omega) (by omega)
    rw [e1]
    exact hR _ tl q2 ⟨hA2, ok, ft.later (by omega) (by omega), hs⟩
end
end Go.Proofs.Ytgnifhkjpekkdaa

set_option linter.unusedVariables false
set_option linter.unusedSimpArgs false
set_option maxRecDepth 20000
namespace Go.Proofs.Ytgnifhkjpekkdaa
open Go Go.Fw

section
variable {L : Hands} {H : Heap} {I : List Nat} {A : Ar} {l : List Int} {s : Sl} {tl : Bl} {b3 : Nat} {n tag nx : Int}

theorem tg_want {R : Value → Heap → Prop} {LOOP : Tree} (S : TgI I H b3 (n + 1) A l tag nx s tl) (us : A.uses ≤ 100 * n + 5) (n0 : 0 ≤ n) (n1 : n < 60)
    (hl : TgI I H b3 (n + 1) (A.later 1) l tag nx s tl → wp Try.prog LOOP L (own (A.later 1) (tgPre b3 ++ tl) H) R) :
    wp Try.prog (bif (decide ((((s.len : Nat) : Int) : Int) > 0)) then (
          .look (opS Try.prog (.indexAddr ty_s_int (.tmp 0) (.tmp 1)) ty_unit [(.slice s.a s.len s.cap), (.int .i64 (w64 (((s.len : Nat) : Int) - 1)))]) (.one (.leaf .addr)) fun x87 =>
          .ld x87 (.int .i64) fun x88 =>
          .ld ((⟨b3, 0, none⟩ : Addr).add 1) (.int .i64) fun x94 =>
          .call f_arena_Arena_Raw [(.pointer (aI I)), (.int .i64 (w64 (x94 + 3)))] (.one (.leaf (.int .i64))) fun x96 =>
          bif ((x96 : Int) != (w64 ((w64 ((w64 (tag * 2 ^ 17)) + (w64 (Int.tdiv x88 8)))) + 1))) then (
            .ret (.bool false))
          else LOOP)
        else (
          .ld ((⟨b3, 0, none⟩ : Addr).add 1) (.int .i64) fun x94 =>
          .call f_arena_Arena_Raw [(.pointer (aI I)), (.int .i64 (w64 (x94 + 3)))] (.one (.leaf (.int .i64))) fun x96 =>
          bif ((x96 : Int) != (w64 (tag * 2 ^ 17))) then (
            .ret (.bool false))
          else LOOP)) L (own A (tgPre b3 ++ tl) H) R := by
  have S0 := S
  obtain ⟨hA, ok, ft, hs⟩ := S
  have us0 := ft.F.us
  have hlen := hs.len
  have hln := ft.ln
  have hnx := ft.nx1
  have tb := ft.tb
  have hh := ft.head
  have ro : A.rawOk 3 := ft.F.hdOk (by omega) (by omega)
  have et : A.touchR 3 = A.later 1 := w_touchR ro us0 (by omega)
  have S1 : TgI I H b3 (n + 1) (A.later 1) l tag nx s tl := ⟨later_aw hA 1, ok, ft.later (by omega) (by omega), hs⟩
  have e3 : w64 (0 + 3) = 3 := w64_in (by omega) (by omega)
  have p17 : (2 ^ 17 : Int) = 131072 := rfl
  rcases List.eq_nil_or_concat l with hx | ⟨m, b, hx⟩
  · have h0 : ¬ (((s.len : Nat) : Int) > 0) := by rw [hlen, hx]; simp
    refine wp_false (decide_eq_false h0) ?_
    refine w_ld 0 hA ok rfl rfl rfl ?_
    rw [e3]
    refine w_Raw hA fun hA2 => ?_
    rw [et]
    rw [hx] at hh
    have hh : A.rawF 3 = tag * 131072 + 0 := hh
    refine wp_false (ibnf ?_) (hl S1)
    rw [hh, p17, w64_in (by omega) (by omega)]; omega
  · rw [List.concat_eq_append] at hx
    have hll : l.length = m.length + 1 := by rw [hx]; simp
    have h0 : (((s.len : Nat) : Int) > 0) := by rw [hlen, hll]; omega
    refine wp_true (decide_eq_true h0) ?_
    have en : w64 (((s.len : Nat) : Int) - 1) = (m.length : Int) := by rw [w64_in (by omega) (by omega)]; omega
    rw [en]
    refine w_rdI hA ok (hs.mono fun p hp => List.mem_append_right _ hp) (by omega) (by omega) ?_
    have ev : l.getD ((m.length : Int)).toNat 0 = b := by
      have : ((m.length : Int)).toNat = m.length := by omega
      rw [this, hx]; simp
    rw [ev]
    refine w_ld 0 hA ok rfl rfl rfl ?_
    rw [e3]
    refine w_Raw hA fun hA2 => ?_
    rw [et]
    rw [hx, List.getLast?_append] at hh
    have hh : A.rawF 3 = tag * 131072 + (b / 8 + 1) := hh
    have hb := ft.F.mem 3 b (by rw [chT3, hx]; simp)
    refine wp_false (ibnf ?_) (hl S1)
    rw [hh, p17, Int.tdiv_eq_ediv_of_nonneg hb.1, w64_in (x := tag * 131072) (by omega) (by omega), w64_in (x := b / 8) (by omega) (by omega), w64_in (x := tag * 131072 + b / 8) (by omega) (by omega), w64_in (by omega) (by omega)]
    omega

theorem tg_J44 {R : Value → Heap → Prop} (hI : ∀ x ∈ I, H x = none) (S : TgI I H b3 n A l tag nx s tl) (hR : R (.bool true) H) :
    wp Try.prog (t_magpielaw10_FreeTags_J44 (aI I)) L (own A (tgPre b3 ++ tl) H) R := by
  obtain ⟨hA, ok, ft, hs⟩ := S
  unfold t_magpielaw10_FreeTags_J44
  refine w_Fault hA ?_
  rw [ft.fa]
  refine wp_true rfl ?_
  refine wp_call_det (awake10_det _) ?_
  exact ⟨H, own_end hA ok hI, hR⟩

theorem tg_J29 {R : Value → Heap → Prop} {q : Bool} {q0 q1 : Nat} (n0 : 0 ≤ n) (n1 : n < 60) (S : TgI I H b3 n A l tag nx s tl) (okq : Ok I H (keys ((q0, popObj q1) :: (q1, Po.obj ⟨plOf 1 512, 3, 0, 0, 0, 0, false⟩) :: (tgPre b3 ++ tl))))
    (hR : ∀ A' l' tag' nx' s' tl' p, TgI I H b3 (n + 1) A' l' tag' nx' s' tl' → wp Try.prog (.again 513 [(.bool p), (.slice s'.a s'.len s'.cap), (.int .i64 tag'), (.int .i64 nx'), (.int .i64 (n + 1))]) L (own A' (tgPre b3 ++ tl') H) R) :
    wp Try.prog (t_magpielaw10_FreeTags_J29 ⟨b3, 0, none⟩ (aI I) (q, s, tag, nx, n, ()) (some ⟨q0, 0, none⟩)) L (own A ((q0, popObj q1) :: (q1, Po.obj ⟨plOf 1 512, 3, 0, 0, 0, 0, false⟩) :: (tgPre b3 ++ tl)) H) R := by
  obtain ⟨hA, ok, ft, hs⟩ := S
  have us := ft.us
  have hlen := hs.len
  have hln := ft.ln
  have hnx := ft.nx1
  have tb := ft.tb
  unfold t_magpielaw10_FreeTags_J29
  refine look_val (x := false) (eo_some _) (wp_false rfl ?_)
  rcases List.eq_nil_or_concat l with hx | ⟨m, b, hx⟩
  · subst hx
    obtain ⟨ft2, y, hr⟩ := ft.none n0 (by omega)
    refine w_run10 mPo_ok mPo_inv hr (by omega) (j := (q0, q1)) hA okq fun j' ha hA2 ok2 => ?_
    refine wp_false rfl ?_
    have h0 : ¬ (((s.len : Nat) : Int) > 0) := by rw [hlen]; simp
    refine wp_false (decide_eq_false h0) ?_
    obtain ⟨m1, m2⟩ := own_rot (A := A.later 1) (a := mPo.bl y j') (b := tgPre b3) (c := tl) ok2
    show wp Try.prog _ _ (own (A.later 1) (mPo.bl y j' ++ (tgPre b3 ++ tl)) H) R
    rw [m1]
    have S2 : TgI I H b3 (n + 1) (A.later 1) [] tag nx s (mPo.bl y j' ++ tl) := ⟨hA2, m2, ft2, hs.mono fun p hp => List.mem_append_right _ hp⟩
    refine tg_want S2 (by show A.uses + 1 ≤ _; omega) n0 n1 fun S3 => ?_
    refine tg_loop S3 (by show A.uses + 1 + 1 ≤ _; omega) n0 n1 (v1 := tag) (v2 := nx) (fun q j => by rw [t_magpielaw10_FreeTags_L6]) fun A' tl' p S4 => hR _ _ _ _ _ _ p S4
  · rw [List.concat_eq_append] at hx
    subst hx
    obtain ⟨ft2, y, hr⟩ := ft.some n0 (by omega)
    refine w_run10 mPo_ok mPo_inv hr (by omega) (j := (q0, q1)) hA okq fun j' ha hA2 ok2 => ?_
    refine wp_false rfl ?_
    have hll : s.len = m.length + 1 := by rw [hlen]; simp
    have h0 : (((s.len : Nat) : Int) > 0) := by omega
    refine wp_true (decide_eq_true h0) ?_
    rw [List.length_append] at hln
    simp only [List.length_singleton] at hln
    have en : w64 (((s.len : Nat) : Int) - 1) = (m.length : Int) := by rw [w64_in (by omega) (by omega)]; omega
    dsimp only
    rw [en]
    have hcap : m.length ≤ s.cap := by
      rcases hs with ⟨h, _⟩ | ⟨c, rest, r, h, _, _⟩
      · rw [h] at hll; cases hll
      · rw [h]; simp only [List.length_append, List.length_singleton]; omega
    refine w_cut (by omega) (by omega) ?_
    obtain ⟨m1, m2⟩ := own_rot (A := A.popped 3 (4 + b / 8)) (a := mPo.bl y j') (b := tgPre b3) (c := tl) ok2
    show wp Try.prog _ _ (own (A.popped 3 (4 + b / 8)) (mPo.bl y j' ++ (tgPre b3 ++ tl)) H) R
    rw [m1]
    have hs2 := hs.take (n := m.length) (by simp)
    have et : (m ++ [b]).take m.length = m := by simp
    rw [et] at hs2
    have ett : ((m.length : Int)).toNat = m.length := by omega
    rw [ett]
    have S2 : TgI I H b3 (n + 1) (A.popped 3 (4 + b / 8)) m (tag + 1) nx ⟨s.a, m.length, s.cap⟩ (mPo.bl y j' ++ tl) := ⟨hA2, m2, ft2, hs2.mono fun p hp => List.mem_append_right _ hp⟩
    have e1 : w64 (tag + 1) = tag + 1 := w64_in (by omega) (by omega)
    rw [e1]
    refine tg_want S2 (by show A.uses + 3 ≤ _; omega) n0 n1 fun S3 => ?_
    refine tg_loop S3 (by show A.uses + 3 + 1 ≤ _; omega) n0 n1 (v1 := tag + 1) (v2 := nx) (fun q j => by rw [t_magpielaw10_FreeTags_L4]; dsimp only; rw [e1]) fun A' tl' p S4 => hR _ _ _ _ _ _ p S4

theorem FreeTags_det (s : Sl) (B : Nat → Bool) (H : Heap) (hz : RowB H s.a s.len B) : Det Try.prog f_magpielaw10_FreeTags [.slice s.a s.len s.cap] H (.bool true) H := by
  refine t_magpielaw10_FreeTags_spec (p0 := s) fun L => ?_
  unfold t_magpielaw10_FreeTags
  refine w_Raw5 ⟨by omega, by omega⟩ ⟨by omega, by omega⟩ ?_
  have ok0 : Ok0 H (keys []) := ⟨.nil, fun b h => (by cases h)⟩
  refine p_newP (l := []) ok0 fun b3 ok0 => ?_
  refine p_stA 0 ok0 rfl rfl rfl rfl ?_
  have e77 : (4 * 1 + 2 * ((512 + 7) / 8) + 1 : Int) = 133 := rfl
  dsimp only
  rw [e77]
  refine w_New (l := tgPre b3) ok0 ⟨by omega, by omega⟩ ⟨by omega, by omega⟩ fun A hm hA hI ok => ?_
  refine look_val (x := false) (np_some _) (wp_false rfl ?_)
  have F0 : FL A (plOf 1 512) 1 64 (chT []) := by
    have hz : ∀ i, A.rawF i = 0 := fun i => by
      unfold Ar.rawF; split
      · rw [hm.raw, List.getD_eq_getElem?_getD, List.getElem?_replicate]; split <;> rfl
      · rfl
    have hc : ∀ k, chT [] k = [] := fun k => by unfold chT; split <;> rfl
    refine ⟨rfl, rfl, by omega, by omega, by rw [hm.raw, List.length_replicate]; decide, by rw [hm.uses]; omega, fun k _ _ => ?_, fun k _ _ => ?_, fun k b h => ?_, fun k => ?_, fun k j b h => ?_, fun k h => ?_⟩
    · rw [hz, hm.uses]; decide
    · rw [hz, hc]; rfl
    · rw [hc] at h; cases h
    · rw [hc]; exact .nil
    · rw [hc] at h; cases h
    · rw [hc] at h; exact (h rfl).elim
  have t0 : A.rawF 3 / 131072 = 0 := by have := F0.hd 3 (by omega) (by omega); rw [hm.uses] at this; have h2 := F0.first_nil (k := 3) (by omega) (by omega) rfl; omega
  refine wl_bsiii (fun _ s' tag nx n K => 0 ≤ n ∧ n ≤ 60 ∧ ∃ A' l tl, TgI A.ids H b3 n A' l tag nx s' tl ∧ K = own A' (tgPre b3 ++ tl) H) (fun _ _ _ _ n => (60 - n).toNat) false sl0 0 0 0
    ⟨by omega, by omega, A, [], [], ⟨hA, ok, ⟨F0, hm.fault, by rw [hm.uses]; omega, t0, by omega, by omega, fun b h => (by cases h), by simp, by omega⟩, .inl ⟨rfl, rfl⟩⟩, rfl⟩ ?_
  rintro q s' tag nx n K ⟨n0, n1, A', l, tl, S, rfl⟩
  rw [t_magpielaw10_FreeTags_L1]
  by_cases c1 : n < ((s.len : Nat) : Int)
  case neg => exact wp_false (decide_eq_false c1) (tg_J44 hI S ⟨rfl, rfl⟩)
  refine wp_true (decide_eq_true c1) ?_
  by_cases c2 : n < 60
  case neg => exact wp_false (decide_eq_false c2) (tg_J44 hI S ⟨rfl, rfl⟩)
  refine wp_true (decide_eq_true c2) ?_
  refine wp_rowB hz (own_end S.aw S.ok hI) n0 c1 ?_
  have again : ∀ {R : Value → Heap → Prop} A2 l2 tag2 nx2 s2 tl2 p, TgI A.ids H b3 (n + 1) A2 l2 tag2 nx2 s2 tl2 → wp Try.prog (.again 513 [(.bool p), (.slice s2.a s2.len s2.cap), (.int .i64 tag2), (.int .i64 nx2), (.int .i64 (n + 1))])
      (L.set 513 fun vals H'' => ∃ (y0 : Bool) (y1 : Sl) (y2 : Int) (y3 : Int) (y4 : Int), vals = [.bool y0, .slice y1.a y1.len y1.cap, .int .i64 y2, .int .i64 y3, .int .i64 y4] ∧ (0 ≤ y4 ∧ y4 ≤ 60 ∧ ∃ A' l tl, TgI A.ids H b3 y4 A' l y2 y3 y1 tl ∧ H'' = own A' (tgPre b3 ++ tl) H) ∧ (60 - y4).toNat < (60 - n).toNat) (own A2 (tgPre b3 ++ tl2) H) R := fun A2 l2 tag2 nx2 s2 tl2 p S2 =>
    wp_again ⟨p, s2, tag2, nx2, n + 1, rfl, ⟨by omega, by omega, A2, l2, tl2, S2, rfl⟩, by omega⟩
  have pops : ∀ {R : Value → Heap → Prop}, R (.bool true) H → wp Try.prog (.ldA ⟨b3, 0, none⟩ [(.int .i64), (.int .i64), (.int .i64), (.int .i64), (.int .i64)] fun x56 =>
          .call f_free_NewPop [(.agg #[(.int .i64 x56.1), (.int .i64 x56.2.1), (.int .i64 x56.2.2.1), (.int .i64 x56.2.2.2.1), (.int .i64 x56.2.2.2.2.1)]), (.int .i64 0), (.int .i64 3)] (.one (.leaf .ptr)) fun x57 =>
          t_magpielaw10_FreeTags_J29 ⟨b3, 0, none⟩ (aI A.ids) (q, s', tag, nx, n, ()) x57)
      (L.set 513 fun vals H'' => ∃ (y0 : Bool) (y1 : Sl) (y2 : Int) (y3 : Int) (y4 : Int), vals = [.bool y0, .slice y1.a y1.len y1.cap, .int .i64 y2, .int .i64 y3, .int .i64 y4] ∧ (0 ≤ y4 ∧ y4 ≤ 60 ∧ ∃ A' l tl, TgI A.ids H b3 y4 A' l y2 y3 y1 tl ∧ H'' = own A' (tgPre b3 ++ tl) H) ∧ (60 - y4).toNat < (60 - n).toNat) (own A' (tgPre b3 ++ tl) H) R := by
    intro R hR
    refine w_ldA 0 S.aw S.ok rfl rfl rfl ?_
    refine w_NewPop (p := plOf 1 512) S.aw S.ok fun q0 q1 okq => ?_
    exact tg_J29 n0 c2 S okq fun A2 l2 tag2 nx2 s2 tl2 p S2 => again A2 l2 tag2 nx2 s2 tl2 p S2
  cases B n.toNat with
  | false => exact wp_false rfl (pops ⟨rfl, rfl⟩)
  | true =>
    refine wp_true rfl ?_
    by_cases c3 : nx < 60
    case neg => exact wp_false (decide_eq_false c3) (pops ⟨rfl, rfl⟩)
    refine wp_true (decide_eq_true c3) ?_
    obtain ⟨hA', ok', ft, hs⟩ := S
    have us := ft.us
    have tb := ft.tb
    have hnx := ft.nx0
    have hln := ft.ln
    obtain ⟨ft2, y, hr⟩ := ft.push n0 (by omega) c3
    have e8 : w64 (8 * nx) = 8 * nx := w64_in (by omega) (by omega)
    rw [e8]
    refine w_ldA 0 hA' ok' rfl rfl rfl ?_
    refine w_NewPush (p := plOf 1 512) hA' ok' fun q0 q1 okq => ?_
    refine w_run10 mPu_ok mPu_inv hr (by omega) (j := (q0, q1)) hA' okq fun j' ha hA2 ok2 => ?_
    refine wp_false rfl ?_
    obtain ⟨m1, m2⟩ := own_rot (A := A'.pushed 3 (4 + nx) (8 * nx)) (a := mPu.bl y j') (b := tgPre b3) (c := tl) ok2
    show wp Try.prog _ _ (own (A'.pushed 3 (4 + nx) (8 * nx)) (mPu.bl y j' ++ (tgPre b3 ++ tl)) H) _
    rw [m1]
    refine w_app1 (xs := l) hA2 m2 (hs.mono fun p hp => List.mem_append_right _ hp) (by omega) fun s2 tl2 hs2 ok3 ap => ?_
    have e1 : w64 (tag + 1) = tag + 1 := w64_in (by omega) (by omega)
    have e2 : w64 (nx + 1) = nx + 1 := w64_in (by omega) (by omega)
    have S2 : TgI A.ids H b3 (n + 1) (A'.pushed 3 (4 + nx) (8 * nx)) (l ++ [8 * nx]) (tag + 1) (nx + 1) s2 tl2 := ⟨hA2, ok3, ft2, hs2⟩
    dsimp only
    rw [e1]
    refine tg_want S2 (by show A'.uses + 3 ≤ _; omega) n0 c2 fun S3 => ?_
    refine tg_loop S3 (by show A'.uses + 3 + 1 ≤ _; omega) n0 c2 (v1 := tag + 1) (v2 := nx + 1) (fun q j => by rw [t_magpielaw10_FreeTags_L2]; dsimp only; rw [e1, e2]) fun A' tl' p S4 => again _ _ _ _ _ _ p S4
end
end Go.Proofs.Ytgnifhkjpekkdaa

