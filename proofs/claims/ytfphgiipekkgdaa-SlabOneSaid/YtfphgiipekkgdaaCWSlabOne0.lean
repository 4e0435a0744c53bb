/- Texts of this claim, one behind the other. -/
import Derived.Test.YtfphgiipekkgdaaB2
set_option linter.unusedVariables false
set_option maxRecDepth 10000
namespace Go.Proofs.Ytfphgiipekkgdaa
open Go Go.Fw
/- magpie/magpielaw11.SlabFull -/
noncomputable def t_magpielaw11_SlabFull_J0 (y1 : HL Sh1.T [(.leaf .bool), (.leaf (.int .i64)), (.leaf (.int .i64))]) (x48 : Int) (x63 : HL Sh1.T [(.leaf (.int .i64)), (.leaf .bool)]) : Tree :=
  bif x63.2.1 then (
    .qcall f_handle_Size [(.int .i64 x48)] (.one (.leaf (.int .i64))) fun x100 =>
    .again 512 [(.bool y1.1), (.int .i64 (w64 (y1.2.1 + x100))), (.int .i64 (w64 (y1.2.2.1 + 1)))])
  else (
    .again 512 [(.bool y1.1), (.int .i64 y1.2.1), (.int .i64 (w64 (y1.2.2.1 + 1)))])

noncomputable def t_magpielaw11_SlabFull_J7 (x31 : Option Addr) (y1 : HL Sh1.T [(.leaf .bool), (.leaf (.int .i64)), (.leaf (.int .i64))]) (x103 : Option Addr) : Tree :=
  .look (opS Try.prog (.binOp .eql ty_p_slab_Alloc (.tmp 0) (.const (.pointer none)) ty_p_slab_Alloc) ty_bool [(.pointer x103)]) (.one (.leaf .bool)) fun x105 =>
  bif x105 then (
    .ret (.bool false))
  else (
    .call f_magpielaw11_run [(.pointer x31), (.iface ty_p_slab_Alloc (.pointer x103))] (.one (.leaf .bool)) fun x110 =>
    bif (!x110) then (
      .ret (.bool false))
    else (
      .call f_slab_Alloc_Handle [(.pointer x103)] (.tup [(.leaf (.int .i64)), (.leaf .bool)]) fun x115 =>
      bif (!x115.2.1) then (
        .call f_arena_Arena_Count [(.pointer x31)] (.one (.agg [(.int .i64), (.int .i64), (.int .i64), (.int .i64)])) fun x122 =>
        bif ((x122.2.1 : Int) == y1.2.1) then (
          .call f_arena_Arena_Count [(.pointer x31)] (.one (.agg [(.int .i64), (.int .i64), (.int .i64), (.int .i64)])) fun x129 =>
          bif ((x129.1 : Int) == y1.2.1) then (
            .call f_magpielaw11_awake [] (.one (.leaf .bool)) fun x135 =>
            .ret (.bool x135))
          else (
            .ret (.bool false)))
        else (
          .ret (.bool false)))
      else (
        .ret (.bool false))))

@[reducible] def t_magpielaw11_SlabFull_L1_sh : List Sh1 := [(.leaf .bool), (.leaf (.int .i64)), (.leaf (.int .i64))]
noncomputable def t_magpielaw11_SlabFull_L1 (p1 : Sl) (x23 : Int) (x6 : Addr) (x31 : Option Addr) (y1 : HL Sh1.T t_magpielaw11_SlabFull_L1_sh) : Tree :=
  bif (decide ((y1.2.2.1 : Int) < ((p1.len : Nat) : Int))) then (
    bif (decide ((y1.2.2.1 : Int) < 60)) then (
      .look (opS Try.prog (.indexAddr ty_s_int (.tmp 0) (.tmp 1)) ty_unit [(.slice p1.a p1.len p1.cap), (.int .i64 y1.2.2.1)]) (.one (.leaf .addr)) fun x46 =>
      .ld x46 (.int .i64) fun x47 =>
      .qcall f_magpielaw00_Place [(.int .i64 x47), (.int .i64 4)] (.one (.leaf (.int .i64))) fun x48 =>
      .ldA x6 [(.int .i64), (.int .i64), (.int .i64), (.int .i64), (.int .i64)] fun x49 =>
      .call f_slab_NewAlloc [(.agg #[(.int .i64 x49.1), (.int .i64 x49.2.1), (.int .i64 x49.2.2.1), (.int .i64 x49.2.2.2.1), (.int .i64 x49.2.2.2.2.1)]), (.int .i64 0), (.int .i64 x48)] (.one (.leaf .ptr)) fun x51 =>
      .look (opS Try.prog (.binOp .eql ty_p_slab_Alloc (.tmp 0) (.const (.pointer none)) ty_p_slab_Alloc) ty_bool [(.pointer x51)]) (.one (.leaf .bool)) fun x53 =>
      bif x53 then (
        .ret (.bool false))
      else (
        .call f_magpielaw11_run [(.pointer x31), (.iface ty_p_slab_Alloc (.pointer x51))] (.one (.leaf .bool)) fun x58 =>
        bif (!x58) then (
          .ret (.bool false))
        else (
          .call f_slab_Alloc_Handle [(.pointer x51)] (.tup [(.leaf (.int .i64)), (.leaf .bool)]) fun x63 =>
          .qcall f_handle_Open [(.int .i64 x63.1)] (.tup [(.leaf (.int .i64)), (.leaf (.int .i64)), (.leaf (.int .i64)), (.leaf .bool)]) fun x68 =>
          .qcall f_handle_Size [(.int .i64 x48)] (.one (.leaf (.int .i64))) fun x76 =>
          bif (!(x63.2.1 == (decide (((w64 (y1.2.1 + x76)) : Int) ≤ x23)))) then (
            .ret (.bool false))
          else (
            bif x63.2.1 then (
              bif ((x68.1 : Int) != y1.2.1) then (
                .ret (.bool false))
              else (
                bif (!x63.2.1) then (
                  bif ((x63.1 : Int) != 0) then (
                    .ret (.bool false))
                  else (
                    t_magpielaw11_SlabFull_J0 y1 x48 x63))
                else (
                  t_magpielaw11_SlabFull_J0 y1 x48 x63)))
            else (
              bif (!x63.2.1) then (
                bif ((x63.1 : Int) != 0) then (
                  .ret (.bool false))
                else (
                  t_magpielaw11_SlabFull_J0 y1 x48 x63))
              else (
                t_magpielaw11_SlabFull_J0 y1 x48 x63))))))
    else (
      .ldA x6 [(.int .i64), (.int .i64), (.int .i64), (.int .i64), (.int .i64)] fun x102 =>
      .call f_slab_NewAlloc [(.agg #[(.int .i64 x102.1), (.int .i64 x102.2.1), (.int .i64 x102.2.2.1), (.int .i64 x102.2.2.2.1), (.int .i64 x102.2.2.2.2.1)]), (.int .i64 0), (.int .i64 7)] (.one (.leaf .ptr)) fun x103 =>
      t_magpielaw11_SlabFull_J7 x31 y1 x103))
  else (
    .ldA x6 [(.int .i64), (.int .i64), (.int .i64), (.int .i64), (.int .i64)] fun x102 =>
    .call f_slab_NewAlloc [(.agg #[(.int .i64 x102.1), (.int .i64 x102.2.1), (.int .i64 x102.2.2.1), (.int .i64 x102.2.2.2.1), (.int .i64 x102.2.2.2.2.1)]), (.int .i64 0), (.int .i64 7)] (.one (.leaf .ptr)) fun x103 =>
    t_magpielaw11_SlabFull_J7 x31 y1 x103)
noncomputable def t_magpielaw11_SlabFull (p0 : Int) (p1 : Sl) : Tree :=
  .qcall f_magpielaw00_Place [(.int .i64 p0), (.int .i64 400)] (.one (.leaf (.int .i64))) fun x23 =>
  .call f_free_Raw [(.int .i64 1), (.int .i64 x23)] (.tup [(.agg [(.int .i64), (.int .i64), (.int .i64), (.int .i64), (.int .i64)]), (.leaf (.int .i64))]) fun x26 =>
  .newP (.cells #[(.int .i64 0), (.int .i64 0), (.int .i64 0), (.int .i64 0), (.int .i64 0)] ty_free_Place) fun x6 =>
  .stA x6 [(.int .i64 x26.1.1), (.int .i64 x26.1.2.1), (.int .i64 x26.1.2.2.1), (.int .i64 x26.1.2.2.2.1), (.int .i64 x26.1.2.2.2.2.1)] <|
  .call f_arena_New [(.int .i64 x26.2.1), (.int .i64 x23), (.bool false)] (.one (.leaf .ptr)) fun x31 =>
  .look (opS Try.prog (.binOp .eql ty_p_arena_Arena (.tmp 0) (.const (.pointer none)) ty_p_arena_Arena) ty_bool [(.pointer x31)]) (.one (.leaf .bool)) fun x33 =>
  bif x33 then (
    .ret (.bool false))
  else (
    .loop 512 t_magpielaw11_SlabFull_L1_sh [(.bool false), (.int .i64 0), (.int .i64 0)] (t_magpielaw11_SlabFull_L1 p1 x23 x6 x31))
theorem t_magpielaw11_SlabFull_eq (p0 : Int) (p1 : Sl) : funcTree Try.prog { quiet := [16, 22, 23, 34, 35, 48, 49, 53, 57, 58, 59, 62, 105], quietTmp := true, fncs := [], ifcs := [] } Try.f3 [(.int .i64 p0), (.slice p1.a p1.len p1.cap)] = t_magpielaw11_SlabFull p0 p1 := by kernel_rfl
theorem t_magpielaw11_SlabFull_spec {p0 : Int} {p1 : Sl} {H : Heap} {R : Value → Heap → Prop} (h : ∀ L, wp Try.prog (t_magpielaw11_SlabFull p0 p1) L H R) : SpecF Try.prog f_magpielaw11_SlabFull #[(.int .i64 p0), (.slice p1.a p1.len p1.cap)] H R :=
  spec_of_tree (cfg := { quiet := [16, 22, 23, 34, 35, 48, 49, 53, 57, 58, 59, 62, 105], quietTmp := true, fncs := [], ifcs := [] }) Try.func3 fun L => (t_magpielaw11_SlabFull_eq p0 p1).symm ▸ h L

/- magpie/magpielaw11.SlabOne -/
noncomputable def t_magpielaw11_SlabOne_J3 (y1 : HL Sh1.T [(.leaf .bool), (.leaf .slice), (.leaf (.int .i64)), (.leaf (.int .i64))]) (x61 : Int) (y2 : HL Sh1.T [(.leaf .bool), (.leaf (.int .i64))]) (x155 : HL Sh1.T [(.leaf (.int .i64)), (.leaf .bool)]) : Tree :=
  bif (!y2.1) then (
    .qcall f_handle_Size [(.int .i64 (Int.tmod (w64 (Int.tdiv x61 8)) 3))] (.one (.leaf (.int .i64))) fun x218 =>
    .newS (.cells #[(.int .i64 x155.1)] ty_int) 1 fun x222 =>
    .act (opS Try.prog (.call { callee := .builtin .append, args := #[(.tmp 0), (.tmp 1)], argTypes := #[ty_s_int, ty_s_int] }) ty_s_int [(.slice y1.2.1.a y1.2.1.len y1.2.1.cap), (.slice x222.a x222.len x222.cap)]) (.one (.leaf .slice)) fun x223 =>
    .again 577 [(.bool y1.1), (.slice x223.a x223.len x223.cap), (.int .i64 (w64 (y1.2.2.1 + x218))), (.int .i64 (w64 (y1.2.2.2.1 + 1)))])
  else (
    .newS (.cells #[(.int .i64 x155.1)] ty_int) 1 fun x222 =>
    .act (opS Try.prog (.call { callee := .builtin .append, args := #[(.tmp 0), (.tmp 1)], argTypes := #[ty_s_int, ty_s_int] }) ty_s_int [(.slice y1.2.1.a y1.2.1.len y1.2.1.cap), (.slice x222.a x222.len x222.cap)]) (.one (.leaf .slice)) fun x223 =>
    .again 577 [(.bool y1.1), (.slice x223.a x223.len x223.cap), (.int .i64 y1.2.2.1), (.int .i64 (w64 (y1.2.2.2.1 + 1)))])

noncomputable def t_magpielaw11_SlabOne_J5 (x44 : Option Addr) (y1 : HL Sh1.T [(.leaf .bool), (.leaf .slice), (.leaf (.int .i64)), (.leaf (.int .i64))]) (x61 : Int) (y2 : HL Sh1.T [(.leaf .bool), (.leaf (.int .i64))]) (x139 : Sl) (x155 : HL Sh1.T [(.leaf (.int .i64)), (.leaf .bool)]) (x160 : HL Sh1.T [(.leaf (.int .i64)), (.leaf (.int .i64)), (.leaf (.int .i64)), (.leaf .bool)]) : Tree :=
  bif (!x155.2.1) then (
    .again 577 [(.bool y1.1), (.slice y1.2.1.a y1.2.1.len y1.2.1.cap), (.int .i64 y1.2.2.1), (.int .i64 (w64 (y1.2.2.2.1 + 1)))])
  else (
    bif ((x160.2.2.1 : Int) != (Int.tmod (w64 (Int.tdiv x61 8)) 3)) then (
      .ret (.bool false))
    else (
      .call f_arena_Arena_State [(.pointer x44), (.int .i64 x155.1)] (.one (.leaf (.int .i64))) fun x190 =>
      bif ((x190 : Int) != 1) then (
        .ret (.bool false))
      else (
        bif (decide ((((x139.len : Nat) : Int) : Int) > 0)) then (
          .look (opS Try.prog (.indexAddr ty_s_int (.tmp 0) (.const (.int .i64 0))) ty_unit [(.slice x139.a x139.len x139.cap)]) (.one (.leaf .addr)) fun x200 =>
          .ld x200 (.int .i64) fun x201 =>
          bif ((x160.1 : Int) != x201) then (
            .ret (.bool false))
          else (
            bif (!y2.1) then (
              bif ((x160.1 : Int) != y1.2.2.1) then (
                .ret (.bool false))
              else (
                t_magpielaw11_SlabOne_J3 y1 x61 y2 x155))
            else (
              t_magpielaw11_SlabOne_J3 y1 x61 y2 x155)))
        else (
          bif (!y2.1) then (
            bif ((x160.1 : Int) != y1.2.2.1) then (
              .ret (.bool false))
            else (
              t_magpielaw11_SlabOne_J3 y1 x61 y2 x155))
          else (
            t_magpielaw11_SlabOne_J3 y1 x61 y2 x155)))))

@[reducible] def t_magpielaw11_SlabOne_L2_sh : List Sh1 := [(.leaf .bool), (.leaf (.int .i64))]
noncomputable def t_magpielaw11_SlabOne_L2 (x31 : Int) (x34 : Int) (x9 : Addr) (x44 : Option Addr) (y1 : HL Sh1.T [(.leaf .bool), (.leaf .slice), (.leaf (.int .i64)), (.leaf (.int .i64))]) (x61 : Int) (x65 : Int) (y2 : HL Sh1.T t_magpielaw11_SlabOne_L2_sh) : Tree :=
  bif (decide ((y2.2.1 : Int) < (w64 (1 + x31)))) then (
    bif y2.1 then (
      .again 1280 [(.bool true), (.int .i64 (w64 (y2.2.1 + 1)))])
    else (
      .ldA x9 [(.int .i64), (.int .i64), (.int .i64), (.int .i64), (.int .i64)] fun x128 =>
      .call f_free_List [(.pointer x44), (.agg #[(.int .i64 x128.1), (.int .i64 x128.2.1), (.int .i64 x128.2.2.1), (.int .i64 x128.2.2.2.1), (.int .i64 x128.2.2.2.2.1)]), (.int .i64 y2.2.1), (.int .i64 (Int.tmod (w64 (Int.tdiv x61 8)) 3))] (.one (.leaf .slice)) fun x131 =>
      .again 1280 [(.bool (decide ((((x131.len : Nat) : Int) : Int) > 0))), (.int .i64 (w64 (y2.2.1 + 1)))]))
  else (
    .ldA x9 [(.int .i64), (.int .i64), (.int .i64), (.int .i64), (.int .i64)] fun x136 =>
    .call f_free_List [(.pointer x44), (.agg #[(.int .i64 x136.1), (.int .i64 x136.2.1), (.int .i64 x136.2.2.1), (.int .i64 x136.2.2.2.1), (.int .i64 x136.2.2.2.2.1)]), (.int .i64 x65), (.int .i64 (Int.tmod (w64 (Int.tdiv x61 8)) 3))] (.one (.leaf .slice)) fun x139 =>
    .ldA x9 [(.int .i64), (.int .i64), (.int .i64), (.int .i64), (.int .i64)] fun x140 =>
    .call f_slab_NewAlloc [(.agg #[(.int .i64 x140.1), (.int .i64 x140.2.1), (.int .i64 x140.2.2.1), (.int .i64 x140.2.2.2.1), (.int .i64 x140.2.2.2.2.1)]), (.int .i64 x65), (.int .i64 (Int.tmod (w64 (Int.tdiv x61 8)) 3))] (.one (.leaf .ptr)) fun x143 =>
    .look (opS Try.prog (.binOp .eql ty_p_slab_Alloc (.tmp 0) (.const (.pointer none)) ty_p_slab_Alloc) ty_bool [(.pointer x143)]) (.one (.leaf .bool)) fun x145 =>
    bif x145 then (
      .ret (.bool false))
    else (
      .call f_magpielaw11_run [(.pointer x44), (.iface ty_p_slab_Alloc (.pointer x143))] (.one (.leaf .bool)) fun x150 =>
      bif (!x150) then (
        .ret (.bool false))
      else (
        .call f_slab_Alloc_Handle [(.pointer x143)] (.tup [(.leaf (.int .i64)), (.leaf .bool)]) fun x155 =>
        .qcall f_handle_Open [(.int .i64 x155.1)] (.tup [(.leaf (.int .i64)), (.leaf (.int .i64)), (.leaf (.int .i64)), (.leaf .bool)]) fun x160 =>
        .qcall f_handle_Size [(.int .i64 (Int.tmod (w64 (Int.tdiv x61 8)) 3))] (.one (.leaf (.int .i64))) fun x167 =>
        bif y2.1 then (
          bif (!(x155.2.1 == true)) then (
            .ret (.bool false))
          else (
            bif (!(x155.2.1 == x160.2.2.2.1)) then (
              .ret (.bool false))
            else (
              t_magpielaw11_SlabOne_J5 x44 y1 x61 y2 x139 x155 x160)))
        else (
          bif (!(x155.2.1 == (decide (((w64 (y1.2.2.1 + x167)) : Int) ≤ (w64 (8 * x34)))))) then (
            .ret (.bool false))
          else (
            bif (!(x155.2.1 == x160.2.2.2.1)) then (
              .ret (.bool false))
            else (
              t_magpielaw11_SlabOne_J5 x44 y1 x61 y2 x139 x155 x160))))))

noncomputable def t_magpielaw11_SlabOne_J13 (x9 : Addr) (x44 : Option Addr) (y1 : HL Sh1.T [(.leaf .bool), (.leaf .slice), (.leaf (.int .i64)), (.leaf (.int .i64))]) : Tree :=
  .call f_arena_Arena_Fault [(.pointer x44)] (.one (.leaf .bool)) fun x225 =>
  bif (!x225) then (
    .ld (x9.add 4) (.int .i64) fun x230 =>
    .call f_arena_Arena_Raw [(.pointer x44), (.int .i64 x230)] (.one (.leaf (.int .i64))) fun x231 =>
    bif ((x231 : Int) == y1.2.2.1) then (
      .call f_magpielaw11_awake [] (.one (.leaf .bool)) fun x236 =>
      .ret (.bool x236))
    else (
      .ret (.bool false)))
  else (
    .ret (.bool false))

@[reducible] def t_magpielaw11_SlabOne_L1_sh : List Sh1 := [(.leaf .bool), (.leaf .slice), (.leaf (.int .i64)), (.leaf (.int .i64))]
noncomputable def t_magpielaw11_SlabOne_L1 (p2 : Sl) (x31 : Int) (x34 : Int) (x9 : Addr) (x44 : Option Addr) (y1 : HL Sh1.T t_magpielaw11_SlabOne_L1_sh) : Tree :=
  bif (decide ((y1.2.2.2.1 : Int) < ((p2.len : Nat) : Int))) then (
    bif (decide ((y1.2.2.2.1 : Int) < 60)) then (
      .look (opS Try.prog (.indexAddr ty_s_int (.tmp 0) (.tmp 1)) ty_unit [(.slice p2.a p2.len p2.cap), (.int .i64 y1.2.2.2.1)]) (.one (.leaf .addr)) fun x59 =>
      .ld x59 (.int .i64) fun x60 =>
      .qcall f_magpielaw00_Place [(.int .i64 x60), (.int .i64 1048576)] (.one (.leaf (.int .i64))) fun x61 =>
      .look (opS Try.prog (.binOp .rem ty_int (.tmp 0) (.tmp 1) ty_int) ty_int [(.int .i64 (w64 (Int.tdiv x61 2))), (.int .i64 (w64 (1 + x31)))]) (.one (.leaf (.int .i64))) fun x65 =>
      bif (((Int.tmod x61 2) : Int) == 1) then (
        bif (decide ((((y1.2.1.len : Nat) : Int) : Int) > 0)) then (
          .look (opS Try.prog (.binOp .rem ty_int (.tmp 0) (.tmp 1) ty_int) ty_int [(.int .i64 (w64 (Int.tdiv x61 24))), (.int .i64 ((y1.2.1.len : Nat) : Int))]) (.one (.leaf (.int .i64))) fun x81 =>
          .look (opS Try.prog (.indexAddr ty_s_int (.tmp 0) (.tmp 1)) ty_unit [(.slice y1.2.1.a y1.2.1.len y1.2.1.cap), (.int .i64 x81)]) (.one (.leaf .addr)) fun x85 =>
          .ld x85 (.int .i64) fun x86 =>
          .call f_arena_Arena_Retire [(.pointer x44), (.int .i64 x86)] (.one (.leaf .bool)) fun x87 =>
          bif (!x87) then (
            .ret (.bool false))
          else (
            .ldA x9 [(.int .i64), (.int .i64), (.int .i64), (.int .i64), (.int .i64)] fun x91 =>
            .look (opS Try.prog (.indexAddr ty_s_int (.tmp 0) (.tmp 1)) ty_unit [(.slice y1.2.1.a y1.2.1.len y1.2.1.cap), (.int .i64 x81)]) (.one (.leaf .addr)) fun x95 =>
            .ld x95 (.int .i64) fun x96 =>
            .call f_slab_NewFree [(.agg #[(.int .i64 x91.1), (.int .i64 x91.2.1), (.int .i64 x91.2.2.1), (.int .i64 x91.2.2.2.1), (.int .i64 x91.2.2.2.2.1)]), (.int .i64 x65), (.int .i64 x96)] (.one (.leaf .ptr)) fun x97 =>
            .call f_magpielaw11_run [(.pointer x44), (.iface ty_p_slab_Free (.pointer x97))] (.one (.leaf .bool)) fun x99 =>
            bif (!x99) then (
              .ret (.bool false))
            else (
              .look (opS Try.prog (.indexAddr ty_s_int (.tmp 0) (.tmp 1)) ty_unit [(.slice y1.2.1.a y1.2.1.len y1.2.1.cap), (.int .i64 x81)]) (.one (.leaf .addr)) fun x106 =>
              .ld x106 (.int .i64) fun x107 =>
              .call f_arena_Arena_State [(.pointer x44), (.int .i64 x107)] (.one (.leaf (.int .i64))) fun x108 =>
              bif ((x108 : Int) != 0) then (
                .ret (.bool false))
              else (
                .look (opS Try.prog (.slice ty_s_int (.tmp 0) none (some (.tmp 1)) none) ty_s_int [(.slice y1.2.1.a y1.2.1.len y1.2.1.cap), (.int .i64 x81)]) (.one (.leaf .slice)) fun x113 =>
                .look (opS Try.prog (.slice ty_s_int (.tmp 0) (some (.tmp 1)) none none) ty_s_int [(.slice y1.2.1.a y1.2.1.len y1.2.1.cap), (.int .i64 (w64 (x81 + 1)))]) (.one (.leaf .slice)) fun x118 =>
                .act (opS Try.prog (.call { callee := .builtin .append, args := #[(.const (.slice none 0 0)), (.tmp 0)], argTypes := #[ty_s_int, ty_s_int] }) ty_s_int [(.slice x113.a x113.len x113.cap)]) (.one (.leaf .slice)) fun x114 =>
                .check (opS Try.prog (.slice ty_s_int (.tmp 0) (some (.tmp 1)) none none) ty_s_int [(.slice y1.2.1.a y1.2.1.len y1.2.1.cap), (.int .i64 (w64 (x81 + 1)))]) (.slice x118.a x118.len x118.cap) <|
                .act (opS Try.prog (.call { callee := .builtin .append, args := #[(.tmp 0), (.tmp 1)], argTypes := #[ty_s_int, ty_s_int] }) ty_s_int [(.slice x114.a x114.len x114.cap), (.slice x118.a x118.len x118.cap)]) (.one (.leaf .slice)) fun x119 =>
                .again 577 [(.bool y1.1), (.slice x119.a x119.len x119.cap), (.int .i64 y1.2.2.1), (.int .i64 (w64 (y1.2.2.2.1 + 1)))]))))
        else (
          .loop 1280 t_magpielaw11_SlabOne_L2_sh [(.bool false), (.int .i64 0)] (t_magpielaw11_SlabOne_L2 x31 x34 x9 x44 y1 x61 x65)))
      else (
        .loop 1280 t_magpielaw11_SlabOne_L2_sh [(.bool false), (.int .i64 0)] (t_magpielaw11_SlabOne_L2 x31 x34 x9 x44 y1 x61 x65)))
    else (
      t_magpielaw11_SlabOne_J13 x9 x44 y1))
  else (
    t_magpielaw11_SlabOne_J13 x9 x44 y1)
noncomputable def t_magpielaw11_SlabOne (p0 : Int) (p1 : Int) (p2 : Sl) : Tree :=
  .qcall f_magpielaw00_Place [(.int .i64 p0), (.int .i64 4)] (.one (.leaf (.int .i64))) fun x31 =>
  .qcall f_magpielaw00_Place [(.int .i64 p1), (.int .i64 40)] (.one (.leaf (.int .i64))) fun x34 =>
  .call f_free_Raw [(.int .i64 (w64 (1 + x31))), (.int .i64 (w64 (8 * x34)))] (.tup [(.agg [(.int .i64), (.int .i64), (.int .i64), (.int .i64), (.int .i64)]), (.leaf (.int .i64))]) fun x39 =>
  .newP (.cells #[(.int .i64 0), (.int .i64 0), (.int .i64 0), (.int .i64 0), (.int .i64 0)] ty_free_Place) fun x9 =>
  .stA x9 [(.int .i64 x39.1.1), (.int .i64 x39.1.2.1), (.int .i64 x39.1.2.2.1), (.int .i64 x39.1.2.2.2.1), (.int .i64 x39.1.2.2.2.2.1)] <|
  .call f_arena_New [(.int .i64 x39.2.1), (.int .i64 (w64 (8 * x34))), (.bool false)] (.one (.leaf .ptr)) fun x44 =>
  .look (opS Try.prog (.binOp .eql ty_p_arena_Arena (.tmp 0) (.const (.pointer none)) ty_p_arena_Arena) ty_bool [(.pointer x44)]) (.one (.leaf .bool)) fun x46 =>
  bif x46 then (
    .ret (.bool false))
  else (
    .loop 577 t_magpielaw11_SlabOne_L1_sh [(.bool false), (.slice none 0 0), (.int .i64 0), (.int .i64 0)] (t_magpielaw11_SlabOne_L1 p2 x31 x34 x9 x44))
theorem t_magpielaw11_SlabOne_eq (p0 : Int) (p1 : Int) (p2 : Sl) : funcTree Try.prog { quiet := [16, 22, 23, 34, 35, 48, 49, 53, 57, 58, 59, 62, 105], quietTmp := true, fncs := [], ifcs := [] } Try.f4 [(.int .i64 p0), (.int .i64 p1), (.slice p2.a p2.len p2.cap)] = t_magpielaw11_SlabOne p0 p1 p2 := by kernel_rfl
theorem t_magpielaw11_SlabOne_spec {p0 : Int} {p1 : Int} {p2 : Sl} {H : Heap} {R : Value → Heap → Prop} (h : ∀ L, wp Try.prog (t_magpielaw11_SlabOne p0 p1 p2) L H R) : SpecF Try.prog f_magpielaw11_SlabOne #[(.int .i64 p0), (.int .i64 p1), (.slice p2.a p2.len p2.cap)] H R :=
  spec_of_tree (cfg := { quiet := [16, 22, 23, 34, 35, 48, 49, 53, 57, 58, 59, 62, 105], quietTmp := true, fncs := [], ifcs := [] }) Try.func4 fun L => (t_magpielaw11_SlabOne_eq p0 p1 p2).symm ▸ h L

/- magpie/magpielaw11.SlabAgain -/
@[reducible] def t_magpielaw11_SlabAgain_L1_sh : List Sh1 := [(.leaf .bool), (.leaf (.int .i64))]
noncomputable def t_magpielaw11_SlabAgain_L1 (p2 : Int) (p4 : Int) (x26 : Int) (x29 : Int) (x13 : Addr) (x36 : Option Addr) (x41 : Int) (y1 : HL Sh1.T t_magpielaw11_SlabAgain_L1_sh) : Tree :=
  .qcall f_magpielaw00_Place [(.int .i64 p4), (.int .i64 10)] (.one (.leaf (.int .i64))) fun x44 =>
  bif (decide ((y1.2.1 : Int) ≤ (w64 (1 + x44)))) then (
    .ldA x13 [(.int .i64), (.int .i64), (.int .i64), (.int .i64), (.int .i64)] fun x49 =>
    .qcall f_magpielaw00_Place [(.int .i64 p2), (.int .i64 (w64 (2 + x26)))] (.one (.leaf (.int .i64))) fun x54 =>
    .look (opS Try.prog (.binOp .rem ty_int (.tmp 0) (.tmp 1) ty_int) ty_int [(.int .i64 (w64 (x41 + (w64 (y1.2.1 * (w64 (1 + x54))))))), (.int .i64 (w64 (2 + x26)))]) (.one (.leaf (.int .i64))) fun x59 =>
    .call f_slab_NewAlloc [(.agg #[(.int .i64 x49.1), (.int .i64 x49.2.1), (.int .i64 x49.2.2.1), (.int .i64 x49.2.2.2.1), (.int .i64 x49.2.2.2.2.1)]), (.int .i64 x59), (.int .i64 x29)] (.one (.leaf .ptr)) fun x61 =>
    .look (opS Try.prog (.binOp .eql ty_p_slab_Alloc (.tmp 0) (.const (.pointer none)) ty_p_slab_Alloc) ty_bool [(.pointer x61)]) (.one (.leaf .bool)) fun x63 =>
    bif x63 then (
      .ret (.bool false))
    else (
      .call f_magpielaw11_run [(.pointer x36), (.iface ty_p_slab_Alloc (.pointer x61))] (.one (.leaf .bool)) fun x68 =>
      bif (!x68) then (
        .ret (.bool false))
      else (
        .call f_slab_Alloc_Handle [(.pointer x61)] (.tup [(.leaf (.int .i64)), (.leaf .bool)]) fun x73 =>
        .qcall f_handle_Open [(.int .i64 x73.1)] (.tup [(.leaf (.int .i64)), (.leaf (.int .i64)), (.leaf (.int .i64)), (.leaf .bool)]) fun x78 =>
        bif (!x73.2.1) then (
          .ret (.bool false))
        else (
          bif (!x78.2.2.2.1) then (
            .ret (.bool false))
          else (
            bif ((x78.1 : Int) != 0) then (
              .ret (.bool false))
            else (
              bif ((x78.2.1 : Int) != y1.2.1) then (
                .ret (.bool false))
              else (
                bif ((x78.2.2.1 : Int) != x29) then (
                  .ret (.bool false))
                else (
                  .call f_arena_Arena_Retire [(.pointer x36), (.int .i64 x73.1)] (.one (.leaf .bool)) fun x106 =>
                  bif (!x106) then (
                    .ret (.bool false))
                  else (
                    .ldA x13 [(.int .i64), (.int .i64), (.int .i64), (.int .i64), (.int .i64)] fun x111 =>
                    .call f_slab_NewFree [(.agg #[(.int .i64 x111.1), (.int .i64 x111.2.1), (.int .i64 x111.2.2.1), (.int .i64 x111.2.2.2.1), (.int .i64 x111.2.2.2.2.1)]), (.int .i64 x41), (.int .i64 x73.1)] (.one (.leaf .ptr)) fun x114 =>
                    .call f_magpielaw11_run [(.pointer x36), (.iface ty_p_slab_Free (.pointer x114))] (.one (.leaf .bool)) fun x116 =>
                    bif (!x116) then (
                      .ret (.bool false))
                    else (
                      .again 576 [(.bool y1.1), (.int .i64 (w64 (y1.2.1 + 1)))]))))))))))
  else (
    .ld (x13.add 4) (.int .i64) fun x121 =>
    .call f_arena_Arena_Raw [(.pointer x36), (.int .i64 x121)] (.one (.leaf (.int .i64))) fun x122 =>
    .qcall f_handle_Size [(.int .i64 x29)] (.one (.leaf (.int .i64))) fun x124 =>
    bif ((x122 : Int) == x124) then (
      .call f_arena_Arena_Fault [(.pointer x36)] (.one (.leaf .bool)) fun x128 =>
      bif (!x128) then (
        .ldA x13 [(.int .i64), (.int .i64), (.int .i64), (.int .i64), (.int .i64)] fun x133 =>
        .call f_free_List [(.pointer x36), (.agg #[(.int .i64 x133.1), (.int .i64 x133.2.1), (.int .i64 x133.2.2.1), (.int .i64 x133.2.2.2.1), (.int .i64 x133.2.2.2.2.1)]), (.int .i64 x41), (.int .i64 x29)] (.one (.leaf .slice)) fun x136 =>
        bif ((((x136.len : Nat) : Int) : Int) == 1) then (
          .call f_magpielaw11_awake [] (.one (.leaf .bool)) fun x141 =>
          .ret (.bool x141))
        else (
          .ret (.bool false)))
      else (
        .ret (.bool false)))
    else (
      .ret (.bool false)))
noncomputable def t_magpielaw11_SlabAgain (p0 : Int) (p1 : Int) (p2 : Int) (p3 : Int) (p4 : Int) : Tree :=
  .qcall f_magpielaw00_Place [(.int .i64 p0), (.int .i64 4)] (.one (.leaf (.int .i64))) fun x26 =>
  .qcall f_magpielaw00_Place [(.int .i64 p3), (.int .i64 4)] (.one (.leaf (.int .i64))) fun x29 =>
  .call f_free_Raw [(.int .i64 (w64 (2 + x26))), (.int .i64 64)] (.tup [(.agg [(.int .i64), (.int .i64), (.int .i64), (.int .i64), (.int .i64)]), (.leaf (.int .i64))]) fun x32 =>
  .newP (.cells #[(.int .i64 0), (.int .i64 0), (.int .i64 0), (.int .i64 0), (.int .i64 0)] ty_free_Place) fun x13 =>
  .stA x13 [(.int .i64 x32.1.1), (.int .i64 x32.1.2.1), (.int .i64 x32.1.2.2.1), (.int .i64 x32.1.2.2.2.1), (.int .i64 x32.1.2.2.2.2.1)] <|
  .call f_arena_New [(.int .i64 x32.2.1), (.int .i64 64), (.bool false)] (.one (.leaf .ptr)) fun x36 =>
  .look (opS Try.prog (.binOp .eql ty_p_arena_Arena (.tmp 0) (.const (.pointer none)) ty_p_arena_Arena) ty_bool [(.pointer x36)]) (.one (.leaf .bool)) fun x38 =>
  bif x38 then (
    .ret (.bool false))
  else (
    .qcall f_magpielaw00_Place [(.int .i64 p1), (.int .i64 (w64 (2 + x26)))] (.one (.leaf (.int .i64))) fun x41 =>
    .loop 576 t_magpielaw11_SlabAgain_L1_sh [(.bool false), (.int .i64 1)] (t_magpielaw11_SlabAgain_L1 p2 p4 x26 x29 x13 x36 x41))
theorem t_magpielaw11_SlabAgain_eq (p0 : Int) (p1 : Int) (p2 : Int) (p3 : Int) (p4 : Int) : funcTree Try.prog { quiet := [16, 22, 23, 34, 35, 48, 49, 53, 57, 58, 59, 62, 105], quietTmp := true, fncs := [], ifcs := [] } Try.f5 [(.int .i64 p0), (.int .i64 p1), (.int .i64 p2), (.int .i64 p3), (.int .i64 p4)] = t_magpielaw11_SlabAgain p0 p1 p2 p3 p4 := by kernel_rfl
theorem t_magpielaw11_SlabAgain_spec {p0 : Int} {p1 : Int} {p2 : Int} {p3 : Int} {p4 : Int} {H : Heap} {R : Value → Heap → Prop} (h : ∀ L, wp Try.prog (t_magpielaw11_SlabAgain p0 p1 p2 p3 p4) L H R) : SpecF Try.prog f_magpielaw11_SlabAgain #[(.int .i64 p0), (.int .i64 p1), (.int .i64 p2), (.int .i64 p3), (.int .i64 p4)] H R :=
  spec_of_tree (cfg := { quiet := [16, 22, 23, 34, 35, 48, 49, 53, 57, 58, 59, 62, 105], quietTmp := true, fncs := [], ifcs := [] }) Try.func5 fun L => (t_magpielaw11_SlabAgain_eq p0 p1 p2 p3 p4).symm ▸ h L

/- magpie/magpielaw11.SlabMixes -/
@[reducible] def t_magpielaw11_SlabMixes_L3_sh : List Sh1 := [(.leaf .bool), (.leaf (.int .i64)), (.leaf (.int .i64))]
noncomputable def t_magpielaw11_SlabMixes_L3 (x46 : Option Addr) (y2 : HL Sh1.T [(.leaf .bool), (.leaf (.int .i64)), (.leaf (.int .i64))]) (x202 : Sl) (y3 : HL Sh1.T t_magpielaw11_SlabMixes_L3_sh) : Tree :=
  bif (decide ((y3.2.2.1 : Int) < ((x202.len : Nat) : Int))) then (
    .look (opS Try.prog (.indexAddr ty_s_int (.tmp 0) (.tmp 1)) ty_unit [(.slice x202.a x202.len x202.cap), (.int .i64 y3.2.2.1)]) (.one (.leaf .addr)) fun x206 =>
    .ld x206 (.int .i64) fun x207 =>
    .qcall f_handle_Open [(.int .i64 x207)] (.tup [(.leaf (.int .i64)), (.leaf (.int .i64)), (.leaf (.int .i64)), (.leaf .bool)]) fun x210 =>
    bif (!x210.2.2.2.1) then (
      .ret (.bool false))
    else (
      .call f_arena_Arena_State [(.pointer x46), (.int .i64 x207)] (.one (.leaf (.int .i64))) fun x220 =>
      bif ((x220 : Int) != 1) then (
        .ret (.bool false))
      else (
        .qcall f_handle_Size [(.int .i64 x210.2.2.1)] (.one (.leaf (.int .i64))) fun x225 =>
        .again 2624 [(.bool y3.1), (.int .i64 (w64 (y3.2.1 + x225))), (.int .i64 (w64 (y3.2.2.1 + 1)))])))
  else (
    .again 2433 [(.bool y3.1), (.int .i64 y3.2.1), (.int .i64 (w64 (y2.2.2.1 + 1)))])

@[reducible] def t_magpielaw11_SlabMixes_L2_sh : List Sh1 := [(.leaf .bool), (.leaf (.int .i64)), (.leaf (.int .i64))]
noncomputable def t_magpielaw11_SlabMixes_L2 (x33 : Int) (x46 : Option Addr) (x12 : Addr) (y2 : HL Sh1.T t_magpielaw11_SlabMixes_L2_sh) : Tree :=
  bif (decide ((y2.2.2.1 : Int) < (w64 (1 + x33)))) then (
    .look (opS Try.prog (.indexAddr ty_a5_s_int (.tmp 0) (.tmp 1)) ty_unit [(.pointer (some x12)), (.int .i64 y2.2.2.1)]) (.one (.leaf .addr)) fun x201 =>
    .ld x201 .slice fun x202 =>
    .loop 2624 t_magpielaw11_SlabMixes_L3_sh [(.bool y2.1), (.int .i64 y2.2.1), (.int .i64 0)] (t_magpielaw11_SlabMixes_L3 x46 y2 x202))
  else (
    .call f_arena_Arena_Fault [(.pointer x46)] (.one (.leaf .bool)) fun x229 =>
    bif (!x229) then (
      .call f_arena_Arena_Count [(.pointer x46)] (.one (.agg [(.int .i64), (.int .i64), (.int .i64), (.int .i64)])) fun x234 =>
      bif (decide ((y2.2.1 : Int) ≤ x234.2.1)) then (
        bif (decide ((y2.2.1 : Int) ≤ 65536)) then (
          .call f_magpielaw11_awake [] (.one (.leaf .bool)) fun x243 =>
          .ret (.bool x243))
        else (
          .ret (.bool false)))
      else (
        .ret (.bool false)))
    else (
      .ret (.bool false)))

noncomputable def t_magpielaw11_SlabMixes_J3 (x36 : Int) (x9 : Addr) (x46 : Option Addr) (y1 : HL Sh1.T [(.leaf .bool), (.leaf (.int .i64))]) (x68 : Int) : Tree :=
  .call f_arena_Arena_Uses [(.pointer x46)] (.one (.leaf (.int .i64))) fun x164 =>
  bif (decide ((x164 : Int) > (w64 (x68 + 2)))) then (
    .ret (.bool false))
  else (
    .ld (x9.add 4) (.int .i64) fun x171 =>
    .call f_arena_Arena_Raw [(.pointer x46), (.int .i64 x171)] (.one (.leaf (.int .i64))) fun x172 =>
    bif (decide ((x172 : Int) > (w64 (8 * x36)))) then (
      .ret (.bool false))
    else (
      .call f_arena_Arena_Count [(.pointer x46)] (.one (.agg [(.int .i64), (.int .i64), (.int .i64), (.int .i64)])) fun x177 =>
      .newP (.cells #[(.int .i64 0), (.int .i64 0), (.int .i64 0), (.int .i64 0)] ty_api_Count) fun x23 =>
      .stA x23 [(.int .i64 x177.1), (.int .i64 x177.2.1), (.int .i64 x177.2.2.1), (.int .i64 x177.2.2.2.1)] <|
      .ld x23 (.int .i64) fun x179 =>
      bif (decide ((x179 : Int) > (w64 (8 * x36)))) then (
        .ret (.bool false))
      else (
        .ld (x23.add 1) (.int .i64) fun x184 =>
        .ld (x23.add 2) (.int .i64) fun x186 =>
        .ld (x23.add 3) (.int .i64) fun x189 =>
        .ld x23 (.int .i64) fun x192 =>
        bif (((w64 ((w64 (x184 + x186)) + x189)) : Int) != x192) then (
          .ret (.bool false))
        else (
          .again 640 [(.bool y1.1), (.int .i64 (w64 (y1.2.1 + 1)))]))))

noncomputable def t_magpielaw11_SlabMixes_J4 (x36 : Int) (x9 : Addr) (x46 : Option Addr) (x13 : Addr) (x14 : Addr) (y1 : HL Sh1.T [(.leaf .bool), (.leaf (.int .i64))]) (x66 : Int) (x68 : Int) : Tree :=
  .look (opS Try.prog (.indexAddr ty_a5_magpielaw11_mach (.tmp 0) (.tmp 1)) ty_unit [(.pointer (some x13)), (.int .i64 x66)]) (.one (.leaf .addr)) fun x126 =>
  .st x126 .nilIface <|
  .look (opS Try.prog (.indexAddr ty_a5_p_slab_Alloc (.tmp 0) (.tmp 1)) ty_unit [(.pointer (some x14)), (.int .i64 x66)]) (.one (.leaf .addr)) fun x127 =>
  .st x127 (.pointer none) <|
  t_magpielaw11_SlabMixes_J3 x36 x9 x46 y1 x68

noncomputable def t_magpielaw11_SlabMixes_J11 (x36 : Int) (x9 : Addr) (x46 : Option Addr) (x13 : Addr) (x14 : Addr) (y1 : HL Sh1.T [(.leaf .bool), (.leaf (.int .i64))]) (x66 : Int) (x68 : Int) (x76 : Option Addr) : Tree :=
  .look (opS Try.prog (.indexAddr ty_a5_magpielaw11_mach (.tmp 0) (.tmp 1)) ty_unit [(.pointer (some x13)), (.int .i64 x66)]) (.one (.leaf .addr)) fun x82 =>
  .st x82 (.iface ty_p_slab_Alloc (.pointer x76)) <|
  .look (opS Try.prog (.indexAddr ty_a5_p_slab_Alloc (.tmp 0) (.tmp 1)) ty_unit [(.pointer (some x14)), (.int .i64 x66)]) (.one (.leaf .addr)) fun x83 =>
  .st x83 (.pointer x76) <|
  t_magpielaw11_SlabMixes_J3 x36 x9 x46 y1 x68

@[reducible] def t_magpielaw11_SlabMixes_L1_sh : List Sh1 := [(.leaf .bool), (.leaf (.int .i64))]
noncomputable def t_magpielaw11_SlabMixes_L1 (p2 : Sl) (x33 : Int) (x36 : Int) (x9 : Addr) (x46 : Option Addr) (x12 : Addr) (x13 : Addr) (x14 : Addr) (y1 : HL Sh1.T t_magpielaw11_SlabMixes_L1_sh) : Tree :=
  bif (decide ((y1.2.1 : Int) < ((p2.len : Nat) : Int))) then (
    bif (decide ((y1.2.1 : Int) < 500)) then (
      .look (opS Try.prog (.indexAddr ty_s_int (.tmp 0) (.tmp 1)) ty_unit [(.slice p2.a p2.len p2.cap), (.int .i64 y1.2.1)]) (.one (.leaf .addr)) fun x61 =>
      .ld x61 (.int .i64) fun x62 =>
      .qcall f_magpielaw00_Place [(.int .i64 x62), (.int .i64 1048576)] (.one (.leaf (.int .i64))) fun x63 =>
      .look (opS Try.prog (.binOp .rem ty_int (.tmp 0) (.tmp 1) ty_int) ty_int [(.int .i64 x63), (.int .i64 (w64 (1 + x33)))]) (.one (.leaf (.int .i64))) fun x66 =>
      .call f_arena_Arena_Uses [(.pointer x46)] (.one (.leaf (.int .i64))) fun x68 =>
      .look (opS Try.prog (.indexAddr ty_a5_magpielaw11_mach (.tmp 0) (.tmp 1)) ty_unit [(.pointer (some x13)), (.int .i64 x66)]) (.one (.leaf .addr)) fun x86 =>
      .ld x86 .val fun x87 =>
      .look (opS Try.prog (.binOp .neq ty_magpielaw11_mach (.tmp 0) (.const .nilIface) ty_magpielaw11_mach) ty_bool [x87]) (.one (.leaf .bool)) fun x88 =>
      bif x88 then (
        .look (opS Try.prog (.indexAddr ty_a5_magpielaw11_mach (.tmp 0) (.tmp 1)) ty_unit [(.pointer (some x13)), (.int .i64 x66)]) (.one (.leaf .addr)) fun x90 =>
        .ld x90 .val fun x91 =>
        .act (opS Try.prog (.call { callee := .invoke (.tmp 0) "Step", args := #[(.tmp 1)], argTypes := #[ty_p_arena_Arena] }) ty_bool [x91, (.pointer x46)]) (.one (.leaf .bool)) fun x93 =>
        bif x93 then (
          .look (opS Try.prog (.indexAddr ty_a5_p_slab_Alloc (.tmp 0) (.tmp 1)) ty_unit [(.pointer (some x14)), (.int .i64 x66)]) (.one (.leaf .addr)) fun x95 =>
          .ld x95 .ptr fun x96 =>
          .look (opS Try.prog (.binOp .neq ty_p_slab_Alloc (.tmp 0) (.const (.pointer none)) ty_p_slab_Alloc) ty_bool [(.pointer x96)]) (.one (.leaf .bool)) fun x97 =>
          bif x97 then (
            .look (opS Try.prog (.indexAddr ty_a5_p_slab_Alloc (.tmp 0) (.tmp 1)) ty_unit [(.pointer (some x14)), (.int .i64 x66)]) (.one (.leaf .addr)) fun x100 =>
            .ld x100 .ptr fun x101 =>
            .call f_slab_Alloc_Handle [(.pointer x101)] (.tup [(.leaf (.int .i64)), (.leaf .bool)]) fun x102 =>
            bif x102.2.1 then (
              .look (opS Try.prog (.indexAddr ty_a5_s_int (.tmp 0) (.tmp 1)) ty_unit [(.pointer (some x12)), (.int .i64 x66)]) (.one (.leaf .addr)) fun x108 =>
              .ld x108 .slice fun x109 =>
              .newS (.cells #[(.int .i64 x102.1)] ty_int) 1 fun x111 =>
              .act (opS Try.prog (.call { callee := .builtin .append, args := #[(.tmp 0), (.tmp 1)], argTypes := #[ty_s_int, ty_s_int] }) ty_s_int [(.slice x109.a x109.len x109.cap), (.slice x111.a x111.len x111.cap)]) (.one (.leaf .slice)) fun x112 =>
              .look (opS Try.prog (.indexAddr ty_a5_s_int (.tmp 0) (.tmp 1)) ty_unit [(.pointer (some x12)), (.int .i64 x66)]) (.one (.leaf .addr)) fun x113 =>
              .st x113 (.slice x112.a x112.len x112.cap) <|
              .look (opS Try.prog (.indexAddr ty_a5_s_int (.tmp 0) (.tmp 1)) ty_unit [(.pointer (some x12)), (.int .i64 x66)]) (.one (.leaf .addr)) fun x119 =>
              .ld x119 .slice fun x120 =>
              .call f_arena_Arena_Store [(.pointer x46), (.int .i64 x102.1), (.int .i64 7), (.int .i64 (w64 ((w64 (1000 * x66)) + ((x120.len : Nat) : Int))))] .unit fun _ =>
              t_magpielaw11_SlabMixes_J4 x36 x9 x46 x13 x14 y1 x66 x68)
            else (
              t_magpielaw11_SlabMixes_J4 x36 x9 x46 x13 x14 y1 x66 x68))
          else (
            t_magpielaw11_SlabMixes_J4 x36 x9 x46 x13 x14 y1 x66 x68))
        else (
          t_magpielaw11_SlabMixes_J3 x36 x9 x46 y1 x68))
      else (
        .look (opS Try.prog (.binOp .quo ty_int (.tmp 0) (.tmp 1) ty_int) ty_int [(.int .i64 x63), (.int .i64 (w64 (1 + x33)))]) (.one (.leaf (.int .i64))) fun x131 =>
        bif (((Int.tmod x131 3) : Int) == 0) then (
          .look (opS Try.prog (.indexAddr ty_a5_s_int (.tmp 0) (.tmp 1)) ty_unit [(.pointer (some x12)), (.int .i64 x66)]) (.one (.leaf .addr)) fun x136 =>
          .ld x136 .slice fun x137 =>
          bif (decide ((((x137.len : Nat) : Int) : Int) > 0)) then (
            .look (opS Try.prog (.indexAddr ty_a5_s_int (.tmp 0) (.tmp 1)) ty_unit [(.pointer (some x12)), (.int .i64 x66)]) (.one (.leaf .addr)) fun x142 =>
            .ld x142 .slice fun x143 =>
            .look (opS Try.prog (.indexAddr ty_s_int (.tmp 0) (.const (.int .i64 0))) ty_unit [(.slice x143.a x143.len x143.cap)]) (.one (.leaf .addr)) fun x144 =>
            .ld x144 (.int .i64) fun x145 =>
            .look (opS Try.prog (.indexAddr ty_a5_s_int (.tmp 0) (.tmp 1)) ty_unit [(.pointer (some x12)), (.int .i64 x66)]) (.one (.leaf .addr)) fun x148 =>
            .ld x148 .slice fun x149 =>
            .look (opS Try.prog (.slice ty_s_int (.tmp 0) (some (.const (.int .i64 1))) none none) ty_s_int [(.slice x149.a x149.len x149.cap)]) (.one (.leaf .slice)) fun x150 =>
            .look (opS Try.prog (.indexAddr ty_a5_s_int (.tmp 0) (.tmp 1)) ty_unit [(.pointer (some x12)), (.int .i64 x66)]) (.one (.leaf .addr)) fun x151 =>
            .st x151 (.slice x150.a x150.len x150.cap) <|
            .call f_arena_Arena_Retire [(.pointer x46), (.int .i64 x145)] (.one (.leaf .bool)) fun x154 =>
            bif (!x154) then (
              .ret (.bool false))
            else (
              .ldA x9 [(.int .i64), (.int .i64), (.int .i64), (.int .i64), (.int .i64)] fun x157 =>
              .call f_slab_NewFree [(.agg #[(.int .i64 x157.1), (.int .i64 x157.2.1), (.int .i64 x157.2.2.1), (.int .i64 x157.2.2.2.1), (.int .i64 x157.2.2.2.2.1)]), (.int .i64 x66), (.int .i64 x145)] (.one (.leaf .ptr)) fun x160 =>
              .look (opS Try.prog (.indexAddr ty_a5_magpielaw11_mach (.tmp 0) (.tmp 1)) ty_unit [(.pointer (some x13)), (.int .i64 x66)]) (.one (.leaf .addr)) fun x162 =>
              .st x162 (.iface ty_p_slab_Free (.pointer x160)) <|
              t_magpielaw11_SlabMixes_J3 x36 x9 x46 y1 x68))
          else (
            .ldA x9 [(.int .i64), (.int .i64), (.int .i64), (.int .i64), (.int .i64)] fun x69 =>
            .look (opS Try.prog (.binOp .quo ty_int (.tmp 0) (.tmp 1) ty_int) ty_int [(.int .i64 x63), (.int .i64 (w64 (1 + x33)))]) (.one (.leaf (.int .i64))) fun x73 =>
            .call f_slab_NewAlloc [(.agg #[(.int .i64 x69.1), (.int .i64 x69.2.1), (.int .i64 x69.2.2.1), (.int .i64 x69.2.2.2.1), (.int .i64 x69.2.2.2.2.1)]), (.int .i64 x66), (.int .i64 (Int.tmod (w64 (Int.tdiv x73 3)) 3))] (.one (.leaf .ptr)) fun x76 =>
            t_magpielaw11_SlabMixes_J11 x36 x9 x46 x13 x14 y1 x66 x68 x76))
        else (
          .ldA x9 [(.int .i64), (.int .i64), (.int .i64), (.int .i64), (.int .i64)] fun x69 =>
          .look (opS Try.prog (.binOp .quo ty_int (.tmp 0) (.tmp 1) ty_int) ty_int [(.int .i64 x63), (.int .i64 (w64 (1 + x33)))]) (.one (.leaf (.int .i64))) fun x73 =>
          .call f_slab_NewAlloc [(.agg #[(.int .i64 x69.1), (.int .i64 x69.2.1), (.int .i64 x69.2.2.1), (.int .i64 x69.2.2.2.1), (.int .i64 x69.2.2.2.2.1)]), (.int .i64 x66), (.int .i64 (Int.tmod (w64 (Int.tdiv x73 3)) 3))] (.one (.leaf .ptr)) fun x76 =>
          t_magpielaw11_SlabMixes_J11 x36 x9 x46 x13 x14 y1 x66 x68 x76)))
    else (
      .loop 2433 t_magpielaw11_SlabMixes_L2_sh [(.bool y1.1), (.int .i64 0), (.int .i64 0)] (t_magpielaw11_SlabMixes_L2 x33 x46 x12)))
  else (
    .loop 2433 t_magpielaw11_SlabMixes_L2_sh [(.bool y1.1), (.int .i64 0), (.int .i64 0)] (t_magpielaw11_SlabMixes_L2 x33 x46 x12))
noncomputable def t_magpielaw11_SlabMixes (p0 : Int) (p1 : Int) (p2 : Sl) : Tree :=
  .qcall f_magpielaw00_Place [(.int .i64 p0), (.int .i64 5)] (.one (.leaf (.int .i64))) fun x33 =>
  .qcall f_magpielaw00_Place [(.int .i64 p1), (.int .i64 30)] (.one (.leaf (.int .i64))) fun x36 =>
  .call f_free_Raw [(.int .i64 (w64 (1 + x33))), (.int .i64 (w64 (8 * x36)))] (.tup [(.agg [(.int .i64), (.int .i64), (.int .i64), (.int .i64), (.int .i64)]), (.leaf (.int .i64))]) fun x41 =>
  .newP (.cells #[(.int .i64 0), (.int .i64 0), (.int .i64 0), (.int .i64 0), (.int .i64 0)] ty_free_Place) fun x9 =>
  .stA x9 [(.int .i64 x41.1.1), (.int .i64 x41.1.2.1), (.int .i64 x41.1.2.2.1), (.int .i64 x41.1.2.2.2.1), (.int .i64 x41.1.2.2.2.2.1)] <|
  .call f_arena_New [(.int .i64 x41.2.1), (.int .i64 (w64 (8 * x36))), (.bool false)] (.one (.leaf .ptr)) fun x46 =>
  .look (opS Try.prog (.binOp .eql ty_p_arena_Arena (.tmp 0) (.const (.pointer none)) ty_p_arena_Arena) ty_bool [(.pointer x46)]) (.one (.leaf .bool)) fun x48 =>
  bif x48 then (
    .ret (.bool false))
  else (
    .newP (.cells #[(.slice none 0 0), (.slice none 0 0), (.slice none 0 0), (.slice none 0 0), (.slice none 0 0)] ty_a5_s_int) fun x12 =>
    .newP (.cells #[.nilIface, .nilIface, .nilIface, .nilIface, .nilIface] ty_a5_magpielaw11_mach) fun x13 =>
    .newP (.cells #[(.pointer none), (.pointer none), (.pointer none), (.pointer none), (.pointer none)] ty_a5_p_slab_Alloc) fun x14 =>
    .loop 640 t_magpielaw11_SlabMixes_L1_sh [(.bool false), (.int .i64 0)] (t_magpielaw11_SlabMixes_L1 p2 x33 x36 x9 x46 x12 x13 x14))
theorem t_magpielaw11_SlabMixes_eq (p0 : Int) (p1 : Int) (p2 : Sl) : funcTree Try.prog { quiet := [16, 22, 23, 34, 35, 48, 49, 53, 57, 58, 59, 62, 105], quietTmp := true, fncs := [], ifcs := [] } Try.f6 [(.int .i64 p0), (.int .i64 p1), (.slice p2.a p2.len p2.cap)] = t_magpielaw11_SlabMixes p0 p1 p2 := by kernel_rfl
theorem t_magpielaw11_SlabMixes_spec {p0 : Int} {p1 : Int} {p2 : Sl} {H : Heap} {R : Value → Heap → Prop} (h : ∀ L, wp Try.prog (t_magpielaw11_SlabMixes p0 p1 p2) L H R) : SpecF Try.prog f_magpielaw11_SlabMixes #[(.int .i64 p0), (.int .i64 p1), (.slice p2.a p2.len p2.cap)] H R :=
  spec_of_tree (cfg := { quiet := [16, 22, 23, 34, 35, 48, 49, 53, 57, 58, 59, 62, 105], quietTmp := true, fncs := [], ifcs := [] }) Try.func6 fun L => (t_magpielaw11_SlabMixes_eq p0 p1 p2).symm ▸ h L

end Go.Proofs.Ytfphgiipekkgdaa

set_option linter.unusedVariables false
set_option linter.unusedSimpArgs false
set_option maxRecDepth 20000
namespace Go.Proofs.Ytfphgiipekkgdaa
open Go Go.Fw

def plCells (p : Pl) : List Value := [.int .i64 p.work, .int .i64 p.heads, .int .i64 p.links, .int .i64 p.gens, .int .i64 p.carved]
theorem ea_some (a : Addr) : opS Try.prog (.binOp .eql ty_p_slab_Alloc (.tmp 0) (.const (.pointer none)) ty_p_slab_Alloc) ty_bool [(.pointer (some a))] = .pure (.value (.bool false)) := by kernel_rfl
theorem bne0 {x : Int} (h : x ≠ 0) : ((x : Int) != 0) = true := bne_iff_ne.2 h

section
variable {L : Hands} {R : Value → Heap → Prop} {H : Heap}

/-- Places, and an arena for them. -/
theorem w_places {w m : Int} {k : Option Addr → Addr → Tree} (wb : 1 ≤ w ∧ w ≤ 100) (mb : 0 ≤ m ∧ m ≤ 60000)
    (h : ∀ (A : Ar) (b : Nat), Aw A.ids A → (∀ x ∈ A.ids, H x = none) → Ok A.ids H (keys [(b, oc ty_free_Place (plCells (plOf w m)))]) → SL A (plOf w m) w m ⟨fun _ => [], 0, fun _ => 0, fun _ => -1, 0⟩ → A.fault = false → A.uses = 0 → A.nL = 0 → A.nR = 0 →
      wp Try.prog (k (aI A.ids) ⟨b, 0, none⟩) L (own A [(b, oc ty_free_Place (plCells (plOf w m)))] H) R) :
    wp Try.prog (.call f_free_Raw [(.int .i64 w), (.int .i64 m)] (.tup [(.agg [(.int .i64), (.int .i64), (.int .i64), (.int .i64), (.int .i64)]), (.leaf (.int .i64))]) fun x12 =>
      .newP (.cells #[(.int .i64 0), (.int .i64 0), (.int .i64 0), (.int .i64 0), (.int .i64 0)] ty_free_Place) fun x1 =>
      .stA x1 [(.int .i64 x12.1.1), (.int .i64 x12.1.2.1), (.int .i64 x12.1.2.2.1), (.int .i64 x12.1.2.2.2.1), (.int .i64 x12.1.2.2.2.2.1)] <|
      .call f_arena_New [(.int .i64 x12.2.1), (.int .i64 m), (.bool false)] (.one (.leaf .ptr)) fun x16 => k x16 x1) L H R := by
  refine w_Raw5 ⟨by omega, by omega⟩ ⟨by omega, by omega⟩ ?_
  have ok0 : Ok0 H (keys []) := ⟨.nil, fun b h => (by cases h)⟩
  refine p_newP (l := []) ok0 fun b ok0 => ?_
  refine p_stA 0 ok0 rfl rfl rfl rfl ?_
  dsimp only
  refine w_New (l := [(b, oc ty_free_Place (plCells (plOf w m)))]) ok0 ⟨by omega, by omega⟩ ⟨by omega, by omega⟩ fun A hm hA hI ok => ?_
  refine h A b hA hI ok (SL.made hm ?_ wb mb) hm.fault hm.uses hm.nL hm.nR
  show 4 * w + 2 * ((m + 7) / 8) < _
  omega

theorem awake11_det (H : Heap) : Det Try.prog f_magpielaw11_awake [] H (.bool true) H := by
  refine t_magpielaw11_awake_spec fun L => ?_
  unfold t_magpielaw11_awake
  refine w_places (w := 1) (m := 64) (by decide) (by decide) fun A b hA hI ok X fa us nl nr => ?_
  refine w_ldA 0 hA ok rfl rfl rfl ?_
  refine w_NewAlloc (p := plOf 1 64) hA ok (by decide) fun j okj => ?_
  refine look_val (x := false) (np_some _) (wp_false rfl ?_)
  refine look_val (x := false) (ea_some _) (wp_false rfl ?_)
  obtain ⟨n, x', A', S', Z⟩ := alloc_solo X hA.wf (by rw [us]; decide) (who := 0) (c := 0) (by decide) (by decide)
  have nn := Z.nn
  refine w_run11 mAl_ok mAl_inv Z.run (by omega) (j := j) hA okj fun j' ha hA' ok' => ?_
  refine wp_false rfl ?_
  obtain ⟨q, q0, q1⟩ := j'
  have ha : q = j.1 := ha
  subst ha
  refine w_Handle 0 (x := x') hA' ok' rfl ?_
  refine wq_Open ?_
  obtain ⟨k, b', l, h1, _⟩ | ⟨h1, h2, h3, h4⟩ | ⟨h1, h2, _⟩ := Z.gives.or
  · cases h1
  · obtain ⟨o1, o2, o3, o4, o5⟩ := carve_name X (c := 0) (by decide) h2
    dsimp only at h4 o1 o2 o3 o4 o5
    rw [← h4] at o1 o2 o3 o4 o5
    rw [bne0 o5, o1, o2, o3, o4]
    refine wp_true rfl (wp_true rfl (wp_true rfl (wp_true rfl (wp_true rfl ?_))))
    refine w_State hA' ?_
    have st := Z.st x'.h
    rw [if_pos ⟨o5, rfl⟩] at st
    rw [st]
    refine wp_true rfl ?_
    refine w_ld 3 hA' ok' rfl rfl rfl ?_
    refine w_Raw hA' fun hA2 => ?_
    have cv := Z.sl.cvr
    rw [h3] at cv
    rw [cv]
    exact ⟨H, own_end hA2 ok' hI, rfl, rfl⟩
  · exact (h2 (by decide)).elim
end
end Go.Proofs.Ytfphgiipekkgdaa

set_option linter.unusedVariables false
set_option linter.unusedSimpArgs false
set_option maxRecDepth 20000
namespace Go.Proofs.Ytfphgiipekkgdaa
open Go Go.Fw

theorem mAd_inv (p : Pl) (w c : Int) : (mAd p w c).inv' ty_p_slab_Alloc := fun q p => by
  show opS _ _ _ _ = .pure (.enter f_slab_Alloc_Step [.pointer (some ⟨q, 0, none⟩), .pointer p].toArray)
  kernel_rfl

section
variable {L : Hands} {R : Value → Heap → Prop} {H : Heap} {I : List Nat} {A : Ar} {l : Bl} {G : Heap}

theorem w_NewDead {p : Pl} {w c : Int} {k : Option Addr → Tree} (hA : Aw I A) (ok : Ok I G (keys l)) (hc : sizeF c = 0) (h : ∀ q : Nat, Ok I G (keys ([(q, oc ty_slab_Alloc (deadCells p w c))] ++ l)) → wp Try.prog (k (some ⟨q, 0, none⟩)) L (own A ([(q, oc ty_slab_Alloc (deadCells p w c))] ++ l) G) R) :
    wp Try.prog (.call f_slab_NewAlloc [p.val, .int .i64 w, .int .i64 c] (.one (.leaf .ptr)) k) L (own A l G) R := w_make (J := Nat) (bl := fun q => [(q, oc ty_slab_Alloc (deadCells p w c))]) (val := fun q => some ⟨q, 0, none⟩) (fun G => NewAlloc_dead p w c hA hc G) ok h
theorem w_HandleDead {q : Nat} {p : Pl} {w c : Int} {k : HL Sh1.T [(.leaf (.int .i64)), (.leaf .bool)] → Tree} (hA : Aw I A) (ok : Ok I G (keys ((q, oc ty_slab_Alloc (deadCells p w c)) :: l)))
    (h : wp Try.prog (k (0, false, ())) L (own A ((q, oc ty_slab_Alloc (deadCells p w c)) :: l) G) R) :
    wp Try.prog (.call f_slab_Alloc_Handle [.pointer (some ⟨q, 0, none⟩)] (.tup [(.leaf (.int .i64)), (.leaf .bool)]) k) L (own A ((q, oc ty_slab_Alloc (deadCells p w c)) :: l) G) R := by
  refine wp_call_det (x := (0, false, ())) (H' := own A ((q, oc ty_slab_Alloc (deadCells p w c)) :: l) G) ?_ h
  refine t_slab_Alloc_Handle_spec fun L => ?_
  unfold t_slab_Alloc_Handle
  refine wp_nil.2 (w_ld 0 hA ok rfl rfl rfl (wp_nil.2 (w_ld 0 hA ok rfl rfl rfl ?_)))
  exact wp_ret_of ⟨rfl, rfl⟩

/-- Slots that were made, one behind the other. -/
structure SF (I : List Nat) (H : Heap) (b : Nat) (m used n : Int) (A : Ar) (S : Sg) (tl : Bl) : Prop where
  aw : Aw I A
  ok : Ok I H (keys ([(b, oc ty_free_Place (plCells (plOf 1 m)))] ++ tl))
  sl : SL A (plOf 1 m) 1 m S
  ch : ∀ k, S.ch k = []
  cv : S.cv = used
  nc : S.nc = used
  nL : A.nL = used
  us : A.uses ≤ 20 * n
  un : 0 ≤ used ∧ used ≤ 64 * n

theorem SlabFull_det (p0 : Int) (s : Sl) (zs : List Int) (H : Heap) (hz : RowOf H s.a s.len zs) : Det Try.prog f_magpielaw11_SlabFull [.int .i64 p0, .slice s.a s.len s.cap] H (.bool true) H := by
  refine t_magpielaw11_SlabFull_spec (p0 := p0) (p1 := s) fun L => ?_
  unfold t_magpielaw11_SlabFull
  refine w_Place (by omega) (by omega) ?_
  have m0 := Int.emod_nonneg p0 (b := 400) (by omega)
  have m1 := Int.emod_lt_of_pos p0 (b := 400) (by omega)
  generalize p0 % 400 = m at *
  refine w_places (w := 1) (m := m) (by decide) ⟨m0, by omega⟩ fun A b hA hI ok X fa us nl nr => ?_
  refine look_val (x := false) (np_some _) (wp_false rfl ?_)
  -- the end
  have tail : ∀ {L : Hands} {q : Bool} {used n : Int} {A' : Ar} {S : Sg} {tl : Bl}, 0 ≤ n → n ≤ 60 → SF A.ids H b m used n A' S tl → wp Try.prog (.ldA ⟨b, 0, none⟩ [(.int .i64), (.int .i64), (.int .i64), (.int .i64), (.int .i64)] fun x102 =>
    .call f_slab_NewAlloc [(.agg #[(.int .i64 x102.1), (.int .i64 x102.2.1), (.int .i64 x102.2.2.1), (.int .i64 x102.2.2.2.1), (.int .i64 x102.2.2.2.2.1)]), (.int .i64 0), (.int .i64 7)] (.one (.leaf .ptr)) fun x103 =>
    t_magpielaw11_SlabFull_J7 (aI A.ids) (q, used, n, ()) x103) L (own A' ([(b, oc ty_free_Place (plCells (plOf 1 m)))] ++ tl) H) (fun u K => u = .bool true ∧ K = H) := by
    intro L q used n A' S tl n0 n1 F
    obtain ⟨hA', ok', X', ch, cv, nc, nL, us', un⟩ := F
    have us0 := X'.F.us
    refine w_ldA 0 hA' ok' rfl rfl rfl ?_
    refine w_NewDead (p := plOf 1 m) hA' ok' (by decide) fun q okq => ?_
    unfold t_magpielaw11_SlabFull_J7
    refine look_val (x := false) (ea_some _) (wp_false rfl ?_)
    have run : (mAd (plOf 1 m) 0 7).Runs 1 () A' () A' := Mch.Runs.last (X := mAd (plOf 1 m) 0 7) (m := ()) (A := A') (m1 := ()) (A1 := A') trivial rfl (by rw [w64_in (by omega) (by omega)]; omega) rfl
    refine w_run11 (mAd_ok _ _ _) (mAd_inv _ _ _) run (by omega) (j := q) hA' okq fun j' ha hA2 ok2 => ?_
    have ha : j' = q := ha
    subst ha
    refine wp_false rfl ?_
    refine w_HandleDead (p := plOf 1 m) (w := 0) (c := 7) hA2 ok2 ?_
    refine wp_true rfl ?_
    refine w_Count hA2 ?_
    refine wp_true (ibeq nL) ?_
    refine w_Count hA2 ?_
    refine wp_true (ibeq (by show A'.nC = used; rw [X'.cnt.1, nc])) ?_
    refine wp_call_det (awake11_det _) ?_
    exact ⟨H, own_end hA2 ok2 hI, rfl, rfl⟩
  refine wl_bii (fun _ used n K => 0 ≤ n ∧ n ≤ 60 ∧ ∃ A' S tl, SF A.ids H b m used n A' S tl ∧ K = own A' ([(b, oc ty_free_Place (plCells (plOf 1 m)))] ++ tl) H) (fun _ _ n => (60 - n).toNat) false 0 0
    ⟨by omega, by omega, A, _, [], ⟨hA, ok, X, fun _ => rfl, rfl, rfl, nl, by rw [us]; omega, by omega⟩, rfl⟩ ?_
  rintro q used n K ⟨n0, n1, A', S, tl, F, rfl⟩
  rw [t_magpielaw11_SlabFull_L1]
  by_cases c1 : n < ((s.len : Nat) : Int)
  case neg => exact wp_false (decide_eq_false c1) (tail n0 n1 F)
  refine wp_true (decide_eq_true c1) ?_
  by_cases c2 : n < 60
  case neg => exact wp_false (decide_eq_false c2) (tail n0 n1 F)
  refine wp_true (decide_eq_true c2) ?_
  obtain ⟨hA', ok', X', ch, cv, nc, nL, us', un⟩ := F
  refine wp_row hz (own_end hA' ok' hI) n0 c1 ?_
  refine w_Place (by omega) (by omega) ?_
  have c0 := Int.emod_nonneg (zs.getD n.toNat 0) (b := 4) (by omega)
  have c4 := Int.emod_lt_of_pos (zs.getD n.toNat 0) (b := 4) (by omega)
  generalize zs.getD n.toNat 0 % 4 = c at *
  have sz := sz_pos c0 c4
  refine w_ldA 0 hA' ok' rfl rfl rfl ?_
  refine w_NewAlloc (p := plOf 1 m) hA' ok' (by omega) fun j okj => ?_
  refine look_val (x := false) (ea_some _) (wp_false rfl ?_)
  obtain ⟨k, x', A2, S', Z⟩ := alloc_solo X' hA'.wf (by omega) (who := 0) (c := c) (by decide) ⟨c0, c4⟩
  have nn := Z.nn
  refine w_run11 mAl_ok mAl_inv Z.run (by omega) (j := j) hA' okj fun j' ha hA2 ok2 => ?_
  refine wp_false rfl ?_
  obtain ⟨q', q0, q1⟩ := j'
  have ha : q' = j.1 := ha
  subst ha
  refine w_Handle 0 (x := x') hA2 ok2 rfl ?_
  refine wq_Open (wq_Size ?_)
  have ew : w64 (used + sizeF c) = used + sizeF c := w64_in (by omega) (by omega)
  have en : w64 (n + 1) = n + 1 := w64_in (by omega) (by omega)
  have off := Z.off.us
  obtain ⟨m1', m2'⟩ := own_rot (A := A2) (a := mAl.bl x' (j.1, q0, q1)) (b := [(b, oc ty_free_Place (plCells (plOf 1 m)))]) (c := tl) ok2
  show wp Try.prog _ _ (own A2 (mAl.bl x' (j.1, q0, q1) ++ ([(b, oc ty_free_Place (plCells (plOf 1 m)))] ++ tl)) H) _
  rw [m1']
  have nLz := Z.nL
  rw [ew]
  obtain ⟨k', b', l, h1, h2, _⟩ | ⟨h1, h2, h3, h4⟩ | ⟨h1, h2, h3, h4⟩ := Z.gives.or
  · rw [ask_nil ch] at h1; cases h1
  · obtain ⟨o1, o2, o3, o4, o5⟩ := carve_name X' ⟨c0, c4⟩ h2
    rw [← h4] at o1 o2 o3 o4 o5
    rw [bne0 o5, decide_eq_true (by omega), o1]
    rw [if_pos o5] at nLz
    refine wp_false rfl (wp_true rfl (wp_false (ibnf cv) (wp_false rfl ?_)))
    unfold t_magpielaw11_SlabFull_J0
    refine wp_true rfl (wq_Size ?_)
    rw [ew, en]
    refine wp_again ⟨q, used + sizeF c, n + 1, rfl, ⟨by omega, by omega, A2, S', _, ⟨hA2, m2', Z.sl, ?_, ?_, ?_, ?_, by omega, by omega⟩, rfl⟩, by omega⟩
    · rw [h3]; exact ch
    · rw [h3]; show S.cv + _ = _; rw [cv]
    · rw [h3]; show S.nc + _ = _; rw [nc]
    · rw [nLz, nL]
  · rw [h4] at nLz ⊢
    rw [show ((0 : Int) != 0) = false from rfl, decide_eq_false (by omega)]
    rw [if_neg (fun h => h rfl)] at nLz
    refine wp_false rfl (wp_false rfl (wp_true rfl (wp_false rfl ?_)))
    unfold t_magpielaw11_SlabFull_J0
    refine wp_false rfl ?_
    rw [en]
    refine wp_again ⟨q, used, n + 1, rfl, ⟨by omega, by omega, A2, S', _, ⟨hA2, m2', Z.sl, ?_, ?_, ?_, ?_, by omega, by omega⟩, rfl⟩, by omega⟩
    · rw [h3]; exact ch
    · rw [h3]; exact cv
    · rw [h3]; exact nc
    · rw [nLz, nL, Int.add_zero]
end
end Go.Proofs.Ytfphgiipekkgdaa

set_option linter.unusedVariables false
set_option linter.unusedSimpArgs false
set_option maxRecDepth 20000
namespace Go.Proofs.Ytfphgiipekkgdaa
open Go Go.Fw

section
variable {A : Ar} {p : Pl} {w m : Int} {S : Sg} {c : Int}

theorem ask_none_at {a : Int} : ∀ (f : Nat) (j : Int), S.ask w a c f j = none → ∀ i, j ≤ i → i < j + f → S.ch (4 * ((a + i) % w) + c) = []
  | 0, j, _, i, h0, h1 => by omega
  | f + 1, j, h, i, h0, h1 => by
    unfold Sg.ask at h
    split at h
    · rename_i he
      by_cases e : i = j
      · rw [e]; exact he
      · exact ask_none_at f (j + 1) h i (by omega) (by omega)
    · cases h

/-- Nothing is asked for in vain. -/
theorem ask_none_all {a v : Int} (ha : 0 ≤ a ∧ a < w) (h : S.ask w a c w.toNat 0 = none) (hv : 0 ≤ v ∧ v < w) : S.ch (4 * v + c) = [] := by
  by_cases hl : a ≤ v
  · have := ask_none_at w.toNat 0 h (v - a) (by omega) (by omega)
    rw [show a + (v - a) = v by omega, Int.emod_eq_of_lt hv.1 hv.2] at this
    exact this
  · have := ask_none_at w.toNat 0 h (v - a + w) (by omega) (by omega)
    rw [show a + (v - a + w) = v + w by omega, show v + w = v + w * 1 by omega, Int.add_mul_emod_self_left, Int.emod_eq_of_lt hv.1 hv.2] at this
    exact this

theorem ask_some_at {a k : Int} (hw : 0 < w) : ∀ (f : Nat) (j : Int), S.ask w a c f j = some k → S.ch k ≠ [] ∧ ∃ i, j ≤ i ∧ i < j + f ∧ k = 4 * ((a + i) % w) + c ∧ ∀ i', j ≤ i' → i' < i → S.ch (4 * ((a + i') % w) + c) = []
  | 0, j, h => by cases h
  | f + 1, j, h => by
    unfold Sg.ask at h
    split at h
    · rename_i he
      obtain ⟨h1, i, h2, h3, h4, h5⟩ := ask_some_at hw f (j + 1) h
      refine ⟨h1, i, by omega, by omega, h4, fun i' a0 a1 => ?_⟩
      by_cases e : i' = j
      · rw [e]; exact he
      · exact h5 i' (by omega) a1
    · rename_i he
      cases h
      exact ⟨he, j, by omega, by omega, rfl, fun i' a0 a1 => by omega⟩

/-- The own list is asked first. -/
theorem ask_own {a k : Int} (ha : 0 ≤ a ∧ a < w) (h : S.ask w a c w.toNat 0 = some k) (ho : S.ch (4 * a + c) ≠ []) : k = 4 * a + c := by
  obtain ⟨h1, i, h2, h3, h4, h5⟩ := ask_some_at (by omega) w.toNat 0 h
  by_cases e : i = 0
  · rw [h4, e, Int.add_zero, Int.emod_eq_of_lt ha.1 ha.2]
  · have := h5 0 (by omega) (by omega)
    rw [Int.add_zero, Int.emod_eq_of_lt ha.1 ha.2] at this
    exact (ho this).elim
end

/-- One slot, that goes from hand to hand. -/
structure SA (I : List Nat) (H : Heap) (b : Nat) (w who c i : Int) (A : Ar) (S : Sg) (tl : Bl) : Prop where
  aw : Aw I A
  ok : Ok I H (keys ([(b, oc ty_free_Place (plCells (plOf w 64)))] ++ tl))
  sl : SL A (plOf w 64) w 64 S
  ch : ∀ k, S.ch k = if i ≠ 1 ∧ k = 4 * who + c then [0] else []
  cv : S.cv = if i = 1 then 0 else sizeF c
  gn : S.gn 0 = i - 1
  fa : A.fault = false
  nR : A.nR = 0
  nL : -(64 * A.uses) ≤ A.nL
  us : A.uses ≤ 20 * i

theorem SlabAgain_det (p0 p1 p2 p3 p4 : Int) (H : Heap) : Det Try.prog f_magpielaw11_SlabAgain [.int .i64 p0, .int .i64 p1, .int .i64 p2, .int .i64 p3, .int .i64 p4] H (.bool true) H := by
  refine t_magpielaw11_SlabAgain_spec (p0 := p0) (p1 := p1) (p2 := p2) (p3 := p3) (p4 := p4) fun L => ?_
  unfold t_magpielaw11_SlabAgain
  refine w_Place (by omega) (by omega) (w_Place (by omega) (by omega) ?_)
  have x0 := Int.emod_nonneg p0 (b := 4) (by omega)
  have x1 := Int.emod_lt_of_pos p0 (b := 4) (by omega)
  have c0 := Int.emod_nonneg p3 (b := 4) (by omega)
  have c1 := Int.emod_lt_of_pos p3 (b := 4) (by omega)
  generalize p0 % 4 = x at *
  generalize p3 % 4 = c at *
  have sz := sz_pos c0 c1
  have ew : w64 (2 + x) = 2 + x := w64_in (by omega) (by omega)
  rw [ew]
  refine w_places (w := 2 + x) (m := 64) (by omega) (by decide) fun A b hA hI ok X fa us nl nr => ?_
  refine look_val (x := false) (np_some _) (wp_false rfl ?_)
  refine w_Place (by omega) (by omega) ?_
  have a0 := Int.emod_nonneg p1 (b := 2 + x) (by omega)
  have a1 := Int.emod_lt_of_pos p1 (b := 2 + x) (by omega)
  generalize p1 % (2 + x) = who at *
  refine wl_bi (fun _ i K => 1 ≤ i ∧ i ≤ 12 ∧ (i = 1 ∨ 2 ≤ i) ∧ ∃ A' S tl, SA A.ids H b (2 + x) who c i A' S tl ∧ K = own A' ([(b, oc ty_free_Place (plCells (plOf (2 + x) 64)))] ++ tl) H) (fun _ i => (12 - i).toNat) false 1
    ⟨by omega, by omega, .inl rfl, A, _, [], ⟨hA, ok, X, fun k => by rw [if_neg (fun h => h.1 rfl)], rfl, rfl, fa, nr, by rw [us, nl]; decide, by rw [us]; omega⟩, rfl⟩ ?_
  rintro q i K ⟨i0, i1, i2, A', S, tl, F, rfl⟩
  rw [t_magpielaw11_SlabAgain_L1]
  obtain ⟨hA', ok', X', ch, cv, gn, fa', nR, nL, us'⟩ := F
  have us0 := X'.F.us
  refine w_Place (by omega) (by omega) ?_
  have t0 := Int.emod_nonneg p4 (b := 10) (by omega)
  have t1 := Int.emod_lt_of_pos p4 (b := 10) (by omega)
  have et : w64 (1 + p4 % 10) = 1 + p4 % 10 := w64_in (by omega) (by omega)
  have eh : headF (plOf (2 + x) 64) who c = 4 * who + c := headF_eq rfl ⟨a0, by omega⟩ ⟨c0, c1⟩
  rw [et]
  by_cases hi : i ≤ 1 + p4 % 10
  · refine wp_true (decide_eq_true hi) ?_
    refine w_ldA 0 hA' ok' rfl rfl rfl ?_
    rw [ew]
    refine w_Place (by omega) (by omega) ?_
    have g0 := Int.emod_nonneg p2 (b := 2 + x) (by omega)
    have g1 := Int.emod_lt_of_pos p2 (b := 2 + x) (by omega)
    generalize p2 % (2 + x) = g at *
    have eg : w64 (1 + g) = 1 + g := w64_in (by omega) (by omega)
    have hm : 0 ≤ i * (1 + g) ∧ i * (1 + g) ≤ 1000 := by
      refine ⟨Int.mul_nonneg (by omega) (by omega), ?_⟩
      have h1 : i * (1 + g) ≤ 12 * (1 + g) := Int.mul_le_mul_of_nonneg_right i1 (by omega)
      omega
    have ei : w64 (i * (1 + g)) = i * (1 + g) := w64_in (by omega) (by omega)
    have es : w64 (who + i * (1 + g)) = who + i * (1 + g) := w64_in (by omega) (by omega)
    rw [eg, ei, es]
    have hwx : (2 + x) ≠ 0 := by omega
    refine look_val (x := (who + i * (1 + g)) % (2 + x)) ((opS_rem hwx).trans (by rw [Int.tmod_eq_emod_of_nonneg (by omega)])) ?_
    have d0 := Int.emod_nonneg (who + i * (1 + g)) (b := 2 + x) (by omega)
    have d1 := Int.emod_lt_of_pos (who + i * (1 + g)) (b := 2 + x) (by omega)
    generalize (who + i * (1 + g)) % (2 + x) = d at *
    refine w_NewAlloc (p := plOf (2 + x) 64) hA' ok' (by omega) fun j okj => ?_
    refine look_val (x := false) (ea_some _) (wp_false rfl ?_)
    obtain ⟨k, x', A2, S', Z⟩ := alloc_solo X' hA'.wf (by omega) (who := d) (c := c) ⟨d0, d1⟩ ⟨c0, c1⟩
    have nn := Z.nn
    refine w_run11 mAl_ok mAl_inv Z.run (by omega) (j := j) hA' okj fun j' ha hA2 ok2 => ?_
    refine wp_false rfl ?_
    obtain ⟨q', q0, q1⟩ := j'
    have ha : q' = j.1 := ha
    subst ha
    refine w_Handle 0 (x := x') hA2 ok2 rfl ?_
    refine wq_Open ?_
    -- what was made
    have made : opB x'.h = 0 ∧ opG x'.h = i ∧ opC x'.h = c ∧ openOk x'.h = true ∧ x'.h ≠ 0 ∧ (∀ k, S'.ch k = []) ∧ S'.cv = sizeF c ∧ S'.gn 0 = i := by
      obtain ⟨k', b', l, h1, h2, h3, h4, h5, h6, h7⟩ | ⟨h1, h2, h3, h4⟩ | ⟨h1, h2, h3, h4⟩ := Z.gives.or
      · have hk := ch k'
        rw [h2] at hk
        split at hk
        · rename_i hc
          cases hk
          obtain ⟨o1, o2, o3, o4, o5⟩ := list_name X' (by omega) h2 h5
          rw [← h7] at o1 o2 o3 o4 o5
          rw [gn] at o2
          refine ⟨o1, by omega, o3, o4, o5, fun k2 => ?_, ?_, ?_⟩
          · rw [h6]; show upd S.ch k' [] k2 = []
            unfold upd; split
            · rfl
            · rename_i hne; rw [ch, if_neg (fun h => hne (by omega))]
          · rw [h6]; show S.cv = _; rw [cv, if_neg hc.1]
          · rw [h6]; show updI S.gn 0 (S.gn 0 + 1) 0 = i; unfold updI; rw [if_pos rfl, gn]; omega
        · cases hk
      · have hk := ask_none_all ⟨d0, d1⟩ h1 ⟨a0, a1⟩
        rw [ch] at hk
        split at hk
        · cases hk
        · rename_i hn
          have e1 : i = 1 := by
            by_cases e : i = 1
            · exact e
            · exact (hn ⟨e, rfl⟩).elim
          rw [cv, if_pos e1] at h2 h3 h4
          obtain ⟨o1, o2, o3, o4, o5⟩ := carve_name X' ⟨c0, c1⟩ (by rw [cv, if_pos e1]; exact h2)
          rw [cv, if_pos e1, ← h4] at o1 o2 o3 o4 o5
          refine ⟨o1, by omega, o3, o4, o5, fun k2 => ?_, ?_, ?_⟩
          · rw [h3]; show S.ch k2 = []; rw [ch, if_neg (fun h => h.1 e1)]
          · rw [h3]; show 0 + sizeF c = _; omega
          · rw [h3]; show updI S.gn 0 1 0 = i; unfold updI; rw [if_pos rfl, e1]
      · have hk := ask_none_all ⟨d0, d1⟩ h1 ⟨a0, a1⟩
        rw [ch] at hk
        split at hk
        · cases hk
        · rename_i hn
          have e1 : i = 1 := by
            by_cases e : i = 1
            · exact e
            · exact (hn ⟨e, rfl⟩).elim
          rw [cv, if_pos e1] at h2
          omega
    obtain ⟨o1, o2, o3, o4, o5, hch, hcv, hgn⟩ := made
    rw [bne0 o5, o1, o2, o3, o4]
    refine wp_false rfl (wp_false rfl (wp_false rfl (wp_false (ibnf rfl) (wp_false (ibnf rfl) ?_))))
    have off := Z.off.us
    have nLz := Z.nL
    have nRz := Z.nR
    rw [if_pos o5] at nLz
    have st1 : A2.stF x'.h = 1 := by rw [Z.st, if_pos ⟨o5, rfl⟩]
    obtain ⟨Y, yst, yL, yR⟩ := Z.sl.retire (by omega) st1 ⟨by rw [o3]; omega, by rw [o3]; omega⟩
    refine w_Retire hA2 fun hA3 => ?_
    have tb : A2.turnB x'.h 1 = true := decide_eq_true st1
    rw [tb]
    refine wp_false rfl ?_
    refine w_ldA 3 hA3 ok2 rfl rfl rfl ?_
    obtain ⟨m1', m2'⟩ := own_rot (A := A2.retireF x'.h) (a := mAl.bl x' (j.1, q0, q1)) (b := [(b, oc ty_free_Place (plCells (plOf (2 + x) 64)))]) (c := tl) ok2
    show wp Try.prog _ _ (own (A2.retireF x'.h) (mAl.bl x' (j.1, q0, q1) ++ ([(b, oc ty_free_Place (plCells (plOf (2 + x) 64)))] ++ tl)) H) _
    rw [m1']
    refine w_NewFree (p := plOf (2 + x) 64) hA3 m2' fun jf okf => ?_
    have ru : (A2.retireF x'.h).uses = A2.uses := by have := (Off.retireF (c := 0) hA2.wf x'.h).us; omega
    obtain ⟨xf, A4, W⟩ := free_solo Y hA3.wf (by omega) (who := who) (h := x'.h) ⟨a0, a1⟩ (by rw [yst, if_pos rfl]) (by rw [yR, nRz, ru]; omega)
    refine w_run11 mFe_ok mFe_inv W.run (by omega) (j := jf) hA3 okf fun jf' haf hA4 ok4 => ?_
    refine wp_false rfl ?_
    obtain ⟨n1', n2'⟩ := own_rot (A := A4) (a := mFe.bl xf jf') (b := [(b, oc ty_free_Place (plCells (plOf (2 + x) 64)))]) (c := mAl.bl x' (j.1, q0, q1) ++ tl) ok4
    show wp Try.prog _ _ (own A4 (mFe.bl xf jf' ++ ([(b, oc ty_free_Place (plCells (plOf (2 + x) 64)))] ++ (mAl.bl x' (j.1, q0, q1) ++ tl))) H) _
    rw [n1']
    have en : w64 (i + 1) = i + 1 := w64_in (by omega) (by omega)
    rw [en]
    have offW := W.off.us
    refine wp_again ⟨q, i + 1, rfl, ⟨by omega, by omega, .inr (by omega), A4, _, _, ⟨hA4, n2', W.sl, fun k2 => ?_, ?_, ?_, ?_, ?_, ?_, by omega⟩, rfl⟩, by omega⟩
    · show upd S'.ch (4 * who + opC x'.h) (opB x'.h :: S'.ch (4 * who + opC x'.h)) k2 = _
      rw [o3, o1, hch]
      unfold upd
      by_cases e : k2 = 4 * who + c
      · rw [if_pos e, if_pos ⟨by omega, e⟩]
      · rw [if_neg e, if_neg (fun h => e h.2), hch]
    · show S'.cv = _; rw [hcv, if_neg (by omega)]
    · show S'.gn 0 = _; rw [hgn]; omega
    · rw [W.off.fa, (Off.retireF (c := 0) hA2.wf x'.h).fa, Z.off.fa, fa']
    · rw [W.nR, yR, nRz, o3]; omega
    · rw [W.nL, yL, nLz, o3]; omega
  · refine wp_false (decide_eq_false hi) ?_
    have i3 : 2 ≤ i := by omega
    refine w_ld 0 hA' ok' rfl rfl rfl ?_
    refine w_Raw hA' fun hA2 => ?_
    refine wq_Size ?_
    have cr := X'.cvr
    rw [cv, if_neg (by omega)] at cr
    refine wp_true (ibeq cr) ?_
    obtain ⟨q1', q2', q3', q4', q5'⟩ := X'.places
    have okc : A'.rawOk (plOf (2 + x) 64).carved := ⟨by omega, X'.rl⟩
    rw [touchR_yes okc, tick_uses us0 (by omega)] at hA2 ⊢
    refine w_Fault hA2 ?_
    have f2 : (A'.later 1).fault = false := fa'
    rw [f2]
    refine wp_true rfl ?_
    refine w_ldA 0 hA2 ok' rfl rfl rfl ?_
    have Y := X'.later (n := 1) (by omega)
    have hch : S.ch (4 * who + c) = [0] := by rw [ch, if_pos ⟨by omega, rfl⟩]
    have hcn := Y.F.chn (4 * who + c) (by omega) (by omega)
    refine w_List (p := plOf (2 + x) 64) (xs := [0]) hA2 ok' eh (Y.F.hdOk (by omega) (by omega)) (by rw [mask17, ← hch]; rw [q2']; exact hcn) (by decide) (by rw [q2']; omega) (by show 0 ≤ A'.uses + 1 ∧ A'.uses + 1 ≤ _; omega) fun s tl2 hs ok3 hA3 => ?_
    have hl : s.len = 1 := hs.len
    refine wp_true (ibeq (by rw [hl]; rfl)) ?_
    refine wp_call_det (awake11_det _) ?_
    exact ⟨H, own_end hA3 ok3 hI, rfl, rfl⟩
end Go.Proofs.Ytfphgiipekkgdaa

set_option linter.unusedVariables false
set_option maxRecDepth 20000
namespace Go.Proofs.Ytfphgiipekkgdaa
open Go Go.Fw

theorem opS_nilapp {sT u : TypeId} (x : Value) : opS Try.prog (.call { callee := .builtin .append, args := #[(.const (.slice none 0 0)), (.tmp 0)], argTypes := #[sT, sT] }) u [x] =
    opS Try.prog (.call { callee := .builtin .append, args := #[(.tmp 0), (.tmp 1)], argTypes := #[sT, sT] }) u [.slice none 0 0, x] := by
  kernel_rfl

def loSl (s : Sl) (n : Nat) : Sl := ⟨if s.cap = n then s.a else s.a.map (·.add n), s.len - n, s.cap - n⟩

section
variable {L : Hands} {R : Value → Heap → Prop} {A : Ar} {I : List Nat} {l : Bl} {G : Heap}

theorem w_cutLo {s : Sl} {n : Int} {u : TypeId} {k : Sl → Tree} (h0 : 0 ≤ n) (h1 : n ≤ (s.len : Int)) {H : Heap} (h : wp Try.prog (k (loSl s n.toNat)) L H R) :
    wp Try.prog (.look (opS Try.prog (.slice ty_s_int (.tmp 0) (some (.tmp 1)) none none) u [.slice s.a s.len s.cap, .int .i64 n]) (.one (.leaf .slice)) k) L H R :=
  look_val (x := loSl s n.toNat) (opS_sliceLo (e := ty_int) rfl rfl rfl h0 h1) h
theorem ck_cutLo {s : Sl} {n : Int} {u : TypeId} {t : Tree} (h0 : 0 ≤ n) (h1 : n ≤ (s.len : Int)) {H : Heap} (h : wp Try.prog t L H R) :
    wp Try.prog (.check (opS Try.prog (.slice ty_s_int (.tmp 0) (some (.tmp 1)) none none) u [.slice s.a s.len s.cap, .int .i64 n]) (.slice (loSl s n.toNat).a (loSl s n.toNat).len (loSl s n.toNat).cap) t) L H R :=
  check_val (opS_sliceLo (e := ty_int) rfl rfl rfl h0 h1) h
theorem ck_cut {s : Sl} {n : Int} {u : TypeId} {t : Tree} (h0 : 0 ≤ n) (h1 : n ≤ (s.cap : Int)) {H : Heap} (h : wp Try.prog t L H R) :
    wp Try.prog (.check (opS Try.prog (.slice ty_s_int (.tmp 0) none (some (.tmp 1)) none) u [.slice s.a s.len s.cap, .int .i64 n]) (.slice s.a n.toNat s.cap) t) L H R :=
  check_val (opS_sliceHi (e := ty_int) rfl rfl rfl h0 h1) h

theorem SlOf.rowLo {s : Sl} {xs : List Int} (hA : Aw I A) (ok : Ok I G (keys l)) (h : SlOf l ty_int eI s xs) {n : Nat} (hn : n ≤ xs.length) : Row (own A l G) (loSl s n).a (eI.all (xs.drop n)) ∧ (loSl s n).len = (xs.drop n).length := by
  have hl := h.len
  refine ⟨?_, by show s.len - n = _; rw [hl, List.length_drop]⟩
  by_cases e : s.cap = n
  · have : xs.drop n = [] := by
      apply List.drop_eq_nil_of_le
      rcases h with ⟨rfl, rfl⟩ | ⟨b, rest, r, rfl, _⟩
      · simp
      · have e : xs.length + r = n := e
        omega
    rw [this]; intro i hi; simp [Enc.all] at hi
  · unfold loSl
    dsimp only
    rw [if_neg e]
    rcases h with ⟨rfl, rfl⟩ | ⟨b, rest, r, rfl, h2, h3⟩
    · intro i hi; simp [Enc.all] at hi
    · have hs : SlOf l ty_int eI ⟨some ⟨b, 0, none⟩, xs.length, xs.length + r⟩ xs := .inr ⟨b, rest, r, rfl, h2, h3⟩
      have := hs.rowFrom hA ok n hn
      show Row _ (some ((Addr.mk b 0 none).add n)) _
      rw [Addr.add_mk, Nat.zero_add]
      have e1 : n * eI.sz = n := Nat.mul_one n
      rw [e1] at this; exact this

/-- Append to nothing. -/
theorem w_appN {u : TypeId} {ys : List Int} {t : Sl} {k : Sl → Tree} {pre tl : Bl} (hA : Aw I A) (ok : Ok I G (keys (pre ++ tl))) (ht : Row (own A (pre ++ tl) G) t.a (eI.all ys)) (htl : t.len = ys.length) (hm : ys.length ≤ 1000000)
    (h : ∀ s' tl', SlOf tl' ty_int eI s' ys → Ok I G (keys (pre ++ tl')) → Apd tl sl0 tl' s' → wp Try.prog (k s') L (own A (pre ++ tl') G) R) :
    wp Try.prog (.act (opS Try.prog (.call { callee := .builtin .append, args := #[(.const (.slice none 0 0)), (.tmp 0)], argTypes := #[ty_s_int, ty_s_int] }) u [(.slice t.a t.len t.cap)]) (.one (.leaf .slice)) k) L (own A (pre ++ tl) G) R := by
  rw [opS_nilapp]
  refine w_appT (E := eI) elI (s := sl0) (xs := []) hA ok (.inl ⟨rfl, rfl⟩) ht htl (by simp; omega) fun s' tl' hs' ok' ap => ?_
  exact h s' tl' hs' ok' ap.apd

/-- Append of some numbers. -/
theorem w_appI {u : TypeId} {xs ys : List Int} {s t : Sl} {k : Sl → Tree} {pre tl : Bl} (hA : Aw I A) (ok : Ok I G (keys (pre ++ tl))) (hs : SlOf tl ty_int eI s xs) (ht : Row (own A (pre ++ tl) G) t.a (eI.all ys)) (htl : t.len = ys.length) (hm : xs.length + ys.length ≤ 1000000)
    (h : ∀ s' tl', SlOf tl' ty_int eI s' (xs ++ ys) → Ok I G (keys (pre ++ tl')) → Apd tl s tl' s' → wp Try.prog (k s') L (own A (pre ++ tl') G) R) :
    wp Try.prog (.act (opS Try.prog (.call { callee := .builtin .append, args := #[(.tmp 0), (.tmp 1)], argTypes := #[ty_s_int, ty_s_int] }) u [(.slice s.a s.len s.cap), (.slice t.a t.len t.cap)]) (.one (.leaf .slice)) k) L (own A (pre ++ tl) G) R :=
  w_appT (E := eI) elI hA ok hs ht htl (by omega) fun s' tl' hs' ok' ap => h s' tl' hs' ok' ap.apd

theorem Apd.none {tl tl' : Bl} {s' : Sl} (h : Apd tl sl0 tl' s') : ∀ p, p ∈ tl → p ∈ tl' := fun p hp => h.keep p.1 p.2 hp fun a ha => by cases ha

/-- A slice without its k-th number, in a new row. -/
theorem w_remove {xs : List Int} {s : Sl} {n : Int} {k : Sl → Tree} {pre tl : Bl} (hA : Aw I A) (ok : Ok I G (keys (pre ++ tl))) (hs : SlOf tl ty_int eI s xs) (h0 : 0 ≤ n) (h1 : n < xs.length) (hm : xs.length ≤ 100000)
    (h : ∀ s' tl', SlOf tl' ty_int eI s' (xs.take n.toNat ++ xs.drop (n.toNat + 1)) → Ok I G (keys (pre ++ tl')) → (∀ p, p ∈ tl → p ∈ tl') → (∀ a, s'.a = some a → a.block ∉ keys tl) → wp Try.prog (k s') L (own A (pre ++ tl') G) R) :
    wp Try.prog (.look (opS Try.prog (.slice ty_s_int (.tmp 0) none (some (.tmp 1)) none) ty_s_int [(.slice s.a s.len s.cap), (.int .i64 n)]) (.one (.leaf .slice)) fun x113 =>
      .look (opS Try.prog (.slice ty_s_int (.tmp 0) (some (.tmp 1)) none none) ty_s_int [(.slice s.a s.len s.cap), (.int .i64 (w64 (n + 1)))]) (.one (.leaf .slice)) fun x118 =>
      .act (opS Try.prog (.call { callee := .builtin .append, args := #[(.const (.slice none 0 0)), (.tmp 0)], argTypes := #[ty_s_int, ty_s_int] }) ty_s_int [(.slice x113.a x113.len x113.cap)]) (.one (.leaf .slice)) fun x114 =>
      .check (opS Try.prog (.slice ty_s_int (.tmp 0) (some (.tmp 1)) none none) ty_s_int [(.slice s.a s.len s.cap), (.int .i64 (w64 (n + 1)))]) (.slice x118.a x118.len x118.cap) <|
      .act (opS Try.prog (.call { callee := .builtin .append, args := #[(.tmp 0), (.tmp 1)], argTypes := #[ty_s_int, ty_s_int] }) ty_s_int [(.slice x114.a x114.len x114.cap), (.slice x118.a x118.len x118.cap)]) (.one (.leaf .slice)) k) L (own A (pre ++ tl) G) R := by
  have hl := hs.len
  have hc : (s.len : Int) ≤ s.cap := by
    rcases hs with ⟨rfl, _⟩ | ⟨b, rest, r, rfl, _⟩
    · exact Int.le_refl _
    · show ((xs.length : Nat) : Int) ≤ ((xs.length + r : Nat) : Int); omega
  have e1 : w64 (n + 1) = n + 1 := w64_in (by omega) (by omega)
  have e2 : (n + 1).toNat = n.toNat + 1 := by omega
  rw [e1]
  refine w_cut h0 (by omega) (w_cutLo (by omega) (by omega) ?_)
  refine w_appN (t := ⟨s.a, n.toNat, s.cap⟩) (ys := xs.take n.toNat) hA ok ?_ (by rw [List.length_take]; show n.toNat = _; omega) (by rw [List.length_take]; omega) fun s1 tl1 hs1 ok1 ap1 => ?_
  · exact (hs.take (n := n.toNat) (by omega)).mono (l' := pre ++ tl) (fun p hp => List.mem_append_right _ hp) |>.row hA ok
  refine ck_cutLo (by omega) (by omega) ?_
  have hsk : SlOf (pre ++ tl1) ty_int eI s xs := hs.mono fun p hp => List.mem_append_right _ (ap1.none p hp)
  obtain ⟨r1, r2⟩ := hsk.rowLo hA ok1 (n := (n + 1).toNat) (by omega)
  refine w_appI (ys := xs.drop (n + 1).toNat) hA ok1 hs1 r1 r2 (by rw [List.length_take, List.length_drop]; omega) fun s2 tl2 hs2 ok2 ap2 => ?_
  rw [e2] at hs2
  have n1 : ∀ a, s1.a = some a → a.block ∉ keys tl := fun a ha => by
    rcases ap1.at' with h | h
    · rw [h] at ha; cases ha
    · exact h a ha
  refine h s2 tl2 hs2 ok2 (fun p hp => ap2.keep p.1 p.2 (ap1.none p hp) fun a ha e => n1 a ha ?_) fun a ha => ?_
  · rw [e]; exact List.mem_map.2 ⟨p, hp, rfl⟩
  · rcases ap2.at' with h | h
    · rw [h] at ha; exact n1 a ha
    · intro hm
      obtain ⟨p, hp, e⟩ := List.mem_map.1 hm
      exact h a ha (List.mem_map.2 ⟨p, ap1.none p hp, e⟩)
end
end Go.Proofs.Ytfphgiipekkgdaa

set_option linter.unusedVariables false
set_option linter.unusedSimpArgs false
set_option maxRecDepth 20000
namespace Go.Proofs.Ytfphgiipekkgdaa
open Go Go.Fw

section
variable {L : Hands} {R : Value → Heap → Prop} {H : Heap} {I : List Nat} {A : Ar} {l : Bl} {G : Heap}

theorem opS_idx0 {t u : TypeId} (x : Value) (n : Int) : opS Try.prog (.indexAddr t (.tmp 0) (.const (.int .i64 n))) u [x] = opS Try.prog (.indexAddr t (.tmp 0) (.tmp 1)) u [x, .int .i64 n] := by kernel_rfl

/-- Slots that are held. -/
structure SO (I : List Nat) (H : Heap) (b : Nat) (w m cv n : Int) (A : Ar) (S : Sg) (hs : List Int) (s : Sl) (tl : Bl) : Prop where
  aw : Aw I A
  ok : Ok I H (keys ([(b, oc ty_free_Place (plCells (plOf w m)))] ++ tl))
  sl : SL A (plOf w m) w m S
  fa : A.fault = false
  nR : A.nR = 0
  nL : -(64 * A.uses) ≤ A.nL
  us : A.uses ≤ 500 * n
  hl : SlOf tl ty_int eI s hs
  lv : ∀ h ∈ hs, A.stF h = 1
  nd : hs.Nodup
  ln : (hs.length : Int) ≤ n
  cl : ∀ k, ((S.ch k).length : Int) ≤ n
  cv : S.cv = cv
end

section
variable {L : Hands} {R : Value → Heap → Prop} {H : Heap} {I : List Nat} {A : Ar} {b : Nat} {w m cv n : Int} {S : Sg} {hs : List Int} {s : Sl} {tl : Bl}

theorem so_J13 {q : Bool} (hI : ∀ x ∈ I, H x = none) (n1 : n ≤ 60) (F : SO I H b w m cv n A S hs s tl) (hR : R (.bool true) H) :
    wp Try.prog (t_magpielaw11_SlabOne_J13 ⟨b, 0, none⟩ (aI I) (q, s, cv, n, ())) L (own A ([(b, oc ty_free_Place (plCells (plOf w m)))] ++ tl) H) R := by
  have us0 := F.sl.F.us
  have us := F.us
  obtain ⟨q1, q2, q3, q4, q5⟩ := F.sl.places
  have wb := F.sl.wb
  have mb := F.sl.mb
  unfold t_magpielaw11_SlabOne_J13
  refine w_Fault F.aw ?_
  rw [F.fa]
  refine wp_true rfl ?_
  refine w_ld 0 F.aw F.ok rfl rfl rfl ?_
  refine w_Raw F.aw fun hA2 => ?_
  have e := F.sl.cvr
  rw [F.cv] at e
  refine wp_true (ibeq e) ?_
  refine wp_call_det (awake11_det _) ?_
  exact ⟨H, own_end hA2 F.ok hI, hR⟩

/-- One more is held. -/
theorem so_J3 {q any : Bool} {v : Int} {kk : Int} {h : Int} {o : Bool} {c cv' : Int} {S' : Sg} {A' : Ar} {tl' : Bl} (n0 : 0 ≤ n) (n1 : n < 60) (ec : Int.tmod (w64 (Int.tdiv v 8)) 3 = c) (ecv : cv' = if any then cv else cv + sizeF c) (cvb : 0 ≤ cv ∧ cv ≤ 100000) (sz : 0 ≤ sizeF c ∧ sizeF c ≤ 64)
    (F : ∀ s2 tl2, SlOf tl2 ty_int eI s2 (hs ++ [h]) → Ok I H (keys ([(b, oc ty_free_Place (plCells (plOf w m)))] ++ tl2)) → SO I H b w m cv' (n + 1) A' S' (hs ++ [h]) s2 tl2)
    (hA : Aw I A') (ok : Ok I H (keys ([(b, oc ty_free_Place (plCells (plOf w m)))] ++ tl'))) (hsl : SlOf tl' ty_int eI s hs) (hln : (hs.length : Int) ≤ n)
    (hR : ∀ A2 S2 hs2 s2 tl2 cv2 p, SO I H b w m cv2 (n + 1) A2 S2 hs2 s2 tl2 → wp Try.prog (.again 577 [(.bool p), (.slice s2.a s2.len s2.cap), (.int .i64 cv2), (.int .i64 (n + 1))]) L (own A2 ([(b, oc ty_free_Place (plCells (plOf w m)))] ++ tl2) H) R) :
    wp Try.prog (t_magpielaw11_SlabOne_J3 (q, s, cv, n, ()) v (any, kk, ()) (h, o, ())) L (own A' ([(b, oc ty_free_Place (plCells (plOf w m)))] ++ tl') H) R := by
  unfold t_magpielaw11_SlabOne_J3
  have en : w64 (n + 1) = n + 1 := w64_in (by omega) (by omega)
  cases any with
  | false =>
    refine wp_true rfl (wq_Size ?_)
    rw [ec]
    refine w_app1 hA ok hsl (by omega) fun s2 tl2 hs2 ok2 _ => ?_
    have e1 : w64 (cv + sizeF c) = cv + sizeF c := w64_in (by omega) (by omega)
    dsimp only
    rw [e1, en]
    have ecv : cv' = cv + sizeF c := ecv
    rw [← ecv]
    exact hR A' S' _ s2 tl2 cv' q (F s2 tl2 hs2 ok2)
  | true =>
    refine wp_false rfl ?_
    refine w_app1 hA ok hsl (by omega) fun s2 tl2 hs2 ok2 _ => ?_
    dsimp only
    rw [en]
    have ecv : cv' = cv := ecv
    rw [← ecv]
    exact hR A' S' _ s2 tl2 cv' q (F s2 tl2 hs2 ok2)

theorem rd0 {l : Bl} {xs : List Int} {s : Sl} {k : Int → Tree} {G : Heap} (hA : Aw I A) (ok : Ok I G (keys l)) (hs : SlOf l ty_int eI s xs) (h1 : 0 < xs.length) (h : wp Try.prog (k (xs.getD 0 0)) L (own A l G) R) :
    wp Try.prog (.look (opS Try.prog (.indexAddr ty_s_int (.tmp 0) (.const (.int .i64 0))) ty_unit [(.slice s.a s.len s.cap)]) (.one (.leaf .addr)) fun x => .ld x (.int .i64) k) L (own A l G) R := by
  rw [opS_idx0]
  exact w_rdI (i := 0) hA ok hs (Int.le_refl 0) (by omega) h

theorem so_loop {x31 x34 v who c : Int} {q : Bool} (wx : w = 1 + x31) (mx : m = 8 * x34) (x34b : 0 ≤ x34 ∧ x34 < 40) (x31b : 0 ≤ x31 ∧ x31 < 4) (wh : 0 ≤ who ∧ who < w) (cb : 0 ≤ c ∧ c < 4) (ec : Int.tmod (w64 (Int.tdiv v 8)) 3 = c)
    (F : SO I H b w m cv n A S hs s tl) (n0 : 0 ≤ n) (n1 : n < 60)
    (hR : ∀ A2 S2 hs2 s2 tl2 cv2 p, SO I H b w m cv2 (n + 1) A2 S2 hs2 s2 tl2 → wp Try.prog (.again 577 [(.bool p), (.slice s2.a s2.len s2.cap), (.int .i64 cv2), (.int .i64 (n + 1))]) L (own A2 ([(b, oc ty_free_Place (plCells (plOf w m)))] ++ tl2) H) R) :
    wp Try.prog (.loop 1280 t_magpielaw11_SlabOne_L2_sh [(.bool false), (.int .i64 0)] (t_magpielaw11_SlabOne_L2 x31 x34 ⟨b, 0, none⟩ (aI I) (q, s, cv, n, ()) v who)) L (own A ([(b, oc ty_free_Place (plCells (plOf w m)))] ++ tl) H) R := by
  have ew : w64 (1 + x31) = w := by rw [w64_in (by omega) (by omega)]; omega
  have em : w64 (8 * x34) = m := by rw [w64_in (by omega) (by omega)]; omega
  have sz := sz_pos cb.1 cb.2
  obtain ⟨hA, ok, X, fa, nR, nL, us, hl, lv, nd, ln, cl, ecv⟩ := F
  have us0 := X.F.us
  have cvb := X.cvb
  have mb := X.mb
  obtain ⟨q1, q2, q3, q4, q5⟩ := X.places
  have en : w64 (n + 1) = n + 1 := w64_in (by omega) (by omega)
  refine wl_bi (fun any k K => 0 ≤ k ∧ k ≤ w ∧ ∃ t tl', 0 ≤ t ∧ t ≤ 70 * k ∧ K = own (A.later t) ([(b, oc ty_free_Place (plCells (plOf w m)))] ++ tl') H ∧ Ok I H (keys ([(b, oc ty_free_Place (plCells (plOf w m)))] ++ tl')) ∧ (∀ p, p ∈ tl → p ∈ tl') ∧
    (any = true ↔ ∃ u, 0 ≤ u ∧ u < k ∧ S.ch (4 * u + c) ≠ [])) (fun _ k => (w - k).toNat) false 0 ⟨by omega, by omega, 0, tl, by omega, by omega, by rw [later0], ok, fun p hp => hp, by simp; omega⟩ ?_
  rintro any k K ⟨k0, k1, t, tl', t0, t1, rfl, ok', hk, hany⟩
  rw [t_magpielaw11_SlabOne_L2]
  simp only [ew, em, ec]
  have hA' := later_aw hA t
  have Y := X.later t0
  have yu : (A.later t).uses = A.uses + t := rfl
  have ek1 : w64 (k + 1) = k + 1 := w64_in (by omega) (by omega)
  have lists : ∀ {u : Int} {D : Ar} {tlx : Bl} {Lx : Hands} {Rx : Value → Heap → Prop} {kx : Sl → Tree}, 0 ≤ u → u < w → SL D (plOf w m) w m S → Aw I D → D.uses ≤ 100000 → Ok I H (keys ([(b, oc ty_free_Place (plCells (plOf w m)))] ++ tlx)) →
      (∀ s' tl2, SlOf tl2 ty_int eI s' (S.ch (4 * u + c)) → Ok I H (keys ([(b, oc ty_free_Place (plCells (plOf w m)))] ++ (tlx ++ tl2))) → Aw I (D.later (1 + (S.ch (4 * u + c)).length)) → wp Try.prog (kx s') Lx (own (D.later (1 + (S.ch (4 * u + c)).length)) ([(b, oc ty_free_Place (plCells (plOf w m)))] ++ (tlx ++ tl2)) H) Rx) →
      wp Try.prog (.call f_free_List [.pointer (aI I), (plOf w m).val, .int .i64 u, .int .i64 c] (.one (.leaf .slice)) kx) Lx (own D ([(b, oc ty_free_Place (plCells (plOf w m)))] ++ tlx) H) Rx := by
    intro u D tlx Lx Rx kx u0 u1 Z hD du okx hx
    have hh : headF (plOf w m) u c = 4 * u + c := headF_eq rfl ⟨u0, by omega⟩ cb
    have hch := Z.F.chn (4 * u + c) (by omega) (by omega)
    have hlen := cl (4 * u + c)
    refine w_List (p := plOf w m) (xs := S.ch (4 * u + c)) hD okx hh (Z.F.hdOk (by omega) (by omega)) (by rw [mask17, q2]; exact hch) (by omega) (by rw [q2]; omega) ⟨Z.F.us, by omega⟩ fun s' tl2 hs' ok2 hD2 => ?_
    rw [List.append_assoc] at ok2 ⊢
    exact hx s' tl2 hs' ok2 hD2
  by_cases hkw : k < w
  · refine wp_true (decide_eq_true hkw) ?_
    cases any with
    | true =>
      refine wp_true rfl ?_
      rw [ek1]
      refine wp_again ⟨true, k + 1, rfl, ⟨by omega, by omega, t, tl', t0, by omega, rfl, ok', hk, ?_⟩, by omega⟩
      obtain ⟨u, u0, u1, u2⟩ := hany.1 rfl
      exact ⟨fun _ => ⟨u, u0, by omega, u2⟩, fun _ => rfl⟩
    | false =>
      refine wp_false rfl ?_
      refine w_ldA 0 hA' ok' rfl rfl rfl ?_
      refine lists k0 hkw Y hA' (by omega) ok' fun s' tl2 hs' ok2 hA2 => ?_
      rw [ek1]
      have hlen := cl (4 * k + c)
      refine wp_again ⟨_, k + 1, rfl, ⟨by omega, by omega, t + (1 + ((S.ch (4 * k + c)).length : Int)), tl' ++ tl2, by omega, by omega, ?_, ok2, fun p hp => List.mem_append_left _ (hk p hp), ?_⟩, by omega⟩
      · congr 1; unfold Ar.later; simp only [Ar.mk.injEq, true_and]; omega
      · have hl2 := hs'.len
        constructor
        · intro h
          have h := of_decide_eq_true h
          exact ⟨k, k0, by omega, fun e => by rw [hl2, e] at h; simp at h⟩
        · rintro ⟨u, u0, u1, u2⟩
          by_cases e : u = k
          · refine decide_eq_true ?_
            rw [hl2]
            have : (S.ch (4 * k + c)).length ≠ 0 := fun h => u2 (by rw [e]; exact List.eq_nil_of_length_eq_zero h)
            omega
          · exact (Bool.noConfusion (hany.2 ⟨u, u0, by omega, u2⟩))
  · refine wp_false (decide_eq_false hkw) ?_
    have ekw : k = w := by omega
    subst ekw
    refine w_ldA 0 hA' ok' rfl rfl rfl ?_
    refine lists wh.1 wh.2 Y hA' (by omega) ok' fun sf tl2 hsf ok2 hA2 => ?_
    have hlen := cl (4 * who + c)
    have Y2 := Y.later (n := 1 + ((S.ch (4 * who + c)).length : Int)) (by omega)
    have ey : (A.later t).later (1 + ((S.ch (4 * who + c)).length : Int)) = A.later (t + (1 + ((S.ch (4 * who + c)).length : Int))) := by unfold Ar.later; simp only [Ar.mk.injEq, true_and]; omega
    rw [ey] at Y2 hA2 ⊢
    refine w_ldA 0 hA2 ok2 rfl rfl rfl ?_
    refine w_NewAlloc (p := plOf k m) hA2 ok2 (by omega) fun j okj => ?_
    refine look_val (x := false) (ea_some _) (wp_false rfl ?_)
    obtain ⟨nn', x', A3, S', Z⟩ := alloc_solo Y2 hA2.wf (by show A.uses + _ ≤ _; omega) (who := who) (c := c) wh cb
    have nn := Z.nn
    refine w_run11 mAl_ok mAl_inv Z.run (by omega) (j := j) hA2 okj fun j' ha hA3 ok3 => ?_
    refine wp_false rfl ?_
    obtain ⟨q', q0, q1'⟩ := j'
    have ha : q' = j.1 := ha
    subst ha
    refine w_Handle 0 (x := x') hA3 ok3 rfl ?_
    refine wq_Open (wq_Size ?_)
    obtain ⟨m1', m2'⟩ := own_rot (A := A3) (a := mAl.bl x' (j.1, q0, q1')) (b := [(b, oc ty_free_Place (plCells (plOf k m)))]) (c := tl' ++ tl2) ok3
    show wp Try.prog _ _ (own A3 (mAl.bl x' (j.1, q0, q1') ++ ([(b, oc ty_free_Place (plCells (plOf k m)))] ++ (tl' ++ tl2))) H) _
    rw [m1']
    have off := Z.off.us
    have oz : (A.later (t + (1 + ((S.ch (4 * who + c)).length : Int)))).uses = A.uses + (t + (1 + ((S.ch (4 * who + c)).length : Int))) := rfl
    rw [oz] at off
    have nLz := Z.nL
    have nRz := Z.nR
    have faz := Z.off.fa
    have stz : ∀ h ∈ hs, A3.stF h = 1 := fun h hh => by
      rw [Z.st]; split
      · rfl
      · exact (stF_slots rfl h).trans (lv h hh)
    have hl3 : SlOf (mAl.bl x' (j.1, q0, q1') ++ (tl' ++ tl2)) ty_int eI s hs := hl.mono fun p hp => List.mem_append_right _ (List.mem_append_left _ (hk p hp))
    have hsf3 : SlOf ([(b, oc ty_free_Place (plCells (plOf k m)))] ++ (mAl.bl x' (j.1, q0, q1') ++ (tl' ++ tl2))) ty_int eI sf (S.ch (4 * who + c)) := hsf.mono fun p hp => List.mem_append_right _ (List.mem_append_right _ (List.mem_append_right _ hp))
    have hsz : sizeF c ≤ 64 := sz.2.1
    -- nothing was made
    by_cases ho : x'.h = 0
    · have hz : (x'.h != 0) = false := by rw [ho]; rfl
      rw [ho] at nLz
      rw [if_neg (fun h => h rfl)] at nLz
      have oz0 : openOk x'.h = false := by rw [ho]; decide
      rw [hz, oz0]
      have no : S.ask k who c k.toNat 0 = Option.none ∧ ¬ S.cv + sizeF c ≤ m ∧ S' = S := by
        obtain ⟨k', b', l, h1, h2, h3, h4, h5, h6, h7⟩ | ⟨h1, h2, h3, h4⟩ | ⟨h1, h2, h3, h4⟩ := Z.gives.or
        · exact ((list_name Y2 (by rw [oz]; omega) h2 h5).2.2.2.2 (by rw [← h7]; exact ho)).elim
        · exact ((carve_name Y2 cb h2).2.2.2.2 (by rw [← h4]; exact ho)).elim
        · exact ⟨h1, h2, h3⟩
      have hno : any = false := by
        cases any with
        | false => rfl
        | true =>
          obtain ⟨u, u0, u1, u2⟩ := hany.1 rfl
          exact (u2 (ask_none_all wh no.1 ⟨u0, u1⟩)).elim
      subst hno
      refine wp_false rfl ?_
      have e1 : w64 (cv + sizeF c) = cv + sizeF c := w64_in (by omega) (by omega)
      dsimp only
      rw [e1, decide_eq_false (by have := no.2.1; omega)]
      refine wp_false rfl (wp_false rfl ?_)
      unfold t_magpielaw11_SlabOne_J5
      refine wp_true rfl ?_
      dsimp only
      rw [en]
      refine wp_again_up (by decide) (hR A3 S' hs s _ cv q ⟨hA3, m2', Z.sl, by rw [faz]; exact fa, by rw [nRz]; exact nR, by rw [nLz]; show -(64 * A3.uses) ≤ A.nL + 0; omega, by omega, hl3, stz, nd, by omega, fun k' => by rw [no.2.2]; have := cl k'; omega, by rw [no.2.2]; exact ecv⟩)
    · have hz : (x'.h != 0) = true := bne0 ho
      rw [if_pos ho] at nLz
      obtain ⟨d1, d2, d3⟩ := Z.hd ho
      rw [hz, d2, d1]
      have hfit : any = false → S.cv + sizeF c ≤ m := fun hf => by
        obtain ⟨k', b', l, h1, h2, h3, h4, h5, h6, h7⟩ | ⟨h1, h2, h3, h4⟩ | ⟨h1, h2, h3, h4⟩ := Z.gives.or
        · obtain ⟨a1, i, a2, a3, a4, _⟩ := ask_some_at (by omega) _ _ h1
          have := Int.emod_nonneg (who + i) (b := k) (by omega)
          have := Int.emod_lt_of_pos (who + i) (b := k) (by omega)
          rw [hf] at hany
          exact (Bool.noConfusion (hany.2 ⟨(who + i) % k, by omega, by omega, by rw [← a4]; exact a1⟩))
        · exact h2
        · exact (ho h4).elim
      have st1 : A3.stF x'.h = 1 := by rw [Z.st, if_pos ⟨ho, rfl⟩]
      have hnd : (hs ++ [x'.h]).Nodup := by
        refine List.nodup_append.2 ⟨nd, List.nodup_cons.2 ⟨by simp, .nil⟩, fun a ha b' hb' e => ?_⟩
        simp only [List.mem_singleton] at hb'
        subst hb'
        have := lv a ha
        rw [e] at this
        have e0 : (A.later (t + (1 + ((S.ch (4 * who + c)).length : Int)))).stF x'.h = A.stF x'.h := stF_slots rfl _
        rw [e0, this] at d3; cases d3
      -- what is known of the lists
      have lists' : (∀ k', ((S'.ch k').length : Int) ≤ n + 1) ∧ (S'.cv = if any then cv else cv + sizeF c) ∧ (0 < (S.ch (4 * who + c)).length → opB x'.h = (S.ch (4 * who + c)).getD 0 0) ∧ (any = false → opB x'.h = cv) := by
        obtain ⟨k', b', l, h1, h2, h3, h4, h5, h6, h7⟩ | ⟨h1, h2, h3, h4⟩ | ⟨h1, h2, h3, h4⟩ := Z.gives.or
        · obtain ⟨a1, i, a2, a3, a4, _⟩ := ask_some_at (by omega) _ _ h1
          have i0 := Int.emod_nonneg (who + i) (b := k) (by omega)
          have i1 := Int.emod_lt_of_pos (who + i) (b := k) (by omega)
          have hat : any = true := hany.2 ⟨(who + i) % k, by omega, by omega, by rw [← a4]; exact a1⟩
          obtain ⟨o1, _⟩ := list_name Y2 (by rw [oz]; omega) h2 h5
          rw [← h7] at o1
          refine ⟨fun k2 => ?_, ?_, fun hp => ?_, fun hf => by rw [hat] at hf; cases hf⟩
          · rw [h6]
            show ((upd S.ch k' l k2).length : Int) ≤ _
            unfold upd; split
            · have := cl k'; rw [h2] at this; simp only [List.length_cons] at this; omega
            · have := cl k2; omega
          · rw [h6, hat]; exact ecv
          · have e := ask_own wh h1 (fun e => by rw [e] at hp; simp at hp)
            rw [← e, h2, o1]; rfl
        · obtain ⟨o1, _⟩ := carve_name Y2 cb h2
          rw [← h4] at o1
          have hat : any = false := by
            cases any with
            | false => rfl
            | true =>
              obtain ⟨u, u0, u1, u2⟩ := hany.1 rfl
              exact (u2 (ask_none_all wh h1 ⟨u0, u1⟩)).elim
          refine ⟨fun k2 => ?_, ?_, fun hp => ?_, fun _ => by rw [o1]; exact ecv⟩
          · rw [h3]; have := cl k2; show ((S.ch k2).length : Int) ≤ _; omega
          · rw [h3, hat]; show S.cv + _ = cv + _; rw [ecv]
          · rw [ask_none_all wh h1 wh] at hp; simp at hp
        · exact (ho h4).elim
      obtain ⟨l1, l2, l3, l4⟩ := lists'
      have SOnew : ∀ s2 tl2, SlOf tl2 ty_int eI s2 (hs ++ [x'.h]) → Ok I H (keys ([(b, oc ty_free_Place (plCells (plOf k m)))] ++ tl2)) → SO I H b k m (if any then cv else cv + sizeF c) (n + 1) A3 S' (hs ++ [x'.h]) s2 tl2 := fun s2 tl2 hs2 ok2 =>
        ⟨hA3, ok2, Z.sl, by rw [faz]; exact fa, by rw [nRz]; exact nR, by rw [nLz]; show -(64 * A3.uses) ≤ A.nL + _; omega, by omega, hs2, fun h hh => by
          rcases List.mem_append.1 hh with hh | hh
          · exact stz h hh
          · simp only [List.mem_singleton] at hh; rw [hh]; exact st1, hnd, by rw [List.length_append]; simp only [List.length_singleton]; omega, l1, l2⟩
      have J3 : ∀ {Lx : Hands}, (∀ A2 S2 hs2 s2 tl2 cv2 p, SO I H b k m cv2 (n + 1) A2 S2 hs2 s2 tl2 → wp Try.prog (.again 577 [(.bool p), (.slice s2.a s2.len s2.cap), (.int .i64 cv2), (.int .i64 (n + 1))]) Lx (own A2 ([(b, oc ty_free_Place (plCells (plOf k m)))] ++ tl2) H) R) →
          wp Try.prog (t_magpielaw11_SlabOne_J3 (q, s, cv, n, ()) v (any, k, ()) (x'.h, true, ())) Lx (own A3 ([(b, oc ty_free_Place (plCells (plOf k m)))] ++ (mAl.bl x' (j.1, q0, q1') ++ (tl' ++ tl2))) H) R := fun hLx =>
        so_J3 n0 n1 ec rfl ⟨by omega, by omega⟩ ⟨by omega, hsz⟩ SOnew hA3 m2' hl3 ln hLx
      have J5 : ∀ {Lx : Hands}, (∀ A2 S2 hs2 s2 tl2 cv2 p, SO I H b k m cv2 (n + 1) A2 S2 hs2 s2 tl2 → wp Try.prog (.again 577 [(.bool p), (.slice s2.a s2.len s2.cap), (.int .i64 cv2), (.int .i64 (n + 1))]) Lx (own A2 ([(b, oc ty_free_Place (plCells (plOf k m)))] ++ tl2) H) R) →
          wp Try.prog (t_magpielaw11_SlabOne_J5 (aI I) (q, s, cv, n, ()) v (any, k, ()) sf (x'.h, true, ()) (opB x'.h, opG x'.h, c, true, ())) Lx (own A3 ([(b, oc ty_free_Place (plCells (plOf k m)))] ++ (mAl.bl x' (j.1, q0, q1') ++ (tl' ++ tl2))) H) R := fun hLx => by
        unfold t_magpielaw11_SlabOne_J5
        refine wp_false rfl (wp_false (ibnf ec.symm) ?_)
        refine w_State hA3 ?_
        rw [st1]
        refine wp_false rfl ?_
        have hlf := hsf.len
        by_cases hp : 0 < (S.ch (4 * who + c)).length
        · refine wp_true (decide_eq_true (by rw [hlf]; omega)) ?_
          refine rd0 hA3 m2' hsf3 hp ?_
          refine wp_false (ibnf (l3 hp)) ?_
          cases any with
          | false => exact wp_true rfl (wp_false (ibnf (l4 rfl)) (J3 hLx))
          | true => exact wp_false rfl (J3 hLx)
        · refine wp_false (decide_eq_false (by rw [hlf]; omega)) ?_
          cases any with
          | false => exact wp_true rfl (wp_false (ibnf (l4 rfl)) (J3 hLx))
          | true => exact wp_false rfl (J3 hLx)
      have e1 : w64 (cv + sizeF c) = cv + sizeF c := w64_in (by omega) (by omega)
      dsimp only
      rw [e1]
      by_cases hat : any = true
      · refine wp_true hat (wp_false rfl (wp_false rfl ?_))
        exact J5 fun A2 S2 hs2 s2 tl2 cv2 p h => wp_again_up (by decide) (hR A2 S2 hs2 s2 tl2 cv2 p h)
      · have haf : any = false := by cases any with
          | false => rfl
          | true => exact (hat rfl).elim
        refine wp_false haf ?_
        rw [decide_eq_true (by have := hfit haf; omega)]
        refine wp_false rfl (wp_false rfl ?_)
        exact J5 fun A2 S2 hs2 s2 tl2 cv2 p h => wp_again_up (by decide) (hR A2 S2 hs2 s2 tl2 cv2 p h)

theorem SlabOne_det (p0 p1 : Int) (sr : Sl) (zs : List Int) (H : Heap) (hz : RowOf H sr.a sr.len zs) : Det Try.prog f_magpielaw11_SlabOne [.int .i64 p0, .int .i64 p1, .slice sr.a sr.len sr.cap] H (.bool true) H := by
  refine t_magpielaw11_SlabOne_spec (p0 := p0) (p1 := p1) (p2 := sr) fun L => ?_
  unfold t_magpielaw11_SlabOne
  refine w_Place (by omega) (by omega) (w_Place (by omega) (by omega) ?_)
  have x0 := Int.emod_nonneg p0 (b := 4) (by omega)
  have x1 := Int.emod_lt_of_pos p0 (b := 4) (by omega)
  have y0 := Int.emod_nonneg p1 (b := 40) (by omega)
  have y1 := Int.emod_lt_of_pos p1 (b := 40) (by omega)
  generalize p0 % 4 = x31 at *
  generalize p1 % 40 = x34 at *
  have ew : w64 (1 + x31) = 1 + x31 := w64_in (by omega) (by omega)
  have em : w64 (8 * x34) = 8 * x34 := w64_in (by omega) (by omega)
  rw [ew, em]
  refine w_places (w := 1 + x31) (m := 8 * x34) (by omega) (by omega) fun A b hA hI ok X fa us nl nr => ?_
  refine look_val (x := false) (np_some _) (wp_false rfl ?_)
  refine wl_bsii (fun _ s cv n K => 0 ≤ n ∧ n ≤ 60 ∧ ∃ A' S hs tl, SO A.ids H b (1 + x31) (8 * x34) cv n A' S hs s tl ∧ K = own A' ([(b, oc ty_free_Place (plCells (plOf (1 + x31) (8 * x34))))] ++ tl) H) (fun _ _ _ n => (60 - n).toNat) false sl0 0 0
    ⟨by omega, by omega, A, _, [], [], ⟨hA, ok, X, fa, nr, by rw [us, nl]; decide, by rw [us]; omega, .inl ⟨rfl, rfl⟩, fun h hh => (by cases hh), .nil, by simp, fun k => by simp, rfl⟩, rfl⟩ ?_
  rintro q s cv n K ⟨n0, n1, A', S, hs, tl, F, rfl⟩
  rw [t_magpielaw11_SlabOne_L1]
  by_cases c1 : n < ((sr.len : Nat) : Int)
  case neg => exact wp_false (decide_eq_false c1) (so_J13 hI n1 F ⟨rfl, rfl⟩)
  refine wp_true (decide_eq_true c1) ?_
  by_cases c2 : n < 60
  case neg => exact wp_false (decide_eq_false c2) (so_J13 hI n1 F ⟨rfl, rfl⟩)
  refine wp_true (decide_eq_true c2) ?_
  refine wp_row hz (own_end F.aw F.ok hI) n0 c1 ?_
  refine w_Place (by omega) (by omega) ?_
  have v0 := Int.emod_nonneg (zs.getD n.toNat 0) (b := 1048576) (by omega)
  have v1 := Int.emod_lt_of_pos (zs.getD n.toNat 0) (b := 1048576) (by omega)
  generalize zs.getD n.toNat 0 % 1048576 = v at *
  have e2 : w64 (Int.tdiv v 2) = v / 2 := by rw [Int.tdiv_eq_ediv_of_nonneg v0, w64_in (by omega) (by omega)]
  have e8 : w64 (Int.tdiv v 8) = v / 8 := by rw [Int.tdiv_eq_ediv_of_nonneg v0, w64_in (by omega) (by omega)]
  have e24 : w64 (Int.tdiv v 24) = v / 24 := by rw [Int.tdiv_eq_ediv_of_nonneg v0, w64_in (by omega) (by omega)]
  have ec : Int.tmod (w64 (Int.tdiv v 8)) 3 = v / 8 % 3 := by rw [e8, Int.tmod_eq_emod_of_nonneg (by omega)]
  rw [e2, e24, ew]
  have hw0 : (1 + x31) ≠ 0 := by omega
  refine look_val (x := v / 2 % (1 + x31)) ((opS_rem hw0).trans (by rw [Int.tmod_eq_emod_of_nonneg (by omega)])) ?_
  have h0 := Int.emod_nonneg (v / 2) (b := 1 + x31) (by omega)
  have h1 := Int.emod_lt_of_pos (v / 2) (b := 1 + x31) (by omega)
  generalize v / 2 % (1 + x31) = who at *
  have again : ∀ {R : Value → Heap → Prop} A2 S2 hs2 s2 tl2 cv2 p, SO A.ids H b (1 + x31) (8 * x34) cv2 (n + 1) A2 S2 hs2 s2 tl2 → wp Try.prog (.again 577 [(.bool p), (.slice s2.a s2.len s2.cap), (.int .i64 cv2), (.int .i64 (n + 1))])
      (L.set 577 fun vals H'' => ∃ (y0 : Bool) (y1 : Sl) (y2 : Int) (y3 : Int), vals = [.bool y0, .slice y1.a y1.len y1.cap, .int .i64 y2, .int .i64 y3] ∧ (0 ≤ y3 ∧ y3 ≤ 60 ∧ ∃ A' S hs tl, SO A.ids H b (1 + x31) (8 * x34) y2 y3 A' S hs y1 tl ∧ H'' = own A' ([(b, oc ty_free_Place (plCells (plOf (1 + x31) (8 * x34))))] ++ tl) H) ∧ (60 - y3).toNat < (60 - n).toNat)
      (own A2 ([(b, oc ty_free_Place (plCells (plOf (1 + x31) (8 * x34))))] ++ tl2) H) R := fun A2 S2 hs2 s2 tl2 cv2 p S2' =>
    wp_again ⟨p, s2, cv2, n + 1, rfl, ⟨by omega, by omega, A2, S2, hs2, tl2, S2', rfl⟩, by omega⟩
  have et2 : Int.tmod v 2 = v % 2 := Int.tmod_eq_emod_of_nonneg v0
  rw [et2]
  have loop := fun (Rx : Value → Heap → Prop) => so_loop (R := Rx) (L := L.set 577 _) (q := q) (c := v / 8 % 3) rfl rfl ⟨y0, y1⟩ ⟨x0, x1⟩ ⟨h0, h1⟩ ⟨by omega, by omega⟩ ec F n0 c2 (fun A2 S2 hs2 s2 tl2 cv2 p S3 => again (R := Rx) A2 S2 hs2 s2 tl2 cv2 p S3)
  by_cases hp : v % 2 = 1
  case neg => exact wp_false (ibef hp) (loop _)
  refine wp_true (ibeq hp) ?_
  by_cases hl0 : (((s.len : Nat) : Int) > 0)
  case neg => exact wp_false (decide_eq_false hl0) (loop _)
  refine wp_true (decide_eq_true hl0) ?_
  clear loop
  obtain ⟨hA', ok', X', fa', nR, nL, us', hsl, lv, nd, ln, cl, ecv⟩ := F
  have us0 := X'.F.us
  have hlen := hsl.len
  have hln0 : (((s.len : Nat) : Int)) ≠ 0 := by omega
  refine look_val (x := v / 24 % ((s.len : Nat) : Int)) ((opS_rem hln0).trans (by rw [Int.tmod_eq_emod_of_nonneg (by omega)])) ?_
  have k0 := Int.emod_nonneg (v / 24) (b := ((s.len : Nat) : Int)) (by omega)
  have k1 := Int.emod_lt_of_pos (v / 24) (b := ((s.len : Nat) : Int)) (by omega)
  generalize v / 24 % ((s.len : Nat) : Int) = kk at *
  have kl : kk.toNat < hs.length := by omega
  have hsl' : SlOf ([(b, oc ty_free_Place (plCells (plOf (1 + x31) (8 * x34))))] ++ tl) ty_int eI s hs := hsl.mono fun p hp => List.mem_append_right _ hp
  have hmem : hs.getD kk.toNat 0 ∈ hs := by rw [List.getD_eq_getElem?_getD, List.getElem?_eq_getElem kl]; exact List.getElem_mem kl
  refine w_rdI hA' ok' hsl' k0 (by omega) ?_
  generalize hh : hs.getD kk.toNat 0 = h at *
  have st1 := lv h hmem
  have sz := size_opC h
  obtain ⟨Y, yst, yL, yR⟩ := X'.retire (by omega) st1 ⟨by omega, by omega⟩
  refine w_Retire hA' fun hA3 => ?_
  have tb : A'.turnB h 1 = true := decide_eq_true st1
  rw [tb]
  refine wp_false rfl ?_
  refine w_ldA 0 hA3 ok' rfl rfl rfl ?_
  refine w_rdI hA3 ok' hsl' k0 (by omega) ?_
  rw [hh]
  refine w_NewFree (p := plOf (1 + x31) (8 * x34)) hA3 ok' fun jf okf => ?_
  have ru : (A'.retireF h).uses = A'.uses := by have := (Off.retireF (c := 0) hA'.wf h).us; omega
  obtain ⟨xf, A4, W⟩ := free_solo Y hA3.wf (by omega) (who := who) (h := h) ⟨h0, h1⟩ (by rw [yst, if_pos rfl]) (by rw [yR, nR, ru]; omega)
  refine w_run11 mFe_ok mFe_inv W.run (by omega) (j := jf) hA3 okf fun jf' haf hA4 ok4 => ?_
  refine wp_false rfl ?_
  obtain ⟨n1', n2'⟩ := own_rot (A := A4) (a := mFe.bl xf jf') (b := [(b, oc ty_free_Place (plCells (plOf (1 + x31) (8 * x34))))]) (c := tl) ok4
  show wp Try.prog _ _ (own A4 (mFe.bl xf jf' ++ ([(b, oc ty_free_Place (plCells (plOf (1 + x31) (8 * x34))))] ++ tl)) H) _
  rw [n1']
  have hsl4 : SlOf (mFe.bl xf jf' ++ tl) ty_int eI s hs := hsl.mono fun p hp => List.mem_append_right _ hp
  refine w_rdI hA4 n2' (hsl4.mono fun p hp => List.mem_append_right _ hp) k0 (by omega) ?_
  rw [hh]
  refine w_State hA4 ?_
  have st0 : A4.stF h = 0 := by rw [W.st, if_pos rfl]
  rw [st0]
  refine wp_false rfl ?_
  refine w_remove hA4 n2' hsl4 k0 (by omega) (by omega) fun s2 tl2 hs2 ok5 hk5 _ => ?_
  have en : w64 (n + 1) = n + 1 := w64_in (by omega) (by omega)
  dsimp only
  rw [en]
  have offW := W.off.us
  have split : hs = hs.take kk.toNat ++ h :: hs.drop (kk.toNat + 1) := by
    have a1 := List.take_append_drop kk.toNat hs
    rw [List.drop_eq_getElem_cons kl] at a1
    have a2 : hs[kk.toNat] = h := by rw [← hh, List.getD_eq_getElem?_getD, List.getElem?_eq_getElem kl]; rfl
    rw [a2] at a1; exact a1.symm
  have nd' := nd
  rw [split] at nd'
  have hnm : h ∉ hs.take kk.toNat ++ hs.drop (kk.toNat + 1) := by
    have := (List.perm_middle.nodup_iff).1 nd'
    exact (List.nodup_cons.1 this).1
  have ndr : (hs.take kk.toNat ++ hs.drop (kk.toNat + 1)).Nodup := by
    have := (List.perm_middle.nodup_iff).1 nd'
    exact (List.nodup_cons.1 this).2
  have sub : ∀ x ∈ hs.take kk.toNat ++ hs.drop (kk.toNat + 1), x ∈ hs := fun x hx => by
    rcases List.mem_append.1 hx with hx | hx
    · exact List.mem_of_mem_take hx
    · exact List.mem_of_mem_drop hx
  refine again A4 _ _ s2 tl2 cv q ⟨hA4, ok5, W.sl, ?_, ?_, ?_, by omega, hs2, fun x hx => ?_, ndr, ?_, fun k' => ?_, ecv⟩
  · rw [W.off.fa, (Off.retireF (c := 0) hA'.wf h).fa, fa']
  · rw [W.nR, yR, nR]; omega
  · rw [W.nL, yL]; omega
  · have hx' := sub x hx
    have hne : x ≠ h := fun e => hnm (e ▸ hx)
    rw [W.st, if_neg hne, yst, if_neg hne]; exact lv x hx'
  · rw [List.length_append, List.length_take, List.length_drop]; omega
  · show ((upd S.ch (4 * who + opC h) (opB h :: S.ch (4 * who + opC h)) k').length : Int) ≤ _
    unfold upd; split
    · have := cl (4 * who + opC h); simp only [List.length_cons]; omega
    · have := cl k'; omega
end
end Go.Proofs.Ytfphgiipekkgdaa

