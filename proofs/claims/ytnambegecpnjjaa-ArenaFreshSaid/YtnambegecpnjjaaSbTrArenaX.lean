import Derived.Test.YtnambegecpnjjaaSbNames
set_option linter.unusedVariables false
set_option maxRecDepth 10000
namespace Go.Proofs.Ytnambegecpnjjaa
open Go Go.Fw
/- magpie/arena.add -/
noncomputable def t_arena_add (p0 : Option Addr) (p1 : Int) : Tree :=
  .call f_arena_load [(.pointer p0)] (.one (.leaf (.int .i64))) fun x7 =>
  .call f_arena_store [(.pointer p0), (.int .i64 (w64 (x7 + p1)))] .unit fun _ =>
  .ret (.int .i64 x7)
theorem t_arena_add_eq (p0 : Option Addr) (p1 : Int) : funcTree Try.prog { quiet := [7, 8, 24, 25, 26, 35], quietTmp := true, fncs := [], ifcs := [] } Try.f31 [(.pointer p0), (.int .i64 p1)] = t_arena_add p0 p1 := by kernel_rfl
theorem t_arena_add_spec {p0 : Option Addr} {p1 : Int} {H : Heap} {R : Value → Heap → Prop} (h : ∀ L, wp Try.prog (t_arena_add p0 p1) L H R) : SpecF Try.prog f_arena_add #[(.pointer p0), (.int .i64 p1)] H R :=
  spec_of_tree (cfg := { quiet := [7, 8, 24, 25, 26, 35], quietTmp := true, fncs := [], ifcs := [] }) Try.func31 fun L => (t_arena_add_eq p0 p1).symm ▸ h L

/- (*magpie/arena.Arena).Swap -/
noncomputable def t_arena_Arena_Swap (p0 : Option Addr) (p1 : Int) (p2 : Int) (p3 : Int) (p4 : Int) : Tree :=
  .call f_arena_Arena_in [(.pointer p0), (.int .i64 p1), (.int .i64 p2)] (.one (.leaf .ptr)) fun x14 =>
  .call f_arena_swap [(.pointer x14), (.int .i64 p3), (.int .i64 p4)] (.one (.leaf .bool)) fun x17 =>
  .ret (.bool x17)
theorem t_arena_Arena_Swap_eq (p0 : Option Addr) (p1 : Int) (p2 : Int) (p3 : Int) (p4 : Int) : funcTree Try.prog { quiet := [7, 8, 24, 25, 26, 35], quietTmp := true, fncs := [], ifcs := [] } Try.f13 [(.pointer p0), (.int .i64 p1), (.int .i64 p2), (.int .i64 p3), (.int .i64 p4)] = t_arena_Arena_Swap p0 p1 p2 p3 p4 := by kernel_rfl
theorem t_arena_Arena_Swap_spec {p0 : Option Addr} {p1 : Int} {p2 : Int} {p3 : Int} {p4 : Int} {H : Heap} {R : Value → Heap → Prop} (h : ∀ L, wp Try.prog (t_arena_Arena_Swap p0 p1 p2 p3 p4) L H R) : SpecF Try.prog f_arena_Arena_Swap #[(.pointer p0), (.int .i64 p1), (.int .i64 p2), (.int .i64 p3), (.int .i64 p4)] H R :=
  spec_of_tree (cfg := { quiet := [7, 8, 24, 25, 26, 35], quietTmp := true, fncs := [], ifcs := [] }) Try.func13 fun L => (t_arena_Arena_Swap_eq p0 p1 p2 p3 p4).symm ▸ h L

/- (*magpie/arena.Arena).Add -/
noncomputable def t_arena_Arena_Add (p0 : Option Addr) (p1 : Int) (p2 : Int) (p3 : Int) : Tree :=
  .call f_arena_Arena_in [(.pointer p0), (.int .i64 p1), (.int .i64 p2)] (.one (.leaf .ptr)) fun x12 =>
  .call f_arena_add [(.pointer x12), (.int .i64 p3)] (.one (.leaf (.int .i64))) fun x14 =>
  .ret (.int .i64 x14)
theorem t_arena_Arena_Add_eq (p0 : Option Addr) (p1 : Int) (p2 : Int) (p3 : Int) : funcTree Try.prog { quiet := [7, 8, 24, 25, 26, 35], quietTmp := true, fncs := [], ifcs := [] } Try.f12 [(.pointer p0), (.int .i64 p1), (.int .i64 p2), (.int .i64 p3)] = t_arena_Arena_Add p0 p1 p2 p3 := by kernel_rfl
theorem t_arena_Arena_Add_spec {p0 : Option Addr} {p1 : Int} {p2 : Int} {p3 : Int} {H : Heap} {R : Value → Heap → Prop} (h : ∀ L, wp Try.prog (t_arena_Arena_Add p0 p1 p2 p3) L H R) : SpecF Try.prog f_arena_Arena_Add #[(.pointer p0), (.int .i64 p1), (.int .i64 p2), (.int .i64 p3)] H R :=
  spec_of_tree (cfg := { quiet := [7, 8, 24, 25, 26, 35], quietTmp := true, fncs := [], ifcs := [] }) Try.func12 fun L => (t_arena_Arena_Add_eq p0 p1 p2 p3).symm ▸ h L

/- (*magpie/arena.Arena).AddRaw -/
noncomputable def t_arena_Arena_AddRaw (p0 : Option Addr) (p1 : Int) (p2 : Int) : Tree :=
  .call f_arena_Arena_at [(.pointer p0), (.int .i64 p1)] (.one (.leaf .ptr)) fun x9 =>
  .call f_arena_add [(.pointer x9), (.int .i64 p2)] (.one (.leaf (.int .i64))) fun x11 =>
  .ret (.int .i64 x11)
theorem t_arena_Arena_AddRaw_eq (p0 : Option Addr) (p1 : Int) (p2 : Int) : funcTree Try.prog { quiet := [7, 8, 24, 25, 26, 35], quietTmp := true, fncs := [], ifcs := [] } Try.f23 [(.pointer p0), (.int .i64 p1), (.int .i64 p2)] = t_arena_Arena_AddRaw p0 p1 p2 := by kernel_rfl
theorem t_arena_Arena_AddRaw_spec {p0 : Option Addr} {p1 : Int} {p2 : Int} {H : Heap} {R : Value → Heap → Prop} (h : ∀ L, wp Try.prog (t_arena_Arena_AddRaw p0 p1 p2) L H R) : SpecF Try.prog f_arena_Arena_AddRaw #[(.pointer p0), (.int .i64 p1), (.int .i64 p2)] H R :=
  spec_of_tree (cfg := { quiet := [7, 8, 24, 25, 26, 35], quietTmp := true, fncs := [], ifcs := [] }) Try.func23 fun L => (t_arena_Arena_AddRaw_eq p0 p1 p2).symm ▸ h L

end Go.Proofs.Ytnambegecpnjjaa
