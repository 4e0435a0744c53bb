/- Texts of this claim, one behind the other. -/
import Derived.Test.YtfphgiipekkgdaaB3
set_option linter.unusedSimpArgs false
set_option linter.unusedVariables false
set_option linter.unusedVariables false
set_option maxRecDepth 10000
namespace Go.Proofs.Ytfphgiipekkgdaa
open Go Go.Fw
/- magpie/magpielaw12.HazardWords -/
noncomputable def t_magpielaw12_HazardWords (p0 : Int) (p1 : Int) (p2 : Int) (p3 : Int) : Tree :=
  .qcall f_magpielaw00_Place [(.int .i64 p0), (.int .i64 64)] (.one (.leaf (.int .i64))) fun x16 =>
  .qcall f_magpielaw00_Place [(.int .i64 p1), (.int .i64 1000)] (.one (.leaf (.int .i64))) fun x19 =>
  .qcall f_hazard_Raw [(.int .i64 (w64 (1 + x16))), (.int .i64 x19)] (.tup [(.agg [(.int .i64), (.int .i64)]), (.leaf (.int .i64))]) fun x23 =>
  .newP (.cells #[(.int .i64 0), (.int .i64 0)] ty_hazard_Table) fun x11 =>
  .stA x11 [(.int .i64 x23.1.1), (.int .i64 x23.1.2.1)] <|
  .qcall f_magpielaw00_Place [(.int .i64 p2), (.int .i64 (w64 (1 + x16)))] (.one (.leaf (.int .i64))) fun x28 =>
  .qcall f_magpielaw00_Place [(.int .i64 p3), (.int .i64 2)] (.one (.leaf (.int .i64))) fun x30 =>
  bif ((x23.2.1 : Int) == (w64 ((w64 (1 + x16)) * 2))) then (
    .ldA x11 [(.int .i64), (.int .i64)] fun x36 =>
    .qcall f_hazard_Table_Word [(.agg #[(.int .i64 x36.1), (.int .i64 x36.2.1)]), (.int .i64 x28), (.int .i64 x30)] (.one (.leaf (.int .i64))) fun x39 =>
    bif ((x39 : Int) == (w64 ((w64 (x19 + (w64 (x28 * 2)))) + x30))) then (
      .ldA x11 [(.int .i64), (.int .i64)] fun x49 =>
      .qcall f_hazard_Table_Word [(.agg #[(.int .i64 x49.1), (.int .i64 x49.2.1)]), (.int .i64 (w64 ((w64 (1 + x16)) - 1))), (.int .i64 1)] (.one (.leaf (.int .i64))) fun x52 =>
      bif ((x52 : Int) == (w64 ((w64 (x19 + x23.2.1)) - 1))) then (
        .call f_magpielaw12_awake [] (.one (.leaf .bool)) fun x60 =>
        .ret (.bool x60))
      else (
        .ret (.bool false)))
    else (
      .ret (.bool false)))
  else (
    .ret (.bool false))
theorem t_magpielaw12_HazardWords_eq (p0 : Int) (p1 : Int) (p2 : Int) (p3 : Int) : funcTree Try.prog { quiet := [16, 22, 23, 34, 35, 48, 49, 53, 57, 58, 59, 62, 105], quietTmp := true, fncs := [], ifcs := [] } Try.f7 [(.int .i64 p0), (.int .i64 p1), (.int .i64 p2), (.int .i64 p3)] = t_magpielaw12_HazardWords p0 p1 p2 p3 := by kernel_rfl
theorem t_magpielaw12_HazardWords_spec {p0 : Int} {p1 : Int} {p2 : Int} {p3 : Int} {H : Heap} {R : Value → Heap → Prop} (h : ∀ L, wp Try.prog (t_magpielaw12_HazardWords p0 p1 p2 p3) L H R) : SpecF Try.prog f_magpielaw12_HazardWords #[(.int .i64 p0), (.int .i64 p1), (.int .i64 p2), (.int .i64 p3)] H R :=
  spec_of_tree (cfg := { quiet := [16, 22, 23, 34, 35, 48, 49, 53, 57, 58, 59, 62, 105], quietTmp := true, fncs := [], ifcs := [] }) Try.func7 fun L => (t_magpielaw12_HazardWords_eq p0 p1 p2 p3).symm ▸ h L

/- magpie/magpielaw12.HazardOthers -/
@[reducible] def t_magpielaw12_HazardOthers_L2_sh : List Sh1 := [(.leaf (.int .i64)), (.leaf (.int .i64))]
noncomputable def t_magpielaw12_HazardOthers_L2 (x20 : HL Sh1.T [(.leaf .ptr), (.agg [(.int .i64), (.int .i64), (.int .i64), (.int .i64), (.int .i64)]), (.agg [(.int .i64), (.int .i64)]), (.leaf .slice)]) (x8 : Addr) (y1 : HL Sh1.T [(.leaf (.int .i64))]) (y2 : HL Sh1.T t_magpielaw12_HazardOthers_L2_sh) : Tree :=
  bif (decide ((y2.2.1 : Int) < 4)) then (
    .look (opS Try.prog (.indexAddr ty_s_int (.tmp 0) (.tmp 1)) ty_unit [(.slice x20.2.2.2.1.a x20.2.2.2.1.len x20.2.2.2.1.cap), (.int .i64 y2.2.1)]) (.one (.leaf .addr)) fun x55 =>
    .ld x55 (.int .i64) fun x56 =>
    bif ((y2.1 : Int) == x56) then (
      .again 640 [(.int .i64 0), (.int .i64 (w64 (y2.2.1 + 1)))])
    else (
      .again 640 [(.int .i64 y2.1), (.int .i64 (w64 (y2.2.1 + 1)))]))
  else (
    .ldA x8 [(.int .i64), (.int .i64)] fun x59 =>
    .qcall f_hazard_Table_Word [(.agg #[(.int .i64 x59.1), (.int .i64 x59.2.1)]), (.int .i64 (w64 (Int.tdiv y1.1 2))), (.int .i64 (Int.tmod y1.1 2))] (.one (.leaf (.int .i64))) fun x64 =>
    .call f_arena_Arena_SetRaw [(.pointer x20.1), (.int .i64 x64), (.int .i64 y2.1)] .unit fun _ =>
    .again 385 [(.int .i64 (w64 (y1.1 + 1)))])

@[reducible] def t_magpielaw12_HazardOthers_L3_sh : List Sh1 := [(.leaf .bool), (.leaf (.int .i64))]
noncomputable def t_magpielaw12_HazardOthers_L3 (x20 : HL Sh1.T [(.leaf .ptr), (.agg [(.int .i64), (.int .i64), (.int .i64), (.int .i64), (.int .i64)]), (.agg [(.int .i64), (.int .i64)]), (.leaf .slice)]) (y2 : HL Sh1.T t_magpielaw12_HazardOthers_L3_sh) : Tree :=
  bif (decide ((y2.2.1 : Int) < 4)) then (
    .look (opS Try.prog (.indexAddr ty_s_int (.tmp 0) (.tmp 1)) ty_unit [(.slice x20.2.2.2.1.a x20.2.2.2.1.len x20.2.2.2.1.cap), (.int .i64 y2.2.1)]) (.one (.leaf .addr)) fun x93 =>
    .ld x93 (.int .i64) fun x94 =>
    .call f_arena_Arena_State [(.pointer x20.1), (.int .i64 x94)] (.one (.leaf (.int .i64))) fun x95 =>
    bif ((x95 : Int) != 0) then (
      .ret (.bool false))
    else (
      .again 1216 [(.bool y2.1), (.int .i64 (w64 (y2.2.1 + 1)))]))
  else (
    .call f_arena_Arena_Fault [(.pointer x20.1)] (.one (.leaf .bool)) fun x98 =>
    bif (!x98) then (
      .call f_magpielaw12_awake [] (.one (.leaf .bool)) fun x101 =>
      .ret (.bool x101))
    else (
      .ret (.bool false)))

noncomputable def t_magpielaw12_HazardOthers_J7 (x20 : HL Sh1.T [(.leaf .ptr), (.agg [(.int .i64), (.int .i64), (.int .i64), (.int .i64), (.int .i64)]), (.agg [(.int .i64), (.int .i64)]), (.leaf .slice)]) (x7 : Addr) (x8 : Addr) : Tree :=
  .ldA x8 [(.int .i64), (.int .i64)] fun x67 =>
  .ldA x7 [(.int .i64), (.int .i64), (.int .i64), (.int .i64), (.int .i64)] fun x68 =>
  .call f_hazard_NewScan [(.agg #[(.int .i64 x67.1), (.int .i64 x67.2.1)]), (.agg #[(.int .i64 x68.1), (.int .i64 x68.2.1), (.int .i64 x68.2.2.1), (.int .i64 x68.2.2.2.1), (.int .i64 x68.2.2.2.2.1)]), (.int .i64 0), (.slice x20.2.2.2.1.a x20.2.2.2.1.len x20.2.2.2.1.cap)] (.one (.leaf .ptr)) fun x70 =>
  .look (opS Try.prog (.binOp .eql ty_p_hazard_Scan (.tmp 0) (.const (.pointer none)) ty_p_hazard_Scan) ty_bool [(.pointer x70)]) (.one (.leaf .bool)) fun x72 =>
  bif x72 then (
    .ret (.bool false))
  else (
    .call f_magpielaw12_run [(.pointer x20.1), (.iface ty_p_hazard_Scan (.pointer x70))] (.one (.leaf .bool)) fun x77 =>
    bif (!x77) then (
      .ret (.bool false))
    else (
      .call f_hazard_Scan_Left [(.pointer x70)] (.one (.leaf .slice)) fun x82 =>
      bif ((((x82.len : Nat) : Int) : Int) != 0) then (
        .ret (.bool false))
      else (
        .loop 1216 t_magpielaw12_HazardOthers_L3_sh [(.bool false), (.int .i64 0)] (t_magpielaw12_HazardOthers_L3 x20))))

@[reducible] def t_magpielaw12_HazardOthers_L1_sh : List Sh1 := [(.leaf (.int .i64))]
noncomputable def t_magpielaw12_HazardOthers_L1 (p1 : Sl) (x16 : Int) (x20 : HL Sh1.T [(.leaf .ptr), (.agg [(.int .i64), (.int .i64), (.int .i64), (.int .i64), (.int .i64)]), (.agg [(.int .i64), (.int .i64)]), (.leaf .slice)]) (x7 : Addr) (x8 : Addr) (y1 : HL Sh1.T t_magpielaw12_HazardOthers_L1_sh) : Tree :=
  bif (decide ((y1.1 : Int) < ((p1.len : Nat) : Int))) then (
    bif (decide ((y1.1 : Int) < (w64 ((w64 (1 + x16)) * 2)))) then (
      .look (opS Try.prog (.indexAddr ty_s_int (.tmp 0) (.tmp 1)) ty_unit [(.slice p1.a p1.len p1.cap), (.int .i64 y1.1)]) (.one (.leaf .addr)) fun x46 =>
      .ld x46 (.int .i64) fun x47 =>
      .loop 640 t_magpielaw12_HazardOthers_L2_sh [(.int .i64 x47), (.int .i64 0)] (t_magpielaw12_HazardOthers_L2 x20 x8 y1))
    else (
      t_magpielaw12_HazardOthers_J7 x20 x7 x8))
  else (
    t_magpielaw12_HazardOthers_J7 x20 x7 x8)
noncomputable def t_magpielaw12_HazardOthers (p0 : Int) (p1 : Sl) : Tree :=
  .qcall f_magpielaw00_Place [(.int .i64 p0), (.int .i64 6)] (.one (.leaf (.int .i64))) fun x16 =>
  .call f_magpielaw12_make1 [(.int .i64 (w64 (1 + x16))), (.int .i64 4)] (.tup [(.leaf .ptr), (.agg [(.int .i64), (.int .i64), (.int .i64), (.int .i64), (.int .i64)]), (.agg [(.int .i64), (.int .i64)]), (.leaf .slice)]) fun x20 =>
  .newP (.cells #[(.int .i64 0), (.int .i64 0), (.int .i64 0), (.int .i64 0), (.int .i64 0)] ty_free_Place) fun x7 =>
  .newP (.cells #[(.int .i64 0), (.int .i64 0)] ty_hazard_Table) fun x8 =>
  .stA x7 [(.int .i64 x20.2.1.1), (.int .i64 x20.2.1.2.1), (.int .i64 x20.2.1.2.2.1), (.int .i64 x20.2.1.2.2.2.1), (.int .i64 x20.2.1.2.2.2.2.1)] <|
  .stA x8 [(.int .i64 x20.2.2.1.1), (.int .i64 x20.2.2.1.2.1)] <|
  .look (opS Try.prog (.binOp .eql ty_p_arena_Arena (.tmp 0) (.const (.pointer none)) ty_p_arena_Arena) ty_bool [(.pointer x20.1)]) (.one (.leaf .bool)) fun x26 =>
  bif x26 then (
    .ret (.bool false))
  else (
    bif ((((x20.2.2.2.1.len : Nat) : Int) : Int) != 4) then (
      .ret (.bool false))
    else (
      .loop 385 t_magpielaw12_HazardOthers_L1_sh [(.int .i64 0)] (t_magpielaw12_HazardOthers_L1 p1 x16 x20 x7 x8)))
theorem t_magpielaw12_HazardOthers_eq (p0 : Int) (p1 : Sl) : funcTree Try.prog { quiet := [16, 22, 23, 34, 35, 48, 49, 53, 57, 58, 59, 62, 105], quietTmp := true, fncs := [], ifcs := [] } Try.f8 [(.int .i64 p0), (.slice p1.a p1.len p1.cap)] = t_magpielaw12_HazardOthers p0 p1 := by kernel_rfl
theorem t_magpielaw12_HazardOthers_spec {p0 : Int} {p1 : Sl} {H : Heap} {R : Value → Heap → Prop} (h : ∀ L, wp Try.prog (t_magpielaw12_HazardOthers p0 p1) L H R) : SpecF Try.prog f_magpielaw12_HazardOthers #[(.int .i64 p0), (.slice p1.a p1.len p1.cap)] H R :=
  spec_of_tree (cfg := { quiet := [16, 22, 23, 34, 35, 48, 49, 53, 57, 58, 59, 62, 105], quietTmp := true, fncs := [], ifcs := [] }) Try.func8 fun L => (t_magpielaw12_HazardOthers_eq p0 p1).symm ▸ h L

/- magpie/magpielaw12.HazardTwice -/
noncomputable def t_magpielaw12_HazardTwice_J1 (x30 : HL Sh1.T [(.leaf .ptr), (.agg [(.int .i64), (.int .i64), (.int .i64), (.int .i64), (.int .i64)]), (.agg [(.int .i64), (.int .i64)]), (.leaf .slice)]) (x13 : Addr) (x48 : Int) (y2 : HL Sh1.T [(.leaf .bool), (.leaf .slice), (.leaf (.int .i64))]) (x86 : Sl) : Tree :=
  bif (decide ((y2.2.2.1 : Int) < (w64 (1 + x48)))) then (
    .ldA x13 [(.int .i64), (.int .i64)] fun x131 =>
    .qcall f_hazard_Table_Word [(.agg #[(.int .i64 x131.1), (.int .i64 x131.2.1)]), (.int .i64 y2.2.2.1), (.int .i64 (Int.tmod y2.2.2.1 2))] (.one (.leaf (.int .i64))) fun x135 =>
    .call f_arena_Arena_SetRaw [(.pointer x30.1), (.int .i64 x135), (.int .i64 0)] .unit fun _ =>
    .again 832 [(.bool y2.1), (.slice x86.a x86.len x86.cap), (.int .i64 (w64 (y2.2.2.1 + 1)))])
  else (
    .again 832 [(.bool y2.1), (.slice x86.a x86.len x86.cap), (.int .i64 (w64 (y2.2.2.1 + 1)))])

@[reducible] def t_magpielaw12_HazardTwice_L2_sh : List Sh1 := [(.leaf .bool), (.leaf .slice), (.leaf (.int .i64))]
noncomputable def t_magpielaw12_HazardTwice_L2 (x25 : Int) (x30 : HL Sh1.T [(.leaf .ptr), (.agg [(.int .i64), (.int .i64), (.int .i64), (.int .i64), (.int .i64)]), (.agg [(.int .i64), (.int .i64)]), (.leaf .slice)]) (x12 : Addr) (x13 : Addr) (x45 : Int) (x48 : Int) (y2 : HL Sh1.T t_magpielaw12_HazardTwice_L2_sh) : Tree :=
  bif (decide ((y2.2.2.1 : Int) ≤ (w64 (1 + x48)))) then (
    .ldA x13 [(.int .i64), (.int .i64)] fun x72 =>
    .ldA x12 [(.int .i64), (.int .i64), (.int .i64), (.int .i64), (.int .i64)] fun x73 =>
    .call f_hazard_NewScan [(.agg #[(.int .i64 x72.1), (.int .i64 x72.2.1)]), (.agg #[(.int .i64 x73.1), (.int .i64 x73.2.1), (.int .i64 x73.2.2.1), (.int .i64 x73.2.2.2.1), (.int .i64 x73.2.2.2.2.1)]), (.int .i64 0), (.slice y2.2.1.a y2.2.1.len y2.2.1.cap)] (.one (.leaf .ptr)) fun x75 =>
    .look (opS Try.prog (.binOp .eql ty_p_hazard_Scan (.tmp 0) (.const (.pointer none)) ty_p_hazard_Scan) ty_bool [(.pointer x75)]) (.one (.leaf .bool)) fun x77 =>
    bif x77 then (
      .ret (.bool false))
    else (
      .call f_magpielaw12_run [(.pointer x30.1), (.iface ty_p_hazard_Scan (.pointer x75))] (.one (.leaf .bool)) fun x82 =>
      bif (!x82) then (
        .ret (.bool false))
      else (
        .call f_hazard_Scan_Left [(.pointer x75)] (.one (.leaf .slice)) fun x86 =>
        bif (!(((((x86.len : Nat) : Int) : Int) == 1) == (decide ((y2.2.2.1 : Int) < (w64 (1 + x48)))))) then (
          .ret (.bool false))
        else (
          bif (decide ((((x86.len : Nat) : Int) : Int) > 1)) then (
            .ret (.bool false))
          else (
            bif ((((x86.len : Nat) : Int) : Int) == 1) then (
              .look (opS Try.prog (.indexAddr ty_s_int (.tmp 0) (.const (.int .i64 0))) ty_unit [(.slice x86.a x86.len x86.cap)]) (.one (.leaf .addr)) fun x105 =>
              .ld x105 (.int .i64) fun x106 =>
              .look (opS Try.prog (.indexAddr ty_s_int (.tmp 0) (.tmp 1)) ty_unit [(.slice x30.2.2.2.1.a x30.2.2.2.1.len x30.2.2.2.1.cap), (.int .i64 x45)]) (.one (.leaf .addr)) fun x109 =>
              .ld x109 (.int .i64) fun x110 =>
              bif ((x106 : Int) != x110) then (
                .ret (.bool false))
              else (
                .look (opS Try.prog (.indexAddr ty_s_int (.tmp 0) (.tmp 1)) ty_unit [(.slice x30.2.2.2.1.a x30.2.2.2.1.len x30.2.2.2.1.cap), (.int .i64 x45)]) (.one (.leaf .addr)) fun x118 =>
                .ld x118 (.int .i64) fun x119 =>
                .call f_arena_Arena_State [(.pointer x30.1), (.int .i64 x119)] (.one (.leaf (.int .i64))) fun x120 =>
                bif (!(((x120 : Int) == 0) == ((y2.2.2.1 : Int) == (w64 (1 + x48))))) then (
                  .ret (.bool false))
                else (
                  t_magpielaw12_HazardTwice_J1 x30 x13 x48 y2 x86)))
            else (
              .look (opS Try.prog (.indexAddr ty_s_int (.tmp 0) (.tmp 1)) ty_unit [(.slice x30.2.2.2.1.a x30.2.2.2.1.len x30.2.2.2.1.cap), (.int .i64 x45)]) (.one (.leaf .addr)) fun x118 =>
              .ld x118 (.int .i64) fun x119 =>
              .call f_arena_Arena_State [(.pointer x30.1), (.int .i64 x119)] (.one (.leaf (.int .i64))) fun x120 =>
              bif (!(((x120 : Int) == 0) == ((y2.2.2.1 : Int) == (w64 (1 + x48))))) then (
                .ret (.bool false))
              else (
                t_magpielaw12_HazardTwice_J1 x30 x13 x48 y2 x86)))))))
  else (
    .call f_arena_Arena_Fault [(.pointer x30.1)] (.one (.leaf .bool)) fun x138 =>
    bif (!x138) then (
      .call f_arena_Arena_Count [(.pointer x30.1)] (.one (.agg [(.int .i64), (.int .i64), (.int .i64), (.int .i64)])) fun x142 =>
      bif ((x142.2.2.2.1 : Int) == (w64 (8 * (w64 (1 + x25))))) then (
        .call f_magpielaw12_awake [] (.one (.leaf .bool)) fun x149 =>
        .ret (.bool x149))
      else (
        .ret (.bool false)))
    else (
      .ret (.bool false)))

@[reducible] def t_magpielaw12_HazardTwice_L1_sh : List Sh1 := [(.leaf (.int .i64))]
noncomputable def t_magpielaw12_HazardTwice_L1 (x25 : Int) (x30 : HL Sh1.T [(.leaf .ptr), (.agg [(.int .i64), (.int .i64), (.int .i64), (.int .i64), (.int .i64)]), (.agg [(.int .i64), (.int .i64)]), (.leaf .slice)]) (x12 : Addr) (x13 : Addr) (x45 : Int) (x48 : Int) (y1 : HL Sh1.T t_magpielaw12_HazardTwice_L1_sh) : Tree :=
  bif (decide ((y1.1 : Int) < (w64 (1 + x48)))) then (
    .ldA x13 [(.int .i64), (.int .i64)] fun x56 =>
    .qcall f_hazard_Table_Word [(.agg #[(.int .i64 x56.1), (.int .i64 x56.2.1)]), (.int .i64 y1.1), (.int .i64 (Int.tmod y1.1 2))] (.one (.leaf (.int .i64))) fun x60 =>
    .look (opS Try.prog (.indexAddr ty_s_int (.tmp 0) (.tmp 1)) ty_unit [(.slice x30.2.2.2.1.a x30.2.2.2.1.len x30.2.2.2.1.cap), (.int .i64 x45)]) (.one (.leaf .addr)) fun x63 =>
    .ld x63 (.int .i64) fun x64 =>
    .call f_arena_Arena_SetRaw [(.pointer x30.1), (.int .i64 x60), (.int .i64 x64)] .unit fun _ =>
    .again 512 [(.int .i64 (w64 (y1.1 + 1)))])
  else (
    .loop 832 t_magpielaw12_HazardTwice_L2_sh [(.bool false), (.slice x30.2.2.2.1.a x30.2.2.2.1.len x30.2.2.2.1.cap), (.int .i64 0)] (t_magpielaw12_HazardTwice_L2 x25 x30 x12 x13 x45 x48))
noncomputable def t_magpielaw12_HazardTwice (p0 : Int) (p1 : Int) (p2 : Int) (p3 : Int) : Tree :=
  .qcall f_magpielaw00_Place [(.int .i64 p0), (.int .i64 6)] (.one (.leaf (.int .i64))) fun x22 =>
  .qcall f_magpielaw00_Place [(.int .i64 p1), (.int .i64 10)] (.one (.leaf (.int .i64))) fun x25 =>
  .call f_magpielaw12_make1 [(.int .i64 (w64 (1 + x22))), (.int .i64 (w64 (1 + x25)))] (.tup [(.leaf .ptr), (.agg [(.int .i64), (.int .i64), (.int .i64), (.int .i64), (.int .i64)]), (.agg [(.int .i64), (.int .i64)]), (.leaf .slice)]) fun x30 =>
  .newP (.cells #[(.int .i64 0), (.int .i64 0), (.int .i64 0), (.int .i64 0), (.int .i64 0)] ty_free_Place) fun x12 =>
  .newP (.cells #[(.int .i64 0), (.int .i64 0)] ty_hazard_Table) fun x13 =>
  .stA x12 [(.int .i64 x30.2.1.1), (.int .i64 x30.2.1.2.1), (.int .i64 x30.2.1.2.2.1), (.int .i64 x30.2.1.2.2.2.1), (.int .i64 x30.2.1.2.2.2.2.1)] <|
  .stA x13 [(.int .i64 x30.2.2.1.1), (.int .i64 x30.2.2.1.2.1)] <|
  .look (opS Try.prog (.binOp .eql ty_p_arena_Arena (.tmp 0) (.const (.pointer none)) ty_p_arena_Arena) ty_bool [(.pointer x30.1)]) (.one (.leaf .bool)) fun x36 =>
  bif x36 then (
    .ret (.bool false))
  else (
    bif ((((x30.2.2.2.1.len : Nat) : Int) : Int) != (w64 (1 + x25))) then (
      .ret (.bool false))
    else (
      .qcall f_magpielaw00_Place [(.int .i64 p2), (.int .i64 (w64 (1 + x25)))] (.one (.leaf (.int .i64))) fun x45 =>
      .qcall f_magpielaw00_Place [(.int .i64 p3), (.int .i64 (w64 (1 + x22)))] (.one (.leaf (.int .i64))) fun x48 =>
      .loop 512 t_magpielaw12_HazardTwice_L1_sh [(.int .i64 0)] (t_magpielaw12_HazardTwice_L1 x25 x30 x12 x13 x45 x48)))
theorem t_magpielaw12_HazardTwice_eq (p0 : Int) (p1 : Int) (p2 : Int) (p3 : Int) : funcTree Try.prog { quiet := [16, 22, 23, 34, 35, 48, 49, 53, 57, 58, 59, 62, 105], quietTmp := true, fncs := [], ifcs := [] } Try.f9 [(.int .i64 p0), (.int .i64 p1), (.int .i64 p2), (.int .i64 p3)] = t_magpielaw12_HazardTwice p0 p1 p2 p3 := by kernel_rfl
theorem t_magpielaw12_HazardTwice_spec {p0 : Int} {p1 : Int} {p2 : Int} {p3 : Int} {H : Heap} {R : Value → Heap → Prop} (h : ∀ L, wp Try.prog (t_magpielaw12_HazardTwice p0 p1 p2 p3) L H R) : SpecF Try.prog f_magpielaw12_HazardTwice #[(.int .i64 p0), (.int .i64 p1), (.int .i64 p2), (.int .i64 p3)] H R :=
  spec_of_tree (cfg := { quiet := [16, 22, 23, 34, 35, 48, 49, 53, 57, 58, 59, 62, 105], quietTmp := true, fncs := [], ifcs := [] }) Try.func9 fun L => (t_magpielaw12_HazardTwice_eq p0 p1 p2 p3).symm ▸ h L

/- magpie/magpielaw12.HazardScans -/
@[reducible] def t_magpielaw12_HazardScans_L3_sh : List Sh1 := [(.leaf .bool), (.leaf (.int .i64)), (.leaf (.int .i64))]
noncomputable def t_magpielaw12_HazardScans_L3 (x26 : Int) (x29 : Int) (x33 : HL Sh1.T [(.leaf .ptr), (.agg [(.int .i64), (.int .i64), (.int .i64), (.int .i64), (.int .i64)]), (.agg [(.int .i64), (.int .i64)]), (.leaf .slice)]) (x12 : Addr) (x15 : Addr) (x123 : Sl) (y3 : HL Sh1.T t_magpielaw12_HazardScans_L3_sh) : Tree :=
  bif (decide ((y3.2.2.1 : Int) < x29)) then (
    .look (opS Try.prog (.indexAddr ty_a20_bool (.tmp 0) (.tmp 1)) ty_unit [(.pointer (some x15)), (.int .i64 y3.2.2.1)]) (.one (.leaf .addr)) fun x130 =>
    .ld x130 .bool fun x131 =>
    bif x131 then (
      bif (decide ((y3.2.1 : Int) ≥ ((x123.len : Nat) : Int))) then (
        .ret (.bool false))
      else (
        .look (opS Try.prog (.indexAddr ty_s_int (.tmp 0) (.tmp 1)) ty_unit [(.slice x123.a x123.len x123.cap), (.int .i64 y3.2.1)]) (.one (.leaf .addr)) fun x139 =>
        .ld x139 (.int .i64) fun x140 =>
        .look (opS Try.prog (.indexAddr ty_s_int (.tmp 0) (.tmp 1)) ty_unit [(.slice x33.2.2.2.1.a x33.2.2.2.1.len x33.2.2.2.1.cap), (.int .i64 y3.2.2.1)]) (.one (.leaf .addr)) fun x143 =>
        .ld x143 (.int .i64) fun x144 =>
        bif ((x140 : Int) != x144) then (
          .ret (.bool false))
        else (
          .look (opS Try.prog (.indexAddr ty_s_int (.tmp 0) (.tmp 1)) ty_unit [(.slice x33.2.2.2.1.a x33.2.2.2.1.len x33.2.2.2.1.cap), (.int .i64 y3.2.2.1)]) (.one (.leaf .addr)) fun x151 =>
          .ld x151 (.int .i64) fun x152 =>
          .call f_arena_Arena_State [(.pointer x33.1), (.int .i64 x152)] (.one (.leaf (.int .i64))) fun x153 =>
          bif ((x153 : Int) != 2) then (
            .ret (.bool false))
          else (
            .again 1792 [(.bool y3.1), (.int .i64 (w64 (y3.2.1 + 1))), (.int .i64 (w64 (y3.2.2.1 + 1)))]))))
    else (
      .look (opS Try.prog (.indexAddr ty_s_int (.tmp 0) (.tmp 1)) ty_unit [(.slice x33.2.2.2.1.a x33.2.2.2.1.len x33.2.2.2.1.cap), (.int .i64 y3.2.2.1)]) (.one (.leaf .addr)) fun x161 =>
      .ld x161 (.int .i64) fun x162 =>
      .call f_arena_Arena_State [(.pointer x33.1), (.int .i64 x162)] (.one (.leaf (.int .i64))) fun x163 =>
      bif ((x163 : Int) != 0) then (
        .ret (.bool false))
      else (
        .again 1792 [(.bool y3.1), (.int .i64 y3.2.1), (.int .i64 (w64 (y3.2.2.1 + 1)))])))
  else (
    bif ((y3.2.1 : Int) == ((x123.len : Nat) : Int)) then (
      .ldA x12 [(.int .i64), (.int .i64), (.int .i64), (.int .i64), (.int .i64)] fun x171 =>
      .call f_free_List [(.pointer x33.1), (.agg #[(.int .i64 x171.1), (.int .i64 x171.2.1), (.int .i64 x171.2.2.1), (.int .i64 x171.2.2.2.1), (.int .i64 x171.2.2.2.2.1)]), (.int .i64 (w64 ((w64 (1 + x26)) - 1))), (.int .i64 0)] (.one (.leaf .slice)) fun x174 =>
      bif ((((x174.len : Nat) : Int) : Int) == (w64 (x29 - y3.2.1))) then (
        .call f_arena_Arena_Fault [(.pointer x33.1)] (.one (.leaf .bool)) fun x183 =>
        bif (!x183) then (
          .call f_magpielaw12_awake [] (.one (.leaf .bool)) fun x187 =>
          .ret (.bool x187))
        else (
          .ret (.bool false)))
      else (
        .ret (.bool false)))
    else (
      .ret (.bool false)))

@[reducible] def t_magpielaw12_HazardScans_L2_sh : List Sh1 := [(.leaf .bool), (.leaf (.int .i64))]
noncomputable def t_magpielaw12_HazardScans_L2 (x26 : Int) (x29 : Int) (x33 : HL Sh1.T [(.leaf .ptr), (.agg [(.int .i64), (.int .i64), (.int .i64), (.int .i64), (.int .i64)]), (.agg [(.int .i64), (.int .i64)]), (.leaf .slice)]) (x12 : Addr) (x15 : Addr) (x93 : Option Addr) (x97 : Int) (y2 : HL Sh1.T t_magpielaw12_HazardScans_L2_sh) : Tree :=
  bif (decide (((w64 (y2.2.1 + 1)) : Int) < (w64 ((w64 (1 + x26)) * 2)))) then (
    .call f_hazard_Scan_Step [(.pointer x93), (.pointer x33.1)] (.one (.leaf .bool)) fun x107 =>
    bif x107 then (
      .ret (.bool false))
    else (
      .again 1216 [(.bool y2.1), (.int .i64 (w64 (y2.2.1 + 1)))]))
  else (
    .call f_magpielaw12_run [(.pointer x33.1), (.iface ty_p_hazard_Scan (.pointer x93))] (.one (.leaf .bool)) fun x111 =>
    bif (!x111) then (
      .ret (.bool false))
    else (
      .call f_arena_Arena_Uses [(.pointer x33.1)] (.one (.leaf (.int .i64))) fun x115 =>
      bif (decide ((x115 : Int) < (w64 (x97 + (w64 ((w64 (1 + x26)) * 2)))))) then (
        .ret (.bool false))
      else (
        .call f_hazard_Scan_Left [(.pointer x93)] (.one (.leaf .slice)) fun x123 =>
        .loop 1792 t_magpielaw12_HazardScans_L3_sh [(.bool y2.1), (.int .i64 0), (.int .i64 0)] (t_magpielaw12_HazardScans_L3 x26 x29 x33 x12 x15 x123))))

noncomputable def t_magpielaw12_HazardScans_J11 (x26 : Int) (x29 : Int) (x33 : HL Sh1.T [(.leaf .ptr), (.agg [(.int .i64), (.int .i64), (.int .i64), (.int .i64), (.int .i64)]), (.agg [(.int .i64), (.int .i64)]), (.leaf .slice)]) (x12 : Addr) (x13 : Addr) (x15 : Addr) : Tree :=
  .ldA x13 [(.int .i64), (.int .i64)] fun x87 =>
  .ldA x12 [(.int .i64), (.int .i64), (.int .i64), (.int .i64), (.int .i64)] fun x88 =>
  .act (opS Try.prog (.call { callee := .builtin .append, args := #[(.const (.slice none 0 0)), (.tmp 0)], argTypes := #[ty_s_int, ty_s_int] }) ty_s_int [(.slice x33.2.2.2.1.a x33.2.2.2.1.len x33.2.2.2.1.cap)]) (.one (.leaf .slice)) fun x92 =>
  .check (ldAS x12 5 0 #[]) (.agg #[(.int .i64 x88.1), (.int .i64 x88.2.1), (.int .i64 x88.2.2.1), (.int .i64 x88.2.2.2.1), (.int .i64 x88.2.2.2.2.1)]) <|
  .check (ldAS x13 2 0 #[]) (.agg #[(.int .i64 x87.1), (.int .i64 x87.2.1)]) <|
  .call f_hazard_NewScan [(.agg #[(.int .i64 x87.1), (.int .i64 x87.2.1)]), (.agg #[(.int .i64 x88.1), (.int .i64 x88.2.1), (.int .i64 x88.2.2.1), (.int .i64 x88.2.2.2.1), (.int .i64 x88.2.2.2.2.1)]), (.int .i64 (w64 ((w64 (1 + x26)) - 1))), (.slice x92.a x92.len x92.cap)] (.one (.leaf .ptr)) fun x93 =>
  .look (opS Try.prog (.binOp .eql ty_p_hazard_Scan (.tmp 0) (.const (.pointer none)) ty_p_hazard_Scan) ty_bool [(.pointer x93)]) (.one (.leaf .bool)) fun x95 =>
  bif x95 then (
    .ret (.bool false))
  else (
    .call f_arena_Arena_Uses [(.pointer x33.1)] (.one (.leaf (.int .i64))) fun x97 =>
    .loop 1216 t_magpielaw12_HazardScans_L2_sh [(.bool false), (.int .i64 0)] (t_magpielaw12_HazardScans_L2 x26 x29 x33 x12 x15 x93 x97))

@[reducible] def t_magpielaw12_HazardScans_L1_sh : List Sh1 := [(.leaf (.int .i64))]
noncomputable def t_magpielaw12_HazardScans_L1 (p2 : Sl) (x26 : Int) (x29 : Int) (x33 : HL Sh1.T [(.leaf .ptr), (.agg [(.int .i64), (.int .i64), (.int .i64), (.int .i64), (.int .i64)]), (.agg [(.int .i64), (.int .i64)]), (.leaf .slice)]) (x12 : Addr) (x13 : Addr) (x15 : Addr) (y1 : HL Sh1.T t_magpielaw12_HazardScans_L1_sh) : Tree :=
  bif (decide ((y1.1 : Int) < ((p2.len : Nat) : Int))) then (
    bif (decide ((y1.1 : Int) < (w64 ((w64 (1 + x26)) * 2)))) then (
      .look (opS Try.prog (.indexAddr ty_s_int (.tmp 0) (.tmp 1)) ty_unit [(.slice p2.a p2.len p2.cap), (.int .i64 y1.1)]) (.one (.leaf .addr)) fun x63 =>
      .ld x63 (.int .i64) fun x64 =>
      .qcall f_magpielaw00_Place [(.int .i64 x64), (.int .i64 1048576)] (.one (.leaf (.int .i64))) fun x65 =>
      bif (((Int.tmod x65 2) : Int) == 0) then (
        .look (opS Try.prog (.binOp .rem ty_int (.tmp 0) (.tmp 1) ty_int) ty_int [(.int .i64 (w64 (Int.tdiv x65 2))), (.int .i64 x29)]) (.one (.leaf (.int .i64))) fun x72 =>
        .look (opS Try.prog (.indexAddr ty_a20_bool (.tmp 0) (.tmp 1)) ty_unit [(.pointer (some x15)), (.int .i64 x72)]) (.one (.leaf .addr)) fun x74 =>
        .st x74 (.bool true) <|
        .ldA x13 [(.int .i64), (.int .i64)] fun x76 =>
        .qcall f_hazard_Table_Word [(.agg #[(.int .i64 x76.1), (.int .i64 x76.2.1)]), (.int .i64 (w64 (Int.tdiv y1.1 2))), (.int .i64 (Int.tmod y1.1 2))] (.one (.leaf (.int .i64))) fun x81 =>
        .look (opS Try.prog (.indexAddr ty_s_int (.tmp 0) (.tmp 1)) ty_unit [(.slice x33.2.2.2.1.a x33.2.2.2.1.len x33.2.2.2.1.cap), (.int .i64 x72)]) (.one (.leaf .addr)) fun x84 =>
        .ld x84 (.int .i64) fun x85 =>
        .call f_arena_Arena_SetRaw [(.pointer x33.1), (.int .i64 x81), (.int .i64 x85)] .unit fun _ =>
        .again 448 [(.int .i64 (w64 (y1.1 + 1)))])
      else (
        .again 448 [(.int .i64 (w64 (y1.1 + 1)))]))
    else (
      t_magpielaw12_HazardScans_J11 x26 x29 x33 x12 x13 x15))
  else (
    t_magpielaw12_HazardScans_J11 x26 x29 x33 x12 x13 x15)
noncomputable def t_magpielaw12_HazardScans (p0 : Int) (p1 : Int) (p2 : Sl) (p3 : Bool) : Tree :=
  .qcall f_magpielaw00_Place [(.int .i64 p0), (.int .i64 8)] (.one (.leaf (.int .i64))) fun x26 =>
  .qcall f_magpielaw00_Place [(.int .i64 p1), (.int .i64 20)] (.one (.leaf (.int .i64))) fun x29 =>
  .call f_magpielaw12_make1 [(.int .i64 (w64 (1 + x26))), (.int .i64 x29)] (.tup [(.leaf .ptr), (.agg [(.int .i64), (.int .i64), (.int .i64), (.int .i64), (.int .i64)]), (.agg [(.int .i64), (.int .i64)]), (.leaf .slice)]) fun x33 =>
  .newP (.cells #[(.int .i64 0), (.int .i64 0), (.int .i64 0), (.int .i64 0), (.int .i64 0)] ty_free_Place) fun x12 =>
  .newP (.cells #[(.int .i64 0), (.int .i64 0)] ty_hazard_Table) fun x13 =>
  .stA x12 [(.int .i64 x33.2.1.1), (.int .i64 x33.2.1.2.1), (.int .i64 x33.2.1.2.2.1), (.int .i64 x33.2.1.2.2.2.1), (.int .i64 x33.2.1.2.2.2.2.1)] <|
  .stA x13 [(.int .i64 x33.2.2.1.1), (.int .i64 x33.2.2.1.2.1)] <|
  bif ((x29 : Int) == 0) then (
    bif ((x29 : Int) == 0) then (
      .call f_magpielaw12_awake [] (.one (.leaf .bool)) fun x47 =>
      .ret (.bool x47))
    else (
      .ret (.bool false)))
  else (
    .look (opS Try.prog (.binOp .eql ty_p_arena_Arena (.tmp 0) (.const (.pointer none)) ty_p_arena_Arena) ty_bool [(.pointer x33.1)]) (.one (.leaf .bool)) fun x42 =>
    bif x42 then (
      bif ((x29 : Int) == 0) then (
        .call f_magpielaw12_awake [] (.one (.leaf .bool)) fun x47 =>
        .ret (.bool x47))
      else (
        .ret (.bool false)))
    else (
      .newP (.cells #[(.bool false), (.bool false), (.bool false), (.bool false), (.bool false), (.bool false), (.bool false), (.bool false), (.bool false), (.bool false), (.bool false), (.bool false), (.bool false), (.bool false), (.bool false), (.bool false), (.bool false), (.bool false), (.bool false), (.bool false)] ty_a20_bool) fun x15 =>
      .loop 448 t_magpielaw12_HazardScans_L1_sh [(.int .i64 0)] (t_magpielaw12_HazardScans_L1 p2 x26 x29 x33 x12 x13 x15)))
theorem t_magpielaw12_HazardScans_eq (p0 : Int) (p1 : Int) (p2 : Sl) (p3 : Bool) : funcTree Try.prog { quiet := [16, 22, 23, 34, 35, 48, 49, 53, 57, 58, 59, 62, 105], quietTmp := true, fncs := [], ifcs := [] } Try.f10 [(.int .i64 p0), (.int .i64 p1), (.slice p2.a p2.len p2.cap), (.bool p3)] = t_magpielaw12_HazardScans p0 p1 p2 p3 := by kernel_rfl
theorem t_magpielaw12_HazardScans_spec {p0 : Int} {p1 : Int} {p2 : Sl} {p3 : Bool} {H : Heap} {R : Value → Heap → Prop} (h : ∀ L, wp Try.prog (t_magpielaw12_HazardScans p0 p1 p2 p3) L H R) : SpecF Try.prog f_magpielaw12_HazardScans #[(.int .i64 p0), (.int .i64 p1), (.slice p2.a p2.len p2.cap), (.bool p3)] H R :=
  spec_of_tree (cfg := { quiet := [16, 22, 23, 34, 35, 48, 49, 53, 57, 58, 59, 62, 105], quietTmp := true, fncs := [], ifcs := [] }) Try.func10 fun L => (t_magpielaw12_HazardScans_eq p0 p1 p2 p3).symm ▸ h L

/- magpie/magpielaw12.HazardKeeps -/
noncomputable def t_magpielaw12_HazardKeeps_J1 (y1 : HL Sh1.T [(.leaf .bool), (.leaf .ptr), (.leaf .ptr), (.leaf .slice), (.leaf (.int .i64))]) (x210 : Bool) : Tree :=
  bif x210 then (
    .ret (.bool false))
  else (
    .again 896 [(.bool y1.1), (.pointer y1.2.1), (.pointer y1.2.2.1), (.slice y1.2.2.2.1.a y1.2.2.2.1.len y1.2.2.2.1.cap), (.int .i64 (w64 (y1.2.2.2.2.1 + 1)))])

noncomputable def t_magpielaw12_HazardKeeps_J4 (y1 : HL Sh1.T [(.leaf .bool), (.leaf .ptr), (.leaf .ptr), (.leaf .slice), (.leaf (.int .i64))]) (x129 : Sl) (x140 : Option Addr) (x210 : Bool) : Tree :=
  bif x210 then (
    .ret (.bool false))
  else (
    .again 896 [(.bool y1.1), (.pointer none), (.pointer x140), (.slice x129.a x129.len x129.cap), (.int .i64 (w64 (y1.2.2.2.2.1 + 1)))])

noncomputable def t_magpielaw12_HazardKeeps_J8 (y1 : HL Sh1.T [(.leaf .bool), (.leaf .ptr), (.leaf .ptr), (.leaf .slice), (.leaf (.int .i64))]) (x140 : Option Addr) (x210 : Bool) : Tree :=
  bif x210 then (
    .ret (.bool false))
  else (
    .again 896 [(.bool y1.1), (.pointer none), (.pointer x140), (.slice y1.2.2.2.1.a y1.2.2.2.1.len y1.2.2.2.1.cap), (.int .i64 (w64 (y1.2.2.2.2.1 + 1)))])

noncomputable def t_magpielaw12_HazardKeeps_J9 (x6 : Addr) (x8 : Addr) (x41 : Option Addr) (y1 : HL Sh1.T [(.leaf .bool), (.leaf .ptr), (.leaf .ptr), (.leaf .slice), (.leaf (.int .i64))]) : Tree :=
  .ldA x8 [(.int .i64), (.int .i64)] fun x137 =>
  .ldA x6 [(.int .i64), (.int .i64), (.int .i64), (.int .i64), (.int .i64)] fun x138 =>
  .call f_hazard_NewScan [(.agg #[(.int .i64 x137.1), (.int .i64 x137.2.1)]), (.agg #[(.int .i64 x138.1), (.int .i64 x138.2.1), (.int .i64 x138.2.2.1), (.int .i64 x138.2.2.2.1), (.int .i64 x138.2.2.2.2.1)]), (.int .i64 0), (.slice y1.2.2.2.1.a y1.2.2.2.1.len y1.2.2.2.1.cap)] (.one (.leaf .ptr)) fun x140 =>
  .call f_arena_Arena_Fault [(.pointer x41)] (.one (.leaf .bool)) fun x210 =>
  t_magpielaw12_HazardKeeps_J8 y1 x140 x210

noncomputable def t_magpielaw12_HazardKeeps_J11 (x6 : Addr) (x8 : Addr) (x41 : Option Addr) (y1 : HL Sh1.T [(.leaf .bool), (.leaf .ptr), (.leaf .ptr), (.leaf .slice), (.leaf (.int .i64))]) (x104 : HL Sh1.T [(.leaf (.int .i64)), (.leaf .bool)]) : Tree :=
  bif (!x104.2.1) then (
    .ldA x8 [(.int .i64), (.int .i64)] fun x137 =>
    .ldA x6 [(.int .i64), (.int .i64), (.int .i64), (.int .i64), (.int .i64)] fun x138 =>
    .call f_hazard_NewScan [(.agg #[(.int .i64 x137.1), (.int .i64 x137.2.1)]), (.agg #[(.int .i64 x138.1), (.int .i64 x138.2.1), (.int .i64 x138.2.2.1), (.int .i64 x138.2.2.2.1), (.int .i64 x138.2.2.2.2.1)]), (.int .i64 0), (.slice y1.2.2.2.1.a y1.2.2.2.1.len y1.2.2.2.1.cap)] (.one (.leaf .ptr)) fun x140 =>
    .call f_arena_Arena_Fault [(.pointer x41)] (.one (.leaf .bool)) fun x210 =>
    t_magpielaw12_HazardKeeps_J8 y1 x140 x210)
  else (
    .call f_arena_Arena_Fault [(.pointer x41)] (.one (.leaf .bool)) fun x210 =>
    bif x210 then (
      .ret (.bool false))
    else (
      .again 896 [(.bool y1.1), (.pointer none), (.pointer y1.2.2.1), (.slice y1.2.2.2.1.a y1.2.2.2.1.len y1.2.2.2.1.cap), (.int .i64 (w64 (y1.2.2.2.2.1 + 1)))]))

noncomputable def t_magpielaw12_HazardKeeps_J26 (x28 : HL Sh1.T [(.agg [(.int .i64), (.int .i64), (.int .i64), (.int .i64), (.int .i64)]), (.leaf (.int .i64))]) (x6 : Addr) (x34 : HL Sh1.T [(.agg [(.int .i64), (.int .i64)]), (.leaf (.int .i64))]) (x8 : Addr) (x41 : Option Addr) (x12 : Addr) (x13 : Addr) (y1 : HL Sh1.T [(.leaf .bool), (.leaf .ptr), (.leaf .ptr), (.leaf .slice), (.leaf (.int .i64))]) (x66 : Int) : Tree :=
  bif ((x66 : Int) == 0) then (
    .call f_slab_Alloc_Step [(.pointer y1.2.1), (.pointer x41)] (.one (.leaf .bool)) fun x100 =>
    bif (!x100) then (
      .again 896 [(.bool y1.1), (.pointer y1.2.1), (.pointer y1.2.2.1), (.slice y1.2.2.2.1.a y1.2.2.2.1.len y1.2.2.2.1.cap), (.int .i64 (w64 (y1.2.2.2.2.1 + 1)))])
    else (
      .call f_slab_Alloc_Handle [(.pointer y1.2.1)] (.tup [(.leaf (.int .i64)), (.leaf .bool)]) fun x104 =>
      bif x104.2.1 then (
        .call f_arena_Arena_Store [(.pointer x41), (.int .i64 x104.1), (.int .i64 0), (.int .i64 x104.1)] .unit fun _ =>
        .call f_arena_Arena_Raw [(.pointer x41), (.int .i64 (w64 (x28.2.1 + x34.2.1)))] (.one (.leaf (.int .i64))) fun x114 =>
        .call f_arena_Arena_SetRaw [(.pointer x41), (.int .i64 (w64 (x28.2.1 + x34.2.1))), (.int .i64 x104.1)] .unit fun _ =>
        bif ((x114 : Int) != 0) then (
          .call f_arena_Arena_Retire [(.pointer x41), (.int .i64 x114)] (.one (.leaf .bool)) fun x124 =>
          bif x124 then (
            .newS (.cells #[(.int .i64 x114)] ty_int) 1 fun x128 =>
            .act (opS Try.prog (.call { callee := .builtin .append, args := #[(.tmp 0), (.tmp 1)], argTypes := #[ty_s_int, ty_s_int] }) ty_s_int [(.slice y1.2.2.2.1.a y1.2.2.2.1.len y1.2.2.2.1.cap), (.slice x128.a x128.len x128.cap)]) (.one (.leaf .slice)) fun x129 =>
            bif (decide ((((x129.len : Nat) : Int) : Int) > 3)) then (
              .ldA x8 [(.int .i64), (.int .i64)] fun x137 =>
              .ldA x6 [(.int .i64), (.int .i64), (.int .i64), (.int .i64), (.int .i64)] fun x138 =>
              .call f_hazard_NewScan [(.agg #[(.int .i64 x137.1), (.int .i64 x137.2.1)]), (.agg #[(.int .i64 x138.1), (.int .i64 x138.2.1), (.int .i64 x138.2.2.1), (.int .i64 x138.2.2.2.1), (.int .i64 x138.2.2.2.2.1)]), (.int .i64 0), (.slice x129.a x129.len x129.cap)] (.one (.leaf .ptr)) fun x140 =>
              .call f_arena_Arena_Fault [(.pointer x41)] (.one (.leaf .bool)) fun x210 =>
              t_magpielaw12_HazardKeeps_J4 y1 x129 x140 x210)
            else (
              bif (!x104.2.1) then (
                .ldA x8 [(.int .i64), (.int .i64)] fun x137 =>
                .ldA x6 [(.int .i64), (.int .i64), (.int .i64), (.int .i64), (.int .i64)] fun x138 =>
                .call f_hazard_NewScan [(.agg #[(.int .i64 x137.1), (.int .i64 x137.2.1)]), (.agg #[(.int .i64 x138.1), (.int .i64 x138.2.1), (.int .i64 x138.2.2.1), (.int .i64 x138.2.2.2.1), (.int .i64 x138.2.2.2.2.1)]), (.int .i64 0), (.slice x129.a x129.len x129.cap)] (.one (.leaf .ptr)) fun x140 =>
                .call f_arena_Arena_Fault [(.pointer x41)] (.one (.leaf .bool)) fun x210 =>
                t_magpielaw12_HazardKeeps_J4 y1 x129 x140 x210)
              else (
                .call f_arena_Arena_Fault [(.pointer x41)] (.one (.leaf .bool)) fun x210 =>
                bif x210 then (
                  .ret (.bool false))
                else (
                  .again 896 [(.bool y1.1), (.pointer none), (.pointer y1.2.2.1), (.slice x129.a x129.len x129.cap), (.int .i64 (w64 (y1.2.2.2.2.1 + 1)))]))))
          else (
            bif (decide ((((y1.2.2.2.1.len : Nat) : Int) : Int) > 3)) then (
              t_magpielaw12_HazardKeeps_J9 x6 x8 x41 y1)
            else (
              t_magpielaw12_HazardKeeps_J11 x6 x8 x41 y1 x104)))
        else (
          bif (decide ((((y1.2.2.2.1.len : Nat) : Int) : Int) > 3)) then (
            t_magpielaw12_HazardKeeps_J9 x6 x8 x41 y1)
          else (
            t_magpielaw12_HazardKeeps_J11 x6 x8 x41 y1 x104)))
      else (
        bif (decide ((((y1.2.2.2.1.len : Nat) : Int) : Int) > 3)) then (
          t_magpielaw12_HazardKeeps_J9 x6 x8 x41 y1)
        else (
          t_magpielaw12_HazardKeeps_J11 x6 x8 x41 y1 x104))))
  else (
    .look (opS Try.prog (.indexAddr ty_a7_int (.tmp 0) (.tmp 1)) ty_unit [(.pointer (some x12)), (.int .i64 x66)]) (.one (.leaf .addr)) fun x143 =>
    .ld x143 (.int .i64) fun x144 =>
    bif ((x144 : Int) == 0) then (
      .call f_arena_Arena_Raw [(.pointer x41), (.int .i64 (w64 (x28.2.1 + x34.2.1)))] (.one (.leaf (.int .i64))) fun x149 =>
      .look (opS Try.prog (.indexAddr ty_a7_int (.tmp 0) (.tmp 1)) ty_unit [(.pointer (some x13)), (.int .i64 x66)]) (.one (.leaf .addr)) fun x150 =>
      .st x150 (.int .i64 x149) <|
      .look (opS Try.prog (.indexAddr ty_a7_int (.tmp 0) (.tmp 1)) ty_unit [(.pointer (some x12)), (.int .i64 x66)]) (.one (.leaf .addr)) fun x152 =>
      .st x152 (.int .i64 1) <|
      .call f_arena_Arena_Fault [(.pointer x41)] (.one (.leaf .bool)) fun x210 =>
      t_magpielaw12_HazardKeeps_J1 y1 x210)
    else (
      .look (opS Try.prog (.indexAddr ty_a7_int (.tmp 0) (.tmp 1)) ty_unit [(.pointer (some x12)), (.int .i64 x66)]) (.one (.leaf .addr)) fun x155 =>
      .ld x155 (.int .i64) fun x156 =>
      bif ((x156 : Int) == 1) then (
        .ldA x8 [(.int .i64), (.int .i64)] fun x159 =>
        .qcall f_hazard_Table_Word [(.agg #[(.int .i64 x159.1), (.int .i64 x159.2.1)]), (.int .i64 x66), (.int .i64 0)] (.one (.leaf (.int .i64))) fun x161 =>
        .look (opS Try.prog (.indexAddr ty_a7_int (.tmp 0) (.tmp 1)) ty_unit [(.pointer (some x13)), (.int .i64 x66)]) (.one (.leaf .addr)) fun x163 =>
        .ld x163 (.int .i64) fun x164 =>
        .call f_arena_Arena_SetRaw [(.pointer x41), (.int .i64 x161), (.int .i64 x164)] .unit fun _ =>
        .look (opS Try.prog (.indexAddr ty_a7_int (.tmp 0) (.tmp 1)) ty_unit [(.pointer (some x12)), (.int .i64 x66)]) (.one (.leaf .addr)) fun x167 =>
        .st x167 (.int .i64 2) <|
        .call f_arena_Arena_Fault [(.pointer x41)] (.one (.leaf .bool)) fun x210 =>
        t_magpielaw12_HazardKeeps_J1 y1 x210)
      else (
        .look (opS Try.prog (.indexAddr ty_a7_int (.tmp 0) (.tmp 1)) ty_unit [(.pointer (some x12)), (.int .i64 x66)]) (.one (.leaf .addr)) fun x170 =>
        .ld x170 (.int .i64) fun x171 =>
        bif ((x171 : Int) == 2) then (
          .look (opS Try.prog (.indexAddr ty_a7_int (.tmp 0) (.tmp 1)) ty_unit [(.pointer (some x12)), (.int .i64 x66)]) (.one (.leaf .addr)) fun x174 =>
          .st x174 (.int .i64 0) <|
          .look (opS Try.prog (.indexAddr ty_a7_int (.tmp 0) (.tmp 1)) ty_unit [(.pointer (some x13)), (.int .i64 x66)]) (.one (.leaf .addr)) fun x179 =>
          .ld x179 (.int .i64) fun x180 =>
          .call f_arena_Arena_Raw [(.pointer x41), (.int .i64 (w64 (x28.2.1 + x34.2.1)))] (.one (.leaf (.int .i64))) fun x177 =>
          .check (ldS x179) (.int .i64 x180) <|
          .check (opS Try.prog (.indexAddr ty_a7_int (.tmp 0) (.tmp 1)) ty_unit [(.pointer (some x13)), (.int .i64 x66)]) (.pointer (some x179)) <|
          bif ((x177 : Int) == x180) then (
            .look (opS Try.prog (.indexAddr ty_a7_int (.tmp 0) (.tmp 1)) ty_unit [(.pointer (some x13)), (.int .i64 x66)]) (.one (.leaf .addr)) fun x184 =>
            .ld x184 (.int .i64) fun x185 =>
            bif ((x185 : Int) != 0) then (
              .look (opS Try.prog (.indexAddr ty_a7_int (.tmp 0) (.tmp 1)) ty_unit [(.pointer (some x12)), (.int .i64 x66)]) (.one (.leaf .addr)) fun x189 =>
              .st x189 (.int .i64 3) <|
              .call f_arena_Arena_Fault [(.pointer x41)] (.one (.leaf .bool)) fun x210 =>
              t_magpielaw12_HazardKeeps_J1 y1 x210)
            else (
              .call f_arena_Arena_Fault [(.pointer x41)] (.one (.leaf .bool)) fun x210 =>
              t_magpielaw12_HazardKeeps_J1 y1 x210))
          else (
            .call f_arena_Arena_Fault [(.pointer x41)] (.one (.leaf .bool)) fun x210 =>
            t_magpielaw12_HazardKeeps_J1 y1 x210))
        else (
          .look (opS Try.prog (.indexAddr ty_a7_int (.tmp 0) (.tmp 1)) ty_unit [(.pointer (some x12)), (.int .i64 x66)]) (.one (.leaf .addr)) fun x192 =>
          .ld x192 (.int .i64) fun x193 =>
          bif (decide ((x193 : Int) < 6)) then (
            .look (opS Try.prog (.indexAddr ty_a7_int (.tmp 0) (.tmp 1)) ty_unit [(.pointer (some x13)), (.int .i64 x66)]) (.one (.leaf .addr)) fun x197 =>
            .ld x197 (.int .i64) fun x198 =>
            .look (opS Try.prog (.indexAddr ty_a7_int (.tmp 0) (.tmp 1)) ty_unit [(.pointer (some x13)), (.int .i64 x66)]) (.one (.leaf .addr)) fun x201 =>
            .ld x201 (.int .i64) fun x202 =>
            .call f_arena_Arena_Load [(.pointer x41), (.int .i64 x198), (.int .i64 0)] (.one (.leaf (.int .i64))) fun x199 =>
            .check (ldS x201) (.int .i64 x202) <|
            .check (opS Try.prog (.indexAddr ty_a7_int (.tmp 0) (.tmp 1)) ty_unit [(.pointer (some x13)), (.int .i64 x66)]) (.pointer (some x201)) <|
            bif ((x199 : Int) != x202) then (
              .ret (.bool false))
            else (
              .look (opS Try.prog (.indexAddr ty_a7_int (.tmp 0) (.tmp 1)) ty_unit [(.pointer (some x12)), (.int .i64 x66)]) (.one (.leaf .addr)) fun x205 =>
              .ld x205 (.int .i64) fun x206 =>
              .look (opS Try.prog (.indexAddr ty_a7_int (.tmp 0) (.tmp 1)) ty_unit [(.pointer (some x12)), (.int .i64 x66)]) (.one (.leaf .addr)) fun x208 =>
              .st x208 (.int .i64 (w64 (x206 + 1))) <|
              .call f_arena_Arena_Fault [(.pointer x41)] (.one (.leaf .bool)) fun x210 =>
              t_magpielaw12_HazardKeeps_J1 y1 x210))
          else (
            .ldA x8 [(.int .i64), (.int .i64)] fun x68 =>
            .qcall f_hazard_Table_Word [(.agg #[(.int .i64 x68.1), (.int .i64 x68.2.1)]), (.int .i64 x66), (.int .i64 0)] (.one (.leaf (.int .i64))) fun x70 =>
            .call f_arena_Arena_SetRaw [(.pointer x41), (.int .i64 x70), (.int .i64 0)] .unit fun _ =>
            .look (opS Try.prog (.indexAddr ty_a7_int (.tmp 0) (.tmp 1)) ty_unit [(.pointer (some x12)), (.int .i64 x66)]) (.one (.leaf .addr)) fun x73 =>
            .st x73 (.int .i64 0) <|
            .call f_arena_Arena_Fault [(.pointer x41)] (.one (.leaf .bool)) fun x210 =>
            t_magpielaw12_HazardKeeps_J1 y1 x210)))))

noncomputable def t_magpielaw12_HazardKeeps_J27 (x28 : HL Sh1.T [(.agg [(.int .i64), (.int .i64), (.int .i64), (.int .i64), (.int .i64)]), (.leaf (.int .i64))]) (x6 : Addr) (x34 : HL Sh1.T [(.agg [(.int .i64), (.int .i64)]), (.leaf (.int .i64))]) (x8 : Addr) (x41 : Option Addr) (x12 : Addr) (x13 : Addr) (y1 : HL Sh1.T [(.leaf .bool), (.leaf .ptr), (.leaf .ptr), (.leaf .slice), (.leaf (.int .i64))]) (x66 : Int) (x91 : Bool) : Tree :=
  bif x91 then (
    .ldA x6 [(.int .i64), (.int .i64), (.int .i64), (.int .i64), (.int .i64)] fun x93 =>
    .call f_slab_NewAlloc [(.agg #[(.int .i64 x93.1), (.int .i64 x93.2.1), (.int .i64 x93.2.2.1), (.int .i64 x93.2.2.2.1), (.int .i64 x93.2.2.2.2.1)]), (.int .i64 0), (.int .i64 0)] (.one (.leaf .ptr)) fun x94 =>
    .call f_arena_Arena_Fault [(.pointer x41)] (.one (.leaf .bool)) fun x210 =>
    bif x210 then (
      .ret (.bool false))
    else (
      .again 896 [(.bool y1.1), (.pointer x94), (.pointer y1.2.2.1), (.slice y1.2.2.2.1.a y1.2.2.2.1.len y1.2.2.2.1.cap), (.int .i64 (w64 (y1.2.2.2.2.1 + 1)))]))
  else (
    t_magpielaw12_HazardKeeps_J26 x28 x6 x34 x8 x41 x12 x13 y1 x66)

noncomputable def t_magpielaw12_HazardKeeps_J32 (y1 : HL Sh1.T [(.leaf .bool), (.leaf .ptr), (.leaf .ptr), (.leaf .slice), (.leaf (.int .i64))]) : Tree :=
  bif (decide ((((y1.2.2.2.1.len : Nat) : Int) : Int) < 50)) then (
    .call f_magpielaw12_awake [] (.one (.leaf .bool)) fun x215 =>
    .ret (.bool x215))
  else (
    .ret (.bool false))

@[reducible] def t_magpielaw12_HazardKeeps_L1_sh : List Sh1 := [(.leaf .bool), (.leaf .ptr), (.leaf .ptr), (.leaf .slice), (.leaf (.int .i64))]
noncomputable def t_magpielaw12_HazardKeeps_L1 (p1 : Sl) (x24 : Int) (x28 : HL Sh1.T [(.agg [(.int .i64), (.int .i64), (.int .i64), (.int .i64), (.int .i64)]), (.leaf (.int .i64))]) (x6 : Addr) (x34 : HL Sh1.T [(.agg [(.int .i64), (.int .i64)]), (.leaf (.int .i64))]) (x8 : Addr) (x41 : Option Addr) (x12 : Addr) (x13 : Addr) (y1 : HL Sh1.T t_magpielaw12_HazardKeeps_L1_sh) : Tree :=
  bif (decide ((y1.2.2.2.2.1 : Int) < ((p1.len : Nat) : Int))) then (
    bif (decide ((y1.2.2.2.2.1 : Int) < 600)) then (
      .look (opS Try.prog (.indexAddr ty_s_int (.tmp 0) (.tmp 1)) ty_unit [(.slice p1.a p1.len p1.cap), (.int .i64 y1.2.2.2.2.1)]) (.one (.leaf .addr)) fun x61 =>
      .ld x61 (.int .i64) fun x62 =>
      .qcall f_magpielaw00_Place [(.int .i64 x62), (.int .i64 1048576)] (.one (.leaf (.int .i64))) fun x63 =>
      .look (opS Try.prog (.binOp .rem ty_int (.tmp 0) (.tmp 1) ty_int) ty_int [(.int .i64 x63), (.int .i64 (w64 (2 + x24)))]) (.one (.leaf (.int .i64))) fun x66 =>
      bif ((x66 : Int) == 0) then (
        .look (opS Try.prog (.binOp .neq ty_p_hazard_Scan (.tmp 0) (.const (.pointer none)) ty_p_hazard_Scan) ty_bool [(.pointer y1.2.2.1)]) (.one (.leaf .bool)) fun x79 =>
        bif x79 then (
          .call f_hazard_Scan_Step [(.pointer y1.2.2.1), (.pointer x41)] (.one (.leaf .bool)) fun x83 =>
          bif x83 then (
            .call f_hazard_Scan_Left [(.pointer y1.2.2.1)] (.one (.leaf .slice)) fun x85 =>
            .call f_arena_Arena_Fault [(.pointer x41)] (.one (.leaf .bool)) fun x210 =>
            bif x210 then (
              .ret (.bool false))
            else (
              .again 896 [(.bool y1.1), (.pointer y1.2.1), (.pointer none), (.slice x85.a x85.len x85.cap), (.int .i64 (w64 (y1.2.2.2.2.1 + 1)))]))
          else (
            .call f_arena_Arena_Fault [(.pointer x41)] (.one (.leaf .bool)) fun x210 =>
            t_magpielaw12_HazardKeeps_J1 y1 x210))
        else (
          bif ((x66 : Int) == 0) then (
            .look (opS Try.prog (.binOp .eql ty_p_slab_Alloc (.tmp 0) (.const (.pointer none)) ty_p_slab_Alloc) ty_bool [(.pointer y1.2.1)]) (.one (.leaf .bool)) fun x91 =>
            t_magpielaw12_HazardKeeps_J27 x28 x6 x34 x8 x41 x12 x13 y1 x66 x91)
          else (
            t_magpielaw12_HazardKeeps_J26 x28 x6 x34 x8 x41 x12 x13 y1 x66)))
      else (
        bif ((x66 : Int) == 0) then (
          .look (opS Try.prog (.binOp .eql ty_p_slab_Alloc (.tmp 0) (.const (.pointer none)) ty_p_slab_Alloc) ty_bool [(.pointer y1.2.1)]) (.one (.leaf .bool)) fun x91 =>
          t_magpielaw12_HazardKeeps_J27 x28 x6 x34 x8 x41 x12 x13 y1 x66 x91)
        else (
          t_magpielaw12_HazardKeeps_J26 x28 x6 x34 x8 x41 x12 x13 y1 x66)))
    else (
      t_magpielaw12_HazardKeeps_J32 y1))
  else (
    t_magpielaw12_HazardKeeps_J32 y1)
noncomputable def t_magpielaw12_HazardKeeps (p0 : Int) (p1 : Sl) : Tree :=
  .qcall f_magpielaw00_Place [(.int .i64 p0), (.int .i64 5)] (.one (.leaf (.int .i64))) fun x24 =>
  .call f_free_Raw [(.int .i64 (w64 (2 + x24))), (.int .i64 400)] (.tup [(.agg [(.int .i64), (.int .i64), (.int .i64), (.int .i64), (.int .i64)]), (.leaf (.int .i64))]) fun x28 =>
  .newP (.cells #[(.int .i64 0), (.int .i64 0), (.int .i64 0), (.int .i64 0), (.int .i64 0)] ty_free_Place) fun x6 =>
  .stA x6 [(.int .i64 x28.1.1), (.int .i64 x28.1.2.1), (.int .i64 x28.1.2.2.1), (.int .i64 x28.1.2.2.2.1), (.int .i64 x28.1.2.2.2.2.1)] <|
  .qcall f_hazard_Raw [(.int .i64 (w64 (2 + x24))), (.int .i64 x28.2.1)] (.tup [(.agg [(.int .i64), (.int .i64)]), (.leaf (.int .i64))]) fun x34 =>
  .newP (.cells #[(.int .i64 0), (.int .i64 0)] ty_hazard_Table) fun x8 =>
  .stA x8 [(.int .i64 x34.1.1), (.int .i64 x34.1.2.1)] <|
  .call f_arena_New [(.int .i64 (w64 ((w64 (x28.2.1 + x34.2.1)) + 1))), (.int .i64 400), (.bool false)] (.one (.leaf .ptr)) fun x41 =>
  .look (opS Try.prog (.binOp .eql ty_p_arena_Arena (.tmp 0) (.const (.pointer none)) ty_p_arena_Arena) ty_bool [(.pointer x41)]) (.one (.leaf .bool)) fun x46 =>
  bif x46 then (
    .ret (.bool false))
  else (
    .newP (.cells #[(.int .i64 0), (.int .i64 0), (.int .i64 0), (.int .i64 0), (.int .i64 0), (.int .i64 0), (.int .i64 0)] ty_a7_int) fun x12 =>
    .stA x12 [(.int .i64 0), (.int .i64 0), (.int .i64 0), (.int .i64 0), (.int .i64 0), (.int .i64 0), (.int .i64 0)] <|
    .newP (.cells #[(.int .i64 0), (.int .i64 0), (.int .i64 0), (.int .i64 0), (.int .i64 0), (.int .i64 0), (.int .i64 0)] ty_a7_int) fun x13 =>
    .stA x13 [(.int .i64 0), (.int .i64 0), (.int .i64 0), (.int .i64 0), (.int .i64 0), (.int .i64 0), (.int .i64 0)] <|
    .loop 896 t_magpielaw12_HazardKeeps_L1_sh [(.bool false), (.pointer none), (.pointer none), (.slice none 0 0), (.int .i64 0)] (t_magpielaw12_HazardKeeps_L1 p1 x24 x28 x6 x34 x8 x41 x12 x13))
theorem t_magpielaw12_HazardKeeps_eq (p0 : Int) (p1 : Sl) : funcTree Try.prog { quiet := [16, 22, 23, 34, 35, 48, 49, 53, 57, 58, 59, 62, 105], quietTmp := true, fncs := [], ifcs := [] } Try.f11 [(.int .i64 p0), (.slice p1.a p1.len p1.cap)] = t_magpielaw12_HazardKeeps p0 p1 := by kernel_rfl
theorem t_magpielaw12_HazardKeeps_spec {p0 : Int} {p1 : Sl} {H : Heap} {R : Value → Heap → Prop} (h : ∀ L, wp Try.prog (t_magpielaw12_HazardKeeps p0 p1) L H R) : SpecF Try.prog f_magpielaw12_HazardKeeps #[(.int .i64 p0), (.slice p1.a p1.len p1.cap)] H R :=
  spec_of_tree (cfg := { quiet := [16, 22, 23, 34, 35, 48, 49, 53, 57, 58, 59, 62, 105], quietTmp := true, fncs := [], ifcs := [] }) Try.func11 fun L => (t_magpielaw12_HazardKeeps_eq p0 p1).symm ▸ h L

end Go.Proofs.Ytfphgiipekkgdaa

set_option linter.unusedVariables false
set_option linter.unusedSimpArgs false
set_option maxRecDepth 20000
namespace Go.Proofs.Ytfphgiipekkgdaa
open Go Go.Fw

/-- Retired slots, and words behind the slab's. -/
structure HZ (I : List Nat) (A : Ar) (w s : Int) (S : Sg) (hs : List Int) (z : Sl) (tl : Bl) : Prop where
  aw : Aw I A
  sl : SL A (plOf w (8 * s)) w (8 * s) S
  fa : A.fault = false
  nR : A.nR = 8 * hs.length
  ln : (hs.length : Int) ≤ s
  hl : SlOf tl ty_int eI z hs
  st : ∀ h ∈ hs, A.stF h = 2 ∧ opC h = 0
  nd : hs.Nodup
  rl : (A.raw.length : Int) = 4 * w + 2 * s + 1 + 2 * w
  wb : 1 ≤ w ∧ w ≤ 9
  sb : 0 ≤ s ∧ s ≤ 20
  nL : A.nL = 0
  nc : S.nc = 8 * s
theorem MK.hz {I : List Nat} {A : Ar} {w s : Int} {S : Sg} {hs : List Int} {z : Sl} {tl : Bl} (M : MK I A w s s S hs z tl) (wb : 1 ≤ w ∧ w ≤ 9) (sb : 0 ≤ s ∧ s ≤ 20) : HZ I A w s S hs z tl :=
  ⟨M.aw, M.sl, M.fa, by rw [M.nR, M.ln], by rw [M.ln]; exact Int.le_refl _, M.hl, fun h hh => ⟨(M.st h hh).1, (M.st h hh).2.1⟩, List.Pairwise.of_map opB (fun a b h e => h (by rw [e])) M.nd, M.rl, wb, sb, M.nL, M.nc⟩
theorem HZ.store {I : List Nat} {A : Ar} {w s : Int} {S : Sg} {hs : List Int} {z : Sl} {tl : Bl} (M : HZ I A w s S hs z tl) {i v : Int} (hA : Aw I (A.storeR i v)) (h : 4 * w + 2 * s < i ∧ i < 4 * w + 2 * s + 1 + 2 * w) (hu : A.uses ≤ 1000000000) :
    HZ I (A.storeR i v) w s S hs z tl ∧ (A.storeR i v).uses = A.uses + 1 ∧ ∀ j, (A.storeR i v).rawF j = if j = i then v else A.rawF j := by
  have sb := M.sb
  have rl := M.rl
  have O := outS M.sl (i := i) (v := v) ⟨by show 4 * w + 2 * ((8 * s + 7) / 8) < i; omega, by omega⟩ hu
  exact ⟨⟨hA, O.sl, O.fa.trans M.fa, O.nR.trans M.nR, M.ln, M.hl, fun h hh => by rw [O.st]; exact M.st h hh, M.nd, by rw [O.rl]; exact M.rl, M.wb, M.sb, O.nL.trans M.nL, M.nc⟩, O.us, O.rf⟩
theorem HZ.nz {I : List Nat} {A : Ar} {w s : Int} {S : Sg} {hs : List Int} {z : Sl} {tl : Bl} (M : HZ I A w s S hs z tl) {h : Int} (hh : h ∈ hs) : h ≠ 0 := stF_ne0 (by rw [(M.st h hh).1]; decide)
theorem eqS (a : Addr) : opS Try.prog (.binOp .eql ty_p_hazard_Scan (.tmp 0) (.const (.pointer none)) ty_p_hazard_Scan) ty_bool [(.pointer (some a))] = .pure (.value (.bool false)) := by kernel_rfl

theorem HZ.scan {I : List Nat} {A : Ar} {w s : Int} {S : Sg} {hs : List Int} {z : Sl} {tl : Bl} (M : HZ I A w s S hs z tl) {who : Int} {xs : List Int} (wh : 0 ≤ who ∧ who < w) (hu : A.uses ≤ 100000) (nd : xs.Nodup) (hx : ∀ h ∈ xs, h ∈ hs) (nr : 8 * xs.length ≤ A.nR) :
    ∃ A' S' m' n, mSc.Runs n (newSc w (4 * w + 2 * s + 1) (plOf w (8 * s)) who xs) A m' A' ∧ n ≤ 2000 ∧ m'.left = lft A w (4 * w + 2 * s + 1) xs ∧ m'.ended = true ∧ Swept (A.later (2 * w)) (plOf w (8 * s)) w (8 * s) S who (gone A w (4 * w + 2 * s + 1) xs) A' S' := by
  have wb := M.wb
  have sb := M.sb
  have rl := M.rl
  have nR := M.nR
  have mln := M.ln
  obtain ⟨A', S', m', n, r, en, q1, q2, q3⟩ := scan_all (tw := w) (ta := 4 * w + 2 * s + 1) (who := who) (xs := xs) M.sl M.aw.wf ⟨by omega, by omega⟩ (by omega) (by omega) (by omega) (by omega) (by omega) wh nd nr fun h hh => M.st h (hx h hh)
  have : (gone A w (4 * w + 2 * s + 1) xs).length ≤ xs.length := List.length_filter_le _ _
  exact ⟨A', S', m', n, r, by omega, q1, q2, q3⟩

theorem part_len (p : Int → Bool) : ∀ l : List Int, (l.filter fun h => !p h).length + (l.filter p).length = l.length
  | [] => rfl
  | x :: l => by
    have := part_len p l
    simp only [List.filter_cons]
    cases p x <;> simp <;> omega
theorem HZ.mono {I : List Nat} {A : Ar} {w s : Int} {S : Sg} {hs : List Int} {z : Sl} {tl tl' : Bl} (M : HZ I A w s S hs z tl) (h : ∀ p, p ∈ tl → p ∈ tl') : HZ I A w s S hs z tl' := ⟨M.aw, M.sl, M.fa, M.nR, M.ln, M.hl.mono h, M.st, M.nd, M.rl, M.wb, M.sb, M.nL, M.nc⟩
/-- Behind a scan of all. -/
theorem HZ.after {I : List Nat} {A A' : Ar} {w s who : Int} {S S' : Sg} {hs : List Int} {z z' : Sl} {tl tl' : Bl} (M : HZ I A w s S hs z tl) (W : Swept (A.later (2 * w)) (plOf w (8 * s)) w (8 * s) S who (gone A w (4 * w + 2 * s + 1) hs) A' S') (hA : Aw I A') (hl : SlOf tl' ty_int eI z' (lft A w (4 * w + 2 * s + 1) hs)) :
    HZ I A' w s S' (lft A w (4 * w + 2 * s + 1) hs) z' tl' := by
  have pl : (gone A w (4 * w + 2 * s + 1) hs).length + (lft A w (4 * w + 2 * s + 1) hs).length = hs.length := part_len _ hs
  have nR := W.nR
  have mR : (A.later (2 * w)).nR = 8 * hs.length := M.nR
  have ln := M.ln
  refine ⟨hA, W.sl, W.off.fa.trans M.fa, by omega, by omega, hl, fun h hh => ?_, M.nd.filter _, ?_, M.wb, M.sb, W.nL.trans M.nL, W.nc.trans M.nc⟩
  · obtain ⟨h1, h2⟩ := List.mem_filter.1 hh
    rw [W.st, if_neg]
    · exact M.st h h1
    · intro hg
      obtain ⟨_, h3⟩ := List.mem_filter.1 hg
      rw [h2] at h3; cases h3
  · rw [W.off.rl]; exact M.rl

theorem HazardOthers_det (p0 : Int) (s : Sl) (zs : List Int) (H : Heap) (hz : RowOf H s.a s.len zs) : Det Try.prog f_magpielaw12_HazardOthers [.int .i64 p0, .slice s.a s.len s.cap] H (.bool true) H := by
  refine t_magpielaw12_HazardOthers_spec (p0 := p0) (p1 := s) fun L => ?_
  unfold t_magpielaw12_HazardOthers
  refine w_Place (by omega) (by omega) ?_
  have a0 := Int.emod_nonneg p0 (b := 6) (by omega)
  have a1 := Int.emod_lt_of_pos p0 (b := 6) (by omega)
  generalize p0 % 6 = a at *
  have e1 : w64 (1 + a) = 1 + a := w64_in (by omega) (by omega)
  rw [e1]
  obtain ⟨w, ew⟩ : ∃ w, w = 1 + a := ⟨_, rfl⟩
  have b1 : 1 ≤ w ∧ w ≤ 6 := by omega
  refine wp_call_of (make1_spec (1 + a) 4 (by omega) (by decide) H) ?_
  rintro v K ⟨A, S, hs, z, tl, rfl, rfl, hI, ok, M⟩
  rw [← ew] at M ⊢
  have us := M.us
  have mrw := M.rw
  have ln := M.ln
  have M := M.hz (by omega) (by decide)
  refine ⟨(aI A.ids, (w, 0, 4 * w, 4 * w + (8 * 4 + 7) / 8, 4 * w + 2 * ((8 * 4 + 7) / 8), ()), (w, 4 * w + 2 * 4 + 1, ()), z, ()), rfl, ?_⟩
  have hA := M.aw
  refine w_newP hA ok fun x7 ok => ?_
  refine w_newP hA ok fun x8 ok => ?_
  refine w_stA 1 hA ok rfl rfl rfl rfl ?_
  refine w_stA 0 hA ok rfl rfl rfl rfl ?_
  refine look_val (x := false) (np_some _) (wp_false rfl ?_)
  have zl := M.hl.len
  refine wp_false (ibnf (by show ((z.len : Nat) : Int) = 4; rw [zl]; exact ln)) ?_
  have ok : Ok A.ids H (keys ((x8, oc ty_hazard_Table (tbC w (4 * w + 2 * 4 + 1))) :: (x7, oc ty_free_Place (plCells (plOf w (8 * 4)))) :: tl)) := ok
  show wp Try.prog _ _ (own A ((x8, oc ty_hazard_Table (tbC w (4 * w + 2 * 4 + 1))) :: (x7, oc ty_free_Place (plCells (plOf w (8 * 4)))) :: tl) H) _
  have zr := M.hl.mono (l' := (x8, oc ty_hazard_Table (tbC w (4 * w + 2 * 4 + 1))) :: (x7, oc ty_free_Place (plCells (plOf w (8 * 4)))) :: tl) fun p hp => List.mem_cons_of_mem _ (List.mem_cons_of_mem _ hp)
  have tail : ∀ {L : Hands} {A' : Ar}, HZ A.ids A' w 4 S hs z tl → A'.uses ≤ 200 → (∀ j, 4 * w + 2 * 4 < j → A'.rawF j ∉ hs) →
      wp Try.prog (t_magpielaw12_HazardOthers_J7 (aI A.ids, (w, 0, 4 * w, 4 * w + (8 * 4 + 7) / 8, 4 * w + 2 * ((8 * 4 + 7) / 8), ()), (w, 4 * w + 2 * 4 + 1, ()), z, ()) ⟨x7, 0, none⟩ ⟨x8, 0, none⟩) L
        (own A' ((x8, oc ty_hazard_Table (tbC w (4 * w + 2 * 4 + 1))) :: (x7, oc ty_free_Place (plCells (plOf w (8 * 4)))) :: tl) H) (fun u K => u = .bool true ∧ K = H) := by
    intro L A' M' u' no
    have hA' := M'.aw
    unfold t_magpielaw12_HazardOthers_J7
    refine w_ldA 0 hA' ok rfl rfl rfl ?_
    refine w_ldA 1 hA' ok rfl rfl rfl ?_
    refine w_NewScan (tw := w) (ta := 4 * w + 2 * 4 + 1) (work := 0) (p := plOf w (8 * 4)) (xs := hs) hA' ok (zr.row hA' ok) zl (by omega) fun j okj rpj => ?_
    refine look_val (x := false) (eqS _) (wp_false rfl ?_)
    obtain ⟨A2, S2, m', n, run, hn, ml, me, W⟩ := M'.scan (who := 0) (xs := hs) ⟨by omega, by omega⟩ (by omega) M'.nd (fun _ h => h) (by rw [M'.nR]; exact Int.le_refl _)
    have eg : gone A' w (4 * w + 2 * 4 + 1) hs = hs := by
      unfold gone
      refine List.filter_eq_self.2 fun h hh => ?_
      cases e : inS (seenN A' (4 * w + 2 * 4 + 1) (2 * w).toNat) h with
      | false => rfl
      | true =>
        obtain ⟨i, i1, i2⟩ := (seenN_in _ _ _ _).1 e
        exact (no (4 * w + 2 * 4 + 1 + (i : Int)) (by omega) (by rw [i2]; exact hh)).elim
    have el : lft A' w (4 * w + 2 * 4 + 1) hs = [] := by
      unfold lft
      refine List.filter_eq_nil_iff.2 fun h hh e => ?_
      obtain ⟨i, i1, i2⟩ := (seenN_in _ _ _ _).1 e
      exact no (4 * w + 2 * 4 + 1 + (i : Int)) (by omega) (by rw [i2]; exact hh)
    rw [eg] at W
    rw [el] at ml
    refine w_runR12 mSc_ok mSc_inv run hn (j := j) hA' okj rpj fun j' ha hA2 ok2 rp2 => ?_
    refine wp_false rfl ?_
    have ha : j'.q = j.q := ha
    rw [← ha]
    refine w_Left hA2 ok2 rp2 me (by rw [ml]; show 0 ≤ 1000; decide) fun s1 tl1 hs1 ok3 => ?_
    rw [ml] at hs1
    refine wp_false (ibnf (by show ((s1.len : Nat) : Int) = 0; rw [hs1.len]; rfl)) ?_
    have zr3 := zr.mono (l' := m'.bl j' ++ (tl1 ++ ((x8, oc ty_hazard_Table (tbC w (4 * w + 2 * 4 + 1))) :: (x7, oc ty_free_Place (plCells (plOf w (8 * 4)))) :: tl))) fun p hp => List.mem_append_right _ (List.mem_append_right _ hp)
    refine wl_bi (fun _ i K => 0 ≤ i ∧ i ≤ 4 ∧ K = own A2 (m'.bl j' ++ (tl1 ++ ((x8, oc ty_hazard_Table (tbC w (4 * w + 2 * 4 + 1))) :: (x7, oc ty_free_Place (plCells (plOf w (8 * 4)))) :: tl))) H) (fun _ i => (4 - i).toNat) false 0 ⟨by omega, by omega, rfl⟩ ?_
    rintro q i K ⟨i0, i1, rfl⟩
    rw [t_magpielaw12_HazardOthers_L3]
    by_cases c : i < 4
    · refine wp_true (decide_eq_true c) ?_
      refine w_rdI hA2 ok3 zr3 i0 (by show i < (hs.length : Int); omega) ?_
      refine w_State hA2 ?_
      have hm : hs.getD i.toNat 0 ∈ hs := by
        rw [List.getD_eq_getElem?_getD, List.getElem?_eq_getElem (show i.toNat < hs.length by omega)]; exact List.getElem_mem _
      refine wp_false (ibnf (by show A2.stF (hs.getD i.toNat 0) = 0; rw [W.st, if_pos hm])) ?_
      have en : w64 (i + 1) = i + 1 := w64_in (by omega) (by omega)
      exact wp_again ⟨q, i + 1, by show [_, Value.int .i64 (w64 (i + 1))] = _; rw [en], ⟨by omega, by omega, rfl⟩, by omega⟩
    · refine wp_false (decide_eq_false c) ?_
      refine w_Fault hA2 ?_
      refine wp_true (by show (!A2.fault) = true; rw [W.off.fa]; show (!A'.fault) = true; rw [M'.fa]; rfl) ?_
      refine wp_call_det (x := true) (awake12_det _) ?_
      exact ⟨H, own_end hA2 ok3 hI, rfl, rfl⟩
  refine wl_i (fun i K => 0 ≤ i ∧ i ≤ 2 * w ∧ ∃ A', HZ A.ids A' w 4 S hs z tl ∧ A'.uses = A.uses + i ∧ (∀ j, 4 * w + 2 * 4 < j → A'.rawF j ∉ hs) ∧ K = own A' ((x8, oc ty_hazard_Table (tbC w (4 * w + 2 * 4 + 1))) :: (x7, oc ty_free_Place (plCells (plOf w (8 * 4)))) :: tl) H) (fun i => (2 * w - i).toNat) 0
    ⟨by omega, by omega, A, M, by omega, fun j hj hm => M.nz hm (mrw j hj), rfl⟩ ?_
  rintro i K ⟨i0, i1, A', M', u', no, rfl⟩
  have hA' := M'.aw
  rw [t_magpielaw12_HazardOthers_L1]
  by_cases c1 : i < ((s.len : Nat) : Int)
  case neg => exact wp_false (decide_eq_false c1) (tail M' (by omega) no)
  refine wp_true (decide_eq_true c1) ?_
  rw [e1, ← ew, w64_in (x := w * 2) (by omega) (by omega)]
  by_cases c2 : i < w * 2
  case neg => exact wp_false (decide_eq_false c2) (tail M' (by omega) no)
  refine wp_true (decide_eq_true c2) ?_
  refine wp_row hz (own_end hA' ok hI) i0 c1 ?_
  refine wl_ii (fun v j K => 0 ≤ j ∧ j ≤ 4 ∧ (∀ k : Nat, (k : Int) < j → v ≠ hs.getD k 0) ∧ K = own A' ((x8, oc ty_hazard_Table (tbC w (4 * w + 2 * 4 + 1))) :: (x7, oc ty_free_Place (plCells (plOf w (8 * 4)))) :: tl) H) (fun _ j => (4 - j).toNat) (zs.getD i.toNat 0) 0 ⟨by omega, by omega, fun k hk => by omega, rfl⟩ ?_
  rintro v j K ⟨j0, j1, hv, rfl⟩
  rw [t_magpielaw12_HazardOthers_L2]
  by_cases c : j < 4
  · refine wp_true (decide_eq_true c) ?_
    refine w_rdI hA' ok zr j0 (by show j < (hs.length : Int); omega) ?_
    have hm : ∀ k : Nat, k < hs.length → hs.getD k 0 ∈ hs := fun k hk => by
      rw [List.getD_eq_getElem?_getD, List.getElem?_eq_getElem hk]; exact List.getElem_mem _
    have en : w64 (j + 1) = j + 1 := w64_in (by omega) (by omega)
    by_cases cv : v = hs.getD j.toNat 0
    · refine wp_true (ibeq cv) ?_
      exact wp_again ⟨0, j + 1, by show [_, Value.int .i64 (w64 (j + 1))] = _; rw [en], ⟨by omega, by omega, fun k hk e => M.nz (hm k (by omega)) e.symm, rfl⟩, by omega⟩
    · refine wp_false (ibef cv) ?_
      refine wp_again ⟨v, j + 1, by show [_, Value.int .i64 (w64 (j + 1))] = _; rw [en], ⟨by omega, by omega, fun k hk => ?_, rfl⟩, by omega⟩
      by_cases e : (k : Int) = j
      · rw [← e] at cv; exact cv
      · exact hv k (by omega)
  · refine wp_false (decide_eq_false c) ?_
    refine w_ldA 0 hA' ok rfl rfl rfl ?_
    have d1 : w64 (Int.tdiv i 2) = i / 2 := by rw [Int.tdiv_eq_ediv_of_nonneg i0, w64_in (by omega) (by omega)]
    have d2 : Int.tmod i 2 = i % 2 := Int.tmod_eq_emod_of_nonneg i0
    show wp Try.prog (.qcall f_hazard_Table_Word [.agg #[.int .i64 w, .int .i64 (4 * w + 2 * 4 + 1)], .int .i64 (w64 (Int.tdiv i 2)), .int .i64 (Int.tmod i 2)] _ _) _ _ _
    rw [d1, d2]
    refine wq_Word (tw := w) (ta := 4 * w + 2 * 4 + 1) ⟨by omega, by omega, by omega, by omega, by omega, by omega⟩ ?_
    rw [show 4 * w + 2 * 4 + 1 + 2 * (i / 2) + i % 2 = 4 * w + 2 * 4 + 1 + i by omega]
    refine w_SetRaw hA' fun hA2 => ?_
    obtain ⟨M2, u2, rf⟩ := M'.store (i := 4 * w + 2 * 4 + 1 + i) (v := v) hA2 ⟨by omega, by omega⟩ (by omega)
    have en : w64 (i + 1) = i + 1 := w64_in (by omega) (by omega)
    refine wp_again_up (by decide) (wp_again ⟨i + 1, by show [Value.int .i64 (w64 (i + 1))] = _; rw [en], ⟨by omega, by omega, _, M2, by omega, fun j hj => ?_, rfl⟩, by omega⟩)
    rw [rf]
    by_cases e : j = 4 * w + 2 * 4 + 1 + i
    · rw [if_pos e]
      intro hmem
      obtain ⟨k, hk, e2⟩ := List.getElem_of_mem hmem
      refine hv k (by omega) ?_
      rw [List.getD_eq_getElem?_getD, List.getElem?_eq_getElem hk]; exact e2.symm
    · rw [if_neg e]; exact no j hj
end Go.Proofs.Ytfphgiipekkgdaa

set_option linter.unusedVariables false
set_option linter.unusedSimpArgs false
set_option maxRecDepth 20000
namespace Go.Proofs.Ytfphgiipekkgdaa
open Go Go.Fw

theorem filter_one {p : Int → Bool} {h : Int} : ∀ {l : List Int}, l.Nodup → h ∈ l → (∀ x ∈ l, (p x = true ↔ x = h)) → l.filter p = [h]
  | [], _, hm, _ => by cases hm
  | x :: l, nd, hm, hp => by
    obtain ⟨n1, n2⟩ := List.nodup_cons.1 nd
    rw [List.filter_cons]
    by_cases e : x = h
    · subst e
      rw [if_pos ((hp x List.mem_cons_self).2 rfl)]
      congr 1
      refine List.filter_eq_nil_iff.2 fun y hy e => ?_
      have := (hp y (List.mem_cons_of_mem _ hy)).1 e
      exact n1 (this ▸ hy)
    · rw [if_neg (fun c => e ((hp x List.mem_cons_self).1 c))]
      refine filter_one n2 ?_ fun y hy => hp y (List.mem_cons_of_mem _ hy)
      rcases List.mem_cons.1 hm with c | c
      · exact (e c.symm).elim
      · exact c

theorem HazardTwice_det (p0 p1 p2 p3 : Int) (H : Heap) : Det Try.prog f_magpielaw12_HazardTwice [.int .i64 p0, .int .i64 p1, .int .i64 p2, .int .i64 p3] H (.bool true) H := by
  refine t_magpielaw12_HazardTwice_spec fun L => ?_
  unfold t_magpielaw12_HazardTwice
  refine w_Place (by omega) (by omega) (w_Place (by omega) (by omega) ?_)
  have a0 := Int.emod_nonneg p0 (b := 6) (by omega)
  have a1 := Int.emod_lt_of_pos p0 (b := 6) (by omega)
  have c0 := Int.emod_nonneg p1 (b := 10) (by omega)
  have c1 := Int.emod_lt_of_pos p1 (b := 10) (by omega)
  generalize p0 % 6 = a at *
  generalize p1 % 10 = c at *
  have ea : w64 (1 + a) = 1 + a := w64_in (by omega) (by omega)
  have ec : w64 (1 + c) = 1 + c := w64_in (by omega) (by omega)
  rw [ea, ec]
  obtain ⟨w, ew⟩ : ∃ w, w = 1 + a := ⟨_, rfl⟩
  obtain ⟨s, es⟩ : ∃ s, s = 1 + c := ⟨_, rfl⟩
  refine wp_call_of (make1_spec (1 + a) (1 + c) (by omega) (by omega) H) ?_
  rintro v K ⟨A, S, hs, z, tl, rfl, rfl, hI, ok, M⟩
  rw [← ew, ← es] at M ⊢
  have us := M.us
  have mrw := M.rw
  have ln := M.ln
  have zl := M.hl.len
  have zs := M.hl
  have M := M.hz (by omega) (by omega)
  refine ⟨(aI A.ids, (w, 0, 4 * w, 4 * w + (8 * s + 7) / 8, 4 * w + 2 * ((8 * s + 7) / 8), ()), (w, 4 * w + 2 * s + 1, ()), z, ()), rfl, ?_⟩
  have hA := M.aw
  refine w_newP hA ok fun x12 ok => ?_
  refine w_newP hA ok fun x13 ok => ?_
  refine w_stA 1 hA ok rfl rfl rfl rfl ?_
  refine w_stA 0 hA ok rfl rfl rfl rfl ?_
  refine look_val (x := false) (np_some _) (wp_false rfl ?_)
  refine wp_false (ibnf (by show ((z.len : Nat) : Int) = s; rw [zl]; omega)) ?_
  refine w_Place (by omega) (by omega) (w_Place (by omega) (by omega) ?_)
  have k0 := Int.emod_nonneg p2 (b := s) (by omega)
  have k1 := Int.emod_lt_of_pos p2 (b := s) (by omega)
  have n0 := Int.emod_nonneg p3 (b := w) (by omega)
  have n1 := Int.emod_lt_of_pos p3 (b := w) (by omega)
  generalize p2 % s = k at *
  generalize p3 % w = x48 at *
  have en : w64 (1 + x48) = 1 + x48 := w64_in (by omega) (by omega)
  obtain ⟨n, hn⟩ : ∃ n, n = 1 + x48 := ⟨_, rfl⟩
  have nb : 1 ≤ n ∧ n ≤ w := by omega
  have hkm : hs.getD k.toNat 0 ∈ hs := by
    rw [List.getD_eq_getElem?_getD, List.getElem?_eq_getElem (show k.toNat < hs.length by omega)]; exact List.getElem_mem _
  obtain ⟨hk, ehk⟩ : ∃ hk, hk = hs.getD k.toNat 0 := ⟨_, rfl⟩
  rw [← ehk] at hkm
  have hkz : hk ≠ 0 := M.nz hkm
  have mod2 : ∀ i : Int, Int.tmod i 2 = i % 2 ∨ i < 0 := fun i => by
    by_cases h : 0 ≤ i
    · exact .inl (Int.tmod_eq_emod_of_nonneg h)
    · exact .inr (by omega)
  have ok : Ok A.ids H (keys ((x13, oc ty_hazard_Table (tbC w (4 * w + 2 * s + 1))) :: (x12, oc ty_free_Place (plCells (plOf w (8 * s)))) :: tl)) := ok
  refine wl_i (fun i K => 0 ≤ i ∧ i ≤ n ∧ ∃ A', HZ A.ids A' w s S hs z tl ∧ A'.uses = A.uses + i ∧ (∀ i', 0 ≤ i' → i' < i → A'.rawF (4 * w + 2 * s + 1 + 2 * i' + i' % 2) = hk) ∧ (∀ j, 4 * w + 2 * s < j → A'.rawF j = 0 ∨ (A'.rawF j = hk ∧ ∃ i', 0 ≤ i' ∧ i' < i ∧ j = 4 * w + 2 * s + 1 + 2 * i' + i' % 2)) ∧
    K = own A' ((x13, oc ty_hazard_Table (tbC w (4 * w + 2 * s + 1))) :: (x12, oc ty_free_Place (plCells (plOf w (8 * s)))) :: tl) H) (fun i => (n - i).toNat) 0
    ⟨by omega, by omega, A, M, by omega, fun i' h h' => by omega, fun j hj => .inl (mrw j hj), rfl⟩ ?_
  rintro i K ⟨i0, i1, A1, M1, u1, f1, f2, rfl⟩
  have hA1 := M1.aw
  rw [t_magpielaw12_HazardTwice_L1, en, ← hn]
  by_cases ci : i < n
  · refine wp_true (decide_eq_true ci) ?_
    refine w_ldA 0 hA1 ok rfl rfl rfl ?_
    have d2 : Int.tmod i 2 = i % 2 := Int.tmod_eq_emod_of_nonneg i0
    show wp Try.prog (.qcall f_hazard_Table_Word [.agg #[.int .i64 w, .int .i64 (4 * w + 2 * s + 1)], .int .i64 i, .int .i64 (Int.tmod i 2)] _ _) _ _ _
    rw [d2]
    refine wq_Word (tw := w) (ta := 4 * w + 2 * s + 1) ⟨by omega, by omega, by omega, by omega, by omega, by omega⟩ ?_
    refine w_rdI hA1 ok (zs.mono fun p hp => List.mem_cons_of_mem _ (List.mem_cons_of_mem _ hp)) k0 (by omega) ?_
    rw [← ehk]
    refine w_SetRaw hA1 fun hA2 => ?_
    obtain ⟨M2, u2, rf⟩ := M1.store (i := 4 * w + 2 * s + 1 + 2 * i + i % 2) (v := hk) hA2 ⟨by omega, by omega⟩ (by omega)
    have en1 : w64 (i + 1) = i + 1 := w64_in (by omega) (by omega)
    refine wp_again ⟨i + 1, by show [Value.int .i64 (w64 (i + 1))] = _; rw [en1], ⟨by omega, by omega, _, M2, by omega, fun i' h h' => ?_, fun j hj => ?_, rfl⟩, by omega⟩
    · rw [rf]
      by_cases e : i' = i
      · rw [e, if_pos rfl]
      · rw [if_neg (by omega)]; exact f1 i' h (by omega)
    · rw [rf]
      by_cases e : j = 4 * w + 2 * s + 1 + 2 * i + i % 2
      · rw [if_pos e]; exact .inr ⟨rfl, i, i0, by omega, e⟩
      · rw [if_neg e]
        rcases f2 j hj with h | ⟨h, i', h0, h1, h2⟩
        · exact .inl h
        · exact .inr ⟨h, i', h0, by omega, h2⟩
  refine wp_false (decide_eq_false ci) ?_
  have ein : i = n := by omega
  subst ein
  refine wl_bsi (fun _ y r K => 0 ≤ r ∧ r ≤ i + 1 ∧ ∃ A' S' xs tl', HZ A.ids A' w s S' xs y tl' ∧ (∀ h ∈ xs, h ∈ hs) ∧ (r ≤ i → hk ∈ xs) ∧ (r = i + 1 → xs = []) ∧ A'.uses ≤ 220 + 100 * r ∧
      (∀ i', r ≤ i' → i' < i → A'.rawF (4 * w + 2 * s + 1 + 2 * i' + i' % 2) = hk) ∧ (∀ j, 4 * w + 2 * s < j → A'.rawF j = 0 ∨ (A'.rawF j = hk ∧ ∃ i', r ≤ i' ∧ i' < i ∧ j = 4 * w + 2 * s + 1 + 2 * i' + i' % 2)) ∧
      SlOf tl' ty_int eI z hs ∧ Ok A.ids H (keys ((x13, oc ty_hazard_Table (tbC w (4 * w + 2 * s + 1))) :: (x12, oc ty_free_Place (plCells (plOf w (8 * s)))) :: tl')) ∧
      K = own A' ((x13, oc ty_hazard_Table (tbC w (4 * w + 2 * s + 1))) :: (x12, oc ty_free_Place (plCells (plOf w (8 * s)))) :: tl') H) (fun _ _ r => (i + 1 - r).toNat) false z 0
    ⟨by omega, by omega, A1, S, hs, tl, M1, fun _ h => h, fun _ => hkm, fun h => by omega, by omega, f1, f2, zs, ok, rfl⟩ ?_
  rintro q y r K ⟨r0, r1, A2, S2, xs, tl2, M2, sub, hx, hx0, u2, g1, g2, zs2, ok, rfl⟩
  have hA2 := M2.aw
  rw [t_magpielaw12_HazardTwice_L2, en, ← hn]
  by_cases cr : r ≤ i
  case neg =>
    have er : r = i + 1 := by omega
    have ex := hx0 er
    refine wp_false (decide_eq_false cr) ?_
    refine w_Fault hA2 (wp_true (by rw [M2.fa]; rfl) ?_)
    refine w_Count hA2 ?_
    have cnt := M2.sl.cnt
    have nR := M2.nR
    rw [ex] at nR
    have nR : A2.nR = 0 := nR
    have nL := M2.nL
    have nc := M2.nc
    rw [ec, w64_in (x := 8 * (1 + c)) (by omega) (by omega)]
    refine wp_true (ibeq (by show A2.nF = 8 * (1 + c); omega)) ?_
    refine wp_call_det (x := true) (awake12_det _) ?_
    exact ⟨H, own_end hA2 ok hI, rfl, rfl⟩
  refine wp_true (decide_eq_true cr) ?_
  have hkx := hx cr
  have yl := M2.hl.len
  have xl := M2.ln
  refine w_ldA 0 hA2 ok rfl rfl rfl ?_
  refine w_ldA 1 hA2 ok rfl rfl rfl ?_
  have yr := M2.hl.mono (l' := (x13, oc ty_hazard_Table (tbC w (4 * w + 2 * s + 1))) :: (x12, oc ty_free_Place (plCells (plOf w (8 * s)))) :: tl2) fun p hp => List.mem_cons_of_mem _ (List.mem_cons_of_mem _ hp)
  refine w_NewScan (tw := w) (ta := 4 * w + 2 * s + 1) (work := 0) (p := plOf w (8 * s)) (xs := xs) hA2 ok (yr.row hA2 ok) yl (by omega) fun j okj rpj => ?_
  refine look_val (x := false) (eqS _) (wp_false rfl ?_)
  obtain ⟨A3, S3, m', n', run, hn', ml, me, W⟩ := M2.scan (who := 0) (xs := xs) ⟨by omega, by omega⟩ (by omega) M2.nd (fun _ h => h) (by rw [M2.nR]; exact Int.le_refl _)
  have el : lft A2 w (4 * w + 2 * s + 1) xs = if r < i then [hk] else [] := by
    unfold lft
    by_cases c : r < i
    · rw [if_pos c]
      refine filter_one M2.nd hkx fun h hh => ⟨fun e => ?_, fun e => ?_⟩
      · obtain ⟨t, t1, t2⟩ := (seenN_in _ _ _ _).1 e
        rcases g2 (4 * w + 2 * s + 1 + t) (by omega) with g | ⟨g, _⟩
        · exact (M2.nz hh (by rw [← t2, g])).elim
        · rw [← t2, g]
      · refine (seenN_in _ _ _ _).2 ⟨(2 * r + r % 2).toNat, by omega, ?_⟩
        rw [show 4 * w + 2 * s + 1 + (((2 * r + r % 2).toNat : Nat) : Int) = 4 * w + 2 * s + 1 + 2 * r + r % 2 by omega, g1 r (Int.le_refl r) c, e]
    · rw [if_neg c]
      refine List.filter_eq_nil_iff.2 fun h hh e => ?_
      obtain ⟨t, t1, t2⟩ := (seenN_in _ _ _ _).1 e
      rcases g2 (4 * w + 2 * s + 1 + t) (by omega) with g | ⟨g, i', h1, h2, _⟩
      · exact M2.nz hh (by rw [← t2, g])
      · omega
  refine w_runR12 mSc_ok mSc_inv run hn' (j := j) hA2 okj rpj fun j' ha hA3 ok3 rp3 => ?_
  refine wp_false rfl ?_
  have ha : j'.q = j.q := ha
  rw [← ha]
  refine w_Left hA3 ok3 rp3 me (by rw [ml, el]; split <;> simp) fun y3 tl3 hs3 ok4 => ?_
  rw [ml] at hs3
  have M3 := M2.after W hA3 hs3
  have y3l := hs3.len
  rw [el] at M3 y3l
  have zs4 := zs2.mono (l' := m'.bl j' ++ (tl3 ++ ((x13, oc ty_hazard_Table (tbC w (4 * w + 2 * s + 1))) :: (x12, oc ty_free_Place (plCells (plOf w (8 * s)))) :: tl2))) fun p hp => List.mem_append_right _ (List.mem_append_right _ (List.mem_cons_of_mem _ (List.mem_cons_of_mem _ hp)))
  obtain ⟨p5, ok5⟩ := own_perm (A := A3) (l' := (x13, oc ty_hazard_Table (tbC w (4 * w + 2 * s + 1))) :: (x12, oc ty_free_Place (plCells (plOf w (8 * s)))) :: (m'.bl j' ++ (tl3 ++ tl2))) ok4 (perm_by fun c d c0 cd ca => by simp only [cd, ca, c0]; omega)
  rw [p5]
  have ok := ok5
  have M4 := M3.mono (tl' := m'.bl j' ++ (tl3 ++ tl2)) fun p hp => List.mem_append_right _ (List.mem_append_left _ hp)
  have zs5 := zs2.mono (l' := m'.bl j' ++ (tl3 ++ tl2)) fun p hp => List.mem_append_right _ (List.mem_append_right _ hp)
  have zs6 := zs5.mono (l' := (x13, oc ty_hazard_Table (tbC w (4 * w + 2 * s + 1))) :: (x12, oc ty_free_Place (plCells (plOf w (8 * s)))) :: (m'.bl j' ++ (tl3 ++ tl2))) fun p hp => List.mem_cons_of_mem _ (List.mem_cons_of_mem _ hp)
  have ys6 := M4.hl.mono (l' := (x13, oc ty_hazard_Table (tbC w (4 * w + 2 * s + 1))) :: (x12, oc ty_free_Place (plCells (plOf w (8 * s)))) :: (m'.bl j' ++ (tl3 ++ tl2))) fun p hp => List.mem_cons_of_mem _ (List.mem_cons_of_mem _ hp)
  have er1 : w64 (r + 1) = r + 1 := w64_in (by omega) (by omega)
  have gl : (gone A2 w (4 * w + 2 * s + 1) xs).length ≤ xs.length := List.length_filter_le _ _
  have u3 : A3.uses = A2.uses + 2 * w + 3 * (gone A2 w (4 * w + 2 * s + 1) xs).length := W.off.us
  have car : (plOf w (8 * s)).carved = 4 * w + 2 * s := by show 4 * w + 2 * ((8 * s + 7) / 8) = _; omega
  have rf3 : ∀ j, 4 * w + 2 * s < j → A3.rawF j = A2.rawF j := fun j hj => W.off.rw j (by omega)
  by_cases c : r < i
  · rw [if_pos c] at M4 y3l ys6
    have y3l : y3.len = 1 := y3l
    have st := (M4.st hk (by simp)).1
    refine wp_false (by show (!((((y3.len : Nat) : Int) == 1) == decide (r < i))) = false; rw [y3l, decide_eq_true c]; rfl) ?_
    refine wp_false (decide_eq_false (by show ¬ ((y3.len : Nat) : Int) > 1; omega)) ?_
    refine wp_true (ibeq (by show ((y3.len : Nat) : Int) = 1; omega)) ?_
    refine rdC hA3 ok ys6 (by decide) (by show (0 : Int) < 1; decide) ?_
    refine w_rdI hA3 ok zs6 k0 (by omega) ?_
    rw [← ehk]
    refine wp_false (ibnf rfl) ?_
    refine w_rdI hA3 ok zs6 k0 (by omega) ?_
    rw [← ehk]
    refine w_State hA3 ?_
    refine wp_false (by show (!((A3.stF hk == 0) == (r == i))) = false; rw [st, show (r == i) = false from ibef (by omega)]; rfl) ?_
    unfold t_magpielaw12_HazardTwice_J1
    rw [en, ← hn]
    refine wp_true (decide_eq_true c) ?_
    refine w_ldA 0 hA3 ok rfl rfl rfl ?_
    have d2 : Int.tmod r 2 = r % 2 := Int.tmod_eq_emod_of_nonneg r0
    show wp Try.prog (.qcall f_hazard_Table_Word [.agg #[.int .i64 w, .int .i64 (4 * w + 2 * s + 1)], .int .i64 r, .int .i64 (Int.tmod r 2)] _ _) _ _ _
    rw [d2]
    refine wq_Word (tw := w) (ta := 4 * w + 2 * s + 1) ⟨by omega, by omega, by omega, by omega, by omega, by omega⟩ ?_
    refine w_SetRaw hA3 fun hA4 => ?_
    obtain ⟨M5, u5, rf⟩ := M4.store (i := 4 * w + 2 * s + 1 + 2 * r + r % 2) (v := 0) hA4 ⟨by omega, by omega⟩ (by omega)
    refine wp_again ⟨q, y3, r + 1, by show [_, _, Value.int .i64 (w64 (r + 1))] = _; rw [er1], ⟨by omega, by omega, _, S3, [hk], _, M5, by simpa using hkm, fun _ => by simp, fun h => by omega, by omega, fun i' h h' => ?_, fun j hj => ?_, zs5, ok, rfl⟩, by omega⟩
    · rw [rf, if_neg (by omega), rf3 _ (by omega)]; exact g1 i' (by omega) h'
    · rw [rf]
      by_cases e : j = 4 * w + 2 * s + 1 + 2 * r + r % 2
      · rw [if_pos e]; exact .inl rfl
      · rw [if_neg e, rf3 _ hj]
        rcases g2 j hj with g | ⟨g, i', h1, h2, h3⟩
        · exact .inl g
        · refine .inr ⟨g, i', ?_, h2, h3⟩
          by_cases e2 : i' = r
          · subst e2; exact (e h3).elim
          · omega
  · rw [if_neg c] at M4 y3l ys6 el
    have y3l : y3.len = 0 := y3l
    have eri : r = i := by omega
    have st : A3.stF hk = 0 := by
      rw [W.st, if_pos]
      refine List.mem_filter.2 ⟨hkx, ?_⟩
      cases e : inS (seenN A2 (4 * w + 2 * s + 1) (2 * w).toNat) hk with
      | false => rfl
      | true =>
        have : hk ∈ lft A2 w (4 * w + 2 * s + 1) xs := List.mem_filter.2 ⟨hkx, e⟩
        rw [el] at this; cases this
    refine wp_false (by show (!((((y3.len : Nat) : Int) == 1) == decide (r < i))) = false; rw [y3l, decide_eq_false c]; rfl) ?_
    refine wp_false (decide_eq_false (by show ¬ ((y3.len : Nat) : Int) > 1; omega)) ?_
    refine wp_false (ibef (by show ¬ ((y3.len : Nat) : Int) = 1; omega)) ?_
    refine w_rdI hA3 ok zs6 k0 (by omega) ?_
    rw [← ehk]
    refine w_State hA3 ?_
    refine wp_false (by show (!((A3.stF hk == 0) == (r == i))) = false; rw [st, show (r == i) = true from ibeq (by omega)]; rfl) ?_
    unfold t_magpielaw12_HazardTwice_J1
    rw [en, ← hn]
    refine wp_false (decide_eq_false c) ?_
    refine wp_again ⟨q, y3, r + 1, by show [_, _, Value.int .i64 (w64 (r + 1))] = _; rw [er1], ⟨by omega, by omega, _, S3, [], _, M4, fun _ h => (by cases h), fun h => by omega, fun _ => rfl, by omega, fun i' h h' => by omega, fun j hj => ?_, zs5, ok, rfl⟩, by omega⟩
    rw [rf3 _ hj]
    rcases g2 j hj with g | ⟨g, i', h1, h2, h3⟩
    · exact .inl g
    · omega
end Go.Proofs.Ytfphgiipekkgdaa

set_option linter.unusedVariables false
set_option linter.unusedSimpArgs false
set_option maxRecDepth 20000
namespace Go.Proofs.Ytfphgiipekkgdaa
open Go Go.Fw

section
variable {A : Ar} {p : Pl}
theorem words_step {tw ta who : Int} {xs : List Int} (tb : 1 ≤ tw ∧ tw ≤ 1000) (ll : xs.length ≤ 1000) (h0 : 0 ≤ ta) (h1 : ta + 2 * tw ≤ A.raw.length) (h2 : (A.raw.length : Int) ≤ 1000000) (u0 : 0 ≤ A.uses) (u1 : A.uses ≤ 1000000) (n : Nat) (hn : (n : Int) + 1 < 2 * tw) :
    mSc.inv (scN A tw ta p who xs n) (A.later n) ∧ mSc.step (scN A tw ta p who xs n) (A.later n) = (scN A tw ta p who xs (n + 1), A.later ((n + 1 : Nat) : Int)) := by
  have e : w64 (ta + n) = ta + n := w64_in (by omega) (by omega)
  refine ⟨⟨tb, by show (0 : Int) ≤ n; omega, ll, fun _ => .inl ⟨by show (n : Int) < 2 * tw; omega, rfl, rfl, rfl⟩⟩, ?_⟩
  show Sc.step (scN A tw ta p who xs n) (A.later n) = _
  unfold Sc.step
  rw [if_neg (show ¬ (scN A tw ta p who xs n).ended = true by intro h; cases h)]
  have en : (scN A tw ta p who xs n).word = n := rfl
  have et : (scN A tw ta p who xs n).ta = ta := rfl
  have ew : (scN A tw ta p who xs n).tw = tw := rfl
  rw [en, et, ew, if_pos (show (n : Int) < 2 * tw by omega), if_neg (by omega), e, tick_later (A := A.later n) (i := ta + n) ⟨by omega, by show ta + n < (A.raw.length : Int); omega⟩ (by show 0 ≤ A.uses + n; omega) (by show A.uses + n ≤ _; omega), later_add]
  unfold Sc.word1
  rw [en, et, e]
  rfl
end

/-- The first of a filter, one behind the other. -/
theorem filter_at {p : Int → Bool} {l : List Int} {i : Nat} (hi : i < l.length) (hp : p (l.getD i 0) = true) : (l.filter p).getD ((l.take i).filter p).length 0 = l.getD i 0 ∧ ((l.take i).filter p).length < (l.filter p).length := by
  have e : l = l.take i ++ l.getD i 0 :: l.drop (i + 1) := by
    rw [List.getD_eq_getElem?_getD, List.getElem?_eq_getElem hi]
    show l = l.take i ++ l[i] :: l.drop (i + 1)
    rw [← List.drop_eq_getElem_cons hi, List.take_append_drop]
  have e2 : l.filter p = (l.take i).filter p ++ l.getD i 0 :: (l.drop (i + 1)).filter p := by
    conv => lhs; rw [e]
    rw [List.filter_append, List.filter_cons, if_pos hp]
  rw [e2]
  refine ⟨?_, by rw [List.length_append]; simp only [List.length_cons]; omega⟩
  rw [List.getD_eq_getElem?_getD, List.getElem?_append_right (Nat.le_refl _), Nat.sub_self]; rfl

end Go.Proofs.Ytfphgiipekkgdaa

set_option linter.unusedVariables false
set_option linter.unusedSimpArgs false
set_option maxRecDepth 20000
namespace Go.Proofs.Ytfphgiipekkgdaa
open Go Go.Fw

abbrev hsB (x12 x13 x15 : Nat) (w n : Int) (B : Nat → Bool) (tl : Bl) : Bl := (x15, oc ty_a20_bool (arrC 20 fun j => .bool (B j))) :: (x13, oc ty_hazard_Table (tbC w (4 * w + 2 * n + 1))) :: (x12, oc ty_free_Place (plCells (plOf w (8 * n)))) :: tl

theorem HazardScans_det (p0 p1 : Int) (s : Sl) (zs : List Int) (p3 : Bool) (H : Heap) (hz : RowOf H s.a s.len zs) : Det Try.prog f_magpielaw12_HazardScans [.int .i64 p0, .int .i64 p1, .slice s.a s.len s.cap, .bool p3] H (.bool true) H := by
  refine t_magpielaw12_HazardScans_spec (p0 := p0) (p1 := p1) (p2 := s) (p3 := p3) fun L => ?_
  unfold t_magpielaw12_HazardScans
  refine w_Place (by omega) (by omega) (w_Place (by omega) (by omega) ?_)
  have a0 := Int.emod_nonneg p0 (b := 8) (by omega)
  have a1 := Int.emod_lt_of_pos p0 (b := 8) (by omega)
  have c0 := Int.emod_nonneg p1 (b := 20) (by omega)
  have c1 := Int.emod_lt_of_pos p1 (b := 20) (by omega)
  generalize p0 % 8 = a at *
  generalize p1 % 20 = n at *
  have ea : w64 (1 + a) = 1 + a := w64_in (by omega) (by omega)
  rw [ea]
  obtain ⟨w, ew⟩ : ∃ w, w = 1 + a := ⟨_, rfl⟩
  refine wp_call_of (make1_spec (1 + a) n (by omega) (by omega) H) ?_
  rintro v K ⟨A, S, hs, z, tl, rfl, rfl, hI, ok, M⟩
  rw [← ew] at M ⊢
  have us := M.us
  have mrw := M.rw
  have ln := M.ln
  have zl := M.hl.len
  have sch := M.ch
  have M := M.hz (by omega) (by omega)
  refine ⟨(aI A.ids, (w, 0, 4 * w, 4 * w + (8 * n + 7) / 8, 4 * w + 2 * ((8 * n + 7) / 8), ()), (w, 4 * w + 2 * n + 1, ()), z, ()), rfl, ?_⟩
  have hA := M.aw
  refine w_newP hA ok fun x12 ok => ?_
  refine w_newP hA ok fun x13 ok => ?_
  refine w_stA 1 hA ok rfl rfl rfl rfl ?_
  refine w_stA 0 hA ok rfl rfl rfl rfl ?_
  by_cases hn0 : n = 0
  · refine wp_true (ibeq hn0) (wp_true (ibeq hn0) ?_)
    refine wp_call_det (x := true) (awake12_det _) ?_
    have ok : Ok A.ids H (keys ((x13, oc ty_hazard_Table (tbC w (4 * w + 2 * n + 1))) :: (x12, oc ty_free_Place (plCells (plOf w (8 * n)))) :: tl)) := ok
    exact ⟨H, own_end (l := (x13, oc ty_hazard_Table (tbC w (4 * w + 2 * n + 1))) :: (x12, oc ty_free_Place (plCells (plOf w (8 * n)))) :: tl) hA ok hI, rfl, rfl⟩
  refine wp_false (ibef hn0) ?_
  refine look_val (x := false) (np_some _) (wp_false rfl ?_)
  refine w_newP (c := arrC 20 fun _ => .bool false) hA ok fun x15 ok => ?_
  have ok : Ok A.ids H (keys (hsB x12 x13 x15 w n (fun _ => false) tl)) := ok
  have seen0 : ∀ (B : Nat → Bool), Ok A.ids H (keys (hsB x12 x13 x15 w n B tl)) := fun B => ok
  -- the scan
  have tail : ∀ {L : Hands} {A1 : Ar} {B : Nat → Bool}, HZ A.ids A1 w n S hs z tl → A1.uses ≤ 1000 → (∀ k : Nat, (k : Int) < n → (B k = true ↔ ∃ j : Nat, (j : Int) < 2 * w ∧ A1.rawF (4 * w + 2 * n + 1 + j) = hs.getD k 0)) →
      wp Try.prog (t_magpielaw12_HazardScans_J11 a n (aI A.ids, (w, 0, 4 * w, 4 * w + (8 * n + 7) / 8, 4 * w + 2 * ((8 * n + 7) / 8), ()), (w, 4 * w + 2 * n + 1, ()), z, ()) ⟨x12, 0, none⟩ ⟨x13, 0, none⟩ ⟨x15, 0, none⟩) L (own A1 (hsB x12 x13 x15 w n B tl) H) (fun u K => u = .bool true ∧ K = H) := by
    intro L A1 B M1 u1 g1
    have hA1 := M1.aw
    have ok := seen0 B
    have rl := M1.rl
    have nR1 := M1.nR
    unfold t_magpielaw12_HazardScans_J11
    refine w_ldA 1 hA1 ok rfl rfl rfl ?_
    refine w_ldA 2 hA1 ok rfl rfl rfl ?_
    have zr : SlOf (hsB x12 x13 x15 w n B tl) ty_int eI z hs := M1.hl.mono fun p hp => List.mem_cons_of_mem _ (List.mem_cons_of_mem _ (List.mem_cons_of_mem _ hp))
    rw [opS_nilapp]
    refine w_appM (E := eI) elI [_, _, _] (xs := []) (ys := hs) (s := sl0) (mid := []) (post := tl) hA1 ok (.inl ⟨rfl, rfl⟩) (zr.row hA1 ok) zl (by simp; omega) fun y mid hy ok => ?_
    rw [List.nil_append] at hy
    have ok : Ok A.ids H (keys (hsB x12 x13 x15 w n B (mid ++ tl))) := ok
    show wp Try.prog _ _ (own A1 (hsB x12 x13 x15 w n B (mid ++ tl)) H) _
    refine w_ckA 2 hA1 ok rfl rfl rfl rfl ?_
    refine w_ckA 1 hA1 ok rfl rfl rfl rfl ?_
    have ew1 : w64 (w64 (1 + a) - 1) = w - 1 := by rw [ea, w64_in (by omega) (by omega)]; omega
    have ew2 : w64 (w64 (1 + a) * 2) = 2 * w := by rw [ea, w64_in (by omega) (by omega)]; omega
    rw [ew1]
    have yr : SlOf (hsB x12 x13 x15 w n B (mid ++ tl)) ty_int eI y hs := hy.mono fun p hp => List.mem_cons_of_mem _ (List.mem_cons_of_mem _ (List.mem_cons_of_mem _ (List.mem_append_left _ hp)))
    refine w_NewScan (tw := w) (ta := 4 * w + 2 * n + 1) (work := w - 1) (p := plOf w (8 * n)) (xs := hs) hA1 ok (yr.row hA1 ok) hy.len (by omega) fun j okj rpj => ?_
    refine look_val (x := false) (eqS _) (wp_false rfl ?_)
    refine w_Uses hA1 ?_
    have hh : ∀ h ∈ hs, A1.stF h = 2 ∧ opC h = 0 := M1.st
    obtain ⟨A2, S2, m', run, ml, me, W⟩ := scan_solo (tw := w) (ta := 4 * w + 2 * n + 1) (who := w - 1) (xs := hs) M1.sl hA1.wf ⟨by omega, by omega⟩ (by omega) (by omega) (by omega) (by omega) (by omega) ⟨by omega, by omega⟩ M1.nd (by omega) hh
    have gl : (gone A1 w (4 * w + 2 * n + 1) hs).length ≤ hs.length := List.length_filter_le _ _
    have us1 := M1.sl.F.us
    refine wl_bi (fun _ i K => 0 ≤ i ∧ i + 1 ≤ 2 * w ∧ ∃ j1 : ScJ, j1.q = j.q ∧ Ok A.ids H (keys ((scN A1 w (4 * w + 2 * n + 1) (plOf w (8 * n)) (w - 1) hs i.toNat).bl j1 ++ hsB x12 x13 x15 w n B (mid ++ tl))) ∧ (scN A1 w (4 * w + 2 * n + 1) (plOf w (8 * n)) (w - 1) hs i.toNat).rep j1 ∧
      K = own (A1.later i) ((scN A1 w (4 * w + 2 * n + 1) (plOf w (8 * n)) (w - 1) hs i.toNat).bl j1 ++ hsB x12 x13 x15 w n B (mid ++ tl)) H) (fun _ i => (2 * w - i).toNat) false 0 ⟨by omega, by omega, j, rfl, okj, rpj, by rw [later0]; rfl⟩ ?_
    rintro q i K ⟨i0, i1, j1, ej, ok1, rp1, rfl⟩
    rw [t_magpielaw12_HazardScans_L2, ew2, ← ej]
    have en1 : w64 (i + 1) = i + 1 := w64_in (by omega) (by omega)
    have ei : ((i.toNat : Nat) : Int) = i := by omega
    have hAi : Aw A.ids (A1.later i) := later_aw hA1 i
    dsimp only
    rw [en1]
    by_cases ci : i + 1 < 2 * w
    · refine wp_true (decide_eq_true ci) ?_
      obtain ⟨iv, stp⟩ := words_step (A := A1) (p := plOf w (8 * n)) (tw := w) (ta := 4 * w + 2 * n + 1) (who := w - 1) (xs := hs) ⟨by omega, by omega⟩ (by omega) (by omega) (by omega) (by omega) us1 (by omega) i.toNat (by omega)
      rw [ei] at iv stp
      have ok2 : Ok A.ids H (keys ((scN A1 w (4 * w + 2 * n + 1) (plOf w (8 * n)) (w - 1) hs i.toNat).bl j1) ++ keys (hsB x12 x13 x15 w n B (mid ++ tl))) := by rw [← keys_append]; exact ok1
      obtain ⟨o1, o2⟩ := ok2.split
      refine w_sub (mSc_ok A.ids (A1.later i) (putL (hsB x12 x13 x15 w n B (mid ++ tl)) H) _ j1 hAi o1 rp1 iv) ?_
      rintro v K ⟨j2, rfl, rfl, e2, o3, rp2, hA2⟩
      rw [stp] at o3 rp2 hA2 ⊢
      refine ⟨false, rfl, wp_false rfl ?_⟩
      refine wp_again ⟨q, i + 1, rfl, ⟨by omega, by omega, j2, (show j2.q = j1.q from e2), ?_, ?_, ?_⟩, by omega⟩
      · rw [show (i + 1).toNat = i.toNat + 1 by omega, keys_append]; exact o3.join o2
      · rw [show (i + 1).toNat = i.toNat + 1 by omega]; exact rp2
      · rw [show (i + 1).toNat = i.toNat + 1 by omega, own_append, show ((i.toNat + 1 : Nat) : Int) = i + 1 by omega]; rfl
    refine wp_false (decide_eq_false ci) ?_
    have e1 : i = 2 * w - 1 := by omega
    have e2 : i.toNat = (2 * w).toNat - 1 := by omega
    rw [e2] at ok1 rp1 ⊢
    rw [e1] at hAi ⊢
    refine w_runR12 mSc_ok mSc_inv run (by omega) (j := j1) hAi ok1 rp1 fun j2 ha hA2 ok2 rp2 => ?_
    refine wp_false rfl ?_
    have ha : j2.q = j1.q := ha
    refine w_Uses hA2 ?_
    have u2 : A2.uses = A1.uses + 2 * w + 3 * (gone A1 w (4 * w + 2 * n + 1) hs).length := W.off.us
    refine wp_false (decide_eq_false (by show ¬ A2.uses < w64 (A1.uses + 2 * w); rw [w64_in (by omega) (by omega)]; omega)) ?_
    rw [← ha]
    refine w_Left hA2 ok2 rp2 me (by rw [ml]; exact Nat.le_trans (List.length_filter_le _ _) (by omega)) fun y3 tl3 hs3 ok3 => ?_
    rw [ml] at hs3
    have ok3 : Ok A.ids H (keys (m'.bl j2 ++ (tl3 ++ hsB x12 x13 x15 w n B (mid ++ tl)))) := ok3
    obtain ⟨p, hp⟩ : ∃ p, p = inS (seenN A1 (4 * w + 2 * n + 1) (2 * w).toNat) := ⟨_, rfl⟩
    have eg : gone A1 w (4 * w + 2 * n + 1) hs = hs.filter (fun h => !p h) := by rw [hp]; rfl
    have el : lft A1 w (4 * w + 2 * n + 1) hs = hs.filter p := by rw [hp]; rfl
    have pB : ∀ k : Nat, (k : Int) < n → p (hs.getD k 0) = B k := fun k hk => by
      refine Bool.eq_iff_iff.2 ?_
      rw [hp, seenN_in, g1 k hk]
      exact ⟨fun ⟨i, i1, i2⟩ => ⟨i, by omega, i2⟩, fun ⟨i, i1, i2⟩ => ⟨i, by omega, i2⟩⟩
    rw [eg] at W
    rw [el] at hs3
    have pl := part_len p hs
    have memx : ∀ {b o}, (b, o) ∈ hsB x12 x13 x15 w n B (mid ++ tl) → (b, o) ∈ m'.bl j2 ++ (tl3 ++ hsB x12 x13 x15 w n B (mid ++ tl)) := fun h => List.mem_append_right _ (List.mem_append_right _ h)
    have zr3 : SlOf (m'.bl j2 ++ (tl3 ++ hsB x12 x13 x15 w n B (mid ++ tl))) ty_int eI z hs := M1.hl.mono fun p hp => List.mem_append_right _ (List.mem_append_right _ (List.mem_cons_of_mem _ (List.mem_cons_of_mem _ (List.mem_cons_of_mem _ (List.mem_append_right _ hp)))))
    have yr3 : SlOf (m'.bl j2 ++ (tl3 ++ hsB x12 x13 x15 w n B (mid ++ tl))) ty_int eI y3 (hs.filter p) := hs3.mono fun p hp => List.mem_append_right _ (List.mem_append_left _ hp)
    show wp Try.prog _ _ (own A2 (m'.bl j2 ++ (tl3 ++ hsB x12 x13 x15 w n B (mid ++ tl))) H) _
    refine wl_bii (fun _ a i K => 0 ≤ i ∧ i ≤ n ∧ a = (((hs.take i.toNat).filter p).length : Nat) ∧ K = own A2 (m'.bl j2 ++ (tl3 ++ hsB x12 x13 x15 w n B (mid ++ tl))) H) (fun _ _ i => (n - i).toNat) q 0 0 ⟨by omega, by omega, rfl, rfl⟩ ?_
    rintro q1 a1' i K ⟨i0', i1', ea1, rfl⟩
    rw [t_magpielaw12_HazardScans_L3]
    have en2 : w64 (i + 1) = i + 1 := w64_in (by omega) (by omega)
    have tle : ((hs.take i.toNat).filter p).length ≤ hs.length := Nat.le_trans (List.length_filter_le _ _) (by rw [List.length_take]; omega)
    have en3 : w64 (a1' + 1) = a1' + 1 := w64_in (by omega) (by omega)
    dsimp only
    rw [en2, en3]
    by_cases ci : i < n
    · refine wp_true (decide_eq_true ci) ?_
      have hil : i.toNat < hs.length := by omega
      have hmem : hs.getD i.toNat 0 ∈ hs := by
        rw [List.getD_eq_getElem?_getD, List.getElem?_eq_getElem hil]; exact List.getElem_mem _
      have hst := W.st (hs.getD i.toNat 0)
      have ei1 : (i + 1).toNat = i.toNat + 1 := by omega
      refine w_ix (A := A2) (e := ty_bool) (n := 20) rfl rfl rfl i0' (by omega) ?_
      refine w_ldm (x := B i.toNat) hA2 ok3 rfl (memx List.mem_cons_self) ?_ ?_
      · rw [Nat.zero_add, arrC_get (by omega)]; rfl
      have pb := pB i.toNat (by omega)
      by_cases cb : B i.toNat = true
      · rw [cb] at pb
        refine wp_true cb ?_
        obtain ⟨f1, f2⟩ := filter_at (p := p) hil pb
        refine wp_false (decide_eq_false (by show ¬ a1' ≥ ((y3.len : Nat) : Int); rw [hs3.len]; omega)) ?_
        refine w_rdI hA2 ok3 yr3 (show 0 ≤ a1' by omega) (by omega) ?_
        refine w_rdI hA2 ok3 zr3 i0' (by omega) ?_
        refine wp_false (ibnf (by rw [ea1, Int.toNat_natCast]; exact f1)) ?_
        refine w_rdI hA2 ok3 zr3 i0' (by omega) ?_
        refine w_State hA2 ?_
        rw [if_neg (fun hm => by have := (List.mem_filter.1 hm).2; rw [pb] at this; cases this)] at hst
        refine wp_false (ibnf (hst.trans (M1.st _ hmem).1)) ?_
        refine wp_again ⟨q1, a1' + 1, i + 1, rfl, ⟨by omega, by omega, ?_, rfl⟩, by omega⟩
        rw [ei1, take_filter hil, pb, List.length_append]
        simp; omega
      · have cb : B i.toNat = false := by simpa using cb
        rw [cb] at pb
        refine wp_false cb ?_
        refine w_rdI hA2 ok3 zr3 i0' (by omega) ?_
        refine w_State hA2 ?_
        rw [if_pos (List.mem_filter.2 ⟨hmem, by rw [pb]; rfl⟩)] at hst
        refine wp_false (ibnf hst) ?_
        refine wp_again ⟨q1, a1', i + 1, rfl, ⟨by omega, by omega, ?_, rfl⟩, by omega⟩
        rw [ei1, take_filter hil, pb]
        simp; omega
    · refine wp_false (decide_eq_false ci) ?_
      have et : (hs.take i.toNat).filter p = hs.filter p := by rw [List.take_of_length_le (by omega)]
      rw [et] at ea1
      refine wp_true (ibeq (by show a1' = ((y3.len : Nat) : Int); rw [hs3.len]; exact ea1)) ?_
      obtain ⟨ix, hix⟩ := mem_idx (memx (b := x12) (o := oc ty_free_Place (plCells (plOf w (8 * n)))) (List.mem_cons_of_mem _ (List.mem_cons_of_mem _ List.mem_cons_self)))
      refine w_ldA ix hA2 ok3 rfl hix rfl ?_
      have X2 := W.sl
      have wc := W.ch
      rw [sch, List.append_nil] at wc
      have us2 := X2.F.us
      have cl : (S2.ch (4 * (w - 1))).length = (hs.filter fun h => !p h).length := by rw [wc]; simp
      have chn := X2.F.chn (4 * (w - 1)) (by omega) (by omega)
      rw [← mod17] at chn
      rw [ew1]
      refine w_List (p := plOf w (8 * n)) (hd := 4 * (w - 1)) hA2 ok3 ?_ (X2.F.hdOk (by omega) (by omega)) chn (by omega) ⟨by show -1000000 ≤ 4 * w; omega, by show 4 * w ≤ 1000000; omega⟩ ⟨us2, by omega⟩ fun s4 tl4 hs4 ok4 hA4 => ?_
      · rw [headF_eq rfl ⟨by omega, by omega⟩ (by decide), Int.add_zero]
      refine wp_true (ibeq (by show ((s4.len : Nat) : Int) = w64 (n - a1'); rw [hs4.len, cl, w64_in (by omega) (by omega)]; omega)) ?_
      refine w_Fault hA4 ?_
      refine wp_true (by show (!(A2.later _).fault) = true; rw [show (A2.later (1 + ((S2.ch (4 * (w - 1))).length : Int))).fault = A2.fault from rfl, W.off.fa]; show (!A1.fault) = true; rw [M1.fa]; rfl) ?_
      refine wp_call_det (x := true) (awake12_det _) ?_
      exact ⟨H, own_end hA4 ok4 hI, rfl, rfl⟩
  refine wl_i (fun i K => 0 ≤ i ∧ i ≤ 2 * w ∧ ∃ A1 B, HZ A.ids A1 w n S hs z tl ∧ A1.uses ≤ 400 + i ∧ (∀ k : Nat, (k : Int) < n → (B k = true ↔ ∃ j : Nat, (j : Int) < 2 * w ∧ A1.rawF (4 * w + 2 * n + 1 + j) = hs.getD k 0)) ∧ (∀ j : Int, i ≤ j → j < 2 * w → A1.rawF (4 * w + 2 * n + 1 + j) = 0) ∧ K = own A1 (hsB x12 x13 x15 w n B tl) H) (fun i => (2 * w - i).toNat) 0
    ⟨by omega, by omega, A, fun _ => false, M, by omega, fun k hk => ⟨fun h => (by cases h), fun ⟨j, j1, j2⟩ => ?_⟩, fun j j0 j1 => mrw _ (by omega), rfl⟩ ?_
  · exfalso
    rw [mrw _ (by omega)] at j2
    refine M.nz (h := hs.getD k 0) ?_ j2.symm
    rw [List.getD_eq_getElem?_getD, List.getElem?_eq_getElem (show k < hs.length by omega)]; exact List.getElem_mem _
  rintro i K ⟨i0, i1, A1, B, M1, u1, g1, g0, rfl⟩
  have hA1 := M1.aw
  have ok := seen0 B
  rw [t_magpielaw12_HazardScans_L1]
  by_cases d1 : i < ((s.len : Nat) : Int)
  case neg => exact wp_false (decide_eq_false d1) (tail M1 (by omega) g1)
  refine wp_true (decide_eq_true d1) ?_
  rw [ea, ← ew, w64_in (x := w * 2) (by omega) (by omega)]
  by_cases d2 : i < w * 2
  case neg => exact wp_false (decide_eq_false d2) (tail M1 (by omega) g1)
  refine wp_true (decide_eq_true d2) ?_
  refine wp_row hz (own_end hA1 ok hI) i0 d1 ?_
  refine w_Place (by omega) (by omega) ?_
  have v0 := Int.emod_nonneg (zs.getD i.toNat 0) (b := 1048576) (by omega)
  have v1 := Int.emod_lt_of_pos (zs.getD i.toNat 0) (b := 1048576) (by omega)
  generalize zs.getD i.toNat 0 % 1048576 = v at *
  have en1 : w64 (i + 1) = i + 1 := w64_in (by omega) (by omega)
  have em : Int.tmod v 2 = v % 2 := Int.tmod_eq_emod_of_nonneg v0
  rw [em]
  by_cases ev : v % 2 = 0
  case neg =>
    refine wp_false (ibef ev) ?_
    exact wp_again ⟨i + 1, by show [Value.int .i64 (w64 (i + 1))] = _; rw [en1], ⟨by omega, by omega, A1, B, M1, by omega, g1, fun j j0 j1 => g0 j (by omega) j1, rfl⟩, by omega⟩
  refine wp_true (ibeq ev) ?_
  have etd : w64 (Int.tdiv v 2) = v / 2 := by rw [Int.tdiv_eq_ediv_of_nonneg v0, w64_in (by omega) (by omega)]
  rw [etd]
  refine look_val (x := Int.tmod (v / 2) n) (opS_rem hn0) ?_
  have k0 := Int.emod_nonneg (v / 2) hn0
  have k1 := Int.emod_lt_of_pos (v / 2) (b := n) (by omega)
  rw [Int.tmod_eq_emod_of_nonneg (show 0 ≤ v / 2 by omega)]
  generalize v / 2 % n = k at *
  refine w_ix (A := A1) (e := ty_bool) (n := 20) rfl rfl rfl k0 (by omega) ?_
  refine w_st 0 hA1 ok rfl rfl rfl (by rw [arrC_len]; exact decide_eq_true (by omega)) ?_
  have s1 : (arrC 20 fun j => Value.bool (B j)).set (0 + k.toNat) (.bool true) = arrC 20 fun j => .bool (if j = k.toNat then true else B j) := by
    rw [Nat.zero_add, arrC_set]; congr 1; funext j; split <;> rfl
  show wp Try.prog _ _ (own A1 ((x15, oc ty_a20_bool ((arrC 20 fun j => Value.bool (B j)).set (0 + k.toNat) (.bool true))) :: (x13, oc ty_hazard_Table (tbC w (4 * w + 2 * n + 1))) :: (x12, oc ty_free_Place (plCells (plOf w (8 * n)))) :: tl) H) _
  rw [s1]
  refine w_ldA 1 hA1 ok rfl rfl rfl ?_
  have d3 : w64 (Int.tdiv i 2) = i / 2 := by rw [Int.tdiv_eq_ediv_of_nonneg i0, w64_in (by omega) (by omega)]
  have d4 : Int.tmod i 2 = i % 2 := Int.tmod_eq_emod_of_nonneg i0
  show wp Try.prog (.qcall f_hazard_Table_Word [.agg #[.int .i64 w, .int .i64 (4 * w + 2 * n + 1)], .int .i64 (w64 (Int.tdiv i 2)), .int .i64 (Int.tmod i 2)] _ _) _ _ _
  rw [d3, d4]
  refine wq_Word (tw := w) (ta := 4 * w + 2 * n + 1) ⟨by omega, by omega, by omega, by omega, by omega, by omega⟩ ?_
  rw [show 4 * w + 2 * n + 1 + 2 * (i / 2) + i % 2 = 4 * w + 2 * n + 1 + i by omega]
  refine w_rdI hA1 ok (M1.hl.mono fun p hp => List.mem_cons_of_mem _ (List.mem_cons_of_mem _ (List.mem_cons_of_mem _ hp))) k0 (by omega) ?_
  refine w_SetRaw hA1 fun hA2 => ?_
  obtain ⟨M2, u2, rf⟩ := M1.store (i := 4 * w + 2 * n + 1 + i) (v := hs.getD k.toNat 0) hA2 ⟨by omega, by omega⟩ (by omega)
  have hmem : ∀ k : Nat, (k : Int) < n → hs.getD k 0 ∈ hs := fun k hk => by
    rw [List.getD_eq_getElem?_getD, List.getElem?_eq_getElem (show k < hs.length by omega)]; exact List.getElem_mem _
  refine wp_again ⟨i + 1, by show [Value.int .i64 (w64 (i + 1))] = _; rw [en1], ⟨by omega, by omega, _, fun j => if j = k.toNat then true else B j, M2, by omega, fun q hq => ?_, fun j j0 j1 => ?_, rfl⟩, by omega⟩
  · dsimp only
    by_cases e : q = k.toNat
    · rw [if_pos e]
      refine ⟨fun _ => ⟨i.toNat, by omega, ?_⟩, fun _ => rfl⟩
      rw [rf, if_pos (by omega), e]
    · rw [if_neg e, g1 q hq]
      constructor
      · rintro ⟨j, j1, j2⟩
        refine ⟨j, j1, ?_⟩
        rw [rf, if_neg]
        · exact j2
        · intro e2
          have : (j : Int) = i := by omega
          rw [this, g0 i (Int.le_refl i) (by omega)] at j2
          exact M1.nz (hmem q hq) j2.symm
      · rintro ⟨j, j1, j2⟩
        refine ⟨j, j1, ?_⟩
        rw [rf] at j2
        split at j2
        · exfalso
          have nd := M1.nd
          rw [List.getD_eq_getElem?_getD, List.getD_eq_getElem?_getD, List.getElem?_eq_getElem (show k.toNat < hs.length by omega), List.getElem?_eq_getElem (show q < hs.length by omega)] at j2
          exact e ((List.getElem_inj nd).1 j2).symm
        · exact j2
  · rw [rf, if_neg (by omega)]; exact g0 j (by omega) j1
end Go.Proofs.Ytfphgiipekkgdaa

