/- Texts of this claim, one behind the other. -/
import Derived.Test.YtfphgiipekkgdaaCWEpochKeeps1
set_option linter.unusedSimpArgs false
set_option linter.unusedVariables false
set_option linter.unusedVariables false
set_option maxRecDepth 10000
namespace Go.Proofs.Ytfphgiipekkgdaa
open Go Go.Fw
/- magpie/magpielaw13.EpochKeeps -/
noncomputable def t_magpielaw13_EpochKeeps_J1 (y1 : HL Sh1.T [(.leaf .bool), (.leaf .ptr), (.leaf .ptr), (.leaf .slice), (.leaf (.int .i64))]) (x208 : Bool) : Tree :=
  bif x208 then (
    .ret (.bool false))
  else (
    .again 960 [(.bool y1.1), (.pointer y1.2.1), (.pointer y1.2.2.1), (.slice y1.2.2.2.1.a y1.2.2.2.1.len y1.2.2.2.1.cap), (.int .i64 (w64 (y1.2.2.2.2.1 + 1)))])

noncomputable def t_magpielaw13_EpochKeeps_J4 (y1 : HL Sh1.T [(.leaf .bool), (.leaf .ptr), (.leaf .ptr), (.leaf .slice), (.leaf (.int .i64))]) (x135 : Sl) (x146 : Option Addr) (x208 : Bool) : Tree :=
  bif x208 then (
    .ret (.bool false))
  else (
    .again 960 [(.bool y1.1), (.pointer none), (.pointer x146), (.slice x135.a x135.len x135.cap), (.int .i64 (w64 (y1.2.2.2.2.1 + 1)))])

noncomputable def t_magpielaw13_EpochKeeps_J8 (y1 : HL Sh1.T [(.leaf .bool), (.leaf .ptr), (.leaf .ptr), (.leaf .slice), (.leaf (.int .i64))]) (x146 : Option Addr) (x208 : Bool) : Tree :=
  bif x208 then (
    .ret (.bool false))
  else (
    .again 960 [(.bool y1.1), (.pointer none), (.pointer x146), (.slice y1.2.2.2.1.a y1.2.2.2.1.len y1.2.2.2.1.cap), (.int .i64 (w64 (y1.2.2.2.2.1 + 1)))])

noncomputable def t_magpielaw13_EpochKeeps_J9 (x6 : Addr) (x8 : Addr) (x42 : Option Addr) (y1 : HL Sh1.T [(.leaf .bool), (.leaf .ptr), (.leaf .ptr), (.leaf .slice), (.leaf (.int .i64))]) : Tree :=
  .ldA x8 [(.int .i64), (.int .i64)] fun x143 =>
  .ldA x6 [(.int .i64), (.int .i64), (.int .i64), (.int .i64), (.int .i64)] fun x144 =>
  .call f_epoch_NewTurn [(.agg #[(.int .i64 x143.1), (.int .i64 x143.2.1)]), (.agg #[(.int .i64 x144.1), (.int .i64 x144.2.1), (.int .i64 x144.2.2.1), (.int .i64 x144.2.2.2.1), (.int .i64 x144.2.2.2.2.1)]), (.int .i64 0), (.slice y1.2.2.2.1.a y1.2.2.2.1.len y1.2.2.2.1.cap)] (.one (.leaf .ptr)) fun x146 =>
  .call f_arena_Arena_Fault [(.pointer x42)] (.one (.leaf .bool)) fun x208 =>
  t_magpielaw13_EpochKeeps_J8 y1 x146 x208

noncomputable def t_magpielaw13_EpochKeeps_J11 (x6 : Addr) (x8 : Addr) (x42 : Option Addr) (y1 : HL Sh1.T [(.leaf .bool), (.leaf .ptr), (.leaf .ptr), (.leaf .slice), (.leaf (.int .i64))]) (x105 : HL Sh1.T [(.leaf (.int .i64)), (.leaf .bool)]) : Tree :=
  bif (!x105.2.1) then (
    .ldA x8 [(.int .i64), (.int .i64)] fun x143 =>
    .ldA x6 [(.int .i64), (.int .i64), (.int .i64), (.int .i64), (.int .i64)] fun x144 =>
    .call f_epoch_NewTurn [(.agg #[(.int .i64 x143.1), (.int .i64 x143.2.1)]), (.agg #[(.int .i64 x144.1), (.int .i64 x144.2.1), (.int .i64 x144.2.2.1), (.int .i64 x144.2.2.2.1), (.int .i64 x144.2.2.2.2.1)]), (.int .i64 0), (.slice y1.2.2.2.1.a y1.2.2.2.1.len y1.2.2.2.1.cap)] (.one (.leaf .ptr)) fun x146 =>
    .call f_arena_Arena_Fault [(.pointer x42)] (.one (.leaf .bool)) fun x208 =>
    t_magpielaw13_EpochKeeps_J8 y1 x146 x208)
  else (
    .call f_arena_Arena_Fault [(.pointer x42)] (.one (.leaf .bool)) fun x208 =>
    bif x208 then (
      .ret (.bool false))
    else (
      .again 960 [(.bool y1.1), (.pointer none), (.pointer y1.2.2.1), (.slice y1.2.2.2.1.a y1.2.2.2.1.len y1.2.2.2.1.cap), (.int .i64 (w64 (y1.2.2.2.2.1 + 1)))]))

noncomputable def t_magpielaw13_EpochKeeps_J17 (x42 : Option Addr) (x12 : Addr) (x14 : Addr) (y1 : HL Sh1.T [(.leaf .bool), (.leaf .ptr), (.leaf .ptr), (.leaf .slice), (.leaf (.int .i64))]) (x67 : Int) : Tree :=
  .look (opS Try.prog (.indexAddr ty_a7_p_epoch_Pin (.tmp 0) (.tmp 1)) ty_unit [(.pointer (some x14)), (.int .i64 x67)]) (.one (.leaf .addr)) fun x162 =>
  .ld x162 .ptr fun x163 =>
  .call f_epoch_Pin_Step [(.pointer x163), (.pointer x42)] (.one (.leaf .bool)) fun x165 =>
  bif x165 then (
    .look (opS Try.prog (.indexAddr ty_a7_p_epoch_Pin (.tmp 0) (.tmp 1)) ty_unit [(.pointer (some x14)), (.int .i64 x67)]) (.one (.leaf .addr)) fun x168 =>
    .st x168 (.pointer none) <|
    .look (opS Try.prog (.indexAddr ty_a7_int (.tmp 0) (.tmp 1)) ty_unit [(.pointer (some x12)), (.int .i64 x67)]) (.one (.leaf .addr)) fun x169 =>
    .st x169 (.int .i64 1) <|
    .call f_arena_Arena_Fault [(.pointer x42)] (.one (.leaf .bool)) fun x208 =>
    t_magpielaw13_EpochKeeps_J1 y1 x208)
  else (
    .call f_arena_Arena_Fault [(.pointer x42)] (.one (.leaf .bool)) fun x208 =>
    t_magpielaw13_EpochKeeps_J1 y1 x208)

noncomputable def t_magpielaw13_EpochKeeps_J20 (x42 : Option Addr) (x12 : Addr) (y1 : HL Sh1.T [(.leaf .bool), (.leaf .ptr), (.leaf .ptr), (.leaf .slice), (.leaf (.int .i64))]) (x67 : Int) : Tree :=
  .look (opS Try.prog (.indexAddr ty_a7_int (.tmp 0) (.tmp 1)) ty_unit [(.pointer (some x12)), (.int .i64 x67)]) (.one (.leaf .addr)) fun x203 =>
  .ld x203 (.int .i64) fun x204 =>
  .look (opS Try.prog (.indexAddr ty_a7_int (.tmp 0) (.tmp 1)) ty_unit [(.pointer (some x12)), (.int .i64 x67)]) (.one (.leaf .addr)) fun x206 =>
  .st x206 (.int .i64 (w64 (x204 + 1))) <|
  .call f_arena_Arena_Fault [(.pointer x42)] (.one (.leaf .bool)) fun x208 =>
  t_magpielaw13_EpochKeeps_J1 y1 x208

noncomputable def t_magpielaw13_EpochKeeps_J25 (x29 : HL Sh1.T [(.agg [(.int .i64), (.int .i64), (.int .i64), (.int .i64), (.int .i64)]), (.leaf (.int .i64))]) (x6 : Addr) (x35 : HL Sh1.T [(.agg [(.int .i64), (.int .i64)]), (.leaf (.int .i64))]) (x8 : Addr) (x42 : Option Addr) (x12 : Addr) (x13 : Addr) (x14 : Addr) (y1 : HL Sh1.T [(.leaf .bool), (.leaf .ptr), (.leaf .ptr), (.leaf .slice), (.leaf (.int .i64))]) (x67 : Int) : Tree :=
  bif ((x67 : Int) == 0) then (
    .call f_slab_Alloc_Step [(.pointer y1.2.1), (.pointer x42)] (.one (.leaf .bool)) fun x101 =>
    bif (!x101) then (
      .again 960 [(.bool y1.1), (.pointer y1.2.1), (.pointer y1.2.2.1), (.slice y1.2.2.2.1.a y1.2.2.2.1.len y1.2.2.2.1.cap), (.int .i64 (w64 (y1.2.2.2.2.1 + 1)))])
    else (
      .call f_slab_Alloc_Handle [(.pointer y1.2.1)] (.tup [(.leaf (.int .i64)), (.leaf .bool)]) fun x105 =>
      bif x105.2.1 then (
        .call f_arena_Arena_Store [(.pointer x42), (.int .i64 x105.1), (.int .i64 0), (.int .i64 x105.1)] .unit fun _ =>
        .call f_arena_Arena_Raw [(.pointer x42), (.int .i64 (w64 (x29.2.1 + x35.2.1)))] (.one (.leaf (.int .i64))) fun x115 =>
        .call f_arena_Arena_SetRaw [(.pointer x42), (.int .i64 (w64 (x29.2.1 + x35.2.1))), (.int .i64 x105.1)] .unit fun _ =>
        bif ((x115 : Int) != 0) then (
          .call f_arena_Arena_Retire [(.pointer x42), (.int .i64 x115)] (.one (.leaf .bool)) fun x125 =>
          bif x125 then (
            .ldA x8 [(.int .i64), (.int .i64)] fun x130 =>
            .qcall f_epoch_Table_Global [(.agg #[(.int .i64 x130.1), (.int .i64 x130.2.1)])] (.one (.leaf (.int .i64))) fun x131 =>
            .call f_arena_Arena_Raw [(.pointer x42), (.int .i64 x131)] (.one (.leaf (.int .i64))) fun x132 =>
            .newS (.cells #[(.int .i64 x115), (.int .i64 x132)] ty_epoch_Limbo) 1 fun x134 =>
            .act (opS Try.prog (.call { callee := .builtin .append, args := #[(.tmp 0), (.tmp 1)], argTypes := #[ty_s_epoch_Limbo, ty_s_epoch_Limbo] }) ty_s_epoch_Limbo [(.slice y1.2.2.2.1.a y1.2.2.2.1.len y1.2.2.2.1.cap), (.slice x134.a x134.len x134.cap)]) (.one (.leaf .slice)) fun x135 =>
            bif (decide ((((x135.len : Nat) : Int) : Int) > 3)) then (
              .ldA x8 [(.int .i64), (.int .i64)] fun x143 =>
              .ldA x6 [(.int .i64), (.int .i64), (.int .i64), (.int .i64), (.int .i64)] fun x144 =>
              .call f_epoch_NewTurn [(.agg #[(.int .i64 x143.1), (.int .i64 x143.2.1)]), (.agg #[(.int .i64 x144.1), (.int .i64 x144.2.1), (.int .i64 x144.2.2.1), (.int .i64 x144.2.2.2.1), (.int .i64 x144.2.2.2.2.1)]), (.int .i64 0), (.slice x135.a x135.len x135.cap)] (.one (.leaf .ptr)) fun x146 =>
              .call f_arena_Arena_Fault [(.pointer x42)] (.one (.leaf .bool)) fun x208 =>
              t_magpielaw13_EpochKeeps_J4 y1 x135 x146 x208)
            else (
              bif (!x105.2.1) then (
                .ldA x8 [(.int .i64), (.int .i64)] fun x143 =>
                .ldA x6 [(.int .i64), (.int .i64), (.int .i64), (.int .i64), (.int .i64)] fun x144 =>
                .call f_epoch_NewTurn [(.agg #[(.int .i64 x143.1), (.int .i64 x143.2.1)]), (.agg #[(.int .i64 x144.1), (.int .i64 x144.2.1), (.int .i64 x144.2.2.1), (.int .i64 x144.2.2.2.1), (.int .i64 x144.2.2.2.2.1)]), (.int .i64 0), (.slice x135.a x135.len x135.cap)] (.one (.leaf .ptr)) fun x146 =>
                .call f_arena_Arena_Fault [(.pointer x42)] (.one (.leaf .bool)) fun x208 =>
                t_magpielaw13_EpochKeeps_J4 y1 x135 x146 x208)
              else (
                .call f_arena_Arena_Fault [(.pointer x42)] (.one (.leaf .bool)) fun x208 =>
                bif x208 then (
                  .ret (.bool false))
                else (
                  .again 960 [(.bool y1.1), (.pointer none), (.pointer y1.2.2.1), (.slice x135.a x135.len x135.cap), (.int .i64 (w64 (y1.2.2.2.2.1 + 1)))]))))
          else (
            bif (decide ((((y1.2.2.2.1.len : Nat) : Int) : Int) > 3)) then (
              t_magpielaw13_EpochKeeps_J9 x6 x8 x42 y1)
            else (
              t_magpielaw13_EpochKeeps_J11 x6 x8 x42 y1 x105)))
        else (
          bif (decide ((((y1.2.2.2.1.len : Nat) : Int) : Int) > 3)) then (
            t_magpielaw13_EpochKeeps_J9 x6 x8 x42 y1)
          else (
            t_magpielaw13_EpochKeeps_J11 x6 x8 x42 y1 x105)))
      else (
        bif (decide ((((y1.2.2.2.1.len : Nat) : Int) : Int) > 3)) then (
          t_magpielaw13_EpochKeeps_J9 x6 x8 x42 y1)
        else (
          t_magpielaw13_EpochKeeps_J11 x6 x8 x42 y1 x105))))
  else (
    .look (opS Try.prog (.indexAddr ty_a7_int (.tmp 0) (.tmp 1)) ty_unit [(.pointer (some x12)), (.int .i64 x67)]) (.one (.leaf .addr)) fun x149 =>
    .ld x149 (.int .i64) fun x150 =>
    bif ((x150 : Int) == 0) then (
      .look (opS Try.prog (.indexAddr ty_a7_p_epoch_Pin (.tmp 0) (.tmp 1)) ty_unit [(.pointer (some x14)), (.int .i64 x67)]) (.one (.leaf .addr)) fun x153 =>
      .ld x153 .ptr fun x154 =>
      .look (opS Try.prog (.binOp .eql ty_p_epoch_Pin (.tmp 0) (.const (.pointer none)) ty_p_epoch_Pin) ty_bool [(.pointer x154)]) (.one (.leaf .bool)) fun x155 =>
      bif x155 then (
        .ldA x8 [(.int .i64), (.int .i64)] fun x157 =>
        .call f_epoch_NewPin [(.agg #[(.int .i64 x157.1), (.int .i64 x157.2.1)]), (.int .i64 x67)] (.one (.leaf .ptr)) fun x159 =>
        .look (opS Try.prog (.indexAddr ty_a7_p_epoch_Pin (.tmp 0) (.tmp 1)) ty_unit [(.pointer (some x14)), (.int .i64 x67)]) (.one (.leaf .addr)) fun x160 =>
        .st x160 (.pointer x159) <|
        t_magpielaw13_EpochKeeps_J17 x42 x12 x14 y1 x67)
      else (
        t_magpielaw13_EpochKeeps_J17 x42 x12 x14 y1 x67))
    else (
      .look (opS Try.prog (.indexAddr ty_a7_int (.tmp 0) (.tmp 1)) ty_unit [(.pointer (some x12)), (.int .i64 x67)]) (.one (.leaf .addr)) fun x172 =>
      .ld x172 (.int .i64) fun x173 =>
      bif ((x173 : Int) == 1) then (
        .call f_arena_Arena_Raw [(.pointer x42), (.int .i64 (w64 (x29.2.1 + x35.2.1)))] (.one (.leaf (.int .i64))) fun x178 =>
        .look (opS Try.prog (.indexAddr ty_a7_int (.tmp 0) (.tmp 1)) ty_unit [(.pointer (some x13)), (.int .i64 x67)]) (.one (.leaf .addr)) fun x179 =>
        .st x179 (.int .i64 x178) <|
        .look (opS Try.prog (.indexAddr ty_a7_int (.tmp 0) (.tmp 1)) ty_unit [(.pointer (some x12)), (.int .i64 x67)]) (.one (.leaf .addr)) fun x181 =>
        .st x181 (.int .i64 2) <|
        .call f_arena_Arena_Fault [(.pointer x42)] (.one (.leaf .bool)) fun x208 =>
        t_magpielaw13_EpochKeeps_J1 y1 x208)
      else (
        .look (opS Try.prog (.indexAddr ty_a7_int (.tmp 0) (.tmp 1)) ty_unit [(.pointer (some x12)), (.int .i64 x67)]) (.one (.leaf .addr)) fun x184 =>
        .ld x184 (.int .i64) fun x185 =>
        bif (decide ((x185 : Int) < 6)) then (
          .look (opS Try.prog (.indexAddr ty_a7_int (.tmp 0) (.tmp 1)) ty_unit [(.pointer (some x13)), (.int .i64 x67)]) (.one (.leaf .addr)) fun x188 =>
          .ld x188 (.int .i64) fun x189 =>
          bif ((x189 : Int) != 0) then (
            .look (opS Try.prog (.indexAddr ty_a7_int (.tmp 0) (.tmp 1)) ty_unit [(.pointer (some x13)), (.int .i64 x67)]) (.one (.leaf .addr)) fun x194 =>
            .ld x194 (.int .i64) fun x195 =>
            .look (opS Try.prog (.indexAddr ty_a7_int (.tmp 0) (.tmp 1)) ty_unit [(.pointer (some x13)), (.int .i64 x67)]) (.one (.leaf .addr)) fun x198 =>
            .ld x198 (.int .i64) fun x199 =>
            .call f_arena_Arena_Load [(.pointer x42), (.int .i64 x195), (.int .i64 0)] (.one (.leaf (.int .i64))) fun x196 =>
            .check (ldS x198) (.int .i64 x199) <|
            .check (opS Try.prog (.indexAddr ty_a7_int (.tmp 0) (.tmp 1)) ty_unit [(.pointer (some x13)), (.int .i64 x67)]) (.pointer (some x198)) <|
            bif ((x196 : Int) != x199) then (
              .ret (.bool false))
            else (
              t_magpielaw13_EpochKeeps_J20 x42 x12 y1 x67))
          else (
            t_magpielaw13_EpochKeeps_J20 x42 x12 y1 x67))
        else (
          .ldA x8 [(.int .i64), (.int .i64)] fun x69 =>
          .qcall f_epoch_Table_Word [(.agg #[(.int .i64 x69.1), (.int .i64 x69.2.1)]), (.int .i64 x67)] (.one (.leaf (.int .i64))) fun x71 =>
          .call f_arena_Arena_SetRaw [(.pointer x42), (.int .i64 x71), (.int .i64 0)] .unit fun _ =>
          .look (opS Try.prog (.indexAddr ty_a7_int (.tmp 0) (.tmp 1)) ty_unit [(.pointer (some x12)), (.int .i64 x67)]) (.one (.leaf .addr)) fun x74 =>
          .st x74 (.int .i64 0) <|
          .call f_arena_Arena_Fault [(.pointer x42)] (.one (.leaf .bool)) fun x208 =>
          t_magpielaw13_EpochKeeps_J1 y1 x208))))

noncomputable def t_magpielaw13_EpochKeeps_J26 (x29 : HL Sh1.T [(.agg [(.int .i64), (.int .i64), (.int .i64), (.int .i64), (.int .i64)]), (.leaf (.int .i64))]) (x6 : Addr) (x35 : HL Sh1.T [(.agg [(.int .i64), (.int .i64)]), (.leaf (.int .i64))]) (x8 : Addr) (x42 : Option Addr) (x12 : Addr) (x13 : Addr) (x14 : Addr) (y1 : HL Sh1.T [(.leaf .bool), (.leaf .ptr), (.leaf .ptr), (.leaf .slice), (.leaf (.int .i64))]) (x67 : Int) (x92 : Bool) : Tree :=
  bif x92 then (
    .ldA x6 [(.int .i64), (.int .i64), (.int .i64), (.int .i64), (.int .i64)] fun x94 =>
    .call f_slab_NewAlloc [(.agg #[(.int .i64 x94.1), (.int .i64 x94.2.1), (.int .i64 x94.2.2.1), (.int .i64 x94.2.2.2.1), (.int .i64 x94.2.2.2.2.1)]), (.int .i64 0), (.int .i64 0)] (.one (.leaf .ptr)) fun x95 =>
    .call f_arena_Arena_Fault [(.pointer x42)] (.one (.leaf .bool)) fun x208 =>
    bif x208 then (
      .ret (.bool false))
    else (
      .again 960 [(.bool y1.1), (.pointer x95), (.pointer y1.2.2.1), (.slice y1.2.2.2.1.a y1.2.2.2.1.len y1.2.2.2.1.cap), (.int .i64 (w64 (y1.2.2.2.2.1 + 1)))]))
  else (
    t_magpielaw13_EpochKeeps_J25 x29 x6 x35 x8 x42 x12 x13 x14 y1 x67)

noncomputable def t_magpielaw13_EpochKeeps_J31 (y1 : HL Sh1.T [(.leaf .bool), (.leaf .ptr), (.leaf .ptr), (.leaf .slice), (.leaf (.int .i64))]) : Tree :=
  bif (decide ((((y1.2.2.2.1.len : Nat) : Int) : Int) ≤ 50)) then (
    .call f_magpielaw13_awake [] (.one (.leaf .bool)) fun x213 =>
    .ret (.bool x213))
  else (
    .ret (.bool false))

@[reducible] def t_magpielaw13_EpochKeeps_L1_sh : List Sh1 := [(.leaf .bool), (.leaf .ptr), (.leaf .ptr), (.leaf .slice), (.leaf (.int .i64))]
noncomputable def t_magpielaw13_EpochKeeps_L1 (p1 : Sl) (x25 : Int) (x29 : HL Sh1.T [(.agg [(.int .i64), (.int .i64), (.int .i64), (.int .i64), (.int .i64)]), (.leaf (.int .i64))]) (x6 : Addr) (x35 : HL Sh1.T [(.agg [(.int .i64), (.int .i64)]), (.leaf (.int .i64))]) (x8 : Addr) (x42 : Option Addr) (x12 : Addr) (x13 : Addr) (x14 : Addr) (y1 : HL Sh1.T t_magpielaw13_EpochKeeps_L1_sh) : Tree :=
  bif (decide ((y1.2.2.2.2.1 : Int) < ((p1.len : Nat) : Int))) then (
    bif (decide ((y1.2.2.2.2.1 : Int) < 600)) then (
      .look (opS Try.prog (.indexAddr ty_s_int (.tmp 0) (.tmp 1)) ty_unit [(.slice p1.a p1.len p1.cap), (.int .i64 y1.2.2.2.2.1)]) (.one (.leaf .addr)) fun x62 =>
      .ld x62 (.int .i64) fun x63 =>
      .qcall f_magpielaw00_Place [(.int .i64 x63), (.int .i64 1048576)] (.one (.leaf (.int .i64))) fun x64 =>
      .look (opS Try.prog (.binOp .rem ty_int (.tmp 0) (.tmp 1) ty_int) ty_int [(.int .i64 x64), (.int .i64 (w64 (2 + x25)))]) (.one (.leaf (.int .i64))) fun x67 =>
      bif ((x67 : Int) == 0) then (
        .look (opS Try.prog (.binOp .neq ty_p_epoch_Turn (.tmp 0) (.const (.pointer none)) ty_p_epoch_Turn) ty_bool [(.pointer y1.2.2.1)]) (.one (.leaf .bool)) fun x80 =>
        bif x80 then (
          .call f_epoch_Turn_Step [(.pointer y1.2.2.1), (.pointer x42)] (.one (.leaf .bool)) fun x84 =>
          bif x84 then (
            .call f_epoch_Turn_Left [(.pointer y1.2.2.1)] (.one (.leaf .slice)) fun x86 =>
            .call f_arena_Arena_Fault [(.pointer x42)] (.one (.leaf .bool)) fun x208 =>
            bif x208 then (
              .ret (.bool false))
            else (
              .again 960 [(.bool y1.1), (.pointer y1.2.1), (.pointer none), (.slice x86.a x86.len x86.cap), (.int .i64 (w64 (y1.2.2.2.2.1 + 1)))]))
          else (
            .call f_arena_Arena_Fault [(.pointer x42)] (.one (.leaf .bool)) fun x208 =>
            t_magpielaw13_EpochKeeps_J1 y1 x208))
        else (
          bif ((x67 : Int) == 0) then (
            .look (opS Try.prog (.binOp .eql ty_p_slab_Alloc (.tmp 0) (.const (.pointer none)) ty_p_slab_Alloc) ty_bool [(.pointer y1.2.1)]) (.one (.leaf .bool)) fun x92 =>
            t_magpielaw13_EpochKeeps_J26 x29 x6 x35 x8 x42 x12 x13 x14 y1 x67 x92)
          else (
            t_magpielaw13_EpochKeeps_J25 x29 x6 x35 x8 x42 x12 x13 x14 y1 x67)))
      else (
        bif ((x67 : Int) == 0) then (
          .look (opS Try.prog (.binOp .eql ty_p_slab_Alloc (.tmp 0) (.const (.pointer none)) ty_p_slab_Alloc) ty_bool [(.pointer y1.2.1)]) (.one (.leaf .bool)) fun x92 =>
          t_magpielaw13_EpochKeeps_J26 x29 x6 x35 x8 x42 x12 x13 x14 y1 x67 x92)
        else (
          t_magpielaw13_EpochKeeps_J25 x29 x6 x35 x8 x42 x12 x13 x14 y1 x67)))
    else (
      t_magpielaw13_EpochKeeps_J31 y1))
  else (
    t_magpielaw13_EpochKeeps_J31 y1)
noncomputable def t_magpielaw13_EpochKeeps (p0 : Int) (p1 : Sl) : Tree :=
  .qcall f_magpielaw00_Place [(.int .i64 p0), (.int .i64 5)] (.one (.leaf (.int .i64))) fun x25 =>
  .call f_free_Raw [(.int .i64 (w64 (2 + x25))), (.int .i64 400)] (.tup [(.agg [(.int .i64), (.int .i64), (.int .i64), (.int .i64), (.int .i64)]), (.leaf (.int .i64))]) fun x29 =>
  .newP (.cells #[(.int .i64 0), (.int .i64 0), (.int .i64 0), (.int .i64 0), (.int .i64 0)] ty_free_Place) fun x6 =>
  .stA x6 [(.int .i64 x29.1.1), (.int .i64 x29.1.2.1), (.int .i64 x29.1.2.2.1), (.int .i64 x29.1.2.2.2.1), (.int .i64 x29.1.2.2.2.2.1)] <|
  .qcall f_epoch_Raw [(.int .i64 (w64 (2 + x25))), (.int .i64 x29.2.1)] (.tup [(.agg [(.int .i64), (.int .i64)]), (.leaf (.int .i64))]) fun x35 =>
  .newP (.cells #[(.int .i64 0), (.int .i64 0)] ty_epoch_Table) fun x8 =>
  .stA x8 [(.int .i64 x35.1.1), (.int .i64 x35.1.2.1)] <|
  .call f_arena_New [(.int .i64 (w64 ((w64 (x29.2.1 + x35.2.1)) + 1))), (.int .i64 400), (.bool false)] (.one (.leaf .ptr)) fun x42 =>
  .look (opS Try.prog (.binOp .eql ty_p_arena_Arena (.tmp 0) (.const (.pointer none)) ty_p_arena_Arena) ty_bool [(.pointer x42)]) (.one (.leaf .bool)) fun x47 =>
  bif x47 then (
    .ret (.bool false))
  else (
    .newP (.cells #[(.int .i64 0), (.int .i64 0), (.int .i64 0), (.int .i64 0), (.int .i64 0), (.int .i64 0), (.int .i64 0)] ty_a7_int) fun x12 =>
    .stA x12 [(.int .i64 0), (.int .i64 0), (.int .i64 0), (.int .i64 0), (.int .i64 0), (.int .i64 0), (.int .i64 0)] <|
    .newP (.cells #[(.int .i64 0), (.int .i64 0), (.int .i64 0), (.int .i64 0), (.int .i64 0), (.int .i64 0), (.int .i64 0)] ty_a7_int) fun x13 =>
    .stA x13 [(.int .i64 0), (.int .i64 0), (.int .i64 0), (.int .i64 0), (.int .i64 0), (.int .i64 0), (.int .i64 0)] <|
    .newP (.cells #[(.pointer none), (.pointer none), (.pointer none), (.pointer none), (.pointer none), (.pointer none), (.pointer none)] ty_a7_p_epoch_Pin) fun x14 =>
    .loop 960 t_magpielaw13_EpochKeeps_L1_sh [(.bool false), (.pointer none), (.pointer none), (.slice none 0 0), (.int .i64 0)] (t_magpielaw13_EpochKeeps_L1 p1 x25 x29 x6 x35 x8 x42 x12 x13 x14))
theorem t_magpielaw13_EpochKeeps_eq (p0 : Int) (p1 : Sl) : funcTree Try.prog { quiet := [16, 22, 23, 34, 35, 48, 49, 53, 57, 58, 59, 62, 105], quietTmp := true, fncs := [], ifcs := [] } Try.f15 [(.int .i64 p0), (.slice p1.a p1.len p1.cap)] = t_magpielaw13_EpochKeeps p0 p1 := by kernel_rfl
theorem t_magpielaw13_EpochKeeps_spec {p0 : Int} {p1 : Sl} {H : Heap} {R : Value → Heap → Prop} (h : ∀ L, wp Try.prog (t_magpielaw13_EpochKeeps p0 p1) L H R) : SpecF Try.prog f_magpielaw13_EpochKeeps #[(.int .i64 p0), (.slice p1.a p1.len p1.cap)] H R :=
  spec_of_tree (cfg := { quiet := [16, 22, 23, 34, 35, 48, 49, 53, 57, 58, 59, 62, 105], quietTmp := true, fncs := [], ifcs := [] }) Try.func15 fun L => (t_magpielaw13_EpochKeeps_eq p0 p1).symm ▸ h L

end Go.Proofs.Ytfphgiipekkgdaa

set_option linter.unusedVariables false
set_option linter.unusedSimpArgs false
set_option maxRecDepth 20000
namespace Go.Proofs.Ytfphgiipekkgdaa
open Go Go.Fw

def tnB : Option (Tn × TnJ) → Bl
  | some (x, j) => x.bl j
  | none => []
def tnP : Option (Tn × TnJ) → Option Addr
  | some (_, j) => some ⟨j.q, 0, none⟩
  | none => none
def pnB : Option (Pn × Nat) → Bl
  | some (x, q) => x.bl q
  | none => []
def pnP : Option (Pn × Nat) → Option Addr
  | some (_, q) => some ⟨q, 0, none⟩
  | none => none

abbrev eta (w : Int) : Int := 4 * w + 101
abbrev ecl (w : Int) : Int := 4 * w + 101 + (1 + w)

/-- A pin under way. -/
structure PnI (A : Ar) (w : Int) (r : Int) (x : Pn) : Prop where
  tw : x.tw = w
  ta : x.ta = eta w
  wk : x.work = r
  eb : 0 ≤ x.e ∧ x.e ≤ 900000
  ph : x.ph = 0 ∨ x.ph = 1 ∨ (x.ph = 2 ∧ A.rawF (eta w + 1 + r) = x.e + 1)
/-- One that is pinned, and what it looks at. -/
structure PdI (A : Ar) (w : Int) (tn : Option (Tn × TnJ)) (lim : List (Int × Int)) (r ph hd P : Int) : Prop where
  p0 : 0 ≤ P
  wd : A.rawF (eta w + 1 + r) = P + 1
  gl : A.rawF (eta w) = P ∨ A.rawF (eta w) = P + 1
  ts : ∀ x j, tn = some (x, j) → TSafe x (A.rawF (eta w)) r P
  hs : 2 ≤ ph → hd ≠ 0 → A.stF hd ≠ 0 ∧ (∀ x j, tn = some (x, j) → HSafe x hd P) ∧ (tn = none → ∀ q ∈ lim, q.1 = hd → P ≤ q.2)
structure RdE (A : Ar) (w : Int) (tn : Option (Tn × TnJ)) (lim : List (Int × Int)) (r ph hd : Int) (pn : Option (Pn × Nat)) : Prop where
  p0 : 0 ≤ ph ∧ ph ≤ 6
  pni : ∀ x q, pn = some (x, q) → PnI A w r x
  pd : 1 ≤ ph → ∃ P, PdI A w tn lim r ph hd P
  pz : 1 ≤ ph → pn = none

structure EK (I : List Nat) (A : Ar) (w : Int) (S : Sg) (al : Option (Al × Tr3)) (tn : Option (Tn × TnJ)) (lim : List (Int × Int)) (ph hd : Nat → Int) (pn : Nat → Option (Pn × Nat)) (n : Int) : Prop where
  wb : 2 ≤ w ∧ w ≤ 6
  aw : Aw I A
  sl : SL A (plOf w 400) w 400 S
  fa : A.fault = false
  rl : (A.raw.length : Int) = ecl w + 1
  us : A.uses ≤ 6 * n
  nb : n ≤ 601
  nR : A.nR ≤ 8 * A.uses
  nL : -(8 * A.uses) ≤ A.nL
  gb : 0 ≤ A.rawF (eta w) ∧ A.rawF (eta w) ≤ A.uses
  cell : A.rawF (ecl w) = 0 ∨ A.stF (A.rawF (ecl w)) = 1
  body : ∀ h, A.stF h ≠ 0 → opC h = 0 ∧ A.words.getD (pos h 0) 0 = h
  one : al = none ∨ tn = none
  alI : ∀ x j, al = some (x, j) → AlI (plOf w 400) w 400 x A S ∧ x.cls = 0
  tnI : ∀ x j, tn = some (x, j) → TnI (plOf w 400) w 400 (eta w) x A S ∧ x.rep j
  lmI : tn = none → (lim.map Prod.fst).Nodup ∧ ∀ q ∈ lim, A.stF q.1 = 2 ∧ q.2 ≤ 1000000
  lml : lim.length ≤ 50
  rd : ∀ r : Nat, 1 ≤ r → (r : Int) < w → RdE A w tn lim r (ph r) (hd r) (pn r)

section
variable {I : List Nat} {A B : Ar} {w n : Int} {S S' : Sg} {al : Option (Al × Tr3)} {tn : Option (Tn × TnJ)} {lim : List (Int × Int)} {ph hd : Nat → Int} {pn : Nat → Option (Pn × Nat)}

/-- So many are not dead, at most. -/
theorem act_le (X : SL A (plOf w 400) w 400 S) {xs : List Int} (nd : xs.Nodup) (hs : ∀ h ∈ xs, A.stF h ≠ 0) : xs.length ≤ 50 := by
  have h1 : (xs.map opB).Nodup := by
    have : ∀ ys : List Int, ys.Nodup → (∀ h ∈ ys, A.stF h ≠ 0) → (ys.map opB).Nodup := fun ys => by
      induction ys with
      | nil => intro _ _; exact .nil
      | cons a ys ih =>
        intro nd hs
        obtain ⟨n1, n2⟩ := List.nodup_cons.1 nd
        refine List.nodup_cons.2 ⟨fun hm => ?_, ih n2 fun h hh => hs h (List.mem_cons_of_mem _ hh)⟩
        obtain ⟨b, hb, e⟩ := List.mem_map.1 hm
        exact hs b (List.mem_cons_of_mem _ hb) (stF_one (A := A) (h := a) (k := b) (hs a List.mem_cons_self) e (fun e => n1 (by rw [← e]; exact hb)))
    exact this xs nd hs
  have h2 := nodup_le (xs.map opB) ((List.range 50).map fun i : Nat => 8 * (i : Int)) h1 fun b hb => by
    obtain ⟨h, hh, rfl⟩ := List.mem_map.1 hb
    obtain ⟨a1, a2⟩ := X.act h (hs h hh)
    have hn := opB_nat h
    have hc := opC_nat h
    have := X.blk (opB h) (by omega)
    have sz := size_opC h
    rw [← a1] at sz
    have cv := X.cvb
    refine List.mem_map.2 ⟨(opB h / 8).toNat, List.mem_range.2 ?_, ?_⟩
    · omega
    · omega
  simpa using h2

theorem EK.cd (K : EK I A w S al tn lim ph hd pn n) : (plOf w 400).carved = 4 * w + 100 := by show 4 * w + 2 * ((400 + 7) / 8) = _; omega
theorem EK.up (K : EK I A w S al tn lim ph hd pn n) (h : n ≤ 600) : EK I A w S al tn lim ph hd pn (n + 1) :=
  ⟨K.wb, K.aw, K.sl, K.fa, K.rl, by have := K.us; omega, by omega, K.nR, K.nL, K.gb, K.cell, K.body, K.one, K.alI, K.tnI, K.lmI, K.lml, K.rd⟩
/-- A reader, whom nothing touches. -/
theorem RdE.keep {r p h : Int} {q : Option (Pn × Nat)} (R : RdE A w tn lim r p h q) {tn' : Option (Tn × TnJ)} {lim' : List (Int × Int)} (hw : B.rawF (eta w + 1 + r) = A.rawF (eta w + 1 + r)) (hg : B.rawF (eta w) = A.rawF (eta w)) (hs : 2 ≤ p → A.stF h ≠ 0 → B.stF h ≠ 0)
    (ht : ∀ P, (∀ x j, tn = some (x, j) → TSafe x (A.rawF (eta w)) r P) → ∀ x j, tn' = some (x, j) → TSafe x (A.rawF (eta w)) r P)
    (hh : ∀ P, (A.rawF (eta w) = P ∨ A.rawF (eta w) = P + 1) → A.stF h ≠ 0 → (∀ x j, tn = some (x, j) → HSafe x h P) → (tn = none → ∀ q ∈ lim, q.1 = h → P ≤ q.2) → (∀ x j, tn' = some (x, j) → HSafe x h P) ∧ (tn' = none → ∀ q ∈ lim', q.1 = h → P ≤ q.2)) : RdE B w tn' lim' r p h q := by
  refine ⟨R.p0, fun x j e => ?_, fun e => ?_, R.pz⟩
  · have i := R.pni x j e
    exact ⟨i.tw, i.ta, i.wk, i.eb, by rw [hw]; exact i.ph⟩
  · obtain ⟨P, D⟩ := R.pd e
    refine ⟨P, D.p0, by rw [hw]; exact D.wd, by rw [hg]; exact D.gl, by rw [hg]; exact ht P D.ts, fun e2 e3 => ?_⟩
    obtain ⟨d1, d2, d3⟩ := D.hs e2 e3
    exact ⟨hs e2 d1, hh P D.gl d1 d2 d3⟩

/-- Only uses. -/
theorem EK.later (K : EK I A w S al tn lim ph hd pn n) (hn : n ≤ 600) {k : Int} (hk : 0 ≤ k ∧ k ≤ 6) : EK I (A.later k) w S al tn lim ph hd pn (n + 1) := by
  have us := K.us
  have nR := K.nR
  have nL := K.nL
  have gb := K.gb
  have E := Ev.later K.sl (n := k) (mine := -1) hk.1
  refine ⟨K.wb, later_aw K.aw k, K.sl.later hk.1, K.fa, K.rl, by show A.uses + k ≤ _; omega, by omega, by show A.nR ≤ 8 * (A.uses + k); omega, by show -(8 * (A.uses + k)) ≤ A.nL; omega, by show 0 ≤ A.rawF (eta w) ∧ A.rawF (eta w) ≤ A.uses + k; omega, K.cell, K.body, K.one, fun x j h => ?_, fun x j h => ?_, K.lmI, K.lml, fun r r0 r1 => (K.rd r r0 r1).keep rfl rfl (fun _ h => h) (fun _ h => h) fun _ _ _ h1 h2 => ⟨h1, h2⟩⟩
  · obtain ⟨a, b⟩ := K.alI x j h
    exact ⟨a.keep K.sl E (neg1_nin K.sl) (fun e e2 => by have := K.sl.blk _ (a.bears e).1.1; omega), b⟩
  · obtain ⟨a, b⟩ := K.tnI x j h
    exact ⟨a.keep E rfl (fun h' hh e => by have := K.sl.act h' (by rw [hh]; decide); have := K.sl.blk _ (show S.cl (opB h') ≠ -1 by have := (opC_nat h').1; omega); omega), b⟩

/-- A raw word behind the slab's, not the global, is stored. -/
theorem EK.store (K : EK I A w S al tn lim ph hd pn n) {i v : Int} (hi : eta w < i ∧ i < ecl w) (hu : A.uses + 1 ≤ 6 * n) {ph' : Nat → Int} {pn' : Nat → Option (Pn × Nat)}
    (hr : ∀ B : Ar, (∀ j, B.rawF j = if j = i then v else A.rawF j) → (∀ h, B.stF h = A.stF h) → ∀ r : Nat, 1 ≤ r → (r : Int) < w → RdE B w tn lim r (ph' r) (hd r) (pn' r)) : EK I (A.storeR i v) w S al tn lim ph' hd pn' n := by
  have wb := K.wb
  have us := K.us
  have nb := K.nb
  have rl := K.rl
  have nR := K.nR
  have nL := K.nL
  have gb := K.gb
  have cd := K.cd
  have ee : eta w = 4 * w + 101 := rfl
  have ec : ecl w = 4 * w + 101 + (1 + w) := rfl
  obtain ⟨q1, q2, q3, q4, q5, q6, q7, q8, q9, q10⟩ := Qu.storeR K.sl (by omega) (i := i) (v := v) ⟨by omega, by omega⟩
  have hB := K.aw.storeR i v
  generalize A.storeR i v = B at *
  have eg : B.rawF (eta w) = A.rawF (eta w) := by rw [q10, if_neg (by omega)]
  refine ⟨K.wb, hB, q1, q7.trans K.fa, by rw [q9]; exact rl, by omega, K.nb, by rw [q5]; omega, by rw [q4]; omega, by rw [eg]; omega, ?_, ?_, K.one, fun x j h => ?_, fun x j h => ?_, fun h => ?_, K.lml, hr B q10 q3⟩
  · rw [q10, if_neg (by omega), q3]; exact K.cell
  · intro h hh; rw [q3] at hh; rw [q6]; exact K.body h hh
  · obtain ⟨a, b⟩ := K.alI x j h
    refine ⟨⟨a.pl, a.who, a.cls, a.lst, a.wh, fun e => ?_, a.swaps, fun e => ?_, a.h0⟩, b⟩
    · obtain ⟨l0, k, k0, k1, k2, P⟩ := a.pops e
      exact ⟨l0, k, k0, k1, k2, P.keep K.sl.F k0 k1 (neg1_nin K.sl) q2⟩
    · obtain ⟨o, c⟩ := a.bears e
      exact ⟨⟨o.1, o.2.1, fun h hh => o.2.2 h (by rw [← q3]; exact hh)⟩, c⟩
  · obtain ⟨a, b⟩ := K.tnI x j h
    refine ⟨⟨a.htw, a.hta, a.hpl, a.hwk, a.ll, a.nf, a.lb, a.lb2, ?_⟩, b⟩
    rcases a.st with ⟨a1, a2, a3, a4, a5, a6, a7, a8⟩ | ⟨a1, a2, a3, a4, a5, a6, a7⟩
    · exact .inl ⟨a1, a2, a3, a4, fun q hq => by rw [q3]; exact a5 q hq, a6, fun h => by rw [eg]; exact a7 h, a8⟩
    · refine .inr ⟨a1, a2, ?_, a4, a5, fun q hq => ⟨by rw [q3]; exact (a6 q hq).1, (a6 q hq).2⟩, a7⟩
      cases hf : x.frees with
      | nil => trivial
      | cons f fs =>
        rw [hf] at a3
        have bb := a3.1.pu.bb
        exact ⟨⟨by rw [q3]; exact a3.1.st, a3.1.nd, a3.1.pu.keep (by omega) q2⟩, fun g hg => ⟨(a3.2 g hg).1, by rw [q3]; exact (a3.2 g hg).2⟩⟩
  · obtain ⟨a, b⟩ := K.lmI h
    exact ⟨a, fun q hq => by rw [q3]; exact b q hq⟩

/-- The turn steps. -/
theorem EK.turn {x : Tn} {j : TnJ} (K : EK I A w S none (some (x, j)) lim ph hd pn n) (hn : n ≤ 600) : mTn.inv x A ∧ ∃ S', TnS (plOf w 400) w 400 (eta w) x A S (x.step A).1 (x.step A).2 S' ∧
    (Aw I (x.step A).2 → (x.step A).1.ph < 4 → ∀ j', (x.step A).1.rep j' → EK I (x.step A).2 w S' none (some ((x.step A).1, j')) lim ph hd pn (n + 1)) ∧
    (Aw I (x.step A).2 → 4 ≤ (x.step A).1.ph → EK I (x.step A).2 w S' none none (x.step A).1.left ph hd pn (n + 1)) := by
  have wb := K.wb
  have us := K.us
  have rl := K.rl
  have nR := K.nR
  have nL := K.nL
  have gb := K.gb
  have cd := K.cd
  have ee : eta w = 4 * w + 101 := rfl
  have ec : ecl w = 4 * w + 101 + (1 + w) := rfl
  obtain ⟨sI, -⟩ := K.tnI x j rfl
  obtain ⟨inv, S', Z⟩ := sI.step K.sl K.aw.wf (by omega) ⟨by omega, by omega⟩ (by omega) ⟨by omega, by omega⟩ (by omega)
  refine ⟨inv, S', Z, ?_⟩
  generalize (x.step A).1 = y at *
  generalize (x.step A).2 = B at *
  have zus := Z.us
  have znR := Z.nR
  have znL := Z.nL
  have zgl := Z.gl
  have cell : B.rawF (ecl w) = 0 ∨ B.stF (B.rawF (ecl w)) = 1 := by
    rw [Z.rw _ (by omega) (by omega)]
    rcases K.cell with h | h
    · exact .inl h
    · right
      rcases Z.st (A.rawF (ecl w)) with e | e
      · rw [e]; exact h
      · omega
  have body : ∀ h, B.stF h ≠ 0 → opC h = 0 ∧ B.words.getD (pos h 0) 0 = h := fun h hh => by
    rw [Z.wd]
    refine K.body h ?_
    rcases Z.st h with e | e
    · rw [← e]; exact hh
    · omega
  have rd : ∀ (tn' : Option (Tn × TnJ)) (lim' : List (Int × Int)), (∀ x' j', tn' = some (x', j') → x' = y) → (tn' = none → 4 ≤ y.ph ∧ lim' = y.left) → ∀ r : Nat, 1 ≤ r → (r : Int) < w → RdE B w tn' lim' r (ph r) (hd r) (pn r) := fun tn' lim' h1 h2 r r0 r1 => by
    have rq := K.rd r r0 r1
    have ew : B.rawF (eta w + 1 + r) = A.rawF (eta w + 1 + r) := Z.rw _ (by omega) (by omega)
    refine ⟨rq.p0, fun x' q e => ?_, fun e => ?_, rq.pz⟩
    · have i := rq.pni x' q e
      exact ⟨i.tw, i.ta, i.wk, i.eb, by rw [ew]; exact i.ph⟩
    · obtain ⟨P, D⟩ := rq.pd e
      obtain ⟨t1, t2, t3⟩ := Z.ts r P (by omega) (by omega) D.p0 D.wd D.gl (D.ts x j rfl)
      refine ⟨P, D.p0, by rw [ew]; exact D.wd, t1, fun x' j' e => by rw [h1 x' j' e]; exact t2, fun e2 e3 => ?_⟩
      obtain ⟨d1, d2, d3⟩ := D.hs e2 e3
      obtain ⟨u1, u2⟩ := t3 (hd r) d1 (d2 x j rfl)
      refine ⟨by rw [u1]; exact d1, fun x' j' e => by rw [h1 x' j' e]; exact u2, fun e => ?_⟩
      obtain ⟨v1, v2⟩ := h2 e
      unfold HSafe at u2
      rw [if_neg (by omega)] at u2
      rw [v2]; exact u2.2
  refine ⟨fun hB he j' rp => ⟨wb, hB, Z.sl, Z.fa.trans K.fa, by rw [Z.rl]; exact rl, by omega, by omega, by omega, by omega, by omega, cell, body, .inl rfl, fun _ _ h => (by cases h), fun x' j'' h => (by cases h; exact ⟨Z.go he, rp⟩), fun h => (by cases h), K.lml, rd _ _ (fun x' j'' h => (by cases h; rfl)) fun h => (by cases h)⟩,
    fun hB he => ⟨wb, hB, Z.sl, Z.fa.trans K.fa, by rw [Z.rl]; exact rl, by omega, by omega, by omega, by omega, by omega, cell, body, .inl rfl, fun _ _ h => (by cases h), fun _ _ h => (by cases h), fun _ => ⟨(Z.fin he).1, fun q hq => ⟨(Z.fin he).2.1 q hq, Z.lb q hq⟩⟩, ?_, rd _ _ (fun x' j'' h => (by cases h)) fun _ => ⟨he, rfl⟩⟩⟩
  have := act_le Z.sl (Z.fin he).1 fun h hh => by
    obtain ⟨q, hq, rfl⟩ := List.mem_map.1 hh
    rw [(Z.fin he).2.1 q hq]; decide
  simpa using this
end
end Go.Proofs.Ytfphgiipekkgdaa

set_option linter.unusedVariables false
set_option linter.unusedSimpArgs false
set_option maxRecDepth 20000
namespace Go.Proofs.Ytfphgiipekkgdaa
open Go Go.Fw

section
variable {I : List Nat} {A B : Ar} {w n : Int} {S S' : Sg} {al : Option (Al × Tr3)} {tn : Option (Tn × TnJ)} {lim : List (Int × Int)} {ph hd : Nat → Int} {pn : Nat → Option (Pn × Nat)}

/-- A turn is made. -/
theorem EK.newTurn (K : EK I A w S none none lim ph hd pn n) {j : TnJ} (rp : (newTn w (eta w) (plOf w 400) 0 lim).rep j) : EK I A w S none (some (newTn w (eta w) (plOf w 400) 0 lim, j)) lim ph hd pn n := by
  have wb := K.wb
  have ll := K.lml
  obtain ⟨r1, r2⟩ := K.lmI rfl
  refine ⟨wb, K.aw, K.sl, K.fa, K.rl, K.us, K.nb, K.nR, K.nL, K.gb, K.cell, K.body, .inl rfl, fun _ _ h => (by cases h), fun x' j' h => (by cases h; exact ⟨TnI.new K.sl ⟨by omega, by omega⟩ (by omega) r1 (fun q hq => (r2 q hq).1) (fun q hq => (r2 q hq).2), rp⟩), fun h => (by cases h), K.lml, fun r r0 r1 => ?_⟩
  refine (K.rd r r0 r1).keep rfl rfl (fun _ h => h) (fun P _ x' j' h => (by cases h; exact TSafe.new)) fun P _ _ _ h2 => ⟨fun x' j' h => (by cases h; exact HSafe.new (h2 rfl)), fun h => (by cases h)⟩
/-- One more waits. -/
theorem EK.more {x : Int} (K : EK I A w S none none lim ph hd pn n) (h2 : A.stF x = 2) (hx : x ∉ lim.map Prod.fst) : EK I A w S none none (lim ++ [(x, A.rawF (eta w))]) ph hd pn n := by
  have us := K.us
  have nb := K.nb
  have gb := K.gb
  obtain ⟨r1, r2⟩ := K.lmI rfl
  have nd : ((lim ++ [(x, A.rawF (eta w))]).map Prod.fst).Nodup := by
    rw [List.map_append]
    exact List.nodup_append.2 ⟨r1, by simp, fun p hp q hq e => hx (by have := List.mem_singleton.1 hq; rw [← show q = x from this, ← e]; exact hp)⟩
  have h22 : ∀ q ∈ lim ++ [(x, A.rawF (eta w))], A.stF q.1 = 2 ∧ q.2 ≤ 1000000 := fun q hq => by
    rcases List.mem_append.1 hq with e | e
    · exact r2 q e
    · rw [List.mem_singleton.1 e]; exact ⟨h2, by show A.rawF (eta w) ≤ 1000000; omega⟩
  refine ⟨K.wb, K.aw, K.sl, K.fa, K.rl, K.us, K.nb, K.nR, K.nL, K.gb, K.cell, K.body, .inl rfl, fun _ _ h => (by cases h), fun _ _ h => (by cases h), fun _ => ⟨nd, h22⟩, ?_, fun r r0 r1 => ?_⟩
  · have := act_le K.sl nd fun h hh => by
      obtain ⟨q, hq, rfl⟩ := List.mem_map.1 hh
      rw [(h22 q hq).1]; decide
    simpa using this
  · refine (K.rd r r0 r1).keep rfl rfl (fun _ h => h) (fun P h => h) fun P hg _ h1 h2 => ⟨h1, fun _ q hq e => ?_⟩
    rcases List.mem_append.1 hq with e2 | e2
    · exact h2 rfl q e2 e
    · rw [List.mem_singleton.1 e2]; show P ≤ A.rawF (eta w); omega
/-- An alloc is made. -/
theorem EK.newAl (K : EK I A w S none none lim ph hd pn n) {j : Tr3} : EK I A w S (some (newAl (plOf w 400) 0 0, j)) none lim ph hd pn n := by
  have wb := K.wb
  exact ⟨wb, K.aw, K.sl, K.fa, K.rl, K.us, K.nb, K.nR, K.nL, K.gb, K.cell, K.body, .inr rfl, fun x' j' h => (by cases h; exact ⟨AlI.new K.sl ⟨by omega, by omega⟩ ⟨by omega, by omega⟩, rfl⟩), fun _ _ h => (by cases h), K.lmI, K.lml, K.rd⟩

/-- The alloc steps: it goes on, or has none. -/
theorem EK.alStep {x : Al} {j : Tr3} (K : EK I A w S (some (x, j)) none lim ph hd pn n) (hn : n ≤ 600) : ∃ S', AlS (plOf w 400) w 400 x A S (x.step A).1 (x.step A).2 S' ∧
    (Aw I (x.step A).2 → (x.step A).1.what ≠ 4 → ∀ j', EK I (x.step A).2 w S' (some ((x.step A).1, j')) none lim ph hd pn (n + 1)) ∧
    (Aw I (x.step A).2 → (x.step A).1.h = 0 → EK I (x.step A).2 w S' none none lim ph hd pn (n + 1)) := by
  have wb := K.wb
  have us := K.us
  have rl := K.rl
  have nR := K.nR
  have nL := K.nL
  have gb := K.gb
  have cd := K.cd
  have ee : eta w = 4 * w + 101 := rfl
  have ec : ecl w = 4 * w + 101 + (1 + w) := rfl
  obtain ⟨aI, ac⟩ := K.alI x j rfl
  obtain ⟨S', Z⟩ := aI.step K.sl K.aw.wf (by omega)
  refine ⟨S', Z, ?_⟩
  generalize (x.step A).1 = y at *
  generalize (x.step A).2 = B at *
  have zus := Z.us
  have znR := Z.nR
  have same : y.h = 0 → (∀ k, B.stF k = A.stF k) ∧ B.nL = A.nL := fun h => by
    rcases Z.res with ⟨r1, r2, r3⟩ | ⟨_, _, r3, _⟩
    · exact ⟨r2, r3⟩
    · exact (r3 h).elim
  have rw := Z.ev.rw
  have rg : B.rawF (eta w) = A.rawF (eta w) := rw _ (by omega)
  have fin : Aw I B → y.h = 0 → ∀ al', (∀ x' j', al' = some (x', j') → AlI (plOf w 400) w 400 x' B S' ∧ x'.cls = 0) → EK I B w S' al' none lim ph hd pn (n + 1) := fun hB h0 al' ha => by
    obtain ⟨st, zL⟩ := same h0
    refine ⟨wb, hB, Z.sl, Z.ev.fa.trans K.fa, by rw [Z.ev.rl]; exact rl, by omega, by omega, by omega, by omega, by omega, ?_, fun h hh => ?_, .inr rfl, ha, fun _ _ h => (by cases h), fun _ => ?_, K.lml, fun r r0 r1 => ?_⟩
    · rw [rw _ (by omega), st]; exact K.cell
    · rw [st] at hh; rw [Z.wd]; exact K.body h hh
    · obtain ⟨q1, q2⟩ := K.lmI rfl
      exact ⟨q1, fun q hq => by rw [st]; exact q2 q hq⟩
    · exact (K.rd r r0 r1).keep (rw _ (by omega)) rg (fun _ h => by rw [st]; exact h) (fun P h => h) fun P _ _ h1 h2 => ⟨h1, h2⟩
  refine ⟨fun hB h4 j' => ?_, fun hB h0 => fin hB h0 none fun _ _ h => (by cases h)⟩
  have i := Z.inv h4
  exact fin hB i.h0 _ fun x' j'' h => (by cases h; exact ⟨i, by rw [Z.cls]; exact ac⟩)
/-- It has one: its body is written. -/
theorem EK.alBorn {x : Al} {j : Tr3} (K : EK I A w S (some (x, j)) none lim ph hd pn n) (hn : n ≤ 600) {y : Al} {S' : Sg} (Z : AlS (plOf w 400) w 400 x A S y B S') (hB : Aw I B) (h0 : y.h ≠ 0) :
    EK I (B.storeF y.h 0 y.h) w S' none none lim ph hd pn (n + 1) ∧ (B.storeF y.h 0 y.h).stF y.h = 1 ∧ A.stF y.h = 0 ∧ (B.storeF y.h 0 y.h).uses = A.uses + 2 ∧ (∀ h, A.stF h ≠ 0 → (B.storeF y.h 0 y.h).stF h = A.stF h) ∧ (B.storeF y.h 0 y.h).nR = A.nR ∧ (∀ i, 4 * w + 100 < i → (B.storeF y.h 0 y.h).rawF i = A.rawF i) ∧ -(8 * A.uses) ≤ (B.storeF y.h 0 y.h).nL := by
  have wb := K.wb
  have us := K.us
  have rl := K.rl
  have nR := K.nR
  have nL := K.nL
  have gb := K.gb
  have cd := K.cd
  have ee : eta w = 4 * w + 101 := rfl
  have ec : ecl w = 4 * w + 101 + (1 + w) := rfl
  obtain ⟨aI, ac⟩ := K.alI x j rfl
  have zus := Z.us
  have znR := Z.nR
  rcases Z.res with ⟨r1, _⟩ | ⟨r1, r2, r3, r4, r5, r6, r7, r8, r9⟩
  · exact (h0 r1).elim
  have szh : sizeF (opC y.h) = 8 := by rw [r5, ac]; rfl
  have inok : B.inOk y.h 0 := ⟨by rw [r8, if_pos rfl]; decide, by omega, by omega⟩
  obtain ⟨Q, qu⟩ := Qu.store Z.sl (by omega) (h := y.h) (off := 0) (v := y.h) inok
  have hC := hB.storeF y.h 0 y.h
  have ew : (B.storeF y.h 0 y.h).words = B.words.set (pos y.h 0) y.h := by rw [storeF_yes inok]; rfl
  have pl := pos_lt hB.wf inok
  have er : ∀ i, (B.storeF y.h 0 y.h).rawF i = B.rawF i := fun i => by rw [storeF_yes inok]; exact rawF_congr rfl i
  generalize B.storeF y.h 0 y.h = C at *
  have st : ∀ h, C.stF h = if h = y.h then 1 else A.stF h := fun h => by rw [Q.st, r8]
  have sta : ∀ h, A.stF h ≠ 0 → C.stF h = A.stF h := fun h hh => by rw [st, if_neg]; intro e; rw [e, r7] at hh; exact hh rfl
  have s8 : sizeF x.cls = 8 := by rw [ac]; rfl
  have rwC : ∀ i, 4 * w + 100 < i → C.rawF i = A.rawF i := fun i hi => by rw [er]; exact Z.ev.rw i (by omega)
  have rg : C.rawF (eta w) = A.rawF (eta w) := rwC _ (by omega)
  refine ⟨⟨wb, hC, Q.sl, Q.ev.fa.trans (Z.ev.fa.trans K.fa), by rw [Q.ev.rl, Z.ev.rl]; exact rl, by omega, by omega, by rw [Q.nR]; omega, by rw [Q.nL, r9]; omega, by omega, ?_, fun h hh => ?_, .inl rfl, fun _ _ h => (by cases h), fun _ _ h => (by cases h), fun _ => ?_, K.lml, fun r r0 r1' => ?_⟩, by rw [st, if_pos rfl], r7, by omega, sta, by rw [Q.nR, znR], rwC, by rw [Q.nL, r9]; omega⟩
  · rw [rwC _ (by omega)]
    rcases K.cell with h | h
    · exact .inl h
    · right; rw [sta _ (by rw [h]; decide)]; exact h
  · rw [ew]
    rw [st] at hh
    by_cases e : h = y.h
    · subst e
      refine ⟨by rw [r5]; exact ac, ?_⟩
      rw [List.getD_eq_getElem?_getD, List.getElem?_set_self pl]; rfl
    · rw [if_neg e] at hh
      obtain ⟨b1, b2⟩ := K.body h hh
      refine ⟨b1, ?_⟩
      have hne : opB h ≠ opB y.h := fun e2 => by
        have h1 : B.stF y.h ≠ 0 := by rw [r8, if_pos rfl]; decide
        have h2 := stF_one (A := B) (h := y.h) (k := h) h1 e2 e
        rw [r8, if_neg e] at h2; exact hh h2
      have hbn := opB_nat h
      have hyn := opB_nat y.h
      have : pos y.h 0 ≠ pos h 0 := by unfold pos; omega
      rw [List.getD_eq_getElem?_getD, List.getElem?_set_ne this, ← List.getD_eq_getElem?_getD, Z.wd]; exact b2
  · obtain ⟨q1, q2⟩ := K.lmI rfl
    exact ⟨q1, fun q hq => by rw [sta _ (by rw [(q2 q hq).1]; decide)]; exact q2 q hq⟩
  · exact (K.rd r r0 r1').keep (rwC _ (by omega)) rg (fun _ h => by rw [sta _ h]; exact h) (fun P h => h) fun P _ _ h1 h2 => ⟨h1, h2⟩
/-- The cell names another one. -/
theorem EK.turnC (K : EK I A w S none none lim ph hd pn n) {h : Int} (hs : A.stF h = 1) (hu : A.uses + 1 ≤ 6 * n) :
    EK I (A.storeR (ecl w) h) w S none none lim ph hd pn n ∧ (∀ k, (A.storeR (ecl w) h).stF k = A.stF k) ∧ (A.storeR (ecl w) h).uses = A.uses + 1 ∧ (A.storeR (ecl w) h).nR = A.nR ∧ (A.storeR (ecl w) h).rawF (ecl w) = h ∧ (A.storeR (ecl w) h).nL = A.nL ∧ (A.storeR (ecl w) h).rawF (eta w) = A.rawF (eta w) := by
  have wb := K.wb
  have us := K.us
  have nb := K.nb
  have rl := K.rl
  have nR := K.nR
  have nL := K.nL
  have gb := K.gb
  have cd := K.cd
  have ee : eta w = 4 * w + 101 := rfl
  have ec : ecl w = 4 * w + 101 + (1 + w) := rfl
  obtain ⟨q1, q2, q3, q4, q5, q6, q7, q8, q9, q10⟩ := Qu.storeR K.sl (by omega) (i := ecl w) (v := h) ⟨by omega, by omega⟩
  have hB := K.aw.storeR (ecl w) h
  generalize A.storeR (ecl w) h = B at *
  have rg : B.rawF (eta w) = A.rawF (eta w) := by rw [q10, if_neg (by omega)]
  refine ⟨⟨wb, hB, q1, q7.trans K.fa, by rw [q9]; exact rl, by omega, nb, by rw [q5]; omega, by rw [q4]; omega, by omega, ?_, ?_, .inl rfl, fun _ _ h => (by cases h), fun _ _ h => (by cases h), fun h => ?_, K.lml, fun q k0 k1 => ?_⟩, q3, q8, q5, by rw [q10, if_pos rfl], q4, rg⟩
  · right; rw [q10, if_pos rfl, q3]; exact hs
  · intro h hh; rw [q3] at hh; rw [q6]; exact K.body h hh
  · obtain ⟨a, b⟩ := K.lmI h
    exact ⟨a, fun q hq => by rw [q3]; exact b q hq⟩
  · exact (K.rd q k0 k1).keep (by rw [q10, if_neg (by omega)]) rg (fun _ h => by rw [q3]; exact h) (fun P h => h) fun P _ _ h1 h2 => ⟨h1, h2⟩
/-- What it named is retired. -/
theorem EK.retire (K : EK I A w S none none lim ph hd pn n) {h : Int} (hs : A.stF h = 1) (hc : A.rawF (ecl w) ≠ h) (hR : A.nR + 8 ≤ 8 * A.uses) (hL : -(8 * A.uses) + 8 ≤ A.nL) :
    EK I (A.retireF h) w S none none lim ph hd pn n ∧ (A.retireF h).stF h = 2 ∧ h ∉ lim.map Prod.fst ∧ (A.retireF h).uses = A.uses ∧ A.turnB h 1 = true ∧ (A.retireF h).rawF (eta w) = A.rawF (eta w) := by
  have wb := K.wb
  have us := K.us
  have nb := K.nb
  have rl := K.rl
  have nR := K.nR
  have nL := K.nL
  have gb := K.gb
  have cd := K.cd
  have ee : eta w = 4 * w + 101 := rfl
  have ec : ecl w = 4 * w + 101 + (1 + w) := rfl
  have us0 := K.sl.F.us
  obtain ⟨b1, b2⟩ := K.body h (by rw [hs]; decide)
  have s8 : sizeF (opC h) = 8 := by rw [b1]; rfl
  obtain ⟨Y, st, yL, yR, E, -, u, wd, fa⟩ := Ev.retire K.sl K.aw.wf (by omega) hs ⟨by omega, by omega⟩
  have hB := K.aw.retireF h
  have hnr : h ∉ lim.map Prod.fst := fun e => by
    obtain ⟨q, hq, e2⟩ := List.mem_map.1 e
    have := ((K.lmI rfl).2 q hq).1
    rw [e2, hs] at this; cases this
  generalize A.retireF h = B at *
  have stn : ∀ k, A.stF k ≠ 0 → B.stF k ≠ 0 := fun k hk => by rw [st]; split; decide; exact hk
  have rg : B.rawF (eta w) = A.rawF (eta w) := E.rw _ (by omega)
  refine ⟨⟨wb, hB, Y, fa.trans K.fa, by rw [E.rl]; exact rl, by omega, nb, by omega, by omega, by omega, ?_, fun k hk => ?_, .inl rfl, fun _ _ h => (by cases h), fun _ _ h => (by cases h), fun _ => ?_, K.lml, fun q k0 k1 => ?_⟩, by rw [st, if_pos rfl], hnr, u, decide_eq_true hs, rg⟩
  · rw [E.rw _ (by omega), st, if_neg hc]; exact K.cell
  · rw [wd]
    refine K.body k fun e => hk ?_
    rw [st, if_neg (fun e2 => by rw [e2, hs] at e; cases e)]; exact e
  · obtain ⟨a, b⟩ := K.lmI rfl
    exact ⟨a, fun q hq => by rw [st, if_neg (fun e => hnr (by rw [← e]; exact List.mem_map.2 ⟨q, hq, rfl⟩))]; exact b q hq⟩
  · exact (K.rd q k0 k1).keep (E.rw _ (by omega)) rg (fun _ h => stn _ h) (fun P h => h) fun P _ _ h1 h2 => ⟨h1, h2⟩
/-- A reader's own turn, no word does. -/
theorem EK.read (K : EK I A w S al tn lim ph hd pn n) {r : Nat} (r0 : 1 ≤ r) (r1 : (r : Int) < w) {p h : Int} {z : Option (Pn × Nat)} (hr : RdE A w tn lim r p h z) : EK I A w S al tn lim (fun j => if j = r then p else ph j) (fun j => if j = r then h else hd j) (updF pn r z) n := by
  refine ⟨K.wb, K.aw, K.sl, K.fa, K.rl, K.us, K.nb, K.nR, K.nL, K.gb, K.cell, K.body, K.one, K.alI, K.tnI, K.lmI, K.lml, fun q k0 k1 => ?_⟩
  by_cases e : q = r
  · subst e; rw [if_pos rfl, if_pos rfl, updF_same]; exact hr
  · rw [if_neg e, if_neg e, updF_ne _ _ e]; exact K.rd q k0 k1
/-- A reader's word turns. -/
theorem EK.own (K : EK I A w S al tn lim ph hd pn n) {r : Nat} (r0 : 1 ≤ r) (r1 : (r : Int) < w) {v p : Int} {z : Option (Pn × Nat)} (hu : A.uses + 1 ≤ 6 * n) (hp : p = 0) (hz : ∀ x q, z = some (x, q) → x.tw = w ∧ x.ta = eta w ∧ x.work = r ∧ (0 ≤ x.e ∧ x.e ≤ 900000) ∧ (x.ph = 0 ∨ x.ph = 1 ∨ (x.ph = 2 ∧ v = x.e + 1))) :
    EK I (A.storeR (eta w + 1 + r) v) w S al tn lim (fun j => if j = r then p else ph j) hd (updF pn r z) n := by
  have ee : eta w = 4 * w + 101 := rfl
  have ec : ecl w = 4 * w + 101 + (1 + w) := rfl
  have wb := K.wb
  refine K.store ⟨by omega, by omega⟩ hu fun B hB st q k0 k1 => ?_
  have rq := K.rd q k0 k1
  have rg : B.rawF (eta w) = A.rawF (eta w) := by rw [hB, if_neg (by omega)]
  by_cases e : q = r
  · subst e
    rw [if_pos rfl, updF_same]
    refine ⟨by omega, fun x j e => ?_, fun h => by omega, fun h => by omega⟩
    obtain ⟨z1, z2, z3, z4, z5⟩ := hz x j e
    exact ⟨z1, z2, z3, z4, by rw [hB, if_pos rfl]; exact z5⟩
  · rw [if_neg e, updF_ne _ _ e]
    exact rq.keep (by rw [hB, if_neg (by omega)]) rg (fun _ h => by rw [st]; exact h) (fun P h => h) fun P _ _ h1 h2 => ⟨h1, h2⟩
/-- What the cell names: nothing that waits. -/
theorem EK.cellSafe (K : EK I A w S al tn lim ph hd pn n) {h P : Int} (hs : A.stF h = 1) : (∀ x j, tn = some (x, j) → HSafe x h P) ∧ (tn = none → ∀ q ∈ lim, q.1 = h → P ≤ q.2) := by
  refine ⟨fun x j e => ?_, fun e q hq eq => ?_⟩
  · obtain ⟨s, -⟩ := K.tnI x j e
    unfold HSafe
    rcases s.st with ⟨a1, a2, a3, a4, a5, a6, a7, a8⟩ | ⟨a1, a2, a3, a4, a5, a6, a7⟩
    · rw [if_pos a1]
      intro q hq eq; have := a5 q hq; rw [eq, hs] at this; cases this
    · rw [if_neg (by omega)]
      refine ⟨fun hm => ?_, fun q hq eq => by have := (a6 q hq).1; rw [eq, hs] at this; cases this⟩
      obtain ⟨f, hf, rfl⟩ := List.mem_map.1 hm
      cases hfr : x.frees with
      | nil => rw [hfr] at hf; cases hf
      | cons g gs =>
        rw [hfr] at hf a3
        rcases List.mem_cons.1 hf with e | e
        · subst e; have := a3.1.st; omega
        · have := (a3.2 f e).2; omega
  · have := ((K.lmI e).2 q hq).1
    rw [eq, hs] at this; cases this
end
end Go.Proofs.Ytfphgiipekkgdaa

set_option linter.unusedVariables false
set_option linter.unusedSimpArgs false
set_option maxRecDepth 20000
namespace Go.Proofs.Ytfphgiipekkgdaa
open Go Go.Fw

abbrev ekH (x6 x8 x12 x13 x14 : Nat) (w : Int) (ph hd : Nat → Int) (c14 : List Value) (rest : Bl) : Bl :=
  (x14, oc ty_a7_p_epoch_Pin c14) :: (x13, oc ty_a7_int (arrC 7 fun i => .int .i64 (hd i))) :: (x12, oc ty_a7_int (arrC 7 fun i => .int .i64 (ph i))) :: (x8, oc ty_epoch_Table (tbC w (eta w))) :: (x6, oc ty_free_Place (plCells (plOf w 400))) :: rest
abbrev ekB (x6 x8 x12 x13 x14 : Nat) (w : Int) (ph hd : Nat → Int) (pn : Nat → Option (Pn × Nat)) (al : Option (Al × Tr3)) (tn : Option (Tn × TnJ)) (tl : Bl) : Bl :=
  ekH x6 x8 x12 x13 x14 w ph hd (arrC 7 fun r => .pointer (pnP (pn r))) (alB al ++ (tnB tn ++ (famB (fun r => pnB (pn r)) 7 ++ tl)))

theorem ep_none : opS Try.prog (.binOp .eql ty_p_epoch_Pin (.tmp 0) (.const (.pointer none)) ty_p_epoch_Pin) ty_bool [(.pointer none)] = .pure (.value (.bool true)) := by kernel_rfl
theorem ep_some (a : Addr) : opS Try.prog (.binOp .eql ty_p_epoch_Pin (.tmp 0) (.const (.pointer none)) ty_p_epoch_Pin) ty_bool [(.pointer (some a))] = .pure (.value (.bool false)) := by kernel_rfl
theorem nnT_none : opS Try.prog (.binOp .neq ty_p_epoch_Turn (.tmp 0) (.const (.pointer none)) ty_p_epoch_Turn) ty_bool [(.pointer none)] = .pure (.value (.bool false)) := by kernel_rfl
theorem updF_self {α : Type} {f : Nat → α} {r : Nat} {a : α} (h : f r = a) : updF f r a = f := by
  funext j; unfold updF; split
  · rename_i e; rw [e, h]
  · rfl

section
variable {L : Hands} {R : Value → Heap → Prop} {H : Heap} {I : List Nat} {A B : Ar} {w n : Int} {S S' : Sg} {al : Option (Al × Tr3)} {tn : Option (Tn × TnJ)} {lim : List (Int × Int)} {ph hd : Nat → Int} {pn : Nat → Option (Pn × Nat)} {tl : Bl} {x6 x8 x12 x13 x14 : Nat} {q : Bool} {s : Sl}

abbrev EkC (I : List Nat) (H : Heap) (L : Hands) (R : Value → Heap → Prop) (x6 x8 x12 x13 x14 : Nat) (w n : Int) (q : Bool) : Prop :=
  ∀ A S al tn lim ph hd pn s tl, EK I A w S al tn lim ph hd pn (n + 1) → SlOf tl ty_epoch_Limbo eL s lim → Ok I H (keys (ekB x6 x8 x12 x13 x14 w ph hd pn al tn tl)) → wp Try.prog (.again 960 [.bool q, .pointer (alP al), .pointer (tnP tn), .slice s.a s.len s.cap, .int .i64 (n + 1)]) L (own A (ekB x6 x8 x12 x13 x14 w ph hd pn al tn tl) H) R

theorem ek_J1 (K : EK I A w S al tn lim ph hd pn (n + 1)) (hs : SlOf tl ty_epoch_Limbo eL s lim) (hn : 0 ≤ n ∧ n ≤ 600) (ok : Ok I H (keys (ekB x6 x8 x12 x13 x14 w ph hd pn al tn tl))) (hC : EkC I H L R x6 x8 x12 x13 x14 w n q) :
    wp Try.prog (.call f_arena_Arena_Fault [(.pointer (aI I))] (.one (.leaf .bool)) fun x208 => t_magpielaw13_EpochKeeps_J1 (q, alP al, tnP tn, s, n, ()) x208) L (own A (ekB x6 x8 x12 x13 x14 w ph hd pn al tn tl) H) R := by
  refine w_Fault K.aw ?_
  unfold t_magpielaw13_EpochKeeps_J1
  refine wp_false K.fa ?_
  dsimp only
  rw [w64_in (x := n + 1) (by omega) (by omega)]
  exact hC A S al tn lim ph hd pn s tl K hs ok

section
variable {c14 : List Value} {rest : Bl}
theorem ek_r12 {r : Nat} (hA : Aw I A) (r1 : (r : Int) < 7) (ok : Ok I H (keys (ekH x6 x8 x12 x13 x14 w ph hd c14 rest))) {t' : Addr → Int → Tree} (h : wp Try.prog (t' ⟨x12, 0 + ((r : Int)).toNat, none⟩ (ph r)) L (own A (ekH x6 x8 x12 x13 x14 w ph hd c14 rest) H) R) :
    wp Try.prog (.look (opS Try.prog (.indexAddr ty_a7_int (.tmp 0) (.tmp 1)) ty_unit [(.pointer (some ⟨x12, 0, none⟩)), (.int .i64 (r : Int))]) (.one (.leaf .addr)) fun y => .ld y (.int .i64) (t' y)) L (own A (ekH x6 x8 x12 x13 x14 w ph hd c14 rest) H) R :=
  w_arn (N := 7) (g := fun i => .int .i64 (ph i)) (x := ph r) (lf := .int .i64) (e := ty_int) hA ok (List.mem_cons_of_mem _ (List.mem_cons_of_mem _ List.mem_cons_self)) rfl rfl rfl (by omega) r1 (by rw [Int.toNat_natCast]; rfl) h
theorem ek_r13 {r : Nat} (hA : Aw I A) (r1 : (r : Int) < 7) (ok : Ok I H (keys (ekH x6 x8 x12 x13 x14 w ph hd c14 rest))) {t' : Addr → Int → Tree} (h : wp Try.prog (t' ⟨x13, 0 + ((r : Int)).toNat, none⟩ (hd r)) L (own A (ekH x6 x8 x12 x13 x14 w ph hd c14 rest) H) R) :
    wp Try.prog (.look (opS Try.prog (.indexAddr ty_a7_int (.tmp 0) (.tmp 1)) ty_unit [(.pointer (some ⟨x13, 0, none⟩)), (.int .i64 (r : Int))]) (.one (.leaf .addr)) fun y => .ld y (.int .i64) (t' y)) L (own A (ekH x6 x8 x12 x13 x14 w ph hd c14 rest) H) R :=
  w_arn (N := 7) (g := fun i => .int .i64 (hd i)) (x := hd r) (lf := .int .i64) (e := ty_int) hA ok (List.mem_cons_of_mem _ List.mem_cons_self) rfl rfl rfl (by omega) r1 (by rw [Int.toNat_natCast]; rfl) h
theorem ek_s12 {r : Nat} {v : Int} {t' : Tree} (hA : Aw I A) (r1 : (r : Int) < 7) (ok : Ok I H (keys (ekH x6 x8 x12 x13 x14 w ph hd c14 rest))) (h : Ok I H (keys (ekH x6 x8 x12 x13 x14 w (fun j => if j = r then v else ph j) hd c14 rest)) → wp Try.prog t' L (own A (ekH x6 x8 x12 x13 x14 w (fun j => if j = r then v else ph j) hd c14 rest) H) R) :
    wp Try.prog (.look (opS Try.prog (.indexAddr ty_a7_int (.tmp 0) (.tmp 1)) ty_unit [(.pointer (some ⟨x12, 0, none⟩)), (.int .i64 (r : Int))]) (.one (.leaf .addr)) fun y => .st y (.int .i64 v) t') L (own A (ekH x6 x8 x12 x13 x14 w ph hd c14 rest) H) R := by
  refine w_arnS (N := 7) 2 (g := fun i => .int .i64 (ph i)) (e := ty_int) hA ok rfl rfl rfl rfl (by omega) r1 rfl ?_
  rw [Int.toNat_natCast, arrI]
  exact h (by exact ok)
theorem ek_s13 {r : Nat} {v : Int} {t' : Tree} (hA : Aw I A) (r1 : (r : Int) < 7) (ok : Ok I H (keys (ekH x6 x8 x12 x13 x14 w ph hd c14 rest))) (h : Ok I H (keys (ekH x6 x8 x12 x13 x14 w ph (fun j => if j = r then v else hd j) c14 rest)) → wp Try.prog t' L (own A (ekH x6 x8 x12 x13 x14 w ph (fun j => if j = r then v else hd j) c14 rest) H) R) :
    wp Try.prog (.look (opS Try.prog (.indexAddr ty_a7_int (.tmp 0) (.tmp 1)) ty_unit [(.pointer (some ⟨x13, 0, none⟩)), (.int .i64 (r : Int))]) (.one (.leaf .addr)) fun y => .st y (.int .i64 v) t') L (own A (ekH x6 x8 x12 x13 x14 w ph hd c14 rest) H) R := by
  refine w_arnS (N := 7) 1 (g := fun i => .int .i64 (hd i)) (e := ty_int) hA ok rfl rfl rfl rfl (by omega) r1 rfl ?_
  rw [Int.toNat_natCast, arrI]
  exact h (by exact ok)
end

theorem ek_front {r : Nat} (hr : r < 7) (ok : Ok I H (keys (ekB x6 x8 x12 x13 x14 w ph hd pn al tn tl))) :
    own A (ekB x6 x8 x12 x13 x14 w ph hd pn al tn tl) H = own A (pnB (pn r) ++ ekH x6 x8 x12 x13 x14 w ph hd (arrC 7 fun r => .pointer (pnP (pn r))) (alB al ++ (tnB tn ++ (famR (fun r => pnB (pn r)) r 7 ++ tl)))) H ∧
    Ok I H (keys (pnB (pn r) ++ ekH x6 x8 x12 x13 x14 w ph hd (arrC 7 fun r => .pointer (pnP (pn r))) (alB al ++ (tnB tn ++ (famR (fun r => pnB (pn r)) r 7 ++ tl))))) := by
  refine own_perm (A := A) ok (perm_by fun c d c0 cd ca => ?_)
  have := famB_c c0 ca (fun r => pnB (pn r)) hr
  simp only [ekB, ekH, cd, ca]
  omega
theorem ek_back {r : Nat} {z : Option (Pn × Nat)} {g : Bl} {c14 : List Value} (hr : r < 7) (h14 : c14 = arrC 7 fun j => .pointer (pnP (updF pn r z j))) {l : Bl} (hl : l.Perm (ekH x6 x8 x12 x13 x14 w ph hd c14 (pnB z ++ (alB al ++ (tnB tn ++ (famR (fun r => pnB (pn r)) r 7 ++ (g ++ tl))))))) (ok : Ok I H (keys l)) :
    own A l H = own A (ekB x6 x8 x12 x13 x14 w ph hd (updF pn r z) al tn (g ++ tl)) H ∧ Ok I H (keys (ekB x6 x8 x12 x13 x14 w ph hd (updF pn r z) al tn (g ++ tl))) := by
  refine own_perm (A := A) ok (hl.trans ?_)
  subst h14
  refine perm_by fun c d c0 cd ca => ?_
  have := famB_upd_c c0 ca pnB pn z hr
  simp only [ekB, ekH, cd, ca]
  omega

theorem touch_later {i : Int} (o : A.rawOk i) (u0 : 0 ≤ A.uses) (u1 : A.uses ≤ 1000000) : A.touchR i = A.later 1 := by rw [touchR_yes o, tick_uses u0 (by omega)]

set_option maxHeartbeats 4000000 in
/-- A reader's pin steps. -/
theorem ek_J17 {r : Nat} {x : Pn} {z : Nat} (r0 : 1 ≤ r) (r1 : (r : Int) < w) (hp0 : ph r = 0) (hpn : pn r = some (x, z)) (K : EK I A w S al tn lim ph hd pn n) (hs : SlOf tl ty_epoch_Limbo eL s lim) (hn : 0 ≤ n ∧ n < 600) (ok : Ok I H (keys (ekB x6 x8 x12 x13 x14 w ph hd pn al tn tl))) (hC : EkC I H L R x6 x8 x12 x13 x14 w n q) :
    wp Try.prog (t_magpielaw13_EpochKeeps_J17 (aI I) ⟨x12, 0, none⟩ ⟨x14, 0, none⟩ (q, alP al, tnP tn, s, n, ()) (r : Int)) L (own A (ekB x6 x8 x12 x13 x14 w ph hd pn al tn tl) H) R := by
  have hA := K.aw
  have wb := K.wb
  have us0 := K.sl.F.us
  have us := K.us
  have rl := K.rl
  have gb := K.gb
  have ee : eta w = 4 * w + 101 := rfl
  have ec : ecl w = 4 * w + 101 + (1 + w) := rfl
  have r7 : r < 7 := by omega
  have rq := K.rd r r0 r1
  have pi := rq.pni x z hpn
  have okT : A.rawOk (eta w) := ⟨by omega, by omega⟩
  unfold t_magpielaw13_EpochKeeps_J17
  refine w_arn (N := 7) (g := fun i => .pointer (pnP (pn i))) (x := some ⟨z, 0, none⟩) (lf := .ptr) (e := ty_p_epoch_Pin) hA ok List.mem_cons_self rfl rfl rfl (by omega) (by omega) (by show Lf.dec .ptr (Value.pointer (pnP (pn ((r : Int)).toNat))) = _; rw [Int.toNat_natCast, hpn]; rfl) ?_
  obtain ⟨p1, ok1⟩ := ek_front (A := A) r7 ok
  rw [p1]
  rw [hpn] at ok1 ⊢
  have ok2 : Ok I H (keys (x.bl z) ++ keys (ekH x6 x8 x12 x13 x14 w ph hd (arrC 7 fun r => .pointer (pnP (pn r))) (alB al ++ (tnB tn ++ (famR (fun r => pnB (pn r)) r 7 ++ tl))))) := by rw [← keys_append]; exact ok1
  obtain ⟨o1, o2⟩ := ok2.split
  refine w_sub (mPn_ok I A _ x z hA o1 (by show x.ph ≤ 3; rcases pi.ph with h | h | ⟨h, -⟩ <;> omega)) ?_
  rintro v K' ⟨z', rfl, rfl, ez, o3, hB⟩
  have ez : z' = z := ez
  subst ez
  refine ⟨decide ((x.step A).1.ph = 3), rfl, ?_⟩
  show wp Try.prog _ L (own (x.step A).2 ((x.step A).1.bl z') (putL _ H)) _
  rw [← own_append]
  have ok3 : Ok I H (keys ((x.step A).1.bl z' ++ ekH x6 x8 x12 x13 x14 w ph hd (arrC 7 fun r => .pointer (pnP (pn r))) (alB al ++ (tnB tn ++ (famR (fun r => pnB (pn r)) r 7 ++ tl))))) := by rw [keys_append]; exact o3.join o2
  have hB : Aw I (x.step A).2 := hB
  -- it goes on
  have go : ∀ {y : Pn} {D : Ar}, y.ph ≠ 3 → EK I D w S al tn lim ph hd (updF pn r (some (y, z'))) (n + 1) → Ok I H (keys (y.bl z' ++ ekH x6 x8 x12 x13 x14 w ph hd (arrC 7 fun r => .pointer (pnP (pn r))) (alB al ++ (tnB tn ++ (famR (fun r => pnB (pn r)) r 7 ++ tl))))) →
      wp Try.prog (bif (decide (y.ph = 3)) then (
    .look (opS Try.prog (.indexAddr ty_a7_p_epoch_Pin (.tmp 0) (.tmp 1)) ty_unit [(.pointer (some ⟨x14, 0, none⟩)), (.int .i64 (r : Int))]) (.one (.leaf .addr)) fun x168 =>
    .st x168 (.pointer none) <|
    .look (opS Try.prog (.indexAddr ty_a7_int (.tmp 0) (.tmp 1)) ty_unit [(.pointer (some ⟨x12, 0, none⟩)), (.int .i64 (r : Int))]) (.one (.leaf .addr)) fun x169 =>
    .st x169 (.int .i64 1) <|
    .call f_arena_Arena_Fault [(.pointer (aI I))] (.one (.leaf .bool)) fun x208 =>
    t_magpielaw13_EpochKeeps_J1 (q, alP al, tnP tn, s, n, ()) x208)
  else (
    .call f_arena_Arena_Fault [(.pointer (aI I))] (.one (.leaf .bool)) fun x208 =>
    t_magpielaw13_EpochKeeps_J1 (q, alP al, tnP tn, s, n, ()) x208)) L (own D (y.bl z' ++ ekH x6 x8 x12 x13 x14 w ph hd (arrC 7 fun r => .pointer (pnP (pn r))) (alB al ++ (tnB tn ++ (famR (fun r => pnB (pn r)) r 7 ++ tl)))) H) R := fun {y D} h3 KD okD => by
    refine wp_false (decide_eq_false h3) ?_
    obtain ⟨p2, ok4⟩ := ek_back (x6 := x6) (x8 := x8) (x12 := x12) (x13 := x13) (x14 := x14) (w := w) (ph := ph) (hd := hd) (al := al) (tn := tn) (tl := tl) (pn := pn) (A := D) (z := some (y, z')) (g := []) r7 (arrC_keepF (g := fun o => .pointer (pnP o)) (by rw [hpn]; rfl)) (perm_by fun c d c0 cd ca => by
      have h2 : c (pnB (some (y, z'))) = c (y.bl z') := rfl
      simp only [ekH, cd, ca, c0, h2]; omega) okD
    rw [p2]
    exact ek_J1 KD hs ⟨hn.1, by omega⟩ ok4 hC
  rcases pi.ph with h0 | h1 | ⟨h2, hw⟩
  · have st : x.step A = ({ x with e := A.rawF (eta w), ph := 1 }, A.later 1) := by
      unfold Pn.step
      rw [if_pos h0, pi.ta, touch_later okT us0 (by omega)]
    rw [st] at hB ok3 ⊢
    have KL := K.later (by omega) (k := 1) ⟨by omega, by omega⟩
    have K1 := KL.read r0 r1 (p := 0) (h := hd r) (z := some ({ x with e := A.rawF (eta w), ph := 1 }, z')) ⟨by omega, fun x' q' e => (by cases e; exact ⟨pi.tw, pi.ta, pi.wk, ⟨gb.1, by show A.rawF (eta w) ≤ 900000; omega⟩, .inr (.inl rfl)⟩), fun h => by omega, fun h => by omega⟩
    rw [ifself, show (fun j => if j = r then (0 : Int) else ph j) = ph by rw [← hp0]; exact ifself] at K1
    exact go (by show ¬ 1 = 3; decide) K1 ok3
  · have ew : ewd (eta w) r = eta w + 1 + r := ewd_eq ⟨by omega, by omega, by omega, by omega⟩
    have eb := pi.eb
    have e3 : w64 (x.e + 1) = x.e + 1 := w64_in (by omega) (by omega)
    have st : x.step A = ({ x with ph := 2 }, A.storeR (eta w + 1 + r) (x.e + 1)) := by
      unfold Pn.step
      rw [if_neg (by omega), if_pos h1, pi.ta, pi.wk, ew, e3]
    rw [st] at hB ok3 ⊢
    have K1 := (K.up (by omega)).own r0 r1 (v := x.e + 1) (p := 0) (z := some ({ x with ph := 2 }, z')) (by omega) rfl fun x' q' e => (by cases e; exact ⟨pi.tw, pi.ta, pi.wk, eb, .inr (.inr ⟨rfl, rfl⟩)⟩)
    rw [show (fun j => if j = r then (0 : Int) else ph j) = ph by rw [← hp0]; exact ifself] at K1
    exact go (by show ¬ 2 = 3; decide) K1 ok3
  · have st : x.step A = ({ x with e := A.rawF (eta w), ph := if A.rawF (eta w) = x.e then 3 else 1 }, A.later 1) := by
      unfold Pn.step
      rw [if_neg (by omega), if_neg (by omega), if_pos h2, pi.ta, touch_later okT us0 (by omega)]
    rw [st] at hB ok3 ⊢
    have KL := K.later (by omega) (k := 1) ⟨by omega, by omega⟩
    by_cases c : A.rawF (eta w) = x.e
    · rw [if_pos c] at ok3 ⊢
      refine wp_true rfl ?_
      refine w_arnS (N := 7) 1 (g := fun i => .pointer (pnP (pn i))) (e := ty_p_epoch_Pin) hB ok3 rfl rfl rfl rfl (by omega) (by omega) rfl ?_
      have e14 : (arrC 7 fun j => if j = ((r : Int)).toNat then Value.pointer none else .pointer (pnP (pn j))) = arrC 7 fun j => .pointer (pnP (updF pn r none j)) := by
        rw [Int.toNat_natCast]
        exact arrC_updF (n := 7) (g := fun o => Value.pointer (pnP o)) (f := pn) (i := r) (a := none)
      rw [e14]
      have ok4 : Ok I H (keys (Pn.bl { x with e := A.rawF (eta w), ph := 3 } z' ++ ekH x6 x8 x12 x13 x14 w ph hd (arrC 7 fun j => .pointer (pnP (updF pn r none j))) (alB al ++ (tnB tn ++ (famR (fun r => pnB (pn r)) r 7 ++ tl))))) := ok3
      show wp Try.prog _ L (own (A.later 1) (Pn.bl { x with e := A.rawF (eta w), ph := 3 } z' ++ ekH x6 x8 x12 x13 x14 w ph hd (arrC 7 fun j => .pointer (pnP (updF pn r none j))) (alB al ++ (tnB tn ++ (famR (fun r => pnB (pn r)) r 7 ++ tl)))) H) R
      obtain ⟨p2, ok5⟩ := ek_back (x6 := x6) (x8 := x8) (x12 := x12) (x13 := x13) (x14 := x14) (w := w) (ph := ph) (hd := hd) (al := al) (tn := tn) (tl := tl) (pn := pn) (A := A.later 1) (z := none) (g := Pn.bl { x with e := A.rawF (eta w), ph := 3 } z') r7 rfl (perm_by fun c d c0 cd ca => by
        have h2 : c (pnB none) = 0 := c0
        simp only [ekH, cd, ca, c0, h2]; omega) ok4
      rw [p2]
      have K1 := KL.read r0 r1 (p := 1) (h := hd r) (z := none) ⟨by omega, fun x' q' e => (by cases e), fun _ => ⟨x.e, pi.eb.1, hw, .inl c, fun x' j' e h => by have h : A.rawF (eta w) = x.e + 1 := h; omega, fun h => by omega⟩, fun _ => rfl⟩
      rw [ifself] at K1
      refine ek_s12 hB (by omega) ok5 fun ok6 => ?_
      exact ek_J1 K1 (hs.mono fun p hp => List.mem_append_right _ hp) ⟨hn.1, by omega⟩ ok6 hC
    · rw [if_neg c] at ok3 ⊢
      have K1 := KL.read r0 r1 (p := 0) (h := hd r) (z := some ({ x with e := A.rawF (eta w), ph := 1 }, z')) ⟨by omega, fun x' q' e => (by cases e; exact ⟨pi.tw, pi.ta, pi.wk, ⟨gb.1, by show A.rawF (eta w) ≤ 900000; omega⟩, .inr (.inl rfl)⟩), fun h => by omega, fun h => by omega⟩
      rw [ifself, show (fun j => if j = r then (0 : Int) else ph j) = ph by rw [← hp0]; exact ifself] at K1
      exact go (by show ¬ 1 = 3; decide) K1 ok3
end
end Go.Proofs.Ytfphgiipekkgdaa

set_option linter.unusedVariables false
set_option linter.unusedSimpArgs false
set_option maxRecDepth 20000
namespace Go.Proofs.Ytfphgiipekkgdaa
open Go Go.Fw

section
variable {L : Hands} {R : Value → Heap → Prop} {H : Heap} {I : List Nat} {A B : Ar} {w n : Int} {S S' : Sg} {al : Option (Al × Tr3)} {tn : Option (Tn × TnJ)} {lim : List (Int × Int)} {ph hd : Nat → Int} {pn : Nat → Option (Pn × Nat)} {tl : Bl} {x6 x8 x12 x13 x14 : Nat} {q : Bool} {s : Sl}

set_option maxHeartbeats 4000000 in
/-- A reader's pick. -/
theorem ek_read {r : Nat} {x29 : HL Sh1.T [(.agg [(.int .i64), (.int .i64), (.int .i64), (.int .i64), (.int .i64)]), (.leaf (.int .i64))]} {x35 : HL Sh1.T [(.agg [(.int .i64), (.int .i64)]), (.leaf (.int .i64))]} (h28 : x29.2.1 = 4 * w + 101) (h34 : x35.2.1 = 1 + w) (r0 : 1 ≤ r) (r1 : (r : Int) < w) (K : EK I A w S al tn lim ph hd pn n) (hs : SlOf tl ty_epoch_Limbo eL s lim) (hn : 0 ≤ n ∧ n < 600) (ok : Ok I H (keys (ekB x6 x8 x12 x13 x14 w ph hd pn al tn tl))) (hC : EkC I H L R x6 x8 x12 x13 x14 w n q) :
    wp Try.prog (t_magpielaw13_EpochKeeps_J25 x29 ⟨x6, 0, none⟩ x35 ⟨x8, 0, none⟩ (aI I) ⟨x12, 0, none⟩ ⟨x13, 0, none⟩ ⟨x14, 0, none⟩ (q, alP al, tnP tn, s, n, ()) (r : Int)) L (own A (ekB x6 x8 x12 x13 x14 w ph hd pn al tn tl) H) R := by
  have hA := K.aw
  have wb := K.wb
  have us0 := K.sl.F.us
  have us := K.us
  have rl := K.rl
  have ee : eta w = 4 * w + 101 := rfl
  have ecc : ecl w = 4 * w + 101 + (1 + w) := rfl
  have rq := K.rd r r0 r1
  have p0 := rq.p0
  have r7 : (r : Int) < 7 := by omega
  have r7n : r < 7 := by omega
  have ec : w64 (x29.2.1 + x35.2.1) = ecl w := by rw [h28, h34]; exact w64_in (by omega) (by omega)
  have tch : A.touchR (ecl w) = A.later 1 := touch_later ⟨by omega, by omega⟩ us0 (by omega)
  unfold t_magpielaw13_EpochKeeps_J25
  refine wp_false (ibef (by omega)) ?_
  rw [ec]
  refine ek_r12 hA r7 ok ?_
  by_cases c0 : ph r = 0
  · refine wp_true (ibeq c0) ?_
    refine w_arn (N := 7) (g := fun i => .pointer (pnP (pn i))) (x := pnP (pn r)) (lf := .ptr) (e := ty_p_epoch_Pin) hA ok List.mem_cons_self rfl rfl rfl (by omega) r7 (by show Lf.dec .ptr (Value.pointer (pnP (pn ((r : Int)).toNat))) = _; rw [Int.toNat_natCast]; rfl) ?_
    cases hpn : pn r with
    | some z =>
      obtain ⟨x, z⟩ := z
      refine look_val (x := false) (ep_some _) (wp_false rfl ?_)
      exact ek_J17 r0 r1 c0 hpn K hs hn ok hC
    | none =>
      refine look_val (x := true) ep_none (wp_true rfl ?_)
      refine w_ldA 3 hA ok rfl rfl rfl ?_
      refine w_NewPin (tw := w) (ta := eta w) (work := r) hA ok fun z ok1 => ?_
      have ok1 : Ok I H (keys ((newPn w (eta w) r).bl z ++ ekB x6 x8 x12 x13 x14 w ph hd pn al tn tl)) := ok1
      refine w_arnS (N := 7) 1 (g := fun i => .pointer (pnP (pn i))) (e := ty_p_epoch_Pin) hA ok1 rfl rfl rfl rfl (by omega) r7 rfl ?_
      have e14 : (arrC 7 fun j => if j = ((r : Int)).toNat then Value.pointer (some ⟨z, 0, none⟩) else .pointer (pnP (pn j))) = arrC 7 fun j => .pointer (pnP (updF pn r (some (newPn w (eta w) r, z)) j)) := by
        rw [Int.toNat_natCast]
        exact arrC_updF (n := 7) (g := fun o => Value.pointer (pnP o)) (f := pn) (i := r) (a := some (newPn w (eta w) r, z))
      rw [e14]
      have ok2 : Ok I H (keys ((newPn w (eta w) r).bl z ++ ekH x6 x8 x12 x13 x14 w ph hd (arrC 7 fun j => .pointer (pnP (updF pn r (some (newPn w (eta w) r, z)) j))) (alB al ++ (tnB tn ++ (famB (fun r => pnB (pn r)) 7 ++ tl))))) := ok1
      show wp Try.prog _ L (own A ((newPn w (eta w) r).bl z ++ ekH x6 x8 x12 x13 x14 w ph hd (arrC 7 fun j => .pointer (pnP (updF pn r (some (newPn w (eta w) r, z)) j))) (alB al ++ (tnB tn ++ (famB (fun r => pnB (pn r)) 7 ++ tl)))) H) R
      obtain ⟨p2, ok3⟩ := ek_back (x6 := x6) (x8 := x8) (x12 := x12) (x13 := x13) (x14 := x14) (w := w) (ph := ph) (hd := hd) (al := al) (tn := tn) (tl := tl) (pn := pn) (A := A) (z := some (newPn w (eta w) r, z)) (g := []) r7n rfl (perm_by fun c d c0 cd ca => by
        have h2 : c (pnB (some (newPn w (eta w) r, z))) = c ((newPn w (eta w) r).bl z) := rfl
        have h3 := famB_c c0 ca (fun r => pnB (pn r)) r7n
        have h4 : c (pnB (pn r)) = 0 := by rw [hpn]; exact c0
        simp only [ekH, cd, ca, c0, h2]; omega) ok2
      rw [p2]
      have K1 := K.read r0 r1 (p := 0) (h := hd r) (z := some (newPn w (eta w) r, z)) ⟨by omega, fun x' q' e => (by cases e; exact ⟨rfl, rfl, rfl, ⟨by show (0 : Int) ≤ 0; decide, by show (0 : Int) ≤ 900000; decide⟩, .inl rfl⟩), fun h => by omega, fun h => by omega⟩
      rw [ifself, show (fun j => if j = r then (0 : Int) else ph j) = ph by rw [← c0]; exact ifself] at K1
      exact ek_J17 r0 r1 c0 (updF_same _ _ _) K1 hs hn ok3 hC
  refine wp_false (ibef c0) ?_
  have pz := rq.pz (by omega)
  have upz : updF pn r none = pn := updF_self pz
  have KL := K.later (by omega) (k := 1) ⟨by omega, by omega⟩
  have rqL := KL.rd r r0 r1
  obtain ⟨P, D⟩ := rqL.pd (by omega)
  refine ek_r12 hA r7 ok ?_
  by_cases c1 : ph r = 1
  · refine wp_true (ibeq c1) ?_
    refine w_Raw hA fun hB => ?_
    rw [tch] at hB ⊢
    have K1 := KL.read r0 r1 (p := 2) (h := A.rawF (ecl w)) (z := none) ⟨by omega, fun x' q' e => (by cases e), fun _ => ⟨P, D.p0, D.wd, D.gl, D.ts, fun _ hne => ?_⟩, fun _ => rfl⟩
    rotate_left
    · have st1 : (A.later 1).stF (A.rawF (ecl w)) = 1 := by
        rcases K.cell with h | h
        · exact (hne h).elim
        · exact h
      obtain ⟨s1, s2⟩ := KL.cellSafe (P := P) st1
      exact ⟨by rw [st1]; decide, s1, s2⟩
    rw [upz] at K1
    refine ek_s13 hB r7 ok fun ok1 => ?_
    refine ek_s12 hB r7 ok1 fun ok2 => ?_
    exact ek_J1 K1 hs ⟨hn.1, by omega⟩ ok2 hC
  refine wp_false (ibef c1) ?_
  refine ek_r12 hA r7 ok ?_
  by_cases c6 : ph r < 6
  · refine wp_true (decide_eq_true c6) ?_
    have ck : ∀ {D : Ar}, Aw I D → ∀ {t : Tree} {L' : Hands}, wp Try.prog t L' (own D (ekB x6 x8 x12 x13 x14 w ph hd pn al tn tl) H) R → wp Try.prog (.check (ldS ⟨x13, 0 + ((r : Int)).toNat, none⟩) (.int .i64 (hd r)) <| .check (opS Try.prog (.indexAddr ty_a7_int (.tmp 0) (.tmp 1)) ty_unit [(.pointer (some ⟨x13, 0, none⟩)), (.int .i64 (r : Int))]) (.pointer (some ⟨x13, 0 + ((r : Int)).toNat, none⟩)) t) L' (own D (ekB x6 x8 x12 x13 x14 w ph hd pn al tn tl) H) R := fun {D} hD {t L'} h => by
      refine ck_arn (N := 7) (g := fun i => .int .i64 (hd i)) hD ok (List.mem_cons_of_mem _ List.mem_cons_self) (by omega) r7 (by rw [Int.toNat_natCast]) ?_
      exact ck_aix (N := 7) (e := ty_int) rfl rfl rfl (by omega) r7 h
    have J20 : ∀ {D : Ar}, Aw I D → EK I D w S al tn lim (fun j => if j = r then ph r + 1 else ph j) hd pn (n + 1) → wp Try.prog (t_magpielaw13_EpochKeeps_J20 (aI I) ⟨x12, 0, none⟩ (q, alP al, tnP tn, s, n, ()) (r : Int)) L (own D (ekB x6 x8 x12 x13 x14 w ph hd pn al tn tl) H) R := fun hD K1 => by
      unfold t_magpielaw13_EpochKeeps_J20
      refine ek_r12 hD r7 ok ?_
      rw [w64_in (x := ph r + 1) (by omega) (by omega)]
      refine ek_s12 hD r7 ok fun ok2 => ?_
      exact ek_J1 K1 hs ⟨hn.1, by omega⟩ ok2 hC
    refine ek_r13 hA r7 ok ?_
    by_cases c4 : hd r = 0
    · refine wp_false (ibnf c4) ?_
      have KU := K.up (by omega)
      obtain ⟨P', D'⟩ := (KU.rd r r0 r1).pd (by omega)
      have K1 := KU.read r0 r1 (p := ph r + 1) (h := hd r) (z := none) ⟨by omega, fun x' q' e => (by cases e), fun _ => ⟨P', D'.p0, D'.wd, D'.gl, D'.ts, fun _ hne => (hne c4).elim⟩, fun _ => rfl⟩
      rw [upz, ifself] at K1
      exact J20 hA K1
    · refine wp_true (ibne c4) ?_
      refine ek_r13 hA r7 ok ?_
      refine ek_r13 hA r7 ok ?_
      obtain ⟨s0, s1, s2⟩ := D.hs (by omega) c4
      have s0' : A.stF (hd r) ≠ 0 := s0
      obtain ⟨b1, b2⟩ := K.body _ s0'
      have io : A.inOk (hd r) 0 := ⟨s0', by omega, by rw [b1]; decide⟩
      refine w_Load hA fun hB => ?_
      have et : A.touch (hd r) 0 = A.later 1 := by rw [touch_yes io, tick_uses us0 (by omega)]
      rw [et] at hB ⊢
      refine ck hB ?_
      refine wp_false (ibnf (by unfold Ar.loadF; rw [if_pos io]; exact b2)) ?_
      have K1 := KL.read r0 r1 (p := ph r + 1) (h := hd r) (z := none) ⟨by omega, fun x' q' e => (by cases e), fun _ => ⟨P, D.p0, D.wd, D.gl, D.ts, fun _ _ => ⟨s0, s1, s2⟩⟩, fun _ => rfl⟩
      rw [upz, ifself] at K1
      exact J20 hB K1
  refine wp_false (decide_eq_false c6) ?_
  refine w_ldA 3 hA ok rfl rfl rfl ?_
  refine wq_EWord (tw := w) (ta := eta w) ?_
  rw [ewd_eq (ta := eta w) ⟨by omega, by omega, by omega, by omega⟩]
  refine w_SetRaw hA fun hB => ?_
  have K1 := (K.up (by omega)).own r0 r1 (v := 0) (p := 0) (z := none) (by omega) rfl fun x' q' e => (by cases e)
  rw [upz] at K1
  refine ek_s12 hB r7 ok fun ok2 => ?_
  exact ek_J1 K1 hs ⟨hn.1, by omega⟩ ok2 hC
end
end Go.Proofs.Ytfphgiipekkgdaa

set_option linter.unusedVariables false
set_option linter.unusedSimpArgs false
set_option maxRecDepth 20000
namespace Go.Proofs.Ytfphgiipekkgdaa
open Go Go.Fw

section
variable {L : Hands} {R : Value → Heap → Prop} {H : Heap} {I : List Nat} {A B : Ar} {w n : Int} {S S' : Sg} {al : Option (Al × Tr3)} {tn : Option (Tn × TnJ)} {lim : List (Int × Int)} {ph hd : Nat → Int} {pn : Nat → Option (Pn × Nat)} {tl : Bl} {x6 x8 x12 x13 x14 : Nat} {q : Bool} {s : Sl}

set_option maxHeartbeats 4000000 in
/-- A pick of the turn. -/
theorem ek_turn {x : Tn} {j : TnJ} (K : EK I A w S none (some (x, j)) lim ph hd pn n) (hs : SlOf tl ty_epoch_Limbo eL s lim) (hn : 0 ≤ n ∧ n < 600) (ok : Ok I H (keys (ekB x6 x8 x12 x13 x14 w ph hd pn none (some (x, j)) tl))) (hC : EkC I H L R x6 x8 x12 x13 x14 w n q) :
    wp Try.prog (.call f_epoch_Turn_Step [(.pointer (some ⟨j.q, 0, none⟩)), (.pointer (aI I))] (.one (.leaf .bool)) fun x84 =>
          bif x84 then (
            .call f_epoch_Turn_Left [(.pointer (some ⟨j.q, 0, none⟩))] (.one (.leaf .slice)) fun x86 =>
            .call f_arena_Arena_Fault [(.pointer (aI I))] (.one (.leaf .bool)) fun x208 =>
            bif x208 then (
              .ret (.bool false))
            else (
              .again 960 [(.bool q), (.pointer (alP none)), (.pointer none), (.slice x86.a x86.len x86.cap), (.int .i64 (w64 (n + 1)))]))
          else (
            .call f_arena_Arena_Fault [(.pointer (aI I))] (.one (.leaf .bool)) fun x208 =>
            t_magpielaw13_EpochKeeps_J1 (q, alP none, some ⟨j.q, 0, none⟩, s, n, ()) x208)) L (own A (ekB x6 x8 x12 x13 x14 w ph hd pn none (some (x, j)) tl) H) R := by
  have hA := K.aw
  obtain ⟨inv, S', Z, k1, k2⟩ := K.turn (by omega)
  obtain ⟨-, rp⟩ := K.tnI x j rfl
  obtain ⟨p1, ok1⟩ := own_perm (A := A) (l' := x.bl j ++ ekB x6 x8 x12 x13 x14 w ph hd pn none none tl) ok (perm_by fun c d c0 cd ca => by
    have h2 : c (tnB (some (x, j))) = c (x.bl j) := rfl
    have h3 : c (tnB none) = 0 := c0
    simp only [ekB, ekH, cd, ca, h2, h3]; omega)
  rw [p1]
  have ok2 : Ok I H (keys (x.bl j) ++ keys (ekB x6 x8 x12 x13 x14 w ph hd pn none none tl)) := by rw [← keys_append]; exact ok1
  obtain ⟨o1, o2⟩ := ok2.split
  refine w_sub (mTn_ok I A _ x j hA o1 rp inv) ?_
  rintro v K' ⟨j', rfl, rfl, ej, o3, rp', hB⟩
  refine ⟨decide (4 ≤ (x.step A).1.ph), rfl, ?_⟩
  show wp Try.prog _ L (own (x.step A).2 ((x.step A).1.bl j') (putL _ H)) _
  rw [← own_append]
  have ok3 : Ok I H (keys ((x.step A).1.bl j' ++ ekB x6 x8 x12 x13 x14 w ph hd pn none none tl)) := by rw [keys_append]; exact o3.join o2
  have hB : Aw I (x.step A).2 := hB
  have rp' : (x.step A).1.rep j' := rp'
  have ej : j'.q = j.q := ej
  generalize (x.step A).1 = y at *
  generalize (x.step A).2 = B at *
  by_cases he : 4 ≤ y.ph
  · refine wp_true (decide_eq_true he) ?_
    have K2 := k2 hB he
    rw [← ej]
    refine w_TLeft hB ok3 rp' he Z.l fun s' tl' hs' ok4 => ?_
    refine w_Fault hB ?_
    refine wp_false K2.fa ?_
    rw [w64_in (x := n + 1) (by omega) (by omega)]
    obtain ⟨p2, ok5⟩ := own_perm (A := B) (l' := ekB x6 x8 x12 x13 x14 w ph hd pn none none (tl' ++ (y.bl j' ++ tl))) ok4 (perm_by fun c d c0 cd ca => by simp only [ekB, ekH, cd, ca]; omega)
    rw [p2]
    exact hC _ _ none none _ _ _ _ s' _ K2 (hs'.mono fun p hp => List.mem_append_left _ hp) ok5
  · refine wp_false (decide_eq_false he) ?_
    have K1 := k1 hB (by omega) j' rp'
    obtain ⟨p2, ok4⟩ := own_perm (A := B) (l' := ekB x6 x8 x12 x13 x14 w ph hd pn none (some (y, j')) tl) ok3 (perm_by fun c d c0 cd ca => by
      have h2 : c (tnB (some (y, j'))) = c (y.bl j') := rfl
      have h3 : c (tnB none) = 0 := c0
      simp only [ekB, ekH, cd, ca, h2, h3]; omega)
    rw [p2, ← ej]
    exact ek_J1 K1 hs ⟨hn.1, by omega⟩ ok4 hC

/-- A turn is begun. -/
theorem ek_new {lim' : List (Int × Int)} {s' : Sl} {T : Option Addr → Tree} (hA : Aw I A) (hl : lim'.length ≤ 1000) (hs : SlOf tl ty_epoch_Limbo eL s' lim') (ok : Ok I H (keys (ekB x6 x8 x12 x13 x14 w ph hd pn none none tl)))
    (h : ∀ j : TnJ, (newTn w (eta w) (plOf w 400) 0 lim').rep j → Ok I H (keys (ekB x6 x8 x12 x13 x14 w ph hd pn none (some (newTn w (eta w) (plOf w 400) 0 lim', j)) tl)) → wp Try.prog (T (some ⟨j.q, 0, none⟩)) L (own A (ekB x6 x8 x12 x13 x14 w ph hd pn none (some (newTn w (eta w) (plOf w 400) 0 lim', j)) tl) H) R) :
    wp Try.prog (.ldA ⟨x8, 0, none⟩ [(.int .i64), (.int .i64)] fun x143 =>
              .ldA ⟨x6, 0, none⟩ [(.int .i64), (.int .i64), (.int .i64), (.int .i64), (.int .i64)] fun x144 =>
              .call f_epoch_NewTurn [(.agg #[(.int .i64 x143.1), (.int .i64 x143.2.1)]), (.agg #[(.int .i64 x144.1), (.int .i64 x144.2.1), (.int .i64 x144.2.2.1), (.int .i64 x144.2.2.2.1), (.int .i64 x144.2.2.2.2.1)]), (.int .i64 0), (.slice s'.a s'.len s'.cap)] (.one (.leaf .ptr)) fun x146 => T x146) L (own A (ekB x6 x8 x12 x13 x14 w ph hd pn none none tl) H) R := by
  refine w_ldA 3 hA ok rfl rfl rfl (w_ldA 4 hA ok rfl rfl rfl ?_)
  have hr : SlOf (ekB x6 x8 x12 x13 x14 w ph hd pn none none tl) ty_epoch_Limbo eL s' lim' := hs.mono fun p hp => List.mem_cons_of_mem _ (List.mem_cons_of_mem _ (List.mem_cons_of_mem _ (List.mem_cons_of_mem _ (List.mem_cons_of_mem _ (List.mem_append_right _ (List.mem_append_right _ (List.mem_append_right _ hp)))))))
  refine w_NewTurn (tw := w) (ta := eta w) (p := plOf w 400) hA ok hr hl fun j ok1 rp => ?_
  obtain ⟨p2, ok2⟩ := own_perm (A := A) (l' := ekB x6 x8 x12 x13 x14 w ph hd pn none (some (newTn w (eta w) (plOf w 400) 0 lim', j)) tl) ok1 (perm_by fun c d c0 cd ca => by
    have h2 : c (tnB (some (newTn w (eta w) (plOf w 400) 0 lim', j))) = c ((newTn w (eta w) (plOf w 400) 0 lim').bl j) := rfl
    have h3 : c (tnB none) = 0 := c0
    simp only [ekB, ekH, cd, ca, h2, h3]; omega)
  rw [p2]
  exact h j rp ok2

/-- A turn of what there is, and on. -/
theorem ek_J9 {al0 : Option Addr} (K : EK I A w S none none lim ph hd pn (n + 1)) (hs : SlOf tl ty_epoch_Limbo eL s lim) (hn : 0 ≤ n ∧ n < 600) (ok : Ok I H (keys (ekB x6 x8 x12 x13 x14 w ph hd pn none none tl))) (hC : EkC I H L R x6 x8 x12 x13 x14 w n q) :
    wp Try.prog (t_magpielaw13_EpochKeeps_J9 ⟨x6, 0, none⟩ ⟨x8, 0, none⟩ (aI I) (q, al0, none, s, n, ())) L (own A (ekB x6 x8 x12 x13 x14 w ph hd pn none none tl) H) R := by
  have rl := K.lml
  unfold t_magpielaw13_EpochKeeps_J9
  refine ek_new (lim' := lim) (s' := s) (T := fun x146 => .call f_arena_Arena_Fault [(.pointer (aI I))] (.one (.leaf .bool)) fun x208 => t_magpielaw13_EpochKeeps_J8 (q, al0, none, s, n, ()) x146 x208) K.aw (by omega) hs ok fun j rp ok1 => ?_
  have K1 := K.newTurn rp
  refine w_Fault K1.aw ?_
  unfold t_magpielaw13_EpochKeeps_J8
  refine wp_false K1.fa ?_
  dsimp only
  rw [w64_in (x := n + 1) (by omega) (by omega)]
  exact hC _ _ none _ _ _ _ _ s _ K1 hs ok1

theorem ek_J11 {h : Int} {al0 : Option Addr} {b : Bool} (K : EK I A w S none none lim ph hd pn (n + 1)) (hs : SlOf tl ty_epoch_Limbo eL s lim) (hn : 0 ≤ n ∧ n < 600) (ok : Ok I H (keys (ekB x6 x8 x12 x13 x14 w ph hd pn none none tl))) (hC : EkC I H L R x6 x8 x12 x13 x14 w n q) :
    wp Try.prog (bif (decide ((((s.len : Nat) : Int) : Int) > 3)) then (
            t_magpielaw13_EpochKeeps_J9 ⟨x6, 0, none⟩ ⟨x8, 0, none⟩ (aI I) (q, al0, none, s, n, ()))
          else (
            t_magpielaw13_EpochKeeps_J11 ⟨x6, 0, none⟩ ⟨x8, 0, none⟩ (aI I) (q, al0, none, s, n, ()) (h, b, ()))) L (own A (ekB x6 x8 x12 x13 x14 w ph hd pn none none tl) H) R := by
  by_cases d : (((s.len : Nat) : Int) : Int) > 3
  · exact wp_true (decide_eq_true d) (ek_J9 K hs hn ok hC)
  refine wp_false (decide_eq_false d) ?_
  unfold t_magpielaw13_EpochKeeps_J11
  cases b with
  | false => exact wp_true rfl (ek_J9 (al0 := al0) K hs hn ok hC)
  | true =>
    refine wp_false rfl ?_
    refine w_Fault K.aw ?_
    refine wp_false K.fa ?_
    dsimp only
    rw [w64_in (x := n + 1) (by omega) (by omega)]
    exact hC _ _ none none _ _ _ _ s _ K hs ok

set_option maxHeartbeats 4000000 in
/-- A pick of the alloc. -/
theorem ek_alloc {x29 : HL Sh1.T [(.agg [(.int .i64), (.int .i64), (.int .i64), (.int .i64), (.int .i64)]), (.leaf (.int .i64))]} {x35 : HL Sh1.T [(.agg [(.int .i64), (.int .i64)]), (.leaf (.int .i64))]} (h28 : x29.2.1 = 4 * w + 101) (h34 : x35.2.1 = 1 + w) {x : Al} {j : Tr3} (K : EK I A w S (some (x, j)) none lim ph hd pn n) (hs : SlOf tl ty_epoch_Limbo eL s lim) (hn : 0 ≤ n ∧ n < 600) (ok : Ok I H (keys (ekB x6 x8 x12 x13 x14 w ph hd pn (some (x, j)) none tl))) (hC : EkC I H L R x6 x8 x12 x13 x14 w n q) :
    wp Try.prog (t_magpielaw13_EpochKeeps_J25 x29 ⟨x6, 0, none⟩ x35 ⟨x8, 0, none⟩ (aI I) ⟨x12, 0, none⟩ ⟨x13, 0, none⟩ ⟨x14, 0, none⟩ (q, some ⟨j.1, 0, none⟩, none, s, n, ()) 0) L (own A (ekB x6 x8 x12 x13 x14 w ph hd pn (some (x, j)) none tl) H) R := by
  have hA := K.aw
  have wb := K.wb
  have us0 := K.sl.F.us
  have us := K.us
  have rl := K.rl
  have nR := K.nR
  have lml := K.lml
  have ee : eta w = 4 * w + 101 := rfl
  have ecc : ecl w = 4 * w + 101 + (1 + w) := rfl
  have en : w64 (n + 1) = n + 1 := w64_in (by omega) (by omega)
  have ec : w64 (x29.2.1 + x35.2.1) = ecl w := by rw [h28, h34]; exact w64_in (by omega) (by omega)
  obtain ⟨S', Z, k1, k2⟩ := K.alStep (by omega)
  have kb := fun hB h0 => K.alBorn (B := (x.step A).2) (by omega) Z hB h0
  obtain ⟨IA, ac⟩ := K.alI x j rfl
  have lst := IA.lst
  unfold t_magpielaw13_EpochKeeps_J25
  refine wp_true rfl ?_
  obtain ⟨p1, ok1⟩ := own_perm (A := A) (l' := x.bl j ++ ekB x6 x8 x12 x13 x14 w ph hd pn none none tl) ok (perm_by fun c d c0 cd ca => by
    have h2 : c (alB (some (x, j))) = c (x.bl j) := rfl
    have h3 : c (alB none) = 0 := c0
    simp only [ekB, ekH, cd, ca, h2, h3]; omega)
  rw [p1]
  have ok2 : Ok I H (keys (x.bl j) ++ keys (ekB x6 x8 x12 x13 x14 w ph hd pn none none tl)) := by rw [← keys_append]; exact ok1
  obtain ⟨o1, o2⟩ := ok2.split
  refine w_sub (mAl_ok I A _ x j hA o1 ⟨lst.1, by omega⟩) ?_
  rintro v K' ⟨j', rfl, rfl, ej, o3, hB⟩
  refine ⟨(x.step A).1.what == 4, rfl, ?_⟩
  show wp Try.prog _ L (own (x.step A).2 ((x.step A).1.bl j') (putL _ H)) _
  rw [← own_append]
  have ok3 : Ok I H (keys ((x.step A).1.bl j' ++ ekB x6 x8 x12 x13 x14 w ph hd pn none none tl)) := by rw [keys_append]; exact o3.join o2
  have hB : Aw I (x.step A).2 := hB
  have ej : j'.1 = j.1 := ej
  generalize (x.step A).1 = y at *
  generalize (x.step A).2 = B at *
  dsimp only
  rw [en]
  by_cases h4 : y.what = 4
  case neg =>
    refine wp_true (by simp [h4]) ?_
    have K1 := k1 hB h4 j'
    obtain ⟨p2, ok4⟩ := own_perm (A := B) (l' := ekB x6 x8 x12 x13 x14 w ph hd pn (some (y, j')) none tl) ok3 (perm_by fun c d c0 cd ca => by
      have h2 : c (alB (some (y, j'))) = c (y.bl j') := rfl
      have h3 : c (alB none) = 0 := c0
      simp only [ekB, ekH, cd, ca, h2, h3]; omega)
    rw [p2, ← ej]
    exact hC _ _ (some (y, j')) none _ _ _ _ s _ K1 hs ok4
  refine wp_false (by rw [h4]; rfl) ?_
  rw [← ej]
  refine w_Handle 0 (x := y) hB ok3 rfl ?_
  obtain ⟨p2, ok4⟩ := own_perm (A := B) (l' := ekB x6 x8 x12 x13 x14 w ph hd pn none none (y.bl j' ++ tl)) ok3 (perm_by fun c d c0 cd ca => by simp only [ekB, ekH, cd, ca]; omega)
  rw [p2]
  have hs4 : SlOf (y.bl j' ++ tl) ty_epoch_Limbo eL s lim := hs.mono fun p hp => List.mem_append_right _ hp
  by_cases h0 : y.h = 0
  · refine wp_false (by show ((y.h : Int) != 0) = false; rw [h0]; rfl) ?_
    exact ek_J11 (k2 hB h0) hs4 hn ok4 hC
  have eb : ((y.h : Int) != 0) = true := bne_iff_ne.2 h0
  refine wp_true eb ?_
  obtain ⟨KC, sy, sy0, uC, sta, nRC, rwC, nLC⟩ := kb hB h0
  dsimp only
  rw [ec]
  refine w_Store hB fun hC1 => ?_
  generalize B.storeF y.h 0 y.h = C at *
  have rlC := KC.rl
  have tch : C.touchR (ecl w) = C.later 1 := touch_later ⟨by omega, by omega⟩ KC.sl.F.us (by omega)
  refine w_Raw hC1 fun hD => ?_
  rw [tch] at hD ⊢
  have uD : (C.later 1).uses = C.uses + 1 := rfl
  have lat : ∀ {D : Ar} {lm : List (Int × Int)} {S2 : Sg}, EK I D w S2 none none lm ph hd pn (n + 1) → D.uses + 1 ≤ 6 * (n + 1) → EK I (D.later 1) w S2 none none lm ph hd pn (n + 1) := fun {D lm S2} KD h => by
    have KD0 := KD.gb
    have E := Ev.later KD.sl (n := 1) (mine := -1) (by omega)
    have nR := KD.nR
    have nL := KD.nL
    exact ⟨KD.wb, later_aw KD.aw 1, KD.sl.later (by omega), KD.fa, KD.rl, h, KD.nb, by show D.nR ≤ 8 * (D.uses + 1); omega, by show -(8 * (D.uses + 1)) ≤ D.nL; omega, by show 0 ≤ D.rawF (eta w) ∧ D.rawF (eta w) ≤ D.uses + 1; omega, KD.cell, KD.body, KD.one, fun _ _ h => (by cases h), fun _ _ h => (by cases h), KD.lmI, KD.lml, fun r r0 r1 => (KD.rd r r0 r1).keep rfl rfl (fun _ h => h) (fun _ h => h) fun _ _ _ h1 h2 => ⟨h1, h2⟩⟩
  have KD := lat KC (by omega)
  obtain ⟨KE, stE, uE, nRE, cE, nLE, gE⟩ := KD.turnC (h := y.h) sy (by rw [uD]; omega)
  refine w_SetRaw hD fun hE => ?_
  have nRD : (C.later 1).nR = C.nR := rfl
  have nLD : (C.later 1).nL = C.nL := rfl
  have stD : ∀ h, (C.later 1).stF h = C.stF h := fun _ => rfl
  have rC := rwC (ecl w) (by omega)
  generalize (C.later 1).storeR (ecl w) y.h = E at *
  by_cases cx : C.rawF (ecl w) = 0
  · refine wp_false (ibnf cx) ?_
    exact ek_J11 KE hs4 hn ok4 hC
  refine wp_true (ibne cx) ?_
  have sx : A.stF (C.rawF (ecl w)) = 1 := by
    rw [rC] at cx ⊢
    rcases K.cell with h | h
    · exact (cx h).elim
    · exact h
  generalize C.rawF (ecl w) = o at *
  have hyo : E.rawF (ecl w) ≠ o := by rw [cE]; intro e; rw [e, sx] at sy0; cases sy0
  obtain ⟨KF, sF, nF, uF, tF, gF⟩ := KE.retire (h := o) (by rw [stE, stD, sta o (by rw [sx]; decide)]; exact sx) hyo (by omega) (by omega)
  refine w_Retire hE fun hF => ?_
  refine wp_true tF ?_
  generalize E.retireF o = F at *
  have rlF := KF.rl
  refine w_ldA 3 hF ok4 rfl rfl rfl ?_
  refine wq_Global (tw := w) (ta := eta w) ?_
  have KG := lat KF (by omega)
  have tch2 : F.touchR (eta w) = F.later 1 := touch_later ⟨by omega, by omega⟩ KF.sl.F.us (by omega)
  refine w_Raw hF fun hG => ?_
  rw [tch2] at hG ⊢
  have sG : (F.later 1).stF o = 2 := sF
  have rG : F.rawF (eta w) = (F.later 1).rawF (eta w) := rfl
  rw [rG]
  generalize F.later 1 = G at *
  refine w_newS (c := [.int .i64 o, .int .i64 (G.rawF (eta w))]) hG ok4 fun qq ok5 => ?_
  have ok5 : Ok I H (keys (((qq, oc ty_epoch_Limbo [.int .i64 o, .int .i64 (G.rawF (eta w))]) :: ekH x6 x8 x12 x13 x14 w ph hd (arrC 7 fun r => .pointer (pnP (pn r))) (alB none ++ (tnB none ++ famB (fun r => pnB (pn r)) 7))) ++ (y.bl j' ++ tl))) := by
    have e : ((qq, oc ty_epoch_Limbo [.int .i64 o, .int .i64 (G.rawF (eta w))]) :: ekH x6 x8 x12 x13 x14 w ph hd (arrC 7 fun r => .pointer (pnP (pn r))) (alB none ++ (tnB none ++ famB (fun r => pnB (pn r)) 7))) ++ (y.bl j' ++ tl) = (qq, oc ty_epoch_Limbo [.int .i64 o, .int .i64 (G.rawF (eta w))]) :: ekB x6 x8 x12 x13 x14 w ph hd pn none none (y.bl j' ++ tl) := by simp [ekB, ekH]
    rw [e]; exact ok5
  have ek : own G ((qq, oc ty_epoch_Limbo [.int .i64 o, .int .i64 (G.rawF (eta w))]) :: ekB x6 x8 x12 x13 x14 w ph hd pn none none (y.bl j' ++ tl)) H = own G (((qq, oc ty_epoch_Limbo [.int .i64 o, .int .i64 (G.rawF (eta w))]) :: ekH x6 x8 x12 x13 x14 w ph hd (arrC 7 fun r => .pointer (pnP (pn r))) (alB none ++ (tnB none ++ famB (fun r => pnB (pn r)) 7))) ++ (y.bl j' ++ tl)) H := by
    congr 1
  rw [ek]
  refine w_appT (E := eL) elL (ys := [(o, G.rawF (eta w))]) (t := ⟨some ⟨qq, 0, none⟩, 1, 1⟩) hG ok5 hs4 (cell_row hG ok5 List.mem_cons_self 0 rfl) rfl (by simp; omega) fun s' tl' hs' ok6 _ => ?_
  obtain ⟨p7, ok7⟩ := own_perm (A := G) (l' := ekB x6 x8 x12 x13 x14 w ph hd pn none none (tl' ++ [(qq, oc ty_epoch_Limbo [.int .i64 o, .int .i64 (G.rawF (eta w))])])) ok6 (perm_by fun c d c0 cd ca => by simp only [ekB, ekH, cd, ca, c0, List.cons_append]; omega)
  rw [p7]
  have hs7 : SlOf (tl' ++ [(qq, oc ty_epoch_Limbo [.int .i64 o, .int .i64 (G.rawF (eta w))])]) ty_epoch_Limbo eL s' (lim ++ [(o, G.rawF (eta w))]) := hs'.mono fun p hp => List.mem_append_left _ hp
  have KM := KG.more sG nF
  have lmM := KM.lml
  by_cases d : ((s'.len : Nat) : Int) > 3
  · refine wp_true (decide_eq_true d) ?_
    refine ek_new (lim' := lim ++ [(o, G.rawF (eta w))]) (s' := s') (T := fun x146 => .call f_arena_Arena_Fault [(.pointer (aI I))] (.one (.leaf .bool)) fun x208 => t_magpielaw13_EpochKeeps_J4 (q, some ⟨j'.1, 0, none⟩, none, s, n, ()) s' x146 x208) hG (by omega) hs7 ok7 fun jj rp ok8 => ?_
    have K1 := KM.newTurn rp
    refine w_Fault K1.aw ?_
    unfold t_magpielaw13_EpochKeeps_J4
    refine wp_false K1.fa ?_
    dsimp only
    rw [en]
    exact hC _ _ none _ _ _ _ _ s' _ K1 hs7 ok8
  · refine wp_false (decide_eq_false d) ?_
    refine wp_false (by rw [eb]; rfl) ?_
    refine w_Fault KM.aw ?_
    refine wp_false KM.fa ?_
    exact hC _ _ none none _ _ _ _ s' _ KM hs7 ok7
end

theorem eqA13 (a : Addr) : opS Try.prog (.binOp .eql ty_p_arena_Arena (.tmp 0) (.const (.pointer none)) ty_p_arena_Arena) ty_bool [(.pointer (some a))] = .pure (.value (.bool false)) := by kernel_rfl

set_option maxHeartbeats 4000000 in
theorem EpochKeeps_det (p0 : Int) (p1 : Sl) (zs : List Int) (H : Heap) (hz : RowOf H p1.a p1.len zs) : Det Try.prog f_magpielaw13_EpochKeeps [.int .i64 p0, .slice p1.a p1.len p1.cap] H (.bool true) H := by
  refine t_magpielaw13_EpochKeeps_spec (p0 := p0) (p1 := p1) fun L => ?_
  unfold t_magpielaw13_EpochKeeps
  refine w_Place (by omega) (by omega) ?_
  have a0 := Int.emod_nonneg p0 (b := 5) (by omega)
  have a1 := Int.emod_lt_of_pos p0 (b := 5) (by omega)
  generalize p0 % 5 = x24 at *
  obtain ⟨w, ew⟩ : ∃ w, w = 2 + x24 := ⟨_, rfl⟩
  have e1 : w64 (2 + x24) = w := by rw [ew]; exact w64_in (by omega) (by omega)
  rw [e1]
  have ee : eta w = 4 * w + 101 := rfl
  have ecc : ecl w = 4 * w + 101 + (1 + w) := rfl
  refine w_Raw5 (w := w) (m := 400) ⟨by omega, by omega⟩ ⟨by omega, by omega⟩ ?_
  have ok0 : Ok0 H (keys []) := ⟨.nil, fun b h => (by cases h)⟩
  refine p_newP (l := []) ok0 fun x6 ok0 => ?_
  refine p_stA 0 ok0 rfl rfl rfl rfl ?_
  have e101 : 4 * w + 2 * ((400 + 7) / 8) + 1 = 4 * w + 101 := by omega
  rw [e101]
  dsimp only
  refine wq_ERaw (w := w) (n := 4 * w + 101) ⟨by omega, by omega⟩ ?_
  refine p_newP ok0 fun x8 ok0 => ?_
  refine p_stA 0 ok0 rfl rfl rfl rfl ?_
  dsimp only
  have e3 : w64 (w64 (4 * w + 101 + (1 + w)) + 1) = 4 * w + 101 + (1 + w) + 1 := by rw [w64_in (x := 4 * w + 101 + (1 + w)) (by omega) (by omega), w64_in (by omega) (by omega)]
  rw [e3]
  refine w_New (l := [(x8, oc ty_epoch_Table (tbC w (eta w))), (x6, oc ty_free_Place (plCells (plOf w 400)))]) ok0 ⟨by omega, by omega⟩ (by decide) fun A hm hA hI ok => ?_
  refine look_val (x := false) (eqA13 _) (wp_false rfl ?_)
  refine w_newP (c := arrC 7 fun _ => .int .i64 0) hA ok fun x12 ok => ?_
  refine w_stA 0 hA ok rfl rfl rfl rfl ?_
  refine w_newP (c := arrC 7 fun _ => .int .i64 0) hA (by exact ok) fun x13 ok => ?_
  refine w_stA 0 hA ok rfl rfl rfl rfl ?_
  refine w_newP (c := arrC 7 fun _ => .pointer none) hA (by exact ok) fun x14 ok => ?_
  have ok : Ok A.ids H (keys (ekB x6 x8 x12 x13 x14 w (fun _ => 0) (fun _ => 0) (fun _ => none) none none [])) := ok
  show wp Try.prog _ L (own A (ekB x6 x8 x12 x13 x14 w (fun _ => 0) (fun _ => 0) (fun _ => none) none none []) H) _
  have rz : ∀ i, A.rawF i = 0 := fun i => by
    unfold Ar.rawF; split
    · rw [hm.raw, List.getD_eq_getElem?_getD, List.getElem?_replicate]; split <;> rfl
    · rfl
  have rl : (A.raw.length : Int) = ecl w + 1 := by rw [hm.raw, List.length_replicate]; omega
  have X : SL A (plOf w 400) w 400 _ := SL.made (r := (4 * w + 101 + (1 + w) + 1).toNat) (w := w) (m := 400) (by exact hm) (by show 4 * w + 2 * ((400 + 7) / 8) < _; omega) ⟨by omega, by omega⟩ ⟨by omega, by omega⟩
  have u0 := hm.uses
  have n1 := hm.nL
  have n2 := hm.nR
  have sz : ∀ h, A.stF h = 0 := fun h => by unfold Ar.stF; rw [hm.slots]; rfl
  have K0 : EK A.ids A w _ none none [] (fun _ => 0) (fun _ => 0) (fun _ => none) 0 :=
    ⟨⟨by omega, by omega⟩, hA, X, hm.fault, rl, by omega, by omega, by omega, by omega, by rw [rz]; omega, .inl (rz _), fun h hh => (hh (sz h)).elim, .inl rfl, fun _ _ h => (by cases h), fun _ _ h => (by cases h), fun _ => ⟨.nil, fun h hh => (by cases hh)⟩, by decide, fun r r0 r1 => ⟨⟨by omega, by omega⟩, fun _ _ h => (by cases h), fun h => by omega, fun h => rfl⟩⟩
  refine wl_bppsi (fun _ pa ps s n K => 0 ≤ n ∧ n ≤ 600 ∧ ∃ B S al tn lim ph hd pn tl, EK A.ids B w S al tn lim ph hd pn n ∧ SlOf tl ty_epoch_Limbo eL s lim ∧ pa = alP al ∧ ps = tnP tn ∧ Ok A.ids H (keys (ekB x6 x8 x12 x13 x14 w ph hd pn al tn tl)) ∧ K = own B (ekB x6 x8 x12 x13 x14 w ph hd pn al tn tl) H) (fun _ _ _ _ n => (600 - n).toNat) false none none ⟨none, 0, 0⟩ 0
    ⟨by omega, by omega, A, _, none, none, [], fun _ => 0, fun _ => 0, fun _ => none, [], K0, .inl ⟨rfl, rfl⟩, rfl, rfl, ok, rfl⟩ ?_
  rintro q pa ps s n K' ⟨m0, m1, B, S, al, tn, lim, ph, hd, pn, tl, K, hs, rfl, rfl, ok, rfl⟩
  have hB := K.aw
  have sl := hs.len
  have lml := K.lml
  rw [t_magpielaw13_EpochKeeps_L1, e1]
  have fin : ∀ L', wp Try.prog (t_magpielaw13_EpochKeeps_J31 (q, alP al, tnP tn, s, n, ())) L' (own B (ekB x6 x8 x12 x13 x14 w ph hd pn al tn tl) H) (fun u K => u = .bool true ∧ K = H) := fun L' => by
    unfold t_magpielaw13_EpochKeeps_J31
    refine wp_true (decide_eq_true (by show ((s.len : Nat) : Int) ≤ 50; omega)) ?_
    refine wp_call_det (x := true) (awake13_det _) ?_
    exact ⟨H, own_end hB ok hI, rfl, rfl⟩
  by_cases d1 : n < ((p1.len : Nat) : Int)
  case neg => exact wp_false (decide_eq_false d1) (fin _)
  refine wp_true (decide_eq_true d1) ?_
  by_cases d2 : n < 600
  case neg => exact wp_false (decide_eq_false d2) (fin _)
  refine wp_true (decide_eq_true d2) ?_
  refine wp_row hz (own_end hB ok hI) m0 d1 ?_
  refine w_Place (by omega) (by omega) ?_
  have v0 := Int.emod_nonneg (zs.getD n.toNat 0) (b := 1048576) (by omega)
  generalize zs.getD n.toNat 0 % 1048576 = v at *
  refine look_val (x := Int.tmod v w) (opS_rem (by omega)) ?_
  rw [Int.tmod_eq_emod_of_nonneg v0]
  have k0 := Int.emod_nonneg v (b := w) (by omega)
  have k1 := Int.emod_lt_of_pos v (b := w) (by omega)
  have hC : ∀ (L0 : Hands), EkC A.ids H (L0.set 960 fun vals H'' => ∃ (y0 : Bool) (y1 y2 : Option Addr) (y3 : Sl) (y4 : Int), vals = [.bool y0, .pointer y1, .pointer y2, .slice y3.a y3.len y3.cap, .int .i64 y4] ∧ (0 ≤ y4 ∧ y4 ≤ 600 ∧ ∃ B S al tn lim ph hd pn tl, EK A.ids B w S al tn lim ph hd pn y4 ∧ SlOf tl ty_epoch_Limbo eL y3 lim ∧ y1 = alP al ∧ y2 = tnP tn ∧ Ok A.ids H (keys (ekB x6 x8 x12 x13 x14 w ph hd pn al tn tl)) ∧ H'' = own B (ekB x6 x8 x12 x13 x14 w ph hd pn al tn tl) H) ∧ (600 - y4).toNat < (600 - n).toNat) (fun u K => u = .bool true ∧ K = H) x6 x8 x12 x13 x14 w n q := fun L0 B S al tn lim ph hd pn s tl K hs ok =>
    wp_again ⟨q, alP al, tnP tn, s, n + 1, rfl, ⟨by omega, by omega, B, S, al, tn, lim, ph, hd, pn, tl, K, hs, rfl, rfl, ok, rfl⟩, by omega⟩
  obtain ⟨r, er⟩ : ∃ r : Nat, v % w = (r : Int) := ⟨(v % w).toNat, by omega⟩
  rw [er] at k0 k1 ⊢
  dsimp only
  by_cases r0 : (r : Int) = 0
  case neg =>
    refine wp_false (ibef r0) (wp_false (ibef r0) ?_)
    exact ek_read (al := al) (tn := tn) rfl rfl (by omega) k1 K hs ⟨m0, d2⟩ ok (hC _)
  refine wp_true (ibeq r0) ?_
  cases tn with
  | some z =>
    obtain ⟨x, j⟩ := z
    have an : al = none := by
      rcases K.one with h | h
      · exact h
      · cases h
    subst an
    refine look_val (x := true) (nnT _) (wp_true rfl ?_)
    exact ek_turn K hs ⟨m0, d2⟩ ok (hC _)
  | none =>
    refine look_val (x := false) nnT_none (wp_false rfl (wp_true (ibeq r0) ?_))
    cases al with
    | none =>
      refine look_val (x := true) ea_none ?_
      unfold t_magpielaw13_EpochKeeps_J26
      refine wp_true rfl ?_
      refine w_ldA 4 hB ok rfl rfl rfl ?_
      refine w_NewAlloc (p := plOf w 400) hB ok (by decide) fun j ok1 => ?_
      have K1 := (K.newAl (j := j)).up (by omega)
      obtain ⟨p2, ok2⟩ := own_perm (A := B) (l' := ekB x6 x8 x12 x13 x14 w ph hd pn (some (newAl (plOf w 400) 0 0, j)) none tl) ok1 (perm_by fun c d c0 cd ca => by
        have h2 : c (alB (some (newAl (plOf w 400) 0 0, j))) = c ((newAl (plOf w 400) 0 0).bl j) := rfl
        have h3 : c (alB none) = 0 := c0
        simp only [ekB, ekH, cd, ca, h2, h3]; omega)
      rw [p2]
      refine w_Fault K1.aw ?_
      refine wp_false K1.fa ?_
      dsimp only
      rw [w64_in (x := n + 1) (by omega) (by omega)]
      exact hC _ _ _ (some (newAl (plOf w 400) 0 0, j)) none _ _ _ _ s _ K1 hs ok2
    | some z =>
      obtain ⟨x, j⟩ := z
      refine look_val (x := false) (ea_some _) ?_
      unfold t_magpielaw13_EpochKeeps_J26
      refine wp_false rfl ?_
      rw [r0]
      exact ek_alloc rfl rfl K hs ⟨m0, d2⟩ ok (hC _)
end Go.Proofs.Ytfphgiipekkgdaa

