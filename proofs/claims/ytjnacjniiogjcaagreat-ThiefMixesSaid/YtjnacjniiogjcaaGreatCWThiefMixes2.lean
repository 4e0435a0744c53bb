/- Texts of this claim, one behind the other. -/
import Derived.Test.YtjnacjniiogjcaaGreatCWThiefMixes1
set_option linter.unusedSimpArgs false
set_option linter.unusedVariables false
set_option maxRecDepth 20000
namespace Go.Proofs.YtjnacjniiogjcaaGreat
open Go Go.Fw
noncomputable def Az (p0 : Int) (p1 : Int) (p2 : Bool) : Tree :=
 bif p2 then (
 .cU ki [(.int .i64 p0), (.int .i64 p1)] (.one (.agg [(.int .i64), (.int .i64)])) fun x12 =>
 .ret (.iface aM (.agg #[(.int .i64 x12.1), (.int .i64 x12.2.1)])))
 else (
 .cU nI [(.int .i64 p0), (.int .i64 p1)] (.tup [(.agg [(.int .i64), (.int .i64)]), (.leaf (.int .i64))]) fun x18 =>
 .dk (.cells #[(.int .i64 0), (.int .i64 0)] fW) fun x7 =>
 .stA x7 [(.int .i64 x18.1.1), (.int .i64 x18.1.2.1)] <|
 .ldA x7 [(.int .i64), (.int .i64)] fun x21 =>
 .ret (.iface br (.agg #[(.int .i64 x21.1), (.int .i64 x21.2.1)])))
theorem zh {p0 : Int} {p1 : Int} {p2 : Bool} : SpT oU #[(.int .i64 p0), (.int .i64 p1), (.bool p2)] (Az p0 p1 p2) := spT bU Tryz.func73 (by kernel_rfl)
noncomputable def nW (p0 : Int) (p1 : Int) : Tree :=
 .dk (.cells #[(.int .i64 0), (.int .i64 0)] c9) fun x4 =>
 .cU pM [(.int .i64 p0), (.int .i64 p1)] (.tup [(.agg [(.int .i64), (.int .i64)]), (.leaf (.int .i64))]) fun x10 =>
 .dk (.cells #[(.int .i64 0), (.int .i64 0)] c9) fun x5 =>
 .stA x5 [(.int .i64 x10.1.1), (.int .i64 x10.1.2.1)] <|
 .ldA x5 [(.int .i64), (.int .i64)] fun x13 =>
 .stA x4 [(.int .i64 x13.1), (.int .i64 x13.2.1)] <|
 .look (ldK x4 2 0 #[] fun r0 => .pure (.value (.agg r0))) (.one (.agg [(.int .i64), (.int .i64)])) fun r => .ret (Sh.fq (.one (.agg [(.int .i64), (.int .i64)])) r)
theorem rR {p0 : Int} {p1 : Int} : SpT ki #[(.int .i64 p0), (.int .i64 p1)] (nW p0 p1) := spT bU Tryz.func106 (by kernel_rfl)
noncomputable def za (p0 : Int) (p1 : Int) (p2 : Bool) : Tree :=
 .call oU [(.int .i64 p0), (.int .i64 p1), (.bool p2)] (.one (.leaf .val)) fun x10 =>
 .act (opS Tryz.prog (.call { callee := .invoke (.tmp 0) "magpie/guard.words", args := #[], argTypes := #[] }) aP [x10]) (.one (.leaf (.int .i64))) fun x11 =>
 .ret (.int .i64 x11)
theorem xN {p0 : Int} {p1 : Int} {p2 : Bool} : SpT uh #[(.int .i64 p0), (.int .i64 p1), (.bool p2)] (za p0 p1 p2) := spT bU Tryz.func35 (by kernel_rfl)
noncomputable def tY (p0 : Int) (p1 : Int) (p2 : Bool) (p3 : Int) (p4_0 : Int) (p4_1 : Int) (p4_2 : Int) (p4_3 : Int) (p4_4 : Int) : Tree :=
 .dk (.cells #[(.int .i64 p4_0), (.int .i64 p4_1), (.int .i64 p4_2), (.int .i64 p4_3), (.int .i64 p4_4)] bn) fun x9 =>
 .ldA x9 [(.int .i64), (.int .i64), (.int .i64), (.int .i64), (.int .i64)] fun x15 =>
 .both (
 .call oU [(.int .i64 p0), (.int .i64 p1), (.bool p2)] (.one (.leaf .ifc)) fun x14 =>
 .check (ldAS x9 5 0 #[]) (.agg #[(.int .i64 x15.1), (.int .i64 x15.2.1), (.int .i64 x15.2.2.1), (.int .i64 x15.2.2.2.1), (.int .i64 x15.2.2.2.2.1)]) <|
 .CO fun x19 =>
 .check (ldAS x9 5 0 #[]) (.agg #[(.int .i64 x15.1), (.int .i64 x15.2.1), (.int .i64 x15.2.2.1), (.int .i64 x15.2.2.2.1), (.int .i64 x15.2.2.2.2.1)]) <|
 .dk (.cells #[(.iface x14.t x14.v), (.int .i64 x15.1), (.int .i64 x15.2.1), (.int .i64 x15.2.2.1), (.int .i64 x15.2.2.2.1), (.int .i64 x15.2.2.2.2.1), (.int .i64 (imax 1 (mH p3 64))), (.map x19)] aU) fun x21 =>
 .ret (.pointer (some x21))) (
 .CO fun x19 =>
 .check (ldAS x9 5 0 #[]) (.agg #[(.int .i64 x15.1), (.int .i64 x15.2.1), (.int .i64 x15.2.2.1), (.int .i64 x15.2.2.2.1), (.int .i64 x15.2.2.2.2.1)]) <|
 .call oU [(.int .i64 p0), (.int .i64 p1), (.bool p2)] (.one (.leaf .ifc)) fun x14 =>
 .check (ldAS x9 5 0 #[]) (.agg #[(.int .i64 x15.1), (.int .i64 x15.2.1), (.int .i64 x15.2.2.1), (.int .i64 x15.2.2.2.1), (.int .i64 x15.2.2.2.2.1)]) <|
 .dk (.cells #[(.iface x14.t x14.v), (.int .i64 x15.1), (.int .i64 x15.2.1), (.int .i64 x15.2.2.1), (.int .i64 x15.2.2.2.1), (.int .i64 x15.2.2.2.2.1), (.int .i64 (imax 1 (mH p3 64))), (.map x19)] aU) fun x21 =>
 .ret (.pointer (some x21)))
theorem zN (p0 : Int) (p1 : Int) (p2 : Bool) (p3 : Int) (p4_0 : Int) (p4_1 : Int) (p4_2 : Int) (p4_3 : Int) (p4_4 : Int) : re Tryz.prog { quiet := [10, 32, 38, 59, 70, 74, 96, 104, 105, 106, 107, 108, 111, 112, 121, 124, 153, 158, 160], quietTmp := false, fncs := [], ifcs := [14] } Tryz.f36 [(.int .i64 p0), (.int .i64 p1), (.bool p2), (.int .i64 p3), (.agg #[(.int .i64 p4_0), (.int .i64 p4_1), (.int .i64 p4_2), (.int .i64 p4_3), (.int .i64 p4_4)])] = tY p0 p1 p2 p3 p4_0 p4_1 p4_2 p4_3 p4_4 := by kernel_rfl
theorem xL {p0 : Int} {p1 : Int} {p2 : Bool} {p3 : Int} {p4_0 : Int} {p4_1 : Int} {p4_2 : Int} {p4_3 : Int} {p4_4 : Int} {H : Heap} {R : Value → Heap → Prop} (h : ∀ L, wp Tryz.prog (tY p0 p1 p2 p3 p4_0 p4_1 p4_2 p4_3 p4_4) L H R) : cB Tryz.prog uc #[(.int .i64 p0), (.int .i64 p1), (.bool p2), (.int .i64 p3), (.agg #[(.int .i64 p4_0), (.int .i64 p4_1), (.int .i64 p4_2), (.int .i64 p4_3), (.int .i64 p4_4)])] H R :=
 sH (cfg := { quiet := [10, 32, 38, 59, 70, 74, 96, 104, 105, 106, 107, 108, 111, 112, 121, 124, 153, 158, 160], quietTmp := false, fncs := [], ifcs := [14] }) Tryz.func36 fun L => (zN p0 p1 p2 p3 p4_0 p4_1 p4_2 p4_3 p4_4).symm ▸ h L
noncomputable def lH (p0_0 : Int) (p0_1 : Int) : Tree :=
 .dk (.cells #[(.int .i64 p0_0), (.int .i64 p0_1)] br) fun x1 =>
 .ld x1 (.int .i64) fun x5 =>
 .ret (.int .i64 (w64 (2 * (imax x5 0))))
theorem oD {p0_0 : Int} {p0_1 : Int} : SpT lN #[(.agg #[(.int .i64 p0_0), (.int .i64 p0_1)])] (lH p0_0 p0_1) := spT bU Tryz.func158 (by kernel_rfl)
noncomputable def mG (p0_0 : Int) (p0_1 : Int) : Tree :=
 .dk (.cells #[(.int .i64 p0_0), (.int .i64 p0_1)] aM) fun x1 =>
 .ld x1 (.int .i64) fun x5 =>
 .ret (.int .i64 (w64 (1 + (imax x5 0))))
theorem pe {p0_0 : Int} {p0_1 : Int} : SpT mD #[(.agg #[(.int .i64 p0_0), (.int .i64 p0_1)])] (mG p0_0 p0_1) := spT bU Tryz.func153 (by kernel_rfl)
@[reducible] def lM : List Sh1 := [(.leaf .slice), (.leaf (.int .i64))]
noncomputable def nS (p0 : Sl) (y1 : HL Sh1.T lM) : Tree :=
 bif (decide ((y1.2.1 : Int) < ((p0.len : Nat) : Int))) then (
 .look (opS Tryz.prog (.indexAddr aQ (.tmp 0) (.tmp 1)) aF [(.slice p0.a p0.len p0.cap), (.int .i64 y1.2.1)]) (.one (.leaf .addr)) fun x10 =>
 .ldA x10 [(.int .i64), (.int .i64)] fun x11 =>
 .dk (.cells #[(.int .i64 0), (.int .i64 0)] aG) fun x5 =>
 .stA x5 [(.int .i64 x11.1), (.int .i64 x11.2.1)] <|
 .ld x5 (.int .i64) fun x14 =>
 .qB (.cells #[(.int .i64 x14)] aP) 1 fun x15 =>
 .act (opS Tryz.prog (.call { callee := .builtin .append, args := #[(.tmp 0), (.tmp 1)], argTypes := #[bK, bK] }) bK [(.slice y1.1.a y1.1.len y1.1.cap), (.slice x15.a x15.len x15.cap)]) (.one (.leaf .slice)) fun x16 =>
 .again 192 [(.slice x16.a x16.len x16.cap), (.int .i64 (w64 (y1.2.1 + 1)))])
 else (
 .ret (.slice y1.1.a y1.1.len y1.1.cap))
noncomputable def tF (p0 : Sl) : Tree :=
 .loop 192 lM [(.slice none 0 0), (.int .i64 0)] (nS p0)
theorem uS {p0 : Sl} : SpT mJ #[(.slice p0.a p0.len p0.cap)] (tF p0) := spT bU Tryz.func118 (by kernel_rfl)
noncomputable def pQ (p0 : Option Addr) (p1 : Option Addr) : Tree :=
 lkN p0 fun x6 =>
 .ld x6 .slice fun x8 =>
 bif (decide ((((x8.len : Nat) : Int) : Int) > 0)) then (
 lkN p0 fun x13 =>
 .ld x13 .slice fun x15 =>
 .look (opS Tryz.prog (.indexAddr bK (.tmp 0) (.const (.int .i64 0))) aF [(.slice x15.a x15.len x15.cap)]) (.one (.leaf .addr)) fun x16 =>
 .ld x16 (.int .i64) fun x17 =>
 lkN p0 fun x19 =>
 .ld (x19.add 1) (.int .i64) fun x21 =>
 .call bV [(.pointer p1), (.int .i64 x17), (.int .i64 x21)] .unit fun _ =>
 lkN p0 fun x25 =>
 .ld x25 .slice fun x27 =>
 .look (opS Tryz.prog (.slice bK (.tmp 0) (some (.const (.int .i64 1))) none none) bK [(.slice x27.a x27.len x27.cap)]) (.one (.leaf .slice)) fun x28 =>
 lkN p0 fun x29 =>
 .st x29 (.slice x28.a x28.len x28.cap) <|
 lkN p0 fun x32 =>
 .ld x32 .slice fun x34 =>
 .ret (.bool ((((x34.len : Nat) : Int) : Int) == 0)))
 else (
 lkN p0 fun x32 =>
 .ld x32 .slice fun x34 =>
 .ret (.bool ((((x34.len : Nat) : Int) : Int) == 0)))
theorem sL {p0 : Option Addr} {p1 : Option Addr} : SpT kZ #[(.pointer p0), (.pointer p1)] (pQ p0 p1) := spT bU Tryz.func162 (by kernel_rfl)
noncomputable def n5 (p0 : Option Addr) : Tree :=
 lkN p0 fun x5 =>
 .ld x5 .ptr fun x7 =>
 lkN x7 fun x8 =>
 .ld x8 .val fun x10 =>
 .look (opS Tryz.prog (.typeAssert (.tmp 0) de aM true) aF [x10]) (.tup [(.agg [(.int .i64), (.int .i64)]), (.leaf .bool)]) fun x11 =>
 bif x11.2.1 then (
 .dk (.cells #[(.int .i64 0), (.int .i64 0)] aM) fun x2 =>
 .stA x2 [(.int .i64 x11.1.1), (.int .i64 x11.1.2.1)] <|
 .ldA x2 [(.int .i64), (.int .i64)] fun x16 =>
 lkN p0 fun x18 =>
 .ld x18 .ptr fun x20 =>
 lkN x20 fun x21 =>
 .ldA (x21.add 1) [(.int .i64), (.int .i64), (.int .i64), (.int .i64), (.int .i64)] fun x23 =>
 lkN p0 fun x25 =>
 .ld (x25.add 1) (.int .i64) fun x27 =>
 lkN p0 fun x29 =>
 .ld x29 .ptr fun x31 =>
 lkN x31 fun x32 =>
 .ld (x32.add 7) .map fun x34 =>
 lkN p0 fun x36 =>
 .ld (x36.add 1) (.int .i64) fun x38 =>
 .look (opS Tryz.prog (.lookup bq (.tmp 0) (.tmp 1) false) aQ [(.map x34), (.int .i64 x38)]) (.one (.leaf .slice)) fun x39 =>
 .call mK [(.agg #[(.int .i64 x16.1), (.int .i64 x16.2.1)]), (.agg #[(.int .i64 x23.1), (.int .i64 x23.2.1), (.int .i64 x23.2.2.1), (.int .i64 x23.2.2.2.1), (.int .i64 x23.2.2.2.2.1)]), (.int .i64 x27), (.slice x39.a x39.len x39.cap)] (.one (.leaf .ptr)) fun x40 =>
 lkN p0 fun x42 =>
 .st (x42.add 4) (.iface bH (.pointer x40)) <|
 lkN p0 fun x79 =>
 .ld (x79.add 3) (.int .i64) fun x81 =>
 lkN p0 fun x83 =>
 .st (x83.add 3) (.int .i64 (w64 (x81 - 1))) <|
 .ret (.tuple #[]))
 else (
 .look (opS Tryz.prog (.typeAssert (.tmp 0) de br true) aF [x10]) (.tup [(.agg [(.int .i64), (.int .i64)]), (.leaf .bool)]) fun x44 =>
 bif x44.2.1 then (
 .dk (.cells #[(.int .i64 0), (.int .i64 0)] br) fun x3 =>
 .stA x3 [(.int .i64 x44.1.1), (.int .i64 x44.1.2.1)] <|
 .ldA x3 [(.int .i64), (.int .i64)] fun x49 =>
 lkN p0 fun x51 =>
 .ld x51 .ptr fun x53 =>
 lkN x53 fun x54 =>
 .ldA (x54.add 1) [(.int .i64), (.int .i64), (.int .i64), (.int .i64), (.int .i64)] fun x56 =>
 lkN p0 fun x58 =>
 .ld (x58.add 1) (.int .i64) fun x60 =>
 lkN p0 fun x62 =>
 .ld x62 .ptr fun x64 =>
 lkN x64 fun x65 =>
 .ld (x65.add 7) .map fun x67 =>
 lkN p0 fun x69 =>
 .ld (x69.add 1) (.int .i64) fun x71 =>
 .look (opS Tryz.prog (.lookup bq (.tmp 0) (.tmp 1) false) aQ [(.map x67), (.int .i64 x71)]) (.one (.leaf .slice)) fun x72 =>
 .call mJ [(.slice x72.a x72.len x72.cap)] (.one (.leaf .slice)) fun x73 =>
 .check (ldS (x58.add 1)) (.int .i64 x60) <|
 .check (nck p0) (.pointer (some x58)) <|
 .check (ldAS (x54.add 1) 5 0 #[]) (.agg #[(.int .i64 x56.1), (.int .i64 x56.2.1), (.int .i64 x56.2.2.1), (.int .i64 x56.2.2.2.1), (.int .i64 x56.2.2.2.2.1)]) <|
 .check (nck x53) (.pointer (some x54)) <|
 .check (ldS x51) (.pointer x53) <|
 .check (nck p0) (.pointer (some x51)) <|
 .check (ldAS x3 2 0 #[]) (.agg #[(.int .i64 x49.1), (.int .i64 x49.2.1)]) <|
 .call lU [(.agg #[(.int .i64 x49.1), (.int .i64 x49.2.1)]), (.agg #[(.int .i64 x56.1), (.int .i64 x56.2.1), (.int .i64 x56.2.2.1), (.int .i64 x56.2.2.2.1), (.int .i64 x56.2.2.2.2.1)]), (.int .i64 x60), (.slice x73.a x73.len x73.cap)] (.one (.leaf .ptr)) fun x74 =>
 lkN p0 fun x76 =>
 .st (x76.add 4) (.iface bC (.pointer x74)) <|
 lkN p0 fun x79 =>
 .ld (x79.add 3) (.int .i64) fun x81 =>
 lkN p0 fun x83 =>
 .st (x83.add 3) (.int .i64 (w64 (x81 - 1))) <|
 .ret (.tuple #[]))
 else (
 lkN p0 fun x79 =>
 .ld (x79.add 3) (.int .i64) fun x81 =>
 lkN p0 fun x83 =>
 .st (x83.add 3) (.int .i64 (w64 (x81 - 1))) <|
 .ret (.tuple #[])))
theorem rA {p0 : Option Addr} : SpT fg #[(.pointer p0)] (n5 p0) := spT bU Tryz.func100 (by kernel_rfl)
@[reducible] def kY : List Sh1 := [(.leaf .slice), (.leaf (.int .i64))]
noncomputable def na (p0 : Option Addr) (x31 : Sl) (y1 : HL Sh1.T kY) : Tree :=
 bif (decide ((y1.2.1 : Int) < ((x31.len : Nat) : Int))) then (
 .look (opS Tryz.prog (.indexAddr bK (.tmp 0) (.tmp 1)) aF [(.slice x31.a x31.len x31.cap), (.int .i64 y1.2.1)]) (.one (.leaf .addr)) fun x35 =>
 .ld x35 (.int .i64) fun x36 =>
 .qB (.cells #[(.int .i64 x36), (.int .i64 0)] aG) 1 fun x40 =>
 .act (opS Tryz.prog (.call { callee := .builtin .append, args := #[(.tmp 0), (.tmp 1)], argTypes := #[aQ, aQ] }) aQ [(.slice y1.1.a y1.1.len y1.1.cap), (.slice x40.a x40.len x40.cap)]) (.one (.leaf .slice)) fun x41 =>
 .again 512 [(.slice x41.a x41.len x41.cap), (.int .i64 (w64 (y1.2.1 + 1)))])
 else (
 lkN p0 fun x44 =>
 .ld x44 .ptr fun x46 =>
 lkN x46 fun x47 =>
 .ld (x47.add 7) .map fun x49 =>
 lkN p0 fun x51 =>
 .ld (x51.add 1) (.int .i64) fun x53 =>
 .act (opS Tryz.prog (.mapUpdate bq (.tmp 0) (.tmp 1) (.tmp 2)) aF [(.map x49), (.int .i64 x53), (.slice y1.1.a y1.1.len y1.1.cap)]) .unit fun _ =>
 lkN p0 fun x56 =>
 .st (x56.add 4) .nilIface <|
 .ret (.tuple #[]))
noncomputable def sd (p0 : Option Addr) : Tree :=
 lkN p0 fun x8 =>
 .ld (x8.add 4) .val fun x10 =>
 .look (opS Tryz.prog (.typeAssert (.tmp 0) aA bH true) aF [x10]) (.tup [(.leaf .ptr), (.leaf .bool)]) fun x11 =>
 bif x11.2.1 then (
 lkN p0 fun x15 =>
 .ld x15 .ptr fun x17 =>
 lkN x17 fun x18 =>
 .ld (x18.add 7) .map fun x20 =>
 lkN p0 fun x22 =>
 .ld (x22.add 1) (.int .i64) fun x24 =>
 .call kM [(.pointer x11.1)] (.one (.leaf .slice)) fun x26 =>
 .check (ldS (x22.add 1)) (.int .i64 x24) <|
 .check (nck p0) (.pointer (some x22)) <|
 .check (ldS (x18.add 7)) (.map x20) <|
 .check (nck x17) (.pointer (some x18)) <|
 .check (ldS x15) (.pointer x17) <|
 .check (nck p0) (.pointer (some x15)) <|
 .act (opS Tryz.prog (.mapUpdate bq (.tmp 0) (.tmp 1) (.tmp 2)) aF [(.map x20), (.int .i64 x24), (.slice x26.a x26.len x26.cap)]) .unit fun _ =>
 lkN p0 fun x56 =>
 .st (x56.add 4) .nilIface <|
 .ret (.tuple #[]))
 else (
 .look (opS Tryz.prog (.typeAssert (.tmp 0) aA bC true) aF [x10]) (.tup [(.leaf .ptr), (.leaf .bool)]) fun x27 =>
 bif x27.2.1 then (
 .call kq [(.pointer x27.1)] (.one (.leaf .slice)) fun x31 =>
 .loop 512 kY [(.slice none 0 0), (.int .i64 0)] (na p0 x31))
 else (
 lkN p0 fun x56 =>
 .st (x56.add 4) .nilIface <|
 .ret (.tuple #[])))
theorem tU {p0 : Option Addr} : SpT fJ #[(.pointer p0)] (sd p0) := spT bU Tryz.func155 (by kernel_rfl)
noncomputable def hG (p0 : Option Addr) (p1 : Option Addr) : Tree :=
 lkN p0 fun x7 =>
 .ld (x7.add 2) .bool fun x9 =>
 bif x9 then (
 lkN p0 fun x11 =>
 .st (x11.add 2) (.bool false) <|
 lkN p0 fun x14 =>
 .ld x14 .ptr fun x16 =>
 lkN x16 fun x17 =>
 .ld (x17.add 7) .map fun x19 =>
 lkN p0 fun x21 =>
 .ld (x21.add 1) (.int .i64) fun x23 =>
 .look (opS Tryz.prog (.lookup bq (.tmp 0) (.tmp 1) false) aQ [(.map x19), (.int .i64 x23)]) (.one (.leaf .slice)) fun x24 =>
 lkN p0 fun x31 =>
 .ld x31 .ptr fun x33 =>
 lkN x33 fun x34 =>
 .ld x34 .val fun x36 =>
 .look (opS Tryz.prog (.typeAssert (.tmp 0) de aM false) aM [x36]) (.one (.agg [(.int .i64), (.int .i64)])) fun x37 =>
 .cU dp [(.agg #[(.int .i64 x37.1), (.int .i64 x37.2.1)])] (.one (.leaf (.int .i64))) fun x39 =>
 .call bQ [(.pointer p1), (.int .i64 x39)] (.one (.leaf (.int .i64))) fun x40 =>
 .look (opS Tryz.prog (.indexAddr aQ (.tmp 0) (.tmp 1)) aF [(.slice x24.a x24.len x24.cap), (.int .i64 (w64 (((x24.len : Nat) : Int) - 1)))]) (.one (.leaf .addr)) fun x41 =>
 .st (x41.add 1) (.int .i64 x40) <|
 lkN p0 fun x44 =>
 .ld (x44.add 3) (.int .i64) fun x46 =>
 .ret (.bool ((x46 : Int) == 0)))
 else (
 lkN p0 fun x49 =>
 .ld (x49.add 4) .val fun x51 =>
 .look (opS Tryz.prog (.binOp .eql aA (.tmp 0) (.const .nilIface) aA) aO [x51]) (.one (.leaf .bool)) fun x52 =>
 bif x52 then (
 lkN p0 fun x55 =>
 .ld (x55.add 3) (.int .i64) fun x57 =>
 bif (decide ((x57 : Int) > 0)) then (
 .call fg [(.pointer p0)] .unit fun _ =>
 lkN p0 fun x63 =>
 .ld (x63.add 4) .val fun x65 =>
 .look (opS Tryz.prog (.binOp .neq aA (.tmp 0) (.const .nilIface) aA) aO [x65]) (.one (.leaf .bool)) fun x66 =>
 bif x66 then (
 lkN p0 fun x69 =>
 .ld (x69.add 4) .val fun x71 =>
 .act (opS Tryz.prog (.call { callee := .invoke (.tmp 0) "Step", args := #[(.tmp 1)], argTypes := #[aK] }) aO [x71, (.pointer p1)]) (.one (.leaf .bool)) fun x73 =>
 bif x73 then (
 .call fJ [(.pointer p0)] .unit fun _ =>
 lkN p0 fun x78 =>
 .ld (x78.add 4) .val fun x80 =>
 .look (opS Tryz.prog (.binOp .eql aA (.tmp 0) (.const .nilIface) aA) aO [x80]) (.one (.leaf .bool)) fun x81 =>
 bif x81 then (
 lkN p0 fun x84 =>
 .ld (x84.add 3) (.int .i64) fun x86 =>
 .ret (.bool ((x86 : Int) == 0)))
 else (
 .ret (.bool false)))
 else (
 lkN p0 fun x78 =>
 .ld (x78.add 4) .val fun x80 =>
 .look (opS Tryz.prog (.binOp .eql aA (.tmp 0) (.const .nilIface) aA) aO [x80]) (.one (.leaf .bool)) fun x81 =>
 bif x81 then (
 lkN p0 fun x84 =>
 .ld (x84.add 3) (.int .i64) fun x86 =>
 .ret (.bool ((x86 : Int) == 0)))
 else (
 .ret (.bool false))))
 else (
 lkN p0 fun x78 =>
 .ld (x78.add 4) .val fun x80 =>
 .look (opS Tryz.prog (.binOp .eql aA (.tmp 0) (.const .nilIface) aA) aO [x80]) (.one (.leaf .bool)) fun x81 =>
 bif x81 then (
 lkN p0 fun x84 =>
 .ld (x84.add 3) (.int .i64) fun x86 =>
 .ret (.bool ((x86 : Int) == 0)))
 else (
 .ret (.bool false))))
 else (
 lkN p0 fun x63 =>
 .ld (x63.add 4) .val fun x65 =>
 .look (opS Tryz.prog (.binOp .neq aA (.tmp 0) (.const .nilIface) aA) aO [x65]) (.one (.leaf .bool)) fun x66 =>
 bif x66 then (
 lkN p0 fun x69 =>
 .ld (x69.add 4) .val fun x71 =>
 .act (opS Tryz.prog (.call { callee := .invoke (.tmp 0) "Step", args := #[(.tmp 1)], argTypes := #[aK] }) aO [x71, (.pointer p1)]) (.one (.leaf .bool)) fun x73 =>
 bif x73 then (
 .call fJ [(.pointer p0)] .unit fun _ =>
 lkN p0 fun x78 =>
 .ld (x78.add 4) .val fun x80 =>
 .look (opS Tryz.prog (.binOp .eql aA (.tmp 0) (.const .nilIface) aA) aO [x80]) (.one (.leaf .bool)) fun x81 =>
 bif x81 then (
 lkN p0 fun x84 =>
 .ld (x84.add 3) (.int .i64) fun x86 =>
 .ret (.bool ((x86 : Int) == 0)))
 else (
 .ret (.bool false)))
 else (
 lkN p0 fun x78 =>
 .ld (x78.add 4) .val fun x80 =>
 .look (opS Tryz.prog (.binOp .eql aA (.tmp 0) (.const .nilIface) aA) aO [x80]) (.one (.leaf .bool)) fun x81 =>
 bif x81 then (
 lkN p0 fun x84 =>
 .ld (x84.add 3) (.int .i64) fun x86 =>
 .ret (.bool ((x86 : Int) == 0)))
 else (
 .ret (.bool false))))
 else (
 lkN p0 fun x78 =>
 .ld (x78.add 4) .val fun x80 =>
 .look (opS Tryz.prog (.binOp .eql aA (.tmp 0) (.const .nilIface) aA) aO [x80]) (.one (.leaf .bool)) fun x81 =>
 bif x81 then (
 lkN p0 fun x84 =>
 .ld (x84.add 3) (.int .i64) fun x86 =>
 .ret (.bool ((x86 : Int) == 0)))
 else (
 .ret (.bool false)))))
 else (
 lkN p0 fun x63 =>
 .ld (x63.add 4) .val fun x65 =>
 .look (opS Tryz.prog (.binOp .neq aA (.tmp 0) (.const .nilIface) aA) aO [x65]) (.one (.leaf .bool)) fun x66 =>
 bif x66 then (
 lkN p0 fun x69 =>
 .ld (x69.add 4) .val fun x71 =>
 .act (opS Tryz.prog (.call { callee := .invoke (.tmp 0) "Step", args := #[(.tmp 1)], argTypes := #[aK] }) aO [x71, (.pointer p1)]) (.one (.leaf .bool)) fun x73 =>
 bif x73 then (
 .call fJ [(.pointer p0)] .unit fun _ =>
 lkN p0 fun x78 =>
 .ld (x78.add 4) .val fun x80 =>
 .look (opS Tryz.prog (.binOp .eql aA (.tmp 0) (.const .nilIface) aA) aO [x80]) (.one (.leaf .bool)) fun x81 =>
 bif x81 then (
 lkN p0 fun x84 =>
 .ld (x84.add 3) (.int .i64) fun x86 =>
 .ret (.bool ((x86 : Int) == 0)))
 else (
 .ret (.bool false)))
 else (
 lkN p0 fun x78 =>
 .ld (x78.add 4) .val fun x80 =>
 .look (opS Tryz.prog (.binOp .eql aA (.tmp 0) (.const .nilIface) aA) aO [x80]) (.one (.leaf .bool)) fun x81 =>
 bif x81 then (
 lkN p0 fun x84 =>
 .ld (x84.add 3) (.int .i64) fun x86 =>
 .ret (.bool ((x86 : Int) == 0)))
 else (
 .ret (.bool false))))
 else (
 lkN p0 fun x78 =>
 .ld (x78.add 4) .val fun x80 =>
 .look (opS Tryz.prog (.binOp .eql aA (.tmp 0) (.const .nilIface) aA) aO [x80]) (.one (.leaf .bool)) fun x81 =>
 bif x81 then (
 lkN p0 fun x84 =>
 .ld (x84.add 3) (.int .i64) fun x86 =>
 .ret (.bool ((x86 : Int) == 0)))
 else (
 .ret (.bool false)))))
theorem sF {p0 : Option Addr} {p1 : Option Addr} : SpT kU #[(.pointer p0), (.pointer p1)] (hG p0 p1) := spT bU Tryz.func154 (by kernel_rfl)
noncomputable def jT (p0 : Option Addr) (p1 : Int) : Tree :=
 lkN p0 fun x7 =>
 .ld x7 .val fun x9 =>
 .look (opS Tryz.prog (.typeAssert (.tmp 0) de aM true) aF [x9]) (.tup [(.agg [(.int .i64), (.int .i64)]), (.leaf .bool)]) fun x10 =>
 bif x10.2.1 then (
 .dk (.cells #[(.int .i64 0), (.int .i64 0)] aM) fun x5 =>
 .stA x5 [(.int .i64 x10.1.1), (.int .i64 x10.1.2.1)] <|
 .ldA x5 [(.int .i64), (.int .i64)] fun x14 =>
 .call oC [(.agg #[(.int .i64 x14.1), (.int .i64 x14.2.1)]), (.int .i64 p1)] (.one (.leaf .ptr)) fun x16 =>
 .ret (.iface cP (.pointer x16)))
 else (
 .ret .nilIface)
theorem jY {p0 : Option Addr} {p1 : Int} : SpT jP #[(.pointer p0), (.int .i64 p1)] (jT p0 p1) := spT bU Tryz.func79 (by kernel_rfl)
noncomputable def je (p0 : Option Addr) (p1 : Int) (p2 : Int) (p3 : Int) : Tree :=
 lkN p0 fun x13 =>
 .ld x13 .val fun x15 =>
 .look (opS Tryz.prog (.typeAssert (.tmp 0) de aM true) jw [x15]) (.tup [(.agg [(.int .i64), (.int .i64)]), (.leaf .bool)]) fun x16 =>
 .dk (.cells #[(.int .i64 0), (.int .i64 0)] aM) fun x9 =>
 .stA x9 [(.int .i64 x16.1.1), (.int .i64 x16.1.2.1)] <|
 bif x16.2.1 then (
 .ret .nilIface)
 else (
 lkN p0 fun x21 =>
 .ld x21 .val fun x23 =>
 .look (opS Tryz.prog (.typeAssert (.tmp 0) de br false) br [x23]) (.one (.agg [(.int .i64), (.int .i64)])) fun x24 =>
 .cU fX [(.agg #[(.int .i64 x24.1), (.int .i64 x24.2.1)]), (.int .i64 p1), (.int .i64 p2)] (.one (.leaf (.int .i64))) fun x28 =>
 .qB (.cells #[(.int .i64 x28)] aP) 1 fun x29 =>
 .dk (.cells #[(.slice x29.a x29.len x29.cap), (.int .i64 p3)] gm) fun x32 =>
 .ret (.iface bF (.pointer (some x32))))
theorem jm {p0 : Option Addr} {p1 : Int} {p2 : Int} {p3 : Int} : SpT jc #[(.pointer p0), (.int .i64 p1), (.int .i64 p2), (.int .i64 p3)] (je p0 p1 p2 p3) := spT bU Tryz.func110 (by kernel_rfl)
@[reducible] def jM : List Sh1 := [(.leaf .slice), (.leaf (.int .i64))]
noncomputable def kI (p1 : Int) (x7 : Addr) (y1 : HL Sh1.T jM) : Tree :=
 bif (decide ((y1.2.1 : Int) < 2)) then (
 .ldA x7 [(.int .i64), (.int .i64)] fun x37 =>
 .cU fX [(.agg #[(.int .i64 x37.1), (.int .i64 x37.2.1)]), (.int .i64 p1), (.int .i64 y1.2.1)] (.one (.leaf (.int .i64))) fun x40 =>
 .qB (.cells #[(.int .i64 x40)] aP) 1 fun x41 =>
 .act (opS Tryz.prog (.call { callee := .builtin .append, args := #[(.tmp 0), (.tmp 1)], argTypes := #[bK, bK] }) bK [(.slice y1.1.a y1.1.len y1.1.cap), (.slice x41.a x41.len x41.cap)]) (.one (.leaf .slice)) fun x42 =>
 .again 448 [(.slice x42.a x42.len x42.cap), (.int .i64 (w64 (y1.2.1 + 1)))])
 else (
 .dk (.cells #[(.slice y1.1.a y1.1.len y1.1.cap), (.int .i64 0)] gm) fun x46 =>
 .ret (.iface bF (.pointer (some x46))))
noncomputable def m6 (p0 : Option Addr) (p1 : Int) : Tree :=
 lkN p0 fun x12 =>
 .ld x12 .val fun x14 =>
 .look (opS Tryz.prog (.typeAssert (.tmp 0) de aM true) jw [x14]) (.tup [(.agg [(.int .i64), (.int .i64)]), (.leaf .bool)]) fun x15 =>
 .dk (.cells #[(.int .i64 0), (.int .i64 0)] aM) fun x5 =>
 .stA x5 [(.int .i64 x15.1.1), (.int .i64 x15.1.2.1)] <|
 bif x15.2.1 then (
 .ldA x5 [(.int .i64), (.int .i64)] fun x20 =>
 .cU fK [(.agg #[(.int .i64 x20.1), (.int .i64 x20.2.1)]), (.int .i64 p1)] (.one (.leaf (.int .i64))) fun x22 =>
 .qB (.cells #[(.int .i64 x22)] aP) 1 fun x23 =>
 .dk (.cells #[(.slice x23.a x23.len x23.cap), (.int .i64 0)] gm) fun x25 =>
 .ret (.iface bF (.pointer (some x25))))
 else (
 lkN p0 fun x28 =>
 .ld x28 .val fun x30 =>
 .look (opS Tryz.prog (.typeAssert (.tmp 0) de br false) br [x30]) (.one (.agg [(.int .i64), (.int .i64)])) fun x31 =>
 .dk (.cells #[(.int .i64 0), (.int .i64 0)] br) fun x7 =>
 .stA x7 [(.int .i64 x31.1), (.int .i64 x31.2.1)] <|
 .loop 448 jM [(.slice none 0 0), (.int .i64 0)] (kI p1 x7))
theorem qF {p0 : Option Addr} {p1 : Int} : SpT jS #[(.pointer p0), (.int .i64 p1)] (m6 p0 p1) := spT bU Tryz.func91 (by kernel_rfl)
noncomputable def ml (p0 : Option Addr) (p1 : Option Addr) (p2 : Int) (p3 : Int) : Tree :=
 .call g9 [(.pointer p1), (.int .i64 p3)] (.one (.leaf .bool)) fun x14 =>
 lkN p0 fun x16 =>
 .ld (x16.add 7) .map fun x18 =>
 lkN p0 fun x21 =>
 .ld (x21.add 7) .map fun x23 =>
 .look (opS Tryz.prog (.lookup bq (.tmp 0) (.tmp 1) false) aQ [(.map x23), (.int .i64 p2)]) (.one (.leaf .slice)) fun x25 =>
 .qB (.cells #[(.int .i64 p3), (.int .i64 0)] aG) 1 fun x28 =>
 .check (opS Tryz.prog (.lookup bq (.tmp 0) (.tmp 1) false) aQ [(.map x23), (.int .i64 p2)]) (.slice x25.a x25.len x25.cap) <|
 .check (ldS (x21.add 7)) (.map x23) <|
 .check (nck p0) (.pointer (some x21)) <|
 .check (ldS (x16.add 7)) (.map x18) <|
 .check (nck p0) (.pointer (some x16)) <|
 .act (opS Tryz.prog (.call { callee := .builtin .append, args := #[(.tmp 0), (.tmp 1)], argTypes := #[aQ, aQ] }) aQ [(.slice x25.a x25.len x25.cap), (.slice x28.a x28.len x28.cap)]) (.one (.leaf .slice)) fun x29 =>
 .check (ldS (x16.add 7)) (.map x18) <|
 .check (nck p0) (.pointer (some x16)) <|
 .act (opS Tryz.prog (.mapUpdate bq (.tmp 0) (.tmp 1) (.tmp 2)) aF [(.map x18), (.int .i64 p2), (.slice x29.a x29.len x29.cap)]) .unit fun _ =>
 lkN p0 fun x32 =>
 .ld x32 .val fun x34 =>
 .look (opS Tryz.prog (.typeAssert (.tmp 0) de aM true) jw [x34]) (.tup [(.agg [(.int .i64), (.int .i64)]), (.leaf .bool)]) fun x35 =>
 .dk (.cells #[(.int .i64 0), (.int .i64 0)] aM) fun x9 =>
 .stA x9 [(.int .i64 x35.1.1), (.int .i64 x35.1.2.1)] <|
 .dk (.cells #[(.pointer p0), (.int .i64 p2), (.bool x35.2.1), (.int .i64 0), .nilIface] aH) fun x42 =>
 lkN p0 fun x44 =>
 .ld (x44.add 7) .map fun x46 =>
 .look (opS Tryz.prog (.lookup bq (.tmp 0) (.tmp 1) false) aQ [(.map x46), (.int .i64 p2)]) (.one (.leaf .slice)) fun x48 =>
 lkN p0 fun x51 =>
 .ld (x51.add 6) (.int .i64) fun x53 =>
 bif (decide ((((x48.len : Nat) : Int) : Int) ≥ x53)) then (
 lkN (some x42) fun x56 =>
 .st (x56.add 3) (.int .i64 1) <|
 bif (!x35.2.1) then (
 lkN (some x42) fun x62 =>
 .ld (x62.add 3) (.int .i64) fun x64 =>
 bif ((x64 : Int) == 0) then (
 .ret .nilIface)
 else (
 bif (!x35.2.1) then (
 .call fg [(.pointer (some x42))] .unit fun _ =>
 .ret (.iface b9 (.pointer (some x42))))
 else (
 .ret (.iface b9 (.pointer (some x42))))))
 else (
 bif (!x35.2.1) then (
 .call fg [(.pointer (some x42))] .unit fun _ =>
 .ret (.iface b9 (.pointer (some x42))))
 else (
 .ret (.iface b9 (.pointer (some x42))))))
 else (
 bif (!x35.2.1) then (
 lkN (some x42) fun x62 =>
 .ld (x62.add 3) (.int .i64) fun x64 =>
 bif ((x64 : Int) == 0) then (
 .ret .nilIface)
 else (
 bif (!x35.2.1) then (
 .call fg [(.pointer (some x42))] .unit fun _ =>
 .ret (.iface b9 (.pointer (some x42))))
 else (
 .ret (.iface b9 (.pointer (some x42))))))
 else (
 bif (!x35.2.1) then (
 .call fg [(.pointer (some x42))] .unit fun _ =>
 .ret (.iface b9 (.pointer (some x42))))
 else (
 .ret (.iface b9 (.pointer (some x42))))))
theorem pq {p0 : Option Addr} {p1 : Option Addr} {p2 : Int} {p3 : Int} : SpT fP #[(.pointer p0), (.pointer p1), (.int .i64 p2), (.int .i64 p3)] (ml p0 p1 p2 p3) := spT bU Tryz.func65 (by kernel_rfl)
structure Gd where
  ep : Bool
  w : Int
  ta : Int
  pl : Pl
  th : Int
def kD (ep : Bool) (w ta : Int) : Value := .iface (bif ep then aM else br) (.agg #[.int .i64 w, .int .i64 ta])
def Gd.cells (g : Gd) (mq : Nat) : List Value := [kD g.ep g.w g.ta, .int .i64 g.pl.work, .int .i64 g.pl.heads, .int .i64 g.pl.links, .int .i64 g.pl.gens, .int .i64 g.pl.carved, .int .i64 g.th, .map (some mq)]
structure LE where
  k : Int
  s : Sl
  xs : List (Int × Int)
  hb : Bl
def leC (e : List LE) : List (Int × Sl) := e.map fun x => (x.k, x.s)
def leB : List LE → Bl
  | [] => []
  | x :: e => x.hb ++ leB e
def leGet : List LE → Int → LE
  | [], k => ⟨k, sl0, [], []⟩
  | x :: e, k => if k = x.k then x else leGet e k
def kl : List LE → Int → Bl
  | [], _ => []
  | x :: e, k => if k = x.k then leB e else x.hb ++ kl e k
def fY : List LE → LE → List LE
  | [], y => [y]
  | x :: e, y => if y.k = x.k then y :: e else x :: fY e y
theorem Ca : ∀ (e : List LE) (k : Int), (match alGet (leC e) k with | some v => slV v | none => slV sl0) = slV (leGet e k).s
  | [], k => rfl
  | x :: e, k => by
    show (match (if k = x.k then some x.s else alGet (leC e) k) with | some v => slV v | none => slV sl0) = slV (if k = x.k then x else leGet e k).s
    by_cases h : k = x.k
    · rw [if_pos h, if_pos h]
    · rw [if_neg h, if_neg h]; exact Ca e k
theorem BW : ∀ (e : List LE) (y : LE), leC (fY e y) = alPut (leC e) y.k y.s
  | [], y => rfl
  | x :: e, y => by
    show leC (if y.k = x.k then y :: e else x :: fY e y) = if y.k = x.k then (x.k, y.s) :: leC e else (x.k, x.s) :: alPut (leC e) y.k y.s
    by_cases h : y.k = x.k
    · rw [if_pos h, if_pos h, ← h]; rfl
    · rw [if_neg h, if_neg h, ← BW e y]; rfl
theorem xU : ∀ (e : List LE) (y : LE) (k : Int), leGet (fY e y) k = if k = y.k then y else leGet e k
  | [], y, k => rfl
  | x :: e, y, k => by
    show leGet (if y.k = x.k then y :: e else x :: fY e y) k = if k = y.k then y else if k = x.k then x else leGet e k
    by_cases h : y.k = x.k
    · rw [if_pos h]
      show (if k = y.k then y else leGet e k) = _
      by_cases h2 : k = y.k
      · rw [if_pos h2, if_pos h2]
      · rw [if_neg h2, if_neg h2, if_neg (by rw [← h]; exact h2)]
    · rw [if_neg h]
      show (if k = x.k then x else leGet (fY e y) k) = _
      by_cases h2 : k = x.k
      · rw [if_pos h2, if_pos h2, if_neg (by rw [h2]; exact fun e => h e.symm)]
      · rw [if_neg h2, if_neg h2]; exact xU e y k
theorem FE {c : Bl → Nat} (c0 : c [] = 0) (ca : ∀ a b, c (a ++ b) = c a + c b) : ∀ (e : List LE) (k : Int), c (leB e) = c (leGet e k).hb + c (kl e k)
  | [], k => by show c [] = c [] + c []; omega
  | x :: e, k => by
    show c (x.hb ++ leB e) = c (if k = x.k then x else leGet e k).hb + c (if k = x.k then leB e else x.hb ++ kl e k)
    by_cases h : k = x.k
    · rw [if_pos h, if_pos h, ca]
    · rw [if_neg h, if_neg h, ca, ca, FE c0 ca e k]; omega
theorem vw {c : Bl → Nat} (c0 : c [] = 0) (ca : ∀ a b, c (a ++ b) = c a + c b) : ∀ (e : List LE) (y : LE), c (leB (fY e y)) = c y.hb + c (kl e y.k)
  | [], y => ca _ _
  | x :: e, y => by
    show c (leB (if y.k = x.k then y :: e else x :: fY e y)) = c y.hb + c (if y.k = x.k then leB e else x.hb ++ kl e y.k)
    by_cases h : y.k = x.k
    · rw [if_pos h, if_pos h]; exact ca _ _
    · rw [if_neg h, if_neg h, ca]
      show c (x.hb ++ leB (fY e y)) = _
      rw [ca, vw c0 ca e y]; omega
def Gd.bl (g : Gd) (q mq : Nat) (e : List LE) : Bl := (q, oc aU (g.cells mq)) :: (mq, bJ slV (leC e)) :: leB e
def Gz (e : List LE) : Prop := ∀ k, dH (leGet e k).hb aG eL (leGet e k).s (leGet e k).xs
theorem Gz.put {e : List LE} (h : Gz e) {y : LE} (hy : dH y.hb aG eL y.s y.xs) : Gz (fY e y) := fun k => by
  rw [xU]
  split
  · exact hy
  · exact h k
theorem AJ (w ta : Int) (u : TypeId) : opS Tryz.prog (.typeAssert (.tmp 0) de aM true) u [kD true w ta] = .pure (.value (.tuple #[.agg #[.int .i64 w, .int .i64 ta], .bool true])) := by kernel_rfl
theorem AG (w ta : Int) (u : TypeId) : opS Tryz.prog (.typeAssert (.tmp 0) de aM true) u [kD false w ta] = .pure (.value (.tuple #[.agg #[.int .i64 0, .int .i64 0], .bool false])) := by kernel_rfl
theorem M6 (w ta : Int) (u : TypeId) : opS Tryz.prog (.typeAssert (.tmp 0) de br true) u [kD false w ta] = .pure (.value (.tuple #[.agg #[.int .i64 w, .int .i64 ta], .bool true])) := by kernel_rfl
theorem LO (w ta : Int) (u : TypeId) : opS Tryz.prog (.typeAssert (.tmp 0) de br false) u [kD false w ta] = .pure (.value (.agg #[.int .i64 w, .int .i64 ta])) := by kernel_rfl
theorem NK (w ta : Int) (u : TypeId) : opS Tryz.prog (.typeAssert (.tmp 0) de aM false) u [kD true w ta] = .pure (.value (.agg #[.int .i64 w, .int .i64 ta])) := by kernel_rfl
section
variable {L : aZ} {R : Value → Heap → Prop} {G : Heap} {l rest : Bl} {A : Ar} {I : List Nat}
theorem Iw (ok : Ok0 G (keys l)) : G.le (dO l G) := by
  intro b o hb
  rw [qR]
  · exact hb
  · intro h; rw [ok.no b h] at hb; cases hb
theorem z8 {w n : Int} (b : 0 ≤ w ∧ w ≤ 100000) (H : Heap) : Det Tryz.prog ki [.int .i64 w, .int .i64 n] H (.agg #[.int .i64 w, .int .i64 n]) H := by
  refine rR fun L => ?_
  unfold nW
  have ok0 : Ok0 H (keys []) := ⟨.nil, fun b h => (by cases h)⟩
  refine tB (l := []) ok0 fun x4 ok0 => ?_
  refine Lc (w := w) (n := n) b ?_
  refine tB ok0 fun x5 ok0 => ?_
  refine FZ 0 ok0 rfl rfl rfl rfl ?_
  have ok1 : Ok0 H (keys [(x5, oc c9 [.int .i64 w, .int .i64 n]), (x4, oc c9 [.int .i64 0, .int .i64 0])]) := ok0
  show wp Tryz.prog _ L (dO [(x5, oc c9 [.int .i64 w, .int .i64 n]), (x4, oc c9 [.int .i64 0, .int .i64 0])] H) _
  refine Dl (l := [(x5, oc c9 [.int .i64 w, .int .i64 n]), (x4, oc c9 [.int .i64 0, .int .i64 0])]) 0 ok1 rfl rfl rfl ?_
  refine FZ 1 ok1 rfl rfl rfl rfl ?_
  refine ⟨(w, n, ()), ?_, H, Iw (by exact ok1), rfl, rfl⟩
  refine iX (gE (i := 1) H (by exact ok1.nd) rfl) 2 0 #[] (by exact Nat.le_refl 2) ?_
  rfl
theorem Eg {w n : Int} (ep : Bool) (b : 0 ≤ w ∧ w ≤ 100000) (H : Heap) : Det Tryz.prog oU [.int .i64 w, .int .i64 n, .bool ep] H (kD ep w n) H := by
  refine zh fun L => ?_
  unfold Az
  have ok0 : Ok0 H (keys []) := ⟨.nil, fun b h => (by cases h)⟩
  cases ep with
  | true =>
    refine av rfl ?_
    refine bc (x := (w, n, ())) (z8 b H) ?_
    exact ad ⟨rfl, rfl⟩
  | false =>
    refine af rfl ?_
    refine Lp (w := w) (n := n) b ?_
    refine tB (l := []) ok0 fun x7 ok0 => ?_
    refine FZ 0 ok0 rfl rfl rfl rfl ?_
    have ok1 : Ok0 H (keys [(x7, oc fW [.int .i64 w, .int .i64 n])]) := ok0
    show wp Tryz.prog _ L (dO [(x7, oc fW [.int .i64 w, .int .i64 n])] H) _
    refine Dl (l := [(x7, oc fW [.int .i64 w, .int .i64 n])]) 0 ok1 rfl rfl rfl ?_
    exact ⟨H, Iw ok1, rfl, rfl⟩
theorem Hf (w n : Int) : opS Tryz.prog (.call { callee := .invoke (.tmp 0) "magpie/guard.words", args := #[], argTypes := #[] }) aP [kD true w n] = .pure (.enter mD [.agg #[.int .i64 w, .int .i64 n]].toArray) := by kernel_rfl
theorem Gw (w n : Int) : opS Tryz.prog (.call { callee := .invoke (.tmp 0) "magpie/guard.words", args := #[], argTypes := #[] }) aP [kD false w n] = .pure (.enter lN [.agg #[.int .i64 w, .int .i64 n]].toArray) := by kernel_rfl
theorem Is {w n : Int} (ep : Bool) (b : 0 ≤ w ∧ w ≤ 100000) (H : Heap) : Det Tryz.prog uh [.int .i64 w, .int .i64 n, .bool ep] H (.int .i64 (bif ep then 1 + w else 2 * w)) H := by
  refine xN fun L => ?_
  unfold za
  refine ax (x := kD ep w n) (Eg ep b H) ?_
  have e1 : imax w 0 = w := by unfold imax; rw [if_neg (by omega)]
  cases ep with
  | true =>
    refine bZ (Hf w n) ?_
    refine ax (x := 1 + w) ?_ (ad ⟨rfl, rfl⟩)
    refine pe (p0_0 := w) (p0_1 := n) fun L => ?_
    unfold mG
    refine dI fun b hb => ?_
    refine bL (x := w) (by rw [Heap.fE]; rfl) ?_
    rw [e1, aE (by omega) (by omega)]
    exact ⟨H, Heap.dM _ hb, rfl, rfl⟩
  | false =>
    refine bZ (Gw w n) ?_
    refine ax (x := 2 * w) ?_ (ad ⟨rfl, rfl⟩)
    refine oD (p0_0 := w) (p0_1 := n) fun L => ?_
    unfold lH
    refine dI fun b hb => ?_
    refine bL (x := w) (by rw [Heap.fE]; rfl) ?_
    rw [e1, aE (by omega) (by omega)]
    exact ⟨H, Heap.dM _ hb, rfl, rfl⟩
end
section
variable {L : aZ} {R : Value → Heap → Prop} {A : Ar} {I : List Nat} {l l' : Bl} {G : Heap}
theorem rdA {s : Sl} {xs : List Int} {i : Int} {u : TypeId} {k : Int → Tree} (hA : Aw I A) (ok : Ok I G (keys l)) (hs : ir l aP eI s xs) (h0 : 0 ≤ i) (h1 : i < xs.length) (h : wp Tryz.prog (k (xs.getD i.toNat 0)) L (own A l G) R) :
    wp Tryz.prog (.look (opS Tryz.prog (.indexAddr bK (.tmp 0) (.tmp 1)) u [.slice s.a s.len s.cap, .int .i64 i]) (.one (.leaf .addr)) fun x => .ld x (.int .i64) k) L (own A l G) R := by
  rcases hs with ⟨rfl, rfl⟩ | ⟨b, pre, rest, r, rfl, h2, h3⟩
  · have : (([] : List Int).length : Int) = 0 := rfl
    omega
  · refine C3 (e := aP) rfl rfl rfl h0 h1 ?_
    refine eQ (x := xs.getD i.toNat 0) hA ok rfl h3 ?_ h
    have hl : i.toNat < xs.length := by omega
    rw [List.append_assoc, List.getElem?_append_right (by omega), It, show pre.length + i.toNat - pre.length = i.toNat by omega, List.getElem?_append_left (by simpa using hl), List.getElem?_map, List.getElem?_eq_getElem hl]
    show some _ = _
    rw [List.getD_eq_getElem?_getD, List.getElem?_eq_getElem hl]; rfl
theorem ir.OD {e : TypeId} {s : Sl} {x : Int} {xs : List Int} (h : ir l e eI s (x :: xs)) : ir l e eI (gH s 1) xs ∧ (1 : Int) ≤ (s.len : Int) := by
  rcases h with ⟨_, h⟩ | ⟨b, pre, rest, r, rfl, h2, h3⟩
  · cases h
  · refine ⟨?_, by show (1 : Int) ≤ ((xs.length + 1 : Nat) : Int); omega⟩
    unfold gH
    dsimp only
    by_cases e : (x :: xs).length + r = 1
    · rw [if_pos e]
      have hx : xs = [] := by simp only [List.length_cons] at e; exact List.eq_nil_of_length_eq_zero (by omega)
      have hr : r = 0 := by simp only [List.length_cons] at e; omega
      subst hx; subst hr
      exact .inr ⟨b, pre, eI.all [x] ++ rest, 0, rfl, by omega, by rw [show eI.all ([] : List Int) = [] from rfl, List.append_nil, ← List.append_assoc]; exact h3⟩
    · rw [if_neg e]
      refine .inr ⟨b, pre ++ [.int .i64 x], rest, r, ?_, h2, ?_⟩
      · show Sl.mk (some ((Addr.mk b pre.length none).add 1)) _ _ = _
        rw [Addr.gF, List.length_append]
        simp only [List.length_cons, List.length_nil, Sl.mk.injEq, true_and]
        omega
      · have : eI.all (x :: xs) = [.int .i64 x] ++ eI.all xs := rfl
        rw [this] at h3
        simpa using h3
end
structure Se where
  ws : List Int
  v : Int
structure SeJ where
  q : Nat
  s : Sl
  hb : Bl
def Se.bl (x : Se) (j : SeJ) : Bl := (j.q, oc gm [slV j.s, .int .i64 x.v]) :: j.hb
def Se.step (x : Se) (A : Ar) : Se × Ar :=
  match x.ws with
  | [] => (x, A)
  | w :: ws => ({ x with ws := ws }, A.aL w x.v)
def mSe : sB Se SeJ where
  f := kZ
  addr := SeJ.q
  bl := Se.bl
  rep := fun x j => ir j.hb aP eI j.s x.ws
  inv := fun _ _ => True
  step := Se.step
  fin := fun x => decide (x.ws = [])
theorem Le : mSe.vX bF := fun q p => by
  show opS _ _ _ _ = .pure (.enter kZ [.pointer (some ⟨q, 0, none⟩), .pointer p].toArray)
  kernel_rfl
theorem ir.O4 {l : Bl} {s : Sl} (h : ir l aP eI s []) : s.len = 0 := by have := h.len; simpa using this
set_option maxHeartbeats 1000000 in
theorem Nr : mSe.ok := by
  rintro I A G ⟨ws, v⟩ ⟨q, s, hb⟩ hA ok rp _
  have rp : ir hb aP eI s ws := rp
  have ok : Ok I G (keys ((q, oc gm [slV s, .int .i64 v]) :: hb)) := ok
  refine sL fun L => ?_
  unfold pQ
  show wp Tryz.prog _ L (own A ((q, oc gm [slV s, .int .i64 v]) :: hb) G) _
  have hl := rp.len
  refine aa.2 (aS 0 (x := s) hA ok rfl rfl rfl ?_)
  cases ws with
  | nil =>
    have h0 : s.len = 0 := rp.O4
    refine af (decide_eq_false (by omega)) ?_
    refine aa.2 (aS 0 (x := s) hA ok rfl rfl rfl ?_)
    exact ad ⟨⟨q, s, hb⟩, by rw [h0]; rfl, rfl, rfl, ok, rp, hA⟩
  | cons w ws =>
    obtain ⟨t1, t2⟩ := rp.OD
    refine av (decide_eq_true (by omega)) ?_
    refine aa.2 (aS 0 (x := s) hA ok rfl rfl rfl ?_)
    rw [vt]
    refine rdA (xs := w :: ws) hA ok (rp.mono fun p hp => List.mem_cons_of_mem _ hp) (Int.le_refl 0) (by simp) ?_
    refine aa.2 (aS 0 (x := v) hA ok rfl rfl rfl ?_)
    refine mw hA fun hB => ?_
    refine aa.2 (aS 0 (x := s) hB ok rfl rfl rfl ?_)
    rw [zw]
    refine KH (by omega) t2 ?_
    refine aa.2 (cA 0 hB ok rfl rfl rfl rfl ?_)
    have ok1 : Ok I G (keys ((q, oc gm [slV (gH s 1), .int .i64 v]) :: hb)) := ok
    show wp Tryz.prog _ L (own (A.aL w v) ((q, oc gm [slV (gH s 1), .int .i64 v]) :: hb) G) _
    refine aa.2 (aS 0 (x := gH s 1) hB ok1 rfl rfl rfl ?_)
    refine ad ⟨⟨q, gH s 1, hb⟩, ?_, rfl, rfl, ok1, t1, hB⟩
    have hl1 := t1.len
    show Value.bool (((((gH s 1).len : Nat) : Int)) == 0) = .bool (decide (ws = []))
    rw [hl1]
    cases ws with
    | nil => rfl
    | cons a b => simp; omega
section
variable {L : aZ} {R : Value → Heap → Prop} {G : Heap} {l rest : Bl} {A : Ar} {I : List Nat}
end
section
variable {L : aZ} {R : Value → Heap → Prop} {G : Heap} {l rest : Bl} {A : Ar} {I : List Nat} {g : Gd} {e : List LE} {q mq : Nat}
theorem H7 {k : Int} {K : Value → Tree} (hA : Aw I A) (ok : Ok I G (keys (g.bl q mq e ++ rest)))
    (h1 : g.ep = true → ∀ z : Nat, Ok I G (keys (g.bl q mq e ++ ((ic g.w g.ta k).bl z ++ rest))) → wp Tryz.prog (K (.iface cP (.pointer (some ⟨z, 0, none⟩)))) L (own A (g.bl q mq e ++ ((ic g.w g.ta k).bl z ++ rest)) G) R)
    (h2 : g.ep = false → wp Tryz.prog (K .nilIface) L (own A (g.bl q mq e ++ rest) G) R) :
    wp Tryz.prog (.call jP [.pointer (some ⟨q, 0, none⟩), .int .i64 k] (.one (.leaf .val)) K) L (own A (g.bl q mq e ++ rest) G) R := by
  cases hp : g.ep with
  | true =>
    refine aR (R0 := fun v H => ∃ z, v = .iface cP (.pointer (some ⟨z, 0, none⟩)) ∧ H = own A (g.bl q mq e ++ ((ic g.w g.ta k).bl z ++ rest)) G ∧ Ok I G (keys (g.bl q mq e ++ ((ic g.w g.ta k).bl z ++ rest)))) ?_ ?_
    · refine jY fun L => ?_
      unfold jT
      refine aa.2 (aS 0 (x := kD g.ep g.w g.ta) hA ok rfl rfl rfl ?_)
      rw [hp]
      refine aB (x := ((g.w, g.ta, ()), true, ())) (AJ _ _ _) (av rfl ?_)
      refine cL (c := [.int .i64 0, .int .i64 0]) hA ok fun x5 ok1 => ?_
      refine j9 0 hA ok1 rfl rfl rfl rfl ?_
      have ok1 : Ok I G (keys ((x5, oc aM [.int .i64 g.w, .int .i64 g.ta]) :: (g.bl q mq e ++ rest))) := ok1
      show wp Tryz.prog _ L (own A ((x5, oc aM [.int .i64 g.w, .int .i64 g.ta]) :: (g.bl q mq e ++ rest)) G) _
      refine fy 0 hA ok1 rfl rfl rfl ?_
      refine IE (tw := g.w) (ta := g.ta) (work := k) hA ok1 fun z ok2 => ?_
      obtain ⟨p1, ok3⟩ := aN (A := A) (l' := (x5, oc aM [.int .i64 g.w, .int .i64 g.ta]) :: (g.bl q mq e ++ ((ic g.w g.ta k).bl z ++ rest))) ok2 (aT fun c d c0 cd ca => by simp only [cd, ca]; omega)
      rw [p1]
      exact ⟨_, kh ok3 ((List.nodup_cons.1 ok3.nd).2) (fun p hp => List.mem_cons_of_mem _ hp), z, rfl, rfl, ok3.sub ((List.nodup_cons.1 ok3.nd).2) fun b hb => List.mem_cons_of_mem _ hb⟩
    · rintro v H ⟨z, rfl, rfl, o⟩
      exact ⟨_, rfl, h1 hp z o⟩
  | false =>
    refine ax (x := .nilIface) (H' := own A (g.bl q mq e ++ rest) G) ?_ (h2 hp)
    refine jY fun L => ?_
    unfold jT
    refine aa.2 (aS 0 (x := kD g.ep g.w g.ta) hA ok rfl rfl rfl ?_)
    rw [hp]
    refine aB (x := ((0, 0, ()), false, ())) (AG _ _ _) (af rfl ?_)
    exact ad ⟨rfl, rfl⟩
theorem ES {k n v : Int} {K : Value → Tree} (b : 0 ≤ g.ta ∧ g.ta ≤ 1000000 ∧ 0 ≤ k ∧ k ≤ 1000 ∧ 0 ≤ n ∧ n ≤ 1000) (hA : Aw I A) (ok : Ok I G (keys (g.bl q mq e ++ rest)))
    (h1 : g.ep = false → ∀ j : SeJ, Ok I G (keys (g.bl q mq e ++ (Se.bl ⟨[g.ta + 2 * k + n], v⟩ j ++ rest))) → mSe.rep ⟨[g.ta + 2 * k + n], v⟩ j → wp Tryz.prog (K (.iface bF (.pointer (some ⟨j.q, 0, none⟩)))) L (own A (g.bl q mq e ++ (Se.bl ⟨[g.ta + 2 * k + n], v⟩ j ++ rest)) G) R)
    (h2 : g.ep = true → wp Tryz.prog (K .nilIface) L (own A (g.bl q mq e ++ rest) G) R) :
    wp Tryz.prog (.call jc [.pointer (some ⟨q, 0, none⟩), .int .i64 k, .int .i64 n, .int .i64 v] (.one (.leaf .val)) K) L (own A (g.bl q mq e ++ rest) G) R := by
  cases hp : g.ep with
  | false =>
    refine aR (R0 := fun u H => ∃ j : SeJ, u = .iface bF (.pointer (some ⟨j.q, 0, none⟩)) ∧ H = own A (g.bl q mq e ++ (Se.bl ⟨[g.ta + 2 * k + n], v⟩ j ++ rest)) G ∧ Ok I G (keys (g.bl q mq e ++ (Se.bl ⟨[g.ta + 2 * k + n], v⟩ j ++ rest))) ∧ mSe.rep ⟨[g.ta + 2 * k + n], v⟩ j) ?_ ?_
    · refine jm fun L => ?_
      unfold je
      refine aa.2 (aS 0 (x := kD g.ep g.w g.ta) hA ok rfl rfl rfl ?_)
      rw [hp]
      refine aB (x := ((0, 0, ()), false, ())) (AG _ _ _) ?_
      refine cL (c := [.int .i64 0, .int .i64 0]) hA ok fun x9 ok1 => ?_
      refine j9 0 hA ok1 rfl rfl rfl rfl (af rfl ?_)
      have ok1 : Ok I G (keys ((x9, oc aM [.int .i64 0, .int .i64 0]) :: (g.bl q mq e ++ rest))) := ok1
      show wp Tryz.prog _ L (own A ((x9, oc aM [.int .i64 0, .int .i64 0]) :: (g.bl q mq e ++ rest)) G) _
      refine aa.2 (aS 1 (x := kD g.ep g.w g.ta) hA ok1 rfl rfl rfl ?_)
      rw [hp]
      refine aB (x := (g.w, g.ta, ())) (LO _ _ _) ?_
      refine F9 (tw := g.w) (ta := g.ta) b ?_
      refine l6 (c := [.int .i64 (g.ta + 2 * k + n)]) hA ok1 fun x29 ok2 => ?_
      refine cL (c := [slV ⟨some ⟨x29, 0, none⟩, 1, 1⟩, .int .i64 v]) hA ok2 fun x32 ok3 => ?_
      obtain ⟨p1, ok4⟩ := aN (A := A) (l' := (x9, oc aM [.int .i64 0, .int .i64 0]) :: (g.bl q mq e ++ (Se.bl ⟨[g.ta + 2 * k + n], v⟩ ⟨x32, ⟨some ⟨x29, 0, none⟩, 1, 1⟩, [(x29, oc aP [.int .i64 (g.ta + 2 * k + n)])]⟩ ++ rest))) ok3 (aT fun c d c0 cd ca => by simp only [Se.bl, cd, ca, c0]; omega)
      rw [p1]
      exact ⟨_, kh ok4 ((List.nodup_cons.1 ok4.nd).2) (fun p hp => List.mem_cons_of_mem _ hp), ⟨x32, ⟨some ⟨x29, 0, none⟩, 1, 1⟩, [(x29, oc aP [.int .i64 (g.ta + 2 * k + n)])]⟩, rfl, rfl, ok4.sub ((List.nodup_cons.1 ok4.nd).2) fun b hb => List.mem_cons_of_mem _ hb, .inr ⟨x29, [], [], 0, rfl, (by show 0 * 1 ≤ 0; decide), List.mem_cons_self⟩⟩
    · rintro u H ⟨j, rfl, rfl, o, rp⟩
      exact ⟨_, rfl, h1 hp j o rp⟩
  | true =>
    refine aR (R0 := fun u H => u = .nilIface ∧ H = own A (g.bl q mq e ++ rest) G) ?_ ?_
    · refine jm fun L => ?_
      unfold je
      refine aa.2 (aS 0 (x := kD g.ep g.w g.ta) hA ok rfl rfl rfl ?_)
      rw [hp]
      refine aB (x := ((g.w, g.ta, ()), true, ())) (AJ _ _ _) ?_
      refine cL (c := [.int .i64 0, .int .i64 0]) hA ok fun x9 ok1 => ?_
      refine j9 0 hA ok1 rfl rfl rfl rfl (av rfl ?_)
      have ok1 : Ok I G (keys ((x9, oc aM [.int .i64 g.w, .int .i64 g.ta]) :: (g.bl q mq e ++ rest))) := ok1
      show wp Tryz.prog _ L (own A ((x9, oc aM [.int .i64 g.w, .int .i64 g.ta]) :: (g.bl q mq e ++ rest)) G) _
      exact ⟨_, kh ok1 ok.nd (fun p hp => List.mem_cons_of_mem _ hp), rfl, rfl⟩
    · rintro u H ⟨rfl, rfl⟩
      exact ⟨_, rfl, h2 hp⟩
def lX (g : Gd) (k : Int) : List Int := bif g.ep then [ewd g.ta k] else [g.ta + 2 * k, g.ta + 2 * k + 1]
set_option maxHeartbeats 1000000 in
theorem II {k : Int} {K : Value → Tree} (b : 0 ≤ g.ta ∧ g.ta ≤ 1000000 ∧ 0 ≤ k ∧ k ≤ 1000) (hA : Aw I A) (ok : Ok I G (keys (g.bl q mq e ++ rest)))
    (h : ∀ (j : SeJ) (z : Bl), Ok I G (keys (g.bl q mq e ++ (Se.bl ⟨lX g k, 0⟩ j ++ (z ++ rest)))) → mSe.rep ⟨lX g k, 0⟩ j → wp Tryz.prog (K (.iface bF (.pointer (some ⟨j.q, 0, none⟩)))) L (own A (g.bl q mq e ++ (Se.bl ⟨lX g k, 0⟩ j ++ (z ++ rest))) G) R) :
    wp Tryz.prog (.call jS [.pointer (some ⟨q, 0, none⟩), .int .i64 k] (.one (.leaf .val)) K) L (own A (g.bl q mq e ++ rest) G) R := by
  refine aR (R0 := fun u H => ∃ (j : SeJ) (z : Bl), u = .iface bF (.pointer (some ⟨j.q, 0, none⟩)) ∧ H = own A (g.bl q mq e ++ (Se.bl ⟨lX g k, 0⟩ j ++ (z ++ rest))) G ∧ Ok I G (keys (g.bl q mq e ++ (Se.bl ⟨lX g k, 0⟩ j ++ (z ++ rest)))) ∧ mSe.rep ⟨lX g k, 0⟩ j) ?_ ?_
  · refine qF fun L => ?_
    unfold m6
    refine aa.2 (aS 0 (x := kD g.ep g.w g.ta) hA ok rfl rfl rfl ?_)
    unfold lX
    cases hp : g.ep with
    | true =>
      refine aB (x := ((g.w, g.ta, ()), true, ())) (AJ _ _ _) ?_
      refine cL (c := [.int .i64 0, .int .i64 0]) hA ok fun x5 ok1 => ?_
      refine j9 0 hA ok1 rfl rfl rfl rfl (av rfl ?_)
      have ok1 : Ok I G (keys ((x5, oc aM [.int .i64 g.w, .int .i64 g.ta]) :: (g.bl q mq e ++ rest))) := ok1
      show wp Tryz.prog _ L (own A ((x5, oc aM [.int .i64 g.w, .int .i64 g.ta]) :: (g.bl q mq e ++ rest)) G) _
      refine fy 0 hA ok1 rfl rfl rfl ?_
      refine zR (tw := g.w) (ta := g.ta) ?_
      refine l6 (c := [.int .i64 (ewd g.ta k)]) hA ok1 fun x23 ok2 => ?_
      refine cL (c := [slV ⟨some ⟨x23, 0, none⟩, 1, 1⟩, .int .i64 0]) hA ok2 fun x25 ok3 => ?_
      obtain ⟨p1, ok4⟩ := aN (A := A) (l' := g.bl q mq e ++ (Se.bl ⟨[ewd g.ta k], 0⟩ ⟨x25, ⟨some ⟨x23, 0, none⟩, 1, 1⟩, [(x23, oc aP [.int .i64 (ewd g.ta k)])]⟩ ++ ([(x5, oc aM [.int .i64 g.w, .int .i64 g.ta])] ++ rest))) ok3 (aT fun c d c0 cd ca => by simp only [Se.bl, cd, ca, c0]; omega)
      rw [p1]
      exact ad ⟨⟨x25, ⟨some ⟨x23, 0, none⟩, 1, 1⟩, [(x23, oc aP [.int .i64 (ewd g.ta k)])]⟩, _, rfl, rfl, ok4, .inr ⟨x23, [], [], 0, rfl, (by show 0 * 1 ≤ 0; decide), List.mem_cons_self⟩⟩
    | false =>
      refine aB (x := ((0, 0, ()), false, ())) (AG _ _ _) ?_
      refine cL (c := [.int .i64 0, .int .i64 0]) hA ok fun x5 ok1 => ?_
      refine j9 0 hA ok1 rfl rfl rfl rfl (af rfl ?_)
      have ok1 : Ok I G (keys ((x5, oc aM [.int .i64 0, .int .i64 0]) :: (g.bl q mq e ++ rest))) := ok1
      show wp Tryz.prog _ L (own A ((x5, oc aM [.int .i64 0, .int .i64 0]) :: (g.bl q mq e ++ rest)) G) _
      refine aa.2 (aS 1 (x := kD g.ep g.w g.ta) hA ok1 rfl rfl rfl ?_)
      rw [hp]
      refine aB (x := (g.w, g.ta, ())) (LO _ _ _) ?_
      refine cL (c := [.int .i64 0, .int .i64 0]) hA ok1 fun x7 ok2 => ?_
      refine j9 0 hA ok2 rfl rfl rfl rfl ?_
      obtain ⟨pre, hpre⟩ : ∃ pre : Bl, pre = (x7, oc br [.int .i64 g.w, .int .i64 g.ta]) :: (x5, oc aM [.int .i64 0, .int .i64 0]) :: (g.bl q mq e ++ rest) := ⟨_, rfl⟩
      have ok3 : Ok I G (keys (pre ++ [])) := by rw [List.append_nil, hpre]; exact ok2
      have es : own A ((x7, oc br [.int .i64 g.w, .int .i64 g.ta]) :: (x5, oc aM [.int .i64 0, .int .i64 0]) :: (g.bl q mq e ++ rest)) G = own A (pre ++ []) G := by rw [List.append_nil, hpre]
      show wp Tryz.prog _ L (own A ((x7, oc br [.int .i64 g.w, .int .i64 g.ta]) :: (x5, oc aM [.int .i64 0, .int .i64 0]) :: (g.bl q mq e ++ rest)) G) _
      rw [es]
      refine I7 (fun s i K => 0 ≤ i ∧ i ≤ 2 ∧ ∃ tl, dH tl aP eI s ([g.ta + 2 * k, g.ta + 2 * k + 1].take i.toNat) ∧ Ok I G (keys (pre ++ tl)) ∧ K = own A (pre ++ tl) G) (fun _ i => (2 - i).toNat) ⟨none, 0, 0⟩ 0 ⟨by omega, by omega, [], .inl ⟨rfl, rfl⟩, ok3, rfl⟩ ?_
      rintro s i K ⟨i0, i1, tl, hs, ok4, rfl⟩
      rw [kI]
      by_cases d : i < 2
      · refine av (decide_eq_true d) ?_
        have hi0 : (pre ++ tl)[0]? = some (x7, oc br [.int .i64 g.w, .int .i64 g.ta]) := by rw [hpre]; rfl
        refine fy 0 hA ok4 rfl hi0 rfl ?_
        refine F9 (tw := g.w) (ta := g.ta) ⟨b.1, b.2.1, b.2.2.1, b.2.2.2, i0, (by show i ≤ 1000; omega)⟩ ?_
        refine JM hA ok4 hs (by rw [List.length_take]; simp; omega) fun s' tl' hs' ok5 _ => ?_
        rw [aE (x := i + 1) (by omega) (by omega)]
        refine cR ⟨s', i + 1, rfl, ⟨by omega, by omega, tl', ?_, ok5, rfl⟩, by omega⟩
        have : i = 0 ∨ i = 1 := by omega
        rcases this with rfl | rfl
        · have e0 : g.ta + 2 * k + 0 = g.ta + 2 * k := Int.add_zero _
          rw [e0] at hs'; exact hs'
        · exact hs'
      · have hi : i = 2 := by omega
        subst hi
        refine af (decide_eq_false d) ?_
        refine cL (c := [slV s, .int .i64 0]) hA ok4 fun x46 ok5 => ?_
        obtain ⟨p1, ok6⟩ := aN (A := A) (l' := g.bl q mq e ++ (Se.bl ⟨[g.ta + 2 * k, g.ta + 2 * k + 1], 0⟩ ⟨x46, s, tl⟩ ++ ([(x7, oc br [.int .i64 g.w, .int .i64 g.ta]), (x5, oc aM [.int .i64 0, .int .i64 0])] ++ rest))) ok5 (aT fun c d c0 cd ca => by rw [hpre]; simp only [Se.bl, cd, ca, c0]; omega)
        rw [p1]
        exact ad ⟨⟨x46, s, tl⟩, _, rfl, rfl, ok6, (by
          have hs : dH tl aP eI s [g.ta + 2 * k, g.ta + 2 * k + 1] := hs
          show ir tl aP eI s [g.ta + 2 * k, g.ta + 2 * k + 1]
          rcases hs with h | ⟨b, rest, r, rfl, h2, h3⟩
          · exact .inl h
          · exact .inr ⟨b, [], rest, r, rfl, by omega, h3⟩)⟩
  · rintro u H ⟨j, z, rfl, rfl, o, rp⟩
    exact ⟨_, rfl, h j z o rp⟩
end
theorem Ic {xs : List (Int × Int)} {n : Nat} (h : n < xs.length) : (xs.map Prod.fst).take (n + 1) = (xs.map Prod.fst).take n ++ [(xs.getD n (0, 0)).1] := by
  rw [List.take_succ_eq_append_getElem (by simpa using h)]
  simp [List.getD, List.getElem?_eq_getElem h]
section
variable {L : aZ} {R : Value → Heap → Prop} {G : Heap} {l rest : Bl} {A : Ar} {I : List Nat}
theorem Ha {s : Sl} {xs : List (Int × Int)} {K : Sl → Tree} (hA : Aw I A) (ok : Ok I G (keys l)) (hs : dH l aG eL s xs) (hm : xs.length ≤ 1000)
    (h : ∀ s' tl, dH tl aP eI s' (xs.map Prod.fst) → Ok I G (keys (l ++ tl)) → wp Tryz.prog (K s') L (own A (l ++ tl) G) R) :
    wp Tryz.prog (.call mJ [.slice s.a s.len s.cap] (.one (.leaf .slice)) K) L (own A l G) R := by
  refine aR (R0 := fun v H => ∃ s' tl, v = .slice s'.a s'.len s'.cap ∧ H = own A (l ++ tl) G ∧ dH tl aP eI s' (xs.map Prod.fst) ∧ Ok I G (keys (l ++ tl))) ?_ ?_
  · refine uS (p0 := s) fun L => ?_
    unfold tF
    have hl := hs.len
    have es : own A l G = own A (l ++ []) G := by rw [List.append_nil]
    rw [es]
    refine I7 (fun s' i H => 0 ≤ i ∧ i ≤ xs.length ∧ ∃ tl, dH tl aP eI s' ((xs.map Prod.fst).take i.toNat) ∧ Ok I G (keys (l ++ tl)) ∧ H = own A (l ++ tl) G) (fun _ i => (xs.length - i).toNat) ⟨none, 0, 0⟩ 0 ⟨by omega, by omega, [], .inl ⟨rfl, rfl⟩, by rw [List.append_nil]; exact ok, rfl⟩ ?_
    rintro s' i K ⟨i0, i1, tl, hs', ok4, rfl⟩
    rw [nS]
    by_cases d : i < xs.length
    · refine av (decide_eq_true (by show i < ((s.len : Nat) : Int); rw [hl]; exact d)) ?_
      refine Mb hA ok4 (hs.mono fun p hp => List.mem_append_left _ hp) i0 d ?_
      refine cL (c := [.int .i64 0, .int .i64 0]) hA ok4 fun x5 ok5 => ?_
      refine j9 0 hA ok5 rfl rfl rfl rfl ?_
      obtain ⟨y, hy⟩ : ∃ y : Nat × Obj, y = (x5, oc aG [.int .i64 (xs.getD i.toNat (0, 0)).1, .int .i64 (xs.getD i.toNat (0, 0)).2]) := ⟨_, rfl⟩
      have ok5 : Ok I G (keys ((y :: l) ++ tl)) := by rw [hy]; exact ok5
      have ee : ((x5, oc aG [.int .i64 (xs.getD i.toNat (0, 0)).1, .int .i64 (xs.getD i.toNat (0, 0)).2]) :: l) ++ tl = (y :: l) ++ tl := by rw [hy]
      show wp Tryz.prog _ _ (own A (((x5, oc aG [.int .i64 (xs.getD i.toNat (0, 0)).1, .int .i64 (xs.getD i.toNat (0, 0)).2]) :: l) ++ tl) G) _
      rw [ee]
      refine aS 0 (x := (xs.getD i.toNat (0, 0)).1) hA ok5 rfl (by rw [hy]; rfl) rfl ?_
      refine JM hA ok5 hs' (by simp; omega) fun s2 tl2 hs2 ok6 _ => ?_
      obtain ⟨p1, ok7⟩ := aN (A := A) (l' := l ++ (y :: tl2)) ok6 (aT fun c d c0 cd ca => by simp only [List.cons_append, cd, ca]; omega)
      rw [aE (x := i + 1) (by omega) (by omega), p1]
      refine cR ⟨s2, i + 1, rfl, ⟨by omega, by omega, y :: tl2, ?_, ok7, rfl⟩, by omega⟩
      rw [show (i + 1).toNat = i.toNat + 1 by omega, Ic (by omega)]
      exact hs2.mono fun p hp => List.mem_cons_of_mem _ hp
    · have hi : i = xs.length := by omega
      refine af (decide_eq_false (by show ¬ i < ((s.len : Nat) : Int); rw [hl]; exact d)) ?_
      refine ad ⟨s', tl, rfl, rfl, ?_, ok4⟩
      have e1 : (xs.map Prod.fst).take i.toNat = xs.map Prod.fst := List.take_of_length_le (by rw [List.length_map]; omega)
      rw [e1] at hs'; exact hs'
  · rintro v H ⟨s', tl, rfl, rfl, a, b⟩
    exact ⟨_, rfl, h s' tl a b⟩
end
inductive In where
  | no
  | tn (m : Tn)
  | sc (m : Sc)
def In.bl : In → TnJ → ScJ → Bl
  | .no, _, _ => []
  | .tn m, t, _ => m.bl t
  | .sc m, _, s => m.bl s
def In.val : In → TnJ → ScJ → Value
  | .no, _, _ => .nilIface
  | .tn m, t, _ => .iface bH (.pointer (some ⟨t.q, 0, none⟩))
  | .sc m, _, s => .iface bC (.pointer (some ⟨s.q, 0, none⟩))
def In.rep : In → TnJ → ScJ → Prop
  | .no, _, _ => True
  | .tn m, t, _ => m.rep t
  | .sc m, _, s => m.rep s
structure Lk where
  g : Gd
  ls : Int → List (Int × Int)
  work : Int
  first : Bool
  times : Int
  m : In
structure LkJ where
  q : Nat
  gq : Nat
  mq : Nat
  e : List LE
  tj : TnJ
  sj : ScJ
  gar : Bl
def lkC (gq : Nat) (work : Int) (first : Bool) (times : Int) (v : Value) : List Value := [.pointer (some ⟨gq, 0, none⟩), .int .i64 work, .bool first, .int .i64 times, v]
def Lk.bl (x : Lk) (j : LkJ) : Bl := (j.q, oc aH (lkC j.gq x.work x.first x.times (x.m.val j.tj j.sj))) :: (x.g.bl j.gq j.mq j.e ++ (x.m.bl j.tj j.sj ++ j.gar))
structure Lk.rep (x : Lk) (j : LkJ) : Prop where
  le : Gz j.e
  ls : ∀ k, (leGet j.e k).xs = x.ls k
  m : x.m.rep j.tj j.sj
def Lk.begin (x : Lk) : Lk := { x with times := w64 (x.times - 1), m := if x.g.ep = true then .tn (g8 x.g.w x.g.ta x.g.pl x.work (x.ls x.work)) else .sc (ky x.g.w x.g.ta x.g.pl x.work ((x.ls x.work).map Prod.fst)) }
theorem BK : ∀ {e : List LE} {k : Int} {p : Nat × Obj}, p ∈ (leGet e k).hb → p ∈ leB e
  | [], k, p, h => by cases h
  | x :: e, k, p, h => by
    show p ∈ x.hb ++ leB e
    unfold leGet at h
    split at h
    · exact List.mem_append_left _ h
    · exact List.mem_append_right _ (BK h)
section
variable {L : aZ} {R : Value → Heap → Prop} {G : Heap} {l rest : Bl} {A : Ar} {I : List Nat}
theorem GJ {e : List LE} {k : Int} {mq : Nat} {K : Sl → Tree} (ix : Nat) (hA : Aw I A) (ok : Ok I G (keys l)) (hi : l[ix]? = some (mq, bJ slV (leC e)))
    (h : wp Tryz.prog (K (leGet e k).s) L (own A l G) R) :
    wp Tryz.prog (.look (opS Tryz.prog (.lookup bq (.tmp 0) (.tmp 1) false) aQ [(.map (some mq)), (.int .i64 k)]) (.one (.leaf .slice)) K) L (own A l G) R :=
  CQ ix (enc := slV) (c := leC e) (y := (leGet e k).s) hA ok hi rfl rfl rfl rfl (by have h := Ca e k; revert h; cases alGet (leC e) k <;> exact fun h => h) h
end
section
variable {L : aZ} {R : Value → Heap → Prop} {G : Heap} {l rest : Bl} {A : Ar} {I : List Nat}
theorem Jq (i : Nat) {a : Addr} {b n m : Nat} {T : TypeId} {c : List Value} {v : Value} {t : Tree} (hA : Aw I A) (ok : Ok I G (keys l)) (ha : a = ⟨b, n, none⟩) (hi : l[i]? = some (b, oc T c)) (hn : n + m ≤ c.length) (hv : v = .agg (c.toArray.extract n (n + m))) (h : wp Tryz.prog t L (own A l G) R) :
    wp Tryz.prog (.check (ldAS a m 0 #[]) v t) L (own A l G) R := by
  subst ha; subst hv
  refine ⟨?_, h⟩
  rw [zD]
  refine iX (k6 hA ok hi) _ 0 #[] (by simpa using hn) ?_
  show (Value.agg (#[] ++ c.toArray.extract (n + 0) (n + 0 + m)) : Value) = _
  simp
def LkB (x : Lk) (j : LkJ) (Q : Lk) (A : Ar) (I : List Nat) (G : Heap) : Value → Heap → Prop := fun v K => ∃ j' : LkJ, v = .tuple #[] ∧ K = own A (Q.bl j') G ∧ j'.q = j.q ∧ j'.gq = j.gq ∧ j'.mq = j.mq ∧ Ok I G (keys (Q.bl j')) ∧ Q.rep j'
set_option maxHeartbeats 1000000 in
theorem Ao (x : Lk) (j : LkJ) (hA : Aw I A) (ok : Ok I G (keys (x.bl j))) (rp : x.rep j) (hn : x.m = .no) (hl : (x.ls x.work).length ≤ 1000) :
    cB Tryz.prog fg #[.pointer (some ⟨j.q, 0, none⟩)] (own A (x.bl j) G) (LkB x j x.begin A I G) := by
  refine rA fun L => ?_
  unfold n5
  obtain ⟨g, ls, work, first, times, m⟩ := x
  have hn : m = .no := hn
  subst hn
  obtain ⟨q, gq, mq, e, tj, sj, gar⟩ := j
  have hl : (ls work).length ≤ 1000 := hl
  have ok : Ok I G (keys ((q, oc aH (lkC gq work first times .nilIface)) :: (gq, oc aU (g.cells mq)) :: (mq, bJ slV (leC e)) :: (leB e ++ gar))) := ok
  show wp Tryz.prog _ L (own A ((q, oc aH (lkC gq work first times .nilIface)) :: (gq, oc aU (g.cells mq)) :: (mq, bJ slV (leC e)) :: (leB e ++ gar)) G) _
  have hs0 : dH (leGet e work).hb aG eL (leGet e work).s (leGet e work).xs := rp.le work
  rw [rp.ls work] at hs0
  have hs0 : dH (leGet e work).hb aG eL (leGet e work).s (ls work) := hs0
  refine aa.2 (aS 0 (x := some ⟨gq, 0, none⟩) hA ok rfl rfl rfl ?_)
  refine aa.2 (aS 1 (x := kD g.ep g.w g.ta) hA ok rfl rfl rfl ?_)
  cases hp : g.ep with
  | true =>
    have hb : Lk.begin ⟨g, ls, work, first, times, .no⟩ = ⟨g, ls, work, first, w64 (times - 1), .tn (g8 g.w g.ta g.pl work (ls work))⟩ := by unfold Lk.begin; rw [if_pos hp]
    rw [hb]
    refine aB (x := ((g.w, g.ta, ()), true, ())) (AJ _ _ _) (av rfl ?_)
    refine cL (c := [.int .i64 0, .int .i64 0]) hA ok fun x2 ok1 => ?_
    refine j9 0 hA ok1 rfl rfl rfl rfl ?_
    have ok1 : Ok I G (keys ((x2, oc aM [.int .i64 g.w, .int .i64 g.ta]) :: (q, oc aH (lkC gq work first times .nilIface)) :: (gq, oc aU (g.cells mq)) :: (mq, bJ slV (leC e)) :: (leB e ++ gar))) := ok1
    show wp Tryz.prog _ L (own A ((x2, oc aM [.int .i64 g.w, .int .i64 g.ta]) :: (q, oc aH (lkC gq work first times .nilIface)) :: (gq, oc aU (g.cells mq)) :: (mq, bJ slV (leC e)) :: (leB e ++ gar)) G) _
    refine fy 0 hA ok1 rfl rfl rfl ?_
    refine aa.2 (aS 1 (x := some ⟨gq, 0, none⟩) hA ok1 rfl rfl rfl ?_)
    refine aa.2 (fy 2 hA ok1 rfl rfl rfl ?_)
    refine aa.2 (aS 1 (x := work) hA ok1 rfl rfl rfl ?_)
    refine aa.2 (aS 1 (x := some ⟨gq, 0, none⟩) hA ok1 rfl rfl rfl ?_)
    refine aa.2 (aS 2 (x := some mq) hA ok1 rfl rfl rfl ?_)
    refine aa.2 (aS 1 (x := work) hA ok1 rfl rfl rfl ?_)
    refine GJ 3 hA ok1 rfl ?_
    refine Hq (tw := g.w) (ta := g.ta) (p := g.pl) (work := work) (xs := ls work) hA ok1 (hs0.mono fun p hp => List.mem_cons_of_mem _ (List.mem_cons_of_mem _ (List.mem_cons_of_mem _ (List.mem_cons_of_mem _ (List.mem_append_left _ (BK hp)))))) hl fun t ok2 rt => ?_
    obtain ⟨p1, ok3⟩ := aN (A := A) (l' := (q, oc aH (lkC gq work first times .nilIface)) :: (gq, oc aU (g.cells mq)) :: (mq, bJ slV (leC e)) :: (leB e ++ ((g8 g.w g.ta g.pl work (ls work)).bl t ++ ((x2, oc aM [.int .i64 g.w, .int .i64 g.ta]) :: gar)))) ok2 (aT fun c d c0 cd ca => by simp only [cd, ca]; omega)
    rw [p1]
    refine aa.2 (cA 0 hA ok3 rfl rfl rfl rfl ?_)
    refine aa.2 (aS 0 (x := times) hA (by exact ok3) rfl rfl rfl ?_)
    refine aa.2 (cA 0 hA (by exact ok3) rfl rfl rfl rfl ?_)
    exact ad ⟨⟨q, gq, mq, e, t, sj, (x2, oc aM [.int .i64 g.w, .int .i64 g.ta]) :: gar⟩, rfl, rfl, rfl, rfl, rfl, ok3, ⟨rp.le, rp.ls, rt⟩⟩
  | false =>
    have hb : Lk.begin ⟨g, ls, work, first, times, .no⟩ = ⟨g, ls, work, first, w64 (times - 1), .sc (ky g.w g.ta g.pl work ((ls work).map Prod.fst))⟩ := by unfold Lk.begin; rw [if_neg (by rw [hp]; decide)]
    rw [hb]
    refine aB (x := ((0, 0, ()), false, ())) (AG _ _ _) (af rfl ?_)
    refine aB (x := ((g.w, g.ta, ()), true, ())) (M6 _ _ _) (av rfl ?_)
    refine cL (c := [.int .i64 0, .int .i64 0]) hA ok fun x2 ok1 => ?_
    refine j9 0 hA ok1 rfl rfl rfl rfl ?_
    have ok1 : Ok I G (keys ((x2, oc br [.int .i64 g.w, .int .i64 g.ta]) :: (q, oc aH (lkC gq work first times .nilIface)) :: (gq, oc aU (g.cells mq)) :: (mq, bJ slV (leC e)) :: (leB e ++ gar))) := ok1
    show wp Tryz.prog _ L (own A ((x2, oc br [.int .i64 g.w, .int .i64 g.ta]) :: (q, oc aH (lkC gq work first times .nilIface)) :: (gq, oc aU (g.cells mq)) :: (mq, bJ slV (leC e)) :: (leB e ++ gar)) G) _
    refine fy 0 hA ok1 rfl rfl rfl ?_
    refine aa.2 (aS 1 (x := some ⟨gq, 0, none⟩) hA ok1 rfl rfl rfl ?_)
    refine aa.2 (fy 2 hA ok1 rfl rfl rfl ?_)
    refine aa.2 (aS 1 (x := work) hA ok1 rfl rfl rfl ?_)
    refine aa.2 (aS 1 (x := some ⟨gq, 0, none⟩) hA ok1 rfl rfl rfl ?_)
    refine aa.2 (aS 2 (x := some mq) hA ok1 rfl rfl rfl ?_)
    refine aa.2 (aS 1 (x := work) hA ok1 rfl rfl rfl ?_)
    refine GJ 3 hA ok1 rfl ?_
    refine Ha hA ok1 (hs0.mono fun p hp => List.mem_cons_of_mem _ (List.mem_cons_of_mem _ (List.mem_cons_of_mem _ (List.mem_cons_of_mem _ (List.mem_append_left _ (BK hp)))))) hl fun s' tl hs' ok1 => ?_
    refine iC 1 hA ok1 rfl rfl rfl ?_
    refine fS rfl ?_
    refine Jq 2 hA ok1 rfl rfl (by show 1 + 5 ≤ 8; decide) rfl ?_
    refine fS rfl ?_
    refine iC 1 hA ok1 rfl rfl rfl ?_
    refine fS rfl ?_
    refine Jq 0 hA ok1 rfl rfl (by show 0 + 2 ≤ 2; decide) rfl ?_
    refine HC (tw := g.w) (ta := g.ta) (p := g.pl) (work := work) (xs := (ls work).map Prod.fst) hA ok1 (dH.row hA ok1 (hs'.mono fun p hp => List.mem_append_right _ hp)) hs'.len (by rw [List.length_map]; exact hl) fun t ok2 rt => ?_
    obtain ⟨p1, ok3⟩ := aN (A := A) (l' := (q, oc aH (lkC gq work first times .nilIface)) :: (gq, oc aU (g.cells mq)) :: (mq, bJ slV (leC e)) :: (leB e ++ ((ky g.w g.ta g.pl work ((ls work).map Prod.fst)).bl t ++ ((x2, oc br [.int .i64 g.w, .int .i64 g.ta]) :: (tl ++ gar))))) ok2 (aT fun c d c0 cd ca => by simp only [List.cons_append, List.append_assoc, cd, ca]; omega)
    rw [p1]
    refine aa.2 (cA 0 hA ok3 rfl rfl rfl rfl ?_)
    refine aa.2 (aS 0 (x := times) hA (by exact ok3) rfl rfl rfl ?_)
    refine aa.2 (cA 0 hA (by exact ok3) rfl rfl rfl rfl ?_)
    exact ad ⟨⟨q, gq, mq, e, tj, t, (x2, oc br [.int .i64 g.w, .int .i64 g.ta]) :: (tl ++ gar)⟩, rfl, rfl, rfl, rfl, rfl, ok3, ⟨rp.le, rp.ls, rt⟩⟩
end
def kd (f : Int → List (Int × Int)) (k : Int) (xs : List (Int × Int)) : Int → List (Int × Int) := fun i => if i = k then xs else f i
theorem iW (f : Int → List (Int × Int)) (k : Int) (xs : List (Int × Int)) : kd f k xs k = xs := if_pos rfl
def In.gone : In → List (Int × Int)
  | .no => []
  | .tn m => m.left
  | .sc m => m.left.map fun h => (h, 0)
def In.fin : In → Bool
  | .no => false
  | .tn m => decide (4 ≤ m.ph)
  | .sc m => m.ended
def Lk.end_ (x : Lk) : Lk := { x with m := .no, ls := kd x.ls x.work x.m.gone }
theorem Mu (q : Option Addr) (u : TypeId) : opS Tryz.prog (.typeAssert (.tmp 0) aA bH true) u [.iface bH (.pointer q)] = .pure (.value (.tuple #[.pointer q, .bool true])) := by kernel_rfl
theorem MM (q : Option Addr) (u : TypeId) : opS Tryz.prog (.typeAssert (.tmp 0) aA bH true) u [.iface bC (.pointer q)] = .pure (.value (.tuple #[.pointer none, .bool false])) := by kernel_rfl
theorem Nd (q : Option Addr) (u : TypeId) : opS Tryz.prog (.typeAssert (.tmp 0) aA bC true) u [.iface bC (.pointer q)] = .pure (.value (.tuple #[.pointer q, .bool true])) := by kernel_rfl
theorem IS {e : List LE} {ls : Int → List (Int × Int)} (h : ∀ k, (leGet e k).xs = ls k) (y : LE) : ∀ k, (leGet (fY e y) k).xs = kd ls y.k y.xs k := fun k => by
  rw [xU]
  unfold kd
  by_cases c : k = y.k
  · rw [if_pos c, if_pos c]
  · rw [if_neg c, if_neg c]; exact h k
section
variable {L : aZ} {R : Value → Heap → Prop} {G : Heap} {l rest : Bl} {A : Ar} {I : List Nat}
theorem KX {s : Sl} {xs : List (Int × Int)} {v w : Int} {k : Sl → Tree} {pre tl : Bl} (hA : Aw I A) (ok : Ok I G (keys (pre ++ tl))) (hs : dH tl aG eL s xs) (hm : xs.length ≤ 1000000)
    (h : ∀ s' tl', dH tl' aG eL s' (xs ++ [(v, w)]) → Ok I G (keys (pre ++ tl')) → wp Tryz.prog (k s') L (own A (pre ++ tl') G) R) :
    wp Tryz.prog (.qB (.cells #[.int .i64 v, .int .i64 w] aG) 1 fun x => .act (opS Tryz.prog (.call { callee := .builtin .append, args := #[(.tmp 0), (.tmp 1)], argTypes := #[aQ, aQ] }) aQ [(.slice s.a s.len s.cap), (.slice x.a x.len x.cap)]) (.one (.leaf .slice)) k) L (own A (pre ++ tl) G) R := by
  refine l6 (c := [.int .i64 v, .int .i64 w]) hA ok fun q ok1 => ?_
  have ok' : Ok I G (keys (((q, oc aG [.int .i64 v, .int .i64 w]) :: pre) ++ tl)) := ok1
  show wp Tryz.prog _ L (own A (((q, oc aG [.int .i64 v, .int .i64 w]) :: pre) ++ tl) G) R
  refine Au (E := eL) elL (ys := [(v, w)]) (t := ⟨some ⟨q, 0, none⟩, 1, 1⟩) hA ok' hs ?_ rfl (by simp; omega) fun s' tl' hs' ok2 ap => ?_
  · exact jz hA ok' List.mem_cons_self 0 rfl
  · obtain ⟨m3, m4⟩ := zA (A := A) ok2
    show wp Tryz.prog _ L (own A ((q, oc aG [.int .i64 v, .int .i64 w]) :: (pre ++ tl')) G) R
    rw [m3]
    exact h s' _ (hs'.mono fun p hp => List.mem_cons_of_mem _ hp) m4
theorem IW {e : List LE} {k : Int} {mq : Nat} {s : Sl} {u : TypeId} {K : Unit → Tree} (ix : Nat) (hA : Aw I A) (ok : Ok I G (keys l)) (hi : l[ix]? = some (mq, bJ slV (leC e)))
    (h : wp Tryz.prog (K ()) L (own A (l.set ix (mq, bJ slV (alPut (leC e) k s))) G) R) :
    wp Tryz.prog (.act (opS Tryz.prog (.mapUpdate bq (.tmp 0) (.tmp 1) (.tmp 2)) u [(.map (some mq)), (.int .i64 k), (.slice s.a s.len s.cap)]) .unit K) L (own A l G) R :=
  CX ix (enc := slV) (c := leC e) (v := s) hA ok hi rfl rfl h
set_option maxHeartbeats 1000000 in
theorem CC {g : Gd} {e : List LE} {ls : Int → List (Int × Int)} {q gq mq : Nat} {work times : Int} {first : Bool} {v : Value} {gar : Bl} {s : Sl} {xs : List (Int × Int)} {tl : Bl} {j : LkJ} {x : Lk} (tj : TnJ) (sj : ScJ) (hx : x.end_ = ⟨g, kd ls work xs, work, first, times, .no⟩) (hj : j.q = q ∧ j.gq = gq ∧ j.mq = mq)
    (le : Gz e) (hls : ∀ k, (leGet e k).xs = ls k) (hs : dH tl aG eL s xs) (hA : Aw I A)
    (ok : Ok I G (keys ((q, oc aH (lkC gq work first times v)) :: (gq, oc aU (g.cells mq)) :: (mq, bJ slV (leC e)) :: (leB e ++ (tl ++ gar))))) :
    wp Tryz.prog (.act (opS Tryz.prog (.mapUpdate bq (.tmp 0) (.tmp 1) (.tmp 2)) aF [(.map (some mq)), (.int .i64 work), (.slice s.a s.len s.cap)]) .unit fun _ =>
    .look (opS Tryz.prog (.nilCheck (.tmp 0)) aF [(.pointer (some ⟨q, 0, none⟩))]) (.one (.leaf .addr)) fun x56 =>
    .st (x56.add 4) .nilIface <|
    .ret (.tuple #[])) L (own A ((q, oc aH (lkC gq work first times v)) :: (gq, oc aU (g.cells mq)) :: (mq, bJ slV (leC e)) :: (leB e ++ (tl ++ gar))) G) (LkB x j x.end_ A I G) := by
  obtain ⟨y, hy⟩ : ∃ y : LE, y = ⟨work, s, xs, tl⟩ := ⟨_, rfl⟩
  have eput : alPut (leC e) work s = leC (fY e y) := by rw [BW, hy]
  refine IW 2 hA ok rfl ?_
  rw [eput]
  have ok1 : Ok I G (keys ((q, oc aH (lkC gq work first times v)) :: (gq, oc aU (g.cells mq)) :: (mq, bJ slV (leC (fY e y))) :: (leB e ++ (tl ++ gar)))) := ok
  show wp Tryz.prog _ L (own A ((q, oc aH (lkC gq work first times v)) :: (gq, oc aU (g.cells mq)) :: (mq, bJ slV (leC (fY e y))) :: (leB e ++ (tl ++ gar))) G) _
  refine aa.2 (cA 0 hA ok1 rfl rfl rfl rfl ?_)
  have ok2 : Ok I G (keys ((q, oc aH (lkC gq work first times .nilIface)) :: (gq, oc aU (g.cells mq)) :: (mq, bJ slV (leC (fY e y))) :: (leB e ++ (tl ++ gar)))) := ok1
  show wp Tryz.prog _ L (own A ((q, oc aH (lkC gq work first times .nilIface)) :: (gq, oc aU (g.cells mq)) :: (mq, bJ slV (leC (fY e y))) :: (leB e ++ (tl ++ gar))) G) _
  obtain ⟨p1, ok3⟩ := aN (A := A) (l' := (q, oc aH (lkC gq work first times .nilIface)) :: (gq, oc aU (g.cells mq)) :: (mq, bJ slV (leC (fY e y))) :: (leB (fY e y) ++ ((leGet e work).hb ++ gar))) ok2 (aT fun c d c0 cd ca => by
    have h1 := FE c0 ca e work
    have h2 := vw c0 ca e y
    have h3 : c y.hb = c tl := by rw [hy]
    have h4 : c (kl e y.k) = c (kl e work) := by rw [hy]
    simp only [cd, ca]; omega)
  rw [p1, hx]
  obtain ⟨j1, j2, j3⟩ := hj
  refine ad ⟨⟨q, gq, mq, fY e y, tj, sj, (leGet e work).hb ++ gar⟩, rfl, rfl, j1.symm, j2.symm, j3.symm, ok3, ⟨le.put (by rw [hy]; exact hs), ?_, trivial⟩⟩
  have := IS hls y
  rw [hy] at this ⊢
  exact this
set_option maxHeartbeats 1000000 in
theorem Jk (x : Lk) (j : LkJ) (hA : Aw I A) (ok : Ok I G (keys (x.bl j))) (rp : x.rep j) (hf : x.m.fin = true) (hl : x.m.gone.length ≤ 1000) :
    cB Tryz.prog fJ #[.pointer (some ⟨j.q, 0, none⟩)] (own A (x.bl j) G) (LkB x j x.end_ A I G) := by
  refine tU fun L => ?_
  unfold sd
  obtain ⟨g, ls, work, first, times, m⟩ := x
  obtain ⟨q, gq, mq, e, tj, sj, gar⟩ := j
  cases m with
  | no => cases hf
  | tn m =>
    have hl : m.left.length ≤ 1000 := hl
    have hm : m.rep tj := rp.m
    have hf : 4 ≤ m.ph := of_decide_eq_true hf
    have ok : Ok I G (keys ((q, oc aH (lkC gq work first times (.iface bH (.pointer (some ⟨tj.q, 0, none⟩))))) :: (gq, oc aU (g.cells mq)) :: (mq, bJ slV (leC e)) :: (leB e ++ (m.bl tj ++ gar)))) := ok
    show wp Tryz.prog _ L (own A ((q, oc aH (lkC gq work first times (.iface bH (.pointer (some ⟨tj.q, 0, none⟩))))) :: (gq, oc aU (g.cells mq)) :: (mq, bJ slV (leC e)) :: (leB e ++ (m.bl tj ++ gar))) G) _
    refine aa.2 (aS 0 (x := .iface bH (.pointer (some ⟨tj.q, 0, none⟩))) hA ok rfl rfl rfl ?_)
    refine aB (x := (some ⟨tj.q, 0, none⟩, true, ())) (Mu _ _) (av rfl ?_)
    refine aa.2 (aS 0 (x := some ⟨gq, 0, none⟩) hA ok rfl rfl rfl ?_)
    refine aa.2 (aS 1 (x := some mq) hA ok rfl rfl rfl ?_)
    refine aa.2 (aS 0 (x := work) hA ok rfl rfl rfl ?_)
    obtain ⟨p1, ok1⟩ := aN (A := A) (l' := m.bl tj ++ ((q, oc aH (lkC gq work first times (.iface bH (.pointer (some ⟨tj.q, 0, none⟩))))) :: (gq, oc aU (g.cells mq)) :: (mq, bJ slV (leC e)) :: (leB e ++ gar))) ok (aT fun c d c0 cd ca => by simp only [cd, ca]; omega)
    rw [p1]
    refine Kx hA ok1 hm hf hl fun s tl hs ok2 => ?_
    obtain ⟨p2, ok3⟩ := aN (A := A) (l' := (q, oc aH (lkC gq work first times (.iface bH (.pointer (some ⟨tj.q, 0, none⟩))))) :: (gq, oc aU (g.cells mq)) :: (mq, bJ slV (leC e)) :: (leB e ++ (tl ++ (m.bl tj ++ gar)))) ok2 (aT fun c d c0 cd ca => by simp only [cd, ca]; omega)
    rw [p2]
    refine iC 0 hA ok3 rfl rfl rfl ?_
    refine fS rfl ?_
    refine iC 1 hA ok3 rfl rfl rfl ?_
    refine fS rfl ?_
    refine iC 0 hA ok3 rfl rfl rfl ?_
    refine fS rfl ?_
    exact CC tj sj rfl ⟨rfl, rfl, rfl⟩ rp.le rp.ls hs hA ok3
  | sc m =>
    have hl : m.left.length ≤ 1000 := by have : (m.left.map fun h => (h, (0 : Int))).length ≤ 1000 := hl; rwa [List.length_map] at this
    have hm : m.rep sj := rp.m
    have hf : m.ended = true := hf
    have ok : Ok I G (keys ((q, oc aH (lkC gq work first times (.iface bC (.pointer (some ⟨sj.q, 0, none⟩))))) :: (gq, oc aU (g.cells mq)) :: (mq, bJ slV (leC e)) :: (leB e ++ (m.bl sj ++ gar)))) := ok
    show wp Tryz.prog _ L (own A ((q, oc aH (lkC gq work first times (.iface bC (.pointer (some ⟨sj.q, 0, none⟩))))) :: (gq, oc aU (g.cells mq)) :: (mq, bJ slV (leC e)) :: (leB e ++ (m.bl sj ++ gar))) G) _
    refine aa.2 (aS 0 (x := .iface bC (.pointer (some ⟨sj.q, 0, none⟩))) hA ok rfl rfl rfl ?_)
    refine aB (x := (none, false, ())) (MM _ _) (af rfl ?_)
    refine aB (x := (some ⟨sj.q, 0, none⟩, true, ())) (Nd _ _) (av rfl ?_)
    obtain ⟨p1, ok1⟩ := aN (A := A) (l' := m.bl sj ++ ((q, oc aH (lkC gq work first times (.iface bC (.pointer (some ⟨sj.q, 0, none⟩))))) :: (gq, oc aU (g.cells mq)) :: (mq, bJ slV (leC e)) :: (leB e ++ gar))) ok (aT fun c d c0 cd ca => by simp only [cd, ca]; omega)
    rw [p1]
    refine Ng hA ok1 hm hf hl fun s tl hs ok2 => ?_
    have hsl := hs.len
    obtain ⟨pre, hpre⟩ : ∃ pre : Bl, pre = (q, oc aH (lkC gq work first times (.iface bC (.pointer (some ⟨sj.q, 0, none⟩))))) :: (gq, oc aU (g.cells mq)) :: (mq, bJ slV (leC e)) :: (leB e ++ (tl ++ (m.bl sj ++ gar))) := ⟨_, rfl⟩
    obtain ⟨p2, ok3⟩ := aN (A := A) (l' := pre ++ []) ok2 (aT fun c d c0 cd ca => by rw [hpre]; simp only [List.append_nil, cd, ca]; omega)
    rw [p2]
    have hspre : dH pre aP eI s m.left := hs.mono fun p hp => by rw [hpre]; exact List.mem_cons_of_mem _ (List.mem_cons_of_mem _ (List.mem_cons_of_mem _ (List.mem_append_right _ (List.mem_append_left _ hp))))
    refine I7 (fun s' i H => 0 ≤ i ∧ i ≤ m.left.length ∧ ∃ tl, dH tl aG eL s' ((m.left.take i.toNat).map fun h => (h, 0)) ∧ Ok I G (keys (pre ++ tl)) ∧ H = own A (pre ++ tl) G) (fun _ i => (m.left.length - i).toNat) ⟨none, 0, 0⟩ 0 ⟨by omega, by omega, [], .inl ⟨rfl, rfl⟩, ok3, rfl⟩ ?_
    rintro s' i K ⟨i0, i1, tl', hs', ok4, rfl⟩
    rw [na]
    by_cases d : i < m.left.length
    · refine av (decide_eq_true (by show i < ((s.len : Nat) : Int); rw [hsl]; exact d)) ?_
      refine rdA hA ok4 (hspre.mono fun p hp => List.mem_append_left _ hp).at' i0 d ?_
      refine KX hA ok4 hs' (by simp; omega) fun s2 tl2 hs2 ok6 => ?_
      rw [aE (x := i + 1) (by omega) (by omega)]
      refine cR ⟨s2, i + 1, rfl, ⟨by omega, by omega, tl2, ?_, ok6, rfl⟩, by omega⟩
      rw [show (i + 1).toNat = i.toNat + 1 by omega]
      have e1 : (m.left.take (i.toNat + 1)).map (fun h => (h, (0 : Int))) = (m.left.take i.toNat).map (fun h => (h, (0 : Int))) ++ [(m.left.getD i.toNat 0, 0)] := by
        have hi : i.toNat < m.left.length := by omega
        rw [List.take_succ_eq_append_getElem hi, List.map_append]
        simp only [List.map_cons, List.map_nil, List.getD, List.getElem?_eq_getElem hi, Option.getD_some]
      rw [e1]; exact hs2
    · refine af (decide_eq_false (by show ¬ i < ((s.len : Nat) : Int); rw [hsl]; exact d)) ?_
      have e1 : m.left.take i.toNat = m.left := List.take_of_length_le (by omega)
      rw [e1] at hs'
      have ok5 := ok4
      rw [hpre] at ok5 ⊢
      obtain ⟨p3, ok6⟩ := aN (A := A) (l' := (q, oc aH (lkC gq work first times (.iface bC (.pointer (some ⟨sj.q, 0, none⟩))))) :: (gq, oc aU (g.cells mq)) :: (mq, bJ slV (leC e)) :: (leB e ++ (tl' ++ (tl ++ (m.bl sj ++ gar))))) ok5 (aT fun c d c0 cd ca => by simp only [List.cons_append, List.append_assoc, cd, ca]; omega)
      rw [p3]
      refine aa.2 (aS 0 (x := some ⟨gq, 0, none⟩) hA ok6 rfl rfl rfl ?_)
      refine aa.2 (aS 1 (x := some mq) hA ok6 rfl rfl rfl ?_)
      refine aa.2 (aS 0 (x := work) hA ok6 rfl rfl rfl ?_)
      exact CC tj sj rfl ⟨rfl, rfl, rfl⟩ rp.le rp.ls hs' hA ok6
end
theorem L6 (t : TypeId) (q : Nat) (u : TypeId) : opS Tryz.prog (.binOp .neq aA (.tmp 0) (.const .nilIface) aA) u [.iface t (.pointer (some ⟨q, 0, none⟩))] = .pure (.value (.bool true)) := by kernel_rfl
theorem M5 (u : TypeId) : opS Tryz.prog (.binOp .neq aA (.tmp 0) (.const .nilIface) aA) u [.nilIface] = .pure (.value (.bool false)) := by kernel_rfl
theorem Ee (u : TypeId) : opS Tryz.prog (.binOp .eql aA (.tmp 0) (.const .nilIface) aA) u [.nilIface] = .pure (.value (.bool true)) := by kernel_rfl
theorem Dk (t : TypeId) (q : Nat) (u : TypeId) : opS Tryz.prog (.binOp .eql aA (.tmp 0) (.const .nilIface) aA) u [.iface t (.pointer (some ⟨q, 0, none⟩))] = .pure (.value (.bool false)) := by kernel_rfl
noncomputable def Ey (q : Nat) : Tree :=
  .look (opS Tryz.prog (.nilCheck (.tmp 0)) aF [(.pointer (some ⟨q, 0, none⟩))]) (.one (.leaf .addr)) fun x78 =>
  .ld (x78.add 4) .val fun x80 =>
  .look (opS Tryz.prog (.binOp .eql aA (.tmp 0) (.const .nilIface) aA) aO [x80]) (.one (.leaf .bool)) fun x81 =>
  bif x81 then (
    .look (opS Tryz.prog (.nilCheck (.tmp 0)) aF [(.pointer (some ⟨q, 0, none⟩))]) (.one (.leaf .addr)) fun x84 =>
    .ld (x84.add 3) (.int .i64) fun x86 =>
    .ret (.bool ((x86 : Int) == 0)))
  else (
    .ret (.bool false))
noncomputable def lkT (q : Nat) (p1 : Option Addr) : Tree :=
  .look (opS Tryz.prog (.nilCheck (.tmp 0)) aF [(.pointer (some ⟨q, 0, none⟩))]) (.one (.leaf .addr)) fun x63 =>
  .ld (x63.add 4) .val fun x65 =>
  .look (opS Tryz.prog (.binOp .neq aA (.tmp 0) (.const .nilIface) aA) aO [x65]) (.one (.leaf .bool)) fun x66 =>
  bif x66 then (
    .look (opS Tryz.prog (.nilCheck (.tmp 0)) aF [(.pointer (some ⟨q, 0, none⟩))]) (.one (.leaf .addr)) fun x69 =>
    .ld (x69.add 4) .val fun x71 =>
    .act (opS Tryz.prog (.call { callee := .invoke (.tmp 0) "Step", args := #[(.tmp 1)], argTypes := #[aK] }) aO [x71, (.pointer p1)]) (.one (.leaf .bool)) fun x73 =>
    bif x73 then (
      .call fJ [(.pointer (some ⟨q, 0, none⟩))] .unit fun _ => Ey q)
    else (Ey q))
  else (Ey q)
def Lk.fin (x : Lk) : Bool := match x.m with
  | .no => x.times == 0
  | _ => false
def Lk.go (x : Lk) : Lk := match x.m with
  | .no => if 0 < x.times then x.begin else x
  | _ => x
def In.step : In → Ar → In × Ar
  | .no, A => (.no, A)
  | .tn m, A => (.tn (m.step A).1, (m.step A).2)
  | .sc m, A => (.sc (m.step A).1, (m.step A).2)
def In.inv : In → Ar → Prop
  | .no, _ => True
  | .tn m, A => m.inv A ∧ m.left.length ≤ 1000
  | .sc m, A => m.inv A ∧ m.left.length ≤ 1000
def cO (xs : List (Int × Int)) (v : Int) : List (Int × Int) := xs.set (xs.length - 1) ((xs.getD (xs.length - 1) (0, 0)).1, v)
def Lk.mid (y : Lk) (A : Ar) : Lk × Ar := (if (y.m.step A).1.fin = true then Lk.end_ { y with m := (y.m.step A).1 } else { y with m := (y.m.step A).1 }, (y.m.step A).2)
def Lk.step (x : Lk) (A : Ar) : Lk × Ar :=
  if x.first = true then ({ x with first := false, ls := kd x.ls x.work (cO (x.ls x.work) (A.ao x.g.ta)) }, A.aV x.g.ta)
  else x.go.mid A
theorem Tn.xM (m : Tn) (A : Ar) (h : m.l.length ≤ 1000) (h2 : m.left.length ≤ 1000) : (m.step A).1.left.length ≤ 1000 := by
  have hs : ∀ m : Tn, m.l.length ≤ 1000 → m.sort.left.length ≤ 1000 := fun m h => by
    show ((m.l.take m.l.length).filter _).length ≤ 1000
    exact Nat.le_trans (List.length_filter_le _ _) (by rw [List.take_length]; exact h)
  unfold Tn.step
  split
  · exact h2
  · split
    · show (if _ then Tn.sort _ else _ : Tn).left.length ≤ 1000
      split
      · exact hs _ h
      · exact h2
    · split
      · show (if _ then Tn.sort _ else _ : Tn).left.length ≤ 1000
        split
        · exact hs _ h
        · exact hs _ h
      · split
        · cases m.frees with
          | nil => exact h2
          | cons f fs => dsimp only; split <;> exact h2
        · exact h2
theorem Sc.xM (m : Sc) (A : Ar) (h : m.l.length ≤ 1000) (h2 : m.left.length ≤ 1000) : (m.step A).1.left.length ≤ 1000 := by
  have hs : ∀ m : Sc, m.l.length ≤ 1000 → m.sort.left.length ≤ 1000 := fun m h => by
    show ((m.l.take m.l.length).filter _).length ≤ 1000
    exact Nat.le_trans (List.length_filter_le _ _) (by rw [List.take_length]; exact h)
  unfold Sc.step
  split
  · exact h2
  · split
    · show (if _ then Sc.sort _ else _ : Sc).left.length ≤ 1000
      split
      · exact hs _ h
      · exact h2
    · cases m.frees with
      | nil => exact h2
      | cons f fs => dsimp only; split <;> exact h2
theorem In.Hd (i : In) (A : Ar) (h : i.inv A) : (i.step A).1.gone.length ≤ 1000 := by
  cases i with
  | no => exact Nat.zero_le _
  | tn m => exact Tn.xM m A h.1.ll h.2
  | sc m =>
    show ((m.step A).1.left.map fun h => (h, (0 : Int))).length ≤ 1000
    rw [List.length_map]; exact Sc.xM m A h.1.ll h.2
section
variable {L : aZ} {R : Value → Heap → Prop} {G : Heap} {l rest : Bl} {A : Ar} {I : List Nat}
def LkP (z : Lk × Ar) (j : LkJ) (I : List Nat) (G : Heap) : Value → Heap → Prop := fun v K => ∃ j' : LkJ, v = .bool z.1.fin ∧ K = own z.2 (z.1.bl j') G ∧ (j'.q = j.q ∧ j'.gq = j.gq ∧ j'.mq = j.mq) ∧ Ok I G (keys (z.1.bl j')) ∧ z.1.rep j' ∧ Aw I z.2
theorem BP {x : Lk} {j j0 : LkJ} (hj : j.q = j0.q ∧ j.gq = j0.gq ∧ j.mq = j0.mq) (hA : Aw I A) (ok : Ok I G (keys (x.bl j))) (rp : x.rep j) : wp Tryz.prog (Ey j.q) L (own A (x.bl j) G) (LkP (x, A) j0 I G) := by
  unfold Ey
  have ok0 := ok
  obtain ⟨g, ls, work, first, times, m⟩ := x
  unfold Lk.bl at ok
  cases m with
  | no =>
    refine aa.2 (aS 0 (x := .nilIface) hA ok rfl rfl rfl ?_)
    refine aB (x := true) (Ee _) (av rfl ?_)
    refine aa.2 (aS 0 (x := times) hA ok rfl rfl rfl ?_)
    exact ad ⟨j, rfl, rfl, hj, ok0, rp, hA⟩
  | tn m =>
    refine aa.2 (aS 0 (x := .iface bH (.pointer (some ⟨j.tj.q, 0, none⟩))) hA ok rfl rfl rfl ?_)
    refine aB (x := false) (Dk _ _ _) (af rfl ?_)
    exact ad ⟨j, rfl, rfl, hj, ok0, rp, hA⟩
  | sc m =>
    refine aa.2 (aS 0 (x := .iface bC (.pointer (some ⟨j.sj.q, 0, none⟩))) hA ok rfl rfl rfl ?_)
    refine aB (x := false) (Dk _ _ _) (af rfl ?_)
    exact ad ⟨j, rfl, rfl, hj, ok0, rp, hA⟩
theorem FQ {x : Lk} {j j0 : LkJ} {b : Bool} (hb : b = x.m.fin) (hj : j.q = j0.q ∧ j.gq = j0.gq ∧ j.mq = j0.mq) (hA : Aw I A) (ok : Ok I G (keys (x.bl j))) (rp : x.rep j) (hl : x.m.gone.length ≤ 1000) :
    wp Tryz.prog (bif b then (.call fJ [(.pointer (some ⟨j.q, 0, none⟩))] .unit fun _ => Ey j.q) else (Ey j.q)) L (own A (x.bl j) G) (LkP (if x.m.fin = true then x.end_ else x, A) j0 I G) := by
  subst hb
  by_cases hf : x.m.fin = true
  · rw [if_pos hf]
    refine av hf ?_
    refine aR (Jk x j hA ok rp hf hl) ?_
    rintro v K ⟨j', rfl, rfl, e1, e2, e3, ok', rp'⟩
    refine ⟨(), rfl, ?_⟩
    rw [← e1]
    exact BP ⟨e1.trans hj.1, e2.trans hj.2.1, e3.trans hj.2.2⟩ hA ok' rp'
  · rw [if_neg hf]
    refine af (by simpa using hf) ?_
    exact BP hj hA ok rp
set_option maxHeartbeats 1000000 in
theorem Cl {x : Lk} {j j0 : LkJ} (hj : j.q = j0.q ∧ j.gq = j0.gq ∧ j.mq = j0.mq) (hA : Aw I A) (ok : Ok I G (keys (x.bl j))) (rp : x.rep j) (hi : x.m.inv A) : wp Tryz.prog (lkT j.q (aI I)) L (own A (x.bl j) G) (LkP (x.mid A) j0 I G) := by
  have hg := x.m.Hd A hi
  unfold lkT Lk.mid
  have ok0 := ok
  obtain ⟨g, ls, work, first, times, m⟩ := x
  obtain ⟨q, gq, mq, e, tj, sj, gar⟩ := j
  cases m with
  | no =>
    unfold Lk.bl at ok
    refine aa.2 (aS 0 (x := .nilIface) hA ok rfl rfl rfl ?_)
    refine aB (x := false) (M5 _) (af rfl ?_)
    exact BP hj hA ok0 rp
  | tn m =>
    have ok : Ok I G (keys ((q, oc aH (lkC gq work first times (.iface bH (.pointer (some ⟨tj.q, 0, none⟩))))) :: (g.bl gq mq e ++ (m.bl tj ++ gar)))) := ok
    show wp Tryz.prog _ L (own A ((q, oc aH (lkC gq work first times (.iface bH (.pointer (some ⟨tj.q, 0, none⟩))))) :: (g.bl gq mq e ++ (m.bl tj ++ gar))) G) _
    refine aa.2 (aS 0 (x := .iface bH (.pointer (some ⟨tj.q, 0, none⟩))) hA ok rfl rfl rfl ?_)
    refine aB (x := true) (L6 _ _ _) (av rfl ?_)
    refine aa.2 (aS 0 (x := .iface bH (.pointer (some ⟨tj.q, 0, none⟩))) hA ok rfl rfl rfl ?_)
    refine bZ (Lt _ _) ?_
    obtain ⟨p1, ok1⟩ := aN (A := A) (l' := m.bl tj ++ ((q, oc aH (lkC gq work first times (.iface bH (.pointer (some ⟨tj.q, 0, none⟩))))) :: (g.bl gq mq e ++ gar))) ok (aT fun c d c0 cd ca => by simp only [cd, ca]; omega)
    rw [p1]
    rw [bP] at ok1
    obtain ⟨o1, o2⟩ := ok1.split
    refine rh (Mr I A _ m tj hA o1 rp.m hi.1) ?_
    rintro v K ⟨tj', rfl, rfl, ea, o3, rt, hA'⟩
    have ea : tj'.q = tj.q := ea
    refine ⟨_, rfl, ?_⟩
    have o4 : Ok I G (keys ((m.step A).1.bl tj' ++ ((q, oc aH (lkC gq work first times (.iface bH (.pointer (some ⟨tj.q, 0, none⟩))))) :: (g.bl gq mq e ++ gar)))) := by rw [bP]; exact o3.join o2
    show wp Tryz.prog _ L (own (m.step A).2 ((m.step A).1.bl tj') (dO _ G)) _
    rw [← dY]
    rw [← ea] at o4 ⊢
    obtain ⟨p2, o5⟩ := aN (A := (m.step A).2) (l' := Lk.bl ⟨g, ls, work, first, times, .tn (m.step A).1⟩ ⟨q, gq, mq, e, tj', sj, gar⟩) o4 (aT fun c d c0 cd ca => by
      show _ = c ((q, oc aH (lkC gq work first times (.iface bH (.pointer (some ⟨tj'.q, 0, none⟩))))) :: (g.bl gq mq e ++ ((m.step A).1.bl tj' ++ gar)))
      simp only [cd, ca]; omega)
    rw [p2]
    exact FQ (x := ⟨g, ls, work, first, times, .tn (m.step A).1⟩) (j := ⟨q, gq, mq, e, tj', sj, gar⟩) rfl hj hA' o5 ⟨rp.le, rp.ls, rt⟩ hg
  | sc m =>
    have ok : Ok I G (keys ((q, oc aH (lkC gq work first times (.iface bC (.pointer (some ⟨sj.q, 0, none⟩))))) :: (g.bl gq mq e ++ (m.bl sj ++ gar)))) := ok
    show wp Tryz.prog _ L (own A ((q, oc aH (lkC gq work first times (.iface bC (.pointer (some ⟨sj.q, 0, none⟩))))) :: (g.bl gq mq e ++ (m.bl sj ++ gar))) G) _
    refine aa.2 (aS 0 (x := .iface bC (.pointer (some ⟨sj.q, 0, none⟩))) hA ok rfl rfl rfl ?_)
    refine aB (x := true) (L6 _ _ _) (av rfl ?_)
    refine aa.2 (aS 0 (x := .iface bC (.pointer (some ⟨sj.q, 0, none⟩))) hA ok rfl rfl rfl ?_)
    refine bZ (KQ _ _) ?_
    obtain ⟨p1, ok1⟩ := aN (A := A) (l' := m.bl sj ++ ((q, oc aH (lkC gq work first times (.iface bC (.pointer (some ⟨sj.q, 0, none⟩))))) :: (g.bl gq mq e ++ gar))) ok (aT fun c d c0 cd ca => by simp only [cd, ca]; omega)
    rw [p1]
    rw [bP] at ok1
    obtain ⟨o1, o2⟩ := ok1.split
    refine rh (Np I A _ m sj hA o1 rp.m hi.1) ?_
    rintro v K ⟨sj', rfl, rfl, ea, o3, rt, hA'⟩
    have ea : sj'.q = sj.q := ea
    refine ⟨_, rfl, ?_⟩
    have o4 : Ok I G (keys ((m.step A).1.bl sj' ++ ((q, oc aH (lkC gq work first times (.iface bC (.pointer (some ⟨sj.q, 0, none⟩))))) :: (g.bl gq mq e ++ gar)))) := by rw [bP]; exact o3.join o2
    show wp Tryz.prog _ L (own (m.step A).2 ((m.step A).1.bl sj') (dO _ G)) _
    rw [← dY]
    rw [← ea] at o4 ⊢
    obtain ⟨p2, o5⟩ := aN (A := (m.step A).2) (l' := Lk.bl ⟨g, ls, work, first, times, .sc (m.step A).1⟩ ⟨q, gq, mq, e, tj, sj', gar⟩) o4 (aT fun c d c0 cd ca => by
      show _ = c ((q, oc aH (lkC gq work first times (.iface bC (.pointer (some ⟨sj'.q, 0, none⟩))))) :: (g.bl gq mq e ++ ((m.step A).1.bl sj' ++ gar)))
      simp only [cd, ca]; omega)
    rw [p2]
    exact FQ (x := ⟨g, ls, work, first, times, .sc (m.step A).1⟩) (j := ⟨q, gq, mq, e, tj, sj', gar⟩) rfl hj hA' o5 ⟨rp.le, rp.ls, rt⟩ hg
end
theorem Ig (rest : List Value) (v : Int) : ∀ (xs : List (Int × Int)) (n : Nat), n < xs.length → (eL.all xs ++ rest).set (n * 2 + 1) (.int .i64 v) = eL.all (xs.set n ((xs.getD n (0, 0)).1, v)) ++ rest
  | [], n, h => by simp at h
  | x :: xs, 0, _ => rfl
  | x :: xs, n + 1, h => by
    have ih := Ig rest v xs n (by simpa using h)
    show (Value.int .i64 x.1 :: .int .i64 x.2 :: (eL.all xs ++ rest)).set ((n + 1) * 2 + 1) _ = .int .i64 x.1 :: .int .i64 x.2 :: (eL.all (xs.set n ((xs.getD n (0, 0)).1, v)) ++ rest)
    rw [← ih, show (n + 1) * 2 + 1 = (n * 2 + 1) + 1 + 1 by omega]
    rfl
theorem CK : ∀ {e : List LE} {y : LE}, (leGet e y.k).xs ≠ [] → y.s = (leGet e y.k).s → leC (fY e y) = leC e
  | [], y, h, _ => (h rfl).elim
  | x :: e, y, h, hs => by
    unfold leGet at h hs
    show leC (if y.k = x.k then y :: e else x :: fY e y) = leC (x :: e)
    by_cases c : y.k = x.k
    · rw [if_pos c] at h hs ⊢
      show (y.k, y.s) :: leC e = (x.k, x.s) :: leC e
      rw [c, hs]
    · rw [if_neg c] at h hs ⊢
      show (x.k, x.s) :: leC (fY e y) = (x.k, x.s) :: leC e
      rw [CK h hs]
structure Lk.inv (x : Lk) (A : Ar) : Prop where
  ll : (x.ls x.work).length ≤ 1000
  fs : x.first = true → x.g.ep = true ∧ x.ls x.work ≠ [] ∧ x.m = .no
  wb : 1 ≤ x.g.w ∧ x.g.w ≤ 1000
  mi : x.m.inv A
theorem HO {x : Lk} {A : Ar} (ll : (x.ls x.work).length ≤ 1000) (wb : 1 ≤ x.g.w ∧ x.g.w ≤ 1000) : x.begin.m.inv A := by
  unfold Lk.begin
  dsimp only
  split
  · exact ⟨⟨ll, fun _ => ⟨rfl, rfl⟩, fun h => by cases h⟩, Nat.zero_le _⟩
  · exact ⟨⟨wb, Int.le_refl 0, by show ((x.ls x.work).map Prod.fst).length ≤ 1000; rw [List.length_map]; exact ll, fun _ => .inl ⟨by show (0 : Int) < 2 * x.g.w; omega, rfl, rfl, rfl⟩⟩, Nat.zero_le _⟩
def mLk (gq mq : Nat) : sB Lk LkJ where
  f := kU
  addr := LkJ.q
  bl := Lk.bl
  rep := fun x j => x.rep j ∧ j.gq = gq ∧ j.mq = mq
  inv := Lk.inv
  step := Lk.step
  fin := Lk.fin
theorem Kl (gq mq : Nat) : (mLk gq mq).vX b9 := fun q p => by
  show opS _ _ _ _ = .pure (.enter kU [.pointer (some ⟨q, 0, none⟩), .pointer p].toArray)
  kernel_rfl
section
variable {L : aZ} {R : Value → Heap → Prop} {G : Heap} {l rest : Bl} {A : Ar} {I : List Nat}
set_option maxHeartbeats 1000000 in
theorem Fs (x : Lk) (j : LkJ) (hA : Aw I A) (ok : Ok I G (keys (x.bl j))) (rp : x.rep j) (hf : x.first = true) (hi : x.inv A) :
    wp Tryz.prog (hG (some ⟨j.q, 0, none⟩) (aI I)) L (own A (x.bl j) G) (LkP (x.step A) j I G) := by
  obtain ⟨h1, h2, h3⟩ := hi.fs hf
  have hlen := hi.ll
  unfold Lk.step
  rw [if_pos hf]
  obtain ⟨g, ls, work, first, times, m⟩ := x
  obtain ⟨q, gq, mq, e, tj, sj, gar⟩ := j
  have h1 : g.ep = true := h1
  have h2 : ls work ≠ [] := h2
  have h3 : m = .no := h3
  have hf : first = true := hf
  have hlen : (ls work).length ≤ 1000 := hlen
  subst h3 hf
  unfold hG
  have ok : Ok I G (keys ((q, oc aH (lkC gq work true times .nilIface)) :: (gq, oc aU (g.cells mq)) :: (mq, bJ slV (leC e)) :: (leB e ++ gar))) := ok
  show wp Tryz.prog _ L (own A ((q, oc aH (lkC gq work true times .nilIface)) :: (gq, oc aU (g.cells mq)) :: (mq, bJ slV (leC e)) :: (leB e ++ gar)) G) _
  refine aa.2 (aS 0 (x := true) hA ok rfl rfl rfl (av rfl ?_))
  refine aa.2 (cA 0 hA ok rfl rfl rfl rfl ?_)
  have ok1 : Ok I G (keys ((q, oc aH (lkC gq work false times .nilIface)) :: (gq, oc aU (g.cells mq)) :: (mq, bJ slV (leC e)) :: (leB e ++ gar))) := ok
  show wp Tryz.prog _ L (own A ((q, oc aH (lkC gq work false times .nilIface)) :: (gq, oc aU (g.cells mq)) :: (mq, bJ slV (leC e)) :: (leB e ++ gar)) G) _
  refine aa.2 (aS 0 (x := some ⟨gq, 0, none⟩) hA ok1 rfl rfl rfl ?_)
  refine aa.2 (aS 1 (x := some mq) hA ok1 rfl rfl rfl ?_)
  refine aa.2 (aS 0 (x := work) hA ok1 rfl rfl rfl ?_)
  refine GJ 2 hA ok1 rfl ?_
  refine aa.2 (aS 0 (x := some ⟨gq, 0, none⟩) hA ok1 rfl rfl rfl ?_)
  refine aa.2 (aS 1 (x := kD g.ep g.w g.ta) hA ok1 rfl rfl rfl ?_)
  rw [h1]
  refine aB (x := (g.w, g.ta, ())) (NK _ _ _) ?_
  refine qZ (tw := g.w) (ta := g.ta) ?_
  refine uA hA fun hA => ?_
  have hs : dH (leGet e work).hb aG eL (leGet e work).s (leGet e work).xs := rp.le work
  have hxs : (leGet e work).xs = ls work := rp.ls work
  rcases hs with ⟨_, h0⟩ | ⟨b, rest, r, hsl, hr, hm⟩
  · exact (h2 (hxs.symm.trans h0)).elim
  · have hpos : 0 < (ls work).length := List.length_pos_iff.2 h2
    rw [hxs] at hsl hm
    obtain ⟨s1, s2, hsp⟩ := List.mem_iff_append.1 hm
    rw [hsl]
    have e64 : w64 ((((ls work).length : Nat) : Int) - 1) = (((ls work).length - 1 : Nat) : Int) := by rw [aE (by omega) (by omega)]; omega
    show wp Tryz.prog (.look (opS Tryz.prog (.indexAddr aQ (.tmp 0) (.tmp 1)) aF [(.slice (some ⟨b, 0, none⟩) (ls work).length ((ls work).length + r)), (.int .i64 (w64 ((((ls work).length : Nat) : Int) - 1)))]) (.one (.leaf .addr)) _) L _ _
    rw [e64]
    refine aB (x := ⟨b, ((ls work).length - 1) * 2, none⟩) ?_ ?_
    · rw [uv (e := aG) rfl rfl (by omega) (by omega), Addr.gF, Nat.zero_add]; rfl
    obtain ⟨y, hy⟩ : ∃ y : LE, y = ⟨work, (leGet e work).s, cO (ls work) (A.ao g.ta), s1 ++ (b, oc aG (eL.all (cO (ls work) (A.ao g.ta)) ++ rest)) :: s2⟩ := ⟨_, rfl⟩
    obtain ⟨p1, ok2⟩ := aN (A := A.aV g.ta) (l' := (b, oc aG (eL.all (ls work) ++ rest)) :: (q, oc aH (lkC gq work false times .nilIface)) :: (gq, oc aU (g.cells mq)) :: (mq, bJ slV (leC e)) :: ((s1 ++ s2) ++ (kl e work ++ gar))) ok1 (aT fun c d c0 cd ca => by
      have h1 := FE c0 ca e work
      have h2 : c (leGet e work).hb = c s1 + c ((b, oc aG (eL.all (ls work) ++ rest)) :: s2) := by rw [hsp, ca]
      simp only [cd, ca] at h2 ⊢; omega)
    rw [p1]
    refine cA 0 hA ok2 rfl rfl rfl (decide_eq_true (by rw [List.length_append, eL.sY]; show ((ls work).length - 1) * 2 + 1 < (ls work).length * 2 + _; omega)) ?_
    have eset : (eL.all (ls work) ++ rest).set (((ls work).length - 1) * 2 + 1) (.int .i64 (A.ao g.ta)) = eL.all (cO (ls work) (A.ao g.ta)) ++ rest := Ig rest _ (ls work) _ (by omega)
    have ok3 : Ok I G (keys ((b, oc aG (eL.all (cO (ls work) (A.ao g.ta)) ++ rest)) :: (q, oc aH (lkC gq work false times .nilIface)) :: (gq, oc aU (g.cells mq)) :: (mq, bJ slV (leC e)) :: ((s1 ++ s2) ++ (kl e work ++ gar)))) := ok2
    show wp Tryz.prog _ L (own (A.aV g.ta) ((b, oc aG ((eL.all (ls work) ++ rest).set (((ls work).length - 1) * 2 + 1) (.int .i64 (A.ao g.ta)))) :: (q, oc aH (lkC gq work false times .nilIface)) :: (gq, oc aU (g.cells mq)) :: (mq, bJ slV (leC e)) :: ((s1 ++ s2) ++ (kl e work ++ gar))) G) _
    rw [eset]
    have hl2 : (cO (ls work) (A.ao g.ta)).length = (ls work).length := by unfold cO; rw [List.length_set]
    have hsY : dH y.hb aG eL y.s y.xs := by
      rw [hy]
      exact .inr ⟨b, rest, r, by rw [hl2]; exact hsl, hr, List.mem_append_right _ List.mem_cons_self⟩
    have hyk : y.k = work := by rw [hy]
    have eC : leC (fY e y) = leC e := CK (by rw [hyk, hxs]; exact h2) (by rw [hyk]; rw [hy])
    obtain ⟨p2, ok4⟩ := aN (A := A.aV g.ta) (l' := (q, oc aH (lkC gq work false times .nilIface)) :: (gq, oc aU (g.cells mq)) :: (mq, bJ slV (leC (fY e y))) :: (leB (fY e y) ++ gar)) ok3 (aT fun c d c0 cd ca => by
      have h1 := vw c0 ca e y
      have h2 : c y.hb = c s1 + c ((b, oc aG (eL.all (cO (ls work) (A.ao g.ta)) ++ rest)) :: s2) := by rw [hy]; exact ca _ _
      rw [eC]
      rw [hyk] at h1
      simp only [cd, ca] at h2 ⊢; omega)
    rw [p2]
    refine aa.2 (aS 0 (x := times) hA ok4 rfl rfl rfl ?_)
    refine ad ⟨⟨q, gq, mq, fY e y, tj, sj, gar⟩, rfl, rfl, ⟨rfl, rfl, rfl⟩, ok4, ⟨rp.le.put hsY, ?_, trivial⟩, hA⟩
    have := IS rp.ls y
    rw [hy] at this ⊢
    exact this
theorem Hc (x : Lk) (j : LkJ) (hA : Aw I A) (ok : Ok I G (keys (x.bl j))) (rp : x.rep j) (hf : x.first = false) (hi : x.inv A) :
    wp Tryz.prog (hG (some ⟨j.q, 0, none⟩) (aI I)) L (own A (x.bl j) G) (LkP (x.step A) j I G) := by
  have hlen := hi.ll
  have hwb := hi.wb
  have hmi := hi.mi
  unfold Lk.step
  rw [if_neg (by rw [hf]; decide)]
  unfold Lk.go hG
  have ok0 := ok
  obtain ⟨g, ls, work, first, times, m⟩ := x
  have hf : first = false := hf
  subst hf
  cases m with
  | no =>
    have bs := Ao ⟨g, ls, work, false, times, .no⟩ j hA ok rp rfl hlen
    unfold Lk.bl at ok
    refine aa.2 (aS 0 (x := false) hA ok rfl rfl rfl (af rfl ?_))
    refine aa.2 (aS 0 (x := .nilIface) hA ok rfl rfl rfl ?_)
    refine aB (x := true) (Ee _) (av rfl ?_)
    refine aa.2 (aS 0 (x := times) hA ok rfl rfl rfl ?_)
    by_cases ht : 0 < times
    · refine av (decide_eq_true ht) ?_
      refine aR bs ?_
      rintro v K ⟨j', rfl, rfl, e1, e2, e3, ok', rp'⟩
      refine ⟨(), rfl, ?_⟩
      show wp Tryz.prog _ L _ (LkP ((if 0 < times then Lk.begin ⟨g, ls, work, false, times, .no⟩ else ⟨g, ls, work, false, times, .no⟩).mid A) j I G)
      rw [if_pos ht, ← e1]
      exact Cl ⟨e1, e2, e3⟩ hA ok' rp' (HO hlen hwb)
    · refine af (decide_eq_false ht) ?_
      show wp Tryz.prog _ L _ (LkP ((if 0 < times then Lk.begin ⟨g, ls, work, false, times, .no⟩ else ⟨g, ls, work, false, times, .no⟩).mid A) j I G)
      rw [if_neg ht]
      exact Cl (x := ⟨g, ls, work, false, times, .no⟩) ⟨rfl, rfl, rfl⟩ hA ok0 rp hmi
  | tn m =>
    unfold Lk.bl at ok
    refine aa.2 (aS 0 (x := false) hA ok rfl rfl rfl (af rfl ?_))
    refine aa.2 (aS 0 (x := .iface bH (.pointer (some ⟨j.tj.q, 0, none⟩))) hA ok rfl rfl rfl ?_)
    refine aB (x := false) (Dk _ _ _) (af rfl ?_)
    exact Cl (x := ⟨g, ls, work, false, times, .tn m⟩) ⟨rfl, rfl, rfl⟩ hA ok0 rp hmi
  | sc m =>
    unfold Lk.bl at ok
    refine aa.2 (aS 0 (x := false) hA ok rfl rfl rfl (af rfl ?_))
    refine aa.2 (aS 0 (x := .iface bC (.pointer (some ⟨j.sj.q, 0, none⟩))) hA ok rfl rfl rfl ?_)
    refine aB (x := false) (Dk _ _ _) (af rfl ?_)
    exact Cl (x := ⟨g, ls, work, false, times, .sc m⟩) ⟨rfl, rfl, rfl⟩ hA ok0 rp hmi
end
theorem Nf (gq mq : Nat) : (mLk gq mq).ok := by
  rintro I A G x j hA ok ⟨rp, e1, e2⟩ hi
  refine sF fun L => ?_
  refine Go.Fw.wp_mono _ (R := LkP (x.step A) j I G) ?_ (fun _ _ _ h => h) ?_
  · by_cases hf : x.first = true
    · exact Fs x j hA ok rp hf hi
    · exact Hc x j hA ok rp (by simpa using hf) hi
  · rintro v K ⟨j', rfl, rfl, ⟨a, b, c⟩, ok', rp', hA'⟩
    exact ⟨j', rfl, rfl, a, ok', ⟨rp', b.trans e1, c.trans e2⟩, hA'⟩
def mx (g : Gd) (ls : Int → List (Int × Int)) (k h : Int) : Lk := ⟨g, kd ls k (ls k ++ [(h, 0)]), k, g.ep, if g.th ≤ ((ls k).length : Int) + 1 then 1 else 0, .no⟩
def kE (g : Gd) (ls : Int → List (Int × Int)) (k h : Int) : Option Lk :=
  if g.ep = true then some (mx g ls k h) else if g.th ≤ ((ls k).length : Int) + 1 then some (mx g ls k h).begin else none
structure GdS (e : List LE) (ls : Int → List (Int × Int)) : Prop where
  le : Gz e
  ls : ∀ k, (leGet e k).xs = ls k
def Md (o : Option Lk) (g : Gd) (ls : Int → List (Int × Int)) (q mq : Nat) (A : Ar) (I : List Nat) (G : Heap) : Value → Heap → Prop := fun v K => match o with
  | none => ∃ e gar, v = .nilIface ∧ K = own A (g.bl q mq e ++ gar) G ∧ Ok I G (keys (g.bl q mq e ++ gar)) ∧ GdS e ls
  | some x => ∃ j : LkJ, v = .iface b9 (.pointer (some ⟨j.q, 0, none⟩)) ∧ K = own A (x.bl j) G ∧ Ok I G (keys (x.bl j)) ∧ (mLk q mq).rep x j
section
variable {L : aZ} {R : Value → Heap → Prop} {G : Heap} {l rest : Bl} {A : Ar} {I : List Nat}
theorem MG {e : List LE} {k : Int} {mq : Nat} {s : Sl} {t : Tree} (ix : Nat) (hA : Aw I A) (ok : Ok I G (keys l)) (hi : l[ix]? = some (mq, bJ slV (leC e))) (hs : s = (leGet e k).s)
    (h : wp Tryz.prog t L (own A l G) R) :
    wp Tryz.prog (.check (opS Tryz.prog (.lookup bq (.tmp 0) (.tmp 1) false) aQ [(.map (some mq)), (.int .i64 k)]) (.slice s.a s.len s.cap) t) L (own A l G) R := by
  subst hs
  refine ⟨?_, h⟩
  have hy : (match alGet (leC e) k with | some v => slV v | none => slV sl0) = slV (leGet e k).s := Ca e k
  have h3 := w8 (P := Tryz.prog) (t := bq) (u := aQ) (kt := aP) (et := aQ) (x := k) (z := slV sl0) (k6 hA ok hi) rfl rfl rfl rfl
  have h4 : ∀ v : Value, v = slV (leGet e k).s → cq Tryz.prog (opS Tryz.prog (.lookup bq (.tmp 0) (.tmp 1) false) aQ [(.map (some mq)), (.int .i64 k)]) (own A l G) (fun n => nextL Tryz.prog n (own A l G) v) → cq Tryz.prog (opS Tryz.prog (.lookup bq (.tmp 0) (.tmp 1) false) aQ [(.map (some mq)), (.int .i64 k)]) (own A l G) (fun n => nextL Tryz.prog n (own A l G) (slV (leGet e k).s)) := fun v hv h => hv ▸ h
  revert hy h3
  cases alGet (leC e) k with
  | some v => exact fun hy h3 => h4 _ hy h3
  | none => exact fun hy h3 => h4 _ hy h3
end
def tj0 : TnJ := ⟨0, sl0, sl0, sl0, [], [], [], []⟩
def sj0 : ScJ := ⟨0, 0, sl0, sl0, sl0, [], [], [], []⟩
section
variable {L : aZ} {R : Value → Heap → Prop} {G : Heap} {l rest : Bl} {A : Ar} {I : List Nat}
theorem GdS.put {e : List LE} {ls : Int → List (Int × Int)} (gs : GdS e ls) {y : LE} (hy : dH y.hb aG eL y.s y.xs) : GdS (fY e y) (kd ls y.k y.xs) := ⟨gs.le.put hy, IS gs.ls y⟩
set_option maxHeartbeats 2000000 in
theorem Du {g : Gd} {e : List LE} {ls : Int → List (Int × Int)} {q mq : Nat} {k h : Int} (hA : Aw I A) (ok : Ok I G (keys (g.bl q mq e))) (gs : GdS e ls) (hl : (ls k).length < 1000) :
    cB Tryz.prog fP #[.pointer (some ⟨q, 0, none⟩), .pointer (aI I), .int .i64 k, .int .i64 h] (own A (g.bl q mq e) G) (Md (kE g ls k h) g (kd ls k (ls k ++ [(h, 0)])) q mq (A.aW h) I G) := by
  refine pq fun L => ?_
  unfold ml
  have hs0 : dH (leGet e k).hb aG eL (leGet e k).s (leGet e k).xs := gs.le k
  rw [gs.ls k] at hs0
  refine Dd hA fun hA => ?_
  refine aa.2 (aS 0 (x := some mq) hA ok rfl rfl rfl ?_)
  refine aa.2 (aS 0 (x := some mq) hA ok rfl rfl rfl ?_)
  refine GJ 1 hA ok rfl ?_
  refine l6 (c := [.int .i64 h, .int .i64 0]) hA ok fun z ok1 => ?_
  refine MG 2 hA ok1 rfl rfl ?_
  refine iC 1 hA ok1 rfl rfl rfl ?_
  refine fS rfl ?_
  refine iC 1 hA ok1 rfl rfl rfl ?_
  refine fS rfl ?_
  obtain ⟨p1, ok2⟩ := aN (A := A.aW h) (l' := ((z, oc aG [.int .i64 h, .int .i64 0]) :: (q, oc aU (g.cells mq)) :: (mq, bJ slV (leC e)) :: kl e k) ++ (leGet e k).hb) ok1 (aT fun c d c0 cd ca => by
    have h1 := FE c0 ca e k
    simp only [Gd.bl, List.cons_append, cd, ca]; omega)
  rw [p1]
  refine Au (E := eL) elL (ys := [(h, 0)]) (t := ⟨some ⟨z, 0, none⟩, 1, 1⟩) hA ok2 hs0 ?_ rfl (by simp; omega) fun s' tl' hs' ok3 ap => ?_
  · exact jz hA ok2 (List.mem_append_left _ List.mem_cons_self) 0 rfl
  refine iC 1 hA ok3 rfl rfl rfl ?_
  refine fS rfl ?_
  obtain ⟨y, hy⟩ : ∃ y : LE, y = ⟨k, s', ls k ++ [(h, 0)], tl'⟩ := ⟨_, rfl⟩
  have eput : alPut (leC e) k s' = leC (fY e y) := by rw [BW, hy]
  refine IW 2 hA ok3 rfl ?_
  rw [eput]
  have gs' : GdS (fY e y) (kd ls k (ls k ++ [(h, 0)])) := by
    have := gs.put (y := y) (by rw [hy]; exact hs')
    rw [hy] at this ⊢; exact this
  have ok4 : Ok I G (keys (((z, oc aG [.int .i64 h, .int .i64 0]) :: (q, oc aU (g.cells mq)) :: (mq, bJ slV (leC (fY e y))) :: kl e k) ++ tl')) := ok3
  show wp Tryz.prog _ L (own (A.aW h) (((z, oc aG [.int .i64 h, .int .i64 0]) :: (q, oc aU (g.cells mq)) :: (mq, bJ slV (leC (fY e y))) :: kl e k) ++ tl') G) _
  obtain ⟨p2, ok5⟩ := aN (A := A.aW h) (l' := g.bl q mq (fY e y) ++ [(z, oc aG [.int .i64 h, .int .i64 0])]) ok4 (aT fun c d c0 cd ca => by
    have h1 := vw c0 ca e y
    have h3 : c y.hb = c tl' := by rw [hy]
    have h4 : c (kl e y.k) = c (kl e k) := by rw [hy]
    simp only [Gd.bl, List.cons_append, cd, ca, c0]; omega)
  rw [p2]
  obtain ⟨c1, hc1⟩ : ∃ c1 : Nat × Obj, c1 = (z, oc aG [.int .i64 h, .int .i64 0]) := ⟨_, rfl⟩
  rw [← hc1] at ok5 ⊢
  generalize fY e y = e1 at *
  clear p1 p2 hc1 ok4 ok3 ok2 ok1 hs0 hs' eput hy
  have hsl : (leGet e1 k).s.len = (ls k).length + 1 := by rw [(gs'.le k).len, gs'.ls k, iW, List.length_append]; rfl
  refine aa.2 (aS 0 (x := kD g.ep g.w g.ta) hA ok5 rfl rfl rfl ?_)
  have hret : ∀ (L : aZ) (t : Int) (x42 : Nat) (c2 : Nat × Obj) (E : Bool), (if g.th ≤ ((ls k).length : Int) + 1 then (1 : Int) else 0) = t → g.ep = E → Ok I G (keys ((x42, oc aH (lkC q k E t .nilIface)) :: c2 :: (g.bl q mq e1 ++ [c1]))) →
      own (A.aW h) ((x42, oc aH (lkC q k E t .nilIface)) :: c2 :: (g.bl q mq e1 ++ [c1])) G = own (A.aW h) ((mx g ls k h).bl ⟨x42, q, mq, e1, tj0, sj0, [c2, c1]⟩) G ∧ Ok I G (keys ((mx g ls k h).bl ⟨x42, q, mq, e1, tj0, sj0, [c2, c1]⟩)) := fun L t x42 c2 E ht hE ok => by
    subst ht hE
    exact aN (A := A.aW h) ok (aT fun c d c0 cd ca => by
      show _ = c ((x42, oc aH (lkC q k g.ep (if g.th ≤ ((ls k).length : Int) + 1 then (1 : Int) else 0) .nilIface)) :: (g.bl q mq e1 ++ ([] ++ [c2, c1])))
      simp only [cd, ca, c0]; omega)
  have rpR : ∀ (x42 : Nat) (c2 : Nat × Obj), (mx g ls k h).rep ⟨x42, q, mq, e1, tj0, sj0, [c2, c1]⟩ := fun x42 c2 => ⟨gs'.le, gs'.ls, trivial⟩
  unfold kE
  cases hp : g.ep with
  | true =>
    rw [if_pos rfl]
    refine aB (x := ((g.w, g.ta, ()), true, ())) (AJ _ _ _) ?_
    refine cL (c := [.int .i64 0, .int .i64 0]) hA ok5 fun x9 ok6 => ?_
    refine j9 0 hA ok6 rfl rfl rfl rfl ?_
    refine cL (c := [.pointer (some ⟨q, 0, none⟩), .int .i64 k, .bool true, .int .i64 0, .nilIface]) hA (by exact ok6) fun x42 ok7 => ?_
    refine aa.2 (aS 2 (x := some mq) hA (by exact ok7) rfl rfl rfl ?_)
    refine GJ (e := e1) 3 hA (by exact ok7) rfl ?_
    refine aa.2 (aS 2 (x := g.th) hA (by exact ok7) rfl rfl rfl ?_)
    by_cases ht : g.th ≤ ((ls k).length : Int) + 1
    · refine av (decide_eq_true (by show g.th ≤ (((leGet e1 k).s.len : Nat) : Int); rw [hsl]; omega)) ?_
      refine aa.2 (cA 0 hA (by exact ok7) rfl rfl rfl rfl ?_)
      refine af rfl (af rfl ?_)
      obtain ⟨p3, ok8⟩ := hret L 1 x42 _ true (if_pos ht) hp ok7
      exact ad ⟨_, rfl, p3, ok8, rpR x42 _, rfl, rfl⟩
    · refine af (decide_eq_false (by show ¬ g.th ≤ (((leGet e1 k).s.len : Nat) : Int); rw [hsl]; omega)) ?_
      refine af rfl (af rfl ?_)
      obtain ⟨p3, ok8⟩ := hret L 0 x42 _ true (if_neg ht) hp ok7
      exact ad ⟨_, rfl, p3, ok8, rpR x42 _, rfl, rfl⟩
  | false =>
    rw [if_neg (by decide)]
    refine aB (x := ((0, 0, ()), false, ())) (AG _ _ _) ?_
    refine cL (c := [.int .i64 0, .int .i64 0]) hA ok5 fun x9 ok6 => ?_
    refine j9 0 hA ok6 rfl rfl rfl rfl ?_
    refine cL (c := [.pointer (some ⟨q, 0, none⟩), .int .i64 k, .bool false, .int .i64 0, .nilIface]) hA (by exact ok6) fun x42 ok7 => ?_
    refine aa.2 (aS 2 (x := some mq) hA (by exact ok7) rfl rfl rfl ?_)
    refine GJ (e := e1) 3 hA (by exact ok7) rfl ?_
    refine aa.2 (aS 2 (x := g.th) hA (by exact ok7) rfl rfl rfl ?_)
    by_cases ht : g.th ≤ ((ls k).length : Int) + 1
    · rw [if_pos ht]
      refine av (decide_eq_true (by show g.th ≤ (((leGet e1 k).s.len : Nat) : Int); rw [hsl]; omega)) ?_
      refine aa.2 (cA 0 hA (by exact ok7) rfl rfl rfl rfl ?_)
      refine av rfl ?_
      refine aa.2 (aS 0 (x := 1) hA (by exact ok7) rfl rfl rfl ?_)
      refine af rfl (av rfl ?_)
      obtain ⟨p3, ok8⟩ := hret L 1 x42 _ false (if_pos ht) hp ok7
      refine aR (p3 ▸ Ao (mx g ls k h) ⟨x42, q, mq, e1, tj0, sj0, [_, c1]⟩ hA ok8 (rpR x42 _) rfl (by show (kd ls k (ls k ++ [(h, 0)]) k).length ≤ 1000; rw [iW, List.length_append]; show (ls k).length + 1 ≤ 1000; omega)) ?_
      rintro v K ⟨j', rfl, rfl, e1, e2, e3, ok', rp'⟩
      refine ⟨(), rfl, ad ⟨j', ?_, rfl, ok', rp', e2, e3⟩⟩
      have e1 : j'.q = x42 := e1
      rw [e1]
    · rw [if_neg ht]
      refine af (decide_eq_false (by show ¬ g.th ≤ (((leGet e1 k).s.len : Nat) : Int); rw [hsl]; omega)) ?_
      refine av rfl ?_
      refine aa.2 (aS 0 (x := 0) hA (by exact ok7) rfl rfl rfl ?_)
      refine av rfl ?_
      obtain ⟨c3, hc3⟩ : ∃ c3 : Nat × Obj, c3 = (x42, oc aH (lkC q k false 0 .nilIface)) := ⟨_, rfl⟩
      obtain ⟨c2, hc2⟩ : ∃ c2 : Nat × Obj, c2 = (x9, oc aM [.int .i64 0, .int .i64 0]) := ⟨_, rfl⟩
      have ok7 : Ok I G (keys ((x42, oc aH (lkC q k false 0 .nilIface)) :: (x9, oc aM [.int .i64 0, .int .i64 0]) :: (g.bl q mq e1 ++ [c1]))) := ok7
      show wp Tryz.prog _ L (own (A.aW h) ((x42, oc aH (lkC q k false 0 .nilIface)) :: (x9, oc aM [.int .i64 0, .int .i64 0]) :: (g.bl q mq e1 ++ [c1])) G) _
      rw [← hc3, ← hc2] at ok7 ⊢
      obtain ⟨p4, ok8⟩ := aN (A := A.aW h) (l' := g.bl q mq e1 ++ [c3, c2, c1]) ok7 (aT fun c d c0 cd ca => by simp only [cd, ca, c0]; omega)
      rw [p4]
      exact ad ⟨e1, [c3, c2, c1], rfl, rfl, ok8, gs'⟩
end
def szs : List Int → Int
  | [] => 0
  | h :: t => au (opC h) + szs t
theorem jx (h : Int) : 8 ≤ au (opC h) ∧ au (opC h) ≤ 64 ∧ au (opC h) % 8 = 0 := gk (fk h).1 (fk h).2
theorem H5 : ∀ xs : List Int, 0 ≤ szs xs
  | [] => Int.le_refl 0
  | h :: t => by have := jx h; have := H5 t; show 0 ≤ au (opC h) + szs t; omega
section
variable {A : Ar} {p : Pl} {w m : Int} {S : Sg}
end
def cm (ep : Bool) (w : Int) : Int := bif ep then 1 + w else 2 * w
def Hg (ls : Int → List (Int × Int)) : Nat → Int
  | 0 => 0
  | n + 1 => Hg ls n + szs ((ls (n : Int)).map Prod.fst)
theorem Gn (ls : Int → List (Int × Int)) : ∀ n, 0 ≤ Hg ls n
  | 0 => Int.le_refl 0
  | n + 1 => by have := Gn ls n; have := H5 ((ls (n : Int)).map Prod.fst); show 0 ≤ Hg ls n + _; omega
structure GI (A : Ar) (g : Gd) (m : Int) (S : Sg) (l : Int → List (Int × Int)) : Prop where
  wf : A.wf
  sl : SL A g.pl g.w m S
  fa : A.fault = false
  ta : g.pl.carved < g.ta
  wb : 1 ≤ g.w ∧ g.w ≤ 100
  rl : g.ta + cm g.ep g.w ≤ A.raw.length
  rb : (A.raw.length : Int) ≤ 1000000
  st : ∀ k x, x ∈ l k → A.stF x.1 = 2
  nd : ∀ k, ((l k).map Prod.fst).Nodup
  dj : ∀ k j x y, x ∈ l k → y ∈ l j → x.1 = y.1 → k = j
  rg : ∀ k, l k ≠ [] → 0 ≤ k ∧ k < g.w
  nR : A.nR = Hg l g.w.toNat
  l0 : 0 ≤ A.nL
  nu : A.nL + A.nR ≤ 64 * A.aD
  ze : g.ep = false → ∀ k x, x ∈ l k → x.2 = 0
  eb : g.ep = true → 0 ≤ A.ao g.ta ∧ A.ao g.ta ≤ A.aD
  es : g.ep = true → ∀ k x, x ∈ l k → 0 ≤ x.2 ∧ x.2 ≤ A.ao g.ta
section
variable {A B C : Ar} {g : Gd} {m : Int} {S : Sg} {l : Int → List (Int × Int)} {k h : Int}
variable {q mq : Nat}
end
section
variable {A B C : Ar} {g : Gd} {m : Int} {S : Sg} {l : Int → List (Int × Int)} {k h : Int} {q mq : Nat}
theorem GI.u0 (X : GI A g m S l) : 0 ≤ A.aD := X.sl.F.us
theorem GI.c0 (X : GI A g m S l) : 0 ≤ g.pl.carved := by
  obtain ⟨p1, p2, p3, p4, p5⟩ := X.sl.gP
  have := X.wb; have := X.sl.mb; omega
theorem GI.ay (X : GI A g m S l) {n : Int} (hn : 0 ≤ n) : GI (A.ay n) g m S l :=
  ⟨eK X.wf n, X.sl.ay hn, X.fa, X.ta, X.wb, X.rl, X.rb, fun k x hx => by rw [c8 (B := A.ay n) (A := A) rfl]; exact X.st k x hx, X.nd, X.dj, X.rg, X.nR, X.l0, by have := X.nu; show A.nL + A.nR ≤ 64 * (A.aD + n); omega, X.ze,
    fun he => by have := X.eb he; show 0 ≤ A.ao g.ta ∧ A.ao g.ta ≤ A.aD + n; omega, X.es⟩
theorem GI.out (X : GI A g m S l) {i v : Int} (O : Oj A g.pl g.w m S i v B) (hw : B.wf) (hi : g.ep = true → i ≠ g.ta) : GI B g m S l :=
  ⟨hw, O.sl, O.fa.trans X.fa, X.ta, X.wb, by rw [O.rl]; exact X.rl, by rw [O.rl]; exact X.rb, fun k x hx => by rw [O.st]; exact X.st k x hx, X.nd, X.dj, X.rg, O.nR.trans X.nR, by rw [O.nL]; exact X.l0, by have := X.nu; have := O.nL; have := O.nR; have := O.us; omega, X.ze,
    fun he => by have := X.eb he; have := O.us; have r := O.rf g.ta; rw [if_neg (fun e => hi he e.symm)] at r; omega, fun he => by have r := O.rf g.ta; rw [if_neg (fun e => hi he e.symm)] at r; rw [r]; exact X.es he⟩
theorem GI.alloc {who c : Int} {n : Nat} {x : Al} {S' : Sg} (X : GI A g m S l) (hc : 0 ≤ c ∧ c < 4) (Z : Ch A g.pl g.w m S who c n x B S') : GI B g m S' l := by
  have off := Z.off
  have us := off.us
  have sz := gk hc.1 hc.2
  have n1 : 1 ≤ n := by
    have := Z.run
    cases this <;> omega
  have hta : B.ao g.ta = A.ao g.ta := off.rw _ X.ta
  have nL := Z.nL
  have nL2 : A.nL ≤ B.nL ∧ B.nL ≤ A.nL + 64 := by rw [nL]; split <;> omega
  refine ⟨off.wf, Z.sl, off.fa.trans X.fa, X.ta, X.wb, by rw [off.rl]; exact X.rl, by rw [off.rl]; exact X.rb, fun k y hy => ?_, X.nd, X.dj, X.rg, Z.nR.trans X.nR, by have := X.l0; omega, by have := X.nu; have := Z.nR; omega, X.ze, fun he => ?_, fun he => by rw [hta]; exact X.es he⟩
  · have h2 := X.st k y hy
    rw [Z.st, if_neg fun e => ?_]
    · exact h2
    · have := (Z.hd e.1).2.2
      rw [← e.2, h2] at this; cases this
  · have := X.eb he; rw [hta]; omega
end
section
variable {A B C : Ar} {g : Gd} {m : Int} {S : Sg} {l : Int → List (Int × Int)} {k h : Int} {q mq : Nat}
end
theorem OQ (a : Addr) : opS Tryz.prog (.binOp .eql jG (.tmp 0) (.const (.pointer none)) jG) aO [(.pointer (some a))] = .pure (.value (.bool false)) := by kernel_rfl
abbrev S0g : Sg := ⟨fun _ => [], 0, fun _ => 0, fun _ => -1, 0⟩
theorem gd0 : GdS [] fun _ => [] := ⟨fun k => .inl ⟨rfl, rfl⟩, fun k => rfl⟩
section
variable {L : aZ} {R : Value → Heap → Prop} {G : Heap} {l rest : Bl} {A A' : Ar} {I : List Nat}
theorem HR {g : Gd} {e : List LE} {ls : Int → List (Int × Int)} {q mq : Nat} {k h : Int} {K : Value → Tree} (hA : Aw I A) (ok : Ok I G (keys (g.bl q mq e ++ rest))) (gs : GdS e ls) (hl : (ls k).length < 1000)
    (h0 : kE g ls k h = none → ∀ e' gar, Ok I G (keys (g.bl q mq e' ++ (gar ++ rest))) → GdS e' (kd ls k (ls k ++ [(h, 0)])) → wp Tryz.prog (K .nilIface) L (own (A.aW h) (g.bl q mq e' ++ (gar ++ rest)) G) R)
    (h1 : ∀ x, kE g ls k h = some x → ∀ j : LkJ, Ok I G (keys (x.bl j ++ rest)) → (mLk q mq).rep x j → wp Tryz.prog (K (.iface b9 (.pointer (some ⟨j.q, 0, none⟩)))) L (own (A.aW h) (x.bl j ++ rest) G) R) :
    wp Tryz.prog (.call fP [.pointer (some ⟨q, 0, none⟩), .pointer (aI I), .int .i64 k, .int .i64 h] (.one (.leaf .val)) K) L (own A (g.bl q mq e ++ rest) G) R := by
  rw [bP] at ok
  obtain ⟨o1, o2⟩ := ok.split
  refine rh (Du hA o1 gs hl) ?_
  intro v H hp
  unfold Md at hp
  cases hm : kE g ls k h with
  | none =>
    rw [hm] at hp
    obtain ⟨e', gar, rfl, rfl, o, gs'⟩ := hp
    refine ⟨_, rfl, ?_⟩
    rw [← dY, List.append_assoc]
    refine h0 hm e' gar ?_ gs'
    have := o.join o2
    rw [← bP, List.append_assoc] at this
    exact this
  | some x =>
    rw [hm] at hp
    obtain ⟨j, rfl, rfl, o, rp⟩ := hp
    refine ⟨_, rfl, ?_⟩
    rw [← dY]
    exact h1 x hm j (by rw [bP]; exact o.join o2) rp
end
def lj0 : LkJ := ⟨0, 0, 0, [], tj0, sj0, []⟩
def gmB (g : Gd) (q mq : Nat) : Option Lk → List LE → LkJ → Bl
  | none, e, _ => g.bl q mq e
  | some x, _, j => x.bl j
def gmV : Option Lk → LkJ → Value
  | none, _ => .nilIface
  | some _, j => .iface b9 (.pointer (some ⟨j.q, 0, none⟩))
def gmR (g : Gd) (q mq : Nat) (ls : Int → List (Int × Int)) : Option Lk → List LE → LkJ → Prop
  | none, e, _ => GdS e ls
  | some x, _, j => (mLk q mq).rep x j ∧ x.g = g
theorem Na {g : Gd} {ls : Int → List (Int × Int)} {k h : Int} {x : Lk} (hm : kE g ls k h = some x) : x.g = g := by
  unfold kE at hm
  split at hm
  · obtain rfl := Option.some.inj hm; rfl
  · split at hm
    · obtain rfl := Option.some.inj hm; rfl
    · cases hm
section
variable {L : aZ} {R : Value → Heap → Prop} {G : Heap} {l rest : Bl} {A A' : Ar} {I : List Nat} {g : Gd} {q mq : Nat}
theorem K8 {e : List LE} {ls : Int → List (Int × Int)} {k h : Int} {K : Value → Tree} (hA : Aw I A) (ok : Ok I G (keys (g.bl q mq e ++ rest))) (gs : GdS e ls) (hl : (ls k).length < 1000)
    (hk : ∀ e' lj gar, Ok I G (keys (gmB g q mq (kE g ls k h) e' lj ++ (gar ++ rest))) → gmR g q mq (kd ls k (ls k ++ [(h, 0)])) (kE g ls k h) e' lj → wp Tryz.prog (K (gmV (kE g ls k h) lj)) L (own (A.aW h) (gmB g q mq (kE g ls k h) e' lj ++ (gar ++ rest)) G) R) :
    wp Tryz.prog (.call fP [.pointer (some ⟨q, 0, none⟩), .pointer (aI I), .int .i64 k, .int .i64 h] (.one (.leaf .val)) K) L (own A (g.bl q mq e ++ rest) G) R := by
  refine HR hA ok gs hl (fun hm e' gar ok' gs' => ?_) fun x hm j ok' rp => ?_
  · rw [hm] at hk
    exact hk e' lj0 gar ok' gs'
  · have hg := Na hm
    rw [hm] at hk
    exact hk [] j [] ok' ⟨rp, hg⟩
theorem Lk.ME (x : Lk) (A : Ar) : (x.step A).1.g = x.g ∧ (x.step A).1.work = x.work := by
  unfold Lk.step
  split
  · exact ⟨rfl, rfl⟩
  · have hg : x.go.g = x.g ∧ x.go.work = x.work := by
      unfold Lk.go
      split
      · split <;> exact ⟨rfl, rfl⟩
      · exact ⟨rfl, rfl⟩
    unfold Lk.mid
    dsimp only
    split <;> exact hg
theorem Iu {x : Lk} {lj : LkJ} {k : Bool → Tree} (hA : Aw I A) (ok : Ok I G (keys (x.bl lj ++ rest))) (rp : (mLk q mq).rep x lj) (hi : x.inv A)
    (hk : ∀ lj' : LkJ, lj'.q = lj.q → Aw I (x.step A).2 → Ok I G (keys ((x.step A).1.bl lj' ++ rest)) → (mLk q mq).rep (x.step A).1 lj' → wp Tryz.prog (k (x.step A).1.fin) L (own (x.step A).2 ((x.step A).1.bl lj' ++ rest) G) R) :
    wp Tryz.prog (.act (opS Tryz.prog (.call { callee := .invoke (.tmp 0) "Step", args := #[(.tmp 1)], argTypes := #[aK] }) aO [(.iface b9 (.pointer (some ⟨lj.q, 0, none⟩))), (.pointer (aI I))]) (.one (.leaf .bool)) k) L (own A (x.bl lj ++ rest) G) R := by
  refine bZ (Kl q mq _ _) ?_
  rw [bP] at ok
  obtain ⟨o1, o2⟩ := ok.split
  refine rh (Nf q mq I A _ x lj hA o1 rp hi) ?_
  rintro v K ⟨lj', rfl, rfl, ha, ok', rp', hA'⟩
  refine ⟨(x.step A).1.fin, rfl, ?_⟩
  rw [← dY]
  exact hk lj' ha hA' (by rw [bP]; exact ok'.join o2) rp'
theorem Lk.MN {x : Lk} (h : x.fin = true) : x.m = .no := by
  unfold Lk.fin at h
  split at h
  · assumption
  · cases h
theorem Kh {x : Lk} {lj : LkJ} (hm : x.fin = true) (rp : (mLk q mq).rep x lj) (ok : Ok I G (keys (x.bl lj ++ rest))) :
    ∃ e gar, own A (x.bl lj ++ rest) G = own A (x.g.bl q mq e ++ (gar ++ rest)) G ∧ Ok I G (keys (x.g.bl q mq e ++ (gar ++ rest))) ∧ GdS e x.ls := by
  obtain ⟨rp, e1, e2⟩ := rp
  have hm := Lk.MN hm
  refine ⟨lj.e, (lj.q, oc aH (lkC lj.gq x.work x.first x.times .nilIface)) :: lj.gar, ?_⟩
  have hb : x.bl lj = (lj.q, oc aH (lkC lj.gq x.work x.first x.times .nilIface)) :: (x.g.bl q mq lj.e ++ ([] ++ lj.gar)) := by
    unfold Lk.bl; rw [hm, e1, e2]; rfl
  rw [hb] at ok ⊢
  obtain ⟨p, ok'⟩ := aN (A := A) (l' := x.g.bl q mq lj.e ++ (((lj.q, oc aH (lkC lj.gq x.work x.first x.times .nilIface)) :: lj.gar) ++ rest)) ok (aT fun c d c0 cd ca => by simp only [List.cons_append, List.append_assoc, List.nil_append, cd, ca]; omega)
  exact ⟨p, ok', ⟨rp.le, rp.ls⟩⟩
theorem K9 (o : Option Lk) (j : LkJ) (u : TypeId) : opS Tryz.prog (.binOp .eql aA (.tmp 0) (.const .nilIface) aA) u [gmV o j] = .pure (.value (.bool o.isNone)) := by
  cases o
  · exact Ee u
  · exact Dk _ _ u
theorem NW (a : Addr) (o : Option Lk) (j : LkJ) : opS Tryz.prog (.store aA (.tmp 0) (.tmp 1)) aF [.pointer (some a), gmV o j] = .store .plain a (gmV o j) (.pure .skip) := by cases o <;> kernel_rfl
theorem FD (o : Option Lk) (j : LkJ) : Value.single (gmV o j) = true := by cases o <;> rfl
theorem M7 (ix : Nat) {a : Addr} {b n : Nat} {T : TypeId} {c : List Value} {o : Option Lk} {j : LkJ} {k : Unit → Tree} (hA : Aw I A) (ok : Ok I G (keys l)) (ha : a = ⟨b, n, none⟩) (hi : l[ix]? = some (b, oc T c)) (hn : (decide (n < c.length)) = true)
    (h : wp Tryz.prog (k ()) L (own A (l.set ix (b, oc T (c.set n (gmV o j)))) G) R) : wp Tryz.prog (.act (opS Tryz.prog (.store aA (.tmp 0) (.tmp 1)) aF [.pointer (some a), gmV o j]) .unit k) L (own A l G) R := by
  rw [NW]
  exact cA (k := k ()) ix hA ok ha hi (FD _ _) hn h
end
noncomputable def zg (p0 : Int) : Tree :=
 .cU dg [(.int .i64 p0)] (.tup [(.leaf (.int .i64)), (.leaf (.int .i64)), (.leaf (.int .i64)), (.leaf .bool)]) fun x9 =>
 bif (!x9.2.2.2.1) then (
 .ret (.int .i64 0))
 else (
 .cU ft [(.int .i64 x9.2.2.1)] (.one (.leaf (.int .i64))) fun x17 =>
 .ret (.int .i64 x17))
theorem yr {p0 : Int} : SpT pS #[(.int .i64 p0)] (zg p0) := spT cJ Tryz.func59 (by kernel_rfl)
noncomputable def yE (p0 : Int) : Tree :=
 .cU pS [(.int .i64 p0)] (.one (.leaf (.int .i64))) fun x5 =>
 .dk (.cells #[(.int .i64 0)] aP) fun x3 =>
 .st x3 (.int .i64 x5) <|
 .ret (.func (.func dd) #[] #[(.pointer (some x3))])
theorem xS {p0 : Int} : SpT mn #[(.int .i64 p0)] (yE p0) := spT cJ Tryz.func101 (by kernel_rfl)
noncomputable def vV (p0 : Int) (c0 : Addr) : Tree :=
 .ld c0 (.int .i64) fun x4 =>
 bif ((x4 : Int) == 0) then (
 .ret (.int .i64 0))
 else (
 .ld c0 (.int .i64) fun x7 =>
 .look (opS Tryz.prog (.binOp .rem aP (.tmp 0) (.tmp 1) aP) aP [(.int .i64 p0), (.int .i64 x7)]) (.one (.leaf (.int .i64))) fun x8 =>
 .ld c0 (.int .i64) fun x9 =>
 .ld c0 (.int .i64) fun x11 =>
 .look (opS Tryz.prog (.binOp .rem aP (.tmp 0) (.tmp 1) aP) aP [(.int .i64 (w64 (x8 + x9))), (.int .i64 x11)]) (.one (.leaf (.int .i64))) fun x12 =>
 .ret (.int .i64 x12))
theorem wy {p0 : Int} {c0 : Addr} : SpT dd #[(.int .i64 p0), (.pointer (some c0))] (vV p0 c0) := spT cJ Tryz.func119 (by kernel_rfl)
noncomputable def yO (p0 : Int) (p1 : Int) : Tree :=
 .call mn [(.int .i64 p0)] (.one (.leaf .val)) fun x6 =>
 .look (opS Tryz.prog (.call { callee := .value (.tmp 0), args := #[(.tmp 1)], argTypes := #[aP] }) aP [x6, (.int .i64 p1)]) (.one (.leaf (.int .i64))) fun x8 =>
 .ret (.int .i64 x8)
theorem yx {p0 : Int} {p1 : Int} : SpT mj #[(.int .i64 p0), (.int .i64 p1)] (yO p0 p1) := spT cJ Tryz.func66 (by kernel_rfl)
def jZ (h : Int) : Int := if cS h then au (kH h) else 0
def dB (h i : Int) : Int := if jZ h = 0 then 0 else i % jZ h
theorem C5 (h : Int) : jZ h = 0 ∨ jZ h = 8 ∨ jZ h = 16 ∨ jZ h = 32 ∨ jZ h = 64 := by
  unfold jZ
  split
  · rename_i hk
    have hv := (zC hk).1
    obtain ⟨_, _, _, _, h5, h6⟩ := hv
    have := ur h5 h6
    omega
  · exact .inl rfl
theorem CH (h : Int) (H : Heap) : Det Tryz.prog pS [.int .i64 h] H (.int .i64 (jZ h)) H := by
  refine yr fun L => ?_
  unfold zg
  cases hk : cS h with
  | false =>
    refine bc (x := (0, 0, 0, false, ())) (wN H (BC hk)) ?_
    refine av rfl ?_
    exact ad ⟨by unfold jZ; rw [hk]; rfl, rfl⟩
  | true =>
    refine bc (x := (rK h, xJ h, kH h, true, ())) (wN H (by unfold vT; rw [hk]; rfl)) ?_
    refine af rfl ?_
    refine bc (ud _ _) ?_
    exact ad ⟨by unfold jZ; rw [hk]; rfl, rfl⟩
theorem xC (h : Int) (H : Heap) : cB Tryz.prog mn #[.int .i64 h] H fun v K => ∃ b, H b = none ∧ v = .func (.func dd) #[] #[.pointer (some ⟨b, 0, none⟩)] ∧ K = H.set b (.cells #[.int .i64 (jZ h)] aP (0, 0)) := by
  refine xS fun L => ?_
  unfold yE
  refine bc (CH _ _) ?_
  refine dI fun b hb => ?_
  refine gd (Heap.bx _ _ _) rfl rfl ?_
  rw [Heap.set_set]
  exact ad ⟨b, hb, rfl, rfl⟩
theorem Bg {r i : Int} {b T : Nat} {H : Heap} (hb : H b = some (.cells #[.int .i64 r] T (0, 0))) (hr : 0 ≤ r ∧ r ≤ 64) :
    Det Tryz.prog dd [.int .i64 i, .pointer (some ⟨b, 0, none⟩)] H (.int .i64 (if r = 0 then 0 else i % r)) H := by
  refine wy fun L => ?_
  unfold vV
  have ld : H.cell? ⟨b, 0, none⟩ = some (.int .i64 r) := by rw [Heap.cell_of hb]; rfl
  refine bL (x := r) ld ?_
  by_cases h0 : r = 0
  · refine av (j7 h0) ?_
    rw [if_pos h0]; exact ad ⟨rfl, rfl⟩
  · refine af (iR h0) ?_
    rw [if_neg h0]
    refine bL (x := r) ld ?_
    refine aB (x := i.tmod r) (wX h0) ?_
    refine bL (x := r) ld ?_
    refine bL (x := r) ld ?_
    refine aB (x := (w64 (i.tmod r + r)).tmod r) (wX h0) ?_
    refine ad ⟨?_, rfl⟩
    have hp : 0 < r := by omega
    have h1 := AH i r hp
    have h2 := Int.emod_nonneg i (by omega : r ≠ 0)
    have h3 := Int.emod_lt_of_pos i hp
    have h4 : 0 ≤ i.tmod r + r ∧ i.tmod r + r < 2 * r := by
      split at h1 <;> omega
    rw [aE (by omega) (by omega), Int.tmod_eq_emod_of_nonneg h4.1, Int.add_emod_right]
    congr 1
    split at h1
    · have h5 := Int.emod_eq_of_lt h4.1 (by omega : i.tmod r + r < r)
      rw [Int.add_emod_right] at h5
      rw [h5, h1]
    · rw [h1]; exact Int.emod_emod_of_dvd _ (Int.dvd_refl _)
theorem yh (i : Int) (a : Addr) : opS Tryz.prog (.call { callee := .value (.tmp 0), args := #[(.tmp 1)], argTypes := #[aP] }) aP [(.func (.func dd) #[] #[.pointer (some a)]), (.int .i64 i)] =
    .pure (.enter dd [.int .i64 i, .pointer (some a)].toArray) := by kernel_rfl
theorem xQ (h i : Int) (H : Heap) : Det Tryz.prog mj [.int .i64 h, .int .i64 i] H (.int .i64 (dB h i)) H := by
  refine yx fun L => ?_
  unfold yO
  refine aR (xC h H) ?_
  rintro v K ⟨b, hb, rfl, rfl⟩
  refine ⟨.func (.func dd) #[] #[.pointer (some ⟨b, 0, none⟩)], rfl, ?_⟩
  have hr := C5 h
  refine wq (yh _ _) (Bg (Heap.bx _ _ _) (by omega)) ?_
  exact ⟨H, Heap.dM _ hb, rfl, rfl⟩
noncomputable def nU (p0 : Int) (p1 : Int) (p2 : Int) (p3 : Int) : Tree :=
 .call mn [(.int .i64 p0)] (.one (.leaf .fnc)) fun x14 =>
 .call mn [(.int .i64 p1)] (.one (.leaf .fnc)) fun x16 =>
 .dk (.cells #[(.int .i64 p0), (.int .i64 p1), (.int .i64 p2), (.int .i64 p3), (.func x14.fn x14.first x14.cap), (.func x16.fn x16.first x16.cap), (.int .i64 0), (.bool false)] tc) fun x18 =>
 .ret (.pointer (some x18))
theorem wQ (p0 : Int) (p1 : Int) (p2 : Int) (p3 : Int) : re Tryz.prog { quiet := [10, 32, 38, 59, 70, 74, 96, 104, 105, 106, 107, 108, 111, 112, 121, 124, 153, 158, 160], quietTmp := true, fncs := [14, 16], ifcs := [] } Tryz.f98 [(.int .i64 p0), (.int .i64 p1), (.int .i64 p2), (.int .i64 p3)] = nU p0 p1 p2 p3 := by kernel_rfl
theorem vA {p0 : Int} {p1 : Int} {p2 : Int} {p3 : Int} {H : Heap} {R : Value → Heap → Prop} (h : ∀ L, wp Tryz.prog (nU p0 p1 p2 p3) L H R) : cB Tryz.prog kK #[(.int .i64 p0), (.int .i64 p1), (.int .i64 p2), (.int .i64 p3)] H R :=
 sH (cfg := { quiet := [10, 32, 38, 59, 70, 74, 96, 104, 105, 106, 107, 108, 111, 112, 121, 124, 153, 158, 160], quietTmp := true, fncs := [14, 16], ifcs := [] }) Tryz.func98 fun L => (wQ p0 p1 p2 p3).symm ▸ h L
noncomputable def jF (p0 : Option Addr) (p1 : Option Addr) : Tree :=
 lkN p0 fun x37 =>
 .ld (x37.add 2) (.int .i64) fun x39 =>
 lkN p0 fun x41 =>
 .ld (x41.add 3) (.int .i64) fun x43 =>
 bif (decide ((x39 : Int) ≥ x43)) then (
 lkN p0 fun x73 =>
 .ld (x73.add 2) (.int .i64) fun x75 =>
 lkN p0 fun x77 =>
 .ld (x77.add 3) (.int .i64) fun x79 =>
 .ret (.bool (decide ((x75 : Int) ≥ x79))))
 else (
 lkN p0 fun x47 =>
 .ld (x47.add 7) .bool fun x49 =>
 bif (!x49) then (
 lkN p0 fun x55 =>
 .ld x55 (.int .i64) fun x57 =>
 lkN p0 fun x59 =>
 .ld (x59.add 4) .val fun x61 =>
 lkN p0 fun x63 =>
 .ld (x63.add 2) (.int .i64) fun x65 =>
 .look (opS Tryz.prog (.call { callee := .value (.tmp 0), args := #[(.tmp 1)], argTypes := #[aP] }) aP [x61, (.int .i64 x65)]) (.one (.leaf (.int .i64))) fun x66 =>
 .call dK [(.pointer p1), (.int .i64 x57), (.int .i64 x66)] (.one (.leaf (.int .i64))) fun x67 =>
 lkN p0 fun x68 =>
 .st (x68.add 6) (.int .i64 x67) <|
 lkN p0 fun x70 =>
 .st (x70.add 7) (.bool true) <|
 lkN p0 fun x73 =>
 .ld (x73.add 2) (.int .i64) fun x75 =>
 lkN p0 fun x77 =>
 .ld (x77.add 3) (.int .i64) fun x79 =>
 .ret (.bool (decide ((x75 : Int) ≥ x79))))
 else (
 lkN p0 fun x7 =>
 .ld (x7.add 1) (.int .i64) fun x9 =>
 lkN p0 fun x11 =>
 .ld (x11.add 5) .val fun x13 =>
 lkN p0 fun x15 =>
 .ld (x15.add 2) (.int .i64) fun x17 =>
 .look (opS Tryz.prog (.call { callee := .value (.tmp 0), args := #[(.tmp 1)], argTypes := #[aP] }) aP [x13, (.int .i64 x17)]) (.one (.leaf (.int .i64))) fun x18 =>
 lkN p0 fun x20 =>
 .ld (x20.add 6) (.int .i64) fun x22 =>
 .call fx [(.pointer p1), (.int .i64 x9), (.int .i64 x18), (.int .i64 x22)] .unit fun _ =>
 lkN p0 fun x27 =>
 .ld (x27.add 2) (.int .i64) fun x29 =>
 lkN p0 fun x31 =>
 .st (x31.add 2) (.int .i64 (w64 (x29 + 1))) <|
 lkN p0 fun x33 =>
 .st (x33.add 7) (.bool false) <|
 lkN p0 fun x73 =>
 .ld (x73.add 2) (.int .i64) fun x75 =>
 lkN p0 fun x77 =>
 .ld (x77.add 3) (.int .i64) fun x79 =>
 .ret (.bool (decide ((x75 : Int) ≥ x79)))))
theorem ja {p0 : Option Addr} {p1 : Option Addr} : SpT fF #[(.pointer p0), (.pointer p1)] (jF p0 p1) := spT cJ Tryz.func63 (by kernel_rfl)
structure Cp where
  q : Nat
  e1 : Nat
  e2 : Nat
  from' : Int
  to : Int
  at' : Int
  fin : Int
  v : Int
  has : Bool
namespace Cp
def arr (C : Cp) : Array Value := #[.int .i64 C.from', .int .i64 C.to, .int .i64 C.at', .int .i64 C.fin, .func (.func dd) #[] #[.pointer (some ⟨C.e1, 0, none⟩)], .func (.func dd) #[] #[.pointer (some ⟨C.e2, 0, none⟩)], .int .i64 C.v, .bool C.has]
def obj (C : Cp) : Obj := .cells C.arr tc (0, 0)
def env (h : Int) : Obj := .cells #[.int .i64 (jZ h)] aP (0, 0)
def ids (C : Cp) : List Nat := [C.q, C.e1, C.e2]
def put (C : Cp) (H : Heap) : Heap := fun x => if x = C.q then some C.obj else if x = C.e1 then some (env C.from') else if x = C.e2 then some (env C.to) else H x
def ok (C : Cp) (A : Ar) : Prop := C.q ≠ C.e1 ∧ C.q ≠ C.e2 ∧ C.e1 ≠ C.e2 ∧ C.q ∉ A.ids ∧ C.e1 ∉ A.ids ∧ C.e2 ∉ A.ids
end Cp
section
variable {L : aZ} {H : Heap} {R : Value → Heap → Prop} {A : Ar} {C D : Cp}
theorem ND (h : C.ok A) (H : Heap) : A.put (C.put H) C.q = some C.obj := by rw [Ar.jI h.2.2.2.1]; unfold Cp.put; rw [if_pos rfl]
theorem NM (h : C.ok A) (H : Heap) : A.put (C.put H) C.e1 = some (Cp.env C.from') := by rw [Ar.jI h.2.2.2.2.1]; unfold Cp.put; rw [if_neg (Ne.symm h.1), if_pos rfl]
theorem Oq (h : C.ok A) (H : Heap) : A.put (C.put H) C.e2 = some (Cp.env C.to) := by rw [Ar.jI h.2.2.2.2.2]; unfold Cp.put; rw [if_neg (Ne.symm h.2.1), if_neg (Ne.symm h.2.2.1), if_pos rfl]
theorem gQ {p : Addr} {n : Nat} {l : iH} {x : l.T} {k : l.T → Tree} (hC : C.ok A) (h : wp Tryz.prog (k x) L (A.put (C.put H)) R) (hp : p = ⟨C.q, n, none⟩ := by rfl) (hx : C.arr[n]? = some (l.fq x) := by rfl) :
    wp Tryz.prog (.ld p l k) L (A.put (C.put H)) R := by
  subst hp
  exact bL ((Heap.cell_of (ND hC H) _).trans hx) h
theorem BY (D : Cp) {p : Addr} {n : Nat} {v u : Value} {k : Tree} (hC : C.ok A) (h : wp Tryz.prog k L (A.put (D.put H)) R) (hp : p = ⟨C.q, n, none⟩ := by rfl) (hn : C.arr[n]? = some u := by rfl)
    (hb : C.arr.setIfInBounds n v = D.arr := by rfl) (hD : D.q = C.q ∧ D.e1 = C.e1 ∧ D.e2 = C.e2 ∧ D.from' = C.from' ∧ D.to = C.to := by exact ⟨rfl, rfl, rfl, rfl, rfl⟩) (hs : Value.single v = true := by rfl) :
    wp Tryz.prog (.st p v k) L (A.put (C.put H)) R := by
  subst hp
  refine gd (ND hC H) hn hs ?_
  have : (A.put (C.put H)).set C.q (.cells (C.arr.setIfInBounds n v) tc (0, 0)) = A.put (D.put H) := by
    rw [Ar.sq _ hC.2.2.2.1, hb]
    congr 1
    funext y
    unfold Heap.set Cp.put
    rw [hD.1, hD.2.1, hD.2.2.1, hD.2.2.2.1, hD.2.2.2.2]
    by_cases hy : y = C.q
    · rw [if_pos hy, if_pos hy]; rfl
    · rw [if_neg hy, if_neg hy, if_neg hy]
  rw [this]; exact h
end
def pC (C : Cp) : Value := .pointer (some ⟨C.q, 0, none⟩)
theorem Dy {h i : Int} {b : Nat} {H : Heap} (hb : H b = some (Cp.env h)) : Det Tryz.prog dd [.int .i64 i, .pointer (some ⟨b, 0, none⟩)] H (.int .i64 (dB h i)) H := by
  have hr := C5 h
  exact Bg (r := jZ h) (T := aP) hb (by omega)
def Cp.Ck (C : Cp) (v : Int) : Cp := { C with v := v, has := true }
def Cp.stored (C : Cp) : Cp := { C with at' := w64 (C.at' + 1), has := false }
theorem IJ {C : Cp} {A : Ar} (hC : C.ok A) (he : C.fin ≤ C.at') (H : Heap) : Det Tryz.prog fF [pC C, pA A] (A.put (C.put H)) (.bool true) (A.put (C.put H)) := by
  refine ja fun L => ?_
  unfold jF
  refine aa.2 (gQ (x := C.at') (n := 2) hC (aa.2 (gQ (x := C.fin) (n := 3) hC ?_)))
  refine av (decide_eq_true he) (aa.2 ?_)
  refine gQ (x := C.at') (n := 2) hC (aa.2 (gQ (x := C.fin) (n := 3) hC ?_))
  exact ad ⟨by rw [decide_eq_true (show C.at' ≥ C.fin from he)], rfl⟩
theorem GV {C : Cp} {A : Ar} (hA : A.wf) (hC : C.ok A) (he : C.at' < C.fin) (hh : C.has = false) (H : Heap) :
    Det Tryz.prog fF [pC C, pA A] (A.put (C.put H)) (.bool false) ((A.gp C.from' (dB C.from' C.at')).put ((C.Ck (A.bA C.from' (dB C.from' C.at'))).put H)) := by
  refine ja fun L => ?_
  unfold jF
  refine aa.2 (gQ (x := C.at') (n := 2) hC (aa.2 (gQ (x := C.fin) (n := 3) hC ?_)))
  refine af (decide_eq_false (by show ¬ C.at' ≥ C.fin; omega)) (aa.2 ?_)
  refine gQ (x := C.has) (n := 7) hC ?_
  refine av (by rw [hh]; rfl) (aa.2 ?_)
  refine gQ (x := C.from') (n := 0) hC (aa.2 ?_)
  refine gQ (x := Value.func (.func dd) #[] #[.pointer (some ⟨C.e1, 0, none⟩)]) (n := 4) hC (aa.2 ?_)
  refine gQ (x := C.at') (n := 2) hC ?_
  refine wq (yh _ _) (Dy (NM hC H)) ?_
  refine ax (Ly hA rfl rfl _) (aa.2 ?_)
  have al := yX A C.from' (dB C.from' C.at')
  have hD : C.ok (A.gp C.from' (dB C.from' C.at')) := by unfold Cp.ok; rw [al.ids]; exact hC
  generalize A.gp C.from' (dB C.from' C.at') = B at *
  generalize A.bA C.from' (dB C.from' C.at') = v at *
  refine BY { C with v := v } (n := 6) hD (u := .int .i64 C.v) (aa.2 ?_)
  refine BY (C := { C with v := v }) (C.Ck v) (n := 7) hD (u := .bool C.has) (aa.2 ?_)
  refine gQ (C := C.Ck v) (x := C.at') (n := 2) hD (aa.2 (gQ (C := C.Ck v) (x := C.fin) (n := 3) hD ?_))
  exact ad ⟨by rw [decide_eq_false (show ¬ C.at' ≥ C.fin by omega)], rfl⟩
theorem EZ {C : Cp} {A : Ar} (hA : A.wf) (hC : C.ok A) (he : C.at' < C.fin) (hh : C.has = true) (H : Heap) :
    Det Tryz.prog fF [pC C, pA A] (A.put (C.put H)) (.bool (decide (w64 (C.at' + 1) ≥ C.fin))) ((A.bW C.to (dB C.to C.at') C.v).put (C.stored.put H)) := by
  refine ja fun L => ?_
  unfold jF
  refine aa.2 (gQ (x := C.at') (n := 2) hC (aa.2 (gQ (x := C.fin) (n := 3) hC ?_)))
  refine af (decide_eq_false (by show ¬ C.at' ≥ C.fin; omega)) (aa.2 ?_)
  refine gQ (x := C.has) (n := 7) hC ?_
  refine af (by rw [hh]; rfl) (aa.2 ?_)
  refine gQ (x := C.to) (n := 1) hC (aa.2 ?_)
  refine gQ (x := Value.func (.func dd) #[] #[.pointer (some ⟨C.e2, 0, none⟩)]) (n := 5) hC (aa.2 ?_)
  refine gQ (x := C.at') (n := 2) hC ?_
  refine wq (yh _ _) (Dy (Oq hC H)) (aa.2 ?_)
  refine gQ (x := C.v) (n := 6) hC ?_
  refine ax (x := ()) (Js hA rfl _) (aa.2 ?_)
  have al := s9 A C.to (dB C.to C.at') C.v
  have hD : C.ok (A.bW C.to (dB C.to C.at') C.v) := by unfold Cp.ok; rw [al.ids]; exact hC
  generalize A.bW C.to (dB C.to C.at') C.v = B at *
  refine gQ (x := C.at') (n := 2) hD (aa.2 ?_)
  refine BY { C with at' := w64 (C.at' + 1) } (n := 2) hD (u := .int .i64 C.at') (aa.2 ?_)
  refine BY (C := { C with at' := w64 (C.at' + 1) }) C.stored (n := 7) hD (u := .bool C.has) (aa.2 ?_)
  refine gQ (C := C.stored) (x := w64 (C.at' + 1)) (n := 2) hD (aa.2 (gQ (C := C.stored) (x := C.fin) (n := 3) hD ?_))
  exact ad ⟨rfl, rfl⟩
theorem BE {A : Ar} (f t a b : Int) (H : Heap) :
    cB Tryz.prog kK #[.int .i64 f, .int .i64 t, .int .i64 a, .int .i64 b] (A.put H) fun v K => ∃ C : Cp, C.ok A ∧ (∀ x ∈ C.ids, H x = none) ∧ C.from' = f ∧ C.to = t ∧ C.at' = a ∧ C.fin = b ∧ C.v = 0 ∧ C.has = false ∧ v = pC C ∧ K = A.put (C.put H) := by
  refine vA fun L => ?_
  unfold nU
  refine aR (xC f _) ?_
  rintro v K ⟨e1, he1, rfl, rfl⟩
  refine ⟨⟨.func dd, #[], #[.pointer (some ⟨e1, 0, none⟩)]⟩, rfl, ?_⟩
  refine aR (xC t _) ?_
  rintro v K ⟨e2, he2, rfl, rfl⟩
  refine ⟨⟨.func dd, #[], #[.pointer (some ⟨e2, 0, none⟩)]⟩, rfl, ?_⟩
  refine dI fun q hq => ?_
  obtain ⟨h1, he2⟩ := cy he2
  obtain ⟨h2, hq⟩ := cy hq
  obtain ⟨h3, hq⟩ := cy hq
  have n1 := Ar.wI he1
  have n2 := Ar.wI he2
  have n3 := Ar.wI hq
  refine ad ⟨⟨q, e1, e2, f, t, a, b, 0, false⟩, ⟨h3, h2, Ne.symm h1, n3.1, n1.1, n2.1⟩, ?_, rfl, rfl, rfl, rfl, rfl, rfl, rfl, ?_⟩
  · intro x hx
    unfold Cp.ids at hx
    simp only [List.mem_cons, List.not_mem_nil, or_false] at hx
    rcases hx with rfl | rfl | rfl
    · exact n3.2
    · exact n1.2
    · exact n2.2
  · rw [Ar.sq _ n1.1, Ar.sq _ n2.1, Ar.sq _ n3.1]
    congr 1
    funext y
    unfold Heap.set Cp.put
    by_cases y1 : y = q
    · rw [if_pos y1, if_pos y1]; rfl
    · rw [if_neg y1, if_neg y1]
      by_cases y2 : y = e1
      · rw [if_pos y2, if_pos y2, if_neg (by rw [y2]; exact Ne.symm h1)]; rfl
      · rw [if_neg y2, if_neg y2]
        by_cases y3 : y = e2
        · rw [if_pos y3, if_pos y3]; rfl
        · rw [if_neg y3, if_neg y3]
noncomputable def yM (p0 : Int) (p1 : Int) : Tree :=
 .ret (.int .i64 (w64 (3 * (imax p0 0))))
theorem yc {p0 : Int} {p1 : Int} : SpT uG #[(.int .i64 p0), (.int .i64 p1)] (yM p0 p1) := spT bU Tryz.func38 (by kernel_rfl)
noncomputable def wV (p0 : Int) (p1 : Int) (p2 : Int) : Tree :=
 .ret (.int .i64 (w64 ((w64 (p0 + (w64 (3 * p1)))) + p2)))
theorem wB {p0 : Int} {p1 : Int} {p2 : Int} : SpT lz #[(.int .i64 p0), (.int .i64 p1), (.int .i64 p2)] (wV p0 p1 p2) := spT bU Tryz.func32 (by kernel_rfl)
noncomputable def zc (p0 : Option Addr) (p1 : Int) (p2 : Int) (p3 : Int) (p4_0 : Int) (p4_1 : Int) (p4_2 : Int) (p4_3 : Int) (p4_4 : Int) (p5 : Option Addr) : Tree :=
 .dk (.cells #[(.int .i64 p4_0), (.int .i64 p4_1), (.int .i64 p4_2), (.int .i64 p4_3), (.int .i64 p4_4)] bn) fun x10 =>
 .ldA x10 [(.int .i64), (.int .i64), (.int .i64), (.int .i64), (.int .i64)] fun x17 =>
 .dk (.cells #[(.int .i64 p1), (.int .i64 p2), (.int .i64 0), (.int .i64 p3), (.int .i64 x17.1), (.int .i64 x17.2.1), (.int .i64 x17.2.2.1), (.int .i64 x17.2.2.2.1), (.int .i64 x17.2.2.2.2.1), (.pointer p5)] aC) fun x20 =>
 .call dc [(.pointer (some x20)), (.int .i64 2)] (.one (.leaf (.int .i64))) fun x23 =>
 .call bV [(.pointer p0), (.int .i64 x23), (.int .i64 p3)] .unit fun _ =>
 .ret (.pointer (some x20))
theorem ya {p0 : Option Addr} {p1 : Int} {p2 : Int} {p3 : Int} {p4_0 : Int} {p4_1 : Int} {p4_2 : Int} {p4_3 : Int} {p4_4 : Int} {p5 : Option Addr} : SpT ug #[(.pointer p0), (.int .i64 p1), (.int .i64 p2), (.int .i64 p3), (.agg #[(.int .i64 p4_0), (.int .i64 p4_1), (.int .i64 p4_2), (.int .i64 p4_3), (.int .i64 p4_4)]), (.pointer p5)] (zc p0 p1 p2 p3 p4_0 p4_1 p4_2 p4_3 p4_4 p5) := spT bU Tryz.func39 (by kernel_rfl)
noncomputable def rI (p0 : Option Addr) (p1 : Int) : Tree :=
 lkN p0 fun x6 =>
 .ld x6 (.int .i64) fun x8 =>
 lkN p0 fun x10 =>
 .ld (x10.add 1) (.int .i64) fun x12 =>
 .cU lz [(.int .i64 x8), (.int .i64 x12), (.int .i64 p1)] (.one (.leaf (.int .i64))) fun x14 =>
 .ret (.int .i64 x14)
theorem tN {p0 : Option Addr} {p1 : Int} : SpT dc #[(.pointer p0), (.int .i64 p1)] (rI p0 p1) := spT bU Tryz.func58 (by kernel_rfl)
noncomputable def rq (p0 : Option Addr) (p1 : Int) : Tree :=
 .dk (.cells #[(.pointer p0), (.int .i64 p1), (.int .i64 0), (.int .i64 0), (.pointer none), (.pointer none), .nilIface, (.int .i64 0), (.bool false)] aJ) fun x8 =>
 .ret (.pointer (some x8))
theorem tQ {p0 : Option Addr} {p1 : Int} : SpT gx #[(.pointer p0), (.int .i64 p1)] (rq p0 p1) := spT bU Tryz.func14 (by kernel_rfl)
noncomputable def tM (p0 : Option Addr) : Tree :=
 .dk (.cells #[(.pointer p0), (.int .i64 0), (.int .i64 0), (.int .i64 0), (.bool false)] c7) fun x5 =>
 .ret (.pointer (some x5))
theorem uI {p0 : Option Addr} : SpT fA #[(.pointer p0)] (tM p0) := spT bU Tryz.func26 (by kernel_rfl)
noncomputable def pK (p0 : Option Addr) : Tree :=
 lkN p0 fun x8 =>
 .ld x8 .ptr fun x10 =>
 lkN x10 fun x11 =>
 .ld (x11.add 3) (.int .i64) fun x13 =>
 .cU dg [(.int .i64 x13)] (.tup [(.leaf (.int .i64)), (.leaf (.int .i64)), (.leaf (.int .i64)), (.leaf .bool)]) fun x14 =>
 lkN p0 fun x20 =>
 .st (x20.add 3) (.int .i64 7) <|
 bif (decide (((w64 (x14.2.2.1 + 1)) : Int) < 4)) then (
 lkN p0 fun x28 =>
 .ld x28 .ptr fun x30 =>
 lkN x30 fun x31 =>
 .ldA (x31.add 4) [(.int .i64), (.int .i64), (.int .i64), (.int .i64), (.int .i64)] fun x33 =>
 lkN p0 fun x35 =>
 .ld x35 .ptr fun x37 =>
 lkN x37 fun x38 =>
 .ld (x38.add 1) (.int .i64) fun x40 =>
 .call iS [(.agg #[(.int .i64 x33.1), (.int .i64 x33.2.1), (.int .i64 x33.2.2.1), (.int .i64 x33.2.2.2.1), (.int .i64 x33.2.2.2.2.1)]), (.int .i64 x40), (.int .i64 (w64 (x14.2.2.1 + 1)))] (.one (.leaf .ptr)) fun x43 =>
 lkN p0 fun x44 =>
 .st (x44.add 3) (.int .i64 1) <|
 lkN p0 fun x46 =>
 .st (x46.add 4) (.pointer x43) <|
 .ret (.tuple #[]))
 else (
 .ret (.tuple #[]))
theorem sR {p0 : Option Addr} : SpT lq #[(.pointer p0)] (pK p0) := spT bU Tryz.func60 (by kernel_rfl)
noncomputable def lr (p0 : Option Addr) : Tree :=
 lkN p0 fun x6 =>
 .ld (x6.add 4) .ptr fun x8 =>
 .call ig [(.pointer x8)] (.tup [(.leaf (.int .i64)), (.leaf .bool)]) fun x9 =>
 lkN p0 fun x13 =>
 .st (x13.add 3) (.int .i64 7) <|
 bif x9.2.1 then (
 lkN p0 fun x21 =>
 .ld x21 .ptr fun x23 =>
 lkN x23 fun x24 =>
 .ld (x24.add 3) (.int .i64) fun x26 =>
 lkN p0 fun x29 =>
 .ld (x29.add 2) (.int .i64) fun x31 =>
 lkN p0 fun x33 =>
 .ld x33 .ptr fun x35 =>
 lkN x35 fun x36 =>
 .ld (x36.add 2) (.int .i64) fun x38 =>
 .call kK [(.int .i64 x26), (.int .i64 x9.1), (.int .i64 x31), (.int .i64 x38)] (.one (.leaf .ptr)) fun x39 =>
 lkN p0 fun x40 =>
 .st (x40.add 7) (.int .i64 x9.1) <|
 lkN p0 fun x42 =>
 .st (x42.add 3) (.int .i64 2) <|
 lkN p0 fun x44 =>
 .st (x44.add 5) (.pointer x39) <|
 .ret (.tuple #[]))
 else (
 .ret (.tuple #[]))
theorem nH {p0 : Option Addr} : SpT iK #[(.pointer p0)] (lr p0) := spT bU Tryz.func62 (by kernel_rfl)
noncomputable def pY (p0 : Option Addr) (p1 : Option Addr) : Tree :=
 lkN p0 fun x8 =>
 .ld x8 .ptr fun x10 =>
 lkN p0 fun x12 =>
 .ld (x12.add 3) (.int .i64) fun x14 =>
 bif ((x14 : Int) == 0) then (
 .call dc [(.pointer x10), (.int .i64 0)] (.one (.leaf (.int .i64))) fun x20 =>
 .call bQ [(.pointer p1), (.int .i64 x20)] (.one (.leaf (.int .i64))) fun x21 =>
 lkN p0 fun x22 =>
 .st (x22.add 2) (.int .i64 x21) <|
 lkN p0 fun x25 =>
 .st (x25.add 3) (.int .i64 5) <|
 lkN x10 fun x28 =>
 .ld (x28.add 2) (.int .i64) fun x30 =>
 lkN p0 fun x32 =>
 .ld (x32.add 2) (.int .i64) fun x34 =>
 lkN x10 fun x37 =>
 .ld (x37.add 3) (.int .i64) fun x39 =>
 .cU pS [(.int .i64 x39)] (.one (.leaf (.int .i64))) fun x40 =>
 bif (decide (((w64 (x30 - x34)) : Int) ≥ x40)) then (
 .call lq [(.pointer p0)] .unit fun _ =>
 lkN p0 fun x170 =>
 .ld (x170.add 3) (.int .i64) fun x172 =>
 .ret (.bool ((x172 : Int) == 7)))
 else (
 lkN p0 fun x170 =>
 .ld (x170.add 3) (.int .i64) fun x172 =>
 .ret (.bool ((x172 : Int) == 7))))
 else (
 bif ((x14 : Int) == 1) then (
 lkN p0 fun x47 =>
 .ld (x47.add 4) .ptr fun x49 =>
 .call jg [(.pointer x49), (.pointer p1)] (.one (.leaf .bool)) fun x51 =>
 bif x51 then (
 .call iK [(.pointer p0)] .unit fun _ =>
 lkN p0 fun x170 =>
 .ld (x170.add 3) (.int .i64) fun x172 =>
 .ret (.bool ((x172 : Int) == 7)))
 else (
 lkN p0 fun x170 =>
 .ld (x170.add 3) (.int .i64) fun x172 =>
 .ret (.bool ((x172 : Int) == 7))))
 else (
 bif ((x14 : Int) == 2) then (
 lkN p0 fun x57 =>
 .ld (x57.add 5) .ptr fun x59 =>
 .call fF [(.pointer x59), (.pointer p1)] (.one (.leaf .bool)) fun x61 =>
 bif x61 then (
 lkN p0 fun x63 =>
 .st (x63.add 3) (.int .i64 3) <|
 lkN p0 fun x170 =>
 .ld (x170.add 3) (.int .i64) fun x172 =>
 .ret (.bool ((x172 : Int) == 7)))
 else (
 lkN p0 fun x170 =>
 .ld (x170.add 3) (.int .i64) fun x172 =>
 .ret (.bool ((x172 : Int) == 7))))
 else (
 bif ((x14 : Int) == 3) then (
 lkN p0 fun x71 =>
 .ld (x71.add 7) (.int .i64) fun x73 =>
 .call dc [(.pointer x10), (.int .i64 2)] (.one (.leaf (.int .i64))) fun x69 =>
 .check (ldS (x71.add 7)) (.int .i64 x73) <|
 .check (nck p0) (.pointer (some x71)) <|
 .call bV [(.pointer p1), (.int .i64 x69), (.int .i64 x73)] .unit fun _ =>
 lkN x10 fun x76 =>
 .ld (x76.add 3) (.int .i64) fun x78 =>
 lkN p0 fun x81 =>
 .ld (x81.add 7) (.int .i64) fun x83 =>
 lkN x10 fun x84 =>
 .st (x84.add 3) (.int .i64 x83) <|
 lkN x10 fun x88 =>
 .ld (x88.add 9) .ptr fun x90 =>
 lkN x10 fun x93 =>
 .ld (x93.add 1) (.int .i64) fun x95 =>
 .call fP [(.pointer x90), (.pointer p1), (.int .i64 x95), (.int .i64 x78)] (.one (.leaf .val)) fun x97 =>
 lkN p0 fun x98 =>
 .act (opS Tryz.prog (.store aA (.tmp 0) (.tmp 1)) aF [(.pointer (some (x98.add 6))), x97]) .unit fun _ =>
 lkN p0 fun x101 =>
 .st (x101.add 3) (.int .i64 4) <|
 lkN p0 fun x104 =>
 .ld (x104.add 6) .val fun x106 =>
 .look (opS Tryz.prog (.binOp .eql aA (.tmp 0) (.const .nilIface) aA) aO [x106]) (.one (.leaf .bool)) fun x107 =>
 bif x107 then (
 lkN p0 fun x109 =>
 .st (x109.add 3) (.int .i64 5) <|
 lkN p0 fun x170 =>
 .ld (x170.add 3) (.int .i64) fun x172 =>
 .ret (.bool ((x172 : Int) == 7)))
 else (
 lkN p0 fun x170 =>
 .ld (x170.add 3) (.int .i64) fun x172 =>
 .ret (.bool ((x172 : Int) == 7))))
 else (
 bif ((x14 : Int) == 4) then (
 lkN p0 fun x114 =>
 .ld (x114.add 6) .val fun x116 =>
 .act (opS Tryz.prog (.call { callee := .invoke (.tmp 0) "Step", args := #[(.tmp 1)], argTypes := #[aK] }) aO [x116, (.pointer p1)]) (.one (.leaf .bool)) fun x118 =>
 bif x118 then (
 lkN p0 fun x120 =>
 .st (x120.add 3) (.int .i64 5) <|
 lkN p0 fun x170 =>
 .ld (x170.add 3) (.int .i64) fun x172 =>
 .ret (.bool ((x172 : Int) == 7)))
 else (
 lkN p0 fun x170 =>
 .ld (x170.add 3) (.int .i64) fun x172 =>
 .ret (.bool ((x172 : Int) == 7))))
 else (
 bif ((x14 : Int) == 5) then (
 lkN x10 fun x126 =>
 .ld (x126.add 3) (.int .i64) fun x128 =>
 lkN x10 fun x130 =>
 .ld (x130.add 3) (.int .i64) fun x132 =>
 lkN x10 fun x134 =>
 .ld (x134.add 2) (.int .i64) fun x136 =>
 lkN p0 fun x139 =>
 .ld (x139.add 1) (.int .i64) fun x141 =>
 .call mj [(.int .i64 x132), (.int .i64 x136)] (.one (.leaf (.int .i64))) fun x137 =>
 .check (ldS (x139.add 1)) (.int .i64 x141) <|
 .check (nck p0) (.pointer (some x139)) <|
 .check (ldS (x126.add 3)) (.int .i64 x128) <|
 .check (nck x10) (.pointer (some x126)) <|
 .call fx [(.pointer p1), (.int .i64 x128), (.int .i64 x137), (.int .i64 x141)] .unit fun _ =>
 lkN p0 fun x144 =>
 .st (x144.add 3) (.int .i64 6) <|
 lkN p0 fun x170 =>
 .ld (x170.add 3) (.int .i64) fun x172 =>
 .ret (.bool ((x172 : Int) == 7)))
 else (
 bif ((x14 : Int) == 6) then (
 lkN x10 fun x149 =>
 .ld (x149.add 2) (.int .i64) fun x151 =>
 lkN x10 fun x153 =>
 .st (x153.add 2) (.int .i64 (w64 (x151 + 1))) <|
 lkN x10 fun x159 =>
 .ld (x159.add 2) (.int .i64) fun x161 =>
 .call dc [(.pointer x10), (.int .i64 1)] (.one (.leaf (.int .i64))) fun x157 =>
 .check (ldS (x159.add 2)) (.int .i64 x161) <|
 .check (nck x10) (.pointer (some x159)) <|
 .call bV [(.pointer p1), (.int .i64 x157), (.int .i64 x161)] .unit fun _ =>
 lkN p0 fun x165 =>
 .st (x165.add 3) (.int .i64 7) <|
 lkN p0 fun x167 =>
 .st (x167.add 8) (.bool true) <|
 lkN p0 fun x170 =>
 .ld (x170.add 3) (.int .i64) fun x172 =>
 .ret (.bool ((x172 : Int) == 7)))
 else (
 lkN p0 fun x170 =>
 .ld (x170.add 3) (.int .i64) fun x172 =>
 .ret (.bool ((x172 : Int) == 7)))))))))
theorem sD {p0 : Option Addr} {p1 : Option Addr} : SpT gU #[(.pointer p0), (.pointer p1)] (pY p0 p1) := spT bU Tryz.func22 (by kernel_rfl)
noncomputable def pX (p0 : Option Addr) : Tree :=
 lkN p0 fun x4 =>
 .ld (x4.add 8) .bool fun x6 =>
 .ret (.bool x6)
theorem tz {p0 : Option Addr} : SpT gY #[(.pointer p0)] (pX p0) := spT bU Tryz.func23 (by kernel_rfl)
noncomputable def qJ (p0 : Option Addr) (p1 : Option Addr) : Tree :=
 lkN p0 fun x7 =>
 .ld x7 .ptr fun x9 =>
 lkN p0 fun x11 =>
 .ld (x11.add 2) (.int .i64) fun x13 =>
 bif ((x13 : Int) == 0) then (
 lkN x9 fun x25 =>
 .ld (x25.add 2) (.int .i64) fun x27 =>
 lkN x9 fun x29 =>
 .st (x29.add 2) (.int .i64 (w64 (x27 - 1))) <|
 lkN x9 fun x35 =>
 .ld (x35.add 2) (.int .i64) fun x37 =>
 .call dc [(.pointer x9), (.int .i64 1)] (.one (.leaf (.int .i64))) fun x33 =>
 .check (ldS (x35.add 2)) (.int .i64 x37) <|
 .check (nck x9) (.pointer (some x35)) <|
 .call bV [(.pointer p1), (.int .i64 x33), (.int .i64 x37)] .unit fun _ =>
 lkN p0 fun x40 =>
 .st (x40.add 2) (.int .i64 1) <|
 lkN p0 fun x143 =>
 .ld (x143.add 2) (.int .i64) fun x145 =>
 .ret (.bool ((x145 : Int) == 5)))
 else (
 bif ((x13 : Int) == 1) then (
 .call dc [(.pointer x9), (.int .i64 0)] (.one (.leaf (.int .i64))) fun x45 =>
 .call bQ [(.pointer p1), (.int .i64 x45)] (.one (.leaf (.int .i64))) fun x46 =>
 lkN p0 fun x47 =>
 .st (x47.add 1) (.int .i64 x46) <|
 lkN p0 fun x50 =>
 .st (x50.add 2) (.int .i64 2) <|
 lkN p0 fun x53 =>
 .ld (x53.add 1) (.int .i64) fun x55 =>
 lkN x9 fun x57 =>
 .ld (x57.add 2) (.int .i64) fun x59 =>
 bif (decide ((x55 : Int) > x59)) then (
 lkN p0 fun x62 =>
 .st (x62.add 2) (.int .i64 4) <|
 lkN p0 fun x143 =>
 .ld (x143.add 2) (.int .i64) fun x145 =>
 .ret (.bool ((x145 : Int) == 5)))
 else (
 lkN p0 fun x143 =>
 .ld (x143.add 2) (.int .i64) fun x145 =>
 .ret (.bool ((x145 : Int) == 5))))
 else (
 bif ((x13 : Int) == 2) then (
 lkN x9 fun x67 =>
 .ld (x67.add 3) (.int .i64) fun x69 =>
 lkN x9 fun x71 =>
 .ld (x71.add 3) (.int .i64) fun x73 =>
 lkN x9 fun x75 =>
 .ld (x75.add 2) (.int .i64) fun x77 =>
 .call mj [(.int .i64 x73), (.int .i64 x77)] (.one (.leaf (.int .i64))) fun x78 =>
 .check (ldS (x67.add 3)) (.int .i64 x69) <|
 .check (nck x9) (.pointer (some x67)) <|
 .call dK [(.pointer p1), (.int .i64 x69), (.int .i64 x78)] (.one (.leaf (.int .i64))) fun x79 =>
 lkN p0 fun x80 =>
 .st (x80.add 3) (.int .i64 x79) <|
 lkN p0 fun x83 =>
 .st (x83.add 2) (.int .i64 3) <|
 lkN p0 fun x86 =>
 .ld (x86.add 1) (.int .i64) fun x88 =>
 lkN x9 fun x90 =>
 .ld (x90.add 2) (.int .i64) fun x92 =>
 bif (decide ((x88 : Int) < x92)) then (
 lkN p0 fun x96 =>
 .st (x96.add 2) (.int .i64 5) <|
 lkN p0 fun x98 =>
 .st (x98.add 4) (.bool true) <|
 lkN p0 fun x143 =>
 .ld (x143.add 2) (.int .i64) fun x145 =>
 .ret (.bool ((x145 : Int) == 5)))
 else (
 lkN p0 fun x143 =>
 .ld (x143.add 2) (.int .i64) fun x145 =>
 .ret (.bool ((x145 : Int) == 5))))
 else (
 bif ((x13 : Int) == 3) then (
 lkN p0 fun x105 =>
 .ld (x105.add 1) (.int .i64) fun x107 =>
 lkN p0 fun x109 =>
 .ld (x109.add 1) (.int .i64) fun x111 =>
 .call dc [(.pointer x9), (.int .i64 0)] (.one (.leaf (.int .i64))) fun x103 =>
 .check (ldS (x109.add 1)) (.int .i64 x111) <|
 .check (nck p0) (.pointer (some x109)) <|
 .check (ldS (x105.add 1)) (.int .i64 x107) <|
 .check (nck p0) (.pointer (some x105)) <|
 .call cE [(.pointer p1), (.int .i64 x103), (.int .i64 x107), (.int .i64 (w64 (x111 + 1)))] (.one (.leaf .bool)) fun x113 =>
 lkN p0 fun x114 =>
 .st (x114.add 4) (.bool x113) <|
 lkN p0 fun x117 =>
 .ld (x117.add 2) (.int .i64) fun x119 =>
 bif ((x119 : Int) == 3) then (
 lkN p0 fun x122 =>
 .st (x122.add 2) (.int .i64 4) <|
 lkN p0 fun x143 =>
 .ld (x143.add 2) (.int .i64) fun x145 =>
 .ret (.bool ((x145 : Int) == 5)))
 else (
 lkN x9 fun x125 =>
 .ld (x125.add 2) (.int .i64) fun x127 =>
 lkN x9 fun x129 =>
 .st (x129.add 2) (.int .i64 (w64 (x127 + 1))) <|
 lkN x9 fun x135 =>
 .ld (x135.add 2) (.int .i64) fun x137 =>
 .call dc [(.pointer x9), (.int .i64 1)] (.one (.leaf (.int .i64))) fun x133 =>
 .check (ldS (x135.add 2)) (.int .i64 x137) <|
 .check (nck x9) (.pointer (some x135)) <|
 .call bV [(.pointer p1), (.int .i64 x133), (.int .i64 x137)] .unit fun _ =>
 lkN p0 fun x140 =>
 .st (x140.add 2) (.int .i64 5) <|
 lkN p0 fun x143 =>
 .ld (x143.add 2) (.int .i64) fun x145 =>
 .ret (.bool ((x145 : Int) == 5))))
 else (
 bif ((x13 : Int) == 4) then (
 lkN p0 fun x117 =>
 .ld (x117.add 2) (.int .i64) fun x119 =>
 bif ((x119 : Int) == 3) then (
 lkN p0 fun x122 =>
 .st (x122.add 2) (.int .i64 4) <|
 lkN p0 fun x143 =>
 .ld (x143.add 2) (.int .i64) fun x145 =>
 .ret (.bool ((x145 : Int) == 5)))
 else (
 lkN x9 fun x125 =>
 .ld (x125.add 2) (.int .i64) fun x127 =>
 lkN x9 fun x129 =>
 .st (x129.add 2) (.int .i64 (w64 (x127 + 1))) <|
 lkN x9 fun x135 =>
 .ld (x135.add 2) (.int .i64) fun x137 =>
 .call dc [(.pointer x9), (.int .i64 1)] (.one (.leaf (.int .i64))) fun x133 =>
 .check (ldS (x135.add 2)) (.int .i64 x137) <|
 .check (nck x9) (.pointer (some x135)) <|
 .call bV [(.pointer p1), (.int .i64 x133), (.int .i64 x137)] .unit fun _ =>
 lkN p0 fun x140 =>
 .st (x140.add 2) (.int .i64 5) <|
 lkN p0 fun x143 =>
 .ld (x143.add 2) (.int .i64) fun x145 =>
 .ret (.bool ((x145 : Int) == 5))))
 else (
 lkN p0 fun x143 =>
 .ld (x143.add 2) (.int .i64) fun x145 =>
 .ret (.bool ((x145 : Int) == 5)))))))
theorem tV {p0 : Option Addr} {p1 : Option Addr} : SpT iz #[(.pointer p0), (.pointer p1)] (qJ p0 p1) := spT bU Tryz.func24 (by kernel_rfl)
noncomputable def pF (p0 : Option Addr) : Tree :=
 lkN p0 fun x5 =>
 .ld (x5.add 4) .bool fun x7 =>
 bif (!x7) then (
 .ret (.tuple #[(.int .i64 0), (.bool false)]))
 else (
 lkN p0 fun x11 =>
 .ld (x11.add 2) (.int .i64) fun x13 =>
 bif ((x13 : Int) != 5) then (
 .ret (.tuple #[(.int .i64 0), (.bool false)]))
 else (
 lkN p0 fun x17 =>
 .ld (x17.add 3) (.int .i64) fun x19 =>
 .ret (.tuple #[(.int .i64 x19), (.bool true)])))
theorem s6 {p0 : Option Addr} : SpT fR #[(.pointer p0)] (pF p0) := spT bU Tryz.func25 (by kernel_rfl)
structure Cm where
  f : Int
  t : Int
  at_ : Int
  fin : Int
  v : Int
  has : Bool
def Cm.cp (x : Cm) (j : Nat × Nat × Nat) : Cp := ⟨j.1, j.2.1, j.2.2, x.f, x.t, x.at_, x.fin, x.v, x.has⟩
def Cm.bl (x : Cm) (j : Nat × Nat × Nat) : Bl := [(j.1, (x.cp j).obj), (j.2.1, Cp.env x.f), (j.2.2, Cp.env x.t)]
def Cm.step (x : Cm) (A : Ar) : Cm × Ar :=
  if x.fin ≤ x.at_ then (x, A)
  else if x.has = false then ({ x with v := A.bA x.f (dB x.f x.at_), has := true }, A.gp x.f (dB x.f x.at_))
  else ({ x with at_ := w64 (x.at_ + 1), has := false }, A.bW x.t (dB x.t x.at_) x.v)
def mCp : Mch Cm (Nat × Nat × Nat) where
  f := fF
  addr := fun j => j.1
  bl := Cm.bl
  inv := fun _ _ => True
  step := Cm.step
  fin := fun x => decide (x.fin ≤ x.at_)
theorem Co (x : Cm) (j : Nat × Nat × Nat) (G : Heap) : dO (x.bl j) G = (x.cp j).put G := by
  funext y
  show (((G.set j.2.2 (Cp.env x.t)).set j.2.1 (Cp.env x.f)).set j.1 (x.cp j).obj) y = (if y = j.1 then some (x.cp j).obj else if y = j.2.1 then some (Cp.env x.f) else if y = j.2.2 then some (Cp.env x.t) else G y)
  unfold Heap.set
  rfl
theorem On {I : List Nat} {A : Ar} {G : Heap} {x : Cm} {j : Nat × Nat × Nat} (hA : Aw I A) (ok : Ok I G (keys (x.bl j))) : (x.cp j).ok A := by
  have nd : [j.1, j.2.1, j.2.2].Nodup := ok.nd
  have out : ∀ b ∈ [j.1, j.2.1, j.2.2], b ∉ I := ok.out
  simp only [List.nodup_cons, List.mem_cons, not_or, List.not_mem_nil, not_false_eq_true, and_true] at nd
  have hi := hA.ids
  refine ⟨nd.1.1, nd.1.2, nd.2.1, ?_, ?_, ?_⟩
  · rw [hi]; exact out j.1 (by simp)
  · rw [hi]; exact out j.2.1 (by simp)
  · rw [hi]; exact out j.2.2 (by simp)
theorem Nn : mCp.ok := by
  intro I A G x j hA ok hi
  have hC := On hA ok
  have hp : Value.pointer (aI I) = pA A := hA.pA
  have e0 : own A (x.bl j) G = A.put ((x.cp j).put G) := by unfold own; rw [Co]
  show cB Tryz.prog fF #[.pointer (some ⟨j.1, 0, none⟩), .pointer (aI I)] (own A (x.bl j) G) fun v K => ∃ j', v = .bool (decide ((x.step A).1.fin ≤ (x.step A).1.at_)) ∧ K = own (x.step A).2 ((x.step A).1.bl j') G ∧ j'.1 = j.1 ∧ Ok I G (keys ((x.step A).1.bl j')) ∧ Aw I (x.step A).2
  rw [e0, hp]
  unfold Cm.step
  by_cases h1 : x.fin ≤ x.at_
  · rw [if_pos h1]
    refine (IJ (C := x.cp j) hC h1 G).mono ?_
    rintro v K ⟨rfl, rfl⟩
    exact ⟨j, by rw [decide_eq_true h1], e0.symm, rfl, ok, hA⟩
  · rw [if_neg h1]
    have h1' : x.at_ < x.fin := by omega
    by_cases h2 : x.has = false
    · rw [if_pos h2]
      refine (GV (C := x.cp j) hA.wf hC h1' h2 G).mono ?_
      rintro v K ⟨rfl, rfl⟩
      refine ⟨j, by rw [decide_eq_false h1], ?_, rfl, ok, hA.gp _ _⟩
      unfold own; rw [Co]; rfl
    · rw [if_neg h2]
      refine (EZ (C := x.cp j) hA.wf hC h1' (show x.has = true by simpa using h2) G).mono ?_
      rintro v K ⟨rfl, rfl⟩
      refine ⟨j, rfl, ?_, rfl, ok, hA.bW _ _ _⟩
      unfold own; rw [Co]; rfl
section
variable {L : aZ} {R : Value → Heap → Prop} {G : Heap} {l rest : Bl} {A A' : Ar} {I : List Nat}
theorem HD {f t a b : Int} {k : Option Addr → Tree} (hA : Aw I A) (ok : Ok I G (keys l)) (h : ∀ j : Nat × Nat × Nat, Ok I G (keys (Cm.bl ⟨f, t, a, b, 0, false⟩ j ++ l)) → wp Tryz.prog (k (some ⟨j.1, 0, none⟩)) L (own A (Cm.bl ⟨f, t, a, b, 0, false⟩ j ++ l) G) R) :
    wp Tryz.prog (.call kK [.int .i64 f, .int .i64 t, .int .i64 a, .int .i64 b] (.one (.leaf .ptr)) k) L (own A l G) R := by
  refine FA (J := Nat × Nat × Nat) (bl := Cm.bl ⟨f, t, a, b, 0, false⟩) (val := fun j => some ⟨j.1, 0, none⟩) (fun G => ?_) ok h
  refine (BE (A := A) f t a b G).mono ?_
  rintro v K ⟨C, hC, hid, h1, h2, h3, h4, h5, h6, rfl, rfl⟩
  obtain ⟨q, e1, e2, f', t', a', b', v', has'⟩ := C
  have h1 : f' = f := h1
  have h2 : t' = t := h2
  have h3 : a' = a := h3
  have h4 : b' = b := h4
  have h5 : v' = 0 := h5
  have h6 : has' = false := h6
  subst h1 h2 h3 h4 h5 h6
  refine ⟨(q, e1, e2), rfl, ?_, ⟨?_, fun b hb => ?_, fun b hb => hid b hb⟩⟩
  · unfold own; rw [Co]; rfl
  · show [q, e1, e2].Nodup
    have hc := hC
    obtain ⟨c1, c2, c3, _⟩ := hc
    have c1 : q ≠ e1 := c1
    have c2 : q ≠ e2 := c2
    have c3 : e1 ≠ e2 := c3
    simp [c1, c2, c3]
  · have hb : b ∈ [q, e1, e2] := hb
    obtain ⟨_, _, _, c4, c5, c6⟩ := hC
    rw [hA.ids] at c4 c5 c6
    simp only [List.mem_cons, List.not_mem_nil, or_false] at hb
    rcases hb with rfl | rfl | rfl
    · exact c4
    · exact c5
    · exact c6
structure DOw where
  at_ : Int
  work : Int
  b : Int
  h : Int
  pl : Pl
def owC (o : DOw) (q : Nat) : List Value := [.int .i64 o.at_, .int .i64 o.work, .int .i64 o.b, .int .i64 o.h, .int .i64 o.pl.work, .int .i64 o.pl.heads, .int .i64 o.pl.links, .int .i64 o.pl.gens, .int .i64 o.pl.carved, .pointer (some ⟨q, 0, none⟩)]
def dw (at_ work k : Int) : Int := at_ + 3 * work + k
structure DOw.bnd (o : DOw) : Prop where
  a : 0 ≤ o.at_ ∧ o.at_ ≤ 1000000
  w : 0 ≤ o.work ∧ o.work ≤ 1000
theorem yq (a w k : Int) (ha : 0 ≤ a ∧ a ≤ 1000000) (hw : 0 ≤ w ∧ w ≤ 1000) (hk : 0 ≤ k ∧ k ≤ 10) (H : Heap) : Det Tryz.prog lz [.int .i64 a, .int .i64 w, .int .i64 k] H (.int .i64 (dw a w k)) H := by
  refine wB fun L => ?_
  unfold wV
  refine ad ⟨?_, rfl⟩
  rw [aE (x := 3 * w) (by omega) (by omega), aE (x := a + 3 * w) (by omega) (by omega), aE (by omega) (by omega)]; rfl
theorem Jj (w n : Int) (hw : 0 ≤ w ∧ w ≤ 1000) (H : Heap) : Det Tryz.prog uG [.int .i64 w, .int .i64 n] H (.int .i64 (3 * w)) H := by
  refine yc fun L => ?_
  unfold yM
  refine ad ⟨?_, rfl⟩
  have e1 : imax w 0 = w := by unfold imax; rw [if_neg (by omega)]
  rw [e1, aE (by omega) (by omega)]
theorem pH (i : Nat) {o : DOw} {q ob : Nat} {n : Int} {k : Int → Tree} (hb : o.bnd) (hn : 0 ≤ n ∧ n ≤ 10) (hA : Aw I A) (ok : Ok I G (keys l)) (hi : l[i]? = some (ob, oc aC (owC o q))) (h : wp Tryz.prog (k (dw o.at_ o.work n)) L (own A l G) R) :
    wp Tryz.prog (.call dc [.pointer (some ⟨ob, 0, none⟩), .int .i64 n] (.one (.leaf (.int .i64))) k) L (own A l G) R := by
  refine ax (x := dw o.at_ o.work n) (H' := own A l G) ?_ h
  refine tN fun L => ?_
  unfold rI
  refine aa.2 (aS i (x := o.at_) hA ok rfl hi rfl (aa.2 (aS i (x := o.work) hA ok rfl hi rfl ?_)))
  refine bc (x := dw o.at_ o.work n) (yq _ _ _ hb.a hb.w hn _) ?_
  exact ad ⟨rfl, rfl⟩
end
def alV : Option Al → Nat × Nat × Nat → Value
  | none, _ => .pointer none
  | some _, j => .pointer (some ⟨j.1, 0, none⟩)
def alX : Option Al → Nat × Nat × Nat → Option Addr
  | none, _ => none
  | some _, j => some ⟨j.1, 0, none⟩
def jL : Option Al → Nat × Nat × Nat → Bl
  | none, _ => []
  | some a, j => a.bl j
structure Ps where
  g : Gd
  ls : Int → List (Int × Int)
  o : DOw
  v : Int
  t : Int
  what : Int
  alloc : Option Al
  copy : Option Cm
  old : Option Lk
  now : Int
  bS : Bool
structure PsJ where
  b : Nat
  ob : Nat
  e : List LE
  lj : LkJ
  aj : Nat × Nat × Nat
  cj : Nat × Nat × Nat
  ov : Value
  gar : Bl
def cpX : Option Cm → Nat × Nat × Nat → Option Addr
  | none, _ => none
  | some _, j => some ⟨j.1, 0, none⟩
def jj : Option Cm → Nat × Nat × Nat → Bl
  | none, _ => []
  | some a, j => a.bl j
def gmW : Option Lk → LkJ → Value → Value
  | none, _, v => v
  | some _, j, _ => .iface b9 (.pointer (some ⟨j.q, 0, none⟩))
def psC (ob : Nat) (v t what : Int) (ap cp : Option Addr) (ov : Value) (now : Int) (bS : Bool) : List Value := [.pointer (some ⟨ob, 0, none⟩), .int .i64 v, .int .i64 t, .int .i64 what, .pointer ap, .pointer cp, ov, .int .i64 now, .bool bS]
def Ps.bl (q mq : Nat) (x : Ps) (j : PsJ) : Bl := (j.b, oc aJ (psC j.ob x.v x.t x.what (alX x.alloc j.aj) (cpX x.copy j.cj) (gmW x.old j.lj j.ov) x.now x.bS)) :: (j.ob, oc aC (owC x.o q)) :: (gmB x.g q mq x.old j.e j.lj ++ (jL x.alloc j.aj ++ (jj x.copy j.cj ++ j.gar)))
def rV (h : Int) : Int := if cS h = true then kH h else 0
def Ps.grow (x : Ps) : Ps :=
  if w64 (rV x.o.h + 1) < 4 then { x with what := 1, alloc := some (mf x.o.pl x.o.work (w64 (rV x.o.h + 1))) } else { x with what := 7 }
def Ps.got (x : Ps) (h : Int) : Ps :=
  if h ≠ 0 then { x with now := h, what := 2, copy := some ⟨x.o.h, h, x.t, x.o.b, 0, false⟩ } else { x with what := 7 }
def Ps.step (x : Ps) (A : Ar) : Ps × Ar :=
  if x.what = 0 then
    (if jZ x.o.h ≤ w64 (x.o.b - A.ao (dw x.o.at_ x.o.work 0)) then Ps.grow { x with t := A.ao (dw x.o.at_ x.o.work 0), what := 5 } else { x with t := A.ao (dw x.o.at_ x.o.work 0), what := 5 }, A.aV (dw x.o.at_ x.o.work 0))
  else if x.what = 1 then match x.alloc with
    | some a => (if mAl.fin (a.step A).1 = true then Ps.got { x with alloc := some (a.step A).1 } (a.step A).1.h else { x with alloc := some (a.step A).1 }, (a.step A).2)
    | none => (x, A)
  else if x.what = 2 then match x.copy with
    | some c => (if mCp.fin (c.step A).1 = true then { x with copy := some (c.step A).1, what := 3 } else { x with copy := some (c.step A).1 }, (c.step A).2)
    | none => (x, A)
  else if x.what = 3 then
    ({ x with o := { x.o with h := x.now }, old := kE x.g x.ls x.o.work x.o.h, ls := kd x.ls x.o.work (x.ls x.o.work ++ [(x.o.h, 0)]), what := if (kE x.g x.ls x.o.work x.o.h).isNone = true then 5 else 4 }, (A.aL (dw x.o.at_ x.o.work 2) x.now).aW x.o.h)
  else if x.what = 4 then match x.old with
    | some y => (if (y.step A).1.fin = true then { x with old := none, ls := (y.step A).1.ls, what := 5 } else { x with old := some (y.step A).1 }, (y.step A).2)
    | none => (x, A)
  else if x.what = 5 then ({ x with what := 6 }, A.bW x.o.h (dB x.o.h x.o.b) x.v)
  else if x.what = 6 then ({ x with o := { x.o with b := w64 (x.o.b + 1) }, what := 7, bS := true }, A.aL (dw x.o.at_ x.o.work 1) (w64 (x.o.b + 1)))
  else (x, A)
structure Ps.inv (x : Ps) (A : Ar) : Prop where
  wb : 1 ≤ x.g.w ∧ x.g.w ≤ 1000
  ob : x.o.bnd
  ll : (x.ls x.o.work).length < 1000
  al : x.what = 1 → ∃ a, x.alloc = some a ∧ mAl.inv a A
  cp : x.what = 2 → ∃ c, x.copy = some c
  ol : x.what ≠ 4 → x.old = none
  oy : x.what = 4 → ∃ y, x.old = some y ∧ y.inv A
def mPs (q mq ob : Nat) : sB Ps PsJ where
  f := gU
  addr := PsJ.b
  bl := Ps.bl q mq
  rep := fun x j => gmR x.g q mq x.ls x.old j.e j.lj ∧ j.ob = ob
  inv := Ps.inv
  step := Ps.step
  fin := fun x => (x.what : Int) == 7
theorem F3 (q mq ob : Nat) : (mPs q mq ob).vX cz := fun q p => by
  show opS _ _ _ _ = .pure (.enter gU [.pointer (some ⟨q, 0, none⟩), .pointer p].toArray)
  kernel_rfl
def PsP (q mq : Nat) (z : Ps × Ar) (j : PsJ) (I : List Nat) (G : Heap) : Value → Heap → Prop := fun v K => ∃ j' : PsJ, v = .bool ((z.1.what : Int) == 7) ∧ K = own z.2 (z.1.bl q mq j') G ∧ (j'.b = j.b ∧ j'.ob = j.ob) ∧ Ok I G (keys (z.1.bl q mq j')) ∧ gmR z.1.g q mq z.1.ls z.1.old j'.e j'.lj ∧ Aw I z.2
section
variable {L : aZ} {R : Value → Heap → Prop} {G : Heap} {l rest : Bl} {A A' : Ar} {I : List Nat} {q mq : Nat}
theorem l5 {x : Ps} {j j0 : PsJ} (hj : j.b = j0.b ∧ j.ob = j0.ob) (hA : Aw I A) (ok : Ok I G (keys (x.bl q mq j))) (rp : gmR x.g q mq x.ls x.old j.e j.lj) :
    wp Tryz.prog (.look (opS Tryz.prog (.nilCheck (.tmp 0)) aF [(.pointer (some ⟨j0.b, 0, none⟩))]) (.one (.leaf .addr)) fun x170 =>
      .ld (x170.add 3) (.int .i64) fun x172 =>
      .ret (.bool ((x172 : Int) == 7))) L (own A (x.bl q mq j) G) (PsP q mq (x, A) j0 I G) := by
  rw [← hj.1]
  refine aa.2 (aS 0 (x := x.what) hA ok rfl rfl rfl ?_)
  exact ad ⟨j, rfl, rfl, hj, ok, rp, hA⟩
theorem GA {h : Int} {K : HL Sh1.T [(.leaf (.int .i64)), (.leaf (.int .i64)), (.leaf (.int .i64)), (.leaf .bool)] → Tree} {H : Heap} (hk : ∀ b g o, wp Tryz.prog (K (b, g, rV h, o, ())) L H R) :
    wp Tryz.prog (.cU dg [(.int .i64 h)] (.tup [(.leaf (.int .i64)), (.leaf (.int .i64)), (.leaf (.int .i64)), (.leaf .bool)]) K) L H R := by
  cases ho : cS h with
  | true =>
    refine bc (x := (rK h, xJ h, kH h, true, ())) (wN H (by unfold vT; rw [ho]; rfl)) ?_
    have := hk (rK h) (xJ h) true
    unfold rV at this
    rw [if_pos ho] at this
    exact this
  | false =>
    refine bc (x := (0, 0, 0, false, ())) (wN H (BC ho)) ?_
    have := hk 0 0 false
    unfold rV at this
    rw [if_neg (by rw [ho]; exact Bool.false_ne_true)] at this
    exact this
theorem H4 {c : Int} (h : c < 4) (h0 : 0 ≤ c) : au c ≠ 0 := by have := gk h0 h; omega
theorem M8 (h : Int) : 0 ≤ rV h ∧ rV h < 4 := by
  unfold rV
  split
  · rename_i ho
    have hv := (zC ho).1
    obtain ⟨_, _, _, _, h5, h6⟩ := hv
    exact ⟨h5, h6⟩
  · decide
theorem G0 (x : Ps) (j : PsJ) (hc : x.old = none) (hA : Aw I A) (ok : Ok I G (keys (x.bl q mq j))) (rp : gmR x.g q mq x.ls x.old j.e j.lj) :
    cB Tryz.prog lq #[.pointer (some ⟨j.b, 0, none⟩)] (own A (x.bl q mq j) G) fun v K => ∃ j' : PsJ, v = .tuple #[] ∧ K = own A (x.grow.bl q mq j') G ∧ (j'.b = j.b ∧ j'.ob = j.ob) ∧ Ok I G (keys (x.grow.bl q mq j')) ∧ gmR x.grow.g q mq x.grow.ls x.grow.old j'.e j'.lj := by
  refine sR fun L => ?_
  unfold pK
  obtain ⟨g, ls, o, v, t, what, alloc, copy, old, now, bS⟩ := x
  obtain ⟨b, ob, e, lj, aj, cj, ov, gar⟩ := j
  have hc : old = none := hc
  subst hc
  obtain ⟨rs, hrs⟩ : ∃ rs : Bl, rs = jL alloc aj ++ (jj copy cj ++ gar) := ⟨_, rfl⟩
  have ok : Ok I G (keys ((b, oc aJ (psC ob v t what (alX alloc aj) (cpX copy cj) ov now bS)) :: (ob, oc aC (owC o q)) :: (g.bl q mq e ++ rs))) := by rw [hrs]; exact ok
  have es : own A (Ps.bl q mq ⟨g, ls, o, v, t, what, alloc, copy, none, now, bS⟩ ⟨b, ob, e, lj, aj, cj, ov, gar⟩) G = own A ((b, oc aJ (psC ob v t what (alX alloc aj) (cpX copy cj) ov now bS)) :: (ob, oc aC (owC o q)) :: (g.bl q mq e ++ rs)) G := by rw [hrs]; rfl
  rw [es]
  refine aa.2 (aS 0 (x := some ⟨ob, 0, none⟩) hA ok rfl rfl rfl ?_)
  refine aa.2 (aS 1 (x := o.h) hA ok rfl rfl rfl ?_)
  refine GA fun b0 g0 o0 => ?_
  refine aa.2 (cA 0 hA ok rfl rfl rfl rfl ?_)
  have cb := M8 o.h
  have ew : w64 (rV o.h + 1) = rV o.h + 1 := aE (by omega) (by omega)
  by_cases h4 : w64 (rV o.h + 1) < 4
  · refine av (decide_eq_true h4) ?_
    have hz : Ps.grow ⟨g, ls, o, v, t, what, alloc, copy, none, now, bS⟩ = ⟨g, ls, o, v, t, 1, some (mf o.pl o.work (w64 (rV o.h + 1))), copy, none, now, bS⟩ := if_pos h4
    rw [hz]
    have ok2 : Ok I G (keys ((b, oc aJ (psC ob v t 7 (alX alloc aj) (cpX copy cj) ov now bS)) :: (ob, oc aC (owC o q)) :: (g.bl q mq e ++ rs))) := ok
    show wp Tryz.prog _ L (own A ((b, oc aJ (psC ob v t 7 (alX alloc aj) (cpX copy cj) ov now bS)) :: (ob, oc aC (owC o q)) :: (g.bl q mq e ++ rs)) G) _
    refine aa.2 (aS 0 (x := some ⟨ob, 0, none⟩) hA ok2 rfl rfl rfl ?_)
    refine aa.2 (fy 1 (x := (o.pl.work, o.pl.heads, o.pl.links, o.pl.gens, o.pl.carved, ())) hA ok2 rfl rfl rfl ?_)
    refine aa.2 (aS 0 (x := some ⟨ob, 0, none⟩) hA ok2 rfl rfl rfl ?_)
    refine aa.2 (aS 1 (x := o.work) hA ok2 rfl rfl rfl ?_)
    refine zH (p := o.pl) (w := o.work) (c := w64 (rV o.h + 1)) hA ok2 (by rw [ew]; exact H4 (by omega) (by omega)) fun aj' ok3 => ?_
    obtain ⟨c1, hc1⟩ : ∃ c1 : Nat × Obj, c1 = (b, oc aJ (psC ob v t 7 (alX alloc aj) (cpX copy cj) ov now bS)) := ⟨_, rfl⟩
    obtain ⟨c2, hc2⟩ : ∃ c2 : Nat × Obj, c2 = (ob, oc aC (owC o q)) := ⟨_, rfl⟩
    rw [← hc1, ← hc2] at ok3 ⊢
    rw [hrs] at ok3 ⊢
    obtain ⟨p1, ok4⟩ := aN (A := A) (l' := c1 :: c2 :: (g.bl q mq e ++ ((mf o.pl o.work (w64 (rV o.h + 1))).bl aj' ++ (jj copy cj ++ (jL alloc aj ++ gar))))) ok3 (aT fun c d c0 cd ca => by simp only [cd, ca, c0]; omega)
    rw [p1]
    rw [hc1, hc2] at ok4 ⊢
    refine aa.2 (cA 0 hA ok4 rfl rfl rfl rfl ?_)
    refine aa.2 (cA 0 hA (by exact ok4) rfl rfl rfl rfl ?_)
    exact ad ⟨⟨b, ob, e, lj, aj', cj, ov, jL alloc aj ++ gar⟩, rfl, rfl, ⟨rfl, rfl⟩, ok4, rp⟩
  · refine af (decide_eq_false h4) ?_
    have hz : Ps.grow ⟨g, ls, o, v, t, what, alloc, copy, none, now, bS⟩ = ⟨g, ls, o, v, t, 7, alloc, copy, none, now, bS⟩ := if_neg h4
    rw [hz]
    rw [hrs] at ok
    exact ad ⟨⟨b, ob, e, lj, aj, cj, ov, gar⟩, rfl, by rw [hrs]; rfl, ⟨rfl, rfl⟩, ok, rp⟩
theorem ER (x : Ps) (a : Al) (j : PsJ) (hx : x.alloc = some a) (hc : x.old = none) (hA : Aw I A) (ok : Ok I G (keys (x.bl q mq j))) (rp : gmR x.g q mq x.ls x.old j.e j.lj) :
    cB Tryz.prog iK #[.pointer (some ⟨j.b, 0, none⟩)] (own A (x.bl q mq j) G) fun v K => ∃ j' : PsJ, v = .tuple #[] ∧ K = own A ((x.got a.h).bl q mq j') G ∧ (j'.b = j.b ∧ j'.ob = j.ob) ∧ Ok I G (keys ((x.got a.h).bl q mq j')) ∧ gmR (x.got a.h).g q mq (x.got a.h).ls (x.got a.h).old j'.e j'.lj := by
  refine nH fun L => ?_
  unfold lr
  obtain ⟨g, ls, o, v, t, what, alloc, copy, old, now, bS⟩ := x
  obtain ⟨b, ob, e, lj, ⟨aq, aq0, aq1⟩, cj, ov, gar⟩ := j
  have hc : old = none := hc
  have hx : alloc = some a := hx
  subst hc hx
  obtain ⟨rs, hrs⟩ : ∃ rs : Bl, rs = jj copy cj ++ gar := ⟨_, rfl⟩
  have ok : Ok I G (keys ((b, oc aJ (psC ob v t what (some ⟨aq, 0, none⟩) (cpX copy cj) ov now bS)) :: (ob, oc aC (owC o q)) :: (g.bl q mq e ++ (a.bl (aq, aq0, aq1) ++ rs)))) := by rw [hrs]; exact ok
  have es : own A (Ps.bl q mq ⟨g, ls, o, v, t, what, some a, copy, none, now, bS⟩ ⟨b, ob, e, lj, (aq, aq0, aq1), cj, ov, gar⟩) G = own A ((b, oc aJ (psC ob v t what (some ⟨aq, 0, none⟩) (cpX copy cj) ov now bS)) :: (ob, oc aC (owC o q)) :: (g.bl q mq e ++ (a.bl (aq, aq0, aq1) ++ rs))) G := by rw [hrs]; rfl
  rw [es]
  refine aa.2 (aS 0 (x := some ⟨aq, 0, none⟩) hA ok rfl rfl rfl ?_)
  obtain ⟨c1, hc1⟩ : ∃ c1 : Nat × Obj, c1 = (b, oc aJ (psC ob v t what (some ⟨aq, 0, none⟩) (cpX copy cj) ov now bS)) := ⟨_, rfl⟩
  obtain ⟨c2, hc2⟩ : ∃ c2 : Nat × Obj, c2 = (ob, oc aC (owC o q)) := ⟨_, rfl⟩
  rw [← hc1, ← hc2] at ok ⊢
  obtain ⟨p1, ok2⟩ := aN (A := A) (l' := a.bl (aq, aq0, aq1) ++ (c1 :: c2 :: (g.bl q mq e ++ rs))) ok (aT fun c d c0 cd ca => by simp only [cd, ca, c0]; omega)
  rw [p1]
  refine C0 0 hA ok2 rfl ?_
  obtain ⟨p2, ok3⟩ := aN (A := A) (l' := c1 :: c2 :: (g.bl q mq e ++ (a.bl (aq, aq0, aq1) ++ rs))) ok2 (aT fun c d c0 cd ca => by simp only [cd, ca, c0]; omega)
  rw [p2, hc1]
  rw [hc1] at ok3
  refine aa.2 (cA 0 hA ok3 rfl rfl rfl rfl ?_)
  have ok4 : Ok I G (keys ((b, oc aJ (psC ob v t 7 (some ⟨aq, 0, none⟩) (cpX copy cj) ov now bS)) :: c2 :: (g.bl q mq e ++ (a.bl (aq, aq0, aq1) ++ rs)))) := ok3
  show wp Tryz.prog _ L (own A ((b, oc aJ (psC ob v t 7 (some ⟨aq, 0, none⟩) (cpX copy cj) ov now bS)) :: c2 :: (g.bl q mq e ++ (a.bl (aq, aq0, aq1) ++ rs))) G) _
  by_cases h0 : a.h = 0
  · refine af (Eh h0) ?_
    have hz : Ps.got ⟨g, ls, o, v, t, what, some a, copy, none, now, bS⟩ a.h = ⟨g, ls, o, v, t, 7, some a, copy, none, now, bS⟩ := if_neg (fun h => h h0)
    rw [hz]
    rw [hc2, hrs] at ok4
    exact ad ⟨⟨b, ob, e, lj, (aq, aq0, aq1), cj, ov, gar⟩, rfl, by rw [hc2, hrs]; rfl, ⟨rfl, rfl⟩, ok4, rp⟩
  · refine av (CT h0) ?_
    have hz : Ps.got ⟨g, ls, o, v, t, what, some a, copy, none, now, bS⟩ a.h = ⟨g, ls, o, v, t, 2, some a, some ⟨o.h, a.h, t, o.b, 0, false⟩, none, a.h, bS⟩ := if_pos h0
    rw [hz]
    rw [hc2] at ok4 ⊢
    refine aa.2 (aS 0 (x := some ⟨ob, 0, none⟩) hA ok4 rfl rfl rfl ?_)
    refine aa.2 (aS 1 (x := o.h) hA ok4 rfl rfl rfl ?_)
    refine aa.2 (aS 0 (x := t) hA ok4 rfl rfl rfl ?_)
    refine aa.2 (aS 0 (x := some ⟨ob, 0, none⟩) hA ok4 rfl rfl rfl ?_)
    refine aa.2 (aS 1 (x := o.b) hA ok4 rfl rfl rfl ?_)
    refine HD hA ok4 fun cj' ok5 => ?_
    obtain ⟨c3, hc3⟩ : ∃ c3 : Nat × Obj, c3 = (b, oc aJ (psC ob v t 7 (some ⟨aq, 0, none⟩) (cpX copy cj) ov now bS)) := ⟨_, rfl⟩
    rw [← hc2, ← hc3, hrs] at ok5 ⊢
    obtain ⟨p5, ok6⟩ := aN (A := A) (l' := c3 :: c2 :: (g.bl q mq e ++ (a.bl (aq, aq0, aq1) ++ (Cm.bl ⟨o.h, a.h, t, o.b, 0, false⟩ cj' ++ (jj copy cj ++ gar))))) ok5 (aT fun c d c0 cd ca => by simp only [cd, ca, c0]; omega)
    rw [p5]
    rw [hc3, hc2] at ok6 ⊢
    refine aa.2 (cA 0 hA ok6 rfl rfl rfl rfl ?_)
    refine aa.2 (cA 0 hA (by exact ok6) rfl rfl rfl rfl ?_)
    refine aa.2 (cA 0 hA (by exact ok6) rfl rfl rfl rfl ?_)
    exact ad ⟨⟨b, ob, e, lj, (aq, aq0, aq1), cj', ov, jj copy cj ++ gar⟩, rfl, rfl, ⟨rfl, rfl⟩, ok6, rp⟩
end
set_option maxHeartbeats 2000000 in
theorem EM (q mq ob : Nat) : (mPs q mq ob).ok := by
  rintro I A G x ⟨b, ob', e, lj, aj, cj, ov, gar⟩ hA ok ⟨rp, hob⟩ hi
  have hob : ob' = ob := hob
  subst hob
  have hi : x.inv A := hi
  have hwb := hi.wb
  have hbd := hi.ob
  have hll := hi.ll
  have hal := hi.al
  have hcp := hi.cp
  have hol := hi.ol
  have hoy := hi.oy
  refine cB.mono (R := PsP q mq (x.step A) ⟨b, ob', e, lj, aj, cj, ov, gar⟩ I G) ?_ ?_
  rotate_left
  · rintro v K ⟨j', rfl, rfl, ⟨a1, a2⟩, o, r, a⟩
    exact ⟨j', rfl, rfl, a1, o, ⟨r, a2⟩, a⟩
  obtain ⟨g, ls, o, v, t, what, alloc, copy, old, now, bS⟩ := x
  have hbd : o.bnd := hbd
  obtain ⟨z, hz0⟩ : ∃ z, z = Ps.step ⟨g, ls, o, v, t, what, alloc, copy, old, now, bS⟩ A := ⟨_, rfl⟩
  rw [← hz0]
  refine sD fun L => ?_
  unfold pY
  have ok : Ok I G (keys ((b, oc aJ (psC ob' v t what (alX alloc aj) (cpX copy cj) (gmW old lj ov) now bS)) :: (ob', oc aC (owC o q)) :: (gmB g q mq old e lj ++ (jL alloc aj ++ (jj copy cj ++ gar))))) := ok
  show wp Tryz.prog _ L (own A ((b, oc aJ (psC ob' v t what (alX alloc aj) (cpX copy cj) (gmW old lj ov) now bS)) :: (ob', oc aC (owC o q)) :: (gmB g q mq old e lj ++ (jL alloc aj ++ (jj copy cj ++ gar)))) G) _
  refine aa.2 (aS 0 (x := some ⟨ob', 0, none⟩) hA ok rfl rfl rfl ?_)
  refine aa.2 (aS 0 (x := what) hA ok rfl rfl rfl ?_)
  by_cases h0 : what = 0
  · have hz := hz0.trans (if_pos h0)
    refine av (j7 h0) ?_
    have hn : old = none := hol (by show what ≠ 4; omega)
    subst hn
    refine pH 1 (n := 0) hbd (by decide) hA ok rfl ?_
    refine uA hA fun hA1 => ?_
    refine aa.2 (cA 0 hA1 ok rfl rfl rfl rfl ?_)
    refine aa.2 (cA 0 hA1 (by exact ok) rfl rfl rfl rfl ?_)
    refine aa.2 (aS 1 (x := o.b) hA1 (by exact ok) rfl rfl rfl ?_)
    refine aa.2 (aS 0 (x := A.ao (dw o.at_ o.work 0)) hA1 (by exact ok) rfl rfl rfl ?_)
    refine aa.2 (aS 1 (x := o.h) hA1 (by exact ok) rfl rfl rfl ?_)
    refine bc (x := jZ o.h) (CH _ _) ?_
    obtain ⟨y, hy⟩ : ∃ y : Ps, y = ⟨g, ls, o, v, A.ao (dw o.at_ o.work 0), 5, alloc, copy, none, now, bS⟩ := ⟨_, rfl⟩
    have okY : Ok I G (keys (y.bl q mq ⟨b, ob', e, lj, aj, cj, ov, gar⟩)) := by rw [hy]; exact ok
    have rpY : gmR y.g q mq y.ls y.old e lj := by rw [hy]; exact rp
    have eo : own (A.aV (dw o.at_ o.work 0)) (y.bl q mq ⟨b, ob', e, lj, aj, cj, ov, gar⟩) G = own (A.aV (dw o.at_ o.work 0)) ((b, oc aJ (psC ob' v (A.ao (dw o.at_ o.work 0)) 5 (alX alloc aj) (cpX copy cj) ov now bS)) :: (ob', oc aC (owC o q)) :: (g.bl q mq e ++ (jL alloc aj ++ (jj copy cj ++ gar)))) G := by rw [hy]; rfl
    show wp Tryz.prog _ L (own (A.aV (dw o.at_ o.work 0)) ((b, oc aJ (psC ob' v (A.ao (dw o.at_ o.work 0)) 5 (alX alloc aj) (cpX copy cj) ov now bS)) :: (ob', oc aC (owC o q)) :: (g.bl q mq e ++ (jL alloc aj ++ (jj copy cj ++ gar)))) G) _
    rw [← eo]
    by_cases hr : jZ o.h ≤ w64 (o.b - A.ao (dw o.at_ o.work 0))
    · refine av (decide_eq_true hr) ?_
      have hz : z = (y.grow, A.aV (dw o.at_ o.work 0)) := by rw [hz, hy]; exact congrArg (fun s => (s, A.aV (dw o.at_ o.work 0))) (if_pos hr)
      rw [hz]
      refine aR (G0 (mq := mq) y ⟨b, ob', e, lj, aj, cj, ov, gar⟩ (by rw [hy]) hA1 okY rpY) ?_
      rintro v2 K ⟨j', rfl, rfl, hj, ok', rp'⟩
      exact ⟨(), rfl, l5 (j0 := ⟨b, ob', e, lj, aj, cj, ov, gar⟩) hj hA1 ok' rp'⟩
    · refine af (decide_eq_false hr) ?_
      have hz : z = (y, A.aV (dw o.at_ o.work 0)) := by rw [hz, hy]; exact congrArg (fun s => (s, A.aV (dw o.at_ o.work 0))) (if_neg hr)
      rw [hz]
      exact l5 (j := ⟨b, ob', e, lj, aj, cj, ov, gar⟩) (j0 := ⟨b, ob', e, lj, aj, cj, ov, gar⟩) ⟨rfl, rfl⟩ hA1 okY rpY
  have hz1 := hz0.trans (if_neg h0)
  refine af (iR h0) ?_
  by_cases h1 : what = 1
  · refine av (j7 h1) ?_
    have hn : old = none := hol (by show what ≠ 4; omega)
    subst hn
    obtain ⟨a, ha, hai⟩ := hal h1
    have ha : alloc = some a := ha
    subst ha
    have hz := hz1.trans (if_pos h1)
    obtain ⟨aq, aq0, aq1⟩ := aj
    refine aa.2 (aS 0 (x := some ⟨aq, 0, none⟩) hA ok rfl rfl rfl ?_)
    have ok : Ok I G (keys ((b, oc aJ (psC ob' v t what (some ⟨aq, 0, none⟩) (cpX copy cj) ov now bS)) :: (ob', oc aC (owC o q)) :: (g.bl q mq e ++ (a.bl (aq, aq0, aq1) ++ (jj copy cj ++ gar))))) := ok
    show wp Tryz.prog _ L (own A ((b, oc aJ (psC ob' v t what (some ⟨aq, 0, none⟩) (cpX copy cj) ov now bS)) :: (ob', oc aC (owC o q)) :: (g.bl q mq e ++ (a.bl (aq, aq0, aq1) ++ (jj copy cj ++ gar)))) G) _
    obtain ⟨c1, hc1⟩ : ∃ c1 : Nat × Obj, c1 = (b, oc aJ (psC ob' v t what (some ⟨aq, 0, none⟩) (cpX copy cj) ov now bS)) := ⟨_, rfl⟩
    obtain ⟨c2, hc2⟩ : ∃ c2 : Nat × Obj, c2 = (ob', oc aC (owC o q)) := ⟨_, rfl⟩
    rw [← hc1, ← hc2] at ok ⊢
    obtain ⟨p1, ok2⟩ := aN (A := A) (l' := a.bl (aq, aq0, aq1) ++ (c1 :: c2 :: (g.bl q mq e ++ (jj copy cj ++ gar)))) ok (aT fun c d c0 cd ca => by simp only [cd, ca, c0]; omega)
    rw [p1]
    rw [bP] at ok2
    obtain ⟨o1, o2⟩ := ok2.split
    refine rh (HY I A _ a (aq, aq0, aq1) hA o1 hai) ?_
    rintro v2 K ⟨⟨q', aq0', aq1'⟩, rfl, rfl, ha, o3, hA1⟩
    have ha : q' = aq := ha
    subst ha
    refine ⟨mAl.fin (a.step A).1, rfl, ?_⟩
    rw [← dY]
    have o4 : Ok I G (keys ((a.step A).1.bl (q', aq0', aq1') ++ (c1 :: c2 :: (g.bl q mq e ++ (jj copy cj ++ gar))))) := by rw [bP]; exact o3.join o2
    show wp Tryz.prog _ L (own (a.step A).2 ((a.step A).1.bl (q', aq0', aq1') ++ (c1 :: c2 :: (g.bl q mq e ++ (jj copy cj ++ gar)))) G) _
    have hA1 : Aw I (a.step A).2 := hA1
    have hz : z = (if mAl.fin (a.step A).1 = true then Ps.got ⟨g, ls, o, v, t, what, some (a.step A).1, copy, none, now, bS⟩ (a.step A).1.h else ⟨g, ls, o, v, t, what, some (a.step A).1, copy, none, now, bS⟩, (a.step A).2) := hz
    generalize (a.step A).2 = A2 at *
    generalize (a.step A).1 = a1 at *
    obtain ⟨p2, ok5⟩ := aN (A := A2) (l' := c1 :: c2 :: (g.bl q mq e ++ (a1.bl (q', aq0', aq1') ++ (jj copy cj ++ gar)))) o4 (aT fun c d c0 cd ca => by simp only [cd, ca, c0]; omega)
    rw [p2]
    rw [hc1, hc2] at ok5 ⊢
    cases hf : mAl.fin a1 with
    | true =>
      rw [hf, if_pos rfl] at hz
      rw [hz]
      refine av rfl ?_
      refine aR (ER (mq := mq) ⟨g, ls, o, v, t, what, some a1, copy, none, now, bS⟩ a1 ⟨b, ob', e, lj, (q', aq0', aq1'), cj, ov, gar⟩ rfl rfl hA1 ok5 rp) ?_
      rintro v2 K ⟨j', rfl, rfl, hj, ok', rp'⟩
      exact ⟨(), rfl, l5 (j0 := ⟨b, ob', e, lj, (q', aq0, aq1), cj, ov, gar⟩) hj hA1 ok' rp'⟩
    | false =>
      rw [hf, if_neg Bool.false_ne_true] at hz
      rw [hz]
      refine af rfl ?_
      exact l5 (x := ⟨g, ls, o, v, t, what, some a1, copy, none, now, bS⟩) (j := ⟨b, ob', e, lj, (q', aq0', aq1'), cj, ov, gar⟩) (j0 := ⟨b, ob', e, lj, (q', aq0, aq1), cj, ov, gar⟩) ⟨rfl, rfl⟩ hA1 ok5 rp
  have hz2 := hz1.trans (if_neg h1)
  refine af (iR h1) ?_
  by_cases h2 : what = 2
  · refine av (j7 h2) ?_
    have hn : old = none := hol (by show what ≠ 4; omega)
    subst hn
    obtain ⟨cc, hcc⟩ := hcp h2
    have hcc : copy = some cc := hcc
    subst hcc
    have hz := hz2.trans (if_pos h2)
    obtain ⟨aq, aq0, aq1⟩ := cj
    refine aa.2 (aS 0 (x := some ⟨aq, 0, none⟩) hA ok rfl rfl rfl ?_)
    have ok : Ok I G (keys ((b, oc aJ (psC ob' v t what (alX alloc aj) (some ⟨aq, 0, none⟩) ov now bS)) :: (ob', oc aC (owC o q)) :: (g.bl q mq e ++ (jL alloc aj ++ (cc.bl (aq, aq0, aq1) ++ gar))))) := ok
    show wp Tryz.prog _ L (own A ((b, oc aJ (psC ob' v t what (alX alloc aj) (some ⟨aq, 0, none⟩) ov now bS)) :: (ob', oc aC (owC o q)) :: (g.bl q mq e ++ (jL alloc aj ++ (cc.bl (aq, aq0, aq1) ++ gar)))) G) _
    obtain ⟨c1, hc1⟩ : ∃ c1 : Nat × Obj, c1 = (b, oc aJ (psC ob' v t what (alX alloc aj) (some ⟨aq, 0, none⟩) ov now bS)) := ⟨_, rfl⟩
    obtain ⟨c2, hc2⟩ : ∃ c2 : Nat × Obj, c2 = (ob', oc aC (owC o q)) := ⟨_, rfl⟩
    rw [← hc1, ← hc2] at ok ⊢
    obtain ⟨p1, ok2⟩ := aN (A := A) (l' := cc.bl (aq, aq0, aq1) ++ (c1 :: c2 :: (g.bl q mq e ++ (jL alloc aj ++ gar)))) ok (aT fun c d c0 cd ca => by simp only [cd, ca, c0]; omega)
    rw [p1]
    rw [bP] at ok2
    obtain ⟨o1, o2⟩ := ok2.split
    refine rh (Nn I A _ cc (aq, aq0, aq1) hA o1 trivial) ?_
    rintro v2 K ⟨⟨q', aq0', aq1'⟩, rfl, rfl, ha, o3, hA1⟩
    have ha : q' = aq := ha
    subst ha
    refine ⟨mCp.fin (cc.step A).1, rfl, ?_⟩
    rw [← dY]
    have o4 : Ok I G (keys ((cc.step A).1.bl (q', aq0', aq1') ++ (c1 :: c2 :: (g.bl q mq e ++ (jL alloc aj ++ gar))))) := by rw [bP]; exact o3.join o2
    show wp Tryz.prog _ L (own (cc.step A).2 ((cc.step A).1.bl (q', aq0', aq1') ++ (c1 :: c2 :: (g.bl q mq e ++ (jL alloc aj ++ gar)))) G) _
    have hA1 : Aw I (cc.step A).2 := hA1
    have hz : z = (if mCp.fin (cc.step A).1 = true then ⟨g, ls, o, v, t, 3, alloc, some (cc.step A).1, none, now, bS⟩ else ⟨g, ls, o, v, t, what, alloc, some (cc.step A).1, none, now, bS⟩, (cc.step A).2) := hz
    generalize (cc.step A).2 = A2 at *
    generalize (cc.step A).1 = cc1 at *
    obtain ⟨p2, ok5⟩ := aN (A := A2) (l' := c1 :: c2 :: (g.bl q mq e ++ (jL alloc aj ++ (cc1.bl (q', aq0', aq1') ++ gar)))) o4 (aT fun c d c0 cd ca => by simp only [cd, ca, c0]; omega)
    rw [p2]
    rw [hc1, hc2] at ok5 ⊢
    cases hf : mCp.fin cc1 with
    | true =>
      rw [hf, if_pos rfl] at hz
      rw [hz]
      refine av rfl ?_
      refine aa.2 (cA 0 hA1 ok5 rfl rfl rfl rfl ?_)
      exact l5 (x := ⟨g, ls, o, v, t, 3, alloc, some cc1, none, now, bS⟩) (j := ⟨b, ob', e, lj, aj, (q', aq0', aq1'), ov, gar⟩) (j0 := ⟨b, ob', e, lj, aj, (q', aq0, aq1), ov, gar⟩) ⟨rfl, rfl⟩ hA1 (by exact ok5) rp
    | false =>
      rw [hf, if_neg Bool.false_ne_true] at hz
      rw [hz]
      refine af rfl ?_
      exact l5 (x := ⟨g, ls, o, v, t, what, alloc, some cc1, none, now, bS⟩) (j := ⟨b, ob', e, lj, aj, (q', aq0', aq1'), ov, gar⟩) (j0 := ⟨b, ob', e, lj, aj, (q', aq0, aq1), ov, gar⟩) ⟨rfl, rfl⟩ hA1 ok5 rp
  have hz3 := hz2.trans (if_neg h2)
  refine af (iR h2) ?_
  obtain ⟨rs, hrs⟩ : ∃ rs : Bl, rs = jL alloc aj ++ (jj copy cj ++ gar) := ⟨_, rfl⟩
  by_cases h3 : what = 3
  · refine av (j7 h3) ?_
    have hn : old = none := hol (by show what ≠ 4; omega)
    subst hn
    have hz : z = (⟨g, kd ls o.work (ls o.work ++ [(o.h, 0)]), ⟨o.at_, o.work, o.b, now, o.pl⟩, v, t, if (kE g ls o.work o.h).isNone = true then 5 else 4, alloc, copy, kE g ls o.work o.h, now, bS⟩, (A.aL (dw o.at_ o.work 2) now).aW o.h) := hz3.trans (if_pos h3)
    rw [hz]
    refine aa.2 (aS 0 (x := now) hA ok rfl rfl rfl ?_)
    refine pH 1 (n := 2) hbd (by decide) hA ok rfl ?_
    refine iC 0 hA ok rfl rfl rfl ?_
    refine fS rfl ?_
    refine mw hA fun hA1 => ?_
    refine aa.2 (aS 1 (x := o.h) hA1 ok rfl rfl rfl ?_)
    refine aa.2 (aS 0 (x := now) hA1 ok rfl rfl rfl ?_)
    refine aa.2 (cA 1 hA1 ok rfl rfl rfl rfl ?_)
    refine aa.2 (aS 1 (x := some ⟨q, 0, none⟩) hA1 (by exact ok) rfl rfl rfl ?_)
    refine aa.2 (aS 1 (x := o.work) hA1 (by exact ok) rfl rfl rfl ?_)
    have ok1 : Ok I G (keys ((b, oc aJ (psC ob' v t what (alX alloc aj) (cpX copy cj) ov now bS)) :: (ob', oc aC (owC ⟨o.at_, o.work, o.b, now, o.pl⟩ q)) :: (g.bl q mq e ++ rs))) := by rw [hrs]; exact ok
    have es : own (A.aL (dw o.at_ o.work 2) now) ((b, oc aJ (psC ob' v t what (alX alloc aj) (cpX copy cj) ov now bS)) :: (ob', oc aC (owC ⟨o.at_, o.work, o.b, now, o.pl⟩ q)) :: (g.bl q mq e ++ (jL alloc aj ++ (jj copy cj ++ gar)))) G = own (A.aL (dw o.at_ o.work 2) now) ((b, oc aJ (psC ob' v t what (alX alloc aj) (cpX copy cj) ov now bS)) :: (ob', oc aC (owC ⟨o.at_, o.work, o.b, now, o.pl⟩ q)) :: (g.bl q mq e ++ rs)) G := by rw [hrs]
    show wp Tryz.prog _ L (own (A.aL (dw o.at_ o.work 2) now) ((b, oc aJ (psC ob' v t what (alX alloc aj) (cpX copy cj) ov now bS)) :: (ob', oc aC (owC ⟨o.at_, o.work, o.b, now, o.pl⟩ q)) :: (g.bl q mq e ++ (jL alloc aj ++ (jj copy cj ++ gar)))) G) _
    rw [es]
    generalize A.aL (dw o.at_ o.work 2) now = A1 at *
    obtain ⟨c1, hc1⟩ : ∃ c1 : Nat × Obj, c1 = (b, oc aJ (psC ob' v t what (alX alloc aj) (cpX copy cj) ov now bS)) := ⟨_, rfl⟩
    obtain ⟨c2, hc2⟩ : ∃ c2 : Nat × Obj, c2 = (ob', oc aC (owC ⟨o.at_, o.work, o.b, now, o.pl⟩ q)) := ⟨_, rfl⟩
    rw [← hc1, ← hc2] at ok1 ⊢
    obtain ⟨p1, ok2⟩ := aN (A := A1) (l' := g.bl q mq e ++ (c1 :: c2 :: rs)) ok1 (aT fun c d c0 cd ca => by simp only [cd, ca, c0]; omega)
    rw [p1]
    refine K8 hA1 ok2 rp hll fun e' lj' gar' ok3 rp' => ?_
    have hA2 := hA1.aW o.h
    obtain ⟨p2, ok4⟩ := aN (A := A1.aW o.h) (l' := c1 :: c2 :: (gmB g q mq (kE g ls o.work o.h) e' lj' ++ (jL alloc aj ++ (jj copy cj ++ (gar' ++ gar))))) ok3 (aT fun c d c0 cd ca => by rw [hrs]; simp only [cd, ca, c0]; omega)
    rw [p2, hc1]
    rw [hc1] at ok4
    refine aa.2 (M7 0 hA2 ok4 rfl rfl rfl ?_)
    refine aa.2 (cA 0 hA2 (by exact ok4) rfl rfl rfl rfl ?_)
    refine aa.2 (aS 0 (x := gmV (kE g ls o.work o.h) lj') hA2 (by exact ok4) rfl rfl rfl ?_)
    refine aB (x := (kE g ls o.work o.h).isNone) (K9 _ _ _) ?_
    rw [hc2] at ok4 ⊢
    cases hm : kE g ls o.work o.h with
    | none =>
      rw [hm] at ok4 rp'
      refine av rfl ?_
      refine aa.2 (cA 0 hA2 (by exact ok4) rfl rfl rfl rfl ?_)
      exact l5 (x := ⟨g, kd ls o.work (ls o.work ++ [(o.h, 0)]), ⟨o.at_, o.work, o.b, now, o.pl⟩, v, t, 5, alloc, copy, none, now, bS⟩) (j := ⟨b, ob', e', lj', aj, cj, .nilIface, gar' ++ gar⟩) (j0 := ⟨b, ob', e, lj, aj, cj, ov, gar⟩) ⟨rfl, rfl⟩ hA2 (by exact ok4) rp'
    | some y =>
      rw [hm] at ok4 rp'
      refine af rfl ?_
      exact l5 (x := ⟨g, kd ls o.work (ls o.work ++ [(o.h, 0)]), ⟨o.at_, o.work, o.b, now, o.pl⟩, v, t, 4, alloc, copy, some y, now, bS⟩) (j := ⟨b, ob', e', lj', aj, cj, .nilIface, gar' ++ gar⟩) (j0 := ⟨b, ob', e, lj, aj, cj, ov, gar⟩) ⟨rfl, rfl⟩ hA2 (by exact ok4) rp'
  have hz4 := hz3.trans (if_neg h3)
  refine af (iR h3) ?_
  by_cases h4 : what = 4
  · refine av (j7 h4) ?_
    obtain ⟨y, hy, hyi⟩ := hoy h4
    have hy : old = some y := hy
    subst hy
    obtain ⟨rpy, hyg⟩ := rp
    have hyg : y.g = g := hyg
    have hz := hz4.trans (if_pos h4)
    refine aa.2 (aS 0 (x := gmV (some y) lj) hA ok rfl rfl rfl ?_)
    have ok1 : Ok I G (keys ((b, oc aJ (psC ob' v t what (alX alloc aj) (cpX copy cj) (gmV (some y) lj) now bS)) :: (ob', oc aC (owC o q)) :: (y.bl lj ++ rs))) := by rw [hrs]; exact ok
    have es : own A ((b, oc aJ (psC ob' v t what (alX alloc aj) (cpX copy cj) (gmV (some y) lj) now bS)) :: (ob', oc aC (owC o q)) :: (y.bl lj ++ (jL alloc aj ++ (jj copy cj ++ gar)))) G = own A ((b, oc aJ (psC ob' v t what (alX alloc aj) (cpX copy cj) (gmV (some y) lj) now bS)) :: (ob', oc aC (owC o q)) :: (y.bl lj ++ rs)) G := by rw [hrs]
    show wp Tryz.prog _ L (own A ((b, oc aJ (psC ob' v t what (alX alloc aj) (cpX copy cj) (gmV (some y) lj) now bS)) :: (ob', oc aC (owC o q)) :: (y.bl lj ++ (jL alloc aj ++ (jj copy cj ++ gar)))) G) _
    rw [es]
    obtain ⟨c1, hc1⟩ : ∃ c1 : Nat × Obj, c1 = (b, oc aJ (psC ob' v t what (alX alloc aj) (cpX copy cj) (gmV (some y) lj) now bS)) := ⟨_, rfl⟩
    obtain ⟨c2, hc2⟩ : ∃ c2 : Nat × Obj, c2 = (ob', oc aC (owC o q)) := ⟨_, rfl⟩
    rw [← hc1, ← hc2] at ok1 ⊢
    obtain ⟨p1, ok2⟩ := aN (A := A) (l' := y.bl lj ++ (c1 :: c2 :: rs)) ok1 (aT fun c d c0 cd ca => by simp only [cd, ca, c0]; omega)
    rw [p1]
    refine Iu hA ok2 rpy hyi fun lj' hq hA1 ok3 rp' => ?_
    have hg1 : (y.step A).1.g = g := (y.ME A).1.trans hyg
    have hz : z = (if (y.step A).1.fin = true then ⟨g, (y.step A).1.ls, o, v, t, 5, alloc, copy, none, now, bS⟩ else ⟨g, ls, o, v, t, what, alloc, copy, some (y.step A).1, now, bS⟩, (y.step A).2) := hz
    generalize (y.step A).2 = A2 at *
    generalize (y.step A).1 = y1 at *
    cases hf : y1.fin with
    | true =>
      rw [hf, if_pos rfl] at hz
      rw [hz]
      refine av rfl ?_
      obtain ⟨e', gar', p2, ok4, gs⟩ := Kh (A := A2) (rest := c1 :: c2 :: rs) hf rp' ok3
      rw [hg1] at p2 ok4
      rw [p2]
      obtain ⟨p3, ok5⟩ := aN (A := A2) (l' := c1 :: c2 :: (g.bl q mq e' ++ (jL alloc aj ++ (jj copy cj ++ (gar' ++ gar))))) ok4 (aT fun c d c0 cd ca => by rw [hrs]; simp only [cd, ca, c0]; omega)
      rw [p3, hc1, hc2]
      rw [hc1, hc2] at ok5
      refine aa.2 (cA 0 hA1 ok5 rfl rfl rfl rfl ?_)
      exact l5 (x := ⟨g, y1.ls, o, v, t, 5, alloc, copy, none, now, bS⟩) (j := ⟨b, ob', e', lj', aj, cj, gmV (some y) lj, gar' ++ gar⟩) (j0 := ⟨b, ob', e, lj, aj, cj, ov, gar⟩) ⟨rfl, rfl⟩ hA1 (by exact ok5) gs
    | false =>
      rw [hf, if_neg Bool.false_ne_true] at hz
      rw [hz]
      refine af rfl ?_
      obtain ⟨p3, ok5⟩ := aN (A := A2) (l' := c1 :: c2 :: (y1.bl lj' ++ (jL alloc aj ++ (jj copy cj ++ gar)))) ok3 (aT fun c d c0 cd ca => by rw [hrs]; simp only [cd, ca, c0]; omega)
      have hv : gmV (some y) lj = gmW (some y1) lj' ov := by
        show Value.iface b9 (.pointer (some ⟨lj.q, 0, none⟩)) = Value.iface b9 (.pointer (some ⟨lj'.q, 0, none⟩))
        rw [hq]
      rw [p3, hc1, hc2, hv]
      rw [hc1, hc2, hv] at ok5
      exact l5 (x := ⟨g, ls, o, v, t, what, alloc, copy, some y1, now, bS⟩) (j := ⟨b, ob', [], lj', aj, cj, ov, gar⟩) (j0 := ⟨b, ob', e, lj, aj, cj, ov, gar⟩) ⟨rfl, rfl⟩ hA1 ok5 ⟨rp', hg1⟩
  have hz5 := hz4.trans (if_neg h4)
  refine af (iR h4) ?_
  have hn : old = none := hol h4
  subst hn
  by_cases h5 : what = 5
  · refine av (j7 h5) ?_
    have hz : z = (⟨g, ls, o, v, t, 6, alloc, copy, none, now, bS⟩, A.bW o.h (dB o.h o.b) v) := hz5.trans (if_pos h5)
    rw [hz]
    refine aa.2 (aS 1 (x := o.h) hA ok rfl rfl rfl ?_)
    refine aa.2 (aS 1 (x := o.h) hA ok rfl rfl rfl ?_)
    refine aa.2 (aS 1 (x := o.b) hA ok rfl rfl rfl ?_)
    refine aa.2 (aS 0 (x := v) hA ok rfl rfl rfl ?_)
    refine ax (x := dB o.h o.b) (xQ _ _ _) ?_
    refine iC 0 hA ok rfl rfl rfl ?_
    refine fS rfl ?_
    refine iC 1 hA ok rfl rfl rfl ?_
    refine fS rfl ?_
    refine FI hA fun hA1 => ?_
    refine aa.2 (cA 0 hA1 ok rfl rfl rfl rfl ?_)
    exact l5 (x := ⟨g, ls, o, v, t, 6, alloc, copy, none, now, bS⟩) (j := ⟨b, ob', e, lj, aj, cj, ov, gar⟩) (j0 := ⟨b, ob', e, lj, aj, cj, ov, gar⟩) ⟨rfl, rfl⟩ hA1 (by exact ok) rp
  have hz6 := hz5.trans (if_neg h5)
  refine af (iR h5) ?_
  by_cases h6 : what = 6
  · refine av (j7 h6) ?_
    have hz : z = (⟨g, ls, ⟨o.at_, o.work, w64 (o.b + 1), o.h, o.pl⟩, v, t, 7, alloc, copy, none, now, true⟩, A.aL (dw o.at_ o.work 1) (w64 (o.b + 1))) := hz6.trans (if_pos h6)
    rw [hz]
    refine aa.2 (aS 1 (x := o.b) hA ok rfl rfl rfl ?_)
    refine aa.2 (cA 1 hA ok rfl rfl rfl rfl ?_)
    have ok1 : Ok I G (keys ((b, oc aJ (psC ob' v t what (alX alloc aj) (cpX copy cj) ov now bS)) :: (ob', oc aC (owC ⟨o.at_, o.work, w64 (o.b + 1), o.h, o.pl⟩ q)) :: (g.bl q mq e ++ (jL alloc aj ++ (jj copy cj ++ gar))))) := ok
    show wp Tryz.prog _ L (own A ((b, oc aJ (psC ob' v t what (alX alloc aj) (cpX copy cj) ov now bS)) :: (ob', oc aC (owC ⟨o.at_, o.work, w64 (o.b + 1), o.h, o.pl⟩ q)) :: (g.bl q mq e ++ (jL alloc aj ++ (jj copy cj ++ gar)))) G) _
    refine aa.2 (aS 1 (x := w64 (o.b + 1)) hA ok1 rfl rfl rfl ?_)
    refine pH 1 (n := 1) (o := ⟨o.at_, o.work, w64 (o.b + 1), o.h, o.pl⟩) ⟨hbd.a, hbd.w⟩ (by decide) hA ok1 rfl ?_
    refine iC 1 hA ok1 rfl rfl rfl ?_
    refine fS rfl ?_
    refine mw hA fun hA1 => ?_
    refine aa.2 (cA 0 hA1 ok1 rfl rfl rfl rfl ?_)
    refine aa.2 (cA 0 hA1 (by exact ok1) rfl rfl rfl rfl ?_)
    exact l5 (x := ⟨g, ls, ⟨o.at_, o.work, w64 (o.b + 1), o.h, o.pl⟩, v, t, 7, alloc, copy, none, now, true⟩) (j := ⟨b, ob', e, lj, aj, cj, ov, gar⟩) (j0 := ⟨b, ob', e, lj, aj, cj, ov, gar⟩) ⟨rfl, rfl⟩ hA1 (by exact ok1) rp
  have hz7 := hz6.trans (if_neg h6)
  refine af (iR h6) ?_
  rw [hz7]
  exact l5 (x := ⟨g, ls, o, v, t, what, alloc, copy, none, now, bS⟩) (j := ⟨b, ob', e, lj, aj, cj, ov, gar⟩) (j0 := ⟨b, ob', e, lj, aj, cj, ov, gar⟩) ⟨rfl, rfl⟩ hA ok rp
structure Pp where
  o : DOw
  t : Int
  what : Int
  v : Int
  ok : Bool
def ppC (ob : Nat) (x : Pp) : List Value := [.pointer (some ⟨ob, 0, none⟩), .int .i64 x.t, .int .i64 x.what, .int .i64 x.v, .bool x.ok]
def Pp.bl (q ob : Nat) (x : Pp) (b : Nat) : Bl := [(b, oc c7 (ppC ob x)), (ob, oc aC (owC x.o q))]
def Pp.step (x : Pp) (A : Ar) : Pp × Ar :=
  if x.what = 0 then ({ x with o := { x.o with b := w64 (x.o.b - 1) }, what := 1 }, A.aL (dw x.o.at_ x.o.work 1) (w64 (x.o.b - 1)))
  else if x.what = 1 then ({ x with t := A.ao (dw x.o.at_ x.o.work 0), what := if x.o.b < A.ao (dw x.o.at_ x.o.work 0) then 4 else 2 }, A.aV (dw x.o.at_ x.o.work 0))
  else if x.what = 2 then (if x.t < x.o.b then { x with v := A.bA x.o.h (dB x.o.h x.o.b), what := 5, ok := true } else { x with v := A.bA x.o.h (dB x.o.h x.o.b), what := 3 }, A.gp x.o.h (dB x.o.h x.o.b))
  else if x.what = 3 then ({ x with ok := A.cC (dw x.o.at_ x.o.work 0) x.t, what := 4 }, A.dE (dw x.o.at_ x.o.work 0) x.t (w64 (x.t + 1)))
  else if x.what = 4 then ({ x with o := { x.o with b := w64 (x.o.b + 1) }, what := 5 }, A.aL (dw x.o.at_ x.o.work 1) (w64 (x.o.b + 1)))
  else (x, A)
def mPp (q ob : Nat) : Mch Pp Nat where
  f := iz
  addr := id
  bl := Pp.bl q ob
  inv := fun x _ => x.o.bnd
  step := Pp.step
  fin := fun x => (x.what : Int) == 5
theorem Lo (q ob : Nat) : (mPp q ob).vX bO := fun q p => by
  show opS _ _ _ _ = .pure (.enter iz [.pointer (some ⟨q, 0, none⟩), .pointer p].toArray)
  kernel_rfl
section
variable {L : aZ} {R : Value → Heap → Prop} {G : Heap} {l rest : Bl} {A A' : Ar} {I : List Nat} {q mq ob : Nat}
def PpP (q ob b : Nat) (z : Pp × Ar) (I : List Nat) (G : Heap) : Value → Heap → Prop := fun v K => v = .bool ((z.1.what : Int) == 5) ∧ K = own z.2 (z.1.bl q ob b) G ∧ Ok I G (keys (z.1.bl q ob b)) ∧ Aw I z.2
theorem uL {x : Pp} {b : Nat} (hA : Aw I A) (ok : Ok I G (keys (x.bl q ob b))) :
    wp Tryz.prog (.look (opS Tryz.prog (.nilCheck (.tmp 0)) aF [(.pointer (some ⟨b, 0, none⟩))]) (.one (.leaf .addr)) fun x170 =>
      .ld (x170.add 2) (.int .i64) fun x172 =>
      .ret (.bool ((x172 : Int) == 5))) L (own A (x.bl q ob b) G) (PpP q ob b (x, A) I G) := by
  refine aa.2 (aS 0 (x := x.what) hA ok rfl rfl rfl ?_)
  exact ad ⟨rfl, rfl, ok, hA⟩
theorem J3 : (mPp q ob).ok := by
  rintro I A G x b hA ok hi
  have hbd : x.o.bnd := hi
  refine cB.mono (R := PpP q ob b (x.step A) I G) ?_ ?_
  rotate_left
  · rintro v K ⟨rfl, rfl, o, a⟩
    exact ⟨b, rfl, rfl, rfl, o, a⟩
  obtain ⟨o, t, what, v, okk⟩ := x
  have hbd : o.bnd := hbd
  obtain ⟨z, hz0⟩ : ∃ z, z = Pp.step ⟨o, t, what, v, okk⟩ A := ⟨_, rfl⟩
  rw [← hz0]
  refine tV fun L => ?_
  unfold qJ
  have ok : Ok I G (keys [(b, oc c7 [.pointer (some ⟨ob, 0, none⟩), .int .i64 t, .int .i64 what, .int .i64 v, .bool okk]), (ob, oc aC (owC o q))]) := ok
  show wp Tryz.prog _ L (own A [(b, oc c7 [.pointer (some ⟨ob, 0, none⟩), .int .i64 t, .int .i64 what, .int .i64 v, .bool okk]), (ob, oc aC (owC o q))] G) _
  refine aa.2 (aS 0 (x := some ⟨ob, 0, none⟩) hA ok rfl rfl rfl ?_)
  refine aa.2 (aS 0 (x := what) hA ok rfl rfl rfl ?_)
  by_cases h0 : what = 0
  · refine av (j7 h0) ?_
    have hz : z = (⟨⟨o.at_, o.work, w64 (o.b - 1), o.h, o.pl⟩, t, 1, v, okk⟩, A.aL (dw o.at_ o.work 1) (w64 (o.b - 1))) := hz0.trans (if_pos h0)
    rw [hz]
    refine aa.2 (aS 1 (x := o.b) hA ok rfl rfl rfl ?_)
    refine aa.2 (cA 1 hA ok rfl rfl rfl rfl ?_)
    have ok1 : Ok I G (keys [(b, oc c7 [.pointer (some ⟨ob, 0, none⟩), .int .i64 t, .int .i64 what, .int .i64 v, .bool okk]), (ob, oc aC (owC ⟨o.at_, o.work, w64 (o.b - 1), o.h, o.pl⟩ q))]) := ok
    show wp Tryz.prog _ L (own A [(b, oc c7 [.pointer (some ⟨ob, 0, none⟩), .int .i64 t, .int .i64 what, .int .i64 v, .bool okk]), (ob, oc aC (owC ⟨o.at_, o.work, w64 (o.b - 1), o.h, o.pl⟩ q))] G) _
    refine aa.2 (aS 1 (x := w64 (o.b - 1)) hA ok1 rfl rfl rfl ?_)
    refine pH 1 (n := 1) (o := ⟨o.at_, o.work, w64 (o.b - 1), o.h, o.pl⟩) ⟨hbd.a, hbd.w⟩ (by decide) hA ok1 rfl ?_
    refine iC 1 hA ok1 rfl rfl rfl ?_
    refine fS rfl ?_
    refine mw hA fun hA1 => ?_
    refine aa.2 (cA 0 hA1 ok1 rfl rfl rfl rfl ?_)
    exact uL (x := ⟨⟨o.at_, o.work, w64 (o.b - 1), o.h, o.pl⟩, t, 1, v, okk⟩) hA1 (by exact ok1)
  have hz1 := hz0.trans (if_neg h0)
  refine af (iR h0) ?_
  by_cases h1 : what = 1
  · refine av (j7 h1) ?_
    have hz : z = (⟨o, A.ao (dw o.at_ o.work 0), if o.b < A.ao (dw o.at_ o.work 0) then 4 else 2, v, okk⟩, A.aV (dw o.at_ o.work 0)) := hz1.trans (if_pos h1)
    rw [hz]
    refine pH 1 (n := 0) hbd (by decide) hA ok rfl ?_
    refine uA hA fun hA1 => ?_
    refine aa.2 (cA 0 hA1 ok rfl rfl rfl rfl ?_)
    refine aa.2 (cA 0 hA1 (by exact ok) rfl rfl rfl rfl ?_)
    refine aa.2 (aS 0 (x := A.ao (dw o.at_ o.work 0)) hA1 (by exact ok) rfl rfl rfl ?_)
    refine aa.2 (aS 1 (x := o.b) hA1 (by exact ok) rfl rfl rfl ?_)
    by_cases hl : o.b < A.ao (dw o.at_ o.work 0)
    · refine av (decide_eq_true hl) ?_
      rw [if_pos hl]
      refine aa.2 (cA 0 hA1 (by exact ok) rfl rfl rfl rfl ?_)
      exact uL (x := ⟨o, A.ao (dw o.at_ o.work 0), 4, v, okk⟩) hA1 (by exact ok)
    · refine af (decide_eq_false hl) ?_
      rw [if_neg hl]
      exact uL (x := ⟨o, A.ao (dw o.at_ o.work 0), 2, v, okk⟩) hA1 (by exact ok)
  have hz2 := hz1.trans (if_neg h1)
  refine af (iR h1) ?_
  by_cases h2 : what = 2
  · refine av (j7 h2) ?_
    have hz : z = (if t < o.b then ⟨o, t, 5, A.bA o.h (dB o.h o.b), true⟩ else ⟨o, t, 3, A.bA o.h (dB o.h o.b), okk⟩, A.gp o.h (dB o.h o.b)) := hz2.trans (if_pos h2)
    rw [hz]
    refine aa.2 (aS 1 (x := o.h) hA ok rfl rfl rfl ?_)
    refine aa.2 (aS 1 (x := o.h) hA ok rfl rfl rfl ?_)
    refine aa.2 (aS 1 (x := o.b) hA ok rfl rfl rfl ?_)
    refine ax (x := dB o.h o.b) (xQ _ _ _) ?_
    refine iC 1 hA ok rfl rfl rfl ?_
    refine fS rfl ?_
    refine BT hA fun hA1 => ?_
    refine aa.2 (cA 0 hA1 ok rfl rfl rfl rfl ?_)
    refine aa.2 (cA 0 hA1 (by exact ok) rfl rfl rfl rfl ?_)
    refine aa.2 (aS 0 (x := t) hA1 (by exact ok) rfl rfl rfl ?_)
    refine aa.2 (aS 1 (x := o.b) hA1 (by exact ok) rfl rfl rfl ?_)
    by_cases hl : t < o.b
    · refine av (decide_eq_true hl) ?_
      rw [if_pos hl]
      refine aa.2 (cA 0 hA1 (by exact ok) rfl rfl rfl rfl ?_)
      refine aa.2 (cA 0 hA1 (by exact ok) rfl rfl rfl rfl ?_)
      exact uL (x := ⟨o, t, 5, A.bA o.h (dB o.h o.b), true⟩) hA1 (by exact ok)
    · refine af (decide_eq_false hl) ?_
      rw [if_neg hl]
      exact uL (x := ⟨o, t, 3, A.bA o.h (dB o.h o.b), okk⟩) hA1 (by exact ok)
  have hz3 := hz2.trans (if_neg h2)
  refine af (iR h2) ?_
  by_cases h3 : what = 3
  · refine av (j7 h3) ?_
    have hz : z = (⟨o, t, 4, v, A.cC (dw o.at_ o.work 0) t⟩, A.dE (dw o.at_ o.work 0) t (w64 (t + 1))) := hz3.trans (if_pos h3)
    rw [hz]
    subst h3
    refine aa.2 (aS 0 (x := t) hA ok rfl rfl rfl ?_)
    refine aa.2 (aS 0 (x := t) hA ok rfl rfl rfl ?_)
    refine pH 1 (n := 0) hbd (by decide) hA ok rfl ?_
    refine iC 0 hA ok rfl rfl rfl ?_
    refine fS rfl ?_
    refine iC 0 hA ok rfl rfl rfl ?_
    refine fS rfl ?_
    refine qU hA fun hA1 => ?_
    refine aa.2 (cA 0 hA1 ok rfl rfl rfl rfl ?_)
    refine aa.2 (aS 0 (x := 3) hA1 (by exact ok) rfl rfl rfl ?_)
    refine av rfl ?_
    refine aa.2 (cA 0 hA1 (by exact ok) rfl rfl rfl rfl ?_)
    exact uL (x := ⟨o, t, 4, v, A.cC (dw o.at_ o.work 0) t⟩) hA1 (by exact ok)
  have hz4 := hz3.trans (if_neg h3)
  refine af (iR h3) ?_
  by_cases h4 : what = 4
  · refine av (j7 h4) ?_
    have hz : z = (⟨⟨o.at_, o.work, w64 (o.b + 1), o.h, o.pl⟩, t, 5, v, okk⟩, A.aL (dw o.at_ o.work 1) (w64 (o.b + 1))) := hz4.trans (if_pos h4)
    rw [hz]
    refine aa.2 (aS 0 (x := what) hA ok rfl rfl rfl ?_)
    refine af (iR h3) ?_
    refine aa.2 (aS 1 (x := o.b) hA ok rfl rfl rfl ?_)
    refine aa.2 (cA 1 hA ok rfl rfl rfl rfl ?_)
    have ok1 : Ok I G (keys [(b, oc c7 [.pointer (some ⟨ob, 0, none⟩), .int .i64 t, .int .i64 what, .int .i64 v, .bool okk]), (ob, oc aC (owC ⟨o.at_, o.work, w64 (o.b + 1), o.h, o.pl⟩ q))]) := ok
    show wp Tryz.prog _ L (own A [(b, oc c7 [.pointer (some ⟨ob, 0, none⟩), .int .i64 t, .int .i64 what, .int .i64 v, .bool okk]), (ob, oc aC (owC ⟨o.at_, o.work, w64 (o.b + 1), o.h, o.pl⟩ q))] G) _
    refine aa.2 (aS 1 (x := w64 (o.b + 1)) hA ok1 rfl rfl rfl ?_)
    refine pH 1 (n := 1) (o := ⟨o.at_, o.work, w64 (o.b + 1), o.h, o.pl⟩) ⟨hbd.a, hbd.w⟩ (by decide) hA ok1 rfl ?_
    refine iC 1 hA ok1 rfl rfl rfl ?_
    refine fS rfl ?_
    refine mw hA fun hA1 => ?_
    refine aa.2 (cA 0 hA1 ok1 rfl rfl rfl rfl ?_)
    exact uL (x := ⟨⟨o.at_, o.work, w64 (o.b + 1), o.h, o.pl⟩, t, 5, v, okk⟩) hA1 (by exact ok1)
  have hz5 := hz4.trans (if_neg h4)
  refine af (iR h4) ?_
  rw [hz5]
  exact uL (x := ⟨o, t, what, v, okk⟩) hA ok
theorem Af {v : Int} {K : Option Addr → Tree} (hA : Aw I A) (ok : Ok I G (keys l))
    (h : ∀ z : Nat, Ok I G (keys ((z, oc aJ (psC ob v 0 0 none none .nilIface 0 false)) :: l)) → wp Tryz.prog (K (some ⟨z, 0, none⟩)) L (own A ((z, oc aJ (psC ob v 0 0 none none .nilIface 0 false)) :: l) G) R) :
    wp Tryz.prog (.call gx [.pointer (some ⟨ob, 0, none⟩), .int .i64 v] (.one (.leaf .ptr)) K) L (own A l G) R := by
  refine aR (R0 := fun u H => ∃ z : Nat, u = .pointer (some ⟨z, 0, none⟩) ∧ H = own A ((z, oc aJ (psC ob v 0 0 none none .nilIface 0 false)) :: l) G ∧ Ok I G (keys ((z, oc aJ (psC ob v 0 0 none none .nilIface 0 false)) :: l))) ?_ ?_
  · refine tQ fun L => ?_
    unfold rq
    refine cL (c := psC ob v 0 0 none none .nilIface 0 false) hA ok fun z ok1 => ?_
    exact ad ⟨z, rfl, rfl, ok1⟩
  · rintro u H ⟨z, rfl, rfl, o⟩
    exact ⟨_, rfl, h z o⟩
theorem Hz {K : Option Addr → Tree} (hA : Aw I A) (ok : Ok I G (keys l))
    (h : ∀ z : Nat, Ok I G (keys ((z, oc c7 [.pointer (some ⟨ob, 0, none⟩), .int .i64 0, .int .i64 0, .int .i64 0, .bool false]) :: l)) → wp Tryz.prog (K (some ⟨z, 0, none⟩)) L (own A ((z, oc c7 [.pointer (some ⟨ob, 0, none⟩), .int .i64 0, .int .i64 0, .int .i64 0, .bool false]) :: l) G) R) :
    wp Tryz.prog (.call fA [.pointer (some ⟨ob, 0, none⟩)] (.one (.leaf .ptr)) K) L (own A l G) R := by
  refine aR (R0 := fun u H => ∃ z : Nat, u = .pointer (some ⟨z, 0, none⟩) ∧ H = own A ((z, oc c7 [.pointer (some ⟨ob, 0, none⟩), .int .i64 0, .int .i64 0, .int .i64 0, .bool false]) :: l) G ∧ Ok I G (keys ((z, oc c7 [.pointer (some ⟨ob, 0, none⟩), .int .i64 0, .int .i64 0, .int .i64 0, .bool false]) :: l))) ?_ ?_
  · refine uI fun L => ?_
    unfold tM
    refine cL hA ok fun z ok1 => ?_
    exact ad ⟨z, rfl, rfl, ok1⟩
  · rintro u H ⟨z, rfl, rfl, o⟩
    exact ⟨_, rfl, h z o⟩
theorem MJ (i : Nat) {b : Nat} {c : List Value} {bS : Bool} {k : Bool → Tree} (hA : Aw I A) (ok : Ok I G (keys l)) (h0 : l[i]? = some (b, oc aJ c)) (hc : c[8]? = some (.bool bS)) (h : wp Tryz.prog (k bS) L (own A l G) R) :
    wp Tryz.prog (.call gY [.pointer (some ⟨b, 0, none⟩)] (.one (.leaf .bool)) k) L (own A l G) R := by
  refine ax (x := bS) (H' := own A l G) ?_ h
  refine tz fun L => ?_
  unfold pX
  refine aa.2 (aS i (x := bS) hA ok rfl h0 (by show (c[8]?).bind _ = _; rw [hc]; rfl) ?_)
  exact ad ⟨rfl, rfl⟩
def Pp.told (x : Pp) : Bool := x.ok && (x.what : Int) == 5
theorem Ff (i : Nat) {b : Nat} {x : Pp} {k : HL Sh1.T [(.leaf (.int .i64)), (.leaf .bool)] → Tree} (hA : Aw I A) (ok : Ok I G (keys l)) (h0 : l[i]? = some (b, oc c7 (ppC ob x)))
    (h : wp Tryz.prog (k ((if x.told = true then x.v else 0), x.told, ())) L (own A l G) R) :
    wp Tryz.prog (.call fR [.pointer (some ⟨b, 0, none⟩)] (.tup [(.leaf (.int .i64)), (.leaf .bool)]) k) L (own A l G) R := by
  refine ax (x := ((if x.told = true then x.v else 0), x.told, ())) (H' := own A l G) ?_ h
  refine s6 fun L => ?_
  unfold pF
  refine aa.2 (aS i (x := x.ok) hA ok rfl h0 rfl ?_)
  unfold Pp.told
  cases hk : x.ok with
  | false => exact av rfl (ad ⟨rfl, rfl⟩)
  | true =>
    refine af rfl ?_
    refine aa.2 (aS i (x := x.what) hA ok rfl h0 rfl ?_)
    by_cases h5 : x.what = 5
    · refine af (Eh h5) ?_
      refine aa.2 (aS i (x := x.v) hA ok rfl h0 rfl ?_)
      refine ad ⟨?_, rfl⟩
      rw [h5]; rfl
    · refine av (CT h5) ?_
      refine ad ⟨?_, rfl⟩
      rw [iR h5]; rfl
theorem Jg {at_ work h0 : Int} {p : Pl} {k : Option Addr → Tree} (ha : 0 ≤ at_ ∧ at_ ≤ 1000000) (hw : 0 ≤ work ∧ work ≤ 1000) (hA : Aw I A) (ok : Ok I G (keys l))
    (h : ∀ (z : Nat) (gar : Bl), Aw I (A.aL (dw at_ work 2) h0) → Ok I G (keys ((z, oc aC (owC ⟨at_, work, 0, h0, p⟩ q)) :: (gar ++ l))) → wp Tryz.prog (k (some ⟨z, 0, none⟩)) L (own (A.aL (dw at_ work 2) h0) ((z, oc aC (owC ⟨at_, work, 0, h0, p⟩ q)) :: (gar ++ l)) G) R) :
    wp Tryz.prog (.call ug [.pointer (aI I), .int .i64 at_, .int .i64 work, .int .i64 h0, p.val, .pointer (some ⟨q, 0, none⟩)] (.one (.leaf .ptr)) k) L (own A l G) R := by
  refine aR (R0 := fun v H => ∃ (z : Nat) (gar : Bl), v = .pointer (some ⟨z, 0, none⟩) ∧ Aw I (A.aL (dw at_ work 2) h0) ∧ H = own (A.aL (dw at_ work 2) h0) ((z, oc aC (owC ⟨at_, work, 0, h0, p⟩ q)) :: (gar ++ l)) G ∧ Ok I G (keys ((z, oc aC (owC ⟨at_, work, 0, h0, p⟩ q)) :: (gar ++ l)))) ?_ ?_
  · refine ya (p4_0 := p.work) (p4_1 := p.heads) (p4_2 := p.links) (p4_3 := p.gens) (p4_4 := p.carved) fun L => ?_
    unfold zc
    refine cL (c := fC p) hA ok fun x10 ok1 => ?_
    refine fy (x := (p.work, p.heads, p.links, p.gens, p.carved, ())) 0 hA ok1 rfl rfl rfl ?_
    refine cL (c := owC ⟨at_, work, 0, h0, p⟩ q) hA ok1 fun x20 ok2 => ?_
    refine pH 0 (o := ⟨at_, work, 0, h0, p⟩) (n := 2) ⟨ha, hw⟩ (by decide) hA ok2 rfl ?_
    refine mw hA fun hA1 => ?_
    exact ad ⟨x20, [(x10, oc bn (fC p))], rfl, hA1, rfl, ok2⟩
  · rintro v H ⟨z, gar, rfl, a, rfl, o⟩
    exact ⟨_, rfl, h z gar a o⟩
end
theorem iE {A : Ar} {i j v : Int} (hi : A.bp i) : (A.dQ i.toNat v).ao j = if j = i then v else A.ao j := by
  unfold Ar.bp at hi
  by_cases hj : A.bp j
  · have hj' : (A.dQ i.toNat v).bp j := by unfold Ar.bp Ar.dQ at *; simpa using hj
    rw [← dG hj', ← dG hj]
    unfold Ar.bp at hj
    show (A.raw.set i.toNat v).getD j.toNat 0 = _
    rw [List.getD_eq_getElem?_getD, List.getElem?_set]
    by_cases e : j = i
    · rw [if_pos e, if_pos (by rw [e]), if_pos (by omega)]; rfl
    · rw [if_neg e, if_neg (by omega), List.getD_eq_getElem?_getD]
  · have hj' : ¬ (A.dQ i.toNat v).bp j := by unfold Ar.bp Ar.dQ at *; simpa using hj
    have e : ¬ j = i := fun e => hj (e ▸ hi)
    rw [if_neg e]; unfold Ar.ao; rw [if_neg hj, if_neg hj']
theorem qP {l : List Int} {i : Nat} {v : Int} (hi : i < l.length) (h : l.getD i 0 = v) : l.set i v = l := by
  rw [List.getD_eq_getElem?_getD, List.getElem?_eq_getElem hi] at h
  have h : l[i] = v := h
  rw [← h]; exact List.set_getElem_self hi
structure FU (w n : Int) (A B : Ar) : Prop where
  eq : ∃ r : List Int, B = { A with raw := r, aD := A.aD + 1 } ∧ r.length = A.raw.length
  up : ∀ i, 4 * w + n ≤ i → B.ao i = A.ao i
structure FEv (w n : Int) (A B : Ar) (mb : Int) : Prop where
  hd : ∀ k, 0 ≤ k → k < 4 * w → A.ao k / 131072 ≤ B.ao k / 131072 ∧ (A.ao k / 131072 = B.ao k / 131072 → B.ao k = A.ao k)
  lk : ∀ b, 0 ≤ b → b % 8 = 0 → b / 8 < n → b ≠ mb → B.ao (4 * w + b / 8) = A.ao (4 * w + b / 8)
section
variable {A B : Ar} {p : Pl} {w n k b : Int} {ch : Int → List Int}
theorem FEv.same {mb : Int} (h : ∀ i, 0 ≤ i → i < 4 * w + n → B.ao i = A.ao i) (wb : 0 ≤ w) (nb : 0 ≤ n) : FEv w n A B mb :=
  ⟨fun k h0 h1 => by rw [h k h0 (by omega)]; exact ⟨Int.le_refl _, fun _ => rfl⟩, fun b h0 h1 h2 _ => h _ (by omega) (by omega)⟩
theorem FL.same (F : FL B p w n ch) (hr : ∀ i, A.ao i = B.ao i) (hl : A.raw.length = B.raw.length) (us : 0 ≤ A.aD) (hd : ∀ k, 0 ≤ k → k < 4 * w → A.ao k / 131072 ≤ A.aD) : FL A p w n ch where
  heads := F.heads
  links := F.links
  wb := F.wb
  nb := F.nb
  len := by rw [hl]; exact F.len
  us := us
  hd k h0 h1 := ⟨by rw [hr]; exact (F.hd k h0 h1).1, hd k h0 h1⟩
  chn k h0 h1 := by
    rw [hr]
    exact iI (fun i => by unfold Ar.bp; rw [hl]) _ _ (fun x _ => hr _) (F.chn k h0 h1)
  mem := F.mem
  nd := F.nd
  dj := F.dj
  rg := F.rg
theorem FL.tick (F : FL A p w n ch) : FL (A.ay 1) p w n ch := F.congr (fun _ _ _ => rfl) rfl (by show A.aD ≤ A.aD + 1; omega)
theorem FL.O8 (F : FL A p w n ch) (hu : A.aD ≤ 1000000000) {l : List Int} (hk : ch k = b :: l) :
    FL ((A.ay 1).dQ k.toNat (ga (A.ao k) (A.ao (4 * w + b / 8)))) p w n (upd ch k l) ∧ FEv w n A ((A.ay 1).dQ k.toNat (ga (A.ao k) (A.ao (4 * w + b / 8)))) (-1) := by
  obtain ⟨h0, h1⟩ := F.rg k (by rw [hk]; simp)
  have wb := F.wb
  have nb := F.nb
  have us := F.us
  have o1 := F.tS h0 h1
  have hkd := F.hd k h0 h1
  have hch := F.chn k h0 h1
  rw [hk] at hch
  have hc := Bj (A := A) (lk := 4 * w) (hd := k) (b := b) (l := l) (by rw [yW]; exact hch) o1 (by omega) (fun x hx => by
    obtain ⟨a1, a2, a3⟩ := F.mem k x (by rw [hk]; exact hx)
    exact ⟨a2, a1, by omega, F.Ad a1 a3, by omega⟩)
  have rf : ∀ j, ((A.ay 1).dQ k.toNat (ga (A.ao k) (A.ao (4 * w + b / 8)))).ao j = if j = k then ga (A.ao k) (A.ao (4 * w + b / 8)) else A.ao j := fun j => iE (A := A.ay 1) o1
  have nx : ga (A.ao k) (A.ao (4 * w + b / 8)) = (A.ao k / 131072 + 1) * 131072 + A.ao (4 * w + b / 8) := wJ (by omega) (by omega) hc.2.2.2.1 hc.2.2.2.2
  have b0 := hc.2.2.2.1
  have b1 := hc.2.2.2.2
  refine ⟨(F.pop hu hk).same (fun i => dN rfl i) (by show (A.raw.set _ _).length = (A.raw.set _ _).length; rw [List.length_set]) (by show 0 ≤ A.aD + 1; omega) fun j j0 j1 => ?_, fun j j0 j1 => ?_, fun c c0 c1 c2 _ => ?_⟩
  · rw [rf]
    show _ ≤ A.aD + 1
    by_cases e : j = k
    · rw [if_pos e, nx]; omega
    · rw [if_neg e]; have := F.hd j j0 j1; omega
  · rw [rf]
    by_cases e : j = k
    · rw [if_pos e, nx, e]; exact ⟨by omega, fun h => by omega⟩
    · rw [if_neg e]; exact ⟨Int.le_refl _, fun _ => rfl⟩
  · rw [rf, if_neg (by omega)]
theorem FL.Om (F : FL A p w n ch) (hu : A.aD ≤ 1000000000) (h0 : 0 ≤ k) (h1 : k < 4 * w) (hb : 0 ≤ b ∧ b % 8 = 0 ∧ b / 8 < n) (hn : ∀ j, b ∉ ch j) (hl : A.ao (4 * w + b / 8) = A.ao k % 131072) :
    FL ((A.ay 1).dQ k.toNat (ga (A.ao k) (b / 8 + 1))) p w n (upd ch k (b :: ch k)) ∧ FEv w n A ((A.ay 1).dQ k.toNat (ga (A.ao k) (b / 8 + 1))) (-1) := by
  have wb := F.wb
  have nb := F.nb
  have us := F.us
  have o1 := F.tS h0 h1
  have o2 := F.Ad hb.1 hb.2.2
  have hkd := F.hd k h0 h1
  have td : Int.tdiv b 8 = b / 8 := Int.tdiv_eq_ediv_of_nonneg hb.1
  have e1 : w64 (w64 (Int.tdiv b 8) + 1) = b / 8 + 1 := by rw [td, aE (x := b / 8) (by omega) (by omega), aE (by omega) (by omega)]
  have rf : ∀ j, ((A.ay 1).dQ k.toNat (ga (A.ao k) (b / 8 + 1))).ao j = if j = k then ga (A.ao k) (b / 8 + 1) else A.ao j := fun j => iE (A := A.ay 1) o1
  have nx : ga (A.ao k) (b / 8 + 1) = (A.ao k / 131072 + 1) * 131072 + (b / 8 + 1) := wJ (by omega) (by omega) (by omega) (by omega)
  have hraw : ((A.ay 1).dQ k.toNat (ga (A.ao k) (b / 8 + 1))).raw = (A.pushed k (4 * w + b / 8) b).raw := by
    show A.raw.set k.toNat _ = (A.raw.set (4 * w + b / 8).toNat (gO (A.ao k) 131071)).set k.toNat (ga (A.ao k) (w64 (w64 (Int.tdiv b 8) + 1)))
    rw [e1, qP (l := A.raw) (i := (4 * w + b / 8).toNat) (v := gO (A.ao k) 131071) (by unfold Ar.bp at o2; omega) (by rw [dG o2, hl, yW])]
  refine ⟨(F.push hu h0 h1 hb hn).same (fun i => dN hraw i) (by rw [hraw]) (by show 0 ≤ A.aD + 1; omega) fun j j0 j1 => ?_, fun j j0 j1 => ?_, fun c c0 c1 c2 _ => ?_⟩
  · rw [rf]
    show _ ≤ A.aD + 1
    by_cases e : j = k
    · rw [if_pos e, nx]; omega
    · rw [if_neg e]; have := F.hd j j0 j1; omega
  · rw [rf]
    by_cases e : j = k
    · rw [if_pos e, nx, e]; exact ⟨by omega, fun h => by omega⟩
    · rw [if_neg e]; exact ⟨Int.le_refl _, fun _ => rfl⟩
  · rw [rf, if_neg (by omega)]
theorem FL.Oa (F : FL A p w n ch) (hb : 0 ≤ b ∧ b % 8 = 0 ∧ b / 8 < n) (hn : ∀ j, b ∉ ch j) (v : Int) :
    FL ((A.ay 1).dQ (4 * w + b / 8).toNat v) p w n ch ∧ FEv w n A ((A.ay 1).dQ (4 * w + b / 8).toNat v) b := by
  have wb := F.wb
  have nb := F.nb
  have us := F.us
  have o2 := F.Ad hb.1 hb.2.2
  have rf : ∀ j, ((A.ay 1).dQ (4 * w + b / 8).toNat v).ao j = if j = 4 * w + b / 8 then v else A.ao j := fun j => iE (A := A.ay 1) o2
  refine ⟨⟨F.heads, F.links, F.wb, F.nb, by show _ ≤ ((A.raw.set _ _).length : Int); rw [List.length_set]; exact F.len, by show 0 ≤ A.aD + 1; omega, fun j j0 j1 => ?_, fun j j0 j1 => ?_, F.mem, F.nd, F.dj, F.rg⟩, fun j j0 j1 => ?_, fun c c0 c1 c2 c3 => ?_⟩
  · rw [rf, if_neg (by omega)]
    show _ ∧ _ ≤ A.aD + 1
    have := F.hd j j0 j1; omega
  · rw [rf, if_neg (by omega)]
    refine iI (fun i => by unfold Ar.bp; show _ ∧ i < ((A.raw.set _ _).length : Int) ↔ _; rw [List.length_set]) _ _ (fun x hx => ?_) (F.chn j j0 j1)
    obtain ⟨a1, a2, a3⟩ := F.mem j x hx
    have : x ≠ b := fun e => hn j (e ▸ hx)
    rw [rf, if_neg (by omega)]
  · rw [rf, if_neg (by omega)]; exact ⟨Int.le_refl _, fun _ => rfl⟩
  · rw [rf, if_neg (by omega)]
structure PoI (p : Pl) (w n k : Int) (x : Po) (A : Ar) : Prop where
  pl : x.pl = p
  hd : x.head = k
  ok : x.ok = false
  ph : x.at' = 0 ∨ x.at' = 1 ∨ x.at' = 2
  was : x.at' ≠ 0 → 0 ≤ x.was ∧ x.was % 131072 ≠ 0 ∧ x.was % 131072 ≤ n ∧ x.was / 131072 ≤ A.ao k / 131072 ∧ (x.was / 131072 = A.ao k / 131072 → A.ao k = x.was)
  link : x.at' = 2 → A.ao k = x.was → x.link = A.ao (4 * w + (x.was % 131072 - 1))
theorem PoI.new (hp : p.heads = 0) (wb : 0 ≤ w ∧ w ≤ 1000) {who c : Int} (h : kJ p who c = k) : PoI p w n k ⟨p, kJ p who c, 0, 0, 0, 0, false⟩ A := ⟨rfl, h, rfl, .inl rfl, fun h => (h rfl).elim, fun h => by cases h⟩
theorem PoI.JP {x : Po} (P : PoI p w n k x A) (F : FL A p w n ch) (h0 : 0 ≤ k) (h1 : k < 4 * w) {mb : Int} (hm : ∀ j, mb ∉ ch j) (E : FEv w n A B mb) : PoI p w n k x B := by
  obtain ⟨e1, e2⟩ := E.hd k h0 h1
  refine ⟨P.pl, P.hd, P.ok, P.ph, fun h => ?_, fun h hb => ?_⟩
  · obtain ⟨a1, a2, a3, a4, a5⟩ := P.was h
    exact ⟨a1, a2, a3, by omega, fun e => by rw [e2 (by omega)]; exact a5 (by omega)⟩
  · obtain ⟨a1, a2, a3, a4, a5⟩ := P.was (by omega)
    have t : A.ao k / 131072 = B.ao k / 131072 := by rw [hb] at e1 ⊢; omega
    have hA : A.ao k = x.was := by rw [← hb]; exact (e2 t).symm
    rw [P.link h hA]
    obtain ⟨b, l, hbl⟩ : ∃ b l, ch k = b :: l := by
      cases hc : ch k with
      | nil => exact (a2 (by rw [← hA]; exact F.vd h0 h1 hc)).elim
      | cons b l => exact ⟨b, l, rfl⟩
    have hf := F.oS h0 h1 hbl
    rw [hA] at hf
    have hmem : b ∈ ch k := by rw [hbl]; simp
    obtain ⟨m1, m2, m3⟩ := F.mem k b hmem
    rw [hf, show b / 8 + 1 - 1 = b / 8 by omega]
    exact (E.lk b m1 m2 m3 fun e => hm k (e ▸ hmem)).symm
theorem yJ {w n : Int} {A : Ar} : FU w n A (A.ay 1) := ⟨⟨A.raw, rfl, rfl⟩, fun _ _ => rfl⟩
theorem Bi {i v : Int} (o : A.bp i) (h : i < 4 * w + n) : FU w n A ((A.ay 1).dQ i.toNat v) := ⟨⟨A.raw.set i.toNat v, rfl, by rw [List.length_set]⟩, fun j hj => by rw [iE (A := A.ay 1) o, if_neg (by omega)]; rfl⟩
theorem PoI.step {x : Po} (P : PoI p w n k x A) (F : FL A p w n ch) (hu : A.aD ≤ 1000000000) (h0 : 0 ≤ k) (h1 : k < 4 * w) :
    (x.dP A = false ∧ x.cX A = A.ay 1 ∧ PoI p w n k (x.cF A) (A.ay 1)) ∨
    (x.dP A = true ∧ x.cX A = A.ay 1 ∧ (x.cF A).ok = false ∧ ch k = []) ∨
    (x.dP A = true ∧ (x.cF A).ok = true ∧ ∃ b l, ch k = b :: l ∧ (x.cF A).base = b ∧ x.cX A = (A.ay 1).dQ k.toNat (ga (A.ao k) (A.ao (4 * w + b / 8)))) := by
  have us := F.us
  have wb := F.wb
  have nb := F.nb
  have o1 := F.tS h0 h1
  have hkd := F.hd k h0 h1
  have tk : A.tick = A.ay 1 := iu us (by omega)
  have eh := P.hd
  rcases P.ph with h | h | h
  · have s := Po.s0 (A := A) h (by rw [eh]; exact o1)
    rw [eh, tk] at s
    obtain ⟨s1, s2⟩ := Prod.mk.inj s
    have sb : x.dP A = decide (A.ao k % 131072 = 0) := by
      unfold Po.dP; rw [if_neg (by omega), if_neg (by omega), if_neg (by omega), eh, yW]
    by_cases c : A.ao k % 131072 = 0
    · right; left
      refine ⟨by rw [sb, decide_eq_true c], s2, by rw [s1]; exact P.ok, ?_⟩
      cases hc : ch k with
      | nil => rfl
      | cons b l =>
        have := F.oS h0 h1 hc
        have := F.mem k b (by rw [hc]; simp)
        omega
    · left
      refine ⟨by rw [sb, decide_eq_false c], s2, ?_⟩
      rw [s1, if_neg c]
      obtain ⟨b, l, hbl⟩ : ∃ b l, ch k = b :: l := by
        cases hc : ch k with
        | nil => exact (c (F.vd h0 h1 hc)).elim
        | cons b l => exact ⟨b, l, rfl⟩
      have hf := F.oS h0 h1 hbl
      obtain ⟨m1, m2, m3⟩ := F.mem k b (by rw [hbl]; simp)
      exact ⟨P.pl, rfl, P.ok, .inr (.inl rfl), fun _ => ⟨hkd.1, c, by show A.ao k % 131072 ≤ n; omega, Int.le_refl _, fun _ => rfl⟩, fun h => by cases h⟩
  · left
    obtain ⟨a1, a2, a3, a4, a5⟩ := P.was (by omega)
    have el : w64 (w64 (x.pl.links + x.was % 131072) - 1) = 4 * w + (x.was % 131072 - 1) := by
      rw [P.pl, F.links, aE (x := 4 * w + x.was % 131072) (by omega) (by omega), aE (by omega) (by omega)]; omega
    have o2 : A.bp (4 * w + (x.was % 131072 - 1)) := ⟨by omega, by have := F.len; omega⟩
    have s := Po.s1 (A := A) h el o2
    rw [tk] at s
    obtain ⟨s1, s2⟩ := Prod.mk.inj s
    refine ⟨by unfold Po.dP; rw [if_pos h], s2, ?_⟩
    rw [s1]
    exact ⟨P.pl, P.hd, P.ok, .inr (.inr rfl), fun _ => ⟨a1, a2, a3, a4, a5⟩, fun _ _ => rfl⟩
  · obtain ⟨a1, a2, a3, a4, a5⟩ := P.was (by omega)
    have sb : x.dP A = A.cC x.head x.was := by unfold Po.dP; rw [if_neg (by omega), if_pos h]
    by_cases c : A.ao k = x.was
    · right; right
      have s := Po.s2y (A := A) h (by rw [eh]; exact o1) (by rw [eh]; exact c)
      rw [eh, tk] at s
      obtain ⟨s1, s2⟩ := Prod.mk.inj s
      have sw : A.cC x.head x.was = true := by rw [eh]; exact decide_eq_true ⟨o1, by rw [dG o1]; exact c⟩
      obtain ⟨b, l, hbl⟩ : ∃ b l, ch k = b :: l := by
        cases hc : ch k with
        | nil => exact (a2 (by rw [← c]; exact F.vd h0 h1 hc)).elim
        | cons b l => exact ⟨b, l, rfl⟩
      have hf := F.oS h0 h1 hbl
      rw [c] at hf
      obtain ⟨m1, m2, m3⟩ := F.mem k b (by rw [hbl]; simp)
      refine ⟨by rw [sb, sw], by rw [s1], b, l, hbl, ?_, ?_⟩
      · rw [s1]
        show w64 (w64 (x.was % 131072 - 1) * 8) = b
        rw [hf, aE (x := b / 8 + 1 - 1) (by omega) (by omega), aE (by omega) (by omega)]; omega
      · rw [s2, P.link h c, c, hf, show b / 8 + 1 - 1 = b / 8 by omega]
    · left
      have s := Po.s2n (A := A) h (by rw [eh]; exact o1) (by rw [eh]; exact c)
      rw [tk] at s
      obtain ⟨s1, s2⟩ := Prod.mk.inj s
      have sw : A.cC x.head x.was = false := by rw [eh]; exact decide_eq_false fun e => c (by rw [← dG o1]; exact e.2)
      refine ⟨by rw [sb, sw], s2, ?_⟩
      rw [s1]
      exact ⟨P.pl, P.hd, P.ok, .inl rfl, fun h => (h rfl).elim, fun h => by cases h⟩
structure PuI (p : Pl) (w n k b : Int) (x : Pu) (A : Ar) : Prop where
  pl : x.pl = p
  hd : x.head = k
  ba : x.base = b
  bb : 0 ≤ b ∧ b % 8 = 0 ∧ b / 8 < n
  ph : x.at' = 0 ∨ x.at' = 1 ∨ x.at' = 2
  was : x.at' ≠ 0 → 0 ≤ x.was
  link : x.at' = 2 → A.ao (4 * w + b / 8) = x.was % 131072
theorem PuI.new {who c : Int} (h : kJ p who c = k) (hb : 0 ≤ b ∧ b % 8 = 0 ∧ b / 8 < n) : PuI p w n k b ⟨p, kJ p who c, 0, 0, b⟩ A := ⟨rfl, h, rfl, hb, .inl rfl, fun h => (h rfl).elim, fun h => by cases h⟩
theorem PuI.JP {x : Pu} (P : PuI p w n k b x A) {mb : Int} (hm : b ≠ mb) (E : FEv w n A B mb) : PuI p w n k b x B :=
  ⟨P.pl, P.hd, P.ba, P.bb, P.ph, P.was, fun h => by rw [E.lk b P.bb.1 P.bb.2.1 P.bb.2.2 hm]; exact P.link h⟩
theorem PuI.step {x : Pu} (P : PuI p w n k b x A) (F : FL A p w n ch) (hu : A.aD ≤ 1000000000) (h0 : 0 ≤ k) (h1 : k < 4 * w) (hn : ∀ j, b ∉ ch j) :
    (x.dP A = false ∧ PuI p w n k b (x.cF A) (x.cX A) ∧ FL (x.cX A) p w n ch ∧ FEv w n A (x.cX A) b ∧ FU w n A (x.cX A)) ∨
    (x.dP A = true ∧ FL (x.cX A) p w n (upd ch k (b :: ch k)) ∧ FEv w n A (x.cX A) b ∧ FU w n A (x.cX A)) := by
  have us := F.us
  have wb := F.wb
  have nb := F.nb
  have o1 := F.tS h0 h1
  have o2 := F.Ad P.bb.1 P.bb.2.2
  have bb := P.bb
  have hkd := F.hd k h0 h1
  have tk : A.tick = A.ay 1 := iu us (by omega)
  have eh := P.hd
  have same : FEv w n A (A.ay 1) b := FEv.same (fun _ _ _ => rfl) wb.1 nb.1
  have td : Int.tdiv b 8 = b / 8 := Int.tdiv_eq_ediv_of_nonneg bb.1
  rcases P.ph with h | h | h
  · left
    have s := Pu.s0 (A := A) h (by rw [eh]; exact o1)
    rw [eh, tk] at s
    obtain ⟨s1, s2⟩ := Prod.mk.inj s
    refine ⟨by unfold Pu.dP; rw [if_neg (by omega), decide_eq_false (by omega)], ?_⟩
    rw [s1, s2]
    exact ⟨⟨P.pl, rfl, P.ba, bb, .inr (.inl rfl), fun _ => hkd.1, fun h => by cases h⟩, F.tick, same, yJ⟩
  · left
    have el : w64 (x.pl.links + w64 (Int.tdiv x.base 8)) = 4 * w + b / 8 := by
      rw [P.pl, P.ba, F.links, td, aE (x := b / 8) (by omega) (by omega), aE (by omega) (by omega)]
    have s := Pu.s1 (A := A) h el o2
    rw [tk, yW] at s
    obtain ⟨s1, s2⟩ := Prod.mk.inj s
    obtain ⟨f1, f2⟩ := F.Oa bb hn (x.was % 131072)
    refine ⟨by unfold Pu.dP; rw [if_neg (by omega), decide_eq_false (by omega)], ?_⟩
    rw [s1, s2]
    exact ⟨⟨P.pl, P.hd, P.ba, bb, .inr (.inr rfl), fun _ => P.was (by omega), fun _ => by rw [iE (A := A.ay 1) o2, if_pos rfl]⟩, f1, f2, Bi o2 (by omega)⟩
  · have sb : x.dP A = A.cC x.head x.was := by unfold Pu.dP; rw [if_pos h]
    have w0 := P.was (by omega)
    by_cases c : A.ao k = x.was
    · right
      have s := Pu.s2y (A := A) h (by rw [eh]; exact o1) (by rw [eh]; exact c)
      rw [eh, tk, P.ba, td] at s
      obtain ⟨s1, s2⟩ := Prod.mk.inj s
      have sw : A.cC x.head x.was = true := by rw [eh]; exact decide_eq_true ⟨o1, by rw [dG o1]; exact c⟩
      have e1 : w64 (w64 (b / 8) + 1) = b / 8 + 1 := by rw [aE (x := b / 8) (by omega) (by omega), aE (by omega) (by omega)]
      rw [e1, ← c] at s2
      obtain ⟨f1, f2⟩ := F.Om hu h0 h1 bb hn (by rw [c]; exact P.link h)
      refine ⟨by rw [sb, sw], ?_⟩
      rw [s2]
      exact ⟨f1, ⟨f2.hd, fun c c0 c1 c2 _ => f2.lk c c0 c1 c2 (by omega)⟩, Bi o1 (by omega)⟩
    · left
      have s := Pu.s2n (A := A) h (by rw [eh]; exact o1) (by rw [eh]; exact c)
      rw [tk] at s
      obtain ⟨s1, s2⟩ := Prod.mk.inj s
      have sw : A.cC x.head x.was = false := by rw [eh]; exact decide_eq_false fun e => c (by rw [← dG o1]; exact e.2)
      refine ⟨by rw [sb, sw], ?_⟩
      rw [s1, s2]
      exact ⟨⟨P.pl, P.hd, P.ba, bb, .inl rfl, fun h => (h rfl).elim, fun h => by cases h⟩, F.tick, same, yJ⟩
end
end Go.Proofs.YtjnacjniiogjcaaGreat
