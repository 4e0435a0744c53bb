/- Texts of this claim, one behind the other. -/
import Derived.Test.YtjnacjniiogjcaaGreatProg
import Derived.KernelRfl
import Derived.Test.YtjnacjniiogjcaaGreatA0
set_option linter.unusedSimpArgs false
set_option linter.unusedVariables false
set_option maxRecDepth 20000
namespace Go.Proofs.YtjnacjniiogjcaaGreat
open Go Go.Fw
@[reducible] def aF : TypeId := 0
@[reducible] def aP : TypeId := 3
@[reducible] def aO : TypeId := 4
@[reducible] def fL : TypeId := 22
@[reducible] def aK : TypeId := 26
@[reducible] def jG : TypeId := 27
@[reducible] def bn : TypeId := 29
@[reducible] def bN : TypeId := 30
@[reducible] def bI : TypeId := 32
@[reducible] def bK : TypeId := 35
@[reducible] def cz : TypeId := 36
@[reducible] def cg : TypeId := 37
@[reducible] def ae : TypeId := 40
@[reducible] def bO : TypeId := 47
@[reducible] def aX : TypeId := 48
@[reducible] def bX : TypeId := 49
@[reducible] def gA : TypeId := 50
@[reducible] def fT : TypeId := 59
@[reducible] def gT : TypeId := 70
@[reducible] def j8 : TypeId := 73
@[reducible] def aA : TypeId := 78
@[reducible] def aJ : TypeId := 80
@[reducible] def aY : TypeId := 82
@[reducible] def ar : TypeId := 83
@[reducible] def ab : TypeId := 85
@[reducible] def az : TypeId := 86
@[reducible] def ik : TypeId := 87
@[reducible] def sr : TypeId := 88
@[reducible] def ui : TypeId := 92
@[reducible] def aC : TypeId := 94
@[reducible] def c7 : TypeId := 98
@[reducible] def hJ : TypeId := 104
@[reducible] def de : TypeId := 108
@[reducible] def bq : TypeId := 110
@[reducible] def aU : TypeId := 112
@[reducible] def j5 : TypeId := 115
@[reducible] def fO : TypeId := 120
@[reducible] def tc : TypeId := 125
@[reducible] def aQ : TypeId := 126
@[reducible] def aG : TypeId := 128
@[reducible] def c9 : TypeId := 130
@[reducible] def aM : TypeId := 132
@[reducible] def jw : TypeId := 133
@[reducible] def b9 : TypeId := 134
@[reducible] def aH : TypeId := 136
@[reducible] def cM : TypeId := 139
@[reducible] def fW : TypeId := 142
@[reducible] def br : TypeId := 146
@[reducible] def jE : TypeId := 147
@[reducible] def uJ : TypeId := 152
@[reducible] def yQ : TypeId := 155
@[reducible] def cP : TypeId := 156
@[reducible] def bF : TypeId := 159
@[reducible] def gm : TypeId := 161
@[reducible] def bH : TypeId := 164
@[reducible] def bC : TypeId := 166
@[reducible] def bG : TypeId := 171
@[reducible] def iP : TypeId := 173
@[reducible] def bR : TypeId := 174
@[reducible] def cr : TypeId := 176
@[reducible] def p9 : TypeId := 177
@[reducible] def bD : TypeId := 179
@[reducible] def cD : TypeId := 180
@[reducible] def sJ : TypeId := 185
@[reducible] def jC : TypeId := 186
@[reducible] def vb : TypeId := 188
@[reducible] def wW : TypeId := 190
@[reducible] def ia : FuncId := 4
@[reducible] def iM : FuncId := 9
@[reducible] def gf : FuncId := 10
@[reducible] def jt : FuncId := 11
@[reducible] def fx : FuncId := 12
@[reducible] def gx : FuncId := 14
@[reducible] def bM : FuncId := 15
@[reducible] def jo : FuncId := 16
@[reducible] def cu : FuncId := 17
@[reducible] def dy : FuncId := 18
@[reducible] def cI : FuncId := 19
@[reducible] def jV : FuncId := 20
@[reducible] def gI : FuncId := 21
@[reducible] def gU : FuncId := 22
@[reducible] def gY : FuncId := 23
@[reducible] def iz : FuncId := 24
@[reducible] def fR : FuncId := 25
@[reducible] def fA : FuncId := 26
@[reducible] def jd : FuncId := 27
@[reducible] def uU : FuncId := 28
@[reducible] def il : FuncId := 30
@[reducible] def bQ : FuncId := 31
@[reducible] def lz : FuncId := 32
@[reducible] def dK : FuncId := 33
@[reducible] def sK : FuncId := 34
@[reducible] def uh : FuncId := 35
@[reducible] def uc : FuncId := 36
@[reducible] def pz : FuncId := 37
@[reducible] def uG : FuncId := 38
@[reducible] def ug : FuncId := 39
@[reducible] def iS : FuncId := 40
@[reducible] def ig : FuncId := 41
@[reducible] def iV : FuncId := 42
@[reducible] def iG : FuncId := 43
@[reducible] def eu : FuncId := 45
@[reducible] def ed : FuncId := 46
@[reducible] def dX : FuncId := 47
@[reducible] def dA : FuncId := 48
@[reducible] def dS : FuncId := 49
@[reducible] def dW : FuncId := 50
@[reducible] def dZ : FuncId := 51
@[reducible] def dv : FuncId := 52
@[reducible] def dU : FuncId := 53
@[reducible] def eZ : FuncId := 54
@[reducible] def fc : FuncId := 55
@[reducible] def bE : FuncId := 56
@[reducible] def nY : FuncId := 57
@[reducible] def dc : FuncId := 58
@[reducible] def pS : FuncId := 59
@[reducible] def lq : FuncId := 60
@[reducible] def jg : FuncId := 61
@[reducible] def iK : FuncId := 62
@[reducible] def fF : FuncId := 63
@[reducible] def bV : FuncId := 64
@[reducible] def fP : FuncId := 65
@[reducible] def mj : FuncId := 66
@[reducible] def cE : FuncId := 67
@[reducible] def ju : FuncId := 68
@[reducible] def pN : FuncId := 69
@[reducible] def dg : FuncId := 70
@[reducible] def jJ : FuncId := 71
@[reducible] def fH : FuncId := 72
@[reducible] def oU : FuncId := 73
@[reducible] def ft : FuncId := 74
@[reducible] def j4 : FuncId := 75
@[reducible] def iJ : FuncId := 76
@[reducible] def mg : FuncId := 77
@[reducible] def kx : FuncId := 78
@[reducible] def jP : FuncId := 79
@[reducible] def cY : FuncId := 80
@[reducible] def eY : FuncId := 81
@[reducible] def cZ : FuncId := 82
@[reducible] def fI : FuncId := 83
@[reducible] def cG : FuncId := 84
@[reducible] def fG : FuncId := 85
@[reducible] def cV : FuncId := 86
@[reducible] def cT : FuncId := 87
@[reducible] def ct : FuncId := 88
@[reducible] def dh : FuncId := 89
@[reducible] def cW : FuncId := 90
@[reducible] def jS : FuncId := 91
@[reducible] def iU : FuncId := 92
@[reducible] def jO : FuncId := 93
@[reducible] def ij : FuncId := 94
@[reducible] def g6 : FuncId := 95
@[reducible] def iZ : FuncId := 96
@[reducible] def iQ : FuncId := 97
@[reducible] def kK : FuncId := 98
@[reducible] def g9 : FuncId := 99
@[reducible] def fg : FuncId := 100
@[reducible] def mn : FuncId := 101
@[reducible] def kT : FuncId := 102
@[reducible] def nG : FuncId := 103
@[reducible] def kf : FuncId := 104
@[reducible] def nT : FuncId := 105
@[reducible] def ki : FuncId := 106
@[reducible] def nI : FuncId := 107
@[reducible] def jh : FuncId := 108
@[reducible] def oC : FuncId := 109
@[reducible] def jc : FuncId := 110
@[reducible] def fK : FuncId := 111
@[reducible] def fX : FuncId := 112
@[reducible] def iT : FuncId := 113
@[reducible] def pw : FuncId := 114
@[reducible] def iL : FuncId := 115
@[reducible] def mK : FuncId := 116
@[reducible] def lU : FuncId := 117
@[reducible] def mJ : FuncId := 118
@[reducible] def dd : FuncId := 119
@[reducible] def kL : FuncId := 120
@[reducible] def pM : FuncId := 121
@[reducible] def gC : FuncId := 122
@[reducible] def dT : FuncId := 123
@[reducible] def dp : FuncId := 124
@[reducible] def gR : FuncId := 125
@[reducible] def fv : FuncId := 126
@[reducible] def df : FuncId := 127
@[reducible] def gV : FuncId := 128
@[reducible] def g7 : FuncId := 129
@[reducible] def jk : FuncId := 130
@[reducible] def fw : FuncId := 131
@[reducible] def kG : FuncId := 132
@[reducible] def iq : FuncId := 133
@[reducible] def iy : FuncId := 134
@[reducible] def iN : FuncId := 135
@[reducible] def jH : FuncId := 152
@[reducible] def mD : FuncId := 153
@[reducible] def kU : FuncId := 154
@[reducible] def fJ : FuncId := 155
@[reducible] def kM : FuncId := 156
@[reducible] def kq : FuncId := 157
@[reducible] def lN : FuncId := 158
@[reducible] def kn : FuncId := 159
@[reducible] def pR : FuncId := 160
@[reducible] def jK : FuncId := 161
@[reducible] def kZ : FuncId := 162
@[reducible] def gZ : FuncId := 163
@[reducible] def gG : FuncId := 164
@[reducible] def iO : FuncId := 165
@[reducible] def kj : FuncId := 166
@[reducible] def bU : Cfg := { quiet := [10, 32, 38, 59, 70, 74, 96, 104, 105, 106, 107, 108, 111, 112, 121, 124, 153, 158, 160], quietTmp := false, fncs := [], ifcs := [] }
@[reducible] def cJ : Cfg := { quiet := [10, 32, 38, 59, 70, 74, 96, 104, 105, 106, 107, 108, 111, 112, 121, 124, 153, 158, 160], quietTmp := true, fncs := [], ifcs := [] }
@[reducible] noncomputable def nck (p : Option Addr) : Sem Next := opS Tryz.prog (.nilCheck (.tmp 0)) aF [(.pointer p)]
@[reducible] noncomputable def lkN (p : Option Addr) (k : Addr → Tree) : Tree := .look (nck p) (.one (.leaf .addr)) k
@[reducible] def SpT (f : FuncId) (a : Array Value) (t : Tree) : Prop := ∀ {H : Heap} {R : Value → Heap → Prop}, (∀ L, wp Tryz.prog t L H R) → cB Tryz.prog f a H R
theorem spT {f : FuncId} {fn : Func} {a : List Value} {t : Tree} (cfg : Cfg) (hf : Tryz.prog.funcs[f]? = some fn) (he : re Tryz.prog cfg fn a = t) : SpT f a.toArray t := fun {H R} h => sH (args := a.toArray) (cfg := cfg) hf fun L => (show re Tryz.prog cfg fn a = t from he).symm ▸ h L
noncomputable def yA (p0 : Int) (p1 : Int) (p2 : Bool) : Tree :=
 .make (opS Tryz.prog (.makeSlice bK (.tmp 0) (.tmp 1)) bK [(.int .i64 (imax 0 (mH p0 65536))), (.int .i64 (imax 0 (mH p0 65536)))]) (.one (.leaf .slice)) fun x14 =>
 .make (opS Tryz.prog (.makeSlice bK (.tmp 0) (.tmp 1)) bK [(.int .i64 (imax 0 (mH p1 65536))), (.int .i64 (imax 0 (mH p1 65536)))]) (.one (.leaf .slice)) fun x16 =>
 .CO fun x18 =>
 .make (opS Tryz.prog (.makeSlice fT (.tmp 0) (.tmp 1)) fT [(.int .i64 (imax 0 (mH p1 65536))), (.int .i64 (imax 0 (mH p1 65536)))]) (.one (.leaf .slice)) fun x20 =>
 .make (opS Tryz.prog (.makeSlice fT (.tmp 0) (.tmp 1)) fT [(.int .i64 (imax 0 (mH p1 65536))), (.int .i64 (imax 0 (mH p1 65536)))]) (.one (.leaf .slice)) fun x22 =>
 .CO fun x23 =>
 .dk (.cells #[(.slice x14.a x14.len x14.cap), (.slice x16.a x16.len x16.cap), (.bool p2), (.map x18), (.slice x20.a x20.len x20.cap), (.slice x22.a x22.len x22.cap), (.map x23), (.int .i64 0), (.int .i64 0), (.int .i64 0), (.int .i64 0), (.bool false), (.int .i64 0)] ui) fun x25 =>
 .ret (.pointer (some x25))
theorem xK {p0 : Int} {p1 : Int} {p2 : Bool} : SpT pz #[(.int .i64 p0), (.int .i64 p1), (.bool p2)] (yA p0 p1 p2) := spT cJ Tryz.func37 (by kernel_rfl)
noncomputable def tf (p0 : Option Addr) : Tree :=
 .look (opS Tryz.prog (.binOp .eql j8 (.tmp 0) (.const (.pointer none)) j8) aO [(.pointer p0)]) (.one (.leaf .bool)) fun x4 =>
 bif x4 then (
 .ret (.int .i64 0))
 else (
 lkN p0 fun x6 =>
 .ld x6 (.int .i64) fun x7 =>
 .ret (.int .i64 x7))
theorem pT {p0 : Option Addr} : SpT jJ #[(.pointer p0)] (tf p0) := spT cJ Tryz.func71 (by kernel_rfl)
noncomputable def qw (p0 : Option Addr) (p1 : Int) : Tree :=
 .look (opS Tryz.prog (.binOp .neq j8 (.tmp 0) (.const (.pointer none)) j8) aO [(.pointer p0)]) (.one (.leaf .bool)) fun x5 =>
 bif x5 then (
 lkN p0 fun x8 =>
 .st x8 (.int .i64 p1) <|
 .ret (.tuple #[]))
 else (
 .ret (.tuple #[]))
theorem n6 {p0 : Option Addr} {p1 : Int} : SpT iV #[(.pointer p0), (.int .i64 p1)] (qw p0 p1) := spT cJ Tryz.func42 (by kernel_rfl)
noncomputable def nE (p0 : Option Addr) (p1 : Int) (p2 : Int) : Tree :=
 .look (opS Tryz.prog (.binOp .eql j8 (.tmp 0) (.const (.pointer none)) j8) aO [(.pointer p0)]) (.one (.leaf .bool)) fun x8 =>
 bif x8 then (
 .ret (.bool false))
 else (
 lkN p0 fun x11 =>
 .ld x11 (.int .i64) fun x12 =>
 bif ((x12 : Int) != p1) then (
 .ret (.bool false))
 else (
 lkN p0 fun x18 =>
 .st x18 (.int .i64 p2) <|
 .ret (.bool true)))
theorem k9 {p0 : Option Addr} {p1 : Int} {p2 : Int} : SpT kT #[(.pointer p0), (.int .i64 p1), (.int .i64 p2)] (nE p0 p1 p2) := spT cJ Tryz.func102 (by kernel_rfl)
noncomputable def l7 (p0 : Option Addr) (p1 : Int) : Tree :=
 lkN p0 fun x6 =>
 .ld (x6.add 12) (.int .i64) fun x8 =>
 lkN p0 fun x10 =>
 .st (x10.add 12) (.int .i64 (w64 (x8 + 1))) <|
 bif (decide ((p1 : Int) < 0)) then (
 lkN p0 fun x24 =>
 .st (x24.add 11) (.bool true) <|
 .ret (.pointer none))
 else (
 lkN p0 fun x17 =>
 .ld x17 .slice fun x19 =>
 bif (decide ((p1 : Int) ≥ ((x19.len : Nat) : Int))) then (
 lkN p0 fun x24 =>
 .st (x24.add 11) (.bool true) <|
 .ret (.pointer none))
 else (
 lkN p0 fun x27 =>
 .ld x27 .slice fun x29 =>
 .look (opS Tryz.prog (.indexAddr bK (.tmp 0) (.tmp 1)) aF [(.slice x29.a x29.len x29.cap), (.int .i64 p1)]) (.one (.leaf .addr)) fun x31 =>
 .ret (.pointer (some x31))))
theorem lO {p0 : Option Addr} {p1 : Int} : SpT fH #[(.pointer p0), (.int .i64 p1)] (l7 p0 p1) := spT cJ Tryz.func72 (by kernel_rfl)
noncomputable def oG (p0 : Option Addr) (p1 : Int) : Tree :=
 .cU dg [(.int .i64 p1)] (.tup [(.leaf (.int .i64)), (.leaf (.int .i64)), (.leaf (.int .i64)), (.leaf .bool)]) fun x12 =>
 .cU ft [(.int .i64 x12.2.2.1)] (.one (.leaf (.int .i64))) fun x19 =>
 lkN p0 fun x22 =>
 .ld (x22.add 1) .slice fun x24 =>
 .look (opS Tryz.prog (.slice bK (.tmp 0) (some (.tmp 1)) (some (.tmp 2)) (some (.tmp 3))) bK [(.slice x24.a x24.len x24.cap), (.int .i64 x12.1), (.int .i64 (w64 (x12.1 + x19))), (.int .i64 (w64 (x12.1 + x19)))]) (.one (.leaf .slice)) fun x28 =>
 .ret (.slice x28.a x28.len x28.cap)
theorem rW {p0 : Option Addr} {p1 : Int} : SpT iJ #[(.pointer p0), (.int .i64 p1)] (oG p0 p1) := spT cJ Tryz.func76 (by kernel_rfl)
noncomputable def lW (p0 : Option Addr) (p1 : Int) (p2 : Int) : Tree :=
 lkN p0 fun x9 =>
 .ld (x9.add 12) (.int .i64) fun x11 =>
 lkN p0 fun x13 =>
 .st (x13.add 12) (.int .i64 (w64 (x11 + 1))) <|
 .call il [(.pointer p0), (.int .i64 p1)] (.one (.leaf (.int .i64))) fun x17 =>
 bif ((x17 : Int) == 0) then (
 lkN p0 fun x20 =>
 .st (x20.add 11) (.bool true) <|
 .ret (.pointer none))
 else (
 .call iJ [(.pointer p0), (.int .i64 p1)] (.one (.leaf .slice)) fun x24 =>
 bif (decide ((p2 : Int) < 0)) then (
 lkN p0 fun x34 =>
 .st (x34.add 11) (.bool true) <|
 .ret (.pointer none))
 else (
 bif (decide ((p2 : Int) ≥ ((x24.len : Nat) : Int))) then (
 lkN p0 fun x34 =>
 .st (x34.add 11) (.bool true) <|
 .ret (.pointer none))
 else (
 .look (opS Tryz.prog (.indexAddr bK (.tmp 0) (.tmp 1)) aF [(.slice x24.a x24.len x24.cap), (.int .i64 p2)]) (.one (.leaf .addr)) fun x38 =>
 .ret (.pointer (some x38)))))
theorem lR {p0 : Option Addr} {p1 : Int} {p2 : Int} : SpT iG #[(.pointer p0), (.int .i64 p1), (.int .i64 p2)] (lW p0 p1 p2) := spT cJ Tryz.func43 (by kernel_rfl)
noncomputable def pJ (p0 : Option Addr) (p1 : Int) : Tree :=
 .call fH [(.pointer p0), (.int .i64 p1)] (.one (.leaf .ptr)) fun x7 =>
 .call jJ [(.pointer x7)] (.one (.leaf (.int .i64))) fun x8 =>
 .ret (.int .i64 x8)
theorem tx {p0 : Option Addr} {p1 : Int} : SpT bQ #[(.pointer p0), (.int .i64 p1)] (pJ p0 p1) := spT cJ Tryz.func31 (by kernel_rfl)
noncomputable def mC (p0 : Option Addr) (p1 : Int) (p2 : Int) : Tree :=
 .call fH [(.pointer p0), (.int .i64 p1)] (.one (.leaf .ptr)) fun x8 =>
 .call iV [(.pointer x8), (.int .i64 p2)] .unit fun _ =>
 .ret (.tuple #[])
theorem pd {p0 : Option Addr} {p1 : Int} {p2 : Int} : SpT bV #[(.pointer p0), (.int .i64 p1), (.int .i64 p2)] (mC p0 p1 p2) := spT cJ Tryz.func64 (by kernel_rfl)
noncomputable def lC (p0 : Option Addr) (p1 : Int) (p2 : Int) (p3 : Int) : Tree :=
 .call fH [(.pointer p0), (.int .i64 p1)] (.one (.leaf .ptr)) fun x11 =>
 .call kT [(.pointer x11), (.int .i64 p2), (.int .i64 p3)] (.one (.leaf .bool)) fun x14 =>
 .ret (.bool x14)
theorem oP {p0 : Option Addr} {p1 : Int} {p2 : Int} {p3 : Int} : SpT cE #[(.pointer p0), (.int .i64 p1), (.int .i64 p2), (.int .i64 p3)] (lC p0 p1 p2 p3) := spT cJ Tryz.func67 (by kernel_rfl)
noncomputable def oQ (p0 : Option Addr) (p1 : Int) (p2 : Int) : Tree :=
 .call iG [(.pointer p0), (.int .i64 p1), (.int .i64 p2)] (.one (.leaf .ptr)) fun x10 =>
 .call jJ [(.pointer x10)] (.one (.leaf (.int .i64))) fun x11 =>
 .ret (.int .i64 x11)
theorem r6 {p0 : Option Addr} {p1 : Int} {p2 : Int} : SpT dK #[(.pointer p0), (.int .i64 p1), (.int .i64 p2)] (oQ p0 p1 p2) := spT cJ Tryz.func33 (by kernel_rfl)
noncomputable def nk (p0 : Option Addr) (p1 : Int) (p2 : Int) (p3 : Int) : Tree :=
 .call iG [(.pointer p0), (.int .i64 p1), (.int .i64 p2)] (.one (.leaf .ptr)) fun x11 =>
 .call iV [(.pointer x11), (.int .i64 p3)] .unit fun _ =>
 .ret (.tuple #[])
theorem qy {p0 : Option Addr} {p1 : Int} {p2 : Int} {p3 : Int} : SpT fx #[(.pointer p0), (.int .i64 p1), (.int .i64 p2), (.int .i64 p3)] (nk p0 p1 p2 p3) := spT cJ Tryz.func12 (by kernel_rfl)
noncomputable def nj (p0 : Option Addr) (p1 : Int) : Tree :=
 .cU dg [(.int .i64 p1)] (.tup [(.leaf (.int .i64)), (.leaf (.int .i64)), (.leaf (.int .i64)), (.leaf .bool)]) fun x12 =>
 lkN p0 fun x18 =>
 .ld (x18.add 3) .map fun x20 =>
 .look (opS Tryz.prog (.lookup ik (.tmp 0) (.tmp 1) false) hJ [(.map x20), (.int .i64 x12.1)]) (.one (.agg [(.int .i64), (.int .i64)])) fun x22 =>
 .dk (.cells #[(.int .i64 0), (.int .i64 0)] hJ) fun x9 =>
 .stA x9 [(.int .i64 x22.1), (.int .i64 x22.2.1)] <|
 bif x12.2.2.2.1 then (
 .ld x9 (.int .i64) fun x26 =>
 bif ((x26 : Int) == p1) then (
 .ld (x9.add 1) (.int .i64) fun x31 =>
 .ret (.int .i64 x31))
 else (
 .ret (.int .i64 0)))
 else (
 .ret (.int .i64 0))
theorem qh {p0 : Option Addr} {p1 : Int} : SpT il #[(.pointer p0), (.int .i64 p1)] (nj p0 p1) := spT cJ Tryz.func30 (by kernel_rfl)
noncomputable def oR (p0 : Option Addr) (p1 : Int) (p2 : Int) (p3 : Int) : Tree :=
 .call il [(.pointer p0), (.int .i64 p1)] (.one (.leaf (.int .i64))) fun x16 =>
 bif ((x16 : Int) != p2) then (
 .ret (.tuple #[(.int .i64 0), (.bool false)]))
 else (
 .cU dg [(.int .i64 p1)] (.tup [(.leaf (.int .i64)), (.leaf (.int .i64)), (.leaf (.int .i64)), (.leaf .bool)]) fun x21 =>
 lkN p0 fun x27 =>
 .ld (x27.add 3) .map fun x29 =>
 .act (opS Tryz.prog (.mapUpdate ik (.tmp 0) (.tmp 1) (.tmp 2)) aF [(.map x29), (.int .i64 x21.1), (.agg #[(.int .i64 p1), (.int .i64 p3)])]) .unit fun _ =>
 .cU ft [(.int .i64 x21.2.2.1)] (.one (.leaf (.int .i64))) fun x35 =>
 .ret (.tuple #[(.int .i64 x35), (.bool true)]))
theorem r7 {p0 : Option Addr} {p1 : Int} {p2 : Int} {p3 : Int} : SpT iL #[(.pointer p0), (.int .i64 p1), (.int .i64 p2), (.int .i64 p3)] (oR p0 p1 p2 p3) := spT cJ Tryz.func115 (by kernel_rfl)
noncomputable def mE (p0 : Option Addr) (p1 : Int) : Tree :=
 .call iL [(.pointer p0), (.int .i64 p1), (.int .i64 1), (.int .i64 2)] (.tup [(.leaf (.int .i64)), (.leaf .bool)]) fun x10 =>
 lkN p0 fun x14 =>
 .ld ((x14.add 7).add 1) (.int .i64) fun x17 =>
 lkN p0 fun x20 =>
 .st ((x20.add 7).add 1) (.int .i64 (w64 (x17 - x10.1))) <|
 lkN p0 fun x24 =>
 .ld ((x24.add 7).add 2) (.int .i64) fun x27 =>
 lkN p0 fun x30 =>
 .st ((x30.add 7).add 2) (.int .i64 (w64 (x27 + x10.1))) <|
 .ret (.bool x10.2.1)
theorem o7 {p0 : Option Addr} {p1 : Int} : SpT g9 #[(.pointer p0), (.int .i64 p1)] (mE p0 p1) := spT cJ Tryz.func99 (by kernel_rfl)
@[reducible] def j6 : List Sh1 := [(.leaf (.int .i64))]
noncomputable def lD (p0 : Option Addr) (x15 : HL Sh1.T [(.leaf (.int .i64)), (.leaf .bool)]) (x20 : HL Sh1.T [(.leaf (.int .i64)), (.leaf (.int .i64)), (.leaf (.int .i64)), (.leaf .bool)]) (y1 : HL Sh1.T j6) : Tree :=
 bif (decide ((y1.1 : Int) < x15.1)) then (
 lkN p0 fun x30 =>
 .ld (x30.add 4) .slice fun x32 =>
 .look (opS Tryz.prog (.indexAddr fT (.tmp 0) (.tmp 1)) aF [(.slice x32.a x32.len x32.cap), (.int .i64 (w64 (x20.1 + y1.1)))]) (.one (.leaf .addr)) fun x36 =>
 .st x36 (.bool false) <|
 .again 256 [(.int .i64 (w64 (y1.1 + 1)))])
 else (
 lkN p0 fun x39 =>
 .ld ((x39.add 7).add 2) (.int .i64) fun x42 =>
 lkN p0 fun x45 =>
 .st ((x45.add 7).add 2) (.int .i64 (w64 (x42 - x15.1))) <|
 lkN p0 fun x49 =>
 .ld ((x49.add 7).add 3) (.int .i64) fun x52 =>
 lkN p0 fun x55 =>
 .st ((x55.add 7).add 3) (.int .i64 (w64 (x52 + x15.1))) <|
 .ret (.bool x15.2.1))
noncomputable def oq (p0 : Option Addr) (p1 : Int) : Tree :=
 .call iL [(.pointer p0), (.int .i64 p1), (.int .i64 2), (.int .i64 0)] (.tup [(.leaf (.int .i64)), (.leaf .bool)]) fun x15 =>
 .cU dg [(.int .i64 p1)] (.tup [(.leaf (.int .i64)), (.leaf (.int .i64)), (.leaf (.int .i64)), (.leaf .bool)]) fun x20 =>
 .loop 256 j6 [(.int .i64 0)] (lD p0 x15 x20)
theorem qV {p0 : Option Addr} {p1 : Int} : SpT iN #[(.pointer p0), (.int .i64 p1)] (oq p0 p1) := spT cJ Tryz.func135 (by kernel_rfl)
noncomputable def oW (p0 : Option Addr) : Tree :=
 lkN p0 fun x4 =>
 .ld (x4.add 12) (.int .i64) fun x6 =>
 .ret (.int .i64 x6)
theorem rY {p0 : Option Addr} : SpT cu #[(.pointer p0)] (oW p0) := spT cJ Tryz.func17 (by kernel_rfl)
noncomputable def mU (p0 : Option Addr) : Tree :=
 lkN p0 fun x4 =>
 .ld (x4.add 11) .bool fun x6 =>
 .ret (.bool x6)
theorem qf {p0 : Option Addr} : SpT cI #[(.pointer p0)] (mU p0) := spT cJ Tryz.func19 (by kernel_rfl)
@[reducible] def ka : List Sh1 := [(.leaf (.int .i64))]
noncomputable def lQ (p0 : Option Addr) (p1 : Int) (x14 : HL Sh1.T [(.leaf (.int .i64)), (.leaf (.int .i64)), (.leaf (.int .i64)), (.leaf .bool)]) (x45 : Sl) (y2 : HL Sh1.T ka) : Tree :=
 bif (decide ((y2.1 : Int) < ((x45.len : Nat) : Int))) then (
 lkN p0 fun x67 =>
 .ld (x67.add 5) .slice fun x69 =>
 .look (opS Tryz.prog (.indexAddr fT (.tmp 0) (.tmp 1)) aF [(.slice x69.a x69.len x69.cap), (.int .i64 (w64 (x14.1 + y2.1)))]) (.one (.leaf .addr)) fun x73 =>
 .ld x73 .bool fun x74 =>
 bif (!x74) then (
 lkN p0 fun x77 =>
 .ld (x77.add 7) (.int .i64) fun x80 =>
 lkN p0 fun x82 =>
 .st (x82.add 7) (.int .i64 (w64 (x80 + 1))) <|
 lkN p0 fun x86 =>
 .ld ((x86.add 7).add 3) (.int .i64) fun x89 =>
 lkN p0 fun x91 =>
 .st ((x91.add 7).add 3) (.int .i64 (w64 (x89 + 1))) <|
 lkN p0 fun x95 =>
 .ld (x95.add 4) .slice fun x97 =>
 lkN p0 fun x102 =>
 .ld (x102.add 5) .slice fun x104 =>
 .look (opS Tryz.prog (.indexAddr fT (.tmp 0) (.tmp 1)) aF [(.slice x97.a x97.len x97.cap), (.int .i64 (w64 (x14.1 + y2.1)))]) (.one (.leaf .addr)) fun x108 =>
 .st x108 (.bool true) <|
 .look (opS Tryz.prog (.indexAddr fT (.tmp 0) (.tmp 1)) aF [(.slice x104.a x104.len x104.cap), (.int .i64 (w64 (x14.1 + y2.1)))]) (.one (.leaf .addr)) fun x109 =>
 .st x109 (.bool true) <|
 lkN p0 fun x111 =>
 .ld (x111.add 2) .bool fun x113 =>
 bif x113 then (
 .look (opS Tryz.prog (.indexAddr bK (.tmp 0) (.tmp 1)) aF [(.slice x45.a x45.len x45.cap), (.int .i64 y2.1)]) (.one (.leaf .addr)) fun x116 =>
 .st x116 (.int .i64 0) <|
 .again 768 [(.int .i64 (w64 (y2.1 + 1)))])
 else (
 .again 768 [(.int .i64 (w64 (y2.1 + 1)))]))
 else (
 lkN p0 fun x95 =>
 .ld (x95.add 4) .slice fun x97 =>
 lkN p0 fun x102 =>
 .ld (x102.add 5) .slice fun x104 =>
 .look (opS Tryz.prog (.indexAddr fT (.tmp 0) (.tmp 1)) aF [(.slice x97.a x97.len x97.cap), (.int .i64 (w64 (x14.1 + y2.1)))]) (.one (.leaf .addr)) fun x108 =>
 .st x108 (.bool true) <|
 .look (opS Tryz.prog (.indexAddr fT (.tmp 0) (.tmp 1)) aF [(.slice x104.a x104.len x104.cap), (.int .i64 (w64 (x14.1 + y2.1)))]) (.one (.leaf .addr)) fun x109 =>
 .st x109 (.bool true) <|
 lkN p0 fun x111 =>
 .ld (x111.add 2) .bool fun x113 =>
 bif x113 then (
 .look (opS Tryz.prog (.indexAddr bK (.tmp 0) (.tmp 1)) aF [(.slice x45.a x45.len x45.cap), (.int .i64 y2.1)]) (.one (.leaf .addr)) fun x116 =>
 .st x116 (.int .i64 0) <|
 .again 768 [(.int .i64 (w64 (y2.1 + 1)))])
 else (
 .again 768 [(.int .i64 (w64 (y2.1 + 1)))])))
 else (
 lkN p0 fun x119 =>
 .ld (x119.add 3) .map fun x121 =>
 lkN p0 fun x124 =>
 .ld (x124.add 6) .map fun x126 =>
 .act (opS Tryz.prog (.mapEntry ik (.tmp 0) (.tmp 1)) aF [(.map x121), (.int .i64 x14.1)]) (.tup [(.agg [(.int .i64), (.int .i64)]), (.leaf (.int .i64))]) fun x131 =>
 .act (opS Tryz.prog (.entryStore ik (.tmp 0) (.tmp 1) (.tmp 2)) aF [(.map x121), (.int .i64 x131.2.1), (.agg #[(.int .i64 p1), (.int .i64 1)])]) .unit fun _ =>
 .act (opS Tryz.prog (.mapEntry sr (.tmp 0) (.tmp 1)) aF [(.map x126), (.int .i64 x14.1)]) (.tup [(.leaf (.int .i64)), (.leaf (.int .i64))]) fun x133 =>
 .act (opS Tryz.prog (.entryStore sr (.tmp 0) (.tmp 1) (.tmp 2)) aF [(.map x126), (.int .i64 x133.2.1), (.int .i64 x14.2.1)]) .unit fun _ =>
 lkN p0 fun x136 =>
 .ld ((x136.add 7).add 1) (.int .i64) fun x139 =>
 lkN p0 fun x143 =>
 .st ((x143.add 7).add 1) (.int .i64 (w64 (x139 + ((x45.len : Nat) : Int)))) <|
 lkN p0 fun x147 =>
 .ld ((x147.add 7).add 3) (.int .i64) fun x150 =>
 lkN p0 fun x154 =>
 .st ((x154.add 7).add 3) (.int .i64 (w64 (x150 - ((x45.len : Nat) : Int)))) <|
 .ret (.bool true))
@[reducible] def ke : List Sh1 := [(.leaf .bool), (.leaf (.int .i64))]
noncomputable def lE (p0 : Option Addr) (p1 : Int) (x14 : HL Sh1.T [(.leaf (.int .i64)), (.leaf (.int .i64)), (.leaf (.int .i64)), (.leaf .bool)]) (x45 : Sl) (y1 : HL Sh1.T ke) : Tree :=
 bif (decide ((y1.2.1 : Int) < ((x45.len : Nat) : Int))) then (
 lkN p0 fun x52 =>
 .ld (x52.add 4) .slice fun x54 =>
 .look (opS Tryz.prog (.indexAddr fT (.tmp 0) (.tmp 1)) aF [(.slice x54.a x54.len x54.cap), (.int .i64 (w64 (x14.1 + y1.2.1)))]) (.one (.leaf .addr)) fun x58 =>
 .ld x58 .bool fun x59 =>
 bif x59 then (
 .ret (.bool false))
 else (
 .again 384 [(.bool y1.1), (.int .i64 (w64 (y1.2.1 + 1)))]))
 else (
 .loop 768 ka [(.int .i64 0)] (lQ p0 p1 x14 x45))
noncomputable def nV (p0 : Option Addr) (p1 : Int) : Tree :=
 .cU dg [(.int .i64 p1)] (.tup [(.leaf (.int .i64)), (.leaf (.int .i64)), (.leaf (.int .i64)), (.leaf .bool)]) fun x14 =>
 bif (!x14.2.2.2.1) then (
 .ret (.bool false))
 else (
 lkN p0 fun x24 =>
 .ld (x24.add 1) .slice fun x26 =>
 .cU ft [(.int .i64 x14.2.2.1)] (.one (.leaf (.int .i64))) fun x29 =>
 bif (decide ((x14.1 : Int) > (w64 (((x26.len : Nat) : Int) - x29)))) then (
 .ret (.bool false))
 else (
 lkN p0 fun x36 =>
 .ld (x36.add 6) .map fun x38 =>
 .look (opS Tryz.prog (.lookup sr (.tmp 0) (.tmp 1) false) aP [(.map x38), (.int .i64 x14.1)]) (.one (.leaf (.int .i64))) fun x40 =>
 bif (decide ((x14.2.1 : Int) ≤ x40)) then (
 .ret (.bool false))
 else (
 .call iJ [(.pointer p0), (.int .i64 p1)] (.one (.leaf .slice)) fun x45 =>
 .loop 384 ke [(.bool false), (.int .i64 0)] (lE p0 p1 x14 x45))))
theorem rN {p0 : Option Addr} {p1 : Int} : SpT iQ #[(.pointer p0), (.int .i64 p1)] (nV p0 p1) := spT cJ Tryz.func97 (by kernel_rfl)
noncomputable def nq (p0 : Int) (p1 : Int) : Tree :=
 .look (opS Tryz.prog (.binOp .rem aP (.tmp 0) (.tmp 1) aP) aP [(.int .i64 p0), (.int .i64 p1)]) (.one (.leaf (.int .i64))) fun x8 =>
 bif (decide ((x8 : Int) < 0)) then (
 .ret (.int .i64 (w64 (x8 + p1))))
 else (
 .ret (.int .i64 x8))
theorem qj {p0 : Int} {p1 : Int} : SpT gf #[(.int .i64 p0), (.int .i64 p1)] (nq p0 p1) := spT cJ Tryz.func10 (by kernel_rfl)
@[reducible] def mY : List Sh1 := [(.leaf (.int .i64)), (.leaf (.int .i64))]
noncomputable def iB (p0 : Int) (p1 : Int) (p2 : Int) (x8 : Addr) (y1 : HL Sh1.T mY) : Tree :=
 bif (decide ((y1.2.1 : Int) < 3)) then (
 .look (opS Tryz.prog (.index cM (.tmp 0) (.tmp 1)) aP [(.agg #[(.int .i64 p2), (.int .i64 p1), (.int .i64 p0)]), (.int .i64 y1.2.1)]) (.one (.leaf (.int .i64))) fun x41 =>
 .look (opS Tryz.prog (.indexAddr cM (.tmp 0) (.tmp 1)) aF [(.pointer (some x8)), (.int .i64 y1.2.1)]) (.one (.leaf .addr)) fun x45 =>
 .ld x45 (.int .i64) fun x46 =>
 .look (opS Tryz.prog (.binOp .shl aP (.tmp 0) (.tmp 1) aP) aP [(.int .i64 x41), (.int .i64 x46)]) (.one (.leaf (.int .i64))) fun x47 =>
 .again 384 [(.int .i64 (ior y1.1 x47)), (.int .i64 (w64 (y1.2.1 + 1)))])
 else (
 .ret (.int .i64 y1.1))
noncomputable def vN (p0 : Int) (p1 : Int) (p2 : Int) : Tree :=
 bif (decide ((p0 : Int) < 0)) then (
 .ret (.int .i64 0))
 else (
 bif (decide ((p0 : Int) ≥ 65536)) then (
 .ret (.int .i64 0))
 else (
 bif (decide ((p1 : Int) < 1)) then (
 .ret (.int .i64 0))
 else (
 bif (decide ((p1 : Int) > 1073741823)) then (
 .ret (.int .i64 0))
 else (
 bif (decide ((p2 : Int) < 0)) then (
 .ret (.int .i64 0))
 else (
 bif (decide ((p2 : Int) ≥ 4)) then (
 .ret (.int .i64 0))
 else (
 .cU kf [] (.one (.agg [(.int .i64), (.int .i64), (.int .i64)])) fun x33 =>
 .dk (.cells #[(.int .i64 0), (.int .i64 0), (.int .i64 0)] cM) fun x8 =>
 .stA x8 [(.int .i64 x33.1), (.int .i64 x33.2.1), (.int .i64 x33.2.2.1)] <|
 .loop 384 mY [(.int .i64 1125899906842624), (.int .i64 0)] (iB p0 p1 p2 x8)))))))
theorem wm {p0 : Int} {p1 : Int} {p2 : Int} : SpT iZ #[(.int .i64 p0), (.int .i64 p1), (.int .i64 p2)] (vN p0 p1 p2) := spT cJ Tryz.func96 (by kernel_rfl)
@[reducible] def mT : List Sh1 := [(.leaf (.int .i64))]
noncomputable def iD (p0 : Int) (x6 : Addr) (x7 : Addr) (x8 : Addr) (y1 : HL Sh1.T mT) : Tree :=
 bif (decide ((y1.1 : Int) < 3)) then (
 .look (opS Tryz.prog (.indexAddr cM (.tmp 0) (.tmp 1)) aF [(.pointer (some x6)), (.int .i64 y1.1)]) (.one (.leaf .addr)) fun x18 =>
 .ld x18 (.int .i64) fun x19 =>
 .look (opS Tryz.prog (.binOp .shr aP (.tmp 0) (.tmp 1) aP) aP [(.int .i64 p0), (.int .i64 x19)]) (.one (.leaf (.int .i64))) fun x20 =>
 .look (opS Tryz.prog (.indexAddr cM (.tmp 0) (.tmp 1)) aF [(.pointer (some x7)), (.int .i64 y1.1)]) (.one (.leaf .addr)) fun x22 =>
 .ld x22 (.int .i64) fun x23 =>
 .look (opS Tryz.prog (.indexAddr cM (.tmp 0) (.tmp 1)) aF [(.pointer (some x8)), (.int .i64 y1.1)]) (.one (.leaf .addr)) fun x25 =>
 .st x25 (.int .i64 (gO x20 x23)) <|
 .again 256 [(.int .i64 (w64 (y1.1 + 1)))])
 else (
 .ld (x8.add 2) (.int .i64) fun x28 =>
 .ld (x8.add 1) (.int .i64) fun x30 =>
 .ld x8 (.int .i64) fun x32 =>
 bif ((p0 : Int) == 0) then (
 .ret (.tuple #[(.int .i64 0), (.int .i64 0), (.int .i64 0), (.bool false)]))
 else (
 .cU iZ [(.int .i64 x28), (.int .i64 x30), (.int .i64 x32)] (.one (.leaf (.int .i64))) fun x39 =>
 bif ((x39 : Int) != p0) then (
 .ret (.tuple #[(.int .i64 0), (.int .i64 0), (.int .i64 0), (.bool false)]))
 else (
 .ret (.tuple #[(.int .i64 x28), (.int .i64 x30), (.int .i64 x32), (.bool true)]))))
noncomputable def vK (p0 : Int) : Tree :=
 .cU kf [] (.one (.agg [(.int .i64), (.int .i64), (.int .i64)])) fun x10 =>
 .cU nT [] (.one (.agg [(.int .i64), (.int .i64), (.int .i64)])) fun x11 =>
 .dk (.cells #[(.int .i64 0), (.int .i64 0), (.int .i64 0)] cM) fun x6 =>
 .dk (.cells #[(.int .i64 0), (.int .i64 0), (.int .i64 0)] cM) fun x7 =>
 .stA x6 [(.int .i64 x10.1), (.int .i64 x10.2.1), (.int .i64 x10.2.2.1)] <|
 .stA x7 [(.int .i64 x11.1), (.int .i64 x11.2.1), (.int .i64 x11.2.2.1)] <|
 .dk (.cells #[(.int .i64 0), (.int .i64 0), (.int .i64 0)] cM) fun x8 =>
 .loop 256 mT [(.int .i64 0)] (iD p0 x6 x7 x8)
theorem v7 {p0 : Int} : SpT dg #[(.int .i64 p0)] (vK p0) := spT cJ Tryz.func70 (by kernel_rfl)
noncomputable def tC : Tree :=
 .dk (.cells #[(.int .i64 0), (.int .i64 0), (.int .i64 0)] cM) fun x0 =>
 .stA x0 [(.int .i64 0), (.int .i64 2), (.int .i64 32)] <|
 .look (ldK x0 3 0 #[] fun r0 => .pure (.value (.agg r0))) (.one (.agg [(.int .i64), (.int .i64), (.int .i64)])) fun r => .ret (Sh.fq (.one (.agg [(.int .i64), (.int .i64), (.int .i64)])) r)
theorem ua : SpT kf #[] (tC ) := spT cJ Tryz.func104 (by kernel_rfl)
noncomputable def uR : Tree :=
 .dk (.cells #[(.int .i64 0), (.int .i64 0), (.int .i64 0)] cM) fun x0 =>
 .stA x0 [(.int .i64 3), (.int .i64 1073741823), (.int .i64 262143)] <|
 .look (ldK x0 3 0 #[] fun r0 => .pure (.value (.agg r0))) (.one (.agg [(.int .i64), (.int .i64), (.int .i64)])) fun r => .ret (Sh.fq (.one (.agg [(.int .i64), (.int .i64), (.int .i64)])) r)
theorem vz : SpT nT #[] (uR ) := spT cJ Tryz.func105 (by kernel_rfl)
noncomputable def vF (p0 : Int) : Tree :=
 bif (decide ((p0 : Int) < 0)) then (
 .ret (.int .i64 0))
 else (
 bif (decide ((p0 : Int) ≥ 4)) then (
 .ret (.int .i64 0))
 else (
 .look (opS Tryz.prog (.binOp .shl aP (.const (.int .i64 8)) (.tmp 0) aP) aP [(.int .i64 p0)]) (.one (.leaf (.int .i64))) fun x10 =>
 .ret (.int .i64 x10)))
theorem wa {p0 : Int} : SpT ft #[(.int .i64 p0)] (vF p0) := spT cJ Tryz.func74 (by kernel_rfl)
end Go.Proofs.YtjnacjniiogjcaaGreat
namespace Go.Fw
open Go
theorem zr {n : Nat} (h : n < 9223372036854775808) : w64 (n : Int) = n := aE (by omega) (by omega)
theorem ym (n : Nat) : BitVec.ofInt 64 (n : Int) = BitVec.ofNat 64 n := by
  apply BitVec.eq_of_toNat_eq; simp
theorem zB {x y : Nat} (hx : x < 2 ^ 63) (hy : y < 2 ^ 63) : ior (x : Int) (y : Int) = ((x ||| y : Nat) : Int) := by
  unfold ior
  rw [ym, ym, BitVec.toNat_or, BitVec.toNat_ofNat, BitVec.toNat_ofNat, Nat.mod_eq_of_lt (by omega), Nat.mod_eq_of_lt (by omega)]
  have := Nat.or_lt_two_pow hx hy
  exact zr (by omega)
theorem vl (x : Int) (k : Nat) (hk : k ≤ 62) : gO x ((2 ^ k - 1 : Nat) : Int) = x % (2 ^ k : Nat) := by
  unfold gO
  have hlt : 2 ^ k ≤ 2 ^ 62 := Nat.pow_le_pow_right (by omega) hk
  have hpos : 0 < 2 ^ k := Nat.two_pow_pos k
  rw [ym, BitVec.toNat_and, BitVec.toNat_ofNat, Nat.mod_eq_of_lt (by omega : 2 ^ k - 1 < 2 ^ 64), Nat.and_two_pow_sub_one_eq_mod, BitVec.toNat_ofInt]
  have h1 : (((x % ((2 ^ 64 : Nat) : Int)).toNat % 2 ^ k : Nat) : Int) = x % ((2 ^ k : Nat) : Int) := by
    have hnn : 0 ≤ x % ((2 ^ 64 : Nat) : Int) := Int.emod_nonneg _ (by decide)
    rw [Int.natCast_emod, Int.toNat_of_nonneg hnn, Int.emod_emod_of_dvd]
    exact Int.natCast_dvd_natCast.2 (Nat.pow_dvd_pow 2 (by omega))
  rw [h1]
  have h2 := Int.emod_nonneg x (b := ((2 ^ k : Nat) : Int)) (by omega)
  have h3 := Int.emod_lt_of_pos x (b := ((2 ^ k : Nat) : Int)) (by omega)
  exact aE (by omega) (by omega)
def lT (b g c : Int) : Int := 1125899906842624 + c + 4 * g + 4294967296 * b
def jq (b g c : Int) : Prop := 0 ≤ b ∧ b < 65536 ∧ 1 ≤ g ∧ g ≤ 1073741823 ∧ 0 ≤ c ∧ c < 4
instance (b g c : Int) : Decidable (jq b g c) := by unfold jq; infer_instance
def cH (b g c : Int) : Int := if jq b g c then lT b g c else 0
def rK (h : Int) : Int := (h / 4294967296) % 262144
def xJ (h : Int) : Int := (h / 4) % 1073741824
def kH (h : Int) : Int := h % 4
def cS (h : Int) : Bool := decide (h ≠ 0 ∧ cH (rK h) (xJ h) (kH h) = h)
theorem Hm {b g c : Int} (h : jq b g c) : rK (lT b g c) = b ∧ xJ (lT b g c) = g ∧ kH (lT b g c) = c ∧ cS (lT b g c) = true := by
  obtain ⟨h1, h2, h3, h4, h5, h6⟩ := h
  have e1 : rK (lT b g c) = b := by unfold rK lT; omega
  have e2 : xJ (lT b g c) = g := by unfold xJ lT; omega
  have e3 : kH (lT b g c) = c := by unfold kH lT; omega
  refine ⟨e1, e2, e3, ?_⟩
  unfold cS
  rw [e1, e2, e3, cH, if_pos ⟨h1, h2, h3, h4, h5, h6⟩]
  simp only [decide_eq_true_eq, and_true]
  unfold lT; omega
theorem zC {h : Int} (hk : cS h = true) : jq (rK h) (xJ h) (kH h) ∧ h = lT (rK h) (xJ h) (kH h) := by
  unfold cS at hk
  simp only [decide_eq_true_eq] at hk
  obtain ⟨h0, h1⟩ := hk
  unfold cH at h1
  split at h1
  · rename_i hv; exact ⟨hv, h1.symm⟩
  · exact absurd h1.symm h0
theorem wU (c : Nat) (hc : c < 4) : 1125899906842624 ||| c = 1125899906842624 + c := by
  have := Nat.two_pow_add_eq_or_of_lt (i := 50) (b := c) (by omega) 1; simp only [Nat.reducePow, Nat.mul_one] at this
  omega
theorem C2 (c g : Nat) (hc : c < 4) (hg : g < 1073741824) : (1125899906842624 + c) ||| (4 * g) = 1125899906842624 + c + 4 * g := by
  have h1 := Nat.two_pow_add_eq_or_of_lt (i := 2) (b := c) (by omega) g; simp only [Nat.reducePow] at h1
  have h2 := Nat.two_pow_add_eq_or_of_lt (i := 50) (b := 4 * g + c) (by omega) 1; simp only [Nat.reducePow, Nat.mul_one] at h2
  rw [← wU c hc, Nat.or_assoc, Nat.or_comm c]
  have e : 4 * g ||| c = 4 * g + c := by omega
  have h3 := wU c hc
  rw [e]; omega
theorem CN (c g b : Nat) (hc : c < 4) (hg : g < 1073741824) (hb : b < 262144) : (1125899906842624 + c + 4 * g) ||| (4294967296 * b) = 1125899906842624 + c + 4 * g + 4294967296 * b := by
  have h1 := Nat.two_pow_add_eq_or_of_lt (i := 32) (b := 4 * g + c) (by omega) b; simp only [Nat.reducePow] at h1
  have h2 := Nat.two_pow_add_eq_or_of_lt (i := 50) (b := 4294967296 * b + (4 * g + c)) (by omega) 1; simp only [Nat.reducePow, Nat.mul_one] at h2
  have h3 := Nat.two_pow_add_eq_or_of_lt (i := 50) (b := 4 * g + c) (by omega) 1; simp only [Nat.reducePow, Nat.mul_one] at h3
  have e0 : 1125899906842624 + c + 4 * g = 1125899906842624 ||| (4 * g + c) := by omega
  rw [e0, Nat.or_assoc, Nat.or_comm (4 * g + c)]
  have e : 4294967296 * b ||| (4 * g + c) = 4294967296 * b + (4 * g + c) := by omega
  rw [e]; omega
theorem OT {c : Nat} (hc : c < 4) : ior 1125899906842624 (c : Int) = 1125899906842624 + (c : Int) := by
  have h := zB (x := 1125899906842624) (y := c) (by omega) (by omega)
  rw [wU c hc] at h
  have e : ((1125899906842624 + c : Nat) : Int) = 1125899906842624 + (c : Int) := by omega
  rw [e] at h; exact h
theorem Pf {c g : Nat} (hc : c < 4) (hg : g < 1073741824) : ior (1125899906842624 + (c : Int)) ((4 * g : Nat) : Int) = 1125899906842624 + (c : Int) + 4 * (g : Int) := by
  have h := zB (x := 1125899906842624 + c) (y := 4 * g) (by omega) (by omega)
  rw [C2 c g hc hg] at h
  have e : ((1125899906842624 + c : Nat) : Int) = 1125899906842624 + (c : Int) := by omega
  have e' : ((1125899906842624 + c + 4 * g : Nat) : Int) = 1125899906842624 + (c : Int) + 4 * (g : Int) := by omega
  rw [e, e'] at h; exact h
theorem OR {c g b : Nat} (hc : c < 4) (hg : g < 1073741824) (hb : b < 262144) : ior (1125899906842624 + (c : Int) + 4 * (g : Int)) ((4294967296 * b : Nat) : Int) = lT b g c := by
  have h := zB (x := 1125899906842624 + c + 4 * g) (y := 4294967296 * b) (by omega) (by omega)
  rw [CN c g b hc hg hb] at h
  have e : ((1125899906842624 + c + 4 * g : Nat) : Int) = 1125899906842624 + (c : Int) + 4 * (g : Int) := by omega
  have e' : ((1125899906842624 + c + 4 * g + 4294967296 * b : Nat) : Int) = lT b g c := by unfold lT; omega
  rw [e, e'] at h; exact h
theorem Pk {c : Nat} (hc : c < 4) : w64 ((c : Int) * 2 ^ (min (Int.toNat 0) 64)) = (c : Int) := by
  rw [show min (Int.toNat 0) 64 = 0 from rfl, Int.pow_zero, Int.mul_one]; exact zr (by omega)
theorem OS {g : Nat} (hg : g < 1073741824) : w64 ((g : Int) * 2 ^ (min (Int.toNat 2) 64)) = ((4 * g : Nat) : Int) := by
  rw [show (2 : Int) ^ (min (Int.toNat 2) 64) = 4 from rfl, show (g : Int) * 4 = ((4 * g : Nat) : Int) by omega]; exact zr (by omega)
theorem NI {b : Nat} (hb : b < 262144) : w64 ((b : Int) * 2 ^ (min (Int.toNat 32) 64)) = ((4294967296 * b : Nat) : Int) := by
  rw [show (2 : Int) ^ (min (Int.toNat 32) 64) = 4294967296 from rfl, show (b : Int) * 4294967296 = ((4294967296 * b : Nat) : Int) by omega]; exact zr (by omega)
theorem LU : w64 (0 + 1) = 1 := aE (by omega) (by omega)
theorem LK : w64 (1 + 1) = 2 := aE (by omega) (by omega)
theorem Mc : w64 (2 + 1) = 3 := aE (by omega) (by omega)
def au (c : Int) : Int := if c < 0 then 0 else if c ≥ 4 then 0 else 8 * 2 ^ c.toNat
theorem ur {c : Int} (h0 : 0 ≤ c) (h1 : c < 4) : (c = 0 ∧ au c = 8) ∨ (c = 1 ∧ au c = 16) ∨ (c = 2 ∧ au c = 32) ∨ (c = 3 ∧ au c = 64) := by
  have : c = 0 ∨ c = 1 ∨ c = 2 ∨ c = 3 := by omega
  rcases this with rfl | rfl | rfl | rfl <;> simp [au]
end Go.Fw
namespace Go.Proofs.YtjnacjniiogjcaaGreat
open Go Go.Fw
theorem AH (v n : Int) (hn : 0 < n) : (if v.tmod n < 0 then v.tmod n + n else v.tmod n) = v % n := by
  have h1 := Int.emod_nonneg v (by omega : n ≠ 0)
  have h2 := Int.emod_lt_of_pos v hn
  have h3 := Int.tmod_eq_emod (a := v) (b := n)
  rw [h3]
  split at h3 <;> rename_i h
  · rw [if_pos h]; simp; omega
  · rw [if_neg h]
    have : (n.natAbs : Int) = n := by omega
    split <;> omega
theorem HH (v n : Int) (hn : 0 < n) (hn2 : n ≤ 4611686018427387904) (H : Heap) : Det Tryz.prog gf [.int .i64 v, .int .i64 n] H (.int .i64 (v % n)) H := by
  refine qj fun L => ?_
  unfold nq
  refine aB (x := v.tmod n) (wX (by omega)) ?_
  rw [zV]
  have h := AH v n hn
  have h1 := Int.emod_nonneg v (by omega : n ≠ 0)
  have h2 := Int.emod_lt_of_pos v hn
  constructor
  · intro hb
    rw [decide_eq_true_eq] at hb
    rw [if_pos hb] at h
    refine ad ⟨?_, rfl⟩
    rw [aE (by omega) (by omega), h]
  · intro hb
    rw [decide_eq_false_iff_not] at hb
    rw [if_neg hb] at h
    exact ad ⟨by rw [h], rfl⟩
theorem Aa (H : Heap) : Det Tryz.prog kf [] H (.agg #[.int .i64 0, .int .i64 2, .int .i64 32]) H := by
  refine ua fun L => ?_
  unfold tC
  refine dI fun b hb => ?_
  refine gS (Heap.bx _ _ _) (by simp) (by simp [Value.single]) ?_
  rw [Heap.set_set]
  refine ⟨(0, 2, 32, ()), iX (Heap.bx _ _ _) 3 0 #[] (by simp [putAll]) rfl, H, Heap.dM _ hb, rfl, rfl⟩
theorem HV (H : Heap) : Det Tryz.prog nT [] H (.agg #[.int .i64 3, .int .i64 1073741823, .int .i64 262143]) H := by
  refine vz fun L => ?_
  unfold uR
  refine dI fun b hb => ?_
  refine gS (Heap.bx _ _ _) (by simp) (by simp [Value.single]) ?_
  rw [Heap.set_set]
  refine ⟨(3, 1073741823, 262143, ()), iX (Heap.bx _ _ _) 3 0 #[] (by simp [putAll]) rfl, H, Heap.dM _ hb, rfl, rfl⟩
theorem ud (c : Int) (H : Heap) : Det Tryz.prog ft [.int .i64 c] H (.int .i64 (au c)) H := by
  refine wa fun L => ?_
  unfold vF
  simp only [zV, decide_eq_true_eq, decide_eq_false_iff_not]
  refine ⟨fun h => ad ⟨by simp [au, h], rfl⟩, fun h => ⟨fun h' => ad ⟨by simp [au, h, h'], rfl⟩, fun h' => ?_⟩⟩
  have : c = 0 ∨ c = 1 ∨ c = 2 ∨ c = 3 := by omega
  rcases this with rfl | rfl | rfl | rfl
  all_goals exact aB (x := (au _ : Int)) (by kernel_rfl) (ad ⟨rfl, rfl⟩)
theorem DD (b g c : Int) (H : Heap) : Det Tryz.prog iZ [.int .i64 b, .int .i64 g, .int .i64 c] H (.int .i64 (cH b g c)) H := by
  refine wm fun L => ?_
  unfold vN
  simp only [zV, decide_eq_true_eq, decide_eq_false_iff_not]
  have no : ¬ jq b g c → wp Tryz.prog (.ret (.int .i64 0)) L H (fun u K => u = .int .i64 (cH b g c) ∧ K = H) := fun h => ad ⟨by rw [cH, if_neg h], rfl⟩
  refine ⟨fun h => no (by unfold jq; omega), fun h0 => ⟨fun h => no (by unfold jq; omega), fun h1 => ⟨fun h => no (by unfold jq; omega), fun h2 => ⟨fun h => no (by unfold jq; omega), fun h3 =>
    ⟨fun h => no (by unfold jq; omega), fun h4 => ⟨fun h => no (by unfold jq; omega), fun h5 => ?_⟩⟩⟩⟩⟩⟩
  have hv : jq b g c := by unfold jq; omega
  refine bc (x := (0, 2, 32, ())) (Aa H) ?_
  refine dI fun x hx => ?_
  refine gS (Heap.bx _ _ _) (by simp) (by simp [Value.single]) ?_
  rw [Heap.set_set]
  obtain ⟨b, rfl⟩ := Int.eq_ofNat_of_zero_le (by omega : 0 ≤ b)
  obtain ⟨g, rfl⟩ := Int.eq_ofNat_of_zero_le (by omega : 0 ≤ g)
  obtain ⟨c, rfl⟩ := Int.eq_ofNat_of_zero_le (by omega : 0 ≤ c)
  have e1 := wU c (by omega)
  have e2 := C2 c g (by omega) (by omega)
  have e3 := CN c g b (by omega) (by omega) (by omega)
  have s0 : (opS Tryz.prog (.index cM (.tmp 0) (.tmp 1)) aP [(.agg #[(.int .i64 c), (.int .i64 g), (.int .i64 b)]), (.int .i64 0)]) = .pure (.value (.int .i64 c)) := by kernel_rfl
  have s1 : (opS Tryz.prog (.index cM (.tmp 0) (.tmp 1)) aP [(.agg #[(.int .i64 c), (.int .i64 g), (.int .i64 b)]), (.int .i64 1)]) = .pure (.value (.int .i64 g)) := by kernel_rfl
  have s2 : (opS Tryz.prog (.index cM (.tmp 0) (.tmp 1)) aP [(.agg #[(.int .i64 c), (.int .i64 g), (.int .i64 b)]), (.int .i64 2)]) = .pure (.value (.int .i64 b)) := by kernel_rfl
  have t0 : ∀ a, (opS Tryz.prog (.indexAddr cM (.tmp 0) (.tmp 1)) aF [(.pointer (some a)), (.int .i64 0)]) = .pure (.value (.pointer (some (a.add 0)))) := fun a => by kernel_rfl
  have t1 : ∀ a, (opS Tryz.prog (.indexAddr cM (.tmp 0) (.tmp 1)) aF [(.pointer (some a)), (.int .i64 1)]) = .pure (.value (.pointer (some (a.add 1)))) := fun a => by kernel_rfl
  have t2 : ∀ a, (opS Tryz.prog (.indexAddr cM (.tmp 0) (.tmp 1)) aF [(.pointer (some a)), (.int .i64 2)]) = .pure (.value (.pointer (some (a.add 2)))) := fun a => by kernel_rfl
  -- round 0
  refine bT (1125899906842624, 0, ()) rfl ?_
  rw [iB]
  rw [show (decide ((0 : Int) < 3)) = true from rfl, cond_true]
  refine aB (x := (c : Int)) s0 ?_
  refine aB (x := ⟨x, 0, none⟩) (t0 _) ?_
  refine bL (x := (0 : Int)) (by rw [Heap.fE]; rfl) ?_
  refine aB (x := (c : Int)) (by rw [Cg (by omega), Pk (by omega)]) ?_
  refine cR ?_
  rw [OT (by omega), LU]
  -- round 1
  refine bT (1125899906842624 + c, 1, ()) rfl ?_
  rw [iB]
  rw [show (decide ((1 : Int) < 3)) = true from rfl, cond_true]
  refine aB (x := (g : Int)) s1 ?_
  refine aB (x := ⟨x, 1, none⟩) (t1 _) ?_
  refine bL (x := (2 : Int)) (by rw [Heap.fE]; rfl) ?_
  refine aB (x := ((4 * g : Nat) : Int)) (by rw [Cg (by omega), OS (by omega)]) ?_
  refine cR ?_
  rw [Pf (by omega) (by omega), LK]
  -- round 2
  refine bT (1125899906842624 + c + 4 * g, 2, ()) rfl ?_
  rw [iB]
  rw [show (decide ((2 : Int) < 3)) = true from rfl, cond_true]
  refine aB (x := (b : Int)) s2 ?_
  refine aB (x := ⟨x, 2, none⟩) (t2 _) ?_
  refine bL (x := (32 : Int)) (by rw [Heap.fE]; rfl) ?_
  refine aB (x := ((4294967296 * b : Nat) : Int)) (by rw [Cg (by omega), NI (by omega)]) ?_
  refine cR ?_
  rw [OR (by omega) (by omega) (by omega), Mc]
  refine bT (lT b g c, 3, ()) rfl ?_
  rw [iB]
  rw [show (decide ((3 : Int) < 3)) = false from rfl, cond_false]
  exact ⟨H, Heap.dM _ hx, by rw [cH, if_pos hv], rfl⟩
def vT (h : Int) : Value := if cS h then .tuple #[.int .i64 (rK h), .int .i64 (xJ h), .int .i64 (kH h), .bool true] else .tuple #[.int .i64 0, .int .i64 0, .int .i64 0, .bool false]
theorem Pc (h : Int) : h.fdiv (2 ^ (min (Int.toNat 0) 64)) = h := by
  rw [show (2 : Int) ^ (min (Int.toNat 0) 64) = 1 from rfl]; simp
theorem OY (h : Int) : h.fdiv (2 ^ (min (Int.toNat 2) 64)) = h / 4 := by
  rw [show (2 : Int) ^ (min (Int.toNat 2) 64) = 4 from rfl, Int.fdiv_eq_ediv_of_nonneg _ (by omega)]
theorem NB (h : Int) : h.fdiv (2 ^ (min (Int.toNat 32) 64)) = h / 4294967296 := by
  rw [show (2 : Int) ^ (min (Int.toNat 32) 64) = 4294967296 from rfl, Int.fdiv_eq_ediv_of_nonneg _ (by omega)]
theorem NY (x : Int) : gO x 3 = x % 4 := vl x 2 (by omega)
theorem Ni (x : Int) : gO x 1073741823 = x % 1073741824 := vl x 30 (by omega)
theorem Ms (x : Int) : gO x 262143 = x % 262144 := vl x 18 (by omega)
theorem Ip (h : Int) (H : Heap) : Det Tryz.prog dg [.int .i64 h] H (vT h) H := by
  refine v7 fun L => ?_
  unfold vK
  refine bc (x := (0, 2, 32, ())) (Aa H) ?_
  refine bc (x := (3, 1073741823, 262143, ())) (HV H) ?_
  refine dI fun a ha => ?_
  refine dI fun m hm => ?_
  have hma : m ≠ a := fun e => by subst e; simp [Heap.set] at hm
  have ham : a ≠ m := fun e => hma e.symm
  refine gS (c := #[.int .i64 0, .int .i64 0, .int .i64 0]) (T := cM) (by rw [Heap.dJ _ _ ham, Heap.bx]) (by simp) (by simp [Value.single]) ?_
  refine gS (c := #[.int .i64 0, .int .i64 0, .int .i64 0]) (T := cM) (by rw [Heap.dJ _ _ hma, Heap.bx]) (by simp) (by simp [Value.single]) ?_
  refine dI fun l hl => ?_
  have hla : l ≠ a := fun e => by subst e; rw [Heap.dJ _ _ ham, Heap.bx] at hl; cases hl
  have hlm : l ≠ m := fun e => by subst e; rw [Heap.bx] at hl; cases hl
  have hl0 : H l = none := by
    rw [Heap.dJ _ _ hlm, Heap.dJ _ _ hla, Heap.dJ _ _ hlm, Heap.dJ _ _ hla] at hl; exact hl
  have hm0 : H m = none := by rw [Heap.dJ _ _ hma] at hm; exact hm
  -- the heap at the loop
  generalize hK : ((((H.set a _).set m _).set a _).set m _) = K
  have Ka : K a = some (.cells #[.int .i64 0, .int .i64 2, .int .i64 32] cM (0, 0)) := by rw [← hK, Heap.dJ _ _ ham, Heap.bx]; rfl
  have Km : K m = some (.cells #[.int .i64 3, .int .i64 1073741823, .int .i64 262143] cM (0, 0)) := by rw [← hK, Heap.bx]; rfl
  have hle : H.le K := fun b o e => by
    have h1 : b ≠ a := fun e' => by subst e'; rw [ha] at e; cases e
    have h2 : b ≠ m := fun e' => by subst e'; rw [hm0] at e; cases e
    rw [← hK, Heap.dJ _ _ h2, Heap.dJ _ _ h1, Heap.dJ _ _ h2, Heap.dJ _ _ h1]; exact e
  have hle' : ∀ o, H.le (K.set l o) := fun o b o' e => by
    have h1 : b ≠ l := fun e' => by subst e'; rw [hl0] at e; cases e
    rw [Heap.dJ _ _ h1]; exact hle b o' e
  clear hK
  have t0 : ∀ a, (opS Tryz.prog (.indexAddr cM (.tmp 0) (.tmp 1)) aF [(.pointer (some a)), (.int .i64 0)]) = .pure (.value (.pointer (some (a.add 0)))) := fun a => by kernel_rfl
  have t1 : ∀ a, (opS Tryz.prog (.indexAddr cM (.tmp 0) (.tmp 1)) aF [(.pointer (some a)), (.int .i64 1)]) = .pure (.value (.pointer (some (a.add 1)))) := fun a => by kernel_rfl
  have t2 : ∀ a, (opS Tryz.prog (.indexAddr cM (.tmp 0) (.tmp 1)) aF [(.pointer (some a)), (.int .i64 2)]) = .pure (.value (.pointer (some (a.add 2)))) := fun a => by kernel_rfl
  refine bT (0, ()) rfl ?_
  rw [iD, show (decide ((0 : Int) < 3)) = true from rfl, cond_true]
  refine aB (x := ⟨a, 0, none⟩) (t0 _) ?_
  refine bL (x := (0 : Int)) (by rw [Heap.vm hla.symm, Heap.cell_of Ka]; rfl) ?_
  refine aB (x := (h : Int)) (by rw [vf (by omega), Pc]) ?_
  refine aB (x := ⟨m, 0, none⟩) (t0 _) ?_
  refine bL (x := (3 : Int)) (by rw [Heap.vm hlm.symm, Heap.cell_of Km]; rfl) ?_
  refine aB (x := ⟨l, 0, none⟩) (t0 _) ?_
  refine gd (Heap.bx _ _ _) rfl rfl ?_
  rw [Heap.set_set, LU, NY]
  refine cR ?_
  refine bT (1, ()) rfl ?_
  rw [iD, show (decide ((1 : Int) < 3)) = true from rfl, cond_true]
  refine aB (x := ⟨a, 1, none⟩) (t1 _) ?_
  refine bL (x := (2 : Int)) (by rw [Heap.vm hla.symm, Heap.cell_of Ka]; rfl) ?_
  refine aB (x := (h / 4 : Int)) (by rw [vf (by omega), OY]) ?_
  refine aB (x := ⟨m, 1, none⟩) (t1 _) ?_
  refine bL (x := (1073741823 : Int)) (by rw [Heap.vm hlm.symm, Heap.cell_of Km]; rfl) ?_
  refine aB (x := ⟨l, 1, none⟩) (t1 _) ?_
  refine gd (Heap.bx _ _ _) rfl rfl ?_
  rw [Heap.set_set, LK, Ni]
  refine cR ?_
  refine bT (2, ()) rfl ?_
  rw [iD, show (decide ((2 : Int) < 3)) = true from rfl, cond_true]
  refine aB (x := ⟨a, 2, none⟩) (t2 _) ?_
  refine bL (x := (32 : Int)) (by rw [Heap.vm hla.symm, Heap.cell_of Ka]; rfl) ?_
  refine aB (x := (h / 4294967296 : Int)) (by rw [vf (by omega), NB]) ?_
  refine aB (x := ⟨m, 2, none⟩) (t2 _) ?_
  refine bL (x := (262143 : Int)) (by rw [Heap.vm hlm.symm, Heap.cell_of Km]; rfl) ?_
  refine aB (x := ⟨l, 2, none⟩) (t2 _) ?_
  refine gd (Heap.bx _ _ _) rfl rfl ?_
  rw [Heap.set_set, Mc, Ms]
  refine cR ?_
  refine bT (3, ()) rfl ?_
  rw [iD, show (decide ((3 : Int) < 3)) = false from rfl, cond_false]
  refine bL (x := rK h) (by rw [Addr.gF, Heap.fE]; rfl) ?_
  refine bL (x := xJ h) (by rw [Addr.gF, Heap.fE]; rfl) ?_
  refine bL (x := kH h) (by rw [Heap.fE]; rfl) ?_
  rw [zV]
  have no : cS h = false → wp Tryz.prog (.ret (.tuple #[(.int .i64 0), (.int .i64 0), (.int .i64 0), (.bool false)])) L
      (K.set l (.cells #[.int .i64 (h % 4), .int .i64 (h / 4 % 1073741824), .int .i64 (h / 4294967296 % 262144)] cM (0, 0))) (fun u K => u = vT h ∧ K = H) := fun hk => ⟨H, hle' _, by rw [vT, hk]; rfl, rfl⟩
  refine ⟨fun h0 => no ?_, fun h0 => ?_⟩
  · unfold cS; simp only [beq_iff_eq] at h0; simp [h0]
  · refine bc (x := cH (rK h) (xJ h) (kH h)) (DD _ _ _ _) ?_
    rw [zV]
    simp only [beq_eq_false_iff_ne] at h0
    refine ⟨fun h1 => no ?_, fun h1 => ?_⟩
    · unfold cS; simp only [bne_iff_ne] at h1; simp [h1]
    · have hk : cS h = true := by
        unfold cS; simp only [bne_eq_false_iff_eq] at h1; simp [h0, h1]
      exact ⟨H, hle' _, by rw [vT, hk]; rfl, rfl⟩
theorem wN {h : Int} {v : Value} (H : Heap) (e : vT h = v) : Det Tryz.prog dg [.int .i64 h] H v H := e ▸ Ip h H
theorem Lg {b g c v : Int} (H : Heap) (e : cH b g c = v) : Det Tryz.prog iZ [.int .i64 b, .int .i64 g, .int .i64 c] H (.int .i64 v) H := e ▸ DD b g c H
theorem BC {h : Int} (hk : cS h = false) : vT h = .tuple #[.int .i64 0, .int .i64 0, .int .i64 0, .bool false] := by
  rw [vT, hk]; rfl
structure Ar where
  a : Nat
  r : Nat
  w : Nat
  s : Nat
  b : Nat
  c : Nat
  g : Nat
  raw : List Int
  words : List Int
  fresh : Bool
  slots : List (Int × (Int × Int))
  busy : List Bool
  carved : List Bool
  gens : List (Int × Int)
  nC : Int
  nL : Int
  nR : Int
  nF : Int
  fault : Bool
  aD : Int
def te (p : Int × Int) : Value := .agg #[.int .i64 p.1, .int .i64 p.2]
def Av (n : Int) : Value := .int .i64 n
def ints (l : List Int) : Array Value := (l.map (Value.int .i64)).toArray
def vQ (l : List Bool) : Array Value := (l.map Value.bool).toArray
namespace Ar
def wc (A : Ar) : Array Value := #[.slice (some ⟨A.r, 0, none⟩) A.raw.length A.raw.length, .slice (some ⟨A.w, 0, none⟩) A.words.length A.words.length, .bool A.fresh, .map (some A.s),
  .slice (some ⟨A.b, 0, none⟩) A.busy.length A.busy.length, .slice (some ⟨A.c, 0, none⟩) A.carved.length A.carved.length, .map (some A.g),
  .int .i64 A.nC, .int .i64 A.nL, .int .i64 A.nR, .int .i64 A.nF, .bool A.fault, .int .i64 A.aD]
def qa (A : Ar) : Obj := .cells A.wc ui (0, 0)
def oK (A : Ar) : Obj := .cells (ints A.raw) aP (0, 0)
def oY (A : Ar) : Obj := .cells (ints A.words) aP (0, 0)
def pj (A : Ar) : Obj := bJ te A.slots
def qI (A : Ar) : Obj := .cells (vQ A.busy) aO (0, 0)
def qE (A : Ar) : Obj := .cells (vQ A.carved) aO (0, 0)
def o9 (A : Ar) : Obj := bJ Av A.gens
def ids (A : Ar) : List Nat := [A.a, A.r, A.w, A.s, A.b, A.c, A.g]
def nd (A : Ar) : Prop := A.ids.Nodup
def put (A : Ar) (H : Heap) : Heap := fun x =>
  if x = A.a then some A.qa else if x = A.r then some A.oK else if x = A.w then some A.oY else if x = A.s then some A.pj else if x = A.b then some A.qI else
  if x = A.c then some A.qE else if x = A.g then some A.o9 else H x
theorem ne (A : Ar) (h : A.nd) : A.r ≠ A.a ∧ A.w ≠ A.a ∧ A.w ≠ A.r ∧ A.s ≠ A.a ∧ A.s ≠ A.r ∧ A.s ≠ A.w ∧ A.b ≠ A.a ∧ A.b ≠ A.r ∧ A.b ≠ A.w ∧ A.b ≠ A.s ∧
    A.c ≠ A.a ∧ A.c ≠ A.r ∧ A.c ≠ A.w ∧ A.c ≠ A.s ∧ A.c ≠ A.b ∧ A.g ≠ A.a ∧ A.g ≠ A.r ∧ A.g ≠ A.w ∧ A.g ≠ A.s ∧ A.g ≠ A.b ∧ A.g ≠ A.c := by
  unfold nd ids at h
  simp only [List.nodup_cons, List.mem_cons, not_or, List.not_mem_nil, not_false_eq_true, and_true, List.nodup_nil] at h
  obtain ⟨⟨h1, h2, h3, h4, h5, h6⟩, ⟨h7, h8, h9, h10, h11⟩, ⟨h12, h13, h14, h15⟩, ⟨h16, h17, h18⟩, ⟨h19, h20⟩, h21⟩ := h
  exact ⟨fun e => h1 e.symm, fun e => h2 e.symm, fun e => h7 e.symm, fun e => h3 e.symm, fun e => h8 e.symm, fun e => h12 e.symm, fun e => h4 e.symm, fun e => h9 e.symm, fun e => h13 e.symm, fun e => h16 e.symm,
    fun e => h5 e.symm, fun e => h10 e.symm, fun e => h14 e.symm, fun e => h17 e.symm, fun e => h19 e.symm, fun e => h6 e.symm, fun e => h11 e.symm, fun e => h15 e.symm, fun e => h18 e.symm, fun e => h20 e.symm, fun e => h21 e.symm⟩
theorem Nb (A : Ar) (H : Heap) : A.put H A.a = some A.qa := by unfold put; rw [if_pos rfl]
theorem HK {A : Ar} (h : A.nd) (H : Heap) : A.put H A.r = some A.oK := by have := A.ne h; simp [put, this]
theorem KC {A : Ar} (h : A.nd) (H : Heap) : A.put H A.w = some A.oY := by have := A.ne h; simp [put, this]
theorem Kq {A : Ar} (h : A.nd) (H : Heap) : A.put H A.s = some A.pj := by have := A.ne h; simp [put, this]
theorem KK {A : Ar} (h : A.nd) (H : Heap) : A.put H A.b = some A.qI := by have := A.ne h; simp [put, this]
theorem Mv {A : Ar} (h : A.nd) (H : Heap) : A.put H A.c = some A.qE := by have := A.ne h; simp [put, this]
theorem Mm {A : Ar} (h : A.nd) (H : Heap) : A.put H A.g = some A.o9 := by have := A.ne h; simp [put, this]
structure Alike (A B : Ar) : Prop where
  a : B.a = A.a
  r : B.r = A.r
  w : B.w = A.w
  s : B.s = A.s
  b : B.b = A.b
  c : B.c = A.c
  g : B.g = A.g
theorem Alike.refl (A : Ar) : Alike A A := ⟨rfl, rfl, rfl, rfl, rfl, rfl, rfl⟩
theorem Alike.trans {A B C : Ar} (h : Alike A B) (k : Alike B C) : Alike A C := ⟨k.a.trans h.a, k.r.trans h.r, k.w.trans h.w, k.s.trans h.s, k.b.trans h.b, k.c.trans h.c, k.g.trans h.g⟩
theorem Alike.ids {A B : Ar} (h : Alike A B) : B.ids = A.ids := by unfold Ar.ids; rw [h.a, h.r, h.w, h.s, h.b, h.c, h.g]
theorem Alike.nd {A B : Ar} (h : Alike A B) (hn : A.nd) : B.nd := by unfold Ar.nd at *; rw [h.ids]; exact hn
theorem jI {A : Ar} {H : Heap} {x : Nat} (h : x ∉ A.ids) : A.put H x = H x := by
  unfold ids at h
  simp only [List.mem_cons, not_or, List.not_mem_nil, not_false_eq_true, and_true] at h
  unfold put
  rw [if_neg h.1, if_neg h.2.1, if_neg h.2.2.1, if_neg h.2.2.2.1, if_neg h.2.2.2.2.1, if_neg h.2.2.2.2.2.1, if_neg h.2.2.2.2.2.2]
theorem wI {A : Ar} {H : Heap} {x : Nat} (h : A.put H x = none) : x ∉ A.ids ∧ H x = none := by
  have hx : x ∉ A.ids := fun hm => by
    unfold ids at hm
    simp only [List.mem_cons, List.not_mem_nil, or_false] at hm
    unfold put at h
    repeat' split at h
    all_goals first | cases h | skip
    rename_i h1 h2 h3 h4 h5 h6 h7
    rcases hm with e | e | e | e | e | e | e <;> first | exact h1 e | exact h2 e | exact h3 e | exact h4 e | exact h5 e | exact h6 e | exact h7 e
  exact ⟨hx, by rw [jI hx] at h; exact h⟩
theorem sq {A : Ar} {H : Heap} {x : Nat} (o : Obj) (h : x ∉ A.ids) : (A.put H).set x o = A.put (H.set x o) := by
  funext y
  by_cases hy : y = x
  · subst hy; rw [Heap.bx, jI h, Heap.bx]
  · rw [Heap.dJ _ _ hy]
    unfold put Heap.set
    rw [if_neg hy]
theorem MA {A : Ar} {H K : Heap} (h : H.le K) : (A.put H).le (A.put K) := fun x o e => by
  unfold put at *
  repeat' split at e
  all_goals first | (rename_i h1; simp_all; done) | skip
  all_goals simp_all
  exact h x o e
theorem sX {A B : Ar} (hA : A.nd) (h : Alike A B) (H : Heap) (x : Nat) (o : Obj)
    (hx : (x = A.a ∧ o = B.qa ∧ B.oK = A.oK ∧ B.oY = A.oY ∧ B.pj = A.pj ∧ B.qI = A.qI ∧ B.qE = A.qE ∧ B.o9 = A.o9) ∨
      (x = A.r ∧ o = B.oK ∧ B.qa = A.qa ∧ B.oY = A.oY ∧ B.pj = A.pj ∧ B.qI = A.qI ∧ B.qE = A.qE ∧ B.o9 = A.o9) ∨
      (x = A.w ∧ o = B.oY ∧ B.qa = A.qa ∧ B.oK = A.oK ∧ B.pj = A.pj ∧ B.qI = A.qI ∧ B.qE = A.qE ∧ B.o9 = A.o9) ∨
      (x = A.s ∧ o = B.pj ∧ B.qa = A.qa ∧ B.oK = A.oK ∧ B.oY = A.oY ∧ B.qI = A.qI ∧ B.qE = A.qE ∧ B.o9 = A.o9) ∨
      (x = A.b ∧ o = B.qI ∧ B.qa = A.qa ∧ B.oK = A.oK ∧ B.oY = A.oY ∧ B.pj = A.pj ∧ B.qE = A.qE ∧ B.o9 = A.o9) ∨
      (x = A.c ∧ o = B.qE ∧ B.qa = A.qa ∧ B.oK = A.oK ∧ B.oY = A.oY ∧ B.pj = A.pj ∧ B.qI = A.qI ∧ B.o9 = A.o9) ∨
      (x = A.g ∧ o = B.o9 ∧ B.qa = A.qa ∧ B.oK = A.oK ∧ B.oY = A.oY ∧ B.pj = A.pj ∧ B.qI = A.qI ∧ B.qE = A.qE)) : (A.put H).set x o = B.put H := by
  have hne := A.ne hA
  funext y
  rcases hx with hx | hx | hx | hx | hx | hx | hx
  · obtain ⟨hx, ho, e1, e2, e3, e4, e5, e6⟩ := hx
    rw [hx, ho]
    by_cases hy : y = A.a
    · rw [hy, Heap.bx]
      have := B.Nb  H
      rw [h.a] at this
      exact this.symm
    · rw [Heap.dJ _ _ hy]
      unfold put
      rw [h.a, h.r, h.w, h.s, h.b, h.c, h.g, e1, e2, e3, e4, e5, e6]
      rw [if_neg hy, if_neg hy]
  · obtain ⟨hx, ho, e1, e2, e3, e4, e5, e6⟩ := hx
    rw [hx, ho]
    by_cases hy : y = A.r
    · rw [hy, Heap.bx]
      have := B.HK (h.nd hA) H
      rw [h.r] at this
      exact this.symm
    · rw [Heap.dJ _ _ hy]
      unfold put
      rw [h.a, h.r, h.w, h.s, h.b, h.c, h.g, e1, e2, e3, e4, e5, e6]
      simp only [if_neg hy]
  · obtain ⟨hx, ho, e1, e2, e3, e4, e5, e6⟩ := hx
    rw [hx, ho]
    by_cases hy : y = A.w
    · rw [hy, Heap.bx]
      have := B.KC (h.nd hA) H
      rw [h.w] at this
      exact this.symm
    · rw [Heap.dJ _ _ hy]
      unfold put
      rw [h.a, h.r, h.w, h.s, h.b, h.c, h.g, e1, e2, e3, e4, e5, e6]
      simp only [if_neg hy]
  · obtain ⟨hx, ho, e1, e2, e3, e4, e5, e6⟩ := hx
    rw [hx, ho]
    by_cases hy : y = A.s
    · rw [hy, Heap.bx]
      have := B.Kq (h.nd hA) H
      rw [h.s] at this
      exact this.symm
    · rw [Heap.dJ _ _ hy]
      unfold put
      rw [h.a, h.r, h.w, h.s, h.b, h.c, h.g, e1, e2, e3, e4, e5, e6]
      simp only [if_neg hy]
  · obtain ⟨hx, ho, e1, e2, e3, e4, e5, e6⟩ := hx
    rw [hx, ho]
    by_cases hy : y = A.b
    · rw [hy, Heap.bx]
      have := B.KK (h.nd hA) H
      rw [h.b] at this
      exact this.symm
    · rw [Heap.dJ _ _ hy]
      unfold put
      rw [h.a, h.r, h.w, h.s, h.b, h.c, h.g, e1, e2, e3, e4, e5, e6]
      simp only [if_neg hy]
  · obtain ⟨hx, ho, e1, e2, e3, e4, e5, e6⟩ := hx
    rw [hx, ho]
    by_cases hy : y = A.c
    · rw [hy, Heap.bx]
      have := B.Mv (h.nd hA) H
      rw [h.c] at this
      exact this.symm
    · rw [Heap.dJ _ _ hy]
      unfold put
      rw [h.a, h.r, h.w, h.s, h.b, h.c, h.g, e1, e2, e3, e4, e5, e6]
      simp only [if_neg hy]
  · obtain ⟨hx, ho, e1, e2, e3, e4, e5, e6⟩ := hx
    rw [hx, ho]
    by_cases hy : y = A.g
    · rw [hy, Heap.bx]
      have := B.Mm (h.nd hA) H
      rw [h.g] at this
      exact this.symm
    · rw [Heap.dJ _ _ hy]
      unfold put
      rw [h.a, h.r, h.w, h.s, h.b, h.c, h.g, e1, e2, e3, e4, e5, e6]
      simp only [if_neg hy]
end Ar
def pA (A : Ar) : Value := .pointer (some ⟨A.a, 0, none⟩)
def opB (h : Int) : Int := if cS h then rK h else 0
def opG (h : Int) : Int := if cS h then xJ h else 0
def opC (h : Int) : Int := if cS h then kH h else 0
theorem rn (H : Heap) (h : Int) : Det Tryz.prog dg [.int .i64 h] H (Sh.fq (.tup [(.leaf (.int .i64)), (.leaf (.int .i64)), (.leaf (.int .i64)), (.leaf .bool)]) (opB h, opG h, opC h, cS h, ())) H := by
  refine wN H ?_
  unfold vT opB opG opC
  cases cS h <;> rfl
section
variable {L : aZ} {H : Heap} {R : Value → Heap → Prop} {A B : Ar}
theorem fb {p : Addr} {n : Nat} {l : iH} {x : l.T} {k : l.T → Tree} (h : wp Tryz.prog (k x) L (A.put H) R) (hp : p = ⟨A.a, n, none⟩ := by rfl) (hx : A.wc[n]? = some (l.fq x) := by rfl) :
    wp Tryz.prog (.ld p l k) L (A.put H) R := by
  subst hp
  exact bL (by rw [Heap.cell_of (A.Nb H)]; exact hx) h
structure Pj (A B : Ar) : Prop where
  al : Ar.Alike A B
  r : B.oK = A.oK
  w : B.oY = A.oY
  s : B.pj = A.pj
  b : B.qI = A.qI
  c : B.qE = A.qE
  g : B.o9 = A.o9
theorem gW (B : Ar) {p : Addr} {n : Nat} {v u : Value} {k : Tree} (hA : A.nd) (h : wp Tryz.prog k L (B.put H) R) (hp : p = ⟨A.a, n, none⟩ := by rfl) (hn : A.wc[n]? = some u := by rfl)
    (hb : A.wc.setIfInBounds n v = B.wc := by rfl) (hB : Pj A B := by exact ⟨⟨rfl, rfl, rfl, rfl, rfl, rfl, rfl⟩, rfl, rfl, rfl, rfl, rfl, rfl⟩) (hs : Value.single v = true := by rfl) :
    wp Tryz.prog (.st p v k) L (A.put H) R := by
  subst hp
  refine gd (A.Nb H) hn hs ?_
  rw [Ar.sX (B := B) hA hB.al H _ _ (.inl ⟨rfl, by unfold Ar.qa; rw [hb], hB.r, hB.w, hB.s, hB.b, hB.c, hB.g⟩)]
  exact h
end
def Ar.stF (A : Ar) (h : Int) : Int := match alGet A.slots (opB h) with
  | some (h', s) => if cS h = true ∧ h' = h then s else 0
  | none => 0
theorem yd {A : Ar} (hA : A.nd) (h : Int) (H : Heap) : Det Tryz.prog il [pA A, .int .i64 h] (A.put H) (.int .i64 (A.stF h)) (A.put H) := by
  refine qh fun L => ?_
  unfold nj
  refine bc (rn _ _) ?_
  refine aa.2 ?_
  refine fb (x := some A.s) (n := 3) ?_
  have key : ∀ y : Int × Int × Unit, (match alGet A.slots (opB h) with | some v => te v | none => .agg #[.int .i64 0, .int .i64 0]) = Sh.fq (.one (.agg [(.int .i64), (.int .i64)])) y →
      A.stF h = (if cS h = true then if y.1 = h then y.2.1 else 0 else 0) → 
      wp Tryz.prog (.dk (.cells #[(.int .i64 0), (.int .i64 0)] hJ) fun x9 =>
  .stA x9 [(.int .i64 y.1), (.int .i64 y.2.1)] <|
  bif cS h then (
    .ld x9 (.int .i64) fun x26 =>
    bif ((x26 : Int) == h) then (
      .ld (x9.add 1) (.int .i64) fun x31 =>
      .ret (.int .i64 x31))
    else (
      .ret (.int .i64 0)))
  else (
    .ret (.int .i64 0))) L (A.put H) (fun u K => u = .int .i64 (A.stF h) ∧ K = A.put H) := by
    intro y hy hst
    refine dI fun b hb => ?_
    refine gS (Heap.bx _ _ _) (by exact Nat.le_refl 2) (by intro v hv; simp only [List.mem_cons, List.not_mem_nil, or_false] at hv; rcases hv with rfl | rfl <;> rfl) ?_
    rw [Heap.set_set]
    have hle := Heap.dM (.cells (putAll #[.int .i64 0, .int .i64 0] 0 [.int .i64 y.1, .int .i64 y.2.1]) hJ (0, 0)) hb
    cases hk : cS h with
    | false =>
      refine af rfl ⟨A.put H, hle, ?_, rfl⟩
      rw [hst, hk]; rfl
    | true =>
      refine av rfl ?_
      refine bL (x := y.1) (by rw [Heap.fE]; rfl) ?_
      rw [hk, if_pos rfl] at hst
      by_cases e : y.1 = h
      · refine av (j7 e) ?_
        refine bL (x := y.2.1) (by show Heap.cell? _ ⟨b, 1, none⟩ = _; rw [Heap.fE]; rfl) ⟨A.put H, hle, ?_, rfl⟩
        rw [hst, if_pos e]
      · refine af (iR e) ⟨A.put H, hle, ?_, rfl⟩
        rw [hst, if_neg e]
  unfold Ar.stF at *
  refine yn (l := A.slots) (enc := te) (kt := aP) (et := hJ) (y := match alGet A.slots (opB h) with | some v => (v.1, v.2, ()) | none => (0, 0, ())) (Ar.Kq hA H) rfl rfl rfl rfl ?_ (key _ ?_ ?_)
  · cases alGet A.slots (opB h) <;> rfl
  · cases alGet A.slots (opB h) <;> rfl
  · cases alGet A.slots (opB h) with
    | none => simp
    | some v => 
      obtain ⟨v1, v2⟩ := v
      by_cases h1 : cS h = true <;> by_cases h2 : v1 = h <;> simp [h1, h2]
theorem xy (H : Heap) : Det Tryz.prog jJ [.pointer none] H (.int .i64 0) H := by
  refine pT fun L => ?_
  unfold tf
  exact ⟨true, rfl, av rfl (ad ⟨rfl, rfl⟩)⟩
theorem xH (a : Addr) : opS Tryz.prog (.binOp .eql j8 (.tmp 0) (.const (.pointer none)) j8) aO [(.pointer (some a))] = .pure (.value (.bool false)) := by kernel_rfl
theorem IH (a : Addr) : opS Tryz.prog (.binOp .neq j8 (.tmp 0) (.const (.pointer none)) j8) aO [(.pointer (some a))] = .pure (.value (.bool true)) := by kernel_rfl
theorem xZ {a : Addr} {x : Int} {H : Heap} (h : H.cell? a = some (.int .i64 x)) : Det Tryz.prog jJ [.pointer (some a)] H (.int .i64 x) H := by
  refine pT fun L => ?_
  unfold tf
  refine aB (x := false) (xH a) ?_
  refine af rfl (aa.2 ?_)
  exact bL (x := x) h (ad ⟨rfl, rfl⟩)
theorem vY (v : Int) (H : Heap) : Det Tryz.prog iV [.pointer none, .int .i64 v] H (.tuple #[]) H := by
  refine n6 fun L => ?_
  unfold qw
  exact ⟨false, rfl, af rfl (ad ⟨rfl, rfl⟩)⟩
theorem we {b n T : Nat} {c : Array Value} {u : Value} {v : Int} {H : Heap} (hb : H b = some (.cells c T (0, 0))) (hn : c[n]? = some u) :
    Det Tryz.prog iV [.pointer (some ⟨b, n, none⟩), .int .i64 v] H (.tuple #[]) (H.set b (.cells (c.setIfInBounds n (.int .i64 v)) T (0, 0))) := by
  refine n6 fun L => ?_
  unfold qw
  refine aB (x := true) (IH _) ?_
  refine av rfl (aa.2 ?_)
  exact gd hb hn rfl (ad ⟨rfl, rfl⟩)
theorem Gy (v w : Int) (H : Heap) : Det Tryz.prog kT [.pointer none, .int .i64 v, .int .i64 w] H (.bool false) H := by
  refine k9 fun L => ?_
  unfold nE
  exact ⟨true, rfl, av rfl (ad ⟨rfl, rfl⟩)⟩
theorem Lj {a : Addr} {x v w : Int} {H : Heap} (h : H.cell? a = some (.int .i64 x)) (hx : x ≠ v) : Det Tryz.prog kT [.pointer (some a), .int .i64 v, .int .i64 w] H (.bool false) H := by
  refine k9 fun L => ?_
  unfold nE
  refine aB (x := false) (xH a) ?_
  refine af rfl (aa.2 ?_)
  refine bL (x := x) h ?_
  exact av (CT hx) (ad ⟨rfl, rfl⟩)
theorem H6 {b n T : Nat} {c : Array Value} {v w : Int} {H : Heap} (hb : H b = some (.cells c T (0, 0))) (hn : c[n]? = some (.int .i64 v)) :
    Det Tryz.prog kT [.pointer (some ⟨b, n, none⟩), .int .i64 v, .int .i64 w] H (.bool true) (H.set b (.cells (c.setIfInBounds n (.int .i64 w)) T (0, 0))) := by
  refine k9 fun L => ?_
  unfold nE
  refine aB (x := false) (xH _) ?_
  refine af rfl (aa.2 ?_)
  refine bL (x := v) (by rw [Heap.cell_of hb]; exact hn) ?_
  refine af (Eh rfl) (aa.2 ?_)
  exact gd hb hn rfl (ad ⟨rfl, rfl⟩)
theorem L5 {t u e : TypeId} {n l c b o : Nat} {i : Int} {info : TypeInfo} (hu : Tryz.prog.underlying t = some (.slice e)) (hi : Tryz.prog.info? e = some info) (hs : info.size = 1) (h0 : 0 ≤ i) (h1 : i < l) :
    opS Tryz.prog (.indexAddr t (.tmp 0) (.tmp 1)) u [.slice (some ⟨b, o, none⟩) l c, .int .i64 i] = .pure (.value (.pointer (some ⟨b, o + i.toNat, none⟩))) := by
  rw [uv hu hi h0 h1, Addr.gF, hs, Nat.mul_one]
theorem BL {u : TypeId} {l c b o : Nat} {i : Int} (h0 : 0 ≤ i) (h1 : i < l) :
    opS Tryz.prog (.indexAddr bK (.tmp 0) (.tmp 1)) u [.slice (some ⟨b, o, none⟩) l c, .int .i64 i] = .pure (.value (.pointer (some ⟨b, o + i.toNat, none⟩))) := L5 (n := 0) rfl rfl rfl h0 h1
theorem uf {u : TypeId} {l c b o : Nat} {i : Int} (h0 : 0 ≤ i) (h1 : i < l) :
    opS Tryz.prog (.indexAddr fT (.tmp 0) (.tmp 1)) u [.slice (some ⟨b, o, none⟩) l c, .int .i64 i] = .pure (.value (.pointer (some ⟨b, o + i.toNat, none⟩))) := L5 (n := 0) rfl rfl rfl h0 h1
def Ar.tick (A : Ar) : Ar := { A with aD := w64 (A.aD + 1) }
def Ar.bad (A : Ar) : Ar := { A with fault := true }
theorem Ix {l : List Int} {n : Nat} (h : n < l.length) : (ints l)[n]? = some (.int .i64 l[n]) := by simp [ints, h]
theorem ints_set (l : List Int) (n : Nat) (v : Int) : (ints l).setIfInBounds n (.int .i64 v) = ints (l.set n v) := by simp [ints, List.map_set]
theorem AZ (l : List Bool) (n : Nat) (v : Bool) : (vQ l).setIfInBounds n (.bool v) = vQ (l.set n v) := by simp [vQ, List.map_set]
def Ar.bp (A : Ar) (i : Int) : Prop := 0 ≤ i ∧ i < A.raw.length
instance (A : Ar) (i : Int) : Decidable (A.bp i) := by unfold Ar.bp; infer_instance
theorem FH {A : Ar} (hA : A.nd) {i : Int} (hi : A.bp i) (H : Heap) : Det Tryz.prog fH [pA A, .int .i64 i] (A.put H) (.pointer (some ⟨A.r, i.toNat, none⟩)) (A.tick.put H) := by
  obtain ⟨h0, h1⟩ := hi
  refine lO fun L => ?_
  unfold l7
  refine aa.2 (fb (x := A.aD) (n := 12) (aa.2 ?_))
  refine gW A.tick (n := 12) (u := .int .i64 A.aD) hA ?_
  refine af (zk h0) (aa.2 ?_)
  refine fb (A := A.tick) (x := Sl.mk (some ⟨A.r, 0, none⟩) A.raw.length A.raw.length) (n := 0) ?_
  refine af (decide_eq_false (by show ¬ i ≥ ((A.raw.length : Nat) : Int); omega)) (aa.2 ?_)
  refine fb (A := A.tick) (x := Sl.mk (some ⟨A.r, 0, none⟩) A.raw.length A.raw.length) (n := 0) ?_
  refine aB (x := Addr.mk A.r (0 + i.toNat) none) (BL h0 h1) ?_
  exact ad ⟨by rw [Nat.zero_add], rfl⟩
theorem BD {A : Ar} (hA : A.nd) {i : Int} (hi : ¬ A.bp i) (H : Heap) : Det Tryz.prog fH [pA A, .int .i64 i] (A.put H) (.pointer none) (A.tick.bad.put H) := by
  refine lO fun L => ?_
  unfold l7
  refine aa.2 (fb (x := A.aD) (n := 12) (aa.2 ?_))
  refine gW A.tick (n := 12) (u := .int .i64 A.aD) hA ?_
  by_cases h0 : i < 0
  · refine av (ilt h0) (aa.2 ?_)
    exact gW (A := A.tick) A.tick.bad (n := 11) (u := .bool A.fault) hA (ad ⟨rfl, rfl⟩)
  · refine af (zk (by omega)) (aa.2 ?_)
    refine fb (A := A.tick) (x := Sl.mk (some ⟨A.r, 0, none⟩) A.raw.length A.raw.length) (n := 0) ?_
    have : i ≥ ((A.raw.length : Nat) : Int) := by unfold Ar.bp at hi; omega
    refine av (decide_eq_true this) (aa.2 ?_)
    exact gW (A := A.tick) A.tick.bad (n := 11) (u := .bool A.fault) hA (ad ⟨rfl, rfl⟩)
structure Ar.wf (A : Ar) : Prop where
  nd : A.nd
  fit : ∀ h, A.stF h ≠ 0 → opB h + au (opC h) ≤ A.words.length
  busy : A.busy.length = A.words.length
  carved : A.carved.length = A.words.length
  words : A.words.length ≤ 65536
  raw : A.raw.length ≤ 65536
  wC : w64 A.nC = A.nC
  wL : w64 A.nL = A.nL
  wR : w64 A.nR = A.nR
  wF : w64 A.nF = A.nF
theorem sP (x : Int) : w64 (w64 x) = w64 x := by
  have h : -9223372036854775808 ≤ w64 x ∧ w64 x ≤ 9223372036854775807 := by unfold w64; rw [IntKind.wrap_i64]; omega
  exact aE h.1 h.2
theorem tA (h : Int) : 0 ≤ opB h ∧ opB h < 65536 := by
  unfold opB
  split
  · rename_i e; obtain ⟨⟨h1, h2, _⟩, _⟩ := zC e; exact ⟨h1, h2⟩
  · omega
theorem fk (h : Int) : 0 ≤ opC h ∧ opC h < 4 := by
  unfold opC
  split
  · rename_i e; obtain ⟨⟨h1, h2, _, _, h3, h4⟩, _⟩ := zC e; exact ⟨h3, h4⟩
  · omega
theorem my (h : Int) : 8 ≤ au (opC h) ∧ au (opC h) ≤ 64 := by
  have := ur (fk h).1 (fk h).2
  omega
theorem En {A : Ar} {h : Int} (hs : A.stF h ≠ 0) : cS h = true := by
  unfold Ar.stF at hs
  split at hs
  · split at hs
    · rename_i e; exact e.1
    · exact (hs rfl).elim
  · exact (hs rfl).elim
theorem AE {A : Ar} (hA : A.wf) {h : Int} (hf : opB h + au (opC h) ≤ A.words.length) (H : Heap) :
    Det Tryz.prog iJ [pA A, .int .i64 h] (A.put H) (.slice (some ⟨A.w, (opB h).toNat, none⟩) (au (opC h)).toNat (au (opC h)).toNat) (A.put H) := by
  have h1 := tA h
  have h2 := my h
  have hw := hA.words
  refine rW fun L => ?_
  unfold oG
  refine bc (rn _ _) ?_
  refine bc (ud _ _) (aa.2 ?_)
  refine fb (x := Sl.mk (some ⟨A.w, 0, none⟩) A.words.length A.words.length) (n := 1) ?_
  have e1 : w64 (opB h + au (opC h)) = opB h + au (opC h) := aE (by omega) (by omega)
  refine aB (x := Sl.mk (some ⟨A.w, (opB h).toNat, none⟩) (au (opC h)).toNat (au (opC h)).toNat) ?_ (ad ⟨rfl, rfl⟩)
  have hs := EY (P := Tryz.prog) (t := bK) (u := bK) (e := aP) (a := some ⟨A.w, 0, none⟩) (len := A.words.length) (cap := A.words.length) (lo := opB h) (hi := w64 (opB h + au (opC h))) rfl rfl rfl h1.1 (by omega) (by omega)
  rw [e1] at hs
  show opS Tryz.prog _ _ [_, _, .int .i64 (w64 (opB h + au (opC h))), .int .i64 (w64 (opB h + au (opC h)))] = _
  rw [e1]
  refine hs.trans ?_
  rw [if_neg (by omega)]
  show Sem.pure (Next.value (.slice (some ((Addr.mk A.w 0 none).add _)) _ _)) = _
  rw [Addr.gF, Nat.zero_add, show (opB h + au (opC h)).toNat - (opB h).toNat = (au (opC h)).toNat by omega]
def Ar.fZ (A : Ar) (h off : Int) : Prop := A.stF h ≠ 0 ∧ 0 ≤ off ∧ off < au (opC h)
instance (A : Ar) (h off : Int) : Decidable (A.fZ h off) := by unfold Ar.fZ; infer_instance
def pos (h off : Int) : Nat := (opB h).toNat + off.toNat
theorem LV {A : Ar} (hA : A.wf) {h off : Int} (hi : A.fZ h off) (H : Heap) : Det Tryz.prog iG [pA A, .int .i64 h, .int .i64 off] (A.put H) (.pointer (some ⟨A.w, pos h off, none⟩)) (A.tick.put H) := by
  obtain ⟨h0, h1, h2⟩ := hi
  have h3 := my h
  refine lR fun L => ?_
  unfold lW
  refine aa.2 (fb (x := A.aD) (n := 12) (aa.2 ?_))
  refine gW A.tick (n := 12) (u := .int .i64 A.aD) hA.nd ?_
  refine ax (yd (A := A.tick) hA.nd h H) ?_
  refine af (iR h0) ?_
  refine ax (x := Sl.mk (some ⟨A.w, (opB h).toNat, none⟩) (au (opC h)).toNat (au (opC h)).toNat) (AE (A := A.tick) ⟨hA.nd, hA.fit, hA.busy, hA.carved, hA.words, hA.raw, hA.wC, hA.wL, hA.wR, hA.wF⟩ (hA.fit h h0) H) ?_
  refine af (zk h1) ?_
  refine af (decide_eq_false (by show ¬ off ≥ (((au (opC h)).toNat : Nat) : Int); omega)) ?_
  refine aB (x := Addr.mk A.w (pos h off) none) (BL h1 (by show off < (((au (opC h)).toNat : Nat) : Int); omega)) ?_
  exact ad ⟨rfl, rfl⟩
theorem kg {A : Ar} (hA : A.wf) : A.tick.wf := ⟨hA.nd, hA.fit, hA.busy, hA.carved, hA.words, hA.raw, hA.wC, hA.wL, hA.wR, hA.wF⟩
theorem z5 {A : Ar} (hA : A.wf) : A.bad.wf := ⟨hA.nd, hA.fit, hA.busy, hA.carved, hA.words, hA.raw, hA.wC, hA.wL, hA.wR, hA.wF⟩
theorem JI {A : Ar} (hA : A.wf) {h off : Int} (hi : ¬ A.fZ h off) (H : Heap) : Det Tryz.prog iG [pA A, .int .i64 h, .int .i64 off] (A.put H) (.pointer none) (A.tick.bad.put H) := by
  have h3 := my h
  refine lR fun L => ?_
  unfold lW
  refine aa.2 (fb (x := A.aD) (n := 12) (aa.2 ?_))
  refine gW A.tick (n := 12) (u := .int .i64 A.aD) hA.nd ?_
  refine ax (yd (A := A.tick) hA.nd h H) ?_
  by_cases h0 : A.stF h = 0
  · refine av (j7 h0) (aa.2 ?_)
    exact gW (A := A.tick) A.tick.bad (n := 11) (u := .bool A.fault) hA.nd (ad ⟨rfl, rfl⟩)
  · refine af (iR h0) ?_
    refine ax (x := Sl.mk (some ⟨A.w, (opB h).toNat, none⟩) (au (opC h)).toNat (au (opC h)).toNat) (AE (A := A.tick) (kg hA) (hA.fit h h0) H) ?_
    by_cases h1 : off < 0
    · refine av (ilt h1) (aa.2 ?_)
      exact gW (A := A.tick) A.tick.bad (n := 11) (u := .bool A.fault) hA.nd (ad ⟨rfl, rfl⟩)
    · refine af (zk (by omega)) ?_
      have h2 : off ≥ (((au (opC h)).toNat : Nat) : Int) := by unfold Ar.fZ at hi; omega
      refine av (decide_eq_true h2) (aa.2 ?_)
      exact gW (A := A.tick) A.tick.bad (n := 11) (u := .bool A.fault) hA.nd (ad ⟨rfl, rfl⟩)
theorem EP {A : Ar} (hA : A.wf) {h off : Int} (hi : A.fZ h off) : pos h off < A.words.length := by
  obtain ⟨h0, h1, h2⟩ := hi
  have := hA.fit h h0
  have := tA h
  unfold pos; omega
theorem yp {l : List Int} {n : Nat} (h : n < l.length) : (ints l)[n]? = some (.int .i64 (l.getD n 0)) := by simp [ints, h]
theorem oL {l : List Bool} {n : Nat} (h : n < l.length) : (vQ l)[n]? = some (.bool (l.getD n false)) := by simp [vQ, h]
def Ar.gp (A : Ar) (h off : Int) : Ar := if A.fZ h off then A.tick else A.tick.bad
def Ar.bA (A : Ar) (h off : Int) : Int := if A.fZ h off then A.words.getD (pos h off) 0 else 0
def Ar.rv (A : Ar) (n : Nat) (v : Int) : Ar := { A with words := A.words.set n v }
def Ar.bW (A : Ar) (h off v : Int) : Ar := if A.fZ h off then A.tick.rv (pos h off) v else A.tick.bad
theorem I1 {A : Ar} (hA : A.wf) (h off : Int) : (A.gp h off).wf := by unfold Ar.gp; split; exact kg hA; exact z5 (kg hA)
theorem Gt {A : Ar} (hA : A.wf) (n : Nat) (v : Int) : (A.rv n v).wf :=
  ⟨hA.nd, fun h hs => by unfold Ar.rv; simp only [List.length_set]; exact hA.fit h hs, by unfold Ar.rv; simp only [List.length_set]; exact hA.busy, by unfold Ar.rv; simp only [List.length_set]; exact hA.carved,
    by unfold Ar.rv; simp only [List.length_set]; exact hA.words, hA.raw, hA.wC, hA.wL, hA.wR, hA.wF⟩
theorem Bu {A : Ar} (hA : A.wf) (h off v : Int) : (A.bW h off v).wf := by unfold Ar.bW; split; exact Gt (kg hA) _ _; exact z5 (kg hA)
theorem A9 {A : Ar} (hA : A.nd) (n : Nat) (v : Int) (H : Heap) : (A.put H).set A.w (.cells ((ints A.words).setIfInBounds n (.int .i64 v)) aP (0, 0)) = (A.rv n v).put H := by
  refine Ar.sX (B := A.rv n v) hA ⟨rfl, rfl, rfl, rfl, rfl, rfl, rfl⟩ H _ _ (.inr (.inr (.inl ⟨rfl, ?_, ?_, rfl, rfl, rfl, rfl, rfl⟩)))
  · unfold Ar.oY Ar.rv; rw [ints_set]
  · unfold Ar.qa Ar.wc Ar.rv; simp only [List.length_set]
theorem CS {A : Ar} (hA : A.wf) (h off : Int) (H : Heap) : Det Tryz.prog dK [pA A, .int .i64 h, .int .i64 off] (A.put H) (.int .i64 (A.bA h off)) ((A.gp h off).put H) := by
  refine r6 fun L => ?_
  unfold oQ Ar.bA Ar.gp
  by_cases hi : A.fZ h off
  · have hl := EP hA hi
    rw [if_pos hi, if_pos hi]
    refine ax (x := some ⟨A.w, pos h off, none⟩) (LV hA hi H) ?_
    refine ax (x := A.words.getD (pos h off) 0) (xZ ?_) (ad ⟨rfl, rfl⟩)
    exact (Heap.cell_of (Ar.KC (A := A.tick) hA.nd H) _).trans (yp hl)
  · rw [if_neg hi, if_neg hi]
    refine ax (x := none) (JI hA hi H) ?_
    exact ax (xy _) (ad ⟨rfl, rfl⟩)
theorem A7 {A : Ar} (hA : A.wf) (h off v : Int) (H : Heap) : Det Tryz.prog fx [pA A, .int .i64 h, .int .i64 off, .int .i64 v] (A.put H) (.tuple #[]) ((A.bW h off v).put H) := by
  refine qy fun L => ?_
  unfold nk Ar.bW
  by_cases hi : A.fZ h off
  · have hl := EP hA hi
    rw [if_pos hi]
    refine ax (x := some ⟨A.w, pos h off, none⟩) (LV hA hi H) ?_
    refine ax (x := ()) (we (Ar.KC (A := A.tick) hA.nd H) (Ix hl)) ?_
    refine ad ⟨rfl, ?_⟩
    exact A9 (A := A.tick) hA.nd _ _ _
  · rw [if_neg hi]
    refine ax (x := none) (JI hA hi H) ?_
    exact ax (x := ()) (vY _ _) (ad ⟨rfl, rfl⟩)
def Ar.ao (A : Ar) (i : Int) : Int := if A.bp i then A.raw.getD i.toNat 0 else 0
def Ar.aV (A : Ar) (i : Int) : Ar := if A.bp i then A.tick else A.tick.bad
def Ar.dQ (A : Ar) (n : Nat) (v : Int) : Ar := { A with raw := A.raw.set n v }
def Ar.aL (A : Ar) (i v : Int) : Ar := if A.bp i then A.tick.dQ i.toNat v else A.tick.bad
def Ar.dE (A : Ar) (i v w : Int) : Ar := if A.bp i then if A.raw.getD i.toNat 0 = v then A.tick.dQ i.toNat w else A.tick else A.tick.bad
def Ar.cC (A : Ar) (i v : Int) : Bool := decide (A.bp i ∧ A.raw.getD i.toNat 0 = v)
theorem GM {A : Ar} (hA : A.wf) (i : Int) : (A.aV i).wf := by unfold Ar.aV; split; exact kg hA; exact z5 (kg hA)
theorem pW {A : Ar} (hA : A.wf) (n : Nat) (v : Int) : (A.dQ n v).wf :=
  ⟨hA.nd, hA.fit, hA.busy, hA.carved, hA.words, by unfold Ar.dQ; simp only [List.length_set]; exact hA.raw, hA.wC, hA.wL, hA.wR, hA.wF⟩
theorem rQ {A : Ar} (hA : A.wf) (i v : Int) : (A.aL i v).wf := by unfold Ar.aL; split; exact pW (kg hA) _ _; exact z5 (kg hA)
theorem JH {A : Ar} (hA : A.wf) (i v w : Int) : (A.dE i v w).wf := by
  unfold Ar.dE; split
  · split; exact pW (kg hA) _ _; exact kg hA
  · exact z5 (kg hA)
theorem Cu {A : Ar} (hA : A.nd) (n : Nat) (v : Int) (H : Heap) : (A.put H).set A.r (.cells ((ints A.raw).setIfInBounds n (.int .i64 v)) aP (0, 0)) = (A.dQ n v).put H := by
  refine Ar.sX (B := A.dQ n v) hA ⟨rfl, rfl, rfl, rfl, rfl, rfl, rfl⟩ H _ _ (.inr (.inl ⟨rfl, ?_, ?_, rfl, rfl, rfl, rfl, rfl⟩))
  · unfold Ar.oK Ar.dQ; rw [ints_set]
  · unfold Ar.qa Ar.wc Ar.dQ; simp only [List.length_set]
theorem uX {A : Ar} (hA : A.nd) {i : Int} (hi : A.bp i) (H : Heap) : (ints A.raw)[i.toNat]? = some (.int .i64 (A.raw.getD i.toNat 0)) := by
  have hl : i.toNat < A.raw.length := by unfold Ar.bp at hi; omega
  exact yp hl
theorem zx {A : Ar} (hA : A.wf) (i : Int) (H : Heap) : Det Tryz.prog bQ [pA A, .int .i64 i] (A.put H) (.int .i64 (A.ao i)) ((A.aV i).put H) := by
  refine tx fun L => ?_
  unfold pJ Ar.ao Ar.aV
  by_cases hi : A.bp i
  · rw [if_pos hi, if_pos hi]
    refine ax (x := some ⟨A.r, i.toNat, none⟩) (FH hA.nd hi H) ?_
    refine ax (x := A.raw.getD i.toNat 0) (xZ ?_) (ad ⟨rfl, rfl⟩)
    exact (Heap.cell_of (Ar.HK (A := A.tick) hA.nd H) _).trans (uX hA.nd hi H)
  · rw [if_neg hi, if_neg hi]
    refine ax (x := none) (BD hA.nd hi H) ?_
    exact ax (xy _) (ad ⟨rfl, rfl⟩)
theorem Ay {A : Ar} (hA : A.wf) (i v : Int) (H : Heap) : Det Tryz.prog bV [pA A, .int .i64 i, .int .i64 v] (A.put H) (.tuple #[]) ((A.aL i v).put H) := by
  refine pd fun L => ?_
  unfold mC Ar.aL
  by_cases hi : A.bp i
  · rw [if_pos hi]
    refine ax (x := some ⟨A.r, i.toNat, none⟩) (FH hA.nd hi H) ?_
    refine ax (x := ()) (we (Ar.HK (A := A.tick) hA.nd H) (uX hA.nd hi H)) ?_
    exact ad ⟨rfl, Cu (A := A.tick) hA.nd _ _ _⟩
  · rw [if_neg hi]
    refine ax (x := none) (BD hA.nd hi H) ?_
    exact ax (x := ()) (vY _ _) (ad ⟨rfl, rfl⟩)
theorem uE {A : Ar} (hA : A.wf) (i v w : Int) (H : Heap) : Det Tryz.prog cE [pA A, .int .i64 i, .int .i64 v, .int .i64 w] (A.put H) (.bool (A.cC i v)) ((A.dE i v w).put H) := by
  refine oP fun L => ?_
  unfold lC Ar.dE Ar.cC
  by_cases hi : A.bp i
  · rw [if_pos hi]
    refine ax (x := some ⟨A.r, i.toNat, none⟩) (FH hA.nd hi H) ?_
    by_cases hv : A.raw.getD i.toNat 0 = v
    · rw [if_pos hv, decide_eq_true ⟨hi, hv⟩]
      refine ax (x := true) (H6 (Ar.HK (A := A.tick) hA.nd H) (by rw [← hv]; exact uX hA.nd hi H)) ?_
      exact ad ⟨rfl, Cu (A := A.tick) hA.nd _ _ _⟩
    · rw [if_neg hv, decide_eq_false (fun h => hv h.2)]
      refine ax (x := false) (Lj (x := A.raw.getD i.toNat 0) ?_ hv) (ad ⟨rfl, rfl⟩)
      exact (Heap.cell_of (Ar.HK (A := A.tick) hA.nd H) _).trans (uX hA.nd hi H)
  · rw [if_neg hi, decide_eq_false (fun h => hi h.1)]
    refine ax (x := none) (BD hA.nd hi H) ?_
    exact ax (x := false) (Gy _ _ _) (ad ⟨rfl, rfl⟩)
theorem yK {L : aZ} {H : Heap} {R : Value → Heap → Prop} {n : Nat} {init : List Value} {body : HL Sh1.T [.leaf (.int .i64)] → Tree} (I : Int → Heap → Prop) (m : Int → Nat) (i0 : Int) (hi : I i0 H)
    (hstep : ∀ (i : Int) H', I i H' → wp Tryz.prog (body (i, ())) (L.set n fun gN H'' => ∃ j : Int, gN = [.int .i64 j] ∧ I j H'' ∧ m j < m i) H' R) (h0 : init = [.int .i64 i0] := by rfl) :
    wp Tryz.prog (.loop n [.leaf (.int .i64)] init body) L H R := by
  refine kv (fun x K => I x.1 K) (fun x _ => m x.1) (i0, ()) h0 hi ?_
  rintro ⟨i, u⟩ K hI
  refine Go.Fw.wp_mono _ (hstep i K hI) (fun k gN H'' hk => ?_) (fun _ _ h => h)
  unfold aZ.set at *
  split at hk
  · rename_i e; rw [if_pos e]; obtain ⟨j, h1, h2, h3⟩ := hk; exact ⟨(j, ()), h1, h2, h3⟩
  · rename_i e; rw [if_neg e]; exact hk
def Ar.m7 (A : Ar) (b h s : Int) : Ar := { A with slots := alPut A.slots b (h, s) }
theorem Bm {A : Ar} (hA : A.nd) (b h s : Int) (H : Heap) : (A.put H).set A.s (bJ te (alPut A.slots b (h, s))) = (A.m7 b h s).put H :=
  Ar.sX (B := A.m7 b h s) hA ⟨rfl, rfl, rfl, rfl, rfl, rfl, rfl⟩ H _ _ (.inr (.inr (.inr (.inl ⟨rfl, rfl, rfl, rfl, rfl, rfl, rfl, rfl⟩))))
def Ar.gu (A : Ar) (h s t : Int) : Ar := if A.stF h = s then A.m7 (opB h) h t else A
def Ar.gB (A : Ar) (h s : Int) : Int := if A.stF h = s then au (opC h) else 0
def Ar.vJ (A : Ar) (h s : Int) : Bool := decide (A.stF h = s)
theorem DH {A : Ar} (hA : A.nd) (h s t : Int) (H : Heap) : Det Tryz.prog iL [pA A, .int .i64 h, .int .i64 s, .int .i64 t] (A.put H)
    (.tuple #[.int .i64 (A.gB h s), .bool (A.vJ h s)]) ((A.gu h s t).put H) := by
  refine r7 fun L => ?_
  unfold oR Ar.gu Ar.gB Ar.vJ
  refine ax (yd hA h H) ?_
  by_cases e : A.stF h = s
  · rw [if_pos e, if_pos e, decide_eq_true e]
    refine af (Eh e) ?_
    refine bc (rn _ _) (aa.2 ?_)
    refine fb (x := some A.s) (n := 3) ?_
    refine wE (kt := aP) (et := hJ) (enc := te) (v := (h, t)) (Ar.Kq hA H) rfl rfl ?_
    rw [Bm hA]
    exact bc (ud _ _) (ad ⟨rfl, rfl⟩)
  · rw [if_neg e, if_neg e, decide_eq_false e]
    exact av (CT e) (ad ⟨rfl, rfl⟩)
theorem CE {A : Ar} (hA : A.nd) (h s t : Int) : (A.gu h s t).nd := by unfold Ar.gu; split <;> exact hA
def Ar.Fc (A : Ar) (n : Int) : Ar := { A with nL := w64 (A.nL + n) }
def Ar.EK (A : Ar) (n : Int) : Ar := { A with nL := w64 (A.nL - n) }
def Ar.Ku (A : Ar) (n : Int) : Ar := { A with nR := w64 (A.nR + n) }
def Ar.Fz (A : Ar) (n : Int) : Ar := { A with nR := w64 (A.nR - n) }
def Ar.CL (A : Ar) (n : Int) : Ar := { A with nF := w64 (A.nF + n) }
def Ar.Lh (A : Ar) (n : Int) : Ar := { A with nF := w64 (A.nF - n) }
def Ar.CP (A : Ar) (n : Int) : Ar := { A with nC := w64 (A.nC + n) }
def Ar.aW (A : Ar) (h : Int) : Ar := ((A.gu h 1 2).EK (A.gB h 1)).Ku (A.gB h 1)
theorem Ek {A : Ar} (hA : A.nd) (h : Int) (H : Heap) : Det Tryz.prog g9 [pA A, .int .i64 h] (A.put H) (.bool (A.vJ h 1)) ((A.aW h).put H) := by
  refine o7 fun L => ?_
  unfold mE
  refine ax (x := (A.gB h 1, A.vJ h 1, ())) (DH hA h 1 2 H) (aa.2 ?_)
  have hB := CE hA h 1 2
  have ea : A.a = (A.gu h 1 2).a := by unfold Ar.gu; split <;> rfl
  have er : A.aW h = ((A.gu h 1 2).EK (A.gB h 1)).Ku (A.gB h 1) := rfl
  rw [er, ea]
  generalize A.gu h 1 2 = B at hB ⊢
  generalize A.gB h 1 = n
  refine fb (x := B.nL) (n := 8) (aa.2 ?_)
  refine gW (B.EK n) (n := 8) (u := .int .i64 B.nL) hB (aa.2 ?_)
  refine fb (A := B.EK n) (x := B.nR) (n := 9) (aa.2 ?_)
  exact gW (A := B.EK n) ((B.EK n).Ku n) (n := 9) (u := .int .i64 B.nR) hB (ad ⟨rfl, rfl⟩)
def setN {α : Type} (l : List α) (b : Nat) (v : α) : Nat → List α
  | 0 => l
  | n + 1 => (setN l b v n).set (b + n) v
theorem jl {α : Type} (l : List α) (b : Nat) (v : α) (n : Nat) : (setN l b v n).length = l.length := by
  induction n with
  | zero => rfl
  | succ n ih => simp only [setN, List.length_set, ih]
theorem z6 {α : Type} (l : List α) (b : Nat) (v : α) (n i : Nat) : (setN l b v n)[i]? = if b ≤ i ∧ i < b + n ∧ i < l.length then some v else l[i]? := by
  induction n with
  | zero => rw [if_neg (by omega)]; rfl
  | succ n ih =>
    simp only [setN, List.getElem?_set, jl, ih]
    by_cases h1 : b + n = i
    · rw [if_pos h1]
      by_cases h2 : b + n < l.length
      · rw [if_pos h2, if_pos (by omega)]
      · rw [if_neg h2, if_neg (by omega)]
        exact (List.getElem?_eq_none (by omega)).symm
    · rw [if_neg h1]
      by_cases h2 : b ≤ i ∧ i < b + n ∧ i < l.length
      · rw [if_pos h2, if_pos (by omega)]
      · rw [if_neg h2, if_neg (by omega)]
def Ar.tL (A : Ar) (b : Nat) (v : Bool) (n : Nat) : Ar := { A with busy := setN A.busy b v n }
theorem DK {A B : Ar} (hA : A.nd) (h : Ar.Alike A B) (v : Bool) (n : Nat) (hb : B.busy = A.busy.set n v) (hB : B.wc = A.wc ∧ B.oK = A.oK ∧ B.oY = A.oY ∧ B.pj = A.pj ∧ B.qE = A.qE ∧ B.o9 = A.o9) (H : Heap) :
    (A.put H).set A.b (.cells ((vQ A.busy).setIfInBounds n (.bool v)) aO (0, 0)) = B.put H := by
  refine Ar.sX (B := B) hA h H _ _ (.inr (.inr (.inr (.inr (.inl ⟨rfl, ?_, ?_, hB.2.1, hB.2.2.1, hB.2.2.2.1, hB.2.2.2.2.1, hB.2.2.2.2.2⟩)))))
  · unfold Ar.qI; rw [AZ, hb]
  · unfold Ar.qa; rw [hB.1]
theorem Er {A B : Ar} (hA : A.nd) (h : Ar.Alike A B) (v : Bool) (n : Nat) (hb : B.carved = A.carved.set n v) (hB : B.wc = A.wc ∧ B.oK = A.oK ∧ B.oY = A.oY ∧ B.pj = A.pj ∧ B.qI = A.qI ∧ B.o9 = A.o9) (H : Heap) :
    (A.put H).set A.c (.cells ((vQ A.carved).setIfInBounds n (.bool v)) aO (0, 0)) = B.put H := by
  refine Ar.sX (B := B) hA h H _ _ (.inr (.inr (.inr (.inr (.inr (.inl ⟨rfl, ?_, ?_, hB.2.1, hB.2.2.1, hB.2.2.2.1, hB.2.2.2.2.1, hB.2.2.2.2.2⟩))))))
  · unfold Ar.qE; rw [AZ, hb]
  · unfold Ar.qa; rw [hB.1]
def Ar.db (A : Ar) (h : Int) : Ar := (((A.gu h 2 0).tL (opB h).toNat false (A.gB h 2).toNat).Fz (A.gB h 2)).CL (A.gB h 2)
theorem JE {A : Ar} (hA : A.wf) (h : Int) {s : Int} (hs : s ≠ 0) : 0 ≤ A.gB h s ∧ A.gB h s ≤ 64 ∧ (A.gB h s ≠ 0 → opB h + A.gB h s ≤ A.words.length) := by
  unfold Ar.gB
  have := my h
  split
  · rename_i e
    refine ⟨by omega, by omega, fun _ => hA.fit h (by omega)⟩
  · omega
theorem JF {A : Ar} (hA : A.wf) (h : Int) (H : Heap) : Det Tryz.prog iN [pA A, .int .i64 h] (A.put H) (.bool (A.vJ h 2)) ((A.db h).put H) := by
  have hn := JE hA h (s := 2) (by omega)
  have hB := CE hA.nd h 2 0
  have hbl : (A.gu h 2 0).busy.length = A.words.length := by unfold Ar.gu; split <;> exact hA.busy
  have hw := hA.words
  have ho := tA h
  refine qV fun L => ?_
  unfold oq
  refine ax (x := (A.gB h 2, A.vJ h 2, ())) (DH hA.nd h 2 0 H) ?_
  refine bc (rn _ _) ?_
  have ea : A.a = (A.gu h 2 0).a := by unfold Ar.gu; split <;> rfl
  have er : A.db h = (((A.gu h 2 0).tL (opB h).toNat false (A.gB h 2).toNat).Fz (A.gB h 2)).CL (A.gB h 2) := rfl
  rw [er, ea]
  generalize A.gu h 2 0 = B at hB hbl ⊢
  generalize A.gB h 2 = n at hn ⊢
  refine yK (fun i K => 0 ≤ i ∧ i ≤ n ∧ K = (B.tL (opB h).toNat false i.toNat).put H) (fun i => (n - i).toNat) 0 ⟨Int.le_refl 0, hn.1, rfl⟩ ?_
  intro i K ⟨h0, h1, hK⟩
  rw [hK]
  rw [lD]
  have hC : (B.tL (opB h).toNat false i.toNat).nd := hB
  have hCl : (B.tL (opB h).toNat false i.toNat).busy.length = A.words.length := (jl _ _ _ _).trans hbl
  by_cases hlt : i < n
  · refine av (ilt hlt) (aa.2 ?_)
    have hfit := hn.2.2 (by omega)
    have e1 : w64 (opB h + i) = opB h + i := aE (by omega) (by omega)
    have e2 : w64 (i + 1) = i + 1 := aE (by omega) (by omega)
    refine fb (A := B.tL (opB h).toNat false i.toNat) (x := Sl.mk (some ⟨B.b, 0, none⟩) A.words.length A.words.length) (n := 4) (hx := by
      rw [← hCl]; rfl) ?_
    refine aB (x := Addr.mk B.b (0 + (opB h + i).toNat) none) ?_ ?_
    · show opS Tryz.prog _ _ [_, .int .i64 (w64 (opB h + i))] = _
      rw [e1]
      exact uf (by omega) (by show opB h + i < ((A.words.length : Nat) : Int); omega)
    · have hl : 0 + (opB h + i).toNat < (B.tL (opB h).toNat false i.toNat).busy.length := by omega
      refine gd (Ar.KK hC H) (oL hl) rfl ?_
      have e3 : 0 + (opB h + i).toNat = (opB h).toNat + i.toNat := by omega
      have e4 : (i + 1).toNat = i.toNat + 1 := by omega
      rw [e3]
      have hset := DK (B := B.tL (opB h).toNat false (i + 1).toNat) hC ⟨rfl, rfl, rfl, rfl, rfl, rfl, rfl⟩ false ((opB h).toNat + i.toNat) (by rw [e4]; rfl)
        ⟨by rw [e4]; unfold Ar.tL Ar.wc; simp only [jl], rfl, rfl, rfl, rfl, rfl⟩ H
      refine cR ?_
      refine ⟨i + 1, by rw [e2], ⟨by omega, by omega, hset⟩, by omega⟩
  · have hx : i = n := by omega
    refine af (zk (by omega)) (aa.2 ?_)
    rw [hx] at hC ⊢
    have ec : B.a = (B.tL (opB h).toNat false n.toNat).a := rfl
    rw [ec]
    generalize B.tL (opB h).toNat false n.toNat = C at hC ⊢
    refine fb (x := C.nR) (n := 9) (aa.2 ?_)
    refine gW (C.Fz n) (n := 9) (u := .int .i64 C.nR) hC (aa.2 ?_)
    refine fb (A := C.Fz n) (x := C.nF) (n := 10) (aa.2 ?_)
    exact gW (A := C.Fz n) ((C.Fz n).CL n) (n := 10) (u := .int .i64 C.nF) hC (ad ⟨rfl, rfl⟩)
theorem Jr {A : Ar} (H : Heap) : Det Tryz.prog cu [pA A] (A.put H) (.int .i64 A.aD) (A.put H) := by
  refine rY fun L => ?_
  unfold oW
  exact aa.2 (fb (x := A.aD) (n := 12) (ad ⟨rfl, rfl⟩))
theorem GR {A : Ar} (H : Heap) : Det Tryz.prog cI [pA A] (A.put H) (.bool A.fault) (A.put H) := by
  refine qf fun L => ?_
  unfold mU
  exact aa.2 (fb (x := A.fault) (n := 11) (ad ⟨rfl, rfl⟩))
theorem wM {t : Tree} {L : aZ} {H K : Heap} {R : Value → Heap → Prop} (e : H = K) (h : wp Tryz.prog t L K R) : wp Tryz.prog t L H R := e ▸ h
theorem vG {V : Type} {enc : V → Value} {l : List (Int × V)} {L : aZ} {H : Heap} {R : Value → Heap → Prop} {s t u : TypeId} {x : Int} {v w : V} {k : Unit → Tree} (hs : H s = some (bJ enc (alPut l x w)))
    (h : wp Tryz.prog (k ()) L (H.set s (bJ enc (alPut l x v))) R) : wp Tryz.prog (.act (opS Tryz.prog (.entryStore t (.tmp 0) (.tmp 1) (.tmp 2)) u [.map (some s), .int .i64 (ie l x), enc v]) .unit k) L H R := by
  rw [← Hk x w l]
  refine AB (enc := enc) (w := w) hs (by rw [vj, if_pos rfl]) ⟨(), rfl, ?_⟩
  rw [Hr]; exact h
def Ar.wO (A : Ar) (n : Nat) (v : Bool) : Ar := { A with busy := A.busy.set n v }
def Ar.zp (A : Ar) (n : Nat) (v : Bool) : Ar := { A with carved := A.carved.set n v }
def Ar.kV (A : Ar) (n : Nat) : Ar := if A.carved.getD n false then A else (A.CP 1).CL 1
def Ar.lY (A : Ar) (n : Nat) : Ar := let B := (A.wO n true).zp n true; if A.fresh then B.rv n 0 else B
def Ar.ey (A : Ar) (b : Nat) : Nat → Ar
  | 0 => A
  | i + 1 => ((A.ey b i).kV (b + i)).lY (b + i)
theorem Eu {L : aZ} {H : Heap} {R : Value → Heap → Prop} {n : Nat} {b : Bool} {init : List Value} {body : HL Sh1.T [.leaf .bool, .leaf (.int .i64)] → Tree} (I : Int → Heap → Prop) (m : Int → Nat) (i0 : Int) (hi : I i0 H)
    (hstep : ∀ (i : Int) (b : Bool) H', I i H' → wp Tryz.prog (body (b, i, ())) (L.set n fun gN H'' => ∃ (c : Bool) (j : Int), gN = [.bool c, .int .i64 j] ∧ I j H'' ∧ m j < m i) H' R) (h0 : init = [.bool b, .int .i64 i0] := by rfl) :
    wp Tryz.prog (.loop n [.leaf .bool, .leaf (.int .i64)] init body) L H R := by
  refine kv (fun x K => I x.2.1 K) (fun x _ => m x.2.1) (b, i0, ()) h0 hi ?_
  rintro ⟨c, i, u⟩ K hI
  refine Go.Fw.wp_mono _ (hstep i c K hI) (fun k gN H'' hk => ?_) (fun _ _ h => h)
  unfold aZ.set at *
  split at hk
  · rename_i e; rw [if_pos e]; obtain ⟨c, j, h1, h2, h3⟩ := hk; exact ⟨(c, j, ()), h1, h2, h3⟩
  · rename_i e; rw [if_neg e]; exact hk
def Ar.uq (A : Ar) (b g : Int) : Ar := { A with gens := alPut A.gens b g }
def Ar.dr (A : Ar) (h : Int) : Ar :=
  ((((A.ey (opB h).toNat (au (opC h)).toNat).m7 (opB h) h 1).uq (opB h) (opG h)).Fc (au (opC h))).Lh (au (opC h))
def Ar.free (A : Ar) (h : Int) : Prop := ∀ i : Nat, i < (au (opC h)).toNat → A.busy.getD ((opB h).toNat + i) false = false
instance (A : Ar) (h : Int) : Decidable (A.free h) := by unfold Ar.free; infer_instance
def Ar.mM (A : Ar) (h : Int) : Prop := cS h = true ∧ opB h + au (opC h) ≤ A.words.length ∧ (alGet A.gens (opB h)).getD 0 < opG h ∧ A.free h
instance (A : Ar) (h : Int) : Decidable (A.mM h) := by unfold Ar.mM; infer_instance
structure Ar.zn (A B : Ar) : Prop where
  al : Ar.Alike A B
  bl : B.busy.length = A.busy.length
  cl : B.carved.length = A.carved.length
  wl : B.words.length = A.words.length
  rw : B.raw = A.raw
  sl : B.slots = A.slots
  gs : B.gens = A.gens
  fr : B.fresh = A.fresh
  fa : B.fault = A.fault
  us : B.aD = A.aD
theorem Ar.zn.trans {A B C : Ar} (h : zn A B) (k : zn B C) : zn A C :=
  ⟨h.al.trans k.al, k.bl.trans h.bl, k.cl.trans h.cl, k.wl.trans h.wl, k.rw.trans h.rw, k.sl.trans h.sl, k.gs.trans h.gs, k.fr.trans h.fr, k.fa.trans h.fa, k.us.trans h.us⟩
theorem Ar.zn.refl (A : Ar) : zn A A := ⟨.refl A, rfl, rfl, rfl, rfl, rfl, rfl, rfl, rfl, rfl⟩
theorem GH (A : Ar) (n : Nat) : A.zn (A.kV n) := by unfold Ar.kV; split; exact .refl A; exact ⟨⟨rfl, rfl, rfl, rfl, rfl, rfl, rfl⟩, rfl, rfl, rfl, rfl, rfl, rfl, rfl, rfl, rfl⟩
theorem GQ (A : Ar) (n : Nat) : A.zn (A.lY n) := by
  unfold Ar.lY
  simp only
  split
  · exact ⟨⟨rfl, rfl, rfl, rfl, rfl, rfl, rfl⟩, by simp [Ar.wO, Ar.zp, Ar.rv], by simp [Ar.wO, Ar.zp, Ar.rv], by simp [Ar.wO, Ar.zp, Ar.rv], rfl, rfl, rfl, rfl, rfl, rfl⟩
  · exact ⟨⟨rfl, rfl, rfl, rfl, rfl, rfl, rfl⟩, by simp [Ar.wO, Ar.zp], by simp [Ar.wO, Ar.zp], by simp [Ar.wO, Ar.zp], rfl, rfl, rfl, rfl, rfl, rfl⟩
theorem gD (A : Ar) (b n : Nat) : A.zn (A.ey b n) := by
  induction n with
  | zero => exact .refl A
  | succ n ih => exact (ih.trans (GH _ _)).trans (GQ _ _)
theorem Ar.zn.nd {A B : Ar} (h : A.zn B) (hA : A.nd) : B.nd := h.al.nd hA
theorem I6 {A : Ar} (hA : A.nd) (b g : Int) (H : Heap) : (A.put H).set A.g (bJ Av (alPut A.gens b g)) = (A.uq b g).put H :=
  Ar.sX (B := A.uq b g) hA ⟨rfl, rfl, rfl, rfl, rfl, rfl, rfl⟩ H _ _ (.inr (.inr (.inr (.inr (.inr (.inr ⟨rfl, rfl, rfl, rfl, rfl, rfl, rfl, rfl⟩))))))
theorem Bp {C : Ar} {L : aZ} {H : Heap} {R : Value → Heap → Prop} (hC : C.nd) {b n i len : Int} {x45 : Sl} (hb : C.busy.length = len) (hc : C.carved.length = len) (hw : C.words.length = len) (hl : len ≤ 65536)
    (h0 : 0 ≤ b) (hi : 0 ≤ i) (hlt : i < n) (hf : b + n ≤ len) (hx : x45 = ⟨some ⟨C.w, b.toNat, none⟩, n.toNat, n.toNat⟩)
    (hk : L 768 [.int .i64 (i + 1)] ((C.lY (b.toNat + i.toNat)).put H)) :
    wp Tryz.prog (
      .look (opS Tryz.prog (.nilCheck (.tmp 0)) aF [pA C]) (.one (.leaf .addr)) fun x95 =>
      .ld (x95.add 4) .slice fun x97 =>
      .look (opS Tryz.prog (.nilCheck (.tmp 0)) aF [pA C]) (.one (.leaf .addr)) fun x102 =>
      .ld (x102.add 5) .slice fun x104 =>
      .look (opS Tryz.prog (.indexAddr fT (.tmp 0) (.tmp 1)) aF [(.slice x97.a x97.len x97.cap), (.int .i64 (w64 (b + i)))]) (.one (.leaf .addr)) fun x108 =>
      .st x108 (.bool true) <|
      .look (opS Tryz.prog (.indexAddr fT (.tmp 0) (.tmp 1)) aF [(.slice x104.a x104.len x104.cap), (.int .i64 (w64 (b + i)))]) (.one (.leaf .addr)) fun x109 =>
      .st x109 (.bool true) <|
      .look (opS Tryz.prog (.nilCheck (.tmp 0)) aF [pA C]) (.one (.leaf .addr)) fun x111 =>
      .ld (x111.add 2) .bool fun x113 =>
      bif x113 then (
        .look (opS Tryz.prog (.indexAddr bK (.tmp 0) (.tmp 1)) aF [(.slice x45.a x45.len x45.cap), (.int .i64 i)]) (.one (.leaf .addr)) fun x116 =>
        .st x116 (.int .i64 0) <|
        .again 768 [(.int .i64 (w64 (i + 1)))])
      else (
        .again 768 [(.int .i64 (w64 (i + 1)))])) L (C.put H) R := by
  have e1 : w64 (b + i) = b + i := aE (by omega) (by omega)
  have e2 : w64 (i + 1) = i + 1 := aE (by omega) (by omega)
  have e3 : 0 + (b + i).toNat = b.toNat + i.toNat := by omega
  rw [e1, e2, hx]
  refine aa.2 (fb (x := Sl.mk (some ⟨C.b, 0, none⟩) C.busy.length C.busy.length) (n := 4) (aa.2 ?_))
  refine fb (x := Sl.mk (some ⟨C.c, 0, none⟩) C.carved.length C.carved.length) (n := 5) ?_
  refine aB (x := Addr.mk C.b (0 + (b + i).toNat) none) (uf (by omega) (by show b + i < ((C.busy.length : Nat) : Int); omega)) ?_
  rw [e3]
  refine gd (Ar.KK hC H) (oL (by omega)) rfl ?_
  have hD : (C.wO (b.toNat + i.toNat) true).nd := hC
  refine wM (DK (B := C.wO (b.toNat + i.toNat) true) hC ⟨rfl, rfl, rfl, rfl, rfl, rfl, rfl⟩ true (b.toNat + i.toNat) rfl ⟨by unfold Ar.wO Ar.wc; simp only [List.length_set], rfl, rfl, rfl, rfl, rfl⟩ H) ?_
  refine aB (x := Addr.mk C.c (0 + (b + i).toNat) none) (uf (by omega) (by show b + i < ((C.carved.length : Nat) : Int); omega)) ?_
  rw [e3]
  refine gd (Ar.Mv hD H) (oL (by show _ < C.carved.length; omega)) rfl ?_
  have hE : ((C.wO (b.toNat + i.toNat) true).zp (b.toNat + i.toNat) true).nd := hC
  refine wM (Er (B := (C.wO (b.toNat + i.toNat) true).zp (b.toNat + i.toNat) true) hD ⟨rfl, rfl, rfl, rfl, rfl, rfl, rfl⟩ true (b.toNat + i.toNat) rfl ⟨by unfold Ar.zp Ar.wc; simp only [List.length_set], rfl, rfl, rfl, rfl, rfl⟩ H) ?_
  unfold Ar.lY at hk
  simp only at hk
  refine aa.2 (fb (A := (C.wO (b.toNat + i.toNat) true).zp (b.toNat + i.toNat) true) (x := C.fresh) (n := 2) ?_)
  cases hf : C.fresh with
  | true =>
    rw [hf, if_pos rfl] at hk
    refine av rfl ?_
    refine aB (x := Addr.mk C.w (b.toNat + i.toNat) none) (BL hi (by show i < ((n.toNat : Nat) : Int); omega)) ?_
    refine gd (Ar.KC hE H) (yp (by show _ < C.words.length; omega)) rfl ?_
    exact wM (A9 hE _ _ _) hk
  | false =>
    rw [hf, if_neg (by decide)] at hk
    exact af rfl hk
theorem Iz {A : Ar} (hA : A.wf) (h : Int) (H : Heap) : Det Tryz.prog iQ [pA A, .int .i64 h] (A.put H) (.bool (decide (A.mM h))) ((if A.mM h then A.dr h else A).put H) := by
  have hw := hA.words
  have ho := tA h
  have hs := my h
  refine rN fun L => ?_
  unfold nV
  refine bc (rn _ _) ?_
  cases hk : cS h with
  | false =>
    refine av rfl (ad ⟨?_, ?_⟩)
    · rw [decide_eq_false (fun e => by rw [e.1] at hk; cases hk)]
    · rw [if_neg (fun e => by rw [e.1] at hk; cases hk)]
  | true =>
  refine af rfl (aa.2 ?_)
  refine fb (x := Sl.mk (some ⟨A.w, 0, none⟩) A.words.length A.words.length) (n := 1) ?_
  refine bc (ud _ _) ?_
  have e1 : w64 (((A.words.length : Nat) : Int) - au (opC h)) = ((A.words.length : Nat) : Int) - au (opC h) := aE (by omega) (by omega)
  by_cases h1 : opB h + au (opC h) ≤ A.words.length
  case neg =>
    refine av (decide_eq_true (by show opB h > w64 (((A.words.length : Nat) : Int) - au (opC h)); omega)) (ad ⟨?_, ?_⟩)
    · rw [decide_eq_false (fun e => h1 e.2.1)]
    · rw [if_neg (fun e => h1 e.2.1)]
  refine af (decide_eq_false (by show ¬ opB h > w64 (((A.words.length : Nat) : Int) - au (opC h)); omega)) (aa.2 ?_)
  refine fb (x := some A.g) (n := 6) ?_
  refine yn (l := A.gens) (enc := Av) (kt := aP) (et := aP) (z := .int .i64 0) (y := (alGet A.gens (opB h)).getD 0) (Ar.Mm hA.nd H) rfl rfl rfl rfl (by cases alGet A.gens (opB h) <;> rfl) ?_
  by_cases h2 : (alGet A.gens (opB h)).getD 0 < opG h
  case neg =>
    refine av (ile (by show opG h ≤ (alGet A.gens (opB h)).getD 0; omega)) (ad ⟨?_, ?_⟩)
    · rw [decide_eq_false (fun e => h2 e.2.2.1)]
    · rw [if_neg (fun e => h2 e.2.2.1)]
  refine af (Pg h2) ?_
  refine ax (x := Sl.mk (some ⟨A.w, (opB h).toNat, none⟩) (au (opC h)).toNat (au (opC h)).toNat) (AE hA h1 H) ?_
  refine Eu (fun i K => 0 ≤ i ∧ i ≤ au (opC h) ∧ K = A.put H ∧ ∀ j : Nat, j < i.toNat → A.busy.getD ((opB h).toNat + j) false = false) (fun i => (au (opC h) - i).toNat) 0 ⟨Int.le_refl 0, by omega, rfl, fun j hj => by omega⟩ ?_
  rintro i b K ⟨h3, h4, rfl, h5⟩
  rw [lE]
  by_cases hlt : i < au (opC h)
  · refine av (ilt (by show i < (((au (opC h)).toNat : Nat) : Int); omega)) (aa.2 ?_)
    have e2 : w64 (opB h + i) = opB h + i := aE (by omega) (by omega)
    have e3 : w64 (i + 1) = i + 1 := aE (by omega) (by omega)
    have hbl := hA.busy
    refine fb (x := Sl.mk (some ⟨A.b, 0, none⟩) A.busy.length A.busy.length) (n := 4) ?_
    refine aB (x := Addr.mk A.b (0 + (opB h + i).toNat) none) ?_ ?_
    · show opS Tryz.prog _ _ [_, .int .i64 (w64 (opB h + i))] = _
      rw [e2]
      exact uf (by omega) (by show opB h + i < ((A.busy.length : Nat) : Int); omega)
    · have e4 : 0 + (opB h + i).toNat = (opB h).toNat + i.toNat := by omega
      rw [e4]
      refine bL (x := A.busy.getD ((opB h).toNat + i.toNat) false) ((Heap.cell_of (Ar.KK hA.nd H) _).trans (oL (by omega))) ?_
      cases hb : A.busy.getD ((opB h).toNat + i.toNat) false with
      | true =>
        have hno : ¬ A.mM h := fun e => by
          have := e.2.2.2 i.toNat (by omega)
          rw [hb] at this; cases this
        refine av rfl (ad ⟨?_, ?_⟩)
        · rw [decide_eq_false hno]
        · rw [if_neg hno]
      | false =>
        refine af rfl (cR ?_)
        refine ⟨b, i + 1, by rw [e3], ⟨by omega, by omega, rfl, fun j hj => ?_⟩, by omega⟩
        by_cases hj' : j < i.toNat
        · exact h5 j hj'
        · rw [show j = i.toNat by omega]; exact hb
  · have hx : i = au (opC h) := by omega
    subst hx
    have hyes : A.mM h := ⟨hk, h1, h2, h5⟩
    rw [if_pos hyes, decide_eq_true hyes]
    refine af (zk (by show (((au (opC h)).toNat : Nat) : Int) ≤ au (opC h); omega)) ?_
    have hl0 : ∀ i, A.zn (A.ey (opB h).toNat i) := fun i => gD A _ i
    refine yK (fun i K => 0 ≤ i ∧ i ≤ au (opC h) ∧ K = (A.ey (opB h).toNat i.toNat).put H) (fun i => (au (opC h) - i).toNat) 0 ⟨Int.le_refl 0, by omega, rfl⟩ ?_
    intro i K ⟨h6, h7, hK⟩
    rw [hK]
    have hl := hl0 i.toNat
    have hbl := hA.busy
    have hcl := hA.carved
    rw [lQ]
    have ea : pA A = pA (A.ey (opB h).toNat i.toNat) := by unfold pA; rw [hl.al.a]
    have hB := hl.nd hA.nd
    have hs1 : ((A.ey (opB h).toNat (i + 1).toNat)) = ((A.ey (opB h).toNat i.toNat).kV ((opB h).toNat + i.toNat)).lY ((opB h).toNat + i.toNat) := by
      rw [show (i + 1).toNat = i.toNat + 1 by omega]; rfl
    by_cases hlt : i < au (opC h)
    · refine av (ilt (by show i < (((au (opC h)).toNat : Nat) : Int); omega)) (aa.2 ?_)
      have e2 : w64 (opB h + i) = opB h + i := aE (by omega) (by omega)
      have e5 : ((opB h + i).toNat) = (opB h).toNat + i.toNat := by omega
      have hk2 : ∃ j : Int, [Value.int .i64 (i + 1)] = [Value.int .i64 j] ∧ (0 ≤ j ∧ j ≤ au (opC h) ∧ ((A.ey (opB h).toNat (i + 1).toNat).put H) = (A.ey (opB h).toNat j.toNat).put H) ∧ (au (opC h) - j).toNat < (au (opC h) - i).toNat :=
        ⟨i + 1, rfl, ⟨by omega, by omega, rfl⟩, by omega⟩
      rw [hs1] at hk2
      have ea2 : A.a = (A.ey (opB h).toNat i.toNat).a := hl.al.a.symm
      have ew2 : A.w = (A.ey (opB h).toNat i.toNat).w := hl.al.w.symm
      rw [ea2, ew2]
      have hbl1 := hl.bl
      have hcl1 := hl.cl
      have hwl1 := hl.wl
      generalize A.ey (opB h).toNat i.toNat = B at *
      refine fb (A := B) (x := Sl.mk (some ⟨B.c, 0, none⟩) B.carved.length B.carved.length) (n := 5) ?_
      refine aB (x := Addr.mk B.c (0 + (opB h + i).toNat) none) ?_ ?_
      · show opS Tryz.prog _ _ [_, .int .i64 (w64 (opB h + i))] = _
        rw [e2]
        exact uf (by omega) (by show opB h + i < ((B.carved.length : Nat) : Int); omega)
      · rw [Nat.zero_add, e5]
        refine bL (x := B.carved.getD ((opB h).toNat + i.toNat) false) ((Heap.cell_of (Ar.Mv hB H) _).trans (oL (by omega))) ?_
        cases hb : B.carved.getD ((opB h).toNat + i.toNat) false with
        | true =>
          have en : B.kV ((opB h).toNat + i.toNat) = B := by unfold Ar.kV; rw [hb, if_pos rfl]
          rw [en] at hk2
          refine af rfl ?_
          refine Bp (C := B) (len := A.words.length) (b := opB h) (n := au (opC h)) (i := i) hB (by omega) (by omega) (by omega) (by omega) (by omega) h6 hlt (by omega) rfl ?_
          show (L.set 384 _).set 768 _ 768 _ _
          unfold aZ.set; rw [if_pos rfl]; exact hk2
        | false =>
          have en : B.kV ((opB h).toNat + i.toNat) = (B.CP 1).CL 1 := by unfold Ar.kV; rw [hb, if_neg (by decide)]
          rw [en] at hk2
          refine av rfl (aa.2 ?_)
          refine fb (A := B) (x := B.nC) (n := 7) (aa.2 ?_)
          refine gW (B.CP 1) (n := 7) (u := .int .i64 B.nC) hB (aa.2 ?_)
          refine fb (A := B.CP 1) (x := B.nF) (n := 10) (aa.2 ?_)
          refine gW (A := B.CP 1) ((B.CP 1).CL 1) (n := 10) (u := .int .i64 B.nF) hB ?_
          refine Bp (C := (B.CP 1).CL 1) (len := A.words.length) (b := opB h) (n := au (opC h)) (i := i) hB (by show ((B.busy.length : Nat) : Int) = _; omega) (by show ((B.carved.length : Nat) : Int) = _; omega) (by show ((B.words.length : Nat) : Int) = _; omega) (by omega) (by omega) h6 hlt (by omega) rfl ?_
          show (L.set 384 _).set 768 _ 768 _ _
          unfold aZ.set; rw [if_pos rfl]; exact hk2
    · have hx : i = au (opC h) := by omega
      subst hx
      refine af (zk (by show (((au (opC h)).toNat : Nat) : Int) ≤ au (opC h); omega)) (aa.2 ?_)
      unfold Ar.dr
      have ea2 : A.a = (A.ey (opB h).toNat (au (opC h)).toNat).a := hl.al.a.symm
      rw [ea2]
      generalize A.ey (opB h).toNat (au (opC h)).toNat = B at *
      have ez : (((au (opC h)).toNat : Nat) : Int) = au (opC h) := by omega
      rw [ez]
      refine fb (A := B) (x := some B.s) (n := 3) (aa.2 ?_)
      refine fb (A := B) (x := some B.g) (n := 6) ?_
      refine xj (enc := te) (z := ((0, 0) : Int × Int)) (kt := aP) (et := hJ) (Ar.Kq hB H) rfl rfl rfl rfl ?_
      refine ⟨((((alGet B.slots (opB h)).getD (0, 0)).1, ((alGet B.slots (opB h)).getD (0, 0)).2, ()), (ie B.slots (opB h) : Int), ()), rfl, ?_⟩
      refine vG (enc := te) (v := ((h, 1) : Int × Int)) (Heap.bx _ _ _) ?_
      rw [Heap.set_set]
      refine wM (Bm hB _ _ _ _) ?_
      refine xj (enc := Av) (z := (0 : Int)) (l := B.gens) (kt := aP) (et := aP) (Ar.Mm (A := B.m7 (opB h) h 1) hB H) rfl rfl rfl rfl ?_
      refine ⟨(((alGet B.gens (opB h)).getD 0), (ie B.gens (opB h) : Int), ()), rfl, ?_⟩
      refine vG (enc := Av) (l := B.gens) (v := opG h) (Heap.bx _ _ _) ?_
      rw [Heap.set_set]
      refine wM (I6 (A := B.m7 (opB h) h 1) hB _ _ _) (aa.2 ?_)
      refine fb (A := (B.m7 (opB h) h 1).uq (opB h) (opG h)) (x := B.nL) (n := 8) (aa.2 ?_)
      refine gW (A := (B.m7 (opB h) h 1).uq (opB h) (opG h)) (((B.m7 (opB h) h 1).uq (opB h) (opG h)).Fc (au (opC h))) (n := 8) (u := .int .i64 B.nL) hB (aa.2 ?_)
      refine fb (A := ((B.m7 (opB h) h 1).uq (opB h) (opG h)).Fc (au (opC h))) (x := B.nF) (n := 10) (aa.2 ?_)
      exact gW (A := ((B.m7 (opB h) h 1).uq (opB h) (opG h)).Fc (au (opC h))) ((((B.m7 (opB h) h 1).uq (opB h) (opG h)).Fc (au (opC h))).Lh (au (opC h))) (n := 10) (u := .int .i64 B.nF) hB (ad ⟨rfl, rfl⟩)
theorem xP (A : Ar) (b h s k : Int) : (A.m7 b h s).stF k = if opB k = b then (if cS k = true ∧ h = k then s else 0) else A.stF k := by
  unfold Ar.stF Ar.m7
  simp only [vj]
  by_cases e : opB k = b
  · rw [if_pos e, if_pos e]
  · rw [if_neg e, if_neg e]
theorem CD {A : Ar} (hA : A.wf) {h : Int} (s : Int) (hf : opB h + au (opC h) ≤ A.words.length) : (A.m7 (opB h) h s).wf :=
  ⟨hA.nd, fun k hk => by
    rw [xP] at hk
    split at hk
    · split at hk
      · rename_i e; rw [← e.2]; exact hf
      · exact (hk rfl).elim
    · exact hA.fit k hk, hA.busy, hA.carved, hA.words, hA.raw, hA.wC, hA.wL, hA.wR, hA.wF⟩
theorem CG {A : Ar} (hA : A.wf) (h : Int) {s : Int} (t : Int) (hs : s ≠ 0) : (A.gu h s t).wf := by
  unfold Ar.gu
  split
  · rename_i e; exact CD hA t (hA.fit h (by rw [e]; exact hs))
  · exact hA
theorem Ks {A : Ar} (hA : A.wf) (n : Int) : (A.Fc n).wf := ⟨hA.nd, hA.fit, hA.busy, hA.carved, hA.words, hA.raw, hA.wC, sP _, hA.wR, hA.wF⟩
theorem K5 {A : Ar} (hA : A.wf) (n : Int) : (A.EK n).wf := ⟨hA.nd, hA.fit, hA.busy, hA.carved, hA.words, hA.raw, hA.wC, sP _, hA.wR, hA.wF⟩
theorem KG {A : Ar} (hA : A.wf) (n : Int) : (A.Ku n).wf := ⟨hA.nd, hA.fit, hA.busy, hA.carved, hA.words, hA.raw, hA.wC, hA.wL, sP _, hA.wF⟩
theorem Ke {A : Ar} (hA : A.wf) (n : Int) : (A.Fz n).wf := ⟨hA.nd, hA.fit, hA.busy, hA.carved, hA.words, hA.raw, hA.wC, hA.wL, sP _, hA.wF⟩
theorem Ga {A : Ar} (hA : A.wf) (n : Int) : (A.CL n).wf := ⟨hA.nd, hA.fit, hA.busy, hA.carved, hA.words, hA.raw, hA.wC, hA.wL, hA.wR, sP _⟩
theorem Ko {A : Ar} (hA : A.wf) (n : Int) : (A.Lh n).wf := ⟨hA.nd, hA.fit, hA.busy, hA.carved, hA.words, hA.raw, hA.wC, hA.wL, hA.wR, sP _⟩
theorem KY {A : Ar} (hA : A.wf) (n : Int) : (A.CP n).wf := ⟨hA.nd, hA.fit, hA.busy, hA.carved, hA.words, hA.raw, sP _, hA.wL, hA.wR, hA.wF⟩
theorem JZ {A : Ar} (hA : A.wf) (b : Nat) (v : Bool) (n : Nat) : (A.tL b v n).wf := ⟨hA.nd, hA.fit, (jl _ _ _ _).trans hA.busy, hA.carved, hA.words, hA.raw, hA.wC, hA.wL, hA.wR, hA.wF⟩
theorem JT {A : Ar} (hA : A.wf) (b g : Int) : (A.uq b g).wf := ⟨hA.nd, hA.fit, hA.busy, hA.carved, hA.words, hA.raw, hA.wC, hA.wL, hA.wR, hA.wF⟩
theorem Gk {A : Ar} (hA : A.wf) (n : Nat) (v : Bool) : (A.wO n v).wf := ⟨hA.nd, hA.fit, (List.length_set ..).trans hA.busy, hA.carved, hA.words, hA.raw, hA.wC, hA.wL, hA.wR, hA.wF⟩
theorem Gf {A : Ar} (hA : A.wf) (n : Nat) (v : Bool) : (A.zp n v).wf := ⟨hA.nd, hA.fit, hA.busy, (List.length_set ..).trans hA.carved, hA.words, hA.raw, hA.wC, hA.wL, hA.wR, hA.wF⟩
theorem EH {A : Ar} (hA : A.wf) (h : Int) : (A.aW h).wf := KG (K5 (CG hA h 2 (by omega)) _) _
theorem JD {A : Ar} (hA : A.wf) (h : Int) : (A.db h).wf := Ga (Ke (JZ (CG hA h 0 (by omega)) _ _ _) _) _
theorem La {A : Ar} (hA : A.wf) (n : Nat) : (A.kV n).wf := by unfold Ar.kV; split; exact hA; exact Ga (KY hA _) _
theorem K2 {A : Ar} (hA : A.wf) (n : Nat) : (A.lY n).wf := by
  unfold Ar.lY; simp only
  split
  · exact Gt (Gf (Gk hA _ _) _ _) _ _
  · exact Gf (Gk hA _ _) _ _
theorem J5 {A : Ar} (hA : A.wf) (b n : Nat) : (A.ey b n).wf := by
  induction n with
  | zero => exact hA
  | succ n ih => exact K2 (La ih _) _
theorem DG {A : Ar} (hA : A.wf) (h : Int) (hf : opB h + au (opC h) ≤ A.words.length) : (A.dr h).wf :=
  Ko (Ks (JT (CD (J5 hA _ _) 1 (by rw [(gD A _ _).wl]; exact hf)) _ _) _) _
structure Ar.made (A : Ar) (nr nw : Nat) (fr : Bool) : Prop where
  nd : A.nd
  raw : A.raw = List.replicate nr 0
  words : A.words = List.replicate nw 0
  fresh : A.fresh = fr
  slots : A.slots = []
  busy : A.busy = List.replicate nw false
  carved : A.carved = List.replicate nw false
  gens : A.gens = []
  nC : A.nC = 0
  nL : A.nL = 0
  nR : A.nR = 0
  nF : A.nF = 0
  fault : A.fault = false
  aD : A.aD = 0
theorem Li {A : Ar} {r w : Nat} {f : Bool} (h : A.made r w f) (hr : r ≤ 65536) (hw : w ≤ 65536) : A.wf :=
  have w0 : w64 0 = 0 := aE (by omega) (by omega)
  ⟨h.nd, fun k hk => (hk (by unfold Ar.stF; rw [h.slots]; rfl)).elim, by rw [h.busy, h.words]; simp, by rw [h.carved, h.words]; simp, by rw [h.words]; simpa using hw, by rw [h.raw]; simpa using hr,
    by rw [h.nC]; exact w0, by rw [h.nL]; exact w0, by rw [h.nR]; exact w0, by rw [h.nF]; exact w0⟩
theorem cy {H : Heap} {b x : Nat} {o : Obj} (h : (H.set b o) x = none) : x ≠ b ∧ H x = none := by
  by_cases e : x = b
  · rw [e, Heap.bx] at h; cases h
  · rw [Heap.dJ _ _ e] at h; exact ⟨e, h⟩
theorem Me (p : Int) : imax 0 (mH p 65536) = if p ≤ 0 then 0 else if p ≥ 65536 then 65536 else p := by
  unfold imax mH; split <;> split <;> first | omega | (split <;> omega) | skip
  all_goals (try split) <;> (try split) <;> omega
theorem JW (p0 p1 : Int) (f : Bool) (H : Heap) (h0 : 0 ≤ p0 ∧ p0 ≤ 65536) (h1 : 0 ≤ p1 ∧ p1 ≤ 65536) :
    cB Tryz.prog pz #[.int .i64 p0, .int .i64 p1, .bool f] H fun v K => ∃ A : Ar, A.made p0.toNat p1.toNat f ∧ (∀ x ∈ A.ids, H x = none) ∧ v = pA A ∧ K = A.put H := by
  have c0 : imax 0 (mH p0 65536) = p0 := by rw [Me]; split <;> (try split) <;> omega
  have c1 : imax 0 (mH p1 65536) = p1 := by rw [Me]; split <;> (try split) <;> omega
  refine xK fun L => ?_
  unfold yA
  rw [c0, c1]
  refine zq (make_slice (e := aP) rfl rfl rfl (by exact Nat.le_refl 8) rfl rfl h0.1 (by omega)) (x := fun b => Sl.mk (some ⟨b, 0, none⟩) p0.toNat p0.toNat) (fun _ => rfl) fun r hr => ?_
  refine zq (make_slice (e := aP) rfl rfl rfl (by exact Nat.le_refl 8) rfl rfl h1.1 (by omega)) (x := fun b => Sl.mk (some ⟨b, 0, none⟩) p1.toNat p1.toNat) (fun _ => rfl) fun w hw => ?_
  refine zt fun s hs => ?_
  refine zq (make_slice (e := aO) rfl rfl rfl (by exact Nat.le_add_left 1 7) rfl rfl h1.1 (by omega)) (x := fun b => Sl.mk (some ⟨b, 0, none⟩) p1.toNat p1.toNat) (fun _ => rfl) fun b hb => ?_
  refine zq (make_slice (e := aO) rfl rfl rfl (by exact Nat.le_add_left 1 7) rfl rfl h1.1 (by omega)) (x := fun b => Sl.mk (some ⟨b, 0, none⟩) p1.toNat p1.toNat) (fun _ => rfl) fun c hc => ?_
  refine zt fun g hg => ?_
  refine dI fun a ha => ?_
  obtain ⟨w1, w0⟩ := cy hw
  obtain ⟨s1, hs⟩ := cy hs
  obtain ⟨s2, s0⟩ := cy hs
  obtain ⟨b1, hb⟩ := cy hb
  obtain ⟨b2, hb⟩ := cy hb
  obtain ⟨b3, b0⟩ := cy hb
  obtain ⟨k1, hc⟩ := cy hc
  obtain ⟨k2, hc⟩ := cy hc
  obtain ⟨k3, hc⟩ := cy hc
  obtain ⟨k4, k0⟩ := cy hc
  obtain ⟨g1, hg⟩ := cy hg
  obtain ⟨g2, hg⟩ := cy hg
  obtain ⟨g3, hg⟩ := cy hg
  obtain ⟨g4, hg⟩ := cy hg
  obtain ⟨g5, g0⟩ := cy hg
  obtain ⟨a1, ha⟩ := cy ha
  obtain ⟨a2, ha⟩ := cy ha
  obtain ⟨a3, ha⟩ := cy ha
  obtain ⟨a4, ha⟩ := cy ha
  obtain ⟨a5, ha⟩ := cy ha
  obtain ⟨a6, a0⟩ := cy ha
  refine ad ⟨⟨a, r, w, s, b, c, g, List.replicate p0.toNat 0, List.replicate p1.toNat 0, f, [], List.replicate p1.toNat false, List.replicate p1.toNat false, [], 0, 0, 0, 0, false, 0⟩, ?_, ?_, rfl, ?_⟩
  · refine ⟨?_, rfl, rfl, rfl, rfl, rfl, rfl, rfl, rfl, rfl, rfl, rfl, rfl, rfl⟩
    unfold Ar.nd Ar.ids
    simp [*, Ne.symm w1, Ne.symm s1, Ne.symm s2, Ne.symm b1, Ne.symm b2, Ne.symm b3, Ne.symm k1, Ne.symm k2, Ne.symm k3, Ne.symm k4, Ne.symm g1, Ne.symm g2, Ne.symm g3, Ne.symm g4, Ne.symm g5]
  · intro x hx
    unfold Ar.ids at hx
    simp only [List.mem_cons, List.not_mem_nil, or_false] at hx
    rcases hx with rfl | rfl | rfl | rfl | rfl | rfl | rfl <;> assumption
  · funext x
    unfold Heap.set Ar.put
    simp only [Ar.qa, Ar.wc, Ar.oK, Ar.oY, Ar.pj, Ar.qI, Ar.qE, Ar.o9, List.length_replicate, ints, vQ, List.map_replicate, List.toArray_replicate]
    by_cases xa : x = a
    · rw [if_pos xa, if_pos xa]
    rw [if_neg xa, if_neg xa]
    by_cases xr : x = r
    · rw [if_pos xr, xr, if_neg (Ne.symm g5), if_neg (Ne.symm k4), if_neg (Ne.symm b3), if_neg (Ne.symm s2), if_neg (Ne.symm w1), if_pos rfl]
    rw [if_neg xr, if_neg xr]
    by_cases xw : x = w
    · rw [if_pos xw, xw, if_neg (Ne.symm g4), if_neg (Ne.symm k3), if_neg (Ne.symm b2), if_neg (Ne.symm s1), if_pos rfl]
    rw [if_neg xw, if_neg xw]
    by_cases xs : x = s
    · rw [if_pos xs, xs, if_neg (Ne.symm g3), if_neg (Ne.symm k2), if_neg (Ne.symm b1), if_pos rfl]; rfl
    rw [if_neg xs, if_neg xs]
    by_cases xb : x = b
    · rw [if_pos xb, xb, if_neg (Ne.symm g2), if_neg (Ne.symm k1), if_pos rfl]
    rw [if_neg xb, if_neg xb]
    by_cases xc : x = c
    · rw [if_pos xc, xc, if_neg (Ne.symm g1), if_pos rfl]
    rw [if_neg xc, if_neg xc]
    rfl
theorem yF (A : Ar) (h s t : Int) : Ar.Alike A (A.gu h s t) := by unfold Ar.gu; split; exact ⟨rfl, rfl, rfl, rfl, rfl, rfl, rfl⟩; exact .refl A
theorem AP (A : Ar) (h : Int) : Ar.Alike A (A.aW h) := (yF A h 1 2).trans ⟨rfl, rfl, rfl, rfl, rfl, rfl, rfl⟩
theorem CR (A : Ar) (h : Int) : Ar.Alike A (A.db h) := (yF A h 2 0).trans ⟨rfl, rfl, rfl, rfl, rfl, rfl, rfl⟩
theorem JJ (B : Ar) (h n : Int) : Ar.Alike B ((((B.m7 (opB h) h 1).uq (opB h) (opG h)).Fc n).Lh n) := ⟨rfl, rfl, rfl, rfl, rfl, rfl, rfl⟩
theorem yZ (A : Ar) (h : Int) : Ar.Alike A (A.dr h) := (gD A _ _).al.trans (JJ _ _ _)
theorem yX (A : Ar) (h off : Int) : Ar.Alike A (A.gp h off) := by unfold Ar.gp; split <;> exact ⟨rfl, rfl, rfl, rfl, rfl, rfl, rfl⟩
theorem s9 (A : Ar) (h off v : Int) : Ar.Alike A (A.bW h off v) := by unfold Ar.bW; split <;> exact ⟨rfl, rfl, rfl, rfl, rfl, rfl, rfl⟩
theorem nD (A : Ar) (i : Int) : Ar.Alike A (A.aV i) := by unfold Ar.aV; split <;> exact ⟨rfl, rfl, rfl, rfl, rfl, rfl, rfl⟩
theorem eV (A : Ar) (i v : Int) : Ar.Alike A (A.aL i v) := by unfold Ar.aL; split <;> exact ⟨rfl, rfl, rfl, rfl, rfl, rfl, rfl⟩
theorem uH (A : Ar) (i v w : Int) : Ar.Alike A (A.dE i v w) := by unfold Ar.dE; split <;> (try split) <;> exact ⟨rfl, rfl, rfl, rfl, rfl, rfl, rfl⟩
theorem Ki (a : Addr) : opS Tryz.prog (.binOp .eql aK (.tmp 0) (.const (.pointer none)) aK) aO [(.pointer (some a))] = .pure (.value (.bool false)) := by kernel_rfl
theorem Ly {A : Ar} (hA : A.wf) {h off x : Int} {p : Value} (hp : p = pA A) (hx : A.bA h off = x) (H : Heap) : Det Tryz.prog dK [p, .int .i64 h, .int .i64 off] (A.put H) (.int .i64 x) ((A.gp h off).put H) := by
  rw [hp, ← hx]; exact CS hA h off H
theorem Js {A : Ar} (hA : A.wf) {h off x : Int} {p : Value} (hp : p = pA A) (H : Heap) : Det Tryz.prog fx [p, .int .i64 h, .int .i64 off, .int .i64 x] (A.put H) (.tuple #[]) ((A.bW h off x).put H) := by
  rw [hp]; exact A7 hA h off x H
section
variable {L : aZ} {G : Heap} {R : Value → Heap → Prop} {A : Ar} {q T : Nat} {c : Array Value}
theorem fV {p : Addr} {n : Nat} {l : iH} {x : l.T} {k : l.T → Tree} (hq : q ∉ A.ids) (h : wp Tryz.prog (k x) L (A.put (G.set q (.cells c T (0, 0)))) R) (hp : p = ⟨q, n, none⟩ := by rfl) (hx : c[n]? = some (l.fq x) := by rfl) :
    wp Tryz.prog (.ld p l k) L (A.put (G.set q (.cells c T (0, 0)))) R := by
  subst hp
  exact bL ((Heap.cell_of (by rw [Ar.jI hq, Heap.bx]) _).trans hx) h
theorem lp {p : Addr} {n : Nat} {v u : Value} {k : Tree} (hq : q ∉ A.ids) (c' : Array Value) (h : wp Tryz.prog k L (A.put (G.set q (.cells c' T (0, 0)))) R) (hp : p = ⟨q, n, none⟩ := by rfl) (hx : c[n]? = some u := by rfl)
    (hc : c.setIfInBounds n v = c' := by rfl) (hs : Value.single v = true := by rfl) :
    wp Tryz.prog (.st p v k) L (A.put (G.set q (.cells c T (0, 0)))) R := by
  subst hp
  refine gd (by rw [Ar.jI hq, Heap.bx]) hx hs ?_
  rw [Ar.sq _ hq, Heap.set_set, hc]; exact h
end
theorem ko {A : Ar} {i : Int} (h : A.bp i) : A.aV i = A.tick := by unfold Ar.aV; rw [if_pos h]
noncomputable def yV (p0 : Int) (p1 : Int) : Tree :=
 .ret (.int .i64 (ior (w64 ((w64 ((Int.fdiv p0 (2 ^ 17)) + 1)) * 2 ^ 17)) p1))
theorem xV {p0 : Int} {p1 : Int} : SpT pR #[(.int .i64 p0), (.int .i64 p1)] (yV p0 p1) := spT cJ Tryz.func160 (by kernel_rfl)
noncomputable def pE (p0_0 : Int) (p0_1 : Int) (p0_2 : Int) (p0_3 : Int) (p0_4 : Int) (p1 : Int) (p2 : Int) : Tree :=
 .dk (.cells #[(.int .i64 p0_0), (.int .i64 p0_1), (.int .i64 p0_2), (.int .i64 p0_3), (.int .i64 p0_4)] bn) fun x3 =>
 .ld (x3.add 1) (.int .i64) fun x8 =>
 .ret (.int .i64 (w64 ((w64 (x8 + (w64 (4 * p1)))) + p2)))
theorem sZ {p0_0 : Int} {p0_1 : Int} {p0_2 : Int} {p0_3 : Int} {p0_4 : Int} {p1 : Int} {p2 : Int} : SpT jh #[(.agg #[(.int .i64 p0_0), (.int .i64 p0_1), (.int .i64 p0_2), (.int .i64 p0_3), (.int .i64 p0_4)]), (.int .i64 p1), (.int .i64 p2)] (pE p0_0 p0_1 p0_2 p0_3 p0_4 p1 p2) := spT cJ Tryz.func108 (by kernel_rfl)
noncomputable def zY (p0 : Int) (p1 : Int) : Tree :=
 .dk (.cells #[(.int .i64 0), (.int .i64 0), (.int .i64 0), (.int .i64 0), (.int .i64 0)] bn) fun x4 =>
 .dk (.cells #[(.int .i64 0), (.int .i64 0), (.int .i64 0), (.int .i64 0), (.int .i64 0)] bn) fun x7 =>
 .stA x7 [(.int .i64 (imax p0 0)), (.int .i64 0), (.int .i64 (w64 (4 * (imax p0 0)))), (.int .i64 0), (.int .i64 0)] <|
 .ld (x7.add 2) (.int .i64) fun x23 =>
 .st (x7.add 3) (.int .i64 (w64 (x23 + (w64 ((w64 (Int.tdiv (imax p1 0) 8)) + (mH (Int.tmod (imax p1 0) 8) 1)))))) <|
 .ld (x7.add 3) (.int .i64) fun x28 =>
 .st (x7.add 4) (.int .i64 (w64 (x28 + (w64 ((w64 (Int.tdiv (imax p1 0) 8)) + (mH (Int.tmod (imax p1 0) 8) 1)))))) <|
 .ldA x7 [(.int .i64), (.int .i64), (.int .i64), (.int .i64), (.int .i64)] fun x32 =>
 .ld (x7.add 4) (.int .i64) fun x34 =>
 .stA x4 [(.int .i64 x32.1), (.int .i64 x32.2.1), (.int .i64 x32.2.2.1), (.int .i64 x32.2.2.2.1), (.int .i64 x32.2.2.2.2.1)] <|
 .check (ldS (x7.add 4)) (.int .i64 x34) <|
 .look (ldK x4 5 0 #[] fun r0 => .pure (.value (.tuple #[(.agg r0), (.int .i64 (w64 (x34 + 1)))]))) (.tup [(.agg [(.int .i64), (.int .i64), (.int .i64), (.int .i64), (.int .i64)]), (.leaf (.int .i64))]) fun r => .ret (Sh.fq (.tup [(.agg [(.int .i64), (.int .i64), (.int .i64), (.int .i64), (.int .i64)]), (.leaf (.int .i64))]) r)
theorem zj {p0 : Int} {p1 : Int} : SpT sK #[(.int .i64 p0), (.int .i64 p1)] (zY p0 p1) := spT cJ Tryz.func34 (by kernel_rfl)
noncomputable def uK (p0_0 : Int) (p0_1 : Int) (p0_2 : Int) (p0_3 : Int) (p0_4 : Int) (p1 : Int) (p2 : Int) (p3 : Int) : Tree :=
 .dk (.cells #[(.int .i64 p0_0), (.int .i64 p0_1), (.int .i64 p0_2), (.int .i64 p0_3), (.int .i64 p0_4)] bn) fun x4 =>
 .ldA x4 [(.int .i64), (.int .i64), (.int .i64), (.int .i64), (.int .i64)] fun x9 =>
 .ldA x4 [(.int .i64), (.int .i64), (.int .i64), (.int .i64), (.int .i64)] fun x10 =>
 .cU jh [(.agg #[(.int .i64 x10.1), (.int .i64 x10.2.1), (.int .i64 x10.2.2.1), (.int .i64 x10.2.2.2.1), (.int .i64 x10.2.2.2.2.1)]), (.int .i64 p1), (.int .i64 p2)] (.one (.leaf (.int .i64))) fun x13 =>
 .dk (.cells #[(.int .i64 x9.1), (.int .i64 x9.2.1), (.int .i64 x9.2.2.1), (.int .i64 x9.2.2.2.1), (.int .i64 x9.2.2.2.2.1), (.int .i64 x13), (.int .i64 0), (.int .i64 0), (.int .i64 p3)] vb) fun x17 =>
 .dk (.cells #[(.iface jC (.pointer (some x17)))] wW) fun x20 =>
 .ret (.pointer (some x20))
theorem vC {p0_0 : Int} {p0_1 : Int} {p0_2 : Int} {p0_3 : Int} {p0_4 : Int} {p1 : Int} {p2 : Int} {p3 : Int} : SpT kG #[(.agg #[(.int .i64 p0_0), (.int .i64 p0_1), (.int .i64 p0_2), (.int .i64 p0_3), (.int .i64 p0_4)]), (.int .i64 p1), (.int .i64 p2), (.int .i64 p3)] (uK p0_0 p0_1 p0_2 p0_3 p0_4 p1 p2 p3) := spT cJ Tryz.func132 (by kernel_rfl)
noncomputable def vR (p0_0 : Int) (p0_1 : Int) (p0_2 : Int) (p0_3 : Int) (p0_4 : Int) (p1 : Int) (p2 : Int) : Tree :=
 .dk (.cells #[(.int .i64 p0_0), (.int .i64 p0_1), (.int .i64 p0_2), (.int .i64 p0_3), (.int .i64 p0_4)] bn) fun x3 =>
 .ldA x3 [(.int .i64), (.int .i64), (.int .i64), (.int .i64), (.int .i64)] fun x8 =>
 .ldA x3 [(.int .i64), (.int .i64), (.int .i64), (.int .i64), (.int .i64)] fun x9 =>
 .cU jh [(.agg #[(.int .i64 x9.1), (.int .i64 x9.2.1), (.int .i64 x9.2.2.1), (.int .i64 x9.2.2.2.1), (.int .i64 x9.2.2.2.2.1)]), (.int .i64 p1), (.int .i64 p2)] (.one (.leaf (.int .i64))) fun x12 =>
 .dk (.cells #[(.int .i64 x8.1), (.int .i64 x8.2.1), (.int .i64 x8.2.2.1), (.int .i64 x8.2.2.2.1), (.int .i64 x8.2.2.2.2.1), (.int .i64 x12), (.int .i64 0), (.int .i64 0), (.int .i64 0), (.int .i64 0), (.bool false)] uJ) fun x15 =>
 .dk (.cells #[(.iface jE (.pointer (some x15))), (.pointer (some x15))] yQ) fun x20 =>
 .ret (.pointer (some x20))
theorem v8 {p0_0 : Int} {p0_1 : Int} {p0_2 : Int} {p0_3 : Int} {p0_4 : Int} {p1 : Int} {p2 : Int} : SpT j4 #[(.agg #[(.int .i64 p0_0), (.int .i64 p0_1), (.int .i64 p0_2), (.int .i64 p0_3), (.int .i64 p0_4)]), (.int .i64 p1), (.int .i64 p2)] (vR p0_0 p0_1 p0_2 p0_3 p0_4 p1 p2) := spT cJ Tryz.func75 (by kernel_rfl)
noncomputable def ra (p0 : Option Addr) (p1 : Option Addr) : Tree :=
 lkN p0 fun x6 =>
 .ld x6 .val fun x8 =>
 .act (opS Tryz.prog (.call { callee := .invoke (.tmp 0) "Step", args := #[(.tmp 1)], argTypes := #[aK] }) aO [x8, (.pointer p1)]) (.one (.leaf .bool)) fun x10 =>
 .ret (.bool x10)
theorem tW {p0 : Option Addr} {p1 : Option Addr} : SpT iy #[(.pointer p0), (.pointer p1)] (ra p0 p1) := spT cJ Tryz.func134 (by kernel_rfl)
noncomputable def tH (p0 : Option Addr) (p1 : Option Addr) : Tree :=
 lkN p0 fun x6 =>
 .ld x6 .val fun x8 =>
 .act (opS Tryz.prog (.call { callee := .invoke (.tmp 0) "Step", args := #[(.tmp 1)], argTypes := #[aK] }) aO [x8, (.pointer p1)]) (.one (.leaf .bool)) fun x10 =>
 .ret (.bool x10)
theorem tZ {p0 : Option Addr} {p1 : Option Addr} : SpT iU #[(.pointer p0), (.pointer p1)] (tH p0 p1) := spT cJ Tryz.func92 (by kernel_rfl)
noncomputable def nX (p0 : Option Addr) (p1 : Option Addr) : Tree :=
 lkN p0 fun x6 =>
 .ld (x6.add 7) (.int .i64) fun x9 =>
 bif ((x9 : Int) == 1) then (
 lkN p0 fun x33 =>
 .ld (x33.add 2) (.int .i64) fun x37 =>
 lkN p0 fun x39 =>
 .ld (x39.add 8) (.int .i64) fun x41 =>
 lkN p0 fun x45 =>
 .ld (x45.add 6) (.int .i64) fun x48 =>
 .call bV [(.pointer p1), (.int .i64 (w64 (x37 + (w64 (Int.tdiv x41 8))))), (.int .i64 (gO x48 131071))] .unit fun _ =>
 lkN p0 fun x52 =>
 .st (x52.add 7) (.int .i64 2) <|
 .ret (.bool false))
 else (
 bif ((x9 : Int) == 2) then (
 lkN p0 fun x56 =>
 .st (x56.add 7) (.int .i64 0) <|
 lkN p0 fun x61 =>
 .ld (x61.add 5) (.int .i64) fun x64 =>
 lkN p0 fun x66 =>
 .ld (x66.add 6) (.int .i64) fun x69 =>
 lkN p0 fun x71 =>
 .ld (x71.add 6) (.int .i64) fun x74 =>
 lkN p0 fun x76 =>
 .ld (x76.add 8) (.int .i64) fun x78 =>
 .cU pR [(.int .i64 x74), (.int .i64 (w64 ((w64 (Int.tdiv x78 8)) + 1)))] (.one (.leaf (.int .i64))) fun x81 =>
 .call cE [(.pointer p1), (.int .i64 x64), (.int .i64 x69), (.int .i64 x81)] (.one (.leaf .bool)) fun x82 =>
 bif x82 then (
 lkN p0 fun x84 =>
 .st (x84.add 7) (.int .i64 3) <|
 lkN p0 fun x88 =>
 .ld (x88.add 7) (.int .i64) fun x91 =>
 .ret (.bool ((x91 : Int) == 3)))
 else (
 lkN p0 fun x88 =>
 .ld (x88.add 7) (.int .i64) fun x91 =>
 .ret (.bool ((x91 : Int) == 3))))
 else (
 bif ((x9 : Int) == 3) then (
 .ret (.bool true))
 else (
 lkN p0 fun x19 =>
 .ld (x19.add 5) (.int .i64) fun x22 =>
 .call bQ [(.pointer p1), (.int .i64 x22)] (.one (.leaf (.int .i64))) fun x23 =>
 lkN p0 fun x24 =>
 .st (x24.add 6) (.int .i64 x23) <|
 lkN p0 fun x28 =>
 .st (x28.add 7) (.int .i64 1) <|
 .ret (.bool false))))
theorem rS {p0 : Option Addr} {p1 : Option Addr} : SpT kj #[(.pointer p0), (.pointer p1)] (nX p0 p1) := spT cJ Tryz.func166 (by kernel_rfl)
noncomputable def oN (p0 : Option Addr) (p1 : Option Addr) : Tree :=
 lkN p0 fun x6 =>
 .ld (x6.add 7) (.int .i64) fun x9 =>
 bif ((x9 : Int) == 1) then (
 lkN p0 fun x51 =>
 .ld (x51.add 2) (.int .i64) fun x55 =>
 lkN p0 fun x57 =>
 .ld (x57.add 6) (.int .i64) fun x60 =>
 .call bQ [(.pointer p1), (.int .i64 (w64 ((w64 (x55 + (gO x60 131071))) - 1)))] (.one (.leaf (.int .i64))) fun x64 =>
 lkN p0 fun x65 =>
 .st (x65.add 8) (.int .i64 x64) <|
 lkN p0 fun x68 =>
 .st (x68.add 7) (.int .i64 2) <|
 .ret (.bool false))
 else (
 bif ((x9 : Int) == 2) then (
 lkN p0 fun x72 =>
 .st (x72.add 7) (.int .i64 0) <|
 lkN p0 fun x77 =>
 .ld (x77.add 5) (.int .i64) fun x80 =>
 lkN p0 fun x82 =>
 .ld (x82.add 6) (.int .i64) fun x85 =>
 lkN p0 fun x87 =>
 .ld (x87.add 6) (.int .i64) fun x90 =>
 lkN p0 fun x92 =>
 .ld (x92.add 8) (.int .i64) fun x94 =>
 .cU pR [(.int .i64 x90), (.int .i64 x94)] (.one (.leaf (.int .i64))) fun x95 =>
 .call cE [(.pointer p1), (.int .i64 x80), (.int .i64 x85), (.int .i64 x95)] (.one (.leaf .bool)) fun x96 =>
 bif x96 then (
 lkN p0 fun x101 =>
 .ld (x101.add 6) (.int .i64) fun x104 =>
 lkN p0 fun x108 =>
 .st (x108.add 7) (.int .i64 3) <|
 lkN p0 fun x111 =>
 .st (x111.add 9) (.int .i64 (w64 ((w64 ((gO x104 131071) - 1)) * 8))) <|
 lkN p0 fun x113 =>
 .st (x113.add 10) (.bool true) <|
 lkN p0 fun x116 =>
 .ld (x116.add 7) (.int .i64) fun x119 =>
 .ret (.bool ((x119 : Int) == 3)))
 else (
 lkN p0 fun x116 =>
 .ld (x116.add 7) (.int .i64) fun x119 =>
 .ret (.bool ((x119 : Int) == 3))))
 else (
 bif ((x9 : Int) == 3) then (
 .ret (.bool true))
 else (
 lkN p0 fun x19 =>
 .ld (x19.add 5) (.int .i64) fun x22 =>
 .call bQ [(.pointer p1), (.int .i64 x22)] (.one (.leaf (.int .i64))) fun x23 =>
 lkN p0 fun x24 =>
 .st (x24.add 6) (.int .i64 x23) <|
 lkN p0 fun x28 =>
 .st (x28.add 7) (.int .i64 1) <|
 lkN p0 fun x32 =>
 .ld (x32.add 6) (.int .i64) fun x35 =>
 bif (((gO x35 131071) : Int) == 0) then (
 lkN p0 fun x39 =>
 .st (x39.add 7) (.int .i64 3) <|
 lkN p0 fun x43 =>
 .ld (x43.add 7) (.int .i64) fun x46 =>
 .ret (.bool ((x46 : Int) == 3)))
 else (
 lkN p0 fun x43 =>
 .ld (x43.add 7) (.int .i64) fun x46 =>
 .ret (.bool ((x46 : Int) == 3))))))
theorem qN {p0 : Option Addr} {p1 : Option Addr} : SpT kn #[(.pointer p0), (.pointer p1)] (oN p0 p1) := spT cJ Tryz.func159 (by kernel_rfl)
noncomputable def tG (p0 : Option Addr) : Tree :=
 lkN p0 fun x5 =>
 .ld (x5.add 1) .ptr fun x7 =>
 lkN x7 fun x8 =>
 .ld (x8.add 9) (.int .i64) fun x10 =>
 lkN p0 fun x12 =>
 .ld (x12.add 1) .ptr fun x14 =>
 lkN x14 fun x15 =>
 .ld (x15.add 10) .bool fun x17 =>
 .ret (.tuple #[(.int .i64 x10), (.bool x17)])
theorem uu {p0 : Option Addr} : SpT iT #[(.pointer p0)] (tG p0) := spT cJ Tryz.func113 (by kernel_rfl)
structure Pl where
  work : Int
  heads : Int
  links : Int
  gens : Int
  carved : Int
def Pl.cells (p : Pl) : Array Value := #[.int .i64 p.work, .int .i64 p.heads, .int .i64 p.links, .int .i64 p.gens, .int .i64 p.carved]
def Pl.val (p : Pl) : Value := .agg p.cells
structure Pu where
  pl : Pl
  head : Int
  was : Int
  at' : Int
  base : Int
def Pu.cells (x : Pu) : Array Value := #[.int .i64 x.pl.work, .int .i64 x.pl.heads, .int .i64 x.pl.links, .int .i64 x.pl.gens, .int .i64 x.pl.carved, .int .i64 x.head, .int .i64 x.was, .int .i64 x.at', .int .i64 x.base]
def Pu.obj (x : Pu) : Obj := .cells x.cells vb (0, 0)
structure Po where
  pl : Pl
  head : Int
  was : Int
  at' : Int
  link : Int
  base : Int
  ok : Bool
def Po.cells (x : Po) : Array Value := #[.int .i64 x.pl.work, .int .i64 x.pl.heads, .int .i64 x.pl.links, .int .i64 x.pl.gens, .int .i64 x.pl.carved, .int .i64 x.head, .int .i64 x.was, .int .i64 x.at', .int .i64 x.link, .int .i64 x.base, .bool x.ok]
def Po.obj (x : Po) : Obj := .cells x.cells uJ (0, 0)
def ga (h f : Int) : Int := ior (w64 ((w64 ((Int.fdiv h (2 ^ 17)) + 1)) * 2 ^ 17)) f
theorem C9 (h f : Int) (H : Heap) : Det Tryz.prog pR [.int .i64 h, .int .i64 f] H (.int .i64 (ga h f)) H := by
  refine xV fun L => ?_
  unfold yV
  exact ad ⟨rfl, rfl⟩
def Pu.dP (x : Pu) (A : Ar) : Bool := if x.at' = 2 then A.cC x.head x.was else decide (x.at' = 3)
def Pu.cX (x : Pu) (A : Ar) : Ar :=
  if x.at' = 1 then A.aL (w64 (x.pl.links + w64 (Int.tdiv x.base 8))) (gO x.was 131071)
  else if x.at' = 2 then A.dE x.head x.was (ga x.was (w64 (w64 (Int.tdiv x.base 8) + 1)))
  else if x.at' = 3 then A else A.aV x.head
def Pu.cF (x : Pu) (A : Ar) : Pu :=
  if x.at' = 1 then { x with at' := 2 }
  else if x.at' = 2 then { x with at' := if A.cC x.head x.was then 3 else 0 }
  else if x.at' = 3 then x else { x with was := A.ao x.head, at' := 1 }
theorem Fm {A : Ar} (hA : A.wf) (x : Pu) {q : Nat} (hq : q ∉ A.ids) (G : Heap) :
    Det Tryz.prog kj [.pointer (some ⟨q, 0, none⟩), pA A] (A.put (G.set q x.obj)) (.bool (x.dP A)) ((x.cX A).put (G.set q (x.cF A).obj)) := by
  refine rS fun L => ?_
  unfold nX Pu.dP Pu.cX Pu.cF
  refine aa.2 (fV (x := x.at') (n := 7) hq ?_)
  by_cases h1 : x.at' = 1
  · rw [if_neg (by omega), if_pos h1, if_pos h1, decide_eq_false (by omega)]
    refine av (j7 h1) (aa.2 ?_)
    refine fV (x := x.pl.links) (n := 2) hq (aa.2 ?_)
    refine fV (x := x.base) (n := 8) hq (aa.2 ?_)
    refine fV (x := x.was) (n := 6) hq ?_
    refine ax (x := ()) (Ay hA _ _ _) (aa.2 ?_)
    have hq' : q ∉ (A.aL (w64 (x.pl.links + w64 (Int.tdiv x.base 8))) (gO x.was 131071)).ids := by rw [(eV A _ _).ids]; exact hq
    refine lp (u := .int .i64 x.at') (n := 7) hq' (({ x with at' := 2 } : Pu).cells) ?_
    exact ad ⟨rfl, rfl⟩
  · refine af (iR h1) ?_
    rw [if_neg h1, if_neg h1]
    by_cases h2 : x.at' = 2
    · rw [if_pos h2, if_pos h2, if_pos h2]
      refine av (j7 h2) (aa.2 ?_)
      refine lp (u := .int .i64 x.at') (n := 7) hq (({ x with at' := 0 } : Pu).cells) (aa.2 ?_)
      refine fV (x := x.head) (n := 5) hq (aa.2 ?_)
      refine fV (x := x.was) (n := 6) hq (aa.2 ?_)
      refine fV (x := x.was) (n := 6) hq (aa.2 ?_)
      refine fV (x := x.base) (n := 8) hq ?_
      refine bc (C9 _ _ _) ?_
      refine ax (uE hA _ _ _ _) ?_
      have hq' : q ∉ (A.dE x.head x.was (ga x.was (w64 (w64 (Int.tdiv x.base 8) + 1)))).ids := by rw [(uH A _ _ _).ids]; exact hq
      cases hb : A.cC x.head x.was with
      | true =>
        refine av rfl (aa.2 ?_)
        refine lp (u := .int .i64 0) (n := 7) hq' (({ x with at' := 3 } : Pu).cells) (aa.2 ?_)
        refine fV (x := (3 : Int)) (n := 7) hq' ?_
        exact ad ⟨rfl, rfl⟩
      | false =>
        refine af rfl (aa.2 ?_)
        refine fV (x := (0 : Int)) (n := 7) hq' ?_
        exact ad ⟨rfl, rfl⟩
    · refine af (iR h2) ?_
      rw [if_neg h2, if_neg h2, if_neg h2]
      by_cases h3 : x.at' = 3
      · rw [if_pos h3, if_pos h3, decide_eq_true h3]
        exact av (j7 h3) (ad ⟨rfl, rfl⟩)
      · refine af (iR h3) (aa.2 ?_)
        rw [if_neg h3, if_neg h3, decide_eq_false h3]
        refine fV (x := x.head) (n := 5) hq ?_
        refine ax (zx hA _ _) (aa.2 ?_)
        have hq' : q ∉ (A.aV x.head).ids := by rw [(nD A _).ids]; exact hq
        refine lp (u := .int .i64 x.was) (n := 6) hq' (({ x with was := A.ao x.head } : Pu).cells) (aa.2 ?_)
        refine lp (u := .int .i64 x.at') (n := 7) hq' (({ x with was := A.ao x.head, at' := 1 } : Pu).cells) ?_
        exact ad ⟨rfl, rfl⟩
def Po.dP (x : Po) (A : Ar) : Bool := if x.at' = 1 then false else if x.at' = 2 then A.cC x.head x.was else if x.at' = 3 then true else decide (gO (A.ao x.head) 131071 = 0)
def Po.cX (x : Po) (A : Ar) : Ar :=
  if x.at' = 1 then A.aV (w64 (w64 (x.pl.links + gO x.was 131071) - 1))
  else if x.at' = 2 then A.dE x.head x.was (ga x.was x.link)
  else if x.at' = 3 then A else A.aV x.head
def Po.cF (x : Po) (A : Ar) : Po :=
  if x.at' = 1 then { x with link := A.ao (w64 (w64 (x.pl.links + gO x.was 131071) - 1)), at' := 2 }
  else if x.at' = 2 then if A.cC x.head x.was then { x with at' := 3, base := w64 (w64 (gO x.was 131071 - 1) * 8), ok := true } else { x with at' := 0 }
  else if x.at' = 3 then x else { x with was := A.ao x.head, at' := if gO (A.ao x.head) 131071 = 0 then 3 else 1 }
theorem Fu {A : Ar} (hA : A.wf) (x : Po) {q : Nat} (hq : q ∉ A.ids) (G : Heap) :
    Det Tryz.prog kn [.pointer (some ⟨q, 0, none⟩), pA A] (A.put (G.set q x.obj)) (.bool (x.dP A)) ((x.cX A).put (G.set q (x.cF A).obj)) := by
  refine qN fun L => ?_
  unfold oN Po.dP Po.cX Po.cF
  refine aa.2 (fV (x := x.at') (n := 7) hq ?_)
  by_cases h1 : x.at' = 1
  · rw [if_pos h1, if_pos h1, if_pos h1]
    refine av (j7 h1) (aa.2 ?_)
    refine fV (x := x.pl.links) (n := 2) hq (aa.2 ?_)
    refine fV (x := x.was) (n := 6) hq ?_
    refine ax (zx hA _ _) (aa.2 ?_)
    have hq' : q ∉ (A.aV (w64 (w64 (x.pl.links + gO x.was 131071) - 1))).ids := by rw [(nD A _).ids]; exact hq
    refine lp (u := .int .i64 x.link) (n := 8) hq' (({ x with link := A.ao (w64 (w64 (x.pl.links + gO x.was 131071) - 1)) } : Po).cells) (aa.2 ?_)
    refine lp (u := .int .i64 x.at') (n := 7) hq' (({ x with link := A.ao (w64 (w64 (x.pl.links + gO x.was 131071) - 1)), at' := 2 } : Po).cells) ?_
    exact ad ⟨rfl, rfl⟩
  · refine af (iR h1) ?_
    rw [if_neg h1, if_neg h1, if_neg h1]
    by_cases h2 : x.at' = 2
    · rw [if_pos h2, if_pos h2, if_pos h2]
      refine av (j7 h2) (aa.2 ?_)
      refine lp (u := .int .i64 x.at') (n := 7) hq (({ x with at' := 0 } : Po).cells) (aa.2 ?_)
      refine fV (x := x.head) (n := 5) hq (aa.2 ?_)
      refine fV (x := x.was) (n := 6) hq (aa.2 ?_)
      refine fV (x := x.was) (n := 6) hq (aa.2 ?_)
      refine fV (x := x.link) (n := 8) hq ?_
      refine bc (C9 _ _ _) ?_
      refine ax (uE hA _ _ _ _) ?_
      have hq' : q ∉ (A.dE x.head x.was (ga x.was x.link)).ids := by rw [(uH A _ _ _).ids]; exact hq
      cases hb : A.cC x.head x.was with
      | true =>
        refine av rfl (aa.2 ?_)
        refine fV (x := x.was) (n := 6) hq' (aa.2 ?_)
        refine lp (u := .int .i64 0) (n := 7) hq' (({ x with at' := 3 } : Po).cells) (aa.2 ?_)
        refine lp (u := .int .i64 x.base) (n := 9) hq' (({ x with at' := 3, base := w64 (w64 (gO x.was 131071 - 1) * 8) } : Po).cells) (aa.2 ?_)
        refine lp (u := .bool x.ok) (n := 10) hq' (({ x with at' := 3, base := w64 (w64 (gO x.was 131071 - 1) * 8), ok := true } : Po).cells) (aa.2 ?_)
        refine fV (x := (3 : Int)) (n := 7) hq' ?_
        exact ad ⟨rfl, rfl⟩
      | false =>
        refine af rfl (aa.2 ?_)
        refine fV (x := (0 : Int)) (n := 7) hq' ?_
        exact ad ⟨rfl, rfl⟩
    · refine af (iR h2) ?_
      rw [if_neg h2, if_neg h2, if_neg h2]
      by_cases h3 : x.at' = 3
      · rw [if_pos h3, if_pos h3, if_pos h3]
        exact av (j7 h3) (ad ⟨rfl, rfl⟩)
      · refine af (iR h3) (aa.2 ?_)
        rw [if_neg h3, if_neg h3, if_neg h3]
        refine fV (x := x.head) (n := 5) hq ?_
        refine ax (zx hA _ _) (aa.2 ?_)
        have hq' : q ∉ (A.aV x.head).ids := by rw [(nD A _).ids]; exact hq
        refine lp (u := .int .i64 x.was) (n := 6) hq' (({ x with was := A.ao x.head } : Po).cells) (aa.2 ?_)
        refine lp (u := .int .i64 x.at') (n := 7) hq' (({ x with was := A.ao x.head, at' := 1 } : Po).cells) (aa.2 ?_)
        refine fV (x := A.ao x.head) (n := 6) hq' ?_
        by_cases h4 : gO (A.ao x.head) 131071 = 0
        · rw [decide_eq_true h4, if_pos h4]
          refine av (j7 h4) (aa.2 ?_)
          refine lp (u := .int .i64 1) (n := 7) hq' (({ x with was := A.ao x.head, at' := 3 } : Po).cells) (aa.2 ?_)
          refine fV (x := (3 : Int)) (n := 7) hq' ?_
          exact ad ⟨rfl, rfl⟩
        · rw [decide_eq_false h4, if_neg h4]
          refine af (iR h4) (aa.2 ?_)
          refine fV (x := (1 : Int)) (n := 7) hq' ?_
          exact ad ⟨rfl, rfl⟩
theorem Dt {L : aZ} {H : Heap} {R : Value → Heap → Prop} {b : Nat} {p : Pl} {k : HL iH.T [(.int .i64), (.int .i64), (.int .i64), (.int .i64), (.int .i64)] → Tree} (hb : H b = some (.cells p.cells bn (0, 0)))
    (h : wp Tryz.prog (k (p.work, p.heads, p.links, p.gens, p.carved, ())) L H R) : wp Tryz.prog (.ldA ⟨b, 0, none⟩ [(.int .i64), (.int .i64), (.int .i64), (.int .i64), (.int .i64)] k) L H R :=
  yt (c := p.cells) (n := 0) hb (by exact Nat.le_refl 5) rfl h
def kJ (p : Pl) (w c : Int) : Int := w64 (w64 (p.heads + w64 (4 * w)) + c)
theorem Dz (p : Pl) (w c : Int) (H : Heap) : Det Tryz.prog jh [p.val, .int .i64 w, .int .i64 c] H (.int .i64 (kJ p w c)) H := by
  refine sZ (p0_0 := p.work) (p0_1 := p.heads) (p0_2 := p.links) (p0_3 := p.gens) (p0_4 := p.carved) fun L => ?_
  unfold pE
  refine dI fun b hb => ?_
  refine bL (x := p.heads) (by show Heap.cell? _ ⟨b, 1, none⟩ = _; rw [Heap.fE]; rfl) ?_
  exact ⟨H, Heap.dM _ hb, rfl, rfl⟩
def l9 (q : Nat) : Obj := .cells #[.iface jC (.pointer (some ⟨q, 0, none⟩))] wW (0, 0)
def km (q : Nat) : Obj := .cells #[.iface jE (.pointer (some ⟨q, 0, none⟩)), .pointer (some ⟨q, 0, none⟩)] yQ (0, 0)
theorem Cd (p : Pl) (w c b : Int) (H : Heap) : cB Tryz.prog kG #[p.val, .int .i64 w, .int .i64 c, .int .i64 b] H fun v K => ∃ q0 q1 : Nat, H q0 = none ∧ H q1 = none ∧ q0 ≠ q1 ∧ v = .pointer (some ⟨q0, 0, none⟩) ∧
    K = (H.set q1 (Pu.obj ⟨p, kJ p w c, 0, 0, b⟩)).set q0 (l9 q1) := by
  refine vC (p0_0 := p.work) (p0_1 := p.heads) (p0_2 := p.links) (p0_3 := p.gens) (p0_4 := p.carved) fun L => ?_
  unfold uK
  refine dI fun e he => ?_
  refine Dt (p := p) (Heap.bx _ _ _) (Dt (p := p) (Heap.bx _ _ _) ?_)
  refine bc (Dz p w c _) ?_
  refine dI fun q1 h1 => ?_
  refine dI fun q0 h0 => ?_
  obtain ⟨n1, h1⟩ := cy h1
  obtain ⟨n2, h0⟩ := cy h0
  obtain ⟨n3, h0⟩ := cy h0
  refine ⟨(H.set q1 (Pu.obj ⟨p, kJ p w c, 0, 0, b⟩)).set q0 (l9 q1), ?_, q0, q1, h0, h1, n2, rfl, rfl⟩
  intro x o hx
  by_cases x0 : x = q0
  · rw [x0, Heap.bx] at hx ⊢; exact hx
  · rw [Heap.dJ _ _ x0] at hx ⊢
    by_cases x1 : x = q1
    · rw [x1, Heap.bx] at hx ⊢; exact hx
    · rw [Heap.dJ _ _ x1] at hx ⊢
      exact Heap.dM _ he _ _ hx
theorem C8 (p : Pl) (w c : Int) (H : Heap) : cB Tryz.prog j4 #[p.val, .int .i64 w, .int .i64 c] H fun v K => ∃ q0 q1 : Nat, H q0 = none ∧ H q1 = none ∧ q0 ≠ q1 ∧ v = .pointer (some ⟨q0, 0, none⟩) ∧
    K = (H.set q1 (Po.obj ⟨p, kJ p w c, 0, 0, 0, 0, false⟩)).set q0 (km q1) := by
  refine v8 (p0_0 := p.work) (p0_1 := p.heads) (p0_2 := p.links) (p0_3 := p.gens) (p0_4 := p.carved) fun L => ?_
  unfold vR
  refine dI fun e he => ?_
  refine Dt (p := p) (Heap.bx _ _ _) (Dt (p := p) (Heap.bx _ _ _) ?_)
  refine bc (Dz p w c _) ?_
  refine dI fun q1 h1 => ?_
  refine dI fun q0 h0 => ?_
  obtain ⟨n1, h1⟩ := cy h1
  obtain ⟨n2, h0⟩ := cy h0
  obtain ⟨n3, h0⟩ := cy h0
  refine ⟨(H.set q1 (Po.obj ⟨p, kJ p w c, 0, 0, 0, 0, false⟩)).set q0 (km q1), ?_, q0, q1, h0, h1, n2, rfl, rfl⟩
  intro x o hx
  by_cases x0 : x = q0
  · rw [x0, Heap.bx] at hx ⊢; exact hx
  · rw [Heap.dJ _ _ x0] at hx ⊢
    by_cases x1 : x = q1
    · rw [x1, Heap.bx] at hx ⊢; exact hx
    · rw [Heap.dJ _ _ x1] at hx ⊢
      exact Heap.dM _ he _ _ hx
theorem Fx (q : Nat) (p : Option Addr) : opS Tryz.prog (.call { callee := .invoke (.tmp 0) "Step", args := #[(.tmp 1)], argTypes := #[aK] }) aO [(.iface jC (.pointer (some ⟨q, 0, none⟩))), (.pointer p)] =
    .pure (.enter kj [.pointer (some ⟨q, 0, none⟩), .pointer p].toArray) := by kernel_rfl
theorem Ei (q : Nat) (p : Option Addr) : opS Tryz.prog (.call { callee := .invoke (.tmp 0) "Step", args := #[(.tmp 1)], argTypes := #[aK] }) aO [(.iface jE (.pointer (some ⟨q, 0, none⟩))), (.pointer p)] =
    .pure (.enter kn [.pointer (some ⟨q, 0, none⟩), .pointer p].toArray) := by kernel_rfl
theorem I2 {A : Ar} (hA : A.wf) (x : Pu) {q0 q1 : Nat} {G : Heap} (h0 : q0 ∉ A.ids) (h1 : q1 ∉ A.ids) (hg : G q0 = some (l9 q1)) (hx : G q1 = some x.obj) :
    Det Tryz.prog iy [.pointer (some ⟨q0, 0, none⟩), pA A] (A.put G) (.bool (x.dP A)) ((x.cX A).put (G.set q1 (x.cF A).obj)) := by
  refine tW fun L => ?_
  unfold ra
  refine aa.2 (bL (x := Value.iface jC (.pointer (some ⟨q1, 0, none⟩))) ((Heap.cell_of (by rw [Ar.jI h0]; exact hg) _).trans rfl) ?_)
  refine bZ (Fx q1 _) ?_
  refine ax (x := x.dP A) ?_ (ad ⟨rfl, rfl⟩)
  have := Fm hA x h1 G
  rw [Heap.qP hx] at this
  exact this
theorem KE {A : Ar} (hA : A.wf) (x : Po) {q0 q1 : Nat} {G : Heap} (h0 : q0 ∉ A.ids) (h1 : q1 ∉ A.ids) (hg : G q0 = some (km q1)) (hx : G q1 = some x.obj) :
    Det Tryz.prog iU [.pointer (some ⟨q0, 0, none⟩), pA A] (A.put G) (.bool (x.dP A)) ((x.cX A).put (G.set q1 (x.cF A).obj)) := by
  refine tZ fun L => ?_
  unfold tH
  refine aa.2 (bL (x := Value.iface jE (.pointer (some ⟨q1, 0, none⟩))) ((Heap.cell_of (by rw [Ar.jI h0]; exact hg) _).trans rfl) ?_)
  refine bZ (Ei q1 _) ?_
  refine ax (x := x.dP A) ?_ (ad ⟨rfl, rfl⟩)
  have := Fu hA x h1 G
  rw [Heap.qP hx] at this
  exact this
theorem Ib {A : Ar} (x : Po) {q0 q1 : Nat} {G : Heap} (h0 : q0 ∉ A.ids) (h1 : q1 ∉ A.ids) (hg : G q0 = some (km q1)) (hx : G q1 = some x.obj) :
    Det Tryz.prog iT [.pointer (some ⟨q0, 0, none⟩)] (A.put G) (.tuple #[.int .i64 x.base, .bool x.ok]) (A.put G) := by
  have e0 : A.put G q0 = some (km q1) := by rw [Ar.jI h0]; exact hg
  have e1 : A.put G q1 = some x.obj := by rw [Ar.jI h1]; exact hx
  refine uu fun L => ?_
  unfold tG
  refine aa.2 (bL (x := some ⟨q1, 0, none⟩) ((Heap.cell_of e0 1).trans rfl) (aa.2 ?_))
  refine bL (x := x.base) ((Heap.cell_of e1 9).trans rfl) (aa.2 ?_)
  refine bL (x := some ⟨q1, 0, none⟩) ((Heap.cell_of e0 1).trans rfl) (aa.2 ?_)
  exact bL (x := x.ok) ((Heap.cell_of e1 10).trans rfl) (ad ⟨rfl, rfl⟩)
theorem c8 {A B : Ar} (h : B.slots = A.slots) (k : Int) : B.stF k = A.stF k := by unfold Ar.stF; rw [h]
theorem EV (A : Ar) (b n : Nat) : (A.ey b n).busy = setN A.busy b true n := by
  induction n with
  | zero => rfl
  | succ n ih =>
    have h1 : ∀ (B : Ar) m, (B.kV m).busy = B.busy := fun B m => by unfold Ar.kV; split <;> rfl
    have h2 : ∀ (B : Ar) m, (B.lY m).busy = B.busy.set m true := fun B m => by unfold Ar.lY; simp only; split <;> rfl
    show ((((A.ey b n).kV (b + n)).lY (b + n))).busy = (setN A.busy b true n).set (b + n) true
    rw [h2, h1, ih]
theorem w7 (A : Ar) (b n : Nat) : (A.ey b n).carved = setN A.carved b true n := by
  induction n with
  | zero => rfl
  | succ n ih =>
    have h1 : ∀ (B : Ar) m, (B.kV m).carved = B.carved := fun B m => by unfold Ar.kV; split <;> rfl
    have h2 : ∀ (B : Ar) m, (B.lY m).carved = B.carved.set m true := fun B m => by unfold Ar.lY; simp only; split <;> rfl
    show ((((A.ey b n).kV (b + n)).lY (b + n))).carved = (setN A.carved b true n).set (b + n) true
    rw [h2, h1, ih]
theorem Dm (A : Ar) (b n : Nat) : (A.ey b n).words = if A.fresh then setN A.words b 0 n else A.words := by
  induction n with
  | zero => cases A.fresh <;> rfl
  | succ n ih =>
    have h1 : ∀ (B : Ar) m, (B.kV m).words = B.words := fun B m => by unfold Ar.kV; split <;> rfl
    have h2 : ∀ (B : Ar) m, (B.lY m).words = if B.fresh then B.words.set m 0 else B.words := fun B m => by unfold Ar.lY; simp only; split <;> rfl
    have h3 : ∀ (B : Ar) m, (B.kV m).fresh = B.fresh := fun B m => by unfold Ar.kV; split <;> rfl
    show ((((A.ey b n).kV (b + n)).lY (b + n))).words = _
    rw [h2, h1, h3, (gD A b n).fr, ih]
    cases A.fresh <;> rfl
def newsN (l : List Bool) (b : Nat) : Nat → Nat
  | 0 => 0
  | n + 1 => newsN l b n + (if l.getD (b + n) false then 0 else 1)
theorem FG (x y : Int) : w64 (w64 x + y) = w64 (x + y) := by unfold w64; simp only [IntKind.wrap_i64]; omega
theorem Es (A : Ar) (b n : Nat) : (A.ey b n).nL = A.nL ∧ (A.ey b n).nR = A.nR := by
  induction n with
  | zero => exact ⟨rfl, rfl⟩
  | succ n ih =>
    have h1 : ∀ (B : Ar) m, (B.kV m).nL = B.nL ∧ (B.kV m).nR = B.nR := fun B m => by unfold Ar.kV; split <;> exact ⟨rfl, rfl⟩
    have h2 : ∀ (B : Ar) m, (B.lY m).nL = B.nL ∧ (B.lY m).nR = B.nR := fun B m => by unfold Ar.lY; simp only; split <;> exact ⟨rfl, rfl⟩
    show ((((A.ey b n).kV (b + n)).lY (b + n))).nL = _ ∧ ((((A.ey b n).kV (b + n)).lY (b + n))).nR = _
    rw [(h2 _ _).1, (h1 _ _).1, (h2 _ _).2, (h1 _ _).2]; exact ih
theorem BN (A : Ar) (hC : w64 A.nC = A.nC) (hF : w64 A.nF = A.nF) (b n : Nat) : (A.ey b n).nC = w64 (A.nC + newsN A.carved b n) ∧ (A.ey b n).nF = w64 (A.nF + newsN A.carved b n) := by
  induction n with
  | zero => exact ⟨by show A.nC = w64 (A.nC + ((0 : Nat) : Int)); rw [Int.natCast_zero, Int.add_zero, hC], by show A.nF = w64 (A.nF + ((0 : Nat) : Int)); rw [Int.natCast_zero, Int.add_zero, hF]⟩
  | succ n ih =>
    have h2 : ∀ (B : Ar) m, (B.lY m).nC = B.nC ∧ (B.lY m).nF = B.nF := fun B m => by unfold Ar.lY; simp only; split <;> exact ⟨rfl, rfl⟩
    show ((((A.ey b n).kV (b + n)).lY (b + n))).nC = _ ∧ ((((A.ey b n).kV (b + n)).lY (b + n))).nF = _
    rw [(h2 _ _).1, (h2 _ _).2]
    have hg : (A.ey b n).carved.getD (b + n) false = A.carved.getD (b + n) false := by
      rw [w7, List.getD_eq_getElem?_getD, List.getD_eq_getElem?_getD, z6, if_neg (by omega)]
    unfold Ar.kV newsN
    rw [hg]
    cases A.carved.getD (b + n) false with
    | true => simpa using ih
    | false =>
      simp only [if_false, Bool.false_eq_true]
      refine ⟨?_, ?_⟩
      · show w64 ((A.ey b n).nC + 1) = _
        rw [ih.1, FG]; congr 1; omega
      · show w64 ((A.ey b n).nF + 1) = _
        rw [ih.2, FG]; congr 1; omega
theorem DL (A : Ar) (h : Int) : (A.dr h).slots = alPut A.slots (opB h) (h, 1) := by
  have e := (gD A (opB h).toNat (au (opC h)).toNat).sl
  unfold Ar.dr
  generalize A.ey (opB h).toNat (au (opC h)).toNat = B at *
  rw [← e]; rfl
theorem DS (A : Ar) (h : Int) : (A.dr h).gens = alPut A.gens (opB h) (opG h) := by
  have e := (gD A (opB h).toNat (au (opC h)).toNat).gs
  unfold Ar.dr
  generalize A.ey (opB h).toNat (au (opC h)).toNat = B at *
  rw [← e]; rfl
theorem DP (A : Ar) (h : Int) : (A.dr h).busy = setN A.busy (opB h).toNat true (au (opC h)).toNat := by
  have e := EV A (opB h).toNat (au (opC h)).toNat
  unfold Ar.dr
  generalize A.ey (opB h).toNat (au (opC h)).toNat = B at *
  exact e
theorem sy (A : Ar) (h : Int) : (A.dr h).carved = setN A.carved (opB h).toNat true (au (opC h)).toNat := by
  have e := w7 A (opB h).toNat (au (opC h)).toNat
  unfold Ar.dr
  generalize A.ey (opB h).toNat (au (opC h)).toNat = B at *
  exact e
theorem DN (A : Ar) (h : Int) : (A.dr h).words = if A.fresh then setN A.words (opB h).toNat 0 (au (opC h)).toNat else A.words := by
  have e := Dm A (opB h).toNat (au (opC h)).toNat
  unfold Ar.dr
  generalize A.ey (opB h).toNat (au (opC h)).toNat = B at *
  exact e
theorem nK (A : Ar) (h : Int) : (A.dr h).raw = A.raw := by
  have e := (gD A (opB h).toNat (au (opC h)).toNat).rw
  unfold Ar.dr
  generalize A.ey (opB h).toNat (au (opC h)).toNat = B at *
  exact e
theorem zd (A : Ar) (h : Int) : (A.dr h).fresh = A.fresh := by
  have e := (gD A (opB h).toNat (au (opC h)).toNat).fr
  unfold Ar.dr
  generalize A.ey (opB h).toNat (au (opC h)).toNat = B at *
  exact e
theorem DC (A : Ar) (h : Int) : (A.dr h).fault = A.fault := by
  have e := (gD A (opB h).toNat (au (opC h)).toNat).fa
  unfold Ar.dr
  generalize A.ey (opB h).toNat (au (opC h)).toNat = B at *
  exact e
theorem wv (A : Ar) (h : Int) : (A.dr h).aD = A.aD := by
  have e := (gD A (opB h).toNat (au (opC h)).toNat).us
  unfold Ar.dr
  generalize A.ey (opB h).toNat (au (opC h)).toNat = B at *
  exact e
theorem IX (A : Ar) (h : Int) : (A.dr h).words.length = A.words.length := by
  have e := (gD A (opB h).toNat (au (opC h)).toNat).wl
  unfold Ar.dr
  generalize A.ey (opB h).toNat (au (opC h)).toNat = B at *
  exact e
theorem HQ (A : Ar) (h k : Int) : (A.dr h).stF k = if opB k = opB h then (if cS k = true ∧ h = k then 1 else 0) else A.stF k := by
  rw [← xP]; exact c8 (DL A h) k
theorem Bf (A : Ar) (h s t k : Int) : (A.gu h s t).stF k = if A.stF h = s ∧ opB k = opB h then (if cS k = true ∧ h = k then t else 0) else A.stF k := by
  unfold Ar.gu
  by_cases e : A.stF h = s
  · rw [if_pos e, xP]
    by_cases e2 : opB k = opB h
    · rw [if_pos e2, if_pos (⟨e, e2⟩ : A.stF h = s ∧ opB k = opB h)]
    · rw [if_neg e2, if_neg (fun h => e2 h.2)]
  · rw [if_neg e, if_neg (fun h => e h.1)]
theorem Dp (A : Ar) (h k : Int) : (A.aW h).stF k = if A.stF h = 1 ∧ opB k = opB h then (if cS k = true ∧ h = k then 2 else 0) else A.stF k := by
  rw [← Bf]; exact c8 rfl k
theorem HI (A : Ar) (h k : Int) : (A.db h).stF k = if A.stF h = 2 ∧ opB k = opB h then (if cS k = true ∧ h = k then 0 else 0) else A.stF k := by
  rw [← Bf]; exact c8 rfl k
theorem EL (A : Ar) (h off v k : Int) : (A.bW h off v).stF k = A.stF k := by unfold Ar.bW; split <;> exact c8 rfl k
theorem rF {A : Ar} {h off : Int} (hi : A.fZ h off) : A.gp h off = A.tick := by unfold Ar.gp; rw [if_pos hi]
theorem sE {A : Ar} {h off : Int} (hi : A.fZ h off) (v : Int) : A.bW h off v = A.tick.rv (pos h off) v := by unfold Ar.bW; rw [if_pos hi]
theorem KB {A B : Ar} (e : ∀ k, B.stF k = A.stF k) {h off : Int} : B.fZ h off ↔ A.fZ h off := by unfold Ar.fZ; rw [e]
theorem xm {A : Ar} (hA : A.wf) {h off v k j : Int} (hi : A.fZ h off) (hk : A.fZ k j) : (A.bW h off v).bA k j = if pos k j = pos h off then v else A.bA k j := by
  have hl := EP hA hi
  have hk' : (A.bW h off v).fZ k j := (KB (EL A h off v)).2 hk
  unfold Ar.bA
  rw [if_pos hk', if_pos hk, sE hi]
  show (A.words.set (pos h off) v).getD (pos k j) 0 = _
  rw [List.getD_eq_getElem?_getD, List.getD_eq_getElem?_getD, List.getElem?_set]
  by_cases e : pos k j = pos h off
  · rw [if_pos e, if_pos e.symm, if_pos hl]; rfl
  · rw [if_neg e, if_neg (fun h => e h.symm)]
theorem z7 {b g c : Int} (h : jq b g c) : opB (cH b g c) = b ∧ opG (cH b g c) = g ∧ opC (cH b g c) = c ∧ cS (cH b g c) = true := by
  have hp : cH b g c = lT b g c := by unfold cH; rw [if_pos h]
  obtain ⟨h1, h2, h3, h4⟩ := Hm h
  unfold opB opG opC
  rw [hp, h4]
  exact ⟨h1, h2, h3, rfl⟩
def Ar.pushed (A : Ar) (hd lk base : Int) : Ar :=
  { A with raw := (A.raw.set lk.toNat (gO (A.ao hd) 131071)).set hd.toNat (ga (A.ao hd) (w64 (w64 (Int.tdiv base 8) + 1))), aD := A.aD + 3 }
def Ar.popped (A : Ar) (hd lk : Int) : Ar := { A with raw := A.raw.set hd.toNat (ga (A.ao hd) (A.ao lk)), aD := A.aD + 3 }
theorem xT (x : Int) : gO x 131071 = x % 131072 := vl x 17 (by omega)
theorem wJ {h f : Int} (h0 : 0 ≤ h) (h1 : h < 4611686018427387904) (f0 : 0 ≤ f) (f1 : f < 131072) : ga h f = (h / 131072 + 1) * 131072 + f := by
  unfold ga
  have e1 : Int.fdiv h (2 ^ 17) = h / 131072 := by rw [Int.fdiv_eq_ediv_of_nonneg _ (by decide)]; rfl
  rw [e1, aE (x := h / 131072 + 1) (by omega) (by omega)]
  have e2 : (h / 131072 + 1) * 2 ^ 17 = (h / 131072 + 1) * 131072 := rfl
  rw [e2, aE (by omega) (by omega)]
  obtain ⟨k, hk⟩ := Int.eq_ofNat_of_zero_le (show 0 ≤ h / 131072 + 1 by omega)
  obtain ⟨g, rfl⟩ := Int.eq_ofNat_of_zero_le f0
  rw [hk]
  have e3 : ((k : Int) * 131072) = ((2 ^ 17 * k : Nat) : Int) := by omega
  rw [e3, zB (by omega) (by omega), ← Nat.two_pow_add_eq_or_of_lt (by omega)]
  omega
def chain (A : Ar) (lk : Int) : Int → List Int → Prop
  | f, [] => f = 0
  | f, b :: l => 0 < f ∧ f ≤ 1000000 ∧ b = (f - 1) * 8 ∧ A.bp (lk + f - 1) ∧ chain A lk (A.ao (lk + f - 1)) l
theorem dN {A B : Ar} (h : B.raw = A.raw) (i : Int) : B.ao i = A.ao i := by
  unfold Ar.ao
  by_cases hi : A.bp i
  · have hb : B.bp i := by unfold Ar.bp at *; rw [h]; exact hi
    rw [if_pos hi, if_pos hb, h]
  · have hb : ¬ B.bp i := by unfold Ar.bp at *; rw [h]; exact hi
    rw [if_neg hi, if_neg hb]
def Ar.ay (A : Ar) (n : Int) : Ar := { A with aD := A.aD + n }
theorem eK {A : Ar} (hA : A.wf) (n : Int) : (A.ay n).wf := ⟨hA.nd, hA.fit, hA.busy, hA.carved, hA.words, hA.raw, hA.wC, hA.wL, hA.wR, hA.wF⟩
theorem pI (A : Ar) (n : Int) : Ar.Alike A (A.ay n) := ⟨rfl, rfl, rfl, rfl, rfl, rfl, rfl⟩
def gX (w m : Int) : Pl := ⟨w, 0, 4 * w, 4 * w + (m + 7) / 8, 4 * w + 2 * ((m + 7) / 8)⟩
theorem zF (l : List Value) (h : l.all Value.single = true) : ∀ v ∈ l, Value.single v = true := fun v hv => List.all_eq_true.1 h v hv
theorem IB (w m w' m' : Int) (hw : imax w 0 = w') (hm : imax m 0 = m') (b1 : 0 ≤ w' ∧ w' ≤ 100000) (b2 : 0 ≤ m' ∧ m' ≤ 100000) (H : Heap) :
    Det Tryz.prog sK [.int .i64 w, .int .i64 m] H (.tuple #[(gX w' m').val, .int .i64 (4 * w' + 2 * ((m' + 7) / 8) + 1)]) H := by
  refine zj fun L => ?_
  unfold zY
  rw [hw, hm]
  refine dI fun b4 h4 => dI fun b7 h7 => ?_
  obtain ⟨n7, h7⟩ := cy h7
  have en : w64 (w64 (Int.tdiv m' 8) + mH (Int.tmod m' 8) 1) = (m' + 7) / 8 := by
    rw [Int.tdiv_eq_ediv_of_nonneg b2.1, Int.tmod_eq_emod_of_nonneg b2.1, aE (x := m' / 8) (by omega) (by omega)]
    unfold mH
    split <;> rw [aE (by omega) (by omega)] <;> omega
  rw [en]
  have e4 : w64 (4 * w') = 4 * w' := aE (by omega) (by omega)
  rw [e4]
  refine gS (Heap.bx _ _ _) (by exact Nat.le_refl 5) (zF _ rfl) ?_
  rw [Heap.set_set]
  have c1 : putAll #[.int .i64 0, .int .i64 0, .int .i64 0, .int .i64 0, .int .i64 0] 0 [.int .i64 w', .int .i64 0, .int .i64 (4 * w'), .int .i64 0, .int .i64 0] = #[.int .i64 w', .int .i64 0, .int .i64 (4 * w'), .int .i64 0, .int .i64 0] := rfl
  rw [c1]
  refine bL (x := 4 * w') ((Heap.fE 2).trans rfl) ?_
  rw [aE (x := 4 * w' + (m' + 7) / 8) (by omega) (by omega)]
  refine gd (n := 3) (u := .int .i64 0) (Heap.bx _ _ _) rfl rfl ?_
  rw [Heap.set_set]
  refine bL (x := 4 * w' + (m' + 7) / 8) ((Heap.fE 3).trans rfl) ?_
  rw [aE (x := 4 * w' + (m' + 7) / 8 + (m' + 7) / 8) (by omega) (by omega)]
  refine gd (n := 4) (u := .int .i64 0) (Heap.bx _ _ _) rfl rfl ?_
  rw [Heap.set_set]
  have e5 : 4 * w' + (m' + 7) / 8 + (m' + 7) / 8 = 4 * w' + 2 * ((m' + 7) / 8) := by omega
  rw [e5]
  have hc : H.set b4 (.cells #[.int .i64 0, .int .i64 0, .int .i64 0, .int .i64 0, .int .i64 0] bn (0, 0)) b7 = none := by rw [Heap.dJ _ _ n7]; exact h7
  refine Dt (p := gX w' m') (Heap.bx _ _ _) ?_
  refine bL (x := 4 * w' + 2 * ((m' + 7) / 8)) ((Heap.fE 4).trans rfl) ?_
  rw [Heap.set_comm _ _ _ (Ne.symm n7)]
  refine gS (Heap.bx _ _ _) (by exact Nat.le_refl 5) (zF _ rfl) ?_
  rw [Heap.set_set, Heap.set_comm _ _ _ n7]
  refine ⟨⟨_, (Heap.fE 4).trans rfl, rfl⟩, ?_⟩
  rw [Heap.set_comm _ _ _ (Ne.symm n7)]
  refine ⟨((w', 0, 4 * w', 4 * w' + (m' + 7) / 8, 4 * w' + 2 * ((m' + 7) / 8), ()), 4 * w' + 2 * ((m' + 7) / 8) + 1, ()), ?_, ?_⟩
  · refine iX (Heap.bx _ _ _) 5 0 #[] (by exact Nat.le_refl 5) ?_
    have hx : (#[] ++ (gX w' m').cells.extract 0 5) = (gX w' m').cells := by unfold Pl.cells; simp
    show Value.tuple #[.agg (#[] ++ (gX w' m').cells.extract 0 5), .int .i64 (w64 (4 * w' + 2 * ((m' + 7) / 8) + 1))] = _
    rw [hx, aE (by omega) (by omega)]; rfl
  · refine ⟨H, ?_, rfl, rfl⟩
    exact Heap.le_trans (Heap.dM _ h7) (Heap.dM _ (by rw [Heap.dJ _ _ (Ne.symm n7)]; exact h4))
theorem By {A : Ar} (hA : A.wf) (hd lk : Int) : (A.popped hd lk).wf :=
  ⟨hA.nd, hA.fit, hA.busy, hA.carved, hA.words, by unfold Ar.popped; simp only [List.length_set]; exact hA.raw, hA.wC, hA.wL, hA.wR, hA.wF⟩
theorem Ce (A : Ar) (hd lk : Int) : Ar.Alike A (A.popped hd lk) := ⟨rfl, rfl, rfl, rfl, rfl, rfl, rfl⟩
theorem vx {A : Ar} {hd lk b i : Int} : (A.pushed hd lk b).bp i ↔ A.bp i := by unfold Ar.bp Ar.pushed; simp only [List.length_set]
theorem rj {A : Ar} {hd lk i : Int} : (A.popped hd lk).bp i ↔ A.bp i := by unfold Ar.bp Ar.popped; simp only [List.length_set]
theorem pr {A : Ar} {hd lk b i : Int} (h1 : A.bp hd) (h2 : A.bp lk) (hi : A.bp i) :
    (A.pushed hd lk b).ao i = if i = hd then ga (A.ao hd) (w64 (w64 (Int.tdiv b 8) + 1)) else if i = lk then gO (A.ao hd) 131071 else A.ao i := by
  have e : (A.pushed hd lk b).ao i = (A.pushed hd lk b).raw.getD i.toNat 0 := by unfold Ar.ao; rw [if_pos (vx.2 hi)]
  have e2 : A.ao i = A.raw.getD i.toNat 0 := by unfold Ar.ao; rw [if_pos hi]
  rw [e, e2]
  unfold Ar.bp at h1 h2 hi
  show ((A.raw.set lk.toNat (gO (A.ao hd) 131071)).set hd.toNat (ga (A.ao hd) (w64 (w64 (Int.tdiv b 8) + 1)))).getD i.toNat 0 = _
  rw [List.getD_eq_getElem?_getD, List.getD_eq_getElem?_getD, List.getElem?_set, List.getElem?_set]
  simp only [List.length_set]
  by_cases c1 : i = hd
  · rw [if_pos c1, if_pos (by rw [c1]), if_pos (by omega)]; rfl
  · rw [if_neg c1, if_neg (by omega)]
    by_cases c2 : i = lk
    · rw [if_pos c2, if_pos (by rw [c2]), if_pos (by omega)]; rfl
    · rw [if_neg c2, if_neg (by omega)]
theorem mz {A : Ar} {hd lk i : Int} (h1 : A.bp hd) (hi : A.bp i) : (A.popped hd lk).ao i = if i = hd then ga (A.ao hd) (A.ao lk) else A.ao i := by
  have e : (A.popped hd lk).ao i = (A.popped hd lk).raw.getD i.toNat 0 := by unfold Ar.ao; rw [if_pos (rj.2 hi)]
  have e2 : A.ao i = A.raw.getD i.toNat 0 := by unfold Ar.ao; rw [if_pos hi]
  rw [e, e2]
  unfold Ar.bp at h1 hi
  show (A.raw.set hd.toNat (ga (A.ao hd) (A.ao lk))).getD i.toNat 0 = _
  rw [List.getD_eq_getElem?_getD, List.getD_eq_getElem?_getD, List.getElem?_set]
  by_cases c1 : i = hd
  · rw [if_pos c1, if_pos (by rw [c1]), if_pos (by omega)]; rfl
  · rw [if_neg c1, if_neg (by omega)]
def Gu (H : Heap) (a : Option Addr) (len : Nat) (zs : List Int) : Prop := ∀ i, i < len → ∃ x, a = some x ∧ H.cell? (x.add i) = some (.int .i64 (zs.getD i 0))
theorem Kt {H K : Heap} (h : H.le K) {a : Addr} {v : Value} (hc : H.cell? a = some v) : K.cell? a = some v := by
  unfold Heap.cell? at *
  cases hx : H a.block with
  | none => rw [hx] at hc; cases hc
  | some o => rw [hx] at hc; rw [h _ _ hx]; exact hc
theorem MD {L : aZ} {H K : Heap} {R : Value → Heap → Prop} {s : Sl} {zs : List Int} (hz : Gu H s.a s.len zs) (hK : H.le K) {i : Int} (h0 : 0 ≤ i) (h1 : i < ((s.len : Nat) : Int)) {k : Int → Tree} (h : wp Tryz.prog (k (zs.getD i.toNat 0)) L K R) :
    wp Tryz.prog (.look (opS Tryz.prog (.indexAddr bK (.tmp 0) (.tmp 1)) aF [(.slice s.a s.len s.cap), (.int .i64 i)]) (.one (.leaf .addr)) fun x => .ld x (.int .i64) k) L K R := by
  obtain ⟨x, hx, hc⟩ := hz i.toNat (by omega)
  rw [hx]
  have hi := uv (P := Tryz.prog) (t := bK) (u := aF) (e := aP) (l := s.len) (c := s.cap) (i := i) (a := x) rfl rfl h0 h1
  refine aB (x := x.add i.toNat) ?_ (bL (x := zs.getD i.toNat 0) (Kt hK hc) h)
  refine hi.trans ?_
  show Sem.pure (Next.value (.pointer (some (x.add (i.toNat * 1))))) = _
  rw [Nat.mul_one]
theorem Cw {L : aZ} {H : Heap} {R : Value → Heap → Prop} {a : Addr} {v : Value} {t : Tree} (hc : H.cell? a = some v) (h : wp Tryz.prog t L H R) : wp Tryz.prog (.check (ldS a) v t) L H R := ⟨⟨_, hc, rfl⟩, h⟩
abbrev Bl := List (Nat × Obj)
def oc (T : TypeId) (c : List Value) : Obj := .cells c.toArray T (0, 0)
def dO : Bl → Heap → Heap
  | [], H => H
  | p :: l, H => (dO l H).set p.1 p.2
@[reducible] def keys (l : Bl) : List Nat := l.map Prod.fst
def own (A : Ar) (l : Bl) (G : Heap) : Heap := A.put (dO l G)
structure Ok (I : List Nat) (G : Heap) (ks : List Nat) : Prop where
  nd : ks.Nodup
  out : ∀ b ∈ ks, b ∉ I
  no : ∀ b ∈ ks, G b = none
structure Aw (I : List Nat) (A : Ar) : Prop where
  wf : A.wf
  ids : A.ids = I
theorem De (l k : Bl) (G : Heap) : dO (l ++ k) G = dO l (dO k G) := by
  induction l with
  | nil => rfl
  | cons p l ih => show (dO (l ++ k) G).set p.1 p.2 = (dO l (dO k G)).set p.1 p.2; rw [ih]
theorem qR {l : Bl} {b : Nat} (h : b ∉ keys l) (G : Heap) : dO l G b = G b := by
  induction l with
  | nil => rfl
  | cons p l ih =>
    simp only [keys, List.map_cons, List.mem_cons, not_or] at h
    show (dO l G).set p.1 p.2 b = _
    rw [Heap.dJ _ _ h.1]; exact ih h.2
theorem gE {l : Bl} (G : Heap) : ∀ {i : Nat} {b : Nat} {o : Obj}, (keys l).Nodup → l[i]? = some (b, o) → dO l G b = some o := by
  induction l with
  | nil => intro i b o _ h; simp at h
  | cons p l ih =>
    intro i b o hn h
    simp only [keys, List.map_cons, List.nodup_cons] at hn
    cases i with
    | zero =>
      simp only [List.getElem?_cons_zero, Option.some.injEq] at h
      subst h; exact Heap.bx _ _ _
    | succ i =>
      simp only [List.getElem?_cons_succ] at h
      have hm : b ∈ keys l := List.mem_map.2 ⟨(b, o), List.mem_of_getElem? h, rfl⟩
      show (dO l G).set p.1 p.2 b = _
      rw [Heap.dJ _ _ (fun e => hn.1 (by rw [← e]; exact hm))]
      exact ih hn.2 h
theorem wA {l : Bl} (G : Heap) : ∀ {i : Nat} {b : Nat} {o o' : Obj}, (keys l).Nodup → l[i]? = some (b, o) → (dO l G).set b o' = dO (l.set i (b, o')) G := by
  induction l with
  | nil => intro i b o o' _ h; simp at h
  | cons p l ih =>
    intro i b o o' hn h
    simp only [keys, List.map_cons, List.nodup_cons] at hn
    cases i with
    | zero =>
      simp only [List.getElem?_cons_zero, Option.some.injEq] at h
      subst h; exact Heap.set_set _ _ _ _
    | succ i =>
      simp only [List.getElem?_cons_succ] at h
      have hm : b ∈ keys l := List.mem_map.2 ⟨(b, o), List.mem_of_getElem? h, rfl⟩
      show ((dO l G).set p.1 p.2).set b o' = (dO (l.set i (b, o')) G).set p.1 p.2
      rw [Heap.set_comm _ _ _ (fun e => hn.1 (by rw [e]; exact hm)), ih hn.2 h]
theorem nJ {l : Bl} {G : Heap} {b : Nat} (h : dO l G b = none) : b ∉ keys l ∧ G b = none := by
  induction l with
  | nil => exact ⟨by simp [keys], h⟩
  | cons p l ih =>
    obtain ⟨h1, h2⟩ := cy (H := dO l G) h
    obtain ⟨h3, h4⟩ := ih h2
    exact ⟨by simp only [keys, List.map_cons, List.mem_cons, not_or]; exact ⟨h1, h3⟩, h4⟩
theorem Ep {l : Bl} (G : Heap) : ∀ {i : Nat} {p : Nat × Obj}, (keys l).Nodup → l[i]? = some p → dO l G = dO (p :: l.eraseIdx i) G := by
  induction l with
  | nil => intro i p _ h; simp at h
  | cons q l ih =>
    intro i p hn h
    simp only [keys, List.map_cons, List.nodup_cons] at hn
    cases i with
    | zero => simp only [List.getElem?_cons_zero, Option.some.injEq] at h; subst h; rfl
    | succ i =>
      simp only [List.getElem?_cons_succ] at h
      have hm : p.1 ∈ keys l := List.mem_map.2 ⟨p, List.mem_of_getElem? h, rfl⟩
      show (dO l G).set q.1 q.2 = ((dO (l.eraseIdx i) G).set q.1 q.2).set p.1 p.2
      rw [ih hn.2 h]
      show ((dO (l.eraseIdx i) G).set p.1 p.2).set q.1 q.2 = _
      exact Heap.set_comm _ _ _ (fun e => hn.1 (by first | (rw [← e]; exact hm) | (rw [e]; exact hm)))
section
variable {I : List Nat} {A : Ar} {l : Bl} {G : Heap}
theorem k6 (hA : Aw I A) (ok : Ok I G (keys l)) {i b : Nat} {o : Obj} (h : l[i]? = some (b, o)) : own A l G b = some o := by
  unfold own
  rw [Ar.jI, gE G ok.nd h]
  rw [hA.ids]; exact ok.out b (List.mem_map.2 ⟨(b, o), List.mem_of_getElem? h, rfl⟩)
theorem xg (hA : Aw I A) (ok : Ok I G (keys l)) {i b : Nat} {o : Obj} (o' : Obj) (h : l[i]? = some (b, o)) : (own A l G).set b o' = own A (l.set i (b, o')) G := by
  unfold own
  rw [Ar.sq, wA G ok.nd h]
  rw [hA.ids]; exact ok.out b (List.mem_map.2 ⟨(b, o), List.mem_of_getElem? h, rfl⟩)
theorem Cy (hA : Aw I A) {b : Nat} (h : own A l G b = none) : b ∉ I ∧ b ∉ keys l ∧ G b = none := by
  obtain ⟨h1, h2⟩ := Ar.wI h
  obtain ⟨h3, h4⟩ := nJ h2
  exact ⟨by rw [← hA.ids]; exact h1, h3, h4⟩
theorem vu (hA : Aw I A) (ok : Ok I G (keys l)) {b : Nat} (h : own A l G b = none) (o : Obj) : Ok I G (keys ((b, o) :: l)) ∧ (own A l G).set b o = own A ((b, o) :: l) G := by
  obtain ⟨h1, h2, h3⟩ := Cy hA h
  refine ⟨⟨?_, ?_, ?_⟩, ?_⟩
  · simp only [keys, List.map_cons, List.nodup_cons]; exact ⟨h2, ok.nd⟩
  · intro c hc
    simp only [keys, List.map_cons, List.mem_cons] at hc
    rcases hc with rfl | hc
    · exact h1
    · exact ok.out c hc
  · intro c hc
    simp only [keys, List.map_cons, List.mem_cons] at hc
    rcases hc with rfl | hc
    · exact h3
    · exact ok.no c hc
  · unfold own
    rw [Ar.sq]
    · rfl
    · rw [hA.ids]; exact h1
theorem HF (ok : Ok I G (keys l)) {i : Nat} {p : Nat × Obj} (h : l[i]? = some p) : own A l G = own A (p :: l.eraseIdx i) G := by
  unfold own; rw [Ep G ok.nd h]
def pick (l : Bl) : List Nat → Option Bl
  | [] => some []
  | i :: is => match l[i]?, pick l is with
    | some p, some r => some (p :: r)
    | _, _ => none
theorem Aq {l : Bl} : ∀ {is : List Nat} {l' : Bl}, pick l is = some l' → ∀ p ∈ l', p ∈ l
  | [], l', h, p, hp => by cases h; cases hp
  | i :: is, l', h, p, hp => by
    simp only [pick] at h
    split at h
    · rename_i x r hx hr
      cases h
      rcases List.mem_cons.1 hp with rfl | hp
      · exact List.mem_of_getElem? hx
      · exact Aq hr p hp
    · cases h
theorem kh {l' : Bl} (ok : Ok I G (keys l)) (nd : (keys l').Nodup) (hm : ∀ p ∈ l', p ∈ l) : (own A l' G).le (own A l G) := by
  unfold own
  refine Ar.MA fun b o hb => ?_
  by_cases hk : b ∈ keys l'
  · obtain ⟨⟨b', o'⟩, h1, rfl⟩ := List.mem_map.1 hk
    obtain ⟨i, hi⟩ := List.mem_iff_getElem?.1 h1
    rw [gE G nd hi] at hb
    cases hb
    obtain ⟨j, hj⟩ := List.mem_iff_getElem?.1 (hm _ h1)
    exact gE G ok.nd hj
  · rw [qR hk] at hb
    rw [qR]
    · exact hb
    · intro h; rw [ok.no b h] at hb; cases hb
theorem Ok.sub {ks ks' : List Nat} (ok : Ok I G ks) (nd : ks'.Nodup) (h : ∀ b ∈ ks', b ∈ ks) : Ok I G ks' := ⟨nd, fun b hb => ok.out b (h b hb), fun b hb => ok.no b (h b hb)⟩
theorem Ok.pick (is : List Nat) {l' : Bl} (ok : Ok I G (keys l)) (h : pick l is = some l') (nd : is.Nodup) : Ok I G (keys l') := by
  refine ok.sub ?_ fun b hb => ?_
  · have key : ∀ (is : List Nat) (l' : Bl), Proofs.YtjnacjniiogjcaaGreat.pick l is = some l' → is.Nodup → (keys l').Nodup ∧ ∀ b ∈ keys l', ∃ i ∈ is, (l[i]?).map Prod.fst = some b := by
      intro is
      induction is with
      | nil => intro l' h _; cases h; exact ⟨by simp [keys], by simp [keys]⟩
      | cons i is ih =>
        intro l' h nd
        simp only [Proofs.YtjnacjniiogjcaaGreat.pick] at h
        split at h
        · rename_i x r hx hr
          cases h
          obtain ⟨h1, h2⟩ := List.nodup_cons.1 nd
          obtain ⟨h3, h4⟩ := ih r hr h2
          refine ⟨?_, ?_⟩
          · simp only [keys, List.map_cons, List.nodup_cons]
            refine ⟨fun hm => ?_, h3⟩
            obtain ⟨j, hj, he⟩ := h4 x.1 hm
            have : i = j := by
              have n := ok.nd
              cases hlj : l[j]? with
              | none => rw [hlj] at he; cases he
              | some y =>
                rw [hlj] at he
                simp only [Option.map_some, Option.some.injEq] at he
                have hi1 : (keys l)[i]? = some x.1 := by simp [keys, hx]
                have hj1 : (keys l)[j]? = some x.1 := by simp [keys, hlj, he]
                exact (List.getElem?_inj (by
                  have := List.getElem?_eq_some_iff.1 hi1
                  exact this.1) n).1 (hi1.trans hj1.symm)
            exact h1 (this ▸ hj)
          · intro b hb
            simp only [keys, List.map_cons, List.mem_cons] at hb
            rcases hb with rfl | hb
            · exact ⟨i, List.mem_cons_self, by rw [hx]; rfl⟩
            · obtain ⟨j, hj, he⟩ := h4 b hb
              exact ⟨j, List.mem_cons_of_mem _ hj, he⟩
        · cases h
    exact (key is l' h nd).1
  · obtain ⟨p, hp, rfl⟩ := List.mem_map.1 hb
    exact List.mem_map.2 ⟨p, Aq h p hp, rfl⟩
theorem Ii (is : List Nat) {l' : Bl} (ok : Ok I G (keys l)) (h : pick l is = some l') (nd : is.Nodup) : (own A l' G).le (own A l G) := kh ok (ok.pick is h nd).nd (Aq h)
end
def Lf.dec : (l : iH) → Value → Option l.T
  | .int k, .int k' n => if k = k' then some n else none
  | .bool, .bool b => some b
  | .ptr, .pointer p => some p
  | .addr, .pointer (some a) => some a
  | .slice, .slice a n c => some ⟨a, n, c⟩
  | .map, .map r => some r
  | .val, v => some v
  | _, _ => none
theorem Lf.Fp {l : iH} {v : Value} {x : l.T} (h : Lf.dec l v = some x) : v = l.fq x := by
  cases l <;> cases v <;> simp only [Lf.dec] at h
  all_goals first
    | (cases h; done)
    | (cases h; rfl)
    | (split at h
       · rename_i e; cases h; rw [← e]
       · cases h)
    | (rename_i p; cases p
       · cases h
       · cases h; rfl)
def Lf.decs : (ls : List iH) → List Value → Option (HL iH.T ls)
  | [], _ => some ()
  | l :: ls, v :: vs => match Lf.dec l v, Lf.decs ls vs with
    | some x, some y => some (x, y)
    | _, _ => none
  | _ :: _, [] => none
theorem Lf.BR : ∀ {ls : List iH} {vs : List Value} {x : HL iH.T ls}, Lf.decs ls vs = some x → ls.length ≤ vs.length ∧ vs.take ls.length = HL.gN iH.fq ls x
  | [], vs, x, h => ⟨by simp, by simp [HL.gN]⟩
  | l :: ls, [], x, h => by simp [Lf.decs] at h
  | l :: ls, v :: vs, x, h => by
    simp only [Lf.decs] at h
    split at h
    · rename_i a b ha hb
      cases h
      obtain ⟨h1, h2⟩ := Lf.BR hb
      refine ⟨by simp; exact h1, ?_⟩
      simp only [List.length_cons, List.take_succ_cons, h2, HL.gN, Lf.Fp ha]
    · cases h
section
variable {L : aZ} {G : Heap} {R : Value → Heap → Prop} {A : Ar} {I : List Nat} {l : Bl}
theorem aS (i : Nat) {a : Addr} {b n : Nat} {T : TypeId} {c : List Value} {lf : iH} {k : lf.T → Tree} {x : lf.T} (hA : Aw I A) (ok : Ok I G (keys l)) (ha : a = ⟨b, n, none⟩) (hi : l[i]? = some (b, oc T c)) (hx : (c[n]?).bind (Lf.dec lf) = some x)
    (h : wp Tryz.prog (k x) L (own A l G) R) : wp Tryz.prog (.ld a lf k) L (own A l G) R := by
  subst ha
  refine bL (x := x) ?_ h
  rw [Heap.cell_of (k6 hA ok hi)]
  rw [List.getElem?_toArray]
  cases hc : c[n]? with
  | none => rw [hc] at hx; cases hx
  | some v => rw [hc] at hx; exact congrArg some (Lf.Fp hx)
theorem fy (i : Nat) {a : Addr} {b n : Nat} {T : TypeId} {c : List Value} {ls : List iH} {k : HL iH.T ls → Tree} {x : HL iH.T ls} (hA : Aw I A) (ok : Ok I G (keys l)) (ha : a = ⟨b, n, none⟩) (hi : l[i]? = some (b, oc T c)) (hx : Lf.decs ls (c.drop n) = some x)
    (h : wp Tryz.prog (k x) L (own A l G) R) (hn : decide (n ≤ c.length) = true := by rfl) : wp Tryz.prog (.ldA a ls k) L (own A l G) R := by
  subst ha
  have hn := of_decide_eq_true hn
  obtain ⟨h1, h2⟩ := Lf.BR hx
  rw [List.length_drop] at h1
  refine yt (x := x) (k6 hA ok hi) (by simp; omega) ?_ h
  rw [← h2]; simp [List.extract_eq_take_drop]
theorem cA (i : Nat) {a : Addr} {b n : Nat} {T : TypeId} {c : List Value} {v : Value} {k : Tree} (hA : Aw I A) (ok : Ok I G (keys l)) (ha : a = ⟨b, n, none⟩) (hi : l[i]? = some (b, oc T c)) (hs : Value.single v = true) (hn : (decide (n < c.length)) = true)
    (h : wp Tryz.prog k L (own A (l.set i (b, oc T (c.set n v))) G) R) : wp Tryz.prog (.st a v k) L (own A l G) R := by
  subst ha
  have hn := of_decide_eq_true hn
  refine gd (u := c[n]) (k6 hA ok hi) (by simp [hn]) hs ?_
  rw [xg hA ok _ hi]
  have : (c.toArray.setIfInBounds n v) = (c.set n v).toArray := by simp
  rw [this]; exact h
def setAll (c : List Value) : Nat → List Value → List Value
  | _, [] => c
  | n, v :: l => setAll (c.set n v) (n + 1) l
theorem zU (vs : List Value) : ∀ (c : List Value) (n : Nat), putAll c.toArray n vs = (setAll c n vs).toArray := by
  induction vs with
  | nil => intro c n; rfl
  | cons v vs ih => intro c n; simp only [putAll, setAll]; rw [← ih]; simp
theorem j9 (i : Nat) {a : Addr} {b n : Nat} {T : TypeId} {c : List Value} {vs : List Value} {k : Tree} (hA : Aw I A) (ok : Ok I G (keys l)) (ha : a = ⟨b, n, none⟩) (hi : l[i]? = some (b, oc T c)) (hs : vs.all Value.single = true) (hn : (decide (n + vs.length ≤ c.length)) = true)
    (h : wp Tryz.prog k L (own A (l.set i (b, oc T (setAll c n vs))) G) R) : wp Tryz.prog (.stA a vs k) L (own A l G) R := by
  subst ha
  have hn := of_decide_eq_true hn
  refine gS (k6 hA ok hi) (by simpa using hn) (fun v hv => List.all_eq_true.1 hs v hv) ?_
  rw [xg hA ok _ hi, zU]; exact h
theorem cL {c : List Value} {T : TypeId} {k : Addr → Tree} (hA : Aw I A) (ok : Ok I G (keys l)) (h : ∀ b, Ok I G (keys ((b, oc T c) :: l)) → wp Tryz.prog (k ⟨b, 0, none⟩) L (own A ((b, oc T c) :: l) G) R) :
    wp Tryz.prog (.dk (.cells c.toArray T) k) L (own A l G) R := by
  refine dI fun b hb => ?_
  obtain ⟨h1, h2⟩ := vu hA ok hb (oc T c)
  show wp Tryz.prog (k ⟨b, 0, none⟩) L ((own A l G).set b (oc T c)) R
  rw [h2]; exact h b h1
theorem l6 {c : List Value} {T : TypeId} {n : Nat} {k : Sl → Tree} (hA : Aw I A) (ok : Ok I G (keys l)) (h : ∀ b, Ok I G (keys ((b, oc T c) :: l)) → wp Tryz.prog (k ⟨some ⟨b, 0, none⟩, n, n⟩) L (own A ((b, oc T c) :: l) G) R) :
    wp Tryz.prog (.qB (.cells c.toArray T) n k) L (own A l G) R := by
  refine Kn fun b hb => ?_
  obtain ⟨h1, h2⟩ := vu hA ok hb (oc T c)
  show wp Tryz.prog (k ⟨some ⟨b, 0, none⟩, n, n⟩) L ((own A l G).set b (oc T c)) R
  rw [h2]; exact h b h1
theorem MX {k : Option Nat → Tree} (hA : Aw I A) (ok : Ok I G (keys l)) (h : ∀ b, Ok I G (keys ((b, .map #[] 0) :: l)) → wp Tryz.prog (k (some b)) L (own A ((b, .map #[] 0) :: l) G) R) :
    wp Tryz.prog (.CO k) L (own A l G) R := by
  refine zt fun b hb => ?_
  obtain ⟨h1, h2⟩ := vu hA ok hb (.map #[] 0)
  rw [h2]; exact h b h1
theorem iC (i : Nat) {a : Addr} {b n : Nat} {T : TypeId} {c : List Value} {v : Value} {t : Tree} (hA : Aw I A) (ok : Ok I G (keys l)) (ha : a = ⟨b, n, none⟩) (hi : l[i]? = some (b, oc T c)) (hx : c[n]? = some v) (h : wp Tryz.prog t L (own A l G) R) : wp Tryz.prog (.check (ldS a) v t) L (own A l G) R := by
  subst ha
  refine Cw ?_ h
  rw [Heap.cell_of (k6 hA ok hi), List.getElem?_toArray]; exact hx
theorem fS {a : Addr} {t : TypeId} {v : Value} {s : Tree} (hv : v = .pointer (some a)) (h : wp Tryz.prog s L (own A l G) R) : wp Tryz.prog (.check (opS Tryz.prog (.nilCheck (.tmp 0)) t [.pointer (some a)]) v s) L (own A l G) R := by
  subst hv; exact Bq (by rfl) h
theorem Jy (is : List Nat) {v : Value} {l' : Bl} (ok : Ok I G (keys l)) (h : pick l is = some l') (nd : is.Nodup) (hR : Ok I G (keys l') → R v (own A l' G)) : wp Tryz.prog (.ret v) L (own A l G) R := ⟨own A l' G, Ii is ok h nd, hR (ok.pick is h nd)⟩
end
noncomputable def vc (p0 : Option Addr) (p1 : Int) : Tree :=
 .call jJ [(.pointer p0)] (.one (.leaf (.int .i64))) fun x7 =>
 .call iV [(.pointer p0), (.int .i64 (w64 (x7 + p1)))] .unit fun _ =>
 .ret (.int .i64 x7)
theorem rZ {p0 : Option Addr} {p1 : Int} : SpT pw #[(.pointer p0), (.int .i64 p1)] (vc p0 p1) := spT cJ Tryz.func114 (by kernel_rfl)
noncomputable def mB (p0 : Option Addr) (p1 : Int) (p2 : Int) : Tree :=
 .call fH [(.pointer p0), (.int .i64 p1)] (.one (.leaf .ptr)) fun x9 =>
 .call pw [(.pointer x9), (.int .i64 p2)] (.one (.leaf (.int .i64))) fun x11 =>
 .ret (.int .i64 x11)
theorem pk {p0 : Option Addr} {p1 : Int} {p2 : Int} : SpT g6 #[(.pointer p0), (.int .i64 p1), (.int .i64 p2)] (mB p0 p1 p2) := spT cJ Tryz.func95 (by kernel_rfl)
noncomputable def ny (p0 : Option Addr) : Tree :=
 lkN p0 fun x4 =>
 .ld (x4.add 1) .slice fun x6 =>
 .ret (.int .i64 ((x6.len : Nat) : Int))
theorem ql {p0 : Option Addr} : SpT ij #[(.pointer p0)] (ny p0) := spT cJ Tryz.func94 (by kernel_rfl)
theorem Ij (v : Int) (H : Heap) : Det Tryz.prog pw [.pointer none, .int .i64 v] H (.int .i64 0) H := by
  refine rZ fun L => ?_
  unfold vc
  refine ax (xy _) ?_
  exact ax (x := ()) (vY _ _) (ad ⟨rfl, rfl⟩)
theorem Jd {b n T : Nat} {c : Array Value} {u v : Int} {H : Heap} (hb : H b = some (.cells c T (0, 0))) (hn : c[n]? = some (.int .i64 u)) :
    Det Tryz.prog pw [.pointer (some ⟨b, n, none⟩), .int .i64 v] H (.int .i64 u) (H.set b (.cells (c.setIfInBounds n (.int .i64 (w64 (u + v)))) T (0, 0))) := by
  refine rZ fun L => ?_
  unfold vc
  refine ax (xZ (x := u) ((Heap.cell_of hb _).trans hn)) ?_
  exact ax (x := ()) (we hb hn) (ad ⟨rfl, rfl⟩)
theorem DW {A : Ar} (hA : A.wf) (i v : Int) (H : Heap) : Det Tryz.prog g6 [pA A, .int .i64 i, .int .i64 v] (A.put H) (.int .i64 (A.ao i)) ((A.aL i (w64 (A.ao i + v))).put H) := by
  refine pk fun L => ?_
  unfold mB Ar.aL Ar.ao
  by_cases hi : A.bp i
  · rw [if_pos hi, if_pos hi]
    refine ax (x := some ⟨A.r, i.toNat, none⟩) (FH hA.nd hi H) ?_
    refine ax (x := A.raw.getD i.toNat 0) (Jd (Ar.HK (A := A.tick) hA.nd H) (uX hA.nd hi H)) ?_
    exact ad ⟨rfl, Cu (A := A.tick) hA.nd _ _ _⟩
  · rw [if_neg hi, if_neg hi]
    refine ax (x := none) (BD hA.nd hi H) ?_
    exact ax (x := (0 : Int)) (Ij _ _) (ad ⟨rfl, rfl⟩)
theorem GY {A : Ar} (H : Heap) : Det Tryz.prog ij [pA A] (A.put H) (.int .i64 A.words.length) (A.put H) := by
  refine ql fun L => ?_
  unfold ny
  exact aa.2 (fb (x := Sl.mk (some ⟨A.w, 0, none⟩) A.words.length A.words.length) (n := 1) (ad ⟨rfl, rfl⟩))
@[reducible] def aI (I : List Nat) : Option Addr := some ⟨I.headD 0, 0, none⟩
theorem Aw.pA {I : List Nat} {A : Ar} (h : Aw I A) : .pointer (aI I) = pA A := by unfold Proofs.YtjnacjniiogjcaaGreat.pA aI; rw [← h.ids]; rfl
theorem Aw.of {I : List Nat} {A B : Ar} (h : Aw I A) (al : Ar.Alike A B) (w : B.wf) : Aw I B := ⟨w, al.ids.trans h.ids⟩
def Ar.vM (A : Ar) (h : Int) : Ar := if A.mM h then A.dr h else A
section
variable {L : aZ} {R : Value → Heap → Prop} {A : Ar} {I : List Nat} {l : Bl} {G : Heap}
theorem Aw.aV (h : Aw I A) (i : Int) : Aw I (A.aV i) := h.of (nD A i) (GM h.wf i)
theorem Aw.aL (h : Aw I A) (i v : Int) : Aw I (A.aL i v) := h.of (eV A i v) (rQ h.wf i v)
theorem Aw.dE (h : Aw I A) (i v w : Int) : Aw I (A.dE i v w) := h.of (uH A i v w) (JH h.wf i v w)
theorem Aw.gp (h : Aw I A) (k i : Int) : Aw I (A.gp k i) := h.of (yX A k i) (I1 h.wf k i)
theorem Aw.bW (h : Aw I A) (k i v : Int) : Aw I (A.bW k i v) := h.of (s9 A k i v) (Bu h.wf k i v)
theorem Aw.aW (h : Aw I A) (k : Int) : Aw I (A.aW k) := h.of (AP A k) (EH h.wf k)
theorem Aw.db (h : Aw I A) (k : Int) : Aw I (A.db k) := h.of (CR A k) (JD h.wf k)
theorem Aw.vM (h : Aw I A) (k : Int) : Aw I (A.vM k) := by
  unfold Ar.vM; split
  · rename_i e; exact h.of (yZ A k) (DG h.wf k e.2.1)
  · exact h
theorem uA {i : Int} {k : Int → Tree} (hA : Aw I A) (h : Aw I (A.aV i) → wp Tryz.prog (k (A.ao i)) L (own (A.aV i) l G) R) :
    wp Tryz.prog (.call bQ [.pointer (aI I), .int .i64 i] (.one (.leaf (.int .i64))) k) L (own A l G) R :=
  ax (x := A.ao i) (by rw [hA.pA]; exact zx hA.wf i _) (h (hA.aV i))
theorem mw {i v : Int} {k : Unit → Tree} (hA : Aw I A) (h : Aw I (A.aL i v) → wp Tryz.prog (k ()) L (own (A.aL i v) l G) R) :
    wp Tryz.prog (.call bV [.pointer (aI I), .int .i64 i, .int .i64 v] .unit k) L (own A l G) R :=
  ax (x := ()) (by rw [hA.pA]; exact Ay hA.wf i v _) (h (hA.aL i v))
theorem qU {i v w : Int} {k : Bool → Tree} (hA : Aw I A) (h : Aw I (A.dE i v w) → wp Tryz.prog (k (A.cC i v)) L (own (A.dE i v w) l G) R) :
    wp Tryz.prog (.call cE [.pointer (aI I), .int .i64 i, .int .i64 v, .int .i64 w] (.one (.leaf .bool)) k) L (own A l G) R :=
  ax (x := A.cC i v) (by rw [hA.pA]; exact uE hA.wf i v w _) (h (hA.dE i v w))
theorem CU {i v : Int} {k : Int → Tree} (hA : Aw I A) (h : Aw I (A.aL i (w64 (A.ao i + v))) → wp Tryz.prog (k (A.ao i)) L (own (A.aL i (w64 (A.ao i + v))) l G) R) :
    wp Tryz.prog (.call g6 [.pointer (aI I), .int .i64 i, .int .i64 v] (.one (.leaf (.int .i64))) k) L (own A l G) R :=
  ax (x := A.ao i) (by rw [hA.pA]; exact DW hA.wf i v _) (h (hA.aL i _))
theorem BT {b i : Int} {k : Int → Tree} (hA : Aw I A) (h : Aw I (A.gp b i) → wp Tryz.prog (k (A.bA b i)) L (own (A.gp b i) l G) R) :
    wp Tryz.prog (.call dK [.pointer (aI I), .int .i64 b, .int .i64 i] (.one (.leaf (.int .i64))) k) L (own A l G) R :=
  ax (x := A.bA b i) (by rw [hA.pA]; exact CS hA.wf b i _) (h (hA.gp b i))
theorem FI {b i v : Int} {k : Unit → Tree} (hA : Aw I A) (h : Aw I (A.bW b i v) → wp Tryz.prog (k ()) L (own (A.bW b i v) l G) R) :
    wp Tryz.prog (.call fx [.pointer (aI I), .int .i64 b, .int .i64 i, .int .i64 v] .unit k) L (own A l G) R :=
  ax (x := ()) (by rw [hA.pA]; exact A7 hA.wf b i v _) (h (hA.bW b i v))
theorem Dd {b : Int} {k : Bool → Tree} (hA : Aw I A) (h : Aw I (A.aW b) → wp Tryz.prog (k (A.vJ b 1)) L (own (A.aW b) l G) R) :
    wp Tryz.prog (.call g9 [.pointer (aI I), .int .i64 b] (.one (.leaf .bool)) k) L (own A l G) R :=
  ax (x := A.vJ b 1) (by rw [hA.pA]; exact Ek hA.wf.nd b _) (h (hA.aW b))
theorem Jf {b : Int} {k : Bool → Tree} (hA : Aw I A) (h : Aw I (A.db b) → wp Tryz.prog (k (A.vJ b 2)) L (own (A.db b) l G) R) :
    wp Tryz.prog (.call iN [.pointer (aI I), .int .i64 b] (.one (.leaf .bool)) k) L (own A l G) R :=
  ax (x := A.vJ b 2) (by rw [hA.pA]; exact JF hA.wf b _) (h (hA.db b))
theorem Ik {b : Int} {k : Bool → Tree} (hA : Aw I A) (h : Aw I (A.vM b) → wp Tryz.prog (k (decide (A.mM b))) L (own (A.vM b) l G) R) :
    wp Tryz.prog (.call iQ [.pointer (aI I), .int .i64 b] (.one (.leaf .bool)) k) L (own A l G) R :=
  ax (x := decide (A.mM b)) (H' := own (A.vM b) l G) (by
    rw [hA.pA]
    have := Iz hA.wf b (dO l G)
    unfold own Ar.vM
    exact this) (h (hA.vM b))
theorem p7 {k : Int → Tree} (hA : Aw I A) (h : wp Tryz.prog (k A.aD) L (own A l G) R) :
    wp Tryz.prog (.call cu [.pointer (aI I)] (.one (.leaf (.int .i64))) k) L (own A l G) R :=
  ax (x := A.aD) (by rw [hA.pA]; exact Jr _) h
theorem Ct {k : Bool → Tree} (hA : Aw I A) (h : wp Tryz.prog (k A.fault) L (own A l G) R) :
    wp Tryz.prog (.call cI [.pointer (aI I)] (.one (.leaf .bool)) k) L (own A l G) R :=
  ax (x := A.fault) (by rw [hA.pA]; exact GR _) h
theorem FT {k : Int → Tree} (hA : Aw I A) (h : wp Tryz.prog (k A.words.length) L (own A l G) R) :
    wp Tryz.prog (.call ij [.pointer (aI I)] (.one (.leaf (.int .i64))) k) L (own A l G) R :=
  ax (x := (A.words.length : Int)) (by rw [hA.pA]; exact GY _) h
theorem zE {c : Int} {k : Int → Tree} {H : Heap} (h : wp Tryz.prog (k (au c)) L H R) : wp Tryz.prog (.cU ft [.int .i64 c] (.one (.leaf (.int .i64))) k) L H R := bc (x := au c) (ud _ _) h
theorem Gh {b : Int} {k : HL Sh1.T [(.leaf (.int .i64)), (.leaf (.int .i64)), (.leaf (.int .i64)), (.leaf .bool)] → Tree} {H : Heap} (h : wp Tryz.prog (k (opB b, opG b, opC b, cS b, ())) L H R) :
    wp Tryz.prog (.cU dg [.int .i64 b] (.tup [(.leaf (.int .i64)), (.leaf (.int .i64)), (.leaf (.int .i64)), (.leaf .bool)]) k) L H R := bc (x := (opB b, opG b, opC b, cS b, ())) (rn _ _) h
theorem F5 {b g c : Int} {k : Int → Tree} {H : Heap} (h : wp Tryz.prog (k (cH b g c)) L H R) : wp Tryz.prog (.cU iZ [.int .i64 b, .int .i64 g, .int .i64 c] (.one (.leaf (.int .i64))) k) L H R := bc (x := cH b g c) (Lg _ rfl) h
end
theorem bP (l k : Bl) : keys (l ++ k) = keys l ++ keys k := by simp [keys]
theorem dY (A : Ar) (l k : Bl) (G : Heap) : own A (l ++ k) G = own A l (dO k G) := by unfold own; rw [De]
theorem Ok.split {I : List Nat} {G : Heap} {ks : List Nat} {k : Bl} (h : Ok I G (ks ++ keys k)) : Ok I (dO k G) ks ∧ Ok I G (keys k) := by
  obtain ⟨n1, n2, n3⟩ := List.nodup_append.1 h.nd
  refine ⟨⟨n1, fun b hb => h.out b (List.mem_append_left _ hb), fun b hb => ?_⟩, ⟨n2, fun b hb => h.out b (List.mem_append_right _ hb), fun b hb => h.no b (List.mem_append_right _ hb)⟩⟩
  rw [qR (fun hk => n3 b hb b hk rfl)]
  exact h.no b (List.mem_append_left _ hb)
theorem Ok.join {I : List Nat} {G : Heap} {ks : List Nat} {k : Bl} (h : Ok I (dO k G) ks) (h' : Ok I G (keys k)) : Ok I G (ks ++ keys k) := by
  refine ⟨List.nodup_append.2 ⟨h.nd, h'.nd, fun a ha b hb e => (nJ (h.no a ha)).1 (e ▸ hb)⟩, fun b hb => ?_, fun b hb => ?_⟩
  · rcases List.mem_append.1 hb with e | e
    · exact h.out b e
    · exact h'.out b e
  · rcases List.mem_append.1 hb with e | e
    · exact (nJ (h.no b e)).2
    · exact h'.no b e
theorem FA {L : aZ} {R : Value → Heap → Prop} {A : Ar} {I : List Nat} {l : Bl} {G : Heap} {f : FuncId} {args : List Value} {sh : Sh} {k : sh.T → Tree} {J : Type} {bl : J → Bl} {val : J → sh.T}
    (h : ∀ G, cB Tryz.prog f args.toArray (own A [] G) fun v K => ∃ j, v = sh.fq (val j) ∧ K = own A (bl j) G ∧ Ok I G (keys (bl j))) (ok : Ok I G (keys l))
    (hk : ∀ j, Ok I G (keys (bl j ++ l)) → wp Tryz.prog (k (val j)) L (own A (bl j ++ l) G) R) : wp Tryz.prog (.call f args sh k) L (own A l G) R := by
  refine aR (h (dO l G)) ?_
  rintro v K ⟨j, rfl, rfl, o⟩
  refine ⟨_, rfl, ?_⟩
  rw [← dY]
  exact hk j (by rw [bP]; exact o.join ok)
theorem rh {L : aZ} {R : Value → Heap → Prop} {A : Ar} {bl rest : Bl} {G : Heap} {f : FuncId} {args : List Value} {sh : Sh} {k : sh.T → Tree} {R0 : Value → Heap → Prop}
    (h : cB Tryz.prog f args.toArray (own A bl (dO rest G)) R0) (hk : ∀ v K, R0 v K → ∃ x, v = sh.fq x ∧ wp Tryz.prog (k x) L K R) : wp Tryz.prog (.call f args sh k) L (own A (bl ++ rest) G) R := by
  rw [dY]; exact aR h hk
structure Mch (M J : Type) where
  f : FuncId
  addr : J → Nat
  bl : M → J → Bl
  inv : M → Ar → Prop
  step : M → Ar → M × Ar
  fin : M → Bool
def Mch.ok {M J : Type} (X : Mch M J) : Prop := ∀ (I : List Nat) (A : Ar) (G : Heap) (m : M) (j : J), Aw I A → Ok I G (keys (X.bl m j)) → X.inv m A →
  cB Tryz.prog X.f #[.pointer (some ⟨X.addr j, 0, none⟩), .pointer (aI I)] (own A (X.bl m j) G) fun v K => ∃ j', v = .bool (X.fin (X.step m A).1) ∧ K = own (X.step m A).2 (X.bl (X.step m A).1 j') G ∧ X.addr j' = X.addr j ∧
    Ok I G (keys (X.bl (X.step m A).1 j')) ∧ Aw I (X.step m A).2
inductive Mch.gh {M J : Type} (X : Mch M J) : Nat → M → Ar → M → Ar → Prop
  | one {m A} : X.inv m A → (X.step m A).2.aD ≤ w64 (A.aD + 1) → X.fin (X.step m A).1 = true → gh X 1 m A (X.step m A).1 (X.step m A).2
  | more {n m A m' A'} : X.inv m A → (X.step m A).2.aD ≤ w64 (A.aD + 1) → X.fin (X.step m A).1 = false → gh X n (X.step m A).1 (X.step m A).2 m' A' → gh X (n + 1) m A m' A'
def Mch.vX {M J : Type} (X : Mch M J) (t : TypeId) : Prop := ∀ (q : Nat) (p : Option Addr), opS Tryz.prog (.call { callee := .invoke (.tmp 0) "Step", args := #[(.tmp 1)], argTypes := #[aK] }) aO [(.iface t (.pointer (some ⟨q, 0, none⟩))), (.pointer p)] =
    .pure (.enter X.f [.pointer (some ⟨q, 0, none⟩), .pointer p].toArray)
theorem vn {l : Bl} {p : Nat × Obj} (h : p ∈ l) : ∃ i : Nat, l[i]? = some p := List.mem_iff_getElem?.1 h
def wz (l : Bl) (b : Nat) (o : Obj) : Bl := l.map fun p => if p.1 = b then (b, o) else p
theorem Hh (l : Bl) (b : Nat) (o : Obj) : keys (wz l b o) = keys l := by
  unfold keys wz
  rw [List.map_map]
  refine List.map_congr_left fun p _ => ?_
  show (if p.1 = b then (b, o) else p).1 = p.1
  split
  · rename_i e; exact e.symm
  · rfl
theorem C1 (l k : Bl) (b : Nat) (o : Obj) : wz (l ++ k) b o = wz l b o ++ wz k b o := by simp [wz]
theorem Dh {l : Bl} {b : Nat} {o : Obj} (h : b ∉ keys l) : wz l b o = l := by
  unfold wz
  refine (List.map_congr_left fun p hp => ?_).trans (List.map_id l)
  rw [if_neg (fun e => h (List.mem_map.2 ⟨p, hp, e⟩))]; rfl
theorem H0 {l : Bl} {b : Nat} {o o' : Obj} (h : (b, o) ∈ l) : (b, o') ∈ wz l b o' := List.mem_map.2 ⟨(b, o), h, if_pos rfl⟩
theorem Da {l : Bl} {b c : Nat} {o o' : Obj} (h : (c, o) ∈ l) (hn : c ≠ b) : (c, o) ∈ wz l b o' := List.mem_map.2 ⟨(c, o), h, if_neg hn⟩
theorem IC {l : Bl} : ∀ {i : Nat} {b : Nat} {o o' : Obj}, (keys l).Nodup → l[i]? = some (b, o) → l.set i (b, o') = wz l b o' := by
  induction l with
  | nil => intro i b o o' _ h; simp at h
  | cons p l ih =>
    intro i b o o' hn h
    simp only [keys, List.map_cons, List.nodup_cons] at hn
    cases i with
    | zero =>
      simp only [List.getElem?_cons_zero, Option.some.injEq] at h
      subst h
      show (b, o') :: l = _
      unfold wz
      rw [List.map_cons, if_pos rfl]
      congr 1
      exact (Dh (o := o') hn.1).symm
    | succ i =>
      simp only [List.getElem?_cons_succ] at h
      have hm : b ∈ keys l := List.mem_map.2 ⟨(b, o), List.mem_of_getElem? h, rfl⟩
      show p :: l.set i (b, o') = _
      unfold wz
      rw [List.map_cons, if_neg (fun e => hn.1 (by rw [e]; exact hm)), ih hn.2 h]; rfl
structure Cv (sT e : TypeId) (sz : Nat) : Prop where
  ex : ∃ info z, Tryz.prog.underlying sT = some (.slice e) ∧ Tryz.prog.info? e = some info ∧ info.size = sz ∧ info.bytes ≤ 64 ∧ info.bytes ≠ 0 ∧ info.zero = some z ∧ z.cells.size = sz
structure Enc (α : Type) where
  sz : Nat
  enc : α → List Value
  len : ∀ x, (enc x).length = sz
  sg : ∀ x v, v ∈ enc x → Value.single v = true
def eI : Enc Int := ⟨1, fun n => [.int .i64 n], fun _ => rfl, fun x v h => by simp at h; subst h; rfl⟩
theorem elI : Cv bK aP 1 := ⟨⟨_, _, rfl, rfl, rfl, by decide, by decide, rfl, rfl⟩⟩
def Enc.all {α : Type} (E : Enc α) (xs : List α) : List Value := xs.flatMap E.enc
theorem Enc.sY {α : Type} (E : Enc α) (xs : List α) : (E.all xs).length = xs.length * E.sz := by
  induction xs with
  | nil => simp [Enc.all]
  | cons x xs ih =>
    have : E.all (x :: xs) = E.enc x ++ E.all xs := rfl
    rw [this, List.length_append, ih, E.len]; simp only [List.length_cons]
    rw [Nat.add_mul]; omega
theorem Enc.all_append {α : Type} (E : Enc α) (xs ys : List α) : E.all (xs ++ ys) = E.all xs ++ E.all ys := by simp [Enc.all]
theorem Enc.MB {α : Type} (E : Enc α) (xs : List α) : ∀ v ∈ E.all xs, Value.single v = true := by
  intro v hv
  obtain ⟨x, _, h⟩ := List.mem_flatMap.1 hv
  exact E.sg x v h
theorem It (xs : List Int) : eI.all xs = xs.map (Value.int .i64) := by
  induction xs with
  | nil => rfl
  | cons x xs ih => show Value.int .i64 x :: eI.all xs = _; rw [ih]; rfl
def dH {α : Type} (l : Bl) (e : TypeId) (E : Enc α) (s : Sl) (xs : List α) : Prop :=
  (s = ⟨none, 0, 0⟩ ∧ xs = []) ∨ ∃ (b : Nat) (rest : List Value) (r : Nat), s = ⟨some ⟨b, 0, none⟩, xs.length, xs.length + r⟩ ∧ rest.length = r * E.sz ∧ (b, oc e (E.all xs ++ rest)) ∈ l
section
variable {α : Type} {E : Enc α} {e : TypeId} {s t : Sl} {xs ys : List α} {l l' : Bl}
theorem dH.len (h : dH l e E s xs) : s.len = xs.length := by
  rcases h with ⟨rfl, rfl⟩ | ⟨b, rest, r, rfl, _⟩ <;> rfl
theorem dH.nil (l : Bl) (e : TypeId) (E : Enc α) : dH l e E ⟨none, 0, 0⟩ [] := .inl ⟨rfl, rfl⟩
theorem dH.mono (h : dH l e E s xs) (hm : ∀ p, p ∈ l → p ∈ l') : dH l' e E s xs := by
  rcases h with h | ⟨b, rest, r, h1, h2, h3⟩
  · exact .inl h
  · exact .inr ⟨b, rest, r, h1, h2, hm _ h3⟩
end
section
variable {L : aZ} {R : Value → Heap → Prop} {A : Ar} {I : List Nat} {l : Bl} {G : Heap}
theorem Gs (hA : Aw I A) (ok : Ok I G (keys l)) {b : Nat} {o : Obj} (h : (b, o) ∈ l) : own A l G b = some o := by
  obtain ⟨i, hi⟩ := vn h; exact k6 hA ok hi
theorem J9 (hA : Aw I A) (ok : Ok I G (keys l)) {b : Nat} {o : Obj} (o' : Obj) (h : (b, o) ∈ l) : (own A l G).set b o' = own A (wz l b o') G := by
  obtain ⟨i, hi⟩ := vn h; rw [xg hA ok o' hi, IC ok.nd hi]
theorem sV (l k : Bl) : keys (l ++ k) = keys l ++ keys k := by simp [keys]
theorem zA {pre tl : Bl} {p : Nat × Obj} (ok : Ok I G (keys (p :: (pre ++ tl)))) : own A (p :: (pre ++ tl)) G = own A (pre ++ p :: tl) G ∧ Ok I G (keys (pre ++ p :: tl)) := by
  have e : ∀ ks : List Nat, (p.1 :: (keys pre ++ ks)).Nodup → (keys pre ++ p.1 :: ks).Nodup := fun ks h => (List.perm_middle.nodup_iff).2 h
  have ok1 : Ok I G (keys (pre ++ p :: tl)) := by
    have hk : keys (p :: (pre ++ tl)) = p.1 :: (keys pre ++ keys tl) := by simp [keys]
    have hk2 : keys (pre ++ p :: tl) = keys pre ++ p.1 :: keys tl := by simp [keys]
    rw [hk] at ok; rw [hk2]
    exact ok.sub (e _ ok.nd) fun b hb => by
      simp only [List.mem_append, List.mem_cons] at hb ⊢
      rcases hb with h | h | h
      · exact .inr (.inl h)
      · exact .inl h
      · exact .inr (.inr h)
  refine ⟨?_, ok1⟩
  have hget : (pre ++ p :: tl)[pre.length]? = some p := by simp
  have := HF (A := A) ok1 hget
  rw [this]
  have h2 : (pre ++ p :: tl).eraseIdx pre.length = pre ++ tl := by
    rw [List.eraseIdx_append_of_length_le (Nat.le_refl _)]; simp
  rw [h2]
theorem jz {b : Nat} {T : TypeId} {c : List Value} (hA : Aw I A) (ok : Ok I G (keys l)) (h : (b, oc T c) ∈ l) (o : Nat) {cs : List Value} (hc : cs = (c.drop o).take cs.length) : Row (own A l G) (some ⟨b, o, none⟩) cs := by
  intro i hi
  refine ⟨_, rfl, ?_⟩
  rw [Addr.gF, Heap.cell_of (Gs hA ok h), List.getElem?_toArray, hc, List.getElem?_take_of_lt (by rw [hc] at hi; simp at hi ⊢; omega), List.getElem?_drop]
theorem dH.row {α : Type} {E : Enc α} {e : TypeId} {s : Sl} {xs : List α} (hA : Aw I A) (ok : Ok I G (keys l)) (h : dH l e E s xs) : Row (own A l G) s.a (E.all xs) := by
  rcases h with ⟨rfl, rfl⟩ | ⟨b, rest, r, rfl, h2, h3⟩
  · intro i hi; simp [Enc.all] at hi
  · exact jz hA ok h3 0 (by simp)
inductive App (l : Bl) (s : Sl) (l' : Bl) (s' : Sl) : Prop
  | same : l' = l → s' = s → App l s l' s'
  | inpl (b : Nat) (o : Obj) : s.a = some ⟨b, 0, none⟩ → s'.a = s.a → l' = wz l b o → b ∈ keys l → App l s l' s'
  | new (b : Nat) (o : Obj) : s'.a = some ⟨b, 0, none⟩ → l' = (b, o) :: l → b ∉ keys l → App l s l' s'
theorem FC (x : List Value) : ∀ (pre mid post : List Value), mid.length = x.length → putAll (pre ++ mid ++ post).toArray pre.length x = (pre ++ x ++ post).toArray := by
  induction x with
  | nil => intro pre mid post h; have : mid = [] := List.eq_nil_of_length_eq_zero h; subst this; rfl
  | cons v x ih =>
    intro pre mid post h
    cases mid with
    | nil => simp at h
    | cons m mid =>
      have h' : mid.length = x.length := by simpa using h
      show putAll ((pre ++ m :: mid ++ post).toArray.setIfInBounds pre.length v) (pre.length + 1) x = _
      have e : (pre ++ m :: mid ++ post).toArray.setIfInBounds pre.length v = ((pre ++ [v]) ++ mid ++ post).toArray := by
        apply Array.ext'
        rw [Array.toList_setIfInBounds]
        simp
      rw [e]
      have := ih (pre ++ [v]) mid post h'
      rw [List.length_append] at this
      rw [show pre.length + 1 = pre.length + [v].length from rfl, this]
      simp
theorem NV {sT e u : TypeId} {α : Type} {E : Enc α} (hE : Cv sT e E.sz) {xs ys : List α} {s t : Sl} {k : Sl → Tree} (hA : Aw I A) (ok : Ok I G (keys l)) (hs : dH l e E s xs) (ht : Row (own A l G) t.a (E.all ys)) (htl : t.len = ys.length) (hm : xs.length + ys.length ≤ 1048576)
    (h : ∀ s' l', dH l' e E s' (xs ++ ys) → Ok I G (keys l') → App l s l' s' → wp Tryz.prog (k s') L (own A l' G) R) :
    wp Tryz.prog (.act (opS Tryz.prog (.call { callee := .builtin .append, args := #[(.tmp 0), (.tmp 1)], argTypes := #[sT, sT] }) u [(.slice s.a s.len s.cap), (.slice t.a t.len t.cap)]) (.one (.leaf .slice)) k) L (own A l G) R := by
  obtain ⟨info, z, i1, i2, i3, i4, i5, i6, i7⟩ := hE.ex
  have hln := hs.len
  refine Fg (info := info) (z := z) (old := E.all xs) (new := E.all ys) i1 i2 i4 i5 i6 (i7.trans i3.symm) (hs.row hA ok) (by rw [E.sY, hln, i3]) ht (by rw [E.sY, htl, i3]) (by omega) ?_ ?_
  · intro hc
    by_cases hy : ys = []
    · subst hy
      refine .inl ⟨htl, s, rfl, ?_⟩
      exact h s l (by rw [List.append_nil]; exact hs) ok (.same rfl rfl)
    · rcases hs with ⟨rfl, rfl⟩ | ⟨b, rest, r, rfl, h2, h3⟩
      · have : ys.length = 0 := by rw [htl] at hc; have : 0 + ys.length ≤ 0 := hc; omega
        exact (hy (List.eq_nil_of_length_eq_zero this)).elim
      · have hr : ys.length ≤ r := by
          have : xs.length + t.len ≤ xs.length + r := hc
          omega
        have hmul : ys.length * E.sz ≤ r * E.sz := Nat.mul_le_mul_right _ hr
        refine .inr ⟨b, _, e, rfl, Gs hA ok h3, ?_, E.MB ys, ⟨some ⟨b, 0, none⟩, xs.length + t.len, xs.length + r⟩, rfl, ?_⟩
        · show (xs.length + t.len) * info.size ≤ _
          rw [i3, htl, Nat.add_mul]; simp only [List.size_toArray, List.length_append, E.sY, h2]; omega
        · have e1 : putAll (E.all xs ++ rest).toArray (xs.length * info.size) (E.all ys) = (E.all (xs ++ ys) ++ rest.drop (ys.length * E.sz)).toArray := by
            have := FC (E.all ys) (E.all xs) (rest.take (ys.length * E.sz)) (rest.drop (ys.length * E.sz)) (by rw [E.sY, List.length_take]; omega)
            rw [List.append_assoc, List.take_append_drop, E.sY] at this
            rw [i3, this, E.all_append]
          have e2 := J9 (G := G) hA ok (oc e (E.all (xs ++ ys) ++ rest.drop (ys.length * E.sz))) h3
          unfold oc at e2
          show wp Tryz.prog _ L ((own A l G).set b (.cells (putAll (E.all xs ++ rest).toArray (xs.length * info.size) (E.all ys)) e (0, 0))) R
          rw [e1, e2]
          refine h _ _ (.inr ⟨b, rest.drop (ys.length * E.sz), r - ys.length, ?_, ?_, H0 h3⟩) (by rw [Hh]; exact ok) (.inpl b _ rfl rfl rfl (List.mem_map.2 ⟨_, h3, rfl⟩))
          · simp only [List.length_append, Sl.mk.injEq, true_and]; omega
          · rw [List.length_drop, h2, ← Nat.sub_mul]
  · intro hc b rest r hb hr
    obtain ⟨o1, o2⟩ := vu hA ok hb (oc e (E.all xs ++ E.all ys ++ rest))
    refine ⟨⟨some ⟨b, 0, none⟩, s.len + t.len, s.len + t.len + r⟩, rfl, ?_⟩
    show wp Tryz.prog _ L ((own A l G).set b (oc e (E.all xs ++ E.all ys ++ rest))) R
    rw [o2]
    refine h _ _ (.inr ⟨b, rest, r, ?_, by rw [hr, i3], ?_⟩) o1 (.new b _ rfl rfl (Cy hA hb).2.1)
    · rw [hln, htl, List.length_append]
    · rw [E.all_append]; exact List.mem_cons_self
theorem Au {sT e u : TypeId} {α : Type} {E : Enc α} (hE : Cv sT e E.sz) {xs ys : List α} {s t : Sl} {k : Sl → Tree} {pre tl : Bl} (hA : Aw I A) (ok : Ok I G (keys (pre ++ tl))) (hs : dH tl e E s xs) (ht : Row (own A (pre ++ tl) G) t.a (E.all ys)) (htl : t.len = ys.length) (hm : xs.length + ys.length ≤ 1048576)
    (h : ∀ s' tl', dH tl' e E s' (xs ++ ys) → Ok I G (keys (pre ++ tl')) → App tl s tl' s' → wp Tryz.prog (k s') L (own A (pre ++ tl') G) R) :
    wp Tryz.prog (.act (opS Tryz.prog (.call { callee := .builtin .append, args := #[(.tmp 0), (.tmp 1)], argTypes := #[sT, sT] }) u [(.slice s.a s.len s.cap), (.slice t.a t.len t.cap)]) (.one (.leaf .slice)) k) L (own A (pre ++ tl) G) R := by
  have okt : (keys pre ++ keys tl).Nodup := by rw [← sV]; exact ok.nd
  refine NV hE hA ok (hs.mono fun p hp => List.mem_append_right _ hp) ht htl hm fun s' l' hs' ok' ap => ?_
  cases ap with
  | same h1 h2 =>
    subst h1; subst h2
    refine h s' tl ?_ ok (.same rfl rfl)
    rcases hs with ⟨q1, q2⟩ | ⟨b, rest, r, q1, q2, q3⟩
    · subst q1; subst q2
      rcases hs' with h | ⟨b, rest, r, h1, _⟩
      · exact .inl h
      · cases h1
    · have hl := hs'.len
      have : (xs ++ ys).length = xs.length := by rw [← hl, q1]
      have hy : ys = [] := by simp at this; exact this
      subst hy; rw [List.append_nil]; exact .inr ⟨b, rest, r, q1, q2, q3⟩
  | inpl b o h1 h2 h3 h4 =>
    have hbt : b ∈ keys tl := by
      rcases hs with ⟨q1, _⟩ | ⟨c, rest, r, q1, q2, q3⟩
      · rw [q1] at h1; cases h1
      · rw [q1] at h1; cases h1; exact List.mem_map.2 ⟨_, q3, rfl⟩
    have hbp : b ∉ keys pre := fun hp => (List.nodup_append.1 okt).2.2 b hp b hbt rfl
    rw [C1, Dh hbp] at h3
    subst h3
    refine h s' _ ?_ ok' (.inpl b o h1 h2 rfl hbt)
    rcases hs' with q | ⟨c, rest, r, q1, q2, q3⟩
    · exact .inl q
    · refine .inr ⟨c, rest, r, q1, q2, ?_⟩
      rcases List.mem_append.1 q3 with m | m
      · exfalso
        have : c = b := by rw [q1, h1] at h2; cases h2; rfl
        exact hbp (this ▸ List.mem_map.2 ⟨_, m, rfl⟩)
      · exact m
  | new b o h1 h2 h3 =>
    subst h2
    obtain ⟨m1, m2⟩ := zA (A := A) ok'
    rw [m1]
    have hbp : b ∉ keys pre := fun hp => h3 (by rw [sV]; exact List.mem_append_left _ hp)
    have hbt : b ∉ keys tl := fun hp => h3 (by rw [sV]; exact List.mem_append_right _ hp)
    refine h s' ((b, o) :: tl) ?_ m2 (.new b o h1 rfl hbt)
    rcases hs' with q | ⟨c, rest, r, q1, q2, q3⟩
    · exact .inl q
    · refine .inr ⟨c, rest, r, q1, q2, ?_⟩
      rcases List.mem_cons.1 q3 with m | m
      · rw [m]; exact List.mem_cons_self
      · rcases List.mem_append.1 m with m | m
        · exfalso
          have : c = b := by rw [q1] at h1; cases h1; rfl
          exact hbp (this ▸ List.mem_map.2 ⟨_, m, rfl⟩)
        · exact List.mem_cons_of_mem _ m
end
theorem Aw.Pu {I : List Nat} {A : Ar} (h : Aw I A) (x : Pu) : Aw I (x.cX A) := by
  unfold Pu.cX; split
  · exact h.aL _ _
  · split
    · exact h.dE _ _ _
    · split
      · exact h
      · exact h.aV _
theorem Aw.Po {I : List Nat} {A : Ar} (h : Aw I A) (x : Po) : Aw I (x.cX A) := by
  unfold Po.cX; split
  · exact h.aV _
  · split
    · exact h.dE _ _ _
    · split
      · exact h
      · exact h.aV _
theorem Po.fin (x : Po) (A : Ar) : decide ((x.cF A).at' = 3) = x.dP A := by
  unfold Po.cF Po.dP
  by_cases h1 : x.at' = 1
  · rw [if_pos h1, if_pos h1]; rfl
  · rw [if_neg h1, if_neg h1]
    by_cases h2 : x.at' = 2
    · rw [if_pos h2, if_pos h2]; cases A.cC x.head x.was <;> rfl
    · rw [if_neg h2, if_neg h2]
      by_cases h3 : x.at' = 3
      · rw [if_pos h3, if_pos h3, decide_eq_true h3]
      · rw [if_neg h3, if_neg h3]
        by_cases h4 : gO (A.ao x.head) 131071 = 0
        · show decide ((if _ then (3 : Int) else 1) = 3) = _
          rw [if_pos h4, decide_eq_true h4]; rfl
        · show decide ((if _ then (3 : Int) else 1) = 3) = _
          rw [if_neg h4, decide_eq_false h4]; rfl
section
variable {L : aZ} {R : Value → Heap → Prop} {A : Ar} {I : List Nat} {l : Bl} {G : Heap}
theorem xY (hA : Aw I A) (ok : Ok I G (keys l)) {i q : Nat} {o : Obj} (h : l[i]? = some (q, o)) : q ∉ A.ids := by
  rw [hA.ids]; exact ok.out q (List.mem_map.2 ⟨(q, o), List.mem_of_getElem? h, rfl⟩)
theorem H3 (hA : Aw I A) (ok : Ok I G (keys l)) (x : Pu) (i0 i1 : Nat) {q0 q1 : Nat} (h0 : l[i0]? = some (q0, l9 q1)) (h1 : l[i1]? = some (q1, x.obj)) :
    Det Tryz.prog iy [.pointer (some ⟨q0, 0, none⟩), .pointer (aI I)] (own A l G) (.bool (x.dP A)) (own (x.cX A) (l.set i1 (q1, (x.cF A).obj)) G) := by
  have := I2 hA.wf x (xY hA ok h0) (xY hA ok h1) (gE G ok.nd h0) (gE G ok.nd h1)
  rw [wA G ok.nd h1] at this
  rw [hA.pA]; exact this
theorem Lr (hA : Aw I A) (ok : Ok I G (keys l)) (x : Po) (i0 i1 : Nat) {q0 q1 : Nat} (h0 : l[i0]? = some (q0, km q1)) (h1 : l[i1]? = some (q1, x.obj)) :
    Det Tryz.prog iU [.pointer (some ⟨q0, 0, none⟩), .pointer (aI I)] (own A l G) (.bool (x.dP A)) (own (x.cX A) (l.set i1 (q1, (x.cF A).obj)) G) := by
  have := KE hA.wf x (xY hA ok h0) (xY hA ok h1) (gE G ok.nd h0) (gE G ok.nd h1)
  rw [wA G ok.nd h1] at this
  rw [hA.pA]; exact this
theorem I4 (hA : Aw I A) (ok : Ok I G (keys l)) (x : Po) (i0 i1 : Nat) {q0 q1 : Nat} (h0 : l[i0]? = some (q0, km q1)) (h1 : l[i1]? = some (q1, x.obj)) :
    Det Tryz.prog iT [.pointer (some ⟨q0, 0, none⟩)] (own A l G) (.tuple #[.int .i64 x.base, .bool x.ok]) (own A l G) :=
  Ib x (xY hA ok h0) (xY hA ok h1) (gE G ok.nd h0) (gE G ok.nd h1)
theorem ku (i0 i1 : Nat) {q0 q1 : Nat} {x : Pu} {k : Bool → Tree} (hA : Aw I A) (ok : Ok I G (keys l)) (h0 : l[i0]? = some (q0, l9 q1)) (h1 : l[i1]? = some (q1, x.obj))
    (h : Aw I (x.cX A) → wp Tryz.prog (k (x.dP A)) L (own (x.cX A) (l.set i1 (q1, (x.cF A).obj)) G) R) :
    wp Tryz.prog (.call iy [.pointer (some ⟨q0, 0, none⟩), .pointer (aI I)] (.one (.leaf .bool)) k) L (own A l G) R := ax (x := x.dP A) (H3 hA ok x i0 i1 h0 h1) (h (hA.Pu x))
theorem l4 (i0 i1 : Nat) {q0 q1 : Nat} {x : Po} {k : Bool → Tree} (hA : Aw I A) (ok : Ok I G (keys l)) (h0 : l[i0]? = some (q0, km q1)) (h1 : l[i1]? = some (q1, x.obj))
    (h : Aw I (x.cX A) → wp Tryz.prog (k (x.dP A)) L (own (x.cX A) (l.set i1 (q1, (x.cF A).obj)) G) R) :
    wp Tryz.prog (.call iU [.pointer (some ⟨q0, 0, none⟩), .pointer (aI I)] (.one (.leaf .bool)) k) L (own A l G) R := ax (x := x.dP A) (Lr hA ok x i0 i1 h0 h1) (h (hA.Po x))
theorem vZ (i0 i1 : Nat) {q0 q1 : Nat} {x : Po} {k : HL Sh1.T [(.leaf (.int .i64)), (.leaf .bool)] → Tree} (hA : Aw I A) (ok : Ok I G (keys l)) (h0 : l[i0]? = some (q0, km q1)) (h1 : l[i1]? = some (q1, x.obj))
    (h : wp Tryz.prog (k (x.base, x.ok, ())) L (own A l G) R) :
    wp Tryz.prog (.call iT [.pointer (some ⟨q0, 0, none⟩)] (.tup [(.leaf (.int .i64)), (.leaf .bool)]) k) L (own A l G) R := ax (x := (x.base, x.ok, ())) (I4 hA ok x i0 i1 h0 h1) h
theorem ok2 (hA : Aw I A) (ok : Ok I G (keys l)) {q0 q1 : Nat} {o0 o1 : Obj} (h0 : own A l G q0 = none) (h1 : own A l G q1 = none) (hn : q0 ≠ q1) :
    Ok I G (keys ((q0, o0) :: (q1, o1) :: l)) ∧ ((own A l G).set q1 o1).set q0 o0 = own A ((q0, o0) :: (q1, o1) :: l) G := by
  obtain ⟨a1, a2⟩ := vu hA ok h1 o1
  have : own A ((q1, o1) :: l) G q0 = none := by rw [← a2, Heap.dJ _ _ hn]; exact h0
  obtain ⟨b1, b2⟩ := vu hA a1 this o0
  exact ⟨b1, by rw [a2, b2]⟩
theorem Cx {p : Pl} {w c : Int} {k : Option Addr → Tree} (hA : Aw I A) (ok : Ok I G (keys l)) (h : ∀ q0 q1, Ok I G (keys ((q0, km q1) :: (q1, Po.obj ⟨p, kJ p w c, 0, 0, 0, 0, false⟩) :: l)) →
      wp Tryz.prog (k (some ⟨q0, 0, none⟩)) L (own A ((q0, km q1) :: (q1, Po.obj ⟨p, kJ p w c, 0, 0, 0, 0, false⟩) :: l) G) R) :
    wp Tryz.prog (.call j4 [p.val, .int .i64 w, .int .i64 c] (.one (.leaf .ptr)) k) L (own A l G) R := by
  refine aR (C8 p w c _) ?_
  rintro v K ⟨q0, q1, h0, h1, hn, rfl, rfl⟩
  obtain ⟨a, b⟩ := ok2 hA ok (o0 := km q1) (o1 := Po.obj ⟨p, kJ p w c, 0, 0, 0, 0, false⟩) h0 h1 hn
  exact ⟨_, rfl, by rw [b]; exact h q0 q1 a⟩
theorem GU {p : Pl} {w c b : Int} {k : Option Addr → Tree} (hA : Aw I A) (ok : Ok I G (keys l)) (h : ∀ q0 q1, Ok I G (keys ((q0, l9 q1) :: (q1, Pu.obj ⟨p, kJ p w c, 0, 0, b⟩) :: l)) →
      wp Tryz.prog (k (some ⟨q0, 0, none⟩)) L (own A ((q0, l9 q1) :: (q1, Pu.obj ⟨p, kJ p w c, 0, 0, b⟩) :: l) G) R) :
    wp Tryz.prog (.call kG [p.val, .int .i64 w, .int .i64 c, .int .i64 b] (.one (.leaf .ptr)) k) L (own A l G) R := by
  refine aR (Cd p w c b _) ?_
  rintro v K ⟨q0, q1, h0, h1, hn, rfl, rfl⟩
  obtain ⟨a, e⟩ := ok2 hA ok (o0 := l9 q1) (o1 := Pu.obj ⟨p, kJ p w c, 0, 0, b⟩) h0 h1 hn
  exact ⟨_, rfl, by rw [e]; exact h q0 q1 a⟩
end
theorem iI {A B : Ar} {lk : Int} (hr : ∀ i, B.bp i ↔ A.bp i) : ∀ (l : List Int) (f : Int), (∀ x ∈ l, B.ao (lk + x / 8) = A.ao (lk + x / 8)) → chain A lk f l → chain B lk f l
  | [], f, _, hc => hc
  | b :: l, f, h, hc => by
    obtain ⟨h1, h2, h3, h4, h5⟩ := hc
    have e : lk + f - 1 = lk + b / 8 := by omega
    refine ⟨h1, h2, h3, (hr _).2 h4, ?_⟩
    have hb := h b List.mem_cons_self
    rw [← e] at hb
    rw [hb]
    exact iI hr l _ (fun x hx => h x (List.mem_cons_of_mem _ hx)) h5
theorem zG {A : Ar} {lk f : Int} {l : List Int} (h : chain A lk f l) : f = match l with | [] => 0 | b :: _ => b / 8 + 1 := by
  cases l with
  | nil => exact h
  | cons b l => obtain ⟨h1, h2, h3, _⟩ := h; show f = b / 8 + 1; omega
theorem Fv {A : Ar} {lk hd b f : Int} {l : List Int} (hc : chain A lk f l) (hf : gO (A.ao hd) 131071 = f) (f0 : 0 ≤ f ∧ f < 131072) (b0 : 0 ≤ b ∧ b ≤ 800000 ∧ b % 8 = 0) (o1 : A.bp hd) (o2 : A.bp (lk + b / 8)) (hne : hd ≠ lk + b / 8) (h0 : 0 ≤ A.ao hd ∧ A.ao hd < 4611686018427387904)
    (hl : ∀ x ∈ l, x ≠ b ∧ x % 8 = 0 ∧ A.bp (lk + x / 8) ∧ lk + x / 8 ≠ hd) :
    chain (A.pushed hd (lk + b / 8) b) lk (gO ((A.pushed hd (lk + b / 8) b).ao hd) 131071) (b :: l) ∧ (A.pushed hd (lk + b / 8) b).ao hd = (A.ao hd / 131072 + 1) * 131072 + (b / 8 + 1) := by
  have td : Int.tdiv b 8 = b / 8 := Int.tdiv_eq_ediv_of_nonneg b0.1
  have e1 : w64 (w64 (Int.tdiv b 8) + 1) = b / 8 + 1 := by rw [td, aE (x := b / 8) (by omega) (by omega), aE (by omega) (by omega)]
  have eh : (A.pushed hd (lk + b / 8) b).ao hd = (A.ao hd / 131072 + 1) * 131072 + (b / 8 + 1) := by
    rw [pr o1 o2 o1, if_pos rfl, e1, wJ h0.1 h0.2 (by omega) (by omega)]
  refine ⟨?_, eh⟩
  rw [eh, xT]
  have em : ((A.ao hd / 131072 + 1) * 131072 + (b / 8 + 1)) % 131072 = b / 8 + 1 := by omega
  rw [em]
  have el : (A.pushed hd (lk + b / 8) b).ao (lk + b / 8) = f := by
    rw [pr o1 o2 o2, if_neg (Ne.symm hne), if_pos rfl, hf]
  refine ⟨by omega, by omega, by omega, ?_, ?_⟩
  · rw [show lk + (b / 8 + 1) - 1 = lk + b / 8 by omega]; exact vx.2 o2
  · rw [show lk + (b / 8 + 1) - 1 = lk + b / 8 by omega, el]
    refine iI (fun i => vx) l f (fun x hx => ?_) hc
    obtain ⟨h1, h2, h3, h4⟩ := hl x hx
    rw [pr o1 o2 h3, if_neg h4, if_neg (by omega)]
theorem Bj {A : Ar} {lk hd b : Int} {l : List Int} (hc : chain A lk (gO (A.ao hd) 131071) (b :: l)) (o1 : A.bp hd) (h0 : 0 ≤ A.ao hd ∧ A.ao hd < 4611686018427387904)
    (hl : ∀ x ∈ b :: l, x % 8 = 0 ∧ 0 ≤ x ∧ x ≤ 800000 ∧ A.bp (lk + x / 8) ∧ lk + x / 8 ≠ hd) :
    gO (A.ao hd) 131071 = b / 8 + 1 ∧ chain (A.popped hd (lk + b / 8)) lk (gO ((A.popped hd (lk + b / 8)).ao hd) 131071) l ∧
    (A.popped hd (lk + b / 8)).ao hd = (A.ao hd / 131072 + 1) * 131072 + A.ao (lk + b / 8) ∧ 0 ≤ A.ao (lk + b / 8) ∧ A.ao (lk + b / 8) < 131072 := by
  obtain ⟨h1, h2, h3, h4, h5⟩ := hc
  have hf : gO (A.ao hd) 131071 = b / 8 + 1 := by omega
  have ei : lk + gO (A.ao hd) 131071 - 1 = lk + b / 8 := by omega
  rw [ei] at h4 h5
  have hh := zG h5
  have bd : 0 ≤ A.ao (lk + b / 8) ∧ A.ao (lk + b / 8) < 131072 := by
    cases l with
    | nil => rw [show A.ao (lk + b / 8) = 0 from hh]; omega
    | cons y l =>
      have := hl y (by simp)
      rw [show A.ao (lk + b / 8) = y / 8 + 1 from hh]; omega
  have eh : (A.popped hd (lk + b / 8)).ao hd = (A.ao hd / 131072 + 1) * 131072 + A.ao (lk + b / 8) := by
    rw [mz o1 o1, if_pos rfl, wJ h0.1 h0.2 bd.1 bd.2]
  refine ⟨hf, ?_, eh, bd.1, bd.2⟩
  rw [eh, xT]
  have em : ((A.ao hd / 131072 + 1) * 131072 + A.ao (lk + b / 8)) % 131072 = A.ao (lk + b / 8) := by omega
  rw [em]
  refine iI (fun i => rj) l _ (fun x hx => ?_) h5
  obtain ⟨g1, g2, g3, g4, g5⟩ := hl x (List.mem_cons_of_mem _ hx)
  rw [mz o1 g4, if_neg g5]
def upd (ch : Int → List Int) (k : Int) (l : List Int) : Int → List Int := fun j => if j = k then l else ch j
structure FL (A : Ar) (p : Pl) (w n : Int) (ch : Int → List Int) : Prop where
  heads : p.heads = 0
  links : p.links = 4 * w
  wb : 0 ≤ w ∧ w ≤ 1000
  nb : 0 ≤ n ∧ n ≤ 10000
  len : 4 * w + n ≤ A.raw.length
  us : 0 ≤ A.aD
  hd : ∀ k, 0 ≤ k → k < 4 * w → 0 ≤ A.ao k ∧ A.ao k / 131072 ≤ A.aD
  chn : ∀ k, 0 ≤ k → k < 4 * w → chain A (4 * w) (A.ao k % 131072) (ch k)
  mem : ∀ k b, b ∈ ch k → 0 ≤ b ∧ b % 8 = 0 ∧ b / 8 < n
  nd : ∀ k, (ch k).Nodup
  dj : ∀ k j b, b ∈ ch k → b ∈ ch j → k = j
  rg : ∀ k, ch k ≠ [] → 0 ≤ k ∧ k < 4 * w
section
variable {A B : Ar} {p : Pl} {w n : Int} {ch : Int → List Int}
theorem FL.tS (F : FL A p w n ch) {k : Int} (h0 : 0 ≤ k) (h1 : k < 4 * w) : A.bp k := ⟨h0, by have := F.len; have := F.nb; omega⟩
theorem FL.Ad (F : FL A p w n ch) {b : Int} (h0 : 0 ≤ b) (h1 : b / 8 < n) : A.bp (4 * w + b / 8) := ⟨by have := F.wb; omega, by have := F.len; omega⟩
theorem FL.vd (F : FL A p w n ch) {k : Int} (h0 : 0 ≤ k) (h1 : k < 4 * w) (h : ch k = []) : A.ao k % 131072 = 0 := by
  have := F.chn k h0 h1; rw [h] at this; exact this
theorem FL.oS (F : FL A p w n ch) {k b : Int} {l : List Int} (h0 : 0 ≤ k) (h1 : k < 4 * w) (h : ch k = b :: l) : A.ao k % 131072 = b / 8 + 1 := by
  have := F.chn k h0 h1; rw [h] at this; exact zG this
theorem FL.congr (F : FL A p w n ch) (hr : ∀ i, 0 ≤ i → i < 4 * w + n → B.ao i = A.ao i) (hl : B.raw.length = A.raw.length) (hu : A.aD ≤ B.aD) : FL B p w n ch where
  heads := F.heads
  links := F.links
  wb := F.wb
  nb := F.nb
  len := by rw [hl]; exact F.len
  us := by have := F.us; omega
  hd k h0 h1 := by
    have := F.hd k h0 h1
    have := F.nb
    rw [hr k h0 (by omega)]; omega
  chn k h0 h1 := by
    have := F.nb
    rw [hr k h0 (by omega)]
    refine iI (fun i => by unfold Ar.bp; rw [hl]) _ _ (fun x hx => ?_) (F.chn k h0 h1)
    obtain ⟨a, b, c⟩ := F.mem k x hx
    have := F.wb
    exact hr _ (by omega) (by omega)
  mem := F.mem
  nd := F.nd
  dj := F.dj
  rg := F.rg
theorem yW {x : Int} : gO x 131071 = x % 131072 := xT x
theorem FL.push (F : FL A p w n ch) (hu : A.aD ≤ 1000000000) {k b : Int} (h0 : 0 ≤ k) (h1 : k < 4 * w) (hb : 0 ≤ b ∧ b % 8 = 0 ∧ b / 8 < n) (hn : ∀ j, b ∉ ch j) :
    FL (A.pushed k (4 * w + b / 8) b) p w n (upd ch k (b :: ch k)) := by
  have wb := F.wb
  have nb := F.nb
  have o1 := F.tS h0 h1
  have o2 := F.Ad hb.1 hb.2.2
  have hk := F.hd k h0 h1
  have us := F.us
  have td : Int.tdiv b 8 = b / 8 := Int.tdiv_eq_ediv_of_nonneg hb.1
  have e1 : w64 (w64 (Int.tdiv b 8) + 1) = b / 8 + 1 := by rw [td, aE (x := b / 8) (by omega) (by omega), aE (by omega) (by omega)]
  have hc := Fv (A := A) (lk := 4 * w) (hd := k) (b := b) (f := A.ao k % 131072) (l := ch k) (F.chn k h0 h1) yW (by omega) (by omega) o1 o2 (by omega) (by omega) (fun x hx => by
    obtain ⟨a1, a2, a3⟩ := F.mem k x hx
    exact ⟨fun e => hn k (e ▸ hx), a2, F.Ad a1 a3, by omega⟩)
  have hother : ∀ i, i ≠ k → i ≠ 4 * w + b / 8 → A.bp i → (A.pushed k (4 * w + b / 8) b).ao i = A.ao i := fun i i1 i2 io => by rw [pr o1 o2 io, if_neg i1, if_neg i2]
  refine ⟨F.heads, F.links, F.wb, F.nb, ?_, ?_, ?_, ?_, ?_, ?_, ?_, ?_⟩
  · have := F.len; unfold Ar.pushed; simp only [List.length_set]; exact this
  · show 0 ≤ A.aD + 3; omega
  · intro j j0 j1
    show _ ∧ _ ≤ A.aD + 3
    by_cases e : j = k
    · subst e; rw [hc.2]; omega
    · rw [hother j e (by omega) (F.tS j0 j1)]; have := F.hd j j0 j1; omega
  · intro j j0 j1
    unfold upd
    by_cases e : j = k
    · subst e; rw [if_pos rfl]; have := hc.1; rw [yW] at this; exact this
    · rw [if_neg e, hother j e (by omega) (F.tS j0 j1)]
      refine iI (fun i => vx) _ _ (fun x hx => ?_) (F.chn j j0 j1)
      obtain ⟨a1, a2, a3⟩ := F.mem j x hx
      exact hother _ (by omega) (by
        have : x ≠ b := fun e => hn j (e ▸ hx)
        omega) (F.Ad a1 a3)
  · intro j x hx
    unfold upd at hx
    split at hx
    · rcases List.mem_cons.1 hx with rfl | hx
      · exact hb
      · exact F.mem k x hx
    · exact F.mem j x hx
  · intro j
    unfold upd
    split
    · exact List.nodup_cons.2 ⟨hn k, F.nd k⟩
    · exact F.nd j
  · intro i j x hi hj
    unfold upd at hi hj
    split at hi
    · rename_i ei
      split at hj
      · rename_i ej; omega
      · rcases List.mem_cons.1 hi with rfl | hi
        · exact (hn j hj).elim
        · rw [ei]; exact F.dj k j x hi hj
    · split at hj
      · rename_i ej
        rcases List.mem_cons.1 hj with rfl | hj
        · exact (hn i hi).elim
        · rw [ej]; exact F.dj i k x hi hj
      · exact F.dj i j x hi hj
  · intro j hj
    unfold upd at hj
    split at hj
    · rename_i e; rw [e]; exact ⟨h0, h1⟩
    · exact F.rg j hj
theorem FL.pop (F : FL A p w n ch) (hu : A.aD ≤ 1000000000) {k b : Int} {l : List Int} (hk : ch k = b :: l) :
    FL (A.popped k (4 * w + b / 8)) p w n (upd ch k l) := by
  obtain ⟨h0, h1⟩ := F.rg k (by rw [hk]; simp)
  have wb := F.wb
  have nb := F.nb
  have o1 := F.tS h0 h1
  have hm := F.mem k b (by rw [hk]; simp)
  have o2 := F.Ad hm.1 hm.2.2
  have hkd := F.hd k h0 h1
  have us := F.us
  have hch := F.chn k h0 h1
  rw [hk] at hch
  have hc := Bj (A := A) (lk := 4 * w) (hd := k) (b := b) (l := l) (by rw [yW]; exact hch) o1 (by omega) (fun x hx => by
    obtain ⟨a1, a2, a3⟩ := F.mem k x (by rw [hk]; exact hx)
    exact ⟨a2, a1, by omega, F.Ad a1 a3, by omega⟩)
  have hother : ∀ i, i ≠ k → A.bp i → (A.popped k (4 * w + b / 8)).ao i = A.ao i := fun i i1 io => by rw [mz o1 io, if_neg i1]
  have hsub : ∀ j x, x ∈ upd ch k l j → x ∈ ch j := fun j x hx => by
    unfold upd at hx; split at hx
    · rename_i e; rw [e, hk]; exact List.mem_cons_of_mem _ hx
    · exact hx
  refine ⟨F.heads, F.links, F.wb, F.nb, ?_, ?_, ?_, ?_, ?_, ?_, ?_, ?_⟩
  · have := F.len; unfold Ar.popped; simp only [List.length_set]; exact this
  · show 0 ≤ A.aD + 3; omega
  · intro j j0 j1
    show _ ∧ _ ≤ A.aD + 3
    by_cases e : j = k
    · subst e; rw [hc.2.2.1]; omega
    · rw [hother j e (F.tS j0 j1)]; have := F.hd j j0 j1; omega
  · intro j j0 j1
    unfold upd
    by_cases e : j = k
    · subst e; rw [if_pos rfl]; have := hc.2.1; rw [yW] at this; exact this
    · rw [if_neg e, hother j e (F.tS j0 j1)]
      refine iI (fun i => rj) _ _ (fun x hx => ?_) (F.chn j j0 j1)
      obtain ⟨a1, a2, a3⟩ := F.mem j x hx
      exact hother _ (by omega) (F.Ad a1 a3)
  · exact fun j x hx => F.mem j x (hsub j x hx)
  · intro j
    unfold upd
    split
    · have := F.nd k; rw [hk] at this; exact (List.nodup_cons.1 this).2
    · exact F.nd j
  · exact fun i j x hi hj => F.dj i j x (hsub i x hi) (hsub j x hj)
  · intro j hj
    unfold upd at hj
    split at hj
    · rename_i e; rw [e]; exact ⟨h0, h1⟩
    · exact F.rg j hj
theorem FL.GW (F : FL A p w n ch) {k b i : Int} (h0 : 0 ≤ k) (h1 : k < 4 * w) (hi : 4 * w + n ≤ i) : (A.popped k (4 * w + b / 8)).ao i = A.ao i := by
  by_cases io : A.bp i
  · rw [mz (F.tS h0 h1) io, if_neg (by have := F.nb; omega)]
  · unfold Ar.ao; rw [if_neg io, if_neg (fun h => io (rj.1 h))]
end
end Go.Proofs.YtjnacjniiogjcaaGreat
