/- Texts of this claim, one behind the other. -/
import Derived.Test.YtfphgiipekkgdaaB0
set_option linter.unusedSimpArgs false
set_option linter.unusedVariables false
set_option linter.unusedVariables false
set_option maxRecDepth 10000
namespace Go.Proofs.Ytfphgiipekkgdaa
open Go Go.Fw
/- magpie/arena.add -/
noncomputable def t_arena_add (p0 : Option Addr) (p1 : Int) : Tree :=
  .call f_arena_load [(.pointer p0)] (.one (.leaf (.int .i64))) fun x7 =>
  .call f_arena_store [(.pointer p0), (.int .i64 (w64 (x7 + p1)))] .unit fun _ =>
  .ret (.int .i64 x7)
theorem t_arena_add_eq (p0 : Option Addr) (p1 : Int) : funcTree Try.prog { quiet := [16, 22, 23, 34, 35, 48, 49, 53, 57, 58, 59, 62, 105], quietTmp := true, fncs := [], ifcs := [] } Try.f82 [(.pointer p0), (.int .i64 p1)] = t_arena_add p0 p1 := by kernel_rfl
theorem t_arena_add_spec {p0 : Option Addr} {p1 : Int} {H : Heap} {R : Value → Heap → Prop} (h : ∀ L, wp Try.prog (t_arena_add p0 p1) L H R) : SpecF Try.prog f_arena_add #[(.pointer p0), (.int .i64 p1)] H R :=
  spec_of_tree (cfg := { quiet := [16, 22, 23, 34, 35, 48, 49, 53, 57, 58, 59, 62, 105], quietTmp := true, fncs := [], ifcs := [] }) Try.func82 fun L => (t_arena_add_eq p0 p1).symm ▸ h L

/- (*magpie/arena.Arena).AddRaw -/
noncomputable def t_arena_Arena_AddRaw (p0 : Option Addr) (p1 : Int) (p2 : Int) : Tree :=
  .call f_arena_Arena_at [(.pointer p0), (.int .i64 p1)] (.one (.leaf .ptr)) fun x9 =>
  .call f_arena_add [(.pointer x9), (.int .i64 p2)] (.one (.leaf (.int .i64))) fun x11 =>
  .ret (.int .i64 x11)
theorem t_arena_Arena_AddRaw_eq (p0 : Option Addr) (p1 : Int) (p2 : Int) : funcTree Try.prog { quiet := [16, 22, 23, 34, 35, 48, 49, 53, 57, 58, 59, 62, 105], quietTmp := true, fncs := [], ifcs := [] } Try.f73 [(.pointer p0), (.int .i64 p1), (.int .i64 p2)] = t_arena_Arena_AddRaw p0 p1 p2 := by kernel_rfl
theorem t_arena_Arena_AddRaw_spec {p0 : Option Addr} {p1 : Int} {p2 : Int} {H : Heap} {R : Value → Heap → Prop} (h : ∀ L, wp Try.prog (t_arena_Arena_AddRaw p0 p1 p2) L H R) : SpecF Try.prog f_arena_Arena_AddRaw #[(.pointer p0), (.int .i64 p1), (.int .i64 p2)] H R :=
  spec_of_tree (cfg := { quiet := [16, 22, 23, 34, 35, 48, 49, 53, 57, 58, 59, 62, 105], quietTmp := true, fncs := [], ifcs := [] }) Try.func73 fun L => (t_arena_Arena_AddRaw_eq p0 p1 p2).symm ▸ h L

/- (*magpie/arena.Arena).Words -/
noncomputable def t_arena_Arena_Words (p0 : Option Addr) : Tree :=
  .look (opS Try.prog (.nilCheck (.tmp 0)) ty_unit [(.pointer p0)]) (.one (.leaf .addr)) fun x4 =>
  .ld (x4.add 1) .slice fun x6 =>
  .ret (.int .i64 ((x6.len : Nat) : Int))
theorem t_arena_Arena_Words_eq (p0 : Option Addr) : funcTree Try.prog { quiet := [16, 22, 23, 34, 35, 48, 49, 53, 57, 58, 59, 62, 105], quietTmp := true, fncs := [], ifcs := [] } Try.f71 [(.pointer p0)] = t_arena_Arena_Words p0 := by kernel_rfl
theorem t_arena_Arena_Words_spec {p0 : Option Addr} {H : Heap} {R : Value → Heap → Prop} (h : ∀ L, wp Try.prog (t_arena_Arena_Words p0) L H R) : SpecF Try.prog f_arena_Arena_Words #[(.pointer p0)] H R :=
  spec_of_tree (cfg := { quiet := [16, 22, 23, 34, 35, 48, 49, 53, 57, 58, 59, 62, 105], quietTmp := true, fncs := [], ifcs := [] }) Try.func71 fun L => (t_arena_Arena_Words_eq p0).symm ▸ h L

end Go.Proofs.Ytfphgiipekkgdaa

set_option linter.unusedVariables false
set_option maxRecDepth 20000
namespace Go.Proofs.Ytfphgiipekkgdaa
open Go Go.Fw

theorem add_none (v : Int) (H : Heap) : Det Try.prog f_arena_add [.pointer none, .int .i64 v] H (.int .i64 0) H := by
  refine t_arena_add_spec fun L => ?_
  unfold t_arena_add
  refine wp_call_det (load_none _) ?_
  exact wp_call_det (x := ()) (store_none _ _) (wp_ret_of ⟨rfl, rfl⟩)

theorem add_some {b n T : Nat} {c : Array Value} {u v : Int} {H : Heap} (hb : H b = some (.cells c T (0, 0))) (hn : c[n]? = some (.int .i64 u)) :
    Det Try.prog f_arena_add [.pointer (some ⟨b, n, none⟩), .int .i64 v] H (.int .i64 u) (H.set b (.cells (c.setIfInBounds n (.int .i64 (w64 (u + v)))) T (0, 0))) := by
  refine t_arena_add_spec fun L => ?_
  unfold t_arena_add
  refine wp_call_det (load_some (x := u) ((Heap.cell_of hb _).trans hn)) ?_
  exact wp_call_det (x := ()) (store_some hb hn) (wp_ret_of ⟨rfl, rfl⟩)

theorem AddRaw_det {A : Ar} (hA : A.wf) (i v : Int) (H : Heap) : Det Try.prog f_arena_Arena_AddRaw [pA A, .int .i64 i, .int .i64 v] (A.put H) (.int .i64 (A.rawF i)) ((A.storeR i (w64 (A.rawF i + v))).put H) := by
  refine t_arena_Arena_AddRaw_spec fun L => ?_
  unfold t_arena_Arena_AddRaw Ar.storeR Ar.rawF
  by_cases hi : A.rawOk i
  · rw [if_pos hi, if_pos hi]
    refine wp_call_det (x := some ⟨A.r, i.toNat, none⟩) (at_ok hA.nd hi H) ?_
    refine wp_call_det (x := A.raw.getD i.toNat 0) (add_some (Ar.at_r (A := A.tick) hA.nd H) (raw_cell hA.nd hi H)) ?_
    exact wp_ret_of ⟨rfl, set_raw (A := A.tick) hA.nd _ _ _⟩
  · rw [if_neg hi, if_neg hi]
    refine wp_call_det (x := none) (at_bad hA.nd hi H) ?_
    exact wp_call_det (x := (0 : Int)) (add_none _ _) (wp_ret_of ⟨rfl, rfl⟩)

end Go.Proofs.Ytfphgiipekkgdaa

set_option linter.unusedVariables false
set_option maxRecDepth 20000
namespace Go.Proofs.Ytfphgiipekkgdaa
open Go Go.Fw

theorem Words_det {A : Ar} (H : Heap) : Det Try.prog f_arena_Arena_Words [pA A] (A.put H) (.int .i64 A.words.length) (A.put H) := by
  refine t_arena_Arena_Words_spec fun L => ?_
  unfold t_arena_Arena_Words
  exact wp_nil.2 (wp_fld (x := Sl.mk (some ⟨A.w, 0, none⟩) A.words.length A.words.length) (n := 1) (wp_ret_of ⟨rfl, rfl⟩))
end Go.Proofs.Ytfphgiipekkgdaa

set_option linter.unusedVariables false
set_option maxRecDepth 20000
namespace Go.Proofs.Ytfphgiipekkgdaa
open Go Go.Fw

@[reducible] def aI (I : List Nat) : Option Addr := some ⟨I.headD 0, 0, none⟩
theorem Aw.pA {I : List Nat} {A : Ar} (h : Aw I A) : .pointer (aI I) = pA A := by unfold Proofs.Ytfphgiipekkgdaa.pA aI; rw [← h.ids]; rfl
theorem Aw.of {I : List Nat} {A B : Ar} (h : Aw I A) (al : Ar.Alike A B) (w : B.wf) : Aw I B := ⟨w, al.ids.trans h.ids⟩

def Ar.bornX (A : Ar) (h : Int) : Ar := if A.bornOk h then A.bornF h else A

section
variable {L : Hands} {R : Value → Heap → Prop} {A : Ar} {I : List Nat} {l : Bl} {G : Heap}

theorem Aw.touchR (h : Aw I A) (i : Int) : Aw I (A.touchR i) := h.of (touchR_alike A i) (touchR_wf h.wf i)
theorem Aw.storeR (h : Aw I A) (i v : Int) : Aw I (A.storeR i v) := h.of (storeR_alike A i v) (storeR_wf h.wf i v)
theorem Aw.swapR (h : Aw I A) (i v w : Int) : Aw I (A.swapR i v w) := h.of (swapR_alike A i v w) (swapR_wf h.wf i v w)
theorem Aw.touch (h : Aw I A) (k i : Int) : Aw I (A.touch k i) := h.of (touch_alike A k i) (touch_wf h.wf k i)
theorem Aw.storeF (h : Aw I A) (k i v : Int) : Aw I (A.storeF k i v) := h.of (storeF_alike A k i v) (storeF_wf h.wf k i v)
theorem Aw.retireF (h : Aw I A) (k : Int) : Aw I (A.retireF k) := h.of (retireF_alike A k) (retireF_wf h.wf k)
theorem Aw.diedF (h : Aw I A) (k : Int) : Aw I (A.diedF k) := h.of (diedF_alike A k) (diedF_wf h.wf k)
theorem Aw.bornX (h : Aw I A) (k : Int) : Aw I (A.bornX k) := by
  unfold Ar.bornX; split
  · rename_i e; exact h.of (bornF_alike A k) (bornF_wf h.wf k e.2.1)
  · exact h

theorem w_Raw {i : Int} {k : Int → Tree} (hA : Aw I A) (h : Aw I (A.touchR i) → wp Try.prog (k (A.rawF i)) L (own (A.touchR i) l G) R) :
    wp Try.prog (.call f_arena_Arena_Raw [.pointer (aI I), .int .i64 i] (.one (.leaf (.int .i64))) k) L (own A l G) R :=
  wp_call_det (x := A.rawF i) (by rw [hA.pA]; exact Raw_det hA.wf i _) (h (hA.touchR i))
theorem w_SetRaw {i v : Int} {k : Unit → Tree} (hA : Aw I A) (h : Aw I (A.storeR i v) → wp Try.prog (k ()) L (own (A.storeR i v) l G) R) :
    wp Try.prog (.call f_arena_Arena_SetRaw [.pointer (aI I), .int .i64 i, .int .i64 v] .unit k) L (own A l G) R :=
  wp_call_det (x := ()) (by rw [hA.pA]; exact SetRaw_det hA.wf i v _) (h (hA.storeR i v))
theorem w_SwapRaw {i v w : Int} {k : Bool → Tree} (hA : Aw I A) (h : Aw I (A.swapR i v w) → wp Try.prog (k (A.swapRb i v)) L (own (A.swapR i v w) l G) R) :
    wp Try.prog (.call f_arena_Arena_SwapRaw [.pointer (aI I), .int .i64 i, .int .i64 v, .int .i64 w] (.one (.leaf .bool)) k) L (own A l G) R :=
  wp_call_det (x := A.swapRb i v) (by rw [hA.pA]; exact SwapRaw_det hA.wf i v w _) (h (hA.swapR i v w))
theorem w_AddRaw {i v : Int} {k : Int → Tree} (hA : Aw I A) (h : Aw I (A.storeR i (w64 (A.rawF i + v))) → wp Try.prog (k (A.rawF i)) L (own (A.storeR i (w64 (A.rawF i + v))) l G) R) :
    wp Try.prog (.call f_arena_Arena_AddRaw [.pointer (aI I), .int .i64 i, .int .i64 v] (.one (.leaf (.int .i64))) k) L (own A l G) R :=
  wp_call_det (x := A.rawF i) (by rw [hA.pA]; exact AddRaw_det hA.wf i v _) (h (hA.storeR i _))
theorem w_Load {b i : Int} {k : Int → Tree} (hA : Aw I A) (h : Aw I (A.touch b i) → wp Try.prog (k (A.loadF b i)) L (own (A.touch b i) l G) R) :
    wp Try.prog (.call f_arena_Arena_Load [.pointer (aI I), .int .i64 b, .int .i64 i] (.one (.leaf (.int .i64))) k) L (own A l G) R :=
  wp_call_det (x := A.loadF b i) (by rw [hA.pA]; exact Load_det hA.wf b i _) (h (hA.touch b i))
theorem w_Store {b i v : Int} {k : Unit → Tree} (hA : Aw I A) (h : Aw I (A.storeF b i v) → wp Try.prog (k ()) L (own (A.storeF b i v) l G) R) :
    wp Try.prog (.call f_arena_Arena_Store [.pointer (aI I), .int .i64 b, .int .i64 i, .int .i64 v] .unit k) L (own A l G) R :=
  wp_call_det (x := ()) (by rw [hA.pA]; exact Store_det hA.wf b i v _) (h (hA.storeF b i v))
theorem w_State {b : Int} {k : Int → Tree} (hA : Aw I A) (h : wp Try.prog (k (A.stF b)) L (own A l G) R) :
    wp Try.prog (.call f_arena_Arena_State [.pointer (aI I), .int .i64 b] (.one (.leaf (.int .i64))) k) L (own A l G) R :=
  wp_call_det (x := A.stF b) (by rw [hA.pA]; exact State_det hA.wf.nd b _) h
theorem w_Retire {b : Int} {k : Bool → Tree} (hA : Aw I A) (h : Aw I (A.retireF b) → wp Try.prog (k (A.turnB b 1)) L (own (A.retireF b) l G) R) :
    wp Try.prog (.call f_arena_Arena_Retire [.pointer (aI I), .int .i64 b] (.one (.leaf .bool)) k) L (own A l G) R :=
  wp_call_det (x := A.turnB b 1) (by rw [hA.pA]; exact Retire_det hA.wf.nd b _) (h (hA.retireF b))
theorem w_Died {b : Int} {k : Bool → Tree} (hA : Aw I A) (h : Aw I (A.diedF b) → wp Try.prog (k (A.turnB b 2)) L (own (A.diedF b) l G) R) :
    wp Try.prog (.call f_arena_Arena_Died [.pointer (aI I), .int .i64 b] (.one (.leaf .bool)) k) L (own A l G) R :=
  wp_call_det (x := A.turnB b 2) (by rw [hA.pA]; exact Died_det hA.wf b _) (h (hA.diedF b))
theorem w_Born {b : Int} {k : Bool → Tree} (hA : Aw I A) (h : Aw I (A.bornX b) → wp Try.prog (k (decide (A.bornOk b))) L (own (A.bornX b) l G) R) :
    wp Try.prog (.call f_arena_Arena_Born [.pointer (aI I), .int .i64 b] (.one (.leaf .bool)) k) L (own A l G) R :=
  wp_call_det (x := decide (A.bornOk b)) (H' := own (A.bornX b) l G) (by
    rw [hA.pA]
    have := Born_det hA.wf b (putL l G)
    unfold own Ar.bornX
    exact this) (h (hA.bornX b))
theorem w_Uses {k : Int → Tree} (hA : Aw I A) (h : wp Try.prog (k A.uses) L (own A l G) R) :
    wp Try.prog (.call f_arena_Arena_Uses [.pointer (aI I)] (.one (.leaf (.int .i64))) k) L (own A l G) R :=
  wp_call_det (x := A.uses) (by rw [hA.pA]; exact Uses_det _) h
theorem w_Fault {k : Bool → Tree} (hA : Aw I A) (h : wp Try.prog (k A.fault) L (own A l G) R) :
    wp Try.prog (.call f_arena_Arena_Fault [.pointer (aI I)] (.one (.leaf .bool)) k) L (own A l G) R :=
  wp_call_det (x := A.fault) (by rw [hA.pA]; exact Fault_det _) h
theorem w_Words {k : Int → Tree} (hA : Aw I A) (h : wp Try.prog (k A.words.length) L (own A l G) R) :
    wp Try.prog (.call f_arena_Arena_Words [.pointer (aI I)] (.one (.leaf (.int .i64))) k) L (own A l G) R :=
  wp_call_det (x := (A.words.length : Int)) (by rw [hA.pA]; exact Words_det _) h
theorem w_Count {k : HL Leaf.T [.int .i64, .int .i64, .int .i64, .int .i64] → Tree} (hA : Aw I A) (h : wp Try.prog (k (A.nC, A.nL, A.nR, A.nF, ())) L (own A l G) R) :
    wp Try.prog (.call f_arena_Arena_Count [.pointer (aI I)] (.one (.agg [.int .i64, .int .i64, .int .i64, .int .i64])) k) L (own A l G) R :=
  wp_call_det (x := (A.nC, A.nL, A.nR, A.nF, ())) (by rw [hA.pA]; exact Count_det _) h

theorem wq_Size {c : Int} {k : Int → Tree} {H : Heap} (h : wp Try.prog (k (sizeF c)) L H R) : wp Try.prog (.qcall f_handle_Size [.int .i64 c] (.one (.leaf (.int .i64))) k) L H R := wp_qcall_det (x := sizeF c) (Size_det _ _) h
theorem wq_Open {b : Int} {k : HL Sh1.T [(.leaf (.int .i64)), (.leaf (.int .i64)), (.leaf (.int .i64)), (.leaf .bool)] → Tree} {H : Heap} (h : wp Try.prog (k (opB b, opG b, opC b, openOk b, ())) L H R) :
    wp Try.prog (.qcall f_handle_Open [.int .i64 b] (.tup [(.leaf (.int .i64)), (.leaf (.int .i64)), (.leaf (.int .i64)), (.leaf .bool)]) k) L H R := wp_qcall_det (x := (opB b, opG b, opC b, openOk b, ())) (Open_all _ _) h
theorem wq_Pack {b g c : Int} {k : Int → Tree} {H : Heap} (h : wp Try.prog (k (packF b g c)) L H R) : wp Try.prog (.qcall f_handle_Pack [.int .i64 b, .int .i64 g, .int .i64 c] (.one (.leaf (.int .i64))) k) L H R := wp_qcall_det (x := packF b g c) (Pack_at _ rfl) h
theorem wq_head {p : Pl} {w c : Int} {k : Int → Tree} {H : Heap} (h : wp Try.prog (k (headF p w c)) L H R) : wp Try.prog (.qcall f_free_Place_head [p.val, .int .i64 w, .int .i64 c] (.one (.leaf (.int .i64))) k) L H R := wp_qcall_det (x := headF p w c) (head_det p w c _) h
end
end Go.Proofs.Ytfphgiipekkgdaa

set_option linter.unusedVariables false
set_option maxRecDepth 20000
namespace Go.Proofs.Ytfphgiipekkgdaa
open Go Go.Fw

theorem keys_append (l k : Bl) : keys (l ++ k) = keys l ++ keys k := by simp [keys]
theorem own_append (A : Ar) (l k : Bl) (G : Heap) : own A (l ++ k) G = own A l (putL k G) := by unfold own; rw [putL_append]

/-- Beside other blocks. -/
theorem Ok.split {I : List Nat} {G : Heap} {ks : List Nat} {k : Bl} (h : Ok I G (ks ++ keys k)) : Ok I (putL k G) ks ∧ Ok I G (keys k) := by
  obtain ⟨n1, n2, n3⟩ := List.nodup_append.1 h.nd
  refine ⟨⟨n1, fun b hb => h.out b (List.mem_append_left _ hb), fun b hb => ?_⟩, ⟨n2, fun b hb => h.out b (List.mem_append_right _ hb), fun b hb => h.no b (List.mem_append_right _ hb)⟩⟩
  rw [putL_out (fun hk => n3 b hb b hk rfl)]
  exact h.no b (List.mem_append_left _ hb)
theorem Ok.join {I : List Nat} {G : Heap} {ks : List Nat} {k : Bl} (h : Ok I (putL k G) ks) (h' : Ok I G (keys k)) : Ok I G (ks ++ keys k) := by
  refine ⟨List.nodup_append.2 ⟨h.nd, h'.nd, fun a ha b hb e => (putL_none (h.no a ha)).1 (e ▸ hb)⟩, fun b hb => ?_, fun b hb => ?_⟩
  · rcases List.mem_append.1 hb with e | e
    · exact h.out b e
    · exact h'.out b e
  · rcases List.mem_append.1 hb with e | e
    · exact (putL_none (h.no b e)).2
    · exact h'.no b e
/-- What is made, beside what was. -/
theorem w_make {L : Hands} {R : Value → Heap → Prop} {A : Ar} {I : List Nat} {l : Bl} {G : Heap} {f : FuncId} {args : List Value} {sh : Sh} {k : sh.T → Tree} {J : Type} {bl : J → Bl} {val : J → sh.T}
    (h : ∀ G, SpecF Try.prog f args.toArray (own A [] G) fun v K => ∃ j, v = sh.toVal (val j) ∧ K = own A (bl j) G ∧ Ok I G (keys (bl j))) (ok : Ok I G (keys l))
    (hk : ∀ j, Ok I G (keys (bl j ++ l)) → wp Try.prog (k (val j)) L (own A (bl j ++ l) G) R) : wp Try.prog (.call f args sh k) L (own A l G) R := by
  refine wp_call_of (h (putL l G)) ?_
  rintro v K ⟨j, rfl, rfl, o⟩
  refine ⟨_, rfl, ?_⟩
  rw [← own_append]
  exact hk j (by rw [keys_append]; exact o.join ok)

/-- A call on the first blocks. -/
theorem w_sub {L : Hands} {R : Value → Heap → Prop} {A : Ar} {bl rest : Bl} {G : Heap} {f : FuncId} {args : List Value} {sh : Sh} {k : sh.T → Tree} {R0 : Value → Heap → Prop}
    (h : SpecF Try.prog f args.toArray (own A bl (putL rest G)) R0) (hk : ∀ v K, R0 v K → ∃ x, v = sh.toVal x ∧ wp Try.prog (k x) L K R) : wp Try.prog (.call f args sh k) L (own A (bl ++ rest) G) R := by
  rw [own_append]; exact wp_call_of h hk

/-- A machine: what it is in memory, what a step does. -/
structure Mch (M J : Type) where
  f : FuncId
  addr : J → Nat
  bl : M → J → Bl
  inv : M → Ar → Prop
  step : M → Ar → M × Ar
  fin : M → Bool

def Mch.ok {M J : Type} (X : Mch M J) : Prop := ∀ (I : List Nat) (A : Ar) (G : Heap) (m : M) (j : J), Aw I A → Ok I G (keys (X.bl m j)) → X.inv m A →
  SpecF Try.prog X.f #[.pointer (some ⟨X.addr j, 0, none⟩), .pointer (aI I)] (own A (X.bl m j) G) fun v K => ∃ j', v = .bool (X.fin (X.step m A).1) ∧ K = own (X.step m A).2 (X.bl (X.step m A).1 j') G ∧ X.addr j' = X.addr j ∧
    Ok I G (keys (X.bl (X.step m A).1 j')) ∧ Aw I (X.step m A).2

/-- Alone, to the end. -/
inductive Mch.Runs {M J : Type} (X : Mch M J) : Nat → M → Ar → M → Ar → Prop
  | one {m A} : X.inv m A → (X.step m A).2.uses ≤ w64 (A.uses + 1) → X.fin (X.step m A).1 = true → Runs X 1 m A (X.step m A).1 (X.step m A).2
  | more {n m A m' A'} : X.inv m A → (X.step m A).2.uses ≤ w64 (A.uses + 1) → X.fin (X.step m A).1 = false → Runs X n (X.step m A).1 (X.step m A).2 m' A' → Runs X (n + 1) m A m' A'

/-- How a call of Step through an interface goes. -/
def Mch.inv' {M J : Type} (X : Mch M J) (t : TypeId) : Prop := ∀ (q : Nat) (p : Option Addr), opS Try.prog (.call { callee := .invoke (.tmp 0) "Step", args := #[(.tmp 1)], argTypes := #[ty_p_arena_Arena] }) ty_bool [(.iface t (.pointer (some ⟨q, 0, none⟩))), (.pointer p)] =
    .pure (.enter X.f [.pointer (some ⟨q, 0, none⟩), .pointer p].toArray)
end Go.Proofs.Ytfphgiipekkgdaa

set_option linter.unusedVariables false
set_option maxRecDepth 20000
namespace Go.Proofs.Ytfphgiipekkgdaa
open Go Go.Fw

theorem Aw.Pu {I : List Nat} {A : Ar} (h : Aw I A) (x : Pu) : Aw I (x.stepA A) := by
  unfold Pu.stepA; split
  · exact h.storeR _ _
  · split
    · exact h.swapR _ _ _
    · split
      · exact h
      · exact h.touchR _
theorem Aw.Po {I : List Nat} {A : Ar} (h : Aw I A) (x : Po) : Aw I (x.stepA A) := by
  unfold Po.stepA; split
  · exact h.touchR _
  · split
    · exact h.swapR _ _ _
    · split
      · exact h
      · exact h.touchR _
theorem Pu.fin (x : Pu) (A : Ar) : decide ((x.stepM A).at' = 3) = x.stepB A := by
  unfold Pu.stepM Pu.stepB
  by_cases h1 : x.at' = 1
  · rw [if_pos h1, if_neg (by omega)]
    have : ¬ x.at' = 3 := by omega
    rw [decide_eq_false this]; rfl
  · rw [if_neg h1]
    by_cases h2 : x.at' = 2
    · rw [if_pos h2, if_pos h2]; cases A.swapRb x.head x.was <;> rfl
    · rw [if_neg h2, if_neg h2]
      by_cases h3 : x.at' = 3
      · rw [if_pos h3]
      · rw [if_neg h3, decide_eq_false h3]; rfl
theorem Po.fin (x : Po) (A : Ar) : decide ((x.stepM A).at' = 3) = x.stepB A := by
  unfold Po.stepM Po.stepB
  by_cases h1 : x.at' = 1
  · rw [if_pos h1, if_pos h1]; rfl
  · rw [if_neg h1, if_neg h1]
    by_cases h2 : x.at' = 2
    · rw [if_pos h2, if_pos h2]; cases A.swapRb x.head x.was <;> rfl
    · rw [if_neg h2, if_neg h2]
      by_cases h3 : x.at' = 3
      · rw [if_pos h3, if_pos h3, decide_eq_true h3]
      · rw [if_neg h3, if_neg h3]
        by_cases h4 : iand (A.rawF x.head) 131071 = 0
        · show decide ((if _ then (3 : Int) else 1) = 3) = _
          rw [if_pos h4, decide_eq_true h4]; rfl
        · show decide ((if _ then (3 : Int) else 1) = 3) = _
          rw [if_neg h4, decide_eq_false h4]; rfl

section
variable {L : Hands} {R : Value → Heap → Prop} {A : Ar} {I : List Nat} {l : Bl} {G : Heap}

theorem out_of (hA : Aw I A) (ok : Ok I G (keys l)) {i q : Nat} {o : Obj} (h : l[i]? = some (q, o)) : q ∉ A.ids := by
  rw [hA.ids]; exact ok.out q (List.mem_map.2 ⟨(q, o), List.mem_of_getElem? h, rfl⟩)

theorem Push_own (hA : Aw I A) (ok : Ok I G (keys l)) (x : Pu) (i0 i1 : Nat) {q0 q1 : Nat} (h0 : l[i0]? = some (q0, pushObj q1)) (h1 : l[i1]? = some (q1, x.obj)) :
    Det Try.prog f_free_Push_Step [.pointer (some ⟨q0, 0, none⟩), .pointer (aI I)] (own A l G) (.bool (x.stepB A)) (own (x.stepA A) (l.set i1 (q1, (x.stepM A).obj)) G) := by
  have := Push_det hA.wf x (out_of hA ok h0) (out_of hA ok h1) (putL_get G ok.nd h0) (putL_get G ok.nd h1)
  rw [putL_set G ok.nd h1] at this
  rw [hA.pA]; exact this
theorem Pop_own (hA : Aw I A) (ok : Ok I G (keys l)) (x : Po) (i0 i1 : Nat) {q0 q1 : Nat} (h0 : l[i0]? = some (q0, popObj q1)) (h1 : l[i1]? = some (q1, x.obj)) :
    Det Try.prog f_free_Pop_Step [.pointer (some ⟨q0, 0, none⟩), .pointer (aI I)] (own A l G) (.bool (x.stepB A)) (own (x.stepA A) (l.set i1 (q1, (x.stepM A).obj)) G) := by
  have := Pop_det hA.wf x (out_of hA ok h0) (out_of hA ok h1) (putL_get G ok.nd h0) (putL_get G ok.nd h1)
  rw [putL_set G ok.nd h1] at this
  rw [hA.pA]; exact this
theorem Base_own (hA : Aw I A) (ok : Ok I G (keys l)) (x : Po) (i0 i1 : Nat) {q0 q1 : Nat} (h0 : l[i0]? = some (q0, popObj q1)) (h1 : l[i1]? = some (q1, x.obj)) :
    Det Try.prog f_free_Pop_Base [.pointer (some ⟨q0, 0, none⟩)] (own A l G) (.tuple #[.int .i64 x.base, .bool x.ok]) (own A l G) :=
  Base_det x (out_of hA ok h0) (out_of hA ok h1) (putL_get G ok.nd h0) (putL_get G ok.nd h1)

theorem w_PushStep (i0 i1 : Nat) {q0 q1 : Nat} {x : Pu} {k : Bool → Tree} (hA : Aw I A) (ok : Ok I G (keys l)) (h0 : l[i0]? = some (q0, pushObj q1)) (h1 : l[i1]? = some (q1, x.obj))
    (h : Aw I (x.stepA A) → wp Try.prog (k (x.stepB A)) L (own (x.stepA A) (l.set i1 (q1, (x.stepM A).obj)) G) R) :
    wp Try.prog (.call f_free_Push_Step [.pointer (some ⟨q0, 0, none⟩), .pointer (aI I)] (.one (.leaf .bool)) k) L (own A l G) R := wp_call_det (x := x.stepB A) (Push_own hA ok x i0 i1 h0 h1) (h (hA.Pu x))
theorem w_PopStep (i0 i1 : Nat) {q0 q1 : Nat} {x : Po} {k : Bool → Tree} (hA : Aw I A) (ok : Ok I G (keys l)) (h0 : l[i0]? = some (q0, popObj q1)) (h1 : l[i1]? = some (q1, x.obj))
    (h : Aw I (x.stepA A) → wp Try.prog (k (x.stepB A)) L (own (x.stepA A) (l.set i1 (q1, (x.stepM A).obj)) G) R) :
    wp Try.prog (.call f_free_Pop_Step [.pointer (some ⟨q0, 0, none⟩), .pointer (aI I)] (.one (.leaf .bool)) k) L (own A l G) R := wp_call_det (x := x.stepB A) (Pop_own hA ok x i0 i1 h0 h1) (h (hA.Po x))
theorem w_Base (i0 i1 : Nat) {q0 q1 : Nat} {x : Po} {k : HL Sh1.T [(.leaf (.int .i64)), (.leaf .bool)] → Tree} (hA : Aw I A) (ok : Ok I G (keys l)) (h0 : l[i0]? = some (q0, popObj q1)) (h1 : l[i1]? = some (q1, x.obj))
    (h : wp Try.prog (k (x.base, x.ok, ())) L (own A l G) R) :
    wp Try.prog (.call f_free_Pop_Base [.pointer (some ⟨q0, 0, none⟩)] (.tup [(.leaf (.int .i64)), (.leaf .bool)]) k) L (own A l G) R := wp_call_det (x := (x.base, x.ok, ())) (Base_own hA ok x i0 i1 h0 h1) h

theorem ok2 (hA : Aw I A) (ok : Ok I G (keys l)) {q0 q1 : Nat} {o0 o1 : Obj} (h0 : own A l G q0 = none) (h1 : own A l G q1 = none) (hn : q0 ≠ q1) :
    Ok I G (keys ((q0, o0) :: (q1, o1) :: l)) ∧ ((own A l G).set q1 o1).set q0 o0 = own A ((q0, o0) :: (q1, o1) :: l) G := by
  obtain ⟨a1, a2⟩ := own_new hA ok h1 o1
  have : own A ((q1, o1) :: l) G q0 = none := by rw [← a2, Heap.set_ne _ _ hn]; exact h0
  obtain ⟨b1, b2⟩ := own_new hA a1 this o0
  exact ⟨b1, by rw [a2, b2]⟩

theorem w_NewPop {p : Pl} {w c : Int} {k : Option Addr → Tree} (hA : Aw I A) (ok : Ok I G (keys l)) (h : ∀ q0 q1, Ok I G (keys ((q0, popObj q1) :: (q1, Po.obj ⟨p, headF p w c, 0, 0, 0, 0, false⟩) :: l)) →
      wp Try.prog (k (some ⟨q0, 0, none⟩)) L (own A ((q0, popObj q1) :: (q1, Po.obj ⟨p, headF p w c, 0, 0, 0, 0, false⟩) :: l) G) R) :
    wp Try.prog (.call f_free_NewPop [p.val, .int .i64 w, .int .i64 c] (.one (.leaf .ptr)) k) L (own A l G) R := by
  refine wp_call_of (NewPop_spec p w c _) ?_
  rintro v K ⟨q0, q1, h0, h1, hn, rfl, rfl⟩
  obtain ⟨a, b⟩ := ok2 hA ok (o0 := popObj q1) (o1 := Po.obj ⟨p, headF p w c, 0, 0, 0, 0, false⟩) h0 h1 hn
  exact ⟨_, rfl, by rw [b]; exact h q0 q1 a⟩
theorem w_NewPush {p : Pl} {w c b : Int} {k : Option Addr → Tree} (hA : Aw I A) (ok : Ok I G (keys l)) (h : ∀ q0 q1, Ok I G (keys ((q0, pushObj q1) :: (q1, Pu.obj ⟨p, headF p w c, 0, 0, b⟩) :: l)) →
      wp Try.prog (k (some ⟨q0, 0, none⟩)) L (own A ((q0, pushObj q1) :: (q1, Pu.obj ⟨p, headF p w c, 0, 0, b⟩) :: l) G) R) :
    wp Try.prog (.call f_free_NewPush [p.val, .int .i64 w, .int .i64 c, .int .i64 b] (.one (.leaf .ptr)) k) L (own A l G) R := by
  refine wp_call_of (NewPush_spec p w c b _) ?_
  rintro v K ⟨q0, q1, h0, h1, hn, rfl, rfl⟩
  obtain ⟨a, e⟩ := ok2 hA ok (o0 := pushObj q1) (o1 := Pu.obj ⟨p, headF p w c, 0, 0, b⟩) h0 h1 hn
  exact ⟨_, rfl, by rw [e]; exact h q0 q1 a⟩
end

end Go.Proofs.Ytfphgiipekkgdaa

set_option linter.unusedVariables false
set_option maxRecDepth 20000
namespace Go.Proofs.Ytfphgiipekkgdaa
open Go Go.Fw

/-- A list whose links are as they were. -/
theorem chain_frame {A B : Ar} {lk : Int} (hr : ∀ i, B.rawOk i ↔ A.rawOk i) : ∀ (l : List Int) (f : Int), (∀ x ∈ l, B.rawF (lk + x / 8) = A.rawF (lk + x / 8)) → chain A lk f l → chain B lk f l
  | [], f, _, hc => hc
  | b :: l, f, h, hc => by
    obtain ⟨h1, h2, h3, h4, h5⟩ := hc
    have e : lk + f - 1 = lk + b / 8 := by omega
    refine ⟨h1, h2, h3, (hr _).2 h4, ?_⟩
    have hb := h b List.mem_cons_self
    rw [← e] at hb
    rw [hb]
    exact chain_frame hr l _ (fun x hx => h x (List.mem_cons_of_mem _ hx)) h5

theorem chain_head {A : Ar} {lk f : Int} {l : List Int} (h : chain A lk f l) : f = match l with | [] => 0 | b :: _ => b / 8 + 1 := by
  cases l with
  | nil => exact h
  | cons b l => obtain ⟨h1, h2, h3, _⟩ := h; show f = b / 8 + 1; omega

/-- A base is pushed. -/
theorem chain_push {A : Ar} {lk hd b f : Int} {l : List Int} (hc : chain A lk f l) (hf : iand (A.rawF hd) 131071 = f) (f0 : 0 ≤ f ∧ f < 131072) (b0 : 0 ≤ b ∧ b ≤ 800000 ∧ b % 8 = 0) (o1 : A.rawOk hd) (o2 : A.rawOk (lk + b / 8)) (hne : hd ≠ lk + b / 8) (h0 : 0 ≤ A.rawF hd ∧ A.rawF hd < 4611686018427387904)
    (hl : ∀ x ∈ l, x ≠ b ∧ x % 8 = 0 ∧ A.rawOk (lk + x / 8) ∧ lk + x / 8 ≠ hd) :
    chain (A.pushed hd (lk + b / 8) b) lk (iand ((A.pushed hd (lk + b / 8) b).rawF hd) 131071) (b :: l) ∧ (A.pushed hd (lk + b / 8) b).rawF hd = (A.rawF hd / 131072 + 1) * 131072 + (b / 8 + 1) := by
  have td : Int.tdiv b 8 = b / 8 := Int.tdiv_eq_ediv_of_nonneg b0.1
  have e1 : w64 (w64 (Int.tdiv b 8) + 1) = b / 8 + 1 := by rw [td, w64_in (x := b / 8) (by omega) (by omega), w64_in (by omega) (by omega)]
  have eh : (A.pushed hd (lk + b / 8) b).rawF hd = (A.rawF hd / 131072 + 1) * 131072 + (b / 8 + 1) := by
    rw [rawF_pushed o1 o2 o1, if_pos rfl, e1, nextF_eq h0.1 h0.2 (by omega) (by omega)]
  refine ⟨?_, eh⟩
  rw [eh, mask17]
  have em : ((A.rawF hd / 131072 + 1) * 131072 + (b / 8 + 1)) % 131072 = b / 8 + 1 := by omega
  rw [em]
  have el : (A.pushed hd (lk + b / 8) b).rawF (lk + b / 8) = f := by
    rw [rawF_pushed o1 o2 o2, if_neg (Ne.symm hne), if_pos rfl, hf]
  refine ⟨by omega, by omega, by omega, ?_, ?_⟩
  · rw [show lk + (b / 8 + 1) - 1 = lk + b / 8 by omega]; exact pushed_ok.2 o2
  · rw [show lk + (b / 8 + 1) - 1 = lk + b / 8 by omega, el]
    refine chain_frame (fun i => pushed_ok) l f (fun x hx => ?_) hc
    obtain ⟨h1, h2, h3, h4⟩ := hl x hx
    rw [rawF_pushed o1 o2 h3, if_neg h4, if_neg (by omega)]

/-- The first base is popped. -/
theorem chain_pop {A : Ar} {lk hd b : Int} {l : List Int} (hc : chain A lk (iand (A.rawF hd) 131071) (b :: l)) (o1 : A.rawOk hd) (h0 : 0 ≤ A.rawF hd ∧ A.rawF hd < 4611686018427387904)
    (hl : ∀ x ∈ b :: l, x % 8 = 0 ∧ 0 ≤ x ∧ x ≤ 800000 ∧ A.rawOk (lk + x / 8) ∧ lk + x / 8 ≠ hd) :
    iand (A.rawF hd) 131071 = b / 8 + 1 ∧ chain (A.popped hd (lk + b / 8)) lk (iand ((A.popped hd (lk + b / 8)).rawF hd) 131071) l ∧
    (A.popped hd (lk + b / 8)).rawF hd = (A.rawF hd / 131072 + 1) * 131072 + A.rawF (lk + b / 8) ∧ 0 ≤ A.rawF (lk + b / 8) ∧ A.rawF (lk + b / 8) < 131072 := by
  obtain ⟨h1, h2, h3, h4, h5⟩ := hc
  have hf : iand (A.rawF hd) 131071 = b / 8 + 1 := by omega
  have ei : lk + iand (A.rawF hd) 131071 - 1 = lk + b / 8 := by omega
  rw [ei] at h4 h5
  have hh := chain_head h5
  have bd : 0 ≤ A.rawF (lk + b / 8) ∧ A.rawF (lk + b / 8) < 131072 := by
    cases l with
    | nil => rw [show A.rawF (lk + b / 8) = 0 from hh]; omega
    | cons y l =>
      have := hl y (by simp)
      rw [show A.rawF (lk + b / 8) = y / 8 + 1 from hh]; omega
  have eh : (A.popped hd (lk + b / 8)).rawF hd = (A.rawF hd / 131072 + 1) * 131072 + A.rawF (lk + b / 8) := by
    rw [rawF_popped o1 o1, if_pos rfl, nextF_eq h0.1 h0.2 bd.1 bd.2]
  refine ⟨hf, ?_, eh, bd.1, bd.2⟩
  rw [eh, mask17]
  have em : ((A.rawF hd / 131072 + 1) * 131072 + A.rawF (lk + b / 8)) % 131072 = A.rawF (lk + b / 8) := by omega
  rw [em]
  refine chain_frame (fun i => popped_ok) l _ (fun x hx => ?_) h5
  obtain ⟨g1, g2, g3, g4, g5⟩ := hl x (List.mem_cons_of_mem _ hx)
  rw [rawF_popped o1 g4, if_neg g5]
end Go.Proofs.Ytfphgiipekkgdaa

set_option linter.unusedVariables false
set_option maxRecDepth 20000
namespace Go.Proofs.Ytfphgiipekkgdaa
open Go Go.Fw

/-! ### Lists of free slots, by what they have -/

def upd (ch : Int → List Int) (k : Int) (l : List Int) : Int → List Int := fun j => if j = k then l else ch j

/-- Each list's words: heads, links. -/
structure FL (A : Ar) (p : Pl) (w n : Int) (ch : Int → List Int) : Prop where
  heads : p.heads = 0
  links : p.links = 4 * w
  wb : 0 ≤ w ∧ w ≤ 1000
  nb : 0 ≤ n ∧ n ≤ 10000
  len : 4 * w + n ≤ A.raw.length
  us : 0 ≤ A.uses
  hd : ∀ k, 0 ≤ k → k < 4 * w → 0 ≤ A.rawF k ∧ A.rawF k / 131072 ≤ A.uses
  chn : ∀ k, 0 ≤ k → k < 4 * w → chain A (4 * w) (A.rawF k % 131072) (ch k)
  mem : ∀ k b, b ∈ ch k → 0 ≤ b ∧ b % 8 = 0 ∧ b / 8 < n
  nd : ∀ k, (ch k).Nodup
  dj : ∀ k j b, b ∈ ch k → b ∈ ch j → k = j
  rg : ∀ k, ch k ≠ [] → 0 ≤ k ∧ k < 4 * w

section
variable {A B : Ar} {p : Pl} {w n : Int} {ch : Int → List Int}

theorem FL.hdOk (F : FL A p w n ch) {k : Int} (h0 : 0 ≤ k) (h1 : k < 4 * w) : A.rawOk k := ⟨h0, by have := F.len; have := F.nb; omega⟩
theorem FL.lkOk (F : FL A p w n ch) {b : Int} (h0 : 0 ≤ b) (h1 : b / 8 < n) : A.rawOk (4 * w + b / 8) := ⟨by have := F.wb; omega, by have := F.len; omega⟩
theorem FL.first_nil (F : FL A p w n ch) {k : Int} (h0 : 0 ≤ k) (h1 : k < 4 * w) (h : ch k = []) : A.rawF k % 131072 = 0 := by
  have := F.chn k h0 h1; rw [h] at this; exact this
theorem FL.first_cons (F : FL A p w n ch) {k b : Int} {l : List Int} (h0 : 0 ≤ k) (h1 : k < 4 * w) (h : ch k = b :: l) : A.rawF k % 131072 = b / 8 + 1 := by
  have := F.chn k h0 h1; rw [h] at this; exact chain_head this

/-- Words elsewhere. -/
theorem FL.congr (F : FL A p w n ch) (hr : ∀ i, 0 ≤ i → i < 4 * w + n → B.rawF i = A.rawF i) (hl : B.raw.length = A.raw.length) (hu : A.uses ≤ B.uses) : FL B p w n ch where
  heads := F.heads
  links := F.links
  wb := F.wb
  nb := F.nb
  len := by rw [hl]; exact F.len
  us := by have := F.us; omega
  hd k h0 h1 := by
    have := F.hd k h0 h1
    have := F.nb
    rw [hr k h0 (by omega)]; omega
  chn k h0 h1 := by
    have := F.nb
    rw [hr k h0 (by omega)]
    refine chain_frame (fun i => by unfold Ar.rawOk; rw [hl]) _ _ (fun x hx => ?_) (F.chn k h0 h1)
    obtain ⟨a, b, c⟩ := F.mem k x hx
    have := F.wb
    exact hr _ (by omega) (by omega)
  mem := F.mem
  nd := F.nd
  dj := F.dj
  rg := F.rg

theorem mod17 {x : Int} : iand x 131071 = x % 131072 := mask17 x

/-- A base is put on a list. -/
theorem FL.push (F : FL A p w n ch) (hu : A.uses ≤ 1000000000) {k b : Int} (h0 : 0 ≤ k) (h1 : k < 4 * w) (hb : 0 ≤ b ∧ b % 8 = 0 ∧ b / 8 < n) (hn : ∀ j, b ∉ ch j) :
    FL (A.pushed k (4 * w + b / 8) b) p w n (upd ch k (b :: ch k)) := by
  have wb := F.wb
  have nb := F.nb
  have o1 := F.hdOk h0 h1
  have o2 := F.lkOk hb.1 hb.2.2
  have hk := F.hd k h0 h1
  have us := F.us
  have td : Int.tdiv b 8 = b / 8 := Int.tdiv_eq_ediv_of_nonneg hb.1
  have e1 : w64 (w64 (Int.tdiv b 8) + 1) = b / 8 + 1 := by rw [td, w64_in (x := b / 8) (by omega) (by omega), w64_in (by omega) (by omega)]
  have hc := chain_push (A := A) (lk := 4 * w) (hd := k) (b := b) (f := A.rawF k % 131072) (l := ch k) (F.chn k h0 h1) mod17 (by omega) (by omega) o1 o2 (by omega) (by omega) (fun x hx => by
    obtain ⟨a1, a2, a3⟩ := F.mem k x hx
    exact ⟨fun e => hn k (e ▸ hx), a2, F.lkOk a1 a3, by omega⟩)
  have hother : ∀ i, i ≠ k → i ≠ 4 * w + b / 8 → A.rawOk i → (A.pushed k (4 * w + b / 8) b).rawF i = A.rawF i := fun i i1 i2 io => by rw [rawF_pushed o1 o2 io, if_neg i1, if_neg i2]
  refine ⟨F.heads, F.links, F.wb, F.nb, ?_, ?_, ?_, ?_, ?_, ?_, ?_, ?_⟩
  · have := F.len; unfold Ar.pushed; simp only [List.length_set]; exact this
  · show 0 ≤ A.uses + 3; omega
  · intro j j0 j1
    show _ ∧ _ ≤ A.uses + 3
    by_cases e : j = k
    · subst e; rw [hc.2]; omega
    · rw [hother j e (by omega) (F.hdOk j0 j1)]; have := F.hd j j0 j1; omega
  · intro j j0 j1
    unfold upd
    by_cases e : j = k
    · subst e; rw [if_pos rfl]; have := hc.1; rw [mod17] at this; exact this
    · rw [if_neg e, hother j e (by omega) (F.hdOk j0 j1)]
      refine chain_frame (fun i => pushed_ok) _ _ (fun x hx => ?_) (F.chn j j0 j1)
      obtain ⟨a1, a2, a3⟩ := F.mem j x hx
      exact hother _ (by omega) (by
        have : x ≠ b := fun e => hn j (e ▸ hx)
        omega) (F.lkOk a1 a3)
  · intro j x hx
    unfold upd at hx
    split at hx
    · rcases List.mem_cons.1 hx with rfl | hx
      · exact hb
      · exact F.mem k x hx
    · exact F.mem j x hx
  · intro j
    unfold upd
    split
    · exact List.nodup_cons.2 ⟨hn k, F.nd k⟩
    · exact F.nd j
  · intro i j x hi hj
    unfold upd at hi hj
    split at hi
    · rename_i ei
      split at hj
      · rename_i ej; omega
      · rcases List.mem_cons.1 hi with rfl | hi
        · exact (hn j hj).elim
        · rw [ei]; exact F.dj k j x hi hj
    · split at hj
      · rename_i ej
        rcases List.mem_cons.1 hj with rfl | hj
        · exact (hn i hi).elim
        · rw [ej]; exact F.dj i k x hi hj
      · exact F.dj i j x hi hj
  · intro j hj
    unfold upd at hj
    split at hj
    · rename_i e; rw [e]; exact ⟨h0, h1⟩
    · exact F.rg j hj

/-- A base is taken from a list. -/
theorem FL.pop (F : FL A p w n ch) (hu : A.uses ≤ 1000000000) {k b : Int} {l : List Int} (hk : ch k = b :: l) :
    FL (A.popped k (4 * w + b / 8)) p w n (upd ch k l) := by
  obtain ⟨h0, h1⟩ := F.rg k (by rw [hk]; simp)
  have wb := F.wb
  have nb := F.nb
  have o1 := F.hdOk h0 h1
  have hm := F.mem k b (by rw [hk]; simp)
  have o2 := F.lkOk hm.1 hm.2.2
  have hkd := F.hd k h0 h1
  have us := F.us
  have hch := F.chn k h0 h1
  rw [hk] at hch
  have hc := chain_pop (A := A) (lk := 4 * w) (hd := k) (b := b) (l := l) (by rw [mod17]; exact hch) o1 (by omega) (fun x hx => by
    obtain ⟨a1, a2, a3⟩ := F.mem k x (by rw [hk]; exact hx)
    exact ⟨a2, a1, by omega, F.lkOk a1 a3, by omega⟩)
  have hother : ∀ i, i ≠ k → A.rawOk i → (A.popped k (4 * w + b / 8)).rawF i = A.rawF i := fun i i1 io => by rw [rawF_popped o1 io, if_neg i1]
  have hsub : ∀ j x, x ∈ upd ch k l j → x ∈ ch j := fun j x hx => by
    unfold upd at hx; split at hx
    · rename_i e; rw [e, hk]; exact List.mem_cons_of_mem _ hx
    · exact hx
  refine ⟨F.heads, F.links, F.wb, F.nb, ?_, ?_, ?_, ?_, ?_, ?_, ?_, ?_⟩
  · have := F.len; unfold Ar.popped; simp only [List.length_set]; exact this
  · show 0 ≤ A.uses + 3; omega
  · intro j j0 j1
    show _ ∧ _ ≤ A.uses + 3
    by_cases e : j = k
    · subst e; rw [hc.2.2.1]; omega
    · rw [hother j e (F.hdOk j0 j1)]; have := F.hd j j0 j1; omega
  · intro j j0 j1
    unfold upd
    by_cases e : j = k
    · subst e; rw [if_pos rfl]; have := hc.2.1; rw [mod17] at this; exact this
    · rw [if_neg e, hother j e (F.hdOk j0 j1)]
      refine chain_frame (fun i => popped_ok) _ _ (fun x hx => ?_) (F.chn j j0 j1)
      obtain ⟨a1, a2, a3⟩ := F.mem j x hx
      exact hother _ (by omega) (F.lkOk a1 a3)
  · exact fun j x hx => F.mem j x (hsub j x hx)
  · intro j
    unfold upd
    split
    · have := F.nd k; rw [hk] at this; exact (List.nodup_cons.1 this).2
    · exact F.nd j
  · exact fun i j x hi hj => F.dj i j x (hsub i x hi) (hsub j x hj)
  · intro j hj
    unfold upd at hj
    split at hj
    · rename_i e; rw [e]; exact ⟨h0, h1⟩
    · exact F.rg j hj

/-- What turns while a base is put on, or taken from, a list. -/
theorem FL.push_other (F : FL A p w n ch) {k b i : Int} (h0 : 0 ≤ k) (h1 : k < 4 * w) (hb : 0 ≤ b ∧ b % 8 = 0 ∧ b / 8 < n) (hi : 4 * w + n ≤ i) : (A.pushed k (4 * w + b / 8) b).rawF i = A.rawF i := by
  have wb := F.wb
  by_cases io : A.rawOk i
  · rw [rawF_pushed (F.hdOk h0 h1) (F.lkOk hb.1 hb.2.2) io, if_neg (by have := F.nb; omega), if_neg (by omega)]
  · unfold Ar.rawF; rw [if_neg io, if_neg (fun h => io (pushed_ok.1 h))]
theorem FL.pop_other (F : FL A p w n ch) {k b i : Int} (h0 : 0 ≤ k) (h1 : k < 4 * w) (hi : 4 * w + n ≤ i) : (A.popped k (4 * w + b / 8)).rawF i = A.rawF i := by
  by_cases io : A.rawOk i
  · rw [rawF_popped (F.hdOk h0 h1) io, if_neg (by have := F.nb; omega)]
  · unfold Ar.rawF; rw [if_neg io, if_neg (fun h => io (popped_ok.1 h))]
end
end Go.Proofs.Ytfphgiipekkgdaa

set_option linter.unusedVariables false
set_option maxRecDepth 20000
namespace Go.Proofs.Ytfphgiipekkgdaa
open Go Go.Fw

/-! ### Steps of a push, of a pop -/
section
variable {A : Ar}

theorem getD_rawF {i : Int} (h : A.rawOk i) : A.raw.getD i.toNat 0 = A.rawF i := by unfold Ar.rawF; rw [if_pos h]

theorem Pu.s0 {x : Pu} (h : x.at' = 0) (o : A.rawOk x.head) : (x.stepM A, x.stepA A) = ({ x with was := A.rawF x.head, at' := 1 }, A.tick) := by
  have n1 : ¬ x.at' = 1 := by omega
  have n2 : ¬ x.at' = 2 := by omega
  have n3 : ¬ x.at' = 3 := by omega
  unfold Pu.stepM Pu.stepA
  simp only [if_neg n1, if_neg n2, if_neg n3, touchR_yes o]
theorem Pu.s1 {x : Pu} (h : x.at' = 1) {lk : Int} (hl : w64 (x.pl.links + w64 (Int.tdiv x.base 8)) = lk) (o : A.rawOk lk) : (x.stepM A, x.stepA A) = ({ x with at' := 2 }, A.tick.setR lk.toNat (iand x.was 131071)) := by
  unfold Pu.stepM Pu.stepA
  simp only [if_pos h, hl]
  unfold Ar.storeR; rw [if_pos o]
theorem Pu.s2y {x : Pu} (h : x.at' = 2) (o : A.rawOk x.head) (e : A.rawF x.head = x.was) : (x.stepM A, x.stepA A) = ({ x with at' := 3 }, A.tick.setR x.head.toNat (nextF x.was (w64 (w64 (Int.tdiv x.base 8) + 1)))) := by
  have n1 : ¬ x.at' = 1 := by omega
  have e' := (getD_rawF o).trans e
  have sb : A.swapRb x.head x.was = true := decide_eq_true ⟨o, e'⟩
  unfold Pu.stepM Pu.stepA
  simp only [if_neg n1, if_pos h, sb, if_true]
  unfold Ar.swapR; rw [if_pos o, if_pos e']
theorem Pu.s2n {x : Pu} (h : x.at' = 2) (o : A.rawOk x.head) (e : A.rawF x.head ≠ x.was) : (x.stepM A, x.stepA A) = ({ x with at' := 0 }, A.tick) := by
  have n1 : ¬ x.at' = 1 := by omega
  have e' : A.raw.getD x.head.toNat 0 ≠ x.was := by rw [getD_rawF o]; exact e
  have sb : A.swapRb x.head x.was = false := decide_eq_false fun h => e' h.2
  unfold Pu.stepM Pu.stepA
  simp only [if_neg n1, if_pos h, sb, Bool.false_eq_true, if_false]
  unfold Ar.swapR; rw [if_pos o, if_neg e']
theorem Pu.s3 {x : Pu} (h : x.at' = 3) : (x.stepM A, x.stepA A) = (x, A) := by
  have n1 : ¬ x.at' = 1 := by omega
  have n2 : ¬ x.at' = 2 := by omega
  unfold Pu.stepM Pu.stepA
  simp only [if_neg n1, if_neg n2, if_pos h]

theorem Po.s0 {x : Po} (h : x.at' = 0) (o : A.rawOk x.head) : (x.stepM A, x.stepA A) = ({ x with was := A.rawF x.head, at' := if A.rawF x.head % 131072 = 0 then 3 else 1 }, A.tick) := by
  have n1 : ¬ x.at' = 1 := by omega
  have n2 : ¬ x.at' = 2 := by omega
  have n3 : ¬ x.at' = 3 := by omega
  unfold Po.stepM Po.stepA
  simp only [if_neg n1, if_neg n2, if_neg n3, touchR_yes o, mask17]
theorem Po.s1 {x : Po} (h : x.at' = 1) {lk : Int} (hl : w64 (w64 (x.pl.links + x.was % 131072) - 1) = lk) (o : A.rawOk lk) : (x.stepM A, x.stepA A) = ({ x with link := A.rawF lk, at' := 2 }, A.tick) := by
  unfold Po.stepM Po.stepA
  simp only [if_pos h, mask17, hl, touchR_yes o]
theorem Po.s2y {x : Po} (h : x.at' = 2) (o : A.rawOk x.head) (e : A.rawF x.head = x.was) : (x.stepM A, x.stepA A) = ({ x with at' := 3, base := w64 (w64 (x.was % 131072 - 1) * 8), ok := true }, A.tick.setR x.head.toNat (nextF x.was x.link)) := by
  have n1 : ¬ x.at' = 1 := by omega
  have e' := (getD_rawF o).trans e
  have sb : A.swapRb x.head x.was = true := decide_eq_true ⟨o, e'⟩
  unfold Po.stepM Po.stepA
  simp only [if_neg n1, if_pos h, sb, if_true, mask17]
  unfold Ar.swapR; rw [if_pos o, if_pos e']
theorem Po.s2n {x : Po} (h : x.at' = 2) (o : A.rawOk x.head) (e : A.rawF x.head ≠ x.was) : (x.stepM A, x.stepA A) = ({ x with at' := 0 }, A.tick) := by
  have n1 : ¬ x.at' = 1 := by omega
  have e' : A.raw.getD x.head.toNat 0 ≠ x.was := by rw [getD_rawF o]; exact e
  have sb : A.swapRb x.head x.was = false := decide_eq_false fun h => e' h.2
  unfold Po.stepM Po.stepA
  simp only [if_neg n1, if_pos h, sb, Bool.false_eq_true, if_false]
  unfold Ar.swapR; rw [if_pos o, if_neg e']
theorem Po.s3 {x : Po} (h : x.at' = 3) : (x.stepM A, x.stepA A) = (x, A) := by
  have n1 : ¬ x.at' = 1 := by omega
  have n2 : ¬ x.at' = 2 := by omega
  unfold Po.stepM Po.stepA
  simp only [if_neg n1, if_neg n2, if_pos h]

theorem tick_uses (h0 : 0 ≤ A.uses) (h : A.uses ≤ 4000000000000000000) : A.tick = A.later 1 := by
  unfold Ar.tick Ar.later; rw [w64_in (by omega) (by omega)]
end
end Go.Proofs.Ytfphgiipekkgdaa

set_option linter.unusedVariables false
set_option maxRecDepth 10000
namespace Go.Proofs.Ytfphgiipekkgdaa
open Go Go.Fw
/- magpie/slab.NewAlloc -/
noncomputable def t_slab_NewAlloc (p0_0 : Int) (p0_1 : Int) (p0_2 : Int) (p0_3 : Int) (p0_4 : Int) (p1 : Int) (p2 : Int) : Tree :=
  .newP (.cells #[(.int .i64 p0_0), (.int .i64 p0_1), (.int .i64 p0_2), (.int .i64 p0_3), (.int .i64 p0_4)] ty_free_Place) fun x3 =>
  .ldA x3 [(.int .i64), (.int .i64), (.int .i64), (.int .i64), (.int .i64)] fun x8 =>
  .newP (.cells #[(.pointer none), (.int .i64 x8.1), (.int .i64 x8.2.1), (.int .i64 x8.2.2.1), (.int .i64 x8.2.2.2.1), (.int .i64 x8.2.2.2.2.1), (.int .i64 p1), (.int .i64 p2), (.int .i64 0), (.int .i64 0), (.int .i64 0), (.int .i64 0)] ty_slab_Alloc) fun x12 =>
  .qcall f_handle_Size [(.int .i64 p2)] (.one (.leaf (.int .i64))) fun x14 =>
  bif ((x14 : Int) == 0) then (
    .look (opS Try.prog (.nilCheck (.tmp 0)) ty_unit [(.pointer (some x12))]) (.one (.leaf .addr)) fun x17 =>
    .st (x17.add 9) (.int .i64 4) <|
    .ret (.pointer (some x12)))
  else (
    .ldA x3 [(.int .i64), (.int .i64), (.int .i64), (.int .i64), (.int .i64)] fun x20 =>
    .call f_free_NewPop [(.agg #[(.int .i64 x20.1), (.int .i64 x20.2.1), (.int .i64 x20.2.2.1), (.int .i64 x20.2.2.2.1), (.int .i64 x20.2.2.2.2.1)]), (.int .i64 p1), (.int .i64 p2)] (.one (.leaf .ptr)) fun x23 =>
    .look (opS Try.prog (.nilCheck (.tmp 0)) ty_unit [(.pointer (some x12))]) (.one (.leaf .addr)) fun x24 =>
    .st x24 (.pointer x23) <|
    .ret (.pointer (some x12)))
theorem t_slab_NewAlloc_eq (p0_0 : Int) (p0_1 : Int) (p0_2 : Int) (p0_3 : Int) (p0_4 : Int) (p1 : Int) (p2 : Int) : funcTree Try.prog { quiet := [16, 22, 23, 34, 35, 48, 49, 53, 57, 58, 59, 62, 105], quietTmp := true, fncs := [], ifcs := [] } Try.f19 [(.agg #[(.int .i64 p0_0), (.int .i64 p0_1), (.int .i64 p0_2), (.int .i64 p0_3), (.int .i64 p0_4)]), (.int .i64 p1), (.int .i64 p2)] = t_slab_NewAlloc p0_0 p0_1 p0_2 p0_3 p0_4 p1 p2 := by kernel_rfl
theorem t_slab_NewAlloc_spec {p0_0 : Int} {p0_1 : Int} {p0_2 : Int} {p0_3 : Int} {p0_4 : Int} {p1 : Int} {p2 : Int} {H : Heap} {R : Value → Heap → Prop} (h : ∀ L, wp Try.prog (t_slab_NewAlloc p0_0 p0_1 p0_2 p0_3 p0_4 p1 p2) L H R) : SpecF Try.prog f_slab_NewAlloc #[(.agg #[(.int .i64 p0_0), (.int .i64 p0_1), (.int .i64 p0_2), (.int .i64 p0_3), (.int .i64 p0_4)]), (.int .i64 p1), (.int .i64 p2)] H R :=
  spec_of_tree (cfg := { quiet := [16, 22, 23, 34, 35, 48, 49, 53, 57, 58, 59, 62, 105], quietTmp := true, fncs := [], ifcs := [] }) Try.func19 fun L => (t_slab_NewAlloc_eq p0_0 p0_1 p0_2 p0_3 p0_4 p1 p2).symm ▸ h L

/- magpie/slab.NewFree -/
noncomputable def t_slab_NewFree (p0_0 : Int) (p0_1 : Int) (p0_2 : Int) (p0_3 : Int) (p0_4 : Int) (p1 : Int) (p2 : Int) : Tree :=
  .newP (.cells #[(.int .i64 p0_0), (.int .i64 p0_1), (.int .i64 p0_2), (.int .i64 p0_3), (.int .i64 p0_4)] ty_free_Place) fun x3 =>
  .qcall f_handle_Open [(.int .i64 p2)] (.tup [(.leaf (.int .i64)), (.leaf (.int .i64)), (.leaf (.int .i64)), (.leaf .bool)]) fun x13 =>
  .ldA x3 [(.int .i64), (.int .i64), (.int .i64), (.int .i64), (.int .i64)] fun x18 =>
  .call f_free_NewPush [(.agg #[(.int .i64 x18.1), (.int .i64 x18.2.1), (.int .i64 x18.2.2.1), (.int .i64 x18.2.2.2.1), (.int .i64 x18.2.2.2.2.1)]), (.int .i64 p1), (.int .i64 x13.2.2.1), (.int .i64 x13.1)] (.one (.leaf .ptr)) fun x22 =>
  .newP (.cells #[(.pointer x22), (.int .i64 p2), (.bool false)] ty_slab_Free) fun x25 =>
  .ret (.pointer (some x25))
theorem t_slab_NewFree_eq (p0_0 : Int) (p0_1 : Int) (p0_2 : Int) (p0_3 : Int) (p0_4 : Int) (p1 : Int) (p2 : Int) : funcTree Try.prog { quiet := [16, 22, 23, 34, 35, 48, 49, 53, 57, 58, 59, 62, 105], quietTmp := true, fncs := [], ifcs := [] } Try.f27 [(.agg #[(.int .i64 p0_0), (.int .i64 p0_1), (.int .i64 p0_2), (.int .i64 p0_3), (.int .i64 p0_4)]), (.int .i64 p1), (.int .i64 p2)] = t_slab_NewFree p0_0 p0_1 p0_2 p0_3 p0_4 p1 p2 := by kernel_rfl
theorem t_slab_NewFree_spec {p0_0 : Int} {p0_1 : Int} {p0_2 : Int} {p0_3 : Int} {p0_4 : Int} {p1 : Int} {p2 : Int} {H : Heap} {R : Value → Heap → Prop} (h : ∀ L, wp Try.prog (t_slab_NewFree p0_0 p0_1 p0_2 p0_3 p0_4 p1 p2) L H R) : SpecF Try.prog f_slab_NewFree #[(.agg #[(.int .i64 p0_0), (.int .i64 p0_1), (.int .i64 p0_2), (.int .i64 p0_3), (.int .i64 p0_4)]), (.int .i64 p1), (.int .i64 p2)] H R :=
  spec_of_tree (cfg := { quiet := [16, 22, 23, 34, 35, 48, 49, 53, 57, 58, 59, 62, 105], quietTmp := true, fncs := [], ifcs := [] }) Try.func27 fun L => (t_slab_NewFree_eq p0_0 p0_1 p0_2 p0_3 p0_4 p1 p2).symm ▸ h L

/- (*magpie/slab.Alloc).Step -/
noncomputable def t_slab_Alloc_Step (p0 : Option Addr) (p1 : Option Addr) : Tree :=
  .look (opS Try.prog (.nilCheck (.tmp 0)) ty_unit [(.pointer p0)]) (.one (.leaf .addr)) fun x7 =>
  .ld (x7.add 9) (.int .i64) fun x9 =>
  bif ((x9 : Int) == 0) then (
    .look (opS Try.prog (.nilCheck (.tmp 0)) ty_unit [(.pointer p0)]) (.one (.leaf .addr)) fun x13 =>
    .ld x13 .ptr fun x15 =>
    .call f_free_Pop_Step [(.pointer x15), (.pointer p1)] (.one (.leaf .bool)) fun x17 =>
    bif x17 then (
      .call f_slab_Alloc_popped [(.pointer p0)] .unit fun _ =>
      .look (opS Try.prog (.nilCheck (.tmp 0)) ty_unit [(.pointer p0)]) (.one (.leaf .addr)) fun x119 =>
      .ld (x119.add 9) (.int .i64) fun x121 =>
      .ret (.bool ((x121 : Int) == 4)))
    else (
      .look (opS Try.prog (.nilCheck (.tmp 0)) ty_unit [(.pointer p0)]) (.one (.leaf .addr)) fun x119 =>
      .ld (x119.add 9) (.int .i64) fun x121 =>
      .ret (.bool ((x121 : Int) == 4))))
  else (
    bif ((x9 : Int) == 1) then (
      .look (opS Try.prog (.nilCheck (.tmp 0)) ty_unit [(.pointer p0)]) (.one (.leaf .addr)) fun x25 =>
      .ld ((x25.add 1).add 4) (.int .i64) fun x28 =>
      .call f_arena_Arena_Raw [(.pointer p1), (.int .i64 x28)] (.one (.leaf (.int .i64))) fun x29 =>
      .look (opS Try.prog (.nilCheck (.tmp 0)) ty_unit [(.pointer p0)]) (.one (.leaf .addr)) fun x30 =>
      .st (x30.add 10) (.int .i64 x29) <|
      .look (opS Try.prog (.nilCheck (.tmp 0)) ty_unit [(.pointer p0)]) (.one (.leaf .addr)) fun x33 =>
      .st (x33.add 9) (.int .i64 2) <|
      .look (opS Try.prog (.nilCheck (.tmp 0)) ty_unit [(.pointer p0)]) (.one (.leaf .addr)) fun x36 =>
      .ld (x36.add 10) (.int .i64) fun x38 =>
      .look (opS Try.prog (.nilCheck (.tmp 0)) ty_unit [(.pointer p0)]) (.one (.leaf .addr)) fun x42 =>
      .ld (x42.add 7) (.int .i64) fun x44 =>
      .call f_arena_Arena_Words [(.pointer p1)] (.one (.leaf (.int .i64))) fun x40 =>
      .check (ldS (x42.add 7)) (.int .i64 x44) <|
      .check (opS Try.prog (.nilCheck (.tmp 0)) ty_unit [(.pointer p0)]) (.pointer (some x42)) <|
      .check (ldS (x36.add 10)) (.int .i64 x38) <|
      .check (opS Try.prog (.nilCheck (.tmp 0)) ty_unit [(.pointer p0)]) (.pointer (some x36)) <|
      .qcall f_handle_Size [(.int .i64 x44)] (.one (.leaf (.int .i64))) fun x45 =>
      bif (decide ((x38 : Int) > (w64 (x40 - x45)))) then (
        .look (opS Try.prog (.nilCheck (.tmp 0)) ty_unit [(.pointer p0)]) (.one (.leaf .addr)) fun x49 =>
        .st (x49.add 9) (.int .i64 4) <|
        .look (opS Try.prog (.nilCheck (.tmp 0)) ty_unit [(.pointer p0)]) (.one (.leaf .addr)) fun x119 =>
        .ld (x119.add 9) (.int .i64) fun x121 =>
        .ret (.bool ((x121 : Int) == 4)))
      else (
        .look (opS Try.prog (.nilCheck (.tmp 0)) ty_unit [(.pointer p0)]) (.one (.leaf .addr)) fun x119 =>
        .ld (x119.add 9) (.int .i64) fun x121 =>
        .ret (.bool ((x121 : Int) == 4))))
    else (
      bif ((x9 : Int) == 2) then (
        .look (opS Try.prog (.nilCheck (.tmp 0)) ty_unit [(.pointer p0)]) (.one (.leaf .addr)) fun x54 =>
        .st (x54.add 9) (.int .i64 1) <|
        .look (opS Try.prog (.nilCheck (.tmp 0)) ty_unit [(.pointer p0)]) (.one (.leaf .addr)) fun x58 =>
        .ld ((x58.add 1).add 4) (.int .i64) fun x61 =>
        .look (opS Try.prog (.nilCheck (.tmp 0)) ty_unit [(.pointer p0)]) (.one (.leaf .addr)) fun x63 =>
        .ld (x63.add 10) (.int .i64) fun x65 =>
        .look (opS Try.prog (.nilCheck (.tmp 0)) ty_unit [(.pointer p0)]) (.one (.leaf .addr)) fun x67 =>
        .ld (x67.add 10) (.int .i64) fun x69 =>
        .look (opS Try.prog (.nilCheck (.tmp 0)) ty_unit [(.pointer p0)]) (.one (.leaf .addr)) fun x71 =>
        .ld (x71.add 7) (.int .i64) fun x73 =>
        .qcall f_handle_Size [(.int .i64 x73)] (.one (.leaf (.int .i64))) fun x74 =>
        .call f_arena_Arena_SwapRaw [(.pointer p1), (.int .i64 x61), (.int .i64 x65), (.int .i64 (w64 (x69 + x74)))] (.one (.leaf .bool)) fun x76 =>
        bif x76 then (
          .look (opS Try.prog (.nilCheck (.tmp 0)) ty_unit [(.pointer p0)]) (.one (.leaf .addr)) fun x78 =>
          .st (x78.add 9) (.int .i64 3) <|
          .look (opS Try.prog (.nilCheck (.tmp 0)) ty_unit [(.pointer p0)]) (.one (.leaf .addr)) fun x119 =>
          .ld (x119.add 9) (.int .i64) fun x121 =>
          .ret (.bool ((x121 : Int) == 4)))
        else (
          .look (opS Try.prog (.nilCheck (.tmp 0)) ty_unit [(.pointer p0)]) (.one (.leaf .addr)) fun x119 =>
          .ld (x119.add 9) (.int .i64) fun x121 =>
          .ret (.bool ((x121 : Int) == 4))))
      else (
        bif ((x9 : Int) == 3) then (
          .look (opS Try.prog (.nilCheck (.tmp 0)) ty_unit [(.pointer p0)]) (.one (.leaf .addr)) fun x84 =>
          .ld ((x84.add 1).add 3) (.int .i64) fun x87 =>
          .look (opS Try.prog (.nilCheck (.tmp 0)) ty_unit [(.pointer p0)]) (.one (.leaf .addr)) fun x89 =>
          .ld (x89.add 10) (.int .i64) fun x91 =>
          .call f_arena_Arena_AddRaw [(.pointer p1), (.int .i64 (w64 (x87 + (w64 (Int.tdiv x91 8))))), (.int .i64 1)] (.one (.leaf (.int .i64))) fun x94 =>
          .look (opS Try.prog (.nilCheck (.tmp 0)) ty_unit [(.pointer p0)]) (.one (.leaf .addr)) fun x99 =>
          .ld (x99.add 10) (.int .i64) fun x101 =>
          .look (opS Try.prog (.nilCheck (.tmp 0)) ty_unit [(.pointer p0)]) (.one (.leaf .addr)) fun x104 =>
          .ld (x104.add 7) (.int .i64) fun x106 =>
          .qcall f_handle_Pack [(.int .i64 x101), (.int .i64 (w64 (x94 + 1))), (.int .i64 x106)] (.one (.leaf (.int .i64))) fun x107 =>
          .look (opS Try.prog (.nilCheck (.tmp 0)) ty_unit [(.pointer p0)]) (.one (.leaf .addr)) fun x108 =>
          .st (x108.add 11) (.int .i64 x107) <|
          .look (opS Try.prog (.nilCheck (.tmp 0)) ty_unit [(.pointer p0)]) (.one (.leaf .addr)) fun x110 =>
          .st (x110.add 9) (.int .i64 4) <|
          .look (opS Try.prog (.nilCheck (.tmp 0)) ty_unit [(.pointer p0)]) (.one (.leaf .addr)) fun x114 =>
          .ld (x114.add 11) (.int .i64) fun x116 =>
          .call f_arena_Arena_Born [(.pointer p1), (.int .i64 x116)] (.one (.leaf .bool)) fun x117 =>
          .look (opS Try.prog (.nilCheck (.tmp 0)) ty_unit [(.pointer p0)]) (.one (.leaf .addr)) fun x119 =>
          .ld (x119.add 9) (.int .i64) fun x121 =>
          .ret (.bool ((x121 : Int) == 4)))
        else (
          .look (opS Try.prog (.nilCheck (.tmp 0)) ty_unit [(.pointer p0)]) (.one (.leaf .addr)) fun x119 =>
          .ld (x119.add 9) (.int .i64) fun x121 =>
          .ret (.bool ((x121 : Int) == 4))))))
theorem t_slab_Alloc_Step_eq (p0 : Option Addr) (p1 : Option Addr) : funcTree Try.prog { quiet := [16, 22, 23, 34, 35, 48, 49, 53, 57, 58, 59, 62, 105], quietTmp := true, fncs := [], ifcs := [] } Try.f43 [(.pointer p0), (.pointer p1)] = t_slab_Alloc_Step p0 p1 := by kernel_rfl
theorem t_slab_Alloc_Step_spec {p0 : Option Addr} {p1 : Option Addr} {H : Heap} {R : Value → Heap → Prop} (h : ∀ L, wp Try.prog (t_slab_Alloc_Step p0 p1) L H R) : SpecF Try.prog f_slab_Alloc_Step #[(.pointer p0), (.pointer p1)] H R :=
  spec_of_tree (cfg := { quiet := [16, 22, 23, 34, 35, 48, 49, 53, 57, 58, 59, 62, 105], quietTmp := true, fncs := [], ifcs := [] }) Try.func43 fun L => (t_slab_Alloc_Step_eq p0 p1).symm ▸ h L

/- (*magpie/slab.Alloc).popped -/
noncomputable def t_slab_Alloc_popped (p0 : Option Addr) : Tree :=
  .look (opS Try.prog (.nilCheck (.tmp 0)) ty_unit [(.pointer p0)]) (.one (.leaf .addr)) fun x6 =>
  .ld x6 .ptr fun x8 =>
  .call f_free_Pop_Base [(.pointer x8)] (.tup [(.leaf (.int .i64)), (.leaf .bool)]) fun x9 =>
  .look (opS Try.prog (.nilCheck (.tmp 0)) ty_unit [(.pointer p0)]) (.one (.leaf .addr)) fun x13 =>
  .ld (x13.add 8) (.int .i64) fun x15 =>
  .look (opS Try.prog (.nilCheck (.tmp 0)) ty_unit [(.pointer p0)]) (.one (.leaf .addr)) fun x17 =>
  .st (x17.add 8) (.int .i64 (w64 (x15 + 1))) <|
  bif x9.2.1 then (
    .look (opS Try.prog (.nilCheck (.tmp 0)) ty_unit [(.pointer p0)]) (.one (.leaf .addr)) fun x23 =>
    .st (x23.add 10) (.int .i64 x9.1) <|
    .look (opS Try.prog (.nilCheck (.tmp 0)) ty_unit [(.pointer p0)]) (.one (.leaf .addr)) fun x25 =>
    .st (x25.add 9) (.int .i64 3) <|
    .ret (.tuple #[]))
  else (
    .look (opS Try.prog (.nilCheck (.tmp 0)) ty_unit [(.pointer p0)]) (.one (.leaf .addr)) fun x28 =>
    .ld (x28.add 8) (.int .i64) fun x30 =>
    .look (opS Try.prog (.nilCheck (.tmp 0)) ty_unit [(.pointer p0)]) (.one (.leaf .addr)) fun x32 =>
    .ld (x32.add 1) (.int .i64) fun x35 =>
    bif (decide ((x30 : Int) ≥ (imax x35 1))) then (
      .look (opS Try.prog (.nilCheck (.tmp 0)) ty_unit [(.pointer p0)]) (.one (.leaf .addr)) fun x39 =>
      .st (x39.add 9) (.int .i64 1) <|
      .ret (.tuple #[]))
    else (
      .look (opS Try.prog (.nilCheck (.tmp 0)) ty_unit [(.pointer p0)]) (.one (.leaf .addr)) fun x43 =>
      .ldA (x43.add 1) [(.int .i64), (.int .i64), (.int .i64), (.int .i64), (.int .i64)] fun x45 =>
      .look (opS Try.prog (.nilCheck (.tmp 0)) ty_unit [(.pointer p0)]) (.one (.leaf .addr)) fun x47 =>
      .ld (x47.add 6) (.int .i64) fun x49 =>
      .look (opS Try.prog (.nilCheck (.tmp 0)) ty_unit [(.pointer p0)]) (.one (.leaf .addr)) fun x51 =>
      .ld (x51.add 8) (.int .i64) fun x53 =>
      .look (opS Try.prog (.nilCheck (.tmp 0)) ty_unit [(.pointer p0)]) (.one (.leaf .addr)) fun x56 =>
      .ld (x56.add 1) (.int .i64) fun x59 =>
      .look (opS Try.prog (.binOp .rem ty_int (.tmp 0) (.tmp 1) ty_int) ty_int [(.int .i64 (w64 (x49 + x53))), (.int .i64 x59)]) (.one (.leaf (.int .i64))) fun x60 =>
      .look (opS Try.prog (.nilCheck (.tmp 0)) ty_unit [(.pointer p0)]) (.one (.leaf .addr)) fun x62 =>
      .ld (x62.add 7) (.int .i64) fun x64 =>
      .call f_free_NewPop [(.agg #[(.int .i64 x45.1), (.int .i64 x45.2.1), (.int .i64 x45.2.2.1), (.int .i64 x45.2.2.2.1), (.int .i64 x45.2.2.2.2.1)]), (.int .i64 x60), (.int .i64 x64)] (.one (.leaf .ptr)) fun x65 =>
      .look (opS Try.prog (.nilCheck (.tmp 0)) ty_unit [(.pointer p0)]) (.one (.leaf .addr)) fun x66 =>
      .st x66 (.pointer x65) <|
      .ret (.tuple #[])))
theorem t_slab_Alloc_popped_eq (p0 : Option Addr) : funcTree Try.prog { quiet := [16, 22, 23, 34, 35, 48, 49, 53, 57, 58, 59, 62, 105], quietTmp := true, fncs := [], ifcs := [] } Try.f70 [(.pointer p0)] = t_slab_Alloc_popped p0 := by kernel_rfl
theorem t_slab_Alloc_popped_spec {p0 : Option Addr} {H : Heap} {R : Value → Heap → Prop} (h : ∀ L, wp Try.prog (t_slab_Alloc_popped p0) L H R) : SpecF Try.prog f_slab_Alloc_popped #[(.pointer p0)] H R :=
  spec_of_tree (cfg := { quiet := [16, 22, 23, 34, 35, 48, 49, 53, 57, 58, 59, 62, 105], quietTmp := true, fncs := [], ifcs := [] }) Try.func70 fun L => (t_slab_Alloc_popped_eq p0).symm ▸ h L

/- (*magpie/slab.Alloc).Handle -/
noncomputable def t_slab_Alloc_Handle (p0 : Option Addr) : Tree :=
  .look (opS Try.prog (.nilCheck (.tmp 0)) ty_unit [(.pointer p0)]) (.one (.leaf .addr)) fun x5 =>
  .ld (x5.add 11) (.int .i64) fun x7 =>
  .look (opS Try.prog (.nilCheck (.tmp 0)) ty_unit [(.pointer p0)]) (.one (.leaf .addr)) fun x9 =>
  .ld (x9.add 11) (.int .i64) fun x11 =>
  .ret (.tuple #[(.int .i64 x7), (.bool ((x11 : Int) != 0))])
theorem t_slab_Alloc_Handle_eq (p0 : Option Addr) : funcTree Try.prog { quiet := [16, 22, 23, 34, 35, 48, 49, 53, 57, 58, 59, 62, 105], quietTmp := true, fncs := [], ifcs := [] } Try.f21 [(.pointer p0)] = t_slab_Alloc_Handle p0 := by kernel_rfl
theorem t_slab_Alloc_Handle_spec {p0 : Option Addr} {H : Heap} {R : Value → Heap → Prop} (h : ∀ L, wp Try.prog (t_slab_Alloc_Handle p0) L H R) : SpecF Try.prog f_slab_Alloc_Handle #[(.pointer p0)] H R :=
  spec_of_tree (cfg := { quiet := [16, 22, 23, 34, 35, 48, 49, 53, 57, 58, 59, 62, 105], quietTmp := true, fncs := [], ifcs := [] }) Try.func21 fun L => (t_slab_Alloc_Handle_eq p0).symm ▸ h L

/- (*magpie/slab.Free).Step -/
noncomputable def t_slab_Free_Step (p0 : Option Addr) (p1 : Option Addr) : Tree :=
  .look (opS Try.prog (.nilCheck (.tmp 0)) ty_unit [(.pointer p0)]) (.one (.leaf .addr)) fun x6 =>
  .ld (x6.add 2) .bool fun x8 =>
  bif (!x8) then (
    .look (opS Try.prog (.nilCheck (.tmp 0)) ty_unit [(.pointer p0)]) (.one (.leaf .addr)) fun x12 =>
    .ld x12 .ptr fun x14 =>
    .call f_free_Push_Step [(.pointer x14), (.pointer p1)] (.one (.leaf .bool)) fun x16 =>
    bif x16 then (
      .look (opS Try.prog (.nilCheck (.tmp 0)) ty_unit [(.pointer p0)]) (.one (.leaf .addr)) fun x19 =>
      .st (x19.add 2) (.bool true) <|
      .look (opS Try.prog (.nilCheck (.tmp 0)) ty_unit [(.pointer p0)]) (.one (.leaf .addr)) fun x23 =>
      .ld (x23.add 1) (.int .i64) fun x25 =>
      .call f_arena_Arena_Died [(.pointer p1), (.int .i64 x25)] (.one (.leaf .bool)) fun x26 =>
      .look (opS Try.prog (.nilCheck (.tmp 0)) ty_unit [(.pointer p0)]) (.one (.leaf .addr)) fun x28 =>
      .ld (x28.add 2) .bool fun x30 =>
      .ret (.bool x30))
    else (
      .look (opS Try.prog (.nilCheck (.tmp 0)) ty_unit [(.pointer p0)]) (.one (.leaf .addr)) fun x28 =>
      .ld (x28.add 2) .bool fun x30 =>
      .ret (.bool x30)))
  else (
    .look (opS Try.prog (.nilCheck (.tmp 0)) ty_unit [(.pointer p0)]) (.one (.leaf .addr)) fun x28 =>
    .ld (x28.add 2) .bool fun x30 =>
    .ret (.bool x30))
theorem t_slab_Free_Step_eq (p0 : Option Addr) (p1 : Option Addr) : funcTree Try.prog { quiet := [16, 22, 23, 34, 35, 48, 49, 53, 57, 58, 59, 62, 105], quietTmp := true, fncs := [], ifcs := [] } Try.f68 [(.pointer p0), (.pointer p1)] = t_slab_Free_Step p0 p1 := by kernel_rfl
theorem t_slab_Free_Step_spec {p0 : Option Addr} {p1 : Option Addr} {H : Heap} {R : Value → Heap → Prop} (h : ∀ L, wp Try.prog (t_slab_Free_Step p0 p1) L H R) : SpecF Try.prog f_slab_Free_Step #[(.pointer p0), (.pointer p1)] H R :=
  spec_of_tree (cfg := { quiet := [16, 22, 23, 34, 35, 48, 49, 53, 57, 58, 59, 62, 105], quietTmp := true, fncs := [], ifcs := [] }) Try.func68 fun L => (t_slab_Free_Step_eq p0 p1).symm ▸ h L

end Go.Proofs.Ytfphgiipekkgdaa

set_option linter.unusedVariables false
set_option maxRecDepth 20000
namespace Go.Proofs.Ytfphgiipekkgdaa
open Go Go.Fw

/-- An alloc. -/
structure Al where
  pl : Pl
  work : Int
  cls : Int
  lst : Int
  what : Int
  base : Int
  h : Int
  po : Po

def Al.cells (x : Al) (q0 : Nat) : List Value := [.pointer (some ⟨q0, 0, none⟩), .int .i64 x.pl.work, .int .i64 x.pl.heads, .int .i64 x.pl.links, .int .i64 x.pl.gens, .int .i64 x.pl.carved, .int .i64 x.work, .int .i64 x.cls, .int .i64 x.lst, .int .i64 x.what, .int .i64 x.base, .int .i64 x.h]
def Al.bl (x : Al) (j : Nat × Nat × Nat) : Bl := [(j.1, oc ty_slab_Alloc (x.cells j.2.1)), (j.2.1, popObj j.2.2), (j.2.2, x.po.obj)]

def newPo (p : Pl) (w c : Int) : Po := ⟨p, headF p w c, 0, 0, 0, 0, false⟩

/-- A list has told. -/
def Al.popd (x : Al) : Al :=
  if x.po.ok then { x with lst := w64 (x.lst + 1), base := x.po.base, what := 3 }
  else if w64 (x.lst + 1) ≥ imax x.pl.work 1 then { x with lst := w64 (x.lst + 1), what := 1 }
  else { x with lst := w64 (x.lst + 1), po := newPo x.pl (Int.tmod (w64 (x.work + w64 (x.lst + 1))) x.pl.work) x.cls }

def Al.step (x : Al) (A : Ar) : Al × Ar :=
  if x.what = 0 then (if x.po.stepB A then Al.popd { x with po := x.po.stepM A } else { x with po := x.po.stepM A }, x.po.stepA A)
  else if x.what = 1 then ({ x with base := A.rawF x.pl.carved, what := if A.rawF x.pl.carved > w64 (A.words.length - sizeF x.cls) then 4 else 2 }, A.touchR x.pl.carved)
  else if x.what = 2 then ({ x with what := if A.swapRb x.pl.carved x.base then 3 else 1 }, A.swapR x.pl.carved x.base (w64 (x.base + sizeF x.cls)))
  else if x.what = 3 then
    let i := w64 (x.pl.gens + w64 (Int.tdiv x.base 8))
    let h := packF x.base (w64 (A.rawF i + 1)) x.cls
    ({ x with h := h, what := 4 }, (A.storeR i (w64 (A.rawF i + 1))).bornX h)
  else (x, A)

def mAl : Mch Al (Nat × Nat × Nat) where
  f := f_slab_Alloc_Step
  addr := fun j => j.1
  bl := Al.bl
  inv := fun x _ => 0 ≤ x.lst ∧ x.lst ≤ 1000000
  step := Al.step
  fin := fun x => (x.what : Int) == 4

theorem popped_spec {I : List Nat} {A : Ar} {G : Heap} (x : Al) {q q0 q1 : Nat} (hA : Aw I A) (ok : Ok I G [q, q0, q1]) (hl : 0 ≤ x.lst ∧ x.lst ≤ 1000000) :
    SpecF Try.prog f_slab_Alloc_popped #[.pointer (some ⟨q, 0, none⟩)] (own A (x.bl (q, q0, q1)) G) fun v K => ∃ q0' q1', v = .tuple #[] ∧ K = own A (x.popd.bl (q, q0', q1')) G ∧ Ok I G [q, q0', q1'] := by
  refine t_slab_Alloc_popped_spec fun L => ?_
  unfold t_slab_Alloc_popped Al.bl Al.popd
  have e1 : w64 (x.lst + 1) = x.lst + 1 := w64_in (by omega) (by omega)
  repeat (first
  | refine wp_nil.2 ?_
  | refine w_ld 0 hA ok rfl rfl rfl ?_
  | refine w_ld 1 hA ok rfl rfl rfl ?_
  | refine w_ld 2 hA ok rfl rfl rfl ?_
  | refine w_ld 3 hA ok rfl rfl rfl ?_
  | refine w_ld 4 hA ok rfl rfl rfl ?_
  | refine w_ld 5 hA ok rfl rfl rfl ?_
  | refine w_ld 6 hA ok rfl rfl rfl ?_
  | refine w_ld 7 hA ok rfl rfl rfl ?_
  | refine w_st 0 hA ok rfl rfl rfl rfl ?_
  | refine w_st 1 hA ok rfl rfl rfl rfl ?_
  | refine w_st 2 hA ok rfl rfl rfl rfl ?_
  | refine w_st 3 hA ok rfl rfl rfl rfl ?_
  | refine w_st 4 hA ok rfl rfl rfl rfl ?_
  | refine w_st 5 hA ok rfl rfl rfl rfl ?_
  | refine w_st 6 hA ok rfl rfl rfl rfl ?_
  | refine w_st 7 hA ok rfl rfl rfl rfl ?_
  | refine w_ldA 0 hA ok rfl rfl rfl ?_
  | refine w_ldA 1 hA ok rfl rfl rfl ?_
  | refine w_ldA 2 hA ok rfl rfl rfl ?_
  | refine w_ldA 3 hA ok rfl rfl rfl ?_
  | refine w_ldA 4 hA ok rfl rfl rfl ?_
  | refine w_ldA 5 hA ok rfl rfl rfl ?_
  | refine w_ldA 6 hA ok rfl rfl rfl ?_
  | refine w_ldA 7 hA ok rfl rfl rfl ?_
  | refine w_stA 0 hA ok rfl rfl rfl rfl ?_
  | refine w_stA 1 hA ok rfl rfl rfl rfl ?_
  | refine w_stA 2 hA ok rfl rfl rfl rfl ?_
  | refine w_stA 3 hA ok rfl rfl rfl rfl ?_
  | refine w_stA 4 hA ok rfl rfl rfl rfl ?_
  | refine w_stA 5 hA ok rfl rfl rfl rfl ?_
  | refine w_stA 6 hA ok rfl rfl rfl rfl ?_
  | refine w_stA 7 hA ok rfl rfl rfl rfl ?_
  | (refine w_Raw hA ?_; intro hA)
  | (refine w_SetRaw hA ?_; intro hA)
  | (refine w_SwapRaw hA ?_; intro hA)
  | (refine w_AddRaw hA ?_; intro hA)
  | (refine w_Load hA ?_; intro hA)
  | (refine w_Store hA ?_; intro hA)
  | (refine w_Retire hA ?_; intro hA)
  | (refine w_Died hA ?_; intro hA)
  | (refine w_Born hA ?_; intro hA)
  | refine w_State hA ?_
  | refine w_Uses hA ?_
  | refine w_Fault hA ?_
  | refine w_Words hA ?_
  | refine w_Count hA ?_
  | refine wq_Size ?_
  | refine wq_Open ?_
  | refine wq_Pack ?_
  | refine wq_head ?_
  | refine w_ck 0 hA ok rfl rfl rfl ?_
  | refine w_ck 1 hA ok rfl rfl rfl ?_
  | refine w_ck 2 hA ok rfl rfl rfl ?_
  | refine w_ck 3 hA ok rfl rfl rfl ?_
  | refine w_ck 4 hA ok rfl rfl rfl ?_
  | refine w_ck 5 hA ok rfl rfl rfl ?_
  | refine w_ck 6 hA ok rfl rfl rfl ?_
  | refine w_ck 7 hA ok rfl rfl rfl ?_
  | refine w_ckn rfl ?_
  | refine w_Base 0 1 hA ok rfl rfl ?_
  | refine w_Base 1 2 hA ok rfl rfl ?_
  | refine w_Base 2 3 hA ok rfl rfl ?_
  | refine w_Base 3 4 hA ok rfl rfl ?_
  | refine w_Base 4 5 hA ok rfl rfl ?_
  | refine w_Base 5 6 hA ok rfl rfl ?_
  | (refine w_PopStep 0 1 hA ok rfl rfl ?_; intro hA)
  | (refine w_PopStep 1 2 hA ok rfl rfl ?_; intro hA)
  | (refine w_PopStep 2 3 hA ok rfl rfl ?_; intro hA)
  | (refine w_PopStep 3 4 hA ok rfl rfl ?_; intro hA)
  | (refine w_PopStep 4 5 hA ok rfl rfl ?_; intro hA)
  | (refine w_PopStep 5 6 hA ok rfl rfl ?_; intro hA)
  | (refine w_PushStep 0 1 hA ok rfl rfl ?_; intro hA)
  | (refine w_PushStep 1 2 hA ok rfl rfl ?_; intro hA)
  | (refine w_PushStep 2 3 hA ok rfl rfl ?_; intro hA)
  | (refine w_PushStep 3 4 hA ok rfl rfl ?_; intro hA)
  | (refine w_PushStep 4 5 hA ok rfl rfl ?_; intro hA)
  | (refine w_PushStep 5 6 hA ok rfl rfl ?_; intro hA)
  | refine wp_true (by assumption) ?_
  | refine wp_false (by assumption) ?_)
  cases h1 : x.po.ok with
  | true =>
    repeat (first
  | refine wp_nil.2 ?_
  | refine w_ld 0 hA ok rfl rfl rfl ?_
  | refine w_ld 1 hA ok rfl rfl rfl ?_
  | refine w_ld 2 hA ok rfl rfl rfl ?_
  | refine w_ld 3 hA ok rfl rfl rfl ?_
  | refine w_ld 4 hA ok rfl rfl rfl ?_
  | refine w_ld 5 hA ok rfl rfl rfl ?_
  | refine w_ld 6 hA ok rfl rfl rfl ?_
  | refine w_ld 7 hA ok rfl rfl rfl ?_
  | refine w_st 0 hA ok rfl rfl rfl rfl ?_
  | refine w_st 1 hA ok rfl rfl rfl rfl ?_
  | refine w_st 2 hA ok rfl rfl rfl rfl ?_
  | refine w_st 3 hA ok rfl rfl rfl rfl ?_
  | refine w_st 4 hA ok rfl rfl rfl rfl ?_
  | refine w_st 5 hA ok rfl rfl rfl rfl ?_
  | refine w_st 6 hA ok rfl rfl rfl rfl ?_
  | refine w_st 7 hA ok rfl rfl rfl rfl ?_
  | refine w_ldA 0 hA ok rfl rfl rfl ?_
  | refine w_ldA 1 hA ok rfl rfl rfl ?_
  | refine w_ldA 2 hA ok rfl rfl rfl ?_
  | refine w_ldA 3 hA ok rfl rfl rfl ?_
  | refine w_ldA 4 hA ok rfl rfl rfl ?_
  | refine w_ldA 5 hA ok rfl rfl rfl ?_
  | refine w_ldA 6 hA ok rfl rfl rfl ?_
  | refine w_ldA 7 hA ok rfl rfl rfl ?_
  | refine w_stA 0 hA ok rfl rfl rfl rfl ?_
  | refine w_stA 1 hA ok rfl rfl rfl rfl ?_
  | refine w_stA 2 hA ok rfl rfl rfl rfl ?_
  | refine w_stA 3 hA ok rfl rfl rfl rfl ?_
  | refine w_stA 4 hA ok rfl rfl rfl rfl ?_
  | refine w_stA 5 hA ok rfl rfl rfl rfl ?_
  | refine w_stA 6 hA ok rfl rfl rfl rfl ?_
  | refine w_stA 7 hA ok rfl rfl rfl rfl ?_
  | (refine w_Raw hA ?_; intro hA)
  | (refine w_SetRaw hA ?_; intro hA)
  | (refine w_SwapRaw hA ?_; intro hA)
  | (refine w_AddRaw hA ?_; intro hA)
  | (refine w_Load hA ?_; intro hA)
  | (refine w_Store hA ?_; intro hA)
  | (refine w_Retire hA ?_; intro hA)
  | (refine w_Died hA ?_; intro hA)
  | (refine w_Born hA ?_; intro hA)
  | refine w_State hA ?_
  | refine w_Uses hA ?_
  | refine w_Fault hA ?_
  | refine w_Words hA ?_
  | refine w_Count hA ?_
  | refine wq_Size ?_
  | refine wq_Open ?_
  | refine wq_Pack ?_
  | refine wq_head ?_
  | refine w_ck 0 hA ok rfl rfl rfl ?_
  | refine w_ck 1 hA ok rfl rfl rfl ?_
  | refine w_ck 2 hA ok rfl rfl rfl ?_
  | refine w_ck 3 hA ok rfl rfl rfl ?_
  | refine w_ck 4 hA ok rfl rfl rfl ?_
  | refine w_ck 5 hA ok rfl rfl rfl ?_
  | refine w_ck 6 hA ok rfl rfl rfl ?_
  | refine w_ck 7 hA ok rfl rfl rfl ?_
  | refine w_ckn rfl ?_
  | refine w_Base 0 1 hA ok rfl rfl ?_
  | refine w_Base 1 2 hA ok rfl rfl ?_
  | refine w_Base 2 3 hA ok rfl rfl ?_
  | refine w_Base 3 4 hA ok rfl rfl ?_
  | refine w_Base 4 5 hA ok rfl rfl ?_
  | refine w_Base 5 6 hA ok rfl rfl ?_
  | (refine w_PopStep 0 1 hA ok rfl rfl ?_; intro hA)
  | (refine w_PopStep 1 2 hA ok rfl rfl ?_; intro hA)
  | (refine w_PopStep 2 3 hA ok rfl rfl ?_; intro hA)
  | (refine w_PopStep 3 4 hA ok rfl rfl ?_; intro hA)
  | (refine w_PopStep 4 5 hA ok rfl rfl ?_; intro hA)
  | (refine w_PopStep 5 6 hA ok rfl rfl ?_; intro hA)
  | (refine w_PushStep 0 1 hA ok rfl rfl ?_; intro hA)
  | (refine w_PushStep 1 2 hA ok rfl rfl ?_; intro hA)
  | (refine w_PushStep 2 3 hA ok rfl rfl ?_; intro hA)
  | (refine w_PushStep 3 4 hA ok rfl rfl ?_; intro hA)
  | (refine w_PushStep 4 5 hA ok rfl rfl ?_; intro hA)
  | (refine w_PushStep 5 6 hA ok rfl rfl ?_; intro hA)
  | refine wp_true (by assumption) ?_
  | refine wp_false (by assumption) ?_)
    exact wp_ret_of ⟨q0, q1, rfl, rfl, ok⟩
  | false =>
    rw [if_neg (by simp)]
    repeat (first
  | refine wp_nil.2 ?_
  | refine w_ld 0 hA ok rfl rfl rfl ?_
  | refine w_ld 1 hA ok rfl rfl rfl ?_
  | refine w_ld 2 hA ok rfl rfl rfl ?_
  | refine w_ld 3 hA ok rfl rfl rfl ?_
  | refine w_ld 4 hA ok rfl rfl rfl ?_
  | refine w_ld 5 hA ok rfl rfl rfl ?_
  | refine w_ld 6 hA ok rfl rfl rfl ?_
  | refine w_ld 7 hA ok rfl rfl rfl ?_
  | refine w_st 0 hA ok rfl rfl rfl rfl ?_
  | refine w_st 1 hA ok rfl rfl rfl rfl ?_
  | refine w_st 2 hA ok rfl rfl rfl rfl ?_
  | refine w_st 3 hA ok rfl rfl rfl rfl ?_
  | refine w_st 4 hA ok rfl rfl rfl rfl ?_
  | refine w_st 5 hA ok rfl rfl rfl rfl ?_
  | refine w_st 6 hA ok rfl rfl rfl rfl ?_
  | refine w_st 7 hA ok rfl rfl rfl rfl ?_
  | refine w_ldA 0 hA ok rfl rfl rfl ?_
  | refine w_ldA 1 hA ok rfl rfl rfl ?_
  | refine w_ldA 2 hA ok rfl rfl rfl ?_
  | refine w_ldA 3 hA ok rfl rfl rfl ?_
  | refine w_ldA 4 hA ok rfl rfl rfl ?_
  | refine w_ldA 5 hA ok rfl rfl rfl ?_
  | refine w_ldA 6 hA ok rfl rfl rfl ?_
  | refine w_ldA 7 hA ok rfl rfl rfl ?_
  | refine w_stA 0 hA ok rfl rfl rfl rfl ?_
  | refine w_stA 1 hA ok rfl rfl rfl rfl ?_
  | refine w_stA 2 hA ok rfl rfl rfl rfl ?_
  | refine w_stA 3 hA ok rfl rfl rfl rfl ?_
  | refine w_stA 4 hA ok rfl rfl rfl rfl ?_
  | refine w_stA 5 hA ok rfl rfl rfl rfl ?_
  | refine w_stA 6 hA ok rfl rfl rfl rfl ?_
  | refine w_stA 7 hA ok rfl rfl rfl rfl ?_
  | (refine w_Raw hA ?_; intro hA)
  | (refine w_SetRaw hA ?_; intro hA)
  | (refine w_SwapRaw hA ?_; intro hA)
  | (refine w_AddRaw hA ?_; intro hA)
  | (refine w_Load hA ?_; intro hA)
  | (refine w_Store hA ?_; intro hA)
  | (refine w_Retire hA ?_; intro hA)
  | (refine w_Died hA ?_; intro hA)
  | (refine w_Born hA ?_; intro hA)
  | refine w_State hA ?_
  | refine w_Uses hA ?_
  | refine w_Fault hA ?_
  | refine w_Words hA ?_
  | refine w_Count hA ?_
  | refine wq_Size ?_
  | refine wq_Open ?_
  | refine wq_Pack ?_
  | refine wq_head ?_
  | refine w_ck 0 hA ok rfl rfl rfl ?_
  | refine w_ck 1 hA ok rfl rfl rfl ?_
  | refine w_ck 2 hA ok rfl rfl rfl ?_
  | refine w_ck 3 hA ok rfl rfl rfl ?_
  | refine w_ck 4 hA ok rfl rfl rfl ?_
  | refine w_ck 5 hA ok rfl rfl rfl ?_
  | refine w_ck 6 hA ok rfl rfl rfl ?_
  | refine w_ck 7 hA ok rfl rfl rfl ?_
  | refine w_ckn rfl ?_
  | refine w_Base 0 1 hA ok rfl rfl ?_
  | refine w_Base 1 2 hA ok rfl rfl ?_
  | refine w_Base 2 3 hA ok rfl rfl ?_
  | refine w_Base 3 4 hA ok rfl rfl ?_
  | refine w_Base 4 5 hA ok rfl rfl ?_
  | refine w_Base 5 6 hA ok rfl rfl ?_
  | (refine w_PopStep 0 1 hA ok rfl rfl ?_; intro hA)
  | (refine w_PopStep 1 2 hA ok rfl rfl ?_; intro hA)
  | (refine w_PopStep 2 3 hA ok rfl rfl ?_; intro hA)
  | (refine w_PopStep 3 4 hA ok rfl rfl ?_; intro hA)
  | (refine w_PopStep 4 5 hA ok rfl rfl ?_; intro hA)
  | (refine w_PopStep 5 6 hA ok rfl rfl ?_; intro hA)
  | (refine w_PushStep 0 1 hA ok rfl rfl ?_; intro hA)
  | (refine w_PushStep 1 2 hA ok rfl rfl ?_; intro hA)
  | (refine w_PushStep 2 3 hA ok rfl rfl ?_; intro hA)
  | (refine w_PushStep 3 4 hA ok rfl rfl ?_; intro hA)
  | (refine w_PushStep 4 5 hA ok rfl rfl ?_; intro hA)
  | (refine w_PushStep 5 6 hA ok rfl rfl ?_; intro hA)
  | refine wp_true (by assumption) ?_
  | refine wp_false (by assumption) ?_)
    by_cases h2 : w64 (x.lst + 1) ≥ imax x.pl.work 1
    · rw [if_pos h2]
      refine wp_true (decide_eq_true h2) ?_
      repeat (first
  | refine wp_nil.2 ?_
  | refine w_ld 0 hA ok rfl rfl rfl ?_
  | refine w_ld 1 hA ok rfl rfl rfl ?_
  | refine w_ld 2 hA ok rfl rfl rfl ?_
  | refine w_ld 3 hA ok rfl rfl rfl ?_
  | refine w_ld 4 hA ok rfl rfl rfl ?_
  | refine w_ld 5 hA ok rfl rfl rfl ?_
  | refine w_ld 6 hA ok rfl rfl rfl ?_
  | refine w_ld 7 hA ok rfl rfl rfl ?_
  | refine w_st 0 hA ok rfl rfl rfl rfl ?_
  | refine w_st 1 hA ok rfl rfl rfl rfl ?_
  | refine w_st 2 hA ok rfl rfl rfl rfl ?_
  | refine w_st 3 hA ok rfl rfl rfl rfl ?_
  | refine w_st 4 hA ok rfl rfl rfl rfl ?_
  | refine w_st 5 hA ok rfl rfl rfl rfl ?_
  | refine w_st 6 hA ok rfl rfl rfl rfl ?_
  | refine w_st 7 hA ok rfl rfl rfl rfl ?_
  | refine w_ldA 0 hA ok rfl rfl rfl ?_
  | refine w_ldA 1 hA ok rfl rfl rfl ?_
  | refine w_ldA 2 hA ok rfl rfl rfl ?_
  | refine w_ldA 3 hA ok rfl rfl rfl ?_
  | refine w_ldA 4 hA ok rfl rfl rfl ?_
  | refine w_ldA 5 hA ok rfl rfl rfl ?_
  | refine w_ldA 6 hA ok rfl rfl rfl ?_
  | refine w_ldA 7 hA ok rfl rfl rfl ?_
  | refine w_stA 0 hA ok rfl rfl rfl rfl ?_
  | refine w_stA 1 hA ok rfl rfl rfl rfl ?_
  | refine w_stA 2 hA ok rfl rfl rfl rfl ?_
  | refine w_stA 3 hA ok rfl rfl rfl rfl ?_
  | refine w_stA 4 hA ok rfl rfl rfl rfl ?_
  | refine w_stA 5 hA ok rfl rfl rfl rfl ?_
  | refine w_stA 6 hA ok rfl rfl rfl rfl ?_
  | refine w_stA 7 hA ok rfl rfl rfl rfl ?_
  | (refine w_Raw hA ?_; intro hA)
  | (refine w_SetRaw hA ?_; intro hA)
  | (refine w_SwapRaw hA ?_; intro hA)
  | (refine w_AddRaw hA ?_; intro hA)
  | (refine w_Load hA ?_; intro hA)
  | (refine w_Store hA ?_; intro hA)
  | (refine w_Retire hA ?_; intro hA)
  | (refine w_Died hA ?_; intro hA)
  | (refine w_Born hA ?_; intro hA)
  | refine w_State hA ?_
  | refine w_Uses hA ?_
  | refine w_Fault hA ?_
  | refine w_Words hA ?_
  | refine w_Count hA ?_
  | refine wq_Size ?_
  | refine wq_Open ?_
  | refine wq_Pack ?_
  | refine wq_head ?_
  | refine w_ck 0 hA ok rfl rfl rfl ?_
  | refine w_ck 1 hA ok rfl rfl rfl ?_
  | refine w_ck 2 hA ok rfl rfl rfl ?_
  | refine w_ck 3 hA ok rfl rfl rfl ?_
  | refine w_ck 4 hA ok rfl rfl rfl ?_
  | refine w_ck 5 hA ok rfl rfl rfl ?_
  | refine w_ck 6 hA ok rfl rfl rfl ?_
  | refine w_ck 7 hA ok rfl rfl rfl ?_
  | refine w_ckn rfl ?_
  | refine w_Base 0 1 hA ok rfl rfl ?_
  | refine w_Base 1 2 hA ok rfl rfl ?_
  | refine w_Base 2 3 hA ok rfl rfl ?_
  | refine w_Base 3 4 hA ok rfl rfl ?_
  | refine w_Base 4 5 hA ok rfl rfl ?_
  | refine w_Base 5 6 hA ok rfl rfl ?_
  | (refine w_PopStep 0 1 hA ok rfl rfl ?_; intro hA)
  | (refine w_PopStep 1 2 hA ok rfl rfl ?_; intro hA)
  | (refine w_PopStep 2 3 hA ok rfl rfl ?_; intro hA)
  | (refine w_PopStep 3 4 hA ok rfl rfl ?_; intro hA)
  | (refine w_PopStep 4 5 hA ok rfl rfl ?_; intro hA)
  | (refine w_PopStep 5 6 hA ok rfl rfl ?_; intro hA)
  | (refine w_PushStep 0 1 hA ok rfl rfl ?_; intro hA)
  | (refine w_PushStep 1 2 hA ok rfl rfl ?_; intro hA)
  | (refine w_PushStep 2 3 hA ok rfl rfl ?_; intro hA)
  | (refine w_PushStep 3 4 hA ok rfl rfl ?_; intro hA)
  | (refine w_PushStep 4 5 hA ok rfl rfl ?_; intro hA)
  | (refine w_PushStep 5 6 hA ok rfl rfl ?_; intro hA)
  | refine wp_true (by assumption) ?_
  | refine wp_false (by assumption) ?_)
      exact wp_ret_of ⟨q0, q1, rfl, rfl, ok⟩
    · rw [if_neg h2]
      refine wp_false (decide_eq_false h2) ?_
      repeat (first
  | refine wp_nil.2 ?_
  | refine w_ld 0 hA ok rfl rfl rfl ?_
  | refine w_ld 1 hA ok rfl rfl rfl ?_
  | refine w_ld 2 hA ok rfl rfl rfl ?_
  | refine w_ld 3 hA ok rfl rfl rfl ?_
  | refine w_ld 4 hA ok rfl rfl rfl ?_
  | refine w_ld 5 hA ok rfl rfl rfl ?_
  | refine w_ld 6 hA ok rfl rfl rfl ?_
  | refine w_ld 7 hA ok rfl rfl rfl ?_
  | refine w_st 0 hA ok rfl rfl rfl rfl ?_
  | refine w_st 1 hA ok rfl rfl rfl rfl ?_
  | refine w_st 2 hA ok rfl rfl rfl rfl ?_
  | refine w_st 3 hA ok rfl rfl rfl rfl ?_
  | refine w_st 4 hA ok rfl rfl rfl rfl ?_
  | refine w_st 5 hA ok rfl rfl rfl rfl ?_
  | refine w_st 6 hA ok rfl rfl rfl rfl ?_
  | refine w_st 7 hA ok rfl rfl rfl rfl ?_
  | refine w_ldA 0 hA ok rfl rfl rfl ?_
  | refine w_ldA 1 hA ok rfl rfl rfl ?_
  | refine w_ldA 2 hA ok rfl rfl rfl ?_
  | refine w_ldA 3 hA ok rfl rfl rfl ?_
  | refine w_ldA 4 hA ok rfl rfl rfl ?_
  | refine w_ldA 5 hA ok rfl rfl rfl ?_
  | refine w_ldA 6 hA ok rfl rfl rfl ?_
  | refine w_ldA 7 hA ok rfl rfl rfl ?_
  | refine w_stA 0 hA ok rfl rfl rfl rfl ?_
  | refine w_stA 1 hA ok rfl rfl rfl rfl ?_
  | refine w_stA 2 hA ok rfl rfl rfl rfl ?_
  | refine w_stA 3 hA ok rfl rfl rfl rfl ?_
  | refine w_stA 4 hA ok rfl rfl rfl rfl ?_
  | refine w_stA 5 hA ok rfl rfl rfl rfl ?_
  | refine w_stA 6 hA ok rfl rfl rfl rfl ?_
  | refine w_stA 7 hA ok rfl rfl rfl rfl ?_
  | (refine w_Raw hA ?_; intro hA)
  | (refine w_SetRaw hA ?_; intro hA)
  | (refine w_SwapRaw hA ?_; intro hA)
  | (refine w_AddRaw hA ?_; intro hA)
  | (refine w_Load hA ?_; intro hA)
  | (refine w_Store hA ?_; intro hA)
  | (refine w_Retire hA ?_; intro hA)
  | (refine w_Died hA ?_; intro hA)
  | (refine w_Born hA ?_; intro hA)
  | refine w_State hA ?_
  | refine w_Uses hA ?_
  | refine w_Fault hA ?_
  | refine w_Words hA ?_
  | refine w_Count hA ?_
  | refine wq_Size ?_
  | refine wq_Open ?_
  | refine wq_Pack ?_
  | refine wq_head ?_
  | refine w_ck 0 hA ok rfl rfl rfl ?_
  | refine w_ck 1 hA ok rfl rfl rfl ?_
  | refine w_ck 2 hA ok rfl rfl rfl ?_
  | refine w_ck 3 hA ok rfl rfl rfl ?_
  | refine w_ck 4 hA ok rfl rfl rfl ?_
  | refine w_ck 5 hA ok rfl rfl rfl ?_
  | refine w_ck 6 hA ok rfl rfl rfl ?_
  | refine w_ck 7 hA ok rfl rfl rfl ?_
  | refine w_ckn rfl ?_
  | refine w_Base 0 1 hA ok rfl rfl ?_
  | refine w_Base 1 2 hA ok rfl rfl ?_
  | refine w_Base 2 3 hA ok rfl rfl ?_
  | refine w_Base 3 4 hA ok rfl rfl ?_
  | refine w_Base 4 5 hA ok rfl rfl ?_
  | refine w_Base 5 6 hA ok rfl rfl ?_
  | (refine w_PopStep 0 1 hA ok rfl rfl ?_; intro hA)
  | (refine w_PopStep 1 2 hA ok rfl rfl ?_; intro hA)
  | (refine w_PopStep 2 3 hA ok rfl rfl ?_; intro hA)
  | (refine w_PopStep 3 4 hA ok rfl rfl ?_; intro hA)
  | (refine w_PopStep 4 5 hA ok rfl rfl ?_; intro hA)
  | (refine w_PopStep 5 6 hA ok rfl rfl ?_; intro hA)
  | (refine w_PushStep 0 1 hA ok rfl rfl ?_; intro hA)
  | (refine w_PushStep 1 2 hA ok rfl rfl ?_; intro hA)
  | (refine w_PushStep 2 3 hA ok rfl rfl ?_; intro hA)
  | (refine w_PushStep 3 4 hA ok rfl rfl ?_; intro hA)
  | (refine w_PushStep 4 5 hA ok rfl rfl ?_; intro hA)
  | (refine w_PushStep 5 6 hA ok rfl rfl ?_; intro hA)
  | refine wp_true (by assumption) ?_
  | refine wp_false (by assumption) ?_)
      have hw : x.pl.work ≠ 0 := by
        intro e; rw [e, e1] at h2; unfold imax at h2; rw [if_pos (by omega)] at h2; omega
      refine look_val (x := Int.tmod (w64 (x.work + w64 (x.lst + 1))) x.pl.work) (opS_rem hw) ?_
      repeat (first
  | refine wp_nil.2 ?_
  | refine w_ld 0 hA ok rfl rfl rfl ?_
  | refine w_ld 1 hA ok rfl rfl rfl ?_
  | refine w_ld 2 hA ok rfl rfl rfl ?_
  | refine w_ld 3 hA ok rfl rfl rfl ?_
  | refine w_ld 4 hA ok rfl rfl rfl ?_
  | refine w_ld 5 hA ok rfl rfl rfl ?_
  | refine w_ld 6 hA ok rfl rfl rfl ?_
  | refine w_ld 7 hA ok rfl rfl rfl ?_
  | refine w_st 0 hA ok rfl rfl rfl rfl ?_
  | refine w_st 1 hA ok rfl rfl rfl rfl ?_
  | refine w_st 2 hA ok rfl rfl rfl rfl ?_
  | refine w_st 3 hA ok rfl rfl rfl rfl ?_
  | refine w_st 4 hA ok rfl rfl rfl rfl ?_
  | refine w_st 5 hA ok rfl rfl rfl rfl ?_
  | refine w_st 6 hA ok rfl rfl rfl rfl ?_
  | refine w_st 7 hA ok rfl rfl rfl rfl ?_
  | refine w_ldA 0 hA ok rfl rfl rfl ?_
  | refine w_ldA 1 hA ok rfl rfl rfl ?_
  | refine w_ldA 2 hA ok rfl rfl rfl ?_
  | refine w_ldA 3 hA ok rfl rfl rfl ?_
  | refine w_ldA 4 hA ok rfl rfl rfl ?_
  | refine w_ldA 5 hA ok rfl rfl rfl ?_
  | refine w_ldA 6 hA ok rfl rfl rfl ?_
  | refine w_ldA 7 hA ok rfl rfl rfl ?_
  | refine w_stA 0 hA ok rfl rfl rfl rfl ?_
  | refine w_stA 1 hA ok rfl rfl rfl rfl ?_
  | refine w_stA 2 hA ok rfl rfl rfl rfl ?_
  | refine w_stA 3 hA ok rfl rfl rfl rfl ?_
  | refine w_stA 4 hA ok rfl rfl rfl rfl ?_
  | refine w_stA 5 hA ok rfl rfl rfl rfl ?_
  | refine w_stA 6 hA ok rfl rfl rfl rfl ?_
  | refine w_stA 7 hA ok rfl rfl rfl rfl ?_
  | (refine w_Raw hA ?_; intro hA)
  | (refine w_SetRaw hA ?_; intro hA)
  | (refine w_SwapRaw hA ?_; intro hA)
  | (refine w_AddRaw hA ?_; intro hA)
  | (refine w_Load hA ?_; intro hA)
  | (refine w_Store hA ?_; intro hA)
  | (refine w_Retire hA ?_; intro hA)
  | (refine w_Died hA ?_; intro hA)
  | (refine w_Born hA ?_; intro hA)
  | refine w_State hA ?_
  | refine w_Uses hA ?_
  | refine w_Fault hA ?_
  | refine w_Words hA ?_
  | refine w_Count hA ?_
  | refine wq_Size ?_
  | refine wq_Open ?_
  | refine wq_Pack ?_
  | refine wq_head ?_
  | refine w_ck 0 hA ok rfl rfl rfl ?_
  | refine w_ck 1 hA ok rfl rfl rfl ?_
  | refine w_ck 2 hA ok rfl rfl rfl ?_
  | refine w_ck 3 hA ok rfl rfl rfl ?_
  | refine w_ck 4 hA ok rfl rfl rfl ?_
  | refine w_ck 5 hA ok rfl rfl rfl ?_
  | refine w_ck 6 hA ok rfl rfl rfl ?_
  | refine w_ck 7 hA ok rfl rfl rfl ?_
  | refine w_ckn rfl ?_
  | refine w_Base 0 1 hA ok rfl rfl ?_
  | refine w_Base 1 2 hA ok rfl rfl ?_
  | refine w_Base 2 3 hA ok rfl rfl ?_
  | refine w_Base 3 4 hA ok rfl rfl ?_
  | refine w_Base 4 5 hA ok rfl rfl ?_
  | refine w_Base 5 6 hA ok rfl rfl ?_
  | (refine w_PopStep 0 1 hA ok rfl rfl ?_; intro hA)
  | (refine w_PopStep 1 2 hA ok rfl rfl ?_; intro hA)
  | (refine w_PopStep 2 3 hA ok rfl rfl ?_; intro hA)
  | (refine w_PopStep 3 4 hA ok rfl rfl ?_; intro hA)
  | (refine w_PopStep 4 5 hA ok rfl rfl ?_; intro hA)
  | (refine w_PopStep 5 6 hA ok rfl rfl ?_; intro hA)
  | (refine w_PushStep 0 1 hA ok rfl rfl ?_; intro hA)
  | (refine w_PushStep 1 2 hA ok rfl rfl ?_; intro hA)
  | (refine w_PushStep 2 3 hA ok rfl rfl ?_; intro hA)
  | (refine w_PushStep 3 4 hA ok rfl rfl ?_; intro hA)
  | (refine w_PushStep 4 5 hA ok rfl rfl ?_; intro hA)
  | (refine w_PushStep 5 6 hA ok rfl rfl ?_; intro hA)
  | refine wp_true (by assumption) ?_
  | refine wp_false (by assumption) ?_)
      refine w_NewPop (p := x.pl) hA ok fun r0 r1 ok => ?_
      repeat (first
  | refine wp_nil.2 ?_
  | refine w_ld 0 hA ok rfl rfl rfl ?_
  | refine w_ld 1 hA ok rfl rfl rfl ?_
  | refine w_ld 2 hA ok rfl rfl rfl ?_
  | refine w_ld 3 hA ok rfl rfl rfl ?_
  | refine w_ld 4 hA ok rfl rfl rfl ?_
  | refine w_ld 5 hA ok rfl rfl rfl ?_
  | refine w_ld 6 hA ok rfl rfl rfl ?_
  | refine w_ld 7 hA ok rfl rfl rfl ?_
  | refine w_st 0 hA ok rfl rfl rfl rfl ?_
  | refine w_st 1 hA ok rfl rfl rfl rfl ?_
  | refine w_st 2 hA ok rfl rfl rfl rfl ?_
  | refine w_st 3 hA ok rfl rfl rfl rfl ?_
  | refine w_st 4 hA ok rfl rfl rfl rfl ?_
  | refine w_st 5 hA ok rfl rfl rfl rfl ?_
  | refine w_st 6 hA ok rfl rfl rfl rfl ?_
  | refine w_st 7 hA ok rfl rfl rfl rfl ?_
  | refine w_ldA 0 hA ok rfl rfl rfl ?_
  | refine w_ldA 1 hA ok rfl rfl rfl ?_
  | refine w_ldA 2 hA ok rfl rfl rfl ?_
  | refine w_ldA 3 hA ok rfl rfl rfl ?_
  | refine w_ldA 4 hA ok rfl rfl rfl ?_
  | refine w_ldA 5 hA ok rfl rfl rfl ?_
  | refine w_ldA 6 hA ok rfl rfl rfl ?_
  | refine w_ldA 7 hA ok rfl rfl rfl ?_
  | refine w_stA 0 hA ok rfl rfl rfl rfl ?_
  | refine w_stA 1 hA ok rfl rfl rfl rfl ?_
  | refine w_stA 2 hA ok rfl rfl rfl rfl ?_
  | refine w_stA 3 hA ok rfl rfl rfl rfl ?_
  | refine w_stA 4 hA ok rfl rfl rfl rfl ?_
  | refine w_stA 5 hA ok rfl rfl rfl rfl ?_
  | refine w_stA 6 hA ok rfl rfl rfl rfl ?_
  | refine w_stA 7 hA ok rfl rfl rfl rfl ?_
  | (refine w_Raw hA ?_; intro hA)
  | (refine w_SetRaw hA ?_; intro hA)
  | (refine w_SwapRaw hA ?_; intro hA)
  | (refine w_AddRaw hA ?_; intro hA)
  | (refine w_Load hA ?_; intro hA)
  | (refine w_Store hA ?_; intro hA)
  | (refine w_Retire hA ?_; intro hA)
  | (refine w_Died hA ?_; intro hA)
  | (refine w_Born hA ?_; intro hA)
  | refine w_State hA ?_
  | refine w_Uses hA ?_
  | refine w_Fault hA ?_
  | refine w_Words hA ?_
  | refine w_Count hA ?_
  | refine wq_Size ?_
  | refine wq_Open ?_
  | refine wq_Pack ?_
  | refine wq_head ?_
  | refine w_ck 0 hA ok rfl rfl rfl ?_
  | refine w_ck 1 hA ok rfl rfl rfl ?_
  | refine w_ck 2 hA ok rfl rfl rfl ?_
  | refine w_ck 3 hA ok rfl rfl rfl ?_
  | refine w_ck 4 hA ok rfl rfl rfl ?_
  | refine w_ck 5 hA ok rfl rfl rfl ?_
  | refine w_ck 6 hA ok rfl rfl rfl ?_
  | refine w_ck 7 hA ok rfl rfl rfl ?_
  | refine w_ckn rfl ?_
  | refine w_Base 0 1 hA ok rfl rfl ?_
  | refine w_Base 1 2 hA ok rfl rfl ?_
  | refine w_Base 2 3 hA ok rfl rfl ?_
  | refine w_Base 3 4 hA ok rfl rfl ?_
  | refine w_Base 4 5 hA ok rfl rfl ?_
  | refine w_Base 5 6 hA ok rfl rfl ?_
  | (refine w_PopStep 0 1 hA ok rfl rfl ?_; intro hA)
  | (refine w_PopStep 1 2 hA ok rfl rfl ?_; intro hA)
  | (refine w_PopStep 2 3 hA ok rfl rfl ?_; intro hA)
  | (refine w_PopStep 3 4 hA ok rfl rfl ?_; intro hA)
  | (refine w_PopStep 4 5 hA ok rfl rfl ?_; intro hA)
  | (refine w_PopStep 5 6 hA ok rfl rfl ?_; intro hA)
  | (refine w_PushStep 0 1 hA ok rfl rfl ?_; intro hA)
  | (refine w_PushStep 1 2 hA ok rfl rfl ?_; intro hA)
  | (refine w_PushStep 2 3 hA ok rfl rfl ?_; intro hA)
  | (refine w_PushStep 3 4 hA ok rfl rfl ?_; intro hA)
  | (refine w_PushStep 4 5 hA ok rfl rfl ?_; intro hA)
  | (refine w_PushStep 5 6 hA ok rfl rfl ?_; intro hA)
  | refine wp_true (by assumption) ?_
  | refine wp_false (by assumption) ?_)
      exact w_ret [2, 0, 1] ok rfl (by decide) fun ok => ⟨r0, r1, rfl, rfl, ok⟩

theorem mAl_ok : mAl.ok := by
  rintro I A G x ⟨q, q0, q1⟩ hA ok hl
  have ok : Ok I G [q, q0, q1] := ok
  refine t_slab_Alloc_Step_spec fun L => ?_
  unfold t_slab_Alloc_Step
  show wp Try.prog _ L (own A (x.bl (q, q0, q1)) G) _
  show wp Try.prog _ L (own A [(q, oc ty_slab_Alloc (x.cells q0)), (q0, popObj q1), (q1, x.po.obj)] G) fun v K => ∃ j' : Nat × Nat × Nat, v = .bool ((x.step A).1.what == 4) ∧ K = own (x.step A).2 ((x.step A).1.bl j') G ∧ j'.1 = q ∧ Ok I G [j'.1, j'.2.1, j'.2.2] ∧ Aw I (x.step A).2
  unfold Al.step
  repeat (first
  | refine wp_nil.2 ?_
  | refine w_ld 0 hA ok rfl rfl rfl ?_
  | refine w_ld 1 hA ok rfl rfl rfl ?_
  | refine w_ld 2 hA ok rfl rfl rfl ?_
  | refine w_ld 3 hA ok rfl rfl rfl ?_
  | refine w_ld 4 hA ok rfl rfl rfl ?_
  | refine w_ld 5 hA ok rfl rfl rfl ?_
  | refine w_ld 6 hA ok rfl rfl rfl ?_
  | refine w_ld 7 hA ok rfl rfl rfl ?_
  | refine w_st 0 hA ok rfl rfl rfl rfl ?_
  | refine w_st 1 hA ok rfl rfl rfl rfl ?_
  | refine w_st 2 hA ok rfl rfl rfl rfl ?_
  | refine w_st 3 hA ok rfl rfl rfl rfl ?_
  | refine w_st 4 hA ok rfl rfl rfl rfl ?_
  | refine w_st 5 hA ok rfl rfl rfl rfl ?_
  | refine w_st 6 hA ok rfl rfl rfl rfl ?_
  | refine w_st 7 hA ok rfl rfl rfl rfl ?_
  | refine w_ldA 0 hA ok rfl rfl rfl ?_
  | refine w_ldA 1 hA ok rfl rfl rfl ?_
  | refine w_ldA 2 hA ok rfl rfl rfl ?_
  | refine w_ldA 3 hA ok rfl rfl rfl ?_
  | refine w_ldA 4 hA ok rfl rfl rfl ?_
  | refine w_ldA 5 hA ok rfl rfl rfl ?_
  | refine w_ldA 6 hA ok rfl rfl rfl ?_
  | refine w_ldA 7 hA ok rfl rfl rfl ?_
  | refine w_stA 0 hA ok rfl rfl rfl rfl ?_
  | refine w_stA 1 hA ok rfl rfl rfl rfl ?_
  | refine w_stA 2 hA ok rfl rfl rfl rfl ?_
  | refine w_stA 3 hA ok rfl rfl rfl rfl ?_
  | refine w_stA 4 hA ok rfl rfl rfl rfl ?_
  | refine w_stA 5 hA ok rfl rfl rfl rfl ?_
  | refine w_stA 6 hA ok rfl rfl rfl rfl ?_
  | refine w_stA 7 hA ok rfl rfl rfl rfl ?_
  | (refine w_Raw hA ?_; intro hA)
  | (refine w_SetRaw hA ?_; intro hA)
  | (refine w_SwapRaw hA ?_; intro hA)
  | (refine w_AddRaw hA ?_; intro hA)
  | (refine w_Load hA ?_; intro hA)
  | (refine w_Store hA ?_; intro hA)
  | (refine w_Retire hA ?_; intro hA)
  | (refine w_Died hA ?_; intro hA)
  | (refine w_Born hA ?_; intro hA)
  | refine w_State hA ?_
  | refine w_Uses hA ?_
  | refine w_Fault hA ?_
  | refine w_Words hA ?_
  | refine w_Count hA ?_
  | refine wq_Size ?_
  | refine wq_Open ?_
  | refine wq_Pack ?_
  | refine wq_head ?_
  | refine w_ck 0 hA ok rfl rfl rfl ?_
  | refine w_ck 1 hA ok rfl rfl rfl ?_
  | refine w_ck 2 hA ok rfl rfl rfl ?_
  | refine w_ck 3 hA ok rfl rfl rfl ?_
  | refine w_ck 4 hA ok rfl rfl rfl ?_
  | refine w_ck 5 hA ok rfl rfl rfl ?_
  | refine w_ck 6 hA ok rfl rfl rfl ?_
  | refine w_ck 7 hA ok rfl rfl rfl ?_
  | refine w_ckn rfl ?_
  | refine w_Base 0 1 hA ok rfl rfl ?_
  | refine w_Base 1 2 hA ok rfl rfl ?_
  | refine w_Base 2 3 hA ok rfl rfl ?_
  | refine w_Base 3 4 hA ok rfl rfl ?_
  | refine w_Base 4 5 hA ok rfl rfl ?_
  | refine w_Base 5 6 hA ok rfl rfl ?_
  | (refine w_PopStep 0 1 hA ok rfl rfl ?_; intro hA)
  | (refine w_PopStep 1 2 hA ok rfl rfl ?_; intro hA)
  | (refine w_PopStep 2 3 hA ok rfl rfl ?_; intro hA)
  | (refine w_PopStep 3 4 hA ok rfl rfl ?_; intro hA)
  | (refine w_PopStep 4 5 hA ok rfl rfl ?_; intro hA)
  | (refine w_PopStep 5 6 hA ok rfl rfl ?_; intro hA)
  | (refine w_PushStep 0 1 hA ok rfl rfl ?_; intro hA)
  | (refine w_PushStep 1 2 hA ok rfl rfl ?_; intro hA)
  | (refine w_PushStep 2 3 hA ok rfl rfl ?_; intro hA)
  | (refine w_PushStep 3 4 hA ok rfl rfl ?_; intro hA)
  | (refine w_PushStep 4 5 hA ok rfl rfl ?_; intro hA)
  | (refine w_PushStep 5 6 hA ok rfl rfl ?_; intro hA)
  | refine wp_true (by assumption) ?_
  | refine wp_false (by assumption) ?_)
  by_cases h0 : x.what = 0
  · rw [if_pos h0]
    refine wp_true (ibeq h0) ?_
    repeat (first
  | refine wp_nil.2 ?_
  | refine w_ld 0 hA ok rfl rfl rfl ?_
  | refine w_ld 1 hA ok rfl rfl rfl ?_
  | refine w_ld 2 hA ok rfl rfl rfl ?_
  | refine w_ld 3 hA ok rfl rfl rfl ?_
  | refine w_ld 4 hA ok rfl rfl rfl ?_
  | refine w_ld 5 hA ok rfl rfl rfl ?_
  | refine w_ld 6 hA ok rfl rfl rfl ?_
  | refine w_ld 7 hA ok rfl rfl rfl ?_
  | refine w_st 0 hA ok rfl rfl rfl rfl ?_
  | refine w_st 1 hA ok rfl rfl rfl rfl ?_
  | refine w_st 2 hA ok rfl rfl rfl rfl ?_
  | refine w_st 3 hA ok rfl rfl rfl rfl ?_
  | refine w_st 4 hA ok rfl rfl rfl rfl ?_
  | refine w_st 5 hA ok rfl rfl rfl rfl ?_
  | refine w_st 6 hA ok rfl rfl rfl rfl ?_
  | refine w_st 7 hA ok rfl rfl rfl rfl ?_
  | refine w_ldA 0 hA ok rfl rfl rfl ?_
  | refine w_ldA 1 hA ok rfl rfl rfl ?_
  | refine w_ldA 2 hA ok rfl rfl rfl ?_
  | refine w_ldA 3 hA ok rfl rfl rfl ?_
  | refine w_ldA 4 hA ok rfl rfl rfl ?_
  | refine w_ldA 5 hA ok rfl rfl rfl ?_
  | refine w_ldA 6 hA ok rfl rfl rfl ?_
  | refine w_ldA 7 hA ok rfl rfl rfl ?_
  | refine w_stA 0 hA ok rfl rfl rfl rfl ?_
  | refine w_stA 1 hA ok rfl rfl rfl rfl ?_
  | refine w_stA 2 hA ok rfl rfl rfl rfl ?_
  | refine w_stA 3 hA ok rfl rfl rfl rfl ?_
  | refine w_stA 4 hA ok rfl rfl rfl rfl ?_
  | refine w_stA 5 hA ok rfl rfl rfl rfl ?_
  | refine w_stA 6 hA ok rfl rfl rfl rfl ?_
  | refine w_stA 7 hA ok rfl rfl rfl rfl ?_
  | (refine w_Raw hA ?_; intro hA)
  | (refine w_SetRaw hA ?_; intro hA)
  | (refine w_SwapRaw hA ?_; intro hA)
  | (refine w_AddRaw hA ?_; intro hA)
  | (refine w_Load hA ?_; intro hA)
  | (refine w_Store hA ?_; intro hA)
  | (refine w_Retire hA ?_; intro hA)
  | (refine w_Died hA ?_; intro hA)
  | (refine w_Born hA ?_; intro hA)
  | refine w_State hA ?_
  | refine w_Uses hA ?_
  | refine w_Fault hA ?_
  | refine w_Words hA ?_
  | refine w_Count hA ?_
  | refine wq_Size ?_
  | refine wq_Open ?_
  | refine wq_Pack ?_
  | refine wq_head ?_
  | refine w_ck 0 hA ok rfl rfl rfl ?_
  | refine w_ck 1 hA ok rfl rfl rfl ?_
  | refine w_ck 2 hA ok rfl rfl rfl ?_
  | refine w_ck 3 hA ok rfl rfl rfl ?_
  | refine w_ck 4 hA ok rfl rfl rfl ?_
  | refine w_ck 5 hA ok rfl rfl rfl ?_
  | refine w_ck 6 hA ok rfl rfl rfl ?_
  | refine w_ck 7 hA ok rfl rfl rfl ?_
  | refine w_ckn rfl ?_
  | refine w_Base 0 1 hA ok rfl rfl ?_
  | refine w_Base 1 2 hA ok rfl rfl ?_
  | refine w_Base 2 3 hA ok rfl rfl ?_
  | refine w_Base 3 4 hA ok rfl rfl ?_
  | refine w_Base 4 5 hA ok rfl rfl ?_
  | refine w_Base 5 6 hA ok rfl rfl ?_
  | (refine w_PopStep 0 1 hA ok rfl rfl ?_; intro hA)
  | (refine w_PopStep 1 2 hA ok rfl rfl ?_; intro hA)
  | (refine w_PopStep 2 3 hA ok rfl rfl ?_; intro hA)
  | (refine w_PopStep 3 4 hA ok rfl rfl ?_; intro hA)
  | (refine w_PopStep 4 5 hA ok rfl rfl ?_; intro hA)
  | (refine w_PopStep 5 6 hA ok rfl rfl ?_; intro hA)
  | (refine w_PushStep 0 1 hA ok rfl rfl ?_; intro hA)
  | (refine w_PushStep 1 2 hA ok rfl rfl ?_; intro hA)
  | (refine w_PushStep 2 3 hA ok rfl rfl ?_; intro hA)
  | (refine w_PushStep 3 4 hA ok rfl rfl ?_; intro hA)
  | (refine w_PushStep 4 5 hA ok rfl rfl ?_; intro hA)
  | (refine w_PushStep 5 6 hA ok rfl rfl ?_; intro hA)
  | refine wp_true (by assumption) ?_
  | refine wp_false (by assumption) ?_)
    cases hb : x.po.stepB A with
    | true =>
      refine wp_true rfl ?_
      refine wp_call_of (popped_spec (I := I) (A := x.po.stepA A) { x with po := x.po.stepM A } hA ok hl) ?_
      rintro v K ⟨r0, r1, rfl, rfl, ok⟩
      refine ⟨(), rfl, ?_⟩
      show wp Try.prog _ L (own (x.po.stepA A) [(q, oc ty_slab_Alloc ((Al.popd { x with po := x.po.stepM A }).cells r0)), (r0, popObj r1), (r1, (Al.popd { x with po := x.po.stepM A }).po.obj)] G) _
      repeat (first
  | refine wp_nil.2 ?_
  | refine w_ld 0 hA ok rfl rfl rfl ?_
  | refine w_ld 1 hA ok rfl rfl rfl ?_
  | refine w_ld 2 hA ok rfl rfl rfl ?_
  | refine w_ld 3 hA ok rfl rfl rfl ?_
  | refine w_ld 4 hA ok rfl rfl rfl ?_
  | refine w_ld 5 hA ok rfl rfl rfl ?_
  | refine w_ld 6 hA ok rfl rfl rfl ?_
  | refine w_ld 7 hA ok rfl rfl rfl ?_
  | refine w_st 0 hA ok rfl rfl rfl rfl ?_
  | refine w_st 1 hA ok rfl rfl rfl rfl ?_
  | refine w_st 2 hA ok rfl rfl rfl rfl ?_
  | refine w_st 3 hA ok rfl rfl rfl rfl ?_
  | refine w_st 4 hA ok rfl rfl rfl rfl ?_
  | refine w_st 5 hA ok rfl rfl rfl rfl ?_
  | refine w_st 6 hA ok rfl rfl rfl rfl ?_
  | refine w_st 7 hA ok rfl rfl rfl rfl ?_
  | refine w_ldA 0 hA ok rfl rfl rfl ?_
  | refine w_ldA 1 hA ok rfl rfl rfl ?_
  | refine w_ldA 2 hA ok rfl rfl rfl ?_
  | refine w_ldA 3 hA ok rfl rfl rfl ?_
  | refine w_ldA 4 hA ok rfl rfl rfl ?_
  | refine w_ldA 5 hA ok rfl rfl rfl ?_
  | refine w_ldA 6 hA ok rfl rfl rfl ?_
  | refine w_ldA 7 hA ok rfl rfl rfl ?_
  | refine w_stA 0 hA ok rfl rfl rfl rfl ?_
  | refine w_stA 1 hA ok rfl rfl rfl rfl ?_
  | refine w_stA 2 hA ok rfl rfl rfl rfl ?_
  | refine w_stA 3 hA ok rfl rfl rfl rfl ?_
  | refine w_stA 4 hA ok rfl rfl rfl rfl ?_
  | refine w_stA 5 hA ok rfl rfl rfl rfl ?_
  | refine w_stA 6 hA ok rfl rfl rfl rfl ?_
  | refine w_stA 7 hA ok rfl rfl rfl rfl ?_
  | (refine w_Raw hA ?_; intro hA)
  | (refine w_SetRaw hA ?_; intro hA)
  | (refine w_SwapRaw hA ?_; intro hA)
  | (refine w_AddRaw hA ?_; intro hA)
  | (refine w_Load hA ?_; intro hA)
  | (refine w_Store hA ?_; intro hA)
  | (refine w_Retire hA ?_; intro hA)
  | (refine w_Died hA ?_; intro hA)
  | (refine w_Born hA ?_; intro hA)
  | refine w_State hA ?_
  | refine w_Uses hA ?_
  | refine w_Fault hA ?_
  | refine w_Words hA ?_
  | refine w_Count hA ?_
  | refine wq_Size ?_
  | refine wq_Open ?_
  | refine wq_Pack ?_
  | refine wq_head ?_
  | refine w_ck 0 hA ok rfl rfl rfl ?_
  | refine w_ck 1 hA ok rfl rfl rfl ?_
  | refine w_ck 2 hA ok rfl rfl rfl ?_
  | refine w_ck 3 hA ok rfl rfl rfl ?_
  | refine w_ck 4 hA ok rfl rfl rfl ?_
  | refine w_ck 5 hA ok rfl rfl rfl ?_
  | refine w_ck 6 hA ok rfl rfl rfl ?_
  | refine w_ck 7 hA ok rfl rfl rfl ?_
  | refine w_ckn rfl ?_
  | refine w_Base 0 1 hA ok rfl rfl ?_
  | refine w_Base 1 2 hA ok rfl rfl ?_
  | refine w_Base 2 3 hA ok rfl rfl ?_
  | refine w_Base 3 4 hA ok rfl rfl ?_
  | refine w_Base 4 5 hA ok rfl rfl ?_
  | refine w_Base 5 6 hA ok rfl rfl ?_
  | (refine w_PopStep 0 1 hA ok rfl rfl ?_; intro hA)
  | (refine w_PopStep 1 2 hA ok rfl rfl ?_; intro hA)
  | (refine w_PopStep 2 3 hA ok rfl rfl ?_; intro hA)
  | (refine w_PopStep 3 4 hA ok rfl rfl ?_; intro hA)
  | (refine w_PopStep 4 5 hA ok rfl rfl ?_; intro hA)
  | (refine w_PopStep 5 6 hA ok rfl rfl ?_; intro hA)
  | (refine w_PushStep 0 1 hA ok rfl rfl ?_; intro hA)
  | (refine w_PushStep 1 2 hA ok rfl rfl ?_; intro hA)
  | (refine w_PushStep 2 3 hA ok rfl rfl ?_; intro hA)
  | (refine w_PushStep 3 4 hA ok rfl rfl ?_; intro hA)
  | (refine w_PushStep 4 5 hA ok rfl rfl ?_; intro hA)
  | (refine w_PushStep 5 6 hA ok rfl rfl ?_; intro hA)
  | refine wp_true (by assumption) ?_
  | refine wp_false (by assumption) ?_)
      exact wp_ret_of ⟨(q, r0, r1), rfl, rfl, rfl, ok, hA⟩
    | false =>
      refine wp_false rfl ?_
      repeat (first
  | refine wp_nil.2 ?_
  | refine w_ld 0 hA ok rfl rfl rfl ?_
  | refine w_ld 1 hA ok rfl rfl rfl ?_
  | refine w_ld 2 hA ok rfl rfl rfl ?_
  | refine w_ld 3 hA ok rfl rfl rfl ?_
  | refine w_ld 4 hA ok rfl rfl rfl ?_
  | refine w_ld 5 hA ok rfl rfl rfl ?_
  | refine w_ld 6 hA ok rfl rfl rfl ?_
  | refine w_ld 7 hA ok rfl rfl rfl ?_
  | refine w_st 0 hA ok rfl rfl rfl rfl ?_
  | refine w_st 1 hA ok rfl rfl rfl rfl ?_
  | refine w_st 2 hA ok rfl rfl rfl rfl ?_
  | refine w_st 3 hA ok rfl rfl rfl rfl ?_
  | refine w_st 4 hA ok rfl rfl rfl rfl ?_
  | refine w_st 5 hA ok rfl rfl rfl rfl ?_
  | refine w_st 6 hA ok rfl rfl rfl rfl ?_
  | refine w_st 7 hA ok rfl rfl rfl rfl ?_
  | refine w_ldA 0 hA ok rfl rfl rfl ?_
  | refine w_ldA 1 hA ok rfl rfl rfl ?_
  | refine w_ldA 2 hA ok rfl rfl rfl ?_
  | refine w_ldA 3 hA ok rfl rfl rfl ?_
  | refine w_ldA 4 hA ok rfl rfl rfl ?_
  | refine w_ldA 5 hA ok rfl rfl rfl ?_
  | refine w_ldA 6 hA ok rfl rfl rfl ?_
  | refine w_ldA 7 hA ok rfl rfl rfl ?_
  | refine w_stA 0 hA ok rfl rfl rfl rfl ?_
  | refine w_stA 1 hA ok rfl rfl rfl rfl ?_
  | refine w_stA 2 hA ok rfl rfl rfl rfl ?_
  | refine w_stA 3 hA ok rfl rfl rfl rfl ?_
  | refine w_stA 4 hA ok rfl rfl rfl rfl ?_
  | refine w_stA 5 hA ok rfl rfl rfl rfl ?_
  | refine w_stA 6 hA ok rfl rfl rfl rfl ?_
  | refine w_stA 7 hA ok rfl rfl rfl rfl ?_
  | (refine w_Raw hA ?_; intro hA)
  | (refine w_SetRaw hA ?_; intro hA)
  | (refine w_SwapRaw hA ?_; intro hA)
  | (refine w_AddRaw hA ?_; intro hA)
  | (refine w_Load hA ?_; intro hA)
  | (refine w_Store hA ?_; intro hA)
  | (refine w_Retire hA ?_; intro hA)
  | (refine w_Died hA ?_; intro hA)
  | (refine w_Born hA ?_; intro hA)
  | refine w_State hA ?_
  | refine w_Uses hA ?_
  | refine w_Fault hA ?_
  | refine w_Words hA ?_
  | refine w_Count hA ?_
  | refine wq_Size ?_
  | refine wq_Open ?_
  | refine wq_Pack ?_
  | refine wq_head ?_
  | refine w_ck 0 hA ok rfl rfl rfl ?_
  | refine w_ck 1 hA ok rfl rfl rfl ?_
  | refine w_ck 2 hA ok rfl rfl rfl ?_
  | refine w_ck 3 hA ok rfl rfl rfl ?_
  | refine w_ck 4 hA ok rfl rfl rfl ?_
  | refine w_ck 5 hA ok rfl rfl rfl ?_
  | refine w_ck 6 hA ok rfl rfl rfl ?_
  | refine w_ck 7 hA ok rfl rfl rfl ?_
  | refine w_ckn rfl ?_
  | refine w_Base 0 1 hA ok rfl rfl ?_
  | refine w_Base 1 2 hA ok rfl rfl ?_
  | refine w_Base 2 3 hA ok rfl rfl ?_
  | refine w_Base 3 4 hA ok rfl rfl ?_
  | refine w_Base 4 5 hA ok rfl rfl ?_
  | refine w_Base 5 6 hA ok rfl rfl ?_
  | (refine w_PopStep 0 1 hA ok rfl rfl ?_; intro hA)
  | (refine w_PopStep 1 2 hA ok rfl rfl ?_; intro hA)
  | (refine w_PopStep 2 3 hA ok rfl rfl ?_; intro hA)
  | (refine w_PopStep 3 4 hA ok rfl rfl ?_; intro hA)
  | (refine w_PopStep 4 5 hA ok rfl rfl ?_; intro hA)
  | (refine w_PopStep 5 6 hA ok rfl rfl ?_; intro hA)
  | (refine w_PushStep 0 1 hA ok rfl rfl ?_; intro hA)
  | (refine w_PushStep 1 2 hA ok rfl rfl ?_; intro hA)
  | (refine w_PushStep 2 3 hA ok rfl rfl ?_; intro hA)
  | (refine w_PushStep 3 4 hA ok rfl rfl ?_; intro hA)
  | (refine w_PushStep 4 5 hA ok rfl rfl ?_; intro hA)
  | (refine w_PushStep 5 6 hA ok rfl rfl ?_; intro hA)
  | refine wp_true (by assumption) ?_
  | refine wp_false (by assumption) ?_)
      exact wp_ret_of ⟨(q, q0, q1), rfl, rfl, rfl, ok, hA⟩
  · rw [if_neg h0]
    refine wp_false (ibef h0) ?_
    by_cases h1 : x.what = 1
    · rw [if_pos h1]
      refine wp_true (ibeq h1) ?_
      repeat (first
  | refine wp_nil.2 ?_
  | refine w_ld 0 hA ok rfl rfl rfl ?_
  | refine w_ld 1 hA ok rfl rfl rfl ?_
  | refine w_ld 2 hA ok rfl rfl rfl ?_
  | refine w_ld 3 hA ok rfl rfl rfl ?_
  | refine w_ld 4 hA ok rfl rfl rfl ?_
  | refine w_ld 5 hA ok rfl rfl rfl ?_
  | refine w_ld 6 hA ok rfl rfl rfl ?_
  | refine w_ld 7 hA ok rfl rfl rfl ?_
  | refine w_st 0 hA ok rfl rfl rfl rfl ?_
  | refine w_st 1 hA ok rfl rfl rfl rfl ?_
  | refine w_st 2 hA ok rfl rfl rfl rfl ?_
  | refine w_st 3 hA ok rfl rfl rfl rfl ?_
  | refine w_st 4 hA ok rfl rfl rfl rfl ?_
  | refine w_st 5 hA ok rfl rfl rfl rfl ?_
  | refine w_st 6 hA ok rfl rfl rfl rfl ?_
  | refine w_st 7 hA ok rfl rfl rfl rfl ?_
  | refine w_ldA 0 hA ok rfl rfl rfl ?_
  | refine w_ldA 1 hA ok rfl rfl rfl ?_
  | refine w_ldA 2 hA ok rfl rfl rfl ?_
  | refine w_ldA 3 hA ok rfl rfl rfl ?_
  | refine w_ldA 4 hA ok rfl rfl rfl ?_
  | refine w_ldA 5 hA ok rfl rfl rfl ?_
  | refine w_ldA 6 hA ok rfl rfl rfl ?_
  | refine w_ldA 7 hA ok rfl rfl rfl ?_
  | refine w_stA 0 hA ok rfl rfl rfl rfl ?_
  | refine w_stA 1 hA ok rfl rfl rfl rfl ?_
  | refine w_stA 2 hA ok rfl rfl rfl rfl ?_
  | refine w_stA 3 hA ok rfl rfl rfl rfl ?_
  | refine w_stA 4 hA ok rfl rfl rfl rfl ?_
  | refine w_stA 5 hA ok rfl rfl rfl rfl ?_
  | refine w_stA 6 hA ok rfl rfl rfl rfl ?_
  | refine w_stA 7 hA ok rfl rfl rfl rfl ?_
  | (refine w_Raw hA ?_; intro hA)
  | (refine w_SetRaw hA ?_; intro hA)
  | (refine w_SwapRaw hA ?_; intro hA)
  | (refine w_AddRaw hA ?_; intro hA)
  | (refine w_Load hA ?_; intro hA)
  | (refine w_Store hA ?_; intro hA)
  | (refine w_Retire hA ?_; intro hA)
  | (refine w_Died hA ?_; intro hA)
  | (refine w_Born hA ?_; intro hA)
  | refine w_State hA ?_
  | refine w_Uses hA ?_
  | refine w_Fault hA ?_
  | refine w_Words hA ?_
  | refine w_Count hA ?_
  | refine wq_Size ?_
  | refine wq_Open ?_
  | refine wq_Pack ?_
  | refine wq_head ?_
  | refine w_ck 0 hA ok rfl rfl rfl ?_
  | refine w_ck 1 hA ok rfl rfl rfl ?_
  | refine w_ck 2 hA ok rfl rfl rfl ?_
  | refine w_ck 3 hA ok rfl rfl rfl ?_
  | refine w_ck 4 hA ok rfl rfl rfl ?_
  | refine w_ck 5 hA ok rfl rfl rfl ?_
  | refine w_ck 6 hA ok rfl rfl rfl ?_
  | refine w_ck 7 hA ok rfl rfl rfl ?_
  | refine w_ckn rfl ?_
  | refine w_Base 0 1 hA ok rfl rfl ?_
  | refine w_Base 1 2 hA ok rfl rfl ?_
  | refine w_Base 2 3 hA ok rfl rfl ?_
  | refine w_Base 3 4 hA ok rfl rfl ?_
  | refine w_Base 4 5 hA ok rfl rfl ?_
  | refine w_Base 5 6 hA ok rfl rfl ?_
  | (refine w_PopStep 0 1 hA ok rfl rfl ?_; intro hA)
  | (refine w_PopStep 1 2 hA ok rfl rfl ?_; intro hA)
  | (refine w_PopStep 2 3 hA ok rfl rfl ?_; intro hA)
  | (refine w_PopStep 3 4 hA ok rfl rfl ?_; intro hA)
  | (refine w_PopStep 4 5 hA ok rfl rfl ?_; intro hA)
  | (refine w_PopStep 5 6 hA ok rfl rfl ?_; intro hA)
  | (refine w_PushStep 0 1 hA ok rfl rfl ?_; intro hA)
  | (refine w_PushStep 1 2 hA ok rfl rfl ?_; intro hA)
  | (refine w_PushStep 2 3 hA ok rfl rfl ?_; intro hA)
  | (refine w_PushStep 3 4 hA ok rfl rfl ?_; intro hA)
  | (refine w_PushStep 4 5 hA ok rfl rfl ?_; intro hA)
  | (refine w_PushStep 5 6 hA ok rfl rfl ?_; intro hA)
  | refine wp_true (by assumption) ?_
  | refine wp_false (by assumption) ?_)
      have ew : (A.touchR x.pl.carved).words.length = A.words.length := by unfold Ar.touchR; split <;> rfl
      rw [ew]
      by_cases h2 : A.rawF x.pl.carved > w64 (A.words.length - sizeF x.cls)
      · rw [if_pos h2]
        refine wp_true (decide_eq_true h2) ?_
        repeat (first
  | refine wp_nil.2 ?_
  | refine w_ld 0 hA ok rfl rfl rfl ?_
  | refine w_ld 1 hA ok rfl rfl rfl ?_
  | refine w_ld 2 hA ok rfl rfl rfl ?_
  | refine w_ld 3 hA ok rfl rfl rfl ?_
  | refine w_ld 4 hA ok rfl rfl rfl ?_
  | refine w_ld 5 hA ok rfl rfl rfl ?_
  | refine w_ld 6 hA ok rfl rfl rfl ?_
  | refine w_ld 7 hA ok rfl rfl rfl ?_
  | refine w_st 0 hA ok rfl rfl rfl rfl ?_
  | refine w_st 1 hA ok rfl rfl rfl rfl ?_
  | refine w_st 2 hA ok rfl rfl rfl rfl ?_
  | refine w_st 3 hA ok rfl rfl rfl rfl ?_
  | refine w_st 4 hA ok rfl rfl rfl rfl ?_
  | refine w_st 5 hA ok rfl rfl rfl rfl ?_
  | refine w_st 6 hA ok rfl rfl rfl rfl ?_
  | refine w_st 7 hA ok rfl rfl rfl rfl ?_
  | refine w_ldA 0 hA ok rfl rfl rfl ?_
  | refine w_ldA 1 hA ok rfl rfl rfl ?_
  | refine w_ldA 2 hA ok rfl rfl rfl ?_
  | refine w_ldA 3 hA ok rfl rfl rfl ?_
  | refine w_ldA 4 hA ok rfl rfl rfl ?_
  | refine w_ldA 5 hA ok rfl rfl rfl ?_
  | refine w_ldA 6 hA ok rfl rfl rfl ?_
  | refine w_ldA 7 hA ok rfl rfl rfl ?_
  | refine w_stA 0 hA ok rfl rfl rfl rfl ?_
  | refine w_stA 1 hA ok rfl rfl rfl rfl ?_
  | refine w_stA 2 hA ok rfl rfl rfl rfl ?_
  | refine w_stA 3 hA ok rfl rfl rfl rfl ?_
  | refine w_stA 4 hA ok rfl rfl rfl rfl ?_
  | refine w_stA 5 hA ok rfl rfl rfl rfl ?_
  | refine w_stA 6 hA ok rfl rfl rfl rfl ?_
  | refine w_stA 7 hA ok rfl rfl rfl rfl ?_
  | (refine w_Raw hA ?_; intro hA)
  | (refine w_SetRaw hA ?_; intro hA)
  | (refine w_SwapRaw hA ?_; intro hA)
  | (refine w_AddRaw hA ?_; intro hA)
  | (refine w_Load hA ?_; intro hA)
  | (refine w_Store hA ?_; intro hA)
  | (refine w_Retire hA ?_; intro hA)
  | (refine w_Died hA ?_; intro hA)
  | (refine w_Born hA ?_; intro hA)
  | refine w_State hA ?_
  | refine w_Uses hA ?_
  | refine w_Fault hA ?_
  | refine w_Words hA ?_
  | refine w_Count hA ?_
  | refine wq_Size ?_
  | refine wq_Open ?_
  | refine wq_Pack ?_
  | refine wq_head ?_
  | refine w_ck 0 hA ok rfl rfl rfl ?_
  | refine w_ck 1 hA ok rfl rfl rfl ?_
  | refine w_ck 2 hA ok rfl rfl rfl ?_
  | refine w_ck 3 hA ok rfl rfl rfl ?_
  | refine w_ck 4 hA ok rfl rfl rfl ?_
  | refine w_ck 5 hA ok rfl rfl rfl ?_
  | refine w_ck 6 hA ok rfl rfl rfl ?_
  | refine w_ck 7 hA ok rfl rfl rfl ?_
  | refine w_ckn rfl ?_
  | refine w_Base 0 1 hA ok rfl rfl ?_
  | refine w_Base 1 2 hA ok rfl rfl ?_
  | refine w_Base 2 3 hA ok rfl rfl ?_
  | refine w_Base 3 4 hA ok rfl rfl ?_
  | refine w_Base 4 5 hA ok rfl rfl ?_
  | refine w_Base 5 6 hA ok rfl rfl ?_
  | (refine w_PopStep 0 1 hA ok rfl rfl ?_; intro hA)
  | (refine w_PopStep 1 2 hA ok rfl rfl ?_; intro hA)
  | (refine w_PopStep 2 3 hA ok rfl rfl ?_; intro hA)
  | (refine w_PopStep 3 4 hA ok rfl rfl ?_; intro hA)
  | (refine w_PopStep 4 5 hA ok rfl rfl ?_; intro hA)
  | (refine w_PopStep 5 6 hA ok rfl rfl ?_; intro hA)
  | (refine w_PushStep 0 1 hA ok rfl rfl ?_; intro hA)
  | (refine w_PushStep 1 2 hA ok rfl rfl ?_; intro hA)
  | (refine w_PushStep 2 3 hA ok rfl rfl ?_; intro hA)
  | (refine w_PushStep 3 4 hA ok rfl rfl ?_; intro hA)
  | (refine w_PushStep 4 5 hA ok rfl rfl ?_; intro hA)
  | (refine w_PushStep 5 6 hA ok rfl rfl ?_; intro hA)
  | refine wp_true (by assumption) ?_
  | refine wp_false (by assumption) ?_)
        exact wp_ret_of ⟨(q, q0, q1), rfl, rfl, rfl, ok, hA⟩
      · rw [if_neg h2]
        refine wp_false (decide_eq_false h2) ?_
        repeat (first
  | refine wp_nil.2 ?_
  | refine w_ld 0 hA ok rfl rfl rfl ?_
  | refine w_ld 1 hA ok rfl rfl rfl ?_
  | refine w_ld 2 hA ok rfl rfl rfl ?_
  | refine w_ld 3 hA ok rfl rfl rfl ?_
  | refine w_ld 4 hA ok rfl rfl rfl ?_
  | refine w_ld 5 hA ok rfl rfl rfl ?_
  | refine w_ld 6 hA ok rfl rfl rfl ?_
  | refine w_ld 7 hA ok rfl rfl rfl ?_
  | refine w_st 0 hA ok rfl rfl rfl rfl ?_
  | refine w_st 1 hA ok rfl rfl rfl rfl ?_
  | refine w_st 2 hA ok rfl rfl rfl rfl ?_
  | refine w_st 3 hA ok rfl rfl rfl rfl ?_
  | refine w_st 4 hA ok rfl rfl rfl rfl ?_
  | refine w_st 5 hA ok rfl rfl rfl rfl ?_
  | refine w_st 6 hA ok rfl rfl rfl rfl ?_
  | refine w_st 7 hA ok rfl rfl rfl rfl ?_
  | refine w_ldA 0 hA ok rfl rfl rfl ?_
  | refine w_ldA 1 hA ok rfl rfl rfl ?_
  | refine w_ldA 2 hA ok rfl rfl rfl ?_
  | refine w_ldA 3 hA ok rfl rfl rfl ?_
  | refine w_ldA 4 hA ok rfl rfl rfl ?_
  | refine w_ldA 5 hA ok rfl rfl rfl ?_
  | refine w_ldA 6 hA ok rfl rfl rfl ?_
  | refine w_ldA 7 hA ok rfl rfl rfl ?_
  | refine w_stA 0 hA ok rfl rfl rfl rfl ?_
  | refine w_stA 1 hA ok rfl rfl rfl rfl ?_
  | refine w_stA 2 hA ok rfl rfl rfl rfl ?_
  | refine w_stA 3 hA ok rfl rfl rfl rfl ?_
  | refine w_stA 4 hA ok rfl rfl rfl rfl ?_
  | refine w_stA 5 hA ok rfl rfl rfl rfl ?_
  | refine w_stA 6 hA ok rfl rfl rfl rfl ?_
  | refine w_stA 7 hA ok rfl rfl rfl rfl ?_
  | (refine w_Raw hA ?_; intro hA)
  | (refine w_SetRaw hA ?_; intro hA)
  | (refine w_SwapRaw hA ?_; intro hA)
  | (refine w_AddRaw hA ?_; intro hA)
  | (refine w_Load hA ?_; intro hA)
  | (refine w_Store hA ?_; intro hA)
  | (refine w_Retire hA ?_; intro hA)
  | (refine w_Died hA ?_; intro hA)
  | (refine w_Born hA ?_; intro hA)
  | refine w_State hA ?_
  | refine w_Uses hA ?_
  | refine w_Fault hA ?_
  | refine w_Words hA ?_
  | refine w_Count hA ?_
  | refine wq_Size ?_
  | refine wq_Open ?_
  | refine wq_Pack ?_
  | refine wq_head ?_
  | refine w_ck 0 hA ok rfl rfl rfl ?_
  | refine w_ck 1 hA ok rfl rfl rfl ?_
  | refine w_ck 2 hA ok rfl rfl rfl ?_
  | refine w_ck 3 hA ok rfl rfl rfl ?_
  | refine w_ck 4 hA ok rfl rfl rfl ?_
  | refine w_ck 5 hA ok rfl rfl rfl ?_
  | refine w_ck 6 hA ok rfl rfl rfl ?_
  | refine w_ck 7 hA ok rfl rfl rfl ?_
  | refine w_ckn rfl ?_
  | refine w_Base 0 1 hA ok rfl rfl ?_
  | refine w_Base 1 2 hA ok rfl rfl ?_
  | refine w_Base 2 3 hA ok rfl rfl ?_
  | refine w_Base 3 4 hA ok rfl rfl ?_
  | refine w_Base 4 5 hA ok rfl rfl ?_
  | refine w_Base 5 6 hA ok rfl rfl ?_
  | (refine w_PopStep 0 1 hA ok rfl rfl ?_; intro hA)
  | (refine w_PopStep 1 2 hA ok rfl rfl ?_; intro hA)
  | (refine w_PopStep 2 3 hA ok rfl rfl ?_; intro hA)
  | (refine w_PopStep 3 4 hA ok rfl rfl ?_; intro hA)
  | (refine w_PopStep 4 5 hA ok rfl rfl ?_; intro hA)
  | (refine w_PopStep 5 6 hA ok rfl rfl ?_; intro hA)
  | (refine w_PushStep 0 1 hA ok rfl rfl ?_; intro hA)
  | (refine w_PushStep 1 2 hA ok rfl rfl ?_; intro hA)
  | (refine w_PushStep 2 3 hA ok rfl rfl ?_; intro hA)
  | (refine w_PushStep 3 4 hA ok rfl rfl ?_; intro hA)
  | (refine w_PushStep 4 5 hA ok rfl rfl ?_; intro hA)
  | (refine w_PushStep 5 6 hA ok rfl rfl ?_; intro hA)
  | refine wp_true (by assumption) ?_
  | refine wp_false (by assumption) ?_)
        exact wp_ret_of ⟨(q, q0, q1), rfl, rfl, rfl, ok, hA⟩
    · rw [if_neg h1]
      refine wp_false (ibef h1) ?_
      by_cases h2 : x.what = 2
      · rw [if_pos h2]
        refine wp_true (ibeq h2) ?_
        repeat (first
  | refine wp_nil.2 ?_
  | refine w_ld 0 hA ok rfl rfl rfl ?_
  | refine w_ld 1 hA ok rfl rfl rfl ?_
  | refine w_ld 2 hA ok rfl rfl rfl ?_
  | refine w_ld 3 hA ok rfl rfl rfl ?_
  | refine w_ld 4 hA ok rfl rfl rfl ?_
  | refine w_ld 5 hA ok rfl rfl rfl ?_
  | refine w_ld 6 hA ok rfl rfl rfl ?_
  | refine w_ld 7 hA ok rfl rfl rfl ?_
  | refine w_st 0 hA ok rfl rfl rfl rfl ?_
  | refine w_st 1 hA ok rfl rfl rfl rfl ?_
  | refine w_st 2 hA ok rfl rfl rfl rfl ?_
  | refine w_st 3 hA ok rfl rfl rfl rfl ?_
  | refine w_st 4 hA ok rfl rfl rfl rfl ?_
  | refine w_st 5 hA ok rfl rfl rfl rfl ?_
  | refine w_st 6 hA ok rfl rfl rfl rfl ?_
  | refine w_st 7 hA ok rfl rfl rfl rfl ?_
  | refine w_ldA 0 hA ok rfl rfl rfl ?_
  | refine w_ldA 1 hA ok rfl rfl rfl ?_
  | refine w_ldA 2 hA ok rfl rfl rfl ?_
  | refine w_ldA 3 hA ok rfl rfl rfl ?_
  | refine w_ldA 4 hA ok rfl rfl rfl ?_
  | refine w_ldA 5 hA ok rfl rfl rfl ?_
  | refine w_ldA 6 hA ok rfl rfl rfl ?_
  | refine w_ldA 7 hA ok rfl rfl rfl ?_
  | refine w_stA 0 hA ok rfl rfl rfl rfl ?_
  | refine w_stA 1 hA ok rfl rfl rfl rfl ?_
  | refine w_stA 2 hA ok rfl rfl rfl rfl ?_
  | refine w_stA 3 hA ok rfl rfl rfl rfl ?_
  | refine w_stA 4 hA ok rfl rfl rfl rfl ?_
  | refine w_stA 5 hA ok rfl rfl rfl rfl ?_
  | refine w_stA 6 hA ok rfl rfl rfl rfl ?_
  | refine w_stA 7 hA ok rfl rfl rfl rfl ?_
  | (refine w_Raw hA ?_; intro hA)
  | (refine w_SetRaw hA ?_; intro hA)
  | (refine w_SwapRaw hA ?_; intro hA)
  | (refine w_AddRaw hA ?_; intro hA)
  | (refine w_Load hA ?_; intro hA)
  | (refine w_Store hA ?_; intro hA)
  | (refine w_Retire hA ?_; intro hA)
  | (refine w_Died hA ?_; intro hA)
  | (refine w_Born hA ?_; intro hA)
  | refine w_State hA ?_
  | refine w_Uses hA ?_
  | refine w_Fault hA ?_
  | refine w_Words hA ?_
  | refine w_Count hA ?_
  | refine wq_Size ?_
  | refine wq_Open ?_
  | refine wq_Pack ?_
  | refine wq_head ?_
  | refine w_ck 0 hA ok rfl rfl rfl ?_
  | refine w_ck 1 hA ok rfl rfl rfl ?_
  | refine w_ck 2 hA ok rfl rfl rfl ?_
  | refine w_ck 3 hA ok rfl rfl rfl ?_
  | refine w_ck 4 hA ok rfl rfl rfl ?_
  | refine w_ck 5 hA ok rfl rfl rfl ?_
  | refine w_ck 6 hA ok rfl rfl rfl ?_
  | refine w_ck 7 hA ok rfl rfl rfl ?_
  | refine w_ckn rfl ?_
  | refine w_Base 0 1 hA ok rfl rfl ?_
  | refine w_Base 1 2 hA ok rfl rfl ?_
  | refine w_Base 2 3 hA ok rfl rfl ?_
  | refine w_Base 3 4 hA ok rfl rfl ?_
  | refine w_Base 4 5 hA ok rfl rfl ?_
  | refine w_Base 5 6 hA ok rfl rfl ?_
  | (refine w_PopStep 0 1 hA ok rfl rfl ?_; intro hA)
  | (refine w_PopStep 1 2 hA ok rfl rfl ?_; intro hA)
  | (refine w_PopStep 2 3 hA ok rfl rfl ?_; intro hA)
  | (refine w_PopStep 3 4 hA ok rfl rfl ?_; intro hA)
  | (refine w_PopStep 4 5 hA ok rfl rfl ?_; intro hA)
  | (refine w_PopStep 5 6 hA ok rfl rfl ?_; intro hA)
  | (refine w_PushStep 0 1 hA ok rfl rfl ?_; intro hA)
  | (refine w_PushStep 1 2 hA ok rfl rfl ?_; intro hA)
  | (refine w_PushStep 2 3 hA ok rfl rfl ?_; intro hA)
  | (refine w_PushStep 3 4 hA ok rfl rfl ?_; intro hA)
  | (refine w_PushStep 4 5 hA ok rfl rfl ?_; intro hA)
  | (refine w_PushStep 5 6 hA ok rfl rfl ?_; intro hA)
  | refine wp_true (by assumption) ?_
  | refine wp_false (by assumption) ?_)
        cases hb : A.swapRb x.pl.carved x.base with
        | true =>
          repeat (first
  | refine wp_nil.2 ?_
  | refine w_ld 0 hA ok rfl rfl rfl ?_
  | refine w_ld 1 hA ok rfl rfl rfl ?_
  | refine w_ld 2 hA ok rfl rfl rfl ?_
  | refine w_ld 3 hA ok rfl rfl rfl ?_
  | refine w_ld 4 hA ok rfl rfl rfl ?_
  | refine w_ld 5 hA ok rfl rfl rfl ?_
  | refine w_ld 6 hA ok rfl rfl rfl ?_
  | refine w_ld 7 hA ok rfl rfl rfl ?_
  | refine w_st 0 hA ok rfl rfl rfl rfl ?_
  | refine w_st 1 hA ok rfl rfl rfl rfl ?_
  | refine w_st 2 hA ok rfl rfl rfl rfl ?_
  | refine w_st 3 hA ok rfl rfl rfl rfl ?_
  | refine w_st 4 hA ok rfl rfl rfl rfl ?_
  | refine w_st 5 hA ok rfl rfl rfl rfl ?_
  | refine w_st 6 hA ok rfl rfl rfl rfl ?_
  | refine w_st 7 hA ok rfl rfl rfl rfl ?_
  | refine w_ldA 0 hA ok rfl rfl rfl ?_
  | refine w_ldA 1 hA ok rfl rfl rfl ?_
  | refine w_ldA 2 hA ok rfl rfl rfl ?_
  | refine w_ldA 3 hA ok rfl rfl rfl ?_
  | refine w_ldA 4 hA ok rfl rfl rfl ?_
  | refine w_ldA 5 hA ok rfl rfl rfl ?_
  | refine w_ldA 6 hA ok rfl rfl rfl ?_
  | refine w_ldA 7 hA ok rfl rfl rfl ?_
  | refine w_stA 0 hA ok rfl rfl rfl rfl ?_
  | refine w_stA 1 hA ok rfl rfl rfl rfl ?_
  | refine w_stA 2 hA ok rfl rfl rfl rfl ?_
  | refine w_stA 3 hA ok rfl rfl rfl rfl ?_
  | refine w_stA 4 hA ok rfl rfl rfl rfl ?_
  | refine w_stA 5 hA ok rfl rfl rfl rfl ?_
  | refine w_stA 6 hA ok rfl rfl rfl rfl ?_
  | refine w_stA 7 hA ok rfl rfl rfl rfl ?_
  | (refine w_Raw hA ?_; intro hA)
  | (refine w_SetRaw hA ?_; intro hA)
  | (refine w_SwapRaw hA ?_; intro hA)
  | (refine w_AddRaw hA ?_; intro hA)
  | (refine w_Load hA ?_; intro hA)
  | (refine w_Store hA ?_; intro hA)
  | (refine w_Retire hA ?_; intro hA)
  | (refine w_Died hA ?_; intro hA)
  | (refine w_Born hA ?_; intro hA)
  | refine w_State hA ?_
  | refine w_Uses hA ?_
  | refine w_Fault hA ?_
  | refine w_Words hA ?_
  | refine w_Count hA ?_
  | refine wq_Size ?_
  | refine wq_Open ?_
  | refine wq_Pack ?_
  | refine wq_head ?_
  | refine w_ck 0 hA ok rfl rfl rfl ?_
  | refine w_ck 1 hA ok rfl rfl rfl ?_
  | refine w_ck 2 hA ok rfl rfl rfl ?_
  | refine w_ck 3 hA ok rfl rfl rfl ?_
  | refine w_ck 4 hA ok rfl rfl rfl ?_
  | refine w_ck 5 hA ok rfl rfl rfl ?_
  | refine w_ck 6 hA ok rfl rfl rfl ?_
  | refine w_ck 7 hA ok rfl rfl rfl ?_
  | refine w_ckn rfl ?_
  | refine w_Base 0 1 hA ok rfl rfl ?_
  | refine w_Base 1 2 hA ok rfl rfl ?_
  | refine w_Base 2 3 hA ok rfl rfl ?_
  | refine w_Base 3 4 hA ok rfl rfl ?_
  | refine w_Base 4 5 hA ok rfl rfl ?_
  | refine w_Base 5 6 hA ok rfl rfl ?_
  | (refine w_PopStep 0 1 hA ok rfl rfl ?_; intro hA)
  | (refine w_PopStep 1 2 hA ok rfl rfl ?_; intro hA)
  | (refine w_PopStep 2 3 hA ok rfl rfl ?_; intro hA)
  | (refine w_PopStep 3 4 hA ok rfl rfl ?_; intro hA)
  | (refine w_PopStep 4 5 hA ok rfl rfl ?_; intro hA)
  | (refine w_PopStep 5 6 hA ok rfl rfl ?_; intro hA)
  | (refine w_PushStep 0 1 hA ok rfl rfl ?_; intro hA)
  | (refine w_PushStep 1 2 hA ok rfl rfl ?_; intro hA)
  | (refine w_PushStep 2 3 hA ok rfl rfl ?_; intro hA)
  | (refine w_PushStep 3 4 hA ok rfl rfl ?_; intro hA)
  | (refine w_PushStep 4 5 hA ok rfl rfl ?_; intro hA)
  | (refine w_PushStep 5 6 hA ok rfl rfl ?_; intro hA)
  | refine wp_true (by assumption) ?_
  | refine wp_false (by assumption) ?_)
          exact wp_ret_of ⟨(q, q0, q1), rfl, rfl, rfl, ok, hA⟩
        | false =>
          repeat (first
  | refine wp_nil.2 ?_
  | refine w_ld 0 hA ok rfl rfl rfl ?_
  | refine w_ld 1 hA ok rfl rfl rfl ?_
  | refine w_ld 2 hA ok rfl rfl rfl ?_
  | refine w_ld 3 hA ok rfl rfl rfl ?_
  | refine w_ld 4 hA ok rfl rfl rfl ?_
  | refine w_ld 5 hA ok rfl rfl rfl ?_
  | refine w_ld 6 hA ok rfl rfl rfl ?_
  | refine w_ld 7 hA ok rfl rfl rfl ?_
  | refine w_st 0 hA ok rfl rfl rfl rfl ?_
  | refine w_st 1 hA ok rfl rfl rfl rfl ?_
  | refine w_st 2 hA ok rfl rfl rfl rfl ?_
  | refine w_st 3 hA ok rfl rfl rfl rfl ?_
  | refine w_st 4 hA ok rfl rfl rfl rfl ?_
  | refine w_st 5 hA ok rfl rfl rfl rfl ?_
  | refine w_st 6 hA ok rfl rfl rfl rfl ?_
  | refine w_st 7 hA ok rfl rfl rfl rfl ?_
  | refine w_ldA 0 hA ok rfl rfl rfl ?_
  | refine w_ldA 1 hA ok rfl rfl rfl ?_
  | refine w_ldA 2 hA ok rfl rfl rfl ?_
  | refine w_ldA 3 hA ok rfl rfl rfl ?_
  | refine w_ldA 4 hA ok rfl rfl rfl ?_
  | refine w_ldA 5 hA ok rfl rfl rfl ?_
  | refine w_ldA 6 hA ok rfl rfl rfl ?_
  | refine w_ldA 7 hA ok rfl rfl rfl ?_
  | refine w_stA 0 hA ok rfl rfl rfl rfl ?_
  | refine w_stA 1 hA ok rfl rfl rfl rfl ?_
  | refine w_stA 2 hA ok rfl rfl rfl rfl ?_
  | refine w_stA 3 hA ok rfl rfl rfl rfl ?_
  | refine w_stA 4 hA ok rfl rfl rfl rfl ?_
  | refine w_stA 5 hA ok rfl rfl rfl rfl ?_
  | refine w_stA 6 hA ok rfl rfl rfl rfl ?_
  | refine w_stA 7 hA ok rfl rfl rfl rfl ?_
  | (refine w_Raw hA ?_; intro hA)
  | (refine w_SetRaw hA ?_; intro hA)
  | (refine w_SwapRaw hA ?_; intro hA)
  | (refine w_AddRaw hA ?_; intro hA)
  | (refine w_Load hA ?_; intro hA)
  | (refine w_Store hA ?_; intro hA)
  | (refine w_Retire hA ?_; intro hA)
  | (refine w_Died hA ?_; intro hA)
  | (refine w_Born hA ?_; intro hA)
  | refine w_State hA ?_
  | refine w_Uses hA ?_
  | refine w_Fault hA ?_
  | refine w_Words hA ?_
  | refine w_Count hA ?_
  | refine wq_Size ?_
  | refine wq_Open ?_
  | refine wq_Pack ?_
  | refine wq_head ?_
  | refine w_ck 0 hA ok rfl rfl rfl ?_
  | refine w_ck 1 hA ok rfl rfl rfl ?_
  | refine w_ck 2 hA ok rfl rfl rfl ?_
  | refine w_ck 3 hA ok rfl rfl rfl ?_
  | refine w_ck 4 hA ok rfl rfl rfl ?_
  | refine w_ck 5 hA ok rfl rfl rfl ?_
  | refine w_ck 6 hA ok rfl rfl rfl ?_
  | refine w_ck 7 hA ok rfl rfl rfl ?_
  | refine w_ckn rfl ?_
  | refine w_Base 0 1 hA ok rfl rfl ?_
  | refine w_Base 1 2 hA ok rfl rfl ?_
  | refine w_Base 2 3 hA ok rfl rfl ?_
  | refine w_Base 3 4 hA ok rfl rfl ?_
  | refine w_Base 4 5 hA ok rfl rfl ?_
  | refine w_Base 5 6 hA ok rfl rfl ?_
  | (refine w_PopStep 0 1 hA ok rfl rfl ?_; intro hA)
  | (refine w_PopStep 1 2 hA ok rfl rfl ?_; intro hA)
  | (refine w_PopStep 2 3 hA ok rfl rfl ?_; intro hA)
  | (refine w_PopStep 3 4 hA ok rfl rfl ?_; intro hA)
  | (refine w_PopStep 4 5 hA ok rfl rfl ?_; intro hA)
  | (refine w_PopStep 5 6 hA ok rfl rfl ?_; intro hA)
  | (refine w_PushStep 0 1 hA ok rfl rfl ?_; intro hA)
  | (refine w_PushStep 1 2 hA ok rfl rfl ?_; intro hA)
  | (refine w_PushStep 2 3 hA ok rfl rfl ?_; intro hA)
  | (refine w_PushStep 3 4 hA ok rfl rfl ?_; intro hA)
  | (refine w_PushStep 4 5 hA ok rfl rfl ?_; intro hA)
  | (refine w_PushStep 5 6 hA ok rfl rfl ?_; intro hA)
  | refine wp_true (by assumption) ?_
  | refine wp_false (by assumption) ?_)
          exact wp_ret_of ⟨(q, q0, q1), rfl, rfl, rfl, ok, hA⟩
      · rw [if_neg h2]
        refine wp_false (ibef h2) ?_
        by_cases h3 : x.what = 3
        · rw [if_pos h3]
          refine wp_true (ibeq h3) ?_
          repeat (first
  | refine wp_nil.2 ?_
  | refine w_ld 0 hA ok rfl rfl rfl ?_
  | refine w_ld 1 hA ok rfl rfl rfl ?_
  | refine w_ld 2 hA ok rfl rfl rfl ?_
  | refine w_ld 3 hA ok rfl rfl rfl ?_
  | refine w_ld 4 hA ok rfl rfl rfl ?_
  | refine w_ld 5 hA ok rfl rfl rfl ?_
  | refine w_ld 6 hA ok rfl rfl rfl ?_
  | refine w_ld 7 hA ok rfl rfl rfl ?_
  | refine w_st 0 hA ok rfl rfl rfl rfl ?_
  | refine w_st 1 hA ok rfl rfl rfl rfl ?_
  | refine w_st 2 hA ok rfl rfl rfl rfl ?_
  | refine w_st 3 hA ok rfl rfl rfl rfl ?_
  | refine w_st 4 hA ok rfl rfl rfl rfl ?_
  | refine w_st 5 hA ok rfl rfl rfl rfl ?_
  | refine w_st 6 hA ok rfl rfl rfl rfl ?_
  | refine w_st 7 hA ok rfl rfl rfl rfl ?_
  | refine w_ldA 0 hA ok rfl rfl rfl ?_
  | refine w_ldA 1 hA ok rfl rfl rfl ?_
  | refine w_ldA 2 hA ok rfl rfl rfl ?_
  | refine w_ldA 3 hA ok rfl rfl rfl ?_
  | refine w_ldA 4 hA ok rfl rfl rfl ?_
  | refine w_ldA 5 hA ok rfl rfl rfl ?_
  | refine w_ldA 6 hA ok rfl rfl rfl ?_
  | refine w_ldA 7 hA ok rfl rfl rfl ?_
  | refine w_stA 0 hA ok rfl rfl rfl rfl ?_
  | refine w_stA 1 hA ok rfl rfl rfl rfl ?_
  | refine w_stA 2 hA ok rfl rfl rfl rfl ?_
  | refine w_stA 3 hA ok rfl rfl rfl rfl ?_
  | refine w_stA 4 hA ok rfl rfl rfl rfl ?_
  | refine w_stA 5 hA ok rfl rfl rfl rfl ?_
  | refine w_stA 6 hA ok rfl rfl rfl rfl ?_
  | refine w_stA 7 hA ok rfl rfl rfl rfl ?_
  | (refine w_Raw hA ?_; intro hA)
  | (refine w_SetRaw hA ?_; intro hA)
  | (refine w_SwapRaw hA ?_; intro hA)
  | (refine w_AddRaw hA ?_; intro hA)
  | (refine w_Load hA ?_; intro hA)
  | (refine w_Store hA ?_; intro hA)
  | (refine w_Retire hA ?_; intro hA)
  | (refine w_Died hA ?_; intro hA)
  | (refine w_Born hA ?_; intro hA)
  | refine w_State hA ?_
  | refine w_Uses hA ?_
  | refine w_Fault hA ?_
  | refine w_Words hA ?_
  | refine w_Count hA ?_
  | refine wq_Size ?_
  | refine wq_Open ?_
  | refine wq_Pack ?_
  | refine wq_head ?_
  | refine w_ck 0 hA ok rfl rfl rfl ?_
  | refine w_ck 1 hA ok rfl rfl rfl ?_
  | refine w_ck 2 hA ok rfl rfl rfl ?_
  | refine w_ck 3 hA ok rfl rfl rfl ?_
  | refine w_ck 4 hA ok rfl rfl rfl ?_
  | refine w_ck 5 hA ok rfl rfl rfl ?_
  | refine w_ck 6 hA ok rfl rfl rfl ?_
  | refine w_ck 7 hA ok rfl rfl rfl ?_
  | refine w_ckn rfl ?_
  | refine w_Base 0 1 hA ok rfl rfl ?_
  | refine w_Base 1 2 hA ok rfl rfl ?_
  | refine w_Base 2 3 hA ok rfl rfl ?_
  | refine w_Base 3 4 hA ok rfl rfl ?_
  | refine w_Base 4 5 hA ok rfl rfl ?_
  | refine w_Base 5 6 hA ok rfl rfl ?_
  | (refine w_PopStep 0 1 hA ok rfl rfl ?_; intro hA)
  | (refine w_PopStep 1 2 hA ok rfl rfl ?_; intro hA)
  | (refine w_PopStep 2 3 hA ok rfl rfl ?_; intro hA)
  | (refine w_PopStep 3 4 hA ok rfl rfl ?_; intro hA)
  | (refine w_PopStep 4 5 hA ok rfl rfl ?_; intro hA)
  | (refine w_PopStep 5 6 hA ok rfl rfl ?_; intro hA)
  | (refine w_PushStep 0 1 hA ok rfl rfl ?_; intro hA)
  | (refine w_PushStep 1 2 hA ok rfl rfl ?_; intro hA)
  | (refine w_PushStep 2 3 hA ok rfl rfl ?_; intro hA)
  | (refine w_PushStep 3 4 hA ok rfl rfl ?_; intro hA)
  | (refine w_PushStep 4 5 hA ok rfl rfl ?_; intro hA)
  | (refine w_PushStep 5 6 hA ok rfl rfl ?_; intro hA)
  | refine wp_true (by assumption) ?_
  | refine wp_false (by assumption) ?_)
          exact wp_ret_of ⟨(q, q0, q1), rfl, rfl, rfl, ok, hA⟩
        · rw [if_neg h3]
          refine wp_false (ibef h3) ?_
          repeat (first
  | refine wp_nil.2 ?_
  | refine w_ld 0 hA ok rfl rfl rfl ?_
  | refine w_ld 1 hA ok rfl rfl rfl ?_
  | refine w_ld 2 hA ok rfl rfl rfl ?_
  | refine w_ld 3 hA ok rfl rfl rfl ?_
  | refine w_ld 4 hA ok rfl rfl rfl ?_
  | refine w_ld 5 hA ok rfl rfl rfl ?_
  | refine w_ld 6 hA ok rfl rfl rfl ?_
  | refine w_ld 7 hA ok rfl rfl rfl ?_
  | refine w_st 0 hA ok rfl rfl rfl rfl ?_
  | refine w_st 1 hA ok rfl rfl rfl rfl ?_
  | refine w_st 2 hA ok rfl rfl rfl rfl ?_
  | refine w_st 3 hA ok rfl rfl rfl rfl ?_
  | refine w_st 4 hA ok rfl rfl rfl rfl ?_
  | refine w_st 5 hA ok rfl rfl rfl rfl ?_
  | refine w_st 6 hA ok rfl rfl rfl rfl ?_
  | refine w_st 7 hA ok rfl rfl rfl rfl ?_
  | refine w_ldA 0 hA ok rfl rfl rfl ?_
  | refine w_ldA 1 hA ok rfl rfl rfl ?_
  | refine w_ldA 2 hA ok rfl rfl rfl ?_
  | refine w_ldA 3 hA ok rfl rfl rfl ?_
  | refine w_ldA 4 hA ok rfl rfl rfl ?_
  | refine w_ldA 5 hA ok rfl rfl rfl ?_
  | refine w_ldA 6 hA ok rfl rfl rfl ?_
  | refine w_ldA 7 hA ok rfl rfl rfl ?_
  | refine w_stA 0 hA ok rfl rfl rfl rfl ?_
  | refine w_stA 1 hA ok rfl rfl rfl rfl ?_
  | refine w_stA 2 hA ok rfl rfl rfl rfl ?_
  | refine w_stA 3 hA ok rfl rfl rfl rfl ?_
  | refine w_stA 4 hA ok rfl rfl rfl rfl ?_
  | refine w_stA 5 hA ok rfl rfl rfl rfl ?_
  | refine w_stA 6 hA ok rfl rfl rfl rfl ?_
  | refine w_stA 7 hA ok rfl rfl rfl rfl ?_
  | (refine w_Raw hA ?_; intro hA)
  | (refine w_SetRaw hA ?_; intro hA)
  | (refine w_SwapRaw hA ?_; intro hA)
  | (refine w_AddRaw hA ?_; intro hA)
  | (refine w_Load hA ?_; intro hA)
  | (refine w_Store hA ?_; intro hA)
  | (refine w_Retire hA ?_; intro hA)
  | (refine w_Died hA ?_; intro hA)
  | (refine w_Born hA ?_; intro hA)
  | refine w_State hA ?_
  | refine w_Uses hA ?_
  | refine w_Fault hA ?_
  | refine w_Words hA ?_
  | refine w_Count hA ?_
  | refine wq_Size ?_
  | refine wq_Open ?_
  | refine wq_Pack ?_
  | refine wq_head ?_
  | refine w_ck 0 hA ok rfl rfl rfl ?_
  | refine w_ck 1 hA ok rfl rfl rfl ?_
  | refine w_ck 2 hA ok rfl rfl rfl ?_
  | refine w_ck 3 hA ok rfl rfl rfl ?_
  | refine w_ck 4 hA ok rfl rfl rfl ?_
  | refine w_ck 5 hA ok rfl rfl rfl ?_
  | refine w_ck 6 hA ok rfl rfl rfl ?_
  | refine w_ck 7 hA ok rfl rfl rfl ?_
  | refine w_ckn rfl ?_
  | refine w_Base 0 1 hA ok rfl rfl ?_
  | refine w_Base 1 2 hA ok rfl rfl ?_
  | refine w_Base 2 3 hA ok rfl rfl ?_
  | refine w_Base 3 4 hA ok rfl rfl ?_
  | refine w_Base 4 5 hA ok rfl rfl ?_
  | refine w_Base 5 6 hA ok rfl rfl ?_
  | (refine w_PopStep 0 1 hA ok rfl rfl ?_; intro hA)
  | (refine w_PopStep 1 2 hA ok rfl rfl ?_; intro hA)
  | (refine w_PopStep 2 3 hA ok rfl rfl ?_; intro hA)
  | (refine w_PopStep 3 4 hA ok rfl rfl ?_; intro hA)
  | (refine w_PopStep 4 5 hA ok rfl rfl ?_; intro hA)
  | (refine w_PopStep 5 6 hA ok rfl rfl ?_; intro hA)
  | (refine w_PushStep 0 1 hA ok rfl rfl ?_; intro hA)
  | (refine w_PushStep 1 2 hA ok rfl rfl ?_; intro hA)
  | (refine w_PushStep 2 3 hA ok rfl rfl ?_; intro hA)
  | (refine w_PushStep 3 4 hA ok rfl rfl ?_; intro hA)
  | (refine w_PushStep 4 5 hA ok rfl rfl ?_; intro hA)
  | (refine w_PushStep 5 6 hA ok rfl rfl ?_; intro hA)
  | refine wp_true (by assumption) ?_
  | refine wp_false (by assumption) ?_)
          exact wp_ret_of ⟨(q, q0, q1), rfl, rfl, rfl, ok, hA⟩
end Go.Proofs.Ytfphgiipekkgdaa

set_option linter.unusedVariables false
set_option maxRecDepth 20000
namespace Go.Proofs.Ytfphgiipekkgdaa
open Go Go.Fw

/-- A free. -/
structure Fe where
  h : Int
  done : Bool
  pu : Pu
def Fe.cells (x : Fe) (q0 : Nat) : List Value := [.pointer (some ⟨q0, 0, none⟩), .int .i64 x.h, .bool x.done]
def Fe.bl (x : Fe) (j : Nat × Nat × Nat) : Bl := [(j.1, oc ty_slab_Free (x.cells j.2.1)), (j.2.1, pushObj j.2.2), (j.2.2, x.pu.obj)]
def Fe.step (x : Fe) (A : Ar) : Fe × Ar :=
  if x.done = true then (x, A)
  else if x.pu.stepB A = true then ({ x with pu := x.pu.stepM A, done := true }, (x.pu.stepA A).diedF x.h) else ({ x with pu := x.pu.stepM A }, x.pu.stepA A)
def mFe : Mch Fe (Nat × Nat × Nat) where
  f := f_slab_Free_Step
  addr := fun j => j.1
  bl := Fe.bl
  inv := fun _ _ => True
  step := Fe.step
  fin := fun x => x.done
theorem mFe_ok : mFe.ok := by
  rintro I A G x ⟨q, q0, q1⟩ hA ok hl
  have ok : Ok I G [q, q0, q1] := ok
  refine t_slab_Free_Step_spec fun L => ?_
  unfold t_slab_Free_Step
  show wp Try.prog _ L (own A [(q, oc ty_slab_Free (x.cells q0)), (q0, pushObj q1), (q1, x.pu.obj)] G) fun v K => ∃ j' : Nat × Nat × Nat, v = .bool (x.step A).1.done ∧ K = own (x.step A).2 ((x.step A).1.bl j') G ∧ j'.1 = q ∧ Ok I G [j'.1, j'.2.1, j'.2.2] ∧ Aw I (x.step A).2
  unfold Fe.step
  repeat (first
  | refine wp_nil.2 ?_
  | refine w_ld 0 hA ok rfl rfl rfl ?_
  | refine w_ld 1 hA ok rfl rfl rfl ?_
  | refine w_ld 2 hA ok rfl rfl rfl ?_
  | refine w_ld 3 hA ok rfl rfl rfl ?_
  | refine w_ld 4 hA ok rfl rfl rfl ?_
  | refine w_ld 5 hA ok rfl rfl rfl ?_
  | refine w_ld 6 hA ok rfl rfl rfl ?_
  | refine w_ld 7 hA ok rfl rfl rfl ?_
  | refine w_st 0 hA ok rfl rfl rfl rfl ?_
  | refine w_st 1 hA ok rfl rfl rfl rfl ?_
  | refine w_st 2 hA ok rfl rfl rfl rfl ?_
  | refine w_st 3 hA ok rfl rfl rfl rfl ?_
  | refine w_st 4 hA ok rfl rfl rfl rfl ?_
  | refine w_st 5 hA ok rfl rfl rfl rfl ?_
  | refine w_st 6 hA ok rfl rfl rfl rfl ?_
  | refine w_st 7 hA ok rfl rfl rfl rfl ?_
  | refine w_ldA 0 hA ok rfl rfl rfl ?_
  | refine w_ldA 1 hA ok rfl rfl rfl ?_
  | refine w_ldA 2 hA ok rfl rfl rfl ?_
  | refine w_ldA 3 hA ok rfl rfl rfl ?_
  | refine w_ldA 4 hA ok rfl rfl rfl ?_
  | refine w_ldA 5 hA ok rfl rfl rfl ?_
  | refine w_ldA 6 hA ok rfl rfl rfl ?_
  | refine w_ldA 7 hA ok rfl rfl rfl ?_
  | refine w_stA 0 hA ok rfl rfl rfl rfl ?_
  | refine w_stA 1 hA ok rfl rfl rfl rfl ?_
  | refine w_stA 2 hA ok rfl rfl rfl rfl ?_
  | refine w_stA 3 hA ok rfl rfl rfl rfl ?_
  | refine w_stA 4 hA ok rfl rfl rfl rfl ?_
  | refine w_stA 5 hA ok rfl rfl rfl rfl ?_
  | refine w_stA 6 hA ok rfl rfl rfl rfl ?_
  | refine w_stA 7 hA ok rfl rfl rfl rfl ?_
  | (refine w_Raw hA ?_; intro hA)
  | (refine w_SetRaw hA ?_; intro hA)
  | (refine w_SwapRaw hA ?_; intro hA)
  | (refine w_AddRaw hA ?_; intro hA)
  | (refine w_Load hA ?_; intro hA)
  | (refine w_Store hA ?_; intro hA)
  | (refine w_Retire hA ?_; intro hA)
  | (refine w_Died hA ?_; intro hA)
  | (refine w_Born hA ?_; intro hA)
  | refine w_State hA ?_
  | refine w_Uses hA ?_
  | refine w_Fault hA ?_
  | refine w_Words hA ?_
  | refine w_Count hA ?_
  | refine wq_Size ?_
  | refine wq_Open ?_
  | refine wq_Pack ?_
  | refine wq_head ?_
  | refine w_ck 0 hA ok rfl rfl rfl ?_
  | refine w_ck 1 hA ok rfl rfl rfl ?_
  | refine w_ck 2 hA ok rfl rfl rfl ?_
  | refine w_ck 3 hA ok rfl rfl rfl ?_
  | refine w_ck 4 hA ok rfl rfl rfl ?_
  | refine w_ck 5 hA ok rfl rfl rfl ?_
  | refine w_ck 6 hA ok rfl rfl rfl ?_
  | refine w_ck 7 hA ok rfl rfl rfl ?_
  | refine w_ckn rfl ?_
  | refine w_Base 0 1 hA ok rfl rfl ?_
  | refine w_Base 1 2 hA ok rfl rfl ?_
  | refine w_Base 2 3 hA ok rfl rfl ?_
  | refine w_Base 3 4 hA ok rfl rfl ?_
  | refine w_Base 4 5 hA ok rfl rfl ?_
  | refine w_Base 5 6 hA ok rfl rfl ?_
  | (refine w_PopStep 0 1 hA ok rfl rfl ?_; intro hA)
  | (refine w_PopStep 1 2 hA ok rfl rfl ?_; intro hA)
  | (refine w_PopStep 2 3 hA ok rfl rfl ?_; intro hA)
  | (refine w_PopStep 3 4 hA ok rfl rfl ?_; intro hA)
  | (refine w_PopStep 4 5 hA ok rfl rfl ?_; intro hA)
  | (refine w_PopStep 5 6 hA ok rfl rfl ?_; intro hA)
  | (refine w_PushStep 0 1 hA ok rfl rfl ?_; intro hA)
  | (refine w_PushStep 1 2 hA ok rfl rfl ?_; intro hA)
  | (refine w_PushStep 2 3 hA ok rfl rfl ?_; intro hA)
  | (refine w_PushStep 3 4 hA ok rfl rfl ?_; intro hA)
  | (refine w_PushStep 4 5 hA ok rfl rfl ?_; intro hA)
  | (refine w_PushStep 5 6 hA ok rfl rfl ?_; intro hA)
  | refine wp_true (by assumption) ?_
  | refine wp_false (by assumption) ?_)
  by_cases hd : x.done = true
  · rw [if_pos hd]
    refine wp_false (by rw [hd]; rfl) ?_
    repeat (first
  | refine wp_nil.2 ?_
  | refine w_ld 0 hA ok rfl rfl rfl ?_
  | refine w_ld 1 hA ok rfl rfl rfl ?_
  | refine w_ld 2 hA ok rfl rfl rfl ?_
  | refine w_ld 3 hA ok rfl rfl rfl ?_
  | refine w_ld 4 hA ok rfl rfl rfl ?_
  | refine w_ld 5 hA ok rfl rfl rfl ?_
  | refine w_ld 6 hA ok rfl rfl rfl ?_
  | refine w_ld 7 hA ok rfl rfl rfl ?_
  | refine w_st 0 hA ok rfl rfl rfl rfl ?_
  | refine w_st 1 hA ok rfl rfl rfl rfl ?_
  | refine w_st 2 hA ok rfl rfl rfl rfl ?_
  | refine w_st 3 hA ok rfl rfl rfl rfl ?_
  | refine w_st 4 hA ok rfl rfl rfl rfl ?_
  | refine w_st 5 hA ok rfl rfl rfl rfl ?_
  | refine w_st 6 hA ok rfl rfl rfl rfl ?_
  | refine w_st 7 hA ok rfl rfl rfl rfl ?_
  | refine w_ldA 0 hA ok rfl rfl rfl ?_
  | refine w_ldA 1 hA ok rfl rfl rfl ?_
  | refine w_ldA 2 hA ok rfl rfl rfl ?_
  | refine w_ldA 3 hA ok rfl rfl rfl ?_
  | refine w_ldA 4 hA ok rfl rfl rfl ?_
  | refine w_ldA 5 hA ok rfl rfl rfl ?_
  | refine w_ldA 6 hA ok rfl rfl rfl ?_
  | refine w_ldA 7 hA ok rfl rfl rfl ?_
  | refine w_stA 0 hA ok rfl rfl rfl rfl ?_
  | refine w_stA 1 hA ok rfl rfl rfl rfl ?_
  | refine w_stA 2 hA ok rfl rfl rfl rfl ?_
  | refine w_stA 3 hA ok rfl rfl rfl rfl ?_
  | refine w_stA 4 hA ok rfl rfl rfl rfl ?_
  | refine w_stA 5 hA ok rfl rfl rfl rfl ?_
  | refine w_stA 6 hA ok rfl rfl rfl rfl ?_
  | refine w_stA 7 hA ok rfl rfl rfl rfl ?_
  | (refine w_Raw hA ?_; intro hA)
  | (refine w_SetRaw hA ?_; intro hA)
  | (refine w_SwapRaw hA ?_; intro hA)
  | (refine w_AddRaw hA ?_; intro hA)
  | (refine w_Load hA ?_; intro hA)
  | (refine w_Store hA ?_; intro hA)
  | (refine w_Retire hA ?_; intro hA)
  | (refine w_Died hA ?_; intro hA)
  | (refine w_Born hA ?_; intro hA)
  | refine w_State hA ?_
  | refine w_Uses hA ?_
  | refine w_Fault hA ?_
  | refine w_Words hA ?_
  | refine w_Count hA ?_
  | refine wq_Size ?_
  | refine wq_Open ?_
  | refine wq_Pack ?_
  | refine wq_head ?_
  | refine w_ck 0 hA ok rfl rfl rfl ?_
  | refine w_ck 1 hA ok rfl rfl rfl ?_
  | refine w_ck 2 hA ok rfl rfl rfl ?_
  | refine w_ck 3 hA ok rfl rfl rfl ?_
  | refine w_ck 4 hA ok rfl rfl rfl ?_
  | refine w_ck 5 hA ok rfl rfl rfl ?_
  | refine w_ck 6 hA ok rfl rfl rfl ?_
  | refine w_ck 7 hA ok rfl rfl rfl ?_
  | refine w_ckn rfl ?_
  | refine w_Base 0 1 hA ok rfl rfl ?_
  | refine w_Base 1 2 hA ok rfl rfl ?_
  | refine w_Base 2 3 hA ok rfl rfl ?_
  | refine w_Base 3 4 hA ok rfl rfl ?_
  | refine w_Base 4 5 hA ok rfl rfl ?_
  | refine w_Base 5 6 hA ok rfl rfl ?_
  | (refine w_PopStep 0 1 hA ok rfl rfl ?_; intro hA)
  | (refine w_PopStep 1 2 hA ok rfl rfl ?_; intro hA)
  | (refine w_PopStep 2 3 hA ok rfl rfl ?_; intro hA)
  | (refine w_PopStep 3 4 hA ok rfl rfl ?_; intro hA)
  | (refine w_PopStep 4 5 hA ok rfl rfl ?_; intro hA)
  | (refine w_PopStep 5 6 hA ok rfl rfl ?_; intro hA)
  | (refine w_PushStep 0 1 hA ok rfl rfl ?_; intro hA)
  | (refine w_PushStep 1 2 hA ok rfl rfl ?_; intro hA)
  | (refine w_PushStep 2 3 hA ok rfl rfl ?_; intro hA)
  | (refine w_PushStep 3 4 hA ok rfl rfl ?_; intro hA)
  | (refine w_PushStep 4 5 hA ok rfl rfl ?_; intro hA)
  | (refine w_PushStep 5 6 hA ok rfl rfl ?_; intro hA)
  | refine wp_true (by assumption) ?_
  | refine wp_false (by assumption) ?_)
    exact wp_ret_of ⟨(q, q0, q1), rfl, rfl, rfl, ok, hA⟩
  · rw [if_neg hd]
    refine wp_true (by simpa using hd) ?_
    repeat (first
  | refine wp_nil.2 ?_
  | refine w_ld 0 hA ok rfl rfl rfl ?_
  | refine w_ld 1 hA ok rfl rfl rfl ?_
  | refine w_ld 2 hA ok rfl rfl rfl ?_
  | refine w_ld 3 hA ok rfl rfl rfl ?_
  | refine w_ld 4 hA ok rfl rfl rfl ?_
  | refine w_ld 5 hA ok rfl rfl rfl ?_
  | refine w_ld 6 hA ok rfl rfl rfl ?_
  | refine w_ld 7 hA ok rfl rfl rfl ?_
  | refine w_st 0 hA ok rfl rfl rfl rfl ?_
  | refine w_st 1 hA ok rfl rfl rfl rfl ?_
  | refine w_st 2 hA ok rfl rfl rfl rfl ?_
  | refine w_st 3 hA ok rfl rfl rfl rfl ?_
  | refine w_st 4 hA ok rfl rfl rfl rfl ?_
  | refine w_st 5 hA ok rfl rfl rfl rfl ?_
  | refine w_st 6 hA ok rfl rfl rfl rfl ?_
  | refine w_st 7 hA ok rfl rfl rfl rfl ?_
  | refine w_ldA 0 hA ok rfl rfl rfl ?_
  | refine w_ldA 1 hA ok rfl rfl rfl ?_
  | refine w_ldA 2 hA ok rfl rfl rfl ?_
  | refine w_ldA 3 hA ok rfl rfl rfl ?_
  | refine w_ldA 4 hA ok rfl rfl rfl ?_
  | refine w_ldA 5 hA ok rfl rfl rfl ?_
  | refine w_ldA 6 hA ok rfl rfl rfl ?_
  | refine w_ldA 7 hA ok rfl rfl rfl ?_
  | refine w_stA 0 hA ok rfl rfl rfl rfl ?_
  | refine w_stA 1 hA ok rfl rfl rfl rfl ?_
  | refine w_stA 2 hA ok rfl rfl rfl rfl ?_
  | refine w_stA 3 hA ok rfl rfl rfl rfl ?_
  | refine w_stA 4 hA ok rfl rfl rfl rfl ?_
  | refine w_stA 5 hA ok rfl rfl rfl rfl ?_
  | refine w_stA 6 hA ok rfl rfl rfl rfl ?_
  | refine w_stA 7 hA ok rfl rfl rfl rfl ?_
  | (refine w_Raw hA ?_; intro hA)
  | (refine w_SetRaw hA ?_; intro hA)
  | (refine w_SwapRaw hA ?_; intro hA)
  | (refine w_AddRaw hA ?_; intro hA)
  | (refine w_Load hA ?_; intro hA)
  | (refine w_Store hA ?_; intro hA)
  | (refine w_Retire hA ?_; intro hA)
  | (refine w_Died hA ?_; intro hA)
  | (refine w_Born hA ?_; intro hA)
  | refine w_State hA ?_
  | refine w_Uses hA ?_
  | refine w_Fault hA ?_
  | refine w_Words hA ?_
  | refine w_Count hA ?_
  | refine wq_Size ?_
  | refine wq_Open ?_
  | refine wq_Pack ?_
  | refine wq_head ?_
  | refine w_ck 0 hA ok rfl rfl rfl ?_
  | refine w_ck 1 hA ok rfl rfl rfl ?_
  | refine w_ck 2 hA ok rfl rfl rfl ?_
  | refine w_ck 3 hA ok rfl rfl rfl ?_
  | refine w_ck 4 hA ok rfl rfl rfl ?_
  | refine w_ck 5 hA ok rfl rfl rfl ?_
  | refine w_ck 6 hA ok rfl rfl rfl ?_
  | refine w_ck 7 hA ok rfl rfl rfl ?_
  | refine w_ckn rfl ?_
  | refine w_Base 0 1 hA ok rfl rfl ?_
  | refine w_Base 1 2 hA ok rfl rfl ?_
  | refine w_Base 2 3 hA ok rfl rfl ?_
  | refine w_Base 3 4 hA ok rfl rfl ?_
  | refine w_Base 4 5 hA ok rfl rfl ?_
  | refine w_Base 5 6 hA ok rfl rfl ?_
  | (refine w_PopStep 0 1 hA ok rfl rfl ?_; intro hA)
  | (refine w_PopStep 1 2 hA ok rfl rfl ?_; intro hA)
  | (refine w_PopStep 2 3 hA ok rfl rfl ?_; intro hA)
  | (refine w_PopStep 3 4 hA ok rfl rfl ?_; intro hA)
  | (refine w_PopStep 4 5 hA ok rfl rfl ?_; intro hA)
  | (refine w_PopStep 5 6 hA ok rfl rfl ?_; intro hA)
  | (refine w_PushStep 0 1 hA ok rfl rfl ?_; intro hA)
  | (refine w_PushStep 1 2 hA ok rfl rfl ?_; intro hA)
  | (refine w_PushStep 2 3 hA ok rfl rfl ?_; intro hA)
  | (refine w_PushStep 3 4 hA ok rfl rfl ?_; intro hA)
  | (refine w_PushStep 4 5 hA ok rfl rfl ?_; intro hA)
  | (refine w_PushStep 5 6 hA ok rfl rfl ?_; intro hA)
  | refine wp_true (by assumption) ?_
  | refine wp_false (by assumption) ?_)
    by_cases hb : x.pu.stepB A = true
    · rw [if_pos hb]
      refine wp_true hb ?_
      repeat (first
  | refine wp_nil.2 ?_
  | refine w_ld 0 hA ok rfl rfl rfl ?_
  | refine w_ld 1 hA ok rfl rfl rfl ?_
  | refine w_ld 2 hA ok rfl rfl rfl ?_
  | refine w_ld 3 hA ok rfl rfl rfl ?_
  | refine w_ld 4 hA ok rfl rfl rfl ?_
  | refine w_ld 5 hA ok rfl rfl rfl ?_
  | refine w_ld 6 hA ok rfl rfl rfl ?_
  | refine w_ld 7 hA ok rfl rfl rfl ?_
  | refine w_st 0 hA ok rfl rfl rfl rfl ?_
  | refine w_st 1 hA ok rfl rfl rfl rfl ?_
  | refine w_st 2 hA ok rfl rfl rfl rfl ?_
  | refine w_st 3 hA ok rfl rfl rfl rfl ?_
  | refine w_st 4 hA ok rfl rfl rfl rfl ?_
  | refine w_st 5 hA ok rfl rfl rfl rfl ?_
  | refine w_st 6 hA ok rfl rfl rfl rfl ?_
  | refine w_st 7 hA ok rfl rfl rfl rfl ?_
  | refine w_ldA 0 hA ok rfl rfl rfl ?_
  | refine w_ldA 1 hA ok rfl rfl rfl ?_
  | refine w_ldA 2 hA ok rfl rfl rfl ?_
  | refine w_ldA 3 hA ok rfl rfl rfl ?_
  | refine w_ldA 4 hA ok rfl rfl rfl ?_
  | refine w_ldA 5 hA ok rfl rfl rfl ?_
  | refine w_ldA 6 hA ok rfl rfl rfl ?_
  | refine w_ldA 7 hA ok rfl rfl rfl ?_
  | refine w_stA 0 hA ok rfl rfl rfl rfl ?_
  | refine w_stA 1 hA ok rfl rfl rfl rfl ?_
  | refine w_stA 2 hA ok rfl rfl rfl rfl ?_
  | refine w_stA 3 hA ok rfl rfl rfl rfl ?_
  | refine w_stA 4 hA ok rfl rfl rfl rfl ?_
  | refine w_stA 5 hA ok rfl rfl rfl rfl ?_
  | refine w_stA 6 hA ok rfl rfl rfl rfl ?_
  | refine w_stA 7 hA ok rfl rfl rfl rfl ?_
  | (refine w_Raw hA ?_; intro hA)
  | (refine w_SetRaw hA ?_; intro hA)
  | (refine w_SwapRaw hA ?_; intro hA)
  | (refine w_AddRaw hA ?_; intro hA)
  | (refine w_Load hA ?_; intro hA)
  | (refine w_Store hA ?_; intro hA)
  | (refine w_Retire hA ?_; intro hA)
  | (refine w_Died hA ?_; intro hA)
  | (refine w_Born hA ?_; intro hA)
  | refine w_State hA ?_
  | refine w_Uses hA ?_
  | refine w_Fault hA ?_
  | refine w_Words hA ?_
  | refine w_Count hA ?_
  | refine wq_Size ?_
  | refine wq_Open ?_
  | refine wq_Pack ?_
  | refine wq_head ?_
  | refine w_ck 0 hA ok rfl rfl rfl ?_
  | refine w_ck 1 hA ok rfl rfl rfl ?_
  | refine w_ck 2 hA ok rfl rfl rfl ?_
  | refine w_ck 3 hA ok rfl rfl rfl ?_
  | refine w_ck 4 hA ok rfl rfl rfl ?_
  | refine w_ck 5 hA ok rfl rfl rfl ?_
  | refine w_ck 6 hA ok rfl rfl rfl ?_
  | refine w_ck 7 hA ok rfl rfl rfl ?_
  | refine w_ckn rfl ?_
  | refine w_Base 0 1 hA ok rfl rfl ?_
  | refine w_Base 1 2 hA ok rfl rfl ?_
  | refine w_Base 2 3 hA ok rfl rfl ?_
  | refine w_Base 3 4 hA ok rfl rfl ?_
  | refine w_Base 4 5 hA ok rfl rfl ?_
  | refine w_Base 5 6 hA ok rfl rfl ?_
  | (refine w_PopStep 0 1 hA ok rfl rfl ?_; intro hA)
  | (refine w_PopStep 1 2 hA ok rfl rfl ?_; intro hA)
  | (refine w_PopStep 2 3 hA ok rfl rfl ?_; intro hA)
  | (refine w_PopStep 3 4 hA ok rfl rfl ?_; intro hA)
  | (refine w_PopStep 4 5 hA ok rfl rfl ?_; intro hA)
  | (refine w_PopStep 5 6 hA ok rfl rfl ?_; intro hA)
  | (refine w_PushStep 0 1 hA ok rfl rfl ?_; intro hA)
  | (refine w_PushStep 1 2 hA ok rfl rfl ?_; intro hA)
  | (refine w_PushStep 2 3 hA ok rfl rfl ?_; intro hA)
  | (refine w_PushStep 3 4 hA ok rfl rfl ?_; intro hA)
  | (refine w_PushStep 4 5 hA ok rfl rfl ?_; intro hA)
  | (refine w_PushStep 5 6 hA ok rfl rfl ?_; intro hA)
  | refine wp_true (by assumption) ?_
  | refine wp_false (by assumption) ?_)
      exact wp_ret_of ⟨(q, q0, q1), rfl, rfl, rfl, ok, hA⟩
    · rw [if_neg hb]
      refine wp_false (by simpa using hb) ?_
      repeat (first
  | refine wp_nil.2 ?_
  | refine w_ld 0 hA ok rfl rfl rfl ?_
  | refine w_ld 1 hA ok rfl rfl rfl ?_
  | refine w_ld 2 hA ok rfl rfl rfl ?_
  | refine w_ld 3 hA ok rfl rfl rfl ?_
  | refine w_ld 4 hA ok rfl rfl rfl ?_
  | refine w_ld 5 hA ok rfl rfl rfl ?_
  | refine w_ld 6 hA ok rfl rfl rfl ?_
  | refine w_ld 7 hA ok rfl rfl rfl ?_
  | refine w_st 0 hA ok rfl rfl rfl rfl ?_
  | refine w_st 1 hA ok rfl rfl rfl rfl ?_
  | refine w_st 2 hA ok rfl rfl rfl rfl ?_
  | refine w_st 3 hA ok rfl rfl rfl rfl ?_
  | refine w_st 4 hA ok rfl rfl rfl rfl ?_
  | refine w_st 5 hA ok rfl rfl rfl rfl ?_
  | refine w_st 6 hA ok rfl rfl rfl rfl ?_
  | refine w_st 7 hA ok rfl rfl rfl rfl ?_
  | refine w_ldA 0 hA ok rfl rfl rfl ?_
  | refine w_ldA 1 hA ok rfl rfl rfl ?_
  | refine w_ldA 2 hA ok rfl rfl rfl ?_
  | refine w_ldA 3 hA ok rfl rfl rfl ?_
  | refine w_ldA 4 hA ok rfl rfl rfl ?_
  | refine w_ldA 5 hA ok rfl rfl rfl ?_
  | refine w_ldA 6 hA ok rfl rfl rfl ?_
  | refine w_ldA 7 hA ok rfl rfl rfl ?_
  | refine w_stA 0 hA ok rfl rfl rfl rfl ?_
  | refine w_stA 1 hA ok rfl rfl rfl rfl ?_
  | refine w_stA 2 hA ok rfl rfl rfl rfl ?_
  | refine w_stA 3 hA ok rfl rfl rfl rfl ?_
  | refine w_stA 4 hA ok rfl rfl rfl rfl ?_
  | refine w_stA 5 hA ok rfl rfl rfl rfl ?_
  | refine w_stA 6 hA ok rfl rfl rfl rfl ?_
  | refine w_stA 7 hA ok rfl rfl rfl rfl ?_
  | (refine w_Raw hA ?_; intro hA)
  | (refine w_SetRaw hA ?_; intro hA)
  | (refine w_SwapRaw hA ?_; intro hA)
  | (refine w_AddRaw hA ?_; intro hA)
  | (refine w_Load hA ?_; intro hA)
  | (refine w_Store hA ?_; intro hA)
  | (refine w_Retire hA ?_; intro hA)
  | (refine w_Died hA ?_; intro hA)
  | (refine w_Born hA ?_; intro hA)
  | refine w_State hA ?_
  | refine w_Uses hA ?_
  | refine w_Fault hA ?_
  | refine w_Words hA ?_
  | refine w_Count hA ?_
  | refine wq_Size ?_
  | refine wq_Open ?_
  | refine wq_Pack ?_
  | refine wq_head ?_
  | refine w_ck 0 hA ok rfl rfl rfl ?_
  | refine w_ck 1 hA ok rfl rfl rfl ?_
  | refine w_ck 2 hA ok rfl rfl rfl ?_
  | refine w_ck 3 hA ok rfl rfl rfl ?_
  | refine w_ck 4 hA ok rfl rfl rfl ?_
  | refine w_ck 5 hA ok rfl rfl rfl ?_
  | refine w_ck 6 hA ok rfl rfl rfl ?_
  | refine w_ck 7 hA ok rfl rfl rfl ?_
  | refine w_ckn rfl ?_
  | refine w_Base 0 1 hA ok rfl rfl ?_
  | refine w_Base 1 2 hA ok rfl rfl ?_
  | refine w_Base 2 3 hA ok rfl rfl ?_
  | refine w_Base 3 4 hA ok rfl rfl ?_
  | refine w_Base 4 5 hA ok rfl rfl ?_
  | refine w_Base 5 6 hA ok rfl rfl ?_
  | (refine w_PopStep 0 1 hA ok rfl rfl ?_; intro hA)
  | (refine w_PopStep 1 2 hA ok rfl rfl ?_; intro hA)
  | (refine w_PopStep 2 3 hA ok rfl rfl ?_; intro hA)
  | (refine w_PopStep 3 4 hA ok rfl rfl ?_; intro hA)
  | (refine w_PopStep 4 5 hA ok rfl rfl ?_; intro hA)
  | (refine w_PopStep 5 6 hA ok rfl rfl ?_; intro hA)
  | (refine w_PushStep 0 1 hA ok rfl rfl ?_; intro hA)
  | (refine w_PushStep 1 2 hA ok rfl rfl ?_; intro hA)
  | (refine w_PushStep 2 3 hA ok rfl rfl ?_; intro hA)
  | (refine w_PushStep 3 4 hA ok rfl rfl ?_; intro hA)
  | (refine w_PushStep 4 5 hA ok rfl rfl ?_; intro hA)
  | (refine w_PushStep 5 6 hA ok rfl rfl ?_; intro hA)
  | refine wp_true (by assumption) ?_
  | refine wp_false (by assumption) ?_)
      exact wp_ret_of ⟨(q, q0, q1), rfl, rfl, rfl, ok, hA⟩

def newAl (p : Pl) (w c : Int) : Al := ⟨p, w, c, 0, 0, 0, 0, newPo p w c⟩
def newFe (p : Pl) (w h : Int) : Fe := ⟨h, false, ⟨p, headF p w (opC h), 0, 0, opB h⟩⟩

section
variable {L : Hands} {R : Value → Heap → Prop} {A : Ar} {I : List Nat} {l : Bl} {G : Heap}

theorem NewAlloc_own (p : Pl) (w c : Int) (hA : Aw I A) (hc : sizeF c ≠ 0) (G : Heap) :
    SpecF Try.prog f_slab_NewAlloc #[p.val, .int .i64 w, .int .i64 c] (own A [] G) fun v K => ∃ j : Nat × Nat × Nat, v = .pointer (some ⟨j.1, 0, none⟩) ∧ K = own A ((newAl p w c).bl j) G ∧ Ok I G (keys ((newAl p w c).bl j)) := by
  refine t_slab_NewAlloc_spec (p0_0 := p.work) (p0_1 := p.heads) (p0_2 := p.links) (p0_3 := p.gens) (p0_4 := p.carved) fun L => ?_
  unfold t_slab_NewAlloc
  have ok : Ok I G (keys []) := ⟨.nil, fun b h => (by cases h), fun b h => (by cases h)⟩
  refine w_newP hA ok fun e ok => ?_
  repeat (first
  | refine wp_nil.2 ?_
  | refine w_ld 0 hA ok rfl rfl rfl ?_
  | refine w_ld 1 hA ok rfl rfl rfl ?_
  | refine w_ld 2 hA ok rfl rfl rfl ?_
  | refine w_ld 3 hA ok rfl rfl rfl ?_
  | refine w_ld 4 hA ok rfl rfl rfl ?_
  | refine w_ld 5 hA ok rfl rfl rfl ?_
  | refine w_ld 6 hA ok rfl rfl rfl ?_
  | refine w_ld 7 hA ok rfl rfl rfl ?_
  | refine w_st 0 hA ok rfl rfl rfl rfl ?_
  | refine w_st 1 hA ok rfl rfl rfl rfl ?_
  | refine w_st 2 hA ok rfl rfl rfl rfl ?_
  | refine w_st 3 hA ok rfl rfl rfl rfl ?_
  | refine w_st 4 hA ok rfl rfl rfl rfl ?_
  | refine w_st 5 hA ok rfl rfl rfl rfl ?_
  | refine w_st 6 hA ok rfl rfl rfl rfl ?_
  | refine w_st 7 hA ok rfl rfl rfl rfl ?_
  | refine w_ldA 0 hA ok rfl rfl rfl ?_
  | refine w_ldA 1 hA ok rfl rfl rfl ?_
  | refine w_ldA 2 hA ok rfl rfl rfl ?_
  | refine w_ldA 3 hA ok rfl rfl rfl ?_
  | refine w_ldA 4 hA ok rfl rfl rfl ?_
  | refine w_ldA 5 hA ok rfl rfl rfl ?_
  | refine w_ldA 6 hA ok rfl rfl rfl ?_
  | refine w_ldA 7 hA ok rfl rfl rfl ?_
  | refine w_stA 0 hA ok rfl rfl rfl rfl ?_
  | refine w_stA 1 hA ok rfl rfl rfl rfl ?_
  | refine w_stA 2 hA ok rfl rfl rfl rfl ?_
  | refine w_stA 3 hA ok rfl rfl rfl rfl ?_
  | refine w_stA 4 hA ok rfl rfl rfl rfl ?_
  | refine w_stA 5 hA ok rfl rfl rfl rfl ?_
  | refine w_stA 6 hA ok rfl rfl rfl rfl ?_
  | refine w_stA 7 hA ok rfl rfl rfl rfl ?_
  | (refine w_Raw hA ?_; intro hA)
  | (refine w_SetRaw hA ?_; intro hA)
  | (refine w_SwapRaw hA ?_; intro hA)
  | (refine w_AddRaw hA ?_; intro hA)
  | (refine w_Load hA ?_; intro hA)
  | (refine w_Store hA ?_; intro hA)
  | (refine w_Retire hA ?_; intro hA)
  | (refine w_Died hA ?_; intro hA)
  | (refine w_Born hA ?_; intro hA)
  | refine w_State hA ?_
  | refine w_Uses hA ?_
  | refine w_Fault hA ?_
  | refine w_Words hA ?_
  | refine w_Count hA ?_
  | refine wq_Size ?_
  | refine wq_Open ?_
  | refine wq_Pack ?_
  | refine wq_head ?_
  | refine w_ck 0 hA ok rfl rfl rfl ?_
  | refine w_ck 1 hA ok rfl rfl rfl ?_
  | refine w_ck 2 hA ok rfl rfl rfl ?_
  | refine w_ck 3 hA ok rfl rfl rfl ?_
  | refine w_ck 4 hA ok rfl rfl rfl ?_
  | refine w_ck 5 hA ok rfl rfl rfl ?_
  | refine w_ck 6 hA ok rfl rfl rfl ?_
  | refine w_ck 7 hA ok rfl rfl rfl ?_
  | refine w_ckn rfl ?_
  | refine w_Base 0 1 hA ok rfl rfl ?_
  | refine w_Base 1 2 hA ok rfl rfl ?_
  | refine w_Base 2 3 hA ok rfl rfl ?_
  | refine w_Base 3 4 hA ok rfl rfl ?_
  | refine w_Base 4 5 hA ok rfl rfl ?_
  | refine w_Base 5 6 hA ok rfl rfl ?_
  | (refine w_PopStep 0 1 hA ok rfl rfl ?_; intro hA)
  | (refine w_PopStep 1 2 hA ok rfl rfl ?_; intro hA)
  | (refine w_PopStep 2 3 hA ok rfl rfl ?_; intro hA)
  | (refine w_PopStep 3 4 hA ok rfl rfl ?_; intro hA)
  | (refine w_PopStep 4 5 hA ok rfl rfl ?_; intro hA)
  | (refine w_PopStep 5 6 hA ok rfl rfl ?_; intro hA)
  | (refine w_PushStep 0 1 hA ok rfl rfl ?_; intro hA)
  | (refine w_PushStep 1 2 hA ok rfl rfl ?_; intro hA)
  | (refine w_PushStep 2 3 hA ok rfl rfl ?_; intro hA)
  | (refine w_PushStep 3 4 hA ok rfl rfl ?_; intro hA)
  | (refine w_PushStep 4 5 hA ok rfl rfl ?_; intro hA)
  | (refine w_PushStep 5 6 hA ok rfl rfl ?_; intro hA)
  | refine wp_true (by assumption) ?_
  | refine wp_false (by assumption) ?_)
  refine w_newP hA ok fun q ok => ?_
  repeat (first
  | refine wp_nil.2 ?_
  | refine w_ld 0 hA ok rfl rfl rfl ?_
  | refine w_ld 1 hA ok rfl rfl rfl ?_
  | refine w_ld 2 hA ok rfl rfl rfl ?_
  | refine w_ld 3 hA ok rfl rfl rfl ?_
  | refine w_ld 4 hA ok rfl rfl rfl ?_
  | refine w_ld 5 hA ok rfl rfl rfl ?_
  | refine w_ld 6 hA ok rfl rfl rfl ?_
  | refine w_ld 7 hA ok rfl rfl rfl ?_
  | refine w_st 0 hA ok rfl rfl rfl rfl ?_
  | refine w_st 1 hA ok rfl rfl rfl rfl ?_
  | refine w_st 2 hA ok rfl rfl rfl rfl ?_
  | refine w_st 3 hA ok rfl rfl rfl rfl ?_
  | refine w_st 4 hA ok rfl rfl rfl rfl ?_
  | refine w_st 5 hA ok rfl rfl rfl rfl ?_
  | refine w_st 6 hA ok rfl rfl rfl rfl ?_
  | refine w_st 7 hA ok rfl rfl rfl rfl ?_
  | refine w_ldA 0 hA ok rfl rfl rfl ?_
  | refine w_ldA 1 hA ok rfl rfl rfl ?_
  | refine w_ldA 2 hA ok rfl rfl rfl ?_
  | refine w_ldA 3 hA ok rfl rfl rfl ?_
  | refine w_ldA 4 hA ok rfl rfl rfl ?_
  | refine w_ldA 5 hA ok rfl rfl rfl ?_
  | refine w_ldA 6 hA ok rfl rfl rfl ?_
  | refine w_ldA 7 hA ok rfl rfl rfl ?_
  | refine w_stA 0 hA ok rfl rfl rfl rfl ?_
  | refine w_stA 1 hA ok rfl rfl rfl rfl ?_
  | refine w_stA 2 hA ok rfl rfl rfl rfl ?_
  | refine w_stA 3 hA ok rfl rfl rfl rfl ?_
  | refine w_stA 4 hA ok rfl rfl rfl rfl ?_
  | refine w_stA 5 hA ok rfl rfl rfl rfl ?_
  | refine w_stA 6 hA ok rfl rfl rfl rfl ?_
  | refine w_stA 7 hA ok rfl rfl rfl rfl ?_
  | (refine w_Raw hA ?_; intro hA)
  | (refine w_SetRaw hA ?_; intro hA)
  | (refine w_SwapRaw hA ?_; intro hA)
  | (refine w_AddRaw hA ?_; intro hA)
  | (refine w_Load hA ?_; intro hA)
  | (refine w_Store hA ?_; intro hA)
  | (refine w_Retire hA ?_; intro hA)
  | (refine w_Died hA ?_; intro hA)
  | (refine w_Born hA ?_; intro hA)
  | refine w_State hA ?_
  | refine w_Uses hA ?_
  | refine w_Fault hA ?_
  | refine w_Words hA ?_
  | refine w_Count hA ?_
  | refine wq_Size ?_
  | refine wq_Open ?_
  | refine wq_Pack ?_
  | refine wq_head ?_
  | refine w_ck 0 hA ok rfl rfl rfl ?_
  | refine w_ck 1 hA ok rfl rfl rfl ?_
  | refine w_ck 2 hA ok rfl rfl rfl ?_
  | refine w_ck 3 hA ok rfl rfl rfl ?_
  | refine w_ck 4 hA ok rfl rfl rfl ?_
  | refine w_ck 5 hA ok rfl rfl rfl ?_
  | refine w_ck 6 hA ok rfl rfl rfl ?_
  | refine w_ck 7 hA ok rfl rfl rfl ?_
  | refine w_ckn rfl ?_
  | refine w_Base 0 1 hA ok rfl rfl ?_
  | refine w_Base 1 2 hA ok rfl rfl ?_
  | refine w_Base 2 3 hA ok rfl rfl ?_
  | refine w_Base 3 4 hA ok rfl rfl ?_
  | refine w_Base 4 5 hA ok rfl rfl ?_
  | refine w_Base 5 6 hA ok rfl rfl ?_
  | (refine w_PopStep 0 1 hA ok rfl rfl ?_; intro hA)
  | (refine w_PopStep 1 2 hA ok rfl rfl ?_; intro hA)
  | (refine w_PopStep 2 3 hA ok rfl rfl ?_; intro hA)
  | (refine w_PopStep 3 4 hA ok rfl rfl ?_; intro hA)
  | (refine w_PopStep 4 5 hA ok rfl rfl ?_; intro hA)
  | (refine w_PopStep 5 6 hA ok rfl rfl ?_; intro hA)
  | (refine w_PushStep 0 1 hA ok rfl rfl ?_; intro hA)
  | (refine w_PushStep 1 2 hA ok rfl rfl ?_; intro hA)
  | (refine w_PushStep 2 3 hA ok rfl rfl ?_; intro hA)
  | (refine w_PushStep 3 4 hA ok rfl rfl ?_; intro hA)
  | (refine w_PushStep 4 5 hA ok rfl rfl ?_; intro hA)
  | (refine w_PushStep 5 6 hA ok rfl rfl ?_; intro hA)
  | refine wp_true (by assumption) ?_
  | refine wp_false (by assumption) ?_)
  refine wp_false (ibef hc) ?_
  repeat (first
  | refine wp_nil.2 ?_
  | refine w_ld 0 hA ok rfl rfl rfl ?_
  | refine w_ld 1 hA ok rfl rfl rfl ?_
  | refine w_ld 2 hA ok rfl rfl rfl ?_
  | refine w_ld 3 hA ok rfl rfl rfl ?_
  | refine w_ld 4 hA ok rfl rfl rfl ?_
  | refine w_ld 5 hA ok rfl rfl rfl ?_
  | refine w_ld 6 hA ok rfl rfl rfl ?_
  | refine w_ld 7 hA ok rfl rfl rfl ?_
  | refine w_st 0 hA ok rfl rfl rfl rfl ?_
  | refine w_st 1 hA ok rfl rfl rfl rfl ?_
  | refine w_st 2 hA ok rfl rfl rfl rfl ?_
  | refine w_st 3 hA ok rfl rfl rfl rfl ?_
  | refine w_st 4 hA ok rfl rfl rfl rfl ?_
  | refine w_st 5 hA ok rfl rfl rfl rfl ?_
  | refine w_st 6 hA ok rfl rfl rfl rfl ?_
  | refine w_st 7 hA ok rfl rfl rfl rfl ?_
  | refine w_ldA 0 hA ok rfl rfl rfl ?_
  | refine w_ldA 1 hA ok rfl rfl rfl ?_
  | refine w_ldA 2 hA ok rfl rfl rfl ?_
  | refine w_ldA 3 hA ok rfl rfl rfl ?_
  | refine w_ldA 4 hA ok rfl rfl rfl ?_
  | refine w_ldA 5 hA ok rfl rfl rfl ?_
  | refine w_ldA 6 hA ok rfl rfl rfl ?_
  | refine w_ldA 7 hA ok rfl rfl rfl ?_
  | refine w_stA 0 hA ok rfl rfl rfl rfl ?_
  | refine w_stA 1 hA ok rfl rfl rfl rfl ?_
  | refine w_stA 2 hA ok rfl rfl rfl rfl ?_
  | refine w_stA 3 hA ok rfl rfl rfl rfl ?_
  | refine w_stA 4 hA ok rfl rfl rfl rfl ?_
  | refine w_stA 5 hA ok rfl rfl rfl rfl ?_
  | refine w_stA 6 hA ok rfl rfl rfl rfl ?_
  | refine w_stA 7 hA ok rfl rfl rfl rfl ?_
  | (refine w_Raw hA ?_; intro hA)
  | (refine w_SetRaw hA ?_; intro hA)
  | (refine w_SwapRaw hA ?_; intro hA)
  | (refine w_AddRaw hA ?_; intro hA)
  | (refine w_Load hA ?_; intro hA)
  | (refine w_Store hA ?_; intro hA)
  | (refine w_Retire hA ?_; intro hA)
  | (refine w_Died hA ?_; intro hA)
  | (refine w_Born hA ?_; intro hA)
  | refine w_State hA ?_
  | refine w_Uses hA ?_
  | refine w_Fault hA ?_
  | refine w_Words hA ?_
  | refine w_Count hA ?_
  | refine wq_Size ?_
  | refine wq_Open ?_
  | refine wq_Pack ?_
  | refine wq_head ?_
  | refine w_ck 0 hA ok rfl rfl rfl ?_
  | refine w_ck 1 hA ok rfl rfl rfl ?_
  | refine w_ck 2 hA ok rfl rfl rfl ?_
  | refine w_ck 3 hA ok rfl rfl rfl ?_
  | refine w_ck 4 hA ok rfl rfl rfl ?_
  | refine w_ck 5 hA ok rfl rfl rfl ?_
  | refine w_ck 6 hA ok rfl rfl rfl ?_
  | refine w_ck 7 hA ok rfl rfl rfl ?_
  | refine w_ckn rfl ?_
  | refine w_Base 0 1 hA ok rfl rfl ?_
  | refine w_Base 1 2 hA ok rfl rfl ?_
  | refine w_Base 2 3 hA ok rfl rfl ?_
  | refine w_Base 3 4 hA ok rfl rfl ?_
  | refine w_Base 4 5 hA ok rfl rfl ?_
  | refine w_Base 5 6 hA ok rfl rfl ?_
  | (refine w_PopStep 0 1 hA ok rfl rfl ?_; intro hA)
  | (refine w_PopStep 1 2 hA ok rfl rfl ?_; intro hA)
  | (refine w_PopStep 2 3 hA ok rfl rfl ?_; intro hA)
  | (refine w_PopStep 3 4 hA ok rfl rfl ?_; intro hA)
  | (refine w_PopStep 4 5 hA ok rfl rfl ?_; intro hA)
  | (refine w_PopStep 5 6 hA ok rfl rfl ?_; intro hA)
  | (refine w_PushStep 0 1 hA ok rfl rfl ?_; intro hA)
  | (refine w_PushStep 1 2 hA ok rfl rfl ?_; intro hA)
  | (refine w_PushStep 2 3 hA ok rfl rfl ?_; intro hA)
  | (refine w_PushStep 3 4 hA ok rfl rfl ?_; intro hA)
  | (refine w_PushStep 4 5 hA ok rfl rfl ?_; intro hA)
  | (refine w_PushStep 5 6 hA ok rfl rfl ?_; intro hA)
  | refine wp_true (by assumption) ?_
  | refine wp_false (by assumption) ?_)
  refine w_NewPop (p := p) hA ok fun q0 q1 ok => ?_
  repeat (first
  | refine wp_nil.2 ?_
  | refine w_ld 0 hA ok rfl rfl rfl ?_
  | refine w_ld 1 hA ok rfl rfl rfl ?_
  | refine w_ld 2 hA ok rfl rfl rfl ?_
  | refine w_ld 3 hA ok rfl rfl rfl ?_
  | refine w_ld 4 hA ok rfl rfl rfl ?_
  | refine w_ld 5 hA ok rfl rfl rfl ?_
  | refine w_ld 6 hA ok rfl rfl rfl ?_
  | refine w_ld 7 hA ok rfl rfl rfl ?_
  | refine w_st 0 hA ok rfl rfl rfl rfl ?_
  | refine w_st 1 hA ok rfl rfl rfl rfl ?_
  | refine w_st 2 hA ok rfl rfl rfl rfl ?_
  | refine w_st 3 hA ok rfl rfl rfl rfl ?_
  | refine w_st 4 hA ok rfl rfl rfl rfl ?_
  | refine w_st 5 hA ok rfl rfl rfl rfl ?_
  | refine w_st 6 hA ok rfl rfl rfl rfl ?_
  | refine w_st 7 hA ok rfl rfl rfl rfl ?_
  | refine w_ldA 0 hA ok rfl rfl rfl ?_
  | refine w_ldA 1 hA ok rfl rfl rfl ?_
  | refine w_ldA 2 hA ok rfl rfl rfl ?_
  | refine w_ldA 3 hA ok rfl rfl rfl ?_
  | refine w_ldA 4 hA ok rfl rfl rfl ?_
  | refine w_ldA 5 hA ok rfl rfl rfl ?_
  | refine w_ldA 6 hA ok rfl rfl rfl ?_
  | refine w_ldA 7 hA ok rfl rfl rfl ?_
  | refine w_stA 0 hA ok rfl rfl rfl rfl ?_
  | refine w_stA 1 hA ok rfl rfl rfl rfl ?_
  | refine w_stA 2 hA ok rfl rfl rfl rfl ?_
  | refine w_stA 3 hA ok rfl rfl rfl rfl ?_
  | refine w_stA 4 hA ok rfl rfl rfl rfl ?_
  | refine w_stA 5 hA ok rfl rfl rfl rfl ?_
  | refine w_stA 6 hA ok rfl rfl rfl rfl ?_
  | refine w_stA 7 hA ok rfl rfl rfl rfl ?_
  | (refine w_Raw hA ?_; intro hA)
  | (refine w_SetRaw hA ?_; intro hA)
  | (refine w_SwapRaw hA ?_; intro hA)
  | (refine w_AddRaw hA ?_; intro hA)
  | (refine w_Load hA ?_; intro hA)
  | (refine w_Store hA ?_; intro hA)
  | (refine w_Retire hA ?_; intro hA)
  | (refine w_Died hA ?_; intro hA)
  | (refine w_Born hA ?_; intro hA)
  | refine w_State hA ?_
  | refine w_Uses hA ?_
  | refine w_Fault hA ?_
  | refine w_Words hA ?_
  | refine w_Count hA ?_
  | refine wq_Size ?_
  | refine wq_Open ?_
  | refine wq_Pack ?_
  | refine wq_head ?_
  | refine w_ck 0 hA ok rfl rfl rfl ?_
  | refine w_ck 1 hA ok rfl rfl rfl ?_
  | refine w_ck 2 hA ok rfl rfl rfl ?_
  | refine w_ck 3 hA ok rfl rfl rfl ?_
  | refine w_ck 4 hA ok rfl rfl rfl ?_
  | refine w_ck 5 hA ok rfl rfl rfl ?_
  | refine w_ck 6 hA ok rfl rfl rfl ?_
  | refine w_ck 7 hA ok rfl rfl rfl ?_
  | refine w_ckn rfl ?_
  | refine w_Base 0 1 hA ok rfl rfl ?_
  | refine w_Base 1 2 hA ok rfl rfl ?_
  | refine w_Base 2 3 hA ok rfl rfl ?_
  | refine w_Base 3 4 hA ok rfl rfl ?_
  | refine w_Base 4 5 hA ok rfl rfl ?_
  | refine w_Base 5 6 hA ok rfl rfl ?_
  | (refine w_PopStep 0 1 hA ok rfl rfl ?_; intro hA)
  | (refine w_PopStep 1 2 hA ok rfl rfl ?_; intro hA)
  | (refine w_PopStep 2 3 hA ok rfl rfl ?_; intro hA)
  | (refine w_PopStep 3 4 hA ok rfl rfl ?_; intro hA)
  | (refine w_PopStep 4 5 hA ok rfl rfl ?_; intro hA)
  | (refine w_PopStep 5 6 hA ok rfl rfl ?_; intro hA)
  | (refine w_PushStep 0 1 hA ok rfl rfl ?_; intro hA)
  | (refine w_PushStep 1 2 hA ok rfl rfl ?_; intro hA)
  | (refine w_PushStep 2 3 hA ok rfl rfl ?_; intro hA)
  | (refine w_PushStep 3 4 hA ok rfl rfl ?_; intro hA)
  | (refine w_PushStep 4 5 hA ok rfl rfl ?_; intro hA)
  | (refine w_PushStep 5 6 hA ok rfl rfl ?_; intro hA)
  | refine wp_true (by assumption) ?_
  | refine wp_false (by assumption) ?_)
  exact w_ret [2, 0, 1] ok rfl (by decide) fun ok => ⟨(q, q0, q1), rfl, rfl, ok⟩

theorem NewFree_own (p : Pl) (w h : Int) (hA : Aw I A) (G : Heap) :
    SpecF Try.prog f_slab_NewFree #[p.val, .int .i64 w, .int .i64 h] (own A [] G) fun v K => ∃ j : Nat × Nat × Nat, v = .pointer (some ⟨j.1, 0, none⟩) ∧ K = own A ((newFe p w h).bl j) G ∧ Ok I G (keys ((newFe p w h).bl j)) := by
  refine t_slab_NewFree_spec (p0_0 := p.work) (p0_1 := p.heads) (p0_2 := p.links) (p0_3 := p.gens) (p0_4 := p.carved) fun L => ?_
  unfold t_slab_NewFree
  have ok : Ok I G (keys []) := ⟨.nil, fun b h => (by cases h), fun b h => (by cases h)⟩
  refine w_newP hA ok fun e ok => ?_
  repeat (first
  | refine wp_nil.2 ?_
  | refine w_ld 0 hA ok rfl rfl rfl ?_
  | refine w_ld 1 hA ok rfl rfl rfl ?_
  | refine w_ld 2 hA ok rfl rfl rfl ?_
  | refine w_ld 3 hA ok rfl rfl rfl ?_
  | refine w_ld 4 hA ok rfl rfl rfl ?_
  | refine w_ld 5 hA ok rfl rfl rfl ?_
  | refine w_ld 6 hA ok rfl rfl rfl ?_
  | refine w_ld 7 hA ok rfl rfl rfl ?_
  | refine w_st 0 hA ok rfl rfl rfl rfl ?_
  | refine w_st 1 hA ok rfl rfl rfl rfl ?_
  | refine w_st 2 hA ok rfl rfl rfl rfl ?_
  | refine w_st 3 hA ok rfl rfl rfl rfl ?_
  | refine w_st 4 hA ok rfl rfl rfl rfl ?_
  | refine w_st 5 hA ok rfl rfl rfl rfl ?_
  | refine w_st 6 hA ok rfl rfl rfl rfl ?_
  | refine w_st 7 hA ok rfl rfl rfl rfl ?_
  | refine w_ldA 0 hA ok rfl rfl rfl ?_
  | refine w_ldA 1 hA ok rfl rfl rfl ?_
  | refine w_ldA 2 hA ok rfl rfl rfl ?_
  | refine w_ldA 3 hA ok rfl rfl rfl ?_
  | refine w_ldA 4 hA ok rfl rfl rfl ?_
  | refine w_ldA 5 hA ok rfl rfl rfl ?_
  | refine w_ldA 6 hA ok rfl rfl rfl ?_
  | refine w_ldA 7 hA ok rfl rfl rfl ?_
  | refine w_stA 0 hA ok rfl rfl rfl rfl ?_
  | refine w_stA 1 hA ok rfl rfl rfl rfl ?_
  | refine w_stA 2 hA ok rfl rfl rfl rfl ?_
  | refine w_stA 3 hA ok rfl rfl rfl rfl ?_
  | refine w_stA 4 hA ok rfl rfl rfl rfl ?_
  | refine w_stA 5 hA ok rfl rfl rfl rfl ?_
  | refine w_stA 6 hA ok rfl rfl rfl rfl ?_
  | refine w_stA 7 hA ok rfl rfl rfl rfl ?_
  | (refine w_Raw hA ?_; intro hA)
  | (refine w_SetRaw hA ?_; intro hA)
  | (refine w_SwapRaw hA ?_; intro hA)
  | (refine w_AddRaw hA ?_; intro hA)
  | (refine w_Load hA ?_; intro hA)
  | (refine w_Store hA ?_; intro hA)
  | (refine w_Retire hA ?_; intro hA)
  | (refine w_Died hA ?_; intro hA)
  | (refine w_Born hA ?_; intro hA)
  | refine w_State hA ?_
  | refine w_Uses hA ?_
  | refine w_Fault hA ?_
  | refine w_Words hA ?_
  | refine w_Count hA ?_
  | refine wq_Size ?_
  | refine wq_Open ?_
  | refine wq_Pack ?_
  | refine wq_head ?_
  | refine w_ck 0 hA ok rfl rfl rfl ?_
  | refine w_ck 1 hA ok rfl rfl rfl ?_
  | refine w_ck 2 hA ok rfl rfl rfl ?_
  | refine w_ck 3 hA ok rfl rfl rfl ?_
  | refine w_ck 4 hA ok rfl rfl rfl ?_
  | refine w_ck 5 hA ok rfl rfl rfl ?_
  | refine w_ck 6 hA ok rfl rfl rfl ?_
  | refine w_ck 7 hA ok rfl rfl rfl ?_
  | refine w_ckn rfl ?_
  | refine w_Base 0 1 hA ok rfl rfl ?_
  | refine w_Base 1 2 hA ok rfl rfl ?_
  | refine w_Base 2 3 hA ok rfl rfl ?_
  | refine w_Base 3 4 hA ok rfl rfl ?_
  | refine w_Base 4 5 hA ok rfl rfl ?_
  | refine w_Base 5 6 hA ok rfl rfl ?_
  | (refine w_PopStep 0 1 hA ok rfl rfl ?_; intro hA)
  | (refine w_PopStep 1 2 hA ok rfl rfl ?_; intro hA)
  | (refine w_PopStep 2 3 hA ok rfl rfl ?_; intro hA)
  | (refine w_PopStep 3 4 hA ok rfl rfl ?_; intro hA)
  | (refine w_PopStep 4 5 hA ok rfl rfl ?_; intro hA)
  | (refine w_PopStep 5 6 hA ok rfl rfl ?_; intro hA)
  | (refine w_PushStep 0 1 hA ok rfl rfl ?_; intro hA)
  | (refine w_PushStep 1 2 hA ok rfl rfl ?_; intro hA)
  | (refine w_PushStep 2 3 hA ok rfl rfl ?_; intro hA)
  | (refine w_PushStep 3 4 hA ok rfl rfl ?_; intro hA)
  | (refine w_PushStep 4 5 hA ok rfl rfl ?_; intro hA)
  | (refine w_PushStep 5 6 hA ok rfl rfl ?_; intro hA)
  | refine wp_true (by assumption) ?_
  | refine wp_false (by assumption) ?_)
  refine w_NewPush (p := p) hA ok fun q0 q1 ok => ?_
  repeat (first
  | refine wp_nil.2 ?_
  | refine w_ld 0 hA ok rfl rfl rfl ?_
  | refine w_ld 1 hA ok rfl rfl rfl ?_
  | refine w_ld 2 hA ok rfl rfl rfl ?_
  | refine w_ld 3 hA ok rfl rfl rfl ?_
  | refine w_ld 4 hA ok rfl rfl rfl ?_
  | refine w_ld 5 hA ok rfl rfl rfl ?_
  | refine w_ld 6 hA ok rfl rfl rfl ?_
  | refine w_ld 7 hA ok rfl rfl rfl ?_
  | refine w_st 0 hA ok rfl rfl rfl rfl ?_
  | refine w_st 1 hA ok rfl rfl rfl rfl ?_
  | refine w_st 2 hA ok rfl rfl rfl rfl ?_
  | refine w_st 3 hA ok rfl rfl rfl rfl ?_
  | refine w_st 4 hA ok rfl rfl rfl rfl ?_
  | refine w_st 5 hA ok rfl rfl rfl rfl ?_
  | refine w_st 6 hA ok rfl rfl rfl rfl ?_
  | refine w_st 7 hA ok rfl rfl rfl rfl ?_
  | refine w_ldA 0 hA ok rfl rfl rfl ?_
  | refine w_ldA 1 hA ok rfl rfl rfl ?_
  | refine w_ldA 2 hA ok rfl rfl rfl ?_
  | refine w_ldA 3 hA ok rfl rfl rfl ?_
  | refine w_ldA 4 hA ok rfl rfl rfl ?_
  | refine w_ldA 5 hA ok rfl rfl rfl ?_
  | refine w_ldA 6 hA ok rfl rfl rfl ?_
  | refine w_ldA 7 hA ok rfl rfl rfl ?_
  | refine w_stA 0 hA ok rfl rfl rfl rfl ?_
  | refine w_stA 1 hA ok rfl rfl rfl rfl ?_
  | refine w_stA 2 hA ok rfl rfl rfl rfl ?_
  | refine w_stA 3 hA ok rfl rfl rfl rfl ?_
  | refine w_stA 4 hA ok rfl rfl rfl rfl ?_
  | refine w_stA 5 hA ok rfl rfl rfl rfl ?_
  | refine w_stA 6 hA ok rfl rfl rfl rfl ?_
  | refine w_stA 7 hA ok rfl rfl rfl rfl ?_
  | (refine w_Raw hA ?_; intro hA)
  | (refine w_SetRaw hA ?_; intro hA)
  | (refine w_SwapRaw hA ?_; intro hA)
  | (refine w_AddRaw hA ?_; intro hA)
  | (refine w_Load hA ?_; intro hA)
  | (refine w_Store hA ?_; intro hA)
  | (refine w_Retire hA ?_; intro hA)
  | (refine w_Died hA ?_; intro hA)
  | (refine w_Born hA ?_; intro hA)
  | refine w_State hA ?_
  | refine w_Uses hA ?_
  | refine w_Fault hA ?_
  | refine w_Words hA ?_
  | refine w_Count hA ?_
  | refine wq_Size ?_
  | refine wq_Open ?_
  | refine wq_Pack ?_
  | refine wq_head ?_
  | refine w_ck 0 hA ok rfl rfl rfl ?_
  | refine w_ck 1 hA ok rfl rfl rfl ?_
  | refine w_ck 2 hA ok rfl rfl rfl ?_
  | refine w_ck 3 hA ok rfl rfl rfl ?_
  | refine w_ck 4 hA ok rfl rfl rfl ?_
  | refine w_ck 5 hA ok rfl rfl rfl ?_
  | refine w_ck 6 hA ok rfl rfl rfl ?_
  | refine w_ck 7 hA ok rfl rfl rfl ?_
  | refine w_ckn rfl ?_
  | refine w_Base 0 1 hA ok rfl rfl ?_
  | refine w_Base 1 2 hA ok rfl rfl ?_
  | refine w_Base 2 3 hA ok rfl rfl ?_
  | refine w_Base 3 4 hA ok rfl rfl ?_
  | refine w_Base 4 5 hA ok rfl rfl ?_
  | refine w_Base 5 6 hA ok rfl rfl ?_
  | (refine w_PopStep 0 1 hA ok rfl rfl ?_; intro hA)
  | (refine w_PopStep 1 2 hA ok rfl rfl ?_; intro hA)
  | (refine w_PopStep 2 3 hA ok rfl rfl ?_; intro hA)
  | (refine w_PopStep 3 4 hA ok rfl rfl ?_; intro hA)
  | (refine w_PopStep 4 5 hA ok rfl rfl ?_; intro hA)
  | (refine w_PopStep 5 6 hA ok rfl rfl ?_; intro hA)
  | (refine w_PushStep 0 1 hA ok rfl rfl ?_; intro hA)
  | (refine w_PushStep 1 2 hA ok rfl rfl ?_; intro hA)
  | (refine w_PushStep 2 3 hA ok rfl rfl ?_; intro hA)
  | (refine w_PushStep 3 4 hA ok rfl rfl ?_; intro hA)
  | (refine w_PushStep 4 5 hA ok rfl rfl ?_; intro hA)
  | (refine w_PushStep 5 6 hA ok rfl rfl ?_; intro hA)
  | refine wp_true (by assumption) ?_
  | refine wp_false (by assumption) ?_)
  refine w_newP hA ok fun q ok => ?_
  exact w_ret [0, 1, 2] ok rfl (by decide) fun ok => ⟨(q, q0, q1), rfl, rfl, ok⟩

theorem w_NewAlloc {p : Pl} {w c : Int} {k : Option Addr → Tree} (hA : Aw I A) (ok : Ok I G (keys l)) (hc : sizeF c ≠ 0) (h : ∀ j : Nat × Nat × Nat, Ok I G (keys ((newAl p w c).bl j ++ l)) → wp Try.prog (k (some ⟨j.1, 0, none⟩)) L (own A ((newAl p w c).bl j ++ l) G) R) :
    wp Try.prog (.call f_slab_NewAlloc [p.val, .int .i64 w, .int .i64 c] (.one (.leaf .ptr)) k) L (own A l G) R := w_make (fun G => NewAlloc_own p w c hA hc G) ok h
theorem w_NewFree {p : Pl} {w b : Int} {k : Option Addr → Tree} (hA : Aw I A) (ok : Ok I G (keys l)) (h : ∀ j : Nat × Nat × Nat, Ok I G (keys ((newFe p w b).bl j ++ l)) → wp Try.prog (k (some ⟨j.1, 0, none⟩)) L (own A ((newFe p w b).bl j ++ l) G) R) :
    wp Try.prog (.call f_slab_NewFree [p.val, .int .i64 w, .int .i64 b] (.one (.leaf .ptr)) k) L (own A l G) R := w_make (fun G => NewFree_own p w b hA G) ok h

theorem w_Handle (i : Nat) {q q0 : Nat} {x : Al} {k : HL Sh1.T [(.leaf (.int .i64)), (.leaf .bool)] → Tree} (hA : Aw I A) (ok : Ok I G (keys l)) (h0 : l[i]? = some (q, oc ty_slab_Alloc (x.cells q0)))
    (h : wp Try.prog (k (x.h, (x.h : Int) != 0, ())) L (own A l G) R) :
    wp Try.prog (.call f_slab_Alloc_Handle [.pointer (some ⟨q, 0, none⟩)] (.tup [(.leaf (.int .i64)), (.leaf .bool)]) k) L (own A l G) R := by
  refine wp_call_det (x := (x.h, (x.h : Int) != 0, ())) (H' := own A l G) ?_ h
  refine t_slab_Alloc_Handle_spec fun L => ?_
  unfold t_slab_Alloc_Handle
  refine wp_nil.2 (w_ld i hA ok rfl h0 rfl (wp_nil.2 (w_ld i hA ok rfl h0 rfl ?_)))
  exact wp_ret_of ⟨rfl, rfl⟩

end
end Go.Proofs.Ytfphgiipekkgdaa

set_option linter.unusedVariables false
set_option linter.unusedSimpArgs false
set_option maxRecDepth 20000
namespace Go.Proofs.Ytfphgiipekkgdaa
open Go Go.Fw

/-! ### The slab, by what is in it -/

/-- Lists; how many words are carved; how often a base was born; which bases there are, of what class; how many words were born. -/
structure Sg where
  ch : Int → List Int
  cv : Int
  gn : Int → Int
  cl : Int → Int
  nc : Int

def updI (f : Int → Int) (k v : Int) : Int → Int := fun j => if j = k then v else f j

structure SL (A : Ar) (p : Pl) (w m : Int) (S : Sg) : Prop where
  F : FL A p w ((m + 7) / 8) S.ch
  pl : p = plOf w m
  wb : 1 ≤ w ∧ w ≤ 100
  mb : 0 ≤ m ∧ m ≤ 60000
  rl : p.carved < A.raw.length
  wl : (A.words.length : Int) = m
  fr : A.fresh = false
  cvr : A.rawF p.carved = S.cv
  cvb : 0 ≤ S.cv ∧ S.cv ≤ m ∧ S.cv % 8 = 0
  gnr : ∀ b, 0 ≤ b → b < m → b % 8 = 0 → A.rawF (p.gens + b / 8) = S.gn b ∧ (alGet A.gens b).getD 0 ≤ S.gn b
  gnb : ∀ b, 0 ≤ S.gn b ∧ S.gn b ≤ A.uses
  gnz : ∀ b, S.cv ≤ b → S.gn b = 0
  blk : ∀ b, S.cl b ≠ -1 → 0 ≤ S.cl b ∧ S.cl b < 4 ∧ 0 ≤ b ∧ b % 8 = 0 ∧ b + sizeF (S.cl b) ≤ S.cv
  dis : ∀ b c, S.cl b ≠ -1 → S.cl c ≠ -1 → b < c → b + sizeF (S.cl b) ≤ c
  chc : ∀ k b, b ∈ S.ch k → S.cl b = k % 4
  act : ∀ h, A.stF h ≠ 0 → S.cl (opB h) = opC h ∧ ∀ k, opB h ∉ S.ch k
  bz : ∀ i : Nat, A.busy.getD i false = true → ∃ h, A.stF h ≠ 0 ∧ opB h ≤ i ∧ (i : Int) < opB h + sizeF (opC h)
  cr1 : ∀ i : Nat, S.cv ≤ i → A.carved.getD i false = false
  cr2 : ∀ b, S.cl b ≠ -1 → ∀ i : Nat, b ≤ i → (i : Int) < b + sizeF (S.cl b) → A.carved.getD i false = decide (1 ≤ S.gn b)
  cnt : A.nC = S.nc ∧ A.nF = S.nc - A.nL - A.nR
  ncb : 0 ≤ S.nc ∧ S.nc ≤ 64 * (A.uses + 1)
  cnb : -(64 * (A.uses + 1)) ≤ A.nL ∧ A.nL ≤ 64 * (A.uses + 1) ∧ -(64 * (A.uses + 1)) ≤ A.nR ∧ A.nR ≤ 64 * (A.uses + 1)

section
variable {A B : Ar} {p : Pl} {w m : Int} {S : Sg}

theorem SL.places (X : SL A p w m S) : p.heads = 0 ∧ p.links = 4 * w ∧ p.gens = 4 * w + (m + 7) / 8 ∧ p.carved = 4 * w + 2 * ((m + 7) / 8) ∧ p.work = w := by rw [X.pl]; exact ⟨rfl, rfl, rfl, rfl, rfl⟩

theorem sz_pos {c : Int} (h0 : 0 ≤ c) (h1 : c < 4) : 8 ≤ sizeF c ∧ sizeF c ≤ 64 ∧ sizeF c % 8 = 0 := by
  rcases sizeF_cases h0 h1 with ⟨_, h⟩ | ⟨_, h⟩ | ⟨_, h⟩ | ⟨_, h⟩ <;> rw [h] <;> decide

/-- What is no part of the slab. -/
theorem SL.congr (X : SL A p w m S) (hr : ∀ i, 0 ≤ i → i ≤ p.carved → B.rawF i = A.rawF i) (hl : B.raw.length = A.raw.length) (hu : A.uses ≤ B.uses) (hw : B.words.length = A.words.length) (hs : ∀ h, B.stF h = A.stF h)
    (hb : B.busy = A.busy) (hc : B.carved = A.carved) (hg : B.gens = A.gens) (hf : B.fresh = A.fresh) (n1 : B.nC = A.nC) (n2 : B.nF = A.nF) (n3 : B.nL = A.nL) (n4 : B.nR = A.nR) : SL B p w m S := by
  obtain ⟨p1, p2, p3, p4, p5⟩ := X.places
  have wb := X.wb
  have mb := X.mb
  refine ⟨X.F.congr (fun i h0 h1 => hr i h0 (by omega)) hl hu, X.pl, X.wb, X.mb, by rw [hl]; exact X.rl, by rw [hw]; exact X.wl, by rw [hf]; exact X.fr, ?_, X.cvb, ?_, ?_, X.gnz, X.blk, X.dis, X.chc, ?_, ?_, ?_, ?_, ?_, ?_, ?_⟩
  · rw [hr _ (by omega) (by omega)]; exact X.cvr
  · intro b h0 h1 h2; rw [hr _ (by omega) (by omega), hg]; exact X.gnr b h0 h1 h2
  · intro b; have := X.gnb b; omega
  · intro h; rw [hs]; exact X.act h
  · intro i hi; rw [hb] at hi; obtain ⟨h, h1, h2, h3⟩ := X.bz i hi; exact ⟨h, by rw [hs]; exact h1, h2, h3⟩
  · intro i hi; rw [hc]; exact X.cr1 i hi
  · intro b hb i h0 h1; rw [hc]; exact X.cr2 b hb i h0 h1
  · rw [n1, n2, n3, n4]; exact X.cnt
  · have := X.ncb; omega
  · have := X.cnb; rw [n3, n4]; omega

theorem SL.later (X : SL A p w m S) {n : Int} (hn : 0 ≤ n) : SL (A.later n) p w m S :=
  X.congr (fun _ _ _ => rfl) rfl (by show A.uses ≤ A.uses + n; omega) rfl (fun h => stF_slots rfl h) rfl rfl rfl rfl rfl rfl rfl rfl

/-- A base is taken from a list. -/
theorem SL.pop (X : SL A p w m S) (hu : A.uses ≤ 1000000000) {k b : Int} {l : List Int} (hk : S.ch k = b :: l) : SL (A.popped k (4 * w + b / 8)) p w m { S with ch := upd S.ch k l } := by
  obtain ⟨p1, p2, p3, p4, p5⟩ := X.places
  have wb := X.wb
  have mb := X.mb
  have F := X.F.pop hu hk
  obtain ⟨k0, k1⟩ := X.F.rg k (by rw [hk]; simp)
  have hsub : ∀ j x, x ∈ upd S.ch k l j → x ∈ S.ch j := fun j x hx => by
    unfold upd at hx; split at hx
    · rename_i e; rw [e, hk]; exact List.mem_cons_of_mem _ hx
    · exact hx
  have ho : ∀ i, 4 * w + (m + 7) / 8 ≤ i → (A.popped k (4 * w + b / 8)).rawF i = A.rawF i := fun i hi => X.F.pop_other k0 k1 hi
  have us : (A.popped k (4 * w + b / 8)).uses = A.uses + 3 := rfl
  refine ⟨F, X.pl, X.wb, X.mb, by unfold Ar.popped; simp only [List.length_set]; exact X.rl, X.wl, X.fr, ?_, X.cvb, ?_, ?_, X.gnz, X.blk, X.dis, ?_, ?_, ?_, X.cr1, X.cr2, X.cnt, ?_, ?_⟩
  · rw [ho _ (by omega)]; exact X.cvr
  · intro c h0 h1 h2; rw [ho _ (by omega)]; exact X.gnr c h0 h1 h2
  · intro c; have := X.gnb c; rw [us]; show 0 ≤ S.gn c ∧ S.gn c ≤ _; omega
  · exact fun j x hx => X.chc j x (hsub j x hx)
  · intro h hh
    have hh' : A.stF h ≠ 0 := by rw [← stF_slots (A := A) (B := A.popped k (4 * w + b / 8)) rfl h]; exact hh
    obtain ⟨a1, a2⟩ := X.act h hh'
    exact ⟨a1, fun j hx => a2 j (hsub j _ hx)⟩
  · intro i hi
    obtain ⟨h, h1, h2, h3⟩ := X.bz i hi
    exact ⟨h, by rw [stF_slots (A := A) (B := A.popped k (4 * w + b / 8)) rfl h]; exact h1, h2, h3⟩
  · have := X.ncb; rw [us]; show 0 ≤ S.nc ∧ S.nc ≤ _; omega
  · have := X.cnb; rw [us]; show _ ≤ A.nL ∧ A.nL ≤ _ ∧ _ ≤ A.nR ∧ A.nR ≤ _; omega

/-- What a raw word turned leaves. -/
theorem rawF_setR {i j v : Int} (hi : A.rawOk i) : (A.setR i.toNat v).rawF j = if j = i then v else A.rawF j := by
  unfold Ar.rawOk at hi
  by_cases hj : A.rawOk j
  · have hj' : (A.setR i.toNat v).rawOk j := by unfold Ar.rawOk Ar.setR at *; simpa using hj
    rw [← getD_rawF hj', ← getD_rawF hj]
    unfold Ar.rawOk at hj
    show (A.raw.set i.toNat v).getD j.toNat 0 = _
    rw [List.getD_eq_getElem?_getD, List.getElem?_set]
    by_cases e : j = i
    · rw [if_pos e, if_pos (by rw [e]), if_pos (by omega)]; rfl
    · rw [if_neg e, if_neg (by omega), List.getD_eq_getElem?_getD]
  · have hj' : ¬ (A.setR i.toNat v).rawOk j := by unfold Ar.rawOk Ar.setR at *; simpa using hj
    have e : ¬ j = i := fun e => hj (e ▸ hi)
    rw [if_neg e]; unfold Ar.rawF; rw [if_neg hj, if_neg hj']

/-- New words are carved. -/
theorem SL.carve (X : SL A p w m S) (hu : A.uses ≤ 1000000000) {c : Int} (h0 : 0 ≤ c) (h1 : c < 4) (hf : S.cv + sizeF c ≤ m) :
    SL ((A.later 1).setR p.carved.toNat (S.cv + sizeF c)) p w m { S with cv := S.cv + sizeF c, cl := updI S.cl S.cv c } := by
  obtain ⟨p1, p2, p3, p4, p5⟩ := X.places
  have wb := X.wb
  have mb := X.mb
  have cvb := X.cvb
  have sz := sz_pos h0 h1
  have us := X.F.us
  have ok : (A.later 1).rawOk p.carved := ⟨by omega, X.rl⟩
  have hr : ∀ i, ((A.later 1).setR p.carved.toNat (S.cv + sizeF c)).rawF i = if i = p.carved then S.cv + sizeF c else A.rawF i := fun i => rawF_setR ok
  have hcl : S.cl S.cv = -1 := by
    by_cases h : S.cl S.cv = -1
    · exact h
    · have := X.blk _ h; have := sz_pos this.1 this.2.1; omega
  have hlt : ∀ b, S.cl b ≠ -1 → b < S.cv := fun b hb => by have := X.blk b hb; have := sz_pos this.1 this.2.1; omega
  have hst : ∀ h, ((A.later 1).setR p.carved.toNat (S.cv + sizeF c)).stF h = A.stF h := fun h => stF_slots rfl h
  refine ⟨X.F.congr (fun i i0 i1 => by rw [hr, if_neg (by omega)]) (by show (A.raw.set _ _).length = _; rw [List.length_set]) (by show A.uses ≤ A.uses + 1; omega), X.pl, X.wb, X.mb, ?_, X.wl, X.fr, ?_, ⟨by show 0 ≤ S.cv + _; omega, hf, by show (S.cv + _) % 8 = 0; omega⟩, ?_, ?_, ?_, ?_, ?_, ?_, ?_, ?_, ?_, ?_, X.cnt, ?_, ?_⟩
  · show p.carved < ((A.raw.set _ _).length : Int); rw [List.length_set]; exact X.rl
  · rw [hr, if_pos rfl]
  · intro b b0 b1 b2; rw [hr, if_neg (by omega)]; exact X.gnr b b0 b1 b2
  · intro b; have := X.gnb b; show 0 ≤ S.gn b ∧ S.gn b ≤ A.uses + 1; omega
  · intro b hb; exact X.gnz b (by have hb : S.cv + sizeF c ≤ b := hb; omega)
  · intro b hb
    show 0 ≤ updI S.cl S.cv c b ∧ updI S.cl S.cv c b < 4 ∧ 0 ≤ b ∧ b % 8 = 0 ∧ b + sizeF (updI S.cl S.cv c b) ≤ S.cv + sizeF c
    have hb : updI S.cl S.cv c b ≠ -1 := hb
    unfold updI at hb ⊢
    split
    · rename_i e; exact ⟨h0, h1, by omega, by omega, by omega⟩
    · rename_i e; rw [if_neg e] at hb; have := X.blk b hb; omega
  · intro b d hb hd hlt'
    have hb : updI S.cl S.cv c b ≠ -1 := hb
    have hd : updI S.cl S.cv c d ≠ -1 := hd
    show b + sizeF (updI S.cl S.cv c b) ≤ d
    unfold updI at hb hd ⊢
    split
    · rename_i e
      rw [if_neg (by omega)] at hd
      have := hlt d hd; omega
    · rename_i e
      rw [if_neg e] at hb
      by_cases e2 : d = S.cv
      · have := X.blk b hb; omega
      · rw [if_neg e2] at hd; exact X.dis b d hb hd hlt'
  · intro k b hb
    have hm := X.F.mem k b hb
    have hk : S.cl b ≠ -1 := by have := X.chc k b hb; have := X.F.rg k (by intro e; rw [e] at hb; cases hb); omega
    show updI S.cl S.cv c b = k % 4
    unfold updI; rw [if_neg (by have := hlt b hk; omega)]; exact X.chc k b hb
  · intro h hh
    rw [hst] at hh
    obtain ⟨a1, a2⟩ := X.act h hh
    refine ⟨?_, a2⟩
    show updI S.cl S.cv c (opB h) = opC h
    have : S.cl (opB h) ≠ -1 := by have := (opC_nat h).1; omega
    unfold updI; rw [if_neg (by have := hlt _ this; omega)]; exact a1
  · intro i hi
    obtain ⟨h, e1, e2, e3⟩ := X.bz i hi
    exact ⟨h, by rw [hst]; exact e1, e2, e3⟩
  · intro i hi; exact X.cr1 i (by have hi : S.cv + sizeF c ≤ (i : Int) := hi; omega)
  · intro b hb i i0 i1
    have hb : updI S.cl S.cv c b ≠ -1 := hb
    have i1 : (i : Int) < b + sizeF (updI S.cl S.cv c b) := i1
    show A.carved.getD i false = decide (1 ≤ S.gn b)
    unfold updI at hb i1
    by_cases e : b = S.cv
    · rw [X.cr1 i (by omega), X.gnz b (by omega)]; rfl
    · rw [if_neg e] at hb i1; exact X.cr2 b hb i i0 i1
  · have := X.ncb; show 0 ≤ S.nc ∧ S.nc ≤ 64 * (A.uses + 1 + 1); omega
  · have := X.cnb; show _ ≤ A.nL ∧ A.nL ≤ 64 * (A.uses + 1 + 1) ∧ _ ≤ A.nR ∧ A.nR ≤ 64 * (A.uses + 1 + 1); 
    show -(64 * (A.uses + 1 + 1)) ≤ A.nL ∧ A.nL ≤ 64 * (A.uses + 1 + 1) ∧ -(64 * (A.uses + 1 + 1)) ≤ A.nR ∧ A.nR ≤ 64 * (A.uses + 1 + 1)
    omega
end
end Go.Proofs.Ytfphgiipekkgdaa

set_option linter.unusedVariables false
set_option linter.unusedSimpArgs false
set_option maxRecDepth 20000
namespace Go.Proofs.Ytfphgiipekkgdaa
open Go Go.Fw

section
variable {A B : Ar} {p : Pl} {w m : Int} {S : Sg}

theorem newsN_all {l : List Bool} {b : Nat} (v : Bool) : ∀ (n : Nat), (∀ i, b ≤ i → i < b + n → l.getD i false = v) → newsN l b n = if v then 0 else n
  | 0, _ => by cases v <;> rfl
  | n + 1, h => by
    unfold newsN
    rw [newsN_all v n (fun i h0 h1 => h i h0 (by omega)), h (b + n) (by omega) (by omega)]
    cases v <;> simp

theorem setN_getD {l : List Bool} {b n i : Nat} {v : Bool} (hi : i < l.length) : (setN l b v n).getD i false = if b ≤ i ∧ i < b + n then v else l.getD i false := by
  rw [List.getD_eq_getElem?_getD, setN_get, List.getD_eq_getElem?_getD]
  by_cases h : b ≤ i ∧ i < b + n
  · rw [if_pos h, if_pos ⟨h.1, h.2, hi⟩]; rfl
  · rw [if_neg h, if_neg (fun h' => h ⟨h'.1, h'.2.1⟩)]
theorem setN_getD_out {l : List Bool} {b n i : Nat} {v : Bool} (hi : l.length ≤ i) : (setN l b v n).getD i false = false := by
  rw [List.getD_eq_getElem?_getD, List.getElem?_eq_none (by rw [setN_length]; exact hi)]; rfl

theorem bornF_counts (A : Ar) (hw : A.wf) (h : Int) : (A.bornF h).nC = w64 (A.nC + newsN A.carved (opB h).toNat (sizeF (opC h)).toNat) ∧
    (A.bornF h).nF = w64 (w64 (A.nF + newsN A.carved (opB h).toNat (sizeF (opC h)).toNat) - sizeF (opC h)) ∧ (A.bornF h).nL = w64 (A.nL + sizeF (opC h)) ∧ (A.bornF h).nR = A.nR := by
  obtain ⟨c1, c2⟩ := bornN_counts A hw.wC hw.wF (opB h).toNat (sizeF (opC h)).toNat
  obtain ⟨d1, d2⟩ := bornN_rest A (opB h).toNat (sizeF (opC h)).toNat
  unfold Ar.bornF
  generalize A.bornN (opB h).toNat (sizeF (opC h)).toNat = B at *
  rw [← c1, ← c2, ← d1, ← d2]
  exact ⟨rfl, rfl, rfl, rfl⟩

/-- One name of a base at most is a slot. -/
theorem stF_one {A : Ar} {h k : Int} (hs : A.stF h ≠ 0) (hb : opB k = opB h) (hn : k ≠ h) : A.stF k = 0 := by
  unfold Ar.stF at hs ⊢
  rw [hb]
  cases hg : alGet A.slots (opB h) with
  | none => rfl
  | some v =>
    obtain ⟨h', s⟩ := v
    rw [hg] at hs
    dsimp only at hs ⊢
    rw [if_neg]
    rintro ⟨_, e3⟩
    by_cases e4 : openOk h = true ∧ h' = h
    · exact hn (e3.symm.trans e4.2)
    · rw [if_neg e4] at hs; exact hs rfl

/-- Slots that go from one state to another. -/
theorem SL.like (X : SL A p w m S) (hr : B.raw = A.raw) (hu : B.uses = A.uses) (hw : B.words.length = A.words.length) (hs : ∀ h, B.stF h ≠ 0 ↔ A.stF h ≠ 0)
    (hb : B.busy = A.busy) (hc : B.carved = A.carved) (hg : B.gens = A.gens) (hf : B.fresh = A.fresh) (cnt : B.nC = S.nc ∧ B.nF = S.nc - B.nL - B.nR)
    (cnb : -(64 * (A.uses + 1)) ≤ B.nL ∧ B.nL ≤ 64 * (A.uses + 1) ∧ -(64 * (A.uses + 1)) ≤ B.nR ∧ B.nR ≤ 64 * (A.uses + 1)) : SL B p w m S := by
  refine ⟨X.F.congr (fun i _ _ => rawF_congr hr i) (by rw [hr]) (by omega), X.pl, X.wb, X.mb, by rw [hr]; exact X.rl, by rw [hw]; exact X.wl, by rw [hf]; exact X.fr, ?_, X.cvb, ?_, ?_, X.gnz, X.blk, X.dis, X.chc, ?_, ?_, ?_, ?_, cnt, ?_, by rw [hu]; exact cnb⟩
  · rw [rawF_congr hr]; exact X.cvr
  · intro b h0 h1 h2; rw [rawF_congr hr, hg]; exact X.gnr b h0 h1 h2
  · intro b; rw [hu]; exact X.gnb b
  · intro h hh; exact X.act h ((hs h).1 hh)
  · intro i hi; rw [hb] at hi; obtain ⟨h, h1, h2, h3⟩ := X.bz i hi; exact ⟨h, (hs h).2 h1, h2, h3⟩
  · intro i hi; rw [hc]; exact X.cr1 i hi
  · intro b hb i h0 h1; rw [hc]; exact X.cr2 b hb i h0 h1
  · rw [hu]; exact X.ncb

/-- A slot is born. -/
theorem SL.bear (X : SL A p w m S) (hwf : A.wf) (hu : A.uses ≤ 1000000000) {b c : Int} (hc : S.cl b = c) (hc1 : c ≠ -1) (hch : ∀ k, b ∉ S.ch k) (hact : ∀ h, A.stF h ≠ 0 → opB h ≠ b) :
    validN b (S.gn b + 1) c ∧ (opB (packF b (S.gn b + 1) c) = b ∧ opG (packF b (S.gn b + 1) c) = S.gn b + 1 ∧ opC (packF b (S.gn b + 1) c) = c ∧ openOk (packF b (S.gn b + 1) c) = true) ∧
    ((A.later 1).setR (p.gens + b / 8).toNat (S.gn b + 1)).bornOk (packF b (S.gn b + 1) c) ∧
    SL (((A.later 1).setR (p.gens + b / 8).toNat (S.gn b + 1)).bornF (packF b (S.gn b + 1) c)) p w m { S with gn := updI S.gn b (S.gn b + 1), nc := S.nc + (if S.gn b = 0 then sizeF c else 0) } ∧
    (∀ h, (((A.later 1).setR (p.gens + b / 8).toNat (S.gn b + 1)).bornF (packF b (S.gn b + 1) c)).stF h = if h = packF b (S.gn b + 1) c then 1 else A.stF h) ∧
    (((A.later 1).setR (p.gens + b / 8).toNat (S.gn b + 1)).bornF (packF b (S.gn b + 1) c)).nL = A.nL + sizeF c := by
  obtain ⟨p1, p2, p3, p4, p5⟩ := X.places
  have wb := X.wb
  have mb := X.mb
  have us := X.F.us
  have gb := X.gnb b
  have hb := X.blk b (by rw [hc]; exact hc1)
  rw [hc] at hb
  obtain ⟨b1, b2, b3, b4, b5⟩ := hb
  have sz := sz_pos b1 b2
  have cvb := X.cvb
  have hv : validN b (S.gn b + 1) c := ⟨b3, by omega, by omega, by omega, b1, b2⟩
  obtain ⟨o1, o2, o3, o4⟩ := opB_pack hv
  generalize hh : packF b (S.gn b + 1) c = h at *
  have ok : (A.later 1).rawOk (p.gens + b / 8) := ⟨by omega, by show _ < (A.raw.length : Int); have := X.rl; omega⟩
  have hr : ∀ i, ((A.later 1).setR (p.gens + b / 8).toNat (S.gn b + 1)).rawF i = if i = p.gens + b / 8 then S.gn b + 1 else A.rawF i := fun i => rawF_setR ok
  generalize hD : (A.later 1).setR (p.gens + b / 8).toNat (S.gn b + 1) = D at *
  have dst : ∀ k, D.stF k = A.stF k := fun k => by rw [← hD]; exact stF_slots rfl k
  have dwf : D.wf := by rw [← hD]; exact setR_wf (later_wf hwf 1) _ _
  have dbz : D.busy = A.busy := by rw [← hD]; rfl
  have dcr : D.carved = A.carved := by rw [← hD]; rfl
  have dge : D.gens = A.gens := by rw [← hD]; rfl
  have dwl : D.words.length = A.words.length := by rw [← hD]; rfl
  have dus : D.uses = A.uses + 1 := by rw [← hD]; rfl
  have dfr : D.fresh = A.fresh := by rw [← hD]; rfl
  have drl : D.raw.length = A.raw.length := by rw [← hD]; show (A.raw.set _ _).length = _; rw [List.length_set]
  have dnC : D.nC = A.nC ∧ D.nF = A.nF ∧ D.nL = A.nL ∧ D.nR = A.nR := by rw [← hD]; exact ⟨rfl, rfl, rfl, rfl⟩
  clear hD
  have hwl := X.wl
  have bl := hwf.busy
  have cl := hwf.carved
  -- no word of it is busy
  have free : ∀ i : Nat, b ≤ i → (i : Int) < b + sizeF c → A.busy.getD i false = false := fun i i0 i1 => by
    cases hbz : A.busy.getD i false with
    | false => rfl
    | true =>
      exfalso
      obtain ⟨k, k1, k2, k3⟩ := X.bz i hbz
      obtain ⟨a1, a2⟩ := X.act k k1
      have hne := hact k k1
      have c1 : S.cl (opB k) ≠ -1 := by rw [a1]; have := (opC_nat k).1; omega
      rcases Int.lt_trichotomy (opB k) b with e | e | e
      · have := X.dis (opB k) b c1 (by rw [hc]; exact hc1) e; rw [a1] at this; omega
      · exact hne e
      · have := X.dis b (opB k) (by rw [hc]; exact hc1) c1 e; rw [hc] at this; omega
  have gnr := X.gnr b b3 (by omega) b4
  have bok : D.bornOk h := by
    refine ⟨o4, by rw [o1, o3, dwl]; omega, ?_, fun i hi => ?_⟩
    · rw [o1, o2, dge]; omega
    · rw [dbz, o1]; rw [o3] at hi
      exact free _ (by omega) (by omega)
  have hst : ∀ k, (D.bornF h).stF k = if k = h then 1 else A.stF k := fun k => by
    rw [stF_bornF, o1]
    by_cases e : k = h
    · subst e; rw [if_pos o1, if_pos ⟨o4, rfl⟩, if_pos rfl]
    · rw [if_neg e]
      by_cases e1 : opB k = b
      · rw [if_pos e1, if_neg (fun x => e x.2.symm)]
        by_cases z : A.stF k = 0
        · exact z.symm
        · exact (hact k z e1).elim
      · rw [if_neg e1, dst]
  have hcr : ∀ i : Nat, b ≤ i → (i : Int) < b + sizeF c → A.carved.getD i false = decide (1 ≤ S.gn b) := fun i i0 i1 => X.cr2 b (by rw [hc]; exact hc1) i i0 (by rw [hc]; exact i1)
  have hnews : newsN D.carved (opB h).toNat (sizeF (opC h)).toNat = if S.gn b = 0 then (sizeF c).toNat else 0 := by
    rw [dcr, o1, o3, newsN_all (decide (1 ≤ S.gn b)) _ (fun i i0 i1 => hcr i (by omega) (by omega))]
    by_cases z : S.gn b = 0
    · rw [if_pos z, decide_eq_false (by omega)]; rfl
    · rw [if_neg z, decide_eq_true (by omega)]; rfl
  obtain ⟨n1, n2, n3, n4⟩ := bornF_counts D dwf h
  rw [hnews] at n1 n2
  rw [o3] at n2 n3
  obtain ⟨d1, d2, d3, d4⟩ := dnC
  have cnt := X.cnt
  have ncb := X.ncb
  have cnb := X.cnb
  have enw : (((if S.gn b = 0 then (sizeF c).toNat else 0 : Nat)) : Int) = if S.gn b = 0 then sizeF c else 0 := by split <;> omega
  rw [enw] at n1 n2
  have n1' : (D.bornF h).nC = S.nc + (if S.gn b = 0 then sizeF c else 0) := by rw [n1, d1, cnt.1, w64_in (by split <;> omega) (by split <;> omega)]
  have n3' : (D.bornF h).nL = A.nL + sizeF c := by rw [n3, d3, w64_in (by omega) (by omega)]
  have n4' : (D.bornF h).nR = A.nR := by rw [n4, d4]
  have n2' : (D.bornF h).nF = S.nc + (if S.gn b = 0 then sizeF c else 0) - (A.nL + sizeF c) - A.nR := by
    rw [n2, d2, cnt.2, w64_in (x := S.nc - A.nL - A.nR + _) (by split <;> omega) (by split <;> omega), w64_in (by split <;> omega) (by split <;> omega)]
    split <;> omega
  have bus : (D.bornF h).uses = A.uses + 1 := by rw [bornF_uses, dus]
  have braw : ∀ i, (D.bornF h).rawF i = D.rawF i := fun i => rawF_congr (bornF_raw D h) i
  refine ⟨hv, ⟨o1, o2, o3, o4⟩, bok, ?_, hst, n3'⟩
  refine ⟨X.F.congr (fun i i0 i1 => by rw [braw, hr, if_neg (by omega)]) (by rw [bornF_raw, drl]) (by rw [bus]; omega), X.pl, X.wb, X.mb, by rw [bornF_raw, drl]; exact X.rl, by rw [bornF_wl, dwl]; exact X.wl, by rw [bornF_fresh, dfr]; exact X.fr, ?_, X.cvb, ?_, ?_, ?_, X.blk, X.dis, X.chc, ?_, ?_, ?_, ?_, ?_, ?_, ?_⟩
  · rw [braw, hr, if_neg (by omega)]; exact X.cvr
  · intro d d0 d1' d2'
    rw [braw, hr, bornF_gens, dge, alGet_put, o1, o2]
    show (if _ then _ else _) = updI S.gn b (S.gn b + 1) d ∧ _ ≤ updI S.gn b (S.gn b + 1) d
    unfold updI
    by_cases e : d = b
    · subst e; rw [if_pos rfl, if_pos rfl, if_pos rfl]; exact ⟨rfl, Int.le_refl _⟩
    · rw [if_neg e, if_neg e, if_neg (by omega)]; exact X.gnr d d0 d1' d2'
  · intro d
    show 0 ≤ updI S.gn b (S.gn b + 1) d ∧ updI S.gn b (S.gn b + 1) d ≤ _
    have := X.gnb d
    rw [bus]; unfold updI; split <;> omega
  · intro d hd
    have hd : S.cv ≤ d := hd
    show updI S.gn b (S.gn b + 1) d = 0
    unfold updI; rw [if_neg (by omega)]; exact X.gnz d hd
  · intro k hk
    rw [hst] at hk
    by_cases e : k = h
    · subst e; rw [o1, o3]; exact ⟨hc, hch⟩
    · rw [if_neg e] at hk; exact X.act k hk
  · intro i hi
    rw [bornF_busy, dbz, o1, o3] at hi
    by_cases hil : i < A.busy.length
    · rw [setN_getD hil] at hi
      by_cases e : b.toNat ≤ i ∧ i < b.toNat + (sizeF c).toNat
      · exact ⟨h, by rw [hst, if_pos rfl]; decide, by rw [o1]; omega, by rw [o1, o3]; omega⟩
      · rw [if_neg e] at hi
        obtain ⟨k, k1, k2, k3⟩ := X.bz i hi
        refine ⟨k, ?_, k2, k3⟩
        rw [hst]; split
        · decide
        · exact k1
    · rw [setN_getD_out (by omega)] at hi; cases hi
  · intro i hi
    rw [bornF_carved, dcr, o1, o3]
    have hi : S.cv ≤ (i : Int) := hi
    by_cases hil : i < A.carved.length
    · rw [setN_getD hil, if_neg (by omega)]; exact X.cr1 i hi
    · exact setN_getD_out (by omega)
  · intro d hd i i0 i1
    have hd : S.cl d ≠ -1 := hd
    have i1 : (i : Int) < d + sizeF (S.cl d) := i1
    have hdb := X.blk d hd
    rw [bornF_carved, dcr, o1, o3, setN_getD (by omega)]
    show _ = decide (1 ≤ updI S.gn b (S.gn b + 1) d)
    unfold updI
    by_cases e : d = b
    · subst e
      rw [if_pos rfl, if_pos (by rw [hc] at i1; omega), decide_eq_true (by omega)]
    · rw [if_neg e, if_neg]
      · exact X.cr2 d hd i i0 i1
      · intro hx
        rcases Int.lt_or_gt_of_ne e with e2 | e2
        · have := X.dis d b hd (by rw [hc]; exact hc1) e2; omega
        · have := X.dis b d (by rw [hc]; exact hc1) hd e2; rw [hc] at this; omega
  · refine ⟨n1', ?_⟩
    rw [n2', n3', n4']
  · show 0 ≤ S.nc + _ ∧ S.nc + _ ≤ _
    rw [bus]; split <;> omega
  · rw [n3', n4', bus]; omega

/-- A slot is not wanted any more. -/
theorem SL.retire (X : SL A p w m S) (hu : A.uses ≤ 1000000000) {h : Int} (hs : A.stF h = 1) (cn : -(64 * (A.uses + 1)) ≤ A.nL - sizeF (opC h) ∧ A.nR + sizeF (opC h) ≤ 64 * (A.uses + 1)) :
    SL (A.retireF h) p w m S ∧ (∀ k, (A.retireF h).stF k = if k = h then 2 else A.stF k) ∧ (A.retireF h).nL = A.nL - sizeF (opC h) ∧ (A.retireF h).nR = A.nR + sizeF (opC h) := by
  have ho := stF_ok (A := A) (h := h) (by rw [hs]; decide)
  have us := X.F.us
  have cnb := X.cnb
  have ncb := X.ncb
  have cnt := X.cnt
  have sz := size_opC h
  have tn : A.turnN h 1 = sizeF (opC h) := by unfold Ar.turnN; rw [if_pos hs]
  have hst : ∀ k, (A.retireF h).stF k = if k = h then 2 else A.stF k := fun k => by
    rw [stF_retireF]
    by_cases e : k = h
    · subst e; rw [if_pos ⟨hs, rfl⟩, if_pos ⟨ho, rfl⟩, if_pos rfl]
    · rw [if_neg e]
      by_cases e1 : A.stF h = 1 ∧ opB k = opB h
      · rw [if_pos e1, if_neg (fun x => e x.2.symm)]
        exact (stF_one (by rw [hs]; decide) e1.2 e).symm
      · rw [if_neg e1]
  have parts : (A.retireF h).raw = A.raw ∧ (A.retireF h).words = A.words ∧ (A.retireF h).busy = A.busy ∧ (A.retireF h).carved = A.carved ∧ (A.retireF h).gens = A.gens ∧ (A.retireF h).fresh = A.fresh ∧ (A.retireF h).uses = A.uses ∧ (A.retireF h).nC = A.nC ∧ (A.retireF h).nF = A.nF := by
    unfold Ar.retireF Ar.turnF
    rw [if_pos hs]
    exact ⟨rfl, rfl, rfl, rfl, rfl, rfl, rfl, rfl, rfl⟩
  obtain ⟨q1, q2, q3, q4, q5, q6, q7, q8, q9⟩ := parts
  have nL : (A.retireF h).nL = A.nL - sizeF (opC h) := by
    have : (A.retireF h).nL = w64 (A.nL - A.turnN h 1) := by unfold Ar.retireF Ar.turnF; rw [if_pos hs]; rfl
    rw [this, tn, w64_in (by omega) (by omega)]
  have nR : (A.retireF h).nR = A.nR + sizeF (opC h) := by
    have : (A.retireF h).nR = w64 (A.nR + A.turnN h 1) := by unfold Ar.retireF Ar.turnF; rw [if_pos hs]; rfl
    rw [this, tn, w64_in (by omega) (by omega)]
  refine ⟨X.like q1 q7 (by rw [q2]) (fun k => ?_) q3 q4 q5 q6 ⟨by rw [q8]; exact cnt.1, by rw [q9, nL, nR]; omega⟩ (by rw [nL, nR]; omega), hst, nL, nR⟩
  rw [hst]
  by_cases e : k = h
  · rw [if_pos e, e, hs]; decide
  · rw [if_neg e]
end
end Go.Proofs.Ytfphgiipekkgdaa

set_option linter.unusedVariables false
set_option linter.unusedSimpArgs false
set_option maxRecDepth 20000
namespace Go.Proofs.Ytfphgiipekkgdaa
open Go Go.Fw

section
variable {A B : Ar} {p : Pl} {w m : Int} {S : Sg}

/-- Nobody has a slot any more. -/
theorem SL.die (X : SL A p w m S) (hwf : A.wf) (hu : A.uses ≤ 1000000000) {h : Int} (hs : A.stF h = 2) (cn : -(64 * (A.uses + 1)) ≤ A.nR - sizeF (opC h)) :
    SL (A.diedF h) p w m S ∧ (∀ k, (A.diedF h).stF k = if k = h then 0 else A.stF k) ∧ (A.diedF h).nL = A.nL ∧ (A.diedF h).nR = A.nR - sizeF (opC h) := by
  have ho := stF_ok (A := A) (h := h) (by rw [hs]; decide)
  have us := X.F.us
  have cnb := X.cnb
  have ncb := X.ncb
  have cnt := X.cnt
  have sz := size_opC h
  have hB := opB_nat h
  have tn : A.turnN h 2 = sizeF (opC h) := by unfold Ar.turnN; rw [if_pos hs]
  have hst : ∀ k, (A.diedF h).stF k = if k = h then 0 else A.stF k := fun k => by
    rw [stF_diedF]
    by_cases e : k = h
    · subst e; rw [if_pos ⟨hs, rfl⟩, if_pos ⟨ho, rfl⟩, if_pos rfl]
    · rw [if_neg e]
      by_cases e1 : A.stF h = 2 ∧ opB k = opB h
      · rw [if_pos e1, if_neg (fun x => e x.2.symm)]
        exact (stF_one (by rw [hs]; decide) e1.2 e).symm
      · rw [if_neg e1]
  have parts : (A.diedF h).raw = A.raw ∧ (A.diedF h).words = A.words ∧ (A.diedF h).busy = setN A.busy (opB h).toNat false (A.turnN h 2).toNat ∧ (A.diedF h).carved = A.carved ∧ (A.diedF h).gens = A.gens ∧ (A.diedF h).fresh = A.fresh ∧ (A.diedF h).uses = A.uses ∧ (A.diedF h).nC = A.nC ∧ (A.diedF h).nL = A.nL := by
    unfold Ar.diedF Ar.turnF
    rw [if_pos hs]
    exact ⟨rfl, rfl, rfl, rfl, rfl, rfl, rfl, rfl, rfl⟩
  obtain ⟨q1, q2, q3, q4, q5, q6, q7, q8, q9⟩ := parts
  have nR : (A.diedF h).nR = A.nR - sizeF (opC h) := by
    have : (A.diedF h).nR = w64 (A.nR - A.turnN h 2) := by unfold Ar.diedF Ar.turnF; rw [if_pos hs]; rfl
    rw [this, tn, w64_in (by omega) (by omega)]
  have nF : (A.diedF h).nF = A.nF + sizeF (opC h) := by
    have : (A.diedF h).nF = w64 (A.nF + A.turnN h 2) := by unfold Ar.diedF Ar.turnF; rw [if_pos hs]; rfl
    rw [this, tn, cnt.2, w64_in (by omega) (by omega)]
  rw [tn] at q3
  refine ⟨?_, hst, q9, nR⟩
  refine ⟨X.F.congr (fun i _ _ => rawF_congr q1 i) (by rw [q1]) (by omega), X.pl, X.wb, X.mb, by rw [q1]; exact X.rl, by rw [q2]; exact X.wl, by rw [q6]; exact X.fr, ?_, X.cvb, ?_, ?_, X.gnz, X.blk, X.dis, X.chc, ?_, ?_, ?_, ?_, ?_, ?_, ?_⟩
  · rw [rawF_congr q1]; exact X.cvr
  · intro b h0 h1 h2; rw [rawF_congr q1, q5]; exact X.gnr b h0 h1 h2
  · intro b; rw [q7]; exact X.gnb b
  · intro k hk
    rw [hst] at hk
    split at hk
    · exact (hk rfl).elim
    · exact X.act k hk
  · intro i hi
    rw [q3] at hi
    by_cases hil : i < A.busy.length
    · rw [setN_getD hil] at hi
      split at hi
      · cases hi
      · rename_i hne
        obtain ⟨k, k1, k2, k3⟩ := X.bz i hi
        refine ⟨k, ?_, k2, k3⟩
        rw [hst, if_neg]
        · exact k1
        · intro e; subst e; exact hne ⟨by omega, by omega⟩
    · rw [setN_getD_out (by omega)] at hi; cases hi
  · intro i hi; rw [q4]; exact X.cr1 i hi
  · intro b hb i h0 h1; rw [q4]; exact X.cr2 b hb i h0 h1
  · rw [q8, nF, q9, nR]; exact ⟨cnt.1, by omega⟩
  · rw [q7]; exact ncb
  · rw [q7, q9, nR]; omega

/-- A base that nobody has is put on a list. -/
theorem SL.push (X : SL A p w m S) (hu : A.uses ≤ 1000000000) {k b : Int} (k0 : 0 ≤ k) (k1 : k < 4 * w) (hc : S.cl b = k % 4) (hn : ∀ j, b ∉ S.ch j) (ha : ∀ h, A.stF h ≠ 0 → opB h ≠ b) :
    SL (A.pushed k (4 * w + b / 8) b) p w m { S with ch := upd S.ch k (b :: S.ch k) } := by
  obtain ⟨p1, p2, p3, p4, p5⟩ := X.places
  have wb := X.wb
  have mb := X.mb
  obtain ⟨b1, b2, b3, b4, b5⟩ := X.blk b (by omega)
  have cvb := X.cvb
  have sz := sz_pos b1 b2
  have hb : 0 ≤ b ∧ b % 8 = 0 ∧ b / 8 < (m + 7) / 8 := ⟨b3, b4, by omega⟩
  have F := X.F.push hu k0 k1 hb hn
  have ho : ∀ i, 4 * w + (m + 7) / 8 ≤ i → (A.pushed k (4 * w + b / 8) b).rawF i = A.rawF i := fun i hi => X.F.push_other k0 k1 hb hi
  have us : (A.pushed k (4 * w + b / 8) b).uses = A.uses + 3 := rfl
  have est : ∀ h, (A.pushed k (4 * w + b / 8) b).stF h = A.stF h := fun h => stF_slots (A := A) (B := A.pushed k (4 * w + b / 8) b) rfl h
  refine ⟨F, X.pl, X.wb, X.mb, by unfold Ar.pushed; simp only [List.length_set]; exact X.rl, X.wl, X.fr, ?_, X.cvb, ?_, ?_, X.gnz, X.blk, X.dis, ?_, ?_, ?_, X.cr1, X.cr2, X.cnt, ?_, ?_⟩
  · rw [ho _ (by omega)]; exact X.cvr
  · intro c h0 h1 h2; rw [ho _ (by omega)]; exact X.gnr c h0 h1 h2
  · intro c; have := X.gnb c; rw [us]; show 0 ≤ S.gn c ∧ S.gn c ≤ _; omega
  · intro j x hx
    have hx : x ∈ upd S.ch k (b :: S.ch k) j := hx
    unfold upd at hx
    split at hx
    · rename_i e
      rcases List.mem_cons.1 hx with rfl | hx
      · rw [e]; exact hc
      · rw [e]; exact X.chc k x hx
    · exact X.chc j x hx
  · intro h hh
    rw [est] at hh
    obtain ⟨a1, a2⟩ := X.act h hh
    refine ⟨a1, fun j hx => ?_⟩
    have hx : opB h ∈ upd S.ch k (b :: S.ch k) j := hx
    unfold upd at hx
    split at hx
    · rcases List.mem_cons.1 hx with e | hx
      · exact ha h hh e
      · exact a2 k hx
    · exact a2 j hx
  · intro i hi
    obtain ⟨h, h1, h2, h3⟩ := X.bz i hi
    exact ⟨h, by rw [est]; exact h1, h2, h3⟩
  · have := X.ncb; rw [us]; show 0 ≤ S.nc ∧ S.nc ≤ _; omega
  · have := X.cnb; rw [us]; show _ ≤ A.nL ∧ A.nL ≤ _ ∧ _ ≤ A.nR ∧ A.nR ≤ _; omega

theorem pushed_died (A : Ar) (k lk b h : Int) : (A.pushed k lk b).diedF h = (A.diedF h).pushed k lk b := by
  have e : (A.pushed k lk b).stF h = A.stF h := stF_slots (A := A) (B := A.pushed k lk b) rfl h
  unfold Ar.diedF Ar.turnF Ar.turnN
  rw [e]
  by_cases hs : A.stF h = 2
  · simp only [if_pos hs]; rfl
  · simp only [if_neg hs]; rfl

/-- A slot is given back. -/
theorem SL.give (X : SL A p w m S) (hwf : A.wf) (hu : A.uses ≤ 1000000000) {h who : Int} (hs : A.stF h = 2) (w0 : 0 ≤ who) (w1 : who < w) (cn : -(64 * (A.uses + 1)) ≤ A.nR - sizeF (opC h)) :
    SL ((A.pushed (4 * who + opC h) (4 * w + opB h / 8) (opB h)).diedF h) p w m { S with ch := upd S.ch (4 * who + opC h) (opB h :: S.ch (4 * who + opC h)) } ∧
    (∀ k, ((A.pushed (4 * who + opC h) (4 * w + opB h / 8) (opB h)).diedF h).stF k = if k = h then 0 else A.stF k) ∧
    ((A.pushed (4 * who + opC h) (4 * w + opB h / 8) (opB h)).diedF h).nL = A.nL ∧ ((A.pushed (4 * who + opC h) (4 * w + opB h / 8) (opB h)).diedF h).nR = A.nR - sizeF (opC h) := by
  obtain ⟨a1, a2⟩ := X.act h (by rw [hs]; decide)
  have hC := opC_nat h
  obtain ⟨Y, y1, y2, y3⟩ := X.die hwf hu hs cn
  rw [pushed_died]
  have us : (A.diedF h).uses = A.uses := by unfold Ar.diedF Ar.turnF; rw [if_pos hs]; rfl
  have Z := Y.push (k := 4 * who + opC h) (b := opB h) (by rw [us]; exact hu) (by omega) (by omega) (by rw [a1]; omega) a2 (fun k hk e => by
    rw [y1] at hk
    split at hk
    · exact hk rfl
    · rename_i hne
      exact hk (stF_one (by rw [hs]; decide) e hne))
  refine ⟨Z, fun k => ?_, y2, y3⟩
  rw [← y1 k]; exact stF_slots (A := A.diedF h) rfl k

/-- An arena that was made. -/
theorem SL.made {r : Nat} (hm : A.made r m.toNat false) (hr : (plOf w m).carved < r) (wb : 1 ≤ w ∧ w ≤ 100) (mb : 0 ≤ m ∧ m ≤ 60000) : SL A (plOf w m) w m ⟨fun _ => [], 0, fun _ => 0, fun _ => -1, 0⟩ := by
  have hz : ∀ i, A.rawF i = 0 := fun i => by
    unfold Ar.rawF; split
    · rw [hm.raw, List.getD_eq_getElem?_getD, List.getElem?_replicate]; split <;> rfl
    · rfl
  have hs : ∀ h, A.stF h = 0 := fun h => by unfold Ar.stF; rw [hm.slots]; rfl
  have hrl : (A.raw.length : Int) = r := by rw [hm.raw, List.length_replicate]
  have pc : (plOf w m).carved = 4 * w + 2 * ((m + 7) / 8) := rfl
  have hbz : ∀ i : Nat, A.busy.getD i false = false := fun i => by rw [hm.busy, List.getD_eq_getElem?_getD, List.getElem?_replicate]; split <;> rfl
  have hcr : ∀ i : Nat, A.carved.getD i false = false := fun i => by rw [hm.carved, List.getD_eq_getElem?_getD, List.getElem?_replicate]; split <;> rfl
  refine ⟨⟨rfl, rfl, by omega, by omega, by omega, by rw [hm.uses]; omega, fun k _ _ => by rw [hz, hm.uses]; decide, fun k _ _ => by rw [hz]; rfl, fun k b h => (by cases h), fun k => .nil, fun k j b h => (by cases h), fun k h => (h rfl).elim⟩, rfl, wb, mb, by rw [hrl]; exact hr, ?_, hm.fresh, hz _, ⟨Int.le_refl 0, mb.1, rfl⟩, fun b _ _ _ => ⟨hz _, ?_⟩, fun b => ?_, fun b _ => rfl, fun b h => (h rfl).elim, fun b c h => (h rfl).elim, fun k b h => (by cases h), fun h hh => (hh (hs h)).elim, fun i hi => ?_, fun i _ => hcr i, fun b h => (h rfl).elim, ?_, ?_, ?_⟩
  · rw [hm.words, List.length_replicate]; omega
  · rw [hm.gens]; exact Int.le_refl 0
  · rw [hm.uses]; exact ⟨Int.le_refl 0, Int.le_refl 0⟩
  · rw [hbz] at hi; cases hi
  · rw [hm.nC, hm.nF, hm.nL, hm.nR]; exact ⟨rfl, rfl⟩
  · rw [hm.uses]; decide
  · rw [hm.uses, hm.nL, hm.nR]; decide
end
end Go.Proofs.Ytfphgiipekkgdaa

set_option linter.unusedVariables false
set_option linter.unusedSimpArgs false
set_option maxRecDepth 20000
namespace Go.Proofs.Ytfphgiipekkgdaa
open Go Go.Fw

/-- What a machine of the slab leaves as it was; how many uses. -/
structure Off (c n : Int) (A A' : Ar) : Prop where
  wf : A'.wf
  al : Ar.Alike A A'
  wd : A'.words = A.words
  fa : A'.fault = A.fault
  fr : A'.fresh = A.fresh
  rl : A'.raw.length = A.raw.length
  rw : ∀ i, c < i → A'.rawF i = A.rawF i
  us : A'.uses = A.uses + n

section
variable {A B C : Ar} {p : Pl} {w m : Int} {S : Sg} {c : Int}

theorem Off.refl (h : A.wf) : Off c 0 A A := ⟨h, .refl A, rfl, rfl, rfl, rfl, fun _ _ => rfl, (Int.add_zero _).symm⟩
theorem Off.trans {k n : Int} (h : Off c k A B) (g : Off c n B C) : Off c (k + n) A C :=
  ⟨g.wf, h.al.trans g.al, g.wd.trans h.wd, g.fa.trans h.fa, g.fr.trans h.fr, g.rl.trans h.rl, fun i hi => (g.rw i hi).trans (h.rw i hi), by rw [g.us, h.us]; omega⟩
theorem Off.later (h : A.wf) (n : Int) : Off c n A (A.later n) := ⟨later_wf h n, later_alike A n, rfl, rfl, rfl, rfl, fun _ _ => rfl, rfl⟩
theorem Off.popped (h : A.wf) {k lk : Int} (o : A.rawOk k) (hk : k ≤ c) : Off c 3 A (A.popped k lk) :=
  ⟨popped_wf h k lk, popped_alike A k lk, rfl, rfl, rfl, by unfold Ar.popped; simp, fun i hi => by
    by_cases io : A.rawOk i
    · rw [rawF_popped o io, if_neg (by omega)]
    · unfold Ar.rawF; rw [if_neg io, if_neg (fun h => io (popped_ok.1 h))], rfl⟩
theorem Off.pushed (h : A.wf) {k lk b : Int} (o : A.rawOk k) (o2 : A.rawOk lk) (hk : k ≤ c) (hl : lk ≤ c) : Off c 3 A (A.pushed k lk b) :=
  ⟨pushed_wf h k lk b, pushed_alike A k lk b, rfl, rfl, rfl, by unfold Ar.pushed; simp, fun i hi => by
    by_cases io : A.rawOk i
    · rw [rawF_pushed o o2 io, if_neg (by omega), if_neg (by omega)]
    · unfold Ar.rawF; rw [if_neg io, if_neg (fun h => io (pushed_ok.1 h))], rfl⟩
theorem Off.setR (h : A.wf) {i v : Int} (o : A.rawOk i) (hi : i ≤ c) : Off c 0 A (A.setR i.toNat v) :=
  ⟨setR_wf h _ _, ⟨rfl, rfl, rfl, rfl, rfl, rfl, rfl⟩, rfl, rfl, rfl, by show (A.raw.set _ _).length = _; rw [List.length_set], fun j hj => by rw [rawF_setR o, if_neg (by omega)], (Int.add_zero _).symm⟩
theorem Off.bornF (h : A.wf) (hf : A.fresh = false) {k : Int} (hk : opB k + sizeF (opC k) ≤ A.words.length) : Off c 0 A (A.bornF k) :=
  ⟨bornF_wf h k hk, bornF_alike A k, by rw [bornF_words, hf]; rfl, bornF_fault A k, bornF_fresh A k, by rw [bornF_raw], fun i _ => rawF_congr (bornF_raw A k) i, by rw [bornF_uses, Int.add_zero]⟩
theorem Off.diedF (h : A.wf) (k : Int) : Off c 0 A (A.diedF k) := by
  have parts : (A.diedF k).raw = A.raw ∧ (A.diedF k).words = A.words ∧ (A.diedF k).fault = A.fault ∧ (A.diedF k).fresh = A.fresh ∧ (A.diedF k).uses = A.uses := by
    unfold Ar.diedF Ar.turnF; split <;> exact ⟨rfl, rfl, rfl, rfl, rfl⟩
  obtain ⟨q1, q2, q3, q4, q5⟩ := parts
  exact ⟨diedF_wf h k, diedF_alike A k, q2, q3, q4, by rw [q1], fun i _ => rawF_congr q1 i, by rw [q5, Int.add_zero]⟩
theorem Off.retireF (h : A.wf) (k : Int) : Off c 0 A (A.retireF k) := by
  have parts : (A.retireF k).raw = A.raw ∧ (A.retireF k).words = A.words ∧ (A.retireF k).fault = A.fault ∧ (A.retireF k).fresh = A.fresh ∧ (A.retireF k).uses = A.uses := by
    unfold Ar.retireF Ar.turnF; split <;> exact ⟨rfl, rfl, rfl, rfl, rfl⟩
  obtain ⟨q1, q2, q3, q4, q5⟩ := parts
  exact ⟨retireF_wf h k, retireF_alike A k, q2, q3, q4, by rw [q1], fun i _ => rawF_congr q1 i, by rw [q5, Int.add_zero]⟩

/-! ### Steps that do not end -/

inductive Mch.Path {M J : Type} (X : Mch M J) : Nat → M → Ar → M → Ar → Prop
  | nil {x : M} {D : Ar} : Path X 0 x D x D
  | cons {n : Nat} {x : M} {D : Ar} {x1 : M} {D1 : Ar} {x' : M} {D' : Ar} : X.inv x D → X.step x D = (x1, D1) → D1.uses ≤ w64 (D.uses + 1) → X.fin x1 = false → Path X n x1 D1 x' D' → Path X (n + 1) x D x' D'

theorem Mch.Path.trans {M J : Type} {X : Mch M J} {k n : Nat} {m m1 m2 : M} {A A1 A2 : Ar} (h : X.Path k m A m1 A1) (g : X.Path n m1 A1 m2 A2) : X.Path (k + n) m A m2 A2 := by
  induction h with
  | nil => rw [Nat.zero_add]; exact g
  | @cons k m A m1 A1 m' A' h1 h2 h3 h4 _ ih =>
    have := ih g
    rw [show k + 1 + n = k + n + 1 by omega]
    exact .cons h1 h2 h3 h4 this
theorem Mch.Path.run {M J : Type} {X : Mch M J} {k n : Nat} {m m1 m2 : M} {A A1 A2 : Ar} (h : X.Path k m A m1 A1) (g : X.Runs n m1 A1 m2 A2) : X.Runs (k + n) m A m2 A2 := by
  induction h with
  | nil => rw [Nat.zero_add]; exact g
  | @cons k m A m1 A1 m' A' h1 h2 h3 h4 _ ih =>
    have := ih g
    rw [show k + 1 + n = k + n + 1 by omega]
    refine .more h1 (by rw [h2]; exact h3) (by rw [h2]; exact h4) ?_
    rw [h2]; exact this
theorem Mch.Runs.last {M J : Type} {X : Mch M J} {m m1 : M} {A A1 : Ar} (h1 : X.inv m A) (h2 : X.step m A = (m1, A1)) (h3 : A1.uses ≤ w64 (A.uses + 1)) (h4 : X.fin m1 = true) : X.Runs 1 m A m1 A1 := by
  have := Mch.Runs.one (X := X) h1 (by rw [h2]; exact h3) (by rw [h2]; exact h4)
  rw [h2] at this; exact this

/-! ### An alloc, step by step -/

theorem headF_eq {p : Pl} {w c : Int} (hp : p.heads = 0) (w0 : 0 ≤ w ∧ w ≤ 1000) (c0 : 0 ≤ c ∧ c < 4) : headF p w c = 4 * w + c := by
  unfold headF; rw [hp, Int.zero_add, w64_in (x := 4 * w) (by omega) (by omega), w64_in (x := 4 * w) (by omega) (by omega), w64_in (by omega) (by omega)]

end
end Go.Proofs.Ytfphgiipekkgdaa

set_option linter.unusedVariables false
set_option linter.unusedSimpArgs false
set_option maxRecDepth 20000
namespace Go.Proofs.Ytfphgiipekkgdaa
open Go Go.Fw

section
variable {A B C : Ar} {p : Pl} {w m : Int} {S : Sg} {c : Int}

theorem bear_last (X : SL A p w m S) (hu : A.uses ≤ 1000000000) {who j b : Int} {y : Po} (hj : 0 ≤ j ∧ j ≤ 1000000) (hc : S.cl b = c) (hc1 : c ≠ -1) (hb : ((A.later 1).setR (p.gens + b / 8).toNat (S.gn b + 1)).bornOk (packF b (S.gn b + 1) c)) :
    mAl.Runs 1 ⟨p, who, c, j, 3, b, 0, y⟩ A ⟨p, who, c, j, 4, b, packF b (S.gn b + 1) c, y⟩ (((A.later 1).setR (p.gens + b / 8).toNat (S.gn b + 1)).bornF (packF b (S.gn b + 1) c)) := by
  obtain ⟨p1, p2, p3, p4, p5⟩ := X.places
  have us := X.F.us
  have mb := X.mb
  have wb := X.wb
  have cvb := X.cvb
  have gb := X.gnb b
  obtain ⟨b1, b2, b3, b4, b5⟩ := X.blk b (by rw [hc]; exact hc1)
  have sz := sz_pos b1 b2
  have ok : A.rawOk (p.gens + b / 8) := ⟨by omega, by have := X.rl; omega⟩
  have ei : w64 (p.gens + w64 (Int.tdiv b 8)) = p.gens + b / 8 := by rw [Int.tdiv_eq_ediv_of_nonneg b3, w64_in (x := b / 8) (by omega) (by omega), w64_in (by omega) (by omega)]
  have eg : A.rawF (p.gens + b / 8) = S.gn b := (X.gnr b b3 (by omega) b4).1
  refine Mch.Runs.last (X := mAl) (m := ⟨p, who, c, j, 3, b, 0, y⟩) (A := A) (A1 := ((A.later 1).setR (p.gens + b / 8).toNat (S.gn b + 1)).bornF (packF b (S.gn b + 1) c)) (m1 := ⟨p, who, c, j, 4, b, packF b (S.gn b + 1) c, y⟩) ⟨hj.1, hj.2⟩ ?_ ?_ rfl
  · rw [show mAl.step = Al.step from rfl]
    unfold Al.step
    have n0 : ¬ (3 : Int) = 0 := by decide
    have n1 : ¬ (3 : Int) = 1 := by decide
    have n2 : ¬ (3 : Int) = 2 := by decide
    simp only [if_neg n0, if_neg n1, if_neg n2, if_true, ei, eg]
    rw [w64_in (x := S.gn b + 1) (by omega) (by omega)]
    unfold Ar.storeR
    rw [if_pos ok, tick_uses us (by omega)]
    unfold Ar.bornX
    rw [if_pos hb]
  · rw [bornF_uses]
    show A.uses + 1 ≤ _
    rw [w64_in (by omega) (by omega)]; exact Int.le_refl _

/-! ### An alloc alone, to its end -/

/-- The first list that has something. -/
def Sg.ask (S : Sg) (w who c : Int) : Nat → Int → Option Int
  | 0, _ => none
  | f + 1, j => if S.ch (4 * ((who + j) % w) + c) = [] then S.ask w who c f (j + 1) else some (4 * ((who + j) % w) + c)

/-- What a slab gives. -/
inductive Gives (S : Sg) (w m who c : Int) : Sg → Int → Prop
  | list {k b : Int} {l : List Int} : S.ask w who c w.toNat 0 = some k → S.ch k = b :: l → 0 ≤ k → k < 4 * w → k % 4 = c →
      Gives S w m who c { S with ch := upd S.ch k l, gn := updI S.gn b (S.gn b + 1), nc := S.nc + (if S.gn b = 0 then sizeF c else 0) } (packF b (S.gn b + 1) c)
  | carve : S.ask w who c w.toNat 0 = none → S.cv + sizeF c ≤ m →
      Gives S w m who c { S with cv := S.cv + sizeF c, cl := updI S.cl S.cv c, gn := updI S.gn S.cv 1, nc := S.nc + sizeF c } (packF S.cv 1 c)
  | none : S.ask w who c w.toNat 0 = none → ¬ S.cv + sizeF c ≤ m → Gives S w m who c S 0

structure Alloced (A : Ar) (p : Pl) (w m : Int) (S : Sg) (who c : Int) (n : Nat) (x' : Al) (A' : Ar) (S' : Sg) : Prop where
  run : mAl.Runs n (newAl p who c) A x' A'
  gives : Gives S w m who c S' x'.h
  off : Off p.carved n A A'
  sl : SL A' p w m S'
  st : ∀ k, A'.stF k = if x'.h ≠ 0 ∧ k = x'.h then 1 else A.stF k
  nL : A'.nL = A.nL + (if x'.h ≠ 0 then sizeF c else 0)
  nR : A'.nR = A.nR
  nn : (n : Int) ≤ w + 5
  hd : x'.h ≠ 0 → opC x'.h = c ∧ openOk x'.h = true ∧ A.stF x'.h = 0

end
end Go.Proofs.Ytfphgiipekkgdaa

set_option linter.unusedVariables false
set_option linter.unusedSimpArgs false
set_option maxRecDepth 20000
namespace Go.Proofs.Ytfphgiipekkgdaa
open Go Go.Fw

section
variable {A B C : Ar} {p : Pl} {w m : Int} {S : Sg} {c : Int}

theorem Gives.or {who h : Int} {S' : Sg} (g : Gives S w m who c S' h) :
    (∃ k b l, S.ask w who c w.toNat 0 = some k ∧ S.ch k = b :: l ∧ 0 ≤ k ∧ k < 4 * w ∧ k % 4 = c ∧ S' = { S with ch := upd S.ch k l, gn := updI S.gn b (S.gn b + 1), nc := S.nc + (if S.gn b = 0 then sizeF c else 0) } ∧ h = packF b (S.gn b + 1) c) ∨
    (S.ask w who c w.toNat 0 = Option.none ∧ S.cv + sizeF c ≤ m ∧ S' = { S with cv := S.cv + sizeF c, cl := updI S.cl S.cv c, gn := updI S.gn S.cv 1, nc := S.nc + sizeF c } ∧ h = packF S.cv 1 c) ∨
    (S.ask w who c w.toNat 0 = Option.none ∧ ¬ S.cv + sizeF c ≤ m ∧ S' = S ∧ h = 0) := by
  cases g with
  | list h1 h2 h3 h4 h5 => exact .inl ⟨_, _, _, h1, h2, h3, h4, h5, rfl, rfl⟩
  | carve h1 h2 => exact .inr (.inl ⟨h1, h2, rfl, rfl⟩)
  | none h1 h2 => exact .inr (.inr ⟨h1, h2, rfl, rfl⟩)

/-! ### A free alone, to its end -/

structure Freed (A : Ar) (p : Pl) (w m : Int) (S : Sg) (who h : Int) (x' : Fe) (A' : Ar) : Prop where
  run : mFe.Runs 3 (newFe p who h) A x' A'
  off : Off p.carved 3 A A'
  sl : SL A' p w m { S with ch := upd S.ch (4 * who + opC h) (opB h :: S.ch (4 * who + opC h)) }
  st : ∀ k, A'.stF k = if k = h then 0 else A.stF k
  nL : A'.nL = A.nL
  nR : A'.nR = A.nR - sizeF (opC h)

theorem free_solo (X : SL A p w m S) (hwf : A.wf) (hu : A.uses ≤ 1000000) {who h : Int} (wh : 0 ≤ who ∧ who < w) (hs : A.stF h = 2) (cn : -(64 * (A.uses + 1)) ≤ A.nR - sizeF (opC h)) : ∃ x' A', Freed A p w m S who h x' A' := by
  obtain ⟨p1, p2, p3, p4, p5⟩ := X.places
  have wb := X.wb
  have mb := X.mb
  have us := X.F.us
  have cvb := X.cvb
  have hC := opC_nat h
  obtain ⟨a1, a2⟩ := X.act h (by rw [hs]; decide)
  obtain ⟨b1, b2, b3, b4, b5⟩ := X.blk (opB h) (by omega)
  have sz := sz_pos b1 b2
  have hh := headF_eq (p := p) (w := who) (c := opC h) p1 ⟨wh.1, by omega⟩ hC
  have hb : 0 ≤ opB h ∧ opB h % 8 = 0 ∧ opB h / 8 < (m + 7) / 8 := ⟨b3, b4, by omega⟩
  generalize hk : 4 * who + opC h = k at *
  have k0 : 0 ≤ k := by omega
  have k1 : k < 4 * w := by omega
  have o1 : A.rawOk k := X.F.hdOk k0 k1
  have o2 := X.F.lkOk hb.1 hb.2.2
  have nb := X.F.nb
  have td : Int.tdiv (opB h) 8 = opB h / 8 := Int.tdiv_eq_ediv_of_nonneg hb.1
  have el : w64 (p.links + w64 (Int.tdiv (opB h) 8)) = 4 * w + opB h / 8 := by rw [td, p2, w64_in (x := opB h / 8) (by omega) (by omega), w64_in (by omega) (by omega)]
  have t1 : w64 (A.uses + 1) = A.uses + 1 := w64_in (by omega) (by omega)
  have t2 : w64 (A.uses + 1 + 1) = A.uses + 1 + 1 := w64_in (by omega) (by omega)
  have t3 : w64 (A.uses + 1 + 1 + 1) = A.uses + 1 + 1 + 1 := w64_in (by omega) (by omega)
  have e1 := Pu.s0 (A := A) (x := ⟨p, k, 0, 0, opB h⟩) rfl o1
  have e2 := Pu.s1 (A := A.tick) (x := ⟨p, k, A.rawF k, 1, opB h⟩) rfl el o2
  have o3 : (A.tick.tick.setR (4 * w + opB h / 8).toNat (iand (A.rawF k) 131071)).rawOk k := by
    unfold Ar.rawOk at *; show 0 ≤ k ∧ k < ((A.raw.set _ _).length : Int); rw [List.length_set]; exact o1
  have hhd : (A.tick.tick.setR (4 * w + opB h / 8).toNat (iand (A.rawF k) 131071)).rawF k = A.rawF k := by
    rw [rawF_setR (A := A.tick.tick) o2, if_neg (by omega)]; rfl
  have e3 := Pu.s2y (A := A.tick.tick.setR (4 * w + opB h / 8).toNat (iand (A.rawF k) 131071)) (x := ⟨p, k, A.rawF k, 2, opB h⟩) rfl o3 hhd
  have ef : (A.tick.tick.setR (4 * w + opB h / 8).toNat (iand (A.rawF k) 131071)).tick.setR k.toNat (nextF (A.rawF k) (w64 (w64 (Int.tdiv (opB h) 8) + 1))) = A.pushed k (4 * w + opB h / 8) (opB h) := by
    unfold Ar.pushed Ar.setR Ar.tick
    simp only [t1, t2, t3, Ar.mk.injEq, true_and]
    omega
  have c1 : (Pu.mk p k 0 0 (opB h)).stepB A = false := by rw [← Pu.fin, (Prod.mk.inj e1).1]; rfl
  have c2 : (Pu.mk p k (A.rawF k) 1 (opB h)).stepB A.tick = false := by rw [← Pu.fin, (Prod.mk.inj e2).1]; rfl
  have c3 : (Pu.mk p k (A.rawF k) 2 (opB h)).stepB (A.tick.tick.setR (4 * w + opB h / 8).toNat (iand (A.rawF k) 131071)) = true := by rw [← Pu.fin, (Prod.mk.inj e3).1]; rfl
  have ne : newFe p who h = ⟨h, false, ⟨p, k, 0, 0, opB h⟩⟩ := by unfold newFe; rw [hh]
  have s1 : Fe.step ⟨h, false, ⟨p, k, 0, 0, opB h⟩⟩ A = (⟨h, false, ⟨p, k, A.rawF k, 1, opB h⟩⟩, A.tick) := by
    unfold Fe.step
    simp only [c1, Bool.false_eq_true, if_false]
    rw [(Prod.mk.inj e1).1, (Prod.mk.inj e1).2]
  have s2 : Fe.step ⟨h, false, ⟨p, k, A.rawF k, 1, opB h⟩⟩ A.tick = (⟨h, false, ⟨p, k, A.rawF k, 2, opB h⟩⟩, A.tick.tick.setR (4 * w + opB h / 8).toNat (iand (A.rawF k) 131071)) := by
    unfold Fe.step
    simp only [c2, Bool.false_eq_true, if_false]
    rw [(Prod.mk.inj e2).1, (Prod.mk.inj e2).2]
  have s3 : Fe.step ⟨h, false, ⟨p, k, A.rawF k, 2, opB h⟩⟩ (A.tick.tick.setR (4 * w + opB h / 8).toNat (iand (A.rawF k) 131071)) = (⟨h, true, ⟨p, k, A.rawF k, 3, opB h⟩⟩, (A.pushed k (4 * w + opB h / 8) (opB h)).diedF h) := by
    unfold Fe.step
    simp only [c3, Bool.false_eq_true, if_false, if_true]
    rw [(Prod.mk.inj e3).1, (Prod.mk.inj e3).2, ef]
  obtain ⟨g1, g2, g3, g4⟩ := X.give hwf (by omega) hs wh.1 wh.2 cn
  rw [hk] at g1 g2 g3 g4
  have off : Off p.carved 3 A ((A.pushed k (4 * w + opB h / 8) (opB h)).diedF h) := by
    have := (Off.pushed (c := p.carved) (b := opB h) hwf o1 o2 (by omega) (by omega)).trans (Off.diedF (c := p.carved) (pushed_wf hwf k (4 * w + opB h / 8) (opB h)) h)
    exact this
  have r : mFe.Runs (2 + 1) ⟨h, false, ⟨p, k, 0, 0, opB h⟩⟩ A ⟨h, true, ⟨p, k, A.rawF k, 3, opB h⟩⟩ ((A.pushed k (4 * w + opB h / 8) (opB h)).diedF h) := by
    refine Mch.Path.run (X := mFe) (k := 2) (n := 1) (.cons trivial s1 (Int.le_refl _) rfl (.cons trivial s2 (Int.le_refl _) rfl .nil)) (Mch.Runs.last trivial s3 ?_ rfl)
    rw [off.us]
    show A.uses + 3 ≤ w64 (w64 (w64 (A.uses + 1) + 1) + 1)
    rw [t1, t2, t3]; omega
  rw [← ne] at r
  exact ⟨_, _, ⟨r, off, by rw [hk]; exact g1, g2, g3, g4⟩⟩
end
end Go.Proofs.Ytfphgiipekkgdaa

