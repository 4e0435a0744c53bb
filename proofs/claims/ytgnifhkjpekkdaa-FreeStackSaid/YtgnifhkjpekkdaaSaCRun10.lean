import Derived.Test.YtgnifhkjpekkdaaSaCFree3
import Derived.Test.YtgnifhkjpekkdaaSaTrFree10
set_option linter.unusedVariables false
set_option maxRecDepth 20000
namespace Go.Proofs.Ytgnifhkjpekkdaa
open Go Go.Fw

theorem run_go {f : FuncId} {t : TypeId} {q : Nat} (hinv : ∀ p, opS Try.prog (.call { callee := .invoke (.tmp 0) "Step", args := #[(.tmp 1)], argTypes := #[ty_p_arena_Arena] }) ty_bool [(.iface t (.pointer (some ⟨q, 0, none⟩))), (.pointer p)] =
    .pure (.enter f [.pointer (some ⟨q, 0, none⟩), .pointer p].toArray)) {n : Nat} {A B : Ar} {G K : Heap} (h : Runs f q n A G B K) {L : Hands} {R : Value → Heap → Prop} (hR : R (.bool true) (B.put K)) :
    ∀ {i : Int} {b : Bool} {p : Option Addr}, .pointer p = pA A → 0 ≤ i → i + n ≤ 100 → wp Try.prog (.loop 128 t_magpielaw10_run_L1_sh [(.bool b), (.int .i64 i)] (t_magpielaw10_run_L1 p (.iface t (.pointer (some ⟨q, 0, none⟩))))) L (A.put G) R := by
  induction h with
  | @one A G B K hs =>
    intro i b p hp h0 h1
    refine wp_loop_unroll (b, i, ()) rfl ?_
    rw [t_magpielaw10_run_L1]
    refine wp_true (ilt (by show i < 100; omega)) ?_
    refine wp_call_det (Uses_at hp rfl _) ?_
    refine act_enter (hinv _) ?_
    refine wp_call_det (x := true) (by rw [hp]; exact hs.det) ?_
    refine wp_call_det (Uses_at (A := B) (hp.trans (pA_alike hs.al).symm) rfl _) ?_
    refine wp_false (inlt hs.us) ?_
    exact wp_true rfl (wp_ret_of hR)
  | @more n A G B K C M hs hr ih =>
    intro i b p hp h0 h1
    refine wp_loop_unroll (b, i, ()) rfl ?_
    rw [t_magpielaw10_run_L1]
    refine wp_true (ilt (by show i < 100; omega)) ?_
    refine wp_call_det (Uses_at hp rfl _) ?_
    refine act_enter (hinv _) ?_
    refine wp_call_det (x := false) (by rw [hp]; exact hs.det) ?_
    refine wp_call_det (Uses_at (A := B) (hp.trans (pA_alike hs.al).symm) rfl _) ?_
    refine wp_false (inlt hs.us) (wp_false rfl (wp_again ?_))
    have e : w64 (i + 1) = i + 1 := w64_in (by omega) (by omega)
    rw [e]
    exact ih hR (hp.trans (pA_alike hs.al).symm) (by omega) (by omega)

theorem run_det {f : FuncId} {t : TypeId} {q : Nat} (hinv : ∀ p, opS Try.prog (.call { callee := .invoke (.tmp 0) "Step", args := #[(.tmp 1)], argTypes := #[ty_p_arena_Arena] }) ty_bool [(.iface t (.pointer (some ⟨q, 0, none⟩))), (.pointer p)] =
    .pure (.enter f [.pointer (some ⟨q, 0, none⟩), .pointer p].toArray)) {n : Nat} {A B : Ar} {G K : Heap} (h : Runs f q n A G B K) (hn : n ≤ 100) {p : Option Addr} (hp : .pointer p = pA A) :
    Det Try.prog f_magpielaw10_run [.pointer p, .iface t (.pointer (some ⟨q, 0, none⟩))] (A.put G) (.bool true) (B.put K) := by
  refine t_magpielaw10_run_spec (p1 := (.iface t (.pointer (some ⟨q, 0, none⟩)))) fun L => ?_
  unfold t_magpielaw10_run
  exact run_go hinv h ⟨rfl, rfl⟩ hp (Int.le_refl 0) (by omega)

end Go.Proofs.Ytgnifhkjpekkdaa
