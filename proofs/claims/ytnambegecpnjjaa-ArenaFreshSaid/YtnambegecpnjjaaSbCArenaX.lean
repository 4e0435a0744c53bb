import Derived.Test.YtnambegecpnjjaaSbPArena2
import Derived.Test.YtnambegecpnjjaaSbTrArenaX
set_option linter.unusedVariables false
set_option maxRecDepth 20000
namespace Go.Proofs.Ytnambegecpnjjaa
open Go Go.Fw

def Ar.swapF (A : Ar) (h off v w : Int) : Ar := if A.inOk h off then if A.words.getD (pos h off) 0 = v then A.tick.setW (pos h off) w else A.tick else A.tick.bad
def Ar.swapFb (A : Ar) (h off v : Int) : Bool := decide (A.inOk h off ∧ A.words.getD (pos h off) 0 = v)
theorem swapF_wf {A : Ar} (hA : A.wf) (h off v w : Int) : (A.swapF h off v w).wf := by
  unfold Ar.swapF; split
  · split; exact setW_wf (tick_wf hA) _ _; exact tick_wf hA
  · exact bad_wf (tick_wf hA)
theorem swapF_alike (A : Ar) (h off v w : Int) : Ar.Alike A (A.swapF h off v w) := by unfold Ar.swapF; split <;> (try split) <;> exact ⟨rfl, rfl, rfl, rfl, rfl, rfl, rfl⟩

theorem word_cell {A : Ar} (hA : A.wf) {h off : Int} (hi : A.inOk h off) : (ints A.words)[pos h off]? = some (.int .i64 (A.words.getD (pos h off) 0)) := ints_getD (pos_lt hA hi)

theorem Swap_det {A : Ar} (hA : A.wf) (h off v w : Int) (H : Heap) : Det Try.prog f_arena_Arena_Swap [pA A, .int .i64 h, .int .i64 off, .int .i64 v, .int .i64 w] (A.put H) (.bool (A.swapFb h off v)) ((A.swapF h off v w).put H) := by
  refine t_arena_Arena_Swap_spec fun L => ?_
  unfold t_arena_Arena_Swap Ar.swapF Ar.swapFb
  by_cases hi : A.inOk h off
  · rw [if_pos hi]
    refine wp_call_det (x := some ⟨A.w, pos h off, none⟩) (in_ok hA hi H) ?_
    by_cases hv : A.words.getD (pos h off) 0 = v
    · rw [if_pos hv, decide_eq_true ⟨hi, hv⟩]
      refine wp_call_det (x := true) (swap_yes (Ar.at_w (A := A.tick) hA.nd H) (by rw [← hv]; exact word_cell hA hi)) ?_
      exact wp_ret_of ⟨rfl, set_words (A := A.tick) hA.nd _ _ _⟩
    · rw [if_neg hv, decide_eq_false (fun h => hv h.2)]
      refine wp_call_det (x := false) (swap_no (x := A.words.getD (pos h off) 0) ?_ hv) (wp_ret_of ⟨rfl, rfl⟩)
      exact (Heap.cell_of (Ar.at_w (A := A.tick) hA.nd H) _).trans (word_cell hA hi)
  · rw [if_neg hi, decide_eq_false (fun h => hi h.1)]
    refine wp_call_det (x := none) (in_bad hA hi H) ?_
    exact wp_call_det (x := false) (swap_none _ _ _) (wp_ret_of ⟨rfl, rfl⟩)

theorem add_none (v : Int) (H : Heap) : Det Try.prog f_arena_add [.pointer none, .int .i64 v] H (.int .i64 0) H := by
  refine t_arena_add_spec fun L => ?_
  unfold t_arena_add
  refine wp_call_det (load_none _) ?_
  exact wp_call_det (x := ()) (store_none _ _) (wp_ret_of ⟨rfl, rfl⟩)

theorem add_some {b n T : Nat} {c : Array Value} {u v : Int} {H : Heap} (hb : H b = some (.cells c T (0, 0))) (hn : c[n]? = some (.int .i64 u)) :
    Det Try.prog f_arena_add [.pointer (some ⟨b, n, none⟩), .int .i64 v] H (.int .i64 u) (H.set b (.cells (c.setIfInBounds n (.int .i64 (w64 (u + v)))) T (0, 0))) := by
  refine t_arena_add_spec fun L => ?_
  unfold t_arena_add
  refine wp_call_det (load_some (x := u) ((Heap.cell_of hb _).trans hn)) ?_
  exact wp_call_det (x := ()) (store_some hb hn) (wp_ret_of ⟨rfl, rfl⟩)

theorem Add_det {A : Ar} (hA : A.wf) (h off v : Int) (H : Heap) : Det Try.prog f_arena_Arena_Add [pA A, .int .i64 h, .int .i64 off, .int .i64 v] (A.put H) (.int .i64 (A.loadF h off)) ((A.storeF h off (w64 (A.loadF h off + v))).put H) := by
  refine t_arena_Arena_Add_spec fun L => ?_
  unfold t_arena_Arena_Add Ar.storeF Ar.loadF
  by_cases hi : A.inOk h off
  · rw [if_pos hi, if_pos hi]
    refine wp_call_det (x := some ⟨A.w, pos h off, none⟩) (in_ok hA hi H) ?_
    refine wp_call_det (x := A.words.getD (pos h off) 0) (add_some (Ar.at_w (A := A.tick) hA.nd H) (word_cell hA hi)) ?_
    exact wp_ret_of ⟨rfl, set_words (A := A.tick) hA.nd _ _ _⟩
  · rw [if_neg hi, if_neg hi]
    refine wp_call_det (x := none) (in_bad hA hi H) ?_
    exact wp_call_det (x := (0 : Int)) (add_none _ _) (wp_ret_of ⟨rfl, rfl⟩)

theorem AddRaw_det {A : Ar} (hA : A.wf) (i v : Int) (H : Heap) : Det Try.prog f_arena_Arena_AddRaw [pA A, .int .i64 i, .int .i64 v] (A.put H) (.int .i64 (A.rawF i)) ((A.storeR i (w64 (A.rawF i + v))).put H) := by
  refine t_arena_Arena_AddRaw_spec fun L => ?_
  unfold t_arena_Arena_AddRaw Ar.storeR Ar.rawF
  by_cases hi : A.rawOk i
  · rw [if_pos hi, if_pos hi]
    refine wp_call_det (x := some ⟨A.r, i.toNat, none⟩) (at_ok hA.nd hi H) ?_
    refine wp_call_det (x := A.raw.getD i.toNat 0) (add_some (Ar.at_r (A := A.tick) hA.nd H) (raw_cell hA.nd hi H)) ?_
    exact wp_ret_of ⟨rfl, set_raw (A := A.tick) hA.nd _ _ _⟩
  · rw [if_neg hi, if_neg hi]
    refine wp_call_det (x := none) (at_bad hA.nd hi H) ?_
    exact wp_call_det (x := (0 : Int)) (add_none _ _) (wp_ret_of ⟨rfl, rfl⟩)

end Go.Proofs.Ytnambegecpnjjaa
