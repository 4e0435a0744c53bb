import Derived.Test.YtgnifhkjpekkdaaSaCMach
import Derived.Test.YtgnifhkjpekkdaaSaTrFree10
set_option linter.unusedVariables false
set_option maxRecDepth 20000
namespace Go.Proofs.Ytgnifhkjpekkdaa
open Go Go.Fw

theorem run10_go {M J : Type} {X : Mch M J} (hX : X.ok) {t : TypeId} (hinv : X.inv' t) {I : List Nat} {G : Heap} {n : Nat} {m m' : M} {A A' : Ar} (h : X.Runs n m A m' A') {L : Hands} :
    ∀ {i : Int} {b : Bool} {j : J} {R : Value → Heap → Prop}, (∀ j', Ok I G (keys (X.bl m' j')) → Aw I A' → X.addr j' = X.addr j → R (.bool true) (own A' (X.bl m' j') G)) → Aw I A → Ok I G (keys (X.bl m j)) → 0 ≤ i → i + n ≤ 100 →
      wp Try.prog (.loop 128 t_magpielaw10_run_L1_sh [(.bool b), (.int .i64 i)] (t_magpielaw10_run_L1 (aI I) (.iface t (.pointer (some ⟨X.addr j, 0, none⟩))))) L (own A (X.bl m j) G) R := by
  induction h with
  | @one m A hi hu hf =>
    intro i b j R hR hA ok h0 h1
    refine wp_loop_unroll (b, i, ()) rfl ?_
    rw [t_magpielaw10_run_L1]
    refine wp_true (ilt (by show i < 100; omega)) ?_
    refine w_Uses hA ?_
    refine act_enter (hinv _ _) ?_
    refine wp_call_of (hX I A G m j hA ok hi) ?_
    rintro v K ⟨j', rfl, rfl, ha, ok', hA'⟩
    refine ⟨true, by rw [hf], ?_⟩
    refine w_Uses hA' ?_
    refine wp_false (inlt hu) ?_
    exact wp_true rfl (wp_ret_of (hR j' ok' hA' ha))
  | @more n m A m' A' hi hu hf hr ih =>
    intro i b j R hR hA ok h0 h1
    refine wp_loop_unroll (b, i, ()) rfl ?_
    rw [t_magpielaw10_run_L1]
    refine wp_true (ilt (by show i < 100; omega)) ?_
    refine w_Uses hA ?_
    refine act_enter (hinv _ _) ?_
    refine wp_call_of (hX I A G m j hA ok hi) ?_
    rintro v K ⟨j', rfl, rfl, ha, ok', hA'⟩
    refine ⟨false, by rw [hf], ?_⟩
    refine w_Uses hA' ?_
    refine wp_false (inlt hu) (wp_false rfl (wp_again ?_))
    have e : w64 (i + 1) = i + 1 := w64_in (by omega) (by omega)
    rw [e, ← ha]
    exact ih (fun j2 k1 k2 k3 => hR j2 k1 k2 (k3.trans ha)) hA' ok' (by omega) (by omega)

theorem run10 {M J : Type} {X : Mch M J} (hX : X.ok) {t : TypeId} (hinv : X.inv' t) {I : List Nat} {G : Heap} {n : Nat} {m m' : M} {A A' : Ar} (h : X.Runs n m A m' A') (hn : n ≤ 100) {j : J} (hA : Aw I A) (ok : Ok I G (keys (X.bl m j))) :
    SpecF Try.prog f_magpielaw10_run #[.pointer (aI I), .iface t (.pointer (some ⟨X.addr j, 0, none⟩))] (own A (X.bl m j) G) fun v K => ∃ j', v = .bool true ∧ K = own A' (X.bl m' j') G ∧ Ok I G (keys (X.bl m' j')) ∧ Aw I A' ∧ X.addr j' = X.addr j := by
  refine t_magpielaw10_run_spec fun L => ?_
  unfold t_magpielaw10_run
  exact run10_go hX hinv h (fun j' a b c => ⟨j', rfl, rfl, a, b, c⟩) hA ok (Int.le_refl 0) (by omega)

theorem w_run10 {M J : Type} {X : Mch M J} (hX : X.ok) {t : TypeId} (hinv : X.inv' t) {I : List Nat} {G : Heap} {n : Nat} {m m' : M} {A A' : Ar} (h : X.Runs n m A m' A') (hn : n ≤ 100) {j : J} {rest : Bl} (hA : Aw I A) (ok : Ok I G (keys (X.bl m j ++ rest)))
    {L : Hands} {R : Value → Heap → Prop} {k : Bool → Tree} (hk : ∀ j', X.addr j' = X.addr j → Aw I A' → Ok I G (keys (X.bl m' j' ++ rest)) → wp Try.prog (k true) L (own A' (X.bl m' j' ++ rest) G) R) :
    wp Try.prog (.call f_magpielaw10_run [.pointer (aI I), .iface t (.pointer (some ⟨X.addr j, 0, none⟩))] (.one (.leaf .bool)) k) L (own A (X.bl m j ++ rest) G) R := by
  rw [keys_append] at ok
  obtain ⟨o1, o2⟩ := ok.split
  refine w_sub (run10 hX hinv h hn hA o1) ?_
  rintro v K ⟨j', rfl, rfl, ok', hA', ha⟩
  refine ⟨true, rfl, ?_⟩
  rw [← own_append]
  exact hk j' ha hA' (by rw [keys_append]; exact ok'.join o2)
end Go.Proofs.Ytgnifhkjpekkdaa
