import Derived.Test.YtgnifhkjpekkdaaSaCArW
set_option linter.unusedVariables false
set_option maxRecDepth 20000
namespace Go.Proofs.Ytgnifhkjpekkdaa
open Go Go.Fw

theorem keys_append (l k : Bl) : keys (l ++ k) = keys l ++ keys k := by simp [keys]
theorem own_append (A : Ar) (l k : Bl) (G : Heap) : own A (l ++ k) G = own A l (putL k G) := by unfold own; rw [putL_append]

/-- Beside other blocks. -/
theorem Ok.split {I : List Nat} {G : Heap} {ks : List Nat} {k : Bl} (h : Ok I G (ks ++ keys k)) : Ok I (putL k G) ks ∧ Ok I G (keys k) := by
  obtain ⟨n1, n2, n3⟩ := List.nodup_append.1 h.nd
  refine ⟨⟨n1, fun b hb => h.out b (List.mem_append_left _ hb), fun b hb => ?_⟩, ⟨n2, fun b hb => h.out b (List.mem_append_right _ hb), fun b hb => h.no b (List.mem_append_right _ hb)⟩⟩
  rw [putL_out (fun hk => n3 b hb b hk rfl)]
  exact h.no b (List.mem_append_left _ hb)
theorem Ok.join {I : List Nat} {G : Heap} {ks : List Nat} {k : Bl} (h : Ok I (putL k G) ks) (h' : Ok I G (keys k)) : Ok I G (ks ++ keys k) := by
  refine ⟨List.nodup_append.2 ⟨h.nd, h'.nd, fun a ha b hb e => (putL_none (h.no a ha)).1 (e ▸ hb)⟩, fun b hb => ?_, fun b hb => ?_⟩
  · rcases List.mem_append.1 hb with e | e
    · exact h.out b e
    · exact h'.out b e
  · rcases List.mem_append.1 hb with e | e
    · exact (putL_none (h.no b e)).2
    · exact h'.no b e
theorem own_swap {I : List Nat} {A : Ar} {l k : Bl} {G : Heap} (ok : Ok I G (keys l ++ keys k)) : own A (l ++ k) G = own A (k ++ l) G := by
  rw [own_append, own_append]
  unfold own
  rw [putL_comm]
  intro b hb hk
  exact (List.nodup_append.1 ok.nd).2.2 b hb b hk rfl

/-- The first blocks behind the next ones. -/
theorem own_rot {I : List Nat} {A : Ar} {a b c : Bl} {G : Heap} (ok : Ok I G (keys (a ++ (b ++ c)))) : own A (a ++ (b ++ c)) G = own A (b ++ (a ++ c)) G ∧ Ok I G (keys (b ++ (a ++ c))) := by
  have hp : (keys (b ++ (a ++ c))).Perm (keys (a ++ (b ++ c))) := by
    simp only [keys_append]
    rw [← List.append_assoc, ← List.append_assoc]
    exact List.perm_append_comm.append_right _
  refine ⟨?_, ok.sub (hp.nodup_iff.2 ok.nd) fun x hx => hp.subset hx⟩
  unfold own
  rw [putL_append, putL_append, putL_append, putL_append, putL_comm]
  intro x hx hb
  have := ok.nd
  simp only [keys_append] at this
  exact (List.nodup_append.1 this).2.2 x hx x (List.mem_append_left _ hb) rfl

/-- What is made, beside what was. -/
theorem w_make {L : Hands} {R : Value → Heap → Prop} {A : Ar} {I : List Nat} {l : Bl} {G : Heap} {f : FuncId} {args : List Value} {sh : Sh} {k : sh.T → Tree} {J : Type} {bl : J → Bl} {val : J → sh.T}
    (h : ∀ G, SpecF Try.prog f args.toArray (own A [] G) fun v K => ∃ j, v = sh.toVal (val j) ∧ K = own A (bl j) G ∧ Ok I G (keys (bl j))) (ok : Ok I G (keys l))
    (hk : ∀ j, Ok I G (keys (bl j ++ l)) → wp Try.prog (k (val j)) L (own A (bl j ++ l) G) R) : wp Try.prog (.call f args sh k) L (own A l G) R := by
  refine wp_call_of (h (putL l G)) ?_
  rintro v K ⟨j, rfl, rfl, o⟩
  refine ⟨_, rfl, ?_⟩
  rw [← own_append]
  exact hk j (by rw [keys_append]; exact o.join ok)

/-- A call on the first blocks. -/
theorem w_sub {L : Hands} {R : Value → Heap → Prop} {A : Ar} {bl rest : Bl} {G : Heap} {f : FuncId} {args : List Value} {sh : Sh} {k : sh.T → Tree} {R0 : Value → Heap → Prop}
    (h : SpecF Try.prog f args.toArray (own A bl (putL rest G)) R0) (hk : ∀ v K, R0 v K → ∃ x, v = sh.toVal x ∧ wp Try.prog (k x) L K R) : wp Try.prog (.call f args sh k) L (own A (bl ++ rest) G) R := by
  rw [own_append]; exact wp_call_of h hk

/-- A machine: what it is in memory, what a step does. -/
structure Mch (M J : Type) where
  f : FuncId
  addr : J → Nat
  bl : M → J → Bl
  inv : M → Ar → Prop
  step : M → Ar → M × Ar
  fin : M → Bool

def Mch.ok {M J : Type} (X : Mch M J) : Prop := ∀ (I : List Nat) (A : Ar) (G : Heap) (m : M) (j : J), Aw I A → Ok I G (keys (X.bl m j)) → X.inv m A →
  SpecF Try.prog X.f #[.pointer (some ⟨X.addr j, 0, none⟩), .pointer (aI I)] (own A (X.bl m j) G) fun v K => ∃ j', v = .bool (X.fin (X.step m A).1) ∧ K = own (X.step m A).2 (X.bl (X.step m A).1 j') G ∧ X.addr j' = X.addr j ∧
    Ok I G (keys (X.bl (X.step m A).1 j')) ∧ Aw I (X.step m A).2

/-- Alone, to the end. -/
inductive Mch.Runs {M J : Type} (X : Mch M J) : Nat → M → Ar → M → Ar → Prop
  | one {m A} : X.inv m A → (X.step m A).2.uses ≤ w64 (A.uses + 1) → X.fin (X.step m A).1 = true → Runs X 1 m A (X.step m A).1 (X.step m A).2
  | more {n m A m' A'} : X.inv m A → (X.step m A).2.uses ≤ w64 (A.uses + 1) → X.fin (X.step m A).1 = false → Runs X n (X.step m A).1 (X.step m A).2 m' A' → Runs X (n + 1) m A m' A'

/-- How a call of Step through an interface goes. -/
def Mch.inv' {M J : Type} (X : Mch M J) (t : TypeId) : Prop := ∀ (q : Nat) (p : Option Addr), opS Try.prog (.call { callee := .invoke (.tmp 0) "Step", args := #[(.tmp 1)], argTypes := #[ty_p_arena_Arena] }) ty_bool [(.iface t (.pointer (some ⟨q, 0, none⟩))), (.pointer p)] =
    .pure (.enter X.f [.pointer (some ⟨q, 0, none⟩), .pointer p].toArray)
end Go.Proofs.Ytgnifhkjpekkdaa
