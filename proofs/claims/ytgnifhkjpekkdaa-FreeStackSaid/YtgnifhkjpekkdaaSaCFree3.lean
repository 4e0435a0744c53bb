import Derived.Test.YtgnifhkjpekkdaaSaCFree2
import Derived.Test.YtgnifhkjpekkdaaSaPArena
set_option linter.unusedVariables false
set_option maxRecDepth 20000
namespace Go.Proofs.Ytgnifhkjpekkdaa
open Go Go.Fw

/-- A step of a machine: what it answers, and what it leaves. -/
structure Stp (f : FuncId) (q : Nat) (A : Ar) (G : Heap) (b : Bool) (B : Ar) (K : Heap) : Prop where
  det : Det Try.prog f [.pointer (some ⟨q, 0, none⟩), pA A] (A.put G) (.bool b) (B.put K)
  al : Ar.Alike A B
  us : B.uses ≤ w64 (A.uses + 1)

inductive Runs (f : FuncId) (q : Nat) : Nat → Ar → Heap → Ar → Heap → Prop
  | one {A G B K} : Stp f q A G true B K → Runs f q 1 A G B K
  | more {n A G B K C M} : Stp f q A G false B K → Runs f q n B K C M → Runs f q (n + 1) A G C M

/-- The raw words behind a push that nobody falls into. -/
def Ar.pushed (A : Ar) (hd lk base : Int) : Ar :=
  { A with raw := (A.raw.set lk.toNat (iand (A.rawF hd) 131071)).set hd.toNat (nextF (A.rawF hd) (w64 (w64 (Int.tdiv base 8) + 1))), uses := A.uses + 3 }

theorem push_runs {A : Ar} (hA : A.wf) {x : Pu} {q0 q1 : Nat} {G : Heap} (h0 : q0 ∉ A.ids) (h1 : q1 ∉ A.ids) (hn : q0 ≠ q1) (hg : G q0 = some (pushObj q1)) (hx : G q1 = some x.obj) (ha : x.at' = 0) {lk : Int} (hlk : w64 (x.pl.links + w64 (Int.tdiv x.base 8)) = lk)
    (o1 : A.rawOk x.head) (o2 : A.rawOk lk) (hne : x.head ≠ lk) (hu : 0 ≤ A.uses ∧ A.uses ≤ 1000000000) :
    ∃ y : Pu, y.at' = 3 ∧ y.base = x.base ∧ Runs f_free_Push_Step q0 3 A G (A.pushed x.head lk x.base) (G.set q1 y.obj) := by
  have t1 : w64 (A.uses + 1) = A.uses + 1 := w64_in (by omega) (by omega)
  have t2 : w64 (A.uses + 1 + 1) = A.uses + 1 + 1 := w64_in (by omega) (by omega)
  have t3 : w64 (A.uses + 1 + 1 + 1) = A.uses + 1 + 1 + 1 := w64_in (by omega) (by omega)
  -- the first step
  have a1 : x.stepA A = A.tick := by unfold Pu.stepA; rw [if_neg (by omega), if_neg (by omega), if_neg (by omega), touchR_yes o1]
  have m1 : x.stepM A = { x with was := A.rawF x.head, at' := 1 } := by unfold Pu.stepM; rw [if_neg (by omega), if_neg (by omega), if_neg (by omega)]
  have b1 : x.stepB A = false := by unfold Pu.stepB; rw [if_neg (by omega), decide_eq_false (by omega)]
  have d1 := Push_det hA x h0 h1 hg hx
  rw [a1, m1, b1] at d1
  -- the second one
  have w1 := tick_wf hA
  have o2' : A.tick.rawOk lk := o2
  have hx1 : (G.set q1 (Pu.obj { x with was := A.rawF x.head, at' := 1 })) q1 = some (Pu.obj { x with was := A.rawF x.head, at' := 1 }) := Heap.set_same _ _ _
  have hg1 : (G.set q1 (Pu.obj { x with was := A.rawF x.head, at' := 1 })) q0 = some (pushObj q1) := by rw [Heap.set_ne _ _ hn]; exact hg
  have d2 := Push_det w1 { x with was := A.rawF x.head, at' := 1 } h0 h1 hg1 hx1
  have a2 : Pu.stepA { x with was := A.rawF x.head, at' := 1 } A.tick = A.tick.tick.setR lk.toNat (iand (A.rawF x.head) 131071) := by
    unfold Pu.stepA; rw [if_pos rfl]
    show A.tick.storeR (w64 (x.pl.links + w64 (Int.tdiv x.base 8))) _ = _
    rw [hlk]; unfold Ar.storeR; rw [if_pos o2']
  have m2 : Pu.stepM { x with was := A.rawF x.head, at' := 1 } A.tick = { x with was := A.rawF x.head, at' := 2 } := by unfold Pu.stepM; rw [if_pos rfl]
  have b2 : Pu.stepB { x with was := A.rawF x.head, at' := 1 } A.tick = false := rfl
  rw [a2, m2, b2, Heap.set_set] at d2
  -- the third one
  have w2 : (A.tick.tick.setR lk.toNat (iand (A.rawF x.head) 131071)).wf := setR_wf (tick_wf w1) _ _
  have hx2 : (G.set q1 (Pu.obj { x with was := A.rawF x.head, at' := 2 })) q1 = some (Pu.obj { x with was := A.rawF x.head, at' := 2 }) := Heap.set_same _ _ _
  have hg2 : (G.set q1 (Pu.obj { x with was := A.rawF x.head, at' := 2 })) q0 = some (pushObj q1) := by rw [Heap.set_ne _ _ hn]; exact hg
  have d3 := Push_det w2 { x with was := A.rawF x.head, at' := 2 } h0 h1 hg2 hx2
  have o3 : (A.tick.tick.setR lk.toNat (iand (A.rawF x.head) 131071)).rawOk x.head := by
    unfold Ar.rawOk at *; show 0 ≤ x.head ∧ x.head < ((A.raw.set _ _).length : Int); rw [List.length_set]; exact o1
  have hhd : (A.tick.tick.setR lk.toNat (iand (A.rawF x.head) 131071)).raw.getD x.head.toNat 0 = A.rawF x.head := by
    show (A.raw.set lk.toNat _).getD x.head.toNat 0 = _
    unfold Ar.rawF; rw [if_pos o1, List.getD_eq_getElem?_getD, List.getD_eq_getElem?_getD, List.getElem?_set, if_neg (by unfold Ar.rawOk at o1 o2; omega)]
  have sb : (A.tick.tick.setR lk.toNat (iand (A.rawF x.head) 131071)).swapRb x.head (A.rawF x.head) = true := decide_eq_true ⟨o3, hhd⟩
  have b3 : Pu.stepB { x with was := A.rawF x.head, at' := 2 } (A.tick.tick.setR lk.toNat (iand (A.rawF x.head) 131071)) = true := sb
  have m3 : Pu.stepM { x with was := A.rawF x.head, at' := 2 } (A.tick.tick.setR lk.toNat (iand (A.rawF x.head) 131071)) = { x with was := A.rawF x.head, at' := 3 } := by
    unfold Pu.stepM; rw [if_neg (by show ¬ (2 : Int) = 1; decide), if_pos rfl]; show Pu.mk x.pl x.head (A.rawF x.head) (if _ = true then 3 else 0) x.base = _; rw [sb]; rfl
  have a3 : Pu.stepA { x with was := A.rawF x.head, at' := 2 } (A.tick.tick.setR lk.toNat (iand (A.rawF x.head) 131071)) = A.pushed x.head lk x.base := by
    unfold Pu.stepA; rw [if_neg (by show ¬ (2 : Int) = 1; decide), if_pos rfl]
    show (A.tick.tick.setR lk.toNat (iand (A.rawF x.head) 131071)).swapR x.head (A.rawF x.head) _ = _
    unfold Ar.swapR; rw [if_pos o3, if_pos hhd]
    unfold Ar.pushed Ar.setR Ar.tick
    simp only [t1, t2, t3, Ar.mk.injEq, true_and]
    omega
  rw [a3, m3, b3, Heap.set_set] at d3
  refine ⟨{ x with was := A.rawF x.head, at' := 3 }, rfl, rfl, ?_⟩
  refine .more ⟨d1, ⟨rfl, rfl, rfl, rfl, rfl, rfl, rfl⟩, Int.le_refl _⟩ (.more ⟨d2, ⟨rfl, rfl, rfl, rfl, rfl, rfl, rfl⟩, Int.le_refl _⟩ (.one ⟨d3, ⟨rfl, rfl, rfl, rfl, rfl, rfl, rfl⟩, ?_⟩))
  show A.uses + 3 ≤ w64 (w64 (w64 (A.uses + 1) + 1) + 1)
  rw [t1, t2, t3]; omega

/-- What stands behind a pop of one that is there. -/
def Ar.popped (A : Ar) (hd lk : Int) : Ar := { A with raw := A.raw.set hd.toNat (nextF (A.rawF hd) (A.rawF lk)), uses := A.uses + 3 }

theorem pop_none {A : Ar} (hA : A.wf) {x : Po} {q0 q1 : Nat} {G : Heap} (h0 : q0 ∉ A.ids) (h1 : q1 ∉ A.ids) (hg : G q0 = some (popObj q1)) (hx : G q1 = some x.obj) (ha : x.at' = 0)
    (o1 : A.rawOk x.head) (hf : iand (A.rawF x.head) 131071 = 0) (hu : 0 ≤ A.uses ∧ A.uses ≤ 1000000000) :
    Runs f_free_Pop_Step q0 1 A G { A with uses := A.uses + 1 } (G.set q1 (Po.obj { x with was := A.rawF x.head, at' := 3 })) := by
  have t1 : w64 (A.uses + 1) = A.uses + 1 := w64_in (by omega) (by omega)
  have a1 : x.stepA A = { A with uses := A.uses + 1 } := by unfold Po.stepA; rw [if_neg (by omega), if_neg (by omega), if_neg (by omega), touchR_yes o1]; unfold Ar.tick; rw [t1]
  have m1 : x.stepM A = { x with was := A.rawF x.head, at' := 3 } := by unfold Po.stepM; rw [if_neg (by omega), if_neg (by omega), if_neg (by omega), if_pos hf]
  have b1 : x.stepB A = true := by unfold Po.stepB; rw [if_neg (by omega), if_neg (by omega), if_neg (by omega), decide_eq_true hf]
  have d1 := Pop_det hA x h0 h1 hg hx
  rw [a1, m1, b1] at d1
  exact .one ⟨d1, ⟨rfl, rfl, rfl, rfl, rfl, rfl, rfl⟩, by rw [t1]; exact Int.le_refl _⟩

theorem pop_some {A : Ar} (hA : A.wf) {x : Po} {q0 q1 : Nat} {G : Heap} (h0 : q0 ∉ A.ids) (h1 : q1 ∉ A.ids) (hn : q0 ≠ q1) (hg : G q0 = some (popObj q1)) (hx : G q1 = some x.obj) (ha : x.at' = 0) {f lk : Int}
    (o1 : A.rawOk x.head) (hf : iand (A.rawF x.head) 131071 = f) (hf0 : f ≠ 0) (hlk : w64 (w64 (x.pl.links + f) - 1) = lk) (o2 : A.rawOk lk) (hu : 0 ≤ A.uses ∧ A.uses ≤ 1000000000) :
    ∃ y : Po, y.at' = 3 ∧ y.base = w64 (w64 (f - 1) * 8) ∧ y.ok = true ∧ Runs f_free_Pop_Step q0 3 A G (A.popped x.head lk) (G.set q1 y.obj) := by
  have t1 : w64 (A.uses + 1) = A.uses + 1 := w64_in (by omega) (by omega)
  have t2 : w64 (A.uses + 1 + 1) = A.uses + 1 + 1 := w64_in (by omega) (by omega)
  have t3 : w64 (A.uses + 1 + 1 + 1) = A.uses + 1 + 1 + 1 := w64_in (by omega) (by omega)
  have a1 : x.stepA A = A.tick := by unfold Po.stepA; rw [if_neg (by omega), if_neg (by omega), if_neg (by omega), touchR_yes o1]
  have m1 : x.stepM A = { x with was := A.rawF x.head, at' := 1 } := by unfold Po.stepM; rw [if_neg (by omega), if_neg (by omega), if_neg (by omega), if_neg (by omega)]
  have b1 : x.stepB A = false := by unfold Po.stepB; rw [if_neg (by omega), if_neg (by omega), if_neg (by omega), decide_eq_false (by omega)]
  have d1 := Pop_det hA x h0 h1 hg hx
  rw [a1, m1, b1] at d1
  have w1 := tick_wf hA
  have o2' : A.tick.rawOk lk := o2
  have hx1 : (G.set q1 (Po.obj { x with was := A.rawF x.head, at' := 1 })) q1 = some (Po.obj { x with was := A.rawF x.head, at' := 1 }) := Heap.set_same _ _ _
  have hg1 : (G.set q1 (Po.obj { x with was := A.rawF x.head, at' := 1 })) q0 = some (popObj q1) := by rw [Heap.set_ne _ _ hn]; exact hg
  have d2 := Pop_det w1 { x with was := A.rawF x.head, at' := 1 } h0 h1 hg1 hx1
  have a2 : Po.stepA { x with was := A.rawF x.head, at' := 1 } A.tick = A.tick.tick := by
    unfold Po.stepA; rw [if_pos rfl]
    show A.tick.touchR (w64 (w64 (x.pl.links + iand (A.rawF x.head) 131071) - 1)) = _
    rw [hf, hlk, touchR_yes o2']
  have m2 : Po.stepM { x with was := A.rawF x.head, at' := 1 } A.tick = { x with was := A.rawF x.head, at' := 2, link := A.rawF lk } := by
    unfold Po.stepM; rw [if_pos rfl]
    show Po.mk x.pl x.head (A.rawF x.head) 2 (A.tick.rawF (w64 (w64 (x.pl.links + iand (A.rawF x.head) 131071) - 1))) x.base x.ok = _
    rw [hf, hlk]; rfl
  have b2 : Po.stepB { x with was := A.rawF x.head, at' := 1 } A.tick = false := rfl
  rw [a2, m2, b2, Heap.set_set] at d2
  have w2 : A.tick.tick.wf := tick_wf w1
  have hx2 : (G.set q1 (Po.obj { x with was := A.rawF x.head, at' := 2, link := A.rawF lk })) q1 = some (Po.obj { x with was := A.rawF x.head, at' := 2, link := A.rawF lk }) := Heap.set_same _ _ _
  have hg2 : (G.set q1 (Po.obj { x with was := A.rawF x.head, at' := 2, link := A.rawF lk })) q0 = some (popObj q1) := by rw [Heap.set_ne _ _ hn]; exact hg
  have d3 := Pop_det w2 { x with was := A.rawF x.head, at' := 2, link := A.rawF lk } h0 h1 hg2 hx2
  have o3 : A.tick.tick.rawOk x.head := o1
  have hhd : A.tick.tick.raw.getD x.head.toNat 0 = A.rawF x.head := by unfold Ar.rawF; rw [if_pos o1]; rfl
  have sb : A.tick.tick.swapRb x.head (A.rawF x.head) = true := decide_eq_true ⟨o3, hhd⟩
  have b3 : Po.stepB { x with was := A.rawF x.head, at' := 2, link := A.rawF lk } A.tick.tick = true := sb
  have m3 : Po.stepM { x with was := A.rawF x.head, at' := 2, link := A.rawF lk } A.tick.tick = { x with was := A.rawF x.head, at' := 3, link := A.rawF lk, base := w64 (w64 (f - 1) * 8), ok := true } := by
    unfold Po.stepM; rw [if_neg (by show ¬ (2 : Int) = 1; decide), if_pos rfl]
    show (if A.tick.tick.swapRb x.head (A.rawF x.head) = true then Po.mk x.pl x.head (A.rawF x.head) 3 (A.rawF lk) (w64 (w64 (iand (A.rawF x.head) 131071 - 1) * 8)) true else _) = _
    rw [sb, hf]; rfl
  have a3 : Po.stepA { x with was := A.rawF x.head, at' := 2, link := A.rawF lk } A.tick.tick = A.popped x.head lk := by
    unfold Po.stepA; rw [if_neg (by show ¬ (2 : Int) = 1; decide), if_pos rfl]
    show A.tick.tick.swapR x.head (A.rawF x.head) _ = _
    unfold Ar.swapR; rw [if_pos o3, if_pos hhd]
    unfold Ar.popped Ar.setR Ar.tick
    simp only [t1, t2, t3, Ar.mk.injEq, true_and]
    omega
  rw [a3, m3, b3, Heap.set_set] at d3
  refine ⟨{ x with was := A.rawF x.head, at' := 3, link := A.rawF lk, base := w64 (w64 (f - 1) * 8), ok := true }, rfl, rfl, rfl, ?_⟩
  refine .more ⟨d1, ⟨rfl, rfl, rfl, rfl, rfl, rfl, rfl⟩, Int.le_refl _⟩ (.more ⟨d2, ⟨rfl, rfl, rfl, rfl, rfl, rfl, rfl⟩, Int.le_refl _⟩ (.one ⟨d3, ⟨rfl, rfl, rfl, rfl, rfl, rfl, rfl⟩, ?_⟩))
  show A.uses + 3 ≤ w64 (w64 (w64 (A.uses + 1) + 1) + 1)
  rw [t1, t2, t3]; omega

theorem mask17 (x : Int) : iand x 131071 = x % 131072 := iand_mask x 17 (by omega)

theorem nextF_eq {h f : Int} (h0 : 0 ≤ h) (h1 : h < 4611686018427387904) (f0 : 0 ≤ f) (f1 : f < 131072) : nextF h f = (h / 131072 + 1) * 131072 + f := by
  unfold nextF
  have e1 : Int.fdiv h (2 ^ 17) = h / 131072 := by rw [Int.fdiv_eq_ediv_of_nonneg _ (by decide)]; rfl
  rw [e1, w64_in (x := h / 131072 + 1) (by omega) (by omega)]
  have e2 : (h / 131072 + 1) * 2 ^ 17 = (h / 131072 + 1) * 131072 := rfl
  rw [e2, w64_in (by omega) (by omega)]
  obtain ⟨k, hk⟩ := Int.eq_ofNat_of_zero_le (show 0 ≤ h / 131072 + 1 by omega)
  obtain ⟨g, rfl⟩ := Int.eq_ofNat_of_zero_le f0
  rw [hk]
  have e3 : ((k : Int) * 131072) = ((2 ^ 17 * k : Nat) : Int) := by omega
  rw [e3, ior_nat (by omega) (by omega), ← Nat.two_pow_add_eq_or_of_lt (by omega)]
  omega
end Go.Proofs.Ytgnifhkjpekkdaa
