/- Texts of this claim, one behind the other. -/
import Derived.Test.YtfphgiipekkgdaaB0
set_option linter.unusedSimpArgs false
set_option linter.unusedVariables false
set_option linter.unusedVariables false
set_option maxRecDepth 20000
namespace Go.Proofs.Ytfphgiipekkgdaa
open Go Go.Fw

/-- A step of a machine: what it answers, and what it leaves. -/
structure Stp (f : FuncId) (q : Nat) (A : Ar) (G : Heap) (b : Bool) (B : Ar) (K : Heap) : Prop where
  det : Det Try.prog f [.pointer (some ⟨q, 0, none⟩), pA A] (A.put G) (.bool b) (B.put K)
  al : Ar.Alike A B
  us : B.uses ≤ w64 (A.uses + 1)

inductive Runs (f : FuncId) (q : Nat) : Nat → Ar → Heap → Ar → Heap → Prop
  | one {A G B K} : Stp f q A G true B K → Runs f q 1 A G B K
  | more {n A G B K C M} : Stp f q A G false B K → Runs f q n B K C M → Runs f q (n + 1) A G C M

/-- The raw words behind a push that nobody falls into. -/
def Ar.pushed (A : Ar) (hd lk base : Int) : Ar :=
  { A with raw := (A.raw.set lk.toNat (iand (A.rawF hd) 131071)).set hd.toNat (nextF (A.rawF hd) (w64 (w64 (Int.tdiv base 8) + 1))), uses := A.uses + 3 }

theorem push_runs {A : Ar} (hA : A.wf) {x : Pu} {q0 q1 : Nat} {G : Heap} (h0 : q0 ∉ A.ids) (h1 : q1 ∉ A.ids) (hn : q0 ≠ q1) (hg : G q0 = some (pushObj q1)) (hx : G q1 = some x.obj) (ha : x.at' = 0) {lk : Int} (hlk : w64 (x.pl.links + w64 (Int.tdiv x.base 8)) = lk)
    (o1 : A.rawOk x.head) (o2 : A.rawOk lk) (hne : x.head ≠ lk) (hu : 0 ≤ A.uses ∧ A.uses ≤ 1000000000) :
    ∃ y : Pu, y.at' = 3 ∧ y.base = x.base ∧ Runs f_free_Push_Step q0 3 A G (A.pushed x.head lk x.base) (G.set q1 y.obj) := by
  have t1 : w64 (A.uses + 1) = A.uses + 1 := w64_in (by omega) (by omega)
  have t2 : w64 (A.uses + 1 + 1) = A.uses + 1 + 1 := w64_in (by omega) (by omega)
  have t3 : w64 (A.uses + 1 + 1 + 1) = A.uses + 1 + 1 + 1 := w64_in (by omega) (by omega)
  -- the first step
  have a1 : x.stepA A = A.tick := by unfold Pu.stepA; rw [if_neg (by omega), if_neg (by omega), if_neg (by omega), touchR_yes o1]
  have m1 : x.stepM A = { x with was := A.rawF x.head, at' := 1 } := by unfold Pu.stepM; rw [if_neg (by omega), if_neg (by omega), if_neg (by omega)]
  have b1 : x.stepB A = false := by unfold Pu.stepB; rw [if_neg (by omega), decide_eq_false (by omega)]
  have d1 := Push_det hA x h0 h1 hg hx
  rw [a1, m1, b1] at d1
  -- the second one
  have w1 := tick_wf hA
  have o2' : A.tick.rawOk lk := o2
  have hx1 : (G.set q1 (Pu.obj { x with was := A.rawF x.head, at' := 1 })) q1 = some (Pu.obj { x with was := A.rawF x.head, at' := 1 }) := Heap.set_same _ _ _
  have hg1 : (G.set q1 (Pu.obj { x with was := A.rawF x.head, at' := 1 })) q0 = some (pushObj q1) := by rw [Heap.set_ne _ _ hn]; exact hg
  have d2 := Push_det w1 { x with was := A.rawF x.head, at' := 1 } h0 h1 hg1 hx1
  have a2 : Pu.stepA { x with was := A.rawF x.head, at' := 1 } A.tick = A.tick.tick.setR lk.toNat (iand (A.rawF x.head) 131071) := by
    unfold Pu.stepA; rw [if_pos rfl]
    show A.tick.storeR (w64 (x.pl.links + w64 (Int.tdiv x.base 8))) _ = _
    rw [hlk]; unfold Ar.storeR; rw [if_pos o2']
  have m2 : Pu.stepM { x with was := A.rawF x.head, at' := 1 } A.tick = { x with was := A.rawF x.head, at' := 2 } := by unfold Pu.stepM; rw [if_pos rfl]
  have b2 : Pu.stepB { x with was := A.rawF x.head, at' := 1 } A.tick = false := rfl
  rw [a2, m2, b2, Heap.set_set] at d2
  -- the third one
  have w2 : (A.tick.tick.setR lk.toNat (iand (A.rawF x.head) 131071)).wf := setR_wf (tick_wf w1) _ _
  have hx2 : (G.set q1 (Pu.obj { x with was := A.rawF x.head, at' := 2 })) q1 = some (Pu.obj { x with was := A.rawF x.head, at' := 2 }) := Heap.set_same _ _ _
  have hg2 : (G.set q1 (Pu.obj { x with was := A.rawF x.head, at' := 2 })) q0 = some (pushObj q1) := by rw [Heap.set_ne _ _ hn]; exact hg
  have d3 := Push_det w2 { x with was := A.rawF x.head, at' := 2 } h0 h1 hg2 hx2
  have o3 : (A.tick.tick.setR lk.toNat (iand (A.rawF x.head) 131071)).rawOk x.head := by
    unfold Ar.rawOk at *; show 0 ≤ x.head ∧ x.head < ((A.raw.set _ _).length : Int); rw [List.length_set]; exact o1
  have hhd : (A.tick.tick.setR lk.toNat (iand (A.rawF x.head) 131071)).raw.getD x.head.toNat 0 = A.rawF x.head := by
    show (A.raw.set lk.toNat _).getD x.head.toNat 0 = _
    unfold Ar.rawF; rw [if_pos o1, List.getD_eq_getElem?_getD, List.getD_eq_getElem?_getD, List.getElem?_set, if_neg (by unfold Ar.rawOk at o1 o2; omega)]
  have sb : (A.tick.tick.setR lk.toNat (iand (A.rawF x.head) 131071)).swapRb x.head (A.rawF x.head) = true := decide_eq_true ⟨o3, hhd⟩
  have b3 : Pu.stepB { x with was := A.rawF x.head, at' := 2 } (A.tick.tick.setR lk.toNat (iand (A.rawF x.head) 131071)) = true := sb
  have m3 : Pu.stepM { x with was := A.rawF x.head, at' := 2 } (A.tick.tick.setR lk.toNat (iand (A.rawF x.head) 131071)) = { x with was := A.rawF x.head, at' := 3 } := by
    unfold Pu.stepM; rw [if_neg (by show ¬ (2 : Int) = 1; decide), if_pos rfl]; show Pu.mk x.pl x.head (A.rawF x.head) (if _ = true then 3 else 0) x.base = _; rw [sb]; rfl
  have a3 : Pu.stepA { x with was := A.rawF x.head, at' := 2 } (A.tick.tick.setR lk.toNat (iand (A.rawF x.head) 131071)) = A.pushed x.head lk x.base := by
    unfold Pu.stepA; rw [if_neg (by show ¬ (2 : Int) = 1; decide), if_pos rfl]
    show (A.tick.tick.setR lk.toNat (iand (A.rawF x.head) 131071)).swapR x.head (A.rawF x.head) _ = _
    unfold Ar.swapR; rw [if_pos o3, if_pos hhd]
    unfold Ar.pushed Ar.setR Ar.tick
    simp only [t1, t2, t3, Ar.mk.injEq, true_and]
    omega
  rw [a3, m3, b3, Heap.set_set] at d3
  refine ⟨{ x with was := A.rawF x.head, at' := 3 }, rfl, rfl, ?_⟩
  refine .more ⟨d1, ⟨rfl, rfl, rfl, rfl, rfl, rfl, rfl⟩, Int.le_refl _⟩ (.more ⟨d2, ⟨rfl, rfl, rfl, rfl, rfl, rfl, rfl⟩, Int.le_refl _⟩ (.one ⟨d3, ⟨rfl, rfl, rfl, rfl, rfl, rfl, rfl⟩, ?_⟩))
  show A.uses + 3 ≤ w64 (w64 (w64 (A.uses + 1) + 1) + 1)
  rw [t1, t2, t3]; omega

/-- What stands behind a pop of one that is there. -/
def Ar.popped (A : Ar) (hd lk : Int) : Ar := { A with raw := A.raw.set hd.toNat (nextF (A.rawF hd) (A.rawF lk)), uses := A.uses + 3 }

theorem pop_none {A : Ar} (hA : A.wf) {x : Po} {q0 q1 : Nat} {G : Heap} (h0 : q0 ∉ A.ids) (h1 : q1 ∉ A.ids) (hg : G q0 = some (popObj q1)) (hx : G q1 = some x.obj) (ha : x.at' = 0)
    (o1 : A.rawOk x.head) (hf : iand (A.rawF x.head) 131071 = 0) (hu : 0 ≤ A.uses ∧ A.uses ≤ 1000000000) :
    Runs f_free_Pop_Step q0 1 A G { A with uses := A.uses + 1 } (G.set q1 (Po.obj { x with was := A.rawF x.head, at' := 3 })) := by
  have t1 : w64 (A.uses + 1) = A.uses + 1 := w64_in (by omega) (by omega)
  have a1 : x.stepA A = { A with uses := A.uses + 1 } := by unfold Po.stepA; rw [if_neg (by omega), if_neg (by omega), if_neg (by omega), touchR_yes o1]; unfold Ar.tick; rw [t1]
  have m1 : x.stepM A = { x with was := A.rawF x.head, at' := 3 } := by unfold Po.stepM; rw [if_neg (by omega), if_neg (by omega), if_neg (by omega), if_pos hf]
  have b1 : x.stepB A = true := by unfold Po.stepB; rw [if_neg (by omega), if_neg (by omega), if_neg (by omega), decide_eq_true hf]
  have d1 := Pop_det hA x h0 h1 hg hx
  rw [a1, m1, b1] at d1
  exact .one ⟨d1, ⟨rfl, rfl, rfl, rfl, rfl, rfl, rfl⟩, by rw [t1]; exact Int.le_refl _⟩

theorem pop_some {A : Ar} (hA : A.wf) {x : Po} {q0 q1 : Nat} {G : Heap} (h0 : q0 ∉ A.ids) (h1 : q1 ∉ A.ids) (hn : q0 ≠ q1) (hg : G q0 = some (popObj q1)) (hx : G q1 = some x.obj) (ha : x.at' = 0) {f lk : Int}
    (o1 : A.rawOk x.head) (hf : iand (A.rawF x.head) 131071 = f) (hf0 : f ≠ 0) (hlk : w64 (w64 (x.pl.links + f) - 1) = lk) (o2 : A.rawOk lk) (hu : 0 ≤ A.uses ∧ A.uses ≤ 1000000000) :
    ∃ y : Po, y.at' = 3 ∧ y.base = w64 (w64 (f - 1) * 8) ∧ y.ok = true ∧ Runs f_free_Pop_Step q0 3 A G (A.popped x.head lk) (G.set q1 y.obj) := by
  have t1 : w64 (A.uses + 1) = A.uses + 1 := w64_in (by omega) (by omega)
  have t2 : w64 (A.uses + 1 + 1) = A.uses + 1 + 1 := w64_in (by omega) (by omega)
  have t3 : w64 (A.uses + 1 + 1 + 1) = A.uses + 1 + 1 + 1 := w64_in (by omega) (by omega)
  have a1 : x.stepA A = A.tick := by unfold Po.stepA; rw [if_neg (by omega), if_neg (by omega), if_neg (by omega), touchR_yes o1]
  have m1 : x.stepM A = { x with was := A.rawF x.head, at' := 1 } := by unfold Po.stepM; rw [if_neg (by omega), if_neg (by omega), if_neg (by omega), if_neg (by omega)]
  have b1 : x.stepB A = false := by unfold Po.stepB; rw [if_neg (by omega), if_neg (by omega), if_neg (by omega), decide_eq_false (by omega)]
  have d1 := Pop_det hA x h0 h1 hg hx
  rw [a1, m1, b1] at d1
  have w1 := tick_wf hA
  have o2' : A.tick.rawOk lk := o2
  have hx1 : (G.set q1 (Po.obj { x with was := A.rawF x.head, at' := 1 })) q1 = some (Po.obj { x with was := A.rawF x.head, at' := 1 }) := Heap.set_same _ _ _
  have hg1 : (G.set q1 (Po.obj { x with was := A.rawF x.head, at' := 1 })) q0 = some (popObj q1) := by rw [Heap.set_ne _ _ hn]; exact hg
  have d2 := Pop_det w1 { x with was := A.rawF x.head, at' := 1 } h0 h1 hg1 hx1
  have a2 : Po.stepA { x with was := A.rawF x.head, at' := 1 } A.tick = A.tick.tick := by
    unfold Po.stepA; rw [if_pos rfl]
    show A.tick.touchR (w64 (w64 (x.pl.links + iand (A.rawF x.head) 131071) - 1)) = _
    rw [hf, hlk, touchR_yes o2']
  have m2 : Po.stepM { x with was := A.rawF x.head, at' := 1 } A.tick = { x with was := A.rawF x.head, at' := 2, link := A.rawF lk } := by
    unfold Po.stepM; rw [if_pos rfl]
    show Po.mk x.pl x.head (A.rawF x.head) 2 (A.tick.rawF (w64 (w64 (x.pl.links + iand (A.rawF x.head) 131071) - 1))) x.base x.ok = _
    rw [hf, hlk]; rfl
  have b2 : Po.stepB { x with was := A.rawF x.head, at' := 1 } A.tick = false := rfl
  rw [a2, m2, b2, Heap.set_set] at d2
  have w2 : A.tick.tick.wf := tick_wf w1
  have hx2 : (G.set q1 (Po.obj { x with was := A.rawF x.head, at' := 2, link := A.rawF lk })) q1 = some (Po.obj { x with was := A.rawF x.head, at' := 2, link := A.rawF lk }) := Heap.set_same _ _ _
  have hg2 : (G.set q1 (Po.obj { x with was := A.rawF x.head, at' := 2, link := A.rawF lk })) q0 = some (popObj q1) := by rw [Heap.set_ne _ _ hn]; exact hg
  have d3 := Pop_det w2 { x with was := A.rawF x.head, at' := 2, link := A.rawF lk } h0 h1 hg2 hx2
  have o3 : A.tick.tick.rawOk x.head := o1
  have hhd : A.tick.tick.raw.getD x.head.toNat 0 = A.rawF x.head := by unfold Ar.rawF; rw [if_pos o1]; rfl
  have sb : A.tick.tick.swapRb x.head (A.rawF x.head) = true := decide_eq_true ⟨o3, hhd⟩
  have b3 : Po.stepB { x with was := A.rawF x.head, at' := 2, link := A.rawF lk } A.tick.tick = true := sb
  have m3 : Po.stepM { x with was := A.rawF x.head, at' := 2, link := A.rawF lk } A.tick.tick = { x with was := A.rawF x.head, at' := 3, link := A.rawF lk, base := w64 (w64 (f - 1) * 8), ok := true } := by
    unfold Po.stepM; rw [if_neg (by show ¬ (2 : Int) = 1; decide), if_pos rfl]
    show (if A.tick.tick.swapRb x.head (A.rawF x.head) = true then Po.mk x.pl x.head (A.rawF x.head) 3 (A.rawF lk) (w64 (w64 (iand (A.rawF x.head) 131071 - 1) * 8)) true else _) = _
    rw [sb, hf]; rfl
  have a3 : Po.stepA { x with was := A.rawF x.head, at' := 2, link := A.rawF lk } A.tick.tick = A.popped x.head lk := by
    unfold Po.stepA; rw [if_neg (by show ¬ (2 : Int) = 1; decide), if_pos rfl]
    show A.tick.tick.swapR x.head (A.rawF x.head) _ = _
    unfold Ar.swapR; rw [if_pos o3, if_pos hhd]
    unfold Ar.popped Ar.setR Ar.tick
    simp only [t1, t2, t3, Ar.mk.injEq, true_and]
    omega
  rw [a3, m3, b3, Heap.set_set] at d3
  refine ⟨{ x with was := A.rawF x.head, at' := 3, link := A.rawF lk, base := w64 (w64 (f - 1) * 8), ok := true }, rfl, rfl, rfl, ?_⟩
  refine .more ⟨d1, ⟨rfl, rfl, rfl, rfl, rfl, rfl, rfl⟩, Int.le_refl _⟩ (.more ⟨d2, ⟨rfl, rfl, rfl, rfl, rfl, rfl, rfl⟩, Int.le_refl _⟩ (.one ⟨d3, ⟨rfl, rfl, rfl, rfl, rfl, rfl, rfl⟩, ?_⟩))
  show A.uses + 3 ≤ w64 (w64 (w64 (A.uses + 1) + 1) + 1)
  rw [t1, t2, t3]; omega

theorem mask17 (x : Int) : iand x 131071 = x % 131072 := iand_mask x 17 (by omega)

theorem nextF_eq {h f : Int} (h0 : 0 ≤ h) (h1 : h < 4611686018427387904) (f0 : 0 ≤ f) (f1 : f < 131072) : nextF h f = (h / 131072 + 1) * 131072 + f := by
  unfold nextF
  have e1 : Int.fdiv h (2 ^ 17) = h / 131072 := by rw [Int.fdiv_eq_ediv_of_nonneg _ (by decide)]; rfl
  rw [e1, w64_in (x := h / 131072 + 1) (by omega) (by omega)]
  have e2 : (h / 131072 + 1) * 2 ^ 17 = (h / 131072 + 1) * 131072 := rfl
  rw [e2, w64_in (by omega) (by omega)]
  obtain ⟨k, hk⟩ := Int.eq_ofNat_of_zero_le (show 0 ≤ h / 131072 + 1 by omega)
  obtain ⟨g, rfl⟩ := Int.eq_ofNat_of_zero_le f0
  rw [hk]
  have e3 : ((k : Int) * 131072) = ((2 ^ 17 * k : Nat) : Int) := by omega
  rw [e3, ior_nat (by omega) (by omega), ← Nat.two_pow_add_eq_or_of_lt (by omega)]
  omega
end Go.Proofs.Ytfphgiipekkgdaa

set_option linter.unusedVariables false
set_option maxRecDepth 20000
namespace Go.Proofs.Ytfphgiipekkgdaa
open Go Go.Fw

/-- What a list has, told by its words. -/
def chain (A : Ar) (lk : Int) : Int → List Int → Prop
  | f, [] => f = 0
  | f, b :: l => 0 < f ∧ f ≤ 1000000 ∧ b = (f - 1) * 8 ∧ A.rawOk (lk + f - 1) ∧ chain A lk (A.rawF (lk + f - 1)) l

theorem rawF_congr {A B : Ar} (h : B.raw = A.raw) (i : Int) : B.rawF i = A.rawF i := by
  unfold Ar.rawF
  by_cases hi : A.rawOk i
  · have hb : B.rawOk i := by unfold Ar.rawOk at *; rw [h]; exact hi
    rw [if_pos hi, if_pos hb, h]
  · have hb : ¬ B.rawOk i := by unfold Ar.rawOk at *; rw [h]; exact hi
    rw [if_neg hi, if_neg hb]

theorem chain_raw {A B : Ar} (h : B.raw = A.raw) (lk : Int) : ∀ (l : List Int) (f : Int), chain A lk f l → chain B lk f l
  | [], f, hc => hc
  | b :: l, f, hc => by
    have e := rawF_congr h (lk + f - 1)
    exact ⟨hc.1, hc.2.1, hc.2.2.1, by have := hc.2.2.2.1; unfold Ar.rawOk at *; rw [h]; exact this, by rw [e]; exact chain_raw h lk l _ hc.2.2.2.2⟩

def Ar.later (A : Ar) (n : Int) : Ar := { A with uses := A.uses + n }
theorem later_wf {A : Ar} (hA : A.wf) (n : Int) : (A.later n).wf := ⟨hA.nd, hA.fit, hA.busy, hA.carved, hA.words, hA.raw, hA.wC, hA.wL, hA.wR, hA.wF⟩
theorem later_alike (A : Ar) (n : Int) : Ar.Alike A (A.later n) := ⟨rfl, rfl, rfl, rfl, rfl, rfl, rfl⟩

theorem Raw_later {A : Ar} (hA : A.wf) {i n : Int} (hi : A.rawOk i) (hn : -9000000000000000000 ≤ A.uses + n ∧ A.uses + n ≤ 9000000000000000000) {p : Value} (hp : p = pA A) (H : Heap) :
    Det Try.prog f_arena_Arena_Raw [p, .int .i64 i] ((A.later n).put H) (.int .i64 (A.rawF i)) ((A.later (n + 1)).put H) := by
  have h := Raw_det (later_wf hA n) i H
  have e : (A.later n).touchR i = A.later (n + 1) := by
    rw [touchR_yes (A := A.later n) hi]
    unfold Ar.tick Ar.later
    simp only [Ar.mk.injEq, true_and]
    rw [w64_in (by omega) (by omega)]; omega
  rw [e] at h
  rw [hp]; exact h

/-- A loop with a slice and a number. -/
theorem wp_loop_si {L : Hands} {H : Heap} {R : Value → Heap → Prop} {n : Nat} {init : List Value} {body : HL Sh1.T [.leaf .slice, .leaf (.int .i64)] → Tree} (I : Sl → Int → Heap → Prop) (m : Sl → Int → Nat) (s0 : Sl) (i0 : Int) (hi : I s0 i0 H)
    (hstep : ∀ (s : Sl) (i : Int) H', I s i H' → wp Try.prog (body (s, i, ())) (L.set n fun vals H'' => ∃ (t : Sl) (j : Int), vals = [.slice t.a t.len t.cap, .int .i64 j] ∧ I t j H'' ∧ m t j < m s i) H' R) (h0 : init = [.slice s0.a s0.len s0.cap, .int .i64 i0] := by rfl) :
    wp Try.prog (.loop n [.leaf .slice, .leaf (.int .i64)] init body) L H R := by
  refine wp_loop_inv (fun x K => I x.1 x.2.1 K) (fun x _ => m x.1 x.2.1) (s0, i0, ()) h0 hi ?_
  rintro ⟨s, i, u⟩ K hI
  refine Go.Fw.wp_mono _ (hstep s i K hI) (fun k vals H'' hk => ?_) (fun _ _ h => h)
  unfold Hands.set at *
  split at hk
  · rename_i e; rw [if_pos e]; obtain ⟨s, j, h1, h2, h3⟩ := hk; exact ⟨(s, j, ()), h1, h2, h3⟩
  · rename_i e; rw [if_neg e]; exact hk

theorem List_spec {A : Ar} (hA : A.wf) (p : Pl) (w c : Int) {hd : Int} (hh : headF p w c = hd) (ho : A.rawOk hd) {xs : List Int} (hc : chain A p.links (iand (A.rawF hd) 131071) xs) (hl : xs.length < 10000)
    (hlk : -1000000 ≤ p.links ∧ p.links ≤ 1000000) (hu : 0 ≤ A.uses ∧ A.uses ≤ 1000000000) {pv : Option Addr} (hp : .pointer pv = pA A) (H : Heap) :
    SpecF Try.prog f_free_List #[.pointer pv, p.val, .int .i64 w, .int .i64 c] (A.put H) fun v K => ∃ (s : Sl) (G : Heap), v = .slice s.a s.len s.cap ∧ K = (A.later (1 + xs.length)).put G ∧ H.le G ∧ IsSl G s xs ∧ (∀ b, s.a = some ⟨b, 0, none⟩ → b ∉ A.ids ∧ H b = none) := by
  refine t_free_List_spec (p1_0 := p.work) (p1_1 := p.heads) (p1_2 := p.links) (p1_3 := p.gens) (p1_4 := p.carved) fun L => ?_
  unfold t_free_List
  refine wp_newP fun e he => ?_
  obtain ⟨e1, e2⟩ := Ar.put_none he
  have h0 : A.put (H.set e (.cells p.cells ty_free_Place (0, 0))) = (A.later 0).put (H.set e (.cells p.cells ty_free_Place (0, 0))) := by unfold Ar.later; rw [Int.add_zero]
  refine wp_heap ((Ar.put_set _ e1).trans h0) ?_
  have hput : ∀ (B : Ar) G, Ar.Alike A B → (H.set e (.cells p.cells ty_free_Place (0, 0))).le G → (B.put G) e = some (.cells p.cells ty_free_Place (0, 0)) := fun B G hB hG => by
    rw [Ar.put_out (by rw [hB.ids]; exact e1)]; exact hG _ _ (Heap.set_same _ _ _)
  refine wp_pl (p := p) (hput (A.later 0) _ (later_alike A 0) (Heap.le_refl _)) ?_
  refine wp_qcall_det (head_det p w c _) ?_
  rw [hh]
  refine wp_call_det (x := A.rawF hd) (Raw_later (n := 0) hA ho (by omega) hp _) ?_
  refine wp_loop_si (fun s f K => ∃ (don todo : List Int) (G : Heap), xs = don ++ todo ∧ chain A p.links f todo ∧ IsSl G s don ∧ (H.set e (.cells p.cells ty_free_Place (0, 0))).le G ∧ (∀ b, s.a = some ⟨b, 0, none⟩ → b ∉ A.ids ∧ H b = none ∧ b ≠ e) ∧
    K = (A.later (1 + don.length)).put G) (fun s _ => xs.length - s.len) ⟨none, 0, 0⟩ (iand (A.rawF hd) 131071) ⟨[], xs, _, rfl, hc, .nil _, Heap.le_refl _, (fun b hb => by cases hb), rfl⟩ ?_
  rintro s f K ⟨don, todo, G, hx, hch, hs, hG, hb, rfl⟩
  rw [t_free_List_L1]
  cases todo with
  | nil =>
    have hf : f = 0 := hch
    refine wp_false (decide_eq_false (by show ¬ f > 0; omega)) ?_
    rw [List.append_nil] at hx
    refine wp_ret_of ⟨s, G, rfl, by rw [hx], Heap.le_trans (Heap.le_set_new _ e2) hG, by rw [hx]; exact hs, fun b h => ⟨(hb b h).1, (hb b h).2.1⟩⟩
  | cons b0 l =>
    obtain ⟨f0, f1, hb0, hok, hch⟩ := hch
    have hxl : don.length + (l.length + 1) = xs.length := by rw [hx]; simp
    have hslen : s.len = don.length := hs.len
    refine wp_true (decide_eq_true (by exact f0)) ?_
    have hlt : ((s.len : Nat) : Int) < 10000 := by omega
    dsimp only
    rw [decide_eq_true hlt]
    refine wp_true rfl ?_
    have ev : w64 (w64 (f - 1) * 8) = b0 := by rw [w64_in (x := f - 1) (by omega) (by omega), w64_in (by omega) (by omega), hb0]
    show wp Try.prog (.newS (.cells #[.int .i64 (w64 (w64 (f - 1) * 8))] ty_int) 1 _) _ _ _
    rw [ev]
    have hsA : IsSl ((A.later (1 + don.length)).put G) s don := by
      rcases hs with h | ⟨b, rest, h1, h2⟩
      · exact .inl h
      · refine .inr ⟨b, rest, h1, ?_⟩
        rw [Ar.put_out (A := A.later _) (hb b (by rw [h1])).1]; exact h2
    refine wp_append_int hsA (by omega) fun q b rest hq hbq => ?_
    obtain ⟨q1, q2⟩ := Ar.put_none (A := A.later (1 + don.length)) hq
    have hbi : b ∉ A.ids ∧ H b = none ∧ b ≠ e := by
      rcases hbq.2 with h | h
      · obtain ⟨b1, b2⟩ := Ar.put_none (A := A.later (1 + don.length)) h
        have hHb : (H.set e (.cells p.cells ty_free_Place (0, 0))) b = none := by
          cases hc : (H.set e (.cells p.cells ty_free_Place (0, 0))) b with
          | none => rfl
          | some o => rw [hG _ _ hc] at b2; cases b2
        obtain ⟨b3, b4⟩ := set_none hHb
        exact ⟨b1, b4, b3⟩
      · exact hb b h
    rw [Ar.put_set (A := A.later (1 + don.length)) _ q1, Ar.put_set (A := A.later (1 + don.length)) _ hbi.1]
    have hqH : (H.set e (.cells p.cells ty_free_Place (0, 0))) q = none := by
      cases hc : (H.set e (.cells p.cells ty_free_Place (0, 0))) q with
      | none => rfl
      | some o => rw [hG _ _ hc] at q2; cases q2
    have hG2 : (H.set e (.cells p.cells ty_free_Place (0, 0))).le ((G.set q (.cells #[.int .i64 b0] ty_int (0, 0))).set b (.cells (ints (don ++ [b0]) ++ rest) ty_int (0, 0))) := by
      intro y o hy
      by_cases y1 : y = b
      · rw [y1, Heap.set_ne _ _ hbi.2.2, hbi.2.1] at hy; cases hy
      · rw [Heap.set_ne _ _ y1]
        by_cases y2 : y = q
        · rw [y2, hqH] at hy; cases hy
        · rw [Heap.set_ne _ _ y2]; exact hG _ _ hy
    refine wp_ld_of (x := p.links) (by
      have := Heap.cell_of (hput _ _ (later_alike A (1 + don.length)) hG2) 2
      exact this.trans rfl) ?_
    have ei : w64 (w64 (p.links + f) - 1) = p.links + f - 1 := by rw [w64_in (x := p.links + f) (by omega) (by omega), w64_in (by omega) (by omega)]
    refine wp_call_det (x := A.rawF (p.links + f - 1)) (by
      show Det _ _ [_, .int .i64 (w64 (w64 (p.links + f) - 1))] _ _ _
      rw [ei]; exact Raw_later hA hok (by omega) hp _) ?_
    refine wp_again ⟨⟨some ⟨b, 0, none⟩, (don ++ [b0]).length, (don ++ [b0]).length + rest.size⟩, A.rawF (p.links + f - 1), rfl, ⟨don ++ [b0], l, _, by rw [hx]; simp, hch, .inr ⟨b, rest, rfl, Heap.set_same _ _ _⟩, hG2, ?_, ?_⟩, ?_⟩
    · intro b' hb'
      have : b' = b := by simpa using hb'.symm
      rw [this]; exact hbi
    · congr 1; unfold Ar.later; simp; omega
    · show xs.length - (don ++ [b0]).length < xs.length - s.len
      simp; omega
end Go.Proofs.Ytfphgiipekkgdaa

set_option linter.unusedVariables false
set_option maxRecDepth 20000
namespace Go.Proofs.Ytfphgiipekkgdaa
open Go Go.Fw

/-- The places of so many workers and words. -/
def plOf (w m : Int) : Pl := ⟨w, 0, 4 * w, 4 * w + (m + 7) / 8, 4 * w + 2 * ((m + 7) / 8)⟩

theorem singles (l : List Value) (h : l.all Value.single = true) : ∀ v ∈ l, Value.single v = true := fun v hv => List.all_eq_true.1 h v hv

theorem Raw5_det (w m w' m' : Int) (hw : imax w 0 = w') (hm : imax m 0 = m') (b1 : 0 ≤ w' ∧ w' ≤ 100000) (b2 : 0 ≤ m' ∧ m' ≤ 100000) (H : Heap) :
    Det Try.prog f_free_Raw [.int .i64 w, .int .i64 m] H (.tuple #[(plOf w' m').val, .int .i64 (4 * w' + 2 * ((m' + 7) / 8) + 1)]) H := by
  refine t_free_Raw_spec fun L => ?_
  unfold t_free_Raw
  rw [hw, hm]
  refine wp_newP fun b4 h4 => wp_newP fun b7 h7 => ?_
  obtain ⟨n7, h7⟩ := set_none h7
  have en : w64 (w64 (Int.tdiv m' 8) + imin (Int.tmod m' 8) 1) = (m' + 7) / 8 := by
    rw [Int.tdiv_eq_ediv_of_nonneg b2.1, Int.tmod_eq_emod_of_nonneg b2.1, w64_in (x := m' / 8) (by omega) (by omega)]
    unfold imin
    split <;> rw [w64_in (by omega) (by omega)] <;> omega
  rw [en]
  have e4 : w64 (4 * w') = 4 * w' := w64_in (by omega) (by omega)
  rw [e4]
  refine wp_stA_of (Heap.set_same _ _ _) (by exact Nat.le_refl 5) (singles _ rfl) ?_
  rw [Heap.set_set]
  have c1 : putAll #[.int .i64 0, .int .i64 0, .int .i64 0, .int .i64 0, .int .i64 0] 0 [.int .i64 w', .int .i64 0, .int .i64 (4 * w'), .int .i64 0, .int .i64 0] = #[.int .i64 w', .int .i64 0, .int .i64 (4 * w'), .int .i64 0, .int .i64 0] := rfl
  rw [c1]
  refine wp_ld_of (x := 4 * w') ((Heap.cell_set 2).trans rfl) ?_
  rw [w64_in (x := 4 * w' + (m' + 7) / 8) (by omega) (by omega)]
  refine wp_st_of (n := 3) (u := .int .i64 0) (Heap.set_same _ _ _) rfl rfl ?_
  rw [Heap.set_set]
  refine wp_ld_of (x := 4 * w' + (m' + 7) / 8) ((Heap.cell_set 3).trans rfl) ?_
  rw [w64_in (x := 4 * w' + (m' + 7) / 8 + (m' + 7) / 8) (by omega) (by omega)]
  refine wp_st_of (n := 4) (u := .int .i64 0) (Heap.set_same _ _ _) rfl rfl ?_
  rw [Heap.set_set]
  have e5 : 4 * w' + (m' + 7) / 8 + (m' + 7) / 8 = 4 * w' + 2 * ((m' + 7) / 8) := by omega
  rw [e5]
  have hc : H.set b4 (.cells #[.int .i64 0, .int .i64 0, .int .i64 0, .int .i64 0, .int .i64 0] ty_free_Place (0, 0)) b7 = none := by rw [Heap.set_ne _ _ n7]; exact h7
  refine wp_pl (p := plOf w' m') (Heap.set_same _ _ _) ?_
  refine wp_ld_of (x := 4 * w' + 2 * ((m' + 7) / 8)) ((Heap.cell_set 4).trans rfl) ?_
  rw [Heap.set_comm _ _ _ (Ne.symm n7)]
  refine wp_stA_of (Heap.set_same _ _ _) (by exact Nat.le_refl 5) (singles _ rfl) ?_
  rw [Heap.set_set, Heap.set_comm _ _ _ n7]
  refine ⟨⟨_, (Heap.cell_set 4).trans rfl, rfl⟩, ?_⟩
  rw [Heap.set_comm _ _ _ (Ne.symm n7)]
  refine ⟨((w', 0, 4 * w', 4 * w' + (m' + 7) / 8, 4 * w' + 2 * ((m' + 7) / 8), ()), 4 * w' + 2 * ((m' + 7) / 8) + 1, ()), ?_, ?_⟩
  · refine ldK_still (Heap.set_same _ _ _) 5 0 #[] (by exact Nat.le_refl 5) ?_
    have hx : (#[] ++ (plOf w' m').cells.extract 0 5) = (plOf w' m').cells := by unfold Pl.cells; simp
    show Value.tuple #[.agg (#[] ++ (plOf w' m').cells.extract 0 5), .int .i64 (w64 (4 * w' + 2 * ((m' + 7) / 8) + 1))] = _
    rw [hx, w64_in (by omega) (by omega)]; rfl
  · refine ⟨H, ?_, rfl, rfl⟩
    exact Heap.le_trans (Heap.le_set_new _ h7) (Heap.le_set_new _ (by rw [Heap.set_ne _ _ (Ne.symm n7)]; exact h4))
end Go.Proofs.Ytfphgiipekkgdaa

set_option linter.unusedVariables false
set_option maxRecDepth 20000
namespace Go.Proofs.Ytfphgiipekkgdaa
open Go Go.Fw

theorem pushed_wf {A : Ar} (hA : A.wf) (hd lk b : Int) : (A.pushed hd lk b).wf :=
  ⟨hA.nd, hA.fit, hA.busy, hA.carved, hA.words, by unfold Ar.pushed; simp only [List.length_set]; exact hA.raw, hA.wC, hA.wL, hA.wR, hA.wF⟩
theorem pushed_alike (A : Ar) (hd lk b : Int) : Ar.Alike A (A.pushed hd lk b) := ⟨rfl, rfl, rfl, rfl, rfl, rfl, rfl⟩
theorem popped_wf {A : Ar} (hA : A.wf) (hd lk : Int) : (A.popped hd lk).wf :=
  ⟨hA.nd, hA.fit, hA.busy, hA.carved, hA.words, by unfold Ar.popped; simp only [List.length_set]; exact hA.raw, hA.wC, hA.wL, hA.wR, hA.wF⟩
theorem popped_alike (A : Ar) (hd lk : Int) : Ar.Alike A (A.popped hd lk) := ⟨rfl, rfl, rfl, rfl, rfl, rfl, rfl⟩

theorem chk_pl {L : Hands} {H : Heap} {R : Value → Heap → Prop} {b : Nat} {p : Pl} {t : Tree} (hb : H b = some (.cells p.cells ty_free_Place (0, 0))) (h : wp Try.prog t L H R) : wp Try.prog (.check (ldAS ⟨b, 0, none⟩ 5 0 #[]) p.val t) L H R := by
  refine ⟨?_, h⟩
  rw [ldAS_eq]
  refine ldK_still hb 5 0 #[] (by exact Nat.le_refl 5) ?_
  have hx : (#[] ++ p.cells.extract 0 5) = p.cells := by unfold Pl.cells; simp
  show Value.agg (#[] ++ p.cells.extract 0 5) = _
  rw [hx]; rfl

theorem le_none {H G : Heap} (h : H.le G) {b : Nat} (hb : G b = none) : H b = none := by
  cases hc : H b with
  | none => rfl
  | some o => rw [h _ _ hc] at hb; cases hb

theorem le_set_none {H G : Heap} (h : H.le G) {b : Nat} (o : Obj) (hb : H b = none) : H.le (G.set b o) := fun x v e => by
  by_cases hx : x = b
  · rw [hx, hb] at e; cases e
  · rw [Heap.set_ne _ _ hx]; exact h _ _ e
theorem ne_of {G : Heap} {b c : Nat} {o : Obj} (h : G b = some o) (k : G c = none) : b ≠ c := fun e => by rw [e, k] at h; cases h

/-- A machine that was made, beside an arena. -/
structure MadeM (A : Ar) (G : Heap) (q0 q1 : Nat) (o0 o1 : Obj) (K : Heap) : Prop where
  i0 : q0 ∉ A.ids
  i1 : q1 ∉ A.ids
  ne : q0 ≠ q1
  n0 : G q0 = none
  n1 : G q1 = none
  le : G.le K
  g0 : K q0 = some o0
  g1 : K q1 = some o1

theorem mk_made {A : Ar} {G : Heap} {q0 q1 : Nat} {o0 o1 : Obj} (h0 : A.put G q0 = none) (h1 : A.put G q1 = none) (hn : q0 ≠ q1) :
    MadeM A G q0 q1 o0 o1 ((G.set q1 o1).set q0 o0) ∧ ((A.put G).set q1 o1).set q0 o0 = A.put ((G.set q1 o1).set q0 o0) := by
  obtain ⟨a0, b0⟩ := Ar.put_none h0
  obtain ⟨a1, b1⟩ := Ar.put_none h1
  refine ⟨⟨a0, a1, hn, b0, b1, Heap.le_trans (Heap.le_set_new _ b1) (Heap.le_set_new _ (by rw [Heap.set_ne _ _ hn]; exact b0)), Heap.set_same _ _ _, by rw [Heap.set_ne _ _ (Ne.symm hn), Heap.set_same]⟩, ?_⟩
  rw [Ar.put_set _ a1, Ar.put_set _ a0]

theorem NewPush_on {A : Ar} {G : Heap} (p : Pl) (w c b : Int) : SpecF Try.prog f_free_NewPush #[p.val, .int .i64 w, .int .i64 c, .int .i64 b] (A.put G) fun v K => ∃ q0 q1 G', MadeM A G q0 q1 (pushObj q1) (Pu.obj ⟨p, headF p w c, 0, 0, b⟩) G' ∧ v = .pointer (some ⟨q0, 0, none⟩) ∧ K = A.put G' := by
  refine SpecF.mono (NewPush_spec p w c b (A.put G)) ?_
  rintro v K ⟨q0, q1, h0, h1, hn, rfl, rfl⟩
  obtain ⟨m, e⟩ := mk_made (o0 := pushObj q1) (o1 := Pu.obj ⟨p, headF p w c, 0, 0, b⟩) h0 h1 hn
  exact ⟨q0, q1, _, m, rfl, e⟩
theorem NewPop_on {A : Ar} {G : Heap} (p : Pl) (w c : Int) : SpecF Try.prog f_free_NewPop #[p.val, .int .i64 w, .int .i64 c] (A.put G) fun v K => ∃ q0 q1 G', MadeM A G q0 q1 (popObj q1) (Po.obj ⟨p, headF p w c, 0, 0, 0, 0, false⟩) G' ∧ v = .pointer (some ⟨q0, 0, none⟩) ∧ K = A.put G' := by
  refine SpecF.mono (NewPop_spec p w c (A.put G)) ?_
  rintro v K ⟨q0, q1, h0, h1, hn, rfl, rfl⟩
  obtain ⟨m, e⟩ := mk_made (o0 := popObj q1) (o1 := Po.obj ⟨p, headF p w c, 0, 0, 0, 0, false⟩) h0 h1 hn
  exact ⟨q0, q1, _, m, rfl, e⟩

theorem eh_some (a : Addr) : opS Try.prog (.binOp .eql ty_p_free_Push (.tmp 0) (.const (.pointer none)) ty_p_free_Push) ty_bool [(.pointer (some a))] = .pure (.value (.bool false)) := by kernel_rfl
theorem eo_some (a : Addr) : opS Try.prog (.binOp .eql ty_p_free_Pop (.tmp 0) (.const (.pointer none)) ty_p_free_Pop) ty_bool [(.pointer (some a))] = .pure (.value (.bool false)) := by kernel_rfl

theorem pushed_ok {A : Ar} {hd lk b i : Int} : (A.pushed hd lk b).rawOk i ↔ A.rawOk i := by unfold Ar.rawOk Ar.pushed; simp only [List.length_set]
theorem popped_ok {A : Ar} {hd lk i : Int} : (A.popped hd lk).rawOk i ↔ A.rawOk i := by unfold Ar.rawOk Ar.popped; simp only [List.length_set]

theorem rawF_pushed {A : Ar} {hd lk b i : Int} (h1 : A.rawOk hd) (h2 : A.rawOk lk) (hi : A.rawOk i) :
    (A.pushed hd lk b).rawF i = if i = hd then nextF (A.rawF hd) (w64 (w64 (Int.tdiv b 8) + 1)) else if i = lk then iand (A.rawF hd) 131071 else A.rawF i := by
  have e : (A.pushed hd lk b).rawF i = (A.pushed hd lk b).raw.getD i.toNat 0 := by unfold Ar.rawF; rw [if_pos (pushed_ok.2 hi)]
  have e2 : A.rawF i = A.raw.getD i.toNat 0 := by unfold Ar.rawF; rw [if_pos hi]
  rw [e, e2]
  unfold Ar.rawOk at h1 h2 hi
  show ((A.raw.set lk.toNat (iand (A.rawF hd) 131071)).set hd.toNat (nextF (A.rawF hd) (w64 (w64 (Int.tdiv b 8) + 1)))).getD i.toNat 0 = _
  rw [List.getD_eq_getElem?_getD, List.getD_eq_getElem?_getD, List.getElem?_set, List.getElem?_set]
  simp only [List.length_set]
  by_cases c1 : i = hd
  · rw [if_pos c1, if_pos (by rw [c1]), if_pos (by omega)]; rfl
  · rw [if_neg c1, if_neg (by omega)]
    by_cases c2 : i = lk
    · rw [if_pos c2, if_pos (by rw [c2]), if_pos (by omega)]; rfl
    · rw [if_neg c2, if_neg (by omega)]

theorem rawF_popped {A : Ar} {hd lk i : Int} (h1 : A.rawOk hd) (hi : A.rawOk i) : (A.popped hd lk).rawF i = if i = hd then nextF (A.rawF hd) (A.rawF lk) else A.rawF i := by
  have e : (A.popped hd lk).rawF i = (A.popped hd lk).raw.getD i.toNat 0 := by unfold Ar.rawF; rw [if_pos (popped_ok.2 hi)]
  have e2 : A.rawF i = A.raw.getD i.toNat 0 := by unfold Ar.rawF; rw [if_pos hi]
  rw [e, e2]
  unfold Ar.rawOk at h1 hi
  show (A.raw.set hd.toNat (nextF (A.rawF hd) (A.rawF lk))).getD i.toNat 0 = _
  rw [List.getD_eq_getElem?_getD, List.getD_eq_getElem?_getD, List.getElem?_set]
  by_cases c1 : i = hd
  · rw [if_pos c1, if_pos (by rw [c1]), if_pos (by omega)]; rfl
  · rw [if_neg c1, if_neg (by omega)]

end Go.Proofs.Ytfphgiipekkgdaa

set_option linter.unusedVariables false
set_option maxRecDepth 20000
namespace Go.Proofs.Ytfphgiipekkgdaa
open Go Go.Fw

/-- A row of numbers that came in. -/
def RowOf (H : Heap) (a : Option Addr) (len : Nat) (zs : List Int) : Prop := ∀ i, i < len → ∃ x, a = some x ∧ H.cell? (x.add i) = some (.int .i64 (zs.getD i 0))

theorem cell_le {H K : Heap} (h : H.le K) {a : Addr} {v : Value} (hc : H.cell? a = some v) : K.cell? a = some v := by
  unfold Heap.cell? at *
  cases hx : H a.block with
  | none => rw [hx] at hc; cases hc
  | some o => rw [hx] at hc; rw [h _ _ hx]; exact hc

theorem wp_row {L : Hands} {H K : Heap} {R : Value → Heap → Prop} {s : Sl} {zs : List Int} (hz : RowOf H s.a s.len zs) (hK : H.le K) {i : Int} (h0 : 0 ≤ i) (h1 : i < ((s.len : Nat) : Int)) {k : Int → Tree} (h : wp Try.prog (k (zs.getD i.toNat 0)) L K R) :
    wp Try.prog (.look (opS Try.prog (.indexAddr ty_s_int (.tmp 0) (.tmp 1)) ty_unit [(.slice s.a s.len s.cap), (.int .i64 i)]) (.one (.leaf .addr)) fun x => .ld x (.int .i64) k) L K R := by
  obtain ⟨x, hx, hc⟩ := hz i.toNat (by omega)
  rw [hx]
  have hi := opS_idxS (P := Try.prog) (t := ty_s_int) (u := ty_unit) (e := ty_int) (l := s.len) (c := s.cap) (i := i) (a := x) rfl rfl h0 h1
  refine look_val (x := x.add i.toNat) ?_ (wp_ld_of (x := zs.getD i.toNat 0) (cell_le hK hc) h)
  refine hi.trans ?_
  show Sem.pure (Next.value (.pointer (some (x.add (i.toNat * 1))))) = _
  rw [Nat.mul_one]

theorem idxA {t u e : TypeId} {n b o : Nat} {i : Int} {info : TypeInfo} (hu : Try.prog.underlying t = some (.array n e)) (hi : Try.prog.info? e = some info) (hs : info.size = 1) (h0 : 0 ≤ i) (h1 : i < n) :
    opS Try.prog (.indexAddr t (.tmp 0) (.tmp 1)) u [.pointer (some ⟨b, o, none⟩), .int .i64 i] = .pure (.value (.pointer (some ⟨b, o + i.toNat, none⟩))) := by
  rw [opS_idx hu hi h0 h1, Addr.add_mk, hs, Nat.mul_one]

/-- A loop with a truth and two numbers. -/
theorem wp_loop_bii {L : Hands} {H : Heap} {R : Value → Heap → Prop} {n : Nat} {b : Bool} {init : List Value} {body : HL Sh1.T [.leaf .bool, .leaf (.int .i64), .leaf (.int .i64)] → Tree} (I : Int → Int → Heap → Prop) (m : Int → Int → Nat) (i0 j0 : Int) (hi : I i0 j0 H)
    (hstep : ∀ (i j : Int) (b : Bool) H', I i j H' → wp Try.prog (body (b, i, j, ())) (L.set n fun vals H'' => ∃ (c : Bool) (i' j' : Int), vals = [.bool c, .int .i64 i', .int .i64 j'] ∧ I i' j' H'' ∧ m i' j' < m i j) H' R) (h0 : init = [.bool b, .int .i64 i0, .int .i64 j0] := by rfl) :
    wp Try.prog (.loop n [.leaf .bool, .leaf (.int .i64), .leaf (.int .i64)] init body) L H R := by
  refine wp_loop_inv (fun x K => I x.2.1 x.2.2.1 K) (fun x _ => m x.2.1 x.2.2.1) (b, i0, j0, ()) h0 hi ?_
  rintro ⟨c, i, j, u⟩ K hI
  refine Go.Fw.wp_mono _ (hstep i j c K hI) (fun k vals H'' hk => ?_) (fun _ _ h => h)
  unfold Hands.set at *
  split at hk
  · rename_i e; rw [if_pos e]; obtain ⟨c, i, j, h1, h2, h3⟩ := hk; exact ⟨(c, i, j, ()), h1, h2, h3⟩
  · rename_i e; rw [if_neg e]; exact hk

theorem chk_cell {L : Hands} {H : Heap} {R : Value → Heap → Prop} {a : Addr} {v : Value} {t : Tree} (hc : H.cell? a = some v) (h : wp Try.prog t L H R) : wp Try.prog (.check (ldS a) v t) L H R := ⟨⟨_, hc, rfl⟩, h⟩
end Go.Proofs.Ytfphgiipekkgdaa

set_option linter.unusedVariables false
set_option maxRecDepth 20000
namespace Go.Proofs.Ytfphgiipekkgdaa
open Go Go.Fw

/-! ### Blocks, one by one, beside an arena -/

abbrev Bl := List (Nat × Obj)
def oc (T : TypeId) (c : List Value) : Obj := .cells c.toArray T (0, 0)
def putL : Bl → Heap → Heap
  | [], H => H
  | p :: l, H => (putL l H).set p.1 p.2
@[reducible] def keys (l : Bl) : List Nat := l.map Prod.fst
def own (A : Ar) (l : Bl) (G : Heap) : Heap := A.put (putL l G)

structure Ok (I : List Nat) (G : Heap) (ks : List Nat) : Prop where
  nd : ks.Nodup
  out : ∀ b ∈ ks, b ∉ I
  no : ∀ b ∈ ks, G b = none
structure Aw (I : List Nat) (A : Ar) : Prop where
  wf : A.wf
  ids : A.ids = I

theorem putL_append (l k : Bl) (G : Heap) : putL (l ++ k) G = putL l (putL k G) := by
  induction l with
  | nil => rfl
  | cons p l ih => show (putL (l ++ k) G).set p.1 p.2 = (putL l (putL k G)).set p.1 p.2; rw [ih]

theorem putL_out {l : Bl} {b : Nat} (h : b ∉ keys l) (G : Heap) : putL l G b = G b := by
  induction l with
  | nil => rfl
  | cons p l ih =>
    simp only [keys, List.map_cons, List.mem_cons, not_or] at h
    show (putL l G).set p.1 p.2 b = _
    rw [Heap.set_ne _ _ h.1]; exact ih h.2

theorem putL_get {l : Bl} (G : Heap) : ∀ {i : Nat} {b : Nat} {o : Obj}, (keys l).Nodup → l[i]? = some (b, o) → putL l G b = some o := by
  induction l with
  | nil => intro i b o _ h; simp at h
  | cons p l ih =>
    intro i b o hn h
    simp only [keys, List.map_cons, List.nodup_cons] at hn
    cases i with
    | zero =>
      simp only [List.getElem?_cons_zero, Option.some.injEq] at h
      subst h; exact Heap.set_same _ _ _
    | succ i =>
      simp only [List.getElem?_cons_succ] at h
      have hm : b ∈ keys l := List.mem_map.2 ⟨(b, o), List.mem_of_getElem? h, rfl⟩
      show (putL l G).set p.1 p.2 b = _
      rw [Heap.set_ne _ _ (fun e => hn.1 (by rw [← e]; exact hm))]
      exact ih hn.2 h

theorem putL_set {l : Bl} (G : Heap) : ∀ {i : Nat} {b : Nat} {o o' : Obj}, (keys l).Nodup → l[i]? = some (b, o) → (putL l G).set b o' = putL (l.set i (b, o')) G := by
  induction l with
  | nil => intro i b o o' _ h; simp at h
  | cons p l ih =>
    intro i b o o' hn h
    simp only [keys, List.map_cons, List.nodup_cons] at hn
    cases i with
    | zero =>
      simp only [List.getElem?_cons_zero, Option.some.injEq] at h
      subst h; exact Heap.set_set _ _ _ _
    | succ i =>
      simp only [List.getElem?_cons_succ] at h
      have hm : b ∈ keys l := List.mem_map.2 ⟨(b, o), List.mem_of_getElem? h, rfl⟩
      show ((putL l G).set p.1 p.2).set b o' = (putL (l.set i (b, o')) G).set p.1 p.2
      rw [Heap.set_comm _ _ _ (fun e => hn.1 (by rw [e]; exact hm)), ih hn.2 h]

theorem putL_none {l : Bl} {G : Heap} {b : Nat} (h : putL l G b = none) : b ∉ keys l ∧ G b = none := by
  induction l with
  | nil => exact ⟨by simp [keys], h⟩
  | cons p l ih =>
    obtain ⟨h1, h2⟩ := set_none (H := putL l G) h
    obtain ⟨h3, h4⟩ := ih h2
    exact ⟨by simp only [keys, List.map_cons, List.mem_cons, not_or]; exact ⟨h1, h3⟩, h4⟩

theorem putL_drop {l : Bl} (G : Heap) : ∀ {l' : Bl}, l'.Sublist l → (keys l).Nodup → (∀ b ∈ keys l, b ∉ keys l' → G b = none) → (putL l' G).le (putL l G) := by
  induction l with
  | nil => intro l' hs _ _; rw [List.sublist_nil.1 hs]; exact Heap.le_refl _
  | cons p l ih =>
    intro l' hs hn hg
    simp only [keys, List.map_cons, List.nodup_cons] at hn
    have hnl : (keys l).Nodup := hn.2
    cases hs with
    | cons _ hs =>
      have hp : p.1 ∉ keys l' := fun h => hn.1 ((hs.map Prod.fst).subset h)
      have hle := ih hs hnl (fun b hb hb' => hg b (by simp only [keys, List.map_cons]; exact List.mem_cons_of_mem _ hb) hb')
      intro b o hb
      show (putL l G).set p.1 p.2 b = some o
      have hbp : b ≠ p.1 := by
        intro e; subst e
        rw [putL_out hp, hg _ (by simp [keys]) hp] at hb; cases hb
      rw [Heap.set_ne _ _ hbp]; exact hle b o hb
    | @cons_cons l'' _ _ hs =>
      have hle := ih hs hnl (fun b hb hb' => hg b (by simp only [keys, List.map_cons]; exact List.mem_cons_of_mem _ hb) (by
        simp only [keys, List.map_cons, List.mem_cons, not_or]
        exact ⟨fun e => hn.1 (e ▸ hb), hb'⟩))
      intro b o hb
      show (putL l G).set p.1 p.2 b = some o
      by_cases e : b = p.1
      · subst e
        have := Heap.set_same (putL l'' G) p.1 p.2
        rw [show putL (p :: l'') G p.1 = some p.2 from this] at hb
        rw [Heap.set_same]; exact hb
      · rw [Heap.set_ne _ _ e]
        have h2 : putL (p :: l'') G b = putL l'' G b := Heap.set_ne _ _ e
        rw [h2] at hb; exact hle b o hb

/-- One block to the front. -/
theorem putL_front {l : Bl} (G : Heap) : ∀ {i : Nat} {p : Nat × Obj}, (keys l).Nodup → l[i]? = some p → putL l G = putL (p :: l.eraseIdx i) G := by
  induction l with
  | nil => intro i p _ h; simp at h
  | cons q l ih =>
    intro i p hn h
    simp only [keys, List.map_cons, List.nodup_cons] at hn
    cases i with
    | zero => simp only [List.getElem?_cons_zero, Option.some.injEq] at h; subst h; rfl
    | succ i =>
      simp only [List.getElem?_cons_succ] at h
      have hm : p.1 ∈ keys l := List.mem_map.2 ⟨p, List.mem_of_getElem? h, rfl⟩
      show (putL l G).set q.1 q.2 = ((putL (l.eraseIdx i) G).set q.1 q.2).set p.1 p.2
      rw [ih hn.2 h]
      show ((putL (l.eraseIdx i) G).set p.1 p.2).set q.1 q.2 = _
      exact Heap.set_comm _ _ _ (fun e => hn.1 (by first | (rw [← e]; exact hm) | (rw [e]; exact hm)))

theorem putL_same {l : Bl} {G K : Heap} (h : ∀ b, b ∉ keys l → G b = K b) : putL l G = putL l K := by
  induction l generalizing G K with
  | nil => funext b; exact h b (by simp [keys])
  | cons p l ih =>
    funext b
    show (putL l G).set p.1 p.2 b = (putL l K).set p.1 p.2 b
    by_cases e : b = p.1
    · subst e; rw [Heap.set_same, Heap.set_same]
    · rw [Heap.set_ne _ _ e, Heap.set_ne _ _ e]
      by_cases hb : b ∈ keys l
      · have : ∀ (l : Bl), b ∈ keys l → putL l G b = putL l K b := by
          intro l hb
          induction l with
          | nil => simp [keys] at hb
          | cons q l ih2 =>
            show (putL l G).set q.1 q.2 b = (putL l K).set q.1 q.2 b
            by_cases e2 : b = q.1
            · subst e2; rw [Heap.set_same, Heap.set_same]
            · rw [Heap.set_ne _ _ e2, Heap.set_ne _ _ e2]
              simp only [keys, List.map_cons, List.mem_cons] at hb
              exact ih2 (hb.resolve_left e2)
        exact this l hb
      · rw [putL_out hb, putL_out hb]
        exact h b (by simp only [keys, List.map_cons, List.mem_cons, not_or]; exact ⟨e, hb⟩)

theorem putL_comm {l k : Bl} (h : ∀ b ∈ keys l, b ∉ keys k) (G : Heap) : putL l (putL k G) = putL k (putL l G) := by
  induction l with
  | nil => rfl
  | cons p l ih =>
    have hp : p.1 ∉ keys k := h p.1 (by simp [keys])
    have ih1 := ih fun b hb => h b (by simp only [keys, List.map_cons]; exact List.mem_cons_of_mem _ hb)
    show (putL l (putL k G)).set p.1 p.2 = putL k ((putL l G).set p.1 p.2)
    rw [ih1]
    clear ih1 ih h
    induction k with
    | nil => rfl
    | cons q k ih =>
      simp only [keys, List.map_cons, List.mem_cons, not_or] at hp
      show ((putL k (putL l G)).set q.1 q.2).set p.1 p.2 = (putL k ((putL l G).set p.1 p.2)).set q.1 q.2
      rw [Heap.set_comm _ _ _ (Ne.symm hp.1), ih hp.2]

section
variable {I : List Nat} {A : Ar} {l : Bl} {G : Heap}

theorem own_get (hA : Aw I A) (ok : Ok I G (keys l)) {i b : Nat} {o : Obj} (h : l[i]? = some (b, o)) : own A l G b = some o := by
  unfold own
  rw [Ar.put_out, putL_get G ok.nd h]
  rw [hA.ids]; exact ok.out b (List.mem_map.2 ⟨(b, o), List.mem_of_getElem? h, rfl⟩)

theorem own_set (hA : Aw I A) (ok : Ok I G (keys l)) {i b : Nat} {o : Obj} (o' : Obj) (h : l[i]? = some (b, o)) : (own A l G).set b o' = own A (l.set i (b, o')) G := by
  unfold own
  rw [Ar.put_set, putL_set G ok.nd h]
  rw [hA.ids]; exact ok.out b (List.mem_map.2 ⟨(b, o), List.mem_of_getElem? h, rfl⟩)

theorem own_none (hA : Aw I A) {b : Nat} (h : own A l G b = none) : b ∉ I ∧ b ∉ keys l ∧ G b = none := by
  obtain ⟨h1, h2⟩ := Ar.put_none h
  obtain ⟨h3, h4⟩ := putL_none h2
  exact ⟨by rw [← hA.ids]; exact h1, h3, h4⟩

theorem own_new (hA : Aw I A) (ok : Ok I G (keys l)) {b : Nat} (h : own A l G b = none) (o : Obj) : Ok I G (keys ((b, o) :: l)) ∧ (own A l G).set b o = own A ((b, o) :: l) G := by
  obtain ⟨h1, h2, h3⟩ := own_none hA h
  refine ⟨⟨?_, ?_, ?_⟩, ?_⟩
  · simp only [keys, List.map_cons, List.nodup_cons]; exact ⟨h2, ok.nd⟩
  · intro c hc
    simp only [keys, List.map_cons, List.mem_cons] at hc
    rcases hc with rfl | hc
    · exact h1
    · exact ok.out c hc
  · intro c hc
    simp only [keys, List.map_cons, List.mem_cons] at hc
    rcases hc with rfl | hc
    · exact h3
    · exact ok.no c hc
  · unfold own
    rw [Ar.put_set]
    · rfl
    · rw [hA.ids]; exact h1

theorem own_front (ok : Ok I G (keys l)) {i : Nat} {p : Nat × Obj} (h : l[i]? = some p) : own A l G = own A (p :: l.eraseIdx i) G := by
  unfold own; rw [putL_front G ok.nd h]

def pick (l : Bl) : List Nat → Option Bl
  | [] => some []
  | i :: is => match l[i]?, pick l is with
    | some p, some r => some (p :: r)
    | _, _ => none

theorem pick_mem {l : Bl} : ∀ {is : List Nat} {l' : Bl}, pick l is = some l' → ∀ p ∈ l', p ∈ l
  | [], l', h, p, hp => by cases h; cases hp
  | i :: is, l', h, p, hp => by
    simp only [pick] at h
    split at h
    · rename_i x r hx hr
      cases h
      rcases List.mem_cons.1 hp with rfl | hp
      · exact List.mem_of_getElem? hx
      · exact pick_mem hr p hp
    · cases h

/-- Some of the blocks, in another order. -/
theorem own_sub {l' : Bl} (ok : Ok I G (keys l)) (nd : (keys l').Nodup) (hm : ∀ p ∈ l', p ∈ l) : (own A l' G).le (own A l G) := by
  unfold own
  refine Ar.put_le fun b o hb => ?_
  by_cases hk : b ∈ keys l'
  · obtain ⟨⟨b', o'⟩, h1, rfl⟩ := List.mem_map.1 hk
    obtain ⟨i, hi⟩ := List.mem_iff_getElem?.1 h1
    rw [putL_get G nd hi] at hb
    cases hb
    obtain ⟨j, hj⟩ := List.mem_iff_getElem?.1 (hm _ h1)
    exact putL_get G ok.nd hj
  · rw [putL_out hk] at hb
    rw [putL_out]
    · exact hb
    · intro h; rw [ok.no b h] at hb; cases hb
theorem Ok.sub {ks ks' : List Nat} (ok : Ok I G ks) (nd : ks'.Nodup) (h : ∀ b ∈ ks', b ∈ ks) : Ok I G ks' := ⟨nd, fun b hb => ok.out b (h b hb), fun b hb => ok.no b (h b hb)⟩
theorem Ok.pick (is : List Nat) {l' : Bl} (ok : Ok I G (keys l)) (h : pick l is = some l') (nd : is.Nodup) : Ok I G (keys l') := by
  refine ok.sub ?_ fun b hb => ?_
  · have key : ∀ (is : List Nat) (l' : Bl), Proofs.Ytfphgiipekkgdaa.pick l is = some l' → is.Nodup → (keys l').Nodup ∧ ∀ b ∈ keys l', ∃ i ∈ is, (l[i]?).map Prod.fst = some b := by
      intro is
      induction is with
      | nil => intro l' h _; cases h; exact ⟨by simp [keys], by simp [keys]⟩
      | cons i is ih =>
        intro l' h nd
        simp only [Proofs.Ytfphgiipekkgdaa.pick] at h
        split at h
        · rename_i x r hx hr
          cases h
          obtain ⟨h1, h2⟩ := List.nodup_cons.1 nd
          obtain ⟨h3, h4⟩ := ih r hr h2
          refine ⟨?_, ?_⟩
          · simp only [keys, List.map_cons, List.nodup_cons]
            refine ⟨fun hm => ?_, h3⟩
            obtain ⟨j, hj, he⟩ := h4 x.1 hm
            have : i = j := by
              have n := ok.nd
              cases hlj : l[j]? with
              | none => rw [hlj] at he; cases he
              | some y =>
                rw [hlj] at he
                simp only [Option.map_some, Option.some.injEq] at he
                have hi1 : (keys l)[i]? = some x.1 := by simp [keys, hx]
                have hj1 : (keys l)[j]? = some x.1 := by simp [keys, hlj, he]
                exact (List.getElem?_inj (by
                  have := List.getElem?_eq_some_iff.1 hi1
                  exact this.1) n).1 (hi1.trans hj1.symm)
            exact h1 (this ▸ hj)
          · intro b hb
            simp only [keys, List.map_cons, List.mem_cons] at hb
            rcases hb with rfl | hb
            · exact ⟨i, List.mem_cons_self, by rw [hx]; rfl⟩
            · obtain ⟨j, hj, he⟩ := h4 b hb
              exact ⟨j, List.mem_cons_of_mem _ hj, he⟩
        · cases h
    exact (key is l' h nd).1
  · obtain ⟨p, hp, rfl⟩ := List.mem_map.1 hb
    exact List.mem_map.2 ⟨p, pick_mem h p hp, rfl⟩
theorem own_pick (is : List Nat) {l' : Bl} (ok : Ok I G (keys l)) (h : pick l is = some l') (nd : is.Nodup) : (own A l' G).le (own A l G) := own_sub ok (ok.pick is h nd).nd (pick_mem h)

theorem own_le {K : Heap} (h : G.le K) (hg : ∀ b ∈ keys l, G b = none) : (own A l G).le (own A l K) := by
  unfold own
  refine Ar.put_le ?_
  intro b o hb
  by_cases hm : b ∈ keys l
  · have : ∀ (l : Bl), b ∈ keys l → putL l G b = putL l K b := by
      intro l hb
      induction l with
      | nil => simp [keys] at hb
      | cons q l ih2 =>
        show (putL l G).set q.1 q.2 b = (putL l K).set q.1 q.2 b
        by_cases e2 : b = q.1
        · subst e2; rw [Heap.set_same, Heap.set_same]
        · rw [Heap.set_ne _ _ e2, Heap.set_ne _ _ e2]
          simp only [keys, List.map_cons, List.mem_cons] at hb
          exact ih2 (hb.resolve_left e2)
    rw [← this l hm]; exact hb
  · rw [putL_out hm] at hb ⊢; exact h b o hb
end

/-! ### What a leaf's value is -/

def Lf.dec : (l : Leaf) → Value → Option l.T
  | .int k, .int k' n => if k = k' then some n else none
  | .bool, .bool b => some b
  | .ptr, .pointer p => some p
  | .addr, .pointer (some a) => some a
  | .slice, .slice a n c => some ⟨a, n, c⟩
  | .map, .map r => some r
  | .val, v => some v
  | _, _ => none

theorem Lf.dec_ok {l : Leaf} {v : Value} {x : l.T} (h : Lf.dec l v = some x) : v = l.toVal x := by
  cases l <;> cases v <;> simp only [Lf.dec] at h
  all_goals first
    | (cases h; done)
    | (cases h; rfl)
    | (split at h
       · rename_i e; cases h; rw [← e]
       · cases h)
    | (rename_i p; cases p
       · cases h
       · cases h; rfl)

def Lf.decs : (ls : List Leaf) → List Value → Option (HL Leaf.T ls)
  | [], _ => some ()
  | l :: ls, v :: vs => match Lf.dec l v, Lf.decs ls vs with
    | some x, some y => some (x, y)
    | _, _ => none
  | _ :: _, [] => none

theorem Lf.decs_ok : ∀ {ls : List Leaf} {vs : List Value} {x : HL Leaf.T ls}, Lf.decs ls vs = some x → ls.length ≤ vs.length ∧ vs.take ls.length = HL.vals Leaf.toVal ls x
  | [], vs, x, h => ⟨by simp, by simp [HL.vals]⟩
  | l :: ls, [], x, h => by simp [Lf.decs] at h
  | l :: ls, v :: vs, x, h => by
    simp only [Lf.decs] at h
    split at h
    · rename_i a b ha hb
      cases h
      obtain ⟨h1, h2⟩ := Lf.decs_ok hb
      refine ⟨by simp; exact h1, ?_⟩
      simp only [List.length_cons, List.take_succ_cons, h2, HL.vals, Lf.dec_ok ha]
    · cases h

/-! ### A tree's words on blocks -/

section
variable {L : Hands} {G : Heap} {R : Value → Heap → Prop} {A : Ar} {I : List Nat} {l : Bl}

theorem w_ld (i : Nat) {a : Addr} {b n : Nat} {T : TypeId} {c : List Value} {lf : Leaf} {k : lf.T → Tree} {x : lf.T} (hA : Aw I A) (ok : Ok I G (keys l)) (ha : a = ⟨b, n, none⟩) (hi : l[i]? = some (b, oc T c)) (hx : (c[n]?).bind (Lf.dec lf) = some x)
    (h : wp Try.prog (k x) L (own A l G) R) : wp Try.prog (.ld a lf k) L (own A l G) R := by
  subst ha
  refine wp_ld_of (x := x) ?_ h
  rw [Heap.cell_of (own_get hA ok hi)]
  rw [List.getElem?_toArray]
  cases hc : c[n]? with
  | none => rw [hc] at hx; cases hx
  | some v => rw [hc] at hx; exact congrArg some (Lf.dec_ok hx)

theorem w_ldA (i : Nat) {a : Addr} {b n : Nat} {T : TypeId} {c : List Value} {ls : List Leaf} {k : HL Leaf.T ls → Tree} {x : HL Leaf.T ls} (hA : Aw I A) (ok : Ok I G (keys l)) (ha : a = ⟨b, n, none⟩) (hi : l[i]? = some (b, oc T c)) (hx : Lf.decs ls (c.drop n) = some x)
    (h : wp Try.prog (k x) L (own A l G) R) (hn : decide (n ≤ c.length) = true := by rfl) : wp Try.prog (.ldA a ls k) L (own A l G) R := by
  subst ha
  have hn := of_decide_eq_true hn
  obtain ⟨h1, h2⟩ := Lf.decs_ok hx
  rw [List.length_drop] at h1
  refine wp_ldA_of (x := x) (own_get hA ok hi) (by simp; omega) ?_ h
  rw [← h2]; simp [List.extract_eq_take_drop]

theorem w_st (i : Nat) {a : Addr} {b n : Nat} {T : TypeId} {c : List Value} {v : Value} {k : Tree} (hA : Aw I A) (ok : Ok I G (keys l)) (ha : a = ⟨b, n, none⟩) (hi : l[i]? = some (b, oc T c)) (hs : Value.single v = true) (hn : (decide (n < c.length)) = true)
    (h : wp Try.prog k L (own A (l.set i (b, oc T (c.set n v))) G) R) : wp Try.prog (.st a v k) L (own A l G) R := by
  subst ha
  have hn := of_decide_eq_true hn
  refine wp_st_of (u := c[n]) (own_get hA ok hi) (by simp [hn]) hs ?_
  rw [own_set hA ok _ hi]
  have : (c.toArray.setIfInBounds n v) = (c.set n v).toArray := by simp
  rw [this]; exact h

def setAll (c : List Value) : Nat → List Value → List Value
  | _, [] => c
  | n, v :: l => setAll (c.set n v) (n + 1) l

theorem setAll_put (vs : List Value) : ∀ (c : List Value) (n : Nat), putAll c.toArray n vs = (setAll c n vs).toArray := by
  induction vs with
  | nil => intro c n; rfl
  | cons v vs ih => intro c n; simp only [putAll, setAll]; rw [← ih]; simp

theorem w_stA (i : Nat) {a : Addr} {b n : Nat} {T : TypeId} {c : List Value} {vs : List Value} {k : Tree} (hA : Aw I A) (ok : Ok I G (keys l)) (ha : a = ⟨b, n, none⟩) (hi : l[i]? = some (b, oc T c)) (hs : vs.all Value.single = true) (hn : (decide (n + vs.length ≤ c.length)) = true)
    (h : wp Try.prog k L (own A (l.set i (b, oc T (setAll c n vs))) G) R) : wp Try.prog (.stA a vs k) L (own A l G) R := by
  subst ha
  have hn := of_decide_eq_true hn
  refine wp_stA_of (own_get hA ok hi) (by simpa using hn) (fun v hv => List.all_eq_true.1 hs v hv) ?_
  rw [own_set hA ok _ hi, setAll_put]; exact h

theorem w_newP {c : List Value} {T : TypeId} {k : Addr → Tree} (hA : Aw I A) (ok : Ok I G (keys l)) (h : ∀ b, Ok I G (keys ((b, oc T c) :: l)) → wp Try.prog (k ⟨b, 0, none⟩) L (own A ((b, oc T c) :: l) G) R) :
    wp Try.prog (.newP (.cells c.toArray T) k) L (own A l G) R := by
  refine wp_newP fun b hb => ?_
  obtain ⟨h1, h2⟩ := own_new hA ok hb (oc T c)
  show wp Try.prog (k ⟨b, 0, none⟩) L ((own A l G).set b (oc T c)) R
  rw [h2]; exact h b h1

theorem w_newS {c : List Value} {T : TypeId} {n : Nat} {k : Sl → Tree} (hA : Aw I A) (ok : Ok I G (keys l)) (h : ∀ b, Ok I G (keys ((b, oc T c) :: l)) → wp Try.prog (k ⟨some ⟨b, 0, none⟩, n, n⟩) L (own A ((b, oc T c) :: l) G) R) :
    wp Try.prog (.newS (.cells c.toArray T) n k) L (own A l G) R := by
  refine wp_newS fun b hb => ?_
  obtain ⟨h1, h2⟩ := own_new hA ok hb (oc T c)
  show wp Try.prog (k ⟨some ⟨b, 0, none⟩, n, n⟩) L ((own A l G).set b (oc T c)) R
  rw [h2]; exact h b h1

theorem w_newM {k : Option Nat → Tree} (hA : Aw I A) (ok : Ok I G (keys l)) (h : ∀ b, Ok I G (keys ((b, .map #[] 0) :: l)) → wp Try.prog (k (some b)) L (own A ((b, .map #[] 0) :: l) G) R) :
    wp Try.prog (.newM k) L (own A l G) R := by
  refine wp_newM fun b hb => ?_
  obtain ⟨h1, h2⟩ := own_new hA ok hb (.map #[] 0)
  rw [h2]; exact h b h1

theorem w_det {f : FuncId} {args : List Value} {sh : Sh} {k : sh.T → Tree} {x : sh.T} {A' : Ar} (h : Det Try.prog f args (A.put (putL l G)) (sh.toVal x) (A'.put (putL l G))) (hk : wp Try.prog (k x) L (own A' l G) R) : wp Try.prog (.call f args sh k) L (own A l G) R := wp_call_det h hk

theorem w_ck (i : Nat) {a : Addr} {b n : Nat} {T : TypeId} {c : List Value} {v : Value} {t : Tree} (hA : Aw I A) (ok : Ok I G (keys l)) (ha : a = ⟨b, n, none⟩) (hi : l[i]? = some (b, oc T c)) (hx : c[n]? = some v) (h : wp Try.prog t L (own A l G) R) : wp Try.prog (.check (ldS a) v t) L (own A l G) R := by
  subst ha
  refine chk_cell ?_ h
  rw [Heap.cell_of (own_get hA ok hi), List.getElem?_toArray]; exact hx

theorem w_ckn {a : Addr} {t : TypeId} {v : Value} {s : Tree} (hv : v = .pointer (some a)) (h : wp Try.prog s L (own A l G) R) : wp Try.prog (.check (opS Try.prog (.nilCheck (.tmp 0)) t [.pointer (some a)]) v s) L (own A l G) R := by
  subst hv; exact check_val (by rfl) h

theorem w_ret (is : List Nat) {v : Value} {l' : Bl} (ok : Ok I G (keys l)) (h : pick l is = some l') (nd : is.Nodup) (hR : Ok I G (keys l') → R v (own A l' G)) : wp Try.prog (.ret v) L (own A l G) R := ⟨own A l' G, own_pick is ok h nd, hR (ok.pick is h nd)⟩
end
end Go.Proofs.Ytfphgiipekkgdaa

set_option linter.unusedVariables false
set_option maxRecDepth 20000
namespace Go.Proofs.Ytfphgiipekkgdaa
open Go Go.Fw

theorem bornOk_first {A : Ar} {r w : Nat} {fr : Bool} (hm : A.made r w fr) {h : Int} (ho : openOk h = true) (hf : opB h + sizeF (opC h) ≤ w) : A.bornOk h := by
  refine ⟨ho, by rw [hm.words]; simpa using hf, ?_, ?_⟩
  · rw [hm.gens]
    show (0 : Int) < opG h
    unfold opG; rw [ho, if_pos rfl]
    obtain ⟨⟨_, _, h3, _⟩, _⟩ := open_ok ho
    omega
  · intro i _
    rw [hm.busy, List.getD_eq_getElem?_getD, List.getElem?_replicate]
    split <;> rfl

theorem bornOk_next {A : Ar} (hA : A.wf) {h k : Int} (hb : A.bornOk k) (ho : openOk h = true) (hne : opB h ≠ opB k) (hf : opB h + sizeF (opC h) ≤ A.words.length) (hg : alGet A.gens (opB h) = none)
    (hd : opB k + sizeF (opC k) ≤ opB h) (hfree : A.free h) : (A.bornF k).bornOk h := by
  have o1 := opB_nat h
  have o2 := opB_nat k
  have o3 := size_opC k
  refine ⟨ho, by rw [bornF_wl]; exact hf, ?_, ?_⟩
  · rw [bornF_gens, alGet_put, if_neg hne, hg]
    show (0 : Int) < opG h
    unfold opG; rw [ho, if_pos rfl]
    obtain ⟨⟨_, _, h3, _⟩, _⟩ := open_ok ho
    omega
  · intro i hi
    have := hfree i hi
    rw [List.getD_eq_getElem?_getD] at this ⊢
    rw [bornF_busy, setN_get, if_neg (by omega)]
    exact this

end Go.Proofs.Ytfphgiipekkgdaa

set_option linter.unusedVariables false
set_option maxRecDepth 10000
namespace Go.Proofs.Ytfphgiipekkgdaa
open Go Go.Fw
/- magpie/arena.add -/
noncomputable def t_arena_add (p0 : Option Addr) (p1 : Int) : Tree :=
  .call f_arena_load [(.pointer p0)] (.one (.leaf (.int .i64))) fun x7 =>
  .call f_arena_store [(.pointer p0), (.int .i64 (w64 (x7 + p1)))] .unit fun _ =>
  .ret (.int .i64 x7)
theorem t_arena_add_eq (p0 : Option Addr) (p1 : Int) : funcTree Try.prog { quiet := [16, 22, 23, 34, 35, 48, 49, 53, 57, 58, 59, 62, 105], quietTmp := true, fncs := [], ifcs := [] } Try.f82 [(.pointer p0), (.int .i64 p1)] = t_arena_add p0 p1 := by kernel_rfl
theorem t_arena_add_spec {p0 : Option Addr} {p1 : Int} {H : Heap} {R : Value → Heap → Prop} (h : ∀ L, wp Try.prog (t_arena_add p0 p1) L H R) : SpecF Try.prog f_arena_add #[(.pointer p0), (.int .i64 p1)] H R :=
  spec_of_tree (cfg := { quiet := [16, 22, 23, 34, 35, 48, 49, 53, 57, 58, 59, 62, 105], quietTmp := true, fncs := [], ifcs := [] }) Try.func82 fun L => (t_arena_add_eq p0 p1).symm ▸ h L

/- (*magpie/arena.Arena).AddRaw -/
noncomputable def t_arena_Arena_AddRaw (p0 : Option Addr) (p1 : Int) (p2 : Int) : Tree :=
  .call f_arena_Arena_at [(.pointer p0), (.int .i64 p1)] (.one (.leaf .ptr)) fun x9 =>
  .call f_arena_add [(.pointer x9), (.int .i64 p2)] (.one (.leaf (.int .i64))) fun x11 =>
  .ret (.int .i64 x11)
theorem t_arena_Arena_AddRaw_eq (p0 : Option Addr) (p1 : Int) (p2 : Int) : funcTree Try.prog { quiet := [16, 22, 23, 34, 35, 48, 49, 53, 57, 58, 59, 62, 105], quietTmp := true, fncs := [], ifcs := [] } Try.f73 [(.pointer p0), (.int .i64 p1), (.int .i64 p2)] = t_arena_Arena_AddRaw p0 p1 p2 := by kernel_rfl
theorem t_arena_Arena_AddRaw_spec {p0 : Option Addr} {p1 : Int} {p2 : Int} {H : Heap} {R : Value → Heap → Prop} (h : ∀ L, wp Try.prog (t_arena_Arena_AddRaw p0 p1 p2) L H R) : SpecF Try.prog f_arena_Arena_AddRaw #[(.pointer p0), (.int .i64 p1), (.int .i64 p2)] H R :=
  spec_of_tree (cfg := { quiet := [16, 22, 23, 34, 35, 48, 49, 53, 57, 58, 59, 62, 105], quietTmp := true, fncs := [], ifcs := [] }) Try.func73 fun L => (t_arena_Arena_AddRaw_eq p0 p1 p2).symm ▸ h L

/- (*magpie/arena.Arena).Words -/
noncomputable def t_arena_Arena_Words (p0 : Option Addr) : Tree :=
  .look (opS Try.prog (.nilCheck (.tmp 0)) ty_unit [(.pointer p0)]) (.one (.leaf .addr)) fun x4 =>
  .ld (x4.add 1) .slice fun x6 =>
  .ret (.int .i64 ((x6.len : Nat) : Int))
theorem t_arena_Arena_Words_eq (p0 : Option Addr) : funcTree Try.prog { quiet := [16, 22, 23, 34, 35, 48, 49, 53, 57, 58, 59, 62, 105], quietTmp := true, fncs := [], ifcs := [] } Try.f71 [(.pointer p0)] = t_arena_Arena_Words p0 := by kernel_rfl
theorem t_arena_Arena_Words_spec {p0 : Option Addr} {H : Heap} {R : Value → Heap → Prop} (h : ∀ L, wp Try.prog (t_arena_Arena_Words p0) L H R) : SpecF Try.prog f_arena_Arena_Words #[(.pointer p0)] H R :=
  spec_of_tree (cfg := { quiet := [16, 22, 23, 34, 35, 48, 49, 53, 57, 58, 59, 62, 105], quietTmp := true, fncs := [], ifcs := [] }) Try.func71 fun L => (t_arena_Arena_Words_eq p0).symm ▸ h L

end Go.Proofs.Ytfphgiipekkgdaa

set_option linter.unusedVariables false
set_option maxRecDepth 20000
namespace Go.Proofs.Ytfphgiipekkgdaa
open Go Go.Fw

theorem add_none (v : Int) (H : Heap) : Det Try.prog f_arena_add [.pointer none, .int .i64 v] H (.int .i64 0) H := by
  refine t_arena_add_spec fun L => ?_
  unfold t_arena_add
  refine wp_call_det (load_none _) ?_
  exact wp_call_det (x := ()) (store_none _ _) (wp_ret_of ⟨rfl, rfl⟩)

theorem add_some {b n T : Nat} {c : Array Value} {u v : Int} {H : Heap} (hb : H b = some (.cells c T (0, 0))) (hn : c[n]? = some (.int .i64 u)) :
    Det Try.prog f_arena_add [.pointer (some ⟨b, n, none⟩), .int .i64 v] H (.int .i64 u) (H.set b (.cells (c.setIfInBounds n (.int .i64 (w64 (u + v)))) T (0, 0))) := by
  refine t_arena_add_spec fun L => ?_
  unfold t_arena_add
  refine wp_call_det (load_some (x := u) ((Heap.cell_of hb _).trans hn)) ?_
  exact wp_call_det (x := ()) (store_some hb hn) (wp_ret_of ⟨rfl, rfl⟩)

theorem AddRaw_det {A : Ar} (hA : A.wf) (i v : Int) (H : Heap) : Det Try.prog f_arena_Arena_AddRaw [pA A, .int .i64 i, .int .i64 v] (A.put H) (.int .i64 (A.rawF i)) ((A.storeR i (w64 (A.rawF i + v))).put H) := by
  refine t_arena_Arena_AddRaw_spec fun L => ?_
  unfold t_arena_Arena_AddRaw Ar.storeR Ar.rawF
  by_cases hi : A.rawOk i
  · rw [if_pos hi, if_pos hi]
    refine wp_call_det (x := some ⟨A.r, i.toNat, none⟩) (at_ok hA.nd hi H) ?_
    refine wp_call_det (x := A.raw.getD i.toNat 0) (add_some (Ar.at_r (A := A.tick) hA.nd H) (raw_cell hA.nd hi H)) ?_
    exact wp_ret_of ⟨rfl, set_raw (A := A.tick) hA.nd _ _ _⟩
  · rw [if_neg hi, if_neg hi]
    refine wp_call_det (x := none) (at_bad hA.nd hi H) ?_
    exact wp_call_det (x := (0 : Int)) (add_none _ _) (wp_ret_of ⟨rfl, rfl⟩)

end Go.Proofs.Ytfphgiipekkgdaa

set_option linter.unusedVariables false
set_option maxRecDepth 20000
namespace Go.Proofs.Ytfphgiipekkgdaa
open Go Go.Fw

theorem Words_det {A : Ar} (H : Heap) : Det Try.prog f_arena_Arena_Words [pA A] (A.put H) (.int .i64 A.words.length) (A.put H) := by
  refine t_arena_Arena_Words_spec fun L => ?_
  unfold t_arena_Arena_Words
  exact wp_nil.2 (wp_fld (x := Sl.mk (some ⟨A.w, 0, none⟩) A.words.length A.words.length) (n := 1) (wp_ret_of ⟨rfl, rfl⟩))
end Go.Proofs.Ytfphgiipekkgdaa

set_option linter.unusedVariables false
set_option maxRecDepth 20000
namespace Go.Proofs.Ytfphgiipekkgdaa
open Go Go.Fw

@[reducible] def aI (I : List Nat) : Option Addr := some ⟨I.headD 0, 0, none⟩
theorem Aw.pA {I : List Nat} {A : Ar} (h : Aw I A) : .pointer (aI I) = pA A := by unfold Proofs.Ytfphgiipekkgdaa.pA aI; rw [← h.ids]; rfl
theorem Aw.of {I : List Nat} {A B : Ar} (h : Aw I A) (al : Ar.Alike A B) (w : B.wf) : Aw I B := ⟨w, al.ids.trans h.ids⟩

def Ar.bornX (A : Ar) (h : Int) : Ar := if A.bornOk h then A.bornF h else A

section
variable {L : Hands} {R : Value → Heap → Prop} {A : Ar} {I : List Nat} {l : Bl} {G : Heap}

theorem Aw.touchR (h : Aw I A) (i : Int) : Aw I (A.touchR i) := h.of (touchR_alike A i) (touchR_wf h.wf i)
theorem Aw.storeR (h : Aw I A) (i v : Int) : Aw I (A.storeR i v) := h.of (storeR_alike A i v) (storeR_wf h.wf i v)
theorem Aw.swapR (h : Aw I A) (i v w : Int) : Aw I (A.swapR i v w) := h.of (swapR_alike A i v w) (swapR_wf h.wf i v w)
theorem Aw.touch (h : Aw I A) (k i : Int) : Aw I (A.touch k i) := h.of (touch_alike A k i) (touch_wf h.wf k i)
theorem Aw.storeF (h : Aw I A) (k i v : Int) : Aw I (A.storeF k i v) := h.of (storeF_alike A k i v) (storeF_wf h.wf k i v)
theorem Aw.retireF (h : Aw I A) (k : Int) : Aw I (A.retireF k) := h.of (retireF_alike A k) (retireF_wf h.wf k)
theorem Aw.diedF (h : Aw I A) (k : Int) : Aw I (A.diedF k) := h.of (diedF_alike A k) (diedF_wf h.wf k)
theorem Aw.bornX (h : Aw I A) (k : Int) : Aw I (A.bornX k) := by
  unfold Ar.bornX; split
  · rename_i e; exact h.of (bornF_alike A k) (bornF_wf h.wf k e.2.1)
  · exact h

theorem w_Raw {i : Int} {k : Int → Tree} (hA : Aw I A) (h : Aw I (A.touchR i) → wp Try.prog (k (A.rawF i)) L (own (A.touchR i) l G) R) :
    wp Try.prog (.call f_arena_Arena_Raw [.pointer (aI I), .int .i64 i] (.one (.leaf (.int .i64))) k) L (own A l G) R :=
  wp_call_det (x := A.rawF i) (by rw [hA.pA]; exact Raw_det hA.wf i _) (h (hA.touchR i))
theorem w_SetRaw {i v : Int} {k : Unit → Tree} (hA : Aw I A) (h : Aw I (A.storeR i v) → wp Try.prog (k ()) L (own (A.storeR i v) l G) R) :
    wp Try.prog (.call f_arena_Arena_SetRaw [.pointer (aI I), .int .i64 i, .int .i64 v] .unit k) L (own A l G) R :=
  wp_call_det (x := ()) (by rw [hA.pA]; exact SetRaw_det hA.wf i v _) (h (hA.storeR i v))
theorem w_SwapRaw {i v w : Int} {k : Bool → Tree} (hA : Aw I A) (h : Aw I (A.swapR i v w) → wp Try.prog (k (A.swapRb i v)) L (own (A.swapR i v w) l G) R) :
    wp Try.prog (.call f_arena_Arena_SwapRaw [.pointer (aI I), .int .i64 i, .int .i64 v, .int .i64 w] (.one (.leaf .bool)) k) L (own A l G) R :=
  wp_call_det (x := A.swapRb i v) (by rw [hA.pA]; exact SwapRaw_det hA.wf i v w _) (h (hA.swapR i v w))
theorem w_AddRaw {i v : Int} {k : Int → Tree} (hA : Aw I A) (h : Aw I (A.storeR i (w64 (A.rawF i + v))) → wp Try.prog (k (A.rawF i)) L (own (A.storeR i (w64 (A.rawF i + v))) l G) R) :
    wp Try.prog (.call f_arena_Arena_AddRaw [.pointer (aI I), .int .i64 i, .int .i64 v] (.one (.leaf (.int .i64))) k) L (own A l G) R :=
  wp_call_det (x := A.rawF i) (by rw [hA.pA]; exact AddRaw_det hA.wf i v _) (h (hA.storeR i _))
theorem w_Load {b i : Int} {k : Int → Tree} (hA : Aw I A) (h : Aw I (A.touch b i) → wp Try.prog (k (A.loadF b i)) L (own (A.touch b i) l G) R) :
    wp Try.prog (.call f_arena_Arena_Load [.pointer (aI I), .int .i64 b, .int .i64 i] (.one (.leaf (.int .i64))) k) L (own A l G) R :=
  wp_call_det (x := A.loadF b i) (by rw [hA.pA]; exact Load_det hA.wf b i _) (h (hA.touch b i))
theorem w_Store {b i v : Int} {k : Unit → Tree} (hA : Aw I A) (h : Aw I (A.storeF b i v) → wp Try.prog (k ()) L (own (A.storeF b i v) l G) R) :
    wp Try.prog (.call f_arena_Arena_Store [.pointer (aI I), .int .i64 b, .int .i64 i, .int .i64 v] .unit k) L (own A l G) R :=
  wp_call_det (x := ()) (by rw [hA.pA]; exact Store_det hA.wf b i v _) (h (hA.storeF b i v))
theorem w_State {b : Int} {k : Int → Tree} (hA : Aw I A) (h : wp Try.prog (k (A.stF b)) L (own A l G) R) :
    wp Try.prog (.call f_arena_Arena_State [.pointer (aI I), .int .i64 b] (.one (.leaf (.int .i64))) k) L (own A l G) R :=
  wp_call_det (x := A.stF b) (by rw [hA.pA]; exact State_det hA.wf.nd b _) h
theorem w_Retire {b : Int} {k : Bool → Tree} (hA : Aw I A) (h : Aw I (A.retireF b) → wp Try.prog (k (A.turnB b 1)) L (own (A.retireF b) l G) R) :
    wp Try.prog (.call f_arena_Arena_Retire [.pointer (aI I), .int .i64 b] (.one (.leaf .bool)) k) L (own A l G) R :=
  wp_call_det (x := A.turnB b 1) (by rw [hA.pA]; exact Retire_det hA.wf.nd b _) (h (hA.retireF b))
theorem w_Died {b : Int} {k : Bool → Tree} (hA : Aw I A) (h : Aw I (A.diedF b) → wp Try.prog (k (A.turnB b 2)) L (own (A.diedF b) l G) R) :
    wp Try.prog (.call f_arena_Arena_Died [.pointer (aI I), .int .i64 b] (.one (.leaf .bool)) k) L (own A l G) R :=
  wp_call_det (x := A.turnB b 2) (by rw [hA.pA]; exact Died_det hA.wf b _) (h (hA.diedF b))
theorem w_Born {b : Int} {k : Bool → Tree} (hA : Aw I A) (h : Aw I (A.bornX b) → wp Try.prog (k (decide (A.bornOk b))) L (own (A.bornX b) l G) R) :
    wp Try.prog (.call f_arena_Arena_Born [.pointer (aI I), .int .i64 b] (.one (.leaf .bool)) k) L (own A l G) R :=
  wp_call_det (x := decide (A.bornOk b)) (H' := own (A.bornX b) l G) (by
    rw [hA.pA]
    have := Born_det hA.wf b (putL l G)
    unfold own Ar.bornX
    exact this) (h (hA.bornX b))
theorem w_Uses {k : Int → Tree} (hA : Aw I A) (h : wp Try.prog (k A.uses) L (own A l G) R) :
    wp Try.prog (.call f_arena_Arena_Uses [.pointer (aI I)] (.one (.leaf (.int .i64))) k) L (own A l G) R :=
  wp_call_det (x := A.uses) (by rw [hA.pA]; exact Uses_det _) h
theorem w_Fault {k : Bool → Tree} (hA : Aw I A) (h : wp Try.prog (k A.fault) L (own A l G) R) :
    wp Try.prog (.call f_arena_Arena_Fault [.pointer (aI I)] (.one (.leaf .bool)) k) L (own A l G) R :=
  wp_call_det (x := A.fault) (by rw [hA.pA]; exact Fault_det _) h
theorem w_Words {k : Int → Tree} (hA : Aw I A) (h : wp Try.prog (k A.words.length) L (own A l G) R) :
    wp Try.prog (.call f_arena_Arena_Words [.pointer (aI I)] (.one (.leaf (.int .i64))) k) L (own A l G) R :=
  wp_call_det (x := (A.words.length : Int)) (by rw [hA.pA]; exact Words_det _) h
theorem w_Count {k : HL Leaf.T [.int .i64, .int .i64, .int .i64, .int .i64] → Tree} (hA : Aw I A) (h : wp Try.prog (k (A.nC, A.nL, A.nR, A.nF, ())) L (own A l G) R) :
    wp Try.prog (.call f_arena_Arena_Count [.pointer (aI I)] (.one (.agg [.int .i64, .int .i64, .int .i64, .int .i64])) k) L (own A l G) R :=
  wp_call_det (x := (A.nC, A.nL, A.nR, A.nF, ())) (by rw [hA.pA]; exact Count_det _) h

theorem wq_Size {c : Int} {k : Int → Tree} {H : Heap} (h : wp Try.prog (k (sizeF c)) L H R) : wp Try.prog (.qcall f_handle_Size [.int .i64 c] (.one (.leaf (.int .i64))) k) L H R := wp_qcall_det (x := sizeF c) (Size_det _ _) h
theorem wq_Open {b : Int} {k : HL Sh1.T [(.leaf (.int .i64)), (.leaf (.int .i64)), (.leaf (.int .i64)), (.leaf .bool)] → Tree} {H : Heap} (h : wp Try.prog (k (opB b, opG b, opC b, openOk b, ())) L H R) :
    wp Try.prog (.qcall f_handle_Open [.int .i64 b] (.tup [(.leaf (.int .i64)), (.leaf (.int .i64)), (.leaf (.int .i64)), (.leaf .bool)]) k) L H R := wp_qcall_det (x := (opB b, opG b, opC b, openOk b, ())) (Open_all _ _) h
theorem wq_Pack {b g c : Int} {k : Int → Tree} {H : Heap} (h : wp Try.prog (k (packF b g c)) L H R) : wp Try.prog (.qcall f_handle_Pack [.int .i64 b, .int .i64 g, .int .i64 c] (.one (.leaf (.int .i64))) k) L H R := wp_qcall_det (x := packF b g c) (Pack_at _ rfl) h
theorem wq_head {p : Pl} {w c : Int} {k : Int → Tree} {H : Heap} (h : wp Try.prog (k (headF p w c)) L H R) : wp Try.prog (.qcall f_free_Place_head [p.val, .int .i64 w, .int .i64 c] (.one (.leaf (.int .i64))) k) L H R := wp_qcall_det (x := headF p w c) (head_det p w c _) h
end
end Go.Proofs.Ytfphgiipekkgdaa

set_option linter.unusedVariables false
set_option maxRecDepth 20000
namespace Go.Proofs.Ytfphgiipekkgdaa
open Go Go.Fw

theorem keys_append (l k : Bl) : keys (l ++ k) = keys l ++ keys k := by simp [keys]
theorem own_append (A : Ar) (l k : Bl) (G : Heap) : own A (l ++ k) G = own A l (putL k G) := by unfold own; rw [putL_append]

/-- Beside other blocks. -/
theorem Ok.split {I : List Nat} {G : Heap} {ks : List Nat} {k : Bl} (h : Ok I G (ks ++ keys k)) : Ok I (putL k G) ks ∧ Ok I G (keys k) := by
  obtain ⟨n1, n2, n3⟩ := List.nodup_append.1 h.nd
  refine ⟨⟨n1, fun b hb => h.out b (List.mem_append_left _ hb), fun b hb => ?_⟩, ⟨n2, fun b hb => h.out b (List.mem_append_right _ hb), fun b hb => h.no b (List.mem_append_right _ hb)⟩⟩
  rw [putL_out (fun hk => n3 b hb b hk rfl)]
  exact h.no b (List.mem_append_left _ hb)
theorem Ok.join {I : List Nat} {G : Heap} {ks : List Nat} {k : Bl} (h : Ok I (putL k G) ks) (h' : Ok I G (keys k)) : Ok I G (ks ++ keys k) := by
  refine ⟨List.nodup_append.2 ⟨h.nd, h'.nd, fun a ha b hb e => (putL_none (h.no a ha)).1 (e ▸ hb)⟩, fun b hb => ?_, fun b hb => ?_⟩
  · rcases List.mem_append.1 hb with e | e
    · exact h.out b e
    · exact h'.out b e
  · rcases List.mem_append.1 hb with e | e
    · exact (putL_none (h.no b e)).2
    · exact h'.no b e
theorem own_swap {I : List Nat} {A : Ar} {l k : Bl} {G : Heap} (ok : Ok I G (keys l ++ keys k)) : own A (l ++ k) G = own A (k ++ l) G := by
  rw [own_append, own_append]
  unfold own
  rw [putL_comm]
  intro b hb hk
  exact (List.nodup_append.1 ok.nd).2.2 b hb b hk rfl

/-- The first blocks behind the next ones. -/
theorem own_rot {I : List Nat} {A : Ar} {a b c : Bl} {G : Heap} (ok : Ok I G (keys (a ++ (b ++ c)))) : own A (a ++ (b ++ c)) G = own A (b ++ (a ++ c)) G ∧ Ok I G (keys (b ++ (a ++ c))) := by
  have hp : (keys (b ++ (a ++ c))).Perm (keys (a ++ (b ++ c))) := by
    simp only [keys_append]
    rw [← List.append_assoc, ← List.append_assoc]
    exact List.perm_append_comm.append_right _
  refine ⟨?_, ok.sub (hp.nodup_iff.2 ok.nd) fun x hx => hp.subset hx⟩
  unfold own
  rw [putL_append, putL_append, putL_append, putL_append, putL_comm]
  intro x hx hb
  have := ok.nd
  simp only [keys_append] at this
  exact (List.nodup_append.1 this).2.2 x hx x (List.mem_append_left _ hb) rfl

/-- What is made, beside what was. -/
theorem w_make {L : Hands} {R : Value → Heap → Prop} {A : Ar} {I : List Nat} {l : Bl} {G : Heap} {f : FuncId} {args : List Value} {sh : Sh} {k : sh.T → Tree} {J : Type} {bl : J → Bl} {val : J → sh.T}
    (h : ∀ G, SpecF Try.prog f args.toArray (own A [] G) fun v K => ∃ j, v = sh.toVal (val j) ∧ K = own A (bl j) G ∧ Ok I G (keys (bl j))) (ok : Ok I G (keys l))
    (hk : ∀ j, Ok I G (keys (bl j ++ l)) → wp Try.prog (k (val j)) L (own A (bl j ++ l) G) R) : wp Try.prog (.call f args sh k) L (own A l G) R := by
  refine wp_call_of (h (putL l G)) ?_
  rintro v K ⟨j, rfl, rfl, o⟩
  refine ⟨_, rfl, ?_⟩
  rw [← own_append]
  exact hk j (by rw [keys_append]; exact o.join ok)

/-- A call on the first blocks. -/
theorem w_sub {L : Hands} {R : Value → Heap → Prop} {A : Ar} {bl rest : Bl} {G : Heap} {f : FuncId} {args : List Value} {sh : Sh} {k : sh.T → Tree} {R0 : Value → Heap → Prop}
    (h : SpecF Try.prog f args.toArray (own A bl (putL rest G)) R0) (hk : ∀ v K, R0 v K → ∃ x, v = sh.toVal x ∧ wp Try.prog (k x) L K R) : wp Try.prog (.call f args sh k) L (own A (bl ++ rest) G) R := by
  rw [own_append]; exact wp_call_of h hk

/-- A machine: what it is in memory, what a step does. -/
structure Mch (M J : Type) where
  f : FuncId
  addr : J → Nat
  bl : M → J → Bl
  inv : M → Ar → Prop
  step : M → Ar → M × Ar
  fin : M → Bool

def Mch.ok {M J : Type} (X : Mch M J) : Prop := ∀ (I : List Nat) (A : Ar) (G : Heap) (m : M) (j : J), Aw I A → Ok I G (keys (X.bl m j)) → X.inv m A →
  SpecF Try.prog X.f #[.pointer (some ⟨X.addr j, 0, none⟩), .pointer (aI I)] (own A (X.bl m j) G) fun v K => ∃ j', v = .bool (X.fin (X.step m A).1) ∧ K = own (X.step m A).2 (X.bl (X.step m A).1 j') G ∧ X.addr j' = X.addr j ∧
    Ok I G (keys (X.bl (X.step m A).1 j')) ∧ Aw I (X.step m A).2

/-- Alone, to the end. -/
inductive Mch.Runs {M J : Type} (X : Mch M J) : Nat → M → Ar → M → Ar → Prop
  | one {m A} : X.inv m A → (X.step m A).2.uses ≤ w64 (A.uses + 1) → X.fin (X.step m A).1 = true → Runs X 1 m A (X.step m A).1 (X.step m A).2
  | more {n m A m' A'} : X.inv m A → (X.step m A).2.uses ≤ w64 (A.uses + 1) → X.fin (X.step m A).1 = false → Runs X n (X.step m A).1 (X.step m A).2 m' A' → Runs X (n + 1) m A m' A'

/-- How a call of Step through an interface goes. -/
def Mch.inv' {M J : Type} (X : Mch M J) (t : TypeId) : Prop := ∀ (q : Nat) (p : Option Addr), opS Try.prog (.call { callee := .invoke (.tmp 0) "Step", args := #[(.tmp 1)], argTypes := #[ty_p_arena_Arena] }) ty_bool [(.iface t (.pointer (some ⟨q, 0, none⟩))), (.pointer p)] =
    .pure (.enter X.f [.pointer (some ⟨q, 0, none⟩), .pointer p].toArray)
end Go.Proofs.Ytfphgiipekkgdaa

set_option linter.unusedVariables false
set_option maxRecDepth 20000
namespace Go.Proofs.Ytfphgiipekkgdaa
open Go Go.Fw

noncomputable def mPu : Mch Pu (Nat × Nat) where
  f := f_free_Push_Step
  addr := fun j => j.1
  bl := fun m j => [(j.1, pushObj j.2), (j.2, m.obj)]
  inv := fun _ _ => True
  step := fun m A => (m.stepM A, m.stepA A)
  fin := fun m => decide (m.at' = 3)
def mPo : Mch Po (Nat × Nat) where
  f := f_free_Pop_Step
  addr := fun j => j.1
  bl := fun m j => [(j.1, popObj j.2), (j.2, m.obj)]
  inv := fun _ _ => True
  step := fun m A => (m.stepM A, m.stepA A)
  fin := fun m => decide (m.at' = 3)

theorem Aw.Pu {I : List Nat} {A : Ar} (h : Aw I A) (x : Pu) : Aw I (x.stepA A) := by
  unfold Pu.stepA; split
  · exact h.storeR _ _
  · split
    · exact h.swapR _ _ _
    · split
      · exact h
      · exact h.touchR _
theorem Aw.Po {I : List Nat} {A : Ar} (h : Aw I A) (x : Po) : Aw I (x.stepA A) := by
  unfold Po.stepA; split
  · exact h.touchR _
  · split
    · exact h.swapR _ _ _
    · split
      · exact h
      · exact h.touchR _
theorem Pu.fin (x : Pu) (A : Ar) : decide ((x.stepM A).at' = 3) = x.stepB A := by
  unfold Pu.stepM Pu.stepB
  by_cases h1 : x.at' = 1
  · rw [if_pos h1, if_neg (by omega)]
    have : ¬ x.at' = 3 := by omega
    rw [decide_eq_false this]; rfl
  · rw [if_neg h1]
    by_cases h2 : x.at' = 2
    · rw [if_pos h2, if_pos h2]; cases A.swapRb x.head x.was <;> rfl
    · rw [if_neg h2, if_neg h2]
      by_cases h3 : x.at' = 3
      · rw [if_pos h3]
      · rw [if_neg h3, decide_eq_false h3]; rfl
theorem Po.fin (x : Po) (A : Ar) : decide ((x.stepM A).at' = 3) = x.stepB A := by
  unfold Po.stepM Po.stepB
  by_cases h1 : x.at' = 1
  · rw [if_pos h1, if_pos h1]; rfl
  · rw [if_neg h1, if_neg h1]
    by_cases h2 : x.at' = 2
    · rw [if_pos h2, if_pos h2]; cases A.swapRb x.head x.was <;> rfl
    · rw [if_neg h2, if_neg h2]
      by_cases h3 : x.at' = 3
      · rw [if_pos h3, if_pos h3, decide_eq_true h3]
      · rw [if_neg h3, if_neg h3]
        by_cases h4 : iand (A.rawF x.head) 131071 = 0
        · show decide ((if _ then (3 : Int) else 1) = 3) = _
          rw [if_pos h4, decide_eq_true h4]; rfl
        · show decide ((if _ then (3 : Int) else 1) = 3) = _
          rw [if_neg h4, decide_eq_false h4]; rfl

section
variable {L : Hands} {R : Value → Heap → Prop} {A : Ar} {I : List Nat} {l : Bl} {G : Heap}

theorem out_of (hA : Aw I A) (ok : Ok I G (keys l)) {i q : Nat} {o : Obj} (h : l[i]? = some (q, o)) : q ∉ A.ids := by
  rw [hA.ids]; exact ok.out q (List.mem_map.2 ⟨(q, o), List.mem_of_getElem? h, rfl⟩)

theorem Push_own (hA : Aw I A) (ok : Ok I G (keys l)) (x : Pu) (i0 i1 : Nat) {q0 q1 : Nat} (h0 : l[i0]? = some (q0, pushObj q1)) (h1 : l[i1]? = some (q1, x.obj)) :
    Det Try.prog f_free_Push_Step [.pointer (some ⟨q0, 0, none⟩), .pointer (aI I)] (own A l G) (.bool (x.stepB A)) (own (x.stepA A) (l.set i1 (q1, (x.stepM A).obj)) G) := by
  have := Push_det hA.wf x (out_of hA ok h0) (out_of hA ok h1) (putL_get G ok.nd h0) (putL_get G ok.nd h1)
  rw [putL_set G ok.nd h1] at this
  rw [hA.pA]; exact this
theorem Pop_own (hA : Aw I A) (ok : Ok I G (keys l)) (x : Po) (i0 i1 : Nat) {q0 q1 : Nat} (h0 : l[i0]? = some (q0, popObj q1)) (h1 : l[i1]? = some (q1, x.obj)) :
    Det Try.prog f_free_Pop_Step [.pointer (some ⟨q0, 0, none⟩), .pointer (aI I)] (own A l G) (.bool (x.stepB A)) (own (x.stepA A) (l.set i1 (q1, (x.stepM A).obj)) G) := by
  have := Pop_det hA.wf x (out_of hA ok h0) (out_of hA ok h1) (putL_get G ok.nd h0) (putL_get G ok.nd h1)
  rw [putL_set G ok.nd h1] at this
  rw [hA.pA]; exact this
theorem Base_own (hA : Aw I A) (ok : Ok I G (keys l)) (x : Po) (i0 i1 : Nat) {q0 q1 : Nat} (h0 : l[i0]? = some (q0, popObj q1)) (h1 : l[i1]? = some (q1, x.obj)) :
    Det Try.prog f_free_Pop_Base [.pointer (some ⟨q0, 0, none⟩)] (own A l G) (.tuple #[.int .i64 x.base, .bool x.ok]) (own A l G) :=
  Base_det x (out_of hA ok h0) (out_of hA ok h1) (putL_get G ok.nd h0) (putL_get G ok.nd h1)

theorem w_PushStep (i0 i1 : Nat) {q0 q1 : Nat} {x : Pu} {k : Bool → Tree} (hA : Aw I A) (ok : Ok I G (keys l)) (h0 : l[i0]? = some (q0, pushObj q1)) (h1 : l[i1]? = some (q1, x.obj))
    (h : Aw I (x.stepA A) → wp Try.prog (k (x.stepB A)) L (own (x.stepA A) (l.set i1 (q1, (x.stepM A).obj)) G) R) :
    wp Try.prog (.call f_free_Push_Step [.pointer (some ⟨q0, 0, none⟩), .pointer (aI I)] (.one (.leaf .bool)) k) L (own A l G) R := wp_call_det (x := x.stepB A) (Push_own hA ok x i0 i1 h0 h1) (h (hA.Pu x))
theorem w_PopStep (i0 i1 : Nat) {q0 q1 : Nat} {x : Po} {k : Bool → Tree} (hA : Aw I A) (ok : Ok I G (keys l)) (h0 : l[i0]? = some (q0, popObj q1)) (h1 : l[i1]? = some (q1, x.obj))
    (h : Aw I (x.stepA A) → wp Try.prog (k (x.stepB A)) L (own (x.stepA A) (l.set i1 (q1, (x.stepM A).obj)) G) R) :
    wp Try.prog (.call f_free_Pop_Step [.pointer (some ⟨q0, 0, none⟩), .pointer (aI I)] (.one (.leaf .bool)) k) L (own A l G) R := wp_call_det (x := x.stepB A) (Pop_own hA ok x i0 i1 h0 h1) (h (hA.Po x))
theorem w_Base (i0 i1 : Nat) {q0 q1 : Nat} {x : Po} {k : HL Sh1.T [(.leaf (.int .i64)), (.leaf .bool)] → Tree} (hA : Aw I A) (ok : Ok I G (keys l)) (h0 : l[i0]? = some (q0, popObj q1)) (h1 : l[i1]? = some (q1, x.obj))
    (h : wp Try.prog (k (x.base, x.ok, ())) L (own A l G) R) :
    wp Try.prog (.call f_free_Pop_Base [.pointer (some ⟨q0, 0, none⟩)] (.tup [(.leaf (.int .i64)), (.leaf .bool)]) k) L (own A l G) R := wp_call_det (x := (x.base, x.ok, ())) (Base_own hA ok x i0 i1 h0 h1) h

theorem ok2 (hA : Aw I A) (ok : Ok I G (keys l)) {q0 q1 : Nat} {o0 o1 : Obj} (h0 : own A l G q0 = none) (h1 : own A l G q1 = none) (hn : q0 ≠ q1) :
    Ok I G (keys ((q0, o0) :: (q1, o1) :: l)) ∧ ((own A l G).set q1 o1).set q0 o0 = own A ((q0, o0) :: (q1, o1) :: l) G := by
  obtain ⟨a1, a2⟩ := own_new hA ok h1 o1
  have : own A ((q1, o1) :: l) G q0 = none := by rw [← a2, Heap.set_ne _ _ hn]; exact h0
  obtain ⟨b1, b2⟩ := own_new hA a1 this o0
  exact ⟨b1, by rw [a2, b2]⟩

theorem w_NewPop {p : Pl} {w c : Int} {k : Option Addr → Tree} (hA : Aw I A) (ok : Ok I G (keys l)) (h : ∀ q0 q1, Ok I G (keys ((q0, popObj q1) :: (q1, Po.obj ⟨p, headF p w c, 0, 0, 0, 0, false⟩) :: l)) →
      wp Try.prog (k (some ⟨q0, 0, none⟩)) L (own A ((q0, popObj q1) :: (q1, Po.obj ⟨p, headF p w c, 0, 0, 0, 0, false⟩) :: l) G) R) :
    wp Try.prog (.call f_free_NewPop [p.val, .int .i64 w, .int .i64 c] (.one (.leaf .ptr)) k) L (own A l G) R := by
  refine wp_call_of (NewPop_spec p w c _) ?_
  rintro v K ⟨q0, q1, h0, h1, hn, rfl, rfl⟩
  obtain ⟨a, b⟩ := ok2 hA ok (o0 := popObj q1) (o1 := Po.obj ⟨p, headF p w c, 0, 0, 0, 0, false⟩) h0 h1 hn
  exact ⟨_, rfl, by rw [b]; exact h q0 q1 a⟩
theorem w_NewPush {p : Pl} {w c b : Int} {k : Option Addr → Tree} (hA : Aw I A) (ok : Ok I G (keys l)) (h : ∀ q0 q1, Ok I G (keys ((q0, pushObj q1) :: (q1, Pu.obj ⟨p, headF p w c, 0, 0, b⟩) :: l)) →
      wp Try.prog (k (some ⟨q0, 0, none⟩)) L (own A ((q0, pushObj q1) :: (q1, Pu.obj ⟨p, headF p w c, 0, 0, b⟩) :: l) G) R) :
    wp Try.prog (.call f_free_NewPush [p.val, .int .i64 w, .int .i64 c, .int .i64 b] (.one (.leaf .ptr)) k) L (own A l G) R := by
  refine wp_call_of (NewPush_spec p w c b _) ?_
  rintro v K ⟨q0, q1, h0, h1, hn, rfl, rfl⟩
  obtain ⟨a, e⟩ := ok2 hA ok (o0 := pushObj q1) (o1 := Pu.obj ⟨p, headF p w c, 0, 0, b⟩) h0 h1 hn
  exact ⟨_, rfl, by rw [e]; exact h q0 q1 a⟩
end

theorem mPu_ok : mPu.ok := fun I A G m j hA ok _ => by
  refine SpecF.mono (Push_own (l := [(j.1, pushObj j.2), (j.2, m.obj)]) hA ok m 0 1 rfl rfl) ?_
  rintro v K ⟨rfl, rfl⟩
  exact ⟨j, by rw [← m.fin A]; rfl, rfl, rfl, ok, hA.Pu m⟩
theorem mPo_ok : mPo.ok := fun I A G m j hA ok _ => by
  refine SpecF.mono (Pop_own (l := [(j.1, popObj j.2), (j.2, m.obj)]) hA ok m 0 1 rfl rfl) ?_
  rintro v K ⟨rfl, rfl⟩
  exact ⟨j, by rw [← m.fin A]; rfl, rfl, rfl, ok, hA.Po m⟩
theorem mPu_inv : mPu.inv' ty_p_free_Push := inv_Push
theorem mPo_inv : mPo.inv' ty_p_free_Pop := inv_Pop
end Go.Proofs.Ytfphgiipekkgdaa

set_option linter.unusedVariables false
set_option maxRecDepth 20000
namespace Go.Proofs.Ytfphgiipekkgdaa
open Go Go.Fw

/-- A list whose links are as they were. -/
theorem chain_frame {A B : Ar} {lk : Int} (hr : ∀ i, B.rawOk i ↔ A.rawOk i) : ∀ (l : List Int) (f : Int), (∀ x ∈ l, B.rawF (lk + x / 8) = A.rawF (lk + x / 8)) → chain A lk f l → chain B lk f l
  | [], f, _, hc => hc
  | b :: l, f, h, hc => by
    obtain ⟨h1, h2, h3, h4, h5⟩ := hc
    have e : lk + f - 1 = lk + b / 8 := by omega
    refine ⟨h1, h2, h3, (hr _).2 h4, ?_⟩
    have hb := h b List.mem_cons_self
    rw [← e] at hb
    rw [hb]
    exact chain_frame hr l _ (fun x hx => h x (List.mem_cons_of_mem _ hx)) h5

theorem chain_head {A : Ar} {lk f : Int} {l : List Int} (h : chain A lk f l) : f = match l with | [] => 0 | b :: _ => b / 8 + 1 := by
  cases l with
  | nil => exact h
  | cons b l => obtain ⟨h1, h2, h3, _⟩ := h; show f = b / 8 + 1; omega

/-- A base is pushed. -/
theorem chain_push {A : Ar} {lk hd b f : Int} {l : List Int} (hc : chain A lk f l) (hf : iand (A.rawF hd) 131071 = f) (f0 : 0 ≤ f ∧ f < 131072) (b0 : 0 ≤ b ∧ b ≤ 800000 ∧ b % 8 = 0) (o1 : A.rawOk hd) (o2 : A.rawOk (lk + b / 8)) (hne : hd ≠ lk + b / 8) (h0 : 0 ≤ A.rawF hd ∧ A.rawF hd < 4611686018427387904)
    (hl : ∀ x ∈ l, x ≠ b ∧ x % 8 = 0 ∧ A.rawOk (lk + x / 8) ∧ lk + x / 8 ≠ hd) :
    chain (A.pushed hd (lk + b / 8) b) lk (iand ((A.pushed hd (lk + b / 8) b).rawF hd) 131071) (b :: l) ∧ (A.pushed hd (lk + b / 8) b).rawF hd = (A.rawF hd / 131072 + 1) * 131072 + (b / 8 + 1) := by
  have td : Int.tdiv b 8 = b / 8 := Int.tdiv_eq_ediv_of_nonneg b0.1
  have e1 : w64 (w64 (Int.tdiv b 8) + 1) = b / 8 + 1 := by rw [td, w64_in (x := b / 8) (by omega) (by omega), w64_in (by omega) (by omega)]
  have eh : (A.pushed hd (lk + b / 8) b).rawF hd = (A.rawF hd / 131072 + 1) * 131072 + (b / 8 + 1) := by
    rw [rawF_pushed o1 o2 o1, if_pos rfl, e1, nextF_eq h0.1 h0.2 (by omega) (by omega)]
  refine ⟨?_, eh⟩
  rw [eh, mask17]
  have em : ((A.rawF hd / 131072 + 1) * 131072 + (b / 8 + 1)) % 131072 = b / 8 + 1 := by omega
  rw [em]
  have el : (A.pushed hd (lk + b / 8) b).rawF (lk + b / 8) = f := by
    rw [rawF_pushed o1 o2 o2, if_neg (Ne.symm hne), if_pos rfl, hf]
  refine ⟨by omega, by omega, by omega, ?_, ?_⟩
  · rw [show lk + (b / 8 + 1) - 1 = lk + b / 8 by omega]; exact pushed_ok.2 o2
  · rw [show lk + (b / 8 + 1) - 1 = lk + b / 8 by omega, el]
    refine chain_frame (fun i => pushed_ok) l f (fun x hx => ?_) hc
    obtain ⟨h1, h2, h3, h4⟩ := hl x hx
    rw [rawF_pushed o1 o2 h3, if_neg h4, if_neg (by omega)]

/-- The first base is popped. -/
theorem chain_pop {A : Ar} {lk hd b : Int} {l : List Int} (hc : chain A lk (iand (A.rawF hd) 131071) (b :: l)) (o1 : A.rawOk hd) (h0 : 0 ≤ A.rawF hd ∧ A.rawF hd < 4611686018427387904)
    (hl : ∀ x ∈ b :: l, x % 8 = 0 ∧ 0 ≤ x ∧ x ≤ 800000 ∧ A.rawOk (lk + x / 8) ∧ lk + x / 8 ≠ hd) :
    iand (A.rawF hd) 131071 = b / 8 + 1 ∧ chain (A.popped hd (lk + b / 8)) lk (iand ((A.popped hd (lk + b / 8)).rawF hd) 131071) l ∧
    (A.popped hd (lk + b / 8)).rawF hd = (A.rawF hd / 131072 + 1) * 131072 + A.rawF (lk + b / 8) ∧ 0 ≤ A.rawF (lk + b / 8) ∧ A.rawF (lk + b / 8) < 131072 := by
  obtain ⟨h1, h2, h3, h4, h5⟩ := hc
  have hf : iand (A.rawF hd) 131071 = b / 8 + 1 := by omega
  have ei : lk + iand (A.rawF hd) 131071 - 1 = lk + b / 8 := by omega
  rw [ei] at h4 h5
  have hh := chain_head h5
  have bd : 0 ≤ A.rawF (lk + b / 8) ∧ A.rawF (lk + b / 8) < 131072 := by
    cases l with
    | nil => rw [show A.rawF (lk + b / 8) = 0 from hh]; omega
    | cons y l =>
      have := hl y (by simp)
      rw [show A.rawF (lk + b / 8) = y / 8 + 1 from hh]; omega
  have eh : (A.popped hd (lk + b / 8)).rawF hd = (A.rawF hd / 131072 + 1) * 131072 + A.rawF (lk + b / 8) := by
    rw [rawF_popped o1 o1, if_pos rfl, nextF_eq h0.1 h0.2 bd.1 bd.2]
  refine ⟨hf, ?_, eh, bd.1, bd.2⟩
  rw [eh, mask17]
  have em : ((A.rawF hd / 131072 + 1) * 131072 + A.rawF (lk + b / 8)) % 131072 = A.rawF (lk + b / 8) := by omega
  rw [em]
  refine chain_frame (fun i => popped_ok) l _ (fun x hx => ?_) h5
  obtain ⟨g1, g2, g3, g4, g5⟩ := hl x (List.mem_cons_of_mem _ hx)
  rw [rawF_popped o1 g4, if_neg g5]
end Go.Proofs.Ytfphgiipekkgdaa

set_option linter.unusedVariables false
set_option maxRecDepth 20000
namespace Go.Proofs.Ytfphgiipekkgdaa
open Go Go.Fw

/-! ### Lists of free slots, by what they have -/

def upd (ch : Int → List Int) (k : Int) (l : List Int) : Int → List Int := fun j => if j = k then l else ch j

/-- Each list's words: heads, links. -/
structure FL (A : Ar) (p : Pl) (w n : Int) (ch : Int → List Int) : Prop where
  heads : p.heads = 0
  links : p.links = 4 * w
  wb : 0 ≤ w ∧ w ≤ 1000
  nb : 0 ≤ n ∧ n ≤ 10000
  len : 4 * w + n ≤ A.raw.length
  us : 0 ≤ A.uses
  hd : ∀ k, 0 ≤ k → k < 4 * w → 0 ≤ A.rawF k ∧ A.rawF k / 131072 ≤ A.uses
  chn : ∀ k, 0 ≤ k → k < 4 * w → chain A (4 * w) (A.rawF k % 131072) (ch k)
  mem : ∀ k b, b ∈ ch k → 0 ≤ b ∧ b % 8 = 0 ∧ b / 8 < n
  nd : ∀ k, (ch k).Nodup
  dj : ∀ k j b, b ∈ ch k → b ∈ ch j → k = j
  rg : ∀ k, ch k ≠ [] → 0 ≤ k ∧ k < 4 * w

section
variable {A B : Ar} {p : Pl} {w n : Int} {ch : Int → List Int}

theorem FL.hdOk (F : FL A p w n ch) {k : Int} (h0 : 0 ≤ k) (h1 : k < 4 * w) : A.rawOk k := ⟨h0, by have := F.len; have := F.nb; omega⟩
theorem FL.lkOk (F : FL A p w n ch) {b : Int} (h0 : 0 ≤ b) (h1 : b / 8 < n) : A.rawOk (4 * w + b / 8) := ⟨by have := F.wb; omega, by have := F.len; omega⟩
theorem FL.first_nil (F : FL A p w n ch) {k : Int} (h0 : 0 ≤ k) (h1 : k < 4 * w) (h : ch k = []) : A.rawF k % 131072 = 0 := by
  have := F.chn k h0 h1; rw [h] at this; exact this
theorem FL.first_cons (F : FL A p w n ch) {k b : Int} {l : List Int} (h0 : 0 ≤ k) (h1 : k < 4 * w) (h : ch k = b :: l) : A.rawF k % 131072 = b / 8 + 1 := by
  have := F.chn k h0 h1; rw [h] at this; exact chain_head this

/-- Words elsewhere. -/
theorem FL.congr (F : FL A p w n ch) (hr : ∀ i, 0 ≤ i → i < 4 * w + n → B.rawF i = A.rawF i) (hl : B.raw.length = A.raw.length) (hu : A.uses ≤ B.uses) : FL B p w n ch where
  heads := F.heads
  links := F.links
  wb := F.wb
  nb := F.nb
  len := by rw [hl]; exact F.len
  us := by have := F.us; omega
  hd k h0 h1 := by
    have := F.hd k h0 h1
    have := F.nb
    rw [hr k h0 (by omega)]; omega
  chn k h0 h1 := by
    have := F.nb
    rw [hr k h0 (by omega)]
    refine chain_frame (fun i => by unfold Ar.rawOk; rw [hl]) _ _ (fun x hx => ?_) (F.chn k h0 h1)
    obtain ⟨a, b, c⟩ := F.mem k x hx
    have := F.wb
    exact hr _ (by omega) (by omega)
  mem := F.mem
  nd := F.nd
  dj := F.dj
  rg := F.rg

theorem mod17 {x : Int} : iand x 131071 = x % 131072 := mask17 x

/-- A base is put on a list. -/
theorem FL.push (F : FL A p w n ch) (hu : A.uses ≤ 1000000000) {k b : Int} (h0 : 0 ≤ k) (h1 : k < 4 * w) (hb : 0 ≤ b ∧ b % 8 = 0 ∧ b / 8 < n) (hn : ∀ j, b ∉ ch j) :
    FL (A.pushed k (4 * w + b / 8) b) p w n (upd ch k (b :: ch k)) := by
  have wb := F.wb
  have nb := F.nb
  have o1 := F.hdOk h0 h1
  have o2 := F.lkOk hb.1 hb.2.2
  have hk := F.hd k h0 h1
  have us := F.us
  have td : Int.tdiv b 8 = b / 8 := Int.tdiv_eq_ediv_of_nonneg hb.1
  have e1 : w64 (w64 (Int.tdiv b 8) + 1) = b / 8 + 1 := by rw [td, w64_in (x := b / 8) (by omega) (by omega), w64_in (by omega) (by omega)]
  have hc := chain_push (A := A) (lk := 4 * w) (hd := k) (b := b) (f := A.rawF k % 131072) (l := ch k) (F.chn k h0 h1) mod17 (by omega) (by omega) o1 o2 (by omega) (by omega) (fun x hx => by
    obtain ⟨a1, a2, a3⟩ := F.mem k x hx
    exact ⟨fun e => hn k (e ▸ hx), a2, F.lkOk a1 a3, by omega⟩)
  have hother : ∀ i, i ≠ k → i ≠ 4 * w + b / 8 → A.rawOk i → (A.pushed k (4 * w + b / 8) b).rawF i = A.rawF i := fun i i1 i2 io => by rw [rawF_pushed o1 o2 io, if_neg i1, if_neg i2]
  refine ⟨F.heads, F.links, F.wb, F.nb, ?_, ?_, ?_, ?_, ?_, ?_, ?_, ?_⟩
  · have := F.len; unfold Ar.pushed; simp only [List.length_set]; exact this
  · show 0 ≤ A.uses + 3; omega
  · intro j j0 j1
    show _ ∧ _ ≤ A.uses + 3
    by_cases e : j = k
    · subst e; rw [hc.2]; omega
    · rw [hother j e (by omega) (F.hdOk j0 j1)]; have := F.hd j j0 j1; omega
  · intro j j0 j1
    unfold upd
    by_cases e : j = k
    · subst e; rw [if_pos rfl]; have := hc.1; rw [mod17] at this; exact this
    · rw [if_neg e, hother j e (by omega) (F.hdOk j0 j1)]
      refine chain_frame (fun i => pushed_ok) _ _ (fun x hx => ?_) (F.chn j j0 j1)
      obtain ⟨a1, a2, a3⟩ := F.mem j x hx
      exact hother _ (by omega) (by
        have : x ≠ b := fun e => hn j (e ▸ hx)
        omega) (F.lkOk a1 a3)
  · intro j x hx
    unfold upd at hx
    split at hx
    · rcases List.mem_cons.1 hx with rfl | hx
      · exact hb
      · exact F.mem k x hx
    · exact F.mem j x hx
  · intro j
    unfold upd
    split
    · exact List.nodup_cons.2 ⟨hn k, F.nd k⟩
    · exact F.nd j
  · intro i j x hi hj
    unfold upd at hi hj
    split at hi
    · rename_i ei
      split at hj
      · rename_i ej; omega
      · rcases List.mem_cons.1 hi with rfl | hi
        · exact (hn j hj).elim
        · rw [ei]; exact F.dj k j x hi hj
    · split at hj
      · rename_i ej
        rcases List.mem_cons.1 hj with rfl | hj
        · exact (hn i hi).elim
        · rw [ej]; exact F.dj i k x hi hj
      · exact F.dj i j x hi hj
  · intro j hj
    unfold upd at hj
    split at hj
    · rename_i e; rw [e]; exact ⟨h0, h1⟩
    · exact F.rg j hj

/-- A base is taken from a list. -/
theorem FL.pop (F : FL A p w n ch) (hu : A.uses ≤ 1000000000) {k b : Int} {l : List Int} (hk : ch k = b :: l) :
    FL (A.popped k (4 * w + b / 8)) p w n (upd ch k l) := by
  obtain ⟨h0, h1⟩ := F.rg k (by rw [hk]; simp)
  have wb := F.wb
  have nb := F.nb
  have o1 := F.hdOk h0 h1
  have hm := F.mem k b (by rw [hk]; simp)
  have o2 := F.lkOk hm.1 hm.2.2
  have hkd := F.hd k h0 h1
  have us := F.us
  have hch := F.chn k h0 h1
  rw [hk] at hch
  have hc := chain_pop (A := A) (lk := 4 * w) (hd := k) (b := b) (l := l) (by rw [mod17]; exact hch) o1 (by omega) (fun x hx => by
    obtain ⟨a1, a2, a3⟩ := F.mem k x (by rw [hk]; exact hx)
    exact ⟨a2, a1, by omega, F.lkOk a1 a3, by omega⟩)
  have hother : ∀ i, i ≠ k → A.rawOk i → (A.popped k (4 * w + b / 8)).rawF i = A.rawF i := fun i i1 io => by rw [rawF_popped o1 io, if_neg i1]
  have hsub : ∀ j x, x ∈ upd ch k l j → x ∈ ch j := fun j x hx => by
    unfold upd at hx; split at hx
    · rename_i e; rw [e, hk]; exact List.mem_cons_of_mem _ hx
    · exact hx
  refine ⟨F.heads, F.links, F.wb, F.nb, ?_, ?_, ?_, ?_, ?_, ?_, ?_, ?_⟩
  · have := F.len; unfold Ar.popped; simp only [List.length_set]; exact this
  · show 0 ≤ A.uses + 3; omega
  · intro j j0 j1
    show _ ∧ _ ≤ A.uses + 3
    by_cases e : j = k
    · subst e; rw [hc.2.2.1]; omega
    · rw [hother j e (F.hdOk j0 j1)]; have := F.hd j j0 j1; omega
  · intro j j0 j1
    unfold upd
    by_cases e : j = k
    · subst e; rw [if_pos rfl]; have := hc.2.1; rw [mod17] at this; exact this
    · rw [if_neg e, hother j e (F.hdOk j0 j1)]
      refine chain_frame (fun i => popped_ok) _ _ (fun x hx => ?_) (F.chn j j0 j1)
      obtain ⟨a1, a2, a3⟩ := F.mem j x hx
      exact hother _ (by omega) (F.lkOk a1 a3)
  · exact fun j x hx => F.mem j x (hsub j x hx)
  · intro j
    unfold upd
    split
    · have := F.nd k; rw [hk] at this; exact (List.nodup_cons.1 this).2
    · exact F.nd j
  · exact fun i j x hi hj => F.dj i j x (hsub i x hi) (hsub j x hj)
  · intro j hj
    unfold upd at hj
    split at hj
    · rename_i e; rw [e]; exact ⟨h0, h1⟩
    · exact F.rg j hj

/-- What turns while a base is put on, or taken from, a list. -/
theorem FL.push_other (F : FL A p w n ch) {k b i : Int} (h0 : 0 ≤ k) (h1 : k < 4 * w) (hb : 0 ≤ b ∧ b % 8 = 0 ∧ b / 8 < n) (hi : 4 * w + n ≤ i) : (A.pushed k (4 * w + b / 8) b).rawF i = A.rawF i := by
  have wb := F.wb
  by_cases io : A.rawOk i
  · rw [rawF_pushed (F.hdOk h0 h1) (F.lkOk hb.1 hb.2.2) io, if_neg (by have := F.nb; omega), if_neg (by omega)]
  · unfold Ar.rawF; rw [if_neg io, if_neg (fun h => io (pushed_ok.1 h))]
theorem FL.pop_other (F : FL A p w n ch) {k b i : Int} (h0 : 0 ≤ k) (h1 : k < 4 * w) (hi : 4 * w + n ≤ i) : (A.popped k (4 * w + b / 8)).rawF i = A.rawF i := by
  by_cases io : A.rawOk i
  · rw [rawF_popped (F.hdOk h0 h1) io, if_neg (by have := F.nb; omega)]
  · unfold Ar.rawF; rw [if_neg io, if_neg (fun h => io (popped_ok.1 h))]
end
end Go.Proofs.Ytfphgiipekkgdaa

set_option linter.unusedVariables false
set_option maxRecDepth 20000
namespace Go.Proofs.Ytfphgiipekkgdaa
open Go Go.Fw

/-! ### Steps of a push, of a pop -/
section
variable {A : Ar}

theorem getD_rawF {i : Int} (h : A.rawOk i) : A.raw.getD i.toNat 0 = A.rawF i := by unfold Ar.rawF; rw [if_pos h]

theorem Pu.s0 {x : Pu} (h : x.at' = 0) (o : A.rawOk x.head) : (x.stepM A, x.stepA A) = ({ x with was := A.rawF x.head, at' := 1 }, A.tick) := by
  have n1 : ¬ x.at' = 1 := by omega
  have n2 : ¬ x.at' = 2 := by omega
  have n3 : ¬ x.at' = 3 := by omega
  unfold Pu.stepM Pu.stepA
  simp only [if_neg n1, if_neg n2, if_neg n3, touchR_yes o]
theorem Pu.s1 {x : Pu} (h : x.at' = 1) {lk : Int} (hl : w64 (x.pl.links + w64 (Int.tdiv x.base 8)) = lk) (o : A.rawOk lk) : (x.stepM A, x.stepA A) = ({ x with at' := 2 }, A.tick.setR lk.toNat (iand x.was 131071)) := by
  unfold Pu.stepM Pu.stepA
  simp only [if_pos h, hl]
  unfold Ar.storeR; rw [if_pos o]
theorem Pu.s2y {x : Pu} (h : x.at' = 2) (o : A.rawOk x.head) (e : A.rawF x.head = x.was) : (x.stepM A, x.stepA A) = ({ x with at' := 3 }, A.tick.setR x.head.toNat (nextF x.was (w64 (w64 (Int.tdiv x.base 8) + 1)))) := by
  have n1 : ¬ x.at' = 1 := by omega
  have e' := (getD_rawF o).trans e
  have sb : A.swapRb x.head x.was = true := decide_eq_true ⟨o, e'⟩
  unfold Pu.stepM Pu.stepA
  simp only [if_neg n1, if_pos h, sb, if_true]
  unfold Ar.swapR; rw [if_pos o, if_pos e']
theorem Pu.s2n {x : Pu} (h : x.at' = 2) (o : A.rawOk x.head) (e : A.rawF x.head ≠ x.was) : (x.stepM A, x.stepA A) = ({ x with at' := 0 }, A.tick) := by
  have n1 : ¬ x.at' = 1 := by omega
  have e' : A.raw.getD x.head.toNat 0 ≠ x.was := by rw [getD_rawF o]; exact e
  have sb : A.swapRb x.head x.was = false := decide_eq_false fun h => e' h.2
  unfold Pu.stepM Pu.stepA
  simp only [if_neg n1, if_pos h, sb, Bool.false_eq_true, if_false]
  unfold Ar.swapR; rw [if_pos o, if_neg e']
theorem Pu.s3 {x : Pu} (h : x.at' = 3) : (x.stepM A, x.stepA A) = (x, A) := by
  have n1 : ¬ x.at' = 1 := by omega
  have n2 : ¬ x.at' = 2 := by omega
  unfold Pu.stepM Pu.stepA
  simp only [if_neg n1, if_neg n2, if_pos h]

theorem Po.s0 {x : Po} (h : x.at' = 0) (o : A.rawOk x.head) : (x.stepM A, x.stepA A) = ({ x with was := A.rawF x.head, at' := if A.rawF x.head % 131072 = 0 then 3 else 1 }, A.tick) := by
  have n1 : ¬ x.at' = 1 := by omega
  have n2 : ¬ x.at' = 2 := by omega
  have n3 : ¬ x.at' = 3 := by omega
  unfold Po.stepM Po.stepA
  simp only [if_neg n1, if_neg n2, if_neg n3, touchR_yes o, mask17]
theorem Po.s1 {x : Po} (h : x.at' = 1) {lk : Int} (hl : w64 (w64 (x.pl.links + x.was % 131072) - 1) = lk) (o : A.rawOk lk) : (x.stepM A, x.stepA A) = ({ x with link := A.rawF lk, at' := 2 }, A.tick) := by
  unfold Po.stepM Po.stepA
  simp only [if_pos h, mask17, hl, touchR_yes o]
theorem Po.s2y {x : Po} (h : x.at' = 2) (o : A.rawOk x.head) (e : A.rawF x.head = x.was) : (x.stepM A, x.stepA A) = ({ x with at' := 3, base := w64 (w64 (x.was % 131072 - 1) * 8), ok := true }, A.tick.setR x.head.toNat (nextF x.was x.link)) := by
  have n1 : ¬ x.at' = 1 := by omega
  have e' := (getD_rawF o).trans e
  have sb : A.swapRb x.head x.was = true := decide_eq_true ⟨o, e'⟩
  unfold Po.stepM Po.stepA
  simp only [if_neg n1, if_pos h, sb, if_true, mask17]
  unfold Ar.swapR; rw [if_pos o, if_pos e']
theorem Po.s2n {x : Po} (h : x.at' = 2) (o : A.rawOk x.head) (e : A.rawF x.head ≠ x.was) : (x.stepM A, x.stepA A) = ({ x with at' := 0 }, A.tick) := by
  have n1 : ¬ x.at' = 1 := by omega
  have e' : A.raw.getD x.head.toNat 0 ≠ x.was := by rw [getD_rawF o]; exact e
  have sb : A.swapRb x.head x.was = false := decide_eq_false fun h => e' h.2
  unfold Po.stepM Po.stepA
  simp only [if_neg n1, if_pos h, sb, Bool.false_eq_true, if_false]
  unfold Ar.swapR; rw [if_pos o, if_neg e']
theorem Po.s3 {x : Po} (h : x.at' = 3) : (x.stepM A, x.stepA A) = (x, A) := by
  have n1 : ¬ x.at' = 1 := by omega
  have n2 : ¬ x.at' = 2 := by omega
  unfold Po.stepM Po.stepA
  simp only [if_neg n1, if_neg n2, if_pos h]

theorem tick_uses (h0 : 0 ≤ A.uses) (h : A.uses ≤ 4000000000000000000) : A.tick = A.later 1 := by
  unfold Ar.tick Ar.later; rw [w64_in (by omega) (by omega)]
theorem rawF_tick (i : Int) : A.tick.rawF i = A.rawF i := rfl
theorem rawF_later (n i : Int) : (A.later n).rawF i = A.rawF i := rfl

/-- A push alone. -/
theorem Pu.solo {p : Pl} {w n : Int} {ch : Int → List Int} (F : FL A p w n ch) (hu : A.uses ≤ 1000000000) {k b : Int} (h0 : 0 ≤ k) (h1 : k < 4 * w) (hb : 0 ≤ b ∧ b % 8 = 0 ∧ b / 8 < n) :
    ∃ y : Pu, y.at' = 3 ∧ y.base = b ∧ mPu.Runs 3 ⟨p, k, 0, 0, b⟩ A y (A.pushed k (4 * w + b / 8) b) := by
  have wb := F.wb
  have nb := F.nb
  have us := F.us
  have o1 := F.hdOk h0 h1
  have o2 := F.lkOk hb.1 hb.2.2
  have td : Int.tdiv b 8 = b / 8 := Int.tdiv_eq_ediv_of_nonneg hb.1
  have el : w64 (p.links + w64 (Int.tdiv b 8)) = 4 * w + b / 8 := by rw [td, F.links, w64_in (x := b / 8) (by omega) (by omega), w64_in (by omega) (by omega)]
  have t1 : w64 (A.uses + 1) = A.uses + 1 := w64_in (by omega) (by omega)
  have t2 : w64 (A.uses + 1 + 1) = A.uses + 1 + 1 := w64_in (by omega) (by omega)
  have t3 : w64 (A.uses + 1 + 1 + 1) = A.uses + 1 + 1 + 1 := w64_in (by omega) (by omega)
  have e1 := Pu.s0 (A := A) (x := ⟨p, k, 0, 0, b⟩) rfl o1
  have e2 := Pu.s1 (A := A.tick) (x := ⟨p, k, A.rawF k, 1, b⟩) rfl el o2
  have o3 : (A.tick.tick.setR (4 * w + b / 8).toNat (iand (A.rawF k) 131071)).rawOk k := by
    unfold Ar.rawOk at *; show 0 ≤ k ∧ k < ((A.raw.set _ _).length : Int); rw [List.length_set]; exact o1
  have hhd : (A.tick.tick.setR (4 * w + b / 8).toNat (iand (A.rawF k) 131071)).rawF k = A.rawF k := by
    rw [← getD_rawF o3, ← getD_rawF o1]
    show (A.raw.set _ _).getD k.toNat 0 = _
    rw [List.getD_eq_getElem?_getD, List.getD_eq_getElem?_getD, List.getElem?_set, if_neg (by omega)]
  have e3 := Pu.s2y (A := A.tick.tick.setR (4 * w + b / 8).toNat (iand (A.rawF k) 131071)) (x := ⟨p, k, A.rawF k, 2, b⟩) rfl o3 hhd
  have ef : (A.tick.tick.setR (4 * w + b / 8).toNat (iand (A.rawF k) 131071)).tick.setR k.toNat (nextF (A.rawF k) (w64 (w64 (Int.tdiv b 8) + 1))) = A.pushed k (4 * w + b / 8) b := by
    unfold Ar.pushed Ar.setR Ar.tick
    simp only [t1, t2, t3, Ar.mk.injEq, true_and]
    omega
  rw [ef] at e3
  refine ⟨⟨p, k, A.rawF k, 3, b⟩, rfl, rfl, ?_⟩
  have r3 : mPu.Runs 1 ⟨p, k, A.rawF k, 2, b⟩ (A.tick.tick.setR (4 * w + b / 8).toNat (iand (A.rawF k) 131071)) ⟨p, k, A.rawF k, 3, b⟩ (A.pushed k (4 * w + b / 8) b) := by
    have h := Mch.Runs.one (X := mPu) (m := ⟨p, k, A.rawF k, 2, b⟩) (A := A.tick.tick.setR (4 * w + b / 8).toNat (iand (A.rawF k) 131071)) trivial
    have e3' : mPu.step ⟨p, k, A.rawF k, 2, b⟩ (A.tick.tick.setR (4 * w + b / 8).toNat (iand (A.rawF k) 131071)) = _ := e3
    rw [e3'] at h
    refine h ?_ rfl
    show A.uses + 3 ≤ w64 (w64 (w64 (A.uses + 1) + 1) + 1)
    rw [t1, t2, t3]; omega
  have r2 : mPu.Runs 2 ⟨p, k, A.rawF k, 1, b⟩ A.tick ⟨p, k, A.rawF k, 3, b⟩ (A.pushed k (4 * w + b / 8) b) := by
    have h := Mch.Runs.more (X := mPu) (n := 1) (m := ⟨p, k, A.rawF k, 1, b⟩) (A := A.tick) (m' := ⟨p, k, A.rawF k, 3, b⟩) (A' := A.pushed k (4 * w + b / 8) b) trivial
    have e2' : mPu.step ⟨p, k, A.rawF k, 1, b⟩ A.tick = _ := e2
    rw [e2'] at h
    exact h (Int.le_refl _) rfl r3
  have h := Mch.Runs.more (X := mPu) (n := 2) (m := ⟨p, k, 0, 0, b⟩) (A := A) (m' := ⟨p, k, A.rawF k, 3, b⟩) (A' := A.pushed k (4 * w + b / 8) b) trivial
  have e1' : mPu.step ⟨p, k, 0, 0, b⟩ A = _ := e1
  rw [e1'] at h
  exact h (Int.le_refl _) rfl r2

/-- A pop alone, where there is nothing. -/
theorem Po.solo_none {p : Pl} {w n : Int} {ch : Int → List Int} (F : FL A p w n ch) (hu : A.uses ≤ 1000000000) {k : Int} (h0 : 0 ≤ k) (h1 : k < 4 * w) (hc : ch k = []) :
    ∃ y : Po, y.at' = 3 ∧ y.base = 0 ∧ y.ok = false ∧ mPo.Runs 1 ⟨p, k, 0, 0, 0, 0, false⟩ A y (A.later 1) := by
  have us := F.us
  have e1 := Po.s0 (A := A) (x := ⟨p, k, 0, 0, 0, 0, false⟩) rfl (F.hdOk h0 h1)
  rw [if_pos (F.first_nil h0 h1 hc), tick_uses us (by omega)] at e1
  refine ⟨⟨p, k, A.rawF k, 3, 0, 0, false⟩, rfl, rfl, rfl, ?_⟩
  have h := Mch.Runs.one (X := mPo) (m := ⟨p, k, 0, 0, 0, 0, false⟩) (A := A) trivial
  have e1' : mPo.step ⟨p, k, 0, 0, 0, 0, false⟩ A = _ := e1
  rw [e1'] at h
  refine h ?_ rfl
  show A.uses + 1 ≤ w64 (A.uses + 1)
  rw [w64_in (by omega) (by omega)]; exact Int.le_refl _

/-- A pop alone, where there is something. -/
theorem Po.solo_some {p : Pl} {w n : Int} {ch : Int → List Int} (F : FL A p w n ch) (hu : A.uses ≤ 1000000000) {k b : Int} {l : List Int} (hc : ch k = b :: l) :
    ∃ y : Po, y.at' = 3 ∧ y.base = b ∧ y.ok = true ∧ mPo.Runs 3 ⟨p, k, 0, 0, 0, 0, false⟩ A y (A.popped k (4 * w + b / 8)) := by
  obtain ⟨h0, h1⟩ := F.rg k (by rw [hc]; simp)
  have wb := F.wb
  have nb := F.nb
  have us := F.us
  have o1 := F.hdOk h0 h1
  have hm := F.mem k b (by rw [hc]; simp)
  have o2 := F.lkOk hm.1 hm.2.2
  have hf := F.first_cons h0 h1 hc
  have el : w64 (w64 (p.links + A.rawF k % 131072) - 1) = 4 * w + b / 8 := by rw [hf, F.links, w64_in (x := 4 * w + (b / 8 + 1)) (by omega) (by omega), w64_in (by omega) (by omega)]; omega
  have eb : w64 (w64 (A.rawF k % 131072 - 1) * 8) = b := by rw [hf, w64_in (x := b / 8 + 1 - 1) (by omega) (by omega), w64_in (by omega) (by omega)]; omega
  have t1 : w64 (A.uses + 1) = A.uses + 1 := w64_in (by omega) (by omega)
  have t2 : w64 (A.uses + 1 + 1) = A.uses + 1 + 1 := w64_in (by omega) (by omega)
  have t3 : w64 (A.uses + 1 + 1 + 1) = A.uses + 1 + 1 + 1 := w64_in (by omega) (by omega)
  have e1 := Po.s0 (A := A) (x := ⟨p, k, 0, 0, 0, 0, false⟩) rfl o1
  have n0 : ¬ A.rawF k % 131072 = 0 := by omega
  simp only [if_neg n0] at e1
  have e2 := Po.s1 (A := A.tick) (x := ⟨p, k, A.rawF k, 1, 0, 0, false⟩) rfl el o2
  have e3 := Po.s2y (A := A.tick.tick) (x := ⟨p, k, A.rawF k, 2, A.rawF (4 * w + b / 8), 0, false⟩) rfl o1 rfl
  have ef : A.tick.tick.tick.setR k.toNat (nextF (A.rawF k) (A.rawF (4 * w + b / 8))) = A.popped k (4 * w + b / 8) := by
    unfold Ar.popped Ar.setR Ar.tick
    simp only [t1, t2, t3, Ar.mk.injEq, true_and]
    omega
  have e3' : mPo.step ⟨p, k, A.rawF k, 2, A.rawF (4 * w + b / 8), 0, false⟩ A.tick.tick = (⟨p, k, A.rawF k, 3, A.rawF (4 * w + b / 8), b, true⟩, A.popped k (4 * w + b / 8)) := by
    refine Eq.trans e3 ?_
    rw [ef]
    show (Po.mk p k (A.rawF k) 3 (A.rawF (4 * w + b / 8)) (w64 (w64 (A.rawF k % 131072 - 1) * 8)) true, _) = _
    rw [eb]
  refine ⟨⟨p, k, A.rawF k, 3, A.rawF (4 * w + b / 8), b, true⟩, rfl, rfl, rfl, ?_⟩
  have r3 : mPo.Runs 1 ⟨p, k, A.rawF k, 2, A.rawF (4 * w + b / 8), 0, false⟩ A.tick.tick ⟨p, k, A.rawF k, 3, A.rawF (4 * w + b / 8), b, true⟩ (A.popped k (4 * w + b / 8)) := by
    have h := Mch.Runs.one (X := mPo) (m := ⟨p, k, A.rawF k, 2, A.rawF (4 * w + b / 8), 0, false⟩) (A := A.tick.tick) trivial
    rw [e3'] at h
    refine h ?_ rfl
    show A.uses + 3 ≤ w64 (w64 (w64 (A.uses + 1) + 1) + 1)
    rw [t1, t2, t3]; omega
  have r2 : mPo.Runs 2 ⟨p, k, A.rawF k, 1, 0, 0, false⟩ A.tick ⟨p, k, A.rawF k, 3, A.rawF (4 * w + b / 8), b, true⟩ (A.popped k (4 * w + b / 8)) := by
    have h := Mch.Runs.more (X := mPo) (n := 1) (m := ⟨p, k, A.rawF k, 1, 0, 0, false⟩) (A := A.tick) (m' := ⟨p, k, A.rawF k, 3, A.rawF (4 * w + b / 8), b, true⟩) (A' := A.popped k (4 * w + b / 8)) trivial
    have e2' : mPo.step ⟨p, k, A.rawF k, 1, 0, 0, false⟩ A.tick = _ := e2
    rw [e2'] at h
    exact h (Int.le_refl _) rfl r3
  have h := Mch.Runs.more (X := mPo) (n := 2) (m := ⟨p, k, 0, 0, 0, 0, false⟩) (A := A) (m' := ⟨p, k, A.rawF k, 3, A.rawF (4 * w + b / 8), b, true⟩) (A' := A.popped k (4 * w + b / 8)) trivial
  have e1' : mPo.step ⟨p, k, 0, 0, 0, 0, false⟩ A = _ := e1
  rw [e1'] at h
  exact h (Int.le_refl _) rfl r2
end
end Go.Proofs.Ytfphgiipekkgdaa

set_option linter.unusedVariables false
set_option maxRecDepth 10000
namespace Go.Proofs.Ytfphgiipekkgdaa
open Go Go.Fw
/- magpie/slab.NewAlloc -/
noncomputable def t_slab_NewAlloc (p0_0 : Int) (p0_1 : Int) (p0_2 : Int) (p0_3 : Int) (p0_4 : Int) (p1 : Int) (p2 : Int) : Tree :=
  .newP (.cells #[(.int .i64 p0_0), (.int .i64 p0_1), (.int .i64 p0_2), (.int .i64 p0_3), (.int .i64 p0_4)] ty_free_Place) fun x3 =>
  .ldA x3 [(.int .i64), (.int .i64), (.int .i64), (.int .i64), (.int .i64)] fun x8 =>
  .newP (.cells #[(.pointer none), (.int .i64 x8.1), (.int .i64 x8.2.1), (.int .i64 x8.2.2.1), (.int .i64 x8.2.2.2.1), (.int .i64 x8.2.2.2.2.1), (.int .i64 p1), (.int .i64 p2), (.int .i64 0), (.int .i64 0), (.int .i64 0), (.int .i64 0)] ty_slab_Alloc) fun x12 =>
  .qcall f_handle_Size [(.int .i64 p2)] (.one (.leaf (.int .i64))) fun x14 =>
  bif ((x14 : Int) == 0) then (
    .look (opS Try.prog (.nilCheck (.tmp 0)) ty_unit [(.pointer (some x12))]) (.one (.leaf .addr)) fun x17 =>
    .st (x17.add 9) (.int .i64 4) <|
    .ret (.pointer (some x12)))
  else (
    .ldA x3 [(.int .i64), (.int .i64), (.int .i64), (.int .i64), (.int .i64)] fun x20 =>
    .call f_free_NewPop [(.agg #[(.int .i64 x20.1), (.int .i64 x20.2.1), (.int .i64 x20.2.2.1), (.int .i64 x20.2.2.2.1), (.int .i64 x20.2.2.2.2.1)]), (.int .i64 p1), (.int .i64 p2)] (.one (.leaf .ptr)) fun x23 =>
    .look (opS Try.prog (.nilCheck (.tmp 0)) ty_unit [(.pointer (some x12))]) (.one (.leaf .addr)) fun x24 =>
    .st x24 (.pointer x23) <|
    .ret (.pointer (some x12)))
theorem t_slab_NewAlloc_eq (p0_0 : Int) (p0_1 : Int) (p0_2 : Int) (p0_3 : Int) (p0_4 : Int) (p1 : Int) (p2 : Int) : funcTree Try.prog { quiet := [16, 22, 23, 34, 35, 48, 49, 53, 57, 58, 59, 62, 105], quietTmp := true, fncs := [], ifcs := [] } Try.f19 [(.agg #[(.int .i64 p0_0), (.int .i64 p0_1), (.int .i64 p0_2), (.int .i64 p0_3), (.int .i64 p0_4)]), (.int .i64 p1), (.int .i64 p2)] = t_slab_NewAlloc p0_0 p0_1 p0_2 p0_3 p0_4 p1 p2 := by kernel_rfl
theorem t_slab_NewAlloc_spec {p0_0 : Int} {p0_1 : Int} {p0_2 : Int} {p0_3 : Int} {p0_4 : Int} {p1 : Int} {p2 : Int} {H : Heap} {R : Value → Heap → Prop} (h : ∀ L, wp Try.prog (t_slab_NewAlloc p0_0 p0_1 p0_2 p0_3 p0_4 p1 p2) L H R) : SpecF Try.prog f_slab_NewAlloc #[(.agg #[(.int .i64 p0_0), (.int .i64 p0_1), (.int .i64 p0_2), (.int .i64 p0_3), (.int .i64 p0_4)]), (.int .i64 p1), (.int .i64 p2)] H R :=
  spec_of_tree (cfg := { quiet := [16, 22, 23, 34, 35, 48, 49, 53, 57, 58, 59, 62, 105], quietTmp := true, fncs := [], ifcs := [] }) Try.func19 fun L => (t_slab_NewAlloc_eq p0_0 p0_1 p0_2 p0_3 p0_4 p1 p2).symm ▸ h L

/- magpie/slab.NewFree -/
noncomputable def t_slab_NewFree (p0_0 : Int) (p0_1 : Int) (p0_2 : Int) (p0_3 : Int) (p0_4 : Int) (p1 : Int) (p2 : Int) : Tree :=
  .newP (.cells #[(.int .i64 p0_0), (.int .i64 p0_1), (.int .i64 p0_2), (.int .i64 p0_3), (.int .i64 p0_4)] ty_free_Place) fun x3 =>
  .qcall f_handle_Open [(.int .i64 p2)] (.tup [(.leaf (.int .i64)), (.leaf (.int .i64)), (.leaf (.int .i64)), (.leaf .bool)]) fun x13 =>
  .ldA x3 [(.int .i64), (.int .i64), (.int .i64), (.int .i64), (.int .i64)] fun x18 =>
  .call f_free_NewPush [(.agg #[(.int .i64 x18.1), (.int .i64 x18.2.1), (.int .i64 x18.2.2.1), (.int .i64 x18.2.2.2.1), (.int .i64 x18.2.2.2.2.1)]), (.int .i64 p1), (.int .i64 x13.2.2.1), (.int .i64 x13.1)] (.one (.leaf .ptr)) fun x22 =>
  .newP (.cells #[(.pointer x22), (.int .i64 p2), (.bool false)] ty_slab_Free) fun x25 =>
  .ret (.pointer (some x25))
theorem t_slab_NewFree_eq (p0_0 : Int) (p0_1 : Int) (p0_2 : Int) (p0_3 : Int) (p0_4 : Int) (p1 : Int) (p2 : Int) : funcTree Try.prog { quiet := [16, 22, 23, 34, 35, 48, 49, 53, 57, 58, 59, 62, 105], quietTmp := true, fncs := [], ifcs := [] } Try.f27 [(.agg #[(.int .i64 p0_0), (.int .i64 p0_1), (.int .i64 p0_2), (.int .i64 p0_3), (.int .i64 p0_4)]), (.int .i64 p1), (.int .i64 p2)] = t_slab_NewFree p0_0 p0_1 p0_2 p0_3 p0_4 p1 p2 := by kernel_rfl
theorem t_slab_NewFree_spec {p0_0 : Int} {p0_1 : Int} {p0_2 : Int} {p0_3 : Int} {p0_4 : Int} {p1 : Int} {p2 : Int} {H : Heap} {R : Value → Heap → Prop} (h : ∀ L, wp Try.prog (t_slab_NewFree p0_0 p0_1 p0_2 p0_3 p0_4 p1 p2) L H R) : SpecF Try.prog f_slab_NewFree #[(.agg #[(.int .i64 p0_0), (.int .i64 p0_1), (.int .i64 p0_2), (.int .i64 p0_3), (.int .i64 p0_4)]), (.int .i64 p1), (.int .i64 p2)] H R :=
  spec_of_tree (cfg := { quiet := [16, 22, 23, 34, 35, 48, 49, 53, 57, 58, 59, 62, 105], quietTmp := true, fncs := [], ifcs := [] }) Try.func27 fun L => (t_slab_NewFree_eq p0_0 p0_1 p0_2 p0_3 p0_4 p1 p2).symm ▸ h L

/- (*magpie/slab.Alloc).Step -/
noncomputable def t_slab_Alloc_Step (p0 : Option Addr) (p1 : Option Addr) : Tree :=
  .look (opS Try.prog (.nilCheck (.tmp 0)) ty_unit [(.pointer p0)]) (.one (.leaf .addr)) fun x7 =>
  .ld (x7.add 9) (.int .i64) fun x9 =>
  bif ((x9 : Int) == 0) then (
    .look (opS Try.prog (.nilCheck (.tmp 0)) ty_unit [(.pointer p0)]) (.one (.leaf .addr)) fun x13 =>
    .ld x13 .ptr fun x15 =>
    .call f_free_Pop_Step [(.pointer x15), (.pointer p1)] (.one (.leaf .bool)) fun x17 =>
    bif x17 then (
      .call f_slab_Alloc_popped [(.pointer p0)] .unit fun _ =>
      .look (opS Try.prog (.nilCheck (.tmp 0)) ty_unit [(.pointer p0)]) (.one (.leaf .addr)) fun x119 =>
      .ld (x119.add 9) (.int .i64) fun x121 =>
      .ret (.bool ((x121 : Int) == 4)))
    else (
      .look (opS Try.prog (.nilCheck (.tmp 0)) ty_unit [(.pointer p0)]) (.one (.leaf .addr)) fun x119 =>
      .ld (x119.add 9) (.int .i64) fun x121 =>
      .ret (.bool ((x121 : Int) == 4))))
  else (
    bif ((x9 : Int) == 1) then (
      .look (opS Try.prog (.nilCheck (.tmp 0)) ty_unit [(.pointer p0)]) (.one (.leaf .addr)) fun x25 =>
      .ld ((x25.add 1).add 4) (.int .i64) fun x28 =>
      .call f_arena_Arena_Raw [(.pointer p1), (.int .i64 x28)] (.one (.leaf (.int .i64))) fun x29 =>
      .look (opS Try.prog (.nilCheck (.tmp 0)) ty_unit [(.pointer p0)]) (.one (.leaf .addr)) fun x30 =>
      .st (x30.add 10) (.int .i64 x29) <|
      .look (opS Try.prog (.nilCheck (.tmp 0)) ty_unit [(.pointer p0)]) (.one (.leaf .addr)) fun x33 =>
      .st (x33.add 9) (.int .i64 2) <|
      .look (opS Try.prog (.nilCheck (.tmp 0)) ty_unit [(.pointer p0)]) (.one (.leaf .addr)) fun x36 =>
      .ld (x36.add 10) (.int .i64) fun x38 =>
      .look (opS Try.prog (.nilCheck (.tmp 0)) ty_unit [(.pointer p0)]) (.one (.leaf .addr)) fun x42 =>
      .ld (x42.add 7) (.int .i64) fun x44 =>
      .call f_arena_Arena_Words [(.pointer p1)] (.one (.leaf (.int .i64))) fun x40 =>
      .check (ldS (x42.add 7)) (.int .i64 x44) <|
      .check (opS Try.prog (.nilCheck (.tmp 0)) ty_unit [(.pointer p0)]) (.pointer (some x42)) <|
      .check (ldS (x36.add 10)) (.int .i64 x38) <|
      .check (opS Try.prog (.nilCheck (.tmp 0)) ty_unit [(.pointer p0)]) (.pointer (some x36)) <|
      .qcall f_handle_Size [(.int .i64 x44)] (.one (.leaf (.int .i64))) fun x45 =>
      bif (decide ((x38 : Int) > (w64 (x40 - x45)))) then (
        .look (opS Try.prog (.nilCheck (.tmp 0)) ty_unit [(.pointer p0)]) (.one (.leaf .addr)) fun x49 =>
        .st (x49.add 9) (.int .i64 4) <|
        .look (opS Try.prog (.nilCheck (.tmp 0)) ty_unit [(.pointer p0)]) (.one (.leaf .addr)) fun x119 =>
        .ld (x119.add 9) (.int .i64) fun x121 =>
        .ret (.bool ((x121 : Int) == 4)))
      else (
        .look (opS Try.prog (.nilCheck (.tmp 0)) ty_unit [(.pointer p0)]) (.one (.leaf .addr)) fun x119 =>
        .ld (x119.add 9) (.int .i64) fun x121 =>
        .ret (.bool ((x121 : Int) == 4))))
    else (
      bif ((x9 : Int) == 2) then (
        .look (opS Try.prog (.nilCheck (.tmp 0)) ty_unit [(.pointer p0)]) (.one (.leaf .addr)) fun x54 =>
        .st (x54.add 9) (.int .i64 1) <|
        .look (opS Try.prog (.nilCheck (.tmp 0)) ty_unit [(.pointer p0)]) (.one (.leaf .addr)) fun x58 =>
        .ld ((x58.add 1).add 4) (.int .i64) fun x61 =>
        .look (opS Try.prog (.nilCheck (.tmp 0)) ty_unit [(.pointer p0)]) (.one (.leaf .addr)) fun x63 =>
        .ld (x63.add 10) (.int .i64) fun x65 =>
        .look (opS Try.prog (.nilCheck (.tmp 0)) ty_unit [(.pointer p0)]) (.one (.leaf .addr)) fun x67 =>
        .ld (x67.add 10) (.int .i64) fun x69 =>
        .look (opS Try.prog (.nilCheck (.tmp 0)) ty_unit [(.pointer p0)]) (.one (.leaf .addr)) fun x71 =>
        .ld (x71.add 7) (.int .i64) fun x73 =>
        .qcall f_handle_Size [(.int .i64 x73)] (.one (.leaf (.int .i64))) fun x74 =>
        .call f_arena_Arena_SwapRaw [(.pointer p1), (.int .i64 x61), (.int .i64 x65), (.int .i64 (w64 (x69 + x74)))] (.one (.leaf .bool)) fun x76 =>
        bif x76 then (
          .look (opS Try.prog (.nilCheck (.tmp 0)) ty_unit [(.pointer p0)]) (.one (.leaf .addr)) fun x78 =>
          .st (x78.add 9) (.int .i64 3) <|
          .look (opS Try.prog (.nilCheck (.tmp 0)) ty_unit [(.pointer p0)]) (.one (.leaf .addr)) fun x119 =>
          .ld (x119.add 9) (.int .i64) fun x121 =>
          .ret (.bool ((x121 : Int) == 4)))
        else (
          .look (opS Try.prog (.nilCheck (.tmp 0)) ty_unit [(.pointer p0)]) (.one (.leaf .addr)) fun x119 =>
          .ld (x119.add 9) (.int .i64) fun x121 =>
          .ret (.bool ((x121 : Int) == 4))))
      else (
        bif ((x9 : Int) == 3) then (
          .look (opS Try.prog (.nilCheck (.tmp 0)) ty_unit [(.pointer p0)]) (.one (.leaf .addr)) fun x84 =>
          .ld ((x84.add 1).add 3) (.int .i64) fun x87 =>
          .look (opS Try.prog (.nilCheck (.tmp 0)) ty_unit [(.pointer p0)]) (.one (.leaf .addr)) fun x89 =>
          .ld (x89.add 10) (.int .i64) fun x91 =>
          .call f_arena_Arena_AddRaw [(.pointer p1), (.int .i64 (w64 (x87 + (w64 (Int.tdiv x91 8))))), (.int .i64 1)] (.one (.leaf (.int .i64))) fun x94 =>
          .look (opS Try.prog (.nilCheck (.tmp 0)) ty_unit [(.pointer p0)]) (.one (.leaf .addr)) fun x99 =>
          .ld (x99.add 10) (.int .i64) fun x101 =>
          .look (opS Try.prog (.nilCheck (.tmp 0)) ty_unit [(.pointer p0)]) (.one (.leaf .addr)) fun x104 =>
          .ld (x104.add 7) (.int .i64) fun x106 =>
          .qcall f_handle_Pack [(.int .i64 x101), (.int .i64 (w64 (x94 + 1))), (.int .i64 x106)] (.one (.leaf (.int .i64))) fun x107 =>
          .look (opS Try.prog (.nilCheck (.tmp 0)) ty_unit [(.pointer p0)]) (.one (.leaf .addr)) fun x108 =>
          .st (x108.add 11) (.int .i64 x107) <|
          .look (opS Try.prog (.nilCheck (.tmp 0)) ty_unit [(.pointer p0)]) (.one (.leaf .addr)) fun x110 =>
          .st (x110.add 9) (.int .i64 4) <|
          .look (opS Try.prog (.nilCheck (.tmp 0)) ty_unit [(.pointer p0)]) (.one (.leaf .addr)) fun x114 =>
          .ld (x114.add 11) (.int .i64) fun x116 =>
          .call f_arena_Arena_Born [(.pointer p1), (.int .i64 x116)] (.one (.leaf .bool)) fun x117 =>
          .look (opS Try.prog (.nilCheck (.tmp 0)) ty_unit [(.pointer p0)]) (.one (.leaf .addr)) fun x119 =>
          .ld (x119.add 9) (.int .i64) fun x121 =>
          .ret (.bool ((x121 : Int) == 4)))
        else (
          .look (opS Try.prog (.nilCheck (.tmp 0)) ty_unit [(.pointer p0)]) (.one (.leaf .addr)) fun x119 =>
          .ld (x119.add 9) (.int .i64) fun x121 =>
          .ret (.bool ((x121 : Int) == 4))))))
theorem t_slab_Alloc_Step_eq (p0 : Option Addr) (p1 : Option Addr) : funcTree Try.prog { quiet := [16, 22, 23, 34, 35, 48, 49, 53, 57, 58, 59, 62, 105], quietTmp := true, fncs := [], ifcs := [] } Try.f43 [(.pointer p0), (.pointer p1)] = t_slab_Alloc_Step p0 p1 := by kernel_rfl
theorem t_slab_Alloc_Step_spec {p0 : Option Addr} {p1 : Option Addr} {H : Heap} {R : Value → Heap → Prop} (h : ∀ L, wp Try.prog (t_slab_Alloc_Step p0 p1) L H R) : SpecF Try.prog f_slab_Alloc_Step #[(.pointer p0), (.pointer p1)] H R :=
  spec_of_tree (cfg := { quiet := [16, 22, 23, 34, 35, 48, 49, 53, 57, 58, 59, 62, 105], quietTmp := true, fncs := [], ifcs := [] }) Try.func43 fun L => (t_slab_Alloc_Step_eq p0 p1).symm ▸ h L

/- (*magpie/slab.Alloc).popped -/
noncomputable def t_slab_Alloc_popped (p0 : Option Addr) : Tree :=
  .look (opS Try.prog (.nilCheck (.tmp 0)) ty_unit [(.pointer p0)]) (.one (.leaf .addr)) fun x6 =>
  .ld x6 .ptr fun x8 =>
  .call f_free_Pop_Base [(.pointer x8)] (.tup [(.leaf (.int .i64)), (.leaf .bool)]) fun x9 =>
  .look (opS Try.prog (.nilCheck (.tmp 0)) ty_unit [(.pointer p0)]) (.one (.leaf .addr)) fun x13 =>
  .ld (x13.add 8) (.int .i64) fun x15 =>
  .look (opS Try.prog (.nilCheck (.tmp 0)) ty_unit [(.pointer p0)]) (.one (.leaf .addr)) fun x17 =>
  .st (x17.add 8) (.int .i64 (w64 (x15 + 1))) <|
  bif x9.2.1 then (
    .look (opS Try.prog (.nilCheck (.tmp 0)) ty_unit [(.pointer p0)]) (.one (.leaf .addr)) fun x23 =>
    .st (x23.add 10) (.int .i64 x9.1) <|
    .look (opS Try.prog (.nilCheck (.tmp 0)) ty_unit [(.pointer p0)]) (.one (.leaf .addr)) fun x25 =>
    .st (x25.add 9) (.int .i64 3) <|
    .ret (.tuple #[]))
  else (
    .look (opS Try.prog (.nilCheck (.tmp 0)) ty_unit [(.pointer p0)]) (.one (.leaf .addr)) fun x28 =>
    .ld (x28.add 8) (.int .i64) fun x30 =>
    .look (opS Try.prog (.nilCheck (.tmp 0)) ty_unit [(.pointer p0)]) (.one (.leaf .addr)) fun x32 =>
    .ld (x32.add 1) (.int .i64) fun x35 =>
    bif (decide ((x30 : Int) ≥ (imax x35 1))) then (
      .look (opS Try.prog (.nilCheck (.tmp 0)) ty_unit [(.pointer p0)]) (.one (.leaf .addr)) fun x39 =>
      .st (x39.add 9) (.int .i64 1) <|
      .ret (.tuple #[]))
    else (
      .look (opS Try.prog (.nilCheck (.tmp 0)) ty_unit [(.pointer p0)]) (.one (.leaf .addr)) fun x43 =>
      .ldA (x43.add 1) [(.int .i64), (.int .i64), (.int .i64), (.int .i64), (.int .i64)] fun x45 =>
      .look (opS Try.prog (.nilCheck (.tmp 0)) ty_unit [(.pointer p0)]) (.one (.leaf .addr)) fun x47 =>
      .ld (x47.add 6) (.int .i64) fun x49 =>
      .look (opS Try.prog (.nilCheck (.tmp 0)) ty_unit [(.pointer p0)]) (.one (.leaf .addr)) fun x51 =>
      .ld (x51.add 8) (.int .i64) fun x53 =>
      .look (opS Try.prog (.nilCheck (.tmp 0)) ty_unit [(.pointer p0)]) (.one (.leaf .addr)) fun x56 =>
      .ld (x56.add 1) (.int .i64) fun x59 =>
      .look (opS Try.prog (.binOp .rem ty_int (.tmp 0) (.tmp 1) ty_int) ty_int [(.int .i64 (w64 (x49 + x53))), (.int .i64 x59)]) (.one (.leaf (.int .i64))) fun x60 =>
      .look (opS Try.prog (.nilCheck (.tmp 0)) ty_unit [(.pointer p0)]) (.one (.leaf .addr)) fun x62 =>
      .ld (x62.add 7) (.int .i64) fun x64 =>
      .call f_free_NewPop [(.agg #[(.int .i64 x45.1), (.int .i64 x45.2.1), (.int .i64 x45.2.2.1), (.int .i64 x45.2.2.2.1), (.int .i64 x45.2.2.2.2.1)]), (.int .i64 x60), (.int .i64 x64)] (.one (.leaf .ptr)) fun x65 =>
      .look (opS Try.prog (.nilCheck (.tmp 0)) ty_unit [(.pointer p0)]) (.one (.leaf .addr)) fun x66 =>
      .st x66 (.pointer x65) <|
      .ret (.tuple #[])))
theorem t_slab_Alloc_popped_eq (p0 : Option Addr) : funcTree Try.prog { quiet := [16, 22, 23, 34, 35, 48, 49, 53, 57, 58, 59, 62, 105], quietTmp := true, fncs := [], ifcs := [] } Try.f70 [(.pointer p0)] = t_slab_Alloc_popped p0 := by kernel_rfl
theorem t_slab_Alloc_popped_spec {p0 : Option Addr} {H : Heap} {R : Value → Heap → Prop} (h : ∀ L, wp Try.prog (t_slab_Alloc_popped p0) L H R) : SpecF Try.prog f_slab_Alloc_popped #[(.pointer p0)] H R :=
  spec_of_tree (cfg := { quiet := [16, 22, 23, 34, 35, 48, 49, 53, 57, 58, 59, 62, 105], quietTmp := true, fncs := [], ifcs := [] }) Try.func70 fun L => (t_slab_Alloc_popped_eq p0).symm ▸ h L

/- (*magpie/slab.Alloc).Handle -/
noncomputable def t_slab_Alloc_Handle (p0 : Option Addr) : Tree :=
  .look (opS Try.prog (.nilCheck (.tmp 0)) ty_unit [(.pointer p0)]) (.one (.leaf .addr)) fun x5 =>
  .ld (x5.add 11) (.int .i64) fun x7 =>
  .look (opS Try.prog (.nilCheck (.tmp 0)) ty_unit [(.pointer p0)]) (.one (.leaf .addr)) fun x9 =>
  .ld (x9.add 11) (.int .i64) fun x11 =>
  .ret (.tuple #[(.int .i64 x7), (.bool ((x11 : Int) != 0))])
theorem t_slab_Alloc_Handle_eq (p0 : Option Addr) : funcTree Try.prog { quiet := [16, 22, 23, 34, 35, 48, 49, 53, 57, 58, 59, 62, 105], quietTmp := true, fncs := [], ifcs := [] } Try.f21 [(.pointer p0)] = t_slab_Alloc_Handle p0 := by kernel_rfl
theorem t_slab_Alloc_Handle_spec {p0 : Option Addr} {H : Heap} {R : Value → Heap → Prop} (h : ∀ L, wp Try.prog (t_slab_Alloc_Handle p0) L H R) : SpecF Try.prog f_slab_Alloc_Handle #[(.pointer p0)] H R :=
  spec_of_tree (cfg := { quiet := [16, 22, 23, 34, 35, 48, 49, 53, 57, 58, 59, 62, 105], quietTmp := true, fncs := [], ifcs := [] }) Try.func21 fun L => (t_slab_Alloc_Handle_eq p0).symm ▸ h L

/- (*magpie/slab.Free).Step -/
noncomputable def t_slab_Free_Step (p0 : Option Addr) (p1 : Option Addr) : Tree :=
  .look (opS Try.prog (.nilCheck (.tmp 0)) ty_unit [(.pointer p0)]) (.one (.leaf .addr)) fun x6 =>
  .ld (x6.add 2) .bool fun x8 =>
  bif (!x8) then (
    .look (opS Try.prog (.nilCheck (.tmp 0)) ty_unit [(.pointer p0)]) (.one (.leaf .addr)) fun x12 =>
    .ld x12 .ptr fun x14 =>
    .call f_free_Push_Step [(.pointer x14), (.pointer p1)] (.one (.leaf .bool)) fun x16 =>
    bif x16 then (
      .look (opS Try.prog (.nilCheck (.tmp 0)) ty_unit [(.pointer p0)]) (.one (.leaf .addr)) fun x19 =>
      .st (x19.add 2) (.bool true) <|
      .look (opS Try.prog (.nilCheck (.tmp 0)) ty_unit [(.pointer p0)]) (.one (.leaf .addr)) fun x23 =>
      .ld (x23.add 1) (.int .i64) fun x25 =>
      .call f_arena_Arena_Died [(.pointer p1), (.int .i64 x25)] (.one (.leaf .bool)) fun x26 =>
      .look (opS Try.prog (.nilCheck (.tmp 0)) ty_unit [(.pointer p0)]) (.one (.leaf .addr)) fun x28 =>
      .ld (x28.add 2) .bool fun x30 =>
      .ret (.bool x30))
    else (
      .look (opS Try.prog (.nilCheck (.tmp 0)) ty_unit [(.pointer p0)]) (.one (.leaf .addr)) fun x28 =>
      .ld (x28.add 2) .bool fun x30 =>
      .ret (.bool x30)))
  else (
    .look (opS Try.prog (.nilCheck (.tmp 0)) ty_unit [(.pointer p0)]) (.one (.leaf .addr)) fun x28 =>
    .ld (x28.add 2) .bool fun x30 =>
    .ret (.bool x30))
theorem t_slab_Free_Step_eq (p0 : Option Addr) (p1 : Option Addr) : funcTree Try.prog { quiet := [16, 22, 23, 34, 35, 48, 49, 53, 57, 58, 59, 62, 105], quietTmp := true, fncs := [], ifcs := [] } Try.f68 [(.pointer p0), (.pointer p1)] = t_slab_Free_Step p0 p1 := by kernel_rfl
theorem t_slab_Free_Step_spec {p0 : Option Addr} {p1 : Option Addr} {H : Heap} {R : Value → Heap → Prop} (h : ∀ L, wp Try.prog (t_slab_Free_Step p0 p1) L H R) : SpecF Try.prog f_slab_Free_Step #[(.pointer p0), (.pointer p1)] H R :=
  spec_of_tree (cfg := { quiet := [16, 22, 23, 34, 35, 48, 49, 53, 57, 58, 59, 62, 105], quietTmp := true, fncs := [], ifcs := [] }) Try.func68 fun L => (t_slab_Free_Step_eq p0 p1).symm ▸ h L

/- magpie/magpielaw11.run -/
@[reducible] def t_magpielaw11_run_L1_sh : List Sh1 := [(.leaf .bool), (.leaf (.int .i64))]
noncomputable def t_magpielaw11_run_L1 (p0 : Option Addr) (p1 : Value) (y1 : HL Sh1.T t_magpielaw11_run_L1_sh) : Tree :=
  bif (decide ((y1.2.1 : Int) < 300)) then (
    .call f_arena_Arena_Uses [(.pointer p0)] (.one (.leaf (.int .i64))) fun x13 =>
    .act (opS Try.prog (.call { callee := .invoke (.tmp 0) "Step", args := #[(.tmp 1)], argTypes := #[ty_p_arena_Arena] }) ty_bool [p1, (.pointer p0)]) (.one (.leaf .bool)) fun x16 =>
    .call f_arena_Arena_Uses [(.pointer p0)] (.one (.leaf (.int .i64))) fun x18 =>
    bif (decide ((x18 : Int) > (w64 (x13 + 1)))) then (
      .ret (.bool false))
    else (
      bif x16 then (
        .ret (.bool true))
      else (
        .again 128 [(.bool y1.1), (.int .i64 (w64 (y1.2.1 + 1)))])))
  else (
    .ret (.bool false))
noncomputable def t_magpielaw11_run (p0 : Option Addr) (p1 : Value) : Tree :=
  .loop 128 t_magpielaw11_run_L1_sh [(.bool false), (.int .i64 0)] (t_magpielaw11_run_L1 p0 p1)
theorem t_magpielaw11_run_eq (p0 : Option Addr) (p1 : Value) : funcTree Try.prog { quiet := [16, 22, 23, 34, 35, 48, 49, 53, 57, 58, 59, 62, 105], quietTmp := true, fncs := [], ifcs := [] } Try.f20 [(.pointer p0), p1] = t_magpielaw11_run p0 p1 := by kernel_rfl
theorem t_magpielaw11_run_spec {p0 : Option Addr} {p1 : Value} {H : Heap} {R : Value → Heap → Prop} (h : ∀ L, wp Try.prog (t_magpielaw11_run p0 p1) L H R) : SpecF Try.prog f_magpielaw11_run #[(.pointer p0), p1] H R :=
  spec_of_tree (cfg := { quiet := [16, 22, 23, 34, 35, 48, 49, 53, 57, 58, 59, 62, 105], quietTmp := true, fncs := [], ifcs := [] }) Try.func20 fun L => (t_magpielaw11_run_eq p0 p1).symm ▸ h L

/- magpie/magpielaw11.awake -/
noncomputable def t_magpielaw11_awake : Tree :=
  .call f_free_Raw [(.int .i64 1), (.int .i64 64)] (.tup [(.agg [(.int .i64), (.int .i64), (.int .i64), (.int .i64), (.int .i64)]), (.leaf (.int .i64))]) fun x12 =>
  .newP (.cells #[(.int .i64 0), (.int .i64 0), (.int .i64 0), (.int .i64 0), (.int .i64 0)] ty_free_Place) fun x1 =>
  .stA x1 [(.int .i64 x12.1.1), (.int .i64 x12.1.2.1), (.int .i64 x12.1.2.2.1), (.int .i64 x12.1.2.2.2.1), (.int .i64 x12.1.2.2.2.2.1)] <|
  .call f_arena_New [(.int .i64 x12.2.1), (.int .i64 64), (.bool false)] (.one (.leaf .ptr)) fun x16 =>
  .ldA x1 [(.int .i64), (.int .i64), (.int .i64), (.int .i64), (.int .i64)] fun x17 =>
  .call f_slab_NewAlloc [(.agg #[(.int .i64 x17.1), (.int .i64 x17.2.1), (.int .i64 x17.2.2.1), (.int .i64 x17.2.2.2.1), (.int .i64 x17.2.2.2.2.1)]), (.int .i64 0), (.int .i64 0)] (.one (.leaf .ptr)) fun x18 =>
  .look (opS Try.prog (.binOp .eql ty_p_arena_Arena (.tmp 0) (.const (.pointer none)) ty_p_arena_Arena) ty_bool [(.pointer x16)]) (.one (.leaf .bool)) fun x20 =>
  bif x20 then (
    .ret (.bool false))
  else (
    .look (opS Try.prog (.binOp .eql ty_p_slab_Alloc (.tmp 0) (.const (.pointer none)) ty_p_slab_Alloc) ty_bool [(.pointer x18)]) (.one (.leaf .bool)) fun x23 =>
    bif x23 then (
      .ret (.bool false))
    else (
      .call f_magpielaw11_run [(.pointer x16), (.iface ty_p_slab_Alloc (.pointer x18))] (.one (.leaf .bool)) fun x29 =>
      bif (!x29) then (
        .ret (.bool false))
      else (
        .call f_slab_Alloc_Handle [(.pointer x18)] (.tup [(.leaf (.int .i64)), (.leaf .bool)]) fun x34 =>
        .qcall f_handle_Open [(.int .i64 x34.1)] (.tup [(.leaf (.int .i64)), (.leaf (.int .i64)), (.leaf (.int .i64)), (.leaf .bool)]) fun x39 =>
        bif x34.2.1 then (
          bif x39.2.2.2.1 then (
            bif ((x39.1 : Int) == 0) then (
              bif ((x39.2.1 : Int) == 1) then (
                bif ((x39.2.2.1 : Int) == 0) then (
                  .call f_arena_Arena_State [(.pointer x16), (.int .i64 x34.1)] (.one (.leaf (.int .i64))) fun x63 =>
                  bif ((x63 : Int) == 1) then (
                    .ld (x1.add 4) (.int .i64) fun x69 =>
                    .call f_arena_Arena_Raw [(.pointer x16), (.int .i64 x69)] (.one (.leaf (.int .i64))) fun x70 =>
                    .ret (.bool ((x70 : Int) == 8)))
                  else (
                    .ret (.bool false)))
                else (
                  .ret (.bool false)))
              else (
                .ret (.bool false)))
            else (
              .ret (.bool false)))
          else (
            .ret (.bool false)))
        else (
          .ret (.bool false)))))
theorem t_magpielaw11_awake_eq : funcTree Try.prog { quiet := [16, 22, 23, 34, 35, 48, 49, 53, 57, 58, 59, 62, 105], quietTmp := true, fncs := [], ifcs := [] } Try.f25 [] = t_magpielaw11_awake  := by kernel_rfl
theorem t_magpielaw11_awake_spec {H : Heap} {R : Value → Heap → Prop} (h : ∀ L, wp Try.prog (t_magpielaw11_awake ) L H R) : SpecF Try.prog f_magpielaw11_awake #[] H R :=
  spec_of_tree (cfg := { quiet := [16, 22, 23, 34, 35, 48, 49, 53, 57, 58, 59, 62, 105], quietTmp := true, fncs := [], ifcs := [] }) Try.func25 fun L => (t_magpielaw11_awake_eq ).symm ▸ h L

end Go.Proofs.Ytfphgiipekkgdaa

set_option linter.unusedVariables false
set_option maxRecDepth 20000
namespace Go.Proofs.Ytfphgiipekkgdaa
open Go Go.Fw

/-- An alloc. -/
structure Al where
  pl : Pl
  work : Int
  cls : Int
  lst : Int
  what : Int
  base : Int
  h : Int
  po : Po

def Al.cells (x : Al) (q0 : Nat) : List Value := [.pointer (some ⟨q0, 0, none⟩), .int .i64 x.pl.work, .int .i64 x.pl.heads, .int .i64 x.pl.links, .int .i64 x.pl.gens, .int .i64 x.pl.carved, .int .i64 x.work, .int .i64 x.cls, .int .i64 x.lst, .int .i64 x.what, .int .i64 x.base, .int .i64 x.h]
def Al.bl (x : Al) (j : Nat × Nat × Nat) : Bl := [(j.1, oc ty_slab_Alloc (x.cells j.2.1)), (j.2.1, popObj j.2.2), (j.2.2, x.po.obj)]

def newPo (p : Pl) (w c : Int) : Po := ⟨p, headF p w c, 0, 0, 0, 0, false⟩

/-- A list has told. -/
def Al.popd (x : Al) : Al :=
  if x.po.ok then { x with lst := w64 (x.lst + 1), base := x.po.base, what := 3 }
  else if w64 (x.lst + 1) ≥ imax x.pl.work 1 then { x with lst := w64 (x.lst + 1), what := 1 }
  else { x with lst := w64 (x.lst + 1), po := newPo x.pl (Int.tmod (w64 (x.work + w64 (x.lst + 1))) x.pl.work) x.cls }

def Al.step (x : Al) (A : Ar) : Al × Ar :=
  if x.what = 0 then (if x.po.stepB A then Al.popd { x with po := x.po.stepM A } else { x with po := x.po.stepM A }, x.po.stepA A)
  else if x.what = 1 then ({ x with base := A.rawF x.pl.carved, what := if A.rawF x.pl.carved > w64 (A.words.length - sizeF x.cls) then 4 else 2 }, A.touchR x.pl.carved)
  else if x.what = 2 then ({ x with what := if A.swapRb x.pl.carved x.base then 3 else 1 }, A.swapR x.pl.carved x.base (w64 (x.base + sizeF x.cls)))
  else if x.what = 3 then
    let i := w64 (x.pl.gens + w64 (Int.tdiv x.base 8))
    let h := packF x.base (w64 (A.rawF i + 1)) x.cls
    ({ x with h := h, what := 4 }, (A.storeR i (w64 (A.rawF i + 1))).bornX h)
  else (x, A)

def mAl : Mch Al (Nat × Nat × Nat) where
  f := f_slab_Alloc_Step
  addr := fun j => j.1
  bl := Al.bl
  inv := fun x _ => 0 ≤ x.lst ∧ x.lst ≤ 1000000
  step := Al.step
  fin := fun x => (x.what : Int) == 4

theorem popped_spec {I : List Nat} {A : Ar} {G : Heap} (x : Al) {q q0 q1 : Nat} (hA : Aw I A) (ok : Ok I G [q, q0, q1]) (hl : 0 ≤ x.lst ∧ x.lst ≤ 1000000) :
    SpecF Try.prog f_slab_Alloc_popped #[.pointer (some ⟨q, 0, none⟩)] (own A (x.bl (q, q0, q1)) G) fun v K => ∃ q0' q1', v = .tuple #[] ∧ K = own A (x.popd.bl (q, q0', q1')) G ∧ Ok I G [q, q0', q1'] := by
  refine t_slab_Alloc_popped_spec fun L => ?_
  unfold t_slab_Alloc_popped Al.bl Al.popd
  have e1 : w64 (x.lst + 1) = x.lst + 1 := w64_in (by omega) (by omega)
  repeat (first
  | refine wp_nil.2 ?_
  | refine w_ld 0 hA ok rfl rfl rfl ?_
  | refine w_ld 1 hA ok rfl rfl rfl ?_
  | refine w_ld 2 hA ok rfl rfl rfl ?_
  | refine w_ld 3 hA ok rfl rfl rfl ?_
  | refine w_ld 4 hA ok rfl rfl rfl ?_
  | refine w_ld 5 hA ok rfl rfl rfl ?_
  | refine w_ld 6 hA ok rfl rfl rfl ?_
  | refine w_ld 7 hA ok rfl rfl rfl ?_
  | refine w_st 0 hA ok rfl rfl rfl rfl ?_
  | refine w_st 1 hA ok rfl rfl rfl rfl ?_
  | refine w_st 2 hA ok rfl rfl rfl rfl ?_
  | refine w_st 3 hA ok rfl rfl rfl rfl ?_
  | refine w_st 4 hA ok rfl rfl rfl rfl ?_
  | refine w_st 5 hA ok rfl rfl rfl rfl ?_
  | refine w_st 6 hA ok rfl rfl rfl rfl ?_
  | refine w_st 7 hA ok rfl rfl rfl rfl ?_
  | refine w_ldA 0 hA ok rfl rfl rfl ?_
  | refine w_ldA 1 hA ok rfl rfl rfl ?_
  | refine w_ldA 2 hA ok rfl rfl rfl ?_
  | refine w_ldA 3 hA ok rfl rfl rfl ?_
  | refine w_ldA 4 hA ok rfl rfl rfl ?_
  | refine w_ldA 5 hA ok rfl rfl rfl ?_
  | refine w_ldA 6 hA ok rfl rfl rfl ?_
  | refine w_ldA 7 hA ok rfl rfl rfl ?_
  | refine w_stA 0 hA ok rfl rfl rfl rfl ?_
  | refine w_stA 1 hA ok rfl rfl rfl rfl ?_
  | refine w_stA 2 hA ok rfl rfl rfl rfl ?_
  | refine w_stA 3 hA ok rfl rfl rfl rfl ?_
  | refine w_stA 4 hA ok rfl rfl rfl rfl ?_
  | refine w_stA 5 hA ok rfl rfl rfl rfl ?_
  | refine w_stA 6 hA ok rfl rfl rfl rfl ?_
  | refine w_stA 7 hA ok rfl rfl rfl rfl ?_
  | (refine w_Raw hA ?_; intro hA)
  | (refine w_SetRaw hA ?_; intro hA)
  | (refine w_SwapRaw hA ?_; intro hA)
  | (refine w_AddRaw hA ?_; intro hA)
  | (refine w_Load hA ?_; intro hA)
  | (refine w_Store hA ?_; intro hA)
  | (refine w_Retire hA ?_; intro hA)
  | (refine w_Died hA ?_; intro hA)
  | (refine w_Born hA ?_; intro hA)
  | refine w_State hA ?_
  | refine w_Uses hA ?_
  | refine w_Fault hA ?_
  | refine w_Words hA ?_
  | refine w_Count hA ?_
  | refine wq_Size ?_
  | refine wq_Open ?_
  | refine wq_Pack ?_
  | refine wq_head ?_
  | refine w_ck 0 hA ok rfl rfl rfl ?_
  | refine w_ck 1 hA ok rfl rfl rfl ?_
  | refine w_ck 2 hA ok rfl rfl rfl ?_
  | refine w_ck 3 hA ok rfl rfl rfl ?_
  | refine w_ck 4 hA ok rfl rfl rfl ?_
  | refine w_ck 5 hA ok rfl rfl rfl ?_
  | refine w_ck 6 hA ok rfl rfl rfl ?_
  | refine w_ck 7 hA ok rfl rfl rfl ?_
  | refine w_ckn rfl ?_
  | refine w_Base 0 1 hA ok rfl rfl ?_
  | refine w_Base 1 2 hA ok rfl rfl ?_
  | refine w_Base 2 3 hA ok rfl rfl ?_
  | refine w_Base 3 4 hA ok rfl rfl ?_
  | refine w_Base 4 5 hA ok rfl rfl ?_
  | refine w_Base 5 6 hA ok rfl rfl ?_
  | (refine w_PopStep 0 1 hA ok rfl rfl ?_; intro hA)
  | (refine w_PopStep 1 2 hA ok rfl rfl ?_; intro hA)
  | (refine w_PopStep 2 3 hA ok rfl rfl ?_; intro hA)
  | (refine w_PopStep 3 4 hA ok rfl rfl ?_; intro hA)
  | (refine w_PopStep 4 5 hA ok rfl rfl ?_; intro hA)
  | (refine w_PopStep 5 6 hA ok rfl rfl ?_; intro hA)
  | (refine w_PushStep 0 1 hA ok rfl rfl ?_; intro hA)
  | (refine w_PushStep 1 2 hA ok rfl rfl ?_; intro hA)
  | (refine w_PushStep 2 3 hA ok rfl rfl ?_; intro hA)
  | (refine w_PushStep 3 4 hA ok rfl rfl ?_; intro hA)
  | (refine w_PushStep 4 5 hA ok rfl rfl ?_; intro hA)
  | (refine w_PushStep 5 6 hA ok rfl rfl ?_; intro hA)
  | refine wp_true (by assumption) ?_
  | refine wp_false (by assumption) ?_)
  cases h1 : x.po.ok with
  | true =>
    repeat (first
  | refine wp_nil.2 ?_
  | refine w_ld 0 hA ok rfl rfl rfl ?_
  | refine w_ld 1 hA ok rfl rfl rfl ?_
  | refine w_ld 2 hA ok rfl rfl rfl ?_
  | refine w_ld 3 hA ok rfl rfl rfl ?_
  | refine w_ld 4 hA ok rfl rfl rfl ?_
  | refine w_ld 5 hA ok rfl rfl rfl ?_
  | refine w_ld 6 hA ok rfl rfl rfl ?_
  | refine w_ld 7 hA ok rfl rfl rfl ?_
  | refine w_st 0 hA ok rfl rfl rfl rfl ?_
  | refine w_st 1 hA ok rfl rfl rfl rfl ?_
  | refine w_st 2 hA ok rfl rfl rfl rfl ?_
  | refine w_st 3 hA ok rfl rfl rfl rfl ?_
  | refine w_st 4 hA ok rfl rfl rfl rfl ?_
  | refine w_st 5 hA ok rfl rfl rfl rfl ?_
  | refine w_st 6 hA ok rfl rfl rfl rfl ?_
  | refine w_st 7 hA ok rfl rfl rfl rfl ?_
  | refine w_ldA 0 hA ok rfl rfl rfl ?_
  | refine w_ldA 1 hA ok rfl rfl rfl ?_
  | refine w_ldA 2 hA ok rfl rfl rfl ?_
  | refine w_ldA 3 hA ok rfl rfl rfl ?_
  | refine w_ldA 4 hA ok rfl rfl rfl ?_
  | refine w_ldA 5 hA ok rfl rfl rfl ?_
  | refine w_ldA 6 hA ok rfl rfl rfl ?_
  | refine w_ldA 7 hA ok rfl rfl rfl ?_
  | refine w_stA 0 hA ok rfl rfl rfl rfl ?_
  | refine w_stA 1 hA ok rfl rfl rfl rfl ?_
  | refine w_stA 2 hA ok rfl rfl rfl rfl ?_
  | refine w_stA 3 hA ok rfl rfl rfl rfl ?_
  | refine w_stA 4 hA ok rfl rfl rfl rfl ?_
  | refine w_stA 5 hA ok rfl rfl rfl rfl ?_
  | refine w_stA 6 hA ok rfl rfl rfl rfl ?_
  | refine w_stA 7 hA ok rfl rfl rfl rfl ?_
  | (refine w_Raw hA ?_; intro hA)
  | (refine w_SetRaw hA ?_; intro hA)
  | (refine w_SwapRaw hA ?_; intro hA)
  | (refine w_AddRaw hA ?_; intro hA)
  | (refine w_Load hA ?_; intro hA)
  | (refine w_Store hA ?_; intro hA)
  | (refine w_Retire hA ?_; intro hA)
  | (refine w_Died hA ?_; intro hA)
  | (refine w_Born hA ?_; intro hA)
  | refine w_State hA ?_
  | refine w_Uses hA ?_
  | refine w_Fault hA ?_
  | refine w_Words hA ?_
  | refine w_Count hA ?_
  | refine wq_Size ?_
  | refine wq_Open ?_
  | refine wq_Pack ?_
  | refine wq_head ?_
  | refine w_ck 0 hA ok rfl rfl rfl ?_
  | refine w_ck 1 hA ok rfl rfl rfl ?_
  | refine w_ck 2 hA ok rfl rfl rfl ?_
  | refine w_ck 3 hA ok rfl rfl rfl ?_
  | refine w_ck 4 hA ok rfl rfl rfl ?_
  | refine w_ck 5 hA ok rfl rfl rfl ?_
  | refine w_ck 6 hA ok rfl rfl rfl ?_
  | refine w_ck 7 hA ok rfl rfl rfl ?_
  | refine w_ckn rfl ?_
  | refine w_Base 0 1 hA ok rfl rfl ?_
  | refine w_Base 1 2 hA ok rfl rfl ?_
  | refine w_Base 2 3 hA ok rfl rfl ?_
  | refine w_Base 3 4 hA ok rfl rfl ?_
  | refine w_Base 4 5 hA ok rfl rfl ?_
  | refine w_Base 5 6 hA ok rfl rfl ?_
  | (refine w_PopStep 0 1 hA ok rfl rfl ?_; intro hA)
  | (refine w_PopStep 1 2 hA ok rfl rfl ?_; intro hA)
  | (refine w_PopStep 2 3 hA ok rfl rfl ?_; intro hA)
  | (refine w_PopStep 3 4 hA ok rfl rfl ?_; intro hA)
  | (refine w_PopStep 4 5 hA ok rfl rfl ?_; intro hA)
  | (refine w_PopStep 5 6 hA ok rfl rfl ?_; intro hA)
  | (refine w_PushStep 0 1 hA ok rfl rfl ?_; intro hA)
  | (refine w_PushStep 1 2 hA ok rfl rfl ?_; intro hA)
  | (refine w_PushStep 2 3 hA ok rfl rfl ?_; intro hA)
  | (refine w_PushStep 3 4 hA ok rfl rfl ?_; intro hA)
  | (refine w_PushStep 4 5 hA ok rfl rfl ?_; intro hA)
  | (refine w_PushStep 5 6 hA ok rfl rfl ?_; intro hA)
  | refine wp_true (by assumption) ?_
  | refine wp_false (by assumption) ?_)
    exact wp_ret_of ⟨q0, q1, rfl, rfl, ok⟩
  | false =>
    rw [if_neg (by simp)]
    repeat (first
  | refine wp_nil.2 ?_
  | refine w_ld 0 hA ok rfl rfl rfl ?_
  | refine w_ld 1 hA ok rfl rfl rfl ?_
  | refine w_ld 2 hA ok rfl rfl rfl ?_
  | refine w_ld 3 hA ok rfl rfl rfl ?_
  | refine w_ld 4 hA ok rfl rfl rfl ?_
  | refine w_ld 5 hA ok rfl rfl rfl ?_
  | refine w_ld 6 hA ok rfl rfl rfl ?_
  | refine w_ld 7 hA ok rfl rfl rfl ?_
  | refine w_st 0 hA ok rfl rfl rfl rfl ?_
  | refine w_st 1 hA ok rfl rfl rfl rfl ?_
  | refine w_st 2 hA ok rfl rfl rfl rfl ?_
  | refine w_st 3 hA ok rfl rfl rfl rfl ?_
  | refine w_st 4 hA ok rfl rfl rfl rfl ?_
  | refine w_st 5 hA ok rfl rfl rfl rfl ?_
  | refine w_st 6 hA ok rfl rfl rfl rfl ?_
  | refine w_st 7 hA ok rfl rfl rfl rfl ?_
  | refine w_ldA 0 hA ok rfl rfl rfl ?_
  | refine w_ldA 1 hA ok rfl rfl rfl ?_
  | refine w_ldA 2 hA ok rfl rfl rfl ?_
  | refine w_ldA 3 hA ok rfl rfl rfl ?_
  | refine w_ldA 4 hA ok rfl rfl rfl ?_
  | refine w_ldA 5 hA ok rfl rfl rfl ?_
  | refine w_ldA 6 hA ok rfl rfl rfl ?_
  | refine w_ldA 7 hA ok rfl rfl rfl ?_
  | refine w_stA 0 hA ok rfl rfl rfl rfl ?_
  | refine w_stA 1 hA ok rfl rfl rfl rfl ?_
  | refine w_stA 2 hA ok rfl rfl rfl rfl ?_
  | refine w_stA 3 hA ok rfl rfl rfl rfl ?_
  | refine w_stA 4 hA ok rfl rfl rfl rfl ?_
  | refine w_stA 5 hA ok rfl rfl rfl rfl ?_
  | refine w_stA 6 hA ok rfl rfl rfl rfl ?_
  | refine w_stA 7 hA ok rfl rfl rfl rfl ?_
  | (refine w_Raw hA ?_; intro hA)
  | (refine w_SetRaw hA ?_; intro hA)
  | (refine w_SwapRaw hA ?_; intro hA)
  | (refine w_AddRaw hA ?_; intro hA)
  | (refine w_Load hA ?_; intro hA)
  | (refine w_Store hA ?_; intro hA)
  | (refine w_Retire hA ?_; intro hA)
  | (refine w_Died hA ?_; intro hA)
  | (refine w_Born hA ?_; intro hA)
  | refine w_State hA ?_
  | refine w_Uses hA ?_
  | refine w_Fault hA ?_
  | refine w_Words hA ?_
  | refine w_Count hA ?_
  | refine wq_Size ?_
  | refine wq_Open ?_
  | refine wq_Pack ?_
  | refine wq_head ?_
  | refine w_ck 0 hA ok rfl rfl rfl ?_
  | refine w_ck 1 hA ok rfl rfl rfl ?_
  | refine w_ck 2 hA ok rfl rfl rfl ?_
  | refine w_ck 3 hA ok rfl rfl rfl ?_
  | refine w_ck 4 hA ok rfl rfl rfl ?_
  | refine w_ck 5 hA ok rfl rfl rfl ?_
  | refine w_ck 6 hA ok rfl rfl rfl ?_
  | refine w_ck 7 hA ok rfl rfl rfl ?_
  | refine w_ckn rfl ?_
  | refine w_Base 0 1 hA ok rfl rfl ?_
  | refine w_Base 1 2 hA ok rfl rfl ?_
  | refine w_Base 2 3 hA ok rfl rfl ?_
  | refine w_Base 3 4 hA ok rfl rfl ?_
  | refine w_Base 4 5 hA ok rfl rfl ?_
  | refine w_Base 5 6 hA ok rfl rfl ?_
  | (refine w_PopStep 0 1 hA ok rfl rfl ?_; intro hA)
  | (refine w_PopStep 1 2 hA ok rfl rfl ?_; intro hA)
  | (refine w_PopStep 2 3 hA ok rfl rfl ?_; intro hA)
  | (refine w_PopStep 3 4 hA ok rfl rfl ?_; intro hA)
  | (refine w_PopStep 4 5 hA ok rfl rfl ?_; intro hA)
  | (refine w_PopStep 5 6 hA ok rfl rfl ?_; intro hA)
  | (refine w_PushStep 0 1 hA ok rfl rfl ?_; intro hA)
  | (refine w_PushStep 1 2 hA ok rfl rfl ?_; intro hA)
  | (refine w_PushStep 2 3 hA ok rfl rfl ?_; intro hA)
  | (refine w_PushStep 3 4 hA ok rfl rfl ?_; intro hA)
  | (refine w_PushStep 4 5 hA ok rfl rfl ?_; intro hA)
  | (refine w_PushStep 5 6 hA ok rfl rfl ?_; intro hA)
  | refine wp_true (by assumption) ?_
  | refine wp_false (by assumption) ?_)
    by_cases h2 : w64 (x.lst + 1) ≥ imax x.pl.work 1
    · rw [if_pos h2]
      refine wp_true (decide_eq_true h2) ?_
      repeat (first
  | refine wp_nil.2 ?_
  | refine w_ld 0 hA ok rfl rfl rfl ?_
  | refine w_ld 1 hA ok rfl rfl rfl ?_
  | refine w_ld 2 hA ok rfl rfl rfl ?_
  | refine w_ld 3 hA ok rfl rfl rfl ?_
  | refine w_ld 4 hA ok rfl rfl rfl ?_
  | refine w_ld 5 hA ok rfl rfl rfl ?_
  | refine w_ld 6 hA ok rfl rfl rfl ?_
  | refine w_ld 7 hA ok rfl rfl rfl ?_
  | refine w_st 0 hA ok rfl rfl rfl rfl ?_
  | refine w_st 1 hA ok rfl rfl rfl rfl ?_
  | refine w_st 2 hA ok rfl rfl rfl rfl ?_
  | refine w_st 3 hA ok rfl rfl rfl rfl ?_
  | refine w_st 4 hA ok rfl rfl rfl rfl ?_
  | refine w_st 5 hA ok rfl rfl rfl rfl ?_
  | refine w_st 6 hA ok rfl rfl rfl rfl ?_
  | refine w_st 7 hA ok rfl rfl rfl rfl ?_
  | refine w_ldA 0 hA ok rfl rfl rfl ?_
  | refine w_ldA 1 hA ok rfl rfl rfl ?_
  | refine w_ldA 2 hA ok rfl rfl rfl ?_
  | refine w_ldA 3 hA ok rfl rfl rfl ?_
  | refine w_ldA 4 hA ok rfl rfl rfl ?_
  | refine w_ldA 5 hA ok rfl rfl rfl ?_
  | refine w_ldA 6 hA ok rfl rfl rfl ?_
  | refine w_ldA 7 hA ok rfl rfl rfl ?_
  | refine w_stA 0 hA ok rfl rfl rfl rfl ?_
  | refine w_stA 1 hA ok rfl rfl rfl rfl ?_
  | refine w_stA 2 hA ok rfl rfl rfl rfl ?_
  | refine w_stA 3 hA ok rfl rfl rfl rfl ?_
  | refine w_stA 4 hA ok rfl rfl rfl rfl ?_
  | refine w_stA 5 hA ok rfl rfl rfl rfl ?_
  | refine w_stA 6 hA ok rfl rfl rfl rfl ?_
  | refine w_stA 7 hA ok rfl rfl rfl rfl ?_
  | (refine w_Raw hA ?_; intro hA)
  | (refine w_SetRaw hA ?_; intro hA)
  | (refine w_SwapRaw hA ?_; intro hA)
  | (refine w_AddRaw hA ?_; intro hA)
  | (refine w_Load hA ?_; intro hA)
  | (refine w_Store hA ?_; intro hA)
  | (refine w_Retire hA ?_; intro hA)
  | (refine w_Died hA ?_; intro hA)
  | (refine w_Born hA ?_; intro hA)
  | refine w_State hA ?_
  | refine w_Uses hA ?_
  | refine w_Fault hA ?_
  | refine w_Words hA ?_
  | refine w_Count hA ?_
  | refine wq_Size ?_
  | refine wq_Open ?_
  | refine wq_Pack ?_
  | refine wq_head ?_
  | refine w_ck 0 hA ok rfl rfl rfl ?_
  | refine w_ck 1 hA ok rfl rfl rfl ?_
  | refine w_ck 2 hA ok rfl rfl rfl ?_
  | refine w_ck 3 hA ok rfl rfl rfl ?_
  | refine w_ck 4 hA ok rfl rfl rfl ?_
  | refine w_ck 5 hA ok rfl rfl rfl ?_
  | refine w_ck 6 hA ok rfl rfl rfl ?_
  | refine w_ck 7 hA ok rfl rfl rfl ?_
  | refine w_ckn rfl ?_
  | refine w_Base 0 1 hA ok rfl rfl ?_
  | refine w_Base 1 2 hA ok rfl rfl ?_
  | refine w_Base 2 3 hA ok rfl rfl ?_
  | refine w_Base 3 4 hA ok rfl rfl ?_
  | refine w_Base 4 5 hA ok rfl rfl ?_
  | refine w_Base 5 6 hA ok rfl rfl ?_
  | (refine w_PopStep 0 1 hA ok rfl rfl ?_; intro hA)
  | (refine w_PopStep 1 2 hA ok rfl rfl ?_; intro hA)
  | (refine w_PopStep 2 3 hA ok rfl rfl ?_; intro hA)
  | (refine w_PopStep 3 4 hA ok rfl rfl ?_; intro hA)
  | (refine w_PopStep 4 5 hA ok rfl rfl ?_; intro hA)
  | (refine w_PopStep 5 6 hA ok rfl rfl ?_; intro hA)
  | (refine w_PushStep 0 1 hA ok rfl rfl ?_; intro hA)
  | (refine w_PushStep 1 2 hA ok rfl rfl ?_; intro hA)
  | (refine w_PushStep 2 3 hA ok rfl rfl ?_; intro hA)
  | (refine w_PushStep 3 4 hA ok rfl rfl ?_; intro hA)
  | (refine w_PushStep 4 5 hA ok rfl rfl ?_; intro hA)
  | (refine w_PushStep 5 6 hA ok rfl rfl ?_; intro hA)
  | refine wp_true (by assumption) ?_
  | refine wp_false (by assumption) ?_)
      exact wp_ret_of ⟨q0, q1, rfl, rfl, ok⟩
    · rw [if_neg h2]
      refine wp_false (decide_eq_false h2) ?_
      repeat (first
  | refine wp_nil.2 ?_
  | refine w_ld 0 hA ok rfl rfl rfl ?_
  | refine w_ld 1 hA ok rfl rfl rfl ?_
  | refine w_ld 2 hA ok rfl rfl rfl ?_
  | refine w_ld 3 hA ok rfl rfl rfl ?_
  | refine w_ld 4 hA ok rfl rfl rfl ?_
  | refine w_ld 5 hA ok rfl rfl rfl ?_
  | refine w_ld 6 hA ok rfl rfl rfl ?_
  | refine w_ld 7 hA ok rfl rfl rfl ?_
  | refine w_st 0 hA ok rfl rfl rfl rfl ?_
  | refine w_st 1 hA ok rfl rfl rfl rfl ?_
  | refine w_st 2 hA ok rfl rfl rfl rfl ?_
  | refine w_st 3 hA ok rfl rfl rfl rfl ?_
  | refine w_st 4 hA ok rfl rfl rfl rfl ?_
  | refine w_st 5 hA ok rfl rfl rfl rfl ?_
  | refine w_st 6 hA ok rfl rfl rfl rfl ?_
  | refine w_st 7 hA ok rfl rfl rfl rfl ?_
  | refine w_ldA 0 hA ok rfl rfl rfl ?_
  | refine w_ldA 1 hA ok rfl rfl rfl ?_
  | refine w_ldA 2 hA ok rfl rfl rfl ?_
  | refine w_ldA 3 hA ok rfl rfl rfl ?_
  | refine w_ldA 4 hA ok rfl rfl rfl ?_
  | refine w_ldA 5 hA ok rfl rfl rfl ?_
  | refine w_ldA 6 hA ok rfl rfl rfl ?_
  | refine w_ldA 7 hA ok rfl rfl rfl ?_
  | refine w_stA 0 hA ok rfl rfl rfl rfl ?_
  | refine w_stA 1 hA ok rfl rfl rfl rfl ?_
  | refine w_stA 2 hA ok rfl rfl rfl rfl ?_
  | refine w_stA 3 hA ok rfl rfl rfl rfl ?_
  | refine w_stA 4 hA ok rfl rfl rfl rfl ?_
  | refine w_stA 5 hA ok rfl rfl rfl rfl ?_
  | refine w_stA 6 hA ok rfl rfl rfl rfl ?_
  | refine w_stA 7 hA ok rfl rfl rfl rfl ?_
  | (refine w_Raw hA ?_; intro hA)
  | (refine w_SetRaw hA ?_; intro hA)
  | (refine w_SwapRaw hA ?_; intro hA)
  | (refine w_AddRaw hA ?_; intro hA)
  | (refine w_Load hA ?_; intro hA)
  | (refine w_Store hA ?_; intro hA)
  | (refine w_Retire hA ?_; intro hA)
  | (refine w_Died hA ?_; intro hA)
  | (refine w_Born hA ?_; intro hA)
  | refine w_State hA ?_
  | refine w_Uses hA ?_
  | refine w_Fault hA ?_
  | refine w_Words hA ?_
  | refine w_Count hA ?_
  | refine wq_Size ?_
  | refine wq_Open ?_
  | refine wq_Pack ?_
  | refine wq_head ?_
  | refine w_ck 0 hA ok rfl rfl rfl ?_
  | refine w_ck 1 hA ok rfl rfl rfl ?_
  | refine w_ck 2 hA ok rfl rfl rfl ?_
  | refine w_ck 3 hA ok rfl rfl rfl ?_
  | refine w_ck 4 hA ok rfl rfl rfl ?_
  | refine w_ck 5 hA ok rfl rfl rfl ?_
  | refine w_ck 6 hA ok rfl rfl rfl ?_
  | refine w_ck 7 hA ok rfl rfl rfl ?_
  | refine w_ckn rfl ?_
  | refine w_Base 0 1 hA ok rfl rfl ?_
  | refine w_Base 1 2 hA ok rfl rfl ?_
  | refine w_Base 2 3 hA ok rfl rfl ?_
  | refine w_Base 3 4 hA ok rfl rfl ?_
  | refine w_Base 4 5 hA ok rfl rfl ?_
  | refine w_Base 5 6 hA ok rfl rfl ?_
  | (refine w_PopStep 0 1 hA ok rfl rfl ?_; intro hA)
  | (refine w_PopStep 1 2 hA ok rfl rfl ?_; intro hA)
  | (refine w_PopStep 2 3 hA ok rfl rfl ?_; intro hA)
  | (refine w_PopStep 3 4 hA ok rfl rfl ?_; intro hA)
  | (refine w_PopStep 4 5 hA ok rfl rfl ?_; intro hA)
  | (refine w_PopStep 5 6 hA ok rfl rfl ?_; intro hA)
  | (refine w_PushStep 0 1 hA ok rfl rfl ?_; intro hA)
  | (refine w_PushStep 1 2 hA ok rfl rfl ?_; intro hA)
  | (refine w_PushStep 2 3 hA ok rfl rfl ?_; intro hA)
  | (refine w_PushStep 3 4 hA ok rfl rfl ?_; intro hA)
  | (refine w_PushStep 4 5 hA ok rfl rfl ?_; intro hA)
  | (refine w_PushStep 5 6 hA ok rfl rfl ?_; intro hA)
  | refine wp_true (by assumption) ?_
  | refine wp_false (by assumption) ?_)
      have hw : x.pl.work ≠ 0 := by
        intro e; rw [e, e1] at h2; unfold imax at h2; rw [if_pos (by omega)] at h2; omega
      refine look_val (x := Int.tmod (w64 (x.work + w64 (x.lst + 1))) x.pl.work) (opS_rem hw) ?_
      repeat (first
  | refine wp_nil.2 ?_
  | refine w_ld 0 hA ok rfl rfl rfl ?_
  | refine w_ld 1 hA ok rfl rfl rfl ?_
  | refine w_ld 2 hA ok rfl rfl rfl ?_
  | refine w_ld 3 hA ok rfl rfl rfl ?_
  | refine w_ld 4 hA ok rfl rfl rfl ?_
  | refine w_ld 5 hA ok rfl rfl rfl ?_
  | refine w_ld 6 hA ok rfl rfl rfl ?_
  | refine w_ld 7 hA ok rfl rfl rfl ?_
  | refine w_st 0 hA ok rfl rfl rfl rfl ?_
  | refine w_st 1 hA ok rfl rfl rfl rfl ?_
  | refine w_st 2 hA ok rfl rfl rfl rfl ?_
  | refine w_st 3 hA ok rfl rfl rfl rfl ?_
  | refine w_st 4 hA ok rfl rfl rfl rfl ?_
  | refine w_st 5 hA ok rfl rfl rfl rfl ?_
  | refine w_st 6 hA ok rfl rfl rfl rfl ?_
  | refine w_st 7 hA ok rfl rfl rfl rfl ?_
  | refine w_ldA 0 hA ok rfl rfl rfl ?_
  | refine w_ldA 1 hA ok rfl rfl rfl ?_
  | refine w_ldA 2 hA ok rfl rfl rfl ?_
  | refine w_ldA 3 hA ok rfl rfl rfl ?_
  | refine w_ldA 4 hA ok rfl rfl rfl ?_
  | refine w_ldA 5 hA ok rfl rfl rfl ?_
  | refine w_ldA 6 hA ok rfl rfl rfl ?_
  | refine w_ldA 7 hA ok rfl rfl rfl ?_
  | refine w_stA 0 hA ok rfl rfl rfl rfl ?_
  | refine w_stA 1 hA ok rfl rfl rfl rfl ?_
  | refine w_stA 2 hA ok rfl rfl rfl rfl ?_
  | refine w_stA 3 hA ok rfl rfl rfl rfl ?_
  | refine w_stA 4 hA ok rfl rfl rfl rfl ?_
  | refine w_stA 5 hA ok rfl rfl rfl rfl ?_
  | refine w_stA 6 hA ok rfl rfl rfl rfl ?_
  | refine w_stA 7 hA ok rfl rfl rfl rfl ?_
  | (refine w_Raw hA ?_; intro hA)
  | (refine w_SetRaw hA ?_; intro hA)
  | (refine w_SwapRaw hA ?_; intro hA)
  | (refine w_AddRaw hA ?_; intro hA)
  | (refine w_Load hA ?_; intro hA)
  | (refine w_Store hA ?_; intro hA)
  | (refine w_Retire hA ?_; intro hA)
  | (refine w_Died hA ?_; intro hA)
  | (refine w_Born hA ?_; intro hA)
  | refine w_State hA ?_
  | refine w_Uses hA ?_
  | refine w_Fault hA ?_
  | refine w_Words hA ?_
  | refine w_Count hA ?_
  | refine wq_Size ?_
  | refine wq_Open ?_
  | refine wq_Pack ?_
  | refine wq_head ?_
  | refine w_ck 0 hA ok rfl rfl rfl ?_
  | refine w_ck 1 hA ok rfl rfl rfl ?_
  | refine w_ck 2 hA ok rfl rfl rfl ?_
  | refine w_ck 3 hA ok rfl rfl rfl ?_
  | refine w_ck 4 hA ok rfl rfl rfl ?_
  | refine w_ck 5 hA ok rfl rfl rfl ?_
  | refine w_ck 6 hA ok rfl rfl rfl ?_
  | refine w_ck 7 hA ok rfl rfl rfl ?_
  | refine w_ckn rfl ?_
  | refine w_Base 0 1 hA ok rfl rfl ?_
  | refine w_Base 1 2 hA ok rfl rfl ?_
  | refine w_Base 2 3 hA ok rfl rfl ?_
  | refine w_Base 3 4 hA ok rfl rfl ?_
  | refine w_Base 4 5 hA ok rfl rfl ?_
  | refine w_Base 5 6 hA ok rfl rfl ?_
  | (refine w_PopStep 0 1 hA ok rfl rfl ?_; intro hA)
  | (refine w_PopStep 1 2 hA ok rfl rfl ?_; intro hA)
  | (refine w_PopStep 2 3 hA ok rfl rfl ?_; intro hA)
  | (refine w_PopStep 3 4 hA ok rfl rfl ?_; intro hA)
  | (refine w_PopStep 4 5 hA ok rfl rfl ?_; intro hA)
  | (refine w_PopStep 5 6 hA ok rfl rfl ?_; intro hA)
  | (refine w_PushStep 0 1 hA ok rfl rfl ?_; intro hA)
  | (refine w_PushStep 1 2 hA ok rfl rfl ?_; intro hA)
  | (refine w_PushStep 2 3 hA ok rfl rfl ?_; intro hA)
  | (refine w_PushStep 3 4 hA ok rfl rfl ?_; intro hA)
  | (refine w_PushStep 4 5 hA ok rfl rfl ?_; intro hA)
  | (refine w_PushStep 5 6 hA ok rfl rfl ?_; intro hA)
  | refine wp_true (by assumption) ?_
  | refine wp_false (by assumption) ?_)
      refine w_NewPop (p := x.pl) hA ok fun r0 r1 ok => ?_
      repeat (first
  | refine wp_nil.2 ?_
  | refine w_ld 0 hA ok rfl rfl rfl ?_
  | refine w_ld 1 hA ok rfl rfl rfl ?_
  | refine w_ld 2 hA ok rfl rfl rfl ?_
  | refine w_ld 3 hA ok rfl rfl rfl ?_
  | refine w_ld 4 hA ok rfl rfl rfl ?_
  | refine w_ld 5 hA ok rfl rfl rfl ?_
  | refine w_ld 6 hA ok rfl rfl rfl ?_
  | refine w_ld 7 hA ok rfl rfl rfl ?_
  | refine w_st 0 hA ok rfl rfl rfl rfl ?_
  | refine w_st 1 hA ok rfl rfl rfl rfl ?_
  | refine w_st 2 hA ok rfl rfl rfl rfl ?_
  | refine w_st 3 hA ok rfl rfl rfl rfl ?_
  | refine w_st 4 hA ok rfl rfl rfl rfl ?_
  | refine w_st 5 hA ok rfl rfl rfl rfl ?_
  | refine w_st 6 hA ok rfl rfl rfl rfl ?_
  | refine w_st 7 hA ok rfl rfl rfl rfl ?_
  | refine w_ldA 0 hA ok rfl rfl rfl ?_
  | refine w_ldA 1 hA ok rfl rfl rfl ?_
  | refine w_ldA 2 hA ok rfl rfl rfl ?_
  | refine w_ldA 3 hA ok rfl rfl rfl ?_
  | refine w_ldA 4 hA ok rfl rfl rfl ?_
  | refine w_ldA 5 hA ok rfl rfl rfl ?_
  | refine w_ldA 6 hA ok rfl rfl rfl ?_
  | refine w_ldA 7 hA ok rfl rfl rfl ?_
  | refine w_stA 0 hA ok rfl rfl rfl rfl ?_
  | refine w_stA 1 hA ok rfl rfl rfl rfl ?_
  | refine w_stA 2 hA ok rfl rfl rfl rfl ?_
  | refine w_stA 3 hA ok rfl rfl rfl rfl ?_
  | refine w_stA 4 hA ok rfl rfl rfl rfl ?_
  | refine w_stA 5 hA ok rfl rfl rfl rfl ?_
  | refine w_stA 6 hA ok rfl rfl rfl rfl ?_
  | refine w_stA 7 hA ok rfl rfl rfl rfl ?_
  | (refine w_Raw hA ?_; intro hA)
  | (refine w_SetRaw hA ?_; intro hA)
  | (refine w_SwapRaw hA ?_; intro hA)
  | (refine w_AddRaw hA ?_; intro hA)
  | (refine w_Load hA ?_; intro hA)
  | (refine w_Store hA ?_; intro hA)
  | (refine w_Retire hA ?_; intro hA)
  | (refine w_Died hA ?_; intro hA)
  | (refine w_Born hA ?_; intro hA)
  | refine w_State hA ?_
  | refine w_Uses hA ?_
  | refine w_Fault hA ?_
  | refine w_Words hA ?_
  | refine w_Count hA ?_
  | refine wq_Size ?_
  | refine wq_Open ?_
  | refine wq_Pack ?_
  | refine wq_head ?_
  | refine w_ck 0 hA ok rfl rfl rfl ?_
  | refine w_ck 1 hA ok rfl rfl rfl ?_
  | refine w_ck 2 hA ok rfl rfl rfl ?_
  | refine w_ck 3 hA ok rfl rfl rfl ?_
  | refine w_ck 4 hA ok rfl rfl rfl ?_
  | refine w_ck 5 hA ok rfl rfl rfl ?_
  | refine w_ck 6 hA ok rfl rfl rfl ?_
  | refine w_ck 7 hA ok rfl rfl rfl ?_
  | refine w_ckn rfl ?_
  | refine w_Base 0 1 hA ok rfl rfl ?_
  | refine w_Base 1 2 hA ok rfl rfl ?_
  | refine w_Base 2 3 hA ok rfl rfl ?_
  | refine w_Base 3 4 hA ok rfl rfl ?_
  | refine w_Base 4 5 hA ok rfl rfl ?_
  | refine w_Base 5 6 hA ok rfl rfl ?_
  | (refine w_PopStep 0 1 hA ok rfl rfl ?_; intro hA)
  | (refine w_PopStep 1 2 hA ok rfl rfl ?_; intro hA)
  | (refine w_PopStep 2 3 hA ok rfl rfl ?_; intro hA)
  | (refine w_PopStep 3 4 hA ok rfl rfl ?_; intro hA)
  | (refine w_PopStep 4 5 hA ok rfl rfl ?_; intro hA)
  | (refine w_PopStep 5 6 hA ok rfl rfl ?_; intro hA)
  | (refine w_PushStep 0 1 hA ok rfl rfl ?_; intro hA)
  | (refine w_PushStep 1 2 hA ok rfl rfl ?_; intro hA)
  | (refine w_PushStep 2 3 hA ok rfl rfl ?_; intro hA)
  | (refine w_PushStep 3 4 hA ok rfl rfl ?_; intro hA)
  | (refine w_PushStep 4 5 hA ok rfl rfl ?_; intro hA)
  | (refine w_PushStep 5 6 hA ok rfl rfl ?_; intro hA)
  | refine wp_true (by assumption) ?_
  | refine wp_false (by assumption) ?_)
      exact w_ret [2, 0, 1] ok rfl (by decide) fun ok => ⟨r0, r1, rfl, rfl, ok⟩

theorem mAl_ok : mAl.ok := by
  rintro I A G x ⟨q, q0, q1⟩ hA ok hl
  have ok : Ok I G [q, q0, q1] := ok
  refine t_slab_Alloc_Step_spec fun L => ?_
  unfold t_slab_Alloc_Step
  show wp Try.prog _ L (own A (x.bl (q, q0, q1)) G) _
  show wp Try.prog _ L (own A [(q, oc ty_slab_Alloc (x.cells q0)), (q0, popObj q1), (q1, x.po.obj)] G) fun v K => ∃ j' : Nat × Nat × Nat, v = .bool ((x.step A).1.what == 4) ∧ K = own (x.step A).2 ((x.step A).1.bl j') G ∧ j'.1 = q ∧ Ok I G [j'.1, j'.2.1, j'.2.2] ∧ Aw I (x.step A).2
  unfold Al.step
  repeat (first
  | refine wp_nil.2 ?_
  | refine w_ld 0 hA ok rfl rfl rfl ?_
  | refine w_ld 1 hA ok rfl rfl rfl ?_
  | refine w_ld 2 hA ok rfl rfl rfl ?_
  | refine w_ld 3 hA ok rfl rfl rfl ?_
  | refine w_ld 4 hA ok rfl rfl rfl ?_
  | refine w_ld 5 hA ok rfl rfl rfl ?_
  | refine w_ld 6 hA ok rfl rfl rfl ?_
  | refine w_ld 7 hA ok rfl rfl rfl ?_
  | refine w_st 0 hA ok rfl rfl rfl rfl ?_
  | refine w_st 1 hA ok rfl rfl rfl rfl ?_
  | refine w_st 2 hA ok rfl rfl rfl rfl ?_
  | refine w_st 3 hA ok rfl rfl rfl rfl ?_
  | refine w_st 4 hA ok rfl rfl rfl rfl ?_
  | refine w_st 5 hA ok rfl rfl rfl rfl ?_
  | refine w_st 6 hA ok rfl rfl rfl rfl ?_
  | refine w_st 7 hA ok rfl rfl rfl rfl ?_
  | refine w_ldA 0 hA ok rfl rfl rfl ?_
  | refine w_ldA 1 hA ok rfl rfl rfl ?_
  | refine w_ldA 2 hA ok rfl rfl rfl ?_
  | refine w_ldA 3 hA ok rfl rfl rfl ?_
  | refine w_ldA 4 hA ok rfl rfl rfl ?_
  | refine w_ldA 5 hA ok rfl rfl rfl ?_
  | refine w_ldA 6 hA ok rfl rfl rfl ?_
  | refine w_ldA 7 hA ok rfl rfl rfl ?_
  | refine w_stA 0 hA ok rfl rfl rfl rfl ?_
  | refine w_stA 1 hA ok rfl rfl rfl rfl ?_
  | refine w_stA 2 hA ok rfl rfl rfl rfl ?_
  | refine w_stA 3 hA ok rfl rfl rfl rfl ?_
  | refine w_stA 4 hA ok rfl rfl rfl rfl ?_
  | refine w_stA 5 hA ok rfl rfl rfl rfl ?_
  | refine w_stA 6 hA ok rfl rfl rfl rfl ?_
  | refine w_stA 7 hA ok rfl rfl rfl rfl ?_
  | (refine w_Raw hA ?_; intro hA)
  | (refine w_SetRaw hA ?_; intro hA)
  | (refine w_SwapRaw hA ?_; intro hA)
  | (refine w_AddRaw hA ?_; intro hA)
  | (refine w_Load hA ?_; intro hA)
  | (refine w_Store hA ?_; intro hA)
  | (refine w_Retire hA ?_; intro hA)
  | (refine w_Died hA ?_; intro hA)
  | (refine w_Born hA ?_; intro hA)
  | refine w_State hA ?_
  | refine w_Uses hA ?_
  | refine w_Fault hA ?_
  | refine w_Words hA ?_
  | refine w_Count hA ?_
  | refine wq_Size ?_
  | refine wq_Open ?_
  | refine wq_Pack ?_
  | refine wq_head ?_
  | refine w_ck 0 hA ok rfl rfl rfl ?_
  | refine w_ck 1 hA ok rfl rfl rfl ?_
  | refine w_ck 2 hA ok rfl rfl rfl ?_
  | refine w_ck 3 hA ok rfl rfl rfl ?_
  | refine w_ck 4 hA ok rfl rfl rfl ?_
  | refine w_ck 5 hA ok rfl rfl rfl ?_
  | refine w_ck 6 hA ok rfl rfl rfl ?_
  | refine w_ck 7 hA ok rfl rfl rfl ?_
  | refine w_ckn rfl ?_
  | refine w_Base 0 1 hA ok rfl rfl ?_
  | refine w_Base 1 2 hA ok rfl rfl ?_
  | refine w_Base 2 3 hA ok rfl rfl ?_
  | refine w_Base 3 4 hA ok rfl rfl ?_
  | refine w_Base 4 5 hA ok rfl rfl ?_
  | refine w_Base 5 6 hA ok rfl rfl ?_
  | (refine w_PopStep 0 1 hA ok rfl rfl ?_; intro hA)
  | (refine w_PopStep 1 2 hA ok rfl rfl ?_; intro hA)
  | (refine w_PopStep 2 3 hA ok rfl rfl ?_; intro hA)
  | (refine w_PopStep 3 4 hA ok rfl rfl ?_; intro hA)
  | (refine w_PopStep 4 5 hA ok rfl rfl ?_; intro hA)
  | (refine w_PopStep 5 6 hA ok rfl rfl ?_; intro hA)
  | (refine w_PushStep 0 1 hA ok rfl rfl ?_; intro hA)
  | (refine w_PushStep 1 2 hA ok rfl rfl ?_; intro hA)
  | (refine w_PushStep 2 3 hA ok rfl rfl ?_; intro hA)
  | (refine w_PushStep 3 4 hA ok rfl rfl ?_; intro hA)
  | (refine w_PushStep 4 5 hA ok rfl rfl ?_; intro hA)
  | (refine w_PushStep 5 6 hA ok rfl rfl ?_; intro hA)
  | refine wp_true (by assumption) ?_
  | refine wp_false (by assumption) ?_)
  by_cases h0 : x.what = 0
  · rw [if_pos h0]
    refine wp_true (ibeq h0) ?_
    repeat (first
  | refine wp_nil.2 ?_
  | refine w_ld 0 hA ok rfl rfl rfl ?_
  | refine w_ld 1 hA ok rfl rfl rfl ?_
  | refine w_ld 2 hA ok rfl rfl rfl ?_
  | refine w_ld 3 hA ok rfl rfl rfl ?_
  | refine w_ld 4 hA ok rfl rfl rfl ?_
  | refine w_ld 5 hA ok rfl rfl rfl ?_
  | refine w_ld 6 hA ok rfl rfl rfl ?_
  | refine w_ld 7 hA ok rfl rfl rfl ?_
  | refine w_st 0 hA ok rfl rfl rfl rfl ?_
  | refine w_st 1 hA ok rfl rfl rfl rfl ?_
  | refine w_st 2 hA ok rfl rfl rfl rfl ?_
  | refine w_st 3 hA ok rfl rfl rfl rfl ?_
  | refine w_st 4 hA ok rfl rfl rfl rfl ?_
  | refine w_st 5 hA ok rfl rfl rfl rfl ?_
  | refine w_st 6 hA ok rfl rfl rfl rfl ?_
  | refine w_st 7 hA ok rfl rfl rfl rfl ?_
  | refine w_ldA 0 hA ok rfl rfl rfl ?_
  | refine w_ldA 1 hA ok rfl rfl rfl ?_
  | refine w_ldA 2 hA ok rfl rfl rfl ?_
  | refine w_ldA 3 hA ok rfl rfl rfl ?_
  | refine w_ldA 4 hA ok rfl rfl rfl ?_
  | refine w_ldA 5 hA ok rfl rfl rfl ?_
  | refine w_ldA 6 hA ok rfl rfl rfl ?_
  | refine w_ldA 7 hA ok rfl rfl rfl ?_
  | refine w_stA 0 hA ok rfl rfl rfl rfl ?_
  | refine w_stA 1 hA ok rfl rfl rfl rfl ?_
  | refine w_stA 2 hA ok rfl rfl rfl rfl ?_
  | refine w_stA 3 hA ok rfl rfl rfl rfl ?_
  | refine w_stA 4 hA ok rfl rfl rfl rfl ?_
  | refine w_stA 5 hA ok rfl rfl rfl rfl ?_
  | refine w_stA 6 hA ok rfl rfl rfl rfl ?_
  | refine w_stA 7 hA ok rfl rfl rfl rfl ?_
  | (refine w_Raw hA ?_; intro hA)
  | (refine w_SetRaw hA ?_; intro hA)
  | (refine w_SwapRaw hA ?_; intro hA)
  | (refine w_AddRaw hA ?_; intro hA)
  | (refine w_Load hA ?_; intro hA)
  | (refine w_Store hA ?_; intro hA)
  | (refine w_Retire hA ?_; intro hA)
  | (refine w_Died hA ?_; intro hA)
  | (refine w_Born hA ?_; intro hA)
  | refine w_State hA ?_
  | refine w_Uses hA ?_
  | refine w_Fault hA ?_
  | refine w_Words hA ?_
  | refine w_Count hA ?_
  | refine wq_Size ?_
  | refine wq_Open ?_
  | refine wq_Pack ?_
  | refine wq_head ?_
  | refine w_ck 0 hA ok rfl rfl rfl ?_
  | refine w_ck 1 hA ok rfl rfl rfl ?_
  | refine w_ck 2 hA ok rfl rfl rfl ?_
  | refine w_ck 3 hA ok rfl rfl rfl ?_
  | refine w_ck 4 hA ok rfl rfl rfl ?_
  | refine w_ck 5 hA ok rfl rfl rfl ?_
  | refine w_ck 6 hA ok rfl rfl rfl ?_
  | refine w_ck 7 hA ok rfl rfl rfl ?_
  | refine w_ckn rfl ?_
  | refine w_Base 0 1 hA ok rfl rfl ?_
  | refine w_Base 1 2 hA ok rfl rfl ?_
  | refine w_Base 2 3 hA ok rfl rfl ?_
  | refine w_Base 3 4 hA ok rfl rfl ?_
  | refine w_Base 4 5 hA ok rfl rfl ?_
  | refine w_Base 5 6 hA ok rfl rfl ?_
  | (refine w_PopStep 0 1 hA ok rfl rfl ?_; intro hA)
  | (refine w_PopStep 1 2 hA ok rfl rfl ?_; intro hA)
  | (refine w_PopStep 2 3 hA ok rfl rfl ?_; intro hA)
  | (refine w_PopStep 3 4 hA ok rfl rfl ?_; intro hA)
  | (refine w_PopStep 4 5 hA ok rfl rfl ?_; intro hA)
  | (refine w_PopStep 5 6 hA ok rfl rfl ?_; intro hA)
  | (refine w_PushStep 0 1 hA ok rfl rfl ?_; intro hA)
  | (refine w_PushStep 1 2 hA ok rfl rfl ?_; intro hA)
  | (refine w_PushStep 2 3 hA ok rfl rfl ?_; intro hA)
  | (refine w_PushStep 3 4 hA ok rfl rfl ?_; intro hA)
  | (refine w_PushStep 4 5 hA ok rfl rfl ?_; intro hA)
  | (refine w_PushStep 5 6 hA ok rfl rfl ?_; intro hA)
  | refine wp_true (by assumption) ?_
  | refine wp_false (by assumption) ?_)
    cases hb : x.po.stepB A with
    | true =>
      refine wp_true rfl ?_
      refine wp_call_of (popped_spec (I := I) (A := x.po.stepA A) { x with po := x.po.stepM A } hA ok hl) ?_
      rintro v K ⟨r0, r1, rfl, rfl, ok⟩
      refine ⟨(), rfl, ?_⟩
      show wp Try.prog _ L (own (x.po.stepA A) [(q, oc ty_slab_Alloc ((Al.popd { x with po := x.po.stepM A }).cells r0)), (r0, popObj r1), (r1, (Al.popd { x with po := x.po.stepM A }).po.obj)] G) _
      repeat (first
  | refine wp_nil.2 ?_
  | refine w_ld 0 hA ok rfl rfl rfl ?_
  | refine w_ld 1 hA ok rfl rfl rfl ?_
  | refine w_ld 2 hA ok rfl rfl rfl ?_
  | refine w_ld 3 hA ok rfl rfl rfl ?_
  | refine w_ld 4 hA ok rfl rfl rfl ?_
  | refine w_ld 5 hA ok rfl rfl rfl ?_
  | refine w_ld 6 hA ok rfl rfl rfl ?_
  | refine w_ld 7 hA ok rfl rfl rfl ?_
  | refine w_st 0 hA ok rfl rfl rfl rfl ?_
  | refine w_st 1 hA ok rfl rfl rfl rfl ?_
  | refine w_st 2 hA ok rfl rfl rfl rfl ?_
  | refine w_st 3 hA ok rfl rfl rfl rfl ?_
  | refine w_st 4 hA ok rfl rfl rfl rfl ?_
  | refine w_st 5 hA ok rfl rfl rfl rfl ?_
  | refine w_st 6 hA ok rfl rfl rfl rfl ?_
  | refine w_st 7 hA ok rfl rfl rfl rfl ?_
  | refine w_ldA 0 hA ok rfl rfl rfl ?_
  | refine w_ldA 1 hA ok rfl rfl rfl ?_
  | refine w_ldA 2 hA ok rfl rfl rfl ?_
  | refine w_ldA 3 hA ok rfl rfl rfl ?_
  | refine w_ldA 4 hA ok rfl rfl rfl ?_
  | refine w_ldA 5 hA ok rfl rfl rfl ?_
  | refine w_ldA 6 hA ok rfl rfl rfl ?_
  | refine w_ldA 7 hA ok rfl rfl rfl ?_
  | refine w_stA 0 hA ok rfl rfl rfl rfl ?_
  | refine w_stA 1 hA ok rfl rfl rfl rfl ?_
  | refine w_stA 2 hA ok rfl rfl rfl rfl ?_
  | refine w_stA 3 hA ok rfl rfl rfl rfl ?_
  | refine w_stA 4 hA ok rfl rfl rfl rfl ?_
  | refine w_stA 5 hA ok rfl rfl rfl rfl ?_
  | refine w_stA 6 hA ok rfl rfl rfl rfl ?_
  | refine w_stA 7 hA ok rfl rfl rfl rfl ?_
  | (refine w_Raw hA ?_; intro hA)
  | (refine w_SetRaw hA ?_; intro hA)
  | (refine w_SwapRaw hA ?_; intro hA)
  | (refine w_AddRaw hA ?_; intro hA)
  | (refine w_Load hA ?_; intro hA)
  | (refine w_Store hA ?_; intro hA)
  | (refine w_Retire hA ?_; intro hA)
  | (refine w_Died hA ?_; intro hA)
  | (refine w_Born hA ?_; intro hA)
  | refine w_State hA ?_
  | refine w_Uses hA ?_
  | refine w_Fault hA ?_
  | refine w_Words hA ?_
  | refine w_Count hA ?_
  | refine wq_Size ?_
  | refine wq_Open ?_
  | refine wq_Pack ?_
  | refine wq_head ?_
  | refine w_ck 0 hA ok rfl rfl rfl ?_
  | refine w_ck 1 hA ok rfl rfl rfl ?_
  | refine w_ck 2 hA ok rfl rfl rfl ?_
  | refine w_ck 3 hA ok rfl rfl rfl ?_
  | refine w_ck 4 hA ok rfl rfl rfl ?_
  | refine w_ck 5 hA ok rfl rfl rfl ?_
  | refine w_ck 6 hA ok rfl rfl rfl ?_
  | refine w_ck 7 hA ok rfl rfl rfl ?_
  | refine w_ckn rfl ?_
  | refine w_Base 0 1 hA ok rfl rfl ?_
  | refine w_Base 1 2 hA ok rfl rfl ?_
  | refine w_Base 2 3 hA ok rfl rfl ?_
  | refine w_Base 3 4 hA ok rfl rfl ?_
  | refine w_Base 4 5 hA ok rfl rfl ?_
  | refine w_Base 5 6 hA ok rfl rfl ?_
  | (refine w_PopStep 0 1 hA ok rfl rfl ?_; intro hA)
  | (refine w_PopStep 1 2 hA ok rfl rfl ?_; intro hA)
  | (refine w_PopStep 2 3 hA ok rfl rfl ?_; intro hA)
  | (refine w_PopStep 3 4 hA ok rfl rfl ?_; intro hA)
  | (refine w_PopStep 4 5 hA ok rfl rfl ?_; intro hA)
  | (refine w_PopStep 5 6 hA ok rfl rfl ?_; intro hA)
  | (refine w_PushStep 0 1 hA ok rfl rfl ?_; intro hA)
  | (refine w_PushStep 1 2 hA ok rfl rfl ?_; intro hA)
  | (refine w_PushStep 2 3 hA ok rfl rfl ?_; intro hA)
  | (refine w_PushStep 3 4 hA ok rfl rfl ?_; intro hA)
  | (refine w_PushStep 4 5 hA ok rfl rfl ?_; intro hA)
  | (refine w_PushStep 5 6 hA ok rfl rfl ?_; intro hA)
  | refine wp_true (by assumption) ?_
  | refine wp_false (by assumption) ?_)
      exact wp_ret_of ⟨(q, r0, r1), rfl, rfl, rfl, ok, hA⟩
    | false =>
      refine wp_false rfl ?_
      repeat (first
  | refine wp_nil.2 ?_
  | refine w_ld 0 hA ok rfl rfl rfl ?_
  | refine w_ld 1 hA ok rfl rfl rfl ?_
  | refine w_ld 2 hA ok rfl rfl rfl ?_
  | refine w_ld 3 hA ok rfl rfl rfl ?_
  | refine w_ld 4 hA ok rfl rfl rfl ?_
  | refine w_ld 5 hA ok rfl rfl rfl ?_
  | refine w_ld 6 hA ok rfl rfl rfl ?_
  | refine w_ld 7 hA ok rfl rfl rfl ?_
  | refine w_st 0 hA ok rfl rfl rfl rfl ?_
  | refine w_st 1 hA ok rfl rfl rfl rfl ?_
  | refine w_st 2 hA ok rfl rfl rfl rfl ?_
  | refine w_st 3 hA ok rfl rfl rfl rfl ?_
  | refine w_st 4 hA ok rfl rfl rfl rfl ?_
  | refine w_st 5 hA ok rfl rfl rfl rfl ?_
  | refine w_st 6 hA ok rfl rfl rfl rfl ?_
  | refine w_st 7 hA ok rfl rfl rfl rfl ?_
  | refine w_ldA 0 hA ok rfl rfl rfl ?_
  | refine w_ldA 1 hA ok rfl rfl rfl ?_
  | refine w_ldA 2 hA ok rfl rfl rfl ?_
  | refine w_ldA 3 hA ok rfl rfl rfl ?_
  | refine w_ldA 4 hA ok rfl rfl rfl ?_
  | refine w_ldA 5 hA ok rfl rfl rfl ?_
  | refine w_ldA 6 hA ok rfl rfl rfl ?_
  | refine w_ldA 7 hA ok rfl rfl rfl ?_
  | refine w_stA 0 hA ok rfl rfl rfl rfl ?_
  | refine w_stA 1 hA ok rfl rfl rfl rfl ?_
  | refine w_stA 2 hA ok rfl rfl rfl rfl ?_
  | refine w_stA 3 hA ok rfl rfl rfl rfl ?_
  | refine w_stA 4 hA ok rfl rfl rfl rfl ?_
  | refine w_stA 5 hA ok rfl rfl rfl rfl ?_
  | refine w_stA 6 hA ok rfl rfl rfl rfl ?_
  | refine w_stA 7 hA ok rfl rfl rfl rfl ?_
  | (refine w_Raw hA ?_; intro hA)
  | (refine w_SetRaw hA ?_; intro hA)
  | (refine w_SwapRaw hA ?_; intro hA)
  | (refine w_AddRaw hA ?_; intro hA)
  | (refine w_Load hA ?_; intro hA)
  | (refine w_Store hA ?_; intro hA)
  | (refine w_Retire hA ?_; intro hA)
  | (refine w_Died hA ?_; intro hA)
  | (refine w_Born hA ?_; intro hA)
  | refine w_State hA ?_
  | refine w_Uses hA ?_
  | refine w_Fault hA ?_
  | refine w_Words hA ?_
  | refine w_Count hA ?_
  | refine wq_Size ?_
  | refine wq_Open ?_
  | refine wq_Pack ?_
  | refine wq_head ?_
  | refine w_ck 0 hA ok rfl rfl rfl ?_
  | refine w_ck 1 hA ok rfl rfl rfl ?_
  | refine w_ck 2 hA ok rfl rfl rfl ?_
  | refine w_ck 3 hA ok rfl rfl rfl ?_
  | refine w_ck 4 hA ok rfl rfl rfl ?_
  | refine w_ck 5 hA ok rfl rfl rfl ?_
  | refine w_ck 6 hA ok rfl rfl rfl ?_
  | refine w_ck 7 hA ok rfl rfl rfl ?_
  | refine w_ckn rfl ?_
  | refine w_Base 0 1 hA ok rfl rfl ?_
  | refine w_Base 1 2 hA ok rfl rfl ?_
  | refine w_Base 2 3 hA ok rfl rfl ?_
  | refine w_Base 3 4 hA ok rfl rfl ?_
  | refine w_Base 4 5 hA ok rfl rfl ?_
  | refine w_Base 5 6 hA ok rfl rfl ?_
  | (refine w_PopStep 0 1 hA ok rfl rfl ?_; intro hA)
  | (refine w_PopStep 1 2 hA ok rfl rfl ?_; intro hA)
  | (refine w_PopStep 2 3 hA ok rfl rfl ?_; intro hA)
  | (refine w_PopStep 3 4 hA ok rfl rfl ?_; intro hA)
  | (refine w_PopStep 4 5 hA ok rfl rfl ?_; intro hA)
  | (refine w_PopStep 5 6 hA ok rfl rfl ?_; intro hA)
  | (refine w_PushStep 0 1 hA ok rfl rfl ?_; intro hA)
  | (refine w_PushStep 1 2 hA ok rfl rfl ?_; intro hA)
  | (refine w_PushStep 2 3 hA ok rfl rfl ?_; intro hA)
  | (refine w_PushStep 3 4 hA ok rfl rfl ?_; intro hA)
  | (refine w_PushStep 4 5 hA ok rfl rfl ?_; intro hA)
  | (refine w_PushStep 5 6 hA ok rfl rfl ?_; intro hA)
  | refine wp_true (by assumption) ?_
  | refine wp_false (by assumption) ?_)
      exact wp_ret_of ⟨(q, q0, q1), rfl, rfl, rfl, ok, hA⟩
  · rw [if_neg h0]
    refine wp_false (ibef h0) ?_
    by_cases h1 : x.what = 1
    · rw [if_pos h1]
      refine wp_true (ibeq h1) ?_
      repeat (first
  | refine wp_nil.2 ?_
  | refine w_ld 0 hA ok rfl rfl rfl ?_
  | refine w_ld 1 hA ok rfl rfl rfl ?_
  | refine w_ld 2 hA ok rfl rfl rfl ?_
  | refine w_ld 3 hA ok rfl rfl rfl ?_
  | refine w_ld 4 hA ok rfl rfl rfl ?_
  | refine w_ld 5 hA ok rfl rfl rfl ?_
  | refine w_ld 6 hA ok rfl rfl rfl ?_
  | refine w_ld 7 hA ok rfl rfl rfl ?_
  | refine w_st 0 hA ok rfl rfl rfl rfl ?_
  | refine w_st 1 hA ok rfl rfl rfl rfl ?_
  | refine w_st 2 hA ok rfl rfl rfl rfl ?_
  | refine w_st 3 hA ok rfl rfl rfl rfl ?_
  | refine w_st 4 hA ok rfl rfl rfl rfl ?_
  | refine w_st 5 hA ok rfl rfl rfl rfl ?_
  | refine w_st 6 hA ok rfl rfl rfl rfl ?_
  | refine w_st 7 hA ok rfl rfl rfl rfl ?_
  | refine w_ldA 0 hA ok rfl rfl rfl ?_
  | refine w_ldA 1 hA ok rfl rfl rfl ?_
  | refine w_ldA 2 hA ok rfl rfl rfl ?_
  | refine w_ldA 3 hA ok rfl rfl rfl ?_
  | refine w_ldA 4 hA ok rfl rfl rfl ?_
  | refine w_ldA 5 hA ok rfl rfl rfl ?_
  | refine w_ldA 6 hA ok rfl rfl rfl ?_
  | refine w_ldA 7 hA ok rfl rfl rfl ?_
  | refine w_stA 0 hA ok rfl rfl rfl rfl ?_
  | refine w_stA 1 hA ok rfl rfl rfl rfl ?_
  | refine w_stA 2 hA ok rfl rfl rfl rfl ?_
  | refine w_stA 3 hA ok rfl rfl rfl rfl ?_
  | refine w_stA 4 hA ok rfl rfl rfl rfl ?_
  | refine w_stA 5 hA ok rfl rfl rfl rfl ?_
  | refine w_stA 6 hA ok rfl rfl rfl rfl ?_
  | refine w_stA 7 hA ok rfl rfl rfl rfl ?_
  | (refine w_Raw hA ?_; intro hA)
  | (refine w_SetRaw hA ?_; intro hA)
  | (refine w_SwapRaw hA ?_; intro hA)
  | (refine w_AddRaw hA ?_; intro hA)
  | (refine w_Load hA ?_; intro hA)
  | (refine w_Store hA ?_; intro hA)
  | (refine w_Retire hA ?_; intro hA)
  | (refine w_Died hA ?_; intro hA)
  | (refine w_Born hA ?_; intro hA)
  | refine w_State hA ?_
  | refine w_Uses hA ?_
  | refine w_Fault hA ?_
  | refine w_Words hA ?_
  | refine w_Count hA ?_
  | refine wq_Size ?_
  | refine wq_Open ?_
  | refine wq_Pack ?_
  | refine wq_head ?_
  | refine w_ck 0 hA ok rfl rfl rfl ?_
  | refine w_ck 1 hA ok rfl rfl rfl ?_
  | refine w_ck 2 hA ok rfl rfl rfl ?_
  | refine w_ck 3 hA ok rfl rfl rfl ?_
  | refine w_ck 4 hA ok rfl rfl rfl ?_
  | refine w_ck 5 hA ok rfl rfl rfl ?_
  | refine w_ck 6 hA ok rfl rfl rfl ?_
  | refine w_ck 7 hA ok rfl rfl rfl ?_
  | refine w_ckn rfl ?_
  | refine w_Base 0 1 hA ok rfl rfl ?_
  | refine w_Base 1 2 hA ok rfl rfl ?_
  | refine w_Base 2 3 hA ok rfl rfl ?_
  | refine w_Base 3 4 hA ok rfl rfl ?_
  | refine w_Base 4 5 hA ok rfl rfl ?_
  | refine w_Base 5 6 hA ok rfl rfl ?_
  | (refine w_PopStep 0 1 hA ok rfl rfl ?_; intro hA)
  | (refine w_PopStep 1 2 hA ok rfl rfl ?_; intro hA)
  | (refine w_PopStep 2 3 hA ok rfl rfl ?_; intro hA)
  | (refine w_PopStep 3 4 hA ok rfl rfl ?_; intro hA)
  | (refine w_PopStep 4 5 hA ok rfl rfl ?_; intro hA)
  | (refine w_PopStep 5 6 hA ok rfl rfl ?_; intro hA)
  | (refine w_PushStep 0 1 hA ok rfl rfl ?_; intro hA)
  | (refine w_PushStep 1 2 hA ok rfl rfl ?_; intro hA)
  | (refine w_PushStep 2 3 hA ok rfl rfl ?_; intro hA)
  | (refine w_PushStep 3 4 hA ok rfl rfl ?_; intro hA)
  | (refine w_PushStep 4 5 hA ok rfl rfl ?_; intro hA)
  | (refine w_PushStep 5 6 hA ok rfl rfl ?_; intro hA)
  | refine wp_true (by assumption) ?_
  | refine wp_false (by assumption) ?_)
      have ew : (A.touchR x.pl.carved).words.length = A.words.length := by unfold Ar.touchR; split <;> rfl
      rw [ew]
      by_cases h2 : A.rawF x.pl.carved > w64 (A.words.length - sizeF x.cls)
      · rw [if_pos h2]
        refine wp_true (decide_eq_true h2) ?_
        repeat (first
  | refine wp_nil.2 ?_
  | refine w_ld 0 hA ok rfl rfl rfl ?_
  | refine w_ld 1 hA ok rfl rfl rfl ?_
  | refine w_ld 2 hA ok rfl rfl rfl ?_
  | refine w_ld 3 hA ok rfl rfl rfl ?_
  | refine w_ld 4 hA ok rfl rfl rfl ?_
  | refine w_ld 5 hA ok rfl rfl rfl ?_
  | refine w_ld 6 hA ok rfl rfl rfl ?_
  | refine w_ld 7 hA ok rfl rfl rfl ?_
  | refine w_st 0 hA ok rfl rfl rfl rfl ?_
  | refine w_st 1 hA ok rfl rfl rfl rfl ?_
  | refine w_st 2 hA ok rfl rfl rfl rfl ?_
  | refine w_st 3 hA ok rfl rfl rfl rfl ?_
  | refine w_st 4 hA ok rfl rfl rfl rfl ?_
  | refine w_st 5 hA ok rfl rfl rfl rfl ?_
  | refine w_st 6 hA ok rfl rfl rfl rfl ?_
  | refine w_st 7 hA ok rfl rfl rfl rfl ?_
  | refine w_ldA 0 hA ok rfl rfl rfl ?_
  | refine w_ldA 1 hA ok rfl rfl rfl ?_
  | refine w_ldA 2 hA ok rfl rfl rfl ?_
  | refine w_ldA 3 hA ok rfl rfl rfl ?_
  | refine w_ldA 4 hA ok rfl rfl rfl ?_
  | refine w_ldA 5 hA ok rfl rfl rfl ?_
  | refine w_ldA 6 hA ok rfl rfl rfl ?_
  | refine w_ldA 7 hA ok rfl rfl rfl ?_
  | refine w_stA 0 hA ok rfl rfl rfl rfl ?_
  | refine w_stA 1 hA ok rfl rfl rfl rfl ?_
  | refine w_stA 2 hA ok rfl rfl rfl rfl ?_
  | refine w_stA 3 hA ok rfl rfl rfl rfl ?_
  | refine w_stA 4 hA ok rfl rfl rfl rfl ?_
  | refine w_stA 5 hA ok rfl rfl rfl rfl ?_
  | refine w_stA 6 hA ok rfl rfl rfl rfl ?_
  | refine w_stA 7 hA ok rfl rfl rfl rfl ?_
  | (refine w_Raw hA ?_; intro hA)
  | (refine w_SetRaw hA ?_; intro hA)
  | (refine w_SwapRaw hA ?_; intro hA)
  | (refine w_AddRaw hA ?_; intro hA)
  | (refine w_Load hA ?_; intro hA)
  | (refine w_Store hA ?_; intro hA)
  | (refine w_Retire hA ?_; intro hA)
  | (refine w_Died hA ?_; intro hA)
  | (refine w_Born hA ?_; intro hA)
  | refine w_State hA ?_
  | refine w_Uses hA ?_
  | refine w_Fault hA ?_
  | refine w_Words hA ?_
  | refine w_Count hA ?_
  | refine wq_Size ?_
  | refine wq_Open ?_
  | refine wq_Pack ?_
  | refine wq_head ?_
  | refine w_ck 0 hA ok rfl rfl rfl ?_
  | refine w_ck 1 hA ok rfl rfl rfl ?_
  | refine w_ck 2 hA ok rfl rfl rfl ?_
  | refine w_ck 3 hA ok rfl rfl rfl ?_
  | refine w_ck 4 hA ok rfl rfl rfl ?_
  | refine w_ck 5 hA ok rfl rfl rfl ?_
  | refine w_ck 6 hA ok rfl rfl rfl ?_
  | refine w_ck 7 hA ok rfl rfl rfl ?_
  | refine w_ckn rfl ?_
  | refine w_Base 0 1 hA ok rfl rfl ?_
  | refine w_Base 1 2 hA ok rfl rfl ?_
  | refine w_Base 2 3 hA ok rfl rfl ?_
  | refine w_Base 3 4 hA ok rfl rfl ?_
  | refine w_Base 4 5 hA ok rfl rfl ?_
  | refine w_Base 5 6 hA ok rfl rfl ?_
  | (refine w_PopStep 0 1 hA ok rfl rfl ?_; intro hA)
  | (refine w_PopStep 1 2 hA ok rfl rfl ?_; intro hA)
  | (refine w_PopStep 2 3 hA ok rfl rfl ?_; intro hA)
  | (refine w_PopStep 3 4 hA ok rfl rfl ?_; intro hA)
  | (refine w_PopStep 4 5 hA ok rfl rfl ?_; intro hA)
  | (refine w_PopStep 5 6 hA ok rfl rfl ?_; intro hA)
  | (refine w_PushStep 0 1 hA ok rfl rfl ?_; intro hA)
  | (refine w_PushStep 1 2 hA ok rfl rfl ?_; intro hA)
  | (refine w_PushStep 2 3 hA ok rfl rfl ?_; intro hA)
  | (refine w_PushStep 3 4 hA ok rfl rfl ?_; intro hA)
  | (refine w_PushStep 4 5 hA ok rfl rfl ?_; intro hA)
  | (refine w_PushStep 5 6 hA ok rfl rfl ?_; intro hA)
  | refine wp_true (by assumption) ?_
  | refine wp_false (by assumption) ?_)
        exact wp_ret_of ⟨(q, q0, q1), rfl, rfl, rfl, ok, hA⟩
      · rw [if_neg h2]
        refine wp_false (decide_eq_false h2) ?_
        repeat (first
  | refine wp_nil.2 ?_
  | refine w_ld 0 hA ok rfl rfl rfl ?_
  | refine w_ld 1 hA ok rfl rfl rfl ?_
  | refine w_ld 2 hA ok rfl rfl rfl ?_
  | refine w_ld 3 hA ok rfl rfl rfl ?_
  | refine w_ld 4 hA ok rfl rfl rfl ?_
  | refine w_ld 5 hA ok rfl rfl rfl ?_
  | refine w_ld 6 hA ok rfl rfl rfl ?_
  | refine w_ld 7 hA ok rfl rfl rfl ?_
  | refine w_st 0 hA ok rfl rfl rfl rfl ?_
  | refine w_st 1 hA ok rfl rfl rfl rfl ?_
  | refine w_st 2 hA ok rfl rfl rfl rfl ?_
  | refine w_st 3 hA ok rfl rfl rfl rfl ?_
  | refine w_st 4 hA ok rfl rfl rfl rfl ?_
  | refine w_st 5 hA ok rfl rfl rfl rfl ?_
  | refine w_st 6 hA ok rfl rfl rfl rfl ?_
  | refine w_st 7 hA ok rfl rfl rfl rfl ?_
  | refine w_ldA 0 hA ok rfl rfl rfl ?_
  | refine w_ldA 1 hA ok rfl rfl rfl ?_
  | refine w_ldA 2 hA ok rfl rfl rfl ?_
  | refine w_ldA 3 hA ok rfl rfl rfl ?_
  | refine w_ldA 4 hA ok rfl rfl rfl ?_
  | refine w_ldA 5 hA ok rfl rfl rfl ?_
  | refine w_ldA 6 hA ok rfl rfl rfl ?_
  | refine w_ldA 7 hA ok rfl rfl rfl ?_
  | refine w_stA 0 hA ok rfl rfl rfl rfl ?_
  | refine w_stA 1 hA ok rfl rfl rfl rfl ?_
  | refine w_stA 2 hA ok rfl rfl rfl rfl ?_
  | refine w_stA 3 hA ok rfl rfl rfl rfl ?_
  | refine w_stA 4 hA ok rfl rfl rfl rfl ?_
  | refine w_stA 5 hA ok rfl rfl rfl rfl ?_
  | refine w_stA 6 hA ok rfl rfl rfl rfl ?_
  | refine w_stA 7 hA ok rfl rfl rfl rfl ?_
  | (refine w_Raw hA ?_; intro hA)
  | (refine w_SetRaw hA ?_; intro hA)
  | (refine w_SwapRaw hA ?_; intro hA)
  | (refine w_AddRaw hA ?_; intro hA)
  | (refine w_Load hA ?_; intro hA)
  | (refine w_Store hA ?_; intro hA)
  | (refine w_Retire hA ?_; intro hA)
  | (refine w_Died hA ?_; intro hA)
  | (refine w_Born hA ?_; intro hA)
  | refine w_State hA ?_
  | refine w_Uses hA ?_
  | refine w_Fault hA ?_
  | refine w_Words hA ?_
  | refine w_Count hA ?_
  | refine wq_Size ?_
  | refine wq_Open ?_
  | refine wq_Pack ?_
  | refine wq_head ?_
  | refine w_ck 0 hA ok rfl rfl rfl ?_
  | refine w_ck 1 hA ok rfl rfl rfl ?_
  | refine w_ck 2 hA ok rfl rfl rfl ?_
  | refine w_ck 3 hA ok rfl rfl rfl ?_
  | refine w_ck 4 hA ok rfl rfl rfl ?_
  | refine w_ck 5 hA ok rfl rfl rfl ?_
  | refine w_ck 6 hA ok rfl rfl rfl ?_
  | refine w_ck 7 hA ok rfl rfl rfl ?_
  | refine w_ckn rfl ?_
  | refine w_Base 0 1 hA ok rfl rfl ?_
  | refine w_Base 1 2 hA ok rfl rfl ?_
  | refine w_Base 2 3 hA ok rfl rfl ?_
  | refine w_Base 3 4 hA ok rfl rfl ?_
  | refine w_Base 4 5 hA ok rfl rfl ?_
  | refine w_Base 5 6 hA ok rfl rfl ?_
  | (refine w_PopStep 0 1 hA ok rfl rfl ?_; intro hA)
  | (refine w_PopStep 1 2 hA ok rfl rfl ?_; intro hA)
  | (refine w_PopStep 2 3 hA ok rfl rfl ?_; intro hA)
  | (refine w_PopStep 3 4 hA ok rfl rfl ?_; intro hA)
  | (refine w_PopStep 4 5 hA ok rfl rfl ?_; intro hA)
  | (refine w_PopStep 5 6 hA ok rfl rfl ?_; intro hA)
  | (refine w_PushStep 0 1 hA ok rfl rfl ?_; intro hA)
  | (refine w_PushStep 1 2 hA ok rfl rfl ?_; intro hA)
  | (refine w_PushStep 2 3 hA ok rfl rfl ?_; intro hA)
  | (refine w_PushStep 3 4 hA ok rfl rfl ?_; intro hA)
  | (refine w_PushStep 4 5 hA ok rfl rfl ?_; intro hA)
  | (refine w_PushStep 5 6 hA ok rfl rfl ?_; intro hA)
  | refine wp_true (by assumption) ?_
  | refine wp_false (by assumption) ?_)
        exact wp_ret_of ⟨(q, q0, q1), rfl, rfl, rfl, ok, hA⟩
    · rw [if_neg h1]
      refine wp_false (ibef h1) ?_
      by_cases h2 : x.what = 2
      · rw [if_pos h2]
        refine wp_true (ibeq h2) ?_
        repeat (first
  | refine wp_nil.2 ?_
  | refine w_ld 0 hA ok rfl rfl rfl ?_
  | refine w_ld 1 hA ok rfl rfl rfl ?_
  | refine w_ld 2 hA ok rfl rfl rfl ?_
  | refine w_ld 3 hA ok rfl rfl rfl ?_
  | refine w_ld 4 hA ok rfl rfl rfl ?_
  | refine w_ld 5 hA ok rfl rfl rfl ?_
  | refine w_ld 6 hA ok rfl rfl rfl ?_
  | refine w_ld 7 hA ok rfl rfl rfl ?_
  | refine w_st 0 hA ok rfl rfl rfl rfl ?_
  | refine w_st 1 hA ok rfl rfl rfl rfl ?_
  | refine w_st 2 hA ok rfl rfl rfl rfl ?_
  | refine w_st 3 hA ok rfl rfl rfl rfl ?_
  | refine w_st 4 hA ok rfl rfl rfl rfl ?_
  | refine w_st 5 hA ok rfl rfl rfl rfl ?_
  | refine w_st 6 hA ok rfl rfl rfl rfl ?_
  | refine w_st 7 hA ok rfl rfl rfl rfl ?_
  | refine w_ldA 0 hA ok rfl rfl rfl ?_
  | refine w_ldA 1 hA ok rfl rfl rfl ?_
  | refine w_ldA 2 hA ok rfl rfl rfl ?_
  | refine w_ldA 3 hA ok rfl rfl rfl ?_
  | refine w_ldA 4 hA ok rfl rfl rfl ?_
  | refine w_ldA 5 hA ok rfl rfl rfl ?_
  | refine w_ldA 6 hA ok rfl rfl rfl ?_
  | refine w_ldA 7 hA ok rfl rfl rfl ?_
  | refine w_stA 0 hA ok rfl rfl rfl rfl ?_
  | refine w_stA 1 hA ok rfl rfl rfl rfl ?_
  | refine w_stA 2 hA ok rfl rfl rfl rfl ?_
  | refine w_stA 3 hA ok rfl rfl rfl rfl ?_
  | refine w_stA 4 hA ok rfl rfl rfl rfl ?_
  | refine w_stA 5 hA ok rfl rfl rfl rfl ?_
  | refine w_stA 6 hA ok rfl rfl rfl rfl ?_
  | refine w_stA 7 hA ok rfl rfl rfl rfl ?_
  | (refine w_Raw hA ?_; intro hA)
  | (refine w_SetRaw hA ?_; intro hA)
  | (refine w_SwapRaw hA ?_; intro hA)
  | (refine w_AddRaw hA ?_; intro hA)
  | (refine w_Load hA ?_; intro hA)
  | (refine w_Store hA ?_; intro hA)
  | (refine w_Retire hA ?_; intro hA)
  | (refine w_Died hA ?_; intro hA)
  | (refine w_Born hA ?_; intro hA)
  | refine w_State hA ?_
  | refine w_Uses hA ?_
  | refine w_Fault hA ?_
  | refine w_Words hA ?_
  | refine w_Count hA ?_
  | refine wq_Size ?_
  | refine wq_Open ?_
  | refine wq_Pack ?_
  | refine wq_head ?_
  | refine w_ck 0 hA ok rfl rfl rfl ?_
  | refine w_ck 1 hA ok rfl rfl rfl ?_
  | refine w_ck 2 hA ok rfl rfl rfl ?_
  | refine w_ck 3 hA ok rfl rfl rfl ?_
  | refine w_ck 4 hA ok rfl rfl rfl ?_
  | refine w_ck 5 hA ok rfl rfl rfl ?_
  | refine w_ck 6 hA ok rfl rfl rfl ?_
  | refine w_ck 7 hA ok rfl rfl rfl ?_
  | refine w_ckn rfl ?_
  | refine w_Base 0 1 hA ok rfl rfl ?_
  | refine w_Base 1 2 hA ok rfl rfl ?_
  | refine w_Base 2 3 hA ok rfl rfl ?_
  | refine w_Base 3 4 hA ok rfl rfl ?_
  | refine w_Base 4 5 hA ok rfl rfl ?_
  | refine w_Base 5 6 hA ok rfl rfl ?_
  | (refine w_PopStep 0 1 hA ok rfl rfl ?_; intro hA)
  | (refine w_PopStep 1 2 hA ok rfl rfl ?_; intro hA)
  | (refine w_PopStep 2 3 hA ok rfl rfl ?_; intro hA)
  | (refine w_PopStep 3 4 hA ok rfl rfl ?_; intro hA)
  | (refine w_PopStep 4 5 hA ok rfl rfl ?_; intro hA)
  | (refine w_PopStep 5 6 hA ok rfl rfl ?_; intro hA)
  | (refine w_PushStep 0 1 hA ok rfl rfl ?_; intro hA)
  | (refine w_PushStep 1 2 hA ok rfl rfl ?_; intro hA)
  | (refine w_PushStep 2 3 hA ok rfl rfl ?_; intro hA)
  | (refine w_PushStep 3 4 hA ok rfl rfl ?_; intro hA)
  | (refine w_PushStep 4 5 hA ok rfl rfl ?_; intro hA)
  | (refine w_PushStep 5 6 hA ok rfl rfl ?_; intro hA)
  | refine wp_true (by assumption) ?_
  | refine wp_false (by assumption) ?_)
        cases hb : A.swapRb x.pl.carved x.base with
        | true =>
          repeat (first
  | refine wp_nil.2 ?_
  | refine w_ld 0 hA ok rfl rfl rfl ?_
  | refine w_ld 1 hA ok rfl rfl rfl ?_
  | refine w_ld 2 hA ok rfl rfl rfl ?_
  | refine w_ld 3 hA ok rfl rfl rfl ?_
  | refine w_ld 4 hA ok rfl rfl rfl ?_
  | refine w_ld 5 hA ok rfl rfl rfl ?_
  | refine w_ld 6 hA ok rfl rfl rfl ?_
  | refine w_ld 7 hA ok rfl rfl rfl ?_
  | refine w_st 0 hA ok rfl rfl rfl rfl ?_
  | refine w_st 1 hA ok rfl rfl rfl rfl ?_
  | refine w_st 2 hA ok rfl rfl rfl rfl ?_
  | refine w_st 3 hA ok rfl rfl rfl rfl ?_
  | refine w_st 4 hA ok rfl rfl rfl rfl ?_
  | refine w_st 5 hA ok rfl rfl rfl rfl ?_
  | refine w_st 6 hA ok rfl rfl rfl rfl ?_
  | refine w_st 7 hA ok rfl rfl rfl rfl ?_
  | refine w_ldA 0 hA ok rfl rfl rfl ?_
  | refine w_ldA 1 hA ok rfl rfl rfl ?_
  | refine w_ldA 2 hA ok rfl rfl rfl ?_
  | refine w_ldA 3 hA ok rfl rfl rfl ?_
  | refine w_ldA 4 hA ok rfl rfl rfl ?_
  | refine w_ldA 5 hA ok rfl rfl rfl ?_
  | refine w_ldA 6 hA ok rfl rfl rfl ?_
  | refine w_ldA 7 hA ok rfl rfl rfl ?_
  | refine w_stA 0 hA ok rfl rfl rfl rfl ?_
  | refine w_stA 1 hA ok rfl rfl rfl rfl ?_
  | refine w_stA 2 hA ok rfl rfl rfl rfl ?_
  | refine w_stA 3 hA ok rfl rfl rfl rfl ?_
  | refine w_stA 4 hA ok rfl rfl rfl rfl ?_
  | refine w_stA 5 hA ok rfl rfl rfl rfl ?_
  | refine w_stA 6 hA ok rfl rfl rfl rfl ?_
  | refine w_stA 7 hA ok rfl rfl rfl rfl ?_
  | (refine w_Raw hA ?_; intro hA)
  | (refine w_SetRaw hA ?_; intro hA)
  | (refine w_SwapRaw hA ?_; intro hA)
  | (refine w_AddRaw hA ?_; intro hA)
  | (refine w_Load hA ?_; intro hA)
  | (refine w_Store hA ?_; intro hA)
  | (refine w_Retire hA ?_; intro hA)
  | (refine w_Died hA ?_; intro hA)
  | (refine w_Born hA ?_; intro hA)
  | refine w_State hA ?_
  | refine w_Uses hA ?_
  | refine w_Fault hA ?_
  | refine w_Words hA ?_
  | refine w_Count hA ?_
  | refine wq_Size ?_
  | refine wq_Open ?_
  | refine wq_Pack ?_
  | refine wq_head ?_
  | refine w_ck 0 hA ok rfl rfl rfl ?_
  | refine w_ck 1 hA ok rfl rfl rfl ?_
  | refine w_ck 2 hA ok rfl rfl rfl ?_
  | refine w_ck 3 hA ok rfl rfl rfl ?_
  | refine w_ck 4 hA ok rfl rfl rfl ?_
  | refine w_ck 5 hA ok rfl rfl rfl ?_
  | refine w_ck 6 hA ok rfl rfl rfl ?_
  | refine w_ck 7 hA ok rfl rfl rfl ?_
  | refine w_ckn rfl ?_
  | refine w_Base 0 1 hA ok rfl rfl ?_
  | refine w_Base 1 2 hA ok rfl rfl ?_
  | refine w_Base 2 3 hA ok rfl rfl ?_
  | refine w_Base 3 4 hA ok rfl rfl ?_
  | refine w_Base 4 5 hA ok rfl rfl ?_
  | refine w_Base 5 6 hA ok rfl rfl ?_
  | (refine w_PopStep 0 1 hA ok rfl rfl ?_; intro hA)
  | (refine w_PopStep 1 2 hA ok rfl rfl ?_; intro hA)
  | (refine w_PopStep 2 3 hA ok rfl rfl ?_; intro hA)
  | (refine w_PopStep 3 4 hA ok rfl rfl ?_; intro hA)
  | (refine w_PopStep 4 5 hA ok rfl rfl ?_; intro hA)
  | (refine w_PopStep 5 6 hA ok rfl rfl ?_; intro hA)
  | (refine w_PushStep 0 1 hA ok rfl rfl ?_; intro hA)
  | (refine w_PushStep 1 2 hA ok rfl rfl ?_; intro hA)
  | (refine w_PushStep 2 3 hA ok rfl rfl ?_; intro hA)
  | (refine w_PushStep 3 4 hA ok rfl rfl ?_; intro hA)
  | (refine w_PushStep 4 5 hA ok rfl rfl ?_; intro hA)
  | (refine w_PushStep 5 6 hA ok rfl rfl ?_; intro hA)
  | refine wp_true (by assumption) ?_
  | refine wp_false (by assumption) ?_)
          exact wp_ret_of ⟨(q, q0, q1), rfl, rfl, rfl, ok, hA⟩
        | false =>
          repeat (first
  | refine wp_nil.2 ?_
  | refine w_ld 0 hA ok rfl rfl rfl ?_
  | refine w_ld 1 hA ok rfl rfl rfl ?_
  | refine w_ld 2 hA ok rfl rfl rfl ?_
  | refine w_ld 3 hA ok rfl rfl rfl ?_
  | refine w_ld 4 hA ok rfl rfl rfl ?_
  | refine w_ld 5 hA ok rfl rfl rfl ?_
  | refine w_ld 6 hA ok rfl rfl rfl ?_
  | refine w_ld 7 hA ok rfl rfl rfl ?_
  | refine w_st 0 hA ok rfl rfl rfl rfl ?_
  | refine w_st 1 hA ok rfl rfl rfl rfl ?_
  | refine w_st 2 hA ok rfl rfl rfl rfl ?_
  | refine w_st 3 hA ok rfl rfl rfl rfl ?_
  | refine w_st 4 hA ok rfl rfl rfl rfl ?_
  | refine w_st 5 hA ok rfl rfl rfl rfl ?_
  | refine w_st 6 hA ok rfl rfl rfl rfl ?_
  | refine w_st 7 hA ok rfl rfl rfl rfl ?_
  | refine w_ldA 0 hA ok rfl rfl rfl ?_
  | refine w_ldA 1 hA ok rfl rfl rfl ?_
  | refine w_ldA 2 hA ok rfl rfl rfl ?_
  | refine w_ldA 3 hA ok rfl rfl rfl ?_
  | refine w_ldA 4 hA ok rfl rfl rfl ?_
  | refine w_ldA 5 hA ok rfl rfl rfl ?_
  | refine w_ldA 6 hA ok rfl rfl rfl ?_
  | refine w_ldA 7 hA ok rfl rfl rfl ?_
  | refine w_stA 0 hA ok rfl rfl rfl rfl ?_
  | refine w_stA 1 hA ok rfl rfl rfl rfl ?_
  | refine w_stA 2 hA ok rfl rfl rfl rfl ?_
  | refine w_stA 3 hA ok rfl rfl rfl rfl ?_
  | refine w_stA 4 hA ok rfl rfl rfl rfl ?_
  | refine w_stA 5 hA ok rfl rfl rfl rfl ?_
  | refine w_stA 6 hA ok rfl rfl rfl rfl ?_
  | refine w_stA 7 hA ok rfl rfl rfl rfl ?_
  | (refine w_Raw hA ?_; intro hA)
  | (refine w_SetRaw hA ?_; intro hA)
  | (refine w_SwapRaw hA ?_; intro hA)
  | (refine w_AddRaw hA ?_; intro hA)
  | (refine w_Load hA ?_; intro hA)
  | (refine w_Store hA ?_; intro hA)
  | (refine w_Retire hA ?_; intro hA)
  | (refine w_Died hA ?_; intro hA)
  | (refine w_Born hA ?_; intro hA)
  | refine w_State hA ?_
  | refine w_Uses hA ?_
  | refine w_Fault hA ?_
  | refine w_Words hA ?_
  | refine w_Count hA ?_
  | refine wq_Size ?_
  | refine wq_Open ?_
  | refine wq_Pack ?_
  | refine wq_head ?_
  | refine w_ck 0 hA ok rfl rfl rfl ?_
  | refine w_ck 1 hA ok rfl rfl rfl ?_
  | refine w_ck 2 hA ok rfl rfl rfl ?_
  | refine w_ck 3 hA ok rfl rfl rfl ?_
  | refine w_ck 4 hA ok rfl rfl rfl ?_
  | refine w_ck 5 hA ok rfl rfl rfl ?_
  | refine w_ck 6 hA ok rfl rfl rfl ?_
  | refine w_ck 7 hA ok rfl rfl rfl ?_
  | refine w_ckn rfl ?_
  | refine w_Base 0 1 hA ok rfl rfl ?_
  | refine w_Base 1 2 hA ok rfl rfl ?_
  | refine w_Base 2 3 hA ok rfl rfl ?_
  | refine w_Base 3 4 hA ok rfl rfl ?_
  | refine w_Base 4 5 hA ok rfl rfl ?_
  | refine w_Base 5 6 hA ok rfl rfl ?_
  | (refine w_PopStep 0 1 hA ok rfl rfl ?_; intro hA)
  | (refine w_PopStep 1 2 hA ok rfl rfl ?_; intro hA)
  | (refine w_PopStep 2 3 hA ok rfl rfl ?_; intro hA)
  | (refine w_PopStep 3 4 hA ok rfl rfl ?_; intro hA)
  | (refine w_PopStep 4 5 hA ok rfl rfl ?_; intro hA)
  | (refine w_PopStep 5 6 hA ok rfl rfl ?_; intro hA)
  | (refine w_PushStep 0 1 hA ok rfl rfl ?_; intro hA)
  | (refine w_PushStep 1 2 hA ok rfl rfl ?_; intro hA)
  | (refine w_PushStep 2 3 hA ok rfl rfl ?_; intro hA)
  | (refine w_PushStep 3 4 hA ok rfl rfl ?_; intro hA)
  | (refine w_PushStep 4 5 hA ok rfl rfl ?_; intro hA)
  | (refine w_PushStep 5 6 hA ok rfl rfl ?_; intro hA)
  | refine wp_true (by assumption) ?_
  | refine wp_false (by assumption) ?_)
          exact wp_ret_of ⟨(q, q0, q1), rfl, rfl, rfl, ok, hA⟩
      · rw [if_neg h2]
        refine wp_false (ibef h2) ?_
        by_cases h3 : x.what = 3
        · rw [if_pos h3]
          refine wp_true (ibeq h3) ?_
          repeat (first
  | refine wp_nil.2 ?_
  | refine w_ld 0 hA ok rfl rfl rfl ?_
  | refine w_ld 1 hA ok rfl rfl rfl ?_
  | refine w_ld 2 hA ok rfl rfl rfl ?_
  | refine w_ld 3 hA ok rfl rfl rfl ?_
  | refine w_ld 4 hA ok rfl rfl rfl ?_
  | refine w_ld 5 hA ok rfl rfl rfl ?_
  | refine w_ld 6 hA ok rfl rfl rfl ?_
  | refine w_ld 7 hA ok rfl rfl rfl ?_
  | refine w_st 0 hA ok rfl rfl rfl rfl ?_
  | refine w_st 1 hA ok rfl rfl rfl rfl ?_
  | refine w_st 2 hA ok rfl rfl rfl rfl ?_
  | refine w_st 3 hA ok rfl rfl rfl rfl ?_
  | refine w_st 4 hA ok rfl rfl rfl rfl ?_
  | refine w_st 5 hA ok rfl rfl rfl rfl ?_
  | refine w_st 6 hA ok rfl rfl rfl rfl ?_
  | refine w_st 7 hA ok rfl rfl rfl rfl ?_
  | refine w_ldA 0 hA ok rfl rfl rfl ?_
  | refine w_ldA 1 hA ok rfl rfl rfl ?_
  | refine w_ldA 2 hA ok rfl rfl rfl ?_
  | refine w_ldA 3 hA ok rfl rfl rfl ?_
  | refine w_ldA 4 hA ok rfl rfl rfl ?_
  | refine w_ldA 5 hA ok rfl rfl rfl ?_
  | refine w_ldA 6 hA ok rfl rfl rfl ?_
  | refine w_ldA 7 hA ok rfl rfl rfl ?_
  | refine w_stA 0 hA ok rfl rfl rfl rfl ?_
  | refine w_stA 1 hA ok rfl rfl rfl rfl ?_
  | refine w_stA 2 hA ok rfl rfl rfl rfl ?_
  | refine w_stA 3 hA ok rfl rfl rfl rfl ?_
  | refine w_stA 4 hA ok rfl rfl rfl rfl ?_
  | refine w_stA 5 hA ok rfl rfl rfl rfl ?_
  | refine w_stA 6 hA ok rfl rfl rfl rfl ?_
  | refine w_stA 7 hA ok rfl rfl rfl rfl ?_
  | (refine w_Raw hA ?_; intro hA)
  | (refine w_SetRaw hA ?_; intro hA)
  | (refine w_SwapRaw hA ?_; intro hA)
  | (refine w_AddRaw hA ?_; intro hA)
  | (refine w_Load hA ?_; intro hA)
  | (refine w_Store hA ?_; intro hA)
  | (refine w_Retire hA ?_; intro hA)
  | (refine w_Died hA ?_; intro hA)
  | (refine w_Born hA ?_; intro hA)
  | refine w_State hA ?_
  | refine w_Uses hA ?_
  | refine w_Fault hA ?_
  | refine w_Words hA ?_
  | refine w_Count hA ?_
  | refine wq_Size ?_
  | refine wq_Open ?_
  | refine wq_Pack ?_
  | refine wq_head ?_
  | refine w_ck 0 hA ok rfl rfl rfl ?_
  | refine w_ck 1 hA ok rfl rfl rfl ?_
  | refine w_ck 2 hA ok rfl rfl rfl ?_
  | refine w_ck 3 hA ok rfl rfl rfl ?_
  | refine w_ck 4 hA ok rfl rfl rfl ?_
  | refine w_ck 5 hA ok rfl rfl rfl ?_
  | refine w_ck 6 hA ok rfl rfl rfl ?_
  | refine w_ck 7 hA ok rfl rfl rfl ?_
  | refine w_ckn rfl ?_
  | refine w_Base 0 1 hA ok rfl rfl ?_
  | refine w_Base 1 2 hA ok rfl rfl ?_
  | refine w_Base 2 3 hA ok rfl rfl ?_
  | refine w_Base 3 4 hA ok rfl rfl ?_
  | refine w_Base 4 5 hA ok rfl rfl ?_
  | refine w_Base 5 6 hA ok rfl rfl ?_
  | (refine w_PopStep 0 1 hA ok rfl rfl ?_; intro hA)
  | (refine w_PopStep 1 2 hA ok rfl rfl ?_; intro hA)
  | (refine w_PopStep 2 3 hA ok rfl rfl ?_; intro hA)
  | (refine w_PopStep 3 4 hA ok rfl rfl ?_; intro hA)
  | (refine w_PopStep 4 5 hA ok rfl rfl ?_; intro hA)
  | (refine w_PopStep 5 6 hA ok rfl rfl ?_; intro hA)
  | (refine w_PushStep 0 1 hA ok rfl rfl ?_; intro hA)
  | (refine w_PushStep 1 2 hA ok rfl rfl ?_; intro hA)
  | (refine w_PushStep 2 3 hA ok rfl rfl ?_; intro hA)
  | (refine w_PushStep 3 4 hA ok rfl rfl ?_; intro hA)
  | (refine w_PushStep 4 5 hA ok rfl rfl ?_; intro hA)
  | (refine w_PushStep 5 6 hA ok rfl rfl ?_; intro hA)
  | refine wp_true (by assumption) ?_
  | refine wp_false (by assumption) ?_)
          exact wp_ret_of ⟨(q, q0, q1), rfl, rfl, rfl, ok, hA⟩
        · rw [if_neg h3]
          refine wp_false (ibef h3) ?_
          repeat (first
  | refine wp_nil.2 ?_
  | refine w_ld 0 hA ok rfl rfl rfl ?_
  | refine w_ld 1 hA ok rfl rfl rfl ?_
  | refine w_ld 2 hA ok rfl rfl rfl ?_
  | refine w_ld 3 hA ok rfl rfl rfl ?_
  | refine w_ld 4 hA ok rfl rfl rfl ?_
  | refine w_ld 5 hA ok rfl rfl rfl ?_
  | refine w_ld 6 hA ok rfl rfl rfl ?_
  | refine w_ld 7 hA ok rfl rfl rfl ?_
  | refine w_st 0 hA ok rfl rfl rfl rfl ?_
  | refine w_st 1 hA ok rfl rfl rfl rfl ?_
  | refine w_st 2 hA ok rfl rfl rfl rfl ?_
  | refine w_st 3 hA ok rfl rfl rfl rfl ?_
  | refine w_st 4 hA ok rfl rfl rfl rfl ?_
  | refine w_st 5 hA ok rfl rfl rfl rfl ?_
  | refine w_st 6 hA ok rfl rfl rfl rfl ?_
  | refine w_st 7 hA ok rfl rfl rfl rfl ?_
  | refine w_ldA 0 hA ok rfl rfl rfl ?_
  | refine w_ldA 1 hA ok rfl rfl rfl ?_
  | refine w_ldA 2 hA ok rfl rfl rfl ?_
  | refine w_ldA 3 hA ok rfl rfl rfl ?_
  | refine w_ldA 4 hA ok rfl rfl rfl ?_
  | refine w_ldA 5 hA ok rfl rfl rfl ?_
  | refine w_ldA 6 hA ok rfl rfl rfl ?_
  | refine w_ldA 7 hA ok rfl rfl rfl ?_
  | refine w_stA 0 hA ok rfl rfl rfl rfl ?_
  | refine w_stA 1 hA ok rfl rfl rfl rfl ?_
  | refine w_stA 2 hA ok rfl rfl rfl rfl ?_
  | refine w_stA 3 hA ok rfl rfl rfl rfl ?_
  | refine w_stA 4 hA ok rfl rfl rfl rfl ?_
  | refine w_stA 5 hA ok rfl rfl rfl rfl ?_
  | refine w_stA 6 hA ok rfl rfl rfl rfl ?_
  | refine w_stA 7 hA ok rfl rfl rfl rfl ?_
  | (refine w_Raw hA ?_; intro hA)
  | (refine w_SetRaw hA ?_; intro hA)
  | (refine w_SwapRaw hA ?_; intro hA)
  | (refine w_AddRaw hA ?_; intro hA)
  | (refine w_Load hA ?_; intro hA)
  | (refine w_Store hA ?_; intro hA)
  | (refine w_Retire hA ?_; intro hA)
  | (refine w_Died hA ?_; intro hA)
  | (refine w_Born hA ?_; intro hA)
  | refine w_State hA ?_
  | refine w_Uses hA ?_
  | refine w_Fault hA ?_
  | refine w_Words hA ?_
  | refine w_Count hA ?_
  | refine wq_Size ?_
  | refine wq_Open ?_
  | refine wq_Pack ?_
  | refine wq_head ?_
  | refine w_ck 0 hA ok rfl rfl rfl ?_
  | refine w_ck 1 hA ok rfl rfl rfl ?_
  | refine w_ck 2 hA ok rfl rfl rfl ?_
  | refine w_ck 3 hA ok rfl rfl rfl ?_
  | refine w_ck 4 hA ok rfl rfl rfl ?_
  | refine w_ck 5 hA ok rfl rfl rfl ?_
  | refine w_ck 6 hA ok rfl rfl rfl ?_
  | refine w_ck 7 hA ok rfl rfl rfl ?_
  | refine w_ckn rfl ?_
  | refine w_Base 0 1 hA ok rfl rfl ?_
  | refine w_Base 1 2 hA ok rfl rfl ?_
  | refine w_Base 2 3 hA ok rfl rfl ?_
  | refine w_Base 3 4 hA ok rfl rfl ?_
  | refine w_Base 4 5 hA ok rfl rfl ?_
  | refine w_Base 5 6 hA ok rfl rfl ?_
  | (refine w_PopStep 0 1 hA ok rfl rfl ?_; intro hA)
  | (refine w_PopStep 1 2 hA ok rfl rfl ?_; intro hA)
  | (refine w_PopStep 2 3 hA ok rfl rfl ?_; intro hA)
  | (refine w_PopStep 3 4 hA ok rfl rfl ?_; intro hA)
  | (refine w_PopStep 4 5 hA ok rfl rfl ?_; intro hA)
  | (refine w_PopStep 5 6 hA ok rfl rfl ?_; intro hA)
  | (refine w_PushStep 0 1 hA ok rfl rfl ?_; intro hA)
  | (refine w_PushStep 1 2 hA ok rfl rfl ?_; intro hA)
  | (refine w_PushStep 2 3 hA ok rfl rfl ?_; intro hA)
  | (refine w_PushStep 3 4 hA ok rfl rfl ?_; intro hA)
  | (refine w_PushStep 4 5 hA ok rfl rfl ?_; intro hA)
  | (refine w_PushStep 5 6 hA ok rfl rfl ?_; intro hA)
  | refine wp_true (by assumption) ?_
  | refine wp_false (by assumption) ?_)
          exact wp_ret_of ⟨(q, q0, q1), rfl, rfl, rfl, ok, hA⟩
end Go.Proofs.Ytfphgiipekkgdaa

