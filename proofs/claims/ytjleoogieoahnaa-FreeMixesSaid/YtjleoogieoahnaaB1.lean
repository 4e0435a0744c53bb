/- Texts of this claim, one behind the other. -/
import Derived.Test.YtjleoogieoahnaaB0
set_option linter.unusedSimpArgs false
set_option linter.unusedVariables false
set_option linter.unusedVariables false
set_option maxRecDepth 20000
namespace Go.Proofs.Ytjleoogieoahnaa
open Go Go.Fw

/-- A step of a machine: what it answers, and what it leaves. -/
structure Stp (f : FuncId) (q : Nat) (A : Ar) (G : Heap) (b : Bool) (B : Ar) (K : Heap) : Prop where
  det : Det Try.prog f [.pointer (some ⟨q, 0, none⟩), pA A] (A.put G) (.bool b) (B.put K)
  al : Ar.Alike A B
  us : B.uses ≤ w64 (A.uses + 1)

inductive Runs (f : FuncId) (q : Nat) : Nat → Ar → Heap → Ar → Heap → Prop
  | one {A G B K} : Stp f q A G true B K → Runs f q 1 A G B K
  | more {n A G B K C M} : Stp f q A G false B K → Runs f q n B K C M → Runs f q (n + 1) A G C M

/-- The raw words behind a push that nobody falls into. -/
def Ar.pushed (A : Ar) (hd lk base : Int) : Ar :=
  { A with raw := (A.raw.set lk.toNat (iand (A.rawF hd) 131071)).set hd.toNat (nextF (A.rawF hd) (w64 (w64 (Int.tdiv base 8) + 1))), uses := A.uses + 3 }

theorem push_runs {A : Ar} (hA : A.wf) {x : Pu} {q0 q1 : Nat} {G : Heap} (h0 : q0 ∉ A.ids) (h1 : q1 ∉ A.ids) (hn : q0 ≠ q1) (hg : G q0 = some (pushObj q1)) (hx : G q1 = some x.obj) (ha : x.at' = 0) {lk : Int} (hlk : w64 (x.pl.links + w64 (Int.tdiv x.base 8)) = lk)
    (o1 : A.rawOk x.head) (o2 : A.rawOk lk) (hne : x.head ≠ lk) (hu : 0 ≤ A.uses ∧ A.uses ≤ 1000000000) :
    ∃ y : Pu, y.at' = 3 ∧ y.base = x.base ∧ Runs f_free_Push_Step q0 3 A G (A.pushed x.head lk x.base) (G.set q1 y.obj) := by
  have t1 : w64 (A.uses + 1) = A.uses + 1 := w64_in (by omega) (by omega)
  have t2 : w64 (A.uses + 1 + 1) = A.uses + 1 + 1 := w64_in (by omega) (by omega)
  have t3 : w64 (A.uses + 1 + 1 + 1) = A.uses + 1 + 1 + 1 := w64_in (by omega) (by omega)
  -- the first step
  have a1 : x.stepA A = A.tick := by unfold Pu.stepA; rw [if_neg (by omega), if_neg (by omega), if_neg (by omega), touchR_yes o1]
  have m1 : x.stepM A = { x with was := A.rawF x.head, at' := 1 } := by unfold Pu.stepM; rw [if_neg (by omega), if_neg (by omega), if_neg (by omega)]
  have b1 : x.stepB A = false := by unfold Pu.stepB; rw [if_neg (by omega), decide_eq_false (by omega)]
  have d1 := Push_det hA x h0 h1 hg hx
  rw [a1, m1, b1] at d1
  -- the second one
  have w1 := tick_wf hA
  have o2' : A.tick.rawOk lk := o2
  have hx1 : (G.set q1 (Pu.obj { x with was := A.rawF x.head, at' := 1 })) q1 = some (Pu.obj { x with was := A.rawF x.head, at' := 1 }) := Heap.set_same _ _ _
  have hg1 : (G.set q1 (Pu.obj { x with was := A.rawF x.head, at' := 1 })) q0 = some (pushObj q1) := by rw [Heap.set_ne _ _ hn]; exact hg
  have d2 := Push_det w1 { x with was := A.rawF x.head, at' := 1 } h0 h1 hg1 hx1
  have a2 : Pu.stepA { x with was := A.rawF x.head, at' := 1 } A.tick = A.tick.tick.setR lk.toNat (iand (A.rawF x.head) 131071) := by
    unfold Pu.stepA; rw [if_pos rfl]
    show A.tick.storeR (w64 (x.pl.links + w64 (Int.tdiv x.base 8))) _ = _
    rw [hlk]; unfold Ar.storeR; rw [if_pos o2']
  have m2 : Pu.stepM { x with was := A.rawF x.head, at' := 1 } A.tick = { x with was := A.rawF x.head, at' := 2 } := by unfold Pu.stepM; rw [if_pos rfl]
  have b2 : Pu.stepB { x with was := A.rawF x.head, at' := 1 } A.tick = false := rfl
  rw [a2, m2, b2, Heap.set_set] at d2
  -- the third one
  have w2 : (A.tick.tick.setR lk.toNat (iand (A.rawF x.head) 131071)).wf := setR_wf (tick_wf w1) _ _
  have hx2 : (G.set q1 (Pu.obj { x with was := A.rawF x.head, at' := 2 })) q1 = some (Pu.obj { x with was := A.rawF x.head, at' := 2 }) := Heap.set_same _ _ _
  have hg2 : (G.set q1 (Pu.obj { x with was := A.rawF x.head, at' := 2 })) q0 = some (pushObj q1) := by rw [Heap.set_ne _ _ hn]; exact hg
  have d3 := Push_det w2 { x with was := A.rawF x.head, at' := 2 } h0 h1 hg2 hx2
  have o3 : (A.tick.tick.setR lk.toNat (iand (A.rawF x.head) 131071)).rawOk x.head := by
    unfold Ar.rawOk at *; show 0 ≤ x.head ∧ x.head < ((A.raw.set _ _).length : Int); rw [List.length_set]; exact o1
  have hhd : (A.tick.tick.setR lk.toNat (iand (A.rawF x.head) 131071)).raw.getD x.head.toNat 0 = A.rawF x.head := by
    show (A.raw.set lk.toNat _).getD x.head.toNat 0 = _
    unfold Ar.rawF; rw [if_pos o1, List.getD_eq_getElem?_getD, List.getD_eq_getElem?_getD, List.getElem?_set, if_neg (by unfold Ar.rawOk at o1 o2; omega)]
  have sb : (A.tick.tick.setR lk.toNat (iand (A.rawF x.head) 131071)).swapRb x.head (A.rawF x.head) = true := decide_eq_true ⟨o3, hhd⟩
  have b3 : Pu.stepB { x with was := A.rawF x.head, at' := 2 } (A.tick.tick.setR lk.toNat (iand (A.rawF x.head) 131071)) = true := sb
  have m3 : Pu.stepM { x with was := A.rawF x.head, at' := 2 } (A.tick.tick.setR lk.toNat (iand (A.rawF x.head) 131071)) = { x with was := A.rawF x.head, at' := 3 } := by
    unfold Pu.stepM; rw [if_neg (by show ¬ (2 : Int) = 1; decide), if_pos rfl]; show Pu.mk x.pl x.head (A.rawF x.head) (if _ = true then 3 else 0) x.base = _; rw [sb]; rfl
  have a3 : Pu.stepA { x with was := A.rawF x.head, at' := 2 } (A.tick.tick.setR lk.toNat (iand (A.rawF x.head) 131071)) = A.pushed x.head lk x.base := by
    unfold Pu.stepA; rw [if_neg (by show ¬ (2 : Int) = 1; decide), if_pos rfl]
    show (A.tick.tick.setR lk.toNat (iand (A.rawF x.head) 131071)).swapR x.head (A.rawF x.head) _ = _
    unfold Ar.swapR; rw [if_pos o3, if_pos hhd]
    unfold Ar.pushed Ar.setR Ar.tick
    simp only [t1, t2, t3, Ar.mk.injEq, true_and]
    omega
  rw [a3, m3, b3, Heap.set_set] at d3
  refine ⟨{ x with was := A.rawF x.head, at' := 3 }, rfl, rfl, ?_⟩
  refine .more ⟨d1, ⟨rfl, rfl, rfl, rfl, rfl, rfl, rfl⟩, Int.le_refl _⟩ (.more ⟨d2, ⟨rfl, rfl, rfl, rfl, rfl, rfl, rfl⟩, Int.le_refl _⟩ (.one ⟨d3, ⟨rfl, rfl, rfl, rfl, rfl, rfl, rfl⟩, ?_⟩))
  show A.uses + 3 ≤ w64 (w64 (w64 (A.uses + 1) + 1) + 1)
  rw [t1, t2, t3]; omega

/-- What stands behind a pop of one that is there. -/
def Ar.popped (A : Ar) (hd lk : Int) : Ar := { A with raw := A.raw.set hd.toNat (nextF (A.rawF hd) (A.rawF lk)), uses := A.uses + 3 }

theorem pop_none {A : Ar} (hA : A.wf) {x : Po} {q0 q1 : Nat} {G : Heap} (h0 : q0 ∉ A.ids) (h1 : q1 ∉ A.ids) (hg : G q0 = some (popObj q1)) (hx : G q1 = some x.obj) (ha : x.at' = 0)
    (o1 : A.rawOk x.head) (hf : iand (A.rawF x.head) 131071 = 0) (hu : 0 ≤ A.uses ∧ A.uses ≤ 1000000000) :
    Runs f_free_Pop_Step q0 1 A G { A with uses := A.uses + 1 } (G.set q1 (Po.obj { x with was := A.rawF x.head, at' := 3 })) := by
  have t1 : w64 (A.uses + 1) = A.uses + 1 := w64_in (by omega) (by omega)
  have a1 : x.stepA A = { A with uses := A.uses + 1 } := by unfold Po.stepA; rw [if_neg (by omega), if_neg (by omega), if_neg (by omega), touchR_yes o1]; unfold Ar.tick; rw [t1]
  have m1 : x.stepM A = { x with was := A.rawF x.head, at' := 3 } := by unfold Po.stepM; rw [if_neg (by omega), if_neg (by omega), if_neg (by omega), if_pos hf]
  have b1 : x.stepB A = true := by unfold Po.stepB; rw [if_neg (by omega), if_neg (by omega), if_neg (by omega), decide_eq_true hf]
  have d1 := Pop_det hA x h0 h1 hg hx
  rw [a1, m1, b1] at d1
  exact .one ⟨d1, ⟨rfl, rfl, rfl, rfl, rfl, rfl, rfl⟩, by rw [t1]; exact Int.le_refl _⟩

theorem pop_some {A : Ar} (hA : A.wf) {x : Po} {q0 q1 : Nat} {G : Heap} (h0 : q0 ∉ A.ids) (h1 : q1 ∉ A.ids) (hn : q0 ≠ q1) (hg : G q0 = some (popObj q1)) (hx : G q1 = some x.obj) (ha : x.at' = 0) {f lk : Int}
    (o1 : A.rawOk x.head) (hf : iand (A.rawF x.head) 131071 = f) (hf0 : f ≠ 0) (hlk : w64 (w64 (x.pl.links + f) - 1) = lk) (o2 : A.rawOk lk) (hu : 0 ≤ A.uses ∧ A.uses ≤ 1000000000) :
    ∃ y : Po, y.at' = 3 ∧ y.base = w64 (w64 (f - 1) * 8) ∧ y.ok = true ∧ Runs f_free_Pop_Step q0 3 A G (A.popped x.head lk) (G.set q1 y.obj) := by
  have t1 : w64 (A.uses + 1) = A.uses + 1 := w64_in (by omega) (by omega)
  have t2 : w64 (A.uses + 1 + 1) = A.uses + 1 + 1 := w64_in (by omega) (by omega)
  have t3 : w64 (A.uses + 1 + 1 + 1) = A.uses + 1 + 1 + 1 := w64_in (by omega) (by omega)
  have a1 : x.stepA A = A.tick := by unfold Po.stepA; rw [if_neg (by omega), if_neg (by omega), if_neg (by omega), touchR_yes o1]
  have m1 : x.stepM A = { x with was := A.rawF x.head, at' := 1 } := by unfold Po.stepM; rw [if_neg (by omega), if_neg (by omega), if_neg (by omega), if_neg (by omega)]
  have b1 : x.stepB A = false := by unfold Po.stepB; rw [if_neg (by omega), if_neg (by omega), if_neg (by omega), decide_eq_false (by omega)]
  have d1 := Pop_det hA x h0 h1 hg hx
  rw [a1, m1, b1] at d1
  have w1 := tick_wf hA
  have o2' : A.tick.rawOk lk := o2
  have hx1 : (G.set q1 (Po.obj { x with was := A.rawF x.head, at' := 1 })) q1 = some (Po.obj { x with was := A.rawF x.head, at' := 1 }) := Heap.set_same _ _ _
  have hg1 : (G.set q1 (Po.obj { x with was := A.rawF x.head, at' := 1 })) q0 = some (popObj q1) := by rw [Heap.set_ne _ _ hn]; exact hg
  have d2 := Pop_det w1 { x with was := A.rawF x.head, at' := 1 } h0 h1 hg1 hx1
  have a2 : Po.stepA { x with was := A.rawF x.head, at' := 1 } A.tick = A.tick.tick := by
    unfold Po.stepA; rw [if_pos rfl]
    show A.tick.touchR (w64 (w64 (x.pl.links + iand (A.rawF x.head) 131071) - 1)) = _
    rw [hf, hlk, touchR_yes o2']
  have m2 : Po.stepM { x with was := A.rawF x.head, at' := 1 } A.tick = { x with was := A.rawF x.head, at' := 2, link := A.rawF lk } := by
    unfold Po.stepM; rw [if_pos rfl]
    show Po.mk x.pl x.head (A.rawF x.head) 2 (A.tick.rawF (w64 (w64 (x.pl.links + iand (A.rawF x.head) 131071) - 1))) x.base x.ok = _
    rw [hf, hlk]; rfl
  have b2 : Po.stepB { x with was := A.rawF x.head, at' := 1 } A.tick = false := rfl
  rw [a2, m2, b2, Heap.set_set] at d2
  have w2 : A.tick.tick.wf := tick_wf w1
  have hx2 : (G.set q1 (Po.obj { x with was := A.rawF x.head, at' := 2, link := A.rawF lk })) q1 = some (Po.obj { x with was := A.rawF x.head, at' := 2, link := A.rawF lk }) := Heap.set_same _ _ _
  have hg2 : (G.set q1 (Po.obj { x with was := A.rawF x.head, at' := 2, link := A.rawF lk })) q0 = some (popObj q1) := by rw [Heap.set_ne _ _ hn]; exact hg
  have d3 := Pop_det w2 { x with was := A.rawF x.head, at' := 2, link := A.rawF lk } h0 h1 hg2 hx2
  have o3 : A.tick.tick.rawOk x.head := o1
  have hhd : A.tick.tick.raw.getD x.head.toNat 0 = A.rawF x.head := by unfold Ar.rawF; rw [if_pos o1]; rfl
  have sb : A.tick.tick.swapRb x.head (A.rawF x.head) = true := decide_eq_true ⟨o3, hhd⟩
  have b3 : Po.stepB { x with was := A.rawF x.head, at' := 2, link := A.rawF lk } A.tick.tick = true := sb
  have m3 : Po.stepM { x with was := A.rawF x.head, at' := 2, link := A.rawF lk } A.tick.tick = { x with was := A.rawF x.head, at' := 3, link := A.rawF lk, base := w64 (w64 (f - 1) * 8), ok := true } := by
    unfold Po.stepM; rw [if_neg (by show ¬ (2 : Int) = 1; decide), if_pos rfl]
    show (if A.tick.tick.swapRb x.head (A.rawF x.head) = true then Po.mk x.pl x.head (A.rawF x.head) 3 (A.rawF lk) (w64 (w64 (iand (A.rawF x.head) 131071 - 1) * 8)) true else _) = _
    rw [sb, hf]; rfl
  have a3 : Po.stepA { x with was := A.rawF x.head, at' := 2, link := A.rawF lk } A.tick.tick = A.popped x.head lk := by
    unfold Po.stepA; rw [if_neg (by show ¬ (2 : Int) = 1; decide), if_pos rfl]
    show A.tick.tick.swapR x.head (A.rawF x.head) _ = _
    unfold Ar.swapR; rw [if_pos o3, if_pos hhd]
    unfold Ar.popped Ar.setR Ar.tick
    simp only [t1, t2, t3, Ar.mk.injEq, true_and]
    omega
  rw [a3, m3, b3, Heap.set_set] at d3
  refine ⟨{ x with was := A.rawF x.head, at' := 3, link := A.rawF lk, base := w64 (w64 (f - 1) * 8), ok := true }, rfl, rfl, rfl, ?_⟩
  refine .more ⟨d1, ⟨rfl, rfl, rfl, rfl, rfl, rfl, rfl⟩, Int.le_refl _⟩ (.more ⟨d2, ⟨rfl, rfl, rfl, rfl, rfl, rfl, rfl⟩, Int.le_refl _⟩ (.one ⟨d3, ⟨rfl, rfl, rfl, rfl, rfl, rfl, rfl⟩, ?_⟩))
  show A.uses + 3 ≤ w64 (w64 (w64 (A.uses + 1) + 1) + 1)
  rw [t1, t2, t3]; omega

theorem mask17 (x : Int) : iand x 131071 = x % 131072 := iand_mask x 17 (by omega)

theorem nextF_eq {h f : Int} (h0 : 0 ≤ h) (h1 : h < 4611686018427387904) (f0 : 0 ≤ f) (f1 : f < 131072) : nextF h f = (h / 131072 + 1) * 131072 + f := by
  unfold nextF
  have e1 : Int.fdiv h (2 ^ 17) = h / 131072 := by rw [Int.fdiv_eq_ediv_of_nonneg _ (by decide)]; rfl
  rw [e1, w64_in (x := h / 131072 + 1) (by omega) (by omega)]
  have e2 : (h / 131072 + 1) * 2 ^ 17 = (h / 131072 + 1) * 131072 := rfl
  rw [e2, w64_in (by omega) (by omega)]
  obtain ⟨k, hk⟩ := Int.eq_ofNat_of_zero_le (show 0 ≤ h / 131072 + 1 by omega)
  obtain ⟨g, rfl⟩ := Int.eq_ofNat_of_zero_le f0
  rw [hk]
  have e3 : ((k : Int) * 131072) = ((2 ^ 17 * k : Nat) : Int) := by omega
  rw [e3, ior_nat (by omega) (by omega), ← Nat.two_pow_add_eq_or_of_lt (by omega)]
  omega
end Go.Proofs.Ytjleoogieoahnaa

set_option linter.unusedVariables false
set_option maxRecDepth 20000
namespace Go.Proofs.Ytjleoogieoahnaa
open Go Go.Fw

/-- What a list has, told by its words. -/
def chain (A : Ar) (lk : Int) : Int → List Int → Prop
  | f, [] => f = 0
  | f, b :: l => 0 < f ∧ f ≤ 1000000 ∧ b = (f - 1) * 8 ∧ A.rawOk (lk + f - 1) ∧ chain A lk (A.rawF (lk + f - 1)) l

theorem rawF_congr {A B : Ar} (h : B.raw = A.raw) (i : Int) : B.rawF i = A.rawF i := by
  unfold Ar.rawF
  by_cases hi : A.rawOk i
  · have hb : B.rawOk i := by unfold Ar.rawOk at *; rw [h]; exact hi
    rw [if_pos hi, if_pos hb, h]
  · have hb : ¬ B.rawOk i := by unfold Ar.rawOk at *; rw [h]; exact hi
    rw [if_neg hi, if_neg hb]

theorem chain_raw {A B : Ar} (h : B.raw = A.raw) (lk : Int) : ∀ (l : List Int) (f : Int), chain A lk f l → chain B lk f l
  | [], f, hc => hc
  | b :: l, f, hc => by
    have e := rawF_congr h (lk + f - 1)
    exact ⟨hc.1, hc.2.1, hc.2.2.1, by have := hc.2.2.2.1; unfold Ar.rawOk at *; rw [h]; exact this, by rw [e]; exact chain_raw h lk l _ hc.2.2.2.2⟩

def Ar.later (A : Ar) (n : Int) : Ar := { A with uses := A.uses + n }
theorem later_wf {A : Ar} (hA : A.wf) (n : Int) : (A.later n).wf := ⟨hA.nd, hA.fit, hA.busy, hA.carved, hA.words, hA.raw, hA.wC, hA.wL, hA.wR, hA.wF⟩
theorem later_alike (A : Ar) (n : Int) : Ar.Alike A (A.later n) := ⟨rfl, rfl, rfl, rfl, rfl, rfl, rfl⟩

theorem Raw_later {A : Ar} (hA : A.wf) {i n : Int} (hi : A.rawOk i) (hn : -9000000000000000000 ≤ A.uses + n ∧ A.uses + n ≤ 9000000000000000000) {p : Value} (hp : p = pA A) (H : Heap) :
    Det Try.prog f_arena_Arena_Raw [p, .int .i64 i] ((A.later n).put H) (.int .i64 (A.rawF i)) ((A.later (n + 1)).put H) := by
  have h := Raw_det (later_wf hA n) i H
  have e : (A.later n).touchR i = A.later (n + 1) := by
    rw [touchR_yes (A := A.later n) hi]
    unfold Ar.tick Ar.later
    simp only [Ar.mk.injEq, true_and]
    rw [w64_in (by omega) (by omega)]; omega
  rw [e] at h
  rw [hp]; exact h

/-- A loop with a slice and a number. -/
theorem wp_loop_si {L : Hands} {H : Heap} {R : Value → Heap → Prop} {n : Nat} {init : List Value} {body : HL Sh1.T [.leaf .slice, .leaf (.int .i64)] → Tree} (I : Sl → Int → Heap → Prop) (m : Sl → Int → Nat) (s0 : Sl) (i0 : Int) (hi : I s0 i0 H)
    (hstep : ∀ (s : Sl) (i : Int) H', I s i H' → wp Try.prog (body (s, i, ())) (L.set n fun vals H'' => ∃ (t : Sl) (j : Int), vals = [.slice t.a t.len t.cap, .int .i64 j] ∧ I t j H'' ∧ m t j < m s i) H' R) (h0 : init = [.slice s0.a s0.len s0.cap, .int .i64 i0] := by rfl) :
    wp Try.prog (.loop n [.leaf .slice, .leaf (.int .i64)] init body) L H R := by
  refine wp_loop_inv (fun x K => I x.1 x.2.1 K) (fun x _ => m x.1 x.2.1) (s0, i0, ()) h0 hi ?_
  rintro ⟨s, i, u⟩ K hI
  refine Go.Fw.wp_mono _ (hstep s i K hI) (fun k vals H'' hk => ?_) (fun _ _ h => h)
  unfold Hands.set at *
  split at hk
  · rename_i e; rw [if_pos e]; obtain ⟨s, j, h1, h2, h3⟩ := hk; exact ⟨(s, j, ()), h1, h2, h3⟩
  · rename_i e; rw [if_neg e]; exact hk

theorem List_spec {A : Ar} (hA : A.wf) (p : Pl) (w c : Int) {hd : Int} (hh : headF p w c = hd) (ho : A.rawOk hd) {xs : List Int} (hc : chain A p.links (iand (A.rawF hd) 131071) xs) (hl : xs.length < 10000)
    (hlk : -1000000 ≤ p.links ∧ p.links ≤ 1000000) (hu : 0 ≤ A.uses ∧ A.uses ≤ 1000000000) {pv : Option Addr} (hp : .pointer pv = pA A) (H : Heap) :
    SpecF Try.prog f_free_List #[.pointer pv, p.val, .int .i64 w, .int .i64 c] (A.put H) fun v K => ∃ (s : Sl) (G : Heap), v = .slice s.a s.len s.cap ∧ K = (A.later (1 + xs.length)).put G ∧ H.le G ∧ IsSl G s xs ∧ (∀ b, s.a = some ⟨b, 0, none⟩ → b ∉ A.ids ∧ H b = none) := by
  refine t_free_List_spec (p1_0 := p.work) (p1_1 := p.heads) (p1_2 := p.links) (p1_3 := p.gens) (p1_4 := p.carved) fun L => ?_
  unfold t_free_List
  refine wp_newP fun e he => ?_
  obtain ⟨e1, e2⟩ := Ar.put_none he
  have h0 : A.put (H.set e (.cells p.cells ty_free_Place (0, 0))) = (A.later 0).put (H.set e (.cells p.cells ty_free_Place (0, 0))) := by unfold Ar.later; rw [Int.add_zero]
  refine wp_heap ((Ar.put_set _ e1).trans h0) ?_
  have hput : ∀ (B : Ar) G, Ar.Alike A B → (H.set e (.cells p.cells ty_free_Place (0, 0))).le G → (B.put G) e = some (.cells p.cells ty_free_Place (0, 0)) := fun B G hB hG => by
    rw [Ar.put_out (by rw [hB.ids]; exact e1)]; exact hG _ _ (Heap.set_same _ _ _)
  refine wp_pl (p := p) (hput (A.later 0) _ (later_alike A 0) (Heap.le_refl _)) ?_
  refine wp_qcall_det (head_det p w c _) ?_
  rw [hh]
  refine wp_call_det (x := A.rawF hd) (Raw_later (n := 0) hA ho (by omega) hp _) ?_
  refine wp_loop_si (fun s f K => ∃ (don todo : List Int) (G : Heap), xs = don ++ todo ∧ chain A p.links f todo ∧ IsSl G s don ∧ (H.set e (.cells p.cells ty_free_Place (0, 0))).le G ∧ (∀ b, s.a = some ⟨b, 0, none⟩ → b ∉ A.ids ∧ H b = none ∧ b ≠ e) ∧
    K = (A.later (1 + don.length)).put G) (fun s _ => xs.length - s.len) ⟨none, 0, 0⟩ (iand (A.rawF hd) 131071) ⟨[], xs, _, rfl, hc, .nil _, Heap.le_refl _, (fun b hb => by cases hb), rfl⟩ ?_
  rintro s f K ⟨don, todo, G, hx, hch, hs, hG, hb, rfl⟩
  rw [t_free_List_L1]
  cases todo with
  | nil =>
    have hf : f = 0 := hch
    refine wp_false (decide_eq_false (by show ¬ f > 0; omega)) ?_
    rw [List.append_nil] at hx
    refine wp_ret_of ⟨s, G, rfl, by rw [hx], Heap.le_trans (Heap.le_set_new _ e2) hG, by rw [hx]; exact hs, fun b h => ⟨(hb b h).1, (hb b h).2.1⟩⟩
  | cons b0 l =>
    obtain ⟨f0, f1, hb0, hok, hch⟩ := hch
    have hxl : don.length + (l.length + 1) = xs.length := by rw [hx]; simp
    have hslen : s.len = don.length := hs.len
    refine wp_true (decide_eq_true (by exact f0)) ?_
    have hlt : ((s.len : Nat) : Int) < 10000 := by omega
    dsimp only
    rw [decide_eq_true hlt]
    refine wp_true rfl ?_
    have ev : w64 (w64 (f - 1) * 8) = b0 := by rw [w64_in (x := f - 1) (by omega) (by omega), w64_in (by omega) (by omega), hb0]
    show wp Try.prog (.newS (.cells #[.int .i64 (w64 (w64 (f - 1) * 8))] ty_int) 1 _) _ _ _
    rw [ev]
    have hsA : IsSl ((A.later (1 + don.length)).put G) s don := by
      rcases hs with h | ⟨b, rest, h1, h2⟩
      · exact .inl h
      · refine .inr ⟨b, rest, h1, ?_⟩
        rw [Ar.put_out (A := A.later _) (hb b (by rw [h1])).1]; exact h2
    refine wp_append_int hsA (by omega) fun q b rest hq hbq => ?_
    obtain ⟨q1, q2⟩ := Ar.put_none (A := A.later (1 + don.length)) hq
    have hbi : b ∉ A.ids ∧ H b = none ∧ b ≠ e := by
      rcases hbq.2 with h | h
      · obtain ⟨b1, b2⟩ := Ar.put_none (A := A.later (1 + don.length)) h
        have hHb : (H.set e (.cells p.cells ty_free_Place (0, 0))) b = none := by
          cases hc : (H.set e (.cells p.cells ty_free_Place (0, 0))) b with
          | none => rfl
          | some o => rw [hG _ _ hc] at b2; cases b2
        obtain ⟨b3, b4⟩ := set_none hHb
        exact ⟨b1, b4, b3⟩
      · exact hb b h
    rw [Ar.put_set (A := A.later (1 + don.length)) _ q1, Ar.put_set (A := A.later (1 + don.length)) _ hbi.1]
    have hqH : (H.set e (.cells p.cells ty_free_Place (0, 0))) q = none := by
      cases hc : (H.set e (.cells p.cells ty_free_Place (0, 0))) q with
      | none => rfl
      | some o => rw [hG _ _ hc] at q2; cases q2
    have hG2 : (H.set e (.cells p.cells ty_free_Place (0, 0))).le ((G.set q (.cells #[.int .i64 b0] ty_int (0, 0))).set b (.cells (ints (don ++ [b0]) ++ rest) ty_int (0, 0))) := by
      intro y o hy
      by_cases y1 : y = b
      · rw [y1, Heap.set_ne _ _ hbi.2.2, hbi.2.1] at hy; cases hy
      · rw [Heap.set_ne _ _ y1]
        by_cases y2 : y = q
        · rw [y2, hqH] at hy; cases hy
        · rw [Heap.set_ne _ _ y2]; exact hG _ _ hy
    refine wp_ld_of (x := p.links) (by
      have := Heap.cell_of (hput _ _ (later_alike A (1 + don.length)) hG2) 2
      exact this.trans rfl) ?_
    have ei : w64 (w64 (p.links + f) - 1) = p.links + f - 1 := by rw [w64_in (x := p.links + f) (by omega) (by omega), w64_in (by omega) (by omega)]
    refine wp_call_det (x := A.rawF (p.links + f - 1)) (by
      show Det _ _ [_, .int .i64 (w64 (w64 (p.links + f) - 1))] _ _ _
      rw [ei]; exact Raw_later hA hok (by omega) hp _) ?_
    refine wp_again ⟨⟨some ⟨b, 0, none⟩, (don ++ [b0]).length, (don ++ [b0]).length + rest.size⟩, A.rawF (p.links + f - 1), rfl, ⟨don ++ [b0], l, _, by rw [hx]; simp, hch, .inr ⟨b, rest, rfl, Heap.set_same _ _ _⟩, hG2, ?_, ?_⟩, ?_⟩
    · intro b' hb'
      have : b' = b := by simpa using hb'.symm
      rw [this]; exact hbi
    · congr 1; unfold Ar.later; simp; omega
    · show xs.length - (don ++ [b0]).length < xs.length - s.len
      simp; omega
end Go.Proofs.Ytjleoogieoahnaa

set_option linter.unusedVariables false
set_option maxRecDepth 20000
namespace Go.Proofs.Ytjleoogieoahnaa
open Go Go.Fw

/-- The places of so many workers and words. -/
def plOf (w m : Int) : Pl := ⟨w, 0, 4 * w, 4 * w + (m + 7) / 8, 4 * w + 2 * ((m + 7) / 8)⟩

theorem singles (l : List Value) (h : l.all Value.single = true) : ∀ v ∈ l, Value.single v = true := fun v hv => List.all_eq_true.1 h v hv

theorem Raw5_det (w m w' m' : Int) (hw : imax w 0 = w') (hm : imax m 0 = m') (b1 : 0 ≤ w' ∧ w' ≤ 100000) (b2 : 0 ≤ m' ∧ m' ≤ 100000) (H : Heap) :
    Det Try.prog f_free_Raw [.int .i64 w, .int .i64 m] H (.tuple #[(plOf w' m').val, .int .i64 (4 * w' + 2 * ((m' + 7) / 8) + 1)]) H := by
  refine t_free_Raw_spec fun L => ?_
  unfold t_free_Raw
  rw [hw, hm]
  refine wp_newP fun b4 h4 => wp_newP fun b7 h7 => ?_
  obtain ⟨n7, h7⟩ := set_none h7
  have en : w64 (w64 (Int.tdiv m' 8) + imin (Int.tmod m' 8) 1) = (m' + 7) / 8 := by
    rw [Int.tdiv_eq_ediv_of_nonneg b2.1, Int.tmod_eq_emod_of_nonneg b2.1, w64_in (x := m' / 8) (by omega) (by omega)]
    unfold imin
    split <;> rw [w64_in (by omega) (by omega)] <;> omega
  rw [en]
  have e4 : w64 (4 * w') = 4 * w' := w64_in (by omega) (by omega)
  rw [e4]
  refine wp_stA_of (Heap.set_same _ _ _) (by exact Nat.le_refl 5) (singles _ rfl) ?_
  rw [Heap.set_set]
  have c1 : putAll #[.int .i64 0, .int .i64 0, .int .i64 0, .int .i64 0, .int .i64 0] 0 [.int .i64 w', .int .i64 0, .int .i64 (4 * w'), .int .i64 0, .int .i64 0] = #[.int .i64 w', .int .i64 0, .int .i64 (4 * w'), .int .i64 0, .int .i64 0] := rfl
  rw [c1]
  refine wp_ld_of (x := 4 * w') ((Heap.cell_set 2).trans rfl) ?_
  rw [w64_in (x := 4 * w' + (m' + 7) / 8) (by omega) (by omega)]
  refine wp_st_of (n := 3) (u := .int .i64 0) (Heap.set_same _ _ _) rfl rfl ?_
  rw [Heap.set_set]
  refine wp_ld_of (x := 4 * w' + (m' + 7) / 8) ((Heap.cell_set 3).trans rfl) ?_
  rw [w64_in (x := 4 * w' + (m' + 7) / 8 + (m' + 7) / 8) (by omega) (by omega)]
  refine wp_st_of (n := 4) (u := .int .i64 0) (Heap.set_same _ _ _) rfl rfl ?_
  rw [Heap.set_set]
  have e5 : 4 * w' + (m' + 7) / 8 + (m' + 7) / 8 = 4 * w' + 2 * ((m' + 7) / 8) := by omega
  rw [e5]
  have hc : H.set b4 (.cells #[.int .i64 0, .int .i64 0, .int .i64 0, .int .i64 0, .int .i64 0] ty_free_Place (0, 0)) b7 = none := by rw [Heap.set_ne _ _ n7]; exact h7
  refine wp_pl (p := plOf w' m') (Heap.set_same _ _ _) ?_
  refine wp_ld_of (x := 4 * w' + 2 * ((m' + 7) / 8)) ((Heap.cell_set 4).trans rfl) ?_
  rw [Heap.set_comm _ _ _ (Ne.symm n7)]
  refine wp_stA_of (Heap.set_same _ _ _) (by exact Nat.le_refl 5) (singles _ rfl) ?_
  rw [Heap.set_set, Heap.set_comm _ _ _ n7]
  refine ⟨⟨_, (Heap.cell_set 4).trans rfl, rfl⟩, ?_⟩
  rw [Heap.set_comm _ _ _ (Ne.symm n7)]
  refine ⟨((w', 0, 4 * w', 4 * w' + (m' + 7) / 8, 4 * w' + 2 * ((m' + 7) / 8), ()), 4 * w' + 2 * ((m' + 7) / 8) + 1, ()), ?_, ?_⟩
  · refine ldK_still (Heap.set_same _ _ _) 5 0 #[] (by exact Nat.le_refl 5) ?_
    have hx : (#[] ++ (plOf w' m').cells.extract 0 5) = (plOf w' m').cells := by unfold Pl.cells; simp
    show Value.tuple #[.agg (#[] ++ (plOf w' m').cells.extract 0 5), .int .i64 (w64 (4 * w' + 2 * ((m' + 7) / 8) + 1))] = _
    rw [hx, w64_in (by omega) (by omega)]; rfl
  · refine ⟨H, ?_, rfl, rfl⟩
    exact Heap.le_trans (Heap.le_set_new _ h7) (Heap.le_set_new _ (by rw [Heap.set_ne _ _ (Ne.symm n7)]; exact h4))
end Go.Proofs.Ytjleoogieoahnaa

set_option linter.unusedVariables false
set_option maxRecDepth 20000
namespace Go.Proofs.Ytjleoogieoahnaa
open Go Go.Fw

theorem pushed_wf {A : Ar} (hA : A.wf) (hd lk b : Int) : (A.pushed hd lk b).wf :=
  ⟨hA.nd, hA.fit, hA.busy, hA.carved, hA.words, by unfold Ar.pushed; simp only [List.length_set]; exact hA.raw, hA.wC, hA.wL, hA.wR, hA.wF⟩
theorem pushed_alike (A : Ar) (hd lk b : Int) : Ar.Alike A (A.pushed hd lk b) := ⟨rfl, rfl, rfl, rfl, rfl, rfl, rfl⟩
theorem popped_wf {A : Ar} (hA : A.wf) (hd lk : Int) : (A.popped hd lk).wf :=
  ⟨hA.nd, hA.fit, hA.busy, hA.carved, hA.words, by unfold Ar.popped; simp only [List.length_set]; exact hA.raw, hA.wC, hA.wL, hA.wR, hA.wF⟩
theorem popped_alike (A : Ar) (hd lk : Int) : Ar.Alike A (A.popped hd lk) := ⟨rfl, rfl, rfl, rfl, rfl, rfl, rfl⟩

theorem chk_pl {L : Hands} {H : Heap} {R : Value → Heap → Prop} {b : Nat} {p : Pl} {t : Tree} (hb : H b = some (.cells p.cells ty_free_Place (0, 0))) (h : wp Try.prog t L H R) : wp Try.prog (.check (ldAS ⟨b, 0, none⟩ 5 0 #[]) p.val t) L H R := by
  refine ⟨?_, h⟩
  rw [ldAS_eq]
  refine ldK_still hb 5 0 #[] (by exact Nat.le_refl 5) ?_
  have hx : (#[] ++ p.cells.extract 0 5) = p.cells := by unfold Pl.cells; simp
  show Value.agg (#[] ++ p.cells.extract 0 5) = _
  rw [hx]; rfl

theorem le_none {H G : Heap} (h : H.le G) {b : Nat} (hb : G b = none) : H b = none := by
  cases hc : H b with
  | none => rfl
  | some o => rw [h _ _ hc] at hb; cases hb

theorem le_set_none {H G : Heap} (h : H.le G) {b : Nat} (o : Obj) (hb : H b = none) : H.le (G.set b o) := fun x v e => by
  by_cases hx : x = b
  · rw [hx, hb] at e; cases e
  · rw [Heap.set_ne _ _ hx]; exact h _ _ e
theorem ne_of {G : Heap} {b c : Nat} {o : Obj} (h : G b = some o) (k : G c = none) : b ≠ c := fun e => by rw [e, k] at h; cases h

/-- A machine that was made, beside an arena. -/
structure MadeM (A : Ar) (G : Heap) (q0 q1 : Nat) (o0 o1 : Obj) (K : Heap) : Prop where
  i0 : q0 ∉ A.ids
  i1 : q1 ∉ A.ids
  ne : q0 ≠ q1
  n0 : G q0 = none
  n1 : G q1 = none
  le : G.le K
  g0 : K q0 = some o0
  g1 : K q1 = some o1

theorem mk_made {A : Ar} {G : Heap} {q0 q1 : Nat} {o0 o1 : Obj} (h0 : A.put G q0 = none) (h1 : A.put G q1 = none) (hn : q0 ≠ q1) :
    MadeM A G q0 q1 o0 o1 ((G.set q1 o1).set q0 o0) ∧ ((A.put G).set q1 o1).set q0 o0 = A.put ((G.set q1 o1).set q0 o0) := by
  obtain ⟨a0, b0⟩ := Ar.put_none h0
  obtain ⟨a1, b1⟩ := Ar.put_none h1
  refine ⟨⟨a0, a1, hn, b0, b1, Heap.le_trans (Heap.le_set_new _ b1) (Heap.le_set_new _ (by rw [Heap.set_ne _ _ hn]; exact b0)), Heap.set_same _ _ _, by rw [Heap.set_ne _ _ (Ne.symm hn), Heap.set_same]⟩, ?_⟩
  rw [Ar.put_set _ a1, Ar.put_set _ a0]

theorem NewPush_on {A : Ar} {G : Heap} (p : Pl) (w c b : Int) : SpecF Try.prog f_free_NewPush #[p.val, .int .i64 w, .int .i64 c, .int .i64 b] (A.put G) fun v K => ∃ q0 q1 G', MadeM A G q0 q1 (pushObj q1) (Pu.obj ⟨p, headF p w c, 0, 0, b⟩) G' ∧ v = .pointer (some ⟨q0, 0, none⟩) ∧ K = A.put G' := by
  refine SpecF.mono (NewPush_spec p w c b (A.put G)) ?_
  rintro v K ⟨q0, q1, h0, h1, hn, rfl, rfl⟩
  obtain ⟨m, e⟩ := mk_made (o0 := pushObj q1) (o1 := Pu.obj ⟨p, headF p w c, 0, 0, b⟩) h0 h1 hn
  exact ⟨q0, q1, _, m, rfl, e⟩
theorem NewPop_on {A : Ar} {G : Heap} (p : Pl) (w c : Int) : SpecF Try.prog f_free_NewPop #[p.val, .int .i64 w, .int .i64 c] (A.put G) fun v K => ∃ q0 q1 G', MadeM A G q0 q1 (popObj q1) (Po.obj ⟨p, headF p w c, 0, 0, 0, 0, false⟩) G' ∧ v = .pointer (some ⟨q0, 0, none⟩) ∧ K = A.put G' := by
  refine SpecF.mono (NewPop_spec p w c (A.put G)) ?_
  rintro v K ⟨q0, q1, h0, h1, hn, rfl, rfl⟩
  obtain ⟨m, e⟩ := mk_made (o0 := popObj q1) (o1 := Po.obj ⟨p, headF p w c, 0, 0, 0, 0, false⟩) h0 h1 hn
  exact ⟨q0, q1, _, m, rfl, e⟩

theorem eh_some (a : Addr) : opS Try.prog (.binOp .eql ty_p_free_Push (.tmp 0) (.const (.pointer none)) ty_p_free_Push) ty_bool [(.pointer (some a))] = .pure (.value (.bool false)) := by kernel_rfl
theorem eo_some (a : Addr) : opS Try.prog (.binOp .eql ty_p_free_Pop (.tmp 0) (.const (.pointer none)) ty_p_free_Pop) ty_bool [(.pointer (some a))] = .pure (.value (.bool false)) := by kernel_rfl

theorem pushed_ok {A : Ar} {hd lk b i : Int} : (A.pushed hd lk b).rawOk i ↔ A.rawOk i := by unfold Ar.rawOk Ar.pushed; simp only [List.length_set]
theorem popped_ok {A : Ar} {hd lk i : Int} : (A.popped hd lk).rawOk i ↔ A.rawOk i := by unfold Ar.rawOk Ar.popped; simp only [List.length_set]

theorem rawF_pushed {A : Ar} {hd lk b i : Int} (h1 : A.rawOk hd) (h2 : A.rawOk lk) (hi : A.rawOk i) :
    (A.pushed hd lk b).rawF i = if i = hd then nextF (A.rawF hd) (w64 (w64 (Int.tdiv b 8) + 1)) else if i = lk then iand (A.rawF hd) 131071 else A.rawF i := by
  have e : (A.pushed hd lk b).rawF i = (A.pushed hd lk b).raw.getD i.toNat 0 := by unfold Ar.rawF; rw [if_pos (pushed_ok.2 hi)]
  have e2 : A.rawF i = A.raw.getD i.toNat 0 := by unfold Ar.rawF; rw [if_pos hi]
  rw [e, e2]
  unfold Ar.rawOk at h1 h2 hi
  show ((A.raw.set lk.toNat (iand (A.rawF hd) 131071)).set hd.toNat (nextF (A.rawF hd) (w64 (w64 (Int.tdiv b 8) + 1)))).getD i.toNat 0 = _
  rw [List.getD_eq_getElem?_getD, List.getD_eq_getElem?_getD, List.getElem?_set, List.getElem?_set]
  simp only [List.length_set]
  by_cases c1 : i = hd
  · rw [if_pos c1, if_pos (by rw [c1]), if_pos (by omega)]; rfl
  · rw [if_neg c1, if_neg (by omega)]
    by_cases c2 : i = lk
    · rw [if_pos c2, if_pos (by rw [c2]), if_pos (by omega)]; rfl
    · rw [if_neg c2, if_neg (by omega)]

theorem rawF_popped {A : Ar} {hd lk i : Int} (h1 : A.rawOk hd) (hi : A.rawOk i) : (A.popped hd lk).rawF i = if i = hd then nextF (A.rawF hd) (A.rawF lk) else A.rawF i := by
  have e : (A.popped hd lk).rawF i = (A.popped hd lk).raw.getD i.toNat 0 := by unfold Ar.rawF; rw [if_pos (popped_ok.2 hi)]
  have e2 : A.rawF i = A.raw.getD i.toNat 0 := by unfold Ar.rawF; rw [if_pos hi]
  rw [e, e2]
  unfold Ar.rawOk at h1 hi
  show (A.raw.set hd.toNat (nextF (A.rawF hd) (A.rawF lk))).getD i.toNat 0 = _
  rw [List.getD_eq_getElem?_getD, List.getD_eq_getElem?_getD, List.getElem?_set]
  by_cases c1 : i = hd
  · rw [if_pos c1, if_pos (by rw [c1]), if_pos (by omega)]; rfl
  · rw [if_neg c1, if_neg (by omega)]

end Go.Proofs.Ytjleoogieoahnaa

set_option linter.unusedVariables false
set_option maxRecDepth 20000
namespace Go.Proofs.Ytjleoogieoahnaa
open Go Go.Fw

/-- A row of numbers that came in. -/
def RowOf (H : Heap) (a : Option Addr) (len : Nat) (zs : List Int) : Prop := ∀ i, i < len → ∃ x, a = some x ∧ H.cell? (x.add i) = some (.int .i64 (zs.getD i 0))

theorem cell_le {H K : Heap} (h : H.le K) {a : Addr} {v : Value} (hc : H.cell? a = some v) : K.cell? a = some v := by
  unfold Heap.cell? at *
  cases hx : H a.block with
  | none => rw [hx] at hc; cases hc
  | some o => rw [hx] at hc; rw [h _ _ hx]; exact hc

theorem wp_row {L : Hands} {H K : Heap} {R : Value → Heap → Prop} {s : Sl} {zs : List Int} (hz : RowOf H s.a s.len zs) (hK : H.le K) {i : Int} (h0 : 0 ≤ i) (h1 : i < ((s.len : Nat) : Int)) {k : Int → Tree} (h : wp Try.prog (k (zs.getD i.toNat 0)) L K R) :
    wp Try.prog (.look (opS Try.prog (.indexAddr ty_s_int (.tmp 0) (.tmp 1)) ty_unit [(.slice s.a s.len s.cap), (.int .i64 i)]) (.one (.leaf .addr)) fun x => .ld x (.int .i64) k) L K R := by
  obtain ⟨x, hx, hc⟩ := hz i.toNat (by omega)
  rw [hx]
  have hi := opS_idxS (P := Try.prog) (t := ty_s_int) (u := ty_unit) (e := ty_int) (l := s.len) (c := s.cap) (i := i) (a := x) rfl rfl h0 h1
  refine look_val (x := x.add i.toNat) ?_ (wp_ld_of (x := zs.getD i.toNat 0) (cell_le hK hc) h)
  refine hi.trans ?_
  show Sem.pure (Next.value (.pointer (some (x.add (i.toNat * 1))))) = _
  rw [Nat.mul_one]

theorem idxA {t u e : TypeId} {n b o : Nat} {i : Int} {info : TypeInfo} (hu : Try.prog.underlying t = some (.array n e)) (hi : Try.prog.info? e = some info) (hs : info.size = 1) (h0 : 0 ≤ i) (h1 : i < n) :
    opS Try.prog (.indexAddr t (.tmp 0) (.tmp 1)) u [.pointer (some ⟨b, o, none⟩), .int .i64 i] = .pure (.value (.pointer (some ⟨b, o + i.toNat, none⟩))) := by
  rw [opS_idx hu hi h0 h1, Addr.add_mk, hs, Nat.mul_one]

/-- A loop with a truth and two numbers. -/
theorem wp_loop_bii {L : Hands} {H : Heap} {R : Value → Heap → Prop} {n : Nat} {b : Bool} {init : List Value} {body : HL Sh1.T [.leaf .bool, .leaf (.int .i64), .leaf (.int .i64)] → Tree} (I : Int → Int → Heap → Prop) (m : Int → Int → Nat) (i0 j0 : Int) (hi : I i0 j0 H)
    (hstep : ∀ (i j : Int) (b : Bool) H', I i j H' → wp Try.prog (body (b, i, j, ())) (L.set n fun vals H'' => ∃ (c : Bool) (i' j' : Int), vals = [.bool c, .int .i64 i', .int .i64 j'] ∧ I i' j' H'' ∧ m i' j' < m i j) H' R) (h0 : init = [.bool b, .int .i64 i0, .int .i64 j0] := by rfl) :
    wp Try.prog (.loop n [.leaf .bool, .leaf (.int .i64), .leaf (.int .i64)] init body) L H R := by
  refine wp_loop_inv (fun x K => I x.2.1 x.2.2.1 K) (fun x _ => m x.2.1 x.2.2.1) (b, i0, j0, ()) h0 hi ?_
  rintro ⟨c, i, j, u⟩ K hI
  refine Go.Fw.wp_mono _ (hstep i j c K hI) (fun k vals H'' hk => ?_) (fun _ _ h => h)
  unfold Hands.set at *
  split at hk
  · rename_i e; rw [if_pos e]; obtain ⟨c, i, j, h1, h2, h3⟩ := hk; exact ⟨(c, i, j, ()), h1, h2, h3⟩
  · rename_i e; rw [if_neg e]; exact hk

theorem chk_cell {L : Hands} {H : Heap} {R : Value → Heap → Prop} {a : Addr} {v : Value} {t : Tree} (hc : H.cell? a = some v) (h : wp Try.prog t L H R) : wp Try.prog (.check (ldS a) v t) L H R := ⟨⟨_, hc, rfl⟩, h⟩
end Go.Proofs.Ytjleoogieoahnaa

set_option linter.unusedVariables false
set_option maxRecDepth 20000
namespace Go.Proofs.Ytjleoogieoahnaa
open Go Go.Fw

/-! ### Blocks, one by one, beside an arena -/

abbrev Bl := List (Nat × Obj)
def oc (T : TypeId) (c : List Value) : Obj := .cells c.toArray T (0, 0)
def putL : Bl → Heap → Heap
  | [], H => H
  | p :: l, H => (putL l H).set p.1 p.2
@[reducible] def keys (l : Bl) : List Nat := l.map Prod.fst
def own (A : Ar) (l : Bl) (G : Heap) : Heap := A.put (putL l G)

structure Ok (I : List Nat) (G : Heap) (ks : List Nat) : Prop where
  nd : ks.Nodup
  out : ∀ b ∈ ks, b ∉ I
  no : ∀ b ∈ ks, G b = none
structure Aw (I : List Nat) (A : Ar) : Prop where
  wf : A.wf
  ids : A.ids = I

theorem putL_append (l k : Bl) (G : Heap) : putL (l ++ k) G = putL l (putL k G) := by
  induction l with
  | nil => rfl
  | cons p l ih => show (putL (l ++ k) G).set p.1 p.2 = (putL l (putL k G)).set p.1 p.2; rw [ih]

theorem putL_out {l : Bl} {b : Nat} (h : b ∉ keys l) (G : Heap) : putL l G b = G b := by
  induction l with
  | nil => rfl
  | cons p l ih =>
    simp only [keys, List.map_cons, List.mem_cons, not_or] at h
    show (putL l G).set p.1 p.2 b = _
    rw [Heap.set_ne _ _ h.1]; exact ih h.2

theorem putL_get {l : Bl} (G : Heap) : ∀ {i : Nat} {b : Nat} {o : Obj}, (keys l).Nodup → l[i]? = some (b, o) → putL l G b = some o := by
  induction l with
  | nil => intro i b o _ h; simp at h
  | cons p l ih =>
    intro i b o hn h
    simp only [keys, List.map_cons, List.nodup_cons] at hn
    cases i with
    | zero =>
      simp only [List.getElem?_cons_zero, Option.some.injEq] at h
      subst h; exact Heap.set_same _ _ _
    | succ i =>
      simp only [List.getElem?_cons_succ] at h
      have hm : b ∈ keys l := List.mem_map.2 ⟨(b, o), List.mem_of_getElem? h, rfl⟩
      show (putL l G).set p.1 p.2 b = _
      rw [Heap.set_ne _ _ (fun e => hn.1 (by rw [← e]; exact hm))]
      exact ih hn.2 h

theorem putL_set {l : Bl} (G : Heap) : ∀ {i : Nat} {b : Nat} {o o' : Obj}, (keys l).Nodup → l[i]? = some (b, o) → (putL l G).set b o' = putL (l.set i (b, o')) G := by
  induction l with
  | nil => intro i b o o' _ h; simp at h
  | cons p l ih =>
    intro i b o o' hn h
    simp only [keys, List.map_cons, List.nodup_cons] at hn
    cases i with
    | zero =>
      simp only [List.getElem?_cons_zero, Option.some.injEq] at h
      subst h; exact Heap.set_set _ _ _ _
    | succ i =>
      simp only [List.getElem?_cons_succ] at h
      have hm : b ∈ keys l := List.mem_map.2 ⟨(b, o), List.mem_of_getElem? h, rfl⟩
      show ((putL l G).set p.1 p.2).set b o' = (putL (l.set i (b, o')) G).set p.1 p.2
      rw [Heap.set_comm _ _ _ (fun e => hn.1 (by rw [e]; exact hm)), ih hn.2 h]

theorem putL_none {l : Bl} {G : Heap} {b : Nat} (h : putL l G b = none) : b ∉ keys l ∧ G b = none := by
  induction l with
  | nil => exact ⟨by simp [keys], h⟩
  | cons p l ih =>
    obtain ⟨h1, h2⟩ := set_none (H := putL l G) h
    obtain ⟨h3, h4⟩ := ih h2
    exact ⟨by simp only [keys, List.map_cons, List.mem_cons, not_or]; exact ⟨h1, h3⟩, h4⟩

theorem putL_drop {l : Bl} (G : Heap) : ∀ {l' : Bl}, l'.Sublist l → (keys l).Nodup → (∀ b ∈ keys l, b ∉ keys l' → G b = none) → (putL l' G).le (putL l G) := by
  induction l with
  | nil => intro l' hs _ _; rw [List.sublist_nil.1 hs]; exact Heap.le_refl _
  | cons p l ih =>
    intro l' hs hn hg
    simp only [keys, List.map_cons, List.nodup_cons] at hn
    have hnl : (keys l).Nodup := hn.2
    cases hs with
    | cons _ hs =>
      have hp : p.1 ∉ keys l' := fun h => hn.1 ((hs.map Prod.fst).subset h)
      have hle := ih hs hnl (fun b hb hb' => hg b (by simp only [keys, List.map_cons]; exact List.mem_cons_of_mem _ hb) hb')
      intro b o hb
      show (putL l G).set p.1 p.2 b = some o
      have hbp : b ≠ p.1 := by
        intro e; subst e
        rw [putL_out hp, hg _ (by simp [keys]) hp] at hb; cases hb
      rw [Heap.set_ne _ _ hbp]; exact hle b o hb
    | @cons_cons l'' _ _ hs =>
      have hle := ih hs hnl (fun b hb hb' => hg b (by simp only [keys, List.map_cons]; exact List.mem_cons_of_mem _ hb) (by
        simp only [keys, List.map_cons, List.mem_cons, not_or]
        exact ⟨fun e => hn.1 (e ▸ hb), hb'⟩))
      intro b o hb
      show (putL l G).set p.1 p.2 b = some o
      by_cases e : b = p.1
      · subst e
        have := Heap.set_same (putL l'' G) p.1 p.2
        rw [show putL (p :: l'') G p.1 = some p.2 from this] at hb
        rw [Heap.set_same]; exact hb
      · rw [Heap.set_ne _ _ e]
        have h2 : putL (p :: l'') G b = putL l'' G b := Heap.set_ne _ _ e
        rw [h2] at hb; exact hle b o hb

/-- One block to the front. -/
theorem putL_front {l : Bl} (G : Heap) : ∀ {i : Nat} {p : Nat × Obj}, (keys l).Nodup → l[i]? = some p → putL l G = putL (p :: l.eraseIdx i) G := by
  induction l with
  | nil => intro i p _ h; simp at h
  | cons q l ih =>
    intro i p hn h
    simp only [keys, List.map_cons, List.nodup_cons] at hn
    cases i with
    | zero => simp only [List.getElem?_cons_zero, Option.some.injEq] at h; subst h; rfl
    | succ i =>
      simp only [List.getElem?_cons_succ] at h
      have hm : p.1 ∈ keys l := List.mem_map.2 ⟨p, List.mem_of_getElem? h, rfl⟩
      show (putL l G).set q.1 q.2 = ((putL (l.eraseIdx i) G).set q.1 q.2).set p.1 p.2
      rw [ih hn.2 h]
      show ((putL (l.eraseIdx i) G).set p.1 p.2).set q.1 q.2 = _
      exact Heap.set_comm _ _ _ (fun e => hn.1 (by first | (rw [← e]; exact hm) | (rw [e]; exact hm)))

theorem putL_same {l : Bl} {G K : Heap} (h : ∀ b, b ∉ keys l → G b = K b) : putL l G = putL l K := by
  induction l generalizing G K with
  | nil => funext b; exact h b (by simp [keys])
  | cons p l ih =>
    funext b
    show (putL l G).set p.1 p.2 b = (putL l K).set p.1 p.2 b
    by_cases e : b = p.1
    · subst e; rw [Heap.set_same, Heap.set_same]
    · rw [Heap.set_ne _ _ e, Heap.set_ne _ _ e]
      by_cases hb : b ∈ keys l
      · have : ∀ (l : Bl), b ∈ keys l → putL l G b = putL l K b := by
          intro l hb
          induction l with
          | nil => simp [keys] at hb
          | cons q l ih2 =>
            show (putL l G).set q.1 q.2 b = (putL l K).set q.1 q.2 b
            by_cases e2 : b = q.1
            · subst e2; rw [Heap.set_same, Heap.set_same]
            · rw [Heap.set_ne _ _ e2, Heap.set_ne _ _ e2]
              simp only [keys, List.map_cons, List.mem_cons] at hb
              exact ih2 (hb.resolve_left e2)
        exact this l hb
      · rw [putL_out hb, putL_out hb]
        exact h b (by simp only [keys, List.map_cons, List.mem_cons, not_or]; exact ⟨e, hb⟩)

theorem putL_comm {l k : Bl} (h : ∀ b ∈ keys l, b ∉ keys k) (G : Heap) : putL l (putL k G) = putL k (putL l G) := by
  induction l with
  | nil => rfl
  | cons p l ih =>
    have hp : p.1 ∉ keys k := h p.1 (by simp [keys])
    have ih1 := ih fun b hb => h b (by simp only [keys, List.map_cons]; exact List.mem_cons_of_mem _ hb)
    show (putL l (putL k G)).set p.1 p.2 = putL k ((putL l G).set p.1 p.2)
    rw [ih1]
    clear ih1 ih h
    induction k with
    | nil => rfl
    | cons q k ih =>
      simp only [keys, List.map_cons, List.mem_cons, not_or] at hp
      show ((putL k (putL l G)).set q.1 q.2).set p.1 p.2 = (putL k ((putL l G).set p.1 p.2)).set q.1 q.2
      rw [Heap.set_comm _ _ _ (Ne.symm hp.1), ih hp.2]

section
variable {I : List Nat} {A : Ar} {l : Bl} {G : Heap}

theorem own_get (hA : Aw I A) (ok : Ok I G (keys l)) {i b : Nat} {o : Obj} (h : l[i]? = some (b, o)) : own A l G b = some o := by
  unfold own
  rw [Ar.put_out, putL_get G ok.nd h]
  rw [hA.ids]; exact ok.out b (List.mem_map.2 ⟨(b, o), List.mem_of_getElem? h, rfl⟩)

theorem own_set (hA : Aw I A) (ok : Ok I G (keys l)) {i b : Nat} {o : Obj} (o' : Obj) (h : l[i]? = some (b, o)) : (own A l G).set b o' = own A (l.set i (b, o')) G := by
  unfold own
  rw [Ar.put_set, putL_set G ok.nd h]
  rw [hA.ids]; exact ok.out b (List.mem_map.2 ⟨(b, o), List.mem_of_getElem? h, rfl⟩)

theorem own_none (hA : Aw I A) {b : Nat} (h : own A l G b = none) : b ∉ I ∧ b ∉ keys l ∧ G b = none := by
  obtain ⟨h1, h2⟩ := Ar.put_none h
  obtain ⟨h3, h4⟩ := putL_none h2
  exact ⟨by rw [← hA.ids]; exact h1, h3, h4⟩

theorem own_new (hA : Aw I A) (ok : Ok I G (keys l)) {b : Nat} (h : own A l G b = none) (o : Obj) : Ok I G (keys ((b, o) :: l)) ∧ (own A l G).set b o = own A ((b, o) :: l) G := by
  obtain ⟨h1, h2, h3⟩ := own_none hA h
  refine ⟨⟨?_, ?_, ?_⟩, ?_⟩
  · simp only [keys, List.map_cons, List.nodup_cons]; exact ⟨h2, ok.nd⟩
  · intro c hc
    simp only [keys, List.map_cons, List.mem_cons] at hc
    rcases hc with rfl | hc
    · exact h1
    · exact ok.out c hc
  · intro c hc
    simp only [keys, List.map_cons, List.mem_cons] at hc
    rcases hc with rfl | hc
    · exact h3
    · exact ok.no c hc
  · unfold own
    rw [Ar.put_set]
    · rfl
    · rw [hA.ids]; exact h1

theorem own_front (ok : Ok I G (keys l)) {i : Nat} {p : Nat × Obj} (h : l[i]? = some p) : own A l G = own A (p :: l.eraseIdx i) G := by
  unfold own; rw [putL_front G ok.nd h]

def pick (l : Bl) : List Nat → Option Bl
  | [] => some []
  | i :: is => match l[i]?, pick l is with
    | some p, some r => some (p :: r)
    | _, _ => none

theorem pick_mem {l : Bl} : ∀ {is : List Nat} {l' : Bl}, pick l is = some l' → ∀ p ∈ l', p ∈ l
  | [], l', h, p, hp => by cases h; cases hp
  | i :: is, l', h, p, hp => by
    simp only [pick] at h
    split at h
    · rename_i x r hx hr
      cases h
      rcases List.mem_cons.1 hp with rfl | hp
      · exact List.mem_of_getElem? hx
      · exact pick_mem hr p hp
    · cases h

/-- Some of the blocks, in another order. -/
theorem own_sub {l' : Bl} (ok : Ok I G (keys l)) (nd : (keys l').Nodup) (hm : ∀ p ∈ l', p ∈ l) : (own A l' G).le (own A l G) := by
  unfold own
  refine Ar.put_le fun b o hb => ?_
  by_cases hk : b ∈ keys l'
  · obtain ⟨⟨b', o'⟩, h1, rfl⟩ := List.mem_map.1 hk
    obtain ⟨i, hi⟩ := List.mem_iff_getElem?.1 h1
    rw [putL_get G nd hi] at hb
    cases hb
    obtain ⟨j, hj⟩ := List.mem_iff_getElem?.1 (hm _ h1)
    exact putL_get G ok.nd hj
  · rw [putL_out hk] at hb
    rw [putL_out]
    · exact hb
    · intro h; rw [ok.no b h] at hb; cases hb
theorem Ok.sub {ks ks' : List Nat} (ok : Ok I G ks) (nd : ks'.Nodup) (h : ∀ b ∈ ks', b ∈ ks) : Ok I G ks' := ⟨nd, fun b hb => ok.out b (h b hb), fun b hb => ok.no b (h b hb)⟩
theorem Ok.pick (is : List Nat) {l' : Bl} (ok : Ok I G (keys l)) (h : pick l is = some l') (nd : is.Nodup) : Ok I G (keys l') := by
  refine ok.sub ?_ fun b hb => ?_
  · have key : ∀ (is : List Nat) (l' : Bl), Proofs.Ytjleoogieoahnaa.pick l is = some l' → is.Nodup → (keys l').Nodup ∧ ∀ b ∈ keys l', ∃ i ∈ is, (l[i]?).map Prod.fst = some b := by
      intro is
      induction is with
      | nil => intro l' h _; cases h; exact ⟨by simp [keys], by simp [keys]⟩
      | cons i is ih =>
        intro l' h nd
        simp only [Proofs.Ytjleoogieoahnaa.pick] at h
        split at h
        · rename_i x r hx hr
          cases h
          obtain ⟨h1, h2⟩ := List.nodup_cons.1 nd
          obtain ⟨h3, h4⟩ := ih r hr h2
          refine ⟨?_, ?_⟩
          · simp only [keys, List.map_cons, List.nodup_cons]
            refine ⟨fun hm => ?_, h3⟩
            obtain ⟨j, hj, he⟩ := h4 x.1 hm
            have : i = j := by
              have n := ok.nd
              cases hlj : l[j]? with
              | none => rw [hlj] at he; cases he
              | some y =>
                rw [hlj] at he
                simp only [Option.map_some, Option.some.injEq] at he
                have hi1 : (keys l)[i]? = some x.1 := by simp [keys, hx]
                have hj1 : (keys l)[j]? = some x.1 := by simp [keys, hlj, he]
                exact (List.getElem?_inj (by
                  have := List.getElem?_eq_some_iff.1 hi1
                  exact this.1) n).1 (hi1.trans hj1.symm)
            exact h1 (this ▸ hj)
          · intro b hb
            simp only [keys, List.map_cons, List.mem_cons] at hb
            rcases hb with rfl | hb
            · exact ⟨i, List.mem_cons_self, by rw [hx]; rfl⟩
            · obtain ⟨j, hj, he⟩ := h4 b hb
              exact ⟨j, List.mem_cons_of_mem _ hj, he⟩
        · cases h
    exact (key is l' h nd).1
  · obtain ⟨p, hp, rfl⟩ := List.mem_map.1 hb
    exact List.mem_map.2 ⟨p, pick_mem h p hp, rfl⟩
theorem own_pick (is : List Nat) {l' : Bl} (ok : Ok I G (keys l)) (h : pick l is = some l') (nd : is.Nodup) : (own A l' G).le (own A l G) := own_sub ok (ok.pick is h nd).nd (pick_mem h)

theorem own_le {K : Heap} (h : G.le K) (hg : ∀ b ∈ keys l, G b = none) : (own A l G).le (own A l K) := by
  unfold own
  refine Ar.put_le ?_
  intro b o hb
  by_cases hm : b ∈ keys l
  · have : ∀ (l : Bl), b ∈ keys l → putL l G b = putL l K b := by
      intro l hb
      induction l with
      | nil => simp [keys] at hb
      | cons q l ih2 =>
        show (putL l G).set q.1 q.2 b = (putL l K).set q.1 q.2 b
        by_cases e2 : b = q.1
        · subst e2; rw [Heap.set_same, Heap.set_same]
        · rw [Heap.set_ne _ _ e2, Heap.set_ne _ _ e2]
          simp only [keys, List.map_cons, List.mem_cons] at hb
          exact ih2 (hb.resolve_left e2)
    rw [← this l hm]; exact hb
  · rw [putL_out hm] at hb ⊢; exact h b o hb
end

/-! ### What a leaf's value is -/

def Lf.dec : (l : Leaf) → Value → Option l.T
  | .int k, .int k' n => if k = k' then some n else none
  | .bool, .bool b => some b
  | .ptr, .pointer p => some p
  | .addr, .pointer (some a) => some a
  | .slice, .slice a n c => some ⟨a, n, c⟩
  | .map, .map r => some r
  | .val, v => some v
  | _, _ => none

theorem Lf.dec_ok {l : Leaf} {v : Value} {x : l.T} (h : Lf.dec l v = some x) : v = l.toVal x := by
  cases l <;> cases v <;> simp only [Lf.dec] at h
  all_goals first
    | (cases h; done)
    | (cases h; rfl)
    | (split at h
       · rename_i e; cases h; rw [← e]
       · cases h)
    | (rename_i p; cases p
       · cases h
       · cases h; rfl)

def Lf.decs : (ls : List Leaf) → List Value → Option (HL Leaf.T ls)
  | [], _ => some ()
  | l :: ls, v :: vs => match Lf.dec l v, Lf.decs ls vs with
    | some x, some y => some (x, y)
    | _, _ => none
  | _ :: _, [] => none

theorem Lf.decs_ok : ∀ {ls : List Leaf} {vs : List Value} {x : HL Leaf.T ls}, Lf.decs ls vs = some x → ls.length ≤ vs.length ∧ vs.take ls.length = HL.vals Leaf.toVal ls x
  | [], vs, x, h => ⟨by simp, by simp [HL.vals]⟩
  | l :: ls, [], x, h => by simp [Lf.decs] at h
  | l :: ls, v :: vs, x, h => by
    simp only [Lf.decs] at h
    split at h
    · rename_i a b ha hb
      cases h
      obtain ⟨h1, h2⟩ := Lf.decs_ok hb
      refine ⟨by simp; exact h1, ?_⟩
      simp only [List.length_cons, List.take_succ_cons, h2, HL.vals, Lf.dec_ok ha]
    · cases h

/-! ### A tree's words on blocks -/

section
variable {L : Hands} {G : Heap} {R : Value → Heap → Prop} {A : Ar} {I : List Nat} {l : Bl}

theorem w_ld (i : Nat) {a : Addr} {b n : Nat} {T : TypeId} {c : List Value} {lf : Leaf} {k : lf.T → Tree} {x : lf.T} (hA : Aw I A) (ok : Ok I G (keys l)) (ha : a = ⟨b, n, none⟩) (hi : l[i]? = some (b, oc T c)) (hx : (c[n]?).bind (Lf.dec lf) = some x)
    (h : wp Try.prog (k x) L (own A l G) R) : wp Try.prog (.ld a lf k) L (own A l G) R := by
  subst ha
  refine wp_ld_of (x := x) ?_ h
  rw [Heap.cell_of (own_get hA ok hi)]
  rw [List.getElem?_toArray]
  cases hc : c[n]? with
  | none => rw [hc] at hx; cases hx
  | some v => rw [hc] at hx; exact congrArg some (Lf.dec_ok hx)

theorem w_ldA (i : Nat) {a : Addr} {b n : Nat} {T : TypeId} {c : List Value} {ls : List Leaf} {k : HL Leaf.T ls → Tree} {x : HL Leaf.T ls} (hA : Aw I A) (ok : Ok I G (keys l)) (ha : a = ⟨b, n, none⟩) (hi : l[i]? = some (b, oc T c)) (hx : Lf.decs ls (c.drop n) = some x)
    (h : wp Try.prog (k x) L (own A l G) R) (hn : decide (n ≤ c.length) = true := by rfl) : wp Try.prog (.ldA a ls k) L (own A l G) R := by
  subst ha
  have hn := of_decide_eq_true hn
  obtain ⟨h1, h2⟩ := Lf.decs_ok hx
  rw [List.length_drop] at h1
  refine wp_ldA_of (x := x) (own_get hA ok hi) (by simp; omega) ?_ h
  rw [← h2]; simp [List.extract_eq_take_drop]

theorem w_st (i : Nat) {a : Addr} {b n : Nat} {T : TypeId} {c : List Value} {v : Value} {k : Tree} (hA : Aw I A) (ok : Ok I G (keys l)) (ha : a = ⟨b, n, none⟩) (hi : l[i]? = some (b, oc T c)) (hs : Value.single v = true) (hn : (decide (n < c.length)) = true)
    (h : wp Try.prog k L (own A (l.set i (b, oc T (c.set n v))) G) R) : wp Try.prog (.st a v k) L (own A l G) R := by
  subst ha
  have hn := of_decide_eq_true hn
  refine wp_st_of (u := c[n]) (own_get hA ok hi) (by simp [hn]) hs ?_
  rw [own_set hA ok _ hi]
  have : (c.toArray.setIfInBounds n v) = (c.set n v).toArray := by simp
  rw [this]; exact h

def setAll (c : List Value) : Nat → List Value → List Value
  | _, [] => c
  | n, v :: l => setAll (c.set n v) (n + 1) l

theorem setAll_put (vs : List Value) : ∀ (c : List Value) (n : Nat), putAll c.toArray n vs = (setAll c n vs).toArray := by
  induction vs with
  | nil => intro c n; rfl
  | cons v vs ih => intro c n; simp only [putAll, setAll]; rw [← ih]; simp

theorem w_stA (i : Nat) {a : Addr} {b n : Nat} {T : TypeId} {c : List Value} {vs : List Value} {k : Tree} (hA : Aw I A) (ok : Ok I G (keys l)) (ha : a = ⟨b, n, none⟩) (hi : l[i]? = some (b, oc T c)) (hs : vs.all Value.single = true) (hn : (decide (n + vs.length ≤ c.length)) = true)
    (h : wp Try.prog k L (own A (l.set i (b, oc T (setAll c n vs))) G) R) : wp Try.prog (.stA a vs k) L (own A l G) R := by
  subst ha
  have hn := of_decide_eq_true hn
  refine wp_stA_of (own_get hA ok hi) (by simpa using hn) (fun v hv => List.all_eq_true.1 hs v hv) ?_
  rw [own_set hA ok _ hi, setAll_put]; exact h

theorem w_newP {c : List Value} {T : TypeId} {k : Addr → Tree} (hA : Aw I A) (ok : Ok I G (keys l)) (h : ∀ b, Ok I G (keys ((b, oc T c) :: l)) → wp Try.prog (k ⟨b, 0, none⟩) L (own A ((b, oc T c) :: l) G) R) :
    wp Try.prog (.newP (.cells c.toArray T) k) L (own A l G) R := by
  refine wp_newP fun b hb => ?_
  obtain ⟨h1, h2⟩ := own_new hA ok hb (oc T c)
  show wp Try.prog (k ⟨b, 0, none⟩) L ((own A l G).set b (oc T c)) R
  rw [h2]; exact h b h1

theorem w_newS {c : List Value} {T : TypeId} {n : Nat} {k : Sl → Tree} (hA : Aw I A) (ok : Ok I G (keys l)) (h : ∀ b, Ok I G (keys ((b, oc T c) :: l)) → wp Try.prog (k ⟨some ⟨b, 0, none⟩, n, n⟩) L (own A ((b, oc T c) :: l) G) R) :
    wp Try.prog (.newS (.cells c.toArray T) n k) L (own A l G) R := by
  refine wp_newS fun b hb => ?_
  obtain ⟨h1, h2⟩ := own_new hA ok hb (oc T c)
  show wp Try.prog (k ⟨some ⟨b, 0, none⟩, n, n⟩) L ((own A l G).set b (oc T c)) R
  rw [h2]; exact h b h1

theorem w_newM {k : Option Nat → Tree} (hA : Aw I A) (ok : Ok I G (keys l)) (h : ∀ b, Ok I G (keys ((b, .map #[] 0) :: l)) → wp Try.prog (k (some b)) L (own A ((b, .map #[] 0) :: l) G) R) :
    wp Try.prog (.newM k) L (own A l G) R := by
  refine wp_newM fun b hb => ?_
  obtain ⟨h1, h2⟩ := own_new hA ok hb (.map #[] 0)
  rw [h2]; exact h b h1

theorem w_det {f : FuncId} {args : List Value} {sh : Sh} {k : sh.T → Tree} {x : sh.T} {A' : Ar} (h : Det Try.prog f args (A.put (putL l G)) (sh.toVal x) (A'.put (putL l G))) (hk : wp Try.prog (k x) L (own A' l G) R) : wp Try.prog (.call f args sh k) L (own A l G) R := wp_call_det h hk

theorem w_ck (i : Nat) {a : Addr} {b n : Nat} {T : TypeId} {c : List Value} {v : Value} {t : Tree} (hA : Aw I A) (ok : Ok I G (keys l)) (ha : a = ⟨b, n, none⟩) (hi : l[i]? = some (b, oc T c)) (hx : c[n]? = some v) (h : wp Try.prog t L (own A l G) R) : wp Try.prog (.check (ldS a) v t) L (own A l G) R := by
  subst ha
  refine chk_cell ?_ h
  rw [Heap.cell_of (own_get hA ok hi), List.getElem?_toArray]; exact hx

theorem w_ckn {a : Addr} {t : TypeId} {v : Value} {s : Tree} (hv : v = .pointer (some a)) (h : wp Try.prog s L (own A l G) R) : wp Try.prog (.check (opS Try.prog (.nilCheck (.tmp 0)) t [.pointer (some a)]) v s) L (own A l G) R := by
  subst hv; exact check_val (by rfl) h

theorem w_ret (is : List Nat) {v : Value} {l' : Bl} (ok : Ok I G (keys l)) (h : pick l is = some l') (nd : is.Nodup) (hR : Ok I G (keys l') → R v (own A l' G)) : wp Try.prog (.ret v) L (own A l G) R := ⟨own A l' G, own_pick is ok h nd, hR (ok.pick is h nd)⟩
end
end Go.Proofs.Ytjleoogieoahnaa

set_option linter.unusedVariables false
set_option maxRecDepth 20000
namespace Go.Proofs.Ytjleoogieoahnaa
open Go Go.Fw

@[reducible] def aI (I : List Nat) : Option Addr := some ⟨I.headD 0, 0, none⟩
theorem Aw.pA {I : List Nat} {A : Ar} (h : Aw I A) : .pointer (aI I) = pA A := by unfold Proofs.Ytjleoogieoahnaa.pA aI; rw [← h.ids]; rfl
theorem Aw.of {I : List Nat} {A B : Ar} (h : Aw I A) (al : Ar.Alike A B) (w : B.wf) : Aw I B := ⟨w, al.ids.trans h.ids⟩

def Ar.bornX (A : Ar) (h : Int) : Ar := if A.bornOk h then A.bornF h else A

section
variable {L : Hands} {R : Value → Heap → Prop} {A : Ar} {I : List Nat} {l : Bl} {G : Heap}

theorem Aw.touchR (h : Aw I A) (i : Int) : Aw I (A.touchR i) := h.of (touchR_alike A i) (touchR_wf h.wf i)
theorem Aw.storeR (h : Aw I A) (i v : Int) : Aw I (A.storeR i v) := h.of (storeR_alike A i v) (storeR_wf h.wf i v)
theorem Aw.swapR (h : Aw I A) (i v w : Int) : Aw I (A.swapR i v w) := h.of (swapR_alike A i v w) (swapR_wf h.wf i v w)
theorem Aw.touch (h : Aw I A) (k i : Int) : Aw I (A.touch k i) := h.of (touch_alike A k i) (touch_wf h.wf k i)
theorem Aw.storeF (h : Aw I A) (k i v : Int) : Aw I (A.storeF k i v) := h.of (storeF_alike A k i v) (storeF_wf h.wf k i v)
theorem Aw.retireF (h : Aw I A) (k : Int) : Aw I (A.retireF k) := h.of (retireF_alike A k) (retireF_wf h.wf k)
theorem Aw.diedF (h : Aw I A) (k : Int) : Aw I (A.diedF k) := h.of (diedF_alike A k) (diedF_wf h.wf k)
theorem Aw.bornX (h : Aw I A) (k : Int) : Aw I (A.bornX k) := by
  unfold Ar.bornX; split
  · rename_i e; exact h.of (bornF_alike A k) (bornF_wf h.wf k e.2.1)
  · exact h

theorem w_Raw {i : Int} {k : Int → Tree} (hA : Aw I A) (h : Aw I (A.touchR i) → wp Try.prog (k (A.rawF i)) L (own (A.touchR i) l G) R) :
    wp Try.prog (.call f_arena_Arena_Raw [.pointer (aI I), .int .i64 i] (.one (.leaf (.int .i64))) k) L (own A l G) R :=
  wp_call_det (x := A.rawF i) (by rw [hA.pA]; exact Raw_det hA.wf i _) (h (hA.touchR i))
theorem w_SetRaw {i v : Int} {k : Unit → Tree} (hA : Aw I A) (h : Aw I (A.storeR i v) → wp Try.prog (k ()) L (own (A.storeR i v) l G) R) :
    wp Try.prog (.call f_arena_Arena_SetRaw [.pointer (aI I), .int .i64 i, .int .i64 v] .unit k) L (own A l G) R :=
  wp_call_det (x := ()) (by rw [hA.pA]; exact SetRaw_det hA.wf i v _) (h (hA.storeR i v))
theorem w_SwapRaw {i v w : Int} {k : Bool → Tree} (hA : Aw I A) (h : Aw I (A.swapR i v w) → wp Try.prog (k (A.swapRb i v)) L (own (A.swapR i v w) l G) R) :
    wp Try.prog (.call f_arena_Arena_SwapRaw [.pointer (aI I), .int .i64 i, .int .i64 v, .int .i64 w] (.one (.leaf .bool)) k) L (own A l G) R :=
  wp_call_det (x := A.swapRb i v) (by rw [hA.pA]; exact SwapRaw_det hA.wf i v w _) (h (hA.swapR i v w))
theorem w_Load {b i : Int} {k : Int → Tree} (hA : Aw I A) (h : Aw I (A.touch b i) → wp Try.prog (k (A.loadF b i)) L (own (A.touch b i) l G) R) :
    wp Try.prog (.call f_arena_Arena_Load [.pointer (aI I), .int .i64 b, .int .i64 i] (.one (.leaf (.int .i64))) k) L (own A l G) R :=
  wp_call_det (x := A.loadF b i) (by rw [hA.pA]; exact Load_det hA.wf b i _) (h (hA.touch b i))
theorem w_Store {b i v : Int} {k : Unit → Tree} (hA : Aw I A) (h : Aw I (A.storeF b i v) → wp Try.prog (k ()) L (own (A.storeF b i v) l G) R) :
    wp Try.prog (.call f_arena_Arena_Store [.pointer (aI I), .int .i64 b, .int .i64 i, .int .i64 v] .unit k) L (own A l G) R :=
  wp_call_det (x := ()) (by rw [hA.pA]; exact Store_det hA.wf b i v _) (h (hA.storeF b i v))
theorem w_State {b : Int} {k : Int → Tree} (hA : Aw I A) (h : wp Try.prog (k (A.stF b)) L (own A l G) R) :
    wp Try.prog (.call f_arena_Arena_State [.pointer (aI I), .int .i64 b] (.one (.leaf (.int .i64))) k) L (own A l G) R :=
  wp_call_det (x := A.stF b) (by rw [hA.pA]; exact State_det hA.wf.nd b _) h
theorem w_Retire {b : Int} {k : Bool → Tree} (hA : Aw I A) (h : Aw I (A.retireF b) → wp Try.prog (k (A.turnB b 1)) L (own (A.retireF b) l G) R) :
    wp Try.prog (.call f_arena_Arena_Retire [.pointer (aI I), .int .i64 b] (.one (.leaf .bool)) k) L (own A l G) R :=
  wp_call_det (x := A.turnB b 1) (by rw [hA.pA]; exact Retire_det hA.wf.nd b _) (h (hA.retireF b))
theorem w_Died {b : Int} {k : Bool → Tree} (hA : Aw I A) (h : Aw I (A.diedF b) → wp Try.prog (k (A.turnB b 2)) L (own (A.diedF b) l G) R) :
    wp Try.prog (.call f_arena_Arena_Died [.pointer (aI I), .int .i64 b] (.one (.leaf .bool)) k) L (own A l G) R :=
  wp_call_det (x := A.turnB b 2) (by rw [hA.pA]; exact Died_det hA.wf b _) (h (hA.diedF b))
theorem w_Born {b : Int} {k : Bool → Tree} (hA : Aw I A) (h : Aw I (A.bornX b) → wp Try.prog (k (decide (A.bornOk b))) L (own (A.bornX b) l G) R) :
    wp Try.prog (.call f_arena_Arena_Born [.pointer (aI I), .int .i64 b] (.one (.leaf .bool)) k) L (own A l G) R :=
  wp_call_det (x := decide (A.bornOk b)) (H' := own (A.bornX b) l G) (by
    rw [hA.pA]
    have := Born_det hA.wf b (putL l G)
    unfold own Ar.bornX
    exact this) (h (hA.bornX b))
theorem w_Uses {k : Int → Tree} (hA : Aw I A) (h : wp Try.prog (k A.uses) L (own A l G) R) :
    wp Try.prog (.call f_arena_Arena_Uses [.pointer (aI I)] (.one (.leaf (.int .i64))) k) L (own A l G) R :=
  wp_call_det (x := A.uses) (by rw [hA.pA]; exact Uses_det _) h
theorem w_Fault {k : Bool → Tree} (hA : Aw I A) (h : wp Try.prog (k A.fault) L (own A l G) R) :
    wp Try.prog (.call f_arena_Arena_Fault [.pointer (aI I)] (.one (.leaf .bool)) k) L (own A l G) R :=
  wp_call_det (x := A.fault) (by rw [hA.pA]; exact Fault_det _) h

theorem wq_Size {c : Int} {k : Int → Tree} {H : Heap} (h : wp Try.prog (k (sizeF c)) L H R) : wp Try.prog (.qcall f_handle_Size [.int .i64 c] (.one (.leaf (.int .i64))) k) L H R := wp_qcall_det (x := sizeF c) (Size_det _ _) h
theorem wq_Open {b : Int} {k : HL Sh1.T [(.leaf (.int .i64)), (.leaf (.int .i64)), (.leaf (.int .i64)), (.leaf .bool)] → Tree} {H : Heap} (h : wp Try.prog (k (opB b, opG b, opC b, openOk b, ())) L H R) :
    wp Try.prog (.qcall f_handle_Open [.int .i64 b] (.tup [(.leaf (.int .i64)), (.leaf (.int .i64)), (.leaf (.int .i64)), (.leaf .bool)]) k) L H R := wp_qcall_det (x := (opB b, opG b, opC b, openOk b, ())) (Open_all _ _) h
theorem wq_Pack {b g c : Int} {k : Int → Tree} {H : Heap} (h : wp Try.prog (k (packF b g c)) L H R) : wp Try.prog (.qcall f_handle_Pack [.int .i64 b, .int .i64 g, .int .i64 c] (.one (.leaf (.int .i64))) k) L H R := wp_qcall_det (x := packF b g c) (Pack_at _ rfl) h
theorem wq_head {p : Pl} {w c : Int} {k : Int → Tree} {H : Heap} (h : wp Try.prog (k (headF p w c)) L H R) : wp Try.prog (.qcall f_free_Place_head [p.val, .int .i64 w, .int .i64 c] (.one (.leaf (.int .i64))) k) L H R := wp_qcall_det (x := headF p w c) (head_det p w c _) h
end
end Go.Proofs.Ytjleoogieoahnaa

set_option linter.unusedVariables false
set_option maxRecDepth 20000
namespace Go.Proofs.Ytjleoogieoahnaa
open Go Go.Fw

theorem keys_append (l k : Bl) : keys (l ++ k) = keys l ++ keys k := by simp [keys]
theorem own_append (A : Ar) (l k : Bl) (G : Heap) : own A (l ++ k) G = own A l (putL k G) := by unfold own; rw [putL_append]

/-- Beside other blocks. -/
theorem Ok.split {I : List Nat} {G : Heap} {ks : List Nat} {k : Bl} (h : Ok I G (ks ++ keys k)) : Ok I (putL k G) ks ∧ Ok I G (keys k) := by
  obtain ⟨n1, n2, n3⟩ := List.nodup_append.1 h.nd
  refine ⟨⟨n1, fun b hb => h.out b (List.mem_append_left _ hb), fun b hb => ?_⟩, ⟨n2, fun b hb => h.out b (List.mem_append_right _ hb), fun b hb => h.no b (List.mem_append_right _ hb)⟩⟩
  rw [putL_out (fun hk => n3 b hb b hk rfl)]
  exact h.no b (List.mem_append_left _ hb)
theorem Ok.join {I : List Nat} {G : Heap} {ks : List Nat} {k : Bl} (h : Ok I (putL k G) ks) (h' : Ok I G (keys k)) : Ok I G (ks ++ keys k) := by
  refine ⟨List.nodup_append.2 ⟨h.nd, h'.nd, fun a ha b hb e => (putL_none (h.no a ha)).1 (e ▸ hb)⟩, fun b hb => ?_, fun b hb => ?_⟩
  · rcases List.mem_append.1 hb with e | e
    · exact h.out b e
    · exact h'.out b e
  · rcases List.mem_append.1 hb with e | e
    · exact (putL_none (h.no b e)).2
    · exact h'.no b e
theorem own_swap {I : List Nat} {A : Ar} {l k : Bl} {G : Heap} (ok : Ok I G (keys l ++ keys k)) : own A (l ++ k) G = own A (k ++ l) G := by
  rw [own_append, own_append]
  unfold own
  rw [putL_comm]
  intro b hb hk
  exact (List.nodup_append.1 ok.nd).2.2 b hb b hk rfl

/-- The first blocks behind the next ones. -/
theorem own_rot {I : List Nat} {A : Ar} {a b c : Bl} {G : Heap} (ok : Ok I G (keys (a ++ (b ++ c)))) : own A (a ++ (b ++ c)) G = own A (b ++ (a ++ c)) G ∧ Ok I G (keys (b ++ (a ++ c))) := by
  have hp : (keys (b ++ (a ++ c))).Perm (keys (a ++ (b ++ c))) := by
    simp only [keys_append]
    rw [← List.append_assoc, ← List.append_assoc]
    exact List.perm_append_comm.append_right _
  refine ⟨?_, ok.sub (hp.nodup_iff.2 ok.nd) fun x hx => hp.subset hx⟩
  unfold own
  rw [putL_append, putL_append, putL_append, putL_append, putL_comm]
  intro x hx hb
  have := ok.nd
  simp only [keys_append] at this
  exact (List.nodup_append.1 this).2.2 x hx x (List.mem_append_left _ hb) rfl

/-- What is made, beside what was. -/
theorem w_make {L : Hands} {R : Value → Heap → Prop} {A : Ar} {I : List Nat} {l : Bl} {G : Heap} {f : FuncId} {args : List Value} {sh : Sh} {k : sh.T → Tree} {J : Type} {bl : J → Bl} {val : J → sh.T}
    (h : ∀ G, SpecF Try.prog f args.toArray (own A [] G) fun v K => ∃ j, v = sh.toVal (val j) ∧ K = own A (bl j) G ∧ Ok I G (keys (bl j))) (ok : Ok I G (keys l))
    (hk : ∀ j, Ok I G (keys (bl j ++ l)) → wp Try.prog (k (val j)) L (own A (bl j ++ l) G) R) : wp Try.prog (.call f args sh k) L (own A l G) R := by
  refine wp_call_of (h (putL l G)) ?_
  rintro v K ⟨j, rfl, rfl, o⟩
  refine ⟨_, rfl, ?_⟩
  rw [← own_append]
  exact hk j (by rw [keys_append]; exact o.join ok)

/-- A call on the first blocks. -/
theorem w_sub {L : Hands} {R : Value → Heap → Prop} {A : Ar} {bl rest : Bl} {G : Heap} {f : FuncId} {args : List Value} {sh : Sh} {k : sh.T → Tree} {R0 : Value → Heap → Prop}
    (h : SpecF Try.prog f args.toArray (own A bl (putL rest G)) R0) (hk : ∀ v K, R0 v K → ∃ x, v = sh.toVal x ∧ wp Try.prog (k x) L K R) : wp Try.prog (.call f args sh k) L (own A (bl ++ rest) G) R := by
  rw [own_append]; exact wp_call_of h hk

/-- A machine: what it is in memory, what a step does. -/
structure Mch (M J : Type) where
  f : FuncId
  addr : J → Nat
  bl : M → J → Bl
  inv : M → Ar → Prop
  step : M → Ar → M × Ar
  fin : M → Bool

def Mch.ok {M J : Type} (X : Mch M J) : Prop := ∀ (I : List Nat) (A : Ar) (G : Heap) (m : M) (j : J), Aw I A → Ok I G (keys (X.bl m j)) → X.inv m A →
  SpecF Try.prog X.f #[.pointer (some ⟨X.addr j, 0, none⟩), .pointer (aI I)] (own A (X.bl m j) G) fun v K => ∃ j', v = .bool (X.fin (X.step m A).1) ∧ K = own (X.step m A).2 (X.bl (X.step m A).1 j') G ∧ X.addr j' = X.addr j ∧
    Ok I G (keys (X.bl (X.step m A).1 j')) ∧ Aw I (X.step m A).2

/-- Alone, to the end. -/
inductive Mch.Runs {M J : Type} (X : Mch M J) : Nat → M → Ar → M → Ar → Prop
  | one {m A} : X.inv m A → (X.step m A).2.uses ≤ w64 (A.uses + 1) → X.fin (X.step m A).1 = true → Runs X 1 m A (X.step m A).1 (X.step m A).2
  | more {n m A m' A'} : X.inv m A → (X.step m A).2.uses ≤ w64 (A.uses + 1) → X.fin (X.step m A).1 = false → Runs X n (X.step m A).1 (X.step m A).2 m' A' → Runs X (n + 1) m A m' A'

/-- How a call of Step through an interface goes. -/
def Mch.inv' {M J : Type} (X : Mch M J) (t : TypeId) : Prop := ∀ (q : Nat) (p : Option Addr), opS Try.prog (.call { callee := .invoke (.tmp 0) "Step", args := #[(.tmp 1)], argTypes := #[ty_p_arena_Arena] }) ty_bool [(.iface t (.pointer (some ⟨q, 0, none⟩))), (.pointer p)] =
    .pure (.enter X.f [.pointer (some ⟨q, 0, none⟩), .pointer p].toArray)
end Go.Proofs.Ytjleoogieoahnaa

set_option linter.unusedVariables false
set_option maxRecDepth 10000
namespace Go.Proofs.Ytjleoogieoahnaa
open Go Go.Fw
/- magpie/magpielaw19.run -/
@[reducible] def t_magpielaw19_run_L1_sh : List Sh1 := [(.leaf .bool), (.leaf (.int .i64))]
noncomputable def t_magpielaw19_run_L1 (p0 : Option Addr) (p1 : Value) (y1 : HL Sh1.T t_magpielaw19_run_L1_sh) : Tree :=
  bif (decide ((y1.2.1 : Int) < 10)) then (
    .call f_arena_Arena_Uses [(.pointer p0)] (.one (.leaf (.int .i64))) fun x13 =>
    .act (opS Try.prog (.call { callee := .invoke (.tmp 0) "Step", args := #[(.tmp 1)], argTypes := #[ty_p_arena_Arena] }) ty_bool [p1, (.pointer p0)]) (.one (.leaf .bool)) fun x16 =>
    .call f_arena_Arena_Uses [(.pointer p0)] (.one (.leaf (.int .i64))) fun x18 =>
    bif (decide ((x18 : Int) > (w64 (x13 + 1)))) then (
      .ret (.bool false))
    else (
      bif x16 then (
        .ret (.bool true))
      else (
        .again 128 [(.bool y1.1), (.int .i64 (w64 (y1.2.1 + 1)))])))
  else (
    .ret (.bool false))
noncomputable def t_magpielaw19_run (p0 : Option Addr) (p1 : Value) : Tree :=
  .loop 128 t_magpielaw19_run_L1_sh [(.bool false), (.int .i64 0)] (t_magpielaw19_run_L1 p0 p1)
theorem t_magpielaw19_run_eq (p0 : Option Addr) (p1 : Value) : funcTree Try.prog { quiet := [10, 23, 25, 26, 30, 37, 42, 45, 47, 54, 73], quietTmp := true, fncs := [], ifcs := [] } Try.f33 [(.pointer p0), p1] = t_magpielaw19_run p0 p1 := by kernel_rfl
theorem t_magpielaw19_run_spec {p0 : Option Addr} {p1 : Value} {H : Heap} {R : Value → Heap → Prop} (h : ∀ L, wp Try.prog (t_magpielaw19_run p0 p1) L H R) : SpecF Try.prog f_magpielaw19_run #[(.pointer p0), p1] H R :=
  spec_of_tree (cfg := { quiet := [10, 23, 25, 26, 30, 37, 42, 45, 47, 54, 73], quietTmp := true, fncs := [], ifcs := [] }) Try.func33 fun L => (t_magpielaw19_run_eq p0 p1).symm ▸ h L

/- magpie/magpielaw19.awake -/
noncomputable def t_magpielaw19_awake : Tree :=
  .qcall f_future_Raw [(.int .i64 2), (.int .i64 3)] (.one (.leaf (.int .i64))) fun x9 =>
  .call f_arena_New [(.int .i64 (w64 (x9 + 3))), (.int .i64 0), (.bool false)] (.one (.leaf .ptr)) fun x11 =>
  .call f_future_NewGet [(.int .i64 3), (.int .i64 1)] (.one (.leaf .ptr)) fun x12 =>
  .call f_future_NewSet [(.int .i64 3), (.int .i64 1), (.int .i64 (-9))] (.one (.leaf .ptr)) fun x13 =>
  .call f_future_NewGet [(.int .i64 3), (.int .i64 1)] (.one (.leaf .ptr)) fun x14 =>
  .look (opS Try.prog (.binOp .eql ty_p_arena_Arena (.tmp 0) (.const (.pointer none)) ty_p_arena_Arena) ty_bool [(.pointer x11)]) (.one (.leaf .bool)) fun x16 =>
  bif x16 then (
    .ret (.bool false))
  else (
    .look (opS Try.prog (.binOp .eql ty_p_future_Get (.tmp 0) (.const (.pointer none)) ty_p_future_Get) ty_bool [(.pointer x12)]) (.one (.leaf .bool)) fun x19 =>
    bif x19 then (
      .ret (.bool false))
    else (
      .look (opS Try.prog (.binOp .eql ty_p_future_Set (.tmp 0) (.const (.pointer none)) ty_p_future_Set) ty_bool [(.pointer x13)]) (.one (.leaf .bool)) fun x23 =>
      bif x23 then (
        .ret (.bool false))
      else (
        .look (opS Try.prog (.binOp .eql ty_p_future_Get (.tmp 0) (.const (.pointer none)) ty_p_future_Get) ty_bool [(.pointer x14)]) (.one (.leaf .bool)) fun x27 =>
        bif x27 then (
          .ret (.bool false))
        else (
          .call f_future_Get_Step [(.pointer x12), (.pointer x11)] (.one (.leaf .bool)) fun x32 =>
          bif (!x32) then (
            .ret (.bool false))
          else (
            .call f_magpielaw19_run [(.pointer x11), (.iface ty_p_future_Set (.pointer x13))] (.one (.leaf .bool)) fun x39 =>
            bif (!x39) then (
              .ret (.bool false))
            else (
              .call f_magpielaw19_run [(.pointer x11), (.iface ty_p_future_Get (.pointer x14))] (.one (.leaf .bool)) fun x46 =>
              bif (!x46) then (
                .ret (.bool false))
              else (
                .call f_future_Get_Value [(.pointer x12)] (.tup [(.leaf (.int .i64)), (.leaf .bool)]) fun x51 =>
                .call f_future_Get_Value [(.pointer x14)] (.tup [(.leaf (.int .i64)), (.leaf .bool)]) fun x56 =>
                bif (!x51.2.1) then (
                  .call f_future_Set_Went [(.pointer x13)] (.one (.leaf .bool)) fun x63 =>
                  bif x63 then (
                    bif x56.2.1 then (
                      bif ((x56.1 : Int) == (-9)) then (
                        .call f_arena_Arena_Uses [(.pointer x11)] (.one (.leaf (.int .i64))) fun x74 =>
                        .ret (.bool ((x74 : Int) == 6)))
                      else (
                        .ret (.bool false)))
                    else (
                      .ret (.bool false)))
                  else (
                    .ret (.bool false)))
                else (
                  .ret (.bool false)))))))))
theorem t_magpielaw19_awake_eq : funcTree Try.prog { quiet := [10, 23, 25, 26, 30, 37, 42, 45, 47, 54, 73], quietTmp := true, fncs := [], ifcs := [] } Try.f38 [] = t_magpielaw19_awake  := by kernel_rfl
theorem t_magpielaw19_awake_spec {H : Heap} {R : Value → Heap → Prop} (h : ∀ L, wp Try.prog (t_magpielaw19_awake ) L H R) : SpecF Try.prog f_magpielaw19_awake #[] H R :=
  spec_of_tree (cfg := { quiet := [10, 23, 25, 26, 30, 37, 42, 45, 47, 54, 73], quietTmp := true, fncs := [], ifcs := [] }) Try.func38 fun L => (t_magpielaw19_awake_eq ).symm ▸ h L

end Go.Proofs.Ytjleoogieoahnaa

set_option linter.unusedVariables false
set_option maxRecDepth 20000
namespace Go.Proofs.Ytjleoogieoahnaa
open Go Go.Fw

theorem run19_go {M J : Type} {X : Mch M J} (hX : X.ok) {t : TypeId} (hinv : X.inv' t) {I : List Nat} {G : Heap} {n : Nat} {m m' : M} {A A' : Ar} (h : X.Runs n m A m' A') {L : Hands} :
    ∀ {i : Int} {b : Bool} {j : J} {R : Value → Heap → Prop}, (∀ j', Ok I G (keys (X.bl m' j')) → Aw I A' → X.addr j' = X.addr j → R (.bool true) (own A' (X.bl m' j') G)) → Aw I A → Ok I G (keys (X.bl m j)) → 0 ≤ i → i + n ≤ 10 →
      wp Try.prog (.loop 128 t_magpielaw19_run_L1_sh [(.bool b), (.int .i64 i)] (t_magpielaw19_run_L1 (aI I) (.iface t (.pointer (some ⟨X.addr j, 0, none⟩))))) L (own A (X.bl m j) G) R := by
  induction h with
  | @one m A hi hu hf =>
    intro i b j R hR hA ok h0 h1
    refine wp_loop_unroll (b, i, ()) rfl ?_
    rw [t_magpielaw19_run_L1]
    refine wp_true (ilt (by show i < 10; omega)) ?_
    refine w_Uses hA ?_
    refine act_enter (hinv _ _) ?_
    refine wp_call_of (hX I A G m j hA ok hi) ?_
    rintro v K ⟨j', rfl, rfl, ha, ok', hA'⟩
    refine ⟨true, by rw [hf], ?_⟩
    refine w_Uses hA' ?_
    refine wp_false (inlt hu) ?_
    exact wp_true rfl (wp_ret_of (hR j' ok' hA' ha))
  | @more n m A m' A' hi hu hf hr ih =>
    intro i b j R hR hA ok h0 h1
    refine wp_loop_unroll (b, i, ()) rfl ?_
    rw [t_magpielaw19_run_L1]
    refine wp_true (ilt (by show i < 10; omega)) ?_
    refine w_Uses hA ?_
    refine act_enter (hinv _ _) ?_
    refine wp_call_of (hX I A G m j hA ok hi) ?_
    rintro v K ⟨j', rfl, rfl, ha, ok', hA'⟩
    refine ⟨false, by rw [hf], ?_⟩
    refine w_Uses hA' ?_
    refine wp_false (inlt hu) (wp_false rfl (wp_again ?_))
    have e : w64 (i + 1) = i + 1 := w64_in (by omega) (by omega)
    rw [e, ← ha]
    exact ih (fun j2 k1 k2 k3 => hR j2 k1 k2 (k3.trans ha)) hA' ok' (by omega) (by omega)

theorem run19 {M J : Type} {X : Mch M J} (hX : X.ok) {t : TypeId} (hinv : X.inv' t) {I : List Nat} {G : Heap} {n : Nat} {m m' : M} {A A' : Ar} (h : X.Runs n m A m' A') (hn : n ≤ 10) {j : J} (hA : Aw I A) (ok : Ok I G (keys (X.bl m j))) :
    SpecF Try.prog f_magpielaw19_run #[.pointer (aI I), .iface t (.pointer (some ⟨X.addr j, 0, none⟩))] (own A (X.bl m j) G) fun v K => ∃ j', v = .bool true ∧ K = own A' (X.bl m' j') G ∧ Ok I G (keys (X.bl m' j')) ∧ Aw I A' ∧ X.addr j' = X.addr j := by
  refine t_magpielaw19_run_spec fun L => ?_
  unfold t_magpielaw19_run
  exact run19_go hX hinv h (fun j' a b c => ⟨j', rfl, rfl, a, b, c⟩) hA ok (Int.le_refl 0) (by omega)

theorem w_run19 {M J : Type} {X : Mch M J} (hX : X.ok) {t : TypeId} (hinv : X.inv' t) {I : List Nat} {G : Heap} {n : Nat} {m m' : M} {A A' : Ar} (h : X.Runs n m A m' A') (hn : n ≤ 10) {j : J} {rest : Bl} (hA : Aw I A) (ok : Ok I G (keys (X.bl m j ++ rest)))
    {L : Hands} {R : Value → Heap → Prop} {k : Bool → Tree} (hk : ∀ j', X.addr j' = X.addr j → Aw I A' → Ok I G (keys (X.bl m' j' ++ rest)) → wp Try.prog (k true) L (own A' (X.bl m' j' ++ rest) G) R) :
    wp Try.prog (.call f_magpielaw19_run [.pointer (aI I), .iface t (.pointer (some ⟨X.addr j, 0, none⟩))] (.one (.leaf .bool)) k) L (own A (X.bl m j ++ rest) G) R := by
  rw [keys_append] at ok
  obtain ⟨o1, o2⟩ := ok.split
  refine w_sub (run19 hX hinv h hn hA o1) ?_
  rintro v K ⟨j', rfl, rfl, ok', hA', ha⟩
  refine ⟨true, rfl, ?_⟩
  rw [← own_append]
  exact hk j' ha hA' (by rw [keys_append]; exact ok'.join o2)
end Go.Proofs.Ytjleoogieoahnaa

set_option linter.unusedVariables false
set_option maxRecDepth 20000
namespace Go.Proofs.Ytjleoogieoahnaa
open Go Go.Fw

/-! ### Slices among blocks -/

theorem mem_idx {l : Bl} {p : Nat × Obj} (h : p ∈ l) : ∃ i : Nat, l[i]? = some p := List.mem_iff_getElem?.1 h

def bset (l : Bl) (b : Nat) (o : Obj) : Bl := l.map fun p => if p.1 = b then (b, o) else p
theorem keys_bset (l : Bl) (b : Nat) (o : Obj) : keys (bset l b o) = keys l := by
  unfold keys bset
  rw [List.map_map]
  refine List.map_congr_left fun p _ => ?_
  show (if p.1 = b then (b, o) else p).1 = p.1
  split
  · rename_i e; exact e.symm
  · rfl
theorem bset_append (l k : Bl) (b : Nat) (o : Obj) : bset (l ++ k) b o = bset l b o ++ bset k b o := by simp [bset]
theorem bset_out {l : Bl} {b : Nat} {o : Obj} (h : b ∉ keys l) : bset l b o = l := by
  unfold bset
  refine (List.map_congr_left fun p hp => ?_).trans (List.map_id l)
  rw [if_neg (fun e => h (List.mem_map.2 ⟨p, hp, e⟩))]; rfl
theorem mem_bset {l : Bl} {b : Nat} {o o' : Obj} (h : (b, o) ∈ l) : (b, o') ∈ bset l b o' := List.mem_map.2 ⟨(b, o), h, if_pos rfl⟩
theorem mem_bset_ne {l : Bl} {b c : Nat} {o o' : Obj} (h : (c, o) ∈ l) (hn : c ≠ b) : (c, o) ∈ bset l b o' := List.mem_map.2 ⟨(c, o), h, if_neg hn⟩
theorem bset_set {l : Bl} : ∀ {i : Nat} {b : Nat} {o o' : Obj}, (keys l).Nodup → l[i]? = some (b, o) → l.set i (b, o') = bset l b o' := by
  induction l with
  | nil => intro i b o o' _ h; simp at h
  | cons p l ih =>
    intro i b o o' hn h
    simp only [keys, List.map_cons, List.nodup_cons] at hn
    cases i with
    | zero =>
      simp only [List.getElem?_cons_zero, Option.some.injEq] at h
      subst h
      show (b, o') :: l = _
      unfold bset
      rw [List.map_cons, if_pos rfl]
      congr 1
      exact (bset_out (o := o') hn.1).symm
    | succ i =>
      simp only [List.getElem?_cons_succ] at h
      have hm : b ∈ keys l := List.mem_map.2 ⟨(b, o), List.mem_of_getElem? h, rfl⟩
      show p :: l.set i (b, o') = _
      unfold bset
      rw [List.map_cons, if_neg (fun e => hn.1 (by rw [e]; exact hm)), ih hn.2 h]; rfl

/-- Elements of a row: how many cells, which. -/
structure ElOk (sT e : TypeId) (sz : Nat) : Prop where
  ex : ∃ info z, Try.prog.underlying sT = some (.slice e) ∧ Try.prog.info? e = some info ∧ info.size = sz ∧ info.bytes ≤ 64 ∧ info.bytes ≠ 0 ∧ info.zero = some z ∧ z.cells.size = sz

structure Enc (α : Type) where
  sz : Nat
  enc : α → List Value
  len : ∀ x, (enc x).length = sz
  sg : ∀ x v, v ∈ enc x → Value.single v = true

def eI : Enc Int := ⟨1, fun n => [.int .i64 n], fun _ => rfl, fun x v h => by simp at h; subst h; rfl⟩
theorem elI : ElOk ty_s_int ty_int 1 := ⟨⟨_, _, rfl, rfl, rfl, by decide, by decide, rfl, rfl⟩⟩

def Enc.all {α : Type} (E : Enc α) (xs : List α) : List Value := xs.flatMap E.enc
theorem Enc.all_len {α : Type} (E : Enc α) (xs : List α) : (E.all xs).length = xs.length * E.sz := by
  induction xs with
  | nil => simp [Enc.all]
  | cons x xs ih =>
    have : E.all (x :: xs) = E.enc x ++ E.all xs := rfl
    rw [this, List.length_append, ih, E.len]; simp only [List.length_cons]
    rw [Nat.add_mul]; omega
theorem Enc.all_append {α : Type} (E : Enc α) (xs ys : List α) : E.all (xs ++ ys) = E.all xs ++ E.all ys := by simp [Enc.all]
theorem Enc.all_sg {α : Type} (E : Enc α) (xs : List α) : ∀ v ∈ E.all xs, Value.single v = true := by
  intro v hv
  obtain ⟨x, _, h⟩ := List.mem_flatMap.1 hv
  exact E.sg x v h
theorem eI_all (xs : List Int) : eI.all xs = xs.map (Value.int .i64) := by
  induction xs with
  | nil => rfl
  | cons x xs ih => show Value.int .i64 x :: eI.all xs = _; rw [ih]; rfl

/-- A slice that begins its block. -/
def SlOf {α : Type} (l : Bl) (e : TypeId) (E : Enc α) (s : Sl) (xs : List α) : Prop :=
  (s = ⟨none, 0, 0⟩ ∧ xs = []) ∨ ∃ (b : Nat) (rest : List Value) (r : Nat), s = ⟨some ⟨b, 0, none⟩, xs.length, xs.length + r⟩ ∧ rest.length = r * E.sz ∧ (b, oc e (E.all xs ++ rest)) ∈ l

section
variable {α : Type} {E : Enc α} {e : TypeId} {s t : Sl} {xs ys : List α} {l l' : Bl}
theorem SlOf.len (h : SlOf l e E s xs) : s.len = xs.length := by
  rcases h with ⟨rfl, rfl⟩ | ⟨b, rest, r, rfl, _⟩ <;> rfl
theorem SlOf.nil (l : Bl) (e : TypeId) (E : Enc α) : SlOf l e E ⟨none, 0, 0⟩ [] := .inl ⟨rfl, rfl⟩
theorem SlOf.mono (h : SlOf l e E s xs) (hm : ∀ p, p ∈ l → p ∈ l') : SlOf l' e E s xs := by
  rcases h with h | ⟨b, rest, r, h1, h2, h3⟩
  · exact .inl h
  · exact .inr ⟨b, rest, r, h1, h2, hm _ h3⟩
theorem SlOf.keep (h : SlOf l e E s xs) {b : Nat} {o : Obj} (hn : ∀ a, s.a = some a → a.block ≠ b) : SlOf (bset l b o) e E s xs := by
  rcases h with h | ⟨c, rest, r, h1, h2, h3⟩
  · exact .inl h
  · exact .inr ⟨c, rest, r, h1, h2, mem_bset_ne h3 (hn ⟨c, 0, none⟩ (by rw [h1]))⟩

/-- The first n. -/
theorem SlOf.take (h : SlOf l e E s xs) {n : Nat} (hn : n ≤ xs.length) : SlOf l e E ⟨s.a, n, s.cap⟩ (xs.take n) := by
  rcases h with ⟨rfl, rfl⟩ | ⟨b, rest, r, rfl, h2, h3⟩
  · have : n = 0 := by simpa using hn
    subst this; exact .inl ⟨rfl, rfl⟩
  · refine .inr ⟨b, E.all (xs.drop n) ++ rest, xs.length - n + r, ?_, ?_, ?_⟩
    · simp only [List.length_take, Sl.mk.injEq, true_and]
      exact ⟨by omega, by omega⟩
    · rw [List.length_append, E.all_len, h2, List.length_drop, Nat.add_mul]
    · rw [← List.append_assoc, ← E.all_append, List.take_append_drop]; exact h3
end

section
variable {L : Hands} {R : Value → Heap → Prop} {A : Ar} {I : List Nat} {l : Bl} {G : Heap}

theorem own_mem (hA : Aw I A) (ok : Ok I G (keys l)) {b : Nat} {o : Obj} (h : (b, o) ∈ l) : own A l G b = some o := by
  obtain ⟨i, hi⟩ := mem_idx h; exact own_get hA ok hi
theorem own_bset (hA : Aw I A) (ok : Ok I G (keys l)) {b : Nat} {o : Obj} (o' : Obj) (h : (b, o) ∈ l) : (own A l G).set b o' = own A (bset l b o') G := by
  obtain ⟨i, hi⟩ := mem_idx h; rw [own_set hA ok o' hi, bset_set ok.nd hi]

theorem keys_append' (l k : Bl) : keys (l ++ k) = keys l ++ keys k := by simp [keys]

/-- One behind the first ones. -/
theorem own_mid {pre tl : Bl} {p : Nat × Obj} (ok : Ok I G (keys (p :: (pre ++ tl)))) : own A (p :: (pre ++ tl)) G = own A (pre ++ p :: tl) G ∧ Ok I G (keys (pre ++ p :: tl)) := by
  have e : ∀ ks : List Nat, (p.1 :: (keys pre ++ ks)).Nodup → (keys pre ++ p.1 :: ks).Nodup := fun ks h => (List.perm_middle.nodup_iff).2 h
  have ok1 : Ok I G (keys (pre ++ p :: tl)) := by
    have hk : keys (p :: (pre ++ tl)) = p.1 :: (keys pre ++ keys tl) := by simp [keys]
    have hk2 : keys (pre ++ p :: tl) = keys pre ++ p.1 :: keys tl := by simp [keys]
    rw [hk] at ok; rw [hk2]
    exact ok.sub (e _ ok.nd) fun b hb => by
      simp only [List.mem_append, List.mem_cons] at hb ⊢
      rcases hb with h | h | h
      · exact .inr (.inl h)
      · exact .inl h
      · exact .inr (.inr h)
  refine ⟨?_, ok1⟩
  have hget : (pre ++ p :: tl)[pre.length]? = some p := by simp
  have := own_front (A := A) ok1 hget
  rw [this]
  have h2 : (pre ++ p :: tl).eraseIdx pre.length = pre ++ tl := by
    rw [List.eraseIdx_append_of_length_le (Nat.le_refl _)]; simp
  rw [h2]

theorem cell_row {b : Nat} {T : TypeId} {c : List Value} (hA : Aw I A) (ok : Ok I G (keys l)) (h : (b, oc T c) ∈ l) (o : Nat) {cs : List Value} (hc : cs = (c.drop o).take cs.length) : Row (own A l G) (some ⟨b, o, none⟩) cs := by
  intro i hi
  refine ⟨_, rfl, ?_⟩
  rw [Addr.add_mk, Heap.cell_of (own_mem hA ok h), List.getElem?_toArray, hc, List.getElem?_take_of_lt (by rw [hc] at hi; simp at hi ⊢; omega), List.getElem?_drop]

theorem SlOf.row {α : Type} {E : Enc α} {e : TypeId} {s : Sl} {xs : List α} (hA : Aw I A) (ok : Ok I G (keys l)) (h : SlOf l e E s xs) : Row (own A l G) s.a (E.all xs) := by
  rcases h with ⟨rfl, rfl⟩ | ⟨b, rest, r, rfl, h2, h3⟩
  · intro i hi; simp [Enc.all] at hi
  · exact cell_row hA ok h3 0 (by simp)

/-- What a slice's lower end leaves. -/
theorem SlOf.rowFrom {α : Type} {E : Enc α} {e : TypeId} {b len cap : Nat} {xs : List α} (hA : Aw I A) (ok : Ok I G (keys l)) (h : SlOf l e E ⟨some ⟨b, 0, none⟩, len, cap⟩ xs) (n : Nat) (hn : n ≤ xs.length) : Row (own A l G) (some ⟨b, n * E.sz, none⟩) (E.all (xs.drop n)) := by
  rcases h with ⟨h, _⟩ | ⟨b', rest, r, h1, h2, h3⟩
  · cases h
  · cases h1
    refine cell_row hA ok h3 (n * E.sz) ?_
    have e1 : E.all xs = E.all (xs.take n) ++ E.all (xs.drop n) := by rw [← E.all_append, List.take_append_drop]
    have e2 : (E.all (xs.take n)).length = n * E.sz := by rw [E.all_len, List.length_take, Nat.min_eq_left hn]
    rw [e1, List.append_assoc, ← e2, List.drop_left]
    simp

inductive App (l : Bl) (s : Sl) (l' : Bl) (s' : Sl) : Prop
  | same : l' = l → s' = s → App l s l' s'
  | inpl (b : Nat) (o : Obj) : s.a = some ⟨b, 0, none⟩ → s'.a = s.a → l' = bset l b o → b ∈ keys l → App l s l' s'
  | new (b : Nat) (o : Obj) : s'.a = some ⟨b, 0, none⟩ → l' = (b, o) :: l → b ∉ keys l → App l s l' s'

theorem putAll_mid (x : List Value) : ∀ (pre mid post : List Value), mid.length = x.length → putAll (pre ++ mid ++ post).toArray pre.length x = (pre ++ x ++ post).toArray := by
  induction x with
  | nil => intro pre mid post h; have : mid = [] := List.eq_nil_of_length_eq_zero h; subst this; rfl
  | cons v x ih =>
    intro pre mid post h
    cases mid with
    | nil => simp at h
    | cons m mid =>
      have h' : mid.length = x.length := by simpa using h
      show putAll ((pre ++ m :: mid ++ post).toArray.setIfInBounds pre.length v) (pre.length + 1) x = _
      have e : (pre ++ m :: mid ++ post).toArray.setIfInBounds pre.length v = ((pre ++ [v]) ++ mid ++ post).toArray := by
        apply Array.ext'
        rw [Array.toList_setIfInBounds]
        simp
      rw [e]
      have := ih (pre ++ [v]) mid post h'
      rw [List.length_append] at this
      rw [show pre.length + 1 = pre.length + [v].length from rfl, this]
      simp

/-- Append. -/
theorem w_app {sT e u : TypeId} {α : Type} {E : Enc α} (hE : ElOk sT e E.sz) {xs ys : List α} {s t : Sl} {k : Sl → Tree} (hA : Aw I A) (ok : Ok I G (keys l)) (hs : SlOf l e E s xs) (ht : Row (own A l G) t.a (E.all ys)) (htl : t.len = ys.length) (hm : xs.length + ys.length ≤ 1048576)
    (h : ∀ s' l', SlOf l' e E s' (xs ++ ys) → Ok I G (keys l') → App l s l' s' → wp Try.prog (k s') L (own A l' G) R) :
    wp Try.prog (.act (opS Try.prog (.call { callee := .builtin .append, args := #[(.tmp 0), (.tmp 1)], argTypes := #[sT, sT] }) u [(.slice s.a s.len s.cap), (.slice t.a t.len t.cap)]) (.one (.leaf .slice)) k) L (own A l G) R := by
  obtain ⟨info, z, i1, i2, i3, i4, i5, i6, i7⟩ := hE.ex
  have hln := hs.len
  refine append_gen (info := info) (z := z) (old := E.all xs) (new := E.all ys) i1 i2 i4 i5 i6 (i7.trans i3.symm) (hs.row hA ok) (by rw [E.all_len, hln, i3]) ht (by rw [E.all_len, htl, i3]) (by omega) ?_ ?_
  · intro hc
    by_cases hy : ys = []
    · subst hy
      refine .inl ⟨htl, s, rfl, ?_⟩
      exact h s l (by rw [List.append_nil]; exact hs) ok (.same rfl rfl)
    · rcases hs with ⟨rfl, rfl⟩ | ⟨b, rest, r, rfl, h2, h3⟩
      · have : ys.length = 0 := by rw [htl] at hc; have : 0 + ys.length ≤ 0 := hc; omega
        exact (hy (List.eq_nil_of_length_eq_zero this)).elim
      · have hr : ys.length ≤ r := by
          have : xs.length + t.len ≤ xs.length + r := hc
          omega
        have hmul : ys.length * E.sz ≤ r * E.sz := Nat.mul_le_mul_right _ hr
        refine .inr ⟨b, _, e, rfl, own_mem hA ok h3, ?_, E.all_sg ys, ⟨some ⟨b, 0, none⟩, xs.length + t.len, xs.length + r⟩, rfl, ?_⟩
        · show (xs.length + t.len) * info.size ≤ _
          rw [i3, htl, Nat.add_mul]; simp only [List.size_toArray, List.length_append, E.all_len, h2]; omega
        · have e1 : putAll (E.all xs ++ rest).toArray (xs.length * info.size) (E.all ys) = (E.all (xs ++ ys) ++ rest.drop (ys.length * E.sz)).toArray := by
            have := putAll_mid (E.all ys) (E.all xs) (rest.take (ys.length * E.sz)) (rest.drop (ys.length * E.sz)) (by rw [E.all_len, List.length_take]; omega)
            rw [List.append_assoc, List.take_append_drop, E.all_len] at this
            rw [i3, this, E.all_append]
          have e2 := own_bset (G := G) hA ok (oc e (E.all (xs ++ ys) ++ rest.drop (ys.length * E.sz))) h3
          unfold oc at e2
          show wp Try.prog _ L ((own A l G).set b (.cells (putAll (E.all xs ++ rest).toArray (xs.length * info.size) (E.all ys)) e (0, 0))) R
          rw [e1, e2]
          refine h _ _ (.inr ⟨b, rest.drop (ys.length * E.sz), r - ys.length, ?_, ?_, mem_bset h3⟩) (by rw [keys_bset]; exact ok) (.inpl b _ rfl rfl rfl (List.mem_map.2 ⟨_, h3, rfl⟩))
          · simp only [List.length_append, Sl.mk.injEq, true_and]; omega
          · rw [List.length_drop, h2, ← Nat.sub_mul]
  · intro hc b rest r hb hr
    obtain ⟨o1, o2⟩ := own_new hA ok hb (oc e (E.all xs ++ E.all ys ++ rest))
    refine ⟨⟨some ⟨b, 0, none⟩, s.len + t.len, s.len + t.len + r⟩, rfl, ?_⟩
    show wp Try.prog _ L ((own A l G).set b (oc e (E.all xs ++ E.all ys ++ rest))) R
    rw [o2]
    refine h _ _ (.inr ⟨b, rest, r, ?_, by rw [hr, i3], ?_⟩) o1 (.new b _ rfl rfl (own_none hA hb).2.1)
    · rw [hln, htl, List.length_append]
    · rw [E.all_append]; exact List.mem_cons_self

/-- Append, of a slice behind the first blocks. -/
theorem w_appT {sT e u : TypeId} {α : Type} {E : Enc α} (hE : ElOk sT e E.sz) {xs ys : List α} {s t : Sl} {k : Sl → Tree} {pre tl : Bl} (hA : Aw I A) (ok : Ok I G (keys (pre ++ tl))) (hs : SlOf tl e E s xs) (ht : Row (own A (pre ++ tl) G) t.a (E.all ys)) (htl : t.len = ys.length) (hm : xs.length + ys.length ≤ 1048576)
    (h : ∀ s' tl', SlOf tl' e E s' (xs ++ ys) → Ok I G (keys (pre ++ tl')) → App tl s tl' s' → wp Try.prog (k s') L (own A (pre ++ tl') G) R) :
    wp Try.prog (.act (opS Try.prog (.call { callee := .builtin .append, args := #[(.tmp 0), (.tmp 1)], argTypes := #[sT, sT] }) u [(.slice s.a s.len s.cap), (.slice t.a t.len t.cap)]) (.one (.leaf .slice)) k) L (own A (pre ++ tl) G) R := by
  have okt : (keys pre ++ keys tl).Nodup := by rw [← keys_append']; exact ok.nd
  refine w_app hE hA ok (hs.mono fun p hp => List.mem_append_right _ hp) ht htl hm fun s' l' hs' ok' ap => ?_
  cases ap with
  | same h1 h2 =>
    subst h1; subst h2
    refine h s' tl ?_ ok (.same rfl rfl)
    rcases hs with ⟨q1, q2⟩ | ⟨b, rest, r, q1, q2, q3⟩
    · subst q1; subst q2
      rcases hs' with h | ⟨b, rest, r, h1, _⟩
      · exact .inl h
      · cases h1
    · have hl := hs'.len
      have : (xs ++ ys).length = xs.length := by rw [← hl, q1]
      have hy : ys = [] := by simp at this; exact this
      subst hy; rw [List.append_nil]; exact .inr ⟨b, rest, r, q1, q2, q3⟩
  | inpl b o h1 h2 h3 h4 =>
    have hbt : b ∈ keys tl := by
      rcases hs with ⟨q1, _⟩ | ⟨c, rest, r, q1, q2, q3⟩
      · rw [q1] at h1; cases h1
      · rw [q1] at h1; cases h1; exact List.mem_map.2 ⟨_, q3, rfl⟩
    have hbp : b ∉ keys pre := fun hp => (List.nodup_append.1 okt).2.2 b hp b hbt rfl
    rw [bset_append, bset_out hbp] at h3
    subst h3
    refine h s' _ ?_ ok' (.inpl b o h1 h2 rfl hbt)
    rcases hs' with q | ⟨c, rest, r, q1, q2, q3⟩
    · exact .inl q
    · refine .inr ⟨c, rest, r, q1, q2, ?_⟩
      rcases List.mem_append.1 q3 with m | m
      · exfalso
        have : c = b := by rw [q1, h1] at h2; cases h2; rfl
        exact hbp (this ▸ List.mem_map.2 ⟨_, m, rfl⟩)
      · exact m
  | new b o h1 h2 h3 =>
    subst h2
    obtain ⟨m1, m2⟩ := own_mid (A := A) ok'
    rw [m1]
    have hbp : b ∉ keys pre := fun hp => h3 (by rw [keys_append']; exact List.mem_append_left _ hp)
    have hbt : b ∉ keys tl := fun hp => h3 (by rw [keys_append']; exact List.mem_append_right _ hp)
    refine h s' ((b, o) :: tl) ?_ m2 (.new b o h1 rfl hbt)
    rcases hs' with q | ⟨c, rest, r, q1, q2, q3⟩
    · exact .inl q
    · refine .inr ⟨c, rest, r, q1, q2, ?_⟩
      rcases List.mem_cons.1 q3 with m | m
      · rw [m]; exact List.mem_cons_self
      · rcases List.mem_append.1 m with m | m
        · exfalso
          have : c = b := by rw [q1] at h1; cases h1; rfl
          exact hbp (this ▸ List.mem_map.2 ⟨_, m, rfl⟩)
        · exact List.mem_cons_of_mem _ m
end
end Go.Proofs.Ytjleoogieoahnaa

set_option linter.unusedVariables false
set_option maxRecDepth 20000
namespace Go.Proofs.Ytjleoogieoahnaa
open Go Go.Fw

noncomputable def mPu : Mch Pu (Nat × Nat) where
  f := f_free_Push_Step
  addr := fun j => j.1
  bl := fun m j => [(j.1, pushObj j.2), (j.2, m.obj)]
  inv := fun _ _ => True
  step := fun m A => (m.stepM A, m.stepA A)
  fin := fun m => decide (m.at' = 3)
def mPo : Mch Po (Nat × Nat) where
  f := f_free_Pop_Step
  addr := fun j => j.1
  bl := fun m j => [(j.1, popObj j.2), (j.2, m.obj)]
  inv := fun _ _ => True
  step := fun m A => (m.stepM A, m.stepA A)
  fin := fun m => decide (m.at' = 3)

theorem Aw.Pu {I : List Nat} {A : Ar} (h : Aw I A) (x : Pu) : Aw I (x.stepA A) := by
  unfold Pu.stepA; split
  · exact h.storeR _ _
  · split
    · exact h.swapR _ _ _
    · split
      · exact h
      · exact h.touchR _
theorem Aw.Po {I : List Nat} {A : Ar} (h : Aw I A) (x : Po) : Aw I (x.stepA A) := by
  unfold Po.stepA; split
  · exact h.touchR _
  · split
    · exact h.swapR _ _ _
    · split
      · exact h
      · exact h.touchR _
theorem Pu.fin (x : Pu) (A : Ar) : decide ((x.stepM A).at' = 3) = x.stepB A := by
  unfold Pu.stepM Pu.stepB
  by_cases h1 : x.at' = 1
  · rw [if_pos h1, if_neg (by omega)]
    have : ¬ x.at' = 3 := by omega
    rw [decide_eq_false this]; rfl
  · rw [if_neg h1]
    by_cases h2 : x.at' = 2
    · rw [if_pos h2, if_pos h2]; cases A.swapRb x.head x.was <;> rfl
    · rw [if_neg h2, if_neg h2]
      by_cases h3 : x.at' = 3
      · rw [if_pos h3]
      · rw [if_neg h3, decide_eq_false h3]; rfl
theorem Po.fin (x : Po) (A : Ar) : decide ((x.stepM A).at' = 3) = x.stepB A := by
  unfold Po.stepM Po.stepB
  by_cases h1 : x.at' = 1
  · rw [if_pos h1, if_pos h1]; rfl
  · rw [if_neg h1, if_neg h1]
    by_cases h2 : x.at' = 2
    · rw [if_pos h2, if_pos h2]; cases A.swapRb x.head x.was <;> rfl
    · rw [if_neg h2, if_neg h2]
      by_cases h3 : x.at' = 3
      · rw [if_pos h3, if_pos h3, decide_eq_true h3]
      · rw [if_neg h3, if_neg h3]
        by_cases h4 : iand (A.rawF x.head) 131071 = 0
        · show decide ((if _ then (3 : Int) else 1) = 3) = _
          rw [if_pos h4, decide_eq_true h4]; rfl
        · show decide ((if _ then (3 : Int) else 1) = 3) = _
          rw [if_neg h4, decide_eq_false h4]; rfl

section
variable {L : Hands} {R : Value → Heap → Prop} {A : Ar} {I : List Nat} {l : Bl} {G : Heap}

theorem out_of (hA : Aw I A) (ok : Ok I G (keys l)) {i q : Nat} {o : Obj} (h : l[i]? = some (q, o)) : q ∉ A.ids := by
  rw [hA.ids]; exact ok.out q (List.mem_map.2 ⟨(q, o), List.mem_of_getElem? h, rfl⟩)

theorem Push_own (hA : Aw I A) (ok : Ok I G (keys l)) (x : Pu) (i0 i1 : Nat) {q0 q1 : Nat} (h0 : l[i0]? = some (q0, pushObj q1)) (h1 : l[i1]? = some (q1, x.obj)) :
    Det Try.prog f_free_Push_Step [.pointer (some ⟨q0, 0, none⟩), .pointer (aI I)] (own A l G) (.bool (x.stepB A)) (own (x.stepA A) (l.set i1 (q1, (x.stepM A).obj)) G) := by
  have := Push_det hA.wf x (out_of hA ok h0) (out_of hA ok h1) (putL_get G ok.nd h0) (putL_get G ok.nd h1)
  rw [putL_set G ok.nd h1] at this
  rw [hA.pA]; exact this
theorem Pop_own (hA : Aw I A) (ok : Ok I G (keys l)) (x : Po) (i0 i1 : Nat) {q0 q1 : Nat} (h0 : l[i0]? = some (q0, popObj q1)) (h1 : l[i1]? = some (q1, x.obj)) :
    Det Try.prog f_free_Pop_Step [.pointer (some ⟨q0, 0, none⟩), .pointer (aI I)] (own A l G) (.bool (x.stepB A)) (own (x.stepA A) (l.set i1 (q1, (x.stepM A).obj)) G) := by
  have := Pop_det hA.wf x (out_of hA ok h0) (out_of hA ok h1) (putL_get G ok.nd h0) (putL_get G ok.nd h1)
  rw [putL_set G ok.nd h1] at this
  rw [hA.pA]; exact this
theorem Base_own (hA : Aw I A) (ok : Ok I G (keys l)) (x : Po) (i0 i1 : Nat) {q0 q1 : Nat} (h0 : l[i0]? = some (q0, popObj q1)) (h1 : l[i1]? = some (q1, x.obj)) :
    Det Try.prog f_free_Pop_Base [.pointer (some ⟨q0, 0, none⟩)] (own A l G) (.tuple #[.int .i64 x.base, .bool x.ok]) (own A l G) :=
  Base_det x (out_of hA ok h0) (out_of hA ok h1) (putL_get G ok.nd h0) (putL_get G ok.nd h1)

theorem w_PushStep (i0 i1 : Nat) {q0 q1 : Nat} {x : Pu} {k : Bool → Tree} (hA : Aw I A) (ok : Ok I G (keys l)) (h0 : l[i0]? = some (q0, pushObj q1)) (h1 : l[i1]? = some (q1, x.obj))
    (h : Aw I (x.stepA A) → wp Try.prog (k (x.stepB A)) L (own (x.stepA A) (l.set i1 (q1, (x.stepM A).obj)) G) R) :
    wp Try.prog (.call f_free_Push_Step [.pointer (some ⟨q0, 0, none⟩), .pointer (aI I)] (.one (.leaf .bool)) k) L (own A l G) R := wp_call_det (x := x.stepB A) (Push_own hA ok x i0 i1 h0 h1) (h (hA.Pu x))
theorem w_PopStep (i0 i1 : Nat) {q0 q1 : Nat} {x : Po} {k : Bool → Tree} (hA : Aw I A) (ok : Ok I G (keys l)) (h0 : l[i0]? = some (q0, popObj q1)) (h1 : l[i1]? = some (q1, x.obj))
    (h : Aw I (x.stepA A) → wp Try.prog (k (x.stepB A)) L (own (x.stepA A) (l.set i1 (q1, (x.stepM A).obj)) G) R) :
    wp Try.prog (.call f_free_Pop_Step [.pointer (some ⟨q0, 0, none⟩), .pointer (aI I)] (.one (.leaf .bool)) k) L (own A l G) R := wp_call_det (x := x.stepB A) (Pop_own hA ok x i0 i1 h0 h1) (h (hA.Po x))
theorem w_Base (i0 i1 : Nat) {q0 q1 : Nat} {x : Po} {k : HL Sh1.T [(.leaf (.int .i64)), (.leaf .bool)] → Tree} (hA : Aw I A) (ok : Ok I G (keys l)) (h0 : l[i0]? = some (q0, popObj q1)) (h1 : l[i1]? = some (q1, x.obj))
    (h : wp Try.prog (k (x.base, x.ok, ())) L (own A l G) R) :
    wp Try.prog (.call f_free_Pop_Base [.pointer (some ⟨q0, 0, none⟩)] (.tup [(.leaf (.int .i64)), (.leaf .bool)]) k) L (own A l G) R := wp_call_det (x := (x.base, x.ok, ())) (Base_own hA ok x i0 i1 h0 h1) h

theorem ok2 (hA : Aw I A) (ok : Ok I G (keys l)) {q0 q1 : Nat} {o0 o1 : Obj} (h0 : own A l G q0 = none) (h1 : own A l G q1 = none) (hn : q0 ≠ q1) :
    Ok I G (keys ((q0, o0) :: (q1, o1) :: l)) ∧ ((own A l G).set q1 o1).set q0 o0 = own A ((q0, o0) :: (q1, o1) :: l) G := by
  obtain ⟨a1, a2⟩ := own_new hA ok h1 o1
  have : own A ((q1, o1) :: l) G q0 = none := by rw [← a2, Heap.set_ne _ _ hn]; exact h0
  obtain ⟨b1, b2⟩ := own_new hA a1 this o0
  exact ⟨b1, by rw [a2, b2]⟩

theorem w_NewPop {p : Pl} {w c : Int} {k : Option Addr → Tree} (hA : Aw I A) (ok : Ok I G (keys l)) (h : ∀ q0 q1, Ok I G (keys ((q0, popObj q1) :: (q1, Po.obj ⟨p, headF p w c, 0, 0, 0, 0, false⟩) :: l)) →
      wp Try.prog (k (some ⟨q0, 0, none⟩)) L (own A ((q0, popObj q1) :: (q1, Po.obj ⟨p, headF p w c, 0, 0, 0, 0, false⟩) :: l) G) R) :
    wp Try.prog (.call f_free_NewPop [p.val, .int .i64 w, .int .i64 c] (.one (.leaf .ptr)) k) L (own A l G) R := by
  refine wp_call_of (NewPop_spec p w c _) ?_
  rintro v K ⟨q0, q1, h0, h1, hn, rfl, rfl⟩
  obtain ⟨a, b⟩ := ok2 hA ok (o0 := popObj q1) (o1 := Po.obj ⟨p, headF p w c, 0, 0, 0, 0, false⟩) h0 h1 hn
  exact ⟨_, rfl, by rw [b]; exact h q0 q1 a⟩
theorem w_NewPush {p : Pl} {w c b : Int} {k : Option Addr → Tree} (hA : Aw I A) (ok : Ok I G (keys l)) (h : ∀ q0 q1, Ok I G (keys ((q0, pushObj q1) :: (q1, Pu.obj ⟨p, headF p w c, 0, 0, b⟩) :: l)) →
      wp Try.prog (k (some ⟨q0, 0, none⟩)) L (own A ((q0, pushObj q1) :: (q1, Pu.obj ⟨p, headF p w c, 0, 0, b⟩) :: l) G) R) :
    wp Try.prog (.call f_free_NewPush [p.val, .int .i64 w, .int .i64 c, .int .i64 b] (.one (.leaf .ptr)) k) L (own A l G) R := by
  refine wp_call_of (NewPush_spec p w c b _) ?_
  rintro v K ⟨q0, q1, h0, h1, hn, rfl, rfl⟩
  obtain ⟨a, e⟩ := ok2 hA ok (o0 := pushObj q1) (o1 := Pu.obj ⟨p, headF p w c, 0, 0, b⟩) h0 h1 hn
  exact ⟨_, rfl, by rw [e]; exact h q0 q1 a⟩
end

theorem mPu_ok : mPu.ok := fun I A G m j hA ok _ => by
  refine SpecF.mono (Push_own (l := [(j.1, pushObj j.2), (j.2, m.obj)]) hA ok m 0 1 rfl rfl) ?_
  rintro v K ⟨rfl, rfl⟩
  exact ⟨j, by rw [← m.fin A]; rfl, rfl, rfl, ok, hA.Pu m⟩
theorem mPo_ok : mPo.ok := fun I A G m j hA ok _ => by
  refine SpecF.mono (Pop_own (l := [(j.1, popObj j.2), (j.2, m.obj)]) hA ok m 0 1 rfl rfl) ?_
  rintro v K ⟨rfl, rfl⟩
  exact ⟨j, by rw [← m.fin A]; rfl, rfl, rfl, ok, hA.Po m⟩
theorem mPu_inv : mPu.inv' ty_p_free_Push := inv_Push
theorem mPo_inv : mPo.inv' ty_p_free_Pop := inv_Pop
end Go.Proofs.Ytjleoogieoahnaa

set_option linter.unusedVariables false
set_option maxRecDepth 20000
namespace Go.Proofs.Ytjleoogieoahnaa
open Go Go.Fw

/-- A list whose links are as they were. -/
theorem chain_frame {A B : Ar} {lk : Int} (hr : ∀ i, B.rawOk i ↔ A.rawOk i) : ∀ (l : List Int) (f : Int), (∀ x ∈ l, B.rawF (lk + x / 8) = A.rawF (lk + x / 8)) → chain A lk f l → chain B lk f l
  | [], f, _, hc => hc
  | b :: l, f, h, hc => by
    obtain ⟨h1, h2, h3, h4, h5⟩ := hc
    have e : lk + f - 1 = lk + b / 8 := by omega
    refine ⟨h1, h2, h3, (hr _).2 h4, ?_⟩
    have hb := h b List.mem_cons_self
    rw [← e] at hb
    rw [hb]
    exact chain_frame hr l _ (fun x hx => h x (List.mem_cons_of_mem _ hx)) h5

theorem chain_head {A : Ar} {lk f : Int} {l : List Int} (h : chain A lk f l) : f = match l with | [] => 0 | b :: _ => b / 8 + 1 := by
  cases l with
  | nil => exact h
  | cons b l => obtain ⟨h1, h2, h3, _⟩ := h; show f = b / 8 + 1; omega

/-- A base is pushed. -/
theorem chain_push {A : Ar} {lk hd b f : Int} {l : List Int} (hc : chain A lk f l) (hf : iand (A.rawF hd) 131071 = f) (f0 : 0 ≤ f ∧ f < 131072) (b0 : 0 ≤ b ∧ b ≤ 800000 ∧ b % 8 = 0) (o1 : A.rawOk hd) (o2 : A.rawOk (lk + b / 8)) (hne : hd ≠ lk + b / 8) (h0 : 0 ≤ A.rawF hd ∧ A.rawF hd < 4611686018427387904)
    (hl : ∀ x ∈ l, x ≠ b ∧ x % 8 = 0 ∧ A.rawOk (lk + x / 8) ∧ lk + x / 8 ≠ hd) :
    chain (A.pushed hd (lk + b / 8) b) lk (iand ((A.pushed hd (lk + b / 8) b).rawF hd) 131071) (b :: l) ∧ (A.pushed hd (lk + b / 8) b).rawF hd = (A.rawF hd / 131072 + 1) * 131072 + (b / 8 + 1) := by
  have td : Int.tdiv b 8 = b / 8 := Int.tdiv_eq_ediv_of_nonneg b0.1
  have e1 : w64 (w64 (Int.tdiv b 8) + 1) = b / 8 + 1 := by rw [td, w64_in (x := b / 8) (by omega) (by omega), w64_in (by omega) (by omega)]
  have eh : (A.pushed hd (lk + b / 8) b).rawF hd = (A.rawF hd / 131072 + 1) * 131072 + (b / 8 + 1) := by
    rw [rawF_pushed o1 o2 o1, if_pos rfl, e1, nextF_eq h0.1 h0.2 (by omega) (by omega)]
  refine ⟨?_, eh⟩
  rw [eh, mask17]
  have em : ((A.rawF hd / 131072 + 1) * 131072 + (b / 8 + 1)) % 131072 = b / 8 + 1 := by omega
  rw [em]
  have el : (A.pushed hd (lk + b / 8) b).rawF (lk + b / 8) = f := by
    rw [rawF_pushed o1 o2 o2, if_neg (Ne.symm hne), if_pos rfl, hf]
  refine ⟨by omega, by omega, by omega, ?_, ?_⟩
  · rw [show lk + (b / 8 + 1) - 1 = lk + b / 8 by omega]; exact pushed_ok.2 o2
  · rw [show lk + (b / 8 + 1) - 1 = lk + b / 8 by omega, el]
    refine chain_frame (fun i => pushed_ok) l f (fun x hx => ?_) hc
    obtain ⟨h1, h2, h3, h4⟩ := hl x hx
    rw [rawF_pushed o1 o2 h3, if_neg h4, if_neg (by omega)]

/-- The first base is popped. -/
theorem chain_pop {A : Ar} {lk hd b : Int} {l : List Int} (hc : chain A lk (iand (A.rawF hd) 131071) (b :: l)) (o1 : A.rawOk hd) (h0 : 0 ≤ A.rawF hd ∧ A.rawF hd < 4611686018427387904)
    (hl : ∀ x ∈ b :: l, x % 8 = 0 ∧ 0 ≤ x ∧ x ≤ 800000 ∧ A.rawOk (lk + x / 8) ∧ lk + x / 8 ≠ hd) :
    iand (A.rawF hd) 131071 = b / 8 + 1 ∧ chain (A.popped hd (lk + b / 8)) lk (iand ((A.popped hd (lk + b / 8)).rawF hd) 131071) l ∧
    (A.popped hd (lk + b / 8)).rawF hd = (A.rawF hd / 131072 + 1) * 131072 + A.rawF (lk + b / 8) ∧ 0 ≤ A.rawF (lk + b / 8) ∧ A.rawF (lk + b / 8) < 131072 := by
  obtain ⟨h1, h2, h3, h4, h5⟩ := hc
  have hf : iand (A.rawF hd) 131071 = b / 8 + 1 := by omega
  have ei : lk + iand (A.rawF hd) 131071 - 1 = lk + b / 8 := by omega
  rw [ei] at h4 h5
  have hh := chain_head h5
  have bd : 0 ≤ A.rawF (lk + b / 8) ∧ A.rawF (lk + b / 8) < 131072 := by
    cases l with
    | nil => rw [show A.rawF (lk + b / 8) = 0 from hh]; omega
    | cons y l =>
      have := hl y (by simp)
      rw [show A.rawF (lk + b / 8) = y / 8 + 1 from hh]; omega
  have eh : (A.popped hd (lk + b / 8)).rawF hd = (A.rawF hd / 131072 + 1) * 131072 + A.rawF (lk + b / 8) := by
    rw [rawF_popped o1 o1, if_pos rfl, nextF_eq h0.1 h0.2 bd.1 bd.2]
  refine ⟨hf, ?_, eh, bd.1, bd.2⟩
  rw [eh, mask17]
  have em : ((A.rawF hd / 131072 + 1) * 131072 + A.rawF (lk + b / 8)) % 131072 = A.rawF (lk + b / 8) := by omega
  rw [em]
  refine chain_frame (fun i => popped_ok) l _ (fun x hx => ?_) h5
  obtain ⟨g1, g2, g3, g4, g5⟩ := hl x (List.mem_cons_of_mem _ hx)
  rw [rawF_popped o1 g4, if_neg g5]
end Go.Proofs.Ytjleoogieoahnaa

set_option linter.unusedVariables false
set_option maxRecDepth 20000
namespace Go.Proofs.Ytjleoogieoahnaa
open Go Go.Fw

/-! ### Lists of free slots, by what they have -/

def upd (ch : Int → List Int) (k : Int) (l : List Int) : Int → List Int := fun j => if j = k then l else ch j

/-- Each list's words: heads, links. -/
structure FL (A : Ar) (p : Pl) (w n : Int) (ch : Int → List Int) : Prop where
  heads : p.heads = 0
  links : p.links = 4 * w
  wb : 0 ≤ w ∧ w ≤ 1000
  nb : 0 ≤ n ∧ n ≤ 10000
  len : 4 * w + n ≤ A.raw.length
  us : 0 ≤ A.uses
  hd : ∀ k, 0 ≤ k → k < 4 * w → 0 ≤ A.rawF k ∧ A.rawF k / 131072 ≤ A.uses
  chn : ∀ k, 0 ≤ k → k < 4 * w → chain A (4 * w) (A.rawF k % 131072) (ch k)
  mem : ∀ k b, b ∈ ch k → 0 ≤ b ∧ b % 8 = 0 ∧ b / 8 < n
  nd : ∀ k, (ch k).Nodup
  dj : ∀ k j b, b ∈ ch k → b ∈ ch j → k = j
  rg : ∀ k, ch k ≠ [] → 0 ≤ k ∧ k < 4 * w

section
variable {A B : Ar} {p : Pl} {w n : Int} {ch : Int → List Int}

theorem FL.hdOk (F : FL A p w n ch) {k : Int} (h0 : 0 ≤ k) (h1 : k < 4 * w) : A.rawOk k := ⟨h0, by have := F.len; have := F.nb; omega⟩
theorem FL.lkOk (F : FL A p w n ch) {b : Int} (h0 : 0 ≤ b) (h1 : b / 8 < n) : A.rawOk (4 * w + b / 8) := ⟨by have := F.wb; omega, by have := F.len; omega⟩
theorem FL.first_nil (F : FL A p w n ch) {k : Int} (h0 : 0 ≤ k) (h1 : k < 4 * w) (h : ch k = []) : A.rawF k % 131072 = 0 := by
  have := F.chn k h0 h1; rw [h] at this; exact this
theorem FL.first_cons (F : FL A p w n ch) {k b : Int} {l : List Int} (h0 : 0 ≤ k) (h1 : k < 4 * w) (h : ch k = b :: l) : A.rawF k % 131072 = b / 8 + 1 := by
  have := F.chn k h0 h1; rw [h] at this; exact chain_head this

/-- Words elsewhere. -/
theorem FL.congr (F : FL A p w n ch) (hr : ∀ i, 0 ≤ i → i < 4 * w + n → B.rawF i = A.rawF i) (hl : B.raw.length = A.raw.length) (hu : A.uses ≤ B.uses) : FL B p w n ch where
  heads := F.heads
  links := F.links
  wb := F.wb
  nb := F.nb
  len := by rw [hl]; exact F.len
  us := by have := F.us; omega
  hd k h0 h1 := by
    have := F.hd k h0 h1
    have := F.nb
    rw [hr k h0 (by omega)]; omega
  chn k h0 h1 := by
    have := F.nb
    rw [hr k h0 (by omega)]
    refine chain_frame (fun i => by unfold Ar.rawOk; rw [hl]) _ _ (fun x hx => ?_) (F.chn k h0 h1)
    obtain ⟨a, b, c⟩ := F.mem k x hx
    have := F.wb
    exact hr _ (by omega) (by omega)
  mem := F.mem
  nd := F.nd
  dj := F.dj
  rg := F.rg

theorem mod17 {x : Int} : iand x 131071 = x % 131072 := mask17 x

/-- A base is put on a list. -/
theorem FL.push (F : FL A p w n ch) (hu : A.uses ≤ 1000000000) {k b : Int} (h0 : 0 ≤ k) (h1 : k < 4 * w) (hb : 0 ≤ b ∧ b % 8 = 0 ∧ b / 8 < n) (hn : ∀ j, b ∉ ch j) :
    FL (A.pushed k (4 * w + b / 8) b) p w n (upd ch k (b :: ch k)) := by
  have wb := F.wb
  have nb := F.nb
  have o1 := F.hdOk h0 h1
  have o2 := F.lkOk hb.1 hb.2.2
  have hk := F.hd k h0 h1
  have us := F.us
  have td : Int.tdiv b 8 = b / 8 := Int.tdiv_eq_ediv_of_nonneg hb.1
  have e1 : w64 (w64 (Int.tdiv b 8) + 1) = b / 8 + 1 := by rw [td, w64_in (x := b / 8) (by omega) (by omega), w64_in (by omega) (by omega)]
  have hc := chain_push (A := A) (lk := 4 * w) (hd := k) (b := b) (f := A.rawF k % 131072) (l := ch k) (F.chn k h0 h1) mod17 (by omega) (by omega) o1 o2 (by omega) (by omega) (fun x hx => by
    obtain ⟨a1, a2, a3⟩ := F.mem k x hx
    exact ⟨fun e => hn k (e ▸ hx), a2, F.lkOk a1 a3, by omega⟩)
  have hother : ∀ i, i ≠ k → i ≠ 4 * w + b / 8 → A.rawOk i → (A.pushed k (4 * w + b / 8) b).rawF i = A.rawF i := fun i i1 i2 io => by rw [rawF_pushed o1 o2 io, if_neg i1, if_neg i2]
  refine ⟨F.heads, F.links, F.wb, F.nb, ?_, ?_, ?_, ?_, ?_, ?_, ?_, ?_⟩
  · have := F.len; unfold Ar.pushed; simp only [List.length_set]; exact this
  · show 0 ≤ A.uses + 3; omega
  · intro j j0 j1
    show _ ∧ _ ≤ A.uses + 3
    by_cases e : j = k
    · subst e; rw [hc.2]; omega
    · rw [hother j e (by omega) (F.hdOk j0 j1)]; have := F.hd j j0 j1; omega
  · intro j j0 j1
    unfold upd
    by_cases e : j = k
    · subst e; rw [if_pos rfl]; have := hc.1; rw [mod17] at this; exact this
    · rw [if_neg e, hother j e (by omega) (F.hdOk j0 j1)]
      refine chain_frame (fun i => pushed_ok) _ _ (fun x hx => ?_) (F.chn j j0 j1)
      obtain ⟨a1, a2, a3⟩ := F.mem j x hx
      exact hother _ (by omega) (by
        have : x ≠ b := fun e => hn j (e ▸ hx)
        omega) (F.lkOk a1 a3)
  · intro j x hx
    unfold upd at hx
    split at hx
    · rcases List.mem_cons.1 hx with rfl | hx
      · exact hb
      · exact F.mem k x hx
    · exact F.mem j x hx
  · intro j
    unfold upd
    split
    · exact List.nodup_cons.2 ⟨hn k, F.nd k⟩
    · exact F.nd j
  · intro i j x hi hj
    unfold upd at hi hj
    split at hi
    · rename_i ei
      split at hj
      · rename_i ej; omega
      · rcases List.mem_cons.1 hi with rfl | hi
        · exact (hn j hj).elim
        · rw [ei]; exact F.dj k j x hi hj
    · split at hj
      · rename_i ej
        rcases List.mem_cons.1 hj with rfl | hj
        · exact (hn i hi).elim
        · rw [ej]; exact F.dj i k x hi hj
      · exact F.dj i j x hi hj
  · intro j hj
    unfold upd at hj
    split at hj
    · rename_i e; rw [e]; exact ⟨h0, h1⟩
    · exact F.rg j hj

/-- A base is taken from a list. -/
theorem FL.pop (F : FL A p w n ch) (hu : A.uses ≤ 1000000000) {k b : Int} {l : List Int} (hk : ch k = b :: l) :
    FL (A.popped k (4 * w + b / 8)) p w n (upd ch k l) := by
  obtain ⟨h0, h1⟩ := F.rg k (by rw [hk]; simp)
  have wb := F.wb
  have nb := F.nb
  have o1 := F.hdOk h0 h1
  have hm := F.mem k b (by rw [hk]; simp)
  have o2 := F.lkOk hm.1 hm.2.2
  have hkd := F.hd k h0 h1
  have us := F.us
  have hch := F.chn k h0 h1
  rw [hk] at hch
  have hc := chain_pop (A := A) (lk := 4 * w) (hd := k) (b := b) (l := l) (by rw [mod17]; exact hch) o1 (by omega) (fun x hx => by
    obtain ⟨a1, a2, a3⟩ := F.mem k x (by rw [hk]; exact hx)
    exact ⟨a2, a1, by omega, F.lkOk a1 a3, by omega⟩)
  have hother : ∀ i, i ≠ k → A.rawOk i → (A.popped k (4 * w + b / 8)).rawF i = A.rawF i := fun i i1 io => by rw [rawF_popped o1 io, if_neg i1]
  have hsub : ∀ j x, x ∈ upd ch k l j → x ∈ ch j := fun j x hx => by
    unfold upd at hx; split at hx
    · rename_i e; rw [e, hk]; exact List.mem_cons_of_mem _ hx
    · exact hx
  refine ⟨F.heads, F.links, F.wb, F.nb, ?_, ?_, ?_, ?_, ?_, ?_, ?_, ?_⟩
  · have := F.len; unfold Ar.popped; simp only [List.length_set]; exact this
  · show 0 ≤ A.uses + 3; omega
  · intro j j0 j1
    show _ ∧ _ ≤ A.uses + 3
    by_cases e : j = k
    · subst e; rw [hc.2.2.1]; omega
    · rw [hother j e (F.hdOk j0 j1)]; have := F.hd j j0 j1; omega
  · intro j j0 j1
    unfold upd
    by_cases e : j = k
    · subst e; rw [if_pos rfl]; have := hc.2.1; rw [mod17] at this; exact this
    · rw [if_neg e, hother j e (F.hdOk j0 j1)]
      refine chain_frame (fun i => popped_ok) _ _ (fun x hx => ?_) (F.chn j j0 j1)
      obtain ⟨a1, a2, a3⟩ := F.mem j x hx
      exact hother _ (by omega) (F.lkOk a1 a3)
  · exact fun j x hx => F.mem j x (hsub j x hx)
  · intro j
    unfold upd
    split
    · have := F.nd k; rw [hk] at this; exact (List.nodup_cons.1 this).2
    · exact F.nd j
  · exact fun i j x hi hj => F.dj i j x (hsub i x hi) (hsub j x hj)
  · intro j hj
    unfold upd at hj
    split at hj
    · rename_i e; rw [e]; exact ⟨h0, h1⟩
    · exact F.rg j hj

/-- What turns while a base is put on, or taken from, a list. -/
theorem FL.push_other (F : FL A p w n ch) {k b i : Int} (h0 : 0 ≤ k) (h1 : k < 4 * w) (hb : 0 ≤ b ∧ b % 8 = 0 ∧ b / 8 < n) (hi : 4 * w + n ≤ i) : (A.pushed k (4 * w + b / 8) b).rawF i = A.rawF i := by
  have wb := F.wb
  by_cases io : A.rawOk i
  · rw [rawF_pushed (F.hdOk h0 h1) (F.lkOk hb.1 hb.2.2) io, if_neg (by have := F.nb; omega), if_neg (by omega)]
  · unfold Ar.rawF; rw [if_neg io, if_neg (fun h => io (pushed_ok.1 h))]
theorem FL.pop_other (F : FL A p w n ch) {k b i : Int} (h0 : 0 ≤ k) (h1 : k < 4 * w) (hi : 4 * w + n ≤ i) : (A.popped k (4 * w + b / 8)).rawF i = A.rawF i := by
  by_cases io : A.rawOk i
  · rw [rawF_popped (F.hdOk h0 h1) io, if_neg (by have := F.nb; omega)]
  · unfold Ar.rawF; rw [if_neg io, if_neg (fun h => io (popped_ok.1 h))]
end
end Go.Proofs.Ytjleoogieoahnaa

set_option linter.unusedVariables false
set_option maxRecDepth 20000
namespace Go.Proofs.Ytjleoogieoahnaa
open Go Go.Fw

/-! ### What laws use: before there is an arena, and at the end -/

structure Ok0 (G : Heap) (ks : List Nat) : Prop where
  nd : ks.Nodup
  no : ∀ b ∈ ks, G b = none

section
variable {L : Hands} {R : Value → Heap → Prop} {l : Bl} {G : Heap}

theorem p_new (ok : Ok0 G (keys l)) {b : Nat} (h : putL l G b = none) (o : Obj) : Ok0 G (keys ((b, o) :: l)) := by
  obtain ⟨h1, h2⟩ := putL_none h
  refine ⟨?_, ?_⟩
  · simp only [keys, List.map_cons, List.nodup_cons]; exact ⟨h1, ok.nd⟩
  · intro c hc
    simp only [keys, List.map_cons, List.mem_cons] at hc
    rcases hc with rfl | hc
    · exact h2
    · exact ok.no c hc

theorem p_newP {c : List Value} {T : TypeId} {k : Addr → Tree} (ok : Ok0 G (keys l)) (h : ∀ b, Ok0 G (keys ((b, oc T c) :: l)) → wp Try.prog (k ⟨b, 0, none⟩) L (putL ((b, oc T c) :: l) G) R) :
    wp Try.prog (.newP (.cells c.toArray T) k) L (putL l G) R := wp_newP fun b hb => h b (p_new ok hb _)
theorem p_stA (i : Nat) {a : Addr} {b n : Nat} {T : TypeId} {c : List Value} {vs : List Value} {k : Tree} (ok : Ok0 G (keys l)) (ha : a = ⟨b, n, none⟩) (hi : l[i]? = some (b, oc T c)) (hs : vs.all Value.single = true) (hn : (decide (n + vs.length ≤ c.length)) = true)
    (h : wp Try.prog k L (putL (l.set i (b, oc T (setAll c n vs))) G) R) : wp Try.prog (.stA a vs k) L (putL l G) R := by
  subst ha
  have hn := of_decide_eq_true hn
  refine wp_stA_of (putL_get G ok.nd hi) (by simpa using hn) (fun v hv => List.all_eq_true.1 hs v hv) ?_
  rw [putL_set G ok.nd hi, setAll_put]; exact h
theorem p_st (i : Nat) {a : Addr} {b n : Nat} {T : TypeId} {c : List Value} {v : Value} {k : Tree} (ok : Ok0 G (keys l)) (ha : a = ⟨b, n, none⟩) (hi : l[i]? = some (b, oc T c)) (hs : Value.single v = true) (hn : (decide (n < c.length)) = true)
    (h : wp Try.prog k L (putL (l.set i (b, oc T (c.set n v))) G) R) : wp Try.prog (.st a v k) L (putL l G) R := by
  subst ha
  have hn := of_decide_eq_true hn
  refine wp_st_of (u := c[n]) (putL_get G ok.nd hi) (by simp [hn]) hs ?_
  rw [putL_set G ok.nd hi]
  have : (c.toArray.setIfInBounds n v) = (c.set n v).toArray := by simp
  rw [this]; exact h
theorem p_ldA (i : Nat) {a : Addr} {b n : Nat} {T : TypeId} {c : List Value} {ls : List Leaf} {k : HL Leaf.T ls → Tree} {x : HL Leaf.T ls} (ok : Ok0 G (keys l)) (ha : a = ⟨b, n, none⟩) (hi : l[i]? = some (b, oc T c)) (hx : Lf.decs ls (c.drop n) = some x)
    (h : wp Try.prog (k x) L (putL l G) R) (hn : decide (n ≤ c.length) = true := by rfl) : wp Try.prog (.ldA a ls k) L (putL l G) R := by
  subst ha
  have hn := of_decide_eq_true hn
  obtain ⟨h1, h2⟩ := Lf.decs_ok hx
  rw [List.length_drop] at h1
  refine wp_ldA_of (x := x) (putL_get G ok.nd hi) (by simp; omega) ?_ h
  rw [← h2]; simp [List.extract_eq_take_drop]
theorem p_ld (i : Nat) {a : Addr} {b n : Nat} {T : TypeId} {c : List Value} {lf : Leaf} {k : lf.T → Tree} {x : lf.T} (ok : Ok0 G (keys l)) (ha : a = ⟨b, n, none⟩) (hi : l[i]? = some (b, oc T c)) (hx : (c[n]?).bind (Lf.dec lf) = some x)
    (h : wp Try.prog (k x) L (putL l G) R) : wp Try.prog (.ld a lf k) L (putL l G) R := by
  subst ha
  refine wp_ld_of (x := x) ?_ h
  rw [Heap.cell_of (putL_get G ok.nd hi), List.getElem?_toArray]
  cases hc : c[n]? with
  | none => rw [hc] at hx; cases hx
  | some v => rw [hc] at hx; exact congrArg some (Lf.dec_ok hx)

/-- An arena is made. -/
theorem w_New {n m : Int} {f : Bool} {k : Option Addr → Tree} (ok : Ok0 G (keys l)) (h0 : 0 ≤ n ∧ n ≤ 65536) (h1 : 0 ≤ m ∧ m ≤ 65536)
    (h : ∀ A : Ar, A.made n.toNat m.toNat f → Aw A.ids A → (∀ x ∈ A.ids, G x = none) → Ok A.ids G (keys l) → wp Try.prog (k (aI A.ids)) L (own A l G) R) :
    wp Try.prog (.call f_arena_New [.int .i64 n, .int .i64 m, .bool f] (.one (.leaf .ptr)) k) L (putL l G) R := by
  refine wp_call_of (New_spec n m f _ h0 h1) ?_
  rintro v K ⟨A, hm, hi, rfl, rfl⟩
  refine ⟨aI A.ids, rfl, ?_⟩
  refine h A hm ⟨made_wf hm (by omega) (by omega), rfl⟩ (fun x hx => (putL_none (hi x hx)).2) ⟨ok.nd, fun b hb hx => ?_, ok.no⟩
  exact (putL_none (hi b hx)).1 hb

theorem own_end {A : Ar} {I : List Nat} (hA : Aw I A) (ok : Ok I G (keys l)) (hI : ∀ x ∈ I, G x = none) : G.le (own A l G) := by
  intro b o hb
  unfold own
  rw [Ar.put_out, putL_out]
  · exact hb
  · intro h; rw [ok.no b h] at hb; cases hb
  · intro h; rw [hA.ids] at h; rw [hI b h] at hb; cases hb

theorem nn_some {t u : TypeId} (a : Addr) (h : opS Try.prog (.binOp .eql t (.tmp 0) (.const (.pointer none)) t) u [(.pointer (some a))] = .pure (.value (.bool false))) {k : Bool → Tree} {H : Heap} (hk : wp Try.prog (k false) L H R) :
    wp Try.prog (.look (opS Try.prog (.binOp .eql t (.tmp 0) (.const (.pointer none)) t) u [(.pointer (some a))]) (.one (.leaf .bool)) k) L H R := look_val (x := false) h hk

theorem wp_again_up {H : Heap} {n m : Nat} {vals : List Value} {C : List Value → Heap → Prop} (hn : n ≠ m) (h : wp Try.prog (.again n vals) L H R) : wp Try.prog (.again n vals) (L.set m C) H R := by
  show (L.set m C) n vals H
  unfold Hands.set; rw [if_neg hn]; exact h

/-- Rows of a length that does not change. -/
def arrC {α : Type} (n : Nat) (f : Nat → α) : List α := (List.range n).map f
theorem arrC_len {α : Type} (n : Nat) (f : Nat → α) : (arrC n f).length = n := by simp [arrC]
theorem arrC_get {α : Type} {n : Nat} {f : Nat → α} {i : Nat} (h : i < n) : (arrC n f)[i]? = some (f i) := by simp [arrC, h]
theorem arrC_set {α : Type} {n : Nat} {f : Nat → α} {i : Nat} {v : α} : (arrC n f).set i v = arrC n fun j => if j = i then v else f j := by
  apply List.ext_getElem?
  intro j
  rw [List.getElem?_set]
  by_cases hj : j < n
  · split
    · rename_i e; subst e; rw [arrC_len, if_pos hj, arrC_get hj, if_pos rfl]
    · rename_i e; rw [arrC_get hj, arrC_get hj, if_neg (fun h => e h.symm)]
  · have : ∀ g : Nat → α, (arrC n g)[j]? = none := fun g => by simp [arrC]; omega
    rw [this, this]
    split
    · rename_i e; rw [if_neg (by rw [arrC_len]; omega)]
    · rfl

/-- A cell of a row, by its number. -/
theorem w_ix {A : Ar} {t e u : TypeId} {n b o : Nat} {i : Int} {info : TypeInfo} {k : Addr → Tree} (hu : Try.prog.underlying t = some (.array n e)) (hi : Try.prog.info? e = some info) (hs : info.size = 1) (h0 : 0 ≤ i) (h1 : i < n) {H : Heap}
    (h : wp Try.prog (k ⟨b, o + i.toNat, none⟩) L H R) : wp Try.prog (.look (opS Try.prog (.indexAddr t (.tmp 0) (.tmp 1)) u [.pointer (some ⟨b, o, none⟩), .int .i64 i]) (.one (.leaf .addr)) k) L H R :=
  look_val (x := ⟨b, o + i.toNat, none⟩) (by
    rw [opS_idx hu hi h0 h1, Addr.add_mk, hs, Nat.mul_one]) h
theorem w_ixS {t e u : TypeId} {len cap b o : Nat} {i : Int} {info : TypeInfo} {k : Addr → Tree} (hu : Try.prog.underlying t = some (.slice e)) (hi : Try.prog.info? e = some info) (hs : info.size = 1) (h0 : 0 ≤ i) (h1 : i < (len : Int)) {H : Heap}
    (h : wp Try.prog (k ⟨b, o + i.toNat, none⟩) L H R) : wp Try.prog (.look (opS Try.prog (.indexAddr t (.tmp 0) (.tmp 1)) u [.slice (some ⟨b, o, none⟩) len cap, .int .i64 i]) (.one (.leaf .addr)) k) L H R :=
  look_val (x := ⟨b, o + i.toNat, none⟩) (by
    rw [opS_idxS hu hi h0 h1, Addr.add_mk, hs, Nat.mul_one]) h

theorem w_ldm {A : Ar} {I : List Nat} {a : Addr} {b n : Nat} {T : TypeId} {c : List Value} {lf : Leaf} {k : lf.T → Tree} {x : lf.T} (hA : Aw I A) (ok : Ok I G (keys l)) (ha : a = ⟨b, n, none⟩) (hi : (b, oc T c) ∈ l) (hx : (c[n]?).bind (Lf.dec lf) = some x)
    (h : wp Try.prog (k x) L (own A l G) R) : wp Try.prog (.ld a lf k) L (own A l G) R := by
  obtain ⟨i, hi⟩ := mem_idx hi
  exact w_ld i hA ok ha hi hx h

/-- An element of a slice of numbers. -/
theorem w_rdI {A : Ar} {I : List Nat} {s : Sl} {xs : List Int} {i : Int} {u : TypeId} {k : Int → Tree} (hA : Aw I A) (ok : Ok I G (keys l)) (hs : SlOf l ty_int eI s xs) (h0 : 0 ≤ i) (h1 : i < xs.length) (h : wp Try.prog (k (xs.getD i.toNat 0)) L (own A l G) R) :
    wp Try.prog (.look (opS Try.prog (.indexAddr ty_s_int (.tmp 0) (.tmp 1)) u [.slice s.a s.len s.cap, .int .i64 i]) (.one (.leaf .addr)) fun x => .ld x (.int .i64) k) L (own A l G) R := by
  rcases hs with ⟨rfl, rfl⟩ | ⟨b, rest, r, rfl, h2, h3⟩
  · have : (([] : List Int).length : Int) = 0 := rfl
    omega
  · refine w_ixS (e := ty_int) rfl rfl rfl h0 h1 ?_
    refine w_ldm (x := xs.getD i.toNat 0) hA ok rfl h3 ?_ h
    have hl : i.toNat < xs.length := by omega
    rw [Nat.zero_add, eI_all, List.getElem?_append_left (by simpa using hl), List.getElem?_map, List.getElem?_eq_getElem hl]
    show some _ = _
    rw [List.getD_eq_getElem?_getD, List.getElem?_eq_getElem hl]; rfl

theorem w_Place {H : Heap} {v n : Int} {k : Int → Tree} (hn : 0 < n) (hn2 : n ≤ 4611686018427387904) (h : wp Try.prog (k (v % n)) L H R) : wp Try.prog (.qcall f_magpielaw00_Place [.int .i64 v, .int .i64 n] (.one (.leaf (.int .i64))) k) L H R := wp_qcall_det (x := v % n) (Place_det v n hn hn2 _) h
theorem w_Raw5 {H : Heap} {w m : Int} {k : HL Sh1.T [(.agg [(.int .i64), (.int .i64), (.int .i64), (.int .i64), (.int .i64)]), (.leaf (.int .i64))] → Tree} (b1 : 0 ≤ w ∧ w ≤ 100000) (b2 : 0 ≤ m ∧ m ≤ 100000)
    (h : wp Try.prog (k (((plOf w m).work, (plOf w m).heads, (plOf w m).links, (plOf w m).gens, (plOf w m).carved, ()), 4 * w + 2 * ((m + 7) / 8) + 1, ())) L H R) :
    wp Try.prog (.call f_free_Raw [.int .i64 w, .int .i64 m] (.tup [(.agg [(.int .i64), (.int .i64), (.int .i64), (.int .i64), (.int .i64)]), (.leaf (.int .i64))]) k) L H R := by
  refine wp_call_det (x := (((plOf w m).work, (plOf w m).heads, (plOf w m).links, (plOf w m).gens, (plOf w m).carved, ()), 4 * w + 2 * ((m + 7) / 8) + 1, ())) (Raw5_det w m w m ?_ ?_ b1 b2 H) h
  · unfold imax; rw [if_neg (by omega)]
  · unfold imax; rw [if_neg (by omega)]

theorem later_aw {A : Ar} {I : List Nat} (hA : Aw I A) (n : Int) : Aw I (A.later n) := hA.of (later_alike A n) (later_wf hA.wf n)

/-- A list's bases. -/
theorem w_List {A : Ar} {I : List Nat} {p : Pl} {w c : Int} {xs : List Int} {k : Sl → Tree} (hA : Aw I A) (ok : Ok I G (keys l)) {hd : Int} (hh : headF p w c = hd) (ho : A.rawOk hd) (hc : chain A p.links (iand (A.rawF hd) 131071) xs) (hl : xs.length < 10000)
    (hlk : -1000000 ≤ p.links ∧ p.links ≤ 1000000) (hu : 0 ≤ A.uses ∧ A.uses ≤ 1000000000)
    (h : ∀ s tl, SlOf tl ty_int eI s xs → Ok I G (keys (l ++ tl)) → Aw I (A.later (1 + xs.length)) → wp Try.prog (k s) L (own (A.later (1 + xs.length)) (l ++ tl) G) R) :
    wp Try.prog (.call f_free_List [.pointer (aI I), p.val, .int .i64 w, .int .i64 c] (.one (.leaf .slice)) k) L (own A l G) R := by
  have hA' := later_aw hA (1 + xs.length)
  refine wp_call_of (SpecF.less (R' := fun v K => ∃ s tl, SlOf tl ty_int eI s xs ∧ Ok I G (keys (l ++ tl)) ∧ v = .slice s.a s.len s.cap ∧ K = own (A.later (1 + xs.length)) (l ++ tl) G) (List_spec hA.wf p w c hh ho hc hl hlk hu hA.pA (putL l G)) ?_) ?_
  · rintro v K ⟨s, G', rfl, rfl, hle, hs, hb⟩
    rcases hs with ⟨rfl, rfl⟩ | ⟨b, rest, rfl, hg⟩
    · refine ⟨own (A.later _) (l ++ []) G, ?_, ⟨none, 0, 0⟩, [], .inl ⟨rfl, rfl⟩, by rw [List.append_nil]; exact ok, rfl, rfl⟩
      rw [List.append_nil]
      exact Ar.put_le hle
    · obtain ⟨b1, b2⟩ := hb b rfl
      obtain ⟨b3, b4⟩ := putL_none b2
      have okb : Ok I G (keys ((b, oc ty_int (eI.all xs ++ rest.toList)) :: l)) := by
        refine ⟨?_, ?_, ?_⟩
        · simp only [keys, List.map_cons, List.nodup_cons]; exact ⟨b3, ok.nd⟩
        · intro x hx
          simp only [keys, List.map_cons, List.mem_cons] at hx
          rcases hx with rfl | hx
          · rw [hA.ids] at b1; exact b1
          · exact ok.out x hx
        · intro x hx
          simp only [keys, List.map_cons, List.mem_cons] at hx
          rcases hx with rfl | hx
          · exact b4
          · exact ok.no x hx
      have okb' : Ok I G (keys ((b, oc ty_int (eI.all xs ++ rest.toList)) :: (l ++ []))) := by rw [List.append_nil]; exact okb
      obtain ⟨m1, m2⟩ := own_mid (A := A.later (1 + xs.length)) okb'
      rw [List.append_nil] at m1
      refine ⟨own (A.later (1 + xs.length)) (l ++ [(b, oc ty_int (eI.all xs ++ rest.toList))]) G, ?_, ⟨some ⟨b, 0, none⟩, xs.length, xs.length + rest.size⟩, _, .inr ⟨b, rest.toList, rest.size, rfl, ?_, List.mem_cons_self⟩, m2, rfl, rfl⟩
      · rw [← m1]
        show (Ar.put _ ((putL l G).set b (oc ty_int (eI.all xs ++ rest.toList)))).le _
        refine Ar.put_le fun x o hx => ?_
        by_cases e : x = b
        · subst e
          rw [Heap.set_same] at hx
          rw [hg, ← hx, eI_all]
          unfold oc ints
          congr 2
          apply Array.ext'; simp
        · rw [Heap.set_ne _ _ e] at hx; exact hle x o hx
      · show _ = rest.size * 1
        simp
  · rintro v K ⟨s, tl, hs, ok', rfl, rfl⟩
    exact ⟨s, rfl, h s tl hs ok' hA'⟩
end
end Go.Proofs.Ytjleoogieoahnaa

set_option linter.unusedVariables false
set_option maxRecDepth 20000
namespace Go.Proofs.Ytjleoogieoahnaa
open Go Go.Fw

def slV (s : Sl) : Value := .slice s.a s.len s.cap
def sl0 : Sl := ⟨none, 0, 0⟩

/-- Several slices of numbers, each in a block of its own. -/
structure Fam (tl : Bl) (sl : Nat → Sl) (xs : Nat → List Int) : Prop where
  of : ∀ i, SlOf tl ty_int eI (sl i) (xs i)
  sep : ∀ i j, i ≠ j → ∀ a, (sl i).a = some a → (sl j).a ≠ some a

def updS {α : Type} (f : Nat → α) (i : Nat) (v : α) : Nat → α := fun j => if j = i then v else f j
theorem updS_same {α : Type} (f : Nat → α) (i : Nat) (v : α) : updS f i v i = v := if_pos rfl
theorem updS_ne {α : Type} (f : Nat → α) {i j : Nat} (v : α) (h : j ≠ i) : updS f i v j = f j := if_neg h

theorem SlOf.mem {α : Type} {l : Bl} {e : TypeId} {E : Enc α} {s : Sl} {xs : List α} (h : SlOf l e E s xs) {a : Addr} (ha : s.a = some a) : a.block ∈ keys l ∧ a = ⟨a.block, 0, none⟩ := by
  rcases h with ⟨rfl, _⟩ | ⟨b, rest, r, rfl, _, h3⟩
  · cases ha
  · cases ha; exact ⟨List.mem_map.2 ⟨_, h3, rfl⟩, rfl⟩

theorem Fam.nil (tl : Bl) : Fam tl (fun _ => sl0) (fun _ => []) := ⟨fun _ => .inl ⟨rfl, rfl⟩, fun _ _ _ a h => by cases h⟩

/-- What an append leaves of other rows. -/
structure Apd (tl : Bl) (s : Sl) (tl' : Bl) (s' : Sl) : Prop where
  keep : ∀ b o, (b, o) ∈ tl → (∀ a, s.a = some a → a.block ≠ b) → (b, o) ∈ tl'
  at' : s'.a = s.a ∨ ∀ a, s'.a = some a → a.block ∉ keys tl

theorem App.apd {tl tl' : Bl} {s s' : Sl} (h : App tl s tl' s') : Apd tl s tl' s' := by
  cases h with
  | same h1 h2 => subst h1; subst h2; exact ⟨fun b o h _ => h, .inl rfl⟩
  | inpl b o h1 h2 h3 h4 => subst h3; exact ⟨fun c p h k => mem_bset_ne h fun e => k _ h1 e.symm, .inl h2⟩
  | new b o h1 h2 h3 => subst h2; exact ⟨fun c p h _ => List.mem_cons_of_mem _ h, .inr fun a ha => by rw [h1] at ha; cases ha; exact h3⟩
theorem Apd.mono {tl tl' tl2 : Bl} {s s' : Sl} (h : Apd tl s tl' s') (hm : ∀ p, p ∈ tl' → p ∈ tl2) : Apd tl s tl2 s' := ⟨fun b o h1 h2 => hm _ (h.keep b o h1 h2), h.at'⟩

theorem SlOf.other {α : Type} {tl tl' : Bl} {e : TypeId} {E : Enc α} {s s' t : Sl} {xs : List α} (h : SlOf tl e E t xs) (ap : Apd tl s tl' s') (hne : ∀ a, t.a = some a → s.a ≠ some a) (hz : ∀ a, s.a = some a → a = ⟨a.block, 0, none⟩) : SlOf tl' e E t xs := by
  rcases h with h | ⟨b, rest, r, rfl, h2, h3⟩
  · exact .inl h
  · refine .inr ⟨b, rest, r, rfl, h2, ap.keep _ _ h3 fun a ha e => hne ⟨b, 0, none⟩ rfl ?_⟩
    rw [ha, hz a ha, e]

/-- One of them is longer. -/
theorem Fam.app {tl tl' : Bl} {sl : Nat → Sl} {xs : Nat → List Int} (F : Fam tl sl xs) {i : Nat} {s' : Sl} {ys : List Int} (hs : SlOf tl' ty_int eI s' ys) (ap : Apd tl (sl i) tl' s') : Fam tl' (updS sl i s') (updS xs i ys) := by
  have fr : ∀ j a, j ≠ i → s'.a = some a → (sl j).a ≠ some a := fun j a hj ha e => by
    rcases ap.at' with h | h
    · rw [h] at ha; exact F.sep i j (fun e => hj e.symm) a ha e
    · exact h a ha ((F.of j).mem e).1
  refine ⟨fun j => ?_, fun j k hn a ha => ?_⟩
  · unfold updS; split
    · exact hs
    · rename_i h
      exact (F.of j).other ap (fun a ha => F.sep j i h a ha) fun a ha => ((F.of i).mem ha).2
  · unfold updS at ha ⊢
    split at ha
    · rw [if_neg (by omega)]; exact fr k a (by omega) ha
    · split
      · exact fun e => fr j a (by omega) e ha
      · exact F.sep j k hn a ha

/-- One of them is shorter. -/
theorem Fam.take {tl : Bl} {sl : Nat → Sl} {xs : Nat → List Int} (F : Fam tl sl xs) (i : Nat) {n : Nat} (hn : n ≤ (xs i).length) : Fam tl (updS sl i ⟨(sl i).a, n, (sl i).cap⟩) (updS xs i ((xs i).take n)) := by
  refine ⟨fun j => ?_, fun j k hn a ha => ?_⟩
  · unfold updS; split
    · exact (F.of i).take hn
    · exact F.of j
  · unfold updS at ha ⊢
    split at ha
    · rename_i hj; rw [if_neg (by omega)]; exact F.sep i k (by omega) a ha
    · split
      · rename_i hk; exact F.sep j i (by omega) a ha
      · exact F.sep j k hn a ha

theorem Fam.mono {tl tl' : Bl} {sl : Nat → Sl} {xs : Nat → List Int} (F : Fam tl sl xs) (h : ∀ p, p ∈ tl → p ∈ tl') : Fam tl' sl xs := ⟨fun i => (F.of i).mono h, F.sep⟩

section
variable {L : Hands} {R : Value → Heap → Prop} {A : Ar} {I : List Nat} {l : Bl} {G : Heap}

/-- The upper end of a slice of numbers. -/
theorem w_cut {s : Sl} {n : Int} {u : TypeId} {k : Sl → Tree} (h0 : 0 ≤ n) (h1 : n ≤ (s.cap : Int)) {H : Heap} (h : wp Try.prog (k ⟨s.a, n.toNat, s.cap⟩) L H R) :
    wp Try.prog (.look (opS Try.prog (.slice ty_s_int (.tmp 0) none (some (.tmp 1)) none) u [.slice s.a s.len s.cap, .int .i64 n]) (.one (.leaf .slice)) k) L H R :=
  look_val (x := ⟨s.a, n.toNat, s.cap⟩) (opS_sliceHi (e := ty_int) rfl rfl rfl h0 h1) h

/-- One number more. -/
theorem w_app1 {s : Sl} {xs : List Int} {v : Int} {k : Sl → Tree} {pre tl : Bl} (hA : Aw I A) (ok : Ok I G (keys (pre ++ tl))) (hs : SlOf tl ty_int eI s xs) (hm : xs.length ≤ 1000000)
    (h : ∀ s' tl', SlOf tl' ty_int eI s' (xs ++ [v]) → Ok I G (keys (pre ++ tl')) → Apd tl s tl' s' → wp Try.prog (k s') L (own A (pre ++ tl') G) R) :
    wp Try.prog (.newS (.cells #[.int .i64 v] ty_int) 1 fun x => .act (opS Try.prog (.call { callee := .builtin .append, args := #[(.tmp 0), (.tmp 1)], argTypes := #[ty_s_int, ty_s_int] }) ty_s_int [(.slice s.a s.len s.cap), (.slice x.a x.len x.cap)]) (.one (.leaf .slice)) k) L (own A (pre ++ tl) G) R := by
  refine w_newS (c := [.int .i64 v]) hA ok fun q ok1 => ?_
  have ok' : Ok I G (keys (((q, oc ty_int [.int .i64 v]) :: pre) ++ tl)) := ok1
  show wp Try.prog _ L (own A (((q, oc ty_int [.int .i64 v]) :: pre) ++ tl) G) R
  refine w_appT (E := eI) elI (ys := [v]) (t := ⟨some ⟨q, 0, none⟩, 1, 1⟩) hA ok' hs ?_ rfl (by simp; omega) fun s' tl' hs' ok2 ap => ?_
  · exact cell_row hA ok' List.mem_cons_self 0 rfl
  · obtain ⟨m3, m4⟩ := own_mid (A := A) ok2
    show wp Try.prog _ L (own A ((q, oc ty_int [.int .i64 v]) :: (pre ++ tl')) G) R
    rw [m3]
    exact h s' _ (hs'.mono fun p hp => List.mem_cons_of_mem _ hp) m4 (ap.apd.mono fun p hp => List.mem_cons_of_mem _ hp)
end
end Go.Proofs.Ytjleoogieoahnaa

set_option linter.unusedVariables false
set_option maxRecDepth 20000
namespace Go.Proofs.Ytjleoogieoahnaa
open Go Go.Fw

theorem opS_nilapp {sT u : TypeId} (x : Value) : opS Try.prog (.call { callee := .builtin .append, args := #[(.const (.slice none 0 0)), (.tmp 0)], argTypes := #[sT, sT] }) u [x] =
    opS Try.prog (.call { callee := .builtin .append, args := #[(.tmp 0), (.tmp 1)], argTypes := #[sT, sT] }) u [.slice none 0 0, x] := by
  kernel_rfl

def loSl (s : Sl) (n : Nat) : Sl := ⟨if s.cap = n then s.a else s.a.map (·.add n), s.len - n, s.cap - n⟩

section
variable {L : Hands} {R : Value → Heap → Prop} {A : Ar} {I : List Nat} {l : Bl} {G : Heap}

theorem w_cutLo {s : Sl} {n : Int} {u : TypeId} {k : Sl → Tree} (h0 : 0 ≤ n) (h1 : n ≤ (s.len : Int)) {H : Heap} (h : wp Try.prog (k (loSl s n.toNat)) L H R) :
    wp Try.prog (.look (opS Try.prog (.slice ty_s_int (.tmp 0) (some (.tmp 1)) none none) u [.slice s.a s.len s.cap, .int .i64 n]) (.one (.leaf .slice)) k) L H R :=
  look_val (x := loSl s n.toNat) (opS_sliceLo (e := ty_int) rfl rfl rfl h0 h1) h
theorem ck_cutLo {s : Sl} {n : Int} {u : TypeId} {t : Tree} (h0 : 0 ≤ n) (h1 : n ≤ (s.len : Int)) {H : Heap} (h : wp Try.prog t L H R) :
    wp Try.prog (.check (opS Try.prog (.slice ty_s_int (.tmp 0) (some (.tmp 1)) none none) u [.slice s.a s.len s.cap, .int .i64 n]) (.slice (loSl s n.toNat).a (loSl s n.toNat).len (loSl s n.toNat).cap) t) L H R :=
  check_val (opS_sliceLo (e := ty_int) rfl rfl rfl h0 h1) h
theorem ck_cut {s : Sl} {n : Int} {u : TypeId} {t : Tree} (h0 : 0 ≤ n) (h1 : n ≤ (s.cap : Int)) {H : Heap} (h : wp Try.prog t L H R) :
    wp Try.prog (.check (opS Try.prog (.slice ty_s_int (.tmp 0) none (some (.tmp 1)) none) u [.slice s.a s.len s.cap, .int .i64 n]) (.slice s.a n.toNat s.cap) t) L H R :=
  check_val (opS_sliceHi (e := ty_int) rfl rfl rfl h0 h1) h

theorem SlOf.rowLo {s : Sl} {xs : List Int} (hA : Aw I A) (ok : Ok I G (keys l)) (h : SlOf l ty_int eI s xs) {n : Nat} (hn : n ≤ xs.length) : Row (own A l G) (loSl s n).a (eI.all (xs.drop n)) ∧ (loSl s n).len = (xs.drop n).length := by
  have hl := h.len
  refine ⟨?_, by show s.len - n = _; rw [hl, List.length_drop]⟩
  by_cases e : s.cap = n
  · have : xs.drop n = [] := by
      apply List.drop_eq_nil_of_le
      rcases h with ⟨rfl, rfl⟩ | ⟨b, rest, r, rfl, _⟩
      · simp
      · have e : xs.length + r = n := e
        omega
    rw [this]; intro i hi; simp [Enc.all] at hi
  · unfold loSl
    dsimp only
    rw [if_neg e]
    rcases h with ⟨rfl, rfl⟩ | ⟨b, rest, r, rfl, h2, h3⟩
    · intro i hi; simp [Enc.all] at hi
    · have hs : SlOf l ty_int eI ⟨some ⟨b, 0, none⟩, xs.length, xs.length + r⟩ xs := .inr ⟨b, rest, r, rfl, h2, h3⟩
      have := hs.rowFrom hA ok n hn
      show Row _ (some ((Addr.mk b 0 none).add n)) _
      rw [Addr.add_mk, Nat.zero_add]
      have e1 : n * eI.sz = n := Nat.mul_one n
      rw [e1] at this; exact this

/-- Append to nothing. -/
theorem w_appN {u : TypeId} {ys : List Int} {t : Sl} {k : Sl → Tree} {pre tl : Bl} (hA : Aw I A) (ok : Ok I G (keys (pre ++ tl))) (ht : Row (own A (pre ++ tl) G) t.a (eI.all ys)) (htl : t.len = ys.length) (hm : ys.length ≤ 1000000)
    (h : ∀ s' tl', SlOf tl' ty_int eI s' ys → Ok I G (keys (pre ++ tl')) → Apd tl sl0 tl' s' → wp Try.prog (k s') L (own A (pre ++ tl') G) R) :
    wp Try.prog (.act (opS Try.prog (.call { callee := .builtin .append, args := #[(.const (.slice none 0 0)), (.tmp 0)], argTypes := #[ty_s_int, ty_s_int] }) u [(.slice t.a t.len t.cap)]) (.one (.leaf .slice)) k) L (own A (pre ++ tl) G) R := by
  rw [opS_nilapp]
  refine w_appT (E := eI) elI (s := sl0) (xs := []) hA ok (.inl ⟨rfl, rfl⟩) ht htl (by simp; omega) fun s' tl' hs' ok' ap => ?_
  exact h s' tl' hs' ok' ap.apd

/-- Append of some numbers. -/
theorem w_appI {u : TypeId} {xs ys : List Int} {s t : Sl} {k : Sl → Tree} {pre tl : Bl} (hA : Aw I A) (ok : Ok I G (keys (pre ++ tl))) (hs : SlOf tl ty_int eI s xs) (ht : Row (own A (pre ++ tl) G) t.a (eI.all ys)) (htl : t.len = ys.length) (hm : xs.length + ys.length ≤ 1000000)
    (h : ∀ s' tl', SlOf tl' ty_int eI s' (xs ++ ys) → Ok I G (keys (pre ++ tl')) → Apd tl s tl' s' → wp Try.prog (k s') L (own A (pre ++ tl') G) R) :
    wp Try.prog (.act (opS Try.prog (.call { callee := .builtin .append, args := #[(.tmp 0), (.tmp 1)], argTypes := #[ty_s_int, ty_s_int] }) u [(.slice s.a s.len s.cap), (.slice t.a t.len t.cap)]) (.one (.leaf .slice)) k) L (own A (pre ++ tl) G) R :=
  w_appT (E := eI) elI hA ok hs ht htl (by omega) fun s' tl' hs' ok' ap => h s' tl' hs' ok' ap.apd

theorem Apd.none {tl tl' : Bl} {s' : Sl} (h : Apd tl sl0 tl' s') : ∀ p, p ∈ tl → p ∈ tl' := fun p hp => h.keep p.1 p.2 hp fun a ha => by cases ha

/-- A slice without its k-th number, in a new row. -/
theorem w_remove {xs : List Int} {s : Sl} {n : Int} {k : Sl → Tree} {pre tl : Bl} (hA : Aw I A) (ok : Ok I G (keys (pre ++ tl))) (hs : SlOf tl ty_int eI s xs) (h0 : 0 ≤ n) (h1 : n < xs.length) (hm : xs.length ≤ 100000)
    (h : ∀ s' tl', SlOf tl' ty_int eI s' (xs.take n.toNat ++ xs.drop (n.toNat + 1)) → Ok I G (keys (pre ++ tl')) → (∀ p, p ∈ tl → p ∈ tl') → (∀ a, s'.a = some a → a.block ∉ keys tl) → wp Try.prog (k s') L (own A (pre ++ tl') G) R) :
    wp Try.prog (.look (opS Try.prog (.slice ty_s_int (.tmp 0) none (some (.tmp 1)) none) ty_s_int [(.slice s.a s.len s.cap), (.int .i64 n)]) (.one (.leaf .slice)) fun x113 =>
      .look (opS Try.prog (.slice ty_s_int (.tmp 0) (some (.tmp 1)) none none) ty_s_int [(.slice s.a s.len s.cap), (.int .i64 (w64 (n + 1)))]) (.one (.leaf .slice)) fun x118 =>
      .act (opS Try.prog (.call { callee := .builtin .append, args := #[(.const (.slice none 0 0)), (.tmp 0)], argTypes := #[ty_s_int, ty_s_int] }) ty_s_int [(.slice x113.a x113.len x113.cap)]) (.one (.leaf .slice)) fun x114 =>
      .check (opS Try.prog (.slice ty_s_int (.tmp 0) (some (.tmp 1)) none none) ty_s_int [(.slice s.a s.len s.cap), (.int .i64 (w64 (n + 1)))]) (.slice x118.a x118.len x118.cap) <|
      .act (opS Try.prog (.call { callee := .builtin .append, args := #[(.tmp 0), (.tmp 1)], argTypes := #[ty_s_int, ty_s_int] }) ty_s_int [(.slice x114.a x114.len x114.cap), (.slice x118.a x118.len x118.cap)]) (.one (.leaf .slice)) k) L (own A (pre ++ tl) G) R := by
  have hl := hs.len
  have hc : (s.len : Int) ≤ s.cap := by
    rcases hs with ⟨rfl, _⟩ | ⟨b, rest, r, rfl, _⟩
    · exact Int.le_refl _
    · show ((xs.length : Nat) : Int) ≤ ((xs.length + r : Nat) : Int); omega
  have e1 : w64 (n + 1) = n + 1 := w64_in (by omega) (by omega)
  have e2 : (n + 1).toNat = n.toNat + 1 := by omega
  rw [e1]
  refine w_cut h0 (by omega) (w_cutLo (by omega) (by omega) ?_)
  refine w_appN (t := ⟨s.a, n.toNat, s.cap⟩) (ys := xs.take n.toNat) hA ok ?_ (by rw [List.length_take]; show n.toNat = _; omega) (by rw [List.length_take]; omega) fun s1 tl1 hs1 ok1 ap1 => ?_
  · exact (hs.take (n := n.toNat) (by omega)).mono (l' := pre ++ tl) (fun p hp => List.mem_append_right _ hp) |>.row hA ok
  refine ck_cutLo (by omega) (by omega) ?_
  have hsk : SlOf (pre ++ tl1) ty_int eI s xs := hs.mono fun p hp => List.mem_append_right _ (ap1.none p hp)
  obtain ⟨r1, r2⟩ := hsk.rowLo hA ok1 (n := (n + 1).toNat) (by omega)
  refine w_appI (ys := xs.drop (n + 1).toNat) hA ok1 hs1 r1 r2 (by rw [List.length_take, List.length_drop]; omega) fun s2 tl2 hs2 ok2 ap2 => ?_
  rw [e2] at hs2
  have n1 : ∀ a, s1.a = some a → a.block ∉ keys tl := fun a ha => by
    rcases ap1.at' with h | h
    · rw [h] at ha; cases ha
    · exact h a ha
  refine h s2 tl2 hs2 ok2 (fun p hp => ap2.keep p.1 p.2 (ap1.none p hp) fun a ha e => n1 a ha ?_) fun a ha => ?_
  · rw [e]; exact List.mem_map.2 ⟨p, hp, rfl⟩
  · rcases ap2.at' with h | h
    · rw [h] at ha; exact n1 a ha
    · intro hm
      obtain ⟨p, hp, e⟩ := List.mem_map.1 hm
      exact h a ha (List.mem_map.2 ⟨p, ap1.none p hp, e⟩)
end
end Go.Proofs.Ytjleoogieoahnaa

set_option linter.unusedVariables false
set_option maxRecDepth 20000
namespace Go.Proofs.Ytjleoogieoahnaa
open Go Go.Fw

/-- A machine whose rows lie among other blocks: rep tells how. -/
structure MchR (M J : Type) where
  f : FuncId
  addr : J → Nat
  bl : M → J → Bl
  rep : M → J → Prop
  inv : M → Ar → Prop
  step : M → Ar → M × Ar
  fin : M → Bool

def MchR.ok {M J : Type} (X : MchR M J) : Prop := ∀ (I : List Nat) (A : Ar) (G : Heap) (m : M) (j : J), Aw I A → Ok I G (keys (X.bl m j)) → X.rep m j → X.inv m A →
  SpecF Try.prog X.f #[.pointer (some ⟨X.addr j, 0, none⟩), .pointer (aI I)] (own A (X.bl m j) G) fun v K => ∃ j', v = .bool (X.fin (X.step m A).1) ∧ K = own (X.step m A).2 (X.bl (X.step m A).1 j') G ∧ X.addr j' = X.addr j ∧
    Ok I G (keys (X.bl (X.step m A).1 j')) ∧ X.rep (X.step m A).1 j' ∧ Aw I (X.step m A).2

/-- Alone, to the end. -/
inductive MchR.Runs {M J : Type} (X : MchR M J) : Nat → M → Ar → M → Ar → Prop
  | one {x : M} {D : Ar} {x1 : M} {D1 : Ar} : X.inv x D → X.step x D = (x1, D1) → D1.uses ≤ w64 (D.uses + 1) → X.fin x1 = true → Runs X 1 x D x1 D1
  | more {n : Nat} {x : M} {D : Ar} {x1 : M} {D1 : Ar} {x' : M} {D' : Ar} : X.inv x D → X.step x D = (x1, D1) → D1.uses ≤ w64 (D.uses + 1) → X.fin x1 = false → Runs X n x1 D1 x' D' → Runs X (n + 1) x D x' D'

def MchR.inv' {M J : Type} (X : MchR M J) (t : TypeId) : Prop := ∀ (q : Nat) (p : Option Addr), opS Try.prog (.call { callee := .invoke (.tmp 0) "Step", args := #[(.tmp 1)], argTypes := #[ty_p_arena_Arena] }) ty_bool [(.iface t (.pointer (some ⟨q, 0, none⟩))), (.pointer p)] =
    .pure (.enter X.f [.pointer (some ⟨q, 0, none⟩), .pointer p].toArray)

/-- Steps that do not end. -/
inductive MchR.Path {M J : Type} (X : MchR M J) : Nat → M → Ar → M → Ar → Prop
  | nil {x : M} {D : Ar} : Path X 0 x D x D
  | cons {n : Nat} {x : M} {D : Ar} {x1 : M} {D1 : Ar} {x' : M} {D' : Ar} : X.inv x D → X.step x D = (x1, D1) → D1.uses ≤ w64 (D.uses + 1) → X.fin x1 = false → Path X n x1 D1 x' D' → Path X (n + 1) x D x' D'
theorem MchR.Path.trans {M J : Type} {X : MchR M J} {k n : Nat} {m m1 m2 : M} {A A1 A2 : Ar} (h : X.Path k m A m1 A1) (g : X.Path n m1 A1 m2 A2) : X.Path (k + n) m A m2 A2 := by
  induction h with
  | nil => rw [Nat.zero_add]; exact g
  | @cons k m A m1 A1 m' A' h1 h2 h3 h4 _ ih =>
    have := ih g
    rw [show k + 1 + n = k + n + 1 by omega]
    exact .cons h1 h2 h3 h4 this
theorem MchR.Path.run {M J : Type} {X : MchR M J} {k n : Nat} {m m1 m2 : M} {A A1 A2 : Ar} (h : X.Path k m A m1 A1) (g : X.Runs n m1 A1 m2 A2) : X.Runs (k + n) m A m2 A2 := by
  induction h with
  | nil => rw [Nat.zero_add]; exact g
  | @cons k m A m1 A1 m' A' h1 h2 h3 h4 _ ih =>
    have := ih g
    rw [show k + 1 + n = k + n + 1 by omega]
    exact .more h1 h2 h3 h4 this

theorem w_makeR {L : Hands} {R : Value → Heap → Prop} {A : Ar} {I : List Nat} {l : Bl} {G : Heap} {f : FuncId} {args : List Value} {sh : Sh} {k : sh.T → Tree} {J : Type} {bl : J → Bl} {val : J → sh.T} {rep : J → Prop}
    (h : SpecF Try.prog f args.toArray (own A [] (putL l G)) fun v K => ∃ j, v = sh.toVal (val j) ∧ K = own A (bl j) (putL l G) ∧ Ok I (putL l G) (keys (bl j)) ∧ rep j) (ok : Ok I G (keys l))
    (hk : ∀ j, Ok I G (keys (bl j ++ l)) → rep j → wp Try.prog (k (val j)) L (own A (bl j ++ l) G) R) : wp Try.prog (.call f args sh k) L (own A l G) R := by
  refine wp_call_of h ?_
  rintro v K ⟨j, rfl, rfl, o, r⟩
  refine ⟨_, rfl, ?_⟩
  rw [← own_append]
  exact hk j (by rw [keys_append]; exact o.join ok) r

/-- The next blocks in front. -/
theorem own_rot' {I : List Nat} {A : Ar} {a b c : Bl} {G : Heap} (ok : Ok I G (keys (a ++ (b ++ c)))) : own A (a ++ (b ++ c)) G = own A (b ++ (a ++ c)) G ∧ Ok I G (keys (b ++ (a ++ c))) := own_rot ok

/-- A slice that begins somewhere in its block. -/
def SlAt {α : Type} (l : Bl) (e : TypeId) (E : Enc α) (s : Sl) (xs : List α) : Prop :=
  (s = ⟨none, 0, 0⟩ ∧ xs = []) ∨ ∃ (b : Nat) (pre rest : List Value) (r : Nat), s = ⟨some ⟨b, pre.length, none⟩, xs.length, xs.length + r⟩ ∧ r * E.sz ≤ rest.length ∧ (b, oc e (pre ++ E.all xs ++ rest)) ∈ l
theorem SlOf.at' {α : Type} {l : Bl} {e : TypeId} {E : Enc α} {s : Sl} {xs : List α} (h : SlOf l e E s xs) : SlAt l e E s xs := by
  rcases h with h | ⟨b, rest, r, h1, h2, h3⟩
  · exact .inl h
  · exact .inr ⟨b, [], rest, r, h1, by omega, h3⟩
theorem SlAt.len {α : Type} {l : Bl} {e : TypeId} {E : Enc α} {s : Sl} {xs : List α} (h : SlAt l e E s xs) : s.len = xs.length := by
  rcases h with ⟨rfl, rfl⟩ | ⟨b, pre, rest, r, rfl, _⟩ <;> rfl
theorem SlAt.mono {α : Type} {l l' : Bl} {e : TypeId} {E : Enc α} {s : Sl} {xs : List α} (h : SlAt l e E s xs) (hm : ∀ p, p ∈ l → p ∈ l') : SlAt l' e E s xs := by
  rcases h with h | ⟨b, pre, rest, r, h1, h2, h3⟩
  · exact .inl h
  · exact .inr ⟨b, pre, rest, r, h1, h2, hm _ h3⟩

/-- Pointers to blocks. -/
def eP : Enc Nat := ⟨1, fun q => [.pointer (some ⟨q, 0, none⟩)], fun _ => rfl, fun x v h => by simp at h; subst h; rfl⟩
theorem eP_all (xs : List Nat) : eP.all xs = xs.map fun q => Value.pointer (some ⟨q, 0, none⟩) := by
  induction xs with
  | nil => rfl
  | cons x xs ih => show Value.pointer (some ⟨x, 0, none⟩) :: eP.all xs = _; rw [ih]; rfl

/-- The rest of a slice of pointers. -/
theorem SlAt.tail {l : Bl} {e : TypeId} {s : Sl} {x : Nat} {xs : List Nat} (h : SlAt l e eP s (x :: xs)) : SlAt l e eP (loSl s 1) xs ∧ (1 : Int) ≤ (s.len : Int) := by
  rcases h with ⟨_, h⟩ | ⟨b, pre, rest, r, rfl, h2, h3⟩
  · cases h
  · refine ⟨?_, by show (1 : Int) ≤ ((xs.length + 1 : Nat) : Int); omega⟩
    unfold loSl
    dsimp only
    by_cases e : (x :: xs).length + r = 1
    · rw [if_pos e]
      have hx : xs = [] := by simp only [List.length_cons] at e; exact List.eq_nil_of_length_eq_zero (by omega)
      have hr : r = 0 := by simp only [List.length_cons] at e; omega
      subst hx; subst hr
      exact .inr ⟨b, pre, eP.all [x] ++ rest, 0, rfl, by omega, by rw [show eP.all ([] : List Nat) = [] from rfl, List.append_nil, ← List.append_assoc]; exact h3⟩
    · rw [if_neg e]
      refine .inr ⟨b, pre ++ [.pointer (some ⟨x, 0, none⟩)], rest, r, ?_, h2, ?_⟩
      · show Sl.mk (some ((Addr.mk b pre.length none).add 1)) _ _ = _
        rw [Addr.add_mk, List.length_append]
        simp only [List.length_cons, List.length_nil, Sl.mk.injEq, true_and]
        omega
      · have : eP.all (x :: xs) = [.pointer (some ⟨x, 0, none⟩)] ++ eP.all xs := rfl
        rw [this] at h3
        simpa using h3
end Go.Proofs.Ytjleoogieoahnaa

set_option linter.unusedVariables false
set_option maxRecDepth 20000
namespace Go.Proofs.Ytjleoogieoahnaa
open Go Go.Fw

/-! ### Blocks in another order; appends, rows and maps among them -/

section
variable {L : Hands} {R : Value → Heap → Prop} {A : Ar} {I : List Nat} {l l' : Bl} {G : Heap}

theorem Heap.le_antisymm {H K : Heap} (h : H.le K) (k : K.le H) : H = K := by
  funext b
  cases hb : H b with
  | some o => exact (h b o hb).symm
  | none =>
    cases kb : K b with
    | none => rfl
    | some o => rw [k b o kb] at hb; cases hb

theorem own_perm (ok : Ok I G (keys l)) (h : l.Perm l') : own A l G = own A l' G ∧ Ok I G (keys l') := by
  have hk : (keys l').Perm (keys l) := (h.map Prod.fst).symm
  have ok' : Ok I G (keys l') := ok.sub (hk.nodup_iff.2 ok.nd) fun b hb => hk.subset hb
  exact ⟨Heap.le_antisymm (own_sub ok' ok.nd fun p hp => h.subset hp) (own_sub ok ok'.nd fun p hp => h.symm.subset hp), ok'⟩

theorem own_perm2 (h : l.Perm l') (ok : Ok I G (keys l)) : own A l G = own A l' G ∧ Ok I G (keys l') := own_perm ok h

theorem row_le {H K : Heap} {a : Option Addr} {cs : List Value} (h : Row H a cs) (hk : H.le K) : Row K a cs := by
  intro i hi
  obtain ⟨a', h1, h2⟩ := h i hi
  refine ⟨a', h1, ?_⟩
  rw [List.getElem?_eq_getElem hi] at h2 ⊢
  unfold Heap.cell? at h2 ⊢
  cases hb : H (a'.add i).block with
  | none => simp [hb] at h2
  | some o => rw [hb] at h2; rw [hk _ o hb]; exact h2

/-- Append, of a slice among others. -/
theorem w_appM {sT e u : TypeId} {α : Type} {E : Enc α} (hE : ElOk sT e E.sz) {xs ys : List α} {s t : Sl} {k : Sl → Tree} (pre : Bl) {mid post : Bl} (hA : Aw I A) (ok : Ok I G (keys (pre ++ (mid ++ post)))) (hs : SlOf mid e E s xs) (ht : Row (own A (pre ++ (mid ++ post)) G) t.a (E.all ys)) (htl : t.len = ys.length) (hm : xs.length + ys.length ≤ 1048576)
    (h : ∀ s' mid', SlOf mid' e E s' (xs ++ ys) → Ok I G (keys (pre ++ (mid' ++ post))) → wp Try.prog (k s') L (own A (pre ++ (mid' ++ post)) G) R) :
    wp Try.prog (.act (opS Try.prog (.call { callee := .builtin .append, args := #[(.tmp 0), (.tmp 1)], argTypes := #[sT, sT] }) u [(.slice s.a s.len s.cap), (.slice t.a t.len t.cap)]) (.one (.leaf .slice)) k) L (own A (pre ++ (mid ++ post)) G) R := by
  have perm : ∀ m : Bl, (pre ++ (m ++ post)).Perm ((pre ++ post) ++ m) := fun m => by
    rw [List.append_assoc]; exact List.Perm.append_left _ List.perm_append_comm
  obtain ⟨e1, o1⟩ := own_perm (A := A) ok (perm mid)
  rw [e1] at ht ⊢
  refine w_appT hE hA o1 hs ht htl hm fun s' mid' hs' ok' _ => ?_
  obtain ⟨e2, o2⟩ := own_perm (A := A) ok' (perm mid').symm
  rw [e2]
  exact h s' mid' hs' o2

/-- Look up, put, clear. -/
theorem w_lookup (i : Nat) {V : Type} {enc : V → Value} {c : List (Int × V)} {b : Nat} {kt et t u : TypeId} {x : Int} {inf : TypeInfo} {z : Value} {sh : Sh} {k : sh.T → Tree} {y : sh.T} (hA : Aw I A) (ok : Ok I G (keys l)) (hi : l[i]? = some (b, mapObj enc c)) (ht : Try.prog.underlying t = some (.map kt et))
    (hk : Try.prog.underlying kt = some (.int .i64)) (hin : Try.prog.info? et = some inf) (hz : inf.zero = some z) (hy : (match alGet c x with | some v => enc v | none => z) = sh.toVal y) (h : wp Try.prog (k y) L (own A l G) R) :
    wp Try.prog (.look (opS Try.prog (.lookup t (.tmp 0) (.tmp 1) false) u [.map (some b), .int .i64 x]) sh k) L (own A l G) R :=
  wp_lookup (own_get hA ok hi) ht hk hin hz hy h
theorem w_mapPut (i : Nat) {V : Type} {enc : V → Value} {c : List (Int × V)} {b : Nat} {kt et t u : TypeId} {x : Int} {v : V} {k : Unit → Tree} (hA : Aw I A) (ok : Ok I G (keys l)) (hi : l[i]? = some (b, mapObj enc c)) (ht : Try.prog.underlying t = some (.map kt et))
    (hk : Try.prog.underlying kt = some (.int .i64)) (h : wp Try.prog (k ()) L (own A (l.set i (b, mapObj enc (alPut c x v))) G) R) :
    wp Try.prog (.act (opS Try.prog (.mapUpdate t (.tmp 0) (.tmp 1) (.tmp 2)) u [.map (some b), .int .i64 x, enc v]) .unit k) L (own A l G) R :=
  wp_mapUpdate (own_get hA ok hi) ht hk (by rw [own_set hA ok _ hi]; exact h)
theorem opS_mapTrue {t u : TypeId} (m x : Value) : opS Try.prog (.mapUpdate t (.tmp 0) (.tmp 1) (.const (.bool true))) u [m, x] = opS Try.prog (.mapUpdate t (.tmp 0) (.tmp 1) (.tmp 2)) u [m, x, .bool true] := by kernel_rfl
theorem w_clear (i : Nat) {es : Array MapEntry} {n b : Nat} {t u : TypeId} {d : TypeDesc} {k : Unit → Tree} (hA : Aw I A) (ok : Ok I G (keys l)) (hi : l[i]? = some (b, .map es n)) (ht : Try.prog.underlying t = some d) (h : wp Try.prog (k ()) L (own A (l.set i (b, .map #[] n)) G) R) :
    wp Try.prog (.act (opS Try.prog (.call { callee := .builtin .clear, args := #[.tmp 0], argTypes := #[t] }) u [.map (some b)]) .unit k) L (own A l G) R :=
  wp_clear (own_get hA ok hi) ht (by rw [own_set hA ok _ hi]; exact h)
end
theorem perm_by {l l' : Bl} (h : ∀ (c : List (Nat × Obj) → Nat) (d : Nat × Obj → Nat), c [] = 0 → (∀ a l, c (a :: l) = d a + c l) → (∀ a b, c (a ++ b) = c a + c b) → c l = c l') : l.Perm l' := by
  classical
  refine List.perm_iff_count.2 fun a => ?_
  refine h (List.count a) (fun x => List.count a [x]) rfl (fun x l => ?_) fun x y => List.count_append ..
  rw [show x :: l = [x] ++ l from rfl, List.count_append]

end Go.Proofs.Ytjleoogieoahnaa

set_option linter.unusedVariables false
namespace Go.Proofs.Ytjleoogieoahnaa
open Go Go.Fw

theorem wl_bi {L : Hands} {H : Heap} {R : Value → Heap → Prop} {n : Nat} {init : List Value} {body : HL Sh1.T [.leaf .bool, .leaf (.int .i64)] → Tree} (I : Bool → Int → Heap → Prop) (m : Bool → Int → Nat) (x0 : Bool) (x1 : Int) (hi : I x0 x1 H)
    (hstep : ∀ (x0 : Bool) (x1 : Int) H', I x0 x1 H' → wp Try.prog (body (x0, x1, ())) (L.set n fun vals H'' => ∃ (y0 : Bool) (y1 : Int), vals = [.bool y0, .int .i64 y1] ∧ I y0 y1 H'' ∧ m y0 y1 < m x0 x1) H' R) (h0 : init = [.bool x0, .int .i64 x1] := by rfl) :
    wp Try.prog (.loop n [.leaf .bool, .leaf (.int .i64)] init body) L H R := by
  refine wp_loop_inv (fun x K => I x.1 x.2.1 K) (fun x _ => m x.1 x.2.1) (x0, x1, ()) h0 hi ?_
  rintro ⟨x0, x1, u⟩ K hI
  refine Go.Fw.wp_mono _ (hstep x0 x1 K hI) (fun k vals H'' hk => ?_) (fun _ _ h => h)
  unfold Hands.set at *
  split at hk
  · rename_i e; rw [if_pos e]; obtain ⟨y0, y1, h1, h2, h3⟩ := hk; exact ⟨(y0, y1, ()), h1, h2, h3⟩
  · rename_i e; rw [if_neg e]; exact hk
theorem wl_bii {L : Hands} {H : Heap} {R : Value → Heap → Prop} {n : Nat} {init : List Value} {body : HL Sh1.T [.leaf .bool, .leaf (.int .i64), .leaf (.int .i64)] → Tree} (I : Bool → Int → Int → Heap → Prop) (m : Bool → Int → Int → Nat) (x0 : Bool) (x1 : Int) (x2 : Int) (hi : I x0 x1 x2 H)
    (hstep : ∀ (x0 : Bool) (x1 : Int) (x2 : Int) H', I x0 x1 x2 H' → wp Try.prog (body (x0, x1, x2, ())) (L.set n fun vals H'' => ∃ (y0 : Bool) (y1 : Int) (y2 : Int), vals = [.bool y0, .int .i64 y1, .int .i64 y2] ∧ I y0 y1 y2 H'' ∧ m y0 y1 y2 < m x0 x1 x2) H' R) (h0 : init = [.bool x0, .int .i64 x1, .int .i64 x2] := by rfl) :
    wp Try.prog (.loop n [.leaf .bool, .leaf (.int .i64), .leaf (.int .i64)] init body) L H R := by
  refine wp_loop_inv (fun x K => I x.1 x.2.1 x.2.2.1 K) (fun x _ => m x.1 x.2.1 x.2.2.1) (x0, x1, x2, ()) h0 hi ?_
  rintro ⟨x0, x1, x2, u⟩ K hI
  refine Go.Fw.wp_mono _ (hstep x0 x1 x2 K hI) (fun k vals H'' hk => ?_) (fun _ _ h => h)
  unfold Hands.set at *
  split at hk
  · rename_i e; rw [if_pos e]; obtain ⟨y0, y1, y2, h1, h2, h3⟩ := hk; exact ⟨(y0, y1, y2, ()), h1, h2, h3⟩
  · rename_i e; rw [if_neg e]; exact hk
theorem wl_biii {L : Hands} {H : Heap} {R : Value → Heap → Prop} {n : Nat} {init : List Value} {body : HL Sh1.T [.leaf .bool, .leaf (.int .i64), .leaf (.int .i64), .leaf (.int .i64)] → Tree} (I : Bool → Int → Int → Int → Heap → Prop) (m : Bool → Int → Int → Int → Nat) (x0 : Bool) (x1 : Int) (x2 : Int) (x3 : Int) (hi : I x0 x1 x2 x3 H)
    (hstep : ∀ (x0 : Bool) (x1 : Int) (x2 : Int) (x3 : Int) H', I x0 x1 x2 x3 H' → wp Try.prog (body (x0, x1, x2, x3, ())) (L.set n fun vals H'' => ∃ (y0 : Bool) (y1 : Int) (y2 : Int) (y3 : Int), vals = [.bool y0, .int .i64 y1, .int .i64 y2, .int .i64 y3] ∧ I y0 y1 y2 y3 H'' ∧ m y0 y1 y2 y3 < m x0 x1 x2 x3) H' R) (h0 : init = [.bool x0, .int .i64 x1, .int .i64 x2, .int .i64 x3] := by rfl) :
    wp Try.prog (.loop n [.leaf .bool, .leaf (.int .i64), .leaf (.int .i64), .leaf (.int .i64)] init body) L H R := by
  refine wp_loop_inv (fun x K => I x.1 x.2.1 x.2.2.1 x.2.2.2.1 K) (fun x _ => m x.1 x.2.1 x.2.2.1 x.2.2.2.1) (x0, x1, x2, x3, ()) h0 hi ?_
  rintro ⟨x0, x1, x2, x3, u⟩ K hI
  refine Go.Fw.wp_mono _ (hstep x0 x1 x2 x3 K hI) (fun k vals H'' hk => ?_) (fun _ _ h => h)
  unfold Hands.set at *
  split at hk
  · rename_i e; rw [if_pos e]; obtain ⟨y0, y1, y2, y3, h1, h2, h3⟩ := hk; exact ⟨(y0, y1, y2, y3, ()), h1, h2, h3⟩
  · rename_i e; rw [if_neg e]; exact hk
theorem wl_bsi {L : Hands} {H : Heap} {R : Value → Heap → Prop} {n : Nat} {init : List Value} {body : HL Sh1.T [.leaf .bool, .leaf .slice, .leaf (.int .i64)] → Tree} (I : Bool → Sl → Int → Heap → Prop) (m : Bool → Sl → Int → Nat) (x0 : Bool) (x1 : Sl) (x2 : Int) (hi : I x0 x1 x2 H)
    (hstep : ∀ (x0 : Bool) (x1 : Sl) (x2 : Int) H', I x0 x1 x2 H' → wp Try.prog (body (x0, x1, x2, ())) (L.set n fun vals H'' => ∃ (y0 : Bool) (y1 : Sl) (y2 : Int), vals = [.bool y0, .slice y1.a y1.len y1.cap, .int .i64 y2] ∧ I y0 y1 y2 H'' ∧ m y0 y1 y2 < m x0 x1 x2) H' R) (h0 : init = [.bool x0, .slice x1.a x1.len x1.cap, .int .i64 x2] := by rfl) :
    wp Try.prog (.loop n [.leaf .bool, .leaf .slice, .leaf (.int .i64)] init body) L H R := by
  refine wp_loop_inv (fun x K => I x.1 x.2.1 x.2.2.1 K) (fun x _ => m x.1 x.2.1 x.2.2.1) (x0, x1, x2, ()) h0 hi ?_
  rintro ⟨x0, x1, x2, u⟩ K hI
  refine Go.Fw.wp_mono _ (hstep x0 x1 x2 K hI) (fun k vals H'' hk => ?_) (fun _ _ h => h)
  unfold Hands.set at *
  split at hk
  · rename_i e; rw [if_pos e]; obtain ⟨y0, y1, y2, h1, h2, h3⟩ := hk; exact ⟨(y0, y1, y2, ()), h1, h2, h3⟩
  · rename_i e; rw [if_neg e]; exact hk
theorem wl_bsii {L : Hands} {H : Heap} {R : Value → Heap → Prop} {n : Nat} {init : List Value} {body : HL Sh1.T [.leaf .bool, .leaf .slice, .leaf (.int .i64), .leaf (.int .i64)] → Tree} (I : Bool → Sl → Int → Int → Heap → Prop) (m : Bool → Sl → Int → Int → Nat) (x0 : Bool) (x1 : Sl) (x2 : Int) (x3 : Int) (hi : I x0 x1 x2 x3 H)
    (hstep : ∀ (x0 : Bool) (x1 : Sl) (x2 : Int) (x3 : Int) H', I x0 x1 x2 x3 H' → wp Try.prog (body (x0, x1, x2, x3, ())) (L.set n fun vals H'' => ∃ (y0 : Bool) (y1 : Sl) (y2 : Int) (y3 : Int), vals = [.bool y0, .slice y1.a y1.len y1.cap, .int .i64 y2, .int .i64 y3] ∧ I y0 y1 y2 y3 H'' ∧ m y0 y1 y2 y3 < m x0 x1 x2 x3) H' R) (h0 : init = [.bool x0, .slice x1.a x1.len x1.cap, .int .i64 x2, .int .i64 x3] := by rfl) :
    wp Try.prog (.loop n [.leaf .bool, .leaf .slice, .leaf (.int .i64), .leaf (.int .i64)] init body) L H R := by
  refine wp_loop_inv (fun x K => I x.1 x.2.1 x.2.2.1 x.2.2.2.1 K) (fun x _ => m x.1 x.2.1 x.2.2.1 x.2.2.2.1) (x0, x1, x2, x3, ()) h0 hi ?_
  rintro ⟨x0, x1, x2, x3, u⟩ K hI
  refine Go.Fw.wp_mono _ (hstep x0 x1 x2 x3 K hI) (fun k vals H'' hk => ?_) (fun _ _ h => h)
  unfold Hands.set at *
  split at hk
  · rename_i e; rw [if_pos e]; obtain ⟨y0, y1, y2, y3, h1, h2, h3⟩ := hk; exact ⟨(y0, y1, y2, y3, ()), h1, h2, h3⟩
  · rename_i e; rw [if_neg e]; exact hk
theorem wl_bsiii {L : Hands} {H : Heap} {R : Value → Heap → Prop} {n : Nat} {init : List Value} {body : HL Sh1.T [.leaf .bool, .leaf .slice, .leaf (.int .i64), .leaf (.int .i64), .leaf (.int .i64)] → Tree} (I : Bool → Sl → Int → Int → Int → Heap → Prop) (m : Bool → Sl → Int → Int → Int → Nat) (x0 : Bool) (x1 : Sl) (x2 : Int) (x3 : Int) (x4 : Int) (hi : I x0 x1 x2 x3 x4 H)
    (hstep : ∀ (x0 : Bool) (x1 : Sl) (x2 : Int) (x3 : Int) (x4 : Int) H', I x0 x1 x2 x3 x4 H' → wp Try.prog (body (x0, x1, x2, x3, x4, ())) (L.set n fun vals H'' => ∃ (y0 : Bool) (y1 : Sl) (y2 : Int) (y3 : Int) (y4 : Int), vals = [.bool y0, .slice y1.a y1.len y1.cap, .int .i64 y2, .int .i64 y3, .int .i64 y4] ∧ I y0 y1 y2 y3 y4 H'' ∧ m y0 y1 y2 y3 y4 < m x0 x1 x2 x3 x4) H' R) (h0 : init = [.bool x0, .slice x1.a x1.len x1.cap, .int .i64 x2, .int .i64 x3, .int .i64 x4] := by rfl) :
    wp Try.prog (.loop n [.leaf .bool, .leaf .slice, .leaf (.int .i64), .leaf (.int .i64), .leaf (.int .i64)] init body) L H R := by
  refine wp_loop_inv (fun x K => I x.1 x.2.1 x.2.2.1 x.2.2.2.1 x.2.2.2.2.1 K) (fun x _ => m x.1 x.2.1 x.2.2.1 x.2.2.2.1 x.2.2.2.2.1) (x0, x1, x2, x3, x4, ()) h0 hi ?_
  rintro ⟨x0, x1, x2, x3, x4, u⟩ K hI
  refine Go.Fw.wp_mono _ (hstep x0 x1 x2 x3 x4 K hI) (fun k vals H'' hk => ?_) (fun _ _ h => h)
  unfold Hands.set at *
  split at hk
  · rename_i e; rw [if_pos e]; obtain ⟨y0, y1, y2, y3, y4, h1, h2, h3⟩ := hk; exact ⟨(y0, y1, y2, y3, y4, ()), h1, h2, h3⟩
  · rename_i e; rw [if_neg e]; exact hk
theorem wl_bssi {L : Hands} {H : Heap} {R : Value → Heap → Prop} {n : Nat} {init : List Value} {body : HL Sh1.T [.leaf .bool, .leaf .slice, .leaf .slice, .leaf (.int .i64)] → Tree} (I : Bool → Sl → Sl → Int → Heap → Prop) (m : Bool → Sl → Sl → Int → Nat) (x0 : Bool) (x1 : Sl) (x2 : Sl) (x3 : Int) (hi : I x0 x1 x2 x3 H)
    (hstep : ∀ (x0 : Bool) (x1 : Sl) (x2 : Sl) (x3 : Int) H', I x0 x1 x2 x3 H' → wp Try.prog (body (x0, x1, x2, x3, ())) (L.set n fun vals H'' => ∃ (y0 : Bool) (y1 : Sl) (y2 : Sl) (y3 : Int), vals = [.bool y0, .slice y1.a y1.len y1.cap, .slice y2.a y2.len y2.cap, .int .i64 y3] ∧ I y0 y1 y2 y3 H'' ∧ m y0 y1 y2 y3 < m x0 x1 x2 x3) H' R) (h0 : init = [.bool x0, .slice x1.a x1.len x1.cap, .slice x2.a x2.len x2.cap, .int .i64 x3] := by rfl) :
    wp Try.prog (.loop n [.leaf .bool, .leaf .slice, .leaf .slice, .leaf (.int .i64)] init body) L H R := by
  refine wp_loop_inv (fun x K => I x.1 x.2.1 x.2.2.1 x.2.2.2.1 K) (fun x _ => m x.1 x.2.1 x.2.2.1 x.2.2.2.1) (x0, x1, x2, x3, ()) h0 hi ?_
  rintro ⟨x0, x1, x2, x3, u⟩ K hI
  refine Go.Fw.wp_mono _ (hstep x0 x1 x2 x3 K hI) (fun k vals H'' hk => ?_) (fun _ _ h => h)
  unfold Hands.set at *
  split at hk
  · rename_i e; rw [if_pos e]; obtain ⟨y0, y1, y2, y3, h1, h2, h3⟩ := hk; exact ⟨(y0, y1, y2, y3, ()), h1, h2, h3⟩
  · rename_i e; rw [if_neg e]; exact hk
theorem wl_i {L : Hands} {H : Heap} {R : Value → Heap → Prop} {n : Nat} {init : List Value} {body : HL Sh1.T [.leaf (.int .i64)] → Tree} (I : Int → Heap → Prop) (m : Int → Nat) (x0 : Int) (hi : I x0 H)
    (hstep : ∀ (x0 : Int) H', I x0 H' → wp Try.prog (body (x0, ())) (L.set n fun vals H'' => ∃ (y0 : Int), vals = [.int .i64 y0] ∧ I y0 H'' ∧ m y0 < m x0) H' R) (h0 : init = [.int .i64 x0] := by rfl) :
    wp Try.prog (.loop n [.leaf (.int .i64)] init body) L H R := by
  refine wp_loop_inv (fun x K => I x.1 K) (fun x _ => m x.1) (x0, ()) h0 hi ?_
  rintro ⟨x0, u⟩ K hI
  refine Go.Fw.wp_mono _ (hstep x0 K hI) (fun k vals H'' hk => ?_) (fun _ _ h => h)
  unfold Hands.set at *
  split at hk
  · rename_i e; rw [if_pos e]; obtain ⟨y0, h1, h2, h3⟩ := hk; exact ⟨(y0, ()), h1, h2, h3⟩
  · rename_i e; rw [if_neg e]; exact hk
theorem wl_ii {L : Hands} {H : Heap} {R : Value → Heap → Prop} {n : Nat} {init : List Value} {body : HL Sh1.T [.leaf (.int .i64), .leaf (.int .i64)] → Tree} (I : Int → Int → Heap → Prop) (m : Int → Int → Nat) (x0 : Int) (x1 : Int) (hi : I x0 x1 H)
    (hstep : ∀ (x0 : Int) (x1 : Int) H', I x0 x1 H' → wp Try.prog (body (x0, x1, ())) (L.set n fun vals H'' => ∃ (y0 : Int) (y1 : Int), vals = [.int .i64 y0, .int .i64 y1] ∧ I y0 y1 H'' ∧ m y0 y1 < m x0 x1) H' R) (h0 : init = [.int .i64 x0, .int .i64 x1] := by rfl) :
    wp Try.prog (.loop n [.leaf (.int .i64), .leaf (.int .i64)] init body) L H R := by
  refine wp_loop_inv (fun x K => I x.1 x.2.1 K) (fun x _ => m x.1 x.2.1) (x0, x1, ()) h0 hi ?_
  rintro ⟨x0, x1, u⟩ K hI
  refine Go.Fw.wp_mono _ (hstep x0 x1 K hI) (fun k vals H'' hk => ?_) (fun _ _ h => h)
  unfold Hands.set at *
  split at hk
  · rename_i e; rw [if_pos e]; obtain ⟨y0, y1, h1, h2, h3⟩ := hk; exact ⟨(y0, y1, ()), h1, h2, h3⟩
  · rename_i e; rw [if_neg e]; exact hk
theorem wl_si {L : Hands} {H : Heap} {R : Value → Heap → Prop} {n : Nat} {init : List Value} {body : HL Sh1.T [.leaf .slice, .leaf (.int .i64)] → Tree} (I : Sl → Int → Heap → Prop) (m : Sl → Int → Nat) (x0 : Sl) (x1 : Int) (hi : I x0 x1 H)
    (hstep : ∀ (x0 : Sl) (x1 : Int) H', I x0 x1 H' → wp Try.prog (body (x0, x1, ())) (L.set n fun vals H'' => ∃ (y0 : Sl) (y1 : Int), vals = [.slice y0.a y0.len y0.cap, .int .i64 y1] ∧ I y0 y1 H'' ∧ m y0 y1 < m x0 x1) H' R) (h0 : init = [.slice x0.a x0.len x0.cap, .int .i64 x1] := by rfl) :
    wp Try.prog (.loop n [.leaf .slice, .leaf (.int .i64)] init body) L H R := by
  refine wp_loop_inv (fun x K => I x.1 x.2.1 K) (fun x _ => m x.1 x.2.1) (x0, x1, ()) h0 hi ?_
  rintro ⟨x0, x1, u⟩ K hI
  refine Go.Fw.wp_mono _ (hstep x0 x1 K hI) (fun k vals H'' hk => ?_) (fun _ _ h => h)
  unfold Hands.set at *
  split at hk
  · rename_i e; rw [if_pos e]; obtain ⟨y0, y1, h1, h2, h3⟩ := hk; exact ⟨(y0, y1, ()), h1, h2, h3⟩
  · rename_i e; rw [if_neg e]; exact hk
theorem wl_pssi {L : Hands} {H : Heap} {R : Value → Heap → Prop} {n : Nat} {init : List Value} {body : HL Sh1.T [.leaf .ptr, .leaf .slice, .leaf .slice, .leaf (.int .i64)] → Tree} (I : Option Addr → Sl → Sl → Int → Heap → Prop) (m : Option Addr → Sl → Sl → Int → Nat) (x0 : Option Addr) (x1 : Sl) (x2 : Sl) (x3 : Int) (hi : I x0 x1 x2 x3 H)
    (hstep : ∀ (x0 : Option Addr) (x1 : Sl) (x2 : Sl) (x3 : Int) H', I x0 x1 x2 x3 H' → wp Try.prog (body (x0, x1, x2, x3, ())) (L.set n fun vals H'' => ∃ (y0 : Option Addr) (y1 : Sl) (y2 : Sl) (y3 : Int), vals = [.pointer y0, .slice y1.a y1.len y1.cap, .slice y2.a y2.len y2.cap, .int .i64 y3] ∧ I y0 y1 y2 y3 H'' ∧ m y0 y1 y2 y3 < m x0 x1 x2 x3) H' R) (h0 : init = [.pointer x0, .slice x1.a x1.len x1.cap, .slice x2.a x2.len x2.cap, .int .i64 x3] := by rfl) :
    wp Try.prog (.loop n [.leaf .ptr, .leaf .slice, .leaf .slice, .leaf (.int .i64)] init body) L H R := by
  refine wp_loop_inv (fun x K => I x.1 x.2.1 x.2.2.1 x.2.2.2.1 K) (fun x _ => m x.1 x.2.1 x.2.2.1 x.2.2.2.1) (x0, x1, x2, x3, ()) h0 hi ?_
  rintro ⟨x0, x1, x2, x3, u⟩ K hI
  refine Go.Fw.wp_mono _ (hstep x0 x1 x2 x3 K hI) (fun k vals H'' hk => ?_) (fun _ _ h => h)
  unfold Hands.set at *
  split at hk
  · rename_i e; rw [if_pos e]; obtain ⟨y0, y1, y2, y3, h1, h2, h3⟩ := hk; exact ⟨(y0, y1, y2, y3, ()), h1, h2, h3⟩
  · rename_i e; rw [if_neg e]; exact hk
end Go.Proofs.Ytjleoogieoahnaa

set_option linter.unusedVariables false
set_option maxRecDepth 10000
namespace Go.Proofs.Ytjleoogieoahnaa
open Go Go.Fw
/- magpie/future.Raw -/
noncomputable def t_future_Raw (p0 : Int) (p1 : Int) : Tree :=
  .ret (.int .i64 (w64 (2 * (imax p0 0))))
theorem t_future_Raw_eq (p0 : Int) (p1 : Int) : funcTree Try.prog { quiet := [10, 23, 25, 26, 30, 37, 42, 45, 47, 54, 73], quietTmp := true, fncs := [], ifcs := [] } Try.f30 [(.int .i64 p0), (.int .i64 p1)] = t_future_Raw p0 p1 := by kernel_rfl
theorem t_future_Raw_spec {p0 : Int} {p1 : Int} {H : Heap} {R : Value → Heap → Prop} (h : ∀ L, wp Try.prog (t_future_Raw p0 p1) L H R) : SpecF Try.prog f_future_Raw #[(.int .i64 p0), (.int .i64 p1)] H R :=
  spec_of_tree (cfg := { quiet := [10, 23, 25, 26, 30, 37, 42, 45, 47, 54, 73], quietTmp := true, fncs := [], ifcs := [] }) Try.func30 fun L => (t_future_Raw_eq p0 p1).symm ▸ h L

/- magpie/future.Word -/
noncomputable def t_future_Word (p0 : Int) (p1 : Int) (p2 : Int) : Tree :=
  .ret (.int .i64 (w64 ((w64 (p0 + (w64 (2 * p1)))) + p2)))
theorem t_future_Word_eq (p0 : Int) (p1 : Int) (p2 : Int) : funcTree Try.prog { quiet := [10, 23, 25, 26, 30, 37, 42, 45, 47, 54, 73], quietTmp := true, fncs := [], ifcs := [] } Try.f37 [(.int .i64 p0), (.int .i64 p1), (.int .i64 p2)] = t_future_Word p0 p1 p2 := by kernel_rfl
theorem t_future_Word_spec {p0 : Int} {p1 : Int} {p2 : Int} {H : Heap} {R : Value → Heap → Prop} (h : ∀ L, wp Try.prog (t_future_Word p0 p1 p2) L H R) : SpecF Try.prog f_future_Word #[(.int .i64 p0), (.int .i64 p1), (.int .i64 p2)] H R :=
  spec_of_tree (cfg := { quiet := [10, 23, 25, 26, 30, 37, 42, 45, 47, 54, 73], quietTmp := true, fncs := [], ifcs := [] }) Try.func37 fun L => (t_future_Word_eq p0 p1 p2).symm ▸ h L

/- magpie/future.of -/
noncomputable def t_future_of (p0 : Int) (p1 : Int) (p2 : Int) : Tree :=
  .newP (.cells #[(.int .i64 0), (.int .i64 0), (.int .i64 0), (.int .i64 0), (.bool false)] ty_future_place) fun x6 =>
  .newP (.cells #[(.int .i64 0), (.int .i64 0), (.int .i64 0), (.int .i64 0), (.bool false)] ty_future_place) fun x7 =>
  .stA x7 [(.int .i64 0), (.int .i64 0), (.int .i64 p2), (.int .i64 0), (.bool false)] <|
  .look (opS Try.prog (.slice ty_a2_int (.tmp 0) none none none) ty_s_int [(.pointer (some x7))]) (.one (.leaf .slice)) fun x11 =>
  .qcall f_future_Word [(.int .i64 p0), (.int .i64 p1), (.int .i64 0)] (.one (.leaf (.int .i64))) fun x14 =>
  .qcall f_future_Word [(.int .i64 p0), (.int .i64 p1), (.int .i64 1)] (.one (.leaf (.int .i64))) fun x17 =>
  .newS (.cells #[(.int .i64 x14), (.int .i64 x17)] ty_int) 2 fun x18 =>
  .check (opS Try.prog (.slice ty_a2_int (.tmp 0) none none none) ty_s_int [(.pointer (some x7))]) (.slice x11.a x11.len x11.cap) <|
  .act (opS Try.prog (.call { callee := .builtin .copy, args := #[(.tmp 0), (.tmp 1)], argTypes := #[ty_s_int, ty_s_int] }) ty_int [(.slice x11.a x11.len x11.cap), (.slice x18.a x18.len x18.cap)]) (.one (.leaf (.int .i64))) fun x19 =>
  .ldA x7 [(.int .i64), (.int .i64), (.int .i64), (.int .i64), .bool] fun x20 =>
  .stA x6 [(.int .i64 x20.1), (.int .i64 x20.2.1), (.int .i64 x20.2.2.1), (.int .i64 x20.2.2.2.1), (.bool x20.2.2.2.2.1)] <|
  .look (ldK x6 5 0 #[] fun r0 => .pure (.value (.agg r0))) (.one (.agg [(.int .i64), (.int .i64), (.int .i64), (.int .i64), .bool])) fun r => .ret (Sh.toVal (.one (.agg [(.int .i64), (.int .i64), (.int .i64), (.int .i64), .bool])) r)
theorem t_future_of_eq (p0 : Int) (p1 : Int) (p2 : Int) : funcTree Try.prog { quiet := [10, 23, 25, 26, 30, 37, 42, 45, 47, 54, 73], quietTmp := true, fncs := [], ifcs := [] } Try.f51 [(.int .i64 p0), (.int .i64 p1), (.int .i64 p2)] = t_future_of p0 p1 p2 := by kernel_rfl
theorem t_future_of_spec {p0 : Int} {p1 : Int} {p2 : Int} {H : Heap} {R : Value → Heap → Prop} (h : ∀ L, wp Try.prog (t_future_of p0 p1 p2) L H R) : SpecF Try.prog f_future_of #[(.int .i64 p0), (.int .i64 p1), (.int .i64 p2)] H R :=
  spec_of_tree (cfg := { quiet := [10, 23, 25, 26, 30, 37, 42, 45, 47, 54, 73], quietTmp := true, fncs := [], ifcs := [] }) Try.func51 fun L => (t_future_of_eq p0 p1 p2).symm ▸ h L

/- (magpie/future.place).word -/
noncomputable def t_future_place_word (p0_0 : Int) (p0_1 : Int) (p0_2 : Int) (p0_3 : Int) (p0_4 : Bool) (p1 : Int) : Tree :=
  .newP (.cells #[(.int .i64 p0_0), (.int .i64 p0_1), (.int .i64 p0_2), (.int .i64 p0_3), (.bool p0_4)] ty_future_place) fun x2 =>
  .look (opS Try.prog (.indexAddr ty_a2_int (.tmp 0) (.tmp 1)) ty_unit [(.pointer (some x2)), (.int .i64 p1)]) (.one (.leaf .addr)) fun x7 =>
  .ld x7 (.int .i64) fun x8 =>
  .ret (.int .i64 x8)
theorem t_future_place_word_eq (p0_0 : Int) (p0_1 : Int) (p0_2 : Int) (p0_3 : Int) (p0_4 : Bool) (p1 : Int) : funcTree Try.prog { quiet := [10, 23, 25, 26, 30, 37, 42, 45, 47, 54, 73], quietTmp := true, fncs := [], ifcs := [] } Try.f54 [(.agg #[(.int .i64 p0_0), (.int .i64 p0_1), (.int .i64 p0_2), (.int .i64 p0_3), (.bool p0_4)]), (.int .i64 p1)] = t_future_place_word p0_0 p0_1 p0_2 p0_3 p0_4 p1 := by kernel_rfl
theorem t_future_place_word_spec {p0_0 : Int} {p0_1 : Int} {p0_2 : Int} {p0_3 : Int} {p0_4 : Bool} {p1 : Int} {H : Heap} {R : Value → Heap → Prop} (h : ∀ L, wp Try.prog (t_future_place_word p0_0 p0_1 p0_2 p0_3 p0_4 p1) L H R) : SpecF Try.prog f_future_place_word #[(.agg #[(.int .i64 p0_0), (.int .i64 p0_1), (.int .i64 p0_2), (.int .i64 p0_3), (.bool p0_4)]), (.int .i64 p1)] H R :=
  spec_of_tree (cfg := { quiet := [10, 23, 25, 26, 30, 37, 42, 45, 47, 54, 73], quietTmp := true, fncs := [], ifcs := [] }) Try.func54 fun L => (t_future_place_word_eq p0_0 p0_1 p0_2 p0_3 p0_4 p1).symm ▸ h L

/- magpie/future.NewSet -/
noncomputable def t_future_NewSet (p0 : Int) (p1 : Int) (p2 : Int) : Tree :=
  .call f_future_of [(.int .i64 p0), (.int .i64 p1), (.int .i64 p2)] (.one (.agg [(.int .i64), (.int .i64), (.int .i64), (.int .i64), .bool])) fun x10 =>
  .newP (.cells #[(.int .i64 x10.1), (.int .i64 x10.2.1), (.int .i64 x10.2.2.1), (.int .i64 x10.2.2.2.1), (.bool x10.2.2.2.2.1)] ty_future_Set) fun x12 =>
  .ret (.pointer (some x12))
theorem t_future_NewSet_eq (p0 : Int) (p1 : Int) (p2 : Int) : funcTree Try.prog { quiet := [10, 23, 25, 26, 30, 37, 42, 45, 47, 54, 73], quietTmp := true, fncs := [], ifcs := [] } Try.f32 [(.int .i64 p0), (.int .i64 p1), (.int .i64 p2)] = t_future_NewSet p0 p1 p2 := by kernel_rfl
theorem t_future_NewSet_spec {p0 : Int} {p1 : Int} {p2 : Int} {H : Heap} {R : Value → Heap → Prop} (h : ∀ L, wp Try.prog (t_future_NewSet p0 p1 p2) L H R) : SpecF Try.prog f_future_NewSet #[(.int .i64 p0), (.int .i64 p1), (.int .i64 p2)] H R :=
  spec_of_tree (cfg := { quiet := [10, 23, 25, 26, 30, 37, 42, 45, 47, 54, 73], quietTmp := true, fncs := [], ifcs := [] }) Try.func32 fun L => (t_future_NewSet_eq p0 p1 p2).symm ▸ h L

/- (*magpie/future.Set).Step -/
noncomputable def t_future_Set_Step (p0 : Option Addr) (p1 : Option Addr) : Tree :=
  .look (opS Try.prog (.nilCheck (.tmp 0)) ty_unit [(.pointer p0)]) (.one (.leaf .addr)) fun x7 =>
  .ldA x7 [(.int .i64), (.int .i64), (.int .i64), (.int .i64), .bool] fun x9 =>
  .newP (.cells #[(.int .i64 0), (.int .i64 0), (.int .i64 0), (.int .i64 0), (.bool false)] ty_future_place) fun x5 =>
  .stA x5 [(.int .i64 x9.1), (.int .i64 x9.2.1), (.int .i64 x9.2.2.1), (.int .i64 x9.2.2.2.1), (.bool x9.2.2.2.2.1)] <|
  .ld (x5.add 3) (.int .i64) fun x11 =>
  .st (x5.add 3) (.int .i64 (w64 (x11 + 1))) <|
  .look (opS Try.prog (.nilCheck (.tmp 0)) ty_unit [(.pointer p0)]) (.one (.leaf .addr)) fun x15 =>
  .ld (x15.add 3) (.int .i64) fun x18 =>
  bif ((x18 : Int) == 0) then (
    .look (opS Try.prog (.nilCheck (.tmp 0)) ty_unit [(.pointer p0)]) (.one (.leaf .addr)) fun x24 =>
    .ldA x24 [(.int .i64), (.int .i64), (.int .i64), (.int .i64), .bool] fun x26 =>
    .qcall f_future_place_word [(.agg #[(.int .i64 x26.1), (.int .i64 x26.2.1), (.int .i64 x26.2.2.1), (.int .i64 x26.2.2.2.1), (.bool x26.2.2.2.2.1)]), (.int .i64 0)] (.one (.leaf (.int .i64))) fun x27 =>
    .call f_arena_Arena_SwapRaw [(.pointer p1), (.int .i64 x27), (.int .i64 0), (.int .i64 1)] (.one (.leaf .bool)) fun x28 =>
    bif (!x28) then (
      .st (x5.add 3) (.int .i64 3) <|
      .ldA x5 [(.int .i64), (.int .i64), (.int .i64), (.int .i64), .bool] fun x56 =>
      .look (opS Try.prog (.nilCheck (.tmp 0)) ty_unit [(.pointer p0)]) (.one (.leaf .addr)) fun x57 =>
      .stA x57 [(.int .i64 x56.1), (.int .i64 x56.2.1), (.int .i64 x56.2.2.1), (.int .i64 x56.2.2.2.1), (.bool x56.2.2.2.2.1)] <|
      .look (opS Try.prog (.nilCheck (.tmp 0)) ty_unit [(.pointer p0)]) (.one (.leaf .addr)) fun x60 =>
      .ld (x60.add 3) (.int .i64) fun x63 =>
      .ret (.bool ((x63 : Int) == 3)))
    else (
      .ldA x5 [(.int .i64), (.int .i64), (.int .i64), (.int .i64), .bool] fun x56 =>
      .look (opS Try.prog (.nilCheck (.tmp 0)) ty_unit [(.pointer p0)]) (.one (.leaf .addr)) fun x57 =>
      .stA x57 [(.int .i64 x56.1), (.int .i64 x56.2.1), (.int .i64 x56.2.2.1), (.int .i64 x56.2.2.2.1), (.bool x56.2.2.2.2.1)] <|
      .look (opS Try.prog (.nilCheck (.tmp 0)) ty_unit [(.pointer p0)]) (.one (.leaf .addr)) fun x60 =>
      .ld (x60.add 3) (.int .i64) fun x63 =>
      .ret (.bool ((x63 : Int) == 3))))
  else (
    bif ((x18 : Int) == 1) then (
      .look (opS Try.prog (.nilCheck (.tmp 0)) ty_unit [(.pointer p0)]) (.one (.leaf .addr)) fun x35 =>
      .ldA x35 [(.int .i64), (.int .i64), (.int .i64), (.int .i64), .bool] fun x37 =>
      .qcall f_future_place_word [(.agg #[(.int .i64 x37.1), (.int .i64 x37.2.1), (.int .i64 x37.2.2.1), (.int .i64 x37.2.2.2.1), (.bool x37.2.2.2.2.1)]), (.int .i64 1)] (.one (.leaf (.int .i64))) fun x38 =>
      .look (opS Try.prog (.nilCheck (.tmp 0)) ty_unit [(.pointer p0)]) (.one (.leaf .addr)) fun x40 =>
      .ld (x40.add 2) (.int .i64) fun x43 =>
      .call f_arena_Arena_SetRaw [(.pointer p1), (.int .i64 x38), (.int .i64 x43)] .unit fun _ =>
      .ldA x5 [(.int .i64), (.int .i64), (.int .i64), (.int .i64), .bool] fun x56 =>
      .look (opS Try.prog (.nilCheck (.tmp 0)) ty_unit [(.pointer p0)]) (.one (.leaf .addr)) fun x57 =>
      .stA x57 [(.int .i64 x56.1), (.int .i64 x56.2.1), (.int .i64 x56.2.2.1), (.int .i64 x56.2.2.2.1), (.bool x56.2.2.2.2.1)] <|
      .look (opS Try.prog (.nilCheck (.tmp 0)) ty_unit [(.pointer p0)]) (.one (.leaf .addr)) fun x60 =>
      .ld (x60.add 3) (.int .i64) fun x63 =>
      .ret (.bool ((x63 : Int) == 3)))
    else (
      bif ((x18 : Int) == 2) then (
        .look (opS Try.prog (.nilCheck (.tmp 0)) ty_unit [(.pointer p0)]) (.one (.leaf .addr)) fun x49 =>
        .ldA x49 [(.int .i64), (.int .i64), (.int .i64), (.int .i64), .bool] fun x51 =>
        .qcall f_future_place_word [(.agg #[(.int .i64 x51.1), (.int .i64 x51.2.1), (.int .i64 x51.2.2.1), (.int .i64 x51.2.2.2.1), (.bool x51.2.2.2.2.1)]), (.int .i64 0)] (.one (.leaf (.int .i64))) fun x52 =>
        .call f_arena_Arena_SetRaw [(.pointer p1), (.int .i64 x52), (.int .i64 2)] .unit fun _ =>
        .st (x5.add 4) (.bool true) <|
        .ldA x5 [(.int .i64), (.int .i64), (.int .i64), (.int .i64), .bool] fun x56 =>
        .look (opS Try.prog (.nilCheck (.tmp 0)) ty_unit [(.pointer p0)]) (.one (.leaf .addr)) fun x57 =>
        .stA x57 [(.int .i64 x56.1), (.int .i64 x56.2.1), (.int .i64 x56.2.2.1), (.int .i64 x56.2.2.2.1), (.bool x56.2.2.2.2.1)] <|
        .look (opS Try.prog (.nilCheck (.tmp 0)) ty_unit [(.pointer p0)]) (.one (.leaf .addr)) fun x60 =>
        .ld (x60.add 3) (.int .i64) fun x63 =>
        .ret (.bool ((x63 : Int) == 3)))
      else (
        .st (x5.add 3) (.int .i64 3) <|
        .ldA x5 [(.int .i64), (.int .i64), (.int .i64), (.int .i64), .bool] fun x56 =>
        .look (opS Try.prog (.nilCheck (.tmp 0)) ty_unit [(.pointer p0)]) (.one (.leaf .addr)) fun x57 =>
        .stA x57 [(.int .i64 x56.1), (.int .i64 x56.2.1), (.int .i64 x56.2.2.1), (.int .i64 x56.2.2.2.1), (.bool x56.2.2.2.2.1)] <|
        .look (opS Try.prog (.nilCheck (.tmp 0)) ty_unit [(.pointer p0)]) (.one (.leaf .addr)) fun x60 =>
        .ld (x60.add 3) (.int .i64) fun x63 =>
        .ret (.bool ((x63 : Int) == 3)))))
theorem t_future_Set_Step_eq (p0 : Option Addr) (p1 : Option Addr) : funcTree Try.prog { quiet := [10, 23, 25, 26, 30, 37, 42, 45, 47, 54, 73], quietTmp := true, fncs := [], ifcs := [] } Try.f40 [(.pointer p0), (.pointer p1)] = t_future_Set_Step p0 p1 := by kernel_rfl
theorem t_future_Set_Step_spec {p0 : Option Addr} {p1 : Option Addr} {H : Heap} {R : Value → Heap → Prop} (h : ∀ L, wp Try.prog (t_future_Set_Step p0 p1) L H R) : SpecF Try.prog f_future_Set_Step #[(.pointer p0), (.pointer p1)] H R :=
  spec_of_tree (cfg := { quiet := [10, 23, 25, 26, 30, 37, 42, 45, 47, 54, 73], quietTmp := true, fncs := [], ifcs := [] }) Try.func40 fun L => (t_future_Set_Step_eq p0 p1).symm ▸ h L

/- (*magpie/future.Set).Went -/
noncomputable def t_future_Set_Went (p0 : Option Addr) : Tree :=
  .look (opS Try.prog (.nilCheck (.tmp 0)) ty_unit [(.pointer p0)]) (.one (.leaf .addr)) fun x4 =>
  .ld (x4.add 4) .bool fun x7 =>
  .ret (.bool x7)
theorem t_future_Set_Went_eq (p0 : Option Addr) : funcTree Try.prog { quiet := [10, 23, 25, 26, 30, 37, 42, 45, 47, 54, 73], quietTmp := true, fncs := [], ifcs := [] } Try.f35 [(.pointer p0)] = t_future_Set_Went p0 := by kernel_rfl
theorem t_future_Set_Went_spec {p0 : Option Addr} {H : Heap} {R : Value → Heap → Prop} (h : ∀ L, wp Try.prog (t_future_Set_Went p0) L H R) : SpecF Try.prog f_future_Set_Went #[(.pointer p0)] H R :=
  spec_of_tree (cfg := { quiet := [10, 23, 25, 26, 30, 37, 42, 45, 47, 54, 73], quietTmp := true, fncs := [], ifcs := [] }) Try.func35 fun L => (t_future_Set_Went_eq p0).symm ▸ h L

/- magpie/future.NewGet -/
noncomputable def t_future_NewGet (p0 : Int) (p1 : Int) : Tree :=
  .call f_future_of [(.int .i64 p0), (.int .i64 p1), (.int .i64 0)] (.one (.agg [(.int .i64), (.int .i64), (.int .i64), (.int .i64), .bool])) fun x7 =>
  .newP (.cells #[(.int .i64 x7.1), (.int .i64 x7.2.1), (.int .i64 x7.2.2.1), (.int .i64 x7.2.2.2.1), (.bool x7.2.2.2.2.1)] ty_future_Get) fun x9 =>
  .ret (.pointer (some x9))
theorem t_future_NewGet_eq (p0 : Int) (p1 : Int) : funcTree Try.prog { quiet := [10, 23, 25, 26, 30, 37, 42, 45, 47, 54, 73], quietTmp := true, fncs := [], ifcs := [] } Try.f31 [(.int .i64 p0), (.int .i64 p1)] = t_future_NewGet p0 p1 := by kernel_rfl
theorem t_future_NewGet_spec {p0 : Int} {p1 : Int} {H : Heap} {R : Value → Heap → Prop} (h : ∀ L, wp Try.prog (t_future_NewGet p0 p1) L H R) : SpecF Try.prog f_future_NewGet #[(.int .i64 p0), (.int .i64 p1)] H R :=
  spec_of_tree (cfg := { quiet := [10, 23, 25, 26, 30, 37, 42, 45, 47, 54, 73], quietTmp := true, fncs := [], ifcs := [] }) Try.func31 fun L => (t_future_NewGet_eq p0 p1).symm ▸ h L

/- (*magpie/future.Get).Step -/
noncomputable def t_future_Get_Step (p0 : Option Addr) (p1 : Option Addr) : Tree :=
  .look (opS Try.prog (.nilCheck (.tmp 0)) ty_unit [(.pointer p0)]) (.one (.leaf .addr)) fun x7 =>
  .ldA x7 [(.int .i64), (.int .i64), (.int .i64), (.int .i64), .bool] fun x9 =>
  .newP (.cells #[(.int .i64 0), (.int .i64 0), (.int .i64 0), (.int .i64 0), (.bool false)] ty_future_place) fun x5 =>
  .stA x5 [(.int .i64 x9.1), (.int .i64 x9.2.1), (.int .i64 x9.2.2.1), (.int .i64 x9.2.2.2.1), (.bool x9.2.2.2.2.1)] <|
  .look (opS Try.prog (.nilCheck (.tmp 0)) ty_unit [(.pointer p0)]) (.one (.leaf .addr)) fun x11 =>
  .ld (x11.add 3) (.int .i64) fun x14 =>
  bif ((x14 : Int) == 0) then (
    .st (x5.add 3) (.int .i64 1) <|
    .look (opS Try.prog (.nilCheck (.tmp 0)) ty_unit [(.pointer p0)]) (.one (.leaf .addr)) fun x20 =>
    .ldA x20 [(.int .i64), (.int .i64), (.int .i64), (.int .i64), .bool] fun x22 =>
    .qcall f_future_place_word [(.agg #[(.int .i64 x22.1), (.int .i64 x22.2.1), (.int .i64 x22.2.2.1), (.int .i64 x22.2.2.2.1), (.bool x22.2.2.2.2.1)]), (.int .i64 0)] (.one (.leaf (.int .i64))) fun x23 =>
    .call f_arena_Arena_Raw [(.pointer p1), (.int .i64 x23)] (.one (.leaf (.int .i64))) fun x24 =>
    bif ((x24 : Int) != 2) then (
      .st (x5.add 3) (.int .i64 3) <|
      .ldA x5 [(.int .i64), (.int .i64), (.int .i64), (.int .i64), .bool] fun x40 =>
      .look (opS Try.prog (.nilCheck (.tmp 0)) ty_unit [(.pointer p0)]) (.one (.leaf .addr)) fun x41 =>
      .stA x41 [(.int .i64 x40.1), (.int .i64 x40.2.1), (.int .i64 x40.2.2.1), (.int .i64 x40.2.2.2.1), (.bool x40.2.2.2.2.1)] <|
      .look (opS Try.prog (.nilCheck (.tmp 0)) ty_unit [(.pointer p0)]) (.one (.leaf .addr)) fun x44 =>
      .ld (x44.add 3) (.int .i64) fun x47 =>
      .ret (.bool ((x47 : Int) == 3)))
    else (
      .ldA x5 [(.int .i64), (.int .i64), (.int .i64), (.int .i64), .bool] fun x40 =>
      .look (opS Try.prog (.nilCheck (.tmp 0)) ty_unit [(.pointer p0)]) (.one (.leaf .addr)) fun x41 =>
      .stA x41 [(.int .i64 x40.1), (.int .i64 x40.2.1), (.int .i64 x40.2.2.1), (.int .i64 x40.2.2.2.1), (.bool x40.2.2.2.2.1)] <|
      .look (opS Try.prog (.nilCheck (.tmp 0)) ty_unit [(.pointer p0)]) (.one (.leaf .addr)) fun x44 =>
      .ld (x44.add 3) (.int .i64) fun x47 =>
      .ret (.bool ((x47 : Int) == 3))))
  else (
    bif ((x14 : Int) == 1) then (
      .look (opS Try.prog (.nilCheck (.tmp 0)) ty_unit [(.pointer p0)]) (.one (.leaf .addr)) fun x31 =>
      .ldA x31 [(.int .i64), (.int .i64), (.int .i64), (.int .i64), .bool] fun x33 =>
      .qcall f_future_place_word [(.agg #[(.int .i64 x33.1), (.int .i64 x33.2.1), (.int .i64 x33.2.2.1), (.int .i64 x33.2.2.2.1), (.bool x33.2.2.2.2.1)]), (.int .i64 1)] (.one (.leaf (.int .i64))) fun x34 =>
      .call f_arena_Arena_Raw [(.pointer p1), (.int .i64 x34)] (.one (.leaf (.int .i64))) fun x35 =>
      .st (x5.add 2) (.int .i64 x35) <|
      .st (x5.add 4) (.bool true) <|
      .st (x5.add 3) (.int .i64 3) <|
      .ldA x5 [(.int .i64), (.int .i64), (.int .i64), (.int .i64), .bool] fun x40 =>
      .look (opS Try.prog (.nilCheck (.tmp 0)) ty_unit [(.pointer p0)]) (.one (.leaf .addr)) fun x41 =>
      .stA x41 [(.int .i64 x40.1), (.int .i64 x40.2.1), (.int .i64 x40.2.2.1), (.int .i64 x40.2.2.2.1), (.bool x40.2.2.2.2.1)] <|
      .look (opS Try.prog (.nilCheck (.tmp 0)) ty_unit [(.pointer p0)]) (.one (.leaf .addr)) fun x44 =>
      .ld (x44.add 3) (.int .i64) fun x47 =>
      .ret (.bool ((x47 : Int) == 3)))
    else (
      .ldA x5 [(.int .i64), (.int .i64), (.int .i64), (.int .i64), .bool] fun x40 =>
      .look (opS Try.prog (.nilCheck (.tmp 0)) ty_unit [(.pointer p0)]) (.one (.leaf .addr)) fun x41 =>
      .stA x41 [(.int .i64 x40.1), (.int .i64 x40.2.1), (.int .i64 x40.2.2.1), (.int .i64 x40.2.2.2.1), (.bool x40.2.2.2.2.1)] <|
      .look (opS Try.prog (.nilCheck (.tmp 0)) ty_unit [(.pointer p0)]) (.one (.leaf .addr)) fun x44 =>
      .ld (x44.add 3) (.int .i64) fun x47 =>
      .ret (.bool ((x47 : Int) == 3))))
theorem t_future_Get_Step_eq (p0 : Option Addr) (p1 : Option Addr) : funcTree Try.prog { quiet := [10, 23, 25, 26, 30, 37, 42, 45, 47, 54, 73], quietTmp := true, fncs := [], ifcs := [] } Try.f41 [(.pointer p0), (.pointer p1)] = t_future_Get_Step p0 p1 := by kernel_rfl
theorem t_future_Get_Step_spec {p0 : Option Addr} {p1 : Option Addr} {H : Heap} {R : Value → Heap → Prop} (h : ∀ L, wp Try.prog (t_future_Get_Step p0 p1) L H R) : SpecF Try.prog f_future_Get_Step #[(.pointer p0), (.pointer p1)] H R :=
  spec_of_tree (cfg := { quiet := [10, 23, 25, 26, 30, 37, 42, 45, 47, 54, 73], quietTmp := true, fncs := [], ifcs := [] }) Try.func41 fun L => (t_future_Get_Step_eq p0 p1).symm ▸ h L

/- (*magpie/future.Get).Value -/
noncomputable def t_future_Get_Value (p0 : Option Addr) : Tree :=
  .look (opS Try.prog (.nilCheck (.tmp 0)) ty_unit [(.pointer p0)]) (.one (.leaf .addr)) fun x5 =>
  .ld (x5.add 2) (.int .i64) fun x8 =>
  .look (opS Try.prog (.nilCheck (.tmp 0)) ty_unit [(.pointer p0)]) (.one (.leaf .addr)) fun x10 =>
  .ld (x10.add 4) .bool fun x13 =>
  .ret (.tuple #[(.int .i64 x8), (.bool x13)])
theorem t_future_Get_Value_eq (p0 : Option Addr) : funcTree Try.prog { quiet := [10, 23, 25, 26, 30, 37, 42, 45, 47, 54, 73], quietTmp := true, fncs := [], ifcs := [] } Try.f34 [(.pointer p0)] = t_future_Get_Value p0 := by kernel_rfl
theorem t_future_Get_Value_spec {p0 : Option Addr} {H : Heap} {R : Value → Heap → Prop} (h : ∀ L, wp Try.prog (t_future_Get_Value p0) L H R) : SpecF Try.prog f_future_Get_Value #[(.pointer p0)] H R :=
  spec_of_tree (cfg := { quiet := [10, 23, 25, 26, 30, 37, 42, 45, 47, 54, 73], quietTmp := true, fncs := [], ifcs := [] }) Try.func34 fun L => (t_future_Get_Value_eq p0).symm ▸ h L

end Go.Proofs.Ytjleoogieoahnaa

