/- Texts of this claim, one behind the other. -/
import Derived.Test.YtjleoogieoahnaaB2
set_option linter.unusedSimpArgs false
set_option linter.unusedVariables false
set_option linter.unusedVariables false
namespace Go.Proofs.Ytjleoogieoahnaa
open Go Go.Fw

/-! ### Blocks of so many -/

def updF {α : Type} (f : Nat → α) (w : Nat) (a : α) : Nat → α := fun j => if j = w then a else f j
theorem updF_same {α : Type} (f : Nat → α) (w : Nat) (a : α) : updF f w a w = a := if_pos rfl
theorem updF_ne {α : Type} (f : Nat → α) {w j : Nat} (a : α) (h : j ≠ w) : updF f w a j = f j := if_neg h
theorem arrC_updF {α : Type} {n : Nat} {g : α → Value} {f : Nat → α} {i : Nat} {a : α} : (arrC n fun j => if j = i then g a else g (f j)) = arrC n fun j => g (updF f i a j) := by
  congr 1
  funext j
  unfold updF
  split <;> rfl
theorem arrC_keepF {α : Type} {n : Nat} {g : α → Value} {f : Nat → α} {i : Nat} {a : α} (h : g a = g (f i)) : (arrC n fun j => g (f j)) = arrC n fun j => g (updF f i a j) := by
  congr 1
  funext j
  unfold updF
  split
  · rename_i e; rw [e, h]
  · rfl

def famB (f : Nat → Bl) : Nat → Bl
  | 0 => []
  | n + 1 => famB f n ++ f n
def famR (f : Nat → Bl) (w : Nat) : Nat → Bl
  | 0 => []
  | n + 1 => famR f w n ++ (if n = w then [] else f n)
theorem famR_le (f : Nat → Bl) (w : Nat) : ∀ n, n ≤ w → famR f w n = famB f n
  | 0, _ => rfl
  | n + 1, h => by show famR f w n ++ _ = famB f n ++ _; rw [famR_le f w n (by omega), if_neg (by omega)]
theorem famB_c {c : Bl → Nat} (c0 : c [] = 0) (ca : ∀ a b, c (a ++ b) = c a + c b) (f : Nat → Bl) {w : Nat} : ∀ {n : Nat}, w < n → c (famB f n) = c (f w) + c (famR f w n)
  | 0, h => by omega
  | n + 1, h => by
    show c (famB f n ++ f n) = _ + c (famR f w n ++ _)
    rw [ca, ca]
    by_cases e : n = w
    · rw [if_pos e, c0, ← e, famR_le f n n (Nat.le_refl _)]; omega
    · rw [if_neg e, famB_c c0 ca f (w := w) (n := n) (by omega)]; omega
theorem famR_of {f g : Nat → Bl} {w : Nat} (h : ∀ j, j ≠ w → f j = g j) : ∀ n, famR f w n = famR g w n
  | 0 => rfl
  | n + 1 => by
    show famR f w n ++ _ = famR g w n ++ _
    rw [famR_of h n]
    by_cases e : n = w
    · rw [if_pos e, if_pos e]
    · rw [if_neg e, if_neg e, h n e]
theorem famR_upd {α : Type} (b : α → Bl) (f : Nat → α) (w : Nat) (a : α) (n : Nat) : famR (fun j => b (updF f w a j)) w n = famR (fun j => b (f j)) w n :=
  famR_of (fun j h => by rw [updF_ne f a h]) n
theorem famB_upd_c {α : Type} {c : Bl → Nat} (c0 : c [] = 0) (ca : ∀ a b, c (a ++ b) = c a + c b) (b : α → Bl) (f : Nat → α) {w n : Nat} (a : α) (h : w < n) : c (famB (fun j => b (updF f w a j)) n) = c (b a) + c (famR (fun j => b (f j)) w n) := by
  rw [famB_c c0 ca _ h, famR_upd, updF_same]
end Go.Proofs.Ytjleoogieoahnaa

set_option linter.unusedVariables false
set_option maxRecDepth 20000
namespace Go.Proofs.Ytjleoogieoahnaa
open Go Go.Fw

/-! ### Those that set and those that get, step by step -/

structure FO (a b : Int) (vs : Nat → Int) (A : Ar) (ss : Nat → Ft) (gs : Nat → Option Ft) (who : Int) : Prop where
  oa : A.rawOk a
  ob : A.rawOk b
  ab : a ≠ b
  us : 0 ≤ A.uses
  fa : A.fault = false
  sv : ∀ i, i < 4 → (ss i).w0 = a ∧ (ss i).w1 = b ∧ (ss i).v = vs i
  sp : ∀ i, i < 4 → (ss i).ph ≠ 3 → (ss i).ok = false
  gv : ∀ i, i < 4 → ∀ x, gs i = some x → x.w0 = a ∧ x.w1 = b ∧ x.v = 0 ∧ x.ok = false ∧ (x.ph = 0 ∨ x.ph = 1 ∧ A.rawF a = 2)
  st : (A.rawF a = 0 ∧ who = -1 ∧ ∀ i, i < 4 → (ss i).ph = 0) ∨
    (A.rawF a = 1 ∧ who = -1 ∧ ∃ w : Nat, w < 4 ∧ ((ss w).ph = 1 ∨ (ss w).ph = 2 ∧ A.rawF b = vs w) ∧ ∀ i : Nat, i < 4 → i ≠ w → (ss i).ph = 0 ∨ (ss i).ph = 3) ∨
    (A.rawF a = 2 ∧ ∃ w : Nat, w < 4 ∧ who = (w : Int) ∧ A.rawF b = vs w ∧ (ss w).ph = 3 ∧ ∀ i : Nat, i < 4 → i ≠ w → (ss i).ph = 0 ∨ (ss i).ph = 3)

variable {a b : Int} {vs : Nat → Int} {A : Ar} {ss : Nat → Ft} {gs : Nat → Option Ft} {who : Int}

theorem FO.later (F : FO a b vs A ss gs who) : FO a b vs (A.later 1) ss gs who :=
  ⟨F.oa, F.ob, F.ab, by have := F.us; show 0 ≤ A.uses + 1; omega, F.fa, F.sv, F.sp, F.gv, F.st⟩

/-- What a step of one that sets does. -/
structure FS (a b : Int) (vs : Nat → Int) (A : Ar) (ss : Nat → Ft) (gs : Nat → Option Ft) (who : Int) (i : Nat) (r : Ft × Ar) : Prop where
  fo : FO a b vs r.2 (updF ss i r.1) gs (if r.1.ok then (i : Int) else who)
  us : r.2.uses = A.uses + 1
  up : (ss i).ph + 1 ≤ r.1.ph
  le : r.1.ph ≤ 3
  ok : r.1.ok = true → who = -1 ∧ r.1.ph = 3

theorem FO.ph (F : FO a b vs A ss gs who) {i : Nat} (hi : i < 4) : (ss i).ph = 0 ∨ (ss i).ph = 1 ∨ (ss i).ph = 2 ∨ (ss i).ph = 3 := by
  rcases F.st with ⟨_, _, h⟩ | ⟨_, _, w, hw, h1, h2⟩ | ⟨_, w, hw, _, _, h1, h2⟩
  · have := h i hi; omega
  · by_cases e : i = w
    · subst e; omega
    · have := h2 i hi e; omega
  · by_cases e : i = w
    · subst e; omega
    · have := h2 i hi e; omega

set_option maxHeartbeats 1000000 in
theorem FO.setStep (F : FO a b vs A ss gs who) {i : Nat} (hi : i < 4) (h3 : (ss i).ph ≠ 3) (u1 : A.uses ≤ 1000000) : FS a b vs A ss gs who i (Ft.setS (ss i) A) := by
  obtain ⟨s1, s2, s3⟩ := F.sv i hi
  have so := F.sp i hi h3
  have us := F.us
  have upS : ∀ {P : Ft → Nat → Prop} {y : Ft}, P y i → (∀ j, j < 4 → j ≠ i → P (ss j) j) → ∀ j, j < 4 → P (updF ss i y j) j := fun h1 h2 j hj => by
    by_cases e : j = i
    · subst e; rw [updF_same]; exact h1
    · rw [updF_ne _ _ e]; exact h2 j hj e
  generalize ex : ss i = x at *
  obtain ⟨w0, w1, v, ph, o⟩ := x
  dsimp only at s1 s2 s3 so h3
  subst s1; subst s2; subst s3; subst so
  rcases F.st with ⟨r0, hw, hp⟩ | ⟨r1, hw, w, w4, hp, ho⟩ | ⟨r2, w, w4, hw, hb, hp, ho⟩
  · -- the word is 0: this one goes first
    have p0 := hp i hi
    rw [ex] at p0
    have p0 : ph = 0 := p0
    subst p0
    obtain ⟨t1, t2⟩ := fswap_yes (w := 1) F.oa us u1 r0
    have e1 : Ft.setS ⟨w0, w1, vs i, 0, false⟩ A = (⟨w0, w1, vs i, 1, false⟩, (A.later 1).setR w0.toNat 1) := by
      unfold Ft.setS; dsimp only; rw [if_pos rfl, t1, t2]; rfl
    rw [e1]
    have f1 : ∀ j, ((A.later 1).setR w0.toNat 1).rawF j = if j = w0 then 1 else A.rawF j := fun j => rawF_set1 (A := A.later 1) F.oa
    refine ⟨⟨setR_ok.2 F.oa, setR_ok.2 F.ob, F.ab, by show 0 ≤ A.uses + 1; omega, F.fa, upS (P := fun y j => y.w0 = w0 ∧ y.w1 = w1 ∧ y.v = vs j) ⟨rfl, rfl, rfl⟩ fun j hj _ => F.sv j hj, upS (P := fun y _ => y.ph ≠ 3 → y.ok = false) (fun _ => rfl) fun j hj _ => F.sp j hj, fun j hj y hy => ?_, ?_⟩, rfl, by rw [ex]; dsimp only; decide, by dsimp only; decide, fun h => by cases h⟩
    · obtain ⟨g1, g2, g3, g4, g5⟩ := F.gv j hj y hy
      exact ⟨g1, g2, g3, g4, .inl (by omega)⟩
    · refine .inr (.inl ⟨by rw [f1, if_pos rfl], hw, i, hi, .inl (by rw [updF_same]), fun j hj hne => ?_⟩)
      rw [updF_ne _ _ hne]; exact .inl (hp j hj)
  · by_cases e : i = w
    · subst e
      rw [ex] at hp
      rcases hp with p1 | ⟨p2, hb⟩
      · have p1 : ph = 1 := p1
        subst p1
        have e1 : Ft.setS ⟨w0, w1, vs i, 1, false⟩ A = (⟨w0, w1, vs i, 2, false⟩, (A.later 1).setR w1.toNat (vs i)) := by
          unfold Ft.setS; dsimp only; rw [if_neg (by decide), if_pos rfl, store_yes F.ob us u1]
        rw [e1]
        have f1 : ∀ j, ((A.later 1).setR w1.toNat (vs i)).rawF j = if j = w1 then vs i else A.rawF j := fun j => rawF_set1 (A := A.later 1) F.ob
        have fa' : ((A.later 1).setR w1.toNat (vs i)).rawF w0 = A.rawF w0 := by rw [f1, if_neg F.ab]
        refine ⟨⟨setR_ok.2 F.oa, setR_ok.2 F.ob, F.ab, by show 0 ≤ A.uses + 1; omega, F.fa, upS (P := fun y j => y.w0 = w0 ∧ y.w1 = w1 ∧ y.v = vs j) ⟨rfl, rfl, rfl⟩ fun j hj _ => F.sv j hj, upS (P := fun y _ => y.ph ≠ 3 → y.ok = false) (fun _ => rfl) fun j hj _ => F.sp j hj, fun j hj y hy => ?_, ?_⟩, rfl, by rw [ex]; dsimp only; decide, by dsimp only; decide, fun h => by cases h⟩
        · rw [fa']; exact F.gv j hj y hy
        · refine .inr (.inl ⟨by rw [fa']; exact r1, hw, i, hi, .inr ⟨by rw [updF_same], by rw [f1, if_pos rfl]⟩, fun j hj hne => ?_⟩)
          rw [updF_ne _ _ hne]; exact ho j hj hne
      · have p2 : ph = 2 := p2
        subst p2
        have e1 : Ft.setS ⟨w0, w1, vs i, 2, false⟩ A = (⟨w0, w1, vs i, 3, true⟩, (A.later 1).setR w0.toNat 2) := by
          unfold Ft.setS; dsimp only; rw [if_neg (by decide), if_neg (by decide), if_pos rfl, store_yes F.oa us u1]
        rw [e1]
        have f1 : ∀ j, ((A.later 1).setR w0.toNat 2).rawF j = if j = w0 then 2 else A.rawF j := fun j => rawF_set1 (A := A.later 1) F.oa
        refine ⟨⟨setR_ok.2 F.oa, setR_ok.2 F.ob, F.ab, by show 0 ≤ A.uses + 1; omega, F.fa, upS (P := fun y j => y.w0 = w0 ∧ y.w1 = w1 ∧ y.v = vs j) ⟨rfl, rfl, rfl⟩ fun j hj _ => F.sv j hj, upS (P := fun y _ => y.ph ≠ 3 → y.ok = false) (fun h => absurd rfl h) fun j hj _ => F.sp j hj, fun j hj y hy => ?_, ?_⟩, rfl, by rw [ex]; dsimp only; decide, by dsimp only; decide, fun h => ⟨hw, rfl⟩⟩
        · obtain ⟨g1, g2, g3, g4, g5⟩ := F.gv j hj y hy
          exact ⟨g1, g2, g3, g4, .inl (by omega)⟩
        · refine .inr (.inr ⟨by rw [f1, if_pos rfl], i, hi, by rw [if_pos rfl], by rw [f1, if_neg (Ne.symm F.ab)]; exact hb, by rw [updF_same], fun j hj hne => ?_⟩)
          rw [updF_ne _ _ hne]; exact ho j hj hne
    · have p0 := ho i hi e
      rw [ex] at p0
      have p0 : ph = 0 := by rcases p0 with h | h; exact h; exact absurd h h3
      subst p0
      obtain ⟨t1, t2⟩ := fswap_no (w := 1) F.oa us u1 (show A.rawF w0 ≠ 0 by omega)
      have e1 : Ft.setS ⟨w0, w1, vs i, 0, false⟩ A = (⟨w0, w1, vs i, 3, false⟩, A.later 1) := by
        unfold Ft.setS; dsimp only; rw [if_pos rfl, t1, t2]; rfl
      rw [e1]
      refine ⟨⟨F.oa, F.ob, F.ab, by show 0 ≤ A.uses + 1; omega, F.fa, upS (P := fun y j => y.w0 = w0 ∧ y.w1 = w1 ∧ y.v = vs j) ⟨rfl, rfl, rfl⟩ fun j hj _ => F.sv j hj, upS (P := fun y _ => y.ph ≠ 3 → y.ok = false) (fun _ => rfl) fun j hj _ => F.sp j hj, F.gv, ?_⟩, rfl, by rw [ex]; dsimp only; decide, by dsimp only; decide, fun h => by cases h⟩
      refine .inr (.inl ⟨r1, hw, w, w4, by rw [updF_ne _ _ (Ne.symm e)]; exact hp, fun j hj hne => ?_⟩)
      by_cases e2 : j = i
      · subst e2; rw [updF_same]; exact .inr rfl
      · rw [updF_ne _ _ e2]; exact ho j hj hne
  · have e : i ≠ w := fun e => by subst e; rw [ex] at hp; exact h3 hp
    have p0 := ho i hi e
    rw [ex] at p0
    have p0 : ph = 0 := by rcases p0 with h | h; exact h; exact absurd h h3
    subst p0
    obtain ⟨t1, t2⟩ := fswap_no (w := 1) F.oa us u1 (show A.rawF w0 ≠ 0 by omega)
    have e1 : Ft.setS ⟨w0, w1, vs i, 0, false⟩ A = (⟨w0, w1, vs i, 3, false⟩, A.later 1) := by
      unfold Ft.setS; dsimp only; rw [if_pos rfl, t1, t2]; rfl
    rw [e1]
    refine ⟨⟨F.oa, F.ob, F.ab, by show 0 ≤ A.uses + 1; omega, F.fa, upS (P := fun y j => y.w0 = w0 ∧ y.w1 = w1 ∧ y.v = vs j) ⟨rfl, rfl, rfl⟩ fun j hj _ => F.sv j hj, upS (P := fun y _ => y.ph ≠ 3 → y.ok = false) (fun _ => rfl) fun j hj _ => F.sp j hj, F.gv, ?_⟩, rfl, by rw [ex]; dsimp only; decide, by dsimp only; decide, fun h => by cases h⟩
    refine .inr (.inr ⟨r2, w, w4, hw, hb, by rw [updF_ne _ _ (Ne.symm e)]; exact hp, fun j hj hne => ?_⟩)
    by_cases e2 : j = i
    · subst e2; rw [updF_same]; exact .inr rfl
    · rw [updF_ne _ _ e2]; exact ho j hj hne

/-- What a step of one that gets does. -/
structure FG (a b : Int) (vs : Nat → Int) (A : Ar) (ss : Nat → Ft) (gs : Nat → Option Ft) (who : Int) (i : Nat) (r : Ft × Ar) : Prop where
  fo : FO a b vs r.2 ss (updF gs i (if r.1.ph = 3 then none else some r.1)) who
  us : r.2.uses = A.uses + 1
  no : r.1.ok = false → r.1.v = 0
  ok : r.1.ok = true → r.1.ph = 3 ∧ 0 ≤ who ∧ who < 4 ∧ r.1.v = vs who.toNat

theorem FO.gset (F : FO a b vs A ss gs who) {i : Nat} {y : Option Ft} (h : ∀ x, y = some x → x.w0 = a ∧ x.w1 = b ∧ x.v = 0 ∧ x.ok = false ∧ (x.ph = 0 ∨ x.ph = 1 ∧ A.rawF a = 2)) : FO a b vs A ss (updF gs i y) who := by
  refine ⟨F.oa, F.ob, F.ab, F.us, F.fa, F.sv, F.sp, fun j hj x hx => ?_, F.st⟩
  by_cases e : j = i
  · subst e; rw [updF_same] at hx; exact h x hx
  · rw [updF_ne _ _ e] at hx; exact F.gv j hj x hx

theorem FO.getStep (F : FO a b vs A ss gs who) {i : Nat} (hi : i < 4) {x : Ft} (hx : gs i = some x) (u1 : A.uses ≤ 1000000) : FG a b vs A ss gs who i (Ft.getS x A) := by
  obtain ⟨g1, g2, g3, g4, g5⟩ := F.gv i hi x hx
  obtain ⟨w0, w1, v, ph, o⟩ := x
  dsimp only at g1 g2 g3 g4 g5
  subst g1; subst g2; subst g3; subst g4
  rcases g5 with g5 | ⟨g5, g6⟩
  · subst g5
    by_cases h : A.rawF w0 = 2
    · have e1 : Ft.getS ⟨w0, w1, 0, 0, false⟩ A = (⟨w0, w1, 0, 1, false⟩, A.later 1) := by
        unfold Ft.getS; dsimp only; rw [if_pos rfl, if_pos h, touch_yes2 F.oa F.us u1]
      rw [e1]
      refine ⟨?_, rfl, fun _ => rfl, fun h => by cases h⟩
      rw [if_neg (by show ¬ (1 : Int) = 3; decide)]
      refine F.later.gset fun y hy => ?_
      cases hy
      exact ⟨rfl, rfl, rfl, rfl, .inr ⟨rfl, h⟩⟩
    · have e1 : Ft.getS ⟨w0, w1, 0, 0, false⟩ A = (⟨w0, w1, 0, 3, false⟩, A.later 1) := by
        unfold Ft.getS; dsimp only; rw [if_pos rfl, if_neg h, touch_yes2 F.oa F.us u1]
      rw [e1]
      refine ⟨?_, rfl, fun _ => rfl, fun h => by cases h⟩
      rw [if_pos (by show (3 : Int) = 3; rfl)]
      exact F.later.gset fun y hy => by cases hy
  · subst g5
    have e1 : Ft.getS ⟨w0, w1, 0, 1, false⟩ A = (⟨w0, w1, A.rawF w1, 3, true⟩, A.later 1) := by
      unfold Ft.getS; dsimp only; rw [if_neg (by decide), if_pos rfl, touch_yes2 F.ob F.us u1]
    rw [e1]
    refine ⟨?_, rfl, fun h => (by cases h), fun _ => ⟨rfl, ?_⟩⟩
    · rw [if_pos (by show (3 : Int) = 3; rfl)]
      exact F.later.gset fun y hy => by cases hy
    · rcases F.st with ⟨r0, _⟩ | ⟨r1, _⟩ | ⟨r2, w, w4, hw, hb, _⟩
      · omega
      · omega
      · refine ⟨by omega, by omega, ?_⟩
        show A.rawF w1 = _
        rw [hb, hw, Int.toNat_natCast]
end Go.Proofs.Ytjleoogieoahnaa

set_option linter.unusedVariables false
set_option linter.unusedSimpArgs false
set_option maxRecDepth 20000
namespace Go.Proofs.Ytjleoogieoahnaa
open Go Go.Fw

abbrev gC (q : Nat) (a b v ph : Int) (o : Bool) : Nat × Obj := (q, oc ty_future_Get (Ft.mk a b v ph o).cells)
abbrev sC (q : Nat) (a b v ph : Int) (o : Bool) : Nat × Obj := (q, oc ty_future_Set (Ft.mk a b v ph o).cells)

section
variable {A : Ar} {L : Hands} {R : Value → Heap → Prop} {H : Heap} {I : List Nat} {l rest : Bl}

/-- The runs, where the machine's block is somewhere. -/
theorem w_setRun {q : Nat} {a b v ph : Int} {o : Bool} {n : Nat} {B : Ar} (hA : Aw I A) (ok : Ok I H (keys l)) (hl : l.Perm (sC q a b v 0 false :: rest)) (run : mSt.Runs n ⟨a, b, v, 0, false⟩ A ⟨a, b, v, ph, o⟩ B) (hn : n ≤ 10) {k : Bool → Tree}
    (h : Aw I B → Ok I H (keys (sC q a b v ph o :: rest)) → wp Try.prog (k true) L (own B (sC q a b v ph o :: rest) H) R) :
    wp Try.prog (.call f_magpielaw19_run [.pointer (aI I), .iface ty_p_future_Set (.pointer (some ⟨q, 0, none⟩))] (.one (.leaf .bool)) k) L (own A l H) R := by
  obtain ⟨p1, ok1⟩ := own_perm (A := A) ok hl
  rw [p1]
  refine w_run19 mSt_ok mSt_inv run hn (j := q) (rest := rest) hA ok1 fun j' ha hB ok2 => ?_
  have ha : j' = q := ha
  subst ha
  exact h hB ok2
theorem w_getRun {q : Nat} {a b v ph : Int} {o : Bool} {n : Nat} {B : Ar} (hA : Aw I A) (ok : Ok I H (keys l)) (hl : l.Perm (gC q a b 0 0 false :: rest)) (run : mGt.Runs n ⟨a, b, 0, 0, false⟩ A ⟨a, b, v, ph, o⟩ B) (hn : n ≤ 10) {k : Bool → Tree}
    (h : Aw I B → Ok I H (keys (gC q a b v ph o :: rest)) → wp Try.prog (k true) L (own B (gC q a b v ph o :: rest) H) R) :
    wp Try.prog (.call f_magpielaw19_run [.pointer (aI I), .iface ty_p_future_Get (.pointer (some ⟨q, 0, none⟩))] (.one (.leaf .bool)) k) L (own A l H) R := by
  obtain ⟨p1, ok1⟩ := own_perm (A := A) ok hl
  rw [p1]
  refine w_run19 mGt_ok mGt_inv run hn (j := q) (rest := rest) hA ok1 fun j' ha hB ok2 => ?_
  have ha : j' = q := ha
  subst ha
  exact h hB ok2
end

set_option maxHeartbeats 1000000 in
theorem FutureSteps_det (p0 p1 p2 : Int) (H : Heap) : Det Try.prog f_magpielaw19_FutureSteps [.int .i64 p0, .int .i64 p1, .int .i64 p2] H (.bool true) H := by
  refine t_magpielaw19_FutureSteps_spec fun L => ?_
  unfold t_magpielaw19_FutureSteps
  refine w_Place (by omega) (by omega) ?_
  have a0 := Int.emod_nonneg p0 (b := 8) (by omega)
  have a1 := Int.emod_lt_of_pos p0 (b := 8) (by omega)
  generalize p0 % 8 = cc at *
  refine wq_FRaw (by decide) ?_
  have ok0 : Ok0 H (keys []) := ⟨.nil, fun b h => (by cases h)⟩
  refine w_New (l := []) (n := 16) (m := 0) (f := false) ok0 (by decide) (by decide) fun A hm hA hI ok => ?_
  refine w_NewGet hA ok fun g ok => ?_
  refine w_NewSet hA ok fun s ok => ?_
  refine w_NewSet hA ok fun t ok => ?_
  refine w_NewGet hA ok fun u ok => ?_
  refine look_val (x := false) (eqAr _) (wp_false rfl ?_)
  refine look_val (x := false) (eqG _) (wp_false rfl ?_)
  refine look_val (x := false) (eqSt _) (wp_false rfl ?_)
  refine look_val (x := false) (eqSt _) (wp_false rfl ?_)
  refine look_val (x := false) (eqG _) (wp_false rfl ?_)
  obtain ⟨r0, rl⟩ := made0 hm
  have rl : (A.raw.length : Int) = 16 := by rw [rl]; rfl
  have u0 := hm.uses
  have fa0 := hm.fault
  have f0 : fw 0 cc 0 = 2 * cc := by rw [fw_eq ⟨by omega, by omega, by omega, by omega, by omega, by omega⟩]; omega
  have f1 : fw 0 cc 1 = 2 * cc + 1 := by rw [fw_eq ⟨by omega, by omega, by omega, by omega, by omega, by omega⟩]; omega
  have nf : ∀ v, newFt 0 cc v = ⟨2 * cc, 2 * cc + 1, v, 0, false⟩ := fun v => by unfold newFt; rw [f0, f1]
  rw [nf, nf, nf] at ok ⊢
  have oa : A.rawOk (2 * cc) := ⟨by omega, by omega⟩
  have ob : A.rawOk (2 * cc + 1) := ⟨by omega, by omega⟩
  have ok : Ok A.ids H (keys [gC u (2 * cc) (2 * cc + 1) 0 0 false, sC t (2 * cc) (2 * cc + 1) p2 0 false, sC s (2 * cc) (2 * cc + 1) p1 0 false, gC g (2 * cc) (2 * cc + 1) 0 0 false]) := ok
  show wp Try.prog _ L (own A [gC u (2 * cc) (2 * cc + 1) 0 0 false, sC t (2 * cc) (2 * cc + 1) p2 0 false, sC s (2 * cc) (2 * cc + 1) p1 0 false, gC g (2 * cc) (2 * cc + 1) 0 0 false] H) _
  refine w_getRun (q := g) (a := 2 * cc) (b := 2 * cc + 1) (rest := [gC u (2 * cc) (2 * cc + 1) 0 0 false, sC t (2 * cc) (2 * cc + 1) p2 0 false, sC s (2 * cc) (2 * cc + 1) p1 0 false]) hA ok (perm_by fun c d c0 cd ca => by simp only [cd, ca, c0]; omega) (get_none oa (by omega) (by omega) (by rw [r0]; decide)) (by decide) fun hA ok => ?_
  refine wp_false rfl ?_
  refine w_Uses hA ?_
  refine wp_false (ibnf (by show A.uses + 1 = 1; omega)) ?_
  obtain ⟨B, run, F⟩ := set_goes (A := A.later 1) (a := 2 * cc) (b := 2 * cc + 1) (v := p1) oa ob (by omega) (by show 0 ≤ A.uses + 1; omega) (by show A.uses + 1 ≤ _; omega) (r0 _)
  have fus : B.uses = A.uses + 1 + 3 := F.us
  have frl : B.raw.length = A.raw.length := F.rl
  refine w_setRun (q := s) (a := 2 * cc) (b := 2 * cc + 1) (v := p1) (rest := [gC g (2 * cc) (2 * cc + 1) 0 3 false, gC u (2 * cc) (2 * cc + 1) 0 0 false, sC t (2 * cc) (2 * cc + 1) p2 0 false]) hA ok (perm_by fun c d c0 cd ca => by simp only [cd, ca, c0]; omega) run (by decide) fun hB ok => ?_
  refine wp_false rfl ?_
  refine w_Uses hB ?_
  refine wp_false (ibnf (by rw [fus]; omega)) ?_
  have b0 : B.rawF (2 * cc) = 2 := by rw [F.rf, if_pos rfl]
  have b1 : B.rawF (2 * cc + 1) = p1 := by rw [F.rf, if_neg (by omega), if_pos rfl]
  have oaB : B.rawOk (2 * cc) := ⟨by omega, by omega⟩
  have obB : B.rawOk (2 * cc + 1) := ⟨by omega, by omega⟩
  refine w_setRun (q := t) (a := 2 * cc) (b := 2 * cc + 1) (v := p2) (rest := [sC s (2 * cc) (2 * cc + 1) p1 3 true, gC g (2 * cc) (2 * cc + 1) 0 3 false, gC u (2 * cc) (2 * cc + 1) 0 0 false]) hB ok (perm_by fun c d c0 cd ca => by simp only [cd, ca, c0]; omega) (set_no oaB (by omega) (by omega) (by rw [b0]; decide)) (by decide) fun hC ok => ?_
  refine wp_false rfl ?_
  refine w_Uses hC ?_
  refine wp_false (ibnf (by show B.uses + 1 = 5; omega)) ?_
  have run4 := get_some (A := B.later 1) (a := 2 * cc) (b := 2 * cc + 1) oaB obB (by show 0 ≤ B.uses + 1; omega) (by show B.uses + 1 ≤ _; omega) b0
  rw [show (B.later 1).rawF (2 * cc + 1) = p1 from b1] at run4
  refine w_getRun (q := u) (a := 2 * cc) (b := 2 * cc + 1) (rest := [sC t (2 * cc) (2 * cc + 1) p2 3 false, sC s (2 * cc) (2 * cc + 1) p1 3 true, gC g (2 * cc) (2 * cc + 1) 0 3 false]) hC ok (perm_by fun c d c0 cd ca => by simp only [cd, ca, c0]; omega) run4 (by decide) fun hD ok => ?_
  refine wp_false rfl ?_
  refine w_Uses hD ?_
  refine wp_false (ibnf (by show B.uses + 1 + 2 = 7; omega)) ?_
  refine w_Value (x := ⟨2 * cc, 2 * cc + 1, p1, 3, true⟩) hD ok List.mem_cons_self ?_
  refine w_Went (x := ⟨2 * cc, 2 * cc + 1, p1, 3, true⟩) hD ok (List.mem_cons_of_mem _ (List.mem_cons_of_mem _ List.mem_cons_self)) ?_
  refine wp_true rfl ?_
  refine w_Went (x := ⟨2 * cc, 2 * cc + 1, p2, 3, false⟩) hD ok (List.mem_cons_of_mem _ List.mem_cons_self) ?_
  refine wp_true rfl (wp_true rfl (wp_true (ibeq rfl) ?_))
  refine wq_FWord ?_
  rw [f0]
  refine w_Raw hD fun hE => ?_
  refine wp_true (ibeq b0) ?_
  refine wq_FWord ?_
  rw [f1]
  refine w_Raw hE fun hF => ?_
  refine wp_true (ibeq (by rw [touch_yes2 (A := (B.later 1).later 2) oaB (by show 0 ≤ B.uses + 1 + 2; omega) (by show B.uses + 1 + 2 ≤ _; omega)]; exact b1)) ?_
  refine wp_call_det (x := true) (awake19_det _) ?_
  exact ⟨H, own_end hF ok hI, rfl, rfl⟩

set_option maxHeartbeats 1000000 in
theorem FutureMany_det (p0 p1 : Int) (s : Sl) (zs : List Int) (H : Heap) (hz : RowOf H s.a s.len zs) : Det Try.prog f_magpielaw19_FutureMany [.int .i64 p0, .int .i64 p1, .slice s.a s.len s.cap] H (.bool true) H := by
  refine t_magpielaw19_FutureMany_spec (p0 := p0) (p1 := p1) (p2 := s) fun L => ?_
  unfold t_magpielaw19_FutureMany
  refine w_Place (by omega) (by omega) (w_Place (by omega) (by omega) ?_)
  have a0 := Int.emod_nonneg p0 (b := 16) (by omega)
  have a1 := Int.emod_lt_of_pos p0 (b := 16) (by omega)
  have c0 := Int.emod_nonneg p1 (b := 50) (by omega)
  have c1 := Int.emod_lt_of_pos p1 (b := 50) (by omega)
  generalize p0 % 16 = a at *
  generalize p1 % 50 = k at *
  have e1 : w64 (1 + a) = 1 + a := w64_in (by omega) (by omega)
  obtain ⟨n, en⟩ : ∃ n, n = 1 + a := ⟨_, rfl⟩
  rw [e1, ← en]
  refine wq_FRaw ⟨by omega, by omega⟩ ?_
  have e2 : w64 (k + 2 * n) = k + 2 * n := w64_in (by omega) (by omega)
  have e3 : w64 (2 * n) = 2 * n := w64_in (by omega) (by omega)
  have e4 : w64 (n - 1) = n - 1 := w64_in (by omega) (by omega)
  have e5 : w64 (k + 2 * n - 1) = k + 2 * n - 1 := w64_in (by omega) (by omega)
  have ok0 : Ok0 H (keys []) := ⟨.nil, fun b h => (by cases h)⟩
  rw [e2]
  refine w_New (l := []) (n := k + 2 * n) (m := 0) (f := false) ok0 ⟨by omega, by omega⟩ (by decide) fun A hm hA hI ok => ?_
  refine look_val (x := false) (eqAr _) (wp_false rfl ?_)
  refine wq_FRaw ⟨by omega, by omega⟩ ?_
  rw [e3, e4]
  refine wp_false (ibnf rfl) ?_
  refine wq_FWord ?_
  rw [e2, e5, fw_eq ⟨by omega, by omega, by omega, by omega, by omega, by omega⟩]
  refine wp_false (ibnf (by omega)) ?_
  obtain ⟨r0, rl0⟩ := made0 hm
  have rl0 : (A.raw.length : Int) = k + 2 * n := by rw [rl0]; omega
  have u0 := hm.uses
  refine w_newP (c := arrC 16 fun _ => .bool false) hA ok fun x10 ok => ?_
  refine w_newP (c := arrC 16 fun _ => .int .i64 0) hA ok fun x11 ok => ?_
  refine wl_bi (fun _ i K => 0 ≤ i ∧ i ≤ 60 ∧ ∃ (B : Ar) (was : Nat → Bool) (is : Nat → Int) (tl : Bl), Aw A.ids B ∧ (B.raw.length : Int) = k + 2 * n ∧ B.fault = false ∧ 0 ≤ B.uses ∧ B.uses ≤ 10 * i ∧ (∀ f : Nat, (f : Int) < n → B.rawF (k + 2 * f) = (if was f then 2 else 0) ∧ (was f = true → B.rawF (k + 2 * f + 1) = is f) ∧ (was f = false → is f = 0)) ∧
      Ok A.ids H (keys ((x11, oc ty_a16_int (arrC 16 fun j => .int .i64 (is j))) :: (x10, oc ty_a16_bool (arrC 16 fun j => .bool (was j))) :: tl)) ∧ K = own B ((x11, oc ty_a16_int (arrC 16 fun j => .int .i64 (is j))) :: (x10, oc ty_a16_bool (arrC 16 fun j => .bool (was j))) :: tl) H) (fun _ i => (60 - i).toNat) false 0
    ⟨by omega, by omega, A, fun _ => false, fun _ => 0, [], hA, rl0, hm.fault, by omega, by omega, fun f hf => ⟨r0 _, ⟨fun h => (by cases h), fun _ => rfl⟩⟩, ok, rfl⟩ ?_
  rintro q i K ⟨i0, i1, B, was, is, tl, hB, rl, fa, us0, us, inv, ok, rfl⟩
  have fin : ∀ L, wp Try.prog (t_magpielaw19_FutureMany_J8 (aI A.ids)) L (own B ((x11, oc ty_a16_int (arrC 16 fun j => .int .i64 (is j))) :: (x10, oc ty_a16_bool (arrC 16 fun j => .bool (was j))) :: tl) H) (fun u K => u = .bool true ∧ K = H) := fun L => by
    unfold t_magpielaw19_FutureMany_J8
    refine w_Fault hB ?_
    refine wp_true (by rw [fa]; rfl) ?_
    refine wp_call_det (x := true) (awake19_det _) ?_
    exact ⟨H, own_end hB ok hI, rfl, rfl⟩
  rw [t_magpielaw19_FutureMany_L1, e1, ← en]
  by_cases d1 : i < ((s.len : Nat) : Int)
  case neg => exact wp_false (decide_eq_false d1) (fin _)
  refine wp_true (decide_eq_true d1) ?_
  by_cases d2 : i < 60
  case neg => exact wp_false (decide_eq_false d2) (fin _)
  refine wp_true (decide_eq_true d2) ?_
  refine wp_row hz (own_end hB ok hI) i0 d1 ?_
  refine w_Place (by omega) (by omega) ?_
  have v0 := Int.emod_nonneg (zs.getD i.toNat 0) (b := 1048576) (by omega)
  have v1 := Int.emod_lt_of_pos (zs.getD i.toNat 0) (b := 1048576) (by omega)
  generalize zs.getD i.toNat 0 % 1048576 = v at *
  have etd : w64 (Int.tdiv v 2) = v / 2 := by rw [Int.tdiv_eq_ediv_of_nonneg v0, w64_in (by omega) (by omega)]
  rw [etd]
  refine look_val (x := Int.tmod (v / 2) n) (opS_rem (by omega)) ?_
  rw [Int.tmod_eq_emod_of_nonneg (show 0 ≤ v / 2 by omega)]
  have f0 := Int.emod_nonneg (v / 2) (b := n) (by omega)
  have f1 := Int.emod_lt_of_pos (v / 2) (b := n) (by omega)
  generalize v / 2 % n = f at *
  have w0 : fw k f 0 = k + 2 * f := by rw [fw_eq ⟨by omega, by omega, by omega, by omega, by omega, by omega⟩]; omega
  have w1 : fw k f 1 = k + 2 * f + 1 := by rw [fw_eq ⟨by omega, by omega, by omega, by omega, by omega, by omega⟩]
  have nf : ∀ v, newFt k f v = ⟨k + 2 * f, k + 2 * f + 1, v, 0, false⟩ := fun v => by unfold newFt; rw [w0, w1]
  have oa : B.rawOk (k + 2 * f) := ⟨by omega, by omega⟩
  have ob : B.rawOk (k + 2 * f + 1) := ⟨by omega, by omega⟩
  obtain ⟨inv1, inv2, inv3⟩ := inv f.toNat (by omega)
  rw [show ((f.toNat : Nat) : Int) = f by omega] at inv1 inv2
  have en1 : w64 (i + 1) = i + 1 := w64_in (by omega) (by omega)
  have em : Int.tmod v 2 = v % 2 := Int.tmod_eq_emod_of_nonneg v0
  dsimp only
  rw [em, en1]
  by_cases ev : v % 2 = 0
  · refine wp_true (ibeq ev) ?_
    refine w_NewSet hB ok fun q1 ok1 => ?_
    refine look_val (x := false) (eqSt _) (wp_false rfl ?_)
    rw [nf] at ok1 ⊢
    cases hw : was f.toNat with
    | true =>
      rw [hw] at inv1
      refine w_setRun (rest := (x11, oc ty_a16_int (arrC 16 fun j => .int .i64 (is j))) :: (x10, oc ty_a16_bool (arrC 16 fun j => .bool (was j))) :: tl) hB ok1 (.refl _) (set_no oa us0 (by omega) (by rw [inv1]; decide)) (by decide) fun hC ok2 => ?_
      refine wp_false rfl ?_
      have m10 : (x10, oc ty_a16_bool (arrC 16 fun j => .bool (was j))) ∈ sC q1 (k + 2 * f) (k + 2 * f + 1) v 3 false :: (x11, oc ty_a16_int (arrC 16 fun j => .int .i64 (is j))) :: (x10, oc ty_a16_bool (arrC 16 fun j => .bool (was j))) :: tl := List.mem_cons_of_mem _ (List.mem_cons_of_mem _ List.mem_cons_self)
      refine w_arn (N := 16) (g := fun j => .bool (was j)) (x := was f.toNat) (e := ty_bool) hC ok2 m10 rfl rfl rfl f0 (by omega) rfl ?_
      refine w_Went (x := ⟨k + 2 * f, k + 2 * f + 1, v, 3, false⟩) hC ok2 List.mem_cons_self ?_
      refine ck_arn (N := 16) (g := fun j => .bool (was j)) hC ok2 m10 f0 (by omega) rfl ?_
      refine ck_aix (N := 16) (e := ty_bool) rfl rfl rfl f0 (by omega) ?_
      rw [hw]
      refine wp_false rfl ?_
      refine w_arn (N := 16) (g := fun j => .bool (was j)) (x := was f.toNat) (e := ty_bool) hC ok2 m10 rfl rfl rfl f0 (by omega) rfl ?_
      rw [hw]
      refine wp_false rfl ?_
      obtain ⟨p3, ok3⟩ := own_perm (A := B.later 1) (l' := (x11, oc ty_a16_int (arrC 16 fun j => .int .i64 (is j))) :: (x10, oc ty_a16_bool (arrC 16 fun j => .bool (was j))) :: (sC q1 (k + 2 * f) (k + 2 * f + 1) v 3 false :: tl)) ok2 (perm_by fun c d c0 cd ca => by simp only [cd, ca, c0]; omega)
      rw [p3]
      exact wp_again ⟨q, i + 1, rfl, ⟨by omega, by omega, B.later 1, was, is, _, hC, rl, fa, by show 0 ≤ B.uses + 1; omega, by show B.uses + 1 ≤ _; omega, inv, ok3, rfl⟩, by omega⟩
    | false =>
      rw [hw] at inv1
      obtain ⟨C, run, F⟩ := set_goes (A := B) (v := v) oa ob (by omega) us0 (by omega) inv1
      have fus := F.us
      have frl := F.rl
      refine w_setRun (rest := (x11, oc ty_a16_int (arrC 16 fun j => .int .i64 (is j))) :: (x10, oc ty_a16_bool (arrC 16 fun j => .bool (was j))) :: tl) hB ok1 (.refl _) run (by decide) fun hC ok2 => ?_
      refine wp_false rfl ?_
      have m10 : (x10, oc ty_a16_bool (arrC 16 fun j => .bool (was j))) ∈ sC q1 (k + 2 * f) (k + 2 * f + 1) v 3 true :: (x11, oc ty_a16_int (arrC 16 fun j => .int .i64 (is j))) :: (x10, oc ty_a16_bool (arrC 16 fun j => .bool (was j))) :: tl := List.mem_cons_of_mem _ (List.mem_cons_of_mem _ List.mem_cons_self)
      refine w_arn (N := 16) (g := fun j => .bool (was j)) (x := was f.toNat) (e := ty_bool) hC ok2 m10 rfl rfl rfl f0 (by omega) rfl ?_
      refine w_Went (x := ⟨k + 2 * f, k + 2 * f + 1, v, 3, true⟩) hC ok2 List.mem_cons_self ?_
      refine ck_arn (N := 16) (g := fun j => .bool (was j)) hC ok2 m10 f0 (by omega) rfl ?_
      refine ck_aix (N := 16) (e := ty_bool) rfl rfl rfl f0 (by omega) ?_
      rw [hw]
      refine wp_false rfl ?_
      refine w_arn (N := 16) (g := fun j => .bool (was j)) (x := was f.toNat) (e := ty_bool) hC ok2 m10 rfl rfl rfl f0 (by omega) rfl ?_
      rw [hw]
      refine wp_true rfl ?_
      refine w_arnS (N := 16) 2 (g := fun j => .bool (was j)) (e := ty_bool) hC ok2 rfl rfl rfl rfl f0 (by omega) rfl ?_
      have e10 : (arrC 16 fun j => if j = f.toNat then Value.bool true else .bool (was j)) = arrC 16 fun j => .bool (if j = f.toNat then true else was j) := by congr 1; funext j; split <;> rfl
      rw [e10]
      have ok3 : Ok A.ids H (keys (sC q1 (k + 2 * f) (k + 2 * f + 1) v 3 true :: (x11, oc ty_a16_int (arrC 16 fun j => .int .i64 (is j))) :: (x10, oc ty_a16_bool (arrC 16 fun j => .bool (if j = f.toNat then true else was j))) :: tl)) := ok2
      show wp Try.prog _ _ (own C (sC q1 (k + 2 * f) (k + 2 * f + 1) v 3 true :: (x11, oc ty_a16_int (arrC 16 fun j => .int .i64 (is j))) :: (x10, oc ty_a16_bool (arrC 16 fun j => .bool (if j = f.toNat then true else was j))) :: tl) H) _
      refine w_arnS (N := 16) 1 (g := fun j => .int .i64 (is j)) (e := ty_int) hC ok3 rfl rfl rfl rfl f0 (by omega) rfl ?_
      have e11 : (arrC 16 fun j => if j = f.toNat then Value.int .i64 v else .int .i64 (is j)) = arrC 16 fun j => .int .i64 (if j = f.toNat then v else is j) := by congr 1; funext j; split <;> rfl
      rw [e11]
      have ok4 : Ok A.ids H (keys (sC q1 (k + 2 * f) (k + 2 * f + 1) v 3 true :: (x11, oc ty_a16_int (arrC 16 fun j => .int .i64 (if j = f.toNat then v else is j))) :: (x10, oc ty_a16_bool (arrC 16 fun j => .bool (if j = f.toNat then true else was j))) :: tl)) := ok3
      show wp Try.prog _ _ (own C (sC q1 (k + 2 * f) (k + 2 * f + 1) v 3 true :: (x11, oc ty_a16_int (arrC 16 fun j => .int .i64 (if j = f.toNat then v else is j))) :: (x10, oc ty_a16_bool (arrC 16 fun j => .bool (if j = f.toNat then true else was j))) :: tl) H) _
      obtain ⟨p5, ok5⟩ := own_perm (A := C) (l' := (x11, oc ty_a16_int (arrC 16 fun j => .int .i64 (if j = f.toNat then v else is j))) :: (x10, oc ty_a16_bool (arrC 16 fun j => .bool (if j = f.toNat then true else was j))) :: (sC q1 (k + 2 * f) (k + 2 * f + 1) v 3 true :: tl)) ok4 (perm_by fun c d c0 cd ca => by simp only [cd, ca, c0]; omega)
      rw [p5]
      refine wp_again ⟨q, i + 1, rfl, ⟨by omega, by omega, C, fun j => if j = f.toNat then true else was j, fun j => if j = f.toNat then v else is j, _, hC, by rw [frl]; exact rl, F.fa.trans fa, by omega, by omega, fun g hg => ?_, ok5, rfl⟩, by omega⟩
      obtain ⟨g1, g2, g3⟩ := inv g hg
      by_cases e : g = f.toNat
      · subst e
        dsimp only
        simp only [if_pos]
        rw [F.rf, F.rf, if_pos (by omega), if_neg (by omega), if_pos (by omega)]
        exact ⟨rfl, fun _ => rfl, fun h => (by cases h)⟩
      · dsimp only
        simp only [if_neg e]
        have r1 : C.rawF (k + 2 * (g : Int)) = B.rawF (k + 2 * (g : Int)) := by
          refine (F.rf _).trans ((if_neg ?_).trans (if_neg ?_))
          · omega
          · omega
        have r2 : C.rawF (k + 2 * (g : Int) + 1) = B.rawF (k + 2 * (g : Int) + 1) := by
          refine (F.rf _).trans ((if_neg ?_).trans (if_neg ?_))
          · omega
          · omega
        rw [r1, r2]
        exact ⟨g1, g2, g3⟩
  · refine wp_false (ibef ev) ?_
    refine w_NewGet hB ok fun q1 ok1 => ?_
    refine look_val (x := false) (eqG _) (wp_false rfl ?_)
    rw [nf] at ok1 ⊢
    have key : ∀ {nn : Nat} {C : Ar} {u : Int} {o : Bool}, mGt.Runs nn ⟨k + 2 * f, k + 2 * f + 1, 0, 0, false⟩ B ⟨k + 2 * f, k + 2 * f + 1, u, 3, o⟩ C → nn ≤ 10 → o = was f.toNat → u = is f.toNat → (∃ d, 0 ≤ d ∧ d ≤ 2 ∧ C = B.later d) → wp Try.prog (.call f_magpielaw19_run [(.pointer (aI A.ids)), (.iface ty_p_future_Get (.pointer (some ⟨q1, 0, none⟩)))] (.one (.leaf .bool)) fun x113 =>
          bif (!x113) then (
            .ret (.bool false))
          else (
            .call f_future_Get_Value [(.pointer (some ⟨q1, 0, none⟩))] (.tup [(.leaf (.int .i64)), (.leaf .bool)]) fun x118 =>
            .look (opS Try.prog (.indexAddr ty_a16_bool (.tmp 0) (.tmp 1)) ty_unit [(.pointer (some ⟨x10, 0, none⟩)), (.int .i64 f)]) (.one (.leaf .addr)) fun x123 =>
            .ld x123 .bool fun x124 =>
            bif (!(x118.2.1 == x124)) then (
              .ret (.bool false))
            else (
              .look (opS Try.prog (.indexAddr ty_a16_int (.tmp 0) (.tmp 1)) ty_unit [(.pointer (some ⟨x11, 0, none⟩)), (.int .i64 f)]) (.one (.leaf .addr)) fun x129 =>
              .ld x129 (.int .i64) fun x130 =>
              bif ((x118.1 : Int) != x130) then (
                .ret (.bool false))
              else (
                .again 512 [(.bool q), (.int .i64 (i + 1))])))) (L.set 512 fun vals H'' => ∃ y0 y1, vals = [Value.bool y0, Value.int .i64 y1] ∧ (0 ≤ y1 ∧ y1 ≤ 60 ∧ ∃ (B : Ar) (was : Nat → Bool) (is : Nat → Int) (tl : Bl), Aw A.ids B ∧ (B.raw.length : Int) = k + 2 * n ∧ B.fault = false ∧ 0 ≤ B.uses ∧ B.uses ≤ 10 * y1 ∧ (∀ f : Nat, (f : Int) < n → B.rawF (k + 2 * f) = (if was f then 2 else 0) ∧ (was f = true → B.rawF (k + 2 * f + 1) = is f) ∧ (was f = false → is f = 0)) ∧
      Ok A.ids H (keys ((x11, oc ty_a16_int (arrC 16 fun j => .int .i64 (is j))) :: (x10, oc ty_a16_bool (arrC 16 fun j => .bool (was j))) :: tl)) ∧ H'' = own B ((x11, oc ty_a16_int (arrC 16 fun j => .int .i64 (is j))) :: (x10, oc ty_a16_bool (arrC 16 fun j => .bool (was j))) :: tl) H) ∧ (60 - y1).toNat < (60 - i).toNat) (own B (gC q1 (k + 2 * f) (k + 2 * f + 1) 0 0 false :: (x11, oc ty_a16_int (arrC 16 fun j => .int .i64 (is j))) :: (x10, oc ty_a16_bool (arrC 16 fun j => .bool (was j))) :: tl) H) (fun u K => u = .bool true ∧ K = H) := by
      rintro m C u o run hm2 ho hu ⟨d, d0, d2, rfl⟩
      refine w_getRun (rest := (x11, oc ty_a16_int (arrC 16 fun j => .int .i64 (is j))) :: (x10, oc ty_a16_bool (arrC 16 fun j => .bool (was j))) :: tl) hB ok1 (.refl _) run hm2 fun hC ok2 => ?_
      refine wp_false rfl ?_
      refine w_Value (x := ⟨k + 2 * f, k + 2 * f + 1, u, 3, o⟩) hC ok2 List.mem_cons_self ?_
      refine w_arn (N := 16) (g := fun j => .bool (was j)) (x := was f.toNat) (e := ty_bool) hC ok2 (List.mem_cons_of_mem _ (List.mem_cons_of_mem _ List.mem_cons_self)) rfl rfl rfl f0 (by omega) rfl ?_
      refine wp_false (by show (!(o == was f.toNat)) = false; rw [ho]; simp) ?_
      refine w_arn (N := 16) (g := fun j => .int .i64 (is j)) (x := is f.toNat) (e := ty_int) hC ok2 (List.mem_cons_of_mem _ List.mem_cons_self) rfl rfl rfl f0 (by omega) rfl ?_
      refine wp_false (ibnf hu) ?_
      obtain ⟨p3, ok3⟩ := own_perm (A := B.later d) (l' := (x11, oc ty_a16_int (arrC 16 fun j => .int .i64 (is j))) :: (x10, oc ty_a16_bool (arrC 16 fun j => .bool (was j))) :: (gC q1 (k + 2 * f) (k + 2 * f + 1) u 3 o :: tl)) ok2 (perm_by fun c d c0 cd ca => by simp only [cd, ca, c0]; omega)
      rw [p3]
      exact wp_again ⟨q, i + 1, rfl, ⟨by omega, by omega, B.later d, was, is, _, hC, rl, fa, by show 0 ≤ B.uses + d; omega, by show B.uses + d ≤ _; omega, inv, ok3, rfl⟩, by omega⟩
    cases hw : was f.toNat with
    | true =>
      rw [hw] at inv1
      exact key (get_some oa ob us0 (by omega) inv1) (by decide) hw.symm (inv2 hw) ⟨2, by decide, by decide, rfl⟩
    | false =>
      rw [hw] at inv1
      exact key (get_none oa us0 (by omega) (by rw [inv1]; decide)) (by decide) hw.symm (inv3 hw).symm ⟨1, by decide, by decide, rfl⟩
end Go.Proofs.Ytjleoogieoahnaa

set_option linter.unusedVariables false
namespace Go.Proofs.Ytjleoogieoahnaa
open Go Go.Fw

theorem wl_bppsi {L : Hands} {H : Heap} {R : Value → Heap → Prop} {n : Nat} {init : List Value} {body : HL Sh1.T [.leaf .bool, .leaf .ptr, .leaf .ptr, .leaf .slice, .leaf (.int .i64)] → Tree} (I : Bool → Option Addr → Option Addr → Sl → Int → Heap → Prop) (m : Bool → Option Addr → Option Addr → Sl → Int → Nat) (x0 : Bool) (x1 : Option Addr) (x2 : Option Addr) (x3 : Sl) (x4 : Int) (hi : I x0 x1 x2 x3 x4 H)
    (hstep : ∀ (x0 : Bool) (x1 : Option Addr) (x2 : Option Addr) (x3 : Sl) (x4 : Int) H', I x0 x1 x2 x3 x4 H' → wp Try.prog (body (x0, x1, x2, x3, x4, ())) (L.set n fun vals H'' => ∃ (y0 : Bool) (y1 : Option Addr) (y2 : Option Addr) (y3 : Sl) (y4 : Int), vals = [.bool y0, .pointer y1, .pointer y2, .slice y3.a y3.len y3.cap, .int .i64 y4] ∧ I y0 y1 y2 y3 y4 H'' ∧ m y0 y1 y2 y3 y4 < m x0 x1 x2 x3 x4) H' R) (h0 : init = [.bool x0, .pointer x1, .pointer x2, .slice x3.a x3.len x3.cap, .int .i64 x4] := by rfl) :
    wp Try.prog (.loop n [.leaf .bool, .leaf .ptr, .leaf .ptr, .leaf .slice, .leaf (.int .i64)] init body) L H R := by
  refine wp_loop_inv (fun x K => I x.1 x.2.1 x.2.2.1 x.2.2.2.1 x.2.2.2.2.1 K) (fun x _ => m x.1 x.2.1 x.2.2.1 x.2.2.2.1 x.2.2.2.2.1) (x0, x1, x2, x3, x4, ()) h0 hi ?_
  rintro ⟨x0, x1, x2, x3, x4, u⟩ K hI
  refine Go.Fw.wp_mono _ (hstep x0 x1 x2 x3 x4 K hI) (fun k vals H'' hk => ?_) (fun _ _ h => h)
  unfold Hands.set at *
  split at hk
  · rename_i e; rw [if_pos e]; obtain ⟨y0, y1, y2, y3, y4, h1, h2, h3⟩ := hk; exact ⟨(y0, y1, y2, y3, y4, ()), h1, h2, h3⟩
  · rename_i e; rw [if_neg e]; exact hk
theorem wl_bsp {L : Hands} {H : Heap} {R : Value → Heap → Prop} {n : Nat} {init : List Value} {body : HL Sh1.T [.leaf .bool, .leaf .slice, .leaf .ptr] → Tree} (I : Bool → Sl → Option Addr → Heap → Prop) (m : Bool → Sl → Option Addr → Nat) (x0 : Bool) (x1 : Sl) (x2 : Option Addr) (hi : I x0 x1 x2 H)
    (hstep : ∀ (x0 : Bool) (x1 : Sl) (x2 : Option Addr) H', I x0 x1 x2 H' → wp Try.prog (body (x0, x1, x2, ())) (L.set n fun vals H'' => ∃ (y0 : Bool) (y1 : Sl) (y2 : Option Addr), vals = [.bool y0, .slice y1.a y1.len y1.cap, .pointer y2] ∧ I y0 y1 y2 H'' ∧ m y0 y1 y2 < m x0 x1 x2) H' R) (h0 : init = [.bool x0, .slice x1.a x1.len x1.cap, .pointer x2] := by rfl) :
    wp Try.prog (.loop n [.leaf .bool, .leaf .slice, .leaf .ptr] init body) L H R := by
  refine wp_loop_inv (fun x K => I x.1 x.2.1 x.2.2.1 K) (fun x _ => m x.1 x.2.1 x.2.2.1) (x0, x1, x2, ()) h0 hi ?_
  rintro ⟨x0, x1, x2, u⟩ K hI
  refine Go.Fw.wp_mono _ (hstep x0 x1 x2 K hI) (fun k vals H'' hk => ?_) (fun _ _ h => h)
  unfold Hands.set at *
  split at hk
  · rename_i e; rw [if_pos e]; obtain ⟨y0, y1, y2, h1, h2, h3⟩ := hk; exact ⟨(y0, y1, y2, ()), h1, h2, h3⟩
  · rename_i e; rw [if_neg e]; exact hk
theorem wl_bpi {L : Hands} {H : Heap} {R : Value → Heap → Prop} {n : Nat} {init : List Value} {body : HL Sh1.T [.leaf .bool, .leaf .ptr, .leaf (.int .i64)] → Tree} (I : Bool → Option Addr → Int → Heap → Prop) (m : Bool → Option Addr → Int → Nat) (x0 : Bool) (x1 : Option Addr) (x2 : Int) (hi : I x0 x1 x2 H)
    (hstep : ∀ (x0 : Bool) (x1 : Option Addr) (x2 : Int) H', I x0 x1 x2 H' → wp Try.prog (body (x0, x1, x2, ())) (L.set n fun vals H'' => ∃ (y0 : Bool) (y1 : Option Addr) (y2 : Int), vals = [.bool y0, .pointer y1, .int .i64 y2] ∧ I y0 y1 y2 H'' ∧ m y0 y1 y2 < m x0 x1 x2) H' R) (h0 : init = [.bool x0, .pointer x1, .int .i64 x2] := by rfl) :
    wp Try.prog (.loop n [.leaf .bool, .leaf .ptr, .leaf (.int .i64)] init body) L H R := by
  refine wp_loop_inv (fun x K => I x.1 x.2.1 x.2.2.1 K) (fun x _ => m x.1 x.2.1 x.2.2.1) (x0, x1, x2, ()) h0 hi ?_
  rintro ⟨x0, x1, x2, u⟩ K hI
  refine Go.Fw.wp_mono _ (hstep x0 x1 x2 K hI) (fun k vals H'' hk => ?_) (fun _ _ h => h)
  unfold Hands.set at *
  split at hk
  · rename_i e; rw [if_pos e]; obtain ⟨y0, y1, y2, h1, h2, h3⟩ := hk; exact ⟨(y0, y1, y2, ()), h1, h2, h3⟩
  · rename_i e; rw [if_neg e]; exact hk
theorem wl_bps {L : Hands} {H : Heap} {R : Value → Heap → Prop} {n : Nat} {init : List Value} {body : HL Sh1.T [.leaf .bool, .leaf .ptr, .leaf .slice] → Tree} (I : Bool → Option Addr → Sl → Heap → Prop) (m : Bool → Option Addr → Sl → Nat) (x0 : Bool) (x1 : Option Addr) (x2 : Sl) (hi : I x0 x1 x2 H)
    (hstep : ∀ (x0 : Bool) (x1 : Option Addr) (x2 : Sl) H', I x0 x1 x2 H' → wp Try.prog (body (x0, x1, x2, ())) (L.set n fun vals H'' => ∃ (y0 : Bool) (y1 : Option Addr) (y2 : Sl), vals = [.bool y0, .pointer y1, .slice y2.a y2.len y2.cap] ∧ I y0 y1 y2 H'' ∧ m y0 y1 y2 < m x0 x1 x2) H' R) (h0 : init = [.bool x0, .pointer x1, .slice x2.a x2.len x2.cap] := by rfl) :
    wp Try.prog (.loop n [.leaf .bool, .leaf .ptr, .leaf .slice] init body) L H R := by
  refine wp_loop_inv (fun x K => I x.1 x.2.1 x.2.2.1 K) (fun x _ => m x.1 x.2.1 x.2.2.1) (x0, x1, x2, ()) h0 hi ?_
  rintro ⟨x0, x1, x2, u⟩ K hI
  refine Go.Fw.wp_mono _ (hstep x0 x1 x2 K hI) (fun k vals H'' hk => ?_) (fun _ _ h => h)
  unfold Hands.set at *
  split at hk
  · rename_i e; rw [if_pos e]; obtain ⟨y0, y1, y2, h1, h2, h3⟩ := hk; exact ⟨(y0, y1, y2, ()), h1, h2, h3⟩
  · rename_i e; rw [if_neg e]; exact hk
theorem wl_bv {L : Hands} {H : Heap} {R : Value → Heap → Prop} {n : Nat} {init : List Value} {body : HL Sh1.T [.leaf .bool, .leaf .val] → Tree} (I : Bool → Value → Heap → Prop) (m : Bool → Value → Nat) (x0 : Bool) (x1 : Value) (hi : I x0 x1 H)
    (hstep : ∀ (x0 : Bool) (x1 : Value) H', I x0 x1 H' → wp Try.prog (body (x0, x1, ())) (L.set n fun vals H'' => ∃ (y0 : Bool) (y1 : Value), vals = [.bool y0, y1] ∧ I y0 y1 H'' ∧ m y0 y1 < m x0 x1) H' R) (h0 : init = [.bool x0, x1] := by rfl) :
    wp Try.prog (.loop n [.leaf .bool, .leaf .val] init body) L H R := by
  refine wp_loop_inv (fun x K => I x.1 x.2.1 K) (fun x _ => m x.1 x.2.1) (x0, x1, ()) h0 hi ?_
  rintro ⟨x0, x1, u⟩ K hI
  refine Go.Fw.wp_mono _ (hstep x0 x1 K hI) (fun k vals H'' hk => ?_) (fun _ _ h => h)
  unfold Hands.set at *
  split at hk
  · rename_i e; rw [if_pos e]; obtain ⟨y0, y1, h1, h2, h3⟩ := hk; exact ⟨(y0, y1, ()), h1, h2, h3⟩
  · rename_i e; rw [if_neg e]; exact hk
theorem wl_bbi {L : Hands} {H : Heap} {R : Value → Heap → Prop} {n : Nat} {init : List Value} {body : HL Sh1.T [.leaf .bool, .leaf .bool, .leaf (.int .i64)] → Tree} (I : Bool → Bool → Int → Heap → Prop) (m : Bool → Bool → Int → Nat) (x0 : Bool) (x1 : Bool) (x2 : Int) (hi : I x0 x1 x2 H)
    (hstep : ∀ (x0 : Bool) (x1 : Bool) (x2 : Int) H', I x0 x1 x2 H' → wp Try.prog (body (x0, x1, x2, ())) (L.set n fun vals H'' => ∃ (y0 : Bool) (y1 : Bool) (y2 : Int), vals = [.bool y0, .bool y1, .int .i64 y2] ∧ I y0 y1 y2 H'' ∧ m y0 y1 y2 < m x0 x1 x2) H' R) (h0 : init = [.bool x0, .bool x1, .int .i64 x2] := by rfl) :
    wp Try.prog (.loop n [.leaf .bool, .leaf .bool, .leaf (.int .i64)] init body) L H R := by
  refine wp_loop_inv (fun x K => I x.1 x.2.1 x.2.2.1 K) (fun x _ => m x.1 x.2.1 x.2.2.1) (x0, x1, x2, ()) h0 hi ?_
  rintro ⟨x0, x1, x2, u⟩ K hI
  refine Go.Fw.wp_mono _ (hstep x0 x1 x2 K hI) (fun k vals H'' hk => ?_) (fun _ _ h => h)
  unfold Hands.set at *
  split at hk
  · rename_i e; rw [if_pos e]; obtain ⟨y0, y1, y2, h1, h2, h3⟩ := hk; exact ⟨(y0, y1, y2, ()), h1, h2, h3⟩
  · rename_i e; rw [if_neg e]; exact hk
theorem wl_biiii {L : Hands} {H : Heap} {R : Value → Heap → Prop} {n : Nat} {init : List Value} {body : HL Sh1.T [.leaf .bool, .leaf (.int .i64), .leaf (.int .i64), .leaf (.int .i64), .leaf (.int .i64)] → Tree} (I : Bool → Int → Int → Int → Int → Heap → Prop) (m : Bool → Int → Int → Int → Int → Nat) (x0 : Bool) (x1 : Int) (x2 : Int) (x3 : Int) (x4 : Int) (hi : I x0 x1 x2 x3 x4 H)
    (hstep : ∀ (x0 : Bool) (x1 : Int) (x2 : Int) (x3 : Int) (x4 : Int) H', I x0 x1 x2 x3 x4 H' → wp Try.prog (body (x0, x1, x2, x3, x4, ())) (L.set n fun vals H'' => ∃ (y0 : Bool) (y1 : Int) (y2 : Int) (y3 : Int) (y4 : Int), vals = [.bool y0, .int .i64 y1, .int .i64 y2, .int .i64 y3, .int .i64 y4] ∧ I y0 y1 y2 y3 y4 H'' ∧ m y0 y1 y2 y3 y4 < m x0 x1 x2 x3 x4) H' R) (h0 : init = [.bool x0, .int .i64 x1, .int .i64 x2, .int .i64 x3, .int .i64 x4] := by rfl) :
    wp Try.prog (.loop n [.leaf .bool, .leaf (.int .i64), .leaf (.int .i64), .leaf (.int .i64), .leaf (.int .i64)] init body) L H R := by
  refine wp_loop_inv (fun x K => I x.1 x.2.1 x.2.2.1 x.2.2.2.1 x.2.2.2.2.1 K) (fun x _ => m x.1 x.2.1 x.2.2.1 x.2.2.2.1 x.2.2.2.2.1) (x0, x1, x2, x3, x4, ()) h0 hi ?_
  rintro ⟨x0, x1, x2, x3, x4, u⟩ K hI
  refine Go.Fw.wp_mono _ (hstep x0 x1 x2 x3 x4 K hI) (fun k vals H'' hk => ?_) (fun _ _ h => h)
  unfold Hands.set at *
  split at hk
  · rename_i e; rw [if_pos e]; obtain ⟨y0, y1, y2, y3, y4, h1, h2, h3⟩ := hk; exact ⟨(y0, y1, y2, y3, y4, ()), h1, h2, h3⟩
  · rename_i e; rw [if_neg e]; exact hk
theorem wl_bpppi {L : Hands} {H : Heap} {R : Value → Heap → Prop} {n : Nat} {init : List Value} {body : HL Sh1.T [.leaf .bool, .leaf .ptr, .leaf .ptr, .leaf .ptr, .leaf (.int .i64)] → Tree} (I : Bool → Option Addr → Option Addr → Option Addr → Int → Heap → Prop) (m : Bool → Option Addr → Option Addr → Option Addr → Int → Nat) (x0 : Bool) (x1 : Option Addr) (x2 : Option Addr) (x3 : Option Addr) (x4 : Int) (hi : I x0 x1 x2 x3 x4 H)
    (hstep : ∀ (x0 : Bool) (x1 : Option Addr) (x2 : Option Addr) (x3 : Option Addr) (x4 : Int) H', I x0 x1 x2 x3 x4 H' → wp Try.prog (body (x0, x1, x2, x3, x4, ())) (L.set n fun vals H'' => ∃ (y0 : Bool) (y1 : Option Addr) (y2 : Option Addr) (y3 : Option Addr) (y4 : Int), vals = [.bool y0, .pointer y1, .pointer y2, .pointer y3, .int .i64 y4] ∧ I y0 y1 y2 y3 y4 H'' ∧ m y0 y1 y2 y3 y4 < m x0 x1 x2 x3 x4) H' R) (h0 : init = [.bool x0, .pointer x1, .pointer x2, .pointer x3, .int .i64 x4] := by rfl) :
    wp Try.prog (.loop n [.leaf .bool, .leaf .ptr, .leaf .ptr, .leaf .ptr, .leaf (.int .i64)] init body) L H R := by
  refine wp_loop_inv (fun x K => I x.1 x.2.1 x.2.2.1 x.2.2.2.1 x.2.2.2.2.1 K) (fun x _ => m x.1 x.2.1 x.2.2.1 x.2.2.2.1 x.2.2.2.2.1) (x0, x1, x2, x3, x4, ()) h0 hi ?_
  rintro ⟨x0, x1, x2, x3, x4, u⟩ K hI
  refine Go.Fw.wp_mono _ (hstep x0 x1 x2 x3 x4 K hI) (fun k vals H'' hk => ?_) (fun _ _ h => h)
  unfold Hands.set at *
  split at hk
  · rename_i e; rw [if_pos e]; obtain ⟨y0, y1, y2, y3, y4, h1, h2, h3⟩ := hk; exact ⟨(y0, y1, y2, y3, y4, ()), h1, h2, h3⟩
  · rename_i e; rw [if_neg e]; exact hk
theorem wl_bibi {L : Hands} {H : Heap} {R : Value → Heap → Prop} {n : Nat} {init : List Value} {body : HL Sh1.T [.leaf .bool, .leaf (.int .i64), .leaf .bool, .leaf (.int .i64)] → Tree} (I : Bool → Int → Bool → Int → Heap → Prop) (m : Bool → Int → Bool → Int → Nat) (x0 : Bool) (x1 : Int) (x2 : Bool) (x3 : Int) (hi : I x0 x1 x2 x3 H)
    (hstep : ∀ (x0 : Bool) (x1 : Int) (x2 : Bool) (x3 : Int) H', I x0 x1 x2 x3 H' → wp Try.prog (body (x0, x1, x2, x3, ())) (L.set n fun vals H'' => ∃ (y0 : Bool) (y1 : Int) (y2 : Bool) (y3 : Int), vals = [.bool y0, .int .i64 y1, .bool y2, .int .i64 y3] ∧ I y0 y1 y2 y3 H'' ∧ m y0 y1 y2 y3 < m x0 x1 x2 x3) H' R) (h0 : init = [.bool x0, .int .i64 x1, .bool x2, .int .i64 x3] := by rfl) :
    wp Try.prog (.loop n [.leaf .bool, .leaf (.int .i64), .leaf .bool, .leaf (.int .i64)] init body) L H R := by
  refine wp_loop_inv (fun x K => I x.1 x.2.1 x.2.2.1 x.2.2.2.1 K) (fun x _ => m x.1 x.2.1 x.2.2.1 x.2.2.2.1) (x0, x1, x2, x3, ()) h0 hi ?_
  rintro ⟨x0, x1, x2, x3, u⟩ K hI
  refine Go.Fw.wp_mono _ (hstep x0 x1 x2 x3 K hI) (fun k vals H'' hk => ?_) (fun _ _ h => h)
  unfold Hands.set at *
  split at hk
  · rename_i e; rw [if_pos e]; obtain ⟨y0, y1, y2, y3, h1, h2, h3⟩ := hk; exact ⟨(y0, y1, y2, y3, ()), h1, h2, h3⟩
  · rename_i e; rw [if_neg e]; exact hk
end Go.Proofs.Ytjleoogieoahnaa

set_option linter.unusedVariables false
set_option linter.unusedSimpArgs false
set_option maxRecDepth 20000
namespace Go.Proofs.Ytjleoogieoahnaa
open Go Go.Fw

/-- A pick: what both kinds of pick do. -/
noncomputable def foT (x4 : Addr) (x26 : Int) (x29 : Option Addr) (x9 x10 x15 : Addr) (y2 : HL Sh1.T t_magpielaw19_FutureOnce_L2_sh) (x79 x83 : Int) : Tree :=
        bif (decide ((x79 : Int) < 4)) then (
          .look (opS Try.prog (.indexAddr ty_a4_bool (.tmp 0) (.tmp 1)) ty_unit [(.pointer (some x15)), (.int .i64 (Int.tmod x79 4))]) (.one (.leaf .addr)) fun x89 =>
          .ld x89 .bool fun x90 =>
          bif (!x90) then (
            .look (opS Try.prog (.indexAddr ty_a4_p_future_Set (.tmp 0) (.tmp 1)) ty_unit [(.pointer (some x9)), (.int .i64 (Int.tmod x79 4))]) (.one (.leaf .addr)) fun x94 =>
            .ld x94 .ptr fun x95 =>
            .call f_future_Set_Step [(.pointer x95), (.pointer x29)] (.one (.leaf .bool)) fun x97 =>
            bif x97 then (
              .look (opS Try.prog (.indexAddr ty_a4_bool (.tmp 0) (.tmp 1)) ty_unit [(.pointer (some x15)), (.int .i64 (Int.tmod x79 4))]) (.one (.leaf .addr)) fun x99 =>
              .st x99 (.bool true) <|
              .look (opS Try.prog (.indexAddr ty_a4_p_future_Set (.tmp 0) (.tmp 1)) ty_unit [(.pointer (some x9)), (.int .i64 (Int.tmod x79 4))]) (.one (.leaf .addr)) fun x101 =>
              .ld x101 .ptr fun x102 =>
              .call f_future_Set_Went [(.pointer x102)] (.one (.leaf .bool)) fun x103 =>
              bif x103 then (
                bif (decide ((y2.2.1 : Int) ≥ 0)) then (
                  .ret (.bool false))
                else (
                  .call f_arena_Arena_Uses [(.pointer x29)] (.one (.leaf (.int .i64))) fun x150 =>
                  bif (decide ((x150 : Int) > (w64 (x83 + 1)))) then (
                    .ret (.bool false))
                  else (
                    .again 1088 [(.bool y2.1), (.int .i64 (Int.tmod x79 4)), (.bool y2.2.2.1), (.int .i64 (w64 (y2.2.2.2.1 + 1)))])))
              else (
                .call f_arena_Arena_Uses [(.pointer x29)] (.one (.leaf (.int .i64))) fun x150 =>
                t_magpielaw19_FutureOnce_J5 y2 x83 x150))
            else (
              .call f_arena_Arena_Uses [(.pointer x29)] (.one (.leaf (.int .i64))) fun x150 =>
              t_magpielaw19_FutureOnce_J5 y2 x83 x150))
          else (
            bif (decide ((x79 : Int) ≥ 4)) then (
              .look (opS Try.prog (.indexAddr ty_a4_p_future_Get (.tmp 0) (.tmp 1)) ty_unit [(.pointer (some x10)), (.int .i64 (Int.tmod x79 4))]) (.one (.leaf .addr)) fun x112 =>
              .ld x112 .ptr fun x113 =>
              .look (opS Try.prog (.binOp .eql ty_p_future_Get (.tmp 0) (.const (.pointer none)) ty_p_future_Get) ty_bool [(.pointer x113)]) (.one (.leaf .bool)) fun x114 =>
              t_magpielaw19_FutureOnce_J14 x4 x26 x29 x10 y2 x79 x83 x114)
            else (
              t_magpielaw19_FutureOnce_J13 x4 x29 x10 y2 x79 x83)))
        else (
          bif (decide ((x79 : Int) ≥ 4)) then (
            .look (opS Try.prog (.indexAddr ty_a4_p_future_Get (.tmp 0) (.tmp 1)) ty_unit [(.pointer (some x10)), (.int .i64 (Int.tmod x79 4))]) (.one (.leaf .addr)) fun x112 =>
            .ld x112 .ptr fun x113 =>
            .look (opS Try.prog (.binOp .eql ty_p_future_Get (.tmp 0) (.const (.pointer none)) ty_p_future_Get) ty_bool [(.pointer x113)]) (.one (.leaf .bool)) fun x114 =>
            t_magpielaw19_FutureOnce_J14 x4 x26 x29 x10 y2 x79 x83 x114)
          else (
            t_magpielaw19_FutureOnce_J13 x4 x29 x10 y2 x79 x83))

abbrev oP := Nat × Ft
def sBl (x : oP) : Bl := [(x.1, oc ty_future_Set x.2.cells)]
def gBl : Option oP → Bl
  | none => []
  | some x => [(x.1, oc ty_future_Get x.2.cells)]
def gPt : Option oP → Option Addr
  | none => none
  | some x => some ⟨x.1, 0, none⟩
abbrev foH (x15 x10 x9 x4 : Nat) (s1 : Sl) (c15 c10 c9 : List Value) (rest : Bl) : Bl :=
  (x15, oc ty_a4_bool c15) :: (x10, oc ty_a4_p_future_Get c10) :: (x9, oc ty_a4_p_future_Set c9) :: (x4, oc ty_s_int [.slice s1.a s1.len s1.cap]) :: rest
abbrev foB (x15 x10 x9 x4 : Nat) (s1 : Sl) (ss : Nat → oP) (gs : Nat → Option oP) (tl : Bl) : Bl :=
  foH x15 x10 x9 x4 s1 (arrC 4 fun j => .bool ((ss j).2.ph == 3)) (arrC 4 fun j => .pointer (gPt (gs j))) (arrC 4 fun j => .pointer (some ⟨(ss j).1, 0, none⟩)) (famB (fun j => sBl (ss j)) 4 ++ (famB (fun j => gBl (gs j)) 4 ++ tl))
abbrev FOp (a b : Int) (vs : Nat → Int) (A : Ar) (ss : Nat → oP) (gs : Nat → Option oP) (who : Int) : Prop := FO a b vs A (fun j => (ss j).2) (fun j => (gs j).map (·.2)) who
theorem updF_map {α β : Type} (g : α → β) (f : Nat → α) (i : Nat) (a : α) : (fun j => g (updF f i a j)) = updF (fun j => g (f j)) i (g a) := by
  funext j; unfold updF; split <;> rfl

def onceV (s : Sl) (zs : List Int) (i : Nat) : Int := if (i : Int) < ((s.len : Nat) : Int) then zs.getD i 0 else 10 + i

theorem opS_clos (a : Addr) (i : Int) : opS Try.prog (.call { callee := .value (.tmp 0), args := #[(.tmp 1)], argTypes := #[ty_int] }) ty_int [(.func (.func f_magpielaw19_FutureOnce_1) #[] #[(.pointer (some a))]), (.int .i64 i)] = .pure (.enter f_magpielaw19_FutureOnce_1 [.int .i64 i, .pointer (some a)].toArray) := by kernel_rfl

section
variable {A : Ar} {L : Hands} {R : Value → Heap → Prop} {H : Heap} {I : List Nat} {l tl : Bl} {x15 x10 x9 x4 : Nat} {s1 : Sl} {zs : List Int} {ss : Nat → oP} {gs : Nat → Option oP} {a b c who : Int} {q : Bool} {told : Bool}

theorem w_clos {i : Int} {k : Int → Tree} (hz : RowOf H s1.a s1.len zs) (hA : Aw I A) (ok : Ok I H (keys l)) (hI : H.le (own A l H)) (hm : (x4, oc ty_s_int [.slice s1.a s1.len s1.cap]) ∈ l) (i0 : 0 ≤ i) (i1 : i < 4) (h : wp Try.prog (k (onceV s1 zs i.toNat)) L (own A l H) R) :
    wp Try.prog (.look (opS Try.prog (.call { callee := .value (.tmp 0), args := #[(.tmp 1)], argTypes := #[ty_int] }) ty_int [(.func (.func f_magpielaw19_FutureOnce_1) #[] #[(.pointer (some ⟨x4, 0, none⟩))]), (.int .i64 i)]) (.one (.leaf (.int .i64))) k) L (own A l H) R := by
  refine look_enter (x := onceV s1 zs i.toNat) (opS_clos _ _) ?_ h
  refine t_magpielaw19_FutureOnce_1_spec fun L => ?_
  unfold t_magpielaw19_FutureOnce_1
  refine w_ldm (x := s1) hA ok rfl hm rfl ?_
  unfold onceV
  by_cases d : i < ((s1.len : Nat) : Int)
  · refine wp_true (decide_eq_true d) ?_
    refine w_ldm (x := s1) hA ok rfl hm rfl ?_
    refine wp_row hz hI i0 d ?_
    rw [if_pos (by omega)]
    exact wp_ret_of ⟨rfl, rfl⟩
  · refine wp_false (decide_eq_false d) ?_
    rw [if_neg (by omega), w64_in (x := 10 + i) (by omega) (by omega), show ((i.toNat : Nat) : Int) = i by omega]
    exact wp_ret_of ⟨rfl, rfl⟩

theorem fo_setFront (ok : Ok I H (keys (foB x15 x10 x9 x4 s1 ss gs tl))) {i : Nat} (hi : i < 4) {c15 c10 c9 : List Value} (h15 : c15 = arrC 4 fun j => .bool ((ss j).2.ph == 3)) (h10 : c10 = arrC 4 fun j => .pointer (gPt (gs j))) (h9 : c9 = arrC 4 fun j => .pointer (some ⟨(ss j).1, 0, none⟩)) :
    own A (foB x15 x10 x9 x4 s1 ss gs tl) H = own A (sBl (ss i) ++ foH x15 x10 x9 x4 s1 c15 c10 c9 (famR (fun j => sBl (ss j)) i 4 ++ (famB (fun j => gBl (gs j)) 4 ++ tl))) H ∧
    Ok I H (keys (sBl (ss i) ++ foH x15 x10 x9 x4 s1 c15 c10 c9 (famR (fun j => sBl (ss j)) i 4 ++ (famB (fun j => gBl (gs j)) 4 ++ tl)))) := by
  subst h15; subst h10; subst h9
  refine own_perm (A := A) ok (perm_by fun c d c0 cd ca => ?_)
  have := famB_c c0 ca (fun j => sBl (ss j)) hi
  simp only [foB, foH, cd, ca]
  omega
theorem fo_setBack {y : oP} {i : Nat} (hi : i < 4) {c15 c10 c9 : List Value} (h15 : c15 = arrC 4 fun j => .bool ((updF ss i y j).2.ph == 3)) (h10 : c10 = arrC 4 fun j => .pointer (gPt (gs j))) (h9 : c9 = arrC 4 fun j => .pointer (some ⟨(updF ss i y j).1, 0, none⟩))
    (ok : Ok I H (keys (sBl y ++ foH x15 x10 x9 x4 s1 c15 c10 c9 (famR (fun j => sBl (ss j)) i 4 ++ (famB (fun j => gBl (gs j)) 4 ++ tl))))) :
    own A (sBl y ++ foH x15 x10 x9 x4 s1 c15 c10 c9 (famR (fun j => sBl (ss j)) i 4 ++ (famB (fun j => gBl (gs j)) 4 ++ tl))) H = own A (foB x15 x10 x9 x4 s1 (updF ss i y) gs tl) H ∧ Ok I H (keys (foB x15 x10 x9 x4 s1 (updF ss i y) gs tl)) := by
  subst h15; subst h10; subst h9
  refine own_perm (A := A) ok (perm_by fun c d c0 cd ca => ?_)
  have := famB_upd_c c0 ca sBl ss y hi
  simp only [foB, foH, cd, ca]
  omega
theorem fo_getFront (ok : Ok I H (keys (foB x15 x10 x9 x4 s1 ss gs tl))) {i : Nat} (hi : i < 4) {c15 c10 c9 : List Value} (h15 : c15 = arrC 4 fun j => .bool ((ss j).2.ph == 3)) (h10 : c10 = arrC 4 fun j => .pointer (gPt (gs j))) (h9 : c9 = arrC 4 fun j => .pointer (some ⟨(ss j).1, 0, none⟩)) :
    own A (foB x15 x10 x9 x4 s1 ss gs tl) H = own A (gBl (gs i) ++ foH x15 x10 x9 x4 s1 c15 c10 c9 (famB (fun j => sBl (ss j)) 4 ++ (famR (fun j => gBl (gs j)) i 4 ++ tl))) H ∧
    Ok I H (keys (gBl (gs i) ++ foH x15 x10 x9 x4 s1 c15 c10 c9 (famB (fun j => sBl (ss j)) 4 ++ (famR (fun j => gBl (gs j)) i 4 ++ tl)))) := by
  subst h15; subst h10; subst h9
  refine own_perm (A := A) ok (perm_by fun c d c0 cd ca => ?_)
  have := famB_c c0 ca (fun j => gBl (gs j)) hi
  simp only [foB, foH, cd, ca]
  omega
/-- Back: the machine stands again, or is let go (its block goes to the rest). -/
theorem fo_getBack {y : Option oP} {z : Bl} {i : Nat} (hi : i < 4) {c15 c10 c9 : List Value} (h15 : c15 = arrC 4 fun j => .bool ((ss j).2.ph == 3)) (h10 : c10 = arrC 4 fun j => .pointer (gPt (updF gs i y j))) (h9 : c9 = arrC 4 fun j => .pointer (some ⟨(ss j).1, 0, none⟩))
    (ok : Ok I H (keys (gBl y ++ z ++ foH x15 x10 x9 x4 s1 c15 c10 c9 (famB (fun j => sBl (ss j)) 4 ++ (famR (fun j => gBl (gs j)) i 4 ++ tl))))) :
    own A (gBl y ++ z ++ foH x15 x10 x9 x4 s1 c15 c10 c9 (famB (fun j => sBl (ss j)) 4 ++ (famR (fun j => gBl (gs j)) i 4 ++ tl))) H = own A (foB x15 x10 x9 x4 s1 ss (updF gs i y) (z ++ tl)) H ∧ Ok I H (keys (foB x15 x10 x9 x4 s1 ss (updF gs i y) (z ++ tl))) := by
  subst h15; subst h10; subst h9
  refine own_perm (A := A) ok (perm_by fun c d c0 cd ca => ?_)
  have := famB_upd_c c0 ca gBl gs y hi
  simp only [foB, foH, cd, ca]
  omega

theorem neAr (a : Addr) : opS Try.prog (.binOp .neq ty_p_arena_Arena (.tmp 0) (.const (.pointer none)) ty_p_arena_Arena) ty_bool [(.pointer (some a))] = .pure (.value (.bool true)) := by kernel_rfl
theorem nG_none : opS Try.prog (.binOp .eql ty_p_future_Get (.tmp 0) (.const (.pointer none)) ty_p_future_Get) ty_bool [(.pointer none)] = .pure (.value (.bool true)) := by kernel_rfl

abbrev again3 (q : Bool) (who : Int) (told : Bool) (n : Int) : Tree := .again 1088 [(.bool q), (.int .i64 who), (.bool told), (.int .i64 n)]

theorem fo_J5 {n u w : Int} (hn : 0 ≤ n ∧ n ≤ 300) (hw : 0 ≤ w ∧ w ≤ 1000 ∧ u ≤ w + 1) {K : Heap} (h : wp Try.prog (again3 q who told (n + 1)) L K R) :
    wp Try.prog (t_magpielaw19_FutureOnce_J5 (q, who, told, n, ()) w u) L K R := by
  unfold t_magpielaw19_FutureOnce_J5
  dsimp only
  rw [w64_in (x := w + 1) (by omega) (by omega), w64_in (x := n + 1) (by omega) (by omega)]
  exact wp_false (decide_eq_false (by omega)) h
theorem fo_J8 {n u w : Int} (hn : 0 ≤ n ∧ n ≤ 300) (hw : 0 ≤ w ∧ w ≤ 1000 ∧ u ≤ w + 1) {K : Heap} (h : wp Try.prog (again3 q who true (n + 1)) L K R) :
    wp Try.prog (t_magpielaw19_FutureOnce_J8 (q, who, told, n, ()) w u) L K R := by
  unfold t_magpielaw19_FutureOnce_J8
  dsimp only
  rw [w64_in (x := w + 1) (by omega) (by omega), w64_in (x := n + 1) (by omega) (by omega)]
  exact wp_false (decide_eq_false (by omega)) h

set_option maxHeartbeats 4000000 in
/-- A pick of one that sets. -/
theorem fo_set {n pk : Int} (hA : Aw I A) (F : FOp a b (onceV s1 zs) A ss gs who) (hn : 0 ≤ n ∧ n < 300) (hu : A.uses ≤ n) (ok : Ok I H (keys (foB x15 x10 x9 x4 s1 ss gs tl))) (k0 : 0 ≤ pk) (k1 : pk < 4)
    (h : ∀ A' ss' who', Aw I A' → FOp a b (onceV s1 zs) A' ss' gs who' → A'.uses ≤ n + 1 → (∀ j : Nat, j < 4 → (j : Int) ≠ pk → ss' j = ss j) → ((ss pk.toNat).2.ph = 3 ∧ (ss' pk.toNat).2.ph = 3 ∨ (ss pk.toNat).2.ph + 1 ≤ (ss' pk.toNat).2.ph ∧ (ss' pk.toNat).2.ph ≤ 3) → Ok I H (keys (foB x15 x10 x9 x4 s1 ss' gs tl)) → wp Try.prog (again3 q who' told (n + 1)) L (own A' (foB x15 x10 x9 x4 s1 ss' gs tl) H) R) :
    wp Try.prog (foT ⟨x4, 0, none⟩ c (aI I) ⟨x9, 0, none⟩ ⟨x10, 0, none⟩ ⟨x15, 0, none⟩ (q, who, told, n, ()) pk A.uses) L (own A (foB x15 x10 x9 x4 s1 ss gs tl) H) R := by
  have us := F.us
  have hi : pk.toNat < 4 := by omega
  have et : Int.tmod pk 4 = pk := by rw [Int.tmod_eq_emod_of_nonneg k0]; omega
  unfold foT
  refine wp_true (decide_eq_true k1) ?_
  rw [et]
  refine w_arn (N := 4) (g := fun j => .bool ((ss j).2.ph == 3)) (x := (ss pk.toNat).2.ph == 3) (e := ty_bool) hA ok List.mem_cons_self rfl rfl rfl k0 k1 rfl ?_
  by_cases h3 : (ss pk.toNat).2.ph = 3
  · refine wp_false (by rw [h3]; rfl) ?_
    refine wp_false (decide_eq_false (by omega)) ?_
    unfold t_magpielaw19_FutureOnce_J13
    refine wp_false (decide_eq_false (by omega)) ?_
    refine w_Uses hA ?_
    refine fo_J5 ⟨hn.1, by omega⟩ ⟨us, by omega, by omega⟩ ?_
    exact h A ss who hA F (by omega) (fun _ _ _ => rfl) (.inl ⟨h3, h3⟩) ok
  refine wp_true (by simp [h3]) ?_
  refine w_arn (N := 4) (g := fun j => .pointer (some ⟨(ss j).1, 0, none⟩)) (x := some ⟨(ss pk.toNat).1, 0, none⟩) (lf := .ptr) (e := ty_p_future_Set) hA ok (List.mem_cons_of_mem _ (List.mem_cons_of_mem _ List.mem_cons_self)) rfl rfl rfl k0 k1 rfl ?_
  obtain ⟨p1, ok1⟩ := fo_setFront (A := A) ok hi rfl rfl rfl
  rw [p1]
  have S := F.setStep hi h3 (by omega)
  generalize ex : ss pk.toNat = x at *
  obtain ⟨j, x⟩ := x
  have ok2 : Ok I H (keys [(j, oc ty_future_Set x.cells)] ++ keys (foH x15 x10 x9 x4 s1 (arrC 4 fun j => .bool ((ss j).2.ph == 3)) (arrC 4 fun j => .pointer (gPt (gs j))) (arrC 4 fun j => .pointer (some ⟨(ss j).1, 0, none⟩)) (famR (fun j => sBl (ss j)) pk.toNat 4 ++ (famB (fun j => gBl (gs j)) 4 ++ tl)))) := by rw [← keys_append]; exact ok1
  obtain ⟨o1, o2⟩ := ok2.split
  refine w_sub (mSt_ok I A _ x j hA o1 trivial) ?_
  rintro v K ⟨j', rfl, rfl, ej, o3, hB⟩
  have ej : j' = j := ej
  subst ej
  refine ⟨(Ft.setS x A).1.ph == 3, rfl, ?_⟩
  show wp Try.prog _ L (own (Ft.setS x A).2 (sBl (j', (Ft.setS x A).1)) (putL _ H)) _
  rw [← own_append]
  have ok3 : Ok I H (keys (sBl (j', (Ft.setS x A).1) ++ foH x15 x10 x9 x4 s1 (arrC 4 fun j => .bool ((ss j).2.ph == 3)) (arrC 4 fun j => .pointer (gPt (gs j))) (arrC 4 fun j => .pointer (some ⟨(ss j).1, 0, none⟩)) (famR (fun j => sBl (ss j)) pk.toNat 4 ++ (famB (fun j => gBl (gs j)) 4 ++ tl)))) := by rw [keys_append]; exact o3.join o2
  have hB : Aw I (Ft.setS x A).2 := hB
  have S : FS a b (onceV s1 zs) A (fun j => (ss j).2) (fun j => (gs j).map (·.2)) who pk.toNat (Ft.setS x A) := S
  generalize (Ft.setS x A) = r at *
  obtain ⟨y, B⟩ := r
  have S1 := S.fo
  have S2 := S.us
  have S3 := S.up
  have S4 := S.le
  have S5 := S.ok
  dsimp only at S1 S2 S3 S4 S5 hB ok3 ⊢
  have S3 : x.ph + 1 ≤ y.ph := by have : (ss pk.toNat).2.ph + 1 ≤ y.ph := S3; rw [ex] at this; exact this
  have S2 : B.uses = A.uses + 1 := S2
  have h3 : x.ph ≠ 3 := h3
  have S1 : FOp a b (onceV s1 zs) B (updF ss pk.toNat (j', y)) gs (if y.ok = true then ((pk.toNat : Nat) : Int) else who) := by
    show FO _ _ _ _ (fun j => (updF ss pk.toNat (j', y) j).2) _ _
    rw [updF_map (fun z : oP => z.2)]
    exact S1
  have e9 : (arrC 4 fun j => Value.pointer (some ⟨(ss j).1, 0, none⟩)) = arrC 4 fun j => .pointer (some ⟨(updF ss pk.toNat (j', y) j).1, 0, none⟩) := arrC_keepF (g := fun z : oP => .pointer (some ⟨z.1, 0, none⟩)) (by rw [ex])
  have fin : ∀ (who' : Int) {c15 : List Value}, c15 = (arrC 4 fun j => .bool ((updF ss pk.toNat (j', y) j).2.ph == 3)) → who' = (if y.ok = true then ((pk.toNat : Nat) : Int) else who) → Ok I H (keys (sBl (j', y) ++ foH x15 x10 x9 x4 s1 c15 (arrC 4 fun j => .pointer (gPt (gs j))) (arrC 4 fun j => .pointer (some ⟨(ss j).1, 0, none⟩)) (famR (fun j => sBl (ss j)) pk.toNat 4 ++ (famB (fun j => gBl (gs j)) 4 ++ tl)))) →
      wp Try.prog (again3 q who' told (n + 1)) L (own B (sBl (j', y) ++ foH x15 x10 x9 x4 s1 c15 (arrC 4 fun j => .pointer (gPt (gs j))) (arrC 4 fun j => .pointer (some ⟨(ss j).1, 0, none⟩)) (famR (fun j => sBl (ss j)) pk.toNat 4 ++ (famB (fun j => gBl (gs j)) 4 ++ tl))) H) R := by
    intro who' c15 h15 hw ok
    obtain ⟨p5, ok5⟩ := fo_setBack (A := B) (y := (j', y)) hi h15 rfl e9 ok
    rw [p5]
    subst hw
    refine h B _ _ hB S1 (by omega) (fun j _ hj => updF_ne _ _ (by omega)) (.inr ?_) ok5
    rw [updF_same]
    exact ⟨S3, S4⟩
  cases h4 : (y.ph == 3) with
  | false =>
    have h4' : ¬ y.ph = 3 := by simpa using h4
    refine wp_false rfl ?_
    refine w_Uses hB ?_
    refine fo_J5 ⟨hn.1, by omega⟩ ⟨us, by omega, by omega⟩ ?_
    have yo : y.ok = false := by cases ho : y.ok with | false => rfl | true => exact absurd (S5 ho).2 h4'
    refine fin who ?_ (by rw [yo]; rfl) ok3
    refine arrC_keepF (g := fun z : oP => .bool (z.2.ph == 3)) ?_
    show Value.bool (y.ph == 3) = .bool ((ss pk.toNat).2.ph == 3)
    rw [ex, h4]
    show _ = Value.bool (x.ph == 3)
    rw [show (x.ph == 3) = false by simp [h3]]
  | true =>
    have h4' : y.ph = 3 := by simpa using h4
    refine wp_true rfl ?_
    refine w_arnS (N := 4) 1 (g := fun j => .bool ((ss j).2.ph == 3)) (e := ty_bool) hB ok3 rfl rfl rfl rfl k0 k1 rfl ?_
    have e15 : (arrC 4 fun j => if j = pk.toNat then Value.bool true else .bool ((ss j).2.ph == 3)) = arrC 4 fun j => .bool ((updF ss pk.toNat (j', y) j).2.ph == 3) := by
      have := arrC_updF (n := 4) (g := fun z : oP => Value.bool (z.2.ph == 3)) (f := ss) (i := pk.toNat) (a := (j', y))
      dsimp only at this
      rw [h4] at this
      exact this
    rw [e15]
    have ok5 : Ok I H (keys (sBl (j', y) ++ foH x15 x10 x9 x4 s1 (arrC 4 fun j => .bool ((updF ss pk.toNat (j', y) j).2.ph == 3)) (arrC 4 fun j => .pointer (gPt (gs j))) (arrC 4 fun j => .pointer (some ⟨(ss j).1, 0, none⟩)) (famR (fun j => sBl (ss j)) pk.toNat 4 ++ (famB (fun j => gBl (gs j)) 4 ++ tl)))) := ok3
    show wp Try.prog _ L (own B (sBl (j', y) ++ foH x15 x10 x9 x4 s1 (arrC 4 fun j => .bool ((updF ss pk.toNat (j', y) j).2.ph == 3)) (arrC 4 fun j => .pointer (gPt (gs j))) (arrC 4 fun j => .pointer (some ⟨(ss j).1, 0, none⟩)) (famR (fun j => sBl (ss j)) pk.toNat 4 ++ (famB (fun j => gBl (gs j)) 4 ++ tl))) H) R
    refine w_arn (N := 4) (g := fun j => .pointer (some ⟨(ss j).1, 0, none⟩)) (x := some ⟨j', 0, none⟩) (lf := .ptr) (e := ty_p_future_Set) hB ok5 (List.mem_cons_of_mem _ (List.mem_cons_of_mem _ (List.mem_cons_of_mem _ List.mem_cons_self))) rfl rfl rfl k0 k1 (by show Lf.dec .ptr (.pointer (some ⟨(ss pk.toNat).1, 0, none⟩)) = _; rw [ex]; rfl) ?_
    refine w_Went (x := y) hB ok5 List.mem_cons_self ?_
    cases ho : y.ok with
    | true =>
      obtain ⟨h5, -⟩ := S5 ho
      refine wp_true rfl ?_
      refine wp_false (decide_eq_false (by show ¬ who ≥ 0; omega)) ?_
      refine w_Uses hB ?_
      refine wp_false (decide_eq_false (by show ¬ B.uses > w64 (A.uses + 1); rw [w64_in (x := A.uses + 1) (by omega) (by omega)]; omega)) ?_
      rw [w64_in (x := n + 1) (by omega) (by omega)]
      exact fin pk rfl (by rw [ho, if_pos rfl]; omega) ok5
    | false =>
      refine wp_false rfl ?_
      refine w_Uses hB ?_
      refine fo_J5 ⟨hn.1, by omega⟩ ⟨us, by omega, by omega⟩ ?_
      exact fin who rfl (by rw [ho]; rfl) ok5

set_option maxHeartbeats 4000000 in
/-- A pick of one that gets. -/
theorem fo_get {n pk : Int} (hz : RowOf H s1.a s1.len zs) (hI : ∀ {A : Ar} {l : Bl}, Aw I A → Ok I H (keys l) → H.le (own A l H)) (hA : Aw I A) (ha : a = 5 + 2 * c) (hb : b = 5 + 2 * c + 1) (hc : 0 ≤ c ∧ c < 4) (F : FOp a b (onceV s1 zs) A ss gs who) (hn : 0 ≤ n ∧ n < 300) (hu : A.uses ≤ n) (ok : Ok I H (keys (foB x15 x10 x9 x4 s1 ss gs tl))) (k0 : 4 ≤ pk) (k1 : pk < 8)
    (h : ∀ A' gs' told' tl', Aw I A' → FOp a b (onceV s1 zs) A' ss gs' who → A'.uses ≤ n + 1 → Ok I H (keys (foB x15 x10 x9 x4 s1 ss gs' tl')) → wp Try.prog (again3 q who told' (n + 1)) L (own A' (foB x15 x10 x9 x4 s1 ss gs' tl') H) R) :
    wp Try.prog (foT ⟨x4, 0, none⟩ c (aI I) ⟨x9, 0, none⟩ ⟨x10, 0, none⟩ ⟨x15, 0, none⟩ (q, who, told, n, ()) pk A.uses) L (own A (foB x15 x10 x9 x4 s1 ss gs tl) H) R := by
  have us := F.us
  obtain ⟨i, ei⟩ : ∃ i, i = pk - 4 := ⟨_, rfl⟩
  have hi : i.toNat < 4 := by omega
  have i0 : 0 ≤ i := by omega
  have i1 : i < 4 := by omega
  have et : Int.tmod pk 4 = i := by rw [Int.tmod_eq_emod_of_nonneg (by omega)]; omega
  unfold foT
  refine wp_false (decide_eq_false (by omega)) (wp_true (decide_eq_true k0) ?_)
  rw [et]
  have m10 : ∀ {c15 c10 c9 r}, (x10, oc ty_a4_p_future_Get c10) ∈ foH x15 x10 x9 x4 s1 c15 c10 c9 r := List.mem_cons_of_mem _ List.mem_cons_self
  refine w_arn (N := 4) (g := fun j => .pointer (gPt (gs j))) (x := gPt (gs i.toNat)) (lf := .ptr) (e := ty_p_future_Get) hA ok m10 rfl rfl rfl i0 i1 rfl ?_
  cases hg : gs i.toNat with
  | none =>
    refine look_val (x := true) nG_none ?_
    unfold t_magpielaw19_FutureOnce_J14
    refine wp_true rfl ?_
    refine w_NewGet hA ok fun z ok1 => ?_
    rw [et]
    have e1 : newFt 5 c 0 = ⟨a, b, 0, 0, false⟩ := by
      unfold newFt
      rw [fw_eq ⟨by omega, by omega, by omega, by omega, by omega, by omega⟩, fw_eq ⟨by omega, by omega, by omega, by omega, by omega, by omega⟩, ha, hb]
      congr 1; omega
    rw [e1] at ok1 ⊢
    have ok1 : Ok I H (keys ((z, oc ty_future_Get (Ft.mk a b 0 0 false).cells) :: foB x15 x10 x9 x4 s1 ss gs tl)) := ok1
    refine w_arnS (N := 4) 2 (g := fun j => .pointer (gPt (gs j))) (e := ty_p_future_Get) hA ok1 rfl rfl rfl rfl i0 i1 rfl ?_
    refine w_Uses hA ?_
    refine fo_J5 ⟨hn.1, by omega⟩ ⟨us, by omega, by omega⟩ ?_
    have e10 : (arrC 4 fun j => if j = i.toNat then Value.pointer (some ⟨z, 0, none⟩) else .pointer (gPt (gs j))) = arrC 4 fun j => .pointer (gPt (updF gs i.toNat (some (z, ⟨a, b, 0, 0, false⟩)) j)) :=
      arrC_updF (n := 4) (g := fun z : Option oP => Value.pointer (gPt z)) (f := gs) (i := i.toNat) (a := some (z, ⟨a, b, 0, 0, false⟩))
    rw [e10]
    have ok2 : Ok I H (keys ((z, oc ty_future_Get (Ft.mk a b 0 0 false).cells) :: foH x15 x10 x9 x4 s1 (arrC 4 fun j => .bool ((ss j).2.ph == 3)) (arrC 4 fun j => .pointer (gPt (updF gs i.toNat (some (z, ⟨a, b, 0, 0, false⟩)) j))) (arrC 4 fun j => .pointer (some ⟨(ss j).1, 0, none⟩)) (famB (fun j => sBl (ss j)) 4 ++ (famB (fun j => gBl (gs j)) 4 ++ tl)))) := ok1
    show wp Try.prog _ L (own A ((z, oc ty_future_Get (Ft.mk a b 0 0 false).cells) :: foH x15 x10 x9 x4 s1 (arrC 4 fun j => .bool ((ss j).2.ph == 3)) (arrC 4 fun j => .pointer (gPt (updF gs i.toNat (some (z, ⟨a, b, 0, 0, false⟩)) j))) (arrC 4 fun j => .pointer (some ⟨(ss j).1, 0, none⟩)) (famB (fun j => sBl (ss j)) 4 ++ (famB (fun j => gBl (gs j)) 4 ++ tl))) H) R
    obtain ⟨p5, ok5⟩ := own_perm (A := A) (l' := foB x15 x10 x9 x4 s1 ss (updF gs i.toNat (some (z, ⟨a, b, 0, 0, false⟩))) tl) ok2 (perm_by fun c d c0 cd ca => by
      have h1 := famB_upd_c c0 ca gBl gs (some (z, ⟨a, b, 0, 0, false⟩)) hi
      have h2 := famB_c c0 ca (fun j => gBl (gs j)) hi
      have h3 : c (gBl (gs i.toNat)) = 0 := by rw [hg]; exact c0
      have h4 : c (gBl (some (z, ⟨a, b, 0, 0, false⟩))) = d (z, oc ty_future_Get (Ft.mk a b 0 0 false).cells) := by show c (_ :: []) = _; rw [cd, c0, Nat.add_zero]
      simp only [foB, foH, cd, ca]
      omega)
    rw [p5]
    refine h A _ told tl hA ?_ (by omega) ok5
    show FO _ _ _ _ _ (fun j => (updF gs i.toNat (some (z, ⟨a, b, 0, 0, false⟩)) j).map (·.2)) _
    rw [updF_map (fun z : Option oP => z.map (·.2))]
    refine F.gset fun x hx => ?_
    cases hx
    exact ⟨rfl, rfl, rfl, rfl, .inl rfl⟩
  | some z =>
    obtain ⟨jz, x⟩ := z
    refine look_val (x := false) (eqG _) ?_
    unfold t_magpielaw19_FutureOnce_J14
    refine wp_false rfl ?_
    unfold t_magpielaw19_FutureOnce_J13
    refine wp_true (decide_eq_true k0) ?_
    rw [et]
    have dz : Lf.dec .ptr (Value.pointer (gPt (gs i.toNat))) = some (some ⟨jz, 0, none⟩) := by rw [hg]; rfl
    refine w_arn (N := 4) (g := fun j => .pointer (gPt (gs j))) (x := some ⟨jz, 0, none⟩) (lf := .ptr) (e := ty_p_future_Get) hA ok m10 rfl rfl rfl i0 i1 dz ?_
    obtain ⟨p1, ok1⟩ := fo_getFront (A := A) ok hi rfl rfl rfl
    rw [p1]
    have G := F.getStep hi (x := x) (by show (gs i.toNat).map (·.2) = _; rw [hg]; rfl) (by omega)
    rw [hg] at ok1 ⊢
    have ok2 : Ok I H (keys [(jz, oc ty_future_Get x.cells)] ++ keys (foH x15 x10 x9 x4 s1 (arrC 4 fun j => .bool ((ss j).2.ph == 3)) (arrC 4 fun j => .pointer (gPt (gs j))) (arrC 4 fun j => .pointer (some ⟨(ss j).1, 0, none⟩)) (famB (fun j => sBl (ss j)) 4 ++ (famR (fun j => gBl (gs j)) i.toNat 4 ++ tl)))) := by rw [← keys_append]; exact ok1
    obtain ⟨o1, o2⟩ := ok2.split
    refine w_sub (mGt_ok I A _ x jz hA o1 trivial) ?_
    rintro v K ⟨j', rfl, rfl, ej, o3, hB⟩
    have ej : j' = jz := ej
    subst ej
    refine ⟨(Ft.getS x A).1.ph == 3, rfl, ?_⟩
    show wp Try.prog _ L (own (Ft.getS x A).2 (gBl (some (j', (Ft.getS x A).1))) (putL _ H)) _
    rw [← own_append]
    have ok3 : Ok I H (keys (gBl (some (j', (Ft.getS x A).1)) ++ foH x15 x10 x9 x4 s1 (arrC 4 fun j => .bool ((ss j).2.ph == 3)) (arrC 4 fun j => .pointer (gPt (gs j))) (arrC 4 fun j => .pointer (some ⟨(ss j).1, 0, none⟩)) (famB (fun j => sBl (ss j)) 4 ++ (famR (fun j => gBl (gs j)) i.toNat 4 ++ tl)))) := by rw [keys_append]; exact o3.join o2
    have hB : Aw I (Ft.getS x A).2 := hB
    generalize (Ft.getS x A) = r at *
    obtain ⟨y, B⟩ := r
    have G1 := G.fo
    have G2 := G.us
    have G3 := G.no
    have G4 := G.ok
    dsimp only at G1 G2 G3 G4 hB ok3 ⊢
    by_cases h3 : y.ph = 3
    · refine wp_true (by rw [h3]; rfl) ?_
      rw [if_pos h3] at G1
      have F2 : FOp a b (onceV s1 zs) B ss (updF gs i.toNat none) who := by
        show FO _ _ _ _ _ (fun j => (updF gs i.toNat none j).map (·.2)) _
        rw [updF_map (fun z : Option oP => z.map (·.2))]
        exact G1
      refine w_arn (N := 4) (g := fun j => .pointer (gPt (gs j))) (x := some ⟨j', 0, none⟩) (lf := .ptr) (e := ty_p_future_Get) hB ok3 (List.mem_cons_of_mem _ m10) rfl rfl rfl i0 i1 dz ?_
      refine w_Value (x := y) hB ok3 List.mem_cons_self ?_
      have e10 : (arrC 4 fun j => if j = i.toNat then Value.pointer none else .pointer (gPt (gs j))) = arrC 4 fun j => .pointer (gPt (updF gs i.toNat none j)) :=
        arrC_updF (n := 4) (g := fun z : Option oP => Value.pointer (gPt z)) (f := gs) (i := i.toNat) (a := none)
      have fin : ∀ told', wp Try.prog (again3 q who told' (n + 1)) L (own B ((j', oc ty_future_Get y.cells) :: foH x15 x10 x9 x4 s1 (arrC 4 fun j => .bool ((ss j).2.ph == 3)) (arrC 4 fun j => .pointer (gPt (updF gs i.toNat none j))) (arrC 4 fun j => .pointer (some ⟨(ss j).1, 0, none⟩)) (famB (fun j => sBl (ss j)) 4 ++ (famR (fun j => gBl (gs j)) i.toNat 4 ++ tl))) H) R := fun told' => by
        obtain ⟨p5, ok5⟩ := fo_getBack (A := B) (y := none) (z := [(j', oc ty_future_Get y.cells)]) hi rfl rfl rfl ok3
        have p5' : own B ((j', oc ty_future_Get y.cells) :: foH x15 x10 x9 x4 s1 (arrC 4 fun j => .bool ((ss j).2.ph == 3)) (arrC 4 fun j => .pointer (gPt (updF gs i.toNat none j))) (arrC 4 fun j => .pointer (some ⟨(ss j).1, 0, none⟩)) (famB (fun j => sBl (ss j)) 4 ++ (famR (fun j => gBl (gs j)) i.toNat 4 ++ tl))) H = _ := p5
        rw [p5']
        exact h B _ told' _ hB F2 (by omega) ok5
      cases ho : y.ok with
      | true =>
        obtain ⟨-, g1, g2, g3⟩ := G4 ho
        refine wp_true rfl ?_
        refine wp_false (decide_eq_false (by show ¬ who < 0; omega)) ?_
        refine w_clos hz hB ok3 (hI hB ok3) (List.mem_cons_of_mem _ (List.mem_cons_of_mem _ (List.mem_cons_of_mem _ (List.mem_cons_of_mem _ List.mem_cons_self)))) g1 g2 ?_
        refine wp_false (ibnf g3) ?_
        refine w_arnS (N := 4) 2 (g := fun j => .pointer (gPt (gs j))) (e := ty_p_future_Get) hB ok3 rfl rfl rfl rfl i0 i1 rfl ?_
        rw [e10]
        refine w_Uses hB ?_
        refine fo_J8 ⟨hn.1, by omega⟩ ⟨us, by omega, by omega⟩ ?_
        exact fin true
      | false =>
        refine wp_false rfl ?_
        refine wp_false (ibnf (G3 ho)) ?_
        refine w_arnS (N := 4) 2 (g := fun j => .pointer (gPt (gs j))) (e := ty_p_future_Get) hB ok3 rfl rfl rfl rfl i0 i1 rfl ?_
        rw [e10]
        refine w_Uses hB ?_
        refine fo_J5 ⟨hn.1, by omega⟩ ⟨us, by omega, by omega⟩ ?_
        exact fin told
    · refine wp_false (by simp [h3]) ?_
      rw [if_neg h3] at G1
      refine w_Uses hB ?_
      refine fo_J5 ⟨hn.1, by omega⟩ ⟨us, by omega, by omega⟩ ?_
      have e10 : (arrC 4 fun j => Value.pointer (gPt (gs j))) = arrC 4 fun j => Value.pointer (gPt (updF gs i.toNat (some (j', y)) j)) := arrC_keepF (g := fun z : Option oP => Value.pointer (gPt z)) (by rw [hg]; rfl)
      obtain ⟨p5, ok5⟩ := fo_getBack (A := B) (y := some (j', y)) (z := []) hi rfl e10 rfl ok3
      have p5' : own B ((j', oc ty_future_Get y.cells) :: foH x15 x10 x9 x4 s1 (arrC 4 fun j => .bool ((ss j).2.ph == 3)) (arrC 4 fun j => .pointer (gPt (gs j))) (arrC 4 fun j => .pointer (some ⟨(ss j).1, 0, none⟩)) (famB (fun j => sBl (ss j)) 4 ++ (famR (fun j => gBl (gs j)) i.toNat 4 ++ tl))) H = _ := p5
      show wp Try.prog _ L (own B ((j', oc ty_future_Get y.cells) :: foH x15 x10 x9 x4 s1 (arrC 4 fun j => .bool ((ss j).2.ph == 3)) (arrC 4 fun j => .pointer (gPt (gs j))) (arrC 4 fun j => .pointer (some ⟨(ss j).1, 0, none⟩)) (famB (fun j => sBl (ss j)) 4 ++ (famR (fun j => gBl (gs j)) i.toNat 4 ++ tl))) H) R
      rw [p5']
      refine h B _ told _ hB ?_ (by omega) ok5
      show FO _ _ _ _ _ (fun j => (updF gs i.toNat (some (j', y)) j).map (·.2)) _
      rw [updF_map (fun z : Option oP => z.map (·.2))]
      exact G1

theorem onceV_ok {i : Int} (i0 : 0 ≤ i) : ((i.toNat : Nat) : Int) = i := by omega

theorem famB_congr {f g : Nat → Bl} : ∀ {n : Nat}, (∀ j, j < n → f j = g j) → famB f n = famB g n
  | 0, _ => rfl
  | n + 1, h => by show famB f n ++ f n = famB g n ++ g n; rw [famB_congr fun j hj => h j (by omega), h n (by omega)]

set_option maxHeartbeats 4000000 in
/-- The end: all have come to theirs. -/
theorem fo_end {n : Int} (hz : RowOf H s1.a s1.len zs) (hI : ∀ {A : Ar} {l : Bl}, Aw I A → Ok I H (keys l) → H.le (own A l H)) (hA : Aw I A) (ha : a = 5 + 2 * c) (hb : b = 5 + 2 * c + 1) (hc : 0 ≤ c ∧ c < 4) (F : FOp a b (onceV s1 zs) A ss gs who) (hu : A.uses ≤ 300) (hd : ∀ j, j < 4 → (ss j).2.ph = 3) (ok : Ok I H (keys (foB x15 x10 x9 x4 s1 ss gs tl))) :
    wp Try.prog (.call f_future_NewGet [(.int .i64 5), (.int .i64 c)] (.one (.leaf .ptr)) fun x155 => t_magpielaw19_FutureOnce_J34 ⟨x4, 0, none⟩ (aI I) (q, who, told, n, ()) x155) L (own A (foB x15 x10 x9 x4 s1 ss gs tl) H) (fun u K => u = .bool true ∧ K = H) := by
  refine w_NewGet hA ok fun z ok1 => ?_
  unfold t_magpielaw19_FutureOnce_J34
  refine look_val (x := false) (eqG _) (wp_false rfl ?_)
  have e1 : newFt 5 c 0 = ⟨a, b, 0, 0, false⟩ := by
    unfold newFt
    rw [fw_eq ⟨by omega, by omega, by omega, by omega, by omega, by omega⟩, fw_eq ⟨by omega, by omega, by omega, by omega, by omega, by omega⟩, ha, hb]
    congr 1; omega
  rw [e1] at ok1 ⊢
  have us := F.us
  rcases F.st with ⟨-, -, h⟩ | ⟨-, -, w, hw, h, -⟩ | ⟨r2, w, w4, hw, hv, -, -⟩
  · have := h 0 (by omega)
    have := hd 0 (by omega)
    dsimp only at *; omega
  · have := hd w hw
    dsimp only at *; omega
  refine w_getRun (q := z) (a := a) (b := b) (rest := foB x15 x10 x9 x4 s1 ss gs tl) hA ok1 (.refl _) (get_some F.oa F.ob us (by omega) r2) (by decide) fun hB ok2 => ?_
  refine wp_false rfl ?_
  refine w_Value (x := ⟨a, b, A.rawF b, 3, true⟩) hB ok2 List.mem_cons_self ?_
  refine wp_true rfl ?_
  refine wp_true (decide_eq_true (by show who ≥ 0; omega)) ?_
  refine w_clos hz hB ok2 (hI hB ok2) (List.mem_cons_of_mem _ (List.mem_cons_of_mem _ (List.mem_cons_of_mem _ (List.mem_cons_of_mem _ List.mem_cons_self)))) (i := who) (by omega) (by omega) ?_
  refine wp_true (ibeq (by show A.rawF b = _; rw [hv, hw, Int.toNat_natCast])) ?_
  refine w_Fault hB ?_
  refine wp_true (by show (!A.fault) = true; rw [F.fa]; rfl) ?_
  have fin : wp Try.prog (.call f_magpielaw19_awake [] (.one (.leaf .bool)) fun x196 => .ret (.bool x196)) L (own (A.later 2) ((z, oc ty_future_Get (Ft.mk a b (A.rawF b) 3 true).cells) :: foB x15 x10 x9 x4 s1 ss gs tl) H) (fun u K => u = .bool true ∧ K = H) := by
    refine wp_call_det (x := true) (awake19_det _) ?_
    exact ⟨H, hI hB ok2, rfl, rfl⟩
  cases told with
  | false => exact wp_true rfl fin
  | true => exact wp_false rfl (wp_true (decide_eq_true (by show who ≥ 0; omega)) fin)

set_option maxHeartbeats 4000000 in
theorem FutureOnce_det (p0 : Int) (s : Sl) (zs : List Int) (r : Sl) (ws : List Int) (H : Heap) (hz : RowOf H s.a s.len zs) (hw : RowOf H r.a r.len ws) : Det Try.prog f_magpielaw19_FutureOnce [.int .i64 p0, .slice s.a s.len s.cap, .slice r.a r.len r.cap] H (.bool true) H := by
  refine t_magpielaw19_FutureOnce_spec (p0 := p0) (p1 := s) (p2 := r) fun L => ?_
  unfold t_magpielaw19_FutureOnce
  have ok00 : Ok0 H (keys []) := ⟨.nil, fun b h => (by cases h)⟩
  refine p_newP (l := []) ok00 fun x4 ok0 => ?_
  refine w_Place (by omega) (by omega) ?_
  have c0 := Int.emod_nonneg p0 (b := 4) (by omega)
  have c1 := Int.emod_lt_of_pos p0 (b := 4) (by omega)
  generalize p0 % 4 = c at *
  refine wq_FRaw ⟨by omega, by omega⟩ ?_
  refine w_New (l := [(x4, oc ty_s_int [.slice s.a s.len s.cap])]) (n := 13) (m := 0) (f := false) ok0 (by decide) (by decide) fun A hm hA hI ok => ?_
  refine look_val (x := false) (eqAr _) (wp_false rfl ?_)
  have hI' : ∀ {B : Ar} {l : Bl}, Aw A.ids B → Ok A.ids H (keys l) → H.le (own B l H) := fun hB ok => own_end hB ok hI
  by_cases dl : ((r.len : Nat) : Int) > 200
  · refine wp_true (decide_eq_true dl) ?_
    refine look_val (x := true) (neAr _) (wp_true rfl ?_)
    refine wp_call_det (x := true) (awake19_det _) ?_
    exact ⟨H, hI' hA ok, rfl, rfl⟩
  refine wp_false (decide_eq_false dl) ?_
  obtain ⟨r0, rl⟩ := made0 hm
  have rl : (A.raw.length : Int) = 13 := by rw [rl]; rfl
  have u0 := hm.uses
  obtain ⟨a, ea⟩ : ∃ a, a = 5 + 2 * c := ⟨_, rfl⟩
  obtain ⟨b, eb⟩ : ∃ b, b = 5 + 2 * c + 1 := ⟨_, rfl⟩
  have nf : ∀ v, newFt 5 c v = ⟨a, b, v, 0, false⟩ := fun v => by
    unfold newFt
    rw [fw_eq ⟨by omega, by omega, by omega, by omega, by omega, by omega⟩, fw_eq ⟨by omega, by omega, by omega, by omega, by omega, by omega⟩, ea, eb]
    congr 1; omega
  refine w_newP (c := arrC 4 fun _ => .pointer none) hA ok fun x9 ok => ?_
  refine w_newP (c := arrC 4 fun _ => .pointer none) hA ok fun x10 ok => ?_
  refine wl_bi (fun _ i K => 0 ≤ i ∧ i ≤ 4 ∧ ∃ (ss : Nat → oP), (∀ j, j < i.toNat → (ss j).2 = ⟨a, b, onceV s zs j, 0, false⟩) ∧
      Ok A.ids H (keys ((x10, oc ty_a4_p_future_Get (arrC 4 fun _ => .pointer none)) :: (x9, oc ty_a4_p_future_Set (arrC 4 fun j => .pointer (if j < i.toNat then some ⟨(ss j).1, 0, none⟩ else none))) :: (x4, oc ty_s_int [.slice s.a s.len s.cap]) :: famB (fun j => sBl (ss j)) i.toNat)) ∧
      K = own A ((x10, oc ty_a4_p_future_Get (arrC 4 fun _ => .pointer none)) :: (x9, oc ty_a4_p_future_Set (arrC 4 fun j => .pointer (if j < i.toNat then some ⟨(ss j).1, 0, none⟩ else none))) :: (x4, oc ty_s_int [.slice s.a s.len s.cap]) :: famB (fun j => sBl (ss j)) i.toNat) H) (fun _ i => (4 - i).toNat) false 0
    ⟨by omega, by omega, fun _ => (0, ⟨0, 0, 0, 0, false⟩), fun j hj => (by cases hj), ok, rfl⟩ ?_
  rintro q i K ⟨i0, i4, ss, hs, ok, rfl⟩
  rw [t_magpielaw19_FutureOnce_L1]
  by_cases d : i < 4
  · refine wp_true (decide_eq_true d) ?_
    refine w_clos hz hA ok (hI' hA ok) (List.mem_cons_of_mem _ (List.mem_cons_of_mem _ List.mem_cons_self)) i0 d ?_
    refine w_NewSet hA ok fun z ok1 => ?_
    rw [nf] at ok1 ⊢
    refine w_arnS (N := 4) 2 (g := fun j => .pointer (if j < i.toNat then some ⟨(ss j).1, 0, none⟩ else none)) (e := ty_p_future_Set) hA ok1 rfl rfl rfl rfl i0 d rfl ?_
    have e9 : (arrC 4 fun j => if j = i.toNat then Value.pointer (some ⟨z, 0, none⟩) else .pointer (if j < i.toNat then some ⟨(ss j).1, 0, none⟩ else none)) = arrC 4 fun j => .pointer (if j < (i + 1).toNat then some ⟨(updF ss i.toNat (z, ⟨a, b, onceV s zs i.toNat, 0, false⟩) j).1, 0, none⟩ else none) := by
      congr 1; funext j
      by_cases e : j = i.toNat
      · rw [if_pos e, e, if_pos (by omega), updF_same]
      · rw [if_neg e, updF_ne _ _ e]
        by_cases e2 : j < i.toNat
        · rw [if_pos e2, if_pos (by omega)]
        · rw [if_neg e2, if_neg (by omega)]
    rw [e9]
    generalize hss : updF ss i.toNat (z, ⟨a, b, onceV s zs i.toNat, 0, false⟩) = ss' at *
    have ok2 : Ok A.ids H (keys ((z, oc ty_future_Set (Ft.mk a b (onceV s zs i.toNat) 0 false).cells) :: (x10, oc ty_a4_p_future_Get (arrC 4 fun _ => .pointer none)) :: (x9, oc ty_a4_p_future_Set (arrC 4 fun j => .pointer (if j < (i + 1).toNat then some ⟨(ss' j).1, 0, none⟩ else none))) :: (x4, oc ty_s_int [.slice s.a s.len s.cap]) :: famB (fun j => sBl (ss j)) i.toNat)) := ok1
    show wp Try.prog _ _ (own A ((z, oc ty_future_Set (Ft.mk a b (onceV s zs i.toNat) 0 false).cells) :: (x10, oc ty_a4_p_future_Get (arrC 4 fun _ => .pointer none)) :: (x9, oc ty_a4_p_future_Set (arrC 4 fun j => .pointer (if j < (i + 1).toNat then some ⟨(ss' j).1, 0, none⟩ else none))) :: (x4, oc ty_s_int [.slice s.a s.len s.cap]) :: famB (fun j => sBl (ss j)) i.toNat) H) _
    refine w_arn (N := 4) (g := fun j => .pointer (if j < (i + 1).toNat then some ⟨(ss' j).1, 0, none⟩ else none)) (x := some ⟨z, 0, none⟩) (lf := .ptr) (e := ty_p_future_Set) hA ok2 (List.mem_cons_of_mem _ (List.mem_cons_of_mem _ List.mem_cons_self)) rfl rfl rfl i0 d (by dsimp only; rw [if_pos (by omega), ← hss, updF_same]; rfl) ?_
    refine look_val (x := false) (eqSt _) (wp_false rfl ?_)
    have ei : (i + 1).toNat = i.toNat + 1 := by omega
    obtain ⟨p5, ok5⟩ := own_perm (A := A) (l' := (x10, oc ty_a4_p_future_Get (arrC 4 fun _ => .pointer none)) :: (x9, oc ty_a4_p_future_Set (arrC 4 fun j => .pointer (if j < (i + 1).toNat then some ⟨(ss' j).1, 0, none⟩ else none))) :: (x4, oc ty_s_int [.slice s.a s.len s.cap]) :: famB (fun j => sBl (ss' j)) (i + 1).toNat) ok2 (perm_by fun c d c0 cd ca => by
      have h1 : c (famB (fun j => sBl (ss' j)) (i.toNat + 1)) = c (famB (fun j => sBl (ss j)) i.toNat) + d (z, oc ty_future_Set (Ft.mk a b (onceV s zs i.toNat) 0 false).cells) := by
        show c (famB (fun j => sBl (ss' j)) i.toNat ++ sBl (ss' i.toNat)) = _
        rw [famB_congr (g := fun j => sBl (ss j)) fun j hj => by rw [← hss, updF_ne _ _ (by omega)]]
        rw [← hss, updF_same, ca]
        show _ + c [(z, oc ty_future_Set (Ft.mk a b (onceV s zs i.toNat) 0 false).cells)] = _
        rw [cd, c0]; omega
      simp only [cd]
      rw [show famB (fun j => sBl (ss' j)) (i + 1).toNat = famB (fun j => sBl (ss' j)) (i.toNat + 1) by rw [ei], h1]
      omega)
    rw [p5, w64_in (x := i + 1) (by omega) (by omega)]
    refine wp_again ⟨q, i + 1, rfl, ⟨by omega, by omega, ss', fun j hj => ?_, ok5, rfl⟩, by omega⟩
    by_cases e : j = i.toNat
    · subst e; rw [← hss, updF_same]
    · rw [← hss, updF_ne _ _ e]; exact hs j (by omega)
  refine wp_false (decide_eq_false d) ?_
  have ei : i = 4 := by omega
  subst ei
  refine w_newP hA ok fun x15 ok => ?_
  have e9 : (arrC 4 fun j => Value.pointer (if j < (4 : Int).toNat then some ⟨(ss j).1, 0, none⟩ else none)) = arrC 4 fun j => .pointer (some ⟨(ss j).1, 0, none⟩) := rfl
  have e15 : [Value.bool false, Value.bool false, Value.bool false, Value.bool false] = arrC 4 fun j => .bool ((ss j).2.ph == 3) := by
    show _ = [Value.bool ((ss 0).2.ph == 3), Value.bool ((ss 1).2.ph == 3), Value.bool ((ss 2).2.ph == 3), Value.bool ((ss 3).2.ph == 3)]
    rw [hs 0 (by decide), hs 1 (by decide), hs 2 (by decide), hs 3 (by decide)]; rfl
  have ok : Ok A.ids H (keys ((x15, oc ty_a4_bool [Value.bool false, Value.bool false, Value.bool false, Value.bool false]) :: (x10, oc ty_a4_p_future_Get (arrC 4 fun _ => .pointer none)) :: (x9, oc ty_a4_p_future_Set (arrC 4 fun j => .pointer (some ⟨(ss j).1, 0, none⟩))) :: (x4, oc ty_s_int [.slice s.a s.len s.cap]) :: famB (fun j => sBl (ss j)) 4)) := ok
  show wp Try.prog _ _ (own A ((x15, oc ty_a4_bool [Value.bool false, Value.bool false, Value.bool false, Value.bool false]) :: (x10, oc ty_a4_p_future_Get (arrC 4 fun _ => .pointer none)) :: (x9, oc ty_a4_p_future_Set (arrC 4 fun j => .pointer (some ⟨(ss j).1, 0, none⟩))) :: (x4, oc ty_s_int [.slice s.a s.len s.cap]) :: famB (fun j => sBl (ss j)) 4) H) _
  rw [e15] at ok ⊢
  have pe : ((x15, oc ty_a4_bool (arrC 4 fun j => .bool ((ss j).2.ph == 3))) :: (x10, oc ty_a4_p_future_Get (arrC 4 fun _ => .pointer none)) :: (x9, oc ty_a4_p_future_Set (arrC 4 fun j => .pointer (some ⟨(ss j).1, 0, none⟩))) :: (x4, oc ty_s_int [.slice s.a s.len s.cap]) :: famB (fun j => sBl (ss j)) 4) = foB x15 x10 x9 x4 s ss (fun _ => none) [] := by
    show _ = _ :: _ :: _ :: _ :: (famB (fun j => sBl (ss j)) 4 ++ [])
    rw [List.append_nil]; rfl
  rw [pe] at ok ⊢
  have oa : A.rawOk a := ⟨by omega, by omega⟩
  have ob : A.rawOk b := ⟨by omega, by omega⟩
  have F0 : FOp a b (onceV s zs) A ss (fun _ => none) (-1) :=
    ⟨oa, ob, by omega, by omega, hm.fault, fun j hj => by rw [hs j hj]; exact ⟨rfl, rfl, rfl⟩, fun j hj _ => by rw [hs j hj], fun j hj x hx => (by cases hx), .inl ⟨r0 _, rfl, fun j hj => by rw [hs j hj]⟩⟩
  refine wl_bibi (fun _ who _ n K => 0 ≤ n ∧ n ≤ ((r.len : Nat) : Int) + 40 ∧ ∃ (B : Ar) (ss : Nat → oP) (gs : Nat → Option oP) (tl : Bl), Aw A.ids B ∧ FOp a b (onceV s zs) B ss gs who ∧ B.uses ≤ n ∧ (∀ j : Nat, j < 4 → (ss j).2.ph = 3 ∨ n - ((r.len : Nat) : Int) ≤ 8 * (ss j).2.ph + 7 - ((j : Int) - n) % 8) ∧
      Ok A.ids H (keys (foB x15 x10 x9 x4 s ss gs tl)) ∧ K = own B (foB x15 x10 x9 x4 s ss gs tl) H) (fun _ _ _ n => (((r.len : Nat) : Int) + 40 - n).toNat) q (-1) false 0
    ⟨by omega, by omega, A, ss, fun _ => none, [], hA, F0, by omega, fun j hj => .inr (by rw [hs j hj]; dsimp only; omega), ok, rfl⟩ ?_
  rintro q who told n K ⟨n0, n1, B, ss, gs, tl, hB, F, hu, lv, ok, rfl⟩
  rw [t_magpielaw19_FutureOnce_L2]
  dsimp only
  rw [w64_in (x := ((r.len : Nat) : Int) + 40) (by omega) (by omega)]
  by_cases dn : n < ((r.len : Nat) : Int) + 40
  case neg =>
    refine wp_false (decide_eq_false dn) ?_
    refine fo_end hz hI' hB ea eb ⟨c0, c1⟩ F (by omega) (fun j hj => ?_) ok
    have := lv j hj
    have p1 : (ss j).2.ph = 0 ∨ (ss j).2.ph = 1 ∨ (ss j).2.ph = 2 ∨ (ss j).2.ph = 3 := F.ph hj
    omega
  refine wp_true (decide_eq_true dn) ?_
  refine wp_true (decide_eq_true (show n < 300 by omega)) ?_
  have us := F.us
  have key : ∀ (L0 : Hands) (pk : Int), 0 ≤ pk → pk < 8 → (((r.len : Nat) : Int) ≤ n → pk = n % 8) → wp Try.prog (foT ⟨x4, 0, none⟩ c (aI A.ids) ⟨x9, 0, none⟩ ⟨x10, 0, none⟩ ⟨x15, 0, none⟩ (q, who, told, n, ()) pk B.uses) (L0.set 1088 fun vals H'' => ∃ y0 y1 y2 y3, vals = [Value.bool y0, Value.int .i64 y1, Value.bool y2, Value.int .i64 y3] ∧ (0 ≤ y3 ∧ y3 ≤ ((r.len : Nat) : Int) + 40 ∧ ∃ (B : Ar) (ss : Nat → oP) (gs : Nat → Option oP) (tl : Bl), Aw A.ids B ∧ FOp a b (onceV s zs) B ss gs y1 ∧ B.uses ≤ y3 ∧ (∀ j : Nat, j < 4 → (ss j).2.ph = 3 ∨ y3 - ((r.len : Nat) : Int) ≤ 8 * (ss j).2.ph + 7 - ((j : Int) - y3) % 8) ∧
      Ok A.ids H (keys (foB x15 x10 x9 x4 s ss gs tl)) ∧ H'' = own B (foB x15 x10 x9 x4 s ss gs tl) H) ∧ (((r.len : Nat) : Int) + 40 - y3).toNat < (((r.len : Nat) : Int) + 40 - n).toNat) (own B (foB x15 x10 x9 x4 s ss gs tl) H) (fun u K => u = .bool true ∧ K = H) := by
    intro L0 pk k0 k8 kp
    by_cases k4 : pk < 4
    · refine fo_set hB F ⟨n0, by omega⟩ hu ok k0 k4 fun A' ss' who' hA' F' hu' hj hp ok' => ?_
      refine wp_again ⟨q, who', told, n + 1, rfl, ⟨by omega, by omega, A', ss', gs, tl, hA', F', hu', fun j h4 => ?_, ok', rfl⟩, by omega⟩
      have := lv j h4
      have p1 : (ss j).2.ph = 0 ∨ (ss j).2.ph = 1 ∨ (ss j).2.ph = 2 ∨ (ss j).2.ph = 3 := F.ph h4
      by_cases e : (j : Int) = pk
      · have : pk.toNat = j := by omega
        rw [this] at hp
        omega
      · rw [hj j h4 e]; omega
    · refine fo_get hz hI' hB ea eb ⟨c0, c1⟩ F ⟨n0, by omega⟩ hu ok (by omega) k8 fun A' gs' told' tl' hA' F' hu' ok' => ?_
      refine wp_again ⟨q, who, told', n + 1, rfl, ⟨by omega, by omega, A', ss, gs', tl', hA', F', hu', fun j h4 => ?_, ok', rfl⟩, by omega⟩
      have := lv j h4
      have p1 : (ss j).2.ph = 0 ∨ (ss j).2.ph = 1 ∨ (ss j).2.ph = 2 ∨ (ss j).2.ph = 3 := F.ph h4
      omega
  by_cases d2 : n < ((r.len : Nat) : Int)
  · refine wp_true (decide_eq_true d2) ?_
    refine wp_row hw (hI' hB ok) n0 d2 ?_
    refine w_Place (by omega) (by omega) ?_
    refine w_Uses hB ?_
    have := fun L0 => key L0 (ws.getD n.toNat 0 % 8) (by omega) (by omega) fun h => by omega
    exact this _
  · refine wp_false (decide_eq_false d2) ?_
    refine w_Uses hB ?_
    have em : Int.tmod n 8 = n % 8 := Int.tmod_eq_emod_of_nonneg n0
    have := fun L0 => key L0 (Int.tmod n 8) (by rw [em]; omega) (by rw [em]; omega) fun _ => em
    exact this _
end
end Go.Proofs.Ytjleoogieoahnaa

