/- Texts of this claim, one behind the other. -/
import Derived.Test.YtcjhakdopnamoaaCWGuardBounds3
set_option linter.unusedSimpArgs false
set_option linter.unusedVariables false
set_option linter.unusedVariables false
set_option linter.unusedSimpArgs false
set_option maxRecDepth 20000
namespace Go.Proofs.Ytcjhakdopnamoaa
open Go Go.Fw

/-! ### GuardBounds: what is so behind each call -/
structure GC (A : Ar) (g : Gd) (S : Sg) (l : Int → List (Int × Int)) (hs : List Int) (lk : Nat → Int) : Prop where
  gi : GI A g 960 S l
  nd : hs.Nodup
  lv : ∀ h ∈ hs, A.stF h = 1 ∧ opC h = 0
  nL : A.nL = 8 * hs.length
  lb : g.ep = false → ∀ k, ((l k).length : Int) ≤ g.th + 2 * g.w
  wd : g.ep = false → ∀ i : Nat, (i : Int) < 2 * g.w → A.rawF (g.ta + i) = lk i ∧ (lk i ≠ 0 → A.stF (lk i) ≠ 0)
  pz : g.ep = true → ∀ j : Nat, (j : Int) < g.w → A.rawF (g.ta + 1 + j) = 0 → lk (2 * j) = 0 ∧ lk (2 * j + 1) = 0
  pn : g.ep = true → ∀ j : Nat, (j : Int) < g.w → A.rawF (g.ta + 1 + j) ≠ 0 → 1 ≤ A.rawF (g.ta + 1 + j) ∧ A.rawF (g.ta + 1 + j) ≤ A.rawF g.ta + 1 ∧ A.rawF g.ta ≤ A.rawF (g.ta + 1 + j) ∧
    ∀ s : Nat, s < 2 → lk (2 * j + s) ≠ 0 → A.stF (lk (2 * j + s)) = 1 ∨ ∃ k x, x ∈ l k ∧ x.1 = lk (2 * j + s) ∧ A.rawF (g.ta + 1 + j) - 1 ≤ x.2
  hi : ∀ j, g.ta + gwords g.ep g.w ≤ j → A.rawF j = 0
theorem gwords_pos (ep : Bool) {w : Int} (h : 1 ≤ w) : 1 ≤ gwords ep w := by unfold gwords; cases ep <;> simp <;> omega

section
variable {A B C : Ar} {g : Gd} {S S' : Sg} {l l' : Int → List (Int × Int)} {hs : List Int} {lk : Nat → Int} {k h : Int}

/-- What is looked at is not dead. -/
theorem GC.seen (X : GC A g S l hs lk) {j s : Nat} (hj : (j : Int) < g.w) (h2 : s < 2) (h0 : lk (2 * j + s) ≠ 0) : A.stF (lk (2 * j + s)) ≠ 0 := by
  cases he : g.ep with
  | false => exact (X.wd he (2 * j + s) (by omega)).2 h0
  | true =>
    by_cases hr : A.rawF (g.ta + 1 + j) = 0
    · obtain ⟨a, b⟩ := X.pz he j hj hr
      have : s = 0 ∨ s = 1 := by omega
      rcases this with rfl | rfl
      · exact (h0 a).elim
      · exact (h0 b).elim
    · obtain ⟨_, _, _, h⟩ := X.pn he j hj hr
      rcases h s h2 h0 with h | ⟨k, x, hx, e, _⟩
      · rw [h]; decide
      · rw [← e, X.gi.st k x hx]; decide

/-- A list without doubles, of what so many words name, has no more. -/
theorem few {α : Type} [DecidableEq α] (F : Nat → α) : ∀ (n : Nat) (xs : List α), xs.Nodup → (∀ x ∈ xs, ∃ i, i < n ∧ F i = x) → xs.length ≤ n
  | 0, xs, _, h => by
    cases xs with
    | nil => exact Nat.le_refl 0
    | cons x xs => obtain ⟨i, hi, _⟩ := h x List.mem_cons_self; omega
  | n + 1, xs, nd, h => by
    have nd2 : (xs.erase (F n)).Nodup := nd.erase _
    have := few F n (xs.erase (F n)) nd2 fun x hx => by
      have hm := List.mem_of_mem_erase hx
      obtain ⟨i, hi, e⟩ := h x hm
      refine ⟨i, ?_, e⟩
      by_cases hn : i = n
      · subst hn
        rw [← e] at hx
        exact ((List.Nodup.mem_erase_iff nd).1 hx).1.elim rfl
      · omega
    have := List.length_erase_le (a := F n) (l := xs)
    by_cases hm : F n ∈ xs
    · rw [List.length_erase_of_mem hm] at *; omega
    · rw [List.erase_of_not_mem hm] at *; omega

/-- Behind a look. -/
theorem GC.look (X : GC A g S l hs lk) (kb : 0 ≤ k ∧ k < g.w) {keep : Int × Int → Bool} {gs : List Int} {t : Nat} (L : Lkd A g 960 S l k keep gs t B) (hu : A.uses ≤ 900000) : GC B g (frS k S gs) (setL l k ((l k).filter keep)) hs lk := by
  have G := X.gi.lkd kb L
  have wb := X.gi.wb
  have ta := X.gi.ta
  have st1 : ∀ h ∈ hs, B.stF h = 1 := fun h hh => by
    have h1 := (X.lv h hh).1
    rw [L.st, if_neg fun hg => ?_]
    · exact h1
    · obtain ⟨x, hx, _, e⟩ := L.gone.1 hg
      have := X.gi.st k x hx
      rw [e, h1] at this; cases this
  have rw1 : ∀ i, g.ta < i → B.rawF i = A.rawF i := fun i hi => L.rw i (by omega) (by omega)
  have gp := gwords_pos g.ep wb.1
  refine ⟨G, X.nd, fun h hh => ⟨st1 h hh, (X.lv h hh).2⟩, L.nL.trans X.nL, fun he j => ?_, fun he i hi => ?_, fun he j hj hr => ?_, fun he j hj hr => ?_, fun j hj => (rw1 j (by omega)).trans (X.hi j hj)⟩
  · by_cases ej : j = k
    · rw [ej, setL_same]
      have nd := (G.nd k)
      rw [setL_same] at nd
      have := few (fun i => A.rawF (g.ta + (i : Nat))) (2 * g.w).toNat (((l k).filter keep).map Prod.fst) nd fun y hy => by
        obtain ⟨x, hx, rfl⟩ := List.mem_map.1 hy
        obtain ⟨_, hk⟩ := List.mem_filter.1 hx
        obtain ⟨i, i1, i2⟩ := ((L.ha he).2 x).1 hk
        exact ⟨i, by omega, i2⟩
      rw [List.length_map] at this
      have th := X.lb he k
      have tl : ((l k).filter keep).length ≤ (l k).length := List.length_filter_le _ _
      omega
    · rw [setL_ne l _ ej]; exact X.lb he j
  · have e : B.rawF (g.ta + i) = A.rawF (g.ta + i) := by
      by_cases e0 : i = 0
      · rw [e0, show g.ta + ((0 : Nat) : Int) = g.ta by omega]; exact (L.ha he).1
      · exact rw1 _ (by omega)
    obtain ⟨w1, w2⟩ := X.wd he i hi
    refine ⟨e.trans w1, fun h0 => ?_⟩
    rw [L.st, if_neg fun hg => ?_]
    · exact w2 h0
    · obtain ⟨x, hx, hk, e2⟩ := L.gone.1 hg
      have := ((L.ha he).2 x).2 ⟨i, hi, by rw [w1, e2]⟩
      rw [this] at hk; cases hk
  · rw [rw1 _ (by omega)] at hr; exact X.pz he j hj hr
  · rw [rw1 _ (by omega)] at hr ⊢
    obtain ⟨p1, p2, p3, p4⟩ := X.pn he j hj hr
    obtain ⟨e1, e2, e3, e4⟩ := L.ep he
    have hd := L.held he j (A.rawF (g.ta + 1 + j) - 1) hj (by omega) (by omega) (by omega)
    refine ⟨p1, by omega, by omega, fun s h2 h0 => ?_⟩
    have stay : ∀ {x}, x ∈ l k → A.rawF (g.ta + 1 + j) - 1 ≤ x.2 → keep x = true := fun {x} hx hp => by
      obtain ⟨s0, s1⟩ := X.gi.es he k x hx
      obtain ⟨b0, b1⟩ := X.gi.eb he
      rw [e4]
      show (!due _ x) = true
      have : due (B.rawF g.ta) x = false := by
        unfold due
        exact decide_eq_false (by rw [w64_in (by omega) (by omega)]; omega)
      rw [this]; rfl
    rcases p4 s h2 h0 with h | ⟨k', x, hx, e, hp⟩
    · left
      rw [L.st, if_neg fun hg => ?_]
      · exact h
      · obtain ⟨x, hx, _, e⟩ := L.gone.1 hg
        have := X.gi.st k x hx
        rw [e, h] at this; cases this
    · right
      refine ⟨k', x, ?_, e, hp⟩
      by_cases ek : k' = k
      · rw [ek] at hx ⊢
        rw [setL_same]
        exact List.mem_filter.2 ⟨hx, stay hx hp⟩
      · rw [setL_ne l _ ek]; exact hx

/-- Behind a retire, ahead of a look. -/
theorem GC.ret (X : GC A g S l hs lk) (kb : 0 ≤ k ∧ k < g.w) {hs' : List Int} (R : Ret1 A h B) (G : GI B g 960 S (setL l k (l k ++ [(h, sinceF g A)]))) (hh : h ∈ hs) (nd : hs'.Nodup) (sub : ∀ j ∈ hs', j ∈ hs ∧ j ≠ h) (ln : hs'.length + 1 = hs.length) (len : g.ep = false → ((l k).length : Int) + 1 ≤ g.th + 2 * g.w) :
    GC B g S (setL l k (l k ++ [(h, sinceF g A)])) hs' lk := by
  have ta := X.gi.ta
  have c0 := X.gi.c0
  obtain ⟨h1, hc⟩ := X.lv h hh
  have rw1 : ∀ i, g.ta ≤ i → B.rawF i = A.rawF i := fun i hi => R.rw i (by omega)
  have stn : ∀ j, A.stF j ≠ 0 → B.stF j ≠ 0 := fun j hj => by
    rw [R.st]; split
    · decide
    · exact hj
  refine ⟨G, nd, fun j hj => ⟨by rw [R.st, if_neg (sub j hj).2]; exact (X.lv j (sub j hj).1).1, (X.lv j (sub j hj).1).2⟩, ?_, fun he j => ?_, fun he i hi => ?_, fun he j hj hr => ?_, fun he j hj hr => ?_, fun j hj => (rw1 j (by have := gwords_pos g.ep X.gi.wb.1; omega)).trans (X.hi j hj)⟩
  · rw [R.nL, hc, X.nL, show sizeF 0 = 8 from rfl]; omega
  · by_cases ej : j = k
    · rw [ej, setL_same, List.length_append]
      have := len he
      show (((l k).length + 1 : Nat) : Int) ≤ _; omega
    · rw [setL_ne l _ ej]; exact X.lb he j
  · obtain ⟨w1, w2⟩ := X.wd he i hi
    exact ⟨(rw1 _ (by omega)).trans w1, fun h0 => stn _ (w2 h0)⟩
  · rw [rw1 _ (by omega)] at hr; exact X.pz he j hj hr
  · rw [rw1 _ (by omega)] at hr ⊢
    rw [rw1 _ (by omega)]
    obtain ⟨p1, p2, p3, p4⟩ := X.pn he j hj hr
    refine ⟨p1, p2, p3, fun s h2 h0 => ?_⟩
    have mem : ∀ {k' x}, x ∈ l k' → x ∈ setL l k (l k ++ [(h, sinceF g A)]) k' := fun {k' x} hx => by
      by_cases ek : k' = k
      · rw [ek] at hx ⊢; rw [setL_same]; exact List.mem_append_left _ hx
      · rw [setL_ne l _ ek]; exact hx
    rcases p4 s h2 h0 with h3 | ⟨k', x, hx, e, hp⟩
    · by_cases e : lk (2 * j + s) = h
      · right
        refine ⟨k, (h, sinceF g A), by rw [setL_same]; simp, e.symm, ?_⟩
        unfold sinceF; rw [if_pos he]; show _ ≤ A.rawF g.ta; omega
      · left; rw [R.st, if_neg e]; exact h3
    · exact .inr ⟨k', x, mem hx, e, hp⟩

/-- Behind a retire, to its end. -/
theorem GC.retire (X : GC A g S l hs lk) {q mq : Nat} (hu : A.uses ≤ 600000) (kb : 0 ≤ k ∧ k < g.w) (hh : h ∈ hs) (ll : (l k).length ≤ 180) (th : 1 ≤ g.th) {hs' : List Int} (nd : hs'.Nodup) (sub : ∀ j ∈ hs', j ∈ hs ∧ j ≠ h) (ln : hs'.length + 1 = hs.length)
    : ∃ A' l' S', GC A' g S' l' hs' lk ∧ RunO q mq (retM g l k h) g k (A.retireF h) (setL l k (l k ++ [(h, 0)])) l' A' ∧ Ar.Alike A A' ∧ A'.uses ≤ A.uses + 1500 ∧ (∀ j, (l' j).length ≤ (l j).length + 1) := by
  obtain ⟨h1, hc⟩ := X.lv h hh
  have hlen : 0 < hs.length := List.length_pos_of_mem hh
  obtain ⟨A1, A', l', S', R1, X1, X', run', hor⟩ := X.gi.retire_run (q := q) (mq := mq) (k := k) (h := h) (by omega) kb h1 (by rw [hc, X.nL, show sizeF 0 = 8 from rfl]; omega) (by omega) th
  have u1 := R1.us
  have wb := X.gi.wb
  rcases hor with ⟨hlt, rfl, rfl, rfl⟩ | ⟨hge, keep, gs, L1, rfl, rfl⟩
  · refine ⟨A', _, S', X.ret kb R1 X1 hh nd sub ln (fun he => by omega), run', R1.al, by omega, fun j => ?_⟩
    by_cases ej : j = k
    · rw [ej, setL_same, List.length_append]; exact Nat.le_refl _
    · rw [setL_ne l _ ej]; omega
  · -- the length is bound again by the look
    have Y : GC A' g (frS k S gs) (setL (setL l k (l k ++ [(h, sinceF g A)])) k ((l k ++ [(h, sinceF g A)]).filter keep)) hs' lk := by
      cases he : g.ep with
      | true =>
        have Z := (X.ret kb R1 X1 hh nd sub ln (fun h => by rw [he] at h; cases h)).look kb L1 (by omega)
        rw [setL_same] at Z; exact Z
      | false =>
        -- by hand: with a threshold that is high
        by_cases hb : ((l k).length : Int) + 1 ≤ g.th + 2 * g.w
        · have Z := (X.ret kb R1 X1 hh nd sub ln (fun _ => hb)).look kb L1 (by omega)
          rw [setL_same] at Z; exact Z
        · have nd2 := X'.nd k
          rw [setL_same] at nd2
          have fw := few (fun i => A1.rawF (g.ta + (i : Nat))) (2 * g.w).toNat (((l k ++ [(h, sinceF g A)]).filter keep).map Prod.fst) nd2 fun y hy => by
            obtain ⟨x, hx, rfl⟩ := List.mem_map.1 hy
            obtain ⟨_, hk⟩ := List.mem_filter.1 hx
            obtain ⟨i, i1, i2⟩ := ((L1.ha he).2 x).1 hk
            exact ⟨i, by omega, i2⟩
          rw [List.length_map] at fw
          have ta := X.gi.ta
          have c0 := X.gi.c0
          have st1 : ∀ j ∈ hs', A'.stF j = 1 := fun j hj => by
            obtain ⟨a1, a2⟩ := sub j hj
            rw [L1.st, if_neg fun hg => ?_]
            · rw [R1.st, if_neg a2]; exact (X.lv j a1).1
            · obtain ⟨x, hx, _, e⟩ := L1.gone.1 hg
              have := X1.st k x hx
              rw [e, R1.st, if_neg a2, (X.lv j a1).1] at this; cases this
          rw [setL_setL]
          refine ⟨X', nd, fun j hj => ⟨st1 j hj, (X.lv j (sub j hj).1).2⟩, ?_, fun _ j => ?_, fun _ i hi => ?_, fun h => (by rw [he] at h; cases h), fun h => (by rw [he] at h; cases h), fun j hj => (by have := gwords_pos g.ep wb.1; rw [L1.rw j (by omega) (by omega), R1.rw j (by omega)]; exact X.hi j hj)⟩
          · rw [L1.nL, R1.nL, hc, X.nL, show sizeF 0 = 8 from rfl]; omega
          · by_cases ej : j = k
            · rw [ej, setL_same]; omega
            · rw [setL_ne l _ ej]; exact X.lb he j
          · obtain ⟨w1, w2⟩ := X.wd he i hi
            have e1 : A1.rawF (g.ta + i) = A.rawF (g.ta + i) := R1.rw _ (by omega)
            have e : A'.rawF (g.ta + i) = A1.rawF (g.ta + i) := by
              by_cases e0 : i = 0
              · rw [e0, show g.ta + ((0 : Nat) : Int) = g.ta by omega]; exact (L1.ha he).1
              · exact L1.rw _ (by omega) (by omega)
            refine ⟨by rw [e, e1]; exact w1, fun h0 => ?_⟩
            rw [L1.st, if_neg fun hg => ?_]
            · rw [R1.st]; split
              · decide
              · exact w2 h0
            · obtain ⟨x, hx, hk, e2⟩ := L1.gone.1 hg
              have := ((L1.ha he).2 x).2 ⟨i, hi, by rw [e1, w1, e2]⟩
              rw [this] at hk; cases hk
    have lu := L1.us
    rw [setL_same, List.length_append] at lu
    have lf : ((l k ++ [(h, sinceF g A)]).filter keep).length ≤ (l k).length + 1 := by have := List.length_filter_le keep (l k ++ [(h, sinceF g A)]); rw [List.length_append] at this; exact this
    have lu2 : A'.uses ≤ A1.uses + 202 * ((1 : Nat) : Int) + 3 * (((l k).length + 1 : Nat) - (((l k ++ [(h, sinceF g A)]).filter keep).length : Int)) := lu.2
    rw [setL_setL] at Y
    refine ⟨A', _, _, Y, run', R1.al.trans L1.al, by omega, fun j => ?_⟩
    by_cases ej : j = k
    · rw [ej, setL_same]; exact lf
    · rw [setL_ne l _ ej]; omega

/-- Forced. -/
theorem GC.force (X : GC A g S l hs lk) {q mq : Nat} (hu : A.uses ≤ 600000) (kb : 0 ≤ k ∧ k < g.w) (ll : (l k).length ≤ 180) :
    ∃ A' l' S', GC A' g S' l' hs lk ∧ RunO q mq (forM g l k) g k A l l' A' ∧ Ar.Alike A A' ∧ A'.uses ≤ A.uses + 1500 ∧ (∀ j, (l' j).length ≤ (l j).length) ∧
      ((∀ j, g.pl.carved < j → (g.ep = true → j ≠ g.ta) → A.rawF j = 0) → l' k = [] ∧ (∀ j, j ≠ k → l' j = l j) ∧ (∀ j, g.pl.carved < j → (g.ep = true → j ≠ g.ta) → A'.rawF j = 0)) := by
  obtain ⟨A', l', S', X', run', hor⟩ := X.gi.force_run (q := q) (mq := mq) (k := k) (by omega) kb (by omega)
  have ta := X.gi.ta
  rcases hor with ⟨h0, rfl, rfl, rfl⟩ | ⟨h0, keep, gs, L1, rfl, rfl⟩
  · exact ⟨A', l', S', X, run', .refl _, by omega, fun j => Nat.le_refl _, fun hz => ⟨h0, fun _ _ => rfl, hz⟩⟩
  · have lu := L1.us
    have ft : ((forT g : Nat) : Int) ≤ 3 := by unfold forT; split <;> decide
    refine ⟨A', _, _, X.look kb L1 (by omega), run', L1.al, by omega, fun j => ?_, fun hz => ⟨?_, fun j hj => setL_ne l _ hj, fun j hj he => ?_⟩⟩
    · by_cases ej : j = k
      · rw [ej, setL_same]; exact List.length_filter_le _ _
      · rw [setL_ne l _ ej]; exact Nat.le_refl _
    · rw [setL_same]
      have hk := L1.all X.gi (by omega) hz
      exact List.filter_eq_nil_iff.2 fun y hy h => by rw [hk y hy] at h; cases h
    · by_cases e : j = g.ta
      · cases hp : g.ep with
        | false => rw [e, (L1.ha hp).1]; exact hz _ ta fun h => by rw [hp] at h; cases h
        | true => exact (he hp e).elim
      · rw [L1.rw j hj e]; exact hz j hj he
end
end Go.Proofs.Ytcjhakdopnamoaa

set_option linter.unusedVariables false
set_option linter.unusedSimpArgs false
set_option maxRecDepth 20000
namespace Go.Proofs.Ytcjhakdopnamoaa
open Go Go.Fw

section
variable {A B C : Ar} {g : Gd} {S S' : Sg} {l l' : Int → List (Int × Int)} {hs : List Int} {lk : Nat → Int} {k h v i : Int} {n : Nat}

theorem GI.rawS (X : GI A g 960 S l) (hi : g.pl.carved < i ∧ i < A.raw.length) (he : g.ep = true → i ≠ g.ta) (hu : A.uses ≤ 900000) : GI (A.storeR i v) g 960 S l ∧ OutS A g.pl g.w 960 S i v (A.storeR i v) ∧ (A.storeR i v).uses ≤ w64 (A.uses + 1) := by
  have u0 := X.u0
  have O := outS X.sl (i := i) (v := v) hi (by omega)
  exact ⟨X.out O (storeR_wf X.wf _ _) he, O, by rw [O.us, w64_in (by omega) (by omega)]; exact Int.le_refl _⟩

/-- A new slot. -/
theorem GC.slot (X : GC A g S l hs lk) {x : Al} {n : Nat} (Z : SlotZ A g 960 S l k 0 n x B S') : GC B g S' l (if x.h = 0 then hs else hs ++ [x.h]) lk := by
  have off := Z.z.off
  have ta := X.gi.ta
  have rw1 : ∀ i, g.ta ≤ i → B.rawF i = A.rawF i := fun i hi => off.rw i (by omega)
  have st1 : ∀ j, A.stF j ≠ 0 → B.stF j = A.stF j := fun j hj => by
    rw [Z.z.st]
    split
    · rename_i h
      have := (Z.z.hd h.1).2.2
      rw [← h.2] at this; exact (hj this).elim
    · rfl
  have lv0 : ∀ h ∈ hs, B.stF h = 1 ∧ opC h = 0 := fun h hh => by
    obtain ⟨a, b⟩ := X.lv h hh
    exact ⟨by rw [st1 h (by rw [a]; decide)]; exact a, b⟩
  refine ⟨Z.gi, ?_, ?_, ?_, X.lb, fun he i hi => ?_, fun he j hj hr => ?_, fun he j hj hr => ?_, fun j hj => (rw1 j (by have := gwords_pos g.ep X.gi.wb.1; omega)).trans (X.hi j hj)⟩
  · split
    · exact X.nd
    · rename_i hx
      refine List.nodup_append.2 ⟨X.nd, by simp, fun a ha b hb => ?_⟩
      have hb : b = x.h := by simpa using hb
      intro e
      have := (X.lv a ha).1
      rw [e, hb, (Z.z.hd hx).2.2] at this; cases this
  · split
    · exact lv0
    · rename_i hx
      intro h hh
      rcases List.mem_append.1 hh with hh | hh
      · exact lv0 h hh
      · have : h = x.h := by simpa using hh
        rw [this]
        exact ⟨by rw [Z.z.st, if_pos ⟨hx, rfl⟩], (Z.z.hd hx).1⟩
  · rw [Z.z.nL, X.nL]
    by_cases hx : x.h = 0
    · rw [if_pos hx, if_neg (fun h => h hx)]; omega
    · rw [if_neg hx, if_pos hx, List.length_append, show sizeF 0 = 8 from rfl]; show _ = 8 * ((hs.length + 1 : Nat) : Int); omega
  · obtain ⟨w1, w2⟩ := X.wd he i hi
    exact ⟨(rw1 _ (by omega)).trans w1, fun h0 => by rw [st1 _ (w2 h0)]; exact w2 h0⟩
  · rw [rw1 _ (by omega)] at hr; exact X.pz he j hj hr
  · rw [rw1 _ (by omega)] at hr ⊢
    rw [rw1 _ (by omega)]
    obtain ⟨p1, p2, p3, p4⟩ := X.pn he j hj hr
    refine ⟨p1, p2, p3, fun s h2 h0 => ?_⟩
    rcases p4 s h2 h0 with h | h
    · left; rw [st1 _ (by rw [h]; decide)]; exact h
    · exact .inr h

/-- Protected: by a word. -/
theorem GC.word (X : GC A g S l hs lk) (he : g.ep = false) (hu : A.uses ≤ 900000) {k n : Nat} (kb : (k : Int) < g.w) (nb : n < 2) (hv : v = 0 ∨ A.stF v ≠ 0) :
    GC (A.storeR (g.ta + 2 * k + n) v) g S l hs (updF lk (2 * k + n) v) ∧ (A.storeR (g.ta + 2 * k + n) v).uses = A.uses + 1 ∧ (A.storeR (g.ta + 2 * k + n) v).uses ≤ w64 (A.uses + 1) := by
  have ta := X.gi.ta
  have rl := X.gi.rl
  have gw : gwords g.ep g.w = 2 * g.w := by unfold gwords; rw [he]; rfl
  obtain ⟨G, O, u⟩ := X.gi.rawS (i := g.ta + 2 * k + n) (v := v) ⟨by omega, by omega⟩ (fun h => by rw [he] at h; cases h) hu
  refine ⟨⟨G, X.nd, fun h hh => by rw [O.st]; exact X.lv h hh, O.nL.trans X.nL, X.lb, fun _ i hi => ?_, fun h => (by rw [he] at h; cases h), fun h => (by rw [he] at h; cases h), fun j hj => (by rw [O.rf, if_neg (by omega)]; exact X.hi j hj)⟩, O.us, u⟩
  rw [O.rf]
  by_cases e : i = 2 * k + n
  · rw [if_pos (by omega), e, updF_same]
    exact ⟨rfl, fun h0 => by rw [O.st]; exact hv.resolve_left h0⟩
  · rw [if_neg (by omega), updF_ne lk v e, O.st]; exact X.wd he i hi

/-- Pinned, and looked at. -/
theorem GC.pin (X : GC A g S l hs lk) (he : g.ep = true) (hu : A.uses ≤ 800000) {k n : Nat} (kb : (k : Int) < g.w) (nb : n < 2) (hv : v ∈ hs) (h0 : lk (2 * k) = 0) (h1 : lk (2 * k + 1) = 0) :
    GC (((A.later 1).storeR (g.ta + 1 + k) (A.rawF g.ta + 1)).later 1) g S l hs (updF lk (2 * k + n) v) ∧ (((A.later 1).storeR (g.ta + 1 + k) (A.rawF g.ta + 1)).later 1).uses = A.uses + 3 := by
  have ta := X.gi.ta
  have rl := X.gi.rl
  have gw : gwords g.ep g.w = 1 + g.w := by unfold gwords; rw [he]; rfl
  have X1 := X.gi.later (n := 1) (by decide)
  obtain ⟨G, O, u⟩ := GI.rawS (A := A.later 1) X1 (i := g.ta + 1 + k) (v := A.rawF g.ta + 1) ⟨by omega, by show _ < (A.raw.length : Int); omega⟩ (fun _ => by omega) (by show A.uses + 1 ≤ _; omega)
  have ou : ((A.later 1).storeR (g.ta + 1 + k) (A.rawF g.ta + 1)).uses = A.uses + 1 + 1 := O.us
  have st1 : ∀ j, (((A.later 1).storeR (g.ta + 1 + k) (A.rawF g.ta + 1)).later 1).stF j = A.stF j := fun j => (stF_slots rfl j).trans ((O.st j).trans (stF_slots rfl j))
  have rf1 : ∀ j, (((A.later 1).storeR (g.ta + 1 + k) (A.rawF g.ta + 1)).later 1).rawF j = if j = g.ta + 1 + k then A.rawF g.ta + 1 else A.rawF j := fun j => O.rf j
  have nl1 : (((A.later 1).storeR (g.ta + 1 + k) (A.rawF g.ta + 1)).later 1).nL = A.nL := O.nL
  obtain ⟨b0, b1⟩ := X.gi.eb he
  refine ⟨⟨G.later (by decide), X.nd, fun h hh => by rw [st1]; exact X.lv h hh, nl1.trans X.nL, X.lb, fun h => (by rw [he] at h; cases h), fun _ j hj hr => ?_, fun _ j hj hr => ?_, fun j hj => (by rw [rf1, if_neg (by omega)]; exact X.hi j hj)⟩, by show ((A.later 1).storeR (g.ta + 1 + k) (A.rawF g.ta + 1)).uses + 1 = _; omega⟩
  · rw [rf1] at hr
    by_cases e : j = k
    · rw [if_pos (by omega)] at hr; omega
    · rw [if_neg (by omega)] at hr
      rw [updF_ne lk v (by omega), updF_ne lk v (by omega)]; exact X.pz he j hj hr
  · have e0 : (((A.later 1).storeR (g.ta + 1 + k) (A.rawF g.ta + 1)).later 1).rawF g.ta = A.rawF g.ta := by rw [rf1, if_neg (by omega)]
    rw [e0]
    rw [rf1] at hr ⊢
    by_cases e : j = k
    · rw [if_pos (by omega)] at hr ⊢
      refine ⟨by omega, by omega, by omega, fun s h2 hl => ?_⟩
      rw [st1]
      left
      by_cases es : s = n
      · rw [e, es, updF_same]; exact (X.lv v hv).1
      · exfalso
        rw [e, updF_ne lk v (by omega)] at hl
        have : s = 0 ∨ s = 1 := by omega
        rcases this with rfl | rfl
        · exact hl h0
        · exact hl h1
    · rw [if_neg (by omega)] at hr ⊢
      obtain ⟨p1, p2, p3, p4⟩ := X.pn he j hj hr
      refine ⟨p1, p2, p3, fun s h2 hl => ?_⟩
      rw [updF_ne lk v (by omega)] at hl ⊢
      rw [st1]
      exact p4 s h2 hl

theorem GC.unpin (X : GC A g S l hs lk) (he : g.ep = true) (hu : A.uses ≤ 900000) {k : Nat} (kb : (k : Int) < g.w) :
    GC (A.storeR (g.ta + 1 + k) 0) g S l hs (updF (updF lk (2 * k) 0) (2 * k + 1) 0) ∧ (A.storeR (g.ta + 1 + k) 0).uses = A.uses + 1 ∧ (A.storeR (g.ta + 1 + k) 0).uses ≤ w64 (A.uses + 1) := by
  have ta := X.gi.ta
  have rl := X.gi.rl
  have gw : gwords g.ep g.w = 1 + g.w := by unfold gwords; rw [he]; rfl
  obtain ⟨G, O, u⟩ := X.gi.rawS (i := g.ta + 1 + k) (v := 0) ⟨by omega, by omega⟩ (fun _ => by omega) hu
  have ln : ∀ i, i ≠ 2 * k → i ≠ 2 * k + 1 → updF (updF lk (2 * k) 0) (2 * k + 1) 0 i = lk i := fun i a b => by rw [updF_ne _ _ b, updF_ne _ _ a]
  refine ⟨⟨G, X.nd, fun h hh => by rw [O.st]; exact X.lv h hh, O.nL.trans X.nL, X.lb, fun h => (by rw [he] at h; cases h), fun _ j hj hr => ?_, fun _ j hj hr => ?_, fun j hj => (by rw [O.rf, if_neg (by omega)]; exact X.hi j hj)⟩, O.us, u⟩
  · rw [O.rf] at hr
    by_cases e : j = k
    · rw [e, updF_same, updF_ne _ _ (by omega), updF_same]; exact ⟨rfl, rfl⟩
    · rw [if_neg (by omega)] at hr
      rw [ln _ (by omega) (by omega), ln _ (by omega) (by omega)]; exact X.pz he j hj hr
  · have e0 : (A.storeR (g.ta + 1 + k) 0).rawF g.ta = A.rawF g.ta := by rw [O.rf, if_neg (by omega)]
    rw [e0]
    rw [O.rf] at hr ⊢
    by_cases e : j = k
    · rw [if_pos (by omega)] at hr; exact (hr rfl).elim
    · rw [if_neg (by omega)] at hr ⊢
      obtain ⟨p1, p2, p3, p4⟩ := X.pn he j hj hr
      refine ⟨p1, p2, p3, fun s h2 hl => ?_⟩
      rw [ln _ (by omega) (by omega)] at hl ⊢
      rw [O.st]; exact p4 s h2 hl
end

/-! ### The law's blocks -/
def laO (b : Nat) (lk : Nat → Int) : Nat × Obj := (b, oc ty_a5_a2_int (arrC 10 fun i => .int .i64 (lk i)))
def CF (g : Gd) (q mq b : Nat) (cP : Nat × Obj) (e : List LE) (lk : Nat → Int) (gar tl : Bl) : Bl := (g.bl q mq e ++ (laO b lk :: cP :: gar)) ++ tl
structure GS (I : List Nat) (H : Heap) (g : Gd) (q mq b : Nat) (cP : Nat × Obj) (A : Ar) (S : Sg) (l : Int → List (Int × Int)) (e : List LE) (hs : List Int) (la lk : Nat → Int) (s : Sl) (gar tl : Bl) : Prop where
  aw : Aw I A
  ok : Ok I H (keys (CF g q mq b cP e la gar tl))
  gs : GdS e l
  c : GC A g S l hs lk
  sl : SlOf tl ty_int eI s hs

section
variable {L : Hands} {R : Value → Heap → Prop} {H : Heap} {I : List Nat} {A B : Ar} {g : Gd} {S S' : Sg} {l l' : Int → List (Int × Int)} {hs : List Int} {la lk : Nat → Int} {s : Sl} {gar tl : Bl} {q mq b : Nat} {cP : Nat × Obj} {e : List LE} {k : Int}

theorem CF_assoc : CF g q mq b cP e la gar tl = g.bl q mq e ++ ((laO b la :: cP :: gar) ++ tl) := List.append_assoc _ _ _
/-- More garbage, before the rest. -/
theorem CF_gar (G : Bl) (A : Ar) (ok : Ok I H (keys (g.bl q mq e ++ (G ++ ((laO b la :: cP :: gar) ++ tl))))) : own A (g.bl q mq e ++ (G ++ ((laO b la :: cP :: gar) ++ tl))) H = own A (CF g q mq b cP e la (G ++ gar) tl) H ∧ Ok I H (keys (CF g q mq b cP e la (G ++ gar) tl)) :=
  own_perm (A := A) ok (perm_by fun c d c0 cd ca => by
    show _ = c ((g.bl q mq e ++ (laO b la :: cP :: (G ++ gar))) ++ tl)
    simp only [List.cons_append, cd, ca]; omega)

theorem GS.left (E : GS I H g q mq b cP A S l e hs la lk s gar tl) {K : Int → Tree} (hk : wp Try.prog (K (l k).length) L (own A (CF g q mq b cP e la gar tl) H) R) :
    wp Try.prog (.call f_guard_Guard_Left [.pointer (some ⟨q, 0, none⟩), .int .i64 k] (.one (.leaf (.int .i64))) K) L (own A (CF g q mq b cP e la gar tl) H) R := by
  have ok := E.ok
  rw [CF_assoc] at ok hk ⊢
  exact w_GLeft' E.aw ok E.gs hk

theorem GS.retire {h : Int} {hs' : List Int} {s' : Sl} {tl' : Bl} (E : GS I H g q mq b cP A S l e hs la lk s gar tl) (ok' : Ok I H (keys (CF g q mq b cP e la gar tl'))) (sl' : SlOf tl' ty_int eI s' hs') (hu : A.uses ≤ 600000) (kb : 0 ≤ k ∧ k < g.w) (hh : h ∈ hs) (ll : (l k).length ≤ 180) (th : 1 ≤ g.th) (nd : hs'.Nodup) (sub : ∀ j ∈ hs', j ∈ hs ∧ j ≠ h) (ln : hs'.length + 1 = hs.length) {K : Bool → Tree}
    (hk : ∀ B l' S' e' gar', GS I H g q mq b cP B S' l' e' hs' la lk s' gar' tl' → B.uses ≤ A.uses + 1500 → (∀ j, (l' j).length ≤ (l j).length + 1) → wp Try.prog (K true) L (own B (CF g q mq b cP e' la gar' tl') H) R) :
    wp Try.prog (.call f_guard_Guard_Retire [.pointer (some ⟨q, 0, none⟩), .pointer (aI I), .int .i64 k, .int .i64 h] (.one (.leaf .val)) fun x => .call f_magpielaw14_run [.pointer (aI I), x] (.one (.leaf .bool)) K) L (own A (CF g q mq b cP e la gar tl') H) R := by
  obtain ⟨B, l', S', C, run, al, us, ls⟩ := E.c.retire (q := q) (mq := mq) hu kb hh ll th nd sub ln
  have hB := E.aw.of al C.gi.wf
  rw [CF_assoc] at ok' ⊢
  refine w_retire14 E.aw hB ok' E.gs (by omega) run fun e' gar' ok2 gs' => ?_
  obtain ⟨p, o⟩ := CF_gar gar' B ok2
  rw [p]
  exact hk B l' S' e' _ ⟨hB, o, gs', C, sl'⟩ us ls

theorem GS.force (E : GS I H g q mq b cP A S l e hs la lk s gar tl) (hu : A.uses ≤ 600000) (kb : 0 ≤ k ∧ k < g.w) (ll : (l k).length ≤ 180) {K : Bool → Tree}
    (hk : ∀ B l' S' e' gar', GS I H g q mq b cP B S' l' e' hs la lk s gar' tl → B.uses ≤ A.uses + 1500 → (∀ j, (l' j).length ≤ (l j).length) → ((∀ j, g.pl.carved < j → (g.ep = true → j ≠ g.ta) → A.rawF j = 0) → l' k = [] ∧ (∀ j, j ≠ k → l' j = l j) ∧ (∀ j, g.pl.carved < j → (g.ep = true → j ≠ g.ta) → B.rawF j = 0)) → wp Try.prog (K true) L (own B (CF g q mq b cP e' la gar' tl) H) R) :
    wp Try.prog (.call f_guard_Guard_Force [.pointer (some ⟨q, 0, none⟩), .int .i64 k] (.one (.leaf .val)) fun x => .call f_magpielaw14_run [.pointer (aI I), x] (.one (.leaf .bool)) K) L (own A (CF g q mq b cP e la gar tl) H) R := by
  obtain ⟨B, l', S', C, run, al, us, ls, hz⟩ := E.c.force (q := q) (mq := mq) hu kb ll
  have hB := E.aw.of al C.gi.wf
  have ok := E.ok
  rw [CF_assoc] at ok ⊢
  refine w_force14 E.aw ok E.gs (by omega) run fun e' gar' ok2 gs' => ?_
  obtain ⟨p, o⟩ := CF_gar gar' B ok2
  rw [p]
  exact hk B l' S' e' _ ⟨hB, o, gs', C, E.sl⟩ us ls hz
end
end Go.Proofs.Ytcjhakdopnamoaa

set_option linter.unusedVariables false
set_option maxRecDepth 20000
namespace Go.Proofs.Ytcjhakdopnamoaa
open Go Go.Fw

section
variable {L : Hands} {R : Value → Heap → Prop} {H : Heap} {I : List Nat} {A : Ar} {N : Nat}
end
end Go.Proofs.Ytcjhakdopnamoaa

set_option linter.unusedVariables false
set_option linter.unusedSimpArgs false
set_option maxRecDepth 20000
namespace Go.Proofs.Ytcjhakdopnamoaa
open Go Go.Fw

end Go.Proofs.Ytcjhakdopnamoaa

set_option linter.unusedVariables false
set_option linter.unusedSimpArgs false
set_option maxRecDepth 20000
namespace Go.Proofs.Ytcjhakdopnamoaa
open Go Go.Fw

def lkz (k : Nat) (lk : Nat → Int) : Nat → Int := updF (updF lk (2 * k) 0) (2 * k + 1) 0
section
variable {L : Hands} {R : Value → Heap → Prop} {H : Heap} {I : List Nat} {A B : Ar} {g : Gd} {S S' : Sg} {l l' : Int → List (Int × Int)} {hs : List Int} {la lk : Nat → Int} {s : Sl} {gar tl : Bl} {q mq b : Nat} {cP : Nat × Obj} {e : List LE}

theorem GS.bnds (E : GS I H g q mq b cP A S l e hs la lk s gar tl) : 0 ≤ g.ta ∧ g.ta ≤ 1000000 ∧ 1 ≤ g.w ∧ g.w ≤ 100 := by
  have ta := E.c.gi.ta
  have c0 := E.c.gi.c0
  have rl := E.c.gi.rl
  have rb := E.c.gi.rb
  have wb := E.c.gi.wb
  have : 0 ≤ gwords g.ep g.w := by unfold gwords; cases g.ep <;> simp <;> omega
  omega

theorem GS.one {k : Int} (E : GS I H g q mq b cP A S l e hs la lk s gar tl) (hP : g.pl = plOf g.w 960) (hu : A.uses ≤ 600000) (kb : 0 ≤ k ∧ k < g.w) (w9 : g.w ≤ 9) {K : Int → Tree}
    (hk : ∀ B S' h gar', GC B g S' l (if h = 0 then hs else hs ++ [h]) lk → Ok I H (keys (CF g q mq b cP e la gar' tl)) → Aw I B → B.uses ≤ A.uses + 20 → wp Try.prog (K h) L (own B (CF g q mq b cP e la gar' tl) H) R) :
    wp Try.prog (.call f_magpielaw14_one [.pointer (aI I), (plOf g.w 960).val, .int .i64 k] (.one (.leaf (.int .i64))) K) L (own A (CF g q mq b cP e la gar tl) H) R := by
  obtain ⟨n, x, B, S', Z⟩ := E.c.gi.slot (by omega) kb (c := 0) (by decide)
  have run := Z.z.run
  rw [hP] at run
  have nn := Z.z.nn
  have un := Z.un
  refine w_one14 run (by omega) E.aw E.ok fun gar1 ok1 hB => ?_
  obtain ⟨p, o⟩ := own_perm (A := B) (l' := CF g q mq b cP e la (gar1 ++ gar) tl) ok1 (perm_by fun c d c0 cd ca => by
    show c (((g.bl q mq e ++ (laO b la :: cP :: gar)) ++ tl) ++ gar1) = c ((g.bl q mq e ++ (laO b la :: cP :: (gar1 ++ gar))) ++ tl)
    simp only [List.cons_append, cd, ca]; omega)
  rw [p]
  exact hk B S' x.h _ (E.c.slot Z) o hB (by omega)

theorem GS.leave {k : Nat} (E : GS I H g q mq b cP A S l e hs la lk s gar tl) (hu : A.uses ≤ 600000) (kb : (k : Int) < g.w) {K : Bool → Tree}
    (hk : ∀ B gar', GS I H g q mq b cP B S l e hs la (lkz k lk) s gar' tl → B.uses ≤ A.uses + 2 → (∀ j, g.pl.carved < j → A.rawF j = 0 → B.rawF j = 0) → B.rawF g.ta = (if g.ep = false ∧ k = 0 then 0 else A.rawF g.ta) → (∀ j : Nat, g.ep = true → j = k → B.rawF (g.ta + 1 + j) = 0) → (∀ j : Nat, g.ep = false → j = 2 * k ∨ j = 2 * k + 1 → B.rawF (g.ta + j) = 0) → wp Try.prog (K true) L (own B (CF g q mq b cP e la gar' tl) H) R) :
    wp Try.prog (.call f_guard_Guard_Leave [.pointer (some ⟨q, 0, none⟩), .int .i64 (k : Int)] (.one (.leaf .val)) fun x => .call f_magpielaw14_run [.pointer (aI I), x] (.one (.leaf .bool)) K) L (own A (CF g q mq b cP e la gar tl) H) R := by
  obtain ⟨t0, t1, w0, w1⟩ := E.bnds
  have u0 := E.c.gi.u0
  have ta := E.c.gi.ta
  have rl := E.c.gi.rl
  have ok := E.ok
  rw [CF_assoc] at ok ⊢
  refine w_GLeave ⟨t0, t1, by omega, by omega⟩ E.aw ok fun j z ok1 rp1 => ?_
  obtain ⟨p6, ok2⟩ := own_rot' (A := A) ok1
  rw [p6]
  cases he : g.ep with
  | true =>
    have gw : gwords g.ep g.w = 1 + g.w := by unfold gwords; rw [he]; rfl
    have hlw : leaveW g (k : Int) = [g.ta + 1 + k] := by unfold leaveW; rw [he]; show [ewd g.ta k] = _; rw [ewd_eq ⟨t0, t1, by omega, by omega⟩]
    rw [hlw] at ok2 rp1 ⊢
    obtain ⟨C, u1, u2⟩ := E.c.unpin he (by omega) kb
    have O := (E.c.gi.rawS (i := g.ta + 1 + k) (v := 0) ⟨by omega, by omega⟩ (fun _ => by omega) (by omega)).2.1
    refine w_runR14 mSe_ok mSe_inv (set1 u2) (by decide) (j := j) E.aw ok2 rp1 fun j3 ha hB ok3 rp3 => ?_
    obtain ⟨p4, ok4⟩ := own_perm (A := A.storeR (g.ta + 1 + k) 0) (l' := g.bl q mq e ++ ((mSe.bl ⟨[], 0⟩ j3 ++ z) ++ ((laO b la :: cP :: gar) ++ tl))) ok3 (perm_by fun c d c0 cd ca => by simp only [List.cons_append, List.append_assoc, cd, ca]; omega)
    rw [p4]
    obtain ⟨p5, o5⟩ := CF_gar _ _ ok4
    rw [p5]
    refine hk _ _ ⟨hB, o5, E.gs, C, E.sl⟩ (by omega) (fun j hj h0 => ?_) ?_ (fun j _ ej => ?_) fun j h => (by rw [he] at h; cases h)
    · rw [O.rf]; split
      · rfl
      · exact h0
    · rw [O.rf, if_neg (by omega), if_neg (fun h => by rw [he] at h; cases h.1)]
    · rw [O.rf, if_pos (by omega)]
  | false =>
    have gw : gwords g.ep g.w = 2 * g.w := by unfold gwords; rw [he]; rfl
    have hlw : leaveW g (k : Int) = [g.ta + 2 * k, g.ta + 2 * k + 1] := by unfold leaveW; rw [he]; rfl
    rw [hlw] at ok2 rp1 ⊢
    have i0 : g.ta + 2 * (k : Int) + ((0 : Nat) : Int) = g.ta + 2 * k := by omega
    have i1 : g.ta + 2 * (k : Int) + ((1 : Nat) : Int) = g.ta + 2 * k + 1 := by omega
    have C1 := E.c.word he (v := 0) (by omega) (n := 0) kb (by decide) (.inl rfl)
    rw [i0] at C1
    obtain ⟨C1, a1, a2⟩ := C1
    have C2 := C1.word he (v := 0) (by omega) (n := 1) kb (by decide) (.inl rfl)
    rw [i1] at C2
    obtain ⟨C2, b1, b2⟩ := C2
    have rl1 : ((A.storeR (g.ta + 2 * k) 0).raw.length : Int) = A.raw.length := by rw [(E.c.gi.rawS (i := g.ta + 2 * k) (v := 0) ⟨by omega, by omega⟩ (fun h => by rw [he] at h; cases h) (by omega)).2.1.rl]
    have O1 := (E.c.gi.rawS (i := g.ta + 2 * k) (v := 0) ⟨by omega, by omega⟩ (fun h => by rw [he] at h; cases h) (by omega)).2.1
    have O2 := (C1.gi.rawS (i := g.ta + 2 * k + 1) (v := 0) ⟨by omega, by omega⟩ (fun h => by rw [he] at h; cases h) (by omega)).2.1
    refine w_runR14 mSe_ok mSe_inv (set2 a2 b2) (by decide) (j := j) E.aw ok2 rp1 fun j3 ha hB ok3 rp3 => ?_
    obtain ⟨p4, ok4⟩ := own_perm (A := (A.storeR (g.ta + 2 * k) 0).storeR (g.ta + 2 * k + 1) 0) (l' := g.bl q mq e ++ ((mSe.bl ⟨[], 0⟩ j3 ++ z) ++ ((laO b la :: cP :: gar) ++ tl))) ok3 (perm_by fun c d c0 cd ca => by simp only [List.cons_append, List.append_assoc, cd, ca]; omega)
    rw [p4]
    obtain ⟨p5, o5⟩ := CF_gar _ _ ok4
    rw [p5]
    refine hk _ _ ⟨hB, o5, E.gs, C2, E.sl⟩ (by omega) (fun j hj h0 => ?_) ?_ (fun j h => (by rw [he] at h; cases h)) fun j _ ej => ?_
    · rw [O2.rf]; split
      · rfl
      · rw [O1.rf]; split
        · rfl
        · exact h0
    · rw [O2.rf, if_neg (by omega), O1.rf]
      by_cases k0 : k = 0
      · rw [if_pos (by omega), if_pos ⟨he, k0⟩]
      · rw [if_neg (by omega), if_neg (fun h => k0 h.2)]
    · rw [O2.rf]
      split
      · rfl
      · rw [O1.rf, if_pos (by omega)]

/-- Entered; with epochs what will be looked at is so already. -/
theorem GS.enter {k n : Nat} {v : Int} (E : GS I H g q mq b cP A S l e hs la lk s gar tl) (hu : A.uses ≤ 600000) (kb : (k : Int) < g.w) (nb : n < 2) (hv : v ∈ hs) (h0 : lk (2 * k) = 0) (h1 : lk (2 * k + 1) = 0) {K : Bool → Tree}
    (hk : ∀ B gar', GS I H g q mq b cP B S l e hs la (if g.ep = true then updF lk (2 * k + n) v else lk) s gar' tl → B.uses ≤ A.uses + 3 → wp Try.prog (K true) L (own B (CF g q mq b cP e la gar' tl) H) R) :
    wp Try.prog (.call f_guard_Guard_Enter [.pointer (some ⟨q, 0, none⟩), .int .i64 (k : Int)] (.one (.leaf .val)) fun x => .call f_magpielaw14_run [.pointer (aI I), x] (.one (.leaf .bool)) K) L (own A (CF g q mq b cP e la gar tl) H) R := by
  obtain ⟨t0, t1, w0, w1⟩ := E.bnds
  have u0 := E.c.gi.u0
  have ta := E.c.gi.ta
  have rl := E.c.gi.rl
  have rb := E.c.gi.rb
  have ok := E.ok
  rw [CF_assoc] at ok ⊢
  refine w_GEnter E.aw ok (fun he z ok1 => ?_) fun he => ?_
  · have gw : gwords g.ep g.w = 1 + g.w := by unfold gwords; rw [he]; rfl
    obtain ⟨b0, b1⟩ := E.c.gi.eb he
    obtain ⟨m', run⟩ := pin_solo (A := A) (tw := g.w) (ta := g.ta) (who := k) (e := A.rawF g.ta) t0 ⟨by omega, by omega⟩ (by omega) (by omega) u0 (by omega) rfl ⟨b0, by omega⟩
    obtain ⟨C, u1⟩ := E.c.pin he (by omega) kb nb hv h0 h1
    obtain ⟨p4, ok6⟩ := own_rot' (A := A) ok1
    rw [p4]
    refine w_runR14 (X := mPn.toR) (Mch.toR_ok mPn_ok) mPn_inv (Mch.toR_runs run) (by decide) (j := z) E.aw ok6 trivial fun j' ha hB ok7 rp7 => ?_
    obtain ⟨p5, ok8⟩ := own_rot' (A := ((A.later 1).storeR (g.ta + 1 + k) (A.rawF g.ta + 1)).later 1) ok7
    rw [p5]
    obtain ⟨p6, o6⟩ := CF_gar _ _ ok8
    rw [p6]
    exact hk _ _ ⟨hB, o6, E.gs, by rw [if_pos he]; exact C, E.sl⟩ (by omega)
  · refine w_run14_nil ?_
    rw [← CF_assoc]
    exact hk A gar ⟨E.aw, E.ok, E.gs, by rw [if_neg (by rw [he]; decide)]; exact E.c, E.sl⟩ (by omega)

theorem GS.protect {k n : Nat} {v : Int} (E : GS I H g q mq b cP A S l e hs la (if g.ep = true then updF lk (2 * k + n) v else lk) s gar tl) (hu : A.uses ≤ 600000) (kb : (k : Int) < g.w) (nb : n < 2) (hv : v ∈ hs) {K : Bool → Tree}
    (hk : ∀ B gar', GS I H g q mq b cP B S l e hs la (updF lk (2 * k + n) v) s gar' tl → B.uses ≤ A.uses + 1 → wp Try.prog (K true) L (own B (CF g q mq b cP e la gar' tl) H) R) :
    wp Try.prog (.call f_guard_Guard_Protect [.pointer (some ⟨q, 0, none⟩), .int .i64 (k : Int), .int .i64 (n : Int), .int .i64 v] (.one (.leaf .val)) fun x => .call f_magpielaw14_run [.pointer (aI I), x] (.one (.leaf .bool)) K) L (own A (CF g q mq b cP e la gar tl) H) R := by
  obtain ⟨t0, t1, w0, w1⟩ := E.bnds
  have ok := E.ok
  rw [CF_assoc] at ok ⊢
  refine w_GProtect ⟨t0, t1, by omega, by omega, by omega, by omega⟩ E.aw ok (fun he j ok1 rp1 => ?_) fun he => ?_
  · have c := E.c
    rw [if_neg (by rw [he]; decide)] at c
    obtain ⟨C, u1, u2⟩ := c.word he (v := v) (by omega) (n := n) kb nb (.inr (by rw [(c.lv v hv).1]; decide))
    obtain ⟨p4, ok6⟩ := own_rot' (A := A) ok1
    rw [p4]
    refine w_runR14 mSe_ok mSe_inv (set1 u2) (by decide) (j := j) E.aw ok6 rp1 fun j' ha hB ok7 rp7 => ?_
    obtain ⟨p5, ok8⟩ := own_rot' (A := A.storeR (g.ta + 2 * k + n) v) ok7
    rw [p5]
    obtain ⟨p6, o6⟩ := CF_gar _ _ ok8
    rw [p6]
    exact hk _ _ ⟨hB, o6, E.gs, C, E.sl⟩ (by omega)
  · refine w_run14_nil ?_
    have c := E.c
    rw [if_pos he] at c
    rw [← CF_assoc]
    exact hk A gar ⟨E.aw, E.ok, E.gs, c, E.sl⟩ (by omega)

/-! ### The array -/
theorem w_ixg {t e u : TypeId} {n b o : Nat} {i : Int} {info : TypeInfo} {k : Addr → Tree} (hu : Try.prog.underlying t = some (.array n e)) (hi : Try.prog.info? e = some info) (hs : info.size = 1) (h0 : 0 ≤ i) (h1 : i < n) {K0 : Heap}
    (h : wp Try.prog (k ⟨b, o + i.toNat, none⟩) L K0 R) : wp Try.prog (.look (opS Try.prog (.indexAddr t (.tmp 0) (.tmp 1)) u [.pointer (some ⟨b, o, none⟩), .int .i64 i]) (.one (.leaf .addr)) k) L K0 R :=
  look_val (x := ⟨b, o + i.toNat, none⟩) (by rw [opS_idx hu hi h0 h1, Addr.add_mk, hs, Nat.mul_one]) h
theorem w_ix2 {u : TypeId} {i : Int} {K : Addr → Tree} {K0 : Heap} (h0 : 0 ≤ i) (h1 : i < 5) (h : wp Try.prog (K ⟨b, 0 + i.toNat * 2, none⟩) L K0 R) :
    wp Try.prog (.look (opS Try.prog (.indexAddr ty_a5_a2_int (.tmp 0) (.tmp 1)) u [.pointer (some ⟨b, 0, none⟩), .int .i64 i]) (.one (.leaf .addr)) K) L K0 R :=
  look_val (x := ⟨b, 0 + i.toNat * 2, none⟩) (by rw [opS_idx (n := 5) (e := ty_a2_int) rfl rfl h0 (by omega), Addr.add_mk]; rfl) h
theorem w_ix2b {u : TypeId} {o : Nat} {i : Int} {K : Addr → Tree} {K0 : Heap} (h0 : 0 ≤ i) (h1 : i < 2) (h : wp Try.prog (K ⟨b, o + i.toNat, none⟩) L K0 R) :
    wp Try.prog (.look (opS Try.prog (.indexAddr ty_a2_int (.tmp 0) (.tmp 1)) u [.pointer (some ⟨b, o, none⟩), .int .i64 i]) (.one (.leaf .addr)) K) L K0 R :=
  w_ixg (e := ty_int) (n := 2) rfl rfl rfl h0 (by omega) h
theorem CF_la : laO b la ∈ CF g q mq b cP e la gar tl := List.mem_append_left _ (List.mem_append_right _ List.mem_cons_self)
theorem w_ldla {o : Nat} {a : Addr} {K : Int → Tree} (hA : Aw I A) (ok : Ok I H (keys (CF g q mq b cP e la gar tl))) (ha : a = ⟨b, o, none⟩) (ho : o < 10) (hk : wp Try.prog (K (la o)) L (own A (CF g q mq b cP e la gar tl) H) R) :
    wp Try.prog (.ld a (.int .i64) K) L (own A (CF g q mq b cP e la gar tl) H) R :=
  w_ldm (x := la o) hA ok ha CF_la (by rw [arrC_get ho]; rfl) hk
theorem w_stla {o : Nat} {a : Addr} {v : Int} {K : Tree} (hA : Aw I A) (ok : Ok I H (keys (CF g q mq b cP e la gar tl))) (ha : a = ⟨b, o, none⟩) (ho : o < 10) (hk : Ok I H (keys (CF g q mq b cP e (updF la o v) gar tl)) → wp Try.prog K L (own A (CF g q mq b cP e (updF la o v) gar tl) H) R) :
    wp Try.prog (.st a (.int .i64 v) K) L (own A (CF g q mq b cP e la gar tl) H) R := by
  obtain ⟨p, o1⟩ := own_perm (A := A) (l' := laO b la :: (g.bl q mq e ++ (cP :: (gar ++ tl)))) ok (perm_by fun c d c0 cd ca => by
    show c ((g.bl q mq e ++ (laO b la :: cP :: gar)) ++ tl) = _
    simp only [List.cons_append, cd, ca]; omega)
  rw [p]
  refine w_st 0 hA o1 ha rfl rfl (by rw [arrC_len]; exact decide_eq_true (by omega)) ?_
  have s1 : (arrC 10 fun i => Value.int .i64 (la i)).set o (.int .i64 v) = arrC 10 fun i => .int .i64 (updF la o v i) := by
    rw [arrC_set]; congr 1; funext j; unfold updF; split <;> rfl
  show wp Try.prog _ L (own A ((b, oc ty_a5_a2_int ((arrC 10 fun i => Value.int .i64 (la i)).set o (.int .i64 v))) :: (g.bl q mq e ++ (cP :: (gar ++ tl)))) H) R
  rw [s1]
  have o1 : Ok I H (keys (laO b (updF la o v) :: (g.bl q mq e ++ (cP :: (gar ++ tl))))) := o1
  obtain ⟨p2, o2⟩ := own_perm (A := A) (l' := CF g q mq b cP e (updF la o v) gar tl) o1 (perm_by fun c d c0 cd ca => by
    show _ = c ((g.bl q mq e ++ (laO b (updF la o v) :: cP :: gar)) ++ tl)
    simp only [List.cons_append, cd, ca]; omega)
  show wp Try.prog _ L (own A (laO b (updF la o v) :: (g.bl q mq e ++ (cP :: (gar ++ tl)))) H) R
  rw [p2]
  exact hk o2
end
end Go.Proofs.Ytcjhakdopnamoaa

set_option linter.unusedVariables false
set_option linter.unusedSimpArgs false
set_option maxRecDepth 20000
namespace Go.Proofs.Ytcjhakdopnamoaa
open Go Go.Fw

section
variable {L : Hands} {R : Value → Heap → Prop} {H : Heap} {I : List Nat} {A B : Ar} {g : Gd} {S S' : Sg} {l l' : Int → List (Int × Int)} {hs : List Int} {la lk : Nat → Int} {s : Sl} {gar tl : Bl} {q mq b : Nat} {cP : Nat × Obj} {e : List LE} {i j x27 x30 : Int} {p : HL Leaf.T [(.int .i64), (.int .i64), (.int .i64), (.int .i64), (.int .i64)]}

/-- What is looked at is not dead: of one. -/
theorem gb_L3 {y c : Bool} (E : GS I H g q mq b cP A S l e hs la la s gar tl) (jb : 0 ≤ j ∧ j < g.w) (w5 : g.w ≤ 5) (hk : ∀ c, wp Try.prog (.again 2561 [(.bool c), (.int .i64 (j + 1))]) L (own A (CF g q mq b cP e la gar tl) H) R) :
    wp Try.prog (.loop 2752 t_magpielaw14_GuardBounds_L3_sh [(.bool y), (.int .i64 0)] (t_magpielaw14_GuardBounds_L3 (aI I, p, some ⟨q, 0, none⟩, ()) ⟨b, 0, none⟩ (c, j, ()))) L (own A (CF g q mq b cP e la gar tl) H) R := by
  refine wl_bi (fun _ t K => 0 ≤ t ∧ t ≤ 2 ∧ K = own A (CF g q mq b cP e la gar tl) H) (fun _ t => (2 - t).toNat) y 0 ⟨Int.le_refl 0, by decide, rfl⟩ ?_
  rintro y t K ⟨t0, t1, rfl⟩
  rw [t_magpielaw14_GuardBounds_L3]
  by_cases ht : t < 2
  · refine wp_true (decide_eq_true ht) ?_
    refine w_ix2 jb.1 (show j < 5 by omega) ?_
    refine w_ix2b t0 ht ?_
    refine w_ldla (o := 2 * j.toNat + t.toNat) E.aw E.ok (by rw [Nat.zero_add, Nat.mul_comm]) (by omega) ?_
    by_cases h0 : la (2 * j.toNat + t.toNat) = 0
    · refine wp_false (ibnf h0) ?_
      exact wp_again ⟨y, t + 1, by show [_, Value.int .i64 (w64 (t + 1))] = _; rw [w64_in (by omega) (by omega)], ⟨by omega, by omega, rfl⟩, by omega⟩
    · refine wp_true (ibne h0) ?_
      refine w_ix2 jb.1 (show j < 5 by omega) ?_
      refine w_ix2b t0 ht ?_
      refine w_ldla (o := 2 * j.toNat + t.toNat) E.aw E.ok (by rw [Nat.zero_add, Nat.mul_comm]) (by omega) ?_
      refine w_State E.aw ?_
      refine wp_false (ibef (E.c.seen (by omega) (by omega) h0)) ?_
      exact wp_again ⟨y, t + 1, by show [_, Value.int .i64 (w64 (t + 1))] = _; rw [w64_in (by omega) (by omega)], ⟨by omega, by omega, rfl⟩, by omega⟩
  · refine wp_false (decide_eq_false ht) (wp_again_up (by decide) ?_)
    show wp Try.prog (.again 2561 [.bool y, .int .i64 (w64 (j + 1))]) _ _ _
    rw [show w64 (j + 1) = j + 1 from w64_in (by omega) (by omega)]
    exact hk y

theorem gb_L2 {y c : Bool} {s1 s2 : Sl} (E : GS I H g q mq b cP A S l e hs la la s gar tl) (w5 : g.w ≤ 5) (ew : w64 (1 + x27) = g.w) (hk : ∀ c, wp Try.prog (.again 514 [(.bool c), (.slice s2.a s2.len s2.cap), (.int .i64 (w64 (i + 1)))]) L (own A (CF g q mq b cP e la gar tl) H) R) :
    wp Try.prog (.loop 2561 t_magpielaw14_GuardBounds_L2_sh [(.bool y), (.int .i64 0)] (t_magpielaw14_GuardBounds_L2 x27 (aI I, p, some ⟨q, 0, none⟩, ()) ⟨b, 0, none⟩ (c, s1, i, ()) s2)) L (own A (CF g q mq b cP e la gar tl) H) R := by
  have wb := E.c.gi.wb
  refine wl_bi (fun _ t K => 0 ≤ t ∧ t ≤ g.w ∧ K = own A (CF g q mq b cP e la gar tl) H) (fun _ t => (g.w - t).toNat) y 0 ⟨Int.le_refl 0, by omega, rfl⟩ ?_
  rintro y t K ⟨t0, t1, rfl⟩
  rw [t_magpielaw14_GuardBounds_L2, ew]
  by_cases ht : t < g.w
  · refine wp_true (decide_eq_true ht) ?_
    refine gb_L3 E ⟨t0, ht⟩ w5 fun c => ?_
    exact wp_again ⟨c, t + 1, rfl, ⟨by omega, by omega, rfl⟩, by omega⟩
  · refine wp_false (decide_eq_false ht) (wp_again_up (by decide) ?_)
    exact hk y

theorem gb_L6 {y c : Bool} {s1 s2 : Sl} (E : GS I H g q mq b cP A S l e hs la la s gar tl) (w5 : g.w ≤ 5) (ew : w64 (1 + x27) = g.w) (hk : ∀ c, wp Try.prog (.again 514 [(.bool c), (.slice s1.a s1.len s1.cap), (.int .i64 (w64 (i + 1)))]) L (own A (CF g q mq b cP e la gar tl) H) R) :
    wp Try.prog (.loop 2561 t_magpielaw14_GuardBounds_L6_sh [(.bool y), (.int .i64 0)] (t_magpielaw14_GuardBounds_L6 x27 (aI I, p, some ⟨q, 0, none⟩, ()) ⟨b, 0, none⟩ (c, s1, i, ()))) L (own A (CF g q mq b cP e la gar tl) H) R := by
  have wb := E.c.gi.wb
  refine wl_bi (fun _ t K => 0 ≤ t ∧ t ≤ g.w ∧ K = own A (CF g q mq b cP e la gar tl) H) (fun _ t => (g.w - t).toNat) y 0 ⟨Int.le_refl 0, by omega, rfl⟩ ?_
  rintro y t K ⟨t0, t1, rfl⟩
  rw [t_magpielaw14_GuardBounds_L6, ew]
  by_cases ht : t < g.w
  · refine wp_true (decide_eq_true ht) ?_
    refine gb_L3 E ⟨t0, ht⟩ w5 fun c => ?_
    exact wp_again ⟨c, t + 1, rfl, ⟨by omega, by omega, rfl⟩, by omega⟩
  · refine wp_false (decide_eq_false ht) (wp_again_up (by decide) ?_)
    exact hk y

theorem gb_L10 {y c : Bool} {s1 s2 : Sl} (E : GS I H g q mq b cP A S l e hs la la s gar tl) (w5 : g.w ≤ 5) (ew : w64 (1 + x27) = g.w) (hk : ∀ c, wp Try.prog (.again 514 [(.bool c), (.slice s2.a s2.len s2.cap), (.int .i64 (w64 (i + 1)))]) L (own A (CF g q mq b cP e la gar tl) H) R) :
    wp Try.prog (.loop 2561 t_magpielaw14_GuardBounds_L10_sh [(.bool y), (.int .i64 0)] (t_magpielaw14_GuardBounds_L10 x27 (aI I, p, some ⟨q, 0, none⟩, ()) ⟨b, 0, none⟩ (c, s1, i, ()) s2)) L (own A (CF g q mq b cP e la gar tl) H) R := by
  have wb := E.c.gi.wb
  refine wl_bi (fun _ t K => 0 ≤ t ∧ t ≤ g.w ∧ K = own A (CF g q mq b cP e la gar tl) H) (fun _ t => (g.w - t).toNat) y 0 ⟨Int.le_refl 0, by omega, rfl⟩ ?_
  rintro y t K ⟨t0, t1, rfl⟩
  rw [t_magpielaw14_GuardBounds_L10, ew]
  by_cases ht : t < g.w
  · refine wp_true (decide_eq_true ht) ?_
    refine gb_L3 E ⟨t0, ht⟩ w5 fun c => ?_
    exact wp_again ⟨c, t + 1, rfl, ⟨by omega, by omega, rfl⟩, by omega⟩
  · refine wp_false (decide_eq_false ht) (wp_again_up (by decide) ?_)
    exact hk y

/-- Behind each call. -/
theorem gb_J6 {c : Bool} {who : Int} {s1 : Sl} {p2 : Bool} (E : GS I H g q mq b cP A S l e hs la la s gar tl) (w5 : g.w ≤ 5) (ew : w64 (1 + x27) = g.w) (et : w64 (1 + x30) = g.th) (th8 : 1 ≤ g.th ∧ g.th ≤ 8) (ep : p2 = g.ep) (hk : ∀ c, wp Try.prog (.again 514 [(.bool c), (.slice s1.a s1.len s1.cap), (.int .i64 (w64 (i + 1)))]) L (own A (CF g q mq b cP e la gar tl) H) R) :
    wp Try.prog (t_magpielaw14_GuardBounds_J6 p2 x27 x30 (aI I, p, some ⟨q, 0, none⟩, ()) ⟨b, 0, none⟩ (c, s1, i, ()) who) L (own A (CF g q mq b cP e la gar tl) H) R := by
  unfold t_magpielaw14_GuardBounds_J6
  have wb := E.c.gi.wb
  have eb : w64 (w64 (1 + x30) + w64 (w64 (1 + x27) * 2)) = g.th + 2 * g.w := by rw [et, ew, w64_in (x := g.w * 2) (by omega) (by omega), w64_in (by omega) (by omega)]; omega
  refine GS.left (k := who) E ?_
  rw [eb]
  by_cases h : ((l who).length : Int) > g.th + 2 * g.w
  · refine wp_true (decide_eq_true h) ?_
    cases he : g.ep with
    | false => have := E.c.lb he who; omega
    | true =>
      rw [ep, he]
      refine wp_false rfl ?_
      exact gb_L6 (s2 := s1) E w5 ew hk
  · refine wp_false (decide_eq_false h) ?_
    exact gb_L6 (s2 := s1) E w5 ew hk
end
end Go.Proofs.Ytcjhakdopnamoaa

set_option linter.unusedVariables false
set_option linter.unusedSimpArgs false
set_option maxRecDepth 20000
namespace Go.Proofs.Ytcjhakdopnamoaa
open Go Go.Fw

section
variable {L : Hands} {R : Value → Heap → Prop} {H : Heap} {I : List Nat} {A B : Ar} {g : Gd} {S S' : Sg} {l l' : Int → List (Int × Int)} {hs : List Int} {la lk : Nat → Int} {s : Sl} {gar tl : Bl} {q mq b : Nat} {cP : Nat × Obj} {e : List LE} {i j x27 x30 : Int} {p : HL Leaf.T [(.int .i64), (.int .i64), (.int .i64), (.int .i64), (.int .i64)]}

structure EZ (A : Ar) (g : Gd) (t : Int) : Prop where
  ha : g.ep = false → ∀ i : Nat, (i : Int) < 2 * t → A.rawF (g.ta + i) = 0
  ep : g.ep = true → ∀ i : Nat, (i : Int) < t → A.rawF (g.ta + 1 + i) = 0

/-- The end: all leave, and are forced. -/
theorem gb_end {c y : Bool} (hI : ∀ x ∈ I, H x = none) (E : GS I H g q mq b cP A S l e hs la la s gar tl) (w5 : g.w ≤ 5) (gt : g.ta = g.pl.carved + 1) (ew : w64 (1 + x27) = g.w) (hu : A.uses ≤ 300000) (ll : ∀ k, (l k).length ≤ 100) (hl : hs.length ≤ 100) (hR : R (.bool true) H) :
    wp Try.prog (.loop 3072 t_magpielaw14_GuardBounds_L122_sh [(.bool y), (.int .i64 0)] (t_magpielaw14_GuardBounds_L122 x27 (aI I, p, some ⟨q, 0, none⟩, ()) (c, s, i, ()))) L (own A (CF g q mq b cP e la gar tl) H) R := by
  have wb := E.c.gi.wb
  refine wl_bi (fun _ t K => 0 ≤ t ∧ t ≤ g.w ∧ ∃ B lk gar', GS I H g q mq b cP B S l e hs la lk s gar' tl ∧ B.uses ≤ 300000 + 2 * t ∧ EZ B g t ∧ K = own B (CF g q mq b cP e la gar' tl) H) (fun _ t => (g.w - t).toNat) y 0 ⟨Int.le_refl 0, by omega, A, la, gar, E, by omega, ⟨fun _ i h => by omega, fun _ i h => by omega⟩, rfl⟩ ?_
  clear E hu
  rintro y t K ⟨t0, t1, B, lk, gar, E, hu, Z, rfl⟩
  rw [t_magpielaw14_GuardBounds_L122, ew]
  have ta := E.c.gi.ta
  by_cases ht : t < g.w
  · refine wp_true (decide_eq_true ht) ?_
    obtain ⟨k, rfl⟩ : ∃ k : Nat, t = (k : Int) := ⟨t.toNat, by omega⟩
    refine GS.leave (k := k) E (by omega) ht fun C gar' E1 us z1 z2 z3 z4 => ?_
    refine wp_false rfl ?_
    refine wp_again ⟨y, (k : Int) + 1, by show [_, Value.int .i64 (w64 ((k : Int) + 1))] = _; rw [w64_in (by omega) (by omega)], ⟨by omega, by omega, C, _, gar', E1, by omega, ⟨fun he i hi => ?_, fun he i hi => ?_⟩, rfl⟩, by omega⟩
    · by_cases hi2 : (i : Int) < 2 * k
      · exact z1 _ (by omega) (Z.ha he i hi2)
      · exact z4 i he (by omega)
    · by_cases hi2 : (i : Int) < k
      · exact z1 _ (by omega) (Z.ep he i hi2)
      · exact z3 i he (by omega)
  refine wp_false (decide_eq_false ht) ?_
  have tw : t = g.w := by omega
  subst tw
  have hz : ∀ j, g.pl.carved < j → (g.ep = true → j ≠ g.ta) → B.rawF j = 0 := fun j hj he => by
    by_cases hb : g.ta + gwords g.ep g.w ≤ j
    · exact E.c.hi j hb
    · cases h : g.ep with
      | false =>
        have gw : gwords g.ep g.w = 2 * g.w := by unfold gwords; rw [h]; rfl
        have := Z.ha h (j - g.ta).toNat (by omega)
        rw [show g.ta + (((j - g.ta).toNat : Nat) : Int) = j by omega] at this; exact this
      | true =>
        have gw : gwords g.ep g.w = 1 + g.w := by unfold gwords; rw [h]; rfl
        have := he h
        have := Z.ep h (j - g.ta - 1).toNat (by omega)
        rw [show g.ta + 1 + (((j - g.ta - 1).toNat : Nat) : Int) = j by omega] at this; exact this
  refine wl_bi (fun _ t K => 0 ≤ t ∧ t ≤ g.w ∧ ∃ B S l e gar', GS I H g q mq b cP B S l e hs la lk s gar' tl ∧ B.uses ≤ 301000 + 1500 * t ∧ (∀ j, g.pl.carved < j → (g.ep = true → j ≠ g.ta) → B.rawF j = 0) ∧ (∀ k, (l k).length ≤ 100) ∧ (∀ k, 0 ≤ k → k < t → l k = []) ∧ K = own B (CF g q mq b cP e la gar' tl) H) (fun _ t => (g.w - t).toNat) y 0 ⟨Int.le_refl 0, by omega, B, S, l, e, gar, E, by omega, hz, ll, fun k _ _ => by omega, rfl⟩ ?_
  clear hz Z hu E ll ht ta
  rintro y t K ⟨t0, t1, B, S, l, e, gar, E, hu, hz, ll, hn, rfl⟩
  rw [t_magpielaw14_GuardBounds_L123, ew]
  by_cases ht : t < g.w
  · refine wp_true (decide_eq_true ht) ?_
    refine GS.force (k := t) E (by omega) ⟨t0, ht⟩ (by have := ll t; omega) fun C l' S' e' gar' E1 us ls z => ?_
    obtain ⟨z1, z2, z3⟩ := z hz
    refine wp_false rfl ?_
    refine GS.left (k := t) E1 ?_
    refine wp_false (ibnf (by rw [z1]; rfl)) ?_
    refine wp_again ⟨y, t + 1, by show [_, Value.int .i64 (w64 (t + 1))] = _; rw [w64_in (by omega) (by omega)], ⟨by omega, by omega, C, S', l', e', gar', E1, by omega, z3, fun k => by have := ls k; have := ll k; omega, fun k k0 k1 => ?_, rfl⟩, by omega⟩
    by_cases e : k = t
    · rw [e]; exact z1
    · rw [z2 k e]; exact hn k k0 (by omega)
  refine wp_false (decide_eq_false ht) ?_
  have hl0 : ∀ k, l k = [] := fun k => by
    by_cases h : l k = []
    · exact h
    · obtain ⟨a, c⟩ := E.c.gi.rg k h
      exact hn k a (by omega)
  have nR : B.nR = 0 := by rw [E.c.gi.nR]; exact totR_nil hl0 _
  refine w_Count E.aw ?_
  refine wp_true (ibeq nR) ?_
  refine w_Count E.aw ?_
  have sl := E.sl.len
  refine wp_true (ibeq (show B.nL = w64 (8 * ((s.len : Nat) : Int)) by rw [E.c.nL, sl, w64_in (by omega) (by omega)])) ?_
  refine w_Fault E.aw ?_
  rw [E.c.gi.fa]
  refine wp_true rfl ?_
  refine wp_call_det (x := true) (awake14_det _) ?_
  exact ⟨H, own_end E.aw E.ok hI, hR⟩

/-- A slice without its k-th number, in a new row. -/
theorem w_remove2 {xs : List Int} {s : Sl} {n v : Int} {k : Sl → Tree} {pre tl : Bl} (hA : Aw I A) (ok : Ok I H (keys (pre ++ tl))) (hs : SlOf tl ty_int eI s xs) (v0 : 0 ≤ v) (hn : n = v % ((s.len : Nat) : Int)) (h1 : 0 < xs.length) (hm : xs.length ≤ 100000)
    (h : ∀ s' tl', SlOf tl' ty_int eI s' (xs.take n.toNat ++ xs.drop (n.toNat + 1)) → Ok I H (keys (pre ++ tl')) → (∀ p, p ∈ tl → p ∈ tl') → wp Try.prog (k s') L (own A (pre ++ tl') H) R) :
    wp Try.prog (.look (opS Try.prog (.slice ty_s_int (.tmp 0) none (some (.tmp 1)) none) ty_s_int [(.slice s.a s.len s.cap), (.int .i64 n)]) (.one (.leaf .slice)) fun x113 =>
      .look (opS Try.prog (.binOp .rem ty_int (.tmp 0) (.tmp 1) ty_int) ty_int [(.int .i64 v), (.int .i64 ((s.len : Nat) : Int))]) (.one (.leaf (.int .i64))) fun x7 =>
      .look (opS Try.prog (.slice ty_s_int (.tmp 0) (some (.tmp 1)) none none) ty_s_int [(.slice s.a s.len s.cap), (.int .i64 (w64 (x7 + 1)))]) (.one (.leaf .slice)) fun x118 =>
      .act (opS Try.prog (.call { callee := .builtin .append, args := #[(.const (.slice none 0 0)), (.tmp 0)], argTypes := #[ty_s_int, ty_s_int] }) ty_s_int [(.slice x113.a x113.len x113.cap)]) (.one (.leaf .slice)) fun x114 =>
      .check (opS Try.prog (.slice ty_s_int (.tmp 0) (some (.tmp 1)) none none) ty_s_int [(.slice s.a s.len s.cap), (.int .i64 (w64 (x7 + 1)))]) (.slice x118.a x118.len x118.cap) <|
      .check (opS Try.prog (.binOp .rem ty_int (.tmp 0) (.tmp 1) ty_int) ty_int [(.int .i64 v), (.int .i64 ((s.len : Nat) : Int))]) (.int .i64 x7) <|
      .act (opS Try.prog (.call { callee := .builtin .append, args := #[(.tmp 0), (.tmp 1)], argTypes := #[ty_s_int, ty_s_int] }) ty_s_int [(.slice x114.a x114.len x114.cap), (.slice x118.a x118.len x118.cap)]) (.one (.leaf .slice)) k) L (own A (pre ++ tl) H) R := by
  have hl := hs.len
  have hc : (s.len : Int) ≤ s.cap := by
    rcases hs with ⟨rfl, _⟩ | ⟨b, rest, r, rfl, _⟩
    · exact Int.le_refl _
    · show ((xs.length : Nat) : Int) ≤ ((xs.length + r : Nat) : Int); omega
  have lp : (1 : Int) ≤ ((s.len : Nat) : Int) := by omega
  have n0 := Int.emod_nonneg v (b := ((s.len : Nat) : Int)) (by omega)
  have n1 := Int.emod_lt_of_pos v (b := ((s.len : Nat) : Int)) (by omega)
  rw [← hn] at n0 n1
  have e1 : w64 (n + 1) = n + 1 := w64_in (by omega) (by omega)
  have e2 : (n + 1).toNat = n.toNat + 1 := by omega
  refine w_cut n0 (by omega) ?_
  refine w_rem v0 lp ?_
  rw [← hn, e1]
  refine w_cutLo (by omega) (by omega) ?_
  refine w_appN (t := ⟨s.a, n.toNat, s.cap⟩) (ys := xs.take n.toNat) hA ok ?_ (by rw [List.length_take]; show n.toNat = _; omega) (by rw [List.length_take]; omega) fun s1 tl1 hs1 ok1 ap1 => ?_
  · exact (hs.take (n := n.toNat) (by omega)).mono (l' := pre ++ tl) (fun p hp => List.mem_append_right _ hp) |>.row hA ok
  refine ck_cutLo (by omega) (by omega) ?_
  refine w_ckRem v0 lp hn ?_
  have hsk : SlOf (pre ++ tl1) ty_int eI s xs := hs.mono fun p hp => List.mem_append_right _ (ap1.none p hp)
  obtain ⟨r1, r2⟩ := hsk.rowLo hA ok1 (n := (n + 1).toNat) (by omega)
  refine w_appI (ys := xs.drop (n + 1).toNat) hA ok1 hs1 r1 r2 (by rw [List.length_take, List.length_drop]; omega) fun s2 tl2 hs2 ok2 ap2 => ?_
  rw [e2] at hs2
  have n1 : ∀ a, s1.a = some a → a.block ∉ keys tl := fun a ha => by
    rcases ap1.at' with h | h
    · rw [h] at ha; cases ha
    · exact h a ha
  refine h s2 tl2 hs2 ok2 (fun p hp => ap2.keep p.1 p.2 (ap1.none p hp) fun a ha e => n1 a ha ?_)
  rw [e]; exact List.mem_map.2 ⟨p, hp, rfl⟩

theorem cut_out {xs : List Int} (nd : xs.Nodup) {n : Nat} (hn : n < xs.length) : (xs.take n ++ xs.drop (n + 1)).Nodup ∧ (∀ j ∈ xs.take n ++ xs.drop (n + 1), j ∈ xs ∧ j ≠ xs.getD n 0) ∧ (xs.take n ++ xs.drop (n + 1)).length + 1 = xs.length ∧ xs.getD n 0 ∈ xs := by
  have e : xs = xs.take n ++ xs.getD n 0 :: xs.drop (n + 1) := by
    have := List.take_append_drop n xs
    rw [List.drop_eq_getElem_cons hn] at this
    rw [List.getD_eq_getElem?_getD, List.getElem?_eq_getElem hn]
    exact this.symm
  have pm : xs.Perm (xs.getD n 0 :: (xs.take n ++ xs.drop (n + 1))) := by
    exact (List.Perm.of_eq e).trans List.perm_middle
  have nd2 := pm.nodup_iff.1 nd
  obtain ⟨a, c⟩ := List.nodup_cons.1 nd2
  refine ⟨c, fun j hj => ⟨pm.mem_iff.2 (List.mem_cons_of_mem _ hj), fun e => a (e ▸ hj)⟩, by have := pm.length_eq; simpa using this.symm, pm.mem_iff.2 List.mem_cons_self⟩
end
end Go.Proofs.Ytcjhakdopnamoaa

set_option linter.unusedVariables false
set_option linter.unusedSimpArgs false
set_option maxRecDepth 20000
namespace Go.Proofs.Ytcjhakdopnamoaa
open Go Go.Fw

/-- What goes on. -/
def GBAg (L : Hands) (R : Value → Heap → Prop) (I : List Nat) (H : Heap) (g : Gd) (q mq b : Nat) (cP : Nat × Obj) (i : Int) : Prop := ∀ (c : Bool) A S l e hs la s gar tl, GS I H g q mq b cP A S l e hs la la s gar tl → A.uses ≤ 100 + 1600 * (i + 1) → (∀ k, ((l k).length : Int) ≤ i + 1) → (hs.length : Int) ≤ i + 1 →
  wp Try.prog (.again 514 [(.bool c), (.slice s.a s.len s.cap), (.int .i64 (i + 1))]) L (own A (CF g q mq b cP e la gar tl) H) R

section
variable {L : Hands} {R : Value → Heap → Prop} {H : Heap} {I : List Nat} {A B : Ar} {g : Gd} {S S' : Sg} {l l' : Int → List (Int × Int)} {hs : List Int} {la lk : Nat → Int} {s : Sl} {gar tl : Bl} {q mq b : Nat} {cP : Nat × Obj} {e : List LE} {i j v x27 x30 : Int} {p : HL Leaf.T [(.int .i64), (.int .i64), (.int .i64), (.int .i64), (.int .i64)]} {p2 c : Bool} {who : Nat}

theorem w_stla2 {k : Nat} {a : Addr} {K : Tree} (hA : Aw I A) (ok : Ok I H (keys (CF g q mq b cP e la gar tl))) (ha : a = ⟨b, 2 * k, none⟩) (ho : k < 5) (hk : Ok I H (keys (CF g q mq b cP e (lkz k la) gar tl)) → wp Try.prog K L (own A (CF g q mq b cP e (lkz k la) gar tl) H) R) :
    wp Try.prog (.stA a [(.int .i64 0), (.int .i64 0)] K) L (own A (CF g q mq b cP e la gar tl) H) R := by
  obtain ⟨p, o1⟩ := own_perm (A := A) (l' := laO b la :: (g.bl q mq e ++ (cP :: (gar ++ tl)))) ok (perm_by fun c d c0 cd ca => by
    show c ((g.bl q mq e ++ (laO b la :: cP :: gar)) ++ tl) = _
    simp only [List.cons_append, cd, ca]; omega)
  rw [p]
  refine w_stA 0 hA o1 ha rfl rfl (by rw [arrC_len]; exact decide_eq_true (by show 2 * k + 2 ≤ 10; omega)) ?_
  have s1 : ((arrC 10 fun i => Value.int .i64 (la i)).set (2 * k) (.int .i64 0)).set (2 * k + 1) (.int .i64 0) = arrC 10 fun i => .int .i64 (lkz k la i) := by
    rw [arrC_set, arrC_set]; congr 1; funext j; unfold lkz updF; split
    · rfl
    · split <;> rfl
  show wp Try.prog _ L (own A ((b, oc ty_a5_a2_int (((arrC 10 fun i => Value.int .i64 (la i)).set (2 * k) (.int .i64 0)).set (2 * k + 1) (.int .i64 0))) :: (g.bl q mq e ++ (cP :: (gar ++ tl)))) H) R
  rw [s1]
  have o1 : Ok I H (keys (laO b (lkz k la) :: (g.bl q mq e ++ (cP :: (gar ++ tl))))) := o1
  obtain ⟨p2, o2⟩ := own_perm (A := A) (l' := CF g q mq b cP e (lkz k la) gar tl) o1 (perm_by fun c d c0 cd ca => by
    show _ = c ((g.bl q mq e ++ (laO b (lkz k la) :: cP :: gar)) ++ tl)
    simp only [List.cons_append, cd, ca]; omega)
  show wp Try.prog _ L (own A (laO b (lkz k la) :: (g.bl q mq e ++ (cP :: (gar ++ tl)))) H) R
  rw [p2]
  exact hk o2

structure GBc (g : Gd) (x27 x30 i : Int) (p2 : Bool) : Prop where
  w5 : g.w ≤ 5
  ew : w64 (1 + x27) = g.w
  et : w64 (1 + x30) = g.th
  th : 1 ≤ g.th ∧ g.th ≤ 8
  ep : p2 = g.ep
  ib : 0 ≤ i ∧ i < 80
  pl : g.pl = plOf g.w 960

theorem gb_J6' (E : GS I H g q mq b cP A S l e hs la la s gar tl) (G : GBc g x27 x30 i p2) (hu : A.uses ≤ 100 + 1600 * i + 1600) (ll : ∀ k, ((l k).length : Int) ≤ i + 1) (hl : (hs.length : Int) ≤ i + 1) (ag : GBAg L R I H g q mq b cP i) {w : Int} :
    wp Try.prog (t_magpielaw14_GuardBounds_J6 p2 x27 x30 (aI I, p, some ⟨q, 0, none⟩, ()) ⟨b, 0, none⟩ (c, s, i, ()) w) L (own A (CF g q mq b cP e la gar tl) H) R := by
  have ib := G.ib
  refine gb_J6 E G.w5 G.ew G.et G.th G.ep fun c => ?_
  rw [show w64 (i + 1) = i + 1 from w64_in (by omega) (by omega)]
  exact ag c A S l e hs la s gar tl E (by omega) ll hl

/-- A slot more, perhaps. -/
theorem gb_J7 (E : GS I H g q mq b cP A S l e hs la la s gar tl) (G : GBc g x27 x30 i p2) (hw : (who : Int) < g.w) (hu : A.uses ≤ 100 + 1600 * i) (ll : ∀ k, ((l k).length : Int) ≤ i) (hl : (hs.length : Int) ≤ i) (ag : GBAg L R I H g q mq b cP i) :
    wp Try.prog (.call f_magpielaw14_one [.pointer (aI I), (plOf g.w 960).val, .int .i64 (who : Int)] (.one (.leaf (.int .i64))) fun x82 => t_magpielaw14_GuardBounds_J7 p2 x27 x30 (aI I, p, some ⟨q, 0, none⟩, ()) ⟨b, 0, none⟩ (c, s, i, ()) (who : Int) x82) L (own A (CF g q mq b cP e la gar tl) H) R := by
  have ib := G.ib
  have w5 := G.w5
  have thb := G.th
  have wb := E.c.gi.wb
  refine GS.one E G.pl (by omega) ⟨by omega, hw⟩ (by omega) fun B S' h gar' C ok hB us => ?_
  unfold t_magpielaw14_GuardBounds_J7
  by_cases h0 : h = 0
  · rw [if_pos h0] at C
    refine wp_false (ibnf h0) ?_
    exact gb_J6' ⟨hB, ok, E.gs, C, E.sl⟩ G (by omega) (fun k => by have := ll k; omega) (by omega) ag
  · rw [if_neg h0] at C
    refine wp_true (ibne h0) ?_
    have ok' : Ok I H (keys ((g.bl q mq e ++ (laO b la :: cP :: gar')) ++ tl)) := ok
    show wp Try.prog _ L (own B ((g.bl q mq e ++ (laO b la :: cP :: gar')) ++ tl) H) R
    refine w_app1 hB ok' E.sl (by omega) fun s' tl' hs' ok2 _ => ?_
    have ok2 : Ok I H (keys (CF g q mq b cP e la gar' tl')) := ok2
    have E2 : GS I H g q mq b cP B S' l e (hs ++ [h]) la la s' gar' tl' := ⟨hB, ok2, E.gs, C, hs'⟩
    have eb : w64 (w64 (1 + x30) + w64 (w64 (1 + x27) * 2)) = g.th + 2 * g.w := by rw [G.et, G.ew, w64_in (x := g.w * 2) (by omega) (by omega), w64_in (by omega) (by omega)]; omega
    have fin : wp Try.prog (.loop 2561 t_magpielaw14_GuardBounds_L2_sh [(.bool c), (.int .i64 0)] (t_magpielaw14_GuardBounds_L2 x27 (aI I, p, some ⟨q, 0, none⟩, ()) ⟨b, 0, none⟩ (c, s, i, ()) s')) L (own B (CF g q mq b cP e la gar' tl') H) R := by
      refine gb_L2 E2 w5 G.ew fun c => ?_
      rw [show w64 (i + 1) = i + 1 from w64_in (by omega) (by omega)]
      exact ag c B S' l e (hs ++ [h]) la s' gar' tl' E2 (by omega) (fun k => by have := ll k; omega) (by rw [List.length_append]; show ((hs.length + 1 : Nat) : Int) ≤ _; omega)
    show wp Try.prog _ L (own B (CF g q mq b cP e la gar' tl') H) R
    refine GS.left (k := (who : Int)) E2 ?_
    rw [eb]
    by_cases h : ((l (who : Int)).length : Int) > g.th + 2 * g.w
    · refine wp_true (decide_eq_true h) ?_
      cases he : g.ep with
      | false => have := E2.c.lb he (who : Int); omega
      | true =>
        rw [G.ep, he]
        exact wp_false rfl fin
    · exact wp_false (decide_eq_false h) fin

/-- Nothing is done. -/
theorem gb_none (E : GS I H g q mq b cP A S l e hs la la s gar tl) (G : GBc g x27 x30 i p2) (hu : A.uses ≤ 100 + 1600 * i) (ll : ∀ k, ((l k).length : Int) ≤ i) (hl : (hs.length : Int) ≤ i) (ag : GBAg L R I H g q mq b cP i) :
    wp Try.prog (.again 514 [(.bool c), (.slice s.a s.len s.cap), (.int .i64 (w64 (i + 1)))]) L (own A (CF g q mq b cP e la gar tl) H) R := by
  have ib := G.ib
  rw [show w64 (i + 1) = i + 1 from w64_in (by omega) (by omega)]
  exact ag c A S l e hs la s gar tl E (by omega) (fun k => by have := ll k; omega) (by omega)

/-- One of those that are held is retired. -/
theorem gb_J14 (v0 : 0 ≤ v ∧ v < 1048576) (E : GS I H g q mq b cP A S l e hs la la s gar tl) (G : GBc g x27 x30 i p2) (hw : (who : Int) < g.w) (hu : A.uses ≤ 100 + 1600 * i) (ll : ∀ k, ((l k).length : Int) ≤ i) (hl : (hs.length : Int) ≤ i) (ag : GBAg L R I H g q mq b cP i) :
    wp Try.prog (t_magpielaw14_GuardBounds_J14 p2 x27 x30 (aI I, p, some ⟨q, 0, none⟩, ()) ⟨b, 0, none⟩ (c, s, i, ()) v (who : Int)) L (own A (CF g q mq b cP e la gar tl) H) R := by
  unfold t_magpielaw14_GuardBounds_J14
  have ib := G.ib
  have w5 := G.w5
  have thb := G.th
  have wb := E.c.gi.wb
  have sl := E.sl.len
  by_cases h0 : ((s.len : Nat) : Int) = 0
  · exact wp_true (ibeq h0) (gb_none E G hu ll hl ag)
  refine wp_false (ibef h0) ?_
  rw [show w64 (Int.tdiv v 64) = v / 64 by rw [Int.tdiv_eq_ediv_of_nonneg v0.1, w64_in (by omega) (by omega)]]
  have lp : (1 : Int) ≤ ((s.len : Nat) : Int) := by omega
  have vp : 0 ≤ v / 64 := by omega
  have n0 := Int.emod_nonneg (v / 64) (b := ((s.len : Nat) : Int)) (by omega)
  have n1 := Int.emod_lt_of_pos (v / 64) (b := ((s.len : Nat) : Int)) (by omega)
  obtain ⟨n, hn⟩ : ∃ n, n = v / 64 % ((s.len : Nat) : Int) := ⟨_, rfl⟩
  refine w_rem vp lp ?_
  rw [← hn] at n0 n1 ⊢
  have ok : Ok I H (keys ((g.bl q mq e ++ (laO b la :: cP :: gar)) ++ tl)) := E.ok
  refine w_rdI E.aw ok (E.sl.mono fun p hp => List.mem_append_right _ hp) n0 (by omega) ?_
  refine w_rem vp lp ?_
  rw [← hn]
  have nl : n.toNat < hs.length := by omega
  obtain ⟨o1, o2, o3, o4⟩ := cut_out E.c.nd nl
  refine w_remove2 E.aw ok E.sl vp hn (by omega) (by omega) fun s' tl' hs' ok' hk => ?_
  have ok' : Ok I H (keys (CF g q mq b cP e la gar tl')) := ok'
  show wp Try.prog _ L (own A (CF g q mq b cP e la gar tl') H) R
  refine GS.retire E ok' hs' (by omega) ⟨by omega, hw⟩ o4 (by have := ll (who : Int); omega) thb.1 o1 o2 o3 fun B l' S' e' gar' E2 us ls => ?_
  refine wp_false rfl ?_
  have eb : w64 (w64 (1 + x30) + w64 (w64 (1 + x27) * 2)) = g.th + 2 * g.w := by rw [G.et, G.ew, w64_in (x := g.w * 2) (by omega) (by omega), w64_in (by omega) (by omega)]; omega
  have fin : wp Try.prog (.loop 2561 t_magpielaw14_GuardBounds_L10_sh [(.bool c), (.int .i64 0)] (t_magpielaw14_GuardBounds_L10 x27 (aI I, p, some ⟨q, 0, none⟩, ()) ⟨b, 0, none⟩ (c, s, i, ()) s')) L (own B (CF g q mq b cP e' la gar' tl') H) R := by
    refine gb_L10 E2 w5 G.ew fun c => ?_
    rw [show w64 (i + 1) = i + 1 from w64_in (by omega) (by omega)]
    exact ag c B S' l' e' _ la s' gar' tl' E2 (by omega) (fun k => by have := ll k; have := ls k; omega) (by omega)
  refine GS.left (k := (who : Int)) E2 ?_
  rw [eb]
  by_cases h : ((l' (who : Int)).length : Int) > g.th + 2 * g.w
  · refine wp_true (decide_eq_true h) ?_
    cases he : g.ep with
    | false => have := E2.c.lb he (who : Int); omega
    | true =>
      rw [G.ep, he]
      exact wp_false rfl fin
  · exact wp_false (decide_eq_false h) fin

/-- Looked at, or left, or forced. -/
theorem gb_J19 (v0 : 0 ≤ v ∧ v < 1048576) (E : GS I H g q mq b cP A S l e hs la la s gar tl) (G : GBc g x27 x30 i p2) (hw : (who : Int) < g.w) (hu : A.uses ≤ 100 + 1600 * i) (ll : ∀ k, ((l k).length : Int) ≤ i) (hl : (hs.length : Int) ≤ i) (ag : GBAg L R I H g q mq b cP i) :
    wp Try.prog (t_magpielaw14_GuardBounds_J19 p2 x27 x30 (aI I, p, some ⟨q, 0, none⟩, ()) ⟨b, 0, none⟩ (c, s, i, ()) v (who : Int)) L (own A (CF g q mq b cP e la gar tl) H) R := by
  unfold t_magpielaw14_GuardBounds_J19
  have ib := G.ib
  have w5 := G.w5
  have thb := G.th
  have wb := E.c.gi.wb
  have sl := E.sl.len
  rw [show w64 (Int.tdiv v 64) = v / 64 by rw [Int.tdiv_eq_ediv_of_nonneg v0.1, w64_in (by omega) (by omega)], show Int.tmod (v / 64) 2 = v / 64 % 2 from Int.tmod_eq_emod_of_nonneg (by omega)]
  by_cases h5 : Int.tmod v 8 = 5
  · refine wp_true (ibeq h5) ?_
    by_cases h0 : ((s.len : Nat) : Int) = 0
    · exact wp_true (ibeq h0) (gb_none E G hu ll hl ag)
    refine wp_false (ibef h0) ?_
    refine w_ix2 (show (0 : Int) ≤ (who : Int) by omega) (show (who : Int) < 5 by omega) ?_
    have ea0 : 0 + ((who : Int)).toNat * 2 = 2 * who := by rw [Int.toNat_natCast]; omega
    refine w_ldla (o := 2 * who) E.aw E.ok (by rw [ea0]) (by omega) ?_
    by_cases l0 : la (2 * who) = 0
    rotate_left
    · exact wp_true (ibne l0) (gb_none E G hu ll hl ag)
    refine wp_false (ibnf l0) ?_
    refine w_ix2 (show (0 : Int) ≤ (who : Int) by omega) (show (who : Int) < 5 by omega) ?_
    refine w_ldla (o := 2 * who + 1) E.aw E.ok (by rw [ea0]; rfl) (by omega) ?_
    by_cases l1 : la (2 * who + 1) = 0
    rotate_left
    · exact wp_true (ibne l1) (gb_none E G hu ll hl ag)
    refine wp_false (ibnf l1) ?_
    have lp : (1 : Int) ≤ ((s.len : Nat) : Int) := by omega
    have vp : 0 ≤ v / 64 := by omega
    have n0 := Int.emod_nonneg (v / 64) (b := ((s.len : Nat) : Int)) (by omega)
    have n1 := Int.emod_lt_of_pos (v / 64) (b := ((s.len : Nat) : Int)) (by omega)
    obtain ⟨n, hn⟩ : ∃ n, n = v / 64 % ((s.len : Nat) : Int) := ⟨_, rfl⟩
    obtain ⟨n2, hn2⟩ : ∃ n2 : Nat, v / 64 % 2 = (n2 : Int) := ⟨(v / 64 % 2).toNat, by omega⟩
    rw [← hn] at n0 n1
    have nl : n.toNat < hs.length := by omega
    have hv := (cut_out E.c.nd nl).2.2.2
    rw [hn2]
    have nb : n2 < 2 := by omega
    refine GS.enter (k := who) (n := n2) E (by omega) hw nb hv l0 l1 fun B gar' E1 us1 => ?_
    refine wp_false rfl ?_
    refine w_rem vp lp ?_
    rw [← hn]
    have ok1 : Ok I H (keys ((g.bl q mq e ++ (laO b la :: cP :: gar')) ++ tl)) := E1.ok
    refine w_rdI E1.aw ok1 (E1.sl.mono fun p hp => List.mem_append_right _ hp) n0 (by omega) ?_
    refine GS.protect (k := who) (n := n2) (v := hs.getD n.toNat 0) E1 (by omega) hw nb hv fun B2 gar2 E2 us2 => ?_
    refine wp_false rfl ?_
    refine w_rem vp lp ?_
    rw [← hn]
    have ok2 : Ok I H (keys ((g.bl q mq e ++ (laO b la :: cP :: gar2)) ++ tl)) := E2.ok
    refine w_rdI E2.aw ok2 (E2.sl.mono fun p hp => List.mem_append_right _ hp) n0 (by omega) ?_
    refine w_ix2 (show (0 : Int) ≤ (who : Int) by omega) (show (who : Int) < 5 by omega) ?_
    refine w_ix2b (show (0 : Int) ≤ (n2 : Int) by omega) (show (n2 : Int) < 2 by omega) ?_
    refine w_stla (o := 2 * who + n2) E2.aw E2.ok (by rw [ea0, Int.toNat_natCast]) (by omega) fun ok3 => ?_
    exact gb_J6' ⟨E2.aw, ok3, E2.gs, E2.c, E2.sl⟩ G (by omega) (fun k => by have := ll k; omega) (by omega) ag
  refine wp_false (ibef h5) ?_
  by_cases h6 : Int.tmod v 8 = 6
  · refine wp_true (ibeq h6) ?_
    refine GS.leave (k := who) E (by omega) hw fun B gar' E1 us _ _ _ _ => ?_
    refine wp_false rfl ?_
    refine w_ix2 (show (0 : Int) ≤ (who : Int) by omega) (show (who : Int) < 5 by omega) ?_
    refine w_stla2 (k := who) E1.aw E1.ok (by rw [Int.toNat_natCast, Nat.zero_add, Nat.mul_comm]) (by omega) fun ok3 => ?_
    exact gb_J6' ⟨E1.aw, ok3, E1.gs, E1.c, E1.sl⟩ G (by omega) (fun k => by have := ll k; omega) (by omega) ag
  · refine wp_false (ibef h6) ?_
    refine GS.force (k := (who : Int)) E (by omega) ⟨by omega, hw⟩ (by have := ll (who : Int); omega) fun B l' S' e' gar' E1 us ls _ => ?_
    refine wp_false rfl ?_
    exact gb_J6' E1 G (by omega) (fun k => by have := ll k; have := ls k; omega) (by omega) ag
end

set_option maxHeartbeats 1000000 in
theorem GuardBounds_det (p0 p1 : Int) (p2 : Bool) (z : Sl) (zs : List Int) (H : Heap) (hz : RowOf H z.a z.len zs) : Det Try.prog f_magpielaw14_GuardBounds [.int .i64 p0, .int .i64 p1, .bool p2, .slice z.a z.len z.cap] H (.bool true) H := by
  refine t_magpielaw14_GuardBounds_spec (p3 := z) fun L => ?_
  unfold t_magpielaw14_GuardBounds
  refine w_Place (by decide) (by decide) ?_
  have a0 := Int.emod_nonneg p0 (b := 5) (by decide)
  have a1 := Int.emod_lt_of_pos p0 (b := 5) (by decide)
  generalize p0 % 5 = x27 at *
  refine w_Place (by decide) (by decide) ?_
  have c0 := Int.emod_nonneg p1 (b := 8) (by decide)
  have c1 := Int.emod_lt_of_pos p1 (b := 8) (by decide)
  generalize p1 % 8 = x30 at *
  obtain ⟨w, ew⟩ : ∃ w, w = 1 + x27 := ⟨_, rfl⟩
  obtain ⟨th, eth⟩ : ∃ th, th = 1 + x30 := ⟨_, rfl⟩
  have e1 : w64 (1 + x27) = w := by rw [ew]; exact w64_in (by omega) (by omega)
  have e2 : w64 (1 + x30) = th := by rw [eth]; exact w64_in (by omega) (by omega)
  rw [e1, e2]
  refine wp_call_of (gmake_spec p2 w 120 th (by omega) (by decide) H) ?_
  rintro v K ⟨A, q, mq, rfl, rfl, hI, ok, E, r0, u0, nl, nr⟩
  refine ⟨(aI A.ids, (w, 0, 4 * w, 4 * w + (8 * 120 + 7) / 8, 4 * w + 2 * ((8 * 120 + 7) / 8), ()), some ⟨q, 0, none⟩, ()), rfl, ?_⟩
  have hA := E.aw
  refine w_newP hA ok fun x12 ok1 => ?_
  refine w_stA 0 hA ok1 rfl rfl rfl rfl ?_
  refine look_val (x := false) (np_some _) (wp_false rfl ?_)
  refine look_val (x := false) (npGd _) (wp_false rfl ?_)
  have GI0 : GI A (gdOf p2 w 120 th) 960 S0g fun _ => [] := E.gi (th := th) r0 u0 nl nr
  obtain ⟨g, hg⟩ : ∃ g, g = gdOf p2 w 120 th := ⟨_, rfl⟩
  have gep : p2 = g.ep := by rw [hg]; rfl
  have gta : g.ta = g.pl.carved + 1 := by rw [hg]; show 4 * w + 2 * 120 + 1 = 4 * w + 2 * ((8 * 120 + 7) / 8) + 1; omega
  have gw : g.w = w := by rw [hg]; rfl
  have gpl : g.pl = plOf w 960 := by rw [hg]; rfl
  have gth : g.th = th := by
    rw [hg]; show imax 1 (imin th 64) = th
    unfold imax imin; split <;> split <;> omega
  have ok1 : Ok A.ids H (keys ((x12, oc ty_free_Place (plCells (plOf w 960))) :: (gdOf p2 w 120 th).bl q mq [])) := ok1
  show wp Try.prog _ L (own A ((x12, oc ty_free_Place (plCells (plOf w 960))) :: (gdOf p2 w 120 th).bl q mq []) H) _
  rw [← hg] at ok1 GI0 ⊢
  clear hg E
  subst gw
  obtain ⟨cP, hcP⟩ : ∃ cP : Nat × Obj, cP = (x12, oc ty_free_Place (plCells (plOf g.w 960))) := ⟨_, rfl⟩
  rw [← hcP] at ok1 ⊢
  refine w_newP (c := arrC 10 fun i => .int .i64 ((fun _ => 0 : Nat → Int) i)) hA ok1 fun x14 ok2 => ?_
  have ok2 : Ok A.ids H (keys (laO x14 (fun _ => 0) :: cP :: g.bl q mq [])) := ok2
  show wp Try.prog _ L (own A (laO x14 (fun _ => 0) :: cP :: g.bl q mq []) H) _
  obtain ⟨pp, ok3⟩ := own_perm (A := A) (l' := CF g q mq x14 cP [] (fun _ => 0) [] []) ok2 (perm_by fun c d c0 cd ca => by
    show _ = c ((g.bl q mq [] ++ (laO x14 (fun _ => 0) :: cP :: [])) ++ [])
    simp only [cd, ca, c0]; omega)
  rw [pp]
  have wb := GI0.wb
  have GC0 : GC A g S0g (fun _ => []) [] (fun _ => 0) := ⟨GI0, .nil, fun _ h => (by cases h), nl, fun _ _ => (by show ((0 : Nat) : Int) ≤ _; omega), fun _ i _ => ⟨r0 _, fun h => (h rfl).elim⟩, fun _ _ _ _ => ⟨rfl, rfl⟩, fun _ _ _ h => (h (r0 _)).elim, fun j _ => r0 j⟩
  have E0 : GS A.ids H g q mq x14 cP A S0g (fun _ => []) [] [] (fun _ => 0) (fun _ => 0) ⟨none, 0, 0⟩ [] [] := ⟨hA, ok3, gd0, GC0, .inl ⟨rfl, rfl⟩⟩
  generalize hI0 : A.ids = I at *
  refine wl_bsi (fun _ s i K => 0 ≤ i ∧ i ≤ 80 ∧ ∃ A S l e hs la gar tl, GS I H g q mq x14 cP A S l e hs la la s gar tl ∧ A.uses ≤ 100 + 1600 * i ∧ (∀ k, ((l k).length : Int) ≤ i) ∧ (hs.length : Int) ≤ i ∧ K = own A (CF g q mq x14 cP e la gar tl) H) (fun _ _ i => (80 - i).toNat) false ⟨none, 0, 0⟩ 0 ⟨Int.le_refl 0, by decide, A, S0g, _, [], [], _, [], [], E0, by omega, fun _ => Int.le_refl 0, Int.le_refl 0, rfl⟩ ?_
  clear E0 GC0 GI0 ok3 pp
  rintro y s i K ⟨i0, i1, B, S, l, e, hs, la, gar, tl, E, hu, ll, hl, rfl⟩
  rw [t_magpielaw14_GuardBounds_L1]
  have hend : ∀ L : Hands, wp Try.prog (.loop 3072 t_magpielaw14_GuardBounds_L122_sh [(.bool y), (.int .i64 0)] (t_magpielaw14_GuardBounds_L122 x27 (aI I, (g.w, 0, 4 * g.w, 4 * g.w + (8 * 120 + 7) / 8, 4 * g.w + 2 * ((8 * 120 + 7) / 8), ()), some ⟨q, 0, none⟩, ()) (y, s, i, ()))) L (own B (CF g q mq x14 cP e la gar tl) H) fun u K => u = .bool true ∧ K = H := fun L =>
    gb_end hI E (by omega) gta e1 (by omega) (fun k => by have := ll k; omega) (by omega) ⟨rfl, rfl⟩
  by_cases k1 : i < ((z.len : Nat) : Int)
  case neg => exact wp_false (decide_eq_false k1) (hend _)
  refine wp_true (decide_eq_true k1) ?_
  by_cases k2 : i < 80
  case neg => exact wp_false (decide_eq_false k2) (hend _)
  refine wp_true (decide_eq_true k2) ?_
  refine wp_row hz (own_end E.aw E.ok hI) i0 k1 ?_
  refine w_Place (by decide) (by decide) ?_
  have v0 := Int.emod_nonneg (zs.getD i.toNat 0) (b := 1048576) (by decide)
  have v1 := Int.emod_lt_of_pos (zs.getD i.toNat 0) (b := 1048576) (by decide)
  generalize zs.getD i.toNat 0 % 1048576 = v at *
  rw [show w64 (Int.tdiv v 8) = v / 8 by rw [Int.tdiv_eq_ediv_of_nonneg v0, w64_in (by omega) (by omega)], e1]
  refine w_rem (by omega) (by omega) ?_
  have w0 := Int.emod_nonneg (v / 8) (b := g.w) (by omega)
  have w1 := Int.emod_lt_of_pos (v / 8) (b := g.w) (by omega)
  obtain ⟨who, hwho⟩ : ∃ who : Nat, v / 8 % g.w = (who : Int) := ⟨(v / 8 % g.w).toNat, by omega⟩
  rw [hwho] at w0 w1 ⊢
  have G : GBc g x27 x30 i p2 := ⟨by omega, e1, by rw [e2, gth], by omega, gep, ⟨i0, k2⟩, gpl⟩
  have ag : GBAg (L.set 514 fun vals H'' => ∃ (y0 : Bool) (y1 : Sl) (y2 : Int), vals = [.bool y0, .slice y1.a y1.len y1.cap, .int .i64 y2] ∧ (0 ≤ y2 ∧ y2 ≤ 80 ∧ ∃ A S l e hs la gar tl, GS I H g q mq x14 cP A S l e hs la la y1 gar tl ∧ A.uses ≤ 100 + 1600 * y2 ∧ (∀ k, ((l k).length : Int) ≤ y2) ∧ (hs.length : Int) ≤ y2 ∧ H'' = own A (CF g q mq x14 cP e la gar tl) H) ∧ (80 - y2).toNat < (80 - i).toNat) (fun u K => u = .bool true ∧ K = H) I H g q mq x14 cP i := fun c A S l e hs la s gar tl E hu ll hl =>
    wp_again ⟨c, s, i + 1, rfl, ⟨by omega, by omega, A, S, l, e, hs, la, gar, tl, E, hu, ll, hl, rfl⟩, by omega⟩
  have mcP : cP ∈ CF g q mq x14 cP e la gar tl := List.mem_append_left _ (List.mem_append_right _ (List.mem_cons_of_mem _ List.mem_cons_self))
  obtain ⟨ix, hix⟩ := mem_idx mcP
  have hix : (CF g q mq x14 cP e la gar tl)[ix]? = some (x12, oc ty_free_Place (plCells (plOf g.w 960))) := by rw [hix, hcP]
  by_cases t0 : Int.tmod v 8 = 0
  · refine wp_true (ibeq t0) (wp_true (ibeq t0) ?_)
    refine w_ldA (x := (g.w, 0, 4 * g.w, 4 * g.w + (960 + 7) / 8, 4 * g.w + 2 * ((960 + 7) / 8), ())) ix E.aw E.ok rfl hix rfl ?_
    exact gb_J7 E G w1 hu ll hl ag
  refine wp_false (ibef t0) ?_
  by_cases t1 : Int.tmod v 8 = 1
  · refine wp_true (ibeq t1) (wp_true (ibeq t1) ?_)
    refine w_ldA (x := (g.w, 0, 4 * g.w, 4 * g.w + (960 + 7) / 8, 4 * g.w + 2 * ((960 + 7) / 8), ())) ix E.aw E.ok rfl hix rfl ?_
    exact gb_J7 E G w1 hu ll hl ag
  refine wp_false (ibef t1) ?_
  by_cases t2 : Int.tmod v 8 = 2
  · refine wp_true (ibeq t2) ?_
    refine w_ldA (x := (g.w, 0, 4 * g.w, 4 * g.w + (960 + 7) / 8, 4 * g.w + 2 * ((960 + 7) / 8), ())) ix E.aw E.ok rfl hix rfl ?_
    exact gb_J7 E G w1 hu ll hl ag
  refine wp_false (ibef t2) ?_
  unfold t_magpielaw14_GuardBounds_J20
  by_cases t3 : Int.tmod v 8 = 3
  · exact wp_true (ibeq t3) (wp_true (ibeq t3) (gb_J14 ⟨v0, v1⟩ E G w1 hu ll hl ag))
  refine wp_false (ibef t3) ?_
  by_cases t4 : Int.tmod v 8 = 4
  · exact wp_true (ibeq t4) (gb_J14 ⟨v0, v1⟩ E G w1 hu ll hl ag)
  · exact wp_false (ibef t4) (gb_J19 ⟨v0, v1⟩ E G w1 hu ll hl ag)
end Go.Proofs.Ytcjhakdopnamoaa

