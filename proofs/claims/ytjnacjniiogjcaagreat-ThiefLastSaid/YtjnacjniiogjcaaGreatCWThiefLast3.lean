/- Texts of this claim, one behind the other. -/
import Derived.Test.YtjnacjniiogjcaaGreatCWThiefLast2
set_option linter.unusedSimpArgs false
set_option linter.unusedVariables false
set_option maxRecDepth 20000
namespace Go.Proofs.YtjnacjniiogjcaaGreat
open Go Go.Fw
def gwords (ep : Bool) (w : Int) : Int := bif ep then 1 + w else 2 * w
def totR (ls : Int → List (Int × Int)) : Nat → Int
  | 0 => 0
  | n + 1 => totR ls n + szs ((ls (n : Int)).map Prod.fst)
theorem totR_nn (ls : Int → List (Int × Int)) : ∀ n, 0 ≤ totR ls n
  | 0 => Int.le_refl 0
  | n + 1 => by have := totR_nn ls n; have := szs_nn ((ls (n : Int)).map Prod.fst); show 0 ≤ totR ls n + _; omega
theorem totR_out {ls : Int → List (Int × Int)} {k : Int} {xs : List (Int × Int)} : ∀ {n : Nat}, (n : Int) ≤ k → totR (setL ls k xs) n = totR ls n
  | 0, _ => rfl
  | n + 1, h => by
    show totR (setL ls k xs) n + szs ((setL ls k xs (n : Int)).map Prod.fst) = totR ls n + _
    rw [totR_out (n := n) (by omega), setL_ne ls xs (show (n : Int) ≠ k by omega)]
theorem totR_set {ls : Int → List (Int × Int)} {k : Int} {xs : List (Int × Int)} (h0 : 0 ≤ k) : ∀ {n : Nat}, k < n → totR (setL ls k xs) n = totR ls n - szs ((ls k).map Prod.fst) + szs (xs.map Prod.fst)
  | 0, h => by omega
  | n + 1, h => by
    show totR (setL ls k xs) n + szs ((setL ls k xs (n : Int)).map Prod.fst) = totR ls n + szs ((ls (n : Int)).map Prod.fst) - _ + _
    by_cases e : (n : Int) = k
    · rw [totR_out (by omega), e, setL_same]; omega
    · rw [totR_set h0 (n := n) (by omega), setL_ne ls xs e]; omega
theorem totR_le {ls : Int → List (Int × Int)} {k : Int} (h0 : 0 ≤ k) : ∀ {n : Nat}, k < n → szs ((ls k).map Prod.fst) ≤ totR ls n
  | 0, h => by omega
  | n + 1, h => by
    have a := totR_nn ls n
    have b := szs_nn ((ls (n : Int)).map Prod.fst)
    show _ ≤ totR ls n + szs ((ls (n : Int)).map Prod.fst)
    by_cases e : (n : Int) = k
    · rw [e] at b ⊢; omega
    · have := totR_le (ls := ls) h0 (n := n) (by omega); omega
theorem setL_setL (f : Int → List (Int × Int)) (k : Int) (xs ys : List (Int × Int)) : setL (setL f k xs) k ys = setL f k ys := by
  funext i; unfold setL; split <;> rfl
structure GI (A : Ar) (g : Gd) (m : Int) (S : Sg) (l : Int → List (Int × Int)) : Prop where
  wf : A.wf
  sl : SL A g.pl g.w m S
  fa : A.fault = false
  ta : g.pl.carved < g.ta
  wb : 1 ≤ g.w ∧ g.w ≤ 100
  rl : g.ta + gwords g.ep g.w ≤ A.raw.length
  rb : (A.raw.length : Int) ≤ 1000000
  st : ∀ k x, x ∈ l k → A.stF x.1 = 2
  nd : ∀ k, ((l k).map Prod.fst).Nodup
  dj : ∀ k j x y, x ∈ l k → y ∈ l j → x.1 = y.1 → k = j
  rg : ∀ k, l k ≠ [] → 0 ≤ k ∧ k < g.w
  nR : A.nR = totR l g.w.toNat
  l0 : 0 ≤ A.nL
  nu : A.nL + A.nR ≤ 64 * A.uses
  ze : g.ep = false → ∀ k x, x ∈ l k → x.2 = 0
  eb : g.ep = true → 0 ≤ A.rawF g.ta ∧ A.rawF g.ta ≤ A.uses
  es : g.ep = true → ∀ k x, x ∈ l k → 0 ≤ x.2 ∧ x.2 ≤ A.rawF g.ta
structure Lkd (A : Ar) (g : Gd) (m : Int) (S : Sg) (l : Int → List (Int × Int)) (k : Int) (keep : Int × Int → Bool) (hs : List Int) (t : Nat) (A' : Ar) : Prop where
  pm : hs.Perm (((l k).filter fun x => !keep x).map Prod.fst)
  wf : A'.wf
  al : Ar.Alike A A'
  wd : A'.words = A.words
  fa : A'.fault = A.fault
  fr : A'.fresh = A.fresh
  rl : A'.raw.length = A.raw.length
  sl : SL A' g.pl g.w m (frS k S hs)
  st : ∀ j, A'.stF j = if j ∈ hs then 0 else A.stF j
  nL : A'.nL = A.nL
  nR : A'.nR = A.nR - szs hs
  rw : ∀ i, g.pl.carved < i → i ≠ g.ta → A'.rawF i = A.rawF i
  us : A.uses ≤ A'.uses ∧ A'.uses ≤ A.uses + 202 * t + 3 * ((l k).length - ((l k).filter keep).length)
  ha : g.ep = false → A'.rawF g.ta = A.rawF g.ta ∧ ∀ x, keep x = true ↔ ∃ i : Nat, (i : Int) < 2 * g.w ∧ A.rawF (g.ta + i) = x.1
  ep : g.ep = true → A.rawF g.ta ≤ A'.rawF g.ta ∧ A'.rawF g.ta ≤ A.rawF g.ta + t ∧ A'.rawF g.ta ≤ A'.uses ∧ keep = fun x => !due (A'.rawF g.ta) x
  free : g.ep = true → (∀ i : Nat, (i : Int) < g.w → A.rawF (g.ta + 1 + i) = 0) → A'.rawF g.ta = A.rawF g.ta + t
  held : g.ep = true → ∀ (i : Nat) (v : Int), (i : Int) < g.w → A.rawF (g.ta + 1 + i) = v + 1 → 0 ≤ v → A.rawF g.ta ≤ v + 1 → A'.rawF g.ta ≤ v + 1
section
variable {A B C : Ar} {g : Gd} {m : Int} {S : Sg} {l : Int → List (Int × Int)} {k h : Int}
theorem len_keep (xs : List (Int × Int)) (q : Int × Int → Bool) : (xs.filter q).length + (xs.filter fun x => !q x).length = xs.length := by
  induction xs with
  | nil => rfl
  | cons x xs ih => rw [List.filter_cons, List.filter_cons]; cases q x <;> simp <;> omega
theorem Lkd.gone {keep : Int × Int → Bool} {hs : List Int} {t : Nat} (L : Lkd A g m S l k keep hs t B) {j : Int} : j ∈ hs ↔ ∃ x ∈ l k, keep x = false ∧ x.1 = j := by
  rw [L.pm.mem_iff, List.mem_map]
  constructor
  · rintro ⟨x, hx, e⟩
    obtain ⟨a, b⟩ := List.mem_filter.1 hx
    exact ⟨x, a, by simpa using b, e⟩
  · rintro ⟨x, a, b, e⟩
    exact ⟨x, List.mem_filter.2 ⟨a, by rw [b]; rfl⟩, e⟩
theorem nodup_inj {xs : List (Int × Int)} (h : (xs.map Prod.fst).Nodup) : ∀ {x y : Int × Int}, x ∈ xs → y ∈ xs → x.1 = y.1 → x = y := by
  induction xs with
  | nil => intro x y hx; cases hx
  | cons z xs ih =>
    intro x y hx hy e
    obtain ⟨n1, n2⟩ := List.nodup_cons.1 (show (z.1 :: xs.map Prod.fst).Nodup from h)
    rcases List.mem_cons.1 hx with e1 | hx <;> rcases List.mem_cons.1 hy with e2 | hy
    · rw [e1, e2]
    · exact (n1 (List.mem_map.2 ⟨y, hy, by rw [← e, e1]⟩)).elim
    · exact (n1 (List.mem_map.2 ⟨x, hx, by rw [e, e2]⟩)).elim
    · exact ih n2 hx hy e
theorem GI.lkd (X : GI A g m S l) {keep : Int × Int → Bool} {hs : List Int} {t : Nat} (kb : 0 ≤ k ∧ k < g.w) (L : Lkd A g m S l k keep hs t B) : GI B g m (frS k S hs) (setL l k ((l k).filter keep)) := by
  have us := L.us
  have mem : ∀ {j x}, x ∈ setL l k ((l k).filter keep) j → x ∈ l j ∧ (j = k → keep x = true) := fun {j x} hx => by
    by_cases e : j = k
    · rw [e, setL_same] at hx
      obtain ⟨a, b⟩ := List.mem_filter.1 hx
      exact ⟨by rw [e]; exact a, fun _ => b⟩
    · rw [setL_ne l _ e] at hx
      exact ⟨hx, fun h => (e h).elim⟩
  have hsz : szs ((l k).map Prod.fst) = szs (((l k).filter keep).map Prod.fst) + szs hs := by
    rw [szs_perm L.pm]
    have : ∀ xs : List (Int × Int), szs (xs.map Prod.fst) = szs ((xs.filter keep).map Prod.fst) + szs ((xs.filter fun x => !keep x).map Prod.fst) := fun xs => by
      induction xs with
      | nil => rfl
      | cons x xs ih =>
        rw [List.filter_cons, List.filter_cons]
        cases keep x with
        | true => show sizeF (opC x.1) + _ = (sizeF (opC x.1) + _) + _; simp only [Bool.not_true]; simp only [Bool.false_eq_true, if_false]; omega
        | false => show sizeF (opC x.1) + _ = _ + (sizeF (opC x.1) + _); simp only [Bool.false_eq_true, if_false]; omega
    exact this _
  have tR := X.nR
  refine ⟨L.wf, L.sl, L.fa.trans X.fa, X.ta, X.wb, by rw [L.rl]; exact X.rl, by rw [L.rl]; exact X.rb, fun j x hx => ?_, fun j => ?_, fun j i x y hx hy e => X.dj j i x y (mem hx).1 (mem hy).1 e, fun j hj => ?_, ?_, by rw [L.nL]; exact X.l0, ?_, fun he j x hx => X.ze he j x (mem hx).1, fun he => ?_, fun he j x hx => ?_⟩
  · obtain ⟨a, b⟩ := mem hx
    rw [L.st, if_neg fun hm => ?_]
    · exact X.st j x a
    · obtain ⟨y, y1, y2, y3⟩ := L.gone.1 hm
      have ej := X.dj j k x y a y1 y3.symm
      subst ej
      have := nodup_inj (X.nd j) y1 a y3
      rw [this, b rfl] at y2; cases y2
  · by_cases e : j = k
    · rw [e, setL_same]; exact ((List.filter_sublist (l := l k) (p := keep)).map Prod.fst).nodup (X.nd k)
    · rw [setL_ne l _ e]; exact X.nd j
  · by_cases e : j = k
    · rw [e]; exact kb
    · rw [setL_ne l _ e] at hj; exact X.rg j hj
  · rw [L.nR, tR, totR_set kb.1 (by omega)]; omega
  · have := szs_nn hs; have := X.nu; have := L.nL; have := L.nR; omega
  · obtain ⟨e1, e2, e3, _⟩ := L.ep he
    have := X.eb he; omega
  · obtain ⟨e1, e2, e3, _⟩ := L.ep he
    have := X.es he j x (mem hx).1; omega
theorem GI.retire (X : GI A g m S l) (hu : A.uses ≤ 1000000000) (kb : 0 ≤ k ∧ k < g.w) (hs : A.stF h = 1) (hz : sizeF (opC h) ≤ A.nL) {s : Int} (hs0 : g.ep = false → s = 0) (hs1 : g.ep = true → 0 ≤ s ∧ s ≤ A.rawF g.ta) :
    GI (A.retireF h) g m S (setL l k (l k ++ [(h, s)])) ∧ (∀ j, (A.retireF h).stF j = if j = h then 2 else A.stF j) ∧ (A.retireF h).nL = A.nL - sizeF (opC h) ∧ Off 0 0 A (A.retireF h) := by
  have sz := sz_op h
  have us := X.sl.F.us
  have nu := X.nu
  have l0 := X.l0
  have r0 : 0 ≤ A.nR := by rw [X.nR]; exact totR_nn _ _
  obtain ⟨Y, yst, yL, yR⟩ := X.sl.retire hu hs ⟨by omega, by omega⟩
  have ro := Off.retireF (c := 0) X.wf h
  have ru := ro.us
  obtain ⟨p1, p2, p3, p4, p5⟩ := X.sl.places
  have wb := X.wb
  have mb := X.sl.mb
  have ta := X.ta
  have hta : (A.retireF h).rawF g.ta = A.rawF g.ta := ro.rw _ (by omega)
  have nh : ∀ j x, x ∈ l j → x.1 ≠ h := fun j x hx e => by have := X.st j x hx; rw [e, hs] at this; cases this
  have mem : ∀ {j x}, x ∈ setL l k (l k ++ [(h, s)]) j → x ∈ l j ∨ (j = k ∧ x = (h, s)) := fun {j x} hx => by
    by_cases e : j = k
    · rw [e, setL_same] at hx
      rcases List.mem_append.1 hx with hx | hx
      · exact .inl (by rw [e]; exact hx)
      · exact .inr ⟨e, by simpa using hx⟩
    · rw [setL_ne l _ e] at hx; exact .inl hx
  have tR := X.nR
  refine ⟨⟨ro.wf, Y, ro.fa.trans X.fa, X.ta, X.wb, by rw [ro.rl]; exact X.rl, by rw [ro.rl]; exact X.rb, fun j x hx => ?_, fun j => ?_, fun j i x y hx hy e => ?_, fun j hj => ?_, ?_, ?_, ?_, fun he j x hx => ?_, fun he => ?_, fun he j x hx => ?_⟩, yst, yL, ro⟩
  · rw [yst]
    rcases mem hx with hx | ⟨_, rfl⟩
    · rw [if_neg (nh j x hx)]; exact X.st j x hx
    · rw [if_pos rfl]
  · by_cases e : j = k
    · rw [e, setL_same, List.map_append]
      refine List.nodup_append.2 ⟨X.nd k, by simp, fun a ha b hb e => ?_⟩
      obtain ⟨x, hx, rfl⟩ := List.mem_map.1 ha
      have hb : b = h := by simpa using hb
      exact nh k x hx (e.trans hb)
    · rw [setL_ne l _ e]; exact X.nd j
  · rcases mem hx with hx | ⟨ej, rfl⟩ <;> rcases mem hy with hy | ⟨ei, rfl⟩
    · exact X.dj j i x y hx hy e
    · exact (nh j x hx e).elim
    · exact (nh i y hy e.symm).elim
    · omega
  · by_cases e : j = k
    · rw [e]; exact kb
    · rw [setL_ne l _ e] at hj; exact X.rg j hj
  · rw [yR, tR, totR_set kb.1 (by omega), List.map_append, szs_append]
    show _ = _ + (_ + (sizeF (opC h) + 0)); omega
  · omega
  · omega
  · rcases mem hx with hx | ⟨_, rfl⟩
    · exact X.ze he j x hx
    · exact hs0 he
  · have := X.eb he; rw [hta, ru]; omega
  · rw [hta]
    rcases mem hx with hx | ⟨_, rfl⟩
    · exact X.es he j x hx
    · exact hs1 he
variable {q mq : Nat}
theorem tn_lift {n : Nat} {u u' : Tn} {ls : Int → List (Int × Int)} {work T : Int} (hl : (ls work).length ≤ 1000) (wb : 1 ≤ g.w ∧ g.w ≤ 1000) (h : mTn.Runs n u A u' B) (hm : u.left.length ≤ 1000) :
    (T = 0 → (mLk q mq).Runs n ⟨g, ls, work, false, T, .tn u⟩ A (Lk.end_ ⟨g, ls, work, false, T, .tn u'⟩) B) ∧ (T ≠ 0 → (mLk q mq).Path n ⟨g, ls, work, false, T, .tn u⟩ A (Lk.end_ ⟨g, ls, work, false, T, .tn u'⟩) B) := by
  have st : ∀ (m : Tn) (A : Ar) (m1 : Tn) (A1 : Ar), mTn.step m A = (m1, A1) → Lk.step ⟨g, ls, work, false, T, .tn m⟩ A = (if decide (4 ≤ m1.ph) = true then Lk.end_ ⟨g, ls, work, false, T, .tn m1⟩ else ⟨g, ls, work, false, T, .tn m1⟩, A1) := fun m A m1 A1 h => by
    have h : m.step A = (m1, A1) := h
    show (if decide (4 ≤ (m.step A).1.ph) = true then Lk.end_ ⟨g, ls, work, false, T, .tn (m.step A).1⟩ else ⟨g, ls, work, false, T, .tn (m.step A).1⟩, (m.step A).2) = _
    rw [h]
  induction h with
  | @one m A m1 A1 hi hst hu hf =>
    have hf : decide (4 ≤ m1.ph) = true := hf
    have s1 : (mLk q mq).step ⟨g, ls, work, false, T, .tn m⟩ A = (Lk.end_ ⟨g, ls, work, false, T, .tn m1⟩, A1) := (st m A m1 A1 hst).trans (by rw [if_pos hf])
    refine ⟨fun e => .one ⟨hl, fun h => (by cases h), wb, ⟨hi, hm⟩⟩ s1 hu ?_, fun e => .cons ⟨hl, fun h => (by cases h), wb, ⟨hi, hm⟩⟩ s1 hu ?_ .nil⟩
    · show (T == 0) = true; rw [e]; rfl
    · show (T == 0) = false; simpa using e
  | @more n m A m1 A1 m' A' hi hst hu hf hr ih =>
    have hf : decide (4 ≤ m1.ph) = false := hf
    have hl1 : m1.left.length ≤ 1000 := by
      have := m.left_step A hi.ll hm
      have h : m.step A = (m1, A1) := hst
      rwa [h] at this
    have s1 : (mLk q mq).step ⟨g, ls, work, false, T, .tn m⟩ A = (⟨g, ls, work, false, T, .tn m1⟩, A1) := (st m A m1 A1 hst).trans (by rw [if_neg (by rw [hf]; decide)])
    obtain ⟨i1, i2⟩ := ih hl1
    exact ⟨fun e => .more (x1 := ⟨g, ls, work, false, T, .tn m1⟩) ⟨hl, fun h => (by cases h), wb, ⟨hi, hm⟩⟩ s1 hu rfl (i1 e), fun e => .cons (x1 := ⟨g, ls, work, false, T, .tn m1⟩) ⟨hl, fun h => (by cases h), wb, ⟨hi, hm⟩⟩ s1 hu rfl (i2 e)⟩
theorem sc_lift' {n : Nat} {u u' : Sc} {ls : Int → List (Int × Int)} {work : Int} (hl : (ls work).length ≤ 1000) (wb : 1 ≤ g.w ∧ g.w ≤ 1000) (h : mSc.Runs n u A u' B) (hm : u.left.length ≤ 1000) :
    (mLk q mq).Runs n ⟨g, ls, work, false, 0, .sc u⟩ A (Lk.end_ ⟨g, ls, work, false, 0, .sc u'⟩) B := by
  have st : ∀ (m : Sc) (A : Ar) (m1 : Sc) (A1 : Ar), mSc.step m A = (m1, A1) → Lk.step ⟨g, ls, work, false, 0, .sc m⟩ A = (if m1.ended = true then Lk.end_ ⟨g, ls, work, false, 0, .sc m1⟩ else ⟨g, ls, work, false, 0, .sc m1⟩, A1) := fun m A m1 A1 h => by
    have h : m.step A = (m1, A1) := h
    show (if (m.step A).1.ended = true then Lk.end_ ⟨g, ls, work, false, 0, .sc (m.step A).1⟩ else ⟨g, ls, work, false, 0, .sc (m.step A).1⟩, (m.step A).2) = _
    rw [h]
  induction h with
  | @one m A m1 A1 hi hst hu hf =>
    have hf : m1.ended = true := hf
    refine .one ⟨hl, fun h => (by cases h), wb, ⟨hi, hm⟩⟩ ?_ hu rfl
    exact (st m A m1 A1 hst).trans (by rw [if_pos hf])
  | @more n m A m1 A1 m' A' hi hst hu hf hr ih =>
    have hf : m1.ended = false := hf
    have hl1 : m1.left.length ≤ 1000 := by
      have := m.left_step A hi.ll hm
      have h : m.step A = (m1, A1) := hst
      rwa [h] at this
    refine .more (x1 := ⟨g, ls, work, false, 0, .sc m1⟩) ⟨hl, fun h => (by cases h), wb, ⟨hi, hm⟩⟩ ?_ hu rfl (ih hl1)
    exact (st m A m1 A1 hst).trans (by rw [if_neg (by rw [hf]; decide)])
theorem no_runs {n : Nat} {ls : Int → List (Int × Int)} {work t : Int} {z : Lk} (ht : 0 < t) (h : (mLk q mq).Runs n (Lk.begin ⟨g, ls, work, false, t, .no⟩) A z B) : (mLk q mq).Runs n ⟨g, ls, work, false, t, .no⟩ A z B := by
  have e1 : (mLk q mq).step ⟨g, ls, work, false, t, .no⟩ A = (mLk q mq).step (Lk.begin ⟨g, ls, work, false, t, .no⟩) A := by
    show (if 0 < t then Lk.begin ⟨g, ls, work, false, t, .no⟩ else ⟨g, ls, work, false, t, .no⟩ : Lk).mid A = (Lk.go (Lk.begin ⟨g, ls, work, false, t, .no⟩)).mid A
    rw [if_pos ht]
    have : Lk.go (Lk.begin ⟨g, ls, work, false, t, .no⟩) = Lk.begin ⟨g, ls, work, false, t, .no⟩ := by
      unfold Lk.begin Lk.go
      dsimp only
      split <;> rename_i hh <;> revert hh <;> split <;> simp
    rw [this]
  have iv : (mLk q mq).inv (Lk.begin ⟨g, ls, work, false, t, .no⟩) A → (mLk q mq).inv ⟨g, ls, work, false, t, .no⟩ A := fun hi => ⟨hi.ll, fun h => (by cases h), hi.wb, trivial⟩
  generalize hb : Lk.begin ⟨g, ls, work, false, t, .no⟩ = b at *
  cases h with
  | one hi hst hu hf => exact .one (iv hi) (e1.trans hst) hu hf
  | more hi hst hu hf hr => exact .more (iv hi) (e1.trans hst) hu hf hr
end
section
variable {A B C : Ar} {g : Gd} {m : Int} {S : Sg} {l : Int → List (Int × Int)} {k h : Int} {q mq : Nat}
theorem GI.u0 (X : GI A g m S l) : 0 ≤ A.uses := X.sl.F.us
theorem GI.r0 (X : GI A g m S l) : 0 ≤ A.nR := by rw [X.nR]; exact totR_nn _ _
theorem GI.c0 (X : GI A g m S l) : 0 ≤ g.pl.carved := by
  obtain ⟨p1, p2, p3, p4, p5⟩ := X.sl.places
  have := X.wb; have := X.sl.mb; omega
theorem GI.later (X : GI A g m S l) {n : Int} (hn : 0 ≤ n) : GI (A.later n) g m S l :=
  ⟨later_wf X.wf n, X.sl.later hn, X.fa, X.ta, X.wb, X.rl, X.rb, fun k x hx => by rw [stF_slots (B := A.later n) (A := A) rfl]; exact X.st k x hx, X.nd, X.dj, X.rg, X.nR, X.l0, by have := X.nu; show A.nL + A.nR ≤ 64 * (A.uses + n); omega, X.ze,
    fun he => by have := X.eb he; show 0 ≤ A.rawF g.ta ∧ A.rawF g.ta ≤ A.uses + n; omega, X.es⟩
theorem GI.out (X : GI A g m S l) {i v : Int} (O : OutS A g.pl g.w m S i v B) (hw : B.wf) (hi : g.ep = true → i ≠ g.ta) : GI B g m S l :=
  ⟨hw, O.sl, O.fa.trans X.fa, X.ta, X.wb, by rw [O.rl]; exact X.rl, by rw [O.rl]; exact X.rb, fun k x hx => by rw [O.st]; exact X.st k x hx, X.nd, X.dj, X.rg, O.nR.trans X.nR, by rw [O.nL]; exact X.l0, by have := X.nu; have := O.nL; have := O.nR; have := O.us; omega, X.ze,
    fun he => by have := X.eb he; have := O.us; have r := O.rf g.ta; rw [if_neg (fun e => hi he e.symm)] at r; omega, fun he => by have r := O.rf g.ta; rw [if_neg (fun e => hi he e.symm)] at r; rw [r]; exact X.es he⟩
theorem GI.alloc {who c : Int} {n : Nat} {x : Al} {S' : Sg} (X : GI A g m S l) (hc : 0 ≤ c ∧ c < 4) (Z : Alloced A g.pl g.w m S who c n x B S') : GI B g m S' l := by
  have off := Z.off
  have us := off.us
  have sz := sz_pos hc.1 hc.2
  have n1 : 1 ≤ n := by
    have := Z.run
    cases this <;> omega
  have hta : B.rawF g.ta = A.rawF g.ta := off.rw _ X.ta
  have nL := Z.nL
  have nL2 : A.nL ≤ B.nL ∧ B.nL ≤ A.nL + 64 := by rw [nL]; split <;> omega
  refine ⟨off.wf, Z.sl, off.fa.trans X.fa, X.ta, X.wb, by rw [off.rl]; exact X.rl, by rw [off.rl]; exact X.rb, fun k y hy => ?_, X.nd, X.dj, X.rg, Z.nR.trans X.nR, by have := X.l0; omega, by have := X.nu; have := Z.nR; omega, X.ze, fun he => ?_, fun he => by rw [hta]; exact X.es he⟩
  · have h2 := X.st k y hy
    rw [Z.st, if_neg fun e => ?_]
    · exact h2
    · have := (Z.hd e.1).2.2
      rw [← e.2, h2] at this; cases this
  · have := X.eb he; rw [hta]; omega
theorem filt_perm (p r : Int × Int → Bool) (hp : ∀ x, p x = false → r x = false) : ∀ xs : List (Int × Int), ((xs.filter fun x => !p x) ++ ((xs.filter p).filter fun x => !r x)).Perm (xs.filter fun x => !r x)
  | [] => .nil
  | x :: xs => by
    have ih := filt_perm p r hp xs
    cases hx : p x with
    | false =>
      have hr := hp x hx
      simp only [List.filter_cons, hx, hr, Bool.not_false, if_true, Bool.false_eq_true, if_false, List.cons_append]
      exact ih.cons x
    | true =>
      cases hr : r x with
      | true => simpa only [List.filter_cons, hx, hr, Bool.not_true, if_true, Bool.false_eq_true, if_false] using ih
      | false =>
        simp only [List.filter_cons, hx, hr, Bool.not_true, Bool.not_false, if_true, Bool.false_eq_true, if_false]
        exact List.perm_middle.trans (ih.cons x)
theorem filt_filt (p r : Int × Int → Bool) (hp : ∀ x, p x = false → r x = false) (xs : List (Int × Int)) : (xs.filter p).filter r = xs.filter r := by
  rw [List.filter_filter]
  refine List.filter_congr fun x _ => ?_
  cases hx : p x with
  | true => simp
  | false => rw [hp x hx]; rfl
theorem due_mono {e1 e2 : Int} (h : e1 ≤ e2) {x : Int × Int} (hd : due e1 x = true) : due e2 x = true := by
  unfold due at *
  have := of_decide_eq_true hd
  exact decide_eq_true (by omega)
theorem Lkd.comp {e1 : Int} {keep2 : Int × Int → Bool} {hs1 hs2 : List Int} {t : Nat} (he : g.ep = true) (hta : g.pl.carved < g.ta) (L1 : Lkd A g m S l k (fun x => !due e1 x) hs1 1 B)
    (L2 : Lkd B g m (frS k S hs1) (setL l k ((l k).filter fun x => !due e1 x)) k keep2 hs2 t C) (h1 : B.rawF g.ta = e1) : Lkd A g m S l k keep2 (hs1 ++ hs2) (t + 1) C ∧ ((l k).filter fun x => !due e1 x).filter keep2 = (l k).filter keep2 := by
  obtain ⟨a1, a2, a3, a4⟩ := L1.ep he
  obtain ⟨b1, b2, b3, b4⟩ := L2.ep he
  have hk : ∀ x, (fun x => !due e1 x) x = false → keep2 x = false := fun x hx => by
    rw [b4]
    have h1' : due e1 x = true := by simpa using hx
    show (!due _ x) = false
    rw [due_mono (by omega) h1']; rfl
  have ff := filt_filt _ _ hk (l k)
  have pm2 := L2.pm
  have u2 := L2.us
  have u1 := L1.us
  rw [setL_same] at pm2 u2
  rw [ff] at u2
  refine ⟨⟨?_, L2.wf, L1.al.trans L2.al, L2.wd.trans L1.wd, L2.fa.trans L1.fa, L2.fr.trans L1.fr, L2.rl.trans L1.rl, by rw [frS_append]; exact L2.sl, fun j => ?_, L2.nL.trans L1.nL, by rw [L2.nR, L1.nR, szs_append]; omega, fun i hi hn => (L2.rw i hi hn).trans (L1.rw i hi hn), ?_, fun h => (by rw [he] at h; cases h), fun _ => ⟨by omega, by omega, b3, b4⟩, fun _ hw => ?_, fun _ i v hi hv v0 hva => ?_⟩, ff⟩
  · have h4 := (filt_perm _ _ hk (l k)).map Prod.fst
    rw [List.map_append] at h4
    exact (L1.pm.append pm2).trans h4
  · rw [L2.st, L1.st]
    by_cases e1 : j ∈ hs2
    · rw [if_pos e1, if_pos (List.mem_append_right _ e1)]
    · rw [if_neg e1]
      by_cases e2 : j ∈ hs1
      · rw [if_pos e2, if_pos (List.mem_append_left _ e2)]
      · rw [if_neg e2, if_neg (fun h => (List.mem_append.1 h).elim e2 e1)]
  · refine ⟨by omega, ?_⟩
    have e1 : ((t + 1 : Nat) : Int) = t + 1 := by omega
    rw [e1]; omega
  · have f1 := L1.free he hw
    have f2 := L2.free he fun i hi => by rw [L1.rw _ (by omega) (by omega)]; exact hw i hi
    have e1 : ((t + 1 : Nat) : Int) = t + 1 := by omega
    rw [e1]; omega
  · refine L2.held he i v hi ?_ v0 (L1.held he i v hi hv v0 hva)
    rw [L1.rw _ (by omega) (by omega)]; exact hv
theorem turn1 (X : GI A g m S l) (he : g.ep = true) (kb : 0 ≤ k ∧ k < g.w) (ll : (l k).length ≤ 200) (hu : A.uses ≤ 700000) :
    ∃ e1 A' m' n, mTn.Runs n (newTn g.w g.ta g.pl k (l k)) A m' A' ∧ (n ≤ 800 ∧ (n : Int) ≤ 2 + g.w + 3 * (l k).length) ∧ m'.left = tleft e1 (l k) ∧ A'.rawF g.ta = e1 ∧ Lkd A g m S l k (fun x => !due e1 x) (tgone e1 (l k)) 1 A' := by
  have wb := X.wb
  have c0 := X.c0
  have ta := X.ta
  have rl := X.rl
  rw [he] at rl
  have rl : g.ta + (1 + g.w) ≤ A.raw.length := rl
  have u0 := X.u0
  have eb := X.eb he
  have hle := totR_le (ls := l) kb.1 (n := g.w.toNat) (by omega)
  obtain ⟨e1, B, A', m', n, run, hn, ml, mp, T, W⟩ := turnG (xs := l k) (tw := g.w) (ta := g.ta) (who := k) (e := A.rawF g.ta) X.sl X.wf ⟨by omega, by omega⟩ (by omega) ta (by omega) X.rb (by omega) rfl ⟨by omega, by omega⟩ kb (X.nd k) (by rw [X.nR]; exact hle) fun x hx => X.st k x hx
  have off := W.off
  have us := off.us
  have tu := T.us
  have hta : A'.rawF g.ta = e1 := by rw [off.rw _ ta, T.rw, if_pos rfl]
  have lk := len_keep (l k) fun x => !due e1 x
  have ed : ((l k).filter fun x => !!due e1 x) = (l k).filter (due e1) := List.filter_congr fun x _ => by simp
  rw [ed] at lk
  have lg : (tgone e1 (l k)).length = ((l k).filter (due e1)).length := by unfold tgone; rw [List.length_map]
  have ei := T.ei
  refine ⟨e1, A', m', n, run, ⟨by omega, hn⟩, ml, hta, ⟨by rw [ed]; exact .refl _, off.wf, T.al.trans off.al, off.wd.trans T.wd, off.fa.trans T.fa, off.fr.trans T.fr, off.rl.trans T.rl, W.sl, fun j => by rw [W.st, T.st], W.nL.trans T.nL, by rw [W.nR, T.nR], fun i hi hn => by rw [off.rw i hi, T.rw, if_neg hn], ⟨by omega, by omega⟩, fun h => (by rw [he] at h; cases h), fun _ => ⟨by omega, by omega, by omega, by rw [hta]⟩, fun _ hw => ?_, fun _ i v hi hv v0 hva => ?_⟩⟩
  · rw [hta, T.up fun i hi => .inl (hw i hi)]; rfl
  · rw [hta]
    rcases ei with h | h
    · omega
    · rcases T.dn h i hi with h2 | h2 <;> omega
theorem haz_look (X : GI A g m S l) (he : g.ep = false) (kb : 0 ≤ k ∧ k < g.w) (ll : (l k).length ≤ 200) (hu : A.uses ≤ 700000) :
    ∃ keep hs n A', (mLk q mq).Runs n (Lk.begin ⟨g, l, k, false, 1, .no⟩) A ⟨g, setL l k ((l k).filter keep), k, false, 0, .no⟩ A' ∧ (n ≤ 800 ∧ (n : Int) ≤ 2 * g.w + 3 * (l k).length) ∧ Lkd A g m S l k keep hs 1 A' := by
  have wb := X.wb
  have c0 := X.c0
  have ta := X.ta
  have rl := X.rl
  rw [he] at rl
  have rl : g.ta + 2 * g.w ≤ A.raw.length := rl
  have u0 := X.u0
  have hle := totR_le (ls := l) kb.1 (n := g.w.toNat) (by omega)
  obtain ⟨A', m', n, run, en, ml, me, W⟩ := scanG (xs := (l k).map Prod.fst) (tw := g.w) (ta := g.ta) (who := k) X.sl X.wf ⟨by omega, by omega⟩ (by rw [List.length_map]; omega) (by omega) rl X.rb (by omega) kb (X.nd k) (by rw [X.nR]; exact hle) fun h hh => by
    obtain ⟨x, hx, rfl⟩ := List.mem_map.1 hh
    exact X.st k x hx
  obtain ⟨keep, hk⟩ : ∃ keep : Int × Int → Bool, keep = fun x => inS (seenN A g.ta (2 * g.w).toNat) x.1 := ⟨_, rfl⟩
  have eg : gone A g.w g.ta ((l k).map Prod.fst) = ((l k).filter fun x => !keep x).map Prod.fst := by
    unfold gone; rw [List.filter_map, hk]; rfl
  have el : lft A g.w g.ta ((l k).map Prod.fst) = ((l k).filter keep).map Prod.fst := by
    unfold lft; rw [List.filter_map, hk]; rfl
  have lk := len_keep (l k) keep
  have lg : (gone A g.w g.ta ((l k).map Prod.fst)).length + ((l k).filter keep).length = (l k).length := by rw [eg, List.length_map]; omega
  have off := W.off
  have us := off.us
  have us2 : (A.later (2 * g.w)).uses = A.uses + 2 * g.w := rfl
  have lift := sc_lift' (g := g) (q := q) (mq := mq) (ls := l) (work := k) (by omega) ⟨by omega, by omega⟩ run (Nat.zero_le 1000)
  have eend : Lk.end_ ⟨g, l, k, false, 0, .sc m'⟩ = ⟨g, setL l k ((l k).filter keep), k, false, 0, .no⟩ := by
    show Lk.mk g (setL l k (m'.left.map fun h => (h, (0 : Int)))) k false 0 .no = _
    rw [ml, el, List.map_map]
    have : ∀ xs : List (Int × Int), (∀ x ∈ xs, x.2 = 0) → xs.map ((fun h => (h, (0 : Int))) ∘ Prod.fst) = xs := fun xs hx => by
      induction xs with
      | nil => rfl
      | cons x xs ih =>
        rw [List.map_cons, ih fun y hy => hx y (List.mem_cons_of_mem _ hy)]
        have := hx x List.mem_cons_self
        obtain ⟨a, b⟩ := x
        have this : b = 0 := this
        rw [this]; rfl
    rw [this _ fun x hx => X.ze he k x (List.mem_filter.1 hx).1]
  rw [eend] at lift
  have ebeg : Lk.begin ⟨g, l, k, false, 1, .no⟩ = ⟨g, l, k, false, 0, .sc (newSc g.w g.ta g.pl k ((l k).map Prod.fst))⟩ := by
    unfold Lk.begin
    rw [if_neg (by show ¬ g.ep = true; rw [he]; decide)]
    rfl
  rw [ebeg]
  refine ⟨keep, _, n, A', lift, ⟨by omega, by omega⟩, ⟨by rw [eg], off.wf, (later_alike A _).trans off.al, off.wd, off.fa, off.fr, off.rl, W.sl, W.st, W.nL, W.nR, fun i hi _ => off.rw i hi, ⟨by omega, by omega⟩, fun _ => ⟨off.rw _ ta, fun x => ?_⟩, fun h => (by rw [he] at h; cases h), fun h => (by rw [he] at h; cases h), fun h => (by rw [he] at h; cases h)⟩⟩
  rw [hk]
  refine (seenN_in A g.ta x.1 _).trans ⟨?_, ?_⟩
  · rintro ⟨i, a, b⟩; exact ⟨i, by omega, b⟩
  · rintro ⟨i, a, b⟩; exact ⟨i, by omega, b⟩
theorem ep_look (he : g.ep = true) (kb : 0 ≤ k ∧ k < g.w) : ∀ (t : Nat) (A : Ar) (S : Sg) (l : Int → List (Int × Int)), GI A g m S l → t ≤ 2 → (l k).length ≤ 200 → A.uses + 1000 * t ≤ 700000 →
    ∃ keep hs n A', (mLk q mq).Runs n (Lk.begin ⟨g, l, k, false, ((t + 1 : Nat) : Int), .no⟩) A ⟨g, setL l k ((l k).filter keep), k, false, 0, .no⟩ A' ∧ (n ≤ 800 * (t + 1) ∧ (t = 0 → (n : Int) ≤ 2 + g.w + 3 * (l k).length)) ∧ Lkd A g m S l k keep hs (t + 1) A' := by
  intro t
  induction t with
  | zero =>
    intro A S l X ht ll hu
    obtain ⟨e1, A', m', n, run, hn, ml, mp, L⟩ := turn1 X he kb ll (by omega)
    obtain ⟨i1, _⟩ := tn_lift (g := g) (q := q) (mq := mq) (ls := l) (work := k) (T := 0) (by omega) ⟨by have := X.wb; omega, by have := X.wb; omega⟩ run (Nat.zero_le 1000)
    refine ⟨_, _, n, A', ?_, ⟨by omega, fun _ => hn.2⟩, L⟩
    have eb : Lk.begin ⟨g, l, k, false, ((0 + 1 : Nat) : Int), .no⟩ = ⟨g, l, k, false, 0, .tn (newTn g.w g.ta g.pl k (l k))⟩ := by
      unfold Lk.begin
      rw [if_pos (show (Lk.mk g l k false ((0 + 1 : Nat) : Int) .no).g.ep = true from he)]; rfl
    rw [eb]
    have := i1 rfl
    rw [show Lk.end_ ⟨g, l, k, false, 0, .tn m'⟩ = ⟨g, setL l k m'.left, k, false, 0, .no⟩ from rfl, ml] at this
    exact this
  | succ t ih =>
    intro A S l X ht ll hu
    obtain ⟨e1, A1, m', n, run, hn, ml, mp, L⟩ := turn1 X he kb ll (by omega)
    have wb := X.wb
    obtain ⟨_, i2⟩ := tn_lift (g := g) (q := q) (mq := mq) (ls := l) (work := k) (T := ((t + 1 : Nat) : Int)) (by omega) ⟨by omega, by omega⟩ run (Nat.zero_le 1000)
    have eb : Lk.begin ⟨g, l, k, false, ((t + 1 + 1 : Nat) : Int), .no⟩ = ⟨g, l, k, false, ((t + 1 : Nat) : Int), .tn (newTn g.w g.ta g.pl k (l k))⟩ := by
      unfold Lk.begin
      rw [if_pos (show (Lk.mk g l k false ((t + 1 + 1 : Nat) : Int) .no).g.ep = true from he)]
      have : w64 (((t + 1 + 1 : Nat) : Int) - 1) = ((t + 1 : Nat) : Int) := by rw [w64_in (by omega) (by omega)]; omega
      show Lk.mk g l k false (w64 (((t + 1 + 1 : Nat) : Int) - 1)) _ = _
      rw [this]
    have pth := i2 (by omega)
    rw [show Lk.end_ ⟨g, l, k, false, ((t + 1 : Nat) : Int), .tn m'⟩ = ⟨g, setL l k m'.left, k, false, ((t + 1 : Nat) : Int), .no⟩ from rfl, ml] at pth
    have X1 := X.lkd kb L
    have us1 := L.us
    have lk := len_keep (l k) fun x => !due e1 x
    obtain ⟨keep, hs2, n2, A2, r2, hn2, L2⟩ := ih A1 _ _ X1 (by omega) (by rw [setL_same]; omega) (by omega)
    obtain ⟨Lc, fc⟩ := Lkd.comp he X.ta L L2 mp
    refine ⟨keep, _, n + n2, A2, ?_, ⟨by have := hn.1; have := hn2.1; omega, fun h => (by cases h)⟩, Lc⟩
    rw [eb]
    have r3 := pth.run (no_runs (by omega) r2)
    rw [setL_same, setL_setL, fc] at r3
    exact r3
end
def RunO (q mq : Nat) (o : Option Lk) (g : Gd) (k : Int) (A : Ar) (l0 l' : Int → List (Int × Int)) (A' : Ar) : Prop := match o with
  | none => A' = A ∧ l' = l0
  | some x => ∃ n, n ≤ 2500 ∧ (mLk q mq).Runs n x A ⟨g, l', k, false, 0, .no⟩ A'
def RunB (bd : Int) (q mq : Nat) (o : Option Lk) (g : Gd) (k : Int) (A : Ar) (l0 l' : Int → List (Int × Int)) (A' : Ar) : Prop := match o with
  | none => A' = A ∧ l' = l0
  | some x => ∃ n : Nat, (n : Int) ≤ bd ∧ (mLk q mq).Runs n x A ⟨g, l', k, false, 0, .no⟩ A'
theorem RunB.o {bd : Int} (hb : bd ≤ 2500) {q mq : Nat} {o : Option Lk} {g : Gd} {k : Int} {A : Ar} {l0 l' : Int → List (Int × Int)} {A' : Ar} (h : RunB bd q mq o g k A l0 l' A') : RunO q mq o g k A l0 l' A' := by
  cases o with
  | none => exact h
  | some x => obtain ⟨n, hn, r⟩ := h; exact ⟨n, by omega, r⟩
structure Ret1 (A : Ar) (h : Int) (A1 : Ar) : Prop where
  al : Ar.Alike A A1
  wd : A1.words = A.words
  fa : A1.fault = A.fault
  fr : A1.fresh = A.fresh
  rl : A1.raw.length = A.raw.length
  rw : ∀ i, 0 < i → A1.rawF i = A.rawF i
  st : ∀ j, A1.stF j = if j = h then 2 else A.stF j
  nL : A1.nL = A.nL - sizeF (opC h)
  us : A.uses ≤ A1.uses ∧ A1.uses ≤ A.uses + 1
def sinceF (g : Gd) (A : Ar) : Int := if g.ep = true then A.rawF g.ta else 0
section
variable {A B C : Ar} {g : Gd} {m : Int} {S : Sg} {l : Int → List (Int × Int)} {k h : Int} {q mq : Nat}
theorem GI.look (X : GI A g m S l) (kb : 0 ≤ k ∧ k < g.w) (ll : (l k).length ≤ 200) (hu : A.uses ≤ 690000) {t : Nat} (h1 : 1 ≤ t) (h3 : t ≤ 3) (ht : g.ep = false → t = 1) :
    ∃ keep hs n A', (mLk q mq).Runs n (Lk.begin ⟨g, l, k, false, (t : Int), .no⟩) A ⟨g, setL l k ((l k).filter keep), k, false, 0, .no⟩ A' ∧ (n ≤ 800 * t ∧ (t = 1 → (n : Int) ≤ 2 + 2 * g.w + 3 * (l k).length)) ∧ Lkd A g m S l k keep hs t A' := by
  have wb := X.wb
  cases he : g.ep with
  | false =>
    obtain rfl := ht he
    obtain ⟨keep, hs, n, A', r, hn, L⟩ := haz_look (q := q) (mq := mq) X he kb ll (by omega)
    exact ⟨keep, hs, n, A', r, ⟨by have := hn.1; omega, fun _ => by have := hn.2; omega⟩, L⟩
  | true =>
    obtain ⟨t', rfl⟩ : ∃ t', t = t' + 1 := ⟨t - 1, by omega⟩
    obtain ⟨keep, hs, n, A', r, hn, L⟩ := ep_look (q := q) (mq := mq) he kb t' A S l X (by omega) ll (by omega)
    exact ⟨keep, hs, n, A', r, ⟨hn.1, fun h => by have := hn.2 (by omega); omega⟩, L⟩
theorem setLast_app (xs : List (Int × Int)) (h s v : Int) : setLast (xs ++ [(h, s)]) v = xs ++ [(h, v)] := by
  unfold setLast
  simp [List.getD]
theorem GI.retire_runB (X : GI A g m S l) (hu : A.uses ≤ 680000) (kb : 0 ≤ k ∧ k < g.w) (hs : A.stF h = 1) (hz : sizeF (opC h) ≤ A.nL) (ll : (l k).length ≤ 190) (th : 1 ≤ g.th) :
    ∃ A1 A' l' S', Ret1 A h A1 ∧ GI A1 g m S (setL l k (l k ++ [(h, sinceF g A)])) ∧ GI A' g m S' l' ∧ RunB (6 + 2 * g.w + 3 * (l k).length) q mq (retM g l k h) g k (A.retireF h) (setL l k (l k ++ [(h, 0)])) l' A' ∧
      ((((l k).length : Int) + 1 < g.th ∧ A' = A1 ∧ S' = S ∧ l' = setL l k (l k ++ [(h, sinceF g A)])) ∨
       (g.th ≤ ((l k).length : Int) + 1 ∧ ∃ keep gs, Lkd A1 g m S (setL l k (l k ++ [(h, sinceF g A)])) k keep gs 1 A' ∧ S' = frS k S gs ∧ l' = setL l k ((l k ++ [(h, sinceF g A)]).filter keep))) := by
  have wb := X.wb
  have u0 := X.u0
  have c0 := X.c0
  have ta := X.ta
  have rl := X.rl
  cases he : g.ep with
  | false =>
    have es : sinceF g A = 0 := by unfold sinceF; rw [if_neg (by rw [he]; decide)]
    rw [es]
    obtain ⟨Y, yst, yL, ro⟩ := X.retire (by omega) kb hs hz (s := 0) (fun _ => rfl) (fun h => (by rw [he] at h; cases h))
    have ru := ro.us
    have R1 : Ret1 A h (A.retireF h) := ⟨ro.al, ro.wd, ro.fa, ro.fr, ro.rl, ro.rw, yst, yL, ⟨by omega, by omega⟩⟩
    by_cases ht : g.th ≤ ((l k).length : Int) + 1
    · have hm : retM g l k h = some (retLk g l k h).begin := by unfold retM; rw [if_neg (by rw [he]; decide), if_pos ht]
      have hb : retLk g l k h = ⟨g, setL l k (l k ++ [(h, 0)]), k, false, 1, .no⟩ := by unfold retLk; rw [he, if_pos ht]
      obtain ⟨keep, gs, n, A', r, hn, L⟩ := Y.look (q := q) (mq := mq) kb (by rw [setL_same]; simp; omega) (by omega) (t := 1) (by decide) (by decide) (fun _ => rfl)
      rw [hm, hb]
      rw [setL_same, setL_setL] at r
      have Y2 := Y.lkd kb L
      rw [setL_same, setL_setL] at Y2
      have hn2 := hn.2 rfl
      rw [setL_same, List.length_append] at hn2
      exact ⟨_, A', _, _, R1, Y, Y2, ⟨n, by have : (n : Int) ≤ 2 + 2 * g.w + 3 * (((l k).length + 1 : Nat) : Int) := hn2; omega, r⟩, .inr ⟨ht, keep, gs, L, rfl, rfl⟩⟩
    · have hm : retM g l k h = none := by unfold retM; rw [if_neg (by rw [he]; decide), if_neg ht]
      rw [hm]
      exact ⟨_, _, _, S, R1, Y, Y, ⟨rfl, rfl⟩, .inl ⟨by omega, rfl, rfl, rfl⟩⟩
  | true =>
    rw [he] at rl
    have rl : g.ta + (1 + g.w) ≤ A.raw.length := rl
    have eb := X.eb he
    have es : sinceF g A = A.rawF g.ta := by unfold sinceF; rw [if_pos he]
    rw [es]
    obtain ⟨Y0, yst, yL, ro⟩ := X.retire (by omega) kb hs hz (s := A.rawF g.ta) (fun h => (by rw [he] at h; cases h)) (fun _ => ⟨eb.1, Int.le_refl _⟩)
    have ru := ro.us
    have Y := Y0.later (n := 1) (by decide)
    have R1 : Ret1 A h ((A.retireF h).later 1) := ⟨ro.al.trans (later_alike _ _), ro.wd, ro.fa, ro.fr, ro.rl, ro.rw, fun j => (stF_slots rfl j).trans (yst j), yL, ⟨by show A.uses ≤ (A.retireF h).uses + 1; omega, by show (A.retireF h).uses + 1 ≤ _; omega⟩⟩
    have hta : (A.retireF h).rawF g.ta = A.rawF g.ta := ro.rw _ (by omega)
    have hm : retM g l k h = some (retLk g l k h) := by unfold retM; rw [if_pos he]
    rw [hm]
    obtain ⟨T, hT⟩ : ∃ T : Int, T = if g.th ≤ ((l k).length : Int) + 1 then 1 else 0 := ⟨_, rfl⟩
    have hb : retLk g l k h = ⟨g, setL l k (l k ++ [(h, 0)]), k, true, T, .no⟩ := by unfold retLk; rw [he, hT]
    rw [hb]
    have hst : (mLk q mq).step ⟨g, setL l k (l k ++ [(h, 0)]), k, true, T, .no⟩ (A.retireF h) = (⟨g, setL l k (l k ++ [(h, A.rawF g.ta)]), k, false, T, .no⟩, (A.retireF h).later 1) := by
      show Lk.step ⟨g, setL l k (l k ++ [(h, 0)]), k, true, T, .no⟩ (A.retireF h) = _
      unfold Lk.step
      rw [if_pos rfl]
      show (Lk.mk g (setL (setL l k (l k ++ [(h, 0)])) k (setLast (setL l k (l k ++ [(h, 0)]) k) ((A.retireF h).rawF g.ta))) k false T .no, (A.retireF h).touchR g.ta) = _
      rw [setL_setL, setL_same, setLast_app, hta, tick_later (A := A.retireF h) ⟨by omega, by rw [ro.rl]; omega⟩ (by omega) (by omega)]
    have iv : (mLk q mq).inv ⟨g, setL l k (l k ++ [(h, 0)]), k, true, T, .no⟩ (A.retireF h) := ⟨by show (setL l k (l k ++ [(h, 0)]) k).length ≤ 1000; rw [setL_same]; simp; omega, fun _ => ⟨he, by show setL l k (l k ++ [(h, 0)]) k ≠ []; rw [setL_same]; simp, rfl⟩, ⟨by show 1 ≤ g.w; omega, by show g.w ≤ 1000; omega⟩, trivial⟩
    have hus : ((A.retireF h).later 1).uses ≤ w64 ((A.retireF h).uses + 1) := by
      show (A.retireF h).uses + 1 ≤ _; rw [w64_in (by omega) (by omega)]; exact Int.le_refl _
    by_cases ht : g.th ≤ ((l k).length : Int) + 1
    · rw [if_pos ht] at hT
      obtain ⟨keep, gs, n, A', r, hn, L⟩ := Y.look (q := q) (mq := mq) kb (by rw [setL_same]; simp; omega) (by show (A.retireF h).uses + 1 ≤ _; omega) (t := 1) (by decide) (by decide) (fun _ => rfl)
      rw [setL_same, setL_setL] at r
      have Y2 := Y.lkd kb L
      rw [setL_same, setL_setL] at Y2
      have hn2 := hn.2 rfl
      rw [setL_same, List.length_append] at hn2
      refine ⟨_, A', _, _, R1, Y, Y2, ⟨n + 1, by have : (n : Int) ≤ 2 + 2 * g.w + 3 * (((l k).length + 1 : Nat) : Int) := hn2; omega, .more iv hst hus ?_ ?_⟩, .inr ⟨ht, keep, gs, L, rfl, rfl⟩⟩
      · show (T == 0) = false; rw [hT]; rfl
      · rw [hT]; exact no_runs (by decide) r
    · rw [if_neg ht] at hT
      refine ⟨_, _, _, S, R1, Y, Y, ⟨1, by omega, ?_⟩, .inl ⟨by omega, rfl, rfl, rfl⟩⟩
      rw [hT] at hst iv ⊢
      exact .one iv hst hus rfl
theorem GI.retire_run (X : GI A g m S l) (hu : A.uses ≤ 680000) (kb : 0 ≤ k ∧ k < g.w) (hs : A.stF h = 1) (hz : sizeF (opC h) ≤ A.nL) (ll : (l k).length ≤ 190) (th : 1 ≤ g.th) :
    ∃ A1 A' l' S', Ret1 A h A1 ∧ GI A1 g m S (setL l k (l k ++ [(h, sinceF g A)])) ∧ GI A' g m S' l' ∧ RunO q mq (retM g l k h) g k (A.retireF h) (setL l k (l k ++ [(h, 0)])) l' A' ∧
      ((((l k).length : Int) + 1 < g.th ∧ A' = A1 ∧ S' = S ∧ l' = setL l k (l k ++ [(h, sinceF g A)])) ∨
       (g.th ≤ ((l k).length : Int) + 1 ∧ ∃ keep gs, Lkd A1 g m S (setL l k (l k ++ [(h, sinceF g A)])) k keep gs 1 A' ∧ S' = frS k S gs ∧ l' = setL l k ((l k ++ [(h, sinceF g A)]).filter keep))) := by
  have wb := X.wb
  obtain ⟨A1, A', l', S', R1, X1, X', run, hor⟩ := X.retire_runB (q := q) (mq := mq) hu kb hs hz ll th
  exact ⟨A1, A', l', S', R1, X1, X', run.o (by omega), hor⟩
end
theorem npGd (a : Addr) : opS Tryz.prog (.binOp .eql ty_p_guard_Guard (.tmp 0) (.const (.pointer none)) ty_p_guard_Guard) ty_bool [(.pointer (some a))] = .pure (.value (.bool false)) := by kernel_rfl
abbrev S0g : Sg := ⟨fun _ => [], 0, fun _ => 0, fun _ => -1, 0⟩
theorem gd0 : GdS [] fun _ => [] := ⟨fun k => .inl ⟨rfl, rfl⟩, fun k => rfl⟩
section
variable {L : Hands} {R : Value → Heap → Prop} {G : Heap} {l rest : Bl} {A A' : Ar} {I : List Nat}
theorem w_GRetire {g : Gd} {e : List LE} {ls : Int → List (Int × Int)} {q mq : Nat} {k h : Int} {K : Value → Tree} (hA : Aw I A) (ok : Ok I G (keys (g.bl q mq e ++ rest))) (gs : GdS e ls) (hl : (ls k).length < 1000)
    (h0 : retM g ls k h = none → ∀ e' gar, Ok I G (keys (g.bl q mq e' ++ (gar ++ rest))) → GdS e' (setL ls k (ls k ++ [(h, 0)])) → wp Tryz.prog (K .nilIface) L (own (A.retireF h) (g.bl q mq e' ++ (gar ++ rest)) G) R)
    (h1 : ∀ x, retM g ls k h = some x → ∀ j : LkJ, Ok I G (keys (x.bl j ++ rest)) → (mLk q mq).rep x j → wp Tryz.prog (K (.iface ty_p_guard_look (.pointer (some ⟨j.q, 0, none⟩)))) L (own (A.retireF h) (x.bl j ++ rest) G) R) :
    wp Tryz.prog (.call f_guard_Guard_Retire [.pointer (some ⟨q, 0, none⟩), .pointer (aI I), .int .i64 k, .int .i64 h] (.one (.leaf .val)) K) L (own A (g.bl q mq e ++ rest) G) R := by
  rw [keys_append] at ok
  obtain ⟨o1, o2⟩ := ok.split
  refine w_sub (retire_spec hA o1 gs hl) ?_
  intro v H hp
  unfold GPost at hp
  cases hm : retM g ls k h with
  | none =>
    rw [hm] at hp
    obtain ⟨e', gar, rfl, rfl, o, gs'⟩ := hp
    refine ⟨_, rfl, ?_⟩
    rw [← own_append, List.append_assoc]
    refine h0 hm e' gar ?_ gs'
    have := o.join o2
    rw [← keys_append, List.append_assoc] at this
    exact this
  | some x =>
    rw [hm] at hp
    obtain ⟨j, rfl, rfl, o, rp⟩ := hp
    refine ⟨_, rfl, ?_⟩
    rw [← own_append]
    exact h1 x hm j (by rw [keys_append]; exact o.join o2) rp
end
def lj0 : LkJ := ⟨0, 0, 0, [], tj0, sj0, []⟩
def gmB (g : Gd) (q mq : Nat) : Option Lk → List LE → LkJ → Bl
  | none, e, _ => g.bl q mq e
  | some x, _, j => x.bl j
def gmV : Option Lk → LkJ → Value
  | none, _ => .nilIface
  | some _, j => .iface ty_p_guard_look (.pointer (some ⟨j.q, 0, none⟩))
def gmR (g : Gd) (q mq : Nat) (ls : Int → List (Int × Int)) : Option Lk → List LE → LkJ → Prop
  | none, e, _ => GdS e ls
  | some x, _, j => (mLk q mq).rep x j ∧ x.g = g
theorem retM_g {g : Gd} {ls : Int → List (Int × Int)} {k h : Int} {x : Lk} (hm : retM g ls k h = some x) : x.g = g := by
  unfold retM at hm
  split at hm
  · obtain rfl := Option.some.inj hm; rfl
  · split at hm
    · obtain rfl := Option.some.inj hm; rfl
    · cases hm
section
variable {L : Hands} {R : Value → Heap → Prop} {G : Heap} {l rest : Bl} {A A' : Ar} {I : List Nat} {g : Gd} {q mq : Nat}
theorem w_retGm {e : List LE} {ls : Int → List (Int × Int)} {k h : Int} {K : Value → Tree} (hA : Aw I A) (ok : Ok I G (keys (g.bl q mq e ++ rest))) (gs : GdS e ls) (hl : (ls k).length < 1000)
    (hk : ∀ e' lj gar, Ok I G (keys (gmB g q mq (retM g ls k h) e' lj ++ (gar ++ rest))) → gmR g q mq (setL ls k (ls k ++ [(h, 0)])) (retM g ls k h) e' lj → wp Tryz.prog (K (gmV (retM g ls k h) lj)) L (own (A.retireF h) (gmB g q mq (retM g ls k h) e' lj ++ (gar ++ rest)) G) R) :
    wp Tryz.prog (.call f_guard_Guard_Retire [.pointer (some ⟨q, 0, none⟩), .pointer (aI I), .int .i64 k, .int .i64 h] (.one (.leaf .val)) K) L (own A (g.bl q mq e ++ rest) G) R := by
  refine w_GRetire hA ok gs hl (fun hm e' gar ok' gs' => ?_) fun x hm j ok' rp => ?_
  · rw [hm] at hk
    exact hk e' lj0 gar ok' gs'
  · have hg := retM_g hm
    rw [hm] at hk
    exact hk [] j [] ok' ⟨rp, hg⟩
theorem Lk.step_g (x : Lk) (A : Ar) : (x.step A).1.g = x.g ∧ (x.step A).1.work = x.work := by
  unfold Lk.step
  split
  · exact ⟨rfl, rfl⟩
  · have hg : x.go.g = x.g ∧ x.go.work = x.work := by
      unfold Lk.go
      split
      · split <;> exact ⟨rfl, rfl⟩
      · exact ⟨rfl, rfl⟩
    unfold Lk.mid
    dsimp only
    split <;> exact hg
theorem w_lkStep {x : Lk} {lj : LkJ} {k : Bool → Tree} (hA : Aw I A) (ok : Ok I G (keys (x.bl lj ++ rest))) (rp : (mLk q mq).rep x lj) (hi : x.inv A)
    (hk : ∀ lj' : LkJ, lj'.q = lj.q → Aw I (x.step A).2 → Ok I G (keys ((x.step A).1.bl lj' ++ rest)) → (mLk q mq).rep (x.step A).1 lj' → wp Tryz.prog (k (x.step A).1.fin) L (own (x.step A).2 ((x.step A).1.bl lj' ++ rest) G) R) :
    wp Tryz.prog (.act (opS Tryz.prog (.call { callee := .invoke (.tmp 0) "Step", args := #[(.tmp 1)], argTypes := #[ty_p_arena_Arena] }) ty_bool [(.iface ty_p_guard_look (.pointer (some ⟨lj.q, 0, none⟩))), (.pointer (aI I))]) (.one (.leaf .bool)) k) L (own A (x.bl lj ++ rest) G) R := by
  refine act_enter (mLk_inv q mq _ _) ?_
  rw [keys_append] at ok
  obtain ⟨o1, o2⟩ := ok.split
  refine w_sub (mLk_ok q mq I A _ x lj hA o1 rp hi) ?_
  rintro v K ⟨lj', rfl, rfl, ha, ok', rp', hA'⟩
  refine ⟨(x.step A).1.fin, rfl, ?_⟩
  rw [← own_append]
  exact hk lj' ha hA' (by rw [keys_append]; exact ok'.join o2) rp'
theorem Lk.fin_no {x : Lk} (h : x.fin = true) : x.m = .no := by
  unfold Lk.fin at h
  split at h
  · assumption
  · cases h
theorem lk_done {x : Lk} {lj : LkJ} (hm : x.fin = true) (rp : (mLk q mq).rep x lj) (ok : Ok I G (keys (x.bl lj ++ rest))) :
    ∃ e gar, own A (x.bl lj ++ rest) G = own A (x.g.bl q mq e ++ (gar ++ rest)) G ∧ Ok I G (keys (x.g.bl q mq e ++ (gar ++ rest))) ∧ GdS e x.ls := by
  obtain ⟨rp, e1, e2⟩ := rp
  have hm := Lk.fin_no hm
  refine ⟨lj.e, (lj.q, oc ty_guard_look (lkC lj.gq x.work x.first x.times .nilIface)) :: lj.gar, ?_⟩
  have hb : x.bl lj = (lj.q, oc ty_guard_look (lkC lj.gq x.work x.first x.times .nilIface)) :: (x.g.bl q mq lj.e ++ ([] ++ lj.gar)) := by
    unfold Lk.bl; rw [hm, e1, e2]; rfl
  rw [hb] at ok ⊢
  obtain ⟨p, ok'⟩ := own_perm (A := A) (l' := x.g.bl q mq lj.e ++ (((lj.q, oc ty_guard_look (lkC lj.gq x.work x.first x.times .nilIface)) :: lj.gar) ++ rest)) ok (perm_by fun c d c0 cd ca => by simp only [List.cons_append, List.append_assoc, List.nil_append, cd, ca]; omega)
  exact ⟨p, ok', ⟨rp.le, rp.ls⟩⟩
theorem gmV_nil (o : Option Lk) (j : LkJ) (u : TypeId) : opS Tryz.prog (.binOp .eql ty_guard_Machine (.tmp 0) (.const .nilIface) ty_guard_Machine) u [gmV o j] = .pure (.value (.bool o.isNone)) := by
  cases o
  · exact eqlMc0 u
  · exact eqlMc _ _ u
theorem st_gm (a : Addr) (o : Option Lk) (j : LkJ) : opS Tryz.prog (.store ty_guard_Machine (.tmp 0) (.tmp 1)) ty_unit [.pointer (some a), gmV o j] = .store .plain a (gmV o j) (.pure .skip) := by cases o <;> kernel_rfl
theorem gmV_single (o : Option Lk) (j : LkJ) : Value.single (gmV o j) = true := by cases o <;> rfl
theorem w_stGm (ix : Nat) {a : Addr} {b n : Nat} {T : TypeId} {c : List Value} {o : Option Lk} {j : LkJ} {k : Unit → Tree} (hA : Aw I A) (ok : Ok I G (keys l)) (ha : a = ⟨b, n, none⟩) (hi : l[ix]? = some (b, oc T c)) (hn : (decide (n < c.length)) = true)
    (h : wp Tryz.prog (k ()) L (own A (l.set ix (b, oc T (c.set n (gmV o j)))) G) R) : wp Tryz.prog (.act (opS Tryz.prog (.store ty_guard_Machine (.tmp 0) (.tmp 1)) ty_unit [.pointer (some a), gmV o j]) .unit k) L (own A l G) R := by
  rw [st_gm]
  exact w_st (k := k ()) ix hA ok ha hi (gmV_single _ _) hn h
end
noncomputable def t_ring_Room (p0 : Int) : Tree :=
 .qcall f_handle_Open [(.int .i64 p0)] (.tup [(.leaf (.int .i64)), (.leaf (.int .i64)), (.leaf (.int .i64)), (.leaf .bool)]) fun x9 =>
 bif (!x9.2.2.2.1) then (
 .ret (.int .i64 0))
 else (
 .qcall f_handle_Size [(.int .i64 x9.2.2.1)] (.one (.leaf (.int .i64))) fun x17 =>
 .ret (.int .i64 x17))
theorem t_ring_Room_spec {p0 : Int} : SpT f_ring_Room #[(.int .i64 p0)] (t_ring_Room p0) := spT tcfg1 Tryz.func59 (by kernel_rfl)
noncomputable def t_ring_word (p0 : Int) : Tree :=
 .qcall f_ring_Room [(.int .i64 p0)] (.one (.leaf (.int .i64))) fun x5 =>
 .newP (.cells #[(.int .i64 0)] ty_int) fun x3 =>
 .st x3 (.int .i64 x5) <|
 .ret (.func (.func f_ring_word_1) #[] #[(.pointer (some x3))])
theorem t_ring_word_spec {p0 : Int} : SpT f_ring_word #[(.int .i64 p0)] (t_ring_word p0) := spT tcfg1 Tryz.func101 (by kernel_rfl)
noncomputable def t_ring_word_1 (p0 : Int) (c0 : Addr) : Tree :=
 .ld c0 (.int .i64) fun x4 =>
 bif ((x4 : Int) == 0) then (
 .ret (.int .i64 0))
 else (
 .ld c0 (.int .i64) fun x7 =>
 .look (opS Tryz.prog (.binOp .rem ty_int (.tmp 0) (.tmp 1) ty_int) ty_int [(.int .i64 p0), (.int .i64 x7)]) (.one (.leaf (.int .i64))) fun x8 =>
 .ld c0 (.int .i64) fun x9 =>
 .ld c0 (.int .i64) fun x11 =>
 .look (opS Tryz.prog (.binOp .rem ty_int (.tmp 0) (.tmp 1) ty_int) ty_int [(.int .i64 (w64 (x8 + x9))), (.int .i64 x11)]) (.one (.leaf (.int .i64))) fun x12 =>
 .ret (.int .i64 x12))
theorem t_ring_word_1_spec {p0 : Int} {c0 : Addr} : SpT f_ring_word_1 #[(.int .i64 p0), (.pointer (some c0))] (t_ring_word_1 p0 c0) := spT tcfg1 Tryz.func119 (by kernel_rfl)
noncomputable def t_ring_Word (p0 : Int) (p1 : Int) : Tree :=
 .call f_ring_word [(.int .i64 p0)] (.one (.leaf .val)) fun x6 =>
 .look (opS Tryz.prog (.call { callee := .value (.tmp 0), args := #[(.tmp 1)], argTypes := #[ty_int] }) ty_int [x6, (.int .i64 p1)]) (.one (.leaf (.int .i64))) fun x8 =>
 .ret (.int .i64 x8)
theorem t_ring_Word_spec {p0 : Int} {p1 : Int} : SpT f_ring_Word #[(.int .i64 p0), (.int .i64 p1)] (t_ring_Word p0 p1) := spT tcfg1 Tryz.func66 (by kernel_rfl)
def roomF (h : Int) : Int := if openOk h then sizeF (oClass h) else 0
def wordF (h i : Int) : Int := if roomF h = 0 then 0 else i % roomF h
theorem roomF_of (h : Int) : roomF h = 0 ∨ roomF h = 8 ∨ roomF h = 16 ∨ roomF h = 32 ∨ roomF h = 64 := by
  unfold roomF
  split
  · rename_i hk
    have hv := (open_ok hk).1
    obtain ⟨_, _, _, _, h5, h6⟩ := hv
    have := sizeF_cases h5 h6
    omega
  · exact .inl rfl
theorem Room_det (h : Int) (H : Heap) : Det Tryz.prog f_ring_Room [.int .i64 h] H (.int .i64 (roomF h)) H := by
  refine t_ring_Room_spec fun L => ?_
  unfold t_ring_Room
  cases hk : openOk h with
  | false =>
    refine wp_qcall_det (x := (0, 0, 0, false, ())) (Open_at H (openV_bad hk)) ?_
    refine wp_true rfl ?_
    exact wp_ret_of ⟨by unfold roomF; rw [hk]; rfl, rfl⟩
  | true =>
    refine wp_qcall_det (x := (oBase h, oGen h, oClass h, true, ())) (Open_at H (by unfold openV; rw [hk]; rfl)) ?_
    refine wp_false rfl ?_
    refine wp_qcall_det (Size_det _ _) ?_
    exact wp_ret_of ⟨by unfold roomF; rw [hk]; rfl, rfl⟩
theorem word_spec (h : Int) (H : Heap) : SpecF Tryz.prog f_ring_word #[.int .i64 h] H fun v K => ∃ b, H b = none ∧ v = .func (.func f_ring_word_1) #[] #[.pointer (some ⟨b, 0, none⟩)] ∧ K = H.set b (.cells #[.int .i64 (roomF h)] ty_int (0, 0)) := by
  refine t_ring_word_spec fun L => ?_
  unfold t_ring_word
  refine wp_qcall_det (Room_det _ _) ?_
  refine wp_newP fun b hb => ?_
  refine wp_st_of (Heap.set_same _ _ _) rfl rfl ?_
  rw [Heap.set_set]
  exact wp_ret_of ⟨b, hb, rfl, rfl⟩
theorem word1_det {r i : Int} {b T : Nat} {H : Heap} (hb : H b = some (.cells #[.int .i64 r] T (0, 0))) (hr : 0 ≤ r ∧ r ≤ 64) :
    Det Tryz.prog f_ring_word_1 [.int .i64 i, .pointer (some ⟨b, 0, none⟩)] H (.int .i64 (if r = 0 then 0 else i % r)) H := by
  refine t_ring_word_1_spec fun L => ?_
  unfold t_ring_word_1
  have ld : H.cell? ⟨b, 0, none⟩ = some (.int .i64 r) := by rw [Heap.cell_of hb]; rfl
  refine wp_ld_of (x := r) ld ?_
  by_cases h0 : r = 0
  · refine wp_true (ibeq h0) ?_
    rw [if_pos h0]; exact wp_ret_of ⟨rfl, rfl⟩
  · refine wp_false (ibef h0) ?_
    rw [if_neg h0]
    refine wp_ld_of (x := r) ld ?_
    refine look_val (x := i.tmod r) (opS_rem h0) ?_
    refine wp_ld_of (x := r) ld ?_
    refine wp_ld_of (x := r) ld ?_
    refine look_val (x := (w64 (i.tmod r + r)).tmod r) (opS_rem h0) ?_
    refine wp_ret_of ⟨?_, rfl⟩
    have hp : 0 < r := by omega
    have h1 := tmod_place i r hp
    have h2 := Int.emod_nonneg i (by omega : r ≠ 0)
    have h3 := Int.emod_lt_of_pos i hp
    have h4 : 0 ≤ i.tmod r + r ∧ i.tmod r + r < 2 * r := by
      split at h1 <;> omega
    rw [w64_in (by omega) (by omega), Int.tmod_eq_emod_of_nonneg h4.1, Int.add_emod_right]
    congr 1
    split at h1
    · have h5 := Int.emod_eq_of_lt h4.1 (by omega : i.tmod r + r < r)
      rw [Int.add_emod_right] at h5
      rw [h5, h1]
    · rw [h1]; exact Int.emod_emod_of_dvd _ (Int.dvd_refl _)
theorem call_word (i : Int) (a : Addr) : opS Tryz.prog (.call { callee := .value (.tmp 0), args := #[(.tmp 1)], argTypes := #[ty_int] }) ty_int [(.func (.func f_ring_word_1) #[] #[.pointer (some a)]), (.int .i64 i)] =
    .pure (.enter f_ring_word_1 [.int .i64 i, .pointer (some a)].toArray) := by kernel_rfl
theorem RWord_det (h i : Int) (H : Heap) : Det Tryz.prog f_ring_Word [.int .i64 h, .int .i64 i] H (.int .i64 (wordF h i)) H := by
  refine t_ring_Word_spec fun L => ?_
  unfold t_ring_Word
  refine wp_call_of (word_spec h H) ?_
  rintro v K ⟨b, hb, rfl, rfl⟩
  refine ⟨.func (.func f_ring_word_1) #[] #[.pointer (some ⟨b, 0, none⟩)], rfl, ?_⟩
  have hr := roomF_of h
  refine look_enter (call_word _ _) (word1_det (Heap.set_same _ _ _) (by omega)) ?_
  exact ⟨H, Heap.le_set_new _ hb, rfl, rfl⟩
noncomputable def t_ring_NewCopy (p0 : Int) (p1 : Int) (p2 : Int) (p3 : Int) : Tree :=
 .call f_ring_word [(.int .i64 p0)] (.one (.leaf .fnc)) fun x14 =>
 .call f_ring_word [(.int .i64 p1)] (.one (.leaf .fnc)) fun x16 =>
 .newP (.cells #[(.int .i64 p0), (.int .i64 p1), (.int .i64 p2), (.int .i64 p3), (.func x14.fn x14.first x14.cap), (.func x16.fn x16.first x16.cap), (.int .i64 0), (.bool false)] ty_ring_Copy) fun x18 =>
 .ret (.pointer (some x18))
theorem t_ring_NewCopy_eq (p0 : Int) (p1 : Int) (p2 : Int) (p3 : Int) : funcTree Tryz.prog { quiet := [10, 32, 38, 59, 70, 74, 96, 104, 105, 106, 107, 108, 111, 112, 121, 124, 153, 158, 160], quietTmp := true, fncs := [14, 16], ifcs := [] } Tryz.f98 [(.int .i64 p0), (.int .i64 p1), (.int .i64 p2), (.int .i64 p3)] = t_ring_NewCopy p0 p1 p2 p3 := by kernel_rfl
theorem t_ring_NewCopy_spec {p0 : Int} {p1 : Int} {p2 : Int} {p3 : Int} {H : Heap} {R : Value → Heap → Prop} (h : ∀ L, wp Tryz.prog (t_ring_NewCopy p0 p1 p2 p3) L H R) : SpecF Tryz.prog f_ring_NewCopy #[(.int .i64 p0), (.int .i64 p1), (.int .i64 p2), (.int .i64 p3)] H R :=
 spec_of_tree (cfg := { quiet := [10, 32, 38, 59, 70, 74, 96, 104, 105, 106, 107, 108, 111, 112, 121, 124, 153, 158, 160], quietTmp := true, fncs := [14, 16], ifcs := [] }) Tryz.func98 fun L => (t_ring_NewCopy_eq p0 p1 p2 p3).symm ▸ h L
noncomputable def t_ring_Copy_Step (p0 : Option Addr) (p1 : Option Addr) : Tree :=
 lkN p0 fun x37 =>
 .ld (x37.add 2) (.int .i64) fun x39 =>
 lkN p0 fun x41 =>
 .ld (x41.add 3) (.int .i64) fun x43 =>
 bif (decide ((x39 : Int) ≥ x43)) then (
 lkN p0 fun x73 =>
 .ld (x73.add 2) (.int .i64) fun x75 =>
 lkN p0 fun x77 =>
 .ld (x77.add 3) (.int .i64) fun x79 =>
 .ret (.bool (decide ((x75 : Int) ≥ x79))))
 else (
 lkN p0 fun x47 =>
 .ld (x47.add 7) .bool fun x49 =>
 bif (!x49) then (
 lkN p0 fun x55 =>
 .ld x55 (.int .i64) fun x57 =>
 lkN p0 fun x59 =>
 .ld (x59.add 4) .val fun x61 =>
 lkN p0 fun x63 =>
 .ld (x63.add 2) (.int .i64) fun x65 =>
 .look (opS Tryz.prog (.call { callee := .value (.tmp 0), args := #[(.tmp 1)], argTypes := #[ty_int] }) ty_int [x61, (.int .i64 x65)]) (.one (.leaf (.int .i64))) fun x66 =>
 .call f_arena_Arena_Load [(.pointer p1), (.int .i64 x57), (.int .i64 x66)] (.one (.leaf (.int .i64))) fun x67 =>
 lkN p0 fun x68 =>
 .st (x68.add 6) (.int .i64 x67) <|
 lkN p0 fun x70 =>
 .st (x70.add 7) (.bool true) <|
 lkN p0 fun x73 =>
 .ld (x73.add 2) (.int .i64) fun x75 =>
 lkN p0 fun x77 =>
 .ld (x77.add 3) (.int .i64) fun x79 =>
 .ret (.bool (decide ((x75 : Int) ≥ x79))))
 else (
 lkN p0 fun x7 =>
 .ld (x7.add 1) (.int .i64) fun x9 =>
 lkN p0 fun x11 =>
 .ld (x11.add 5) .val fun x13 =>
 lkN p0 fun x15 =>
 .ld (x15.add 2) (.int .i64) fun x17 =>
 .look (opS Tryz.prog (.call { callee := .value (.tmp 0), args := #[(.tmp 1)], argTypes := #[ty_int] }) ty_int [x13, (.int .i64 x17)]) (.one (.leaf (.int .i64))) fun x18 =>
 lkN p0 fun x20 =>
 .ld (x20.add 6) (.int .i64) fun x22 =>
 .call f_arena_Arena_Store [(.pointer p1), (.int .i64 x9), (.int .i64 x18), (.int .i64 x22)] .unit fun _ =>
 lkN p0 fun x27 =>
 .ld (x27.add 2) (.int .i64) fun x29 =>
 lkN p0 fun x31 =>
 .st (x31.add 2) (.int .i64 (w64 (x29 + 1))) <|
 lkN p0 fun x33 =>
 .st (x33.add 7) (.bool false) <|
 lkN p0 fun x73 =>
 .ld (x73.add 2) (.int .i64) fun x75 =>
 lkN p0 fun x77 =>
 .ld (x77.add 3) (.int .i64) fun x79 =>
 .ret (.bool (decide ((x75 : Int) ≥ x79)))))
theorem t_ring_Copy_Step_spec {p0 : Option Addr} {p1 : Option Addr} : SpT f_ring_Copy_Step #[(.pointer p0), (.pointer p1)] (t_ring_Copy_Step p0 p1) := spT tcfg1 Tryz.func63 (by kernel_rfl)
structure Cp where
  q : Nat
  e1 : Nat
  e2 : Nat
  from' : Int
  to : Int
  at' : Int
  fin : Int
  v : Int
  has : Bool
namespace Cp
def arr (C : Cp) : Array Value := #[.int .i64 C.from', .int .i64 C.to, .int .i64 C.at', .int .i64 C.fin, .func (.func f_ring_word_1) #[] #[.pointer (some ⟨C.e1, 0, none⟩)], .func (.func f_ring_word_1) #[] #[.pointer (some ⟨C.e2, 0, none⟩)], .int .i64 C.v, .bool C.has]
def obj (C : Cp) : Obj := .cells C.arr ty_ring_Copy (0, 0)
def env (h : Int) : Obj := .cells #[.int .i64 (roomF h)] ty_int (0, 0)
def ids (C : Cp) : List Nat := [C.q, C.e1, C.e2]
def put (C : Cp) (H : Heap) : Heap := fun x => if x = C.q then some C.obj else if x = C.e1 then some (env C.from') else if x = C.e2 then some (env C.to) else H x
def ok (C : Cp) (A : Ar) : Prop := C.q ≠ C.e1 ∧ C.q ≠ C.e2 ∧ C.e1 ≠ C.e2 ∧ C.q ∉ A.ids ∧ C.e1 ∉ A.ids ∧ C.e2 ∉ A.ids
end Cp
section
variable {L : Hands} {H : Heap} {R : Value → Heap → Prop} {A : Ar} {C D : Cp}
theorem cp_q (h : C.ok A) (H : Heap) : A.put (C.put H) C.q = some C.obj := by rw [Ar.put_out h.2.2.2.1]; unfold Cp.put; rw [if_pos rfl]
theorem cp_e1 (h : C.ok A) (H : Heap) : A.put (C.put H) C.e1 = some (Cp.env C.from') := by rw [Ar.put_out h.2.2.2.2.1]; unfold Cp.put; rw [if_neg (Ne.symm h.1), if_pos rfl]
theorem cp_e2 (h : C.ok A) (H : Heap) : A.put (C.put H) C.e2 = some (Cp.env C.to) := by rw [Ar.put_out h.2.2.2.2.2]; unfold Cp.put; rw [if_neg (Ne.symm h.2.1), if_neg (Ne.symm h.2.2.1), if_pos rfl]
theorem cp_fld {p : Addr} {n : Nat} {l : Leaf} {x : l.T} {k : l.T → Tree} (hC : C.ok A) (h : wp Tryz.prog (k x) L (A.put (C.put H)) R) (hp : p = ⟨C.q, n, none⟩ := by rfl) (hx : C.arr[n]? = some (l.toVal x) := by rfl) :
    wp Tryz.prog (.ld p l k) L (A.put (C.put H)) R := by
  subst hp
  exact wp_ld_of ((Heap.cell_of (cp_q hC H) _).trans hx) h
theorem cp_set (D : Cp) {p : Addr} {n : Nat} {v u : Value} {k : Tree} (hC : C.ok A) (h : wp Tryz.prog k L (A.put (D.put H)) R) (hp : p = ⟨C.q, n, none⟩ := by rfl) (hn : C.arr[n]? = some u := by rfl)
    (hb : C.arr.setIfInBounds n v = D.arr := by rfl) (hD : D.q = C.q ∧ D.e1 = C.e1 ∧ D.e2 = C.e2 ∧ D.from' = C.from' ∧ D.to = C.to := by exact ⟨rfl, rfl, rfl, rfl, rfl⟩) (hs : Value.single v = true := by rfl) :
    wp Tryz.prog (.st p v k) L (A.put (C.put H)) R := by
  subst hp
  refine wp_st_of (cp_q hC H) hn hs ?_
  have : (A.put (C.put H)).set C.q (.cells (C.arr.setIfInBounds n v) ty_ring_Copy (0, 0)) = A.put (D.put H) := by
    rw [Ar.put_set _ hC.2.2.2.1, hb]
    congr 1
    funext y
    unfold Heap.set Cp.put
    rw [hD.1, hD.2.1, hD.2.2.1, hD.2.2.2.1, hD.2.2.2.2]
    by_cases hy : y = C.q
    · rw [if_pos hy, if_pos hy]; rfl
    · rw [if_neg hy, if_neg hy, if_neg hy]
  rw [this]; exact h
end
def pC (C : Cp) : Value := .pointer (some ⟨C.q, 0, none⟩)
theorem word1_at {h i : Int} {b : Nat} {H : Heap} (hb : H b = some (Cp.env h)) : Det Tryz.prog f_ring_word_1 [.int .i64 i, .pointer (some ⟨b, 0, none⟩)] H (.int .i64 (wordF h i)) H := by
  have hr := roomF_of h
  exact word1_det (r := roomF h) (T := ty_int) hb (by omega)
def Cp.loaded (C : Cp) (v : Int) : Cp := { C with v := v, has := true }
def Cp.stored (C : Cp) : Cp := { C with at' := w64 (C.at' + 1), has := false }
theorem Step_end {C : Cp} {A : Ar} (hC : C.ok A) (he : C.fin ≤ C.at') (H : Heap) : Det Tryz.prog f_ring_Copy_Step [pC C, pA A] (A.put (C.put H)) (.bool true) (A.put (C.put H)) := by
  refine t_ring_Copy_Step_spec fun L => ?_
  unfold t_ring_Copy_Step
  refine wp_nil.2 (cp_fld (x := C.at') (n := 2) hC (wp_nil.2 (cp_fld (x := C.fin) (n := 3) hC ?_)))
  refine wp_true (decide_eq_true he) (wp_nil.2 ?_)
  refine cp_fld (x := C.at') (n := 2) hC (wp_nil.2 (cp_fld (x := C.fin) (n := 3) hC ?_))
  exact wp_ret_of ⟨by rw [decide_eq_true (show C.at' ≥ C.fin from he)], rfl⟩
theorem Step_load {C : Cp} {A : Ar} (hA : A.wf) (hC : C.ok A) (he : C.at' < C.fin) (hh : C.has = false) (H : Heap) :
    Det Tryz.prog f_ring_Copy_Step [pC C, pA A] (A.put (C.put H)) (.bool false) ((A.touch C.from' (wordF C.from' C.at')).put ((C.loaded (A.loadF C.from' (wordF C.from' C.at'))).put H)) := by
  refine t_ring_Copy_Step_spec fun L => ?_
  unfold t_ring_Copy_Step
  refine wp_nil.2 (cp_fld (x := C.at') (n := 2) hC (wp_nil.2 (cp_fld (x := C.fin) (n := 3) hC ?_)))
  refine wp_false (decide_eq_false (by show ¬ C.at' ≥ C.fin; omega)) (wp_nil.2 ?_)
  refine cp_fld (x := C.has) (n := 7) hC ?_
  refine wp_true (by rw [hh]; rfl) (wp_nil.2 ?_)
  refine cp_fld (x := C.from') (n := 0) hC (wp_nil.2 ?_)
  refine cp_fld (x := Value.func (.func f_ring_word_1) #[] #[.pointer (some ⟨C.e1, 0, none⟩)]) (n := 4) hC (wp_nil.2 ?_)
  refine cp_fld (x := C.at') (n := 2) hC ?_
  refine look_enter (call_word _ _) (word1_at (cp_e1 hC H)) ?_
  refine wp_call_det (Load_at hA rfl rfl _) (wp_nil.2 ?_)
  have al := touch_alike A C.from' (wordF C.from' C.at')
  have hD : C.ok (A.touch C.from' (wordF C.from' C.at')) := by unfold Cp.ok; rw [al.ids]; exact hC
  generalize A.touch C.from' (wordF C.from' C.at') = B at *
  generalize A.loadF C.from' (wordF C.from' C.at') = v at *
  refine cp_set { C with v := v } (n := 6) hD (u := .int .i64 C.v) (wp_nil.2 ?_)
  refine cp_set (C := { C with v := v }) (C.loaded v) (n := 7) hD (u := .bool C.has) (wp_nil.2 ?_)
  refine cp_fld (C := C.loaded v) (x := C.at') (n := 2) hD (wp_nil.2 (cp_fld (C := C.loaded v) (x := C.fin) (n := 3) hD ?_))
  exact wp_ret_of ⟨by rw [decide_eq_false (show ¬ C.at' ≥ C.fin by omega)], rfl⟩
theorem Step_store {C : Cp} {A : Ar} (hA : A.wf) (hC : C.ok A) (he : C.at' < C.fin) (hh : C.has = true) (H : Heap) :
    Det Tryz.prog f_ring_Copy_Step [pC C, pA A] (A.put (C.put H)) (.bool (decide (w64 (C.at' + 1) ≥ C.fin))) ((A.storeF C.to (wordF C.to C.at') C.v).put (C.stored.put H)) := by
  refine t_ring_Copy_Step_spec fun L => ?_
  unfold t_ring_Copy_Step
  refine wp_nil.2 (cp_fld (x := C.at') (n := 2) hC (wp_nil.2 (cp_fld (x := C.fin) (n := 3) hC ?_)))
  refine wp_false (decide_eq_false (by show ¬ C.at' ≥ C.fin; omega)) (wp_nil.2 ?_)
  refine cp_fld (x := C.has) (n := 7) hC ?_
  refine wp_false (by rw [hh]; rfl) (wp_nil.2 ?_)
  refine cp_fld (x := C.to) (n := 1) hC (wp_nil.2 ?_)
  refine cp_fld (x := Value.func (.func f_ring_word_1) #[] #[.pointer (some ⟨C.e2, 0, none⟩)]) (n := 5) hC (wp_nil.2 ?_)
  refine cp_fld (x := C.at') (n := 2) hC ?_
  refine look_enter (call_word _ _) (word1_at (cp_e2 hC H)) (wp_nil.2 ?_)
  refine cp_fld (x := C.v) (n := 6) hC ?_
  refine wp_call_det (x := ()) (Store_at hA rfl _) (wp_nil.2 ?_)
  have al := storeF_alike A C.to (wordF C.to C.at') C.v
  have hD : C.ok (A.storeF C.to (wordF C.to C.at') C.v) := by unfold Cp.ok; rw [al.ids]; exact hC
  generalize A.storeF C.to (wordF C.to C.at') C.v = B at *
  refine cp_fld (x := C.at') (n := 2) hD (wp_nil.2 ?_)
  refine cp_set { C with at' := w64 (C.at' + 1) } (n := 2) hD (u := .int .i64 C.at') (wp_nil.2 ?_)
  refine cp_set (C := { C with at' := w64 (C.at' + 1) }) C.stored (n := 7) hD (u := .bool C.has) (wp_nil.2 ?_)
  refine cp_fld (C := C.stored) (x := w64 (C.at' + 1)) (n := 2) hD (wp_nil.2 (cp_fld (C := C.stored) (x := C.fin) (n := 3) hD ?_))
  exact wp_ret_of ⟨rfl, rfl⟩
theorem NewCopy_spec {A : Ar} (f t a b : Int) (H : Heap) :
    SpecF Tryz.prog f_ring_NewCopy #[.int .i64 f, .int .i64 t, .int .i64 a, .int .i64 b] (A.put H) fun v K => ∃ C : Cp, C.ok A ∧ (∀ x ∈ C.ids, H x = none) ∧ C.from' = f ∧ C.to = t ∧ C.at' = a ∧ C.fin = b ∧ C.v = 0 ∧ C.has = false ∧ v = pC C ∧ K = A.put (C.put H) := by
  refine t_ring_NewCopy_spec fun L => ?_
  unfold t_ring_NewCopy
  refine wp_call_of (word_spec f _) ?_
  rintro v K ⟨e1, he1, rfl, rfl⟩
  refine ⟨⟨.func f_ring_word_1, #[], #[.pointer (some ⟨e1, 0, none⟩)]⟩, rfl, ?_⟩
  refine wp_call_of (word_spec t _) ?_
  rintro v K ⟨e2, he2, rfl, rfl⟩
  refine ⟨⟨.func f_ring_word_1, #[], #[.pointer (some ⟨e2, 0, none⟩)]⟩, rfl, ?_⟩
  refine wp_newP fun q hq => ?_
  obtain ⟨h1, he2⟩ := set_none he2
  obtain ⟨h2, hq⟩ := set_none hq
  obtain ⟨h3, hq⟩ := set_none hq
  have n1 := Ar.put_none he1
  have n2 := Ar.put_none he2
  have n3 := Ar.put_none hq
  refine wp_ret_of ⟨⟨q, e1, e2, f, t, a, b, 0, false⟩, ⟨h3, h2, Ne.symm h1, n3.1, n1.1, n2.1⟩, ?_, rfl, rfl, rfl, rfl, rfl, rfl, rfl, ?_⟩
  · intro x hx
    unfold Cp.ids at hx
    simp only [List.mem_cons, List.not_mem_nil, or_false] at hx
    rcases hx with rfl | rfl | rfl
    · exact n3.2
    · exact n1.2
    · exact n2.2
  · rw [Ar.put_set _ n1.1, Ar.put_set _ n2.1, Ar.put_set _ n3.1]
    congr 1
    funext y
    unfold Heap.set Cp.put
    by_cases y1 : y = q
    · rw [if_pos y1, if_pos y1]; rfl
    · rw [if_neg y1, if_neg y1]
      by_cases y2 : y = e1
      · rw [if_pos y2, if_pos y2, if_neg (by rw [y2]; exact Ne.symm h1)]; rfl
      · rw [if_neg y2, if_neg y2]
        by_cases y3 : y = e2
        · rw [if_pos y3, if_pos y3]; rfl
        · rw [if_neg y3, if_neg y3]
noncomputable def t_deque_Raw (p0 : Int) (p1 : Int) : Tree :=
 .ret (.int .i64 (w64 (3 * (imax p0 0))))
theorem t_deque_Raw_spec {p0 : Int} {p1 : Int} : SpT f_deque_Raw #[(.int .i64 p0), (.int .i64 p1)] (t_deque_Raw p0 p1) := spT tcfg0 Tryz.func38 (by kernel_rfl)
noncomputable def t_deque_Word (p0 : Int) (p1 : Int) (p2 : Int) : Tree :=
 .ret (.int .i64 (w64 ((w64 (p0 + (w64 (3 * p1)))) + p2)))
theorem t_deque_Word_spec {p0 : Int} {p1 : Int} {p2 : Int} : SpT f_deque_Word #[(.int .i64 p0), (.int .i64 p1), (.int .i64 p2)] (t_deque_Word p0 p1 p2) := spT tcfg0 Tryz.func32 (by kernel_rfl)
noncomputable def t_deque_New (p0 : Option Addr) (p1 : Int) (p2 : Int) (p3 : Int) (p4_0 : Int) (p4_1 : Int) (p4_2 : Int) (p4_3 : Int) (p4_4 : Int) (p5 : Option Addr) : Tree :=
 .newP (.cells #[(.int .i64 p4_0), (.int .i64 p4_1), (.int .i64 p4_2), (.int .i64 p4_3), (.int .i64 p4_4)] ty_free_Place) fun x10 =>
 .ldA x10 [(.int .i64), (.int .i64), (.int .i64), (.int .i64), (.int .i64)] fun x17 =>
 .newP (.cells #[(.int .i64 p1), (.int .i64 p2), (.int .i64 0), (.int .i64 p3), (.int .i64 x17.1), (.int .i64 x17.2.1), (.int .i64 x17.2.2.1), (.int .i64 x17.2.2.2.1), (.int .i64 x17.2.2.2.2.1), (.pointer p5)] ty_deque_Own) fun x20 =>
 .call f_deque_Own_word [(.pointer (some x20)), (.int .i64 2)] (.one (.leaf (.int .i64))) fun x23 =>
 .call f_arena_Arena_SetRaw [(.pointer p0), (.int .i64 x23), (.int .i64 p3)] .unit fun _ =>
 .ret (.pointer (some x20))
theorem t_deque_New_spec {p0 : Option Addr} {p1 : Int} {p2 : Int} {p3 : Int} {p4_0 : Int} {p4_1 : Int} {p4_2 : Int} {p4_3 : Int} {p4_4 : Int} {p5 : Option Addr} : SpT f_deque_New #[(.pointer p0), (.int .i64 p1), (.int .i64 p2), (.int .i64 p3), (.agg #[(.int .i64 p4_0), (.int .i64 p4_1), (.int .i64 p4_2), (.int .i64 p4_3), (.int .i64 p4_4)]), (.pointer p5)] (t_deque_New p0 p1 p2 p3 p4_0 p4_1 p4_2 p4_3 p4_4 p5) := spT tcfg0 Tryz.func39 (by kernel_rfl)
noncomputable def t_deque_Own_word (p0 : Option Addr) (p1 : Int) : Tree :=
 lkN p0 fun x6 =>
 .ld x6 (.int .i64) fun x8 =>
 lkN p0 fun x10 =>
 .ld (x10.add 1) (.int .i64) fun x12 =>
 .qcall f_deque_Word [(.int .i64 x8), (.int .i64 x12), (.int .i64 p1)] (.one (.leaf (.int .i64))) fun x14 =>
 .ret (.int .i64 x14)
theorem t_deque_Own_word_spec {p0 : Option Addr} {p1 : Int} : SpT f_deque_Own_word #[(.pointer p0), (.int .i64 p1)] (t_deque_Own_word p0 p1) := spT tcfg0 Tryz.func58 (by kernel_rfl)
noncomputable def t_deque_Own_Push (p0 : Option Addr) (p1 : Int) : Tree :=
 .newP (.cells #[(.pointer p0), (.int .i64 p1), (.int .i64 0), (.int .i64 0), (.pointer none), (.pointer none), .nilIface, (.int .i64 0), (.bool false)] ty_deque_Push) fun x8 =>
 .ret (.pointer (some x8))
theorem t_deque_Own_Push_spec {p0 : Option Addr} {p1 : Int} : SpT f_deque_Own_Push #[(.pointer p0), (.int .i64 p1)] (t_deque_Own_Push p0 p1) := spT tcfg0 Tryz.func14 (by kernel_rfl)
noncomputable def t_deque_Own_Pop (p0 : Option Addr) : Tree :=
 .newP (.cells #[(.pointer p0), (.int .i64 0), (.int .i64 0), (.int .i64 0), (.bool false)] ty_deque_Pop) fun x5 =>
 .ret (.pointer (some x5))
theorem t_deque_Own_Pop_spec {p0 : Option Addr} : SpT f_deque_Own_Pop #[(.pointer p0)] (t_deque_Own_Pop p0) := spT tcfg0 Tryz.func26 (by kernel_rfl)
noncomputable def t_deque_Own_Size (p0 : Option Addr) (p1 : Option Addr) : Tree :=
 .call f_deque_Own_word [(.pointer p0), (.int .i64 1)] (.one (.leaf (.int .i64))) fun x8 =>
 .call f_arena_Arena_Raw [(.pointer p1), (.int .i64 x8)] (.one (.leaf (.int .i64))) fun x9 =>
 .call f_deque_Own_word [(.pointer p0), (.int .i64 0)] (.one (.leaf (.int .i64))) fun x13 =>
 .call f_arena_Arena_Raw [(.pointer p1), (.int .i64 x13)] (.one (.leaf (.int .i64))) fun x14 =>
 .ret (.int .i64 (imax (w64 (x9 - x14)) 0))
theorem t_deque_Own_Size_spec {p0 : Option Addr} {p1 : Option Addr} : SpT f_deque_Own_Size #[(.pointer p0), (.pointer p1)] (t_deque_Own_Size p0 p1) := spT tcfg0 Tryz.func29 (by kernel_rfl)
noncomputable def t_deque_Push_grow (p0 : Option Addr) : Tree :=
 lkN p0 fun x8 =>
 .ld x8 .ptr fun x10 =>
 lkN x10 fun x11 =>
 .ld (x11.add 3) (.int .i64) fun x13 =>
 .qcall f_handle_Open [(.int .i64 x13)] (.tup [(.leaf (.int .i64)), (.leaf (.int .i64)), (.leaf (.int .i64)), (.leaf .bool)]) fun x14 =>
 lkN p0 fun x20 =>
 .st (x20.add 3) (.int .i64 7) <|
 bif (decide (((w64 (x14.2.2.1 + 1)) : Int) < 4)) then (
 lkN p0 fun x28 =>
 .ld x28 .ptr fun x30 =>
 lkN x30 fun x31 =>
 .ldA (x31.add 4) [(.int .i64), (.int .i64), (.int .i64), (.int .i64), (.int .i64)] fun x33 =>
 lkN p0 fun x35 =>
 .ld x35 .ptr fun x37 =>
 lkN x37 fun x38 =>
 .ld (x38.add 1) (.int .i64) fun x40 =>
 .call f_slab_NewAlloc [(.agg #[(.int .i64 x33.1), (.int .i64 x33.2.1), (.int .i64 x33.2.2.1), (.int .i64 x33.2.2.2.1), (.int .i64 x33.2.2.2.2.1)]), (.int .i64 x40), (.int .i64 (w64 (x14.2.2.1 + 1)))] (.one (.leaf .ptr)) fun x43 =>
 lkN p0 fun x44 =>
 .st (x44.add 3) (.int .i64 1) <|
 lkN p0 fun x46 =>
 .st (x46.add 4) (.pointer x43) <|
 .ret (.tuple #[]))
 else (
 .ret (.tuple #[]))
theorem t_deque_Push_grow_spec {p0 : Option Addr} : SpT f_deque_Push_grow #[(.pointer p0)] (t_deque_Push_grow p0) := spT tcfg0 Tryz.func60 (by kernel_rfl)
noncomputable def t_deque_Push_allocated (p0 : Option Addr) : Tree :=
 lkN p0 fun x6 =>
 .ld (x6.add 4) .ptr fun x8 =>
 .call f_slab_Alloc_Handle [(.pointer x8)] (.tup [(.leaf (.int .i64)), (.leaf .bool)]) fun x9 =>
 lkN p0 fun x13 =>
 .st (x13.add 3) (.int .i64 7) <|
 bif x9.2.1 then (
 lkN p0 fun x21 =>
 .ld x21 .ptr fun x23 =>
 lkN x23 fun x24 =>
 .ld (x24.add 3) (.int .i64) fun x26 =>
 lkN p0 fun x29 =>
 .ld (x29.add 2) (.int .i64) fun x31 =>
 lkN p0 fun x33 =>
 .ld x33 .ptr fun x35 =>
 lkN x35 fun x36 =>
 .ld (x36.add 2) (.int .i64) fun x38 =>
 .call f_ring_NewCopy [(.int .i64 x26), (.int .i64 x9.1), (.int .i64 x31), (.int .i64 x38)] (.one (.leaf .ptr)) fun x39 =>
 lkN p0 fun x40 =>
 .st (x40.add 7) (.int .i64 x9.1) <|
 lkN p0 fun x42 =>
 .st (x42.add 3) (.int .i64 2) <|
 lkN p0 fun x44 =>
 .st (x44.add 5) (.pointer x39) <|
 .ret (.tuple #[]))
 else (
 .ret (.tuple #[]))
theorem t_deque_Push_allocated_spec {p0 : Option Addr} : SpT f_deque_Push_allocated #[(.pointer p0)] (t_deque_Push_allocated p0) := spT tcfg0 Tryz.func62 (by kernel_rfl)
noncomputable def t_deque_Push_Step (p0 : Option Addr) (p1 : Option Addr) : Tree :=
 lkN p0 fun x8 =>
 .ld x8 .ptr fun x10 =>
 lkN p0 fun x12 =>
 .ld (x12.add 3) (.int .i64) fun x14 =>
 bif ((x14 : Int) == 0) then (
 .call f_deque_Own_word [(.pointer x10), (.int .i64 0)] (.one (.leaf (.int .i64))) fun x20 =>
 .call f_arena_Arena_Raw [(.pointer p1), (.int .i64 x20)] (.one (.leaf (.int .i64))) fun x21 =>
 lkN p0 fun x22 =>
 .st (x22.add 2) (.int .i64 x21) <|
 lkN p0 fun x25 =>
 .st (x25.add 3) (.int .i64 5) <|
 lkN x10 fun x28 =>
 .ld (x28.add 2) (.int .i64) fun x30 =>
 lkN p0 fun x32 =>
 .ld (x32.add 2) (.int .i64) fun x34 =>
 lkN x10 fun x37 =>
 .ld (x37.add 3) (.int .i64) fun x39 =>
 .qcall f_ring_Room [(.int .i64 x39)] (.one (.leaf (.int .i64))) fun x40 =>
 bif (decide (((w64 (x30 - x34)) : Int) ≥ x40)) then (
 .call f_deque_Push_grow [(.pointer p0)] .unit fun _ =>
 lkN p0 fun x170 =>
 .ld (x170.add 3) (.int .i64) fun x172 =>
 .ret (.bool ((x172 : Int) == 7)))
 else (
 lkN p0 fun x170 =>
 .ld (x170.add 3) (.int .i64) fun x172 =>
 .ret (.bool ((x172 : Int) == 7))))
 else (
 bif ((x14 : Int) == 1) then (
 lkN p0 fun x47 =>
 .ld (x47.add 4) .ptr fun x49 =>
 .call f_slab_Alloc_Step [(.pointer x49), (.pointer p1)] (.one (.leaf .bool)) fun x51 =>
 bif x51 then (
 .call f_deque_Push_allocated [(.pointer p0)] .unit fun _ =>
 lkN p0 fun x170 =>
 .ld (x170.add 3) (.int .i64) fun x172 =>
 .ret (.bool ((x172 : Int) == 7)))
 else (
 lkN p0 fun x170 =>
 .ld (x170.add 3) (.int .i64) fun x172 =>
 .ret (.bool ((x172 : Int) == 7))))
 else (
 bif ((x14 : Int) == 2) then (
 lkN p0 fun x57 =>
 .ld (x57.add 5) .ptr fun x59 =>
 .call f_ring_Copy_Step [(.pointer x59), (.pointer p1)] (.one (.leaf .bool)) fun x61 =>
 bif x61 then (
 lkN p0 fun x63 =>
 .st (x63.add 3) (.int .i64 3) <|
 lkN p0 fun x170 =>
 .ld (x170.add 3) (.int .i64) fun x172 =>
 .ret (.bool ((x172 : Int) == 7)))
 else (
 lkN p0 fun x170 =>
 .ld (x170.add 3) (.int .i64) fun x172 =>
 .ret (.bool ((x172 : Int) == 7))))
 else (
 bif ((x14 : Int) == 3) then (
 lkN p0 fun x71 =>
 .ld (x71.add 7) (.int .i64) fun x73 =>
 .call f_deque_Own_word [(.pointer x10), (.int .i64 2)] (.one (.leaf (.int .i64))) fun x69 =>
 .check (ldS (x71.add 7)) (.int .i64 x73) <|
 .check (nck p0) (.pointer (some x71)) <|
 .call f_arena_Arena_SetRaw [(.pointer p1), (.int .i64 x69), (.int .i64 x73)] .unit fun _ =>
 lkN x10 fun x76 =>
 .ld (x76.add 3) (.int .i64) fun x78 =>
 lkN p0 fun x81 =>
 .ld (x81.add 7) (.int .i64) fun x83 =>
 lkN x10 fun x84 =>
 .st (x84.add 3) (.int .i64 x83) <|
 lkN x10 fun x88 =>
 .ld (x88.add 9) .ptr fun x90 =>
 lkN x10 fun x93 =>
 .ld (x93.add 1) (.int .i64) fun x95 =>
 .call f_guard_Guard_Retire [(.pointer x90), (.pointer p1), (.int .i64 x95), (.int .i64 x78)] (.one (.leaf .val)) fun x97 =>
 lkN p0 fun x98 =>
 .act (opS Tryz.prog (.store ty_guard_Machine (.tmp 0) (.tmp 1)) ty_unit [(.pointer (some (x98.add 6))), x97]) .unit fun _ =>
 lkN p0 fun x101 =>
 .st (x101.add 3) (.int .i64 4) <|
 lkN p0 fun x104 =>
 .ld (x104.add 6) .val fun x106 =>
 .look (opS Tryz.prog (.binOp .eql ty_guard_Machine (.tmp 0) (.const .nilIface) ty_guard_Machine) ty_bool [x106]) (.one (.leaf .bool)) fun x107 =>
 bif x107 then (
 lkN p0 fun x109 =>
 .st (x109.add 3) (.int .i64 5) <|
 lkN p0 fun x170 =>
 .ld (x170.add 3) (.int .i64) fun x172 =>
 .ret (.bool ((x172 : Int) == 7)))
 else (
 lkN p0 fun x170 =>
 .ld (x170.add 3) (.int .i64) fun x172 =>
 .ret (.bool ((x172 : Int) == 7))))
 else (
 bif ((x14 : Int) == 4) then (
 lkN p0 fun x114 =>
 .ld (x114.add 6) .val fun x116 =>
 .act (opS Tryz.prog (.call { callee := .invoke (.tmp 0) "Step", args := #[(.tmp 1)], argTypes := #[ty_p_arena_Arena] }) ty_bool [x116, (.pointer p1)]) (.one (.leaf .bool)) fun x118 =>
 bif x118 then (
 lkN p0 fun x120 =>
 .st (x120.add 3) (.int .i64 5) <|
 lkN p0 fun x170 =>
 .ld (x170.add 3) (.int .i64) fun x172 =>
 .ret (.bool ((x172 : Int) == 7)))
 else (
 lkN p0 fun x170 =>
 .ld (x170.add 3) (.int .i64) fun x172 =>
 .ret (.bool ((x172 : Int) == 7))))
 else (
 bif ((x14 : Int) == 5) then (
 lkN x10 fun x126 =>
 .ld (x126.add 3) (.int .i64) fun x128 =>
 lkN x10 fun x130 =>
 .ld (x130.add 3) (.int .i64) fun x132 =>
 lkN x10 fun x134 =>
 .ld (x134.add 2) (.int .i64) fun x136 =>
 lkN p0 fun x139 =>
 .ld (x139.add 1) (.int .i64) fun x141 =>
 .call f_ring_Word [(.int .i64 x132), (.int .i64 x136)] (.one (.leaf (.int .i64))) fun x137 =>
 .check (ldS (x139.add 1)) (.int .i64 x141) <|
 .check (nck p0) (.pointer (some x139)) <|
 .check (ldS (x126.add 3)) (.int .i64 x128) <|
 .check (nck x10) (.pointer (some x126)) <|
 .call f_arena_Arena_Store [(.pointer p1), (.int .i64 x128), (.int .i64 x137), (.int .i64 x141)] .unit fun _ =>
 lkN p0 fun x144 =>
 .st (x144.add 3) (.int .i64 6) <|
 lkN p0 fun x170 =>
 .ld (x170.add 3) (.int .i64) fun x172 =>
 .ret (.bool ((x172 : Int) == 7)))
 else (
 bif ((x14 : Int) == 6) then (
 lkN x10 fun x149 =>
 .ld (x149.add 2) (.int .i64) fun x151 =>
 lkN x10 fun x153 =>
 .st (x153.add 2) (.int .i64 (w64 (x151 + 1))) <|
 lkN x10 fun x159 =>
 .ld (x159.add 2) (.int .i64) fun x161 =>
 .call f_deque_Own_word [(.pointer x10), (.int .i64 1)] (.one (.leaf (.int .i64))) fun x157 =>
 .check (ldS (x159.add 2)) (.int .i64 x161) <|
 .check (nck x10) (.pointer (some x159)) <|
 .call f_arena_Arena_SetRaw [(.pointer p1), (.int .i64 x157), (.int .i64 x161)] .unit fun _ =>
 lkN p0 fun x165 =>
 .st (x165.add 3) (.int .i64 7) <|
 lkN p0 fun x167 =>
 .st (x167.add 8) (.bool true) <|
 lkN p0 fun x170 =>
 .ld (x170.add 3) (.int .i64) fun x172 =>
 .ret (.bool ((x172 : Int) == 7)))
 else (
 lkN p0 fun x170 =>
 .ld (x170.add 3) (.int .i64) fun x172 =>
 .ret (.bool ((x172 : Int) == 7)))))))))
theorem t_deque_Push_Step_spec {p0 : Option Addr} {p1 : Option Addr} : SpT f_deque_Push_Step #[(.pointer p0), (.pointer p1)] (t_deque_Push_Step p0 p1) := spT tcfg0 Tryz.func22 (by kernel_rfl)
noncomputable def t_deque_Push_Went (p0 : Option Addr) : Tree :=
 lkN p0 fun x4 =>
 .ld (x4.add 8) .bool fun x6 =>
 .ret (.bool x6)
theorem t_deque_Push_Went_spec {p0 : Option Addr} : SpT f_deque_Push_Went #[(.pointer p0)] (t_deque_Push_Went p0) := spT tcfg0 Tryz.func23 (by kernel_rfl)
noncomputable def t_deque_Pop_Step (p0 : Option Addr) (p1 : Option Addr) : Tree :=
 lkN p0 fun x7 =>
 .ld x7 .ptr fun x9 =>
 lkN p0 fun x11 =>
 .ld (x11.add 2) (.int .i64) fun x13 =>
 bif ((x13 : Int) == 0) then (
 lkN x9 fun x25 =>
 .ld (x25.add 2) (.int .i64) fun x27 =>
 lkN x9 fun x29 =>
 .st (x29.add 2) (.int .i64 (w64 (x27 - 1))) <|
 lkN x9 fun x35 =>
 .ld (x35.add 2) (.int .i64) fun x37 =>
 .call f_deque_Own_word [(.pointer x9), (.int .i64 1)] (.one (.leaf (.int .i64))) fun x33 =>
 .check (ldS (x35.add 2)) (.int .i64 x37) <|
 .check (nck x9) (.pointer (some x35)) <|
 .call f_arena_Arena_SetRaw [(.pointer p1), (.int .i64 x33), (.int .i64 x37)] .unit fun _ =>
 lkN p0 fun x40 =>
 .st (x40.add 2) (.int .i64 1) <|
 lkN p0 fun x143 =>
 .ld (x143.add 2) (.int .i64) fun x145 =>
 .ret (.bool ((x145 : Int) == 5)))
 else (
 bif ((x13 : Int) == 1) then (
 .call f_deque_Own_word [(.pointer x9), (.int .i64 0)] (.one (.leaf (.int .i64))) fun x45 =>
 .call f_arena_Arena_Raw [(.pointer p1), (.int .i64 x45)] (.one (.leaf (.int .i64))) fun x46 =>
 lkN p0 fun x47 =>
 .st (x47.add 1) (.int .i64 x46) <|
 lkN p0 fun x50 =>
 .st (x50.add 2) (.int .i64 2) <|
 lkN p0 fun x53 =>
 .ld (x53.add 1) (.int .i64) fun x55 =>
 lkN x9 fun x57 =>
 .ld (x57.add 2) (.int .i64) fun x59 =>
 bif (decide ((x55 : Int) > x59)) then (
 lkN p0 fun x62 =>
 .st (x62.add 2) (.int .i64 4) <|
 lkN p0 fun x143 =>
 .ld (x143.add 2) (.int .i64) fun x145 =>
 .ret (.bool ((x145 : Int) == 5)))
 else (
 lkN p0 fun x143 =>
 .ld (x143.add 2) (.int .i64) fun x145 =>
 .ret (.bool ((x145 : Int) == 5))))
 else (
 bif ((x13 : Int) == 2) then (
 lkN x9 fun x67 =>
 .ld (x67.add 3) (.int .i64) fun x69 =>
 lkN x9 fun x71 =>
 .ld (x71.add 3) (.int .i64) fun x73 =>
 lkN x9 fun x75 =>
 .ld (x75.add 2) (.int .i64) fun x77 =>
 .call f_ring_Word [(.int .i64 x73), (.int .i64 x77)] (.one (.leaf (.int .i64))) fun x78 =>
 .check (ldS (x67.add 3)) (.int .i64 x69) <|
 .check (nck x9) (.pointer (some x67)) <|
 .call f_arena_Arena_Load [(.pointer p1), (.int .i64 x69), (.int .i64 x78)] (.one (.leaf (.int .i64))) fun x79 =>
 lkN p0 fun x80 =>
 .st (x80.add 3) (.int .i64 x79) <|
 lkN p0 fun x83 =>
 .st (x83.add 2) (.int .i64 3) <|
 lkN p0 fun x86 =>
 .ld (x86.add 1) (.int .i64) fun x88 =>
 lkN x9 fun x90 =>
 .ld (x90.add 2) (.int .i64) fun x92 =>
 bif (decide ((x88 : Int) < x92)) then (
 lkN p0 fun x96 =>
 .st (x96.add 2) (.int .i64 5) <|
 lkN p0 fun x98 =>
 .st (x98.add 4) (.bool true) <|
 lkN p0 fun x143 =>
 .ld (x143.add 2) (.int .i64) fun x145 =>
 .ret (.bool ((x145 : Int) == 5)))
 else (
 lkN p0 fun x143 =>
 .ld (x143.add 2) (.int .i64) fun x145 =>
 .ret (.bool ((x145 : Int) == 5))))
 else (
 bif ((x13 : Int) == 3) then (
 lkN p0 fun x105 =>
 .ld (x105.add 1) (.int .i64) fun x107 =>
 lkN p0 fun x109 =>
 .ld (x109.add 1) (.int .i64) fun x111 =>
 .call f_deque_Own_word [(.pointer x9), (.int .i64 0)] (.one (.leaf (.int .i64))) fun x103 =>
 .check (ldS (x109.add 1)) (.int .i64 x111) <|
 .check (nck p0) (.pointer (some x109)) <|
 .check (ldS (x105.add 1)) (.int .i64 x107) <|
 .check (nck p0) (.pointer (some x105)) <|
 .call f_arena_Arena_SwapRaw [(.pointer p1), (.int .i64 x103), (.int .i64 x107), (.int .i64 (w64 (x111 + 1)))] (.one (.leaf .bool)) fun x113 =>
 lkN p0 fun x114 =>
 .st (x114.add 4) (.bool x113) <|
 lkN p0 fun x117 =>
 .ld (x117.add 2) (.int .i64) fun x119 =>
 bif ((x119 : Int) == 3) then (
 lkN p0 fun x122 =>
 .st (x122.add 2) (.int .i64 4) <|
 lkN p0 fun x143 =>
 .ld (x143.add 2) (.int .i64) fun x145 =>
 .ret (.bool ((x145 : Int) == 5)))
 else (
 lkN x9 fun x125 =>
 .ld (x125.add 2) (.int .i64) fun x127 =>
 lkN x9 fun x129 =>
 .st (x129.add 2) (.int .i64 (w64 (x127 + 1))) <|
 lkN x9 fun x135 =>
 .ld (x135.add 2) (.int .i64) fun x137 =>
 .call f_deque_Own_word [(.pointer x9), (.int .i64 1)] (.one (.leaf (.int .i64))) fun x133 =>
 .check (ldS (x135.add 2)) (.int .i64 x137) <|
 .check (nck x9) (.pointer (some x135)) <|
 .call f_arena_Arena_SetRaw [(.pointer p1), (.int .i64 x133), (.int .i64 x137)] .unit fun _ =>
 lkN p0 fun x140 =>
 .st (x140.add 2) (.int .i64 5) <|
 lkN p0 fun x143 =>
 .ld (x143.add 2) (.int .i64) fun x145 =>
 .ret (.bool ((x145 : Int) == 5))))
 else (
 bif ((x13 : Int) == 4) then (
 lkN p0 fun x117 =>
 .ld (x117.add 2) (.int .i64) fun x119 =>
 bif ((x119 : Int) == 3) then (
 lkN p0 fun x122 =>
 .st (x122.add 2) (.int .i64 4) <|
 lkN p0 fun x143 =>
 .ld (x143.add 2) (.int .i64) fun x145 =>
 .ret (.bool ((x145 : Int) == 5)))
 else (
 lkN x9 fun x125 =>
 .ld (x125.add 2) (.int .i64) fun x127 =>
 lkN x9 fun x129 =>
 .st (x129.add 2) (.int .i64 (w64 (x127 + 1))) <|
 lkN x9 fun x135 =>
 .ld (x135.add 2) (.int .i64) fun x137 =>
 .call f_deque_Own_word [(.pointer x9), (.int .i64 1)] (.one (.leaf (.int .i64))) fun x133 =>
 .check (ldS (x135.add 2)) (.int .i64 x137) <|
 .check (nck x9) (.pointer (some x135)) <|
 .call f_arena_Arena_SetRaw [(.pointer p1), (.int .i64 x133), (.int .i64 x137)] .unit fun _ =>
 lkN p0 fun x140 =>
 .st (x140.add 2) (.int .i64 5) <|
 lkN p0 fun x143 =>
 .ld (x143.add 2) (.int .i64) fun x145 =>
 .ret (.bool ((x145 : Int) == 5))))
 else (
 lkN p0 fun x143 =>
 .ld (x143.add 2) (.int .i64) fun x145 =>
 .ret (.bool ((x145 : Int) == 5)))))))
theorem t_deque_Pop_Step_spec {p0 : Option Addr} {p1 : Option Addr} : SpT f_deque_Pop_Step #[(.pointer p0), (.pointer p1)] (t_deque_Pop_Step p0 p1) := spT tcfg0 Tryz.func24 (by kernel_rfl)
noncomputable def t_deque_Pop_Value (p0 : Option Addr) : Tree :=
 lkN p0 fun x5 =>
 .ld (x5.add 4) .bool fun x7 =>
 bif (!x7) then (
 .ret (.tuple #[(.int .i64 0), (.bool false)]))
 else (
 lkN p0 fun x11 =>
 .ld (x11.add 2) (.int .i64) fun x13 =>
 bif ((x13 : Int) != 5) then (
 .ret (.tuple #[(.int .i64 0), (.bool false)]))
 else (
 lkN p0 fun x17 =>
 .ld (x17.add 3) (.int .i64) fun x19 =>
 .ret (.tuple #[(.int .i64 x19), (.bool true)])))
theorem t_deque_Pop_Value_spec {p0 : Option Addr} : SpT f_deque_Pop_Value #[(.pointer p0)] (t_deque_Pop_Value p0) := spT tcfg0 Tryz.func25 (by kernel_rfl)
structure Cm where
  f : Int
  t : Int
  at_ : Int
  fin : Int
  v : Int
  has : Bool
def Cm.cp (x : Cm) (j : Nat × Nat × Nat) : Cp := ⟨j.1, j.2.1, j.2.2, x.f, x.t, x.at_, x.fin, x.v, x.has⟩
def Cm.bl (x : Cm) (j : Nat × Nat × Nat) : Bl := [(j.1, (x.cp j).obj), (j.2.1, Cp.env x.f), (j.2.2, Cp.env x.t)]
def Cm.step (x : Cm) (A : Ar) : Cm × Ar :=
  if x.fin ≤ x.at_ then (x, A)
  else if x.has = false then ({ x with v := A.loadF x.f (wordF x.f x.at_), has := true }, A.touch x.f (wordF x.f x.at_))
  else ({ x with at_ := w64 (x.at_ + 1), has := false }, A.storeF x.t (wordF x.t x.at_) x.v)
def mCp : Mch Cm (Nat × Nat × Nat) where
  f := f_ring_Copy_Step
  addr := fun j => j.1
  bl := Cm.bl
  inv := fun _ _ => True
  step := Cm.step
  fin := fun x => decide (x.fin ≤ x.at_)
theorem cm_put (x : Cm) (j : Nat × Nat × Nat) (G : Heap) : putL (x.bl j) G = (x.cp j).put G := by
  funext y
  show (((G.set j.2.2 (Cp.env x.t)).set j.2.1 (Cp.env x.f)).set j.1 (x.cp j).obj) y = (if y = j.1 then some (x.cp j).obj else if y = j.2.1 then some (Cp.env x.f) else if y = j.2.2 then some (Cp.env x.t) else G y)
  unfold Heap.set
  rfl
theorem cm_ok {I : List Nat} {A : Ar} {G : Heap} {x : Cm} {j : Nat × Nat × Nat} (hA : Aw I A) (ok : Ok I G (keys (x.bl j))) : (x.cp j).ok A := by
  have nd : [j.1, j.2.1, j.2.2].Nodup := ok.nd
  have out : ∀ b ∈ [j.1, j.2.1, j.2.2], b ∉ I := ok.out
  simp only [List.nodup_cons, List.mem_cons, not_or, List.not_mem_nil, not_false_eq_true, and_true] at nd
  have hi := hA.ids
  refine ⟨nd.1.1, nd.1.2, nd.2.1, ?_, ?_, ?_⟩
  · rw [hi]; exact out j.1 (by simp)
  · rw [hi]; exact out j.2.1 (by simp)
  · rw [hi]; exact out j.2.2 (by simp)
theorem mCp_ok : mCp.ok := by
  intro I A G x j hA ok hi
  have hC := cm_ok hA ok
  have hp : Value.pointer (aI I) = pA A := hA.pA
  have e0 : own A (x.bl j) G = A.put ((x.cp j).put G) := by unfold own; rw [cm_put]
  show SpecF Tryz.prog f_ring_Copy_Step #[.pointer (some ⟨j.1, 0, none⟩), .pointer (aI I)] (own A (x.bl j) G) fun v K => ∃ j', v = .bool (decide ((x.step A).1.fin ≤ (x.step A).1.at_)) ∧ K = own (x.step A).2 ((x.step A).1.bl j') G ∧ j'.1 = j.1 ∧ Ok I G (keys ((x.step A).1.bl j')) ∧ Aw I (x.step A).2
  rw [e0, hp]
  unfold Cm.step
  by_cases h1 : x.fin ≤ x.at_
  · rw [if_pos h1]
    refine (Step_end (C := x.cp j) hC h1 G).mono ?_
    rintro v K ⟨rfl, rfl⟩
    exact ⟨j, by rw [decide_eq_true h1], e0.symm, rfl, ok, hA⟩
  · rw [if_neg h1]
    have h1' : x.at_ < x.fin := by omega
    by_cases h2 : x.has = false
    · rw [if_pos h2]
      refine (Step_load (C := x.cp j) hA.wf hC h1' h2 G).mono ?_
      rintro v K ⟨rfl, rfl⟩
      refine ⟨j, by rw [decide_eq_false h1], ?_, rfl, ok, hA.touch _ _⟩
      unfold own; rw [cm_put]; rfl
    · rw [if_neg h2]
      refine (Step_store (C := x.cp j) hA.wf hC h1' (show x.has = true by simpa using h2) G).mono ?_
      rintro v K ⟨rfl, rfl⟩
      refine ⟨j, rfl, ?_, rfl, ok, hA.storeF _ _ _⟩
      unfold own; rw [cm_put]; rfl
section
variable {L : Hands} {R : Value → Heap → Prop} {G : Heap} {l rest : Bl} {A A' : Ar} {I : List Nat}
theorem w_NewCopy {f t a b : Int} {k : Option Addr → Tree} (hA : Aw I A) (ok : Ok I G (keys l)) (h : ∀ j : Nat × Nat × Nat, Ok I G (keys (Cm.bl ⟨f, t, a, b, 0, false⟩ j ++ l)) → wp Tryz.prog (k (some ⟨j.1, 0, none⟩)) L (own A (Cm.bl ⟨f, t, a, b, 0, false⟩ j ++ l) G) R) :
    wp Tryz.prog (.call f_ring_NewCopy [.int .i64 f, .int .i64 t, .int .i64 a, .int .i64 b] (.one (.leaf .ptr)) k) L (own A l G) R := by
  refine w_make (J := Nat × Nat × Nat) (bl := Cm.bl ⟨f, t, a, b, 0, false⟩) (val := fun j => some ⟨j.1, 0, none⟩) (fun G => ?_) ok h
  refine (NewCopy_spec (A := A) f t a b G).mono ?_
  rintro v K ⟨C, hC, hid, h1, h2, h3, h4, h5, h6, rfl, rfl⟩
  obtain ⟨q, e1, e2, f', t', a', b', v', has'⟩ := C
  have h1 : f' = f := h1
  have h2 : t' = t := h2
  have h3 : a' = a := h3
  have h4 : b' = b := h4
  have h5 : v' = 0 := h5
  have h6 : has' = false := h6
  subst h1 h2 h3 h4 h5 h6
  refine ⟨(q, e1, e2), rfl, ?_, ⟨?_, fun b hb => ?_, fun b hb => hid b hb⟩⟩
  · unfold own; rw [cm_put]; rfl
  · show [q, e1, e2].Nodup
    have hc := hC
    obtain ⟨c1, c2, c3, _⟩ := hc
    have c1 : q ≠ e1 := c1
    have c2 : q ≠ e2 := c2
    have c3 : e1 ≠ e2 := c3
    simp [c1, c2, c3]
  · have hb : b ∈ [q, e1, e2] := hb
    obtain ⟨_, _, _, c4, c5, c6⟩ := hC
    rw [hA.ids] at c4 c5 c6
    simp only [List.mem_cons, List.not_mem_nil, or_false] at hb
    rcases hb with rfl | rfl | rfl
    · exact c4
    · exact c5
    · exact c6
structure DOw where
  at_ : Int
  work : Int
  b : Int
  h : Int
  pl : Pl
def owC (o : DOw) (q : Nat) : List Value := [.int .i64 o.at_, .int .i64 o.work, .int .i64 o.b, .int .i64 o.h, .int .i64 o.pl.work, .int .i64 o.pl.heads, .int .i64 o.pl.links, .int .i64 o.pl.gens, .int .i64 o.pl.carved, .pointer (some ⟨q, 0, none⟩)]
def dw (at_ work k : Int) : Int := at_ + 3 * work + k
structure DOw.bnd (o : DOw) : Prop where
  a : 0 ≤ o.at_ ∧ o.at_ ≤ 1000000
  w : 0 ≤ o.work ∧ o.work ≤ 1000
theorem DWord_det (a w k : Int) (ha : 0 ≤ a ∧ a ≤ 1000000) (hw : 0 ≤ w ∧ w ≤ 1000) (hk : 0 ≤ k ∧ k ≤ 10) (H : Heap) : Det Tryz.prog f_deque_Word [.int .i64 a, .int .i64 w, .int .i64 k] H (.int .i64 (dw a w k)) H := by
  refine t_deque_Word_spec fun L => ?_
  unfold t_deque_Word
  refine wp_ret_of ⟨?_, rfl⟩
  rw [w64_in (x := 3 * w) (by omega) (by omega), w64_in (x := a + 3 * w) (by omega) (by omega), w64_in (by omega) (by omega)]; rfl
theorem DRaw_det (w n : Int) (hw : 0 ≤ w ∧ w ≤ 1000) (H : Heap) : Det Tryz.prog f_deque_Raw [.int .i64 w, .int .i64 n] H (.int .i64 (3 * w)) H := by
  refine t_deque_Raw_spec fun L => ?_
  unfold t_deque_Raw
  refine wp_ret_of ⟨?_, rfl⟩
  have e1 : imax w 0 = w := by unfold imax; rw [if_neg (by omega)]
  rw [e1, w64_in (by omega) (by omega)]
theorem w_oword (i : Nat) {o : DOw} {q ob : Nat} {n : Int} {k : Int → Tree} (hb : o.bnd) (hn : 0 ≤ n ∧ n ≤ 10) (hA : Aw I A) (ok : Ok I G (keys l)) (hi : l[i]? = some (ob, oc ty_deque_Own (owC o q))) (h : wp Tryz.prog (k (dw o.at_ o.work n)) L (own A l G) R) :
    wp Tryz.prog (.call f_deque_Own_word [.pointer (some ⟨ob, 0, none⟩), .int .i64 n] (.one (.leaf (.int .i64))) k) L (own A l G) R := by
  refine wp_call_det (x := dw o.at_ o.work n) (H' := own A l G) ?_ h
  refine t_deque_Own_word_spec fun L => ?_
  unfold t_deque_Own_word
  refine wp_nil.2 (w_ld i (x := o.at_) hA ok rfl hi rfl (wp_nil.2 (w_ld i (x := o.work) hA ok rfl hi rfl ?_)))
  refine wp_qcall_det (x := dw o.at_ o.work n) (DWord_det _ _ _ hb.a hb.w hn _) ?_
  exact wp_ret_of ⟨rfl, rfl⟩
end
def alX : Option Al → Nat × Nat × Nat → Option Addr
  | none, _ => none
  | some _, j => some ⟨j.1, 0, none⟩
def alBl : Option Al → Nat × Nat × Nat → Bl
  | none, _ => []
  | some a, j => a.bl j
structure Ps where
  g : Gd
  ls : Int → List (Int × Int)
  o : DOw
  v : Int
  t : Int
  what : Int
  alloc : Option Al
  copy : Option Cm
  old : Option Lk
  now : Int
  went : Bool
structure PsJ where
  b : Nat
  ob : Nat
  e : List LE
  lj : LkJ
  aj : Nat × Nat × Nat
  cj : Nat × Nat × Nat
  ov : Value
  gar : Bl
def cpX : Option Cm → Nat × Nat × Nat → Option Addr
  | none, _ => none
  | some _, j => some ⟨j.1, 0, none⟩
def cpBl : Option Cm → Nat × Nat × Nat → Bl
  | none, _ => []
  | some a, j => a.bl j
def gmW : Option Lk → LkJ → Value → Value
  | none, _, v => v
  | some _, j, _ => .iface ty_p_guard_look (.pointer (some ⟨j.q, 0, none⟩))
def psC (ob : Nat) (v t what : Int) (ap cp : Option Addr) (ov : Value) (now : Int) (went : Bool) : List Value := [.pointer (some ⟨ob, 0, none⟩), .int .i64 v, .int .i64 t, .int .i64 what, .pointer ap, .pointer cp, ov, .int .i64 now, .bool went]
def Ps.bl (q mq : Nat) (x : Ps) (j : PsJ) : Bl := (j.b, oc ty_deque_Push (psC j.ob x.v x.t x.what (alX x.alloc j.aj) (cpX x.copy j.cj) (gmW x.old j.lj j.ov) x.now x.went)) :: (j.ob, oc ty_deque_Own (owC x.o q)) :: (gmB x.g q mq x.old j.e j.lj ++ (alBl x.alloc j.aj ++ (cpBl x.copy j.cj ++ j.gar)))
def clsF (h : Int) : Int := if openOk h = true then oClass h else 0
def Ps.grow (x : Ps) : Ps :=
  if w64 (clsF x.o.h + 1) < 4 then { x with what := 1, alloc := some (newAl x.o.pl x.o.work (w64 (clsF x.o.h + 1))) } else { x with what := 7 }
def Ps.got (x : Ps) (h : Int) : Ps :=
  if h ≠ 0 then { x with now := h, what := 2, copy := some ⟨x.o.h, h, x.t, x.o.b, 0, false⟩ } else { x with what := 7 }
def Ps.step (x : Ps) (A : Ar) : Ps × Ar :=
  if x.what = 0 then
    (if roomF x.o.h ≤ w64 (x.o.b - A.rawF (dw x.o.at_ x.o.work 0)) then Ps.grow { x with t := A.rawF (dw x.o.at_ x.o.work 0), what := 5 } else { x with t := A.rawF (dw x.o.at_ x.o.work 0), what := 5 }, A.touchR (dw x.o.at_ x.o.work 0))
  else if x.what = 1 then match x.alloc with
    | some a => (if mAl.fin (a.step A).1 = true then Ps.got { x with alloc := some (a.step A).1 } (a.step A).1.h else { x with alloc := some (a.step A).1 }, (a.step A).2)
    | none => (x, A)
  else if x.what = 2 then match x.copy with
    | some c => (if mCp.fin (c.step A).1 = true then { x with copy := some (c.step A).1, what := 3 } else { x with copy := some (c.step A).1 }, (c.step A).2)
    | none => (x, A)
  else if x.what = 3 then
    ({ x with o := { x.o with h := x.now }, old := retM x.g x.ls x.o.work x.o.h, ls := setL x.ls x.o.work (x.ls x.o.work ++ [(x.o.h, 0)]), what := if (retM x.g x.ls x.o.work x.o.h).isNone = true then 5 else 4 }, (A.storeR (dw x.o.at_ x.o.work 2) x.now).retireF x.o.h)
  else if x.what = 4 then match x.old with
    | some y => (if (y.step A).1.fin = true then { x with old := none, ls := (y.step A).1.ls, what := 5 } else { x with old := some (y.step A).1 }, (y.step A).2)
    | none => (x, A)
  else if x.what = 5 then ({ x with what := 6 }, A.storeF x.o.h (wordF x.o.h x.o.b) x.v)
  else if x.what = 6 then ({ x with o := { x.o with b := w64 (x.o.b + 1) }, what := 7, went := true }, A.storeR (dw x.o.at_ x.o.work 1) (w64 (x.o.b + 1)))
  else (x, A)
structure Ps.inv (x : Ps) (A : Ar) : Prop where
  wb : 1 ≤ x.g.w ∧ x.g.w ≤ 1000
  ob : x.o.bnd
  ll : (x.ls x.o.work).length < 1000
  al : x.what = 1 → ∃ a, x.alloc = some a ∧ mAl.inv a A
  cp : x.what = 2 → ∃ c, x.copy = some c
  ol : x.what ≠ 4 → x.old = none
  oy : x.what = 4 → ∃ y, x.old = some y ∧ y.inv A
def mPs (q mq ob : Nat) : MchR Ps PsJ where
  f := f_deque_Push_Step
  addr := PsJ.b
  bl := Ps.bl q mq
  rep := fun x j => gmR x.g q mq x.ls x.old j.e j.lj ∧ j.ob = ob
  inv := Ps.inv
  step := Ps.step
  fin := fun x => (x.what : Int) == 7
theorem mPs_inv (q mq ob : Nat) : (mPs q mq ob).inv' ty_p_deque_Push := fun q p => by
  show opS _ _ _ _ = .pure (.enter f_deque_Push_Step [.pointer (some ⟨q, 0, none⟩), .pointer p].toArray)
  kernel_rfl
def PsP (q mq : Nat) (z : Ps × Ar) (j : PsJ) (I : List Nat) (G : Heap) : Value → Heap → Prop := fun v K => ∃ j' : PsJ, v = .bool ((z.1.what : Int) == 7) ∧ K = own z.2 (z.1.bl q mq j') G ∧ (j'.b = j.b ∧ j'.ob = j.ob) ∧ Ok I G (keys (z.1.bl q mq j')) ∧ gmR z.1.g q mq z.1.ls z.1.old j'.e j'.lj ∧ Aw I z.2
section
variable {L : Hands} {R : Value → Heap → Prop} {G : Heap} {l rest : Bl} {A A' : Ar} {I : List Nat} {q mq : Nat}
theorem ps_ret {x : Ps} {j j0 : PsJ} (hj : j.b = j0.b ∧ j.ob = j0.ob) (hA : Aw I A) (ok : Ok I G (keys (x.bl q mq j))) (rp : gmR x.g q mq x.ls x.old j.e j.lj) :
    wp Tryz.prog (.look (opS Tryz.prog (.nilCheck (.tmp 0)) ty_unit [(.pointer (some ⟨j0.b, 0, none⟩))]) (.one (.leaf .addr)) fun x170 =>
      .ld (x170.add 3) (.int .i64) fun x172 =>
      .ret (.bool ((x172 : Int) == 7))) L (own A (x.bl q mq j) G) (PsP q mq (x, A) j0 I G) := by
  rw [← hj.1]
  refine wp_nil.2 (w_ld 0 (x := x.what) hA ok rfl rfl rfl ?_)
  exact wp_ret_of ⟨j, rfl, rfl, hj, ok, rp, hA⟩
theorem Open_clsF {h : Int} {K : HL Sh1.T [(.leaf (.int .i64)), (.leaf (.int .i64)), (.leaf (.int .i64)), (.leaf .bool)] → Tree} {H : Heap} (hk : ∀ b g o, wp Tryz.prog (K (b, g, clsF h, o, ())) L H R) :
    wp Tryz.prog (.qcall f_handle_Open [(.int .i64 h)] (.tup [(.leaf (.int .i64)), (.leaf (.int .i64)), (.leaf (.int .i64)), (.leaf .bool)]) K) L H R := by
  cases ho : openOk h with
  | true =>
    refine wp_qcall_det (x := (oBase h, oGen h, oClass h, true, ())) (Open_at H (by unfold openV; rw [ho]; rfl)) ?_
    have := hk (oBase h) (oGen h) true
    unfold clsF at this
    rw [if_pos ho] at this
    exact this
  | false =>
    refine wp_qcall_det (x := (0, 0, 0, false, ())) (Open_at H (openV_bad ho)) ?_
    have := hk 0 0 false
    unfold clsF at this
    rw [if_neg (by rw [ho]; exact Bool.false_ne_true)] at this
    exact this
theorem sizeF_ne {c : Int} (h : c < 4) (h0 : 0 ≤ c) : sizeF c ≠ 0 := by have := sz_pos h0 h; omega
theorem clsF_b (h : Int) : 0 ≤ clsF h ∧ clsF h < 4 := by
  unfold clsF
  split
  · rename_i ho
    have hv := (open_ok ho).1
    obtain ⟨_, _, _, _, h5, h6⟩ := hv
    exact ⟨h5, h6⟩
  · decide
theorem grow_spec (x : Ps) (j : PsJ) (hc : x.old = none) (hA : Aw I A) (ok : Ok I G (keys (x.bl q mq j))) (rp : gmR x.g q mq x.ls x.old j.e j.lj) :
    SpecF Tryz.prog f_deque_Push_grow #[.pointer (some ⟨j.b, 0, none⟩)] (own A (x.bl q mq j) G) fun v K => ∃ j' : PsJ, v = .tuple #[] ∧ K = own A (x.grow.bl q mq j') G ∧ (j'.b = j.b ∧ j'.ob = j.ob) ∧ Ok I G (keys (x.grow.bl q mq j')) ∧ gmR x.grow.g q mq x.grow.ls x.grow.old j'.e j'.lj := by
  refine t_deque_Push_grow_spec fun L => ?_
  unfold t_deque_Push_grow
  obtain ⟨g, ls, o, v, t, what, alloc, copy, old, now, went⟩ := x
  obtain ⟨b, ob, e, lj, aj, cj, ov, gar⟩ := j
  have hc : old = none := hc
  subst hc
  obtain ⟨rs, hrs⟩ : ∃ rs : Bl, rs = alBl alloc aj ++ (cpBl copy cj ++ gar) := ⟨_, rfl⟩
  have ok : Ok I G (keys ((b, oc ty_deque_Push (psC ob v t what (alX alloc aj) (cpX copy cj) ov now went)) :: (ob, oc ty_deque_Own (owC o q)) :: (g.bl q mq e ++ rs))) := by rw [hrs]; exact ok
  have es : own A (Ps.bl q mq ⟨g, ls, o, v, t, what, alloc, copy, none, now, went⟩ ⟨b, ob, e, lj, aj, cj, ov, gar⟩) G = own A ((b, oc ty_deque_Push (psC ob v t what (alX alloc aj) (cpX copy cj) ov now went)) :: (ob, oc ty_deque_Own (owC o q)) :: (g.bl q mq e ++ rs)) G := by rw [hrs]; rfl
  rw [es]
  refine wp_nil.2 (w_ld 0 (x := some ⟨ob, 0, none⟩) hA ok rfl rfl rfl ?_)
  refine wp_nil.2 (w_ld 1 (x := o.h) hA ok rfl rfl rfl ?_)
  refine Open_clsF fun b0 g0 o0 => ?_
  refine wp_nil.2 (w_st 0 hA ok rfl rfl rfl rfl ?_)
  have cb := clsF_b o.h
  have ew : w64 (clsF o.h + 1) = clsF o.h + 1 := w64_in (by omega) (by omega)
  by_cases h4 : w64 (clsF o.h + 1) < 4
  · refine wp_true (decide_eq_true h4) ?_
    have hz : Ps.grow ⟨g, ls, o, v, t, what, alloc, copy, none, now, went⟩ = ⟨g, ls, o, v, t, 1, some (newAl o.pl o.work (w64 (clsF o.h + 1))), copy, none, now, went⟩ := if_pos h4
    rw [hz]
    have ok2 : Ok I G (keys ((b, oc ty_deque_Push (psC ob v t 7 (alX alloc aj) (cpX copy cj) ov now went)) :: (ob, oc ty_deque_Own (owC o q)) :: (g.bl q mq e ++ rs))) := ok
    show wp Tryz.prog _ L (own A ((b, oc ty_deque_Push (psC ob v t 7 (alX alloc aj) (cpX copy cj) ov now went)) :: (ob, oc ty_deque_Own (owC o q)) :: (g.bl q mq e ++ rs)) G) _
    refine wp_nil.2 (w_ld 0 (x := some ⟨ob, 0, none⟩) hA ok2 rfl rfl rfl ?_)
    refine wp_nil.2 (w_ldA 1 (x := (o.pl.work, o.pl.heads, o.pl.links, o.pl.gens, o.pl.carved, ())) hA ok2 rfl rfl rfl ?_)
    refine wp_nil.2 (w_ld 0 (x := some ⟨ob, 0, none⟩) hA ok2 rfl rfl rfl ?_)
    refine wp_nil.2 (w_ld 1 (x := o.work) hA ok2 rfl rfl rfl ?_)
    refine w_NewAlloc (p := o.pl) (w := o.work) (c := w64 (clsF o.h + 1)) hA ok2 (by rw [ew]; exact sizeF_ne (by omega) (by omega)) fun aj' ok3 => ?_
    obtain ⟨c1, hc1⟩ : ∃ c1 : Nat × Obj, c1 = (b, oc ty_deque_Push (psC ob v t 7 (alX alloc aj) (cpX copy cj) ov now went)) := ⟨_, rfl⟩
    obtain ⟨c2, hc2⟩ : ∃ c2 : Nat × Obj, c2 = (ob, oc ty_deque_Own (owC o q)) := ⟨_, rfl⟩
    rw [← hc1, ← hc2] at ok3 ⊢
    rw [hrs] at ok3 ⊢
    obtain ⟨p1, ok4⟩ := own_perm (A := A) (l' := c1 :: c2 :: (g.bl q mq e ++ ((newAl o.pl o.work (w64 (clsF o.h + 1))).bl aj' ++ (cpBl copy cj ++ (alBl alloc aj ++ gar))))) ok3 (perm_by fun c d c0 cd ca => by simp only [cd, ca, c0]; omega)
    rw [p1]
    rw [hc1, hc2] at ok4 ⊢
    refine wp_nil.2 (w_st 0 hA ok4 rfl rfl rfl rfl ?_)
    refine wp_nil.2 (w_st 0 hA (by exact ok4) rfl rfl rfl rfl ?_)
    exact wp_ret_of ⟨⟨b, ob, e, lj, aj', cj, ov, alBl alloc aj ++ gar⟩, rfl, rfl, ⟨rfl, rfl⟩, ok4, rp⟩
  · refine wp_false (decide_eq_false h4) ?_
    have hz : Ps.grow ⟨g, ls, o, v, t, what, alloc, copy, none, now, went⟩ = ⟨g, ls, o, v, t, 7, alloc, copy, none, now, went⟩ := if_neg h4
    rw [hz]
    rw [hrs] at ok
    exact wp_ret_of ⟨⟨b, ob, e, lj, aj, cj, ov, gar⟩, rfl, by rw [hrs]; rfl, ⟨rfl, rfl⟩, ok, rp⟩
theorem psgot_spec (x : Ps) (a : Al) (j : PsJ) (hx : x.alloc = some a) (hc : x.old = none) (hA : Aw I A) (ok : Ok I G (keys (x.bl q mq j))) (rp : gmR x.g q mq x.ls x.old j.e j.lj) :
    SpecF Tryz.prog f_deque_Push_allocated #[.pointer (some ⟨j.b, 0, none⟩)] (own A (x.bl q mq j) G) fun v K => ∃ j' : PsJ, v = .tuple #[] ∧ K = own A ((x.got a.h).bl q mq j') G ∧ (j'.b = j.b ∧ j'.ob = j.ob) ∧ Ok I G (keys ((x.got a.h).bl q mq j')) ∧ gmR (x.got a.h).g q mq (x.got a.h).ls (x.got a.h).old j'.e j'.lj := by
  refine t_deque_Push_allocated_spec fun L => ?_
  unfold t_deque_Push_allocated
  obtain ⟨g, ls, o, v, t, what, alloc, copy, old, now, went⟩ := x
  obtain ⟨b, ob, e, lj, ⟨aq, aq0, aq1⟩, cj, ov, gar⟩ := j
  have hc : old = none := hc
  have hx : alloc = some a := hx
  subst hc hx
  obtain ⟨rs, hrs⟩ : ∃ rs : Bl, rs = cpBl copy cj ++ gar := ⟨_, rfl⟩
  have ok : Ok I G (keys ((b, oc ty_deque_Push (psC ob v t what (some ⟨aq, 0, none⟩) (cpX copy cj) ov now went)) :: (ob, oc ty_deque_Own (owC o q)) :: (g.bl q mq e ++ (a.bl (aq, aq0, aq1) ++ rs)))) := by rw [hrs]; exact ok
  have es : own A (Ps.bl q mq ⟨g, ls, o, v, t, what, some a, copy, none, now, went⟩ ⟨b, ob, e, lj, (aq, aq0, aq1), cj, ov, gar⟩) G = own A ((b, oc ty_deque_Push (psC ob v t what (some ⟨aq, 0, none⟩) (cpX copy cj) ov now went)) :: (ob, oc ty_deque_Own (owC o q)) :: (g.bl q mq e ++ (a.bl (aq, aq0, aq1) ++ rs))) G := by rw [hrs]; rfl
  rw [es]
  refine wp_nil.2 (w_ld 0 (x := some ⟨aq, 0, none⟩) hA ok rfl rfl rfl ?_)
  obtain ⟨c1, hc1⟩ : ∃ c1 : Nat × Obj, c1 = (b, oc ty_deque_Push (psC ob v t what (some ⟨aq, 0, none⟩) (cpX copy cj) ov now went)) := ⟨_, rfl⟩
  obtain ⟨c2, hc2⟩ : ∃ c2 : Nat × Obj, c2 = (ob, oc ty_deque_Own (owC o q)) := ⟨_, rfl⟩
  rw [← hc1, ← hc2] at ok ⊢
  obtain ⟨p1, ok2⟩ := own_perm (A := A) (l' := a.bl (aq, aq0, aq1) ++ (c1 :: c2 :: (g.bl q mq e ++ rs))) ok (perm_by fun c d c0 cd ca => by simp only [cd, ca, c0]; omega)
  rw [p1]
  refine w_Handle 0 hA ok2 rfl ?_
  obtain ⟨p2, ok3⟩ := own_perm (A := A) (l' := c1 :: c2 :: (g.bl q mq e ++ (a.bl (aq, aq0, aq1) ++ rs))) ok2 (perm_by fun c d c0 cd ca => by simp only [cd, ca, c0]; omega)
  rw [p2, hc1]
  rw [hc1] at ok3
  refine wp_nil.2 (w_st 0 hA ok3 rfl rfl rfl rfl ?_)
  have ok4 : Ok I G (keys ((b, oc ty_deque_Push (psC ob v t 7 (some ⟨aq, 0, none⟩) (cpX copy cj) ov now went)) :: c2 :: (g.bl q mq e ++ (a.bl (aq, aq0, aq1) ++ rs)))) := ok3
  show wp Tryz.prog _ L (own A ((b, oc ty_deque_Push (psC ob v t 7 (some ⟨aq, 0, none⟩) (cpX copy cj) ov now went)) :: c2 :: (g.bl q mq e ++ (a.bl (aq, aq0, aq1) ++ rs))) G) _
  by_cases h0 : a.h = 0
  · refine wp_false (ibnf h0) ?_
    have hz : Ps.got ⟨g, ls, o, v, t, what, some a, copy, none, now, went⟩ a.h = ⟨g, ls, o, v, t, 7, some a, copy, none, now, went⟩ := if_neg (fun h => h h0)
    rw [hz]
    rw [hc2, hrs] at ok4
    exact wp_ret_of ⟨⟨b, ob, e, lj, (aq, aq0, aq1), cj, ov, gar⟩, rfl, by rw [hc2, hrs]; rfl, ⟨rfl, rfl⟩, ok4, rp⟩
  · refine wp_true (ibne h0) ?_
    have hz : Ps.got ⟨g, ls, o, v, t, what, some a, copy, none, now, went⟩ a.h = ⟨g, ls, o, v, t, 2, some a, some ⟨o.h, a.h, t, o.b, 0, false⟩, none, a.h, went⟩ := if_pos h0
    rw [hz]
    rw [hc2] at ok4 ⊢
    refine wp_nil.2 (w_ld 0 (x := some ⟨ob, 0, none⟩) hA ok4 rfl rfl rfl ?_)
    refine wp_nil.2 (w_ld 1 (x := o.h) hA ok4 rfl rfl rfl ?_)
    refine wp_nil.2 (w_ld 0 (x := t) hA ok4 rfl rfl rfl ?_)
    refine wp_nil.2 (w_ld 0 (x := some ⟨ob, 0, none⟩) hA ok4 rfl rfl rfl ?_)
    refine wp_nil.2 (w_ld 1 (x := o.b) hA ok4 rfl rfl rfl ?_)
    refine w_NewCopy hA ok4 fun cj' ok5 => ?_
    obtain ⟨c3, hc3⟩ : ∃ c3 : Nat × Obj, c3 = (b, oc ty_deque_Push (psC ob v t 7 (some ⟨aq, 0, none⟩) (cpX copy cj) ov now went)) := ⟨_, rfl⟩
    rw [← hc2, ← hc3, hrs] at ok5 ⊢
    obtain ⟨p5, ok6⟩ := own_perm (A := A) (l' := c3 :: c2 :: (g.bl q mq e ++ (a.bl (aq, aq0, aq1) ++ (Cm.bl ⟨o.h, a.h, t, o.b, 0, false⟩ cj' ++ (cpBl copy cj ++ gar))))) ok5 (perm_by fun c d c0 cd ca => by simp only [cd, ca, c0]; omega)
    rw [p5]
    rw [hc3, hc2] at ok6 ⊢
    refine wp_nil.2 (w_st 0 hA ok6 rfl rfl rfl rfl ?_)
    refine wp_nil.2 (w_st 0 hA (by exact ok6) rfl rfl rfl rfl ?_)
    refine wp_nil.2 (w_st 0 hA (by exact ok6) rfl rfl rfl rfl ?_)
    exact wp_ret_of ⟨⟨b, ob, e, lj, (aq, aq0, aq1), cj', ov, cpBl copy cj ++ gar⟩, rfl, rfl, ⟨rfl, rfl⟩, ok6, rp⟩
end
set_option maxHeartbeats 2000000 in
theorem mPs_ok (q mq ob : Nat) : (mPs q mq ob).ok := by
  rintro I A G x ⟨b, ob', e, lj, aj, cj, ov, gar⟩ hA ok ⟨rp, hob⟩ hi
  have hob : ob' = ob := hob
  subst hob
  have hi : x.inv A := hi
  have hwb := hi.wb
  have hbd := hi.ob
  have hll := hi.ll
  have hal := hi.al
  have hcp := hi.cp
  have hol := hi.ol
  have hoy := hi.oy
  refine SpecF.mono (R := PsP q mq (x.step A) ⟨b, ob', e, lj, aj, cj, ov, gar⟩ I G) ?_ ?_
  rotate_left
  · rintro v K ⟨j', rfl, rfl, ⟨a1, a2⟩, o, r, a⟩
    exact ⟨j', rfl, rfl, a1, o, ⟨r, a2⟩, a⟩
  obtain ⟨g, ls, o, v, t, what, alloc, copy, old, now, went⟩ := x
  have hbd : o.bnd := hbd
  obtain ⟨z, hz0⟩ : ∃ z, z = Ps.step ⟨g, ls, o, v, t, what, alloc, copy, old, now, went⟩ A := ⟨_, rfl⟩
  rw [← hz0]
  refine t_deque_Push_Step_spec fun L => ?_
  unfold t_deque_Push_Step
  have ok : Ok I G (keys ((b, oc ty_deque_Push (psC ob' v t what (alX alloc aj) (cpX copy cj) (gmW old lj ov) now went)) :: (ob', oc ty_deque_Own (owC o q)) :: (gmB g q mq old e lj ++ (alBl alloc aj ++ (cpBl copy cj ++ gar))))) := ok
  show wp Tryz.prog _ L (own A ((b, oc ty_deque_Push (psC ob' v t what (alX alloc aj) (cpX copy cj) (gmW old lj ov) now went)) :: (ob', oc ty_deque_Own (owC o q)) :: (gmB g q mq old e lj ++ (alBl alloc aj ++ (cpBl copy cj ++ gar)))) G) _
  refine wp_nil.2 (w_ld 0 (x := some ⟨ob', 0, none⟩) hA ok rfl rfl rfl ?_)
  refine wp_nil.2 (w_ld 0 (x := what) hA ok rfl rfl rfl ?_)
  by_cases h0 : what = 0
  · have hz := hz0.trans (if_pos h0)
    refine wp_true (ibeq h0) ?_
    have hn : old = none := hol (by show what ≠ 4; omega)
    subst hn
    refine w_oword 1 (n := 0) hbd (by decide) hA ok rfl ?_
    refine w_Raw hA fun hA1 => ?_
    refine wp_nil.2 (w_st 0 hA1 ok rfl rfl rfl rfl ?_)
    refine wp_nil.2 (w_st 0 hA1 (by exact ok) rfl rfl rfl rfl ?_)
    refine wp_nil.2 (w_ld 1 (x := o.b) hA1 (by exact ok) rfl rfl rfl ?_)
    refine wp_nil.2 (w_ld 0 (x := A.rawF (dw o.at_ o.work 0)) hA1 (by exact ok) rfl rfl rfl ?_)
    refine wp_nil.2 (w_ld 1 (x := o.h) hA1 (by exact ok) rfl rfl rfl ?_)
    refine wp_qcall_det (x := roomF o.h) (Room_det _ _) ?_
    obtain ⟨y, hy⟩ : ∃ y : Ps, y = ⟨g, ls, o, v, A.rawF (dw o.at_ o.work 0), 5, alloc, copy, none, now, went⟩ := ⟨_, rfl⟩
    have okY : Ok I G (keys (y.bl q mq ⟨b, ob', e, lj, aj, cj, ov, gar⟩)) := by rw [hy]; exact ok
    have rpY : gmR y.g q mq y.ls y.old e lj := by rw [hy]; exact rp
    have eo : own (A.touchR (dw o.at_ o.work 0)) (y.bl q mq ⟨b, ob', e, lj, aj, cj, ov, gar⟩) G = own (A.touchR (dw o.at_ o.work 0)) ((b, oc ty_deque_Push (psC ob' v (A.rawF (dw o.at_ o.work 0)) 5 (alX alloc aj) (cpX copy cj) ov now went)) :: (ob', oc ty_deque_Own (owC o q)) :: (g.bl q mq e ++ (alBl alloc aj ++ (cpBl copy cj ++ gar)))) G := by rw [hy]; rfl
    show wp Tryz.prog _ L (own (A.touchR (dw o.at_ o.work 0)) ((b, oc ty_deque_Push (psC ob' v (A.rawF (dw o.at_ o.work 0)) 5 (alX alloc aj) (cpX copy cj) ov now went)) :: (ob', oc ty_deque_Own (owC o q)) :: (g.bl q mq e ++ (alBl alloc aj ++ (cpBl copy cj ++ gar)))) G) _
    rw [← eo]
    by_cases hr : roomF o.h ≤ w64 (o.b - A.rawF (dw o.at_ o.work 0))
    · refine wp_true (decide_eq_true hr) ?_
      have hz : z = (y.grow, A.touchR (dw o.at_ o.work 0)) := by rw [hz, hy]; exact congrArg (fun s => (s, A.touchR (dw o.at_ o.work 0))) (if_pos hr)
      rw [hz]
      refine wp_call_of (grow_spec (mq := mq) y ⟨b, ob', e, lj, aj, cj, ov, gar⟩ (by rw [hy]) hA1 okY rpY) ?_
      rintro v2 K ⟨j', rfl, rfl, hj, ok', rp'⟩
      exact ⟨(), rfl, ps_ret (j0 := ⟨b, ob', e, lj, aj, cj, ov, gar⟩) hj hA1 ok' rp'⟩
    · refine wp_false (decide_eq_false hr) ?_
      have hz : z = (y, A.touchR (dw o.at_ o.work 0)) := by rw [hz, hy]; exact congrArg (fun s => (s, A.touchR (dw o.at_ o.work 0))) (if_neg hr)
      rw [hz]
      exact ps_ret (j := ⟨b, ob', e, lj, aj, cj, ov, gar⟩) (j0 := ⟨b, ob', e, lj, aj, cj, ov, gar⟩) ⟨rfl, rfl⟩ hA1 okY rpY
  have hz1 := hz0.trans (if_neg h0)
  refine wp_false (ibef h0) ?_
  by_cases h1 : what = 1
  · refine wp_true (ibeq h1) ?_
    have hn : old = none := hol (by show what ≠ 4; omega)
    subst hn
    obtain ⟨a, ha, hai⟩ := hal h1
    have ha : alloc = some a := ha
    subst ha
    have hz := hz1.trans (if_pos h1)
    obtain ⟨aq, aq0, aq1⟩ := aj
    refine wp_nil.2 (w_ld 0 (x := some ⟨aq, 0, none⟩) hA ok rfl rfl rfl ?_)
    have ok : Ok I G (keys ((b, oc ty_deque_Push (psC ob' v t what (some ⟨aq, 0, none⟩) (cpX copy cj) ov now went)) :: (ob', oc ty_deque_Own (owC o q)) :: (g.bl q mq e ++ (a.bl (aq, aq0, aq1) ++ (cpBl copy cj ++ gar))))) := ok
    show wp Tryz.prog _ L (own A ((b, oc ty_deque_Push (psC ob' v t what (some ⟨aq, 0, none⟩) (cpX copy cj) ov now went)) :: (ob', oc ty_deque_Own (owC o q)) :: (g.bl q mq e ++ (a.bl (aq, aq0, aq1) ++ (cpBl copy cj ++ gar)))) G) _
    obtain ⟨c1, hc1⟩ : ∃ c1 : Nat × Obj, c1 = (b, oc ty_deque_Push (psC ob' v t what (some ⟨aq, 0, none⟩) (cpX copy cj) ov now went)) := ⟨_, rfl⟩
    obtain ⟨c2, hc2⟩ : ∃ c2 : Nat × Obj, c2 = (ob', oc ty_deque_Own (owC o q)) := ⟨_, rfl⟩
    rw [← hc1, ← hc2] at ok ⊢
    obtain ⟨p1, ok2⟩ := own_perm (A := A) (l' := a.bl (aq, aq0, aq1) ++ (c1 :: c2 :: (g.bl q mq e ++ (cpBl copy cj ++ gar)))) ok (perm_by fun c d c0 cd ca => by simp only [cd, ca, c0]; omega)
    rw [p1]
    rw [keys_append] at ok2
    obtain ⟨o1, o2⟩ := ok2.split
    refine w_sub (mAl_ok I A _ a (aq, aq0, aq1) hA o1 hai) ?_
    rintro v2 K ⟨⟨q', aq0', aq1'⟩, rfl, rfl, ha, o3, hA1⟩
    have ha : q' = aq := ha
    subst ha
    refine ⟨mAl.fin (a.step A).1, rfl, ?_⟩
    rw [← own_append]
    have o4 : Ok I G (keys ((a.step A).1.bl (q', aq0', aq1') ++ (c1 :: c2 :: (g.bl q mq e ++ (cpBl copy cj ++ gar))))) := by rw [keys_append]; exact o3.join o2
    show wp Tryz.prog _ L (own (a.step A).2 ((a.step A).1.bl (q', aq0', aq1') ++ (c1 :: c2 :: (g.bl q mq e ++ (cpBl copy cj ++ gar)))) G) _
    have hA1 : Aw I (a.step A).2 := hA1
    have hz : z = (if mAl.fin (a.step A).1 = true then Ps.got ⟨g, ls, o, v, t, what, some (a.step A).1, copy, none, now, went⟩ (a.step A).1.h else ⟨g, ls, o, v, t, what, some (a.step A).1, copy, none, now, went⟩, (a.step A).2) := hz
    generalize (a.step A).2 = A2 at *
    generalize (a.step A).1 = a1 at *
    obtain ⟨p2, ok5⟩ := own_perm (A := A2) (l' := c1 :: c2 :: (g.bl q mq e ++ (a1.bl (q', aq0', aq1') ++ (cpBl copy cj ++ gar)))) o4 (perm_by fun c d c0 cd ca => by simp only [cd, ca, c0]; omega)
    rw [p2]
    rw [hc1, hc2] at ok5 ⊢
    cases hf : mAl.fin a1 with
    | true =>
      rw [hf, if_pos rfl] at hz
      rw [hz]
      refine wp_true rfl ?_
      refine wp_call_of (psgot_spec (mq := mq) ⟨g, ls, o, v, t, what, some a1, copy, none, now, went⟩ a1 ⟨b, ob', e, lj, (q', aq0', aq1'), cj, ov, gar⟩ rfl rfl hA1 ok5 rp) ?_
      rintro v2 K ⟨j', rfl, rfl, hj, ok', rp'⟩
      exact ⟨(), rfl, ps_ret (j0 := ⟨b, ob', e, lj, (q', aq0, aq1), cj, ov, gar⟩) hj hA1 ok' rp'⟩
    | false =>
      rw [hf, if_neg Bool.false_ne_true] at hz
      rw [hz]
      refine wp_false rfl ?_
      exact ps_ret (x := ⟨g, ls, o, v, t, what, some a1, copy, none, now, went⟩) (j := ⟨b, ob', e, lj, (q', aq0', aq1'), cj, ov, gar⟩) (j0 := ⟨b, ob', e, lj, (q', aq0, aq1), cj, ov, gar⟩) ⟨rfl, rfl⟩ hA1 ok5 rp
  have hz2 := hz1.trans (if_neg h1)
  refine wp_false (ibef h1) ?_
  by_cases h2 : what = 2
  · refine wp_true (ibeq h2) ?_
    have hn : old = none := hol (by show what ≠ 4; omega)
    subst hn
    obtain ⟨cc, hcc⟩ := hcp h2
    have hcc : copy = some cc := hcc
    subst hcc
    have hz := hz2.trans (if_pos h2)
    obtain ⟨aq, aq0, aq1⟩ := cj
    refine wp_nil.2 (w_ld 0 (x := some ⟨aq, 0, none⟩) hA ok rfl rfl rfl ?_)
    have ok : Ok I G (keys ((b, oc ty_deque_Push (psC ob' v t what (alX alloc aj) (some ⟨aq, 0, none⟩) ov now went)) :: (ob', oc ty_deque_Own (owC o q)) :: (g.bl q mq e ++ (alBl alloc aj ++ (cc.bl (aq, aq0, aq1) ++ gar))))) := ok
    show wp Tryz.prog _ L (own A ((b, oc ty_deque_Push (psC ob' v t what (alX alloc aj) (some ⟨aq, 0, none⟩) ov now went)) :: (ob', oc ty_deque_Own (owC o q)) :: (g.bl q mq e ++ (alBl alloc aj ++ (cc.bl (aq, aq0, aq1) ++ gar)))) G) _
    obtain ⟨c1, hc1⟩ : ∃ c1 : Nat × Obj, c1 = (b, oc ty_deque_Push (psC ob' v t what (alX alloc aj) (some ⟨aq, 0, none⟩) ov now went)) := ⟨_, rfl⟩
    obtain ⟨c2, hc2⟩ : ∃ c2 : Nat × Obj, c2 = (ob', oc ty_deque_Own (owC o q)) := ⟨_, rfl⟩
    rw [← hc1, ← hc2] at ok ⊢
    obtain ⟨p1, ok2⟩ := own_perm (A := A) (l' := cc.bl (aq, aq0, aq1) ++ (c1 :: c2 :: (g.bl q mq e ++ (alBl alloc aj ++ gar)))) ok (perm_by fun c d c0 cd ca => by simp only [cd, ca, c0]; omega)
    rw [p1]
    rw [keys_append] at ok2
    obtain ⟨o1, o2⟩ := ok2.split
    refine w_sub (mCp_ok I A _ cc (aq, aq0, aq1) hA o1 trivial) ?_
    rintro v2 K ⟨⟨q', aq0', aq1'⟩, rfl, rfl, ha, o3, hA1⟩
    have ha : q' = aq := ha
    subst ha
    refine ⟨mCp.fin (cc.step A).1, rfl, ?_⟩
    rw [← own_append]
    have o4 : Ok I G (keys ((cc.step A).1.bl (q', aq0', aq1') ++ (c1 :: c2 :: (g.bl q mq e ++ (alBl alloc aj ++ gar))))) := by rw [keys_append]; exact o3.join o2
    show wp Tryz.prog _ L (own (cc.step A).2 ((cc.step A).1.bl (q', aq0', aq1') ++ (c1 :: c2 :: (g.bl q mq e ++ (alBl alloc aj ++ gar)))) G) _
    have hA1 : Aw I (cc.step A).2 := hA1
    have hz : z = (if mCp.fin (cc.step A).1 = true then ⟨g, ls, o, v, t, 3, alloc, some (cc.step A).1, none, now, went⟩ else ⟨g, ls, o, v, t, what, alloc, some (cc.step A).1, none, now, went⟩, (cc.step A).2) := hz
    generalize (cc.step A).2 = A2 at *
    generalize (cc.step A).1 = cc1 at *
    obtain ⟨p2, ok5⟩ := own_perm (A := A2) (l' := c1 :: c2 :: (g.bl q mq e ++ (alBl alloc aj ++ (cc1.bl (q', aq0', aq1') ++ gar)))) o4 (perm_by fun c d c0 cd ca => by simp only [cd, ca, c0]; omega)
    rw [p2]
    rw [hc1, hc2] at ok5 ⊢
    cases hf : mCp.fin cc1 with
    | true =>
      rw [hf, if_pos rfl] at hz
      rw [hz]
      refine wp_true rfl ?_
      refine wp_nil.2 (w_st 0 hA1 ok5 rfl rfl rfl rfl ?_)
      exact ps_ret (x := ⟨g, ls, o, v, t, 3, alloc, some cc1, none, now, went⟩) (j := ⟨b, ob', e, lj, aj, (q', aq0', aq1'), ov, gar⟩) (j0 := ⟨b, ob', e, lj, aj, (q', aq0, aq1), ov, gar⟩) ⟨rfl, rfl⟩ hA1 (by exact ok5) rp
    | false =>
      rw [hf, if_neg Bool.false_ne_true] at hz
      rw [hz]
      refine wp_false rfl ?_
      exact ps_ret (x := ⟨g, ls, o, v, t, what, alloc, some cc1, none, now, went⟩) (j := ⟨b, ob', e, lj, aj, (q', aq0', aq1'), ov, gar⟩) (j0 := ⟨b, ob', e, lj, aj, (q', aq0, aq1), ov, gar⟩) ⟨rfl, rfl⟩ hA1 ok5 rp
  have hz3 := hz2.trans (if_neg h2)
  refine wp_false (ibef h2) ?_
  obtain ⟨rs, hrs⟩ : ∃ rs : Bl, rs = alBl alloc aj ++ (cpBl copy cj ++ gar) := ⟨_, rfl⟩
  by_cases h3 : what = 3
  · refine wp_true (ibeq h3) ?_
    have hn : old = none := hol (by show what ≠ 4; omega)
    subst hn
    have hz : z = (⟨g, setL ls o.work (ls o.work ++ [(o.h, 0)]), ⟨o.at_, o.work, o.b, now, o.pl⟩, v, t, if (retM g ls o.work o.h).isNone = true then 5 else 4, alloc, copy, retM g ls o.work o.h, now, went⟩, (A.storeR (dw o.at_ o.work 2) now).retireF o.h) := hz3.trans (if_pos h3)
    rw [hz]
    refine wp_nil.2 (w_ld 0 (x := now) hA ok rfl rfl rfl ?_)
    refine w_oword 1 (n := 2) hbd (by decide) hA ok rfl ?_
    refine w_ck 0 hA ok rfl rfl rfl ?_
    refine w_ckn rfl ?_
    refine w_SetRaw hA fun hA1 => ?_
    refine wp_nil.2 (w_ld 1 (x := o.h) hA1 ok rfl rfl rfl ?_)
    refine wp_nil.2 (w_ld 0 (x := now) hA1 ok rfl rfl rfl ?_)
    refine wp_nil.2 (w_st 1 hA1 ok rfl rfl rfl rfl ?_)
    refine wp_nil.2 (w_ld 1 (x := some ⟨q, 0, none⟩) hA1 (by exact ok) rfl rfl rfl ?_)
    refine wp_nil.2 (w_ld 1 (x := o.work) hA1 (by exact ok) rfl rfl rfl ?_)
    have ok1 : Ok I G (keys ((b, oc ty_deque_Push (psC ob' v t what (alX alloc aj) (cpX copy cj) ov now went)) :: (ob', oc ty_deque_Own (owC ⟨o.at_, o.work, o.b, now, o.pl⟩ q)) :: (g.bl q mq e ++ rs))) := by rw [hrs]; exact ok
    have es : own (A.storeR (dw o.at_ o.work 2) now) ((b, oc ty_deque_Push (psC ob' v t what (alX alloc aj) (cpX copy cj) ov now went)) :: (ob', oc ty_deque_Own (owC ⟨o.at_, o.work, o.b, now, o.pl⟩ q)) :: (g.bl q mq e ++ (alBl alloc aj ++ (cpBl copy cj ++ gar)))) G = own (A.storeR (dw o.at_ o.work 2) now) ((b, oc ty_deque_Push (psC ob' v t what (alX alloc aj) (cpX copy cj) ov now went)) :: (ob', oc ty_deque_Own (owC ⟨o.at_, o.work, o.b, now, o.pl⟩ q)) :: (g.bl q mq e ++ rs)) G := by rw [hrs]
    show wp Tryz.prog _ L (own (A.storeR (dw o.at_ o.work 2) now) ((b, oc ty_deque_Push (psC ob' v t what (alX alloc aj) (cpX copy cj) ov now went)) :: (ob', oc ty_deque_Own (owC ⟨o.at_, o.work, o.b, now, o.pl⟩ q)) :: (g.bl q mq e ++ (alBl alloc aj ++ (cpBl copy cj ++ gar)))) G) _
    rw [es]
    generalize A.storeR (dw o.at_ o.work 2) now = A1 at *
    obtain ⟨c1, hc1⟩ : ∃ c1 : Nat × Obj, c1 = (b, oc ty_deque_Push (psC ob' v t what (alX alloc aj) (cpX copy cj) ov now went)) := ⟨_, rfl⟩
    obtain ⟨c2, hc2⟩ : ∃ c2 : Nat × Obj, c2 = (ob', oc ty_deque_Own (owC ⟨o.at_, o.work, o.b, now, o.pl⟩ q)) := ⟨_, rfl⟩
    rw [← hc1, ← hc2] at ok1 ⊢
    obtain ⟨p1, ok2⟩ := own_perm (A := A1) (l' := g.bl q mq e ++ (c1 :: c2 :: rs)) ok1 (perm_by fun c d c0 cd ca => by simp only [cd, ca, c0]; omega)
    rw [p1]
    refine w_retGm hA1 ok2 rp hll fun e' lj' gar' ok3 rp' => ?_
    have hA2 := hA1.retireF o.h
    obtain ⟨p2, ok4⟩ := own_perm (A := A1.retireF o.h) (l' := c1 :: c2 :: (gmB g q mq (retM g ls o.work o.h) e' lj' ++ (alBl alloc aj ++ (cpBl copy cj ++ (gar' ++ gar))))) ok3 (perm_by fun c d c0 cd ca => by rw [hrs]; simp only [cd, ca, c0]; omega)
    rw [p2, hc1]
    rw [hc1] at ok4
    refine wp_nil.2 (w_stGm 0 hA2 ok4 rfl rfl rfl ?_)
    refine wp_nil.2 (w_st 0 hA2 (by exact ok4) rfl rfl rfl rfl ?_)
    refine wp_nil.2 (w_ld 0 (x := gmV (retM g ls o.work o.h) lj') hA2 (by exact ok4) rfl rfl rfl ?_)
    refine look_val (x := (retM g ls o.work o.h).isNone) (gmV_nil _ _ _) ?_
    rw [hc2] at ok4 ⊢
    cases hm : retM g ls o.work o.h with
    | none =>
      rw [hm] at ok4 rp'
      refine wp_true rfl ?_
      refine wp_nil.2 (w_st 0 hA2 (by exact ok4) rfl rfl rfl rfl ?_)
      exact ps_ret (x := ⟨g, setL ls o.work (ls o.work ++ [(o.h, 0)]), ⟨o.at_, o.work, o.b, now, o.pl⟩, v, t, 5, alloc, copy, none, now, went⟩) (j := ⟨b, ob', e', lj', aj, cj, .nilIface, gar' ++ gar⟩) (j0 := ⟨b, ob', e, lj, aj, cj, ov, gar⟩) ⟨rfl, rfl⟩ hA2 (by exact ok4) rp'
    | some y =>
      rw [hm] at ok4 rp'
      refine wp_false rfl ?_
      exact ps_ret (x := ⟨g, setL ls o.work (ls o.work ++ [(o.h, 0)]), ⟨o.at_, o.work, o.b, now, o.pl⟩, v, t, 4, alloc, copy, some y, now, went⟩) (j := ⟨b, ob', e', lj', aj, cj, .nilIface, gar' ++ gar⟩) (j0 := ⟨b, ob', e, lj, aj, cj, ov, gar⟩) ⟨rfl, rfl⟩ hA2 (by exact ok4) rp'
  have hz4 := hz3.trans (if_neg h3)
  refine wp_false (ibef h3) ?_
  by_cases h4 : what = 4
  · refine wp_true (ibeq h4) ?_
    obtain ⟨y, hy, hyi⟩ := hoy h4
    have hy : old = some y := hy
    subst hy
    obtain ⟨rpy, hyg⟩ := rp
    have hyg : y.g = g := hyg
    have hz := hz4.trans (if_pos h4)
    refine wp_nil.2 (w_ld 0 (x := gmV (some y) lj) hA ok rfl rfl rfl ?_)
    have ok1 : Ok I G (keys ((b, oc ty_deque_Push (psC ob' v t what (alX alloc aj) (cpX copy cj) (gmV (some y) lj) now went)) :: (ob', oc ty_deque_Own (owC o q)) :: (y.bl lj ++ rs))) := by rw [hrs]; exact ok
    have es : own A ((b, oc ty_deque_Push (psC ob' v t what (alX alloc aj) (cpX copy cj) (gmV (some y) lj) now went)) :: (ob', oc ty_deque_Own (owC o q)) :: (y.bl lj ++ (alBl alloc aj ++ (cpBl copy cj ++ gar)))) G = own A ((b, oc ty_deque_Push (psC ob' v t what (alX alloc aj) (cpX copy cj) (gmV (some y) lj) now went)) :: (ob', oc ty_deque_Own (owC o q)) :: (y.bl lj ++ rs)) G := by rw [hrs]
    show wp Tryz.prog _ L (own A ((b, oc ty_deque_Push (psC ob' v t what (alX alloc aj) (cpX copy cj) (gmV (some y) lj) now went)) :: (ob', oc ty_deque_Own (owC o q)) :: (y.bl lj ++ (alBl alloc aj ++ (cpBl copy cj ++ gar)))) G) _
    rw [es]
    obtain ⟨c1, hc1⟩ : ∃ c1 : Nat × Obj, c1 = (b, oc ty_deque_Push (psC ob' v t what (alX alloc aj) (cpX copy cj) (gmV (some y) lj) now went)) := ⟨_, rfl⟩
    obtain ⟨c2, hc2⟩ : ∃ c2 : Nat × Obj, c2 = (ob', oc ty_deque_Own (owC o q)) := ⟨_, rfl⟩
    rw [← hc1, ← hc2] at ok1 ⊢
    obtain ⟨p1, ok2⟩ := own_perm (A := A) (l' := y.bl lj ++ (c1 :: c2 :: rs)) ok1 (perm_by fun c d c0 cd ca => by simp only [cd, ca, c0]; omega)
    rw [p1]
    refine w_lkStep hA ok2 rpy hyi fun lj' hq hA1 ok3 rp' => ?_
    have hg1 : (y.step A).1.g = g := (y.step_g A).1.trans hyg
    have hz : z = (if (y.step A).1.fin = true then ⟨g, (y.step A).1.ls, o, v, t, 5, alloc, copy, none, now, went⟩ else ⟨g, ls, o, v, t, what, alloc, copy, some (y.step A).1, now, went⟩, (y.step A).2) := hz
    generalize (y.step A).2 = A2 at *
    generalize (y.step A).1 = y1 at *
    cases hf : y1.fin with
    | true =>
      rw [hf, if_pos rfl] at hz
      rw [hz]
      refine wp_true rfl ?_
      obtain ⟨e', gar', p2, ok4, gs⟩ := lk_done (A := A2) (rest := c1 :: c2 :: rs) hf rp' ok3
      rw [hg1] at p2 ok4
      rw [p2]
      obtain ⟨p3, ok5⟩ := own_perm (A := A2) (l' := c1 :: c2 :: (g.bl q mq e' ++ (alBl alloc aj ++ (cpBl copy cj ++ (gar' ++ gar))))) ok4 (perm_by fun c d c0 cd ca => by rw [hrs]; simp only [cd, ca, c0]; omega)
      rw [p3, hc1, hc2]
      rw [hc1, hc2] at ok5
      refine wp_nil.2 (w_st 0 hA1 ok5 rfl rfl rfl rfl ?_)
      exact ps_ret (x := ⟨g, y1.ls, o, v, t, 5, alloc, copy, none, now, went⟩) (j := ⟨b, ob', e', lj', aj, cj, gmV (some y) lj, gar' ++ gar⟩) (j0 := ⟨b, ob', e, lj, aj, cj, ov, gar⟩) ⟨rfl, rfl⟩ hA1 (by exact ok5) gs
    | false =>
      rw [hf, if_neg Bool.false_ne_true] at hz
      rw [hz]
      refine wp_false rfl ?_
      obtain ⟨p3, ok5⟩ := own_perm (A := A2) (l' := c1 :: c2 :: (y1.bl lj' ++ (alBl alloc aj ++ (cpBl copy cj ++ gar)))) ok3 (perm_by fun c d c0 cd ca => by rw [hrs]; simp only [cd, ca, c0]; omega)
      have hv : gmV (some y) lj = gmW (some y1) lj' ov := by
        show Value.iface ty_p_guard_look (.pointer (some ⟨lj.q, 0, none⟩)) = Value.iface ty_p_guard_look (.pointer (some ⟨lj'.q, 0, none⟩))
        rw [hq]
      rw [p3, hc1, hc2, hv]
      rw [hc1, hc2, hv] at ok5
      exact ps_ret (x := ⟨g, ls, o, v, t, what, alloc, copy, some y1, now, went⟩) (j := ⟨b, ob', [], lj', aj, cj, ov, gar⟩) (j0 := ⟨b, ob', e, lj, aj, cj, ov, gar⟩) ⟨rfl, rfl⟩ hA1 ok5 ⟨rp', hg1⟩
  have hz5 := hz4.trans (if_neg h4)
  refine wp_false (ibef h4) ?_
  have hn : old = none := hol h4
  subst hn
  by_cases h5 : what = 5
  · refine wp_true (ibeq h5) ?_
    have hz : z = (⟨g, ls, o, v, t, 6, alloc, copy, none, now, went⟩, A.storeF o.h (wordF o.h o.b) v) := hz5.trans (if_pos h5)
    rw [hz]
    refine wp_nil.2 (w_ld 1 (x := o.h) hA ok rfl rfl rfl ?_)
    refine wp_nil.2 (w_ld 1 (x := o.h) hA ok rfl rfl rfl ?_)
    refine wp_nil.2 (w_ld 1 (x := o.b) hA ok rfl rfl rfl ?_)
    refine wp_nil.2 (w_ld 0 (x := v) hA ok rfl rfl rfl ?_)
    refine wp_call_det (x := wordF o.h o.b) (RWord_det _ _ _) ?_
    refine w_ck 0 hA ok rfl rfl rfl ?_
    refine w_ckn rfl ?_
    refine w_ck 1 hA ok rfl rfl rfl ?_
    refine w_ckn rfl ?_
    refine w_Store hA fun hA1 => ?_
    refine wp_nil.2 (w_st 0 hA1 ok rfl rfl rfl rfl ?_)
    exact ps_ret (x := ⟨g, ls, o, v, t, 6, alloc, copy, none, now, went⟩) (j := ⟨b, ob', e, lj, aj, cj, ov, gar⟩) (j0 := ⟨b, ob', e, lj, aj, cj, ov, gar⟩) ⟨rfl, rfl⟩ hA1 (by exact ok) rp
  have hz6 := hz5.trans (if_neg h5)
  refine wp_false (ibef h5) ?_
  by_cases h6 : what = 6
  · refine wp_true (ibeq h6) ?_
    have hz : z = (⟨g, ls, ⟨o.at_, o.work, w64 (o.b + 1), o.h, o.pl⟩, v, t, 7, alloc, copy, none, now, true⟩, A.storeR (dw o.at_ o.work 1) (w64 (o.b + 1))) := hz6.trans (if_pos h6)
    rw [hz]
    refine wp_nil.2 (w_ld 1 (x := o.b) hA ok rfl rfl rfl ?_)
    refine wp_nil.2 (w_st 1 hA ok rfl rfl rfl rfl ?_)
    have ok1 : Ok I G (keys ((b, oc ty_deque_Push (psC ob' v t what (alX alloc aj) (cpX copy cj) ov now went)) :: (ob', oc ty_deque_Own (owC ⟨o.at_, o.work, w64 (o.b + 1), o.h, o.pl⟩ q)) :: (g.bl q mq e ++ (alBl alloc aj ++ (cpBl copy cj ++ gar))))) := ok
    show wp Tryz.prog _ L (own A ((b, oc ty_deque_Push (psC ob' v t what (alX alloc aj) (cpX copy cj) ov now went)) :: (ob', oc ty_deque_Own (owC ⟨o.at_, o.work, w64 (o.b + 1), o.h, o.pl⟩ q)) :: (g.bl q mq e ++ (alBl alloc aj ++ (cpBl copy cj ++ gar)))) G) _
    refine wp_nil.2 (w_ld 1 (x := w64 (o.b + 1)) hA ok1 rfl rfl rfl ?_)
    refine w_oword 1 (n := 1) (o := ⟨o.at_, o.work, w64 (o.b + 1), o.h, o.pl⟩) ⟨hbd.a, hbd.w⟩ (by decide) hA ok1 rfl ?_
    refine w_ck 1 hA ok1 rfl rfl rfl ?_
    refine w_ckn rfl ?_
    refine w_SetRaw hA fun hA1 => ?_
    refine wp_nil.2 (w_st 0 hA1 ok1 rfl rfl rfl rfl ?_)
    refine wp_nil.2 (w_st 0 hA1 (by exact ok1) rfl rfl rfl rfl ?_)
    exact ps_ret (x := ⟨g, ls, ⟨o.at_, o.work, w64 (o.b + 1), o.h, o.pl⟩, v, t, 7, alloc, copy, none, now, true⟩) (j := ⟨b, ob', e, lj, aj, cj, ov, gar⟩) (j0 := ⟨b, ob', e, lj, aj, cj, ov, gar⟩) ⟨rfl, rfl⟩ hA1 (by exact ok1) rp
  have hz7 := hz6.trans (if_neg h6)
  refine wp_false (ibef h6) ?_
  rw [hz7]
  exact ps_ret (x := ⟨g, ls, o, v, t, what, alloc, copy, none, now, went⟩) (j := ⟨b, ob', e, lj, aj, cj, ov, gar⟩) (j0 := ⟨b, ob', e, lj, aj, cj, ov, gar⟩) ⟨rfl, rfl⟩ hA ok rp
structure Pp where
  o : DOw
  t : Int
  what : Int
  v : Int
  ok : Bool
def ppC (ob : Nat) (x : Pp) : List Value := [.pointer (some ⟨ob, 0, none⟩), .int .i64 x.t, .int .i64 x.what, .int .i64 x.v, .bool x.ok]
def Pp.bl (q ob : Nat) (x : Pp) (b : Nat) : Bl := [(b, oc ty_deque_Pop (ppC ob x)), (ob, oc ty_deque_Own (owC x.o q))]
def Pp.step (x : Pp) (A : Ar) : Pp × Ar :=
  if x.what = 0 then ({ x with o := { x.o with b := w64 (x.o.b - 1) }, what := 1 }, A.storeR (dw x.o.at_ x.o.work 1) (w64 (x.o.b - 1)))
  else if x.what = 1 then ({ x with t := A.rawF (dw x.o.at_ x.o.work 0), what := if x.o.b < A.rawF (dw x.o.at_ x.o.work 0) then 4 else 2 }, A.touchR (dw x.o.at_ x.o.work 0))
  else if x.what = 2 then (if x.t < x.o.b then { x with v := A.loadF x.o.h (wordF x.o.h x.o.b), what := 5, ok := true } else { x with v := A.loadF x.o.h (wordF x.o.h x.o.b), what := 3 }, A.touch x.o.h (wordF x.o.h x.o.b))
  else if x.what = 3 then ({ x with ok := A.swapRb (dw x.o.at_ x.o.work 0) x.t, what := 4 }, A.swapR (dw x.o.at_ x.o.work 0) x.t (w64 (x.t + 1)))
  else if x.what = 4 then ({ x with o := { x.o with b := w64 (x.o.b + 1) }, what := 5 }, A.storeR (dw x.o.at_ x.o.work 1) (w64 (x.o.b + 1)))
  else (x, A)
def mPp (q ob : Nat) : Mch Pp Nat where
  f := f_deque_Pop_Step
  addr := id
  bl := Pp.bl q ob
  inv := fun x _ => x.o.bnd
  step := Pp.step
  fin := fun x => (x.what : Int) == 5
section
variable {L : Hands} {R : Value → Heap → Prop} {G : Heap} {l rest : Bl} {A A' : Ar} {I : List Nat} {q mq ob : Nat}
def PpP (q ob b : Nat) (z : Pp × Ar) (I : List Nat) (G : Heap) : Value → Heap → Prop := fun v K => v = .bool ((z.1.what : Int) == 5) ∧ K = own z.2 (z.1.bl q ob b) G ∧ Ok I G (keys (z.1.bl q ob b)) ∧ Aw I z.2
theorem pp_ret {x : Pp} {b : Nat} (hA : Aw I A) (ok : Ok I G (keys (x.bl q ob b))) :
    wp Tryz.prog (.look (opS Tryz.prog (.nilCheck (.tmp 0)) ty_unit [(.pointer (some ⟨b, 0, none⟩))]) (.one (.leaf .addr)) fun x170 =>
      .ld (x170.add 2) (.int .i64) fun x172 =>
      .ret (.bool ((x172 : Int) == 5))) L (own A (x.bl q ob b) G) (PpP q ob b (x, A) I G) := by
  refine wp_nil.2 (w_ld 0 (x := x.what) hA ok rfl rfl rfl ?_)
  exact wp_ret_of ⟨rfl, rfl, ok, hA⟩
theorem mPp_ok : (mPp q ob).ok := by
  rintro I A G x b hA ok hi
  have hbd : x.o.bnd := hi
  refine SpecF.mono (R := PpP q ob b (x.step A) I G) ?_ ?_
  rotate_left
  · rintro v K ⟨rfl, rfl, o, a⟩
    exact ⟨b, rfl, rfl, rfl, o, a⟩
  obtain ⟨o, t, what, v, okk⟩ := x
  have hbd : o.bnd := hbd
  obtain ⟨z, hz0⟩ : ∃ z, z = Pp.step ⟨o, t, what, v, okk⟩ A := ⟨_, rfl⟩
  rw [← hz0]
  refine t_deque_Pop_Step_spec fun L => ?_
  unfold t_deque_Pop_Step
  have ok : Ok I G (keys [(b, oc ty_deque_Pop [.pointer (some ⟨ob, 0, none⟩), .int .i64 t, .int .i64 what, .int .i64 v, .bool okk]), (ob, oc ty_deque_Own (owC o q))]) := ok
  show wp Tryz.prog _ L (own A [(b, oc ty_deque_Pop [.pointer (some ⟨ob, 0, none⟩), .int .i64 t, .int .i64 what, .int .i64 v, .bool okk]), (ob, oc ty_deque_Own (owC o q))] G) _
  refine wp_nil.2 (w_ld 0 (x := some ⟨ob, 0, none⟩) hA ok rfl rfl rfl ?_)
  refine wp_nil.2 (w_ld 0 (x := what) hA ok rfl rfl rfl ?_)
  by_cases h0 : what = 0
  · refine wp_true (ibeq h0) ?_
    have hz : z = (⟨⟨o.at_, o.work, w64 (o.b - 1), o.h, o.pl⟩, t, 1, v, okk⟩, A.storeR (dw o.at_ o.work 1) (w64 (o.b - 1))) := hz0.trans (if_pos h0)
    rw [hz]
    refine wp_nil.2 (w_ld 1 (x := o.b) hA ok rfl rfl rfl ?_)
    refine wp_nil.2 (w_st 1 hA ok rfl rfl rfl rfl ?_)
    have ok1 : Ok I G (keys [(b, oc ty_deque_Pop [.pointer (some ⟨ob, 0, none⟩), .int .i64 t, .int .i64 what, .int .i64 v, .bool okk]), (ob, oc ty_deque_Own (owC ⟨o.at_, o.work, w64 (o.b - 1), o.h, o.pl⟩ q))]) := ok
    show wp Tryz.prog _ L (own A [(b, oc ty_deque_Pop [.pointer (some ⟨ob, 0, none⟩), .int .i64 t, .int .i64 what, .int .i64 v, .bool okk]), (ob, oc ty_deque_Own (owC ⟨o.at_, o.work, w64 (o.b - 1), o.h, o.pl⟩ q))] G) _
    refine wp_nil.2 (w_ld 1 (x := w64 (o.b - 1)) hA ok1 rfl rfl rfl ?_)
    refine w_oword 1 (n := 1) (o := ⟨o.at_, o.work, w64 (o.b - 1), o.h, o.pl⟩) ⟨hbd.a, hbd.w⟩ (by decide) hA ok1 rfl ?_
    refine w_ck 1 hA ok1 rfl rfl rfl ?_
    refine w_ckn rfl ?_
    refine w_SetRaw hA fun hA1 => ?_
    refine wp_nil.2 (w_st 0 hA1 ok1 rfl rfl rfl rfl ?_)
    exact pp_ret (x := ⟨⟨o.at_, o.work, w64 (o.b - 1), o.h, o.pl⟩, t, 1, v, okk⟩) hA1 (by exact ok1)
  have hz1 := hz0.trans (if_neg h0)
  refine wp_false (ibef h0) ?_
  by_cases h1 : what = 1
  · refine wp_true (ibeq h1) ?_
    have hz : z = (⟨o, A.rawF (dw o.at_ o.work 0), if o.b < A.rawF (dw o.at_ o.work 0) then 4 else 2, v, okk⟩, A.touchR (dw o.at_ o.work 0)) := hz1.trans (if_pos h1)
    rw [hz]
    refine w_oword 1 (n := 0) hbd (by decide) hA ok rfl ?_
    refine w_Raw hA fun hA1 => ?_
    refine wp_nil.2 (w_st 0 hA1 ok rfl rfl rfl rfl ?_)
    refine wp_nil.2 (w_st 0 hA1 (by exact ok) rfl rfl rfl rfl ?_)
    refine wp_nil.2 (w_ld 0 (x := A.rawF (dw o.at_ o.work 0)) hA1 (by exact ok) rfl rfl rfl ?_)
    refine wp_nil.2 (w_ld 1 (x := o.b) hA1 (by exact ok) rfl rfl rfl ?_)
    by_cases hl : o.b < A.rawF (dw o.at_ o.work 0)
    · refine wp_true (decide_eq_true hl) ?_
      rw [if_pos hl]
      refine wp_nil.2 (w_st 0 hA1 (by exact ok) rfl rfl rfl rfl ?_)
      exact pp_ret (x := ⟨o, A.rawF (dw o.at_ o.work 0), 4, v, okk⟩) hA1 (by exact ok)
    · refine wp_false (decide_eq_false hl) ?_
      rw [if_neg hl]
      exact pp_ret (x := ⟨o, A.rawF (dw o.at_ o.work 0), 2, v, okk⟩) hA1 (by exact ok)
  have hz2 := hz1.trans (if_neg h1)
  refine wp_false (ibef h1) ?_
  by_cases h2 : what = 2
  · refine wp_true (ibeq h2) ?_
    have hz : z = (if t < o.b then ⟨o, t, 5, A.loadF o.h (wordF o.h o.b), true⟩ else ⟨o, t, 3, A.loadF o.h (wordF o.h o.b), okk⟩, A.touch o.h (wordF o.h o.b)) := hz2.trans (if_pos h2)
    rw [hz]
    refine wp_nil.2 (w_ld 1 (x := o.h) hA ok rfl rfl rfl ?_)
    refine wp_nil.2 (w_ld 1 (x := o.h) hA ok rfl rfl rfl ?_)
    refine wp_nil.2 (w_ld 1 (x := o.b) hA ok rfl rfl rfl ?_)
    refine wp_call_det (x := wordF o.h o.b) (RWord_det _ _ _) ?_
    refine w_ck 1 hA ok rfl rfl rfl ?_
    refine w_ckn rfl ?_
    refine w_Load hA fun hA1 => ?_
    refine wp_nil.2 (w_st 0 hA1 ok rfl rfl rfl rfl ?_)
    refine wp_nil.2 (w_st 0 hA1 (by exact ok) rfl rfl rfl rfl ?_)
    refine wp_nil.2 (w_ld 0 (x := t) hA1 (by exact ok) rfl rfl rfl ?_)
    refine wp_nil.2 (w_ld 1 (x := o.b) hA1 (by exact ok) rfl rfl rfl ?_)
    by_cases hl : t < o.b
    · refine wp_true (decide_eq_true hl) ?_
      rw [if_pos hl]
      refine wp_nil.2 (w_st 0 hA1 (by exact ok) rfl rfl rfl rfl ?_)
      refine wp_nil.2 (w_st 0 hA1 (by exact ok) rfl rfl rfl rfl ?_)
      exact pp_ret (x := ⟨o, t, 5, A.loadF o.h (wordF o.h o.b), true⟩) hA1 (by exact ok)
    · refine wp_false (decide_eq_false hl) ?_
      rw [if_neg hl]
      exact pp_ret (x := ⟨o, t, 3, A.loadF o.h (wordF o.h o.b), okk⟩) hA1 (by exact ok)
  have hz3 := hz2.trans (if_neg h2)
  refine wp_false (ibef h2) ?_
  by_cases h3 : what = 3
  · refine wp_true (ibeq h3) ?_
    have hz : z = (⟨o, t, 4, v, A.swapRb (dw o.at_ o.work 0) t⟩, A.swapR (dw o.at_ o.work 0) t (w64 (t + 1))) := hz3.trans (if_pos h3)
    rw [hz]
    subst h3
    refine wp_nil.2 (w_ld 0 (x := t) hA ok rfl rfl rfl ?_)
    refine wp_nil.2 (w_ld 0 (x := t) hA ok rfl rfl rfl ?_)
    refine w_oword 1 (n := 0) hbd (by decide) hA ok rfl ?_
    refine w_ck 0 hA ok rfl rfl rfl ?_
    refine w_ckn rfl ?_
    refine w_ck 0 hA ok rfl rfl rfl ?_
    refine w_ckn rfl ?_
    refine w_SwapRaw hA fun hA1 => ?_
    refine wp_nil.2 (w_st 0 hA1 ok rfl rfl rfl rfl ?_)
    refine wp_nil.2 (w_ld 0 (x := 3) hA1 (by exact ok) rfl rfl rfl ?_)
    refine wp_true rfl ?_
    refine wp_nil.2 (w_st 0 hA1 (by exact ok) rfl rfl rfl rfl ?_)
    exact pp_ret (x := ⟨o, t, 4, v, A.swapRb (dw o.at_ o.work 0) t⟩) hA1 (by exact ok)
  have hz4 := hz3.trans (if_neg h3)
  refine wp_false (ibef h3) ?_
  by_cases h4 : what = 4
  · refine wp_true (ibeq h4) ?_
    have hz : z = (⟨⟨o.at_, o.work, w64 (o.b + 1), o.h, o.pl⟩, t, 5, v, okk⟩, A.storeR (dw o.at_ o.work 1) (w64 (o.b + 1))) := hz4.trans (if_pos h4)
    rw [hz]
    refine wp_nil.2 (w_ld 0 (x := what) hA ok rfl rfl rfl ?_)
    refine wp_false (ibef h3) ?_
    refine wp_nil.2 (w_ld 1 (x := o.b) hA ok rfl rfl rfl ?_)
    refine wp_nil.2 (w_st 1 hA ok rfl rfl rfl rfl ?_)
    have ok1 : Ok I G (keys [(b, oc ty_deque_Pop [.pointer (some ⟨ob, 0, none⟩), .int .i64 t, .int .i64 what, .int .i64 v, .bool okk]), (ob, oc ty_deque_Own (owC ⟨o.at_, o.work, w64 (o.b + 1), o.h, o.pl⟩ q))]) := ok
    show wp Tryz.prog _ L (own A [(b, oc ty_deque_Pop [.pointer (some ⟨ob, 0, none⟩), .int .i64 t, .int .i64 what, .int .i64 v, .bool okk]), (ob, oc ty_deque_Own (owC ⟨o.at_, o.work, w64 (o.b + 1), o.h, o.pl⟩ q))] G) _
    refine wp_nil.2 (w_ld 1 (x := w64 (o.b + 1)) hA ok1 rfl rfl rfl ?_)
    refine w_oword 1 (n := 1) (o := ⟨o.at_, o.work, w64 (o.b + 1), o.h, o.pl⟩) ⟨hbd.a, hbd.w⟩ (by decide) hA ok1 rfl ?_
    refine w_ck 1 hA ok1 rfl rfl rfl ?_
    refine w_ckn rfl ?_
    refine w_SetRaw hA fun hA1 => ?_
    refine wp_nil.2 (w_st 0 hA1 ok1 rfl rfl rfl rfl ?_)
    exact pp_ret (x := ⟨⟨o.at_, o.work, w64 (o.b + 1), o.h, o.pl⟩, t, 5, v, okk⟩) hA1 (by exact ok1)
  have hz5 := hz4.trans (if_neg h4)
  refine wp_false (ibef h4) ?_
  rw [hz5]
  exact pp_ret (x := ⟨o, t, what, v, okk⟩) hA ok
theorem w_NewPushD {v : Int} {K : Option Addr → Tree} (hA : Aw I A) (ok : Ok I G (keys l))
    (h : ∀ z : Nat, Ok I G (keys ((z, oc ty_deque_Push (psC ob v 0 0 none none .nilIface 0 false)) :: l)) → wp Tryz.prog (K (some ⟨z, 0, none⟩)) L (own A ((z, oc ty_deque_Push (psC ob v 0 0 none none .nilIface 0 false)) :: l) G) R) :
    wp Tryz.prog (.call f_deque_Own_Push [.pointer (some ⟨ob, 0, none⟩), .int .i64 v] (.one (.leaf .ptr)) K) L (own A l G) R := by
  refine wp_call_of (R0 := fun u H => ∃ z : Nat, u = .pointer (some ⟨z, 0, none⟩) ∧ H = own A ((z, oc ty_deque_Push (psC ob v 0 0 none none .nilIface 0 false)) :: l) G ∧ Ok I G (keys ((z, oc ty_deque_Push (psC ob v 0 0 none none .nilIface 0 false)) :: l))) ?_ ?_
  · refine t_deque_Own_Push_spec fun L => ?_
    unfold t_deque_Own_Push
    refine w_newP (c := psC ob v 0 0 none none .nilIface 0 false) hA ok fun z ok1 => ?_
    exact wp_ret_of ⟨z, rfl, rfl, ok1⟩
  · rintro u H ⟨z, rfl, rfl, o⟩
    exact ⟨_, rfl, h z o⟩
theorem w_NewPopD {K : Option Addr → Tree} (hA : Aw I A) (ok : Ok I G (keys l))
    (h : ∀ z : Nat, Ok I G (keys ((z, oc ty_deque_Pop [.pointer (some ⟨ob, 0, none⟩), .int .i64 0, .int .i64 0, .int .i64 0, .bool false]) :: l)) → wp Tryz.prog (K (some ⟨z, 0, none⟩)) L (own A ((z, oc ty_deque_Pop [.pointer (some ⟨ob, 0, none⟩), .int .i64 0, .int .i64 0, .int .i64 0, .bool false]) :: l) G) R) :
    wp Tryz.prog (.call f_deque_Own_Pop [.pointer (some ⟨ob, 0, none⟩)] (.one (.leaf .ptr)) K) L (own A l G) R := by
  refine wp_call_of (R0 := fun u H => ∃ z : Nat, u = .pointer (some ⟨z, 0, none⟩) ∧ H = own A ((z, oc ty_deque_Pop [.pointer (some ⟨ob, 0, none⟩), .int .i64 0, .int .i64 0, .int .i64 0, .bool false]) :: l) G ∧ Ok I G (keys ((z, oc ty_deque_Pop [.pointer (some ⟨ob, 0, none⟩), .int .i64 0, .int .i64 0, .int .i64 0, .bool false]) :: l))) ?_ ?_
  · refine t_deque_Own_Pop_spec fun L => ?_
    unfold t_deque_Own_Pop
    refine w_newP hA ok fun z ok1 => ?_
    exact wp_ret_of ⟨z, rfl, rfl, ok1⟩
  · rintro u H ⟨z, rfl, rfl, o⟩
    exact ⟨_, rfl, h z o⟩
theorem w_Went (i : Nat) {b : Nat} {c : List Value} {went : Bool} {k : Bool → Tree} (hA : Aw I A) (ok : Ok I G (keys l)) (h0 : l[i]? = some (b, oc ty_deque_Push c)) (hc : c[8]? = some (.bool went)) (h : wp Tryz.prog (k went) L (own A l G) R) :
    wp Tryz.prog (.call f_deque_Push_Went [.pointer (some ⟨b, 0, none⟩)] (.one (.leaf .bool)) k) L (own A l G) R := by
  refine wp_call_det (x := went) (H' := own A l G) ?_ h
  refine t_deque_Push_Went_spec fun L => ?_
  unfold t_deque_Push_Went
  refine wp_nil.2 (w_ld i (x := went) hA ok rfl h0 (by show (c[8]?).bind _ = _; rw [hc]; rfl) ?_)
  exact wp_ret_of ⟨rfl, rfl⟩
def Pp.told (x : Pp) : Bool := x.ok && (x.what : Int) == 5
theorem w_PopValue (i : Nat) {b : Nat} {x : Pp} {k : HL Sh1.T [(.leaf (.int .i64)), (.leaf .bool)] → Tree} (hA : Aw I A) (ok : Ok I G (keys l)) (h0 : l[i]? = some (b, oc ty_deque_Pop (ppC ob x)))
    (h : wp Tryz.prog (k ((if x.told = true then x.v else 0), x.told, ())) L (own A l G) R) :
    wp Tryz.prog (.call f_deque_Pop_Value [.pointer (some ⟨b, 0, none⟩)] (.tup [(.leaf (.int .i64)), (.leaf .bool)]) k) L (own A l G) R := by
  refine wp_call_det (x := ((if x.told = true then x.v else 0), x.told, ())) (H' := own A l G) ?_ h
  refine t_deque_Pop_Value_spec fun L => ?_
  unfold t_deque_Pop_Value
  refine wp_nil.2 (w_ld i (x := x.ok) hA ok rfl h0 rfl ?_)
  unfold Pp.told
  cases hk : x.ok with
  | false => exact wp_true rfl (wp_ret_of ⟨rfl, rfl⟩)
  | true =>
    refine wp_false rfl ?_
    refine wp_nil.2 (w_ld i (x := x.what) hA ok rfl h0 rfl ?_)
    by_cases h5 : x.what = 5
    · refine wp_false (ibnf h5) ?_
      refine wp_nil.2 (w_ld i (x := x.v) hA ok rfl h0 rfl ?_)
      refine wp_ret_of ⟨?_, rfl⟩
      rw [h5]; rfl
    · refine wp_true (ibne h5) ?_
      refine wp_ret_of ⟨?_, rfl⟩
      rw [ibef h5]; rfl
theorem w_Size (i : Nat) {o : DOw} {ob : Nat} {k : Int → Tree} (hb : o.bnd) (hA : Aw I A) (ok : Ok I G (keys l)) (hi : l[i]? = some (ob, oc ty_deque_Own (owC o q)))
    (h : Aw I ((A.touchR (dw o.at_ o.work 1)).touchR (dw o.at_ o.work 0)) → wp Tryz.prog (k (imax (w64 (A.rawF (dw o.at_ o.work 1) - (A.touchR (dw o.at_ o.work 1)).rawF (dw o.at_ o.work 0))) 0)) L (own ((A.touchR (dw o.at_ o.work 1)).touchR (dw o.at_ o.work 0)) l G) R) :
    wp Tryz.prog (.call f_deque_Own_Size [.pointer (some ⟨ob, 0, none⟩), .pointer (aI I)] (.one (.leaf (.int .i64))) k) L (own A l G) R := by
  refine wp_call_of (R0 := fun v H => v = .int .i64 (imax (w64 (A.rawF (dw o.at_ o.work 1) - (A.touchR (dw o.at_ o.work 1)).rawF (dw o.at_ o.work 0))) 0) ∧ H = own ((A.touchR (dw o.at_ o.work 1)).touchR (dw o.at_ o.work 0)) l G ∧ Aw I ((A.touchR (dw o.at_ o.work 1)).touchR (dw o.at_ o.work 0))) ?_ ?_
  · refine t_deque_Own_Size_spec fun L => ?_
    unfold t_deque_Own_Size
    refine w_oword i (n := 1) hb (by decide) hA ok hi ?_
    refine w_Raw hA fun hA1 => ?_
    refine w_oword i (n := 0) hb (by decide) hA1 ok hi ?_
    refine w_Raw hA1 fun hA2 => ?_
    exact wp_ret_of ⟨rfl, rfl, hA2⟩
  · rintro v H ⟨rfl, rfl, a⟩
    exact ⟨_, rfl, h a⟩
theorem w_NewOwn {at_ work h0 : Int} {p : Pl} {k : Option Addr → Tree} (ha : 0 ≤ at_ ∧ at_ ≤ 1000000) (hw : 0 ≤ work ∧ work ≤ 1000) (hA : Aw I A) (ok : Ok I G (keys l))
    (h : ∀ (z : Nat) (gar : Bl), Aw I (A.storeR (dw at_ work 2) h0) → Ok I G (keys ((z, oc ty_deque_Own (owC ⟨at_, work, 0, h0, p⟩ q)) :: (gar ++ l))) → wp Tryz.prog (k (some ⟨z, 0, none⟩)) L (own (A.storeR (dw at_ work 2) h0) ((z, oc ty_deque_Own (owC ⟨at_, work, 0, h0, p⟩ q)) :: (gar ++ l)) G) R) :
    wp Tryz.prog (.call f_deque_New [.pointer (aI I), .int .i64 at_, .int .i64 work, .int .i64 h0, p.val, .pointer (some ⟨q, 0, none⟩)] (.one (.leaf .ptr)) k) L (own A l G) R := by
  refine wp_call_of (R0 := fun v H => ∃ (z : Nat) (gar : Bl), v = .pointer (some ⟨z, 0, none⟩) ∧ Aw I (A.storeR (dw at_ work 2) h0) ∧ H = own (A.storeR (dw at_ work 2) h0) ((z, oc ty_deque_Own (owC ⟨at_, work, 0, h0, p⟩ q)) :: (gar ++ l)) G ∧ Ok I G (keys ((z, oc ty_deque_Own (owC ⟨at_, work, 0, h0, p⟩ q)) :: (gar ++ l)))) ?_ ?_
  · refine t_deque_New_spec (p4_0 := p.work) (p4_1 := p.heads) (p4_2 := p.links) (p4_3 := p.gens) (p4_4 := p.carved) fun L => ?_
    unfold t_deque_New
    refine w_newP (c := plCells p) hA ok fun x10 ok1 => ?_
    refine w_ldA (x := (p.work, p.heads, p.links, p.gens, p.carved, ())) 0 hA ok1 rfl rfl rfl ?_
    refine w_newP (c := owC ⟨at_, work, 0, h0, p⟩ q) hA ok1 fun x20 ok2 => ?_
    refine w_oword 0 (o := ⟨at_, work, 0, h0, p⟩) (n := 2) ⟨ha, hw⟩ (by decide) hA ok2 rfl ?_
    refine w_SetRaw hA fun hA1 => ?_
    exact wp_ret_of ⟨x20, [(x10, oc ty_free_Place (plCells p))], rfl, hA1, rfl, ok2⟩
  · rintro v H ⟨z, gar, rfl, a, rfl, o⟩
    exact ⟨_, rfl, h z gar a o⟩
end
theorem rawF_set1 {A : Ar} {i j v : Int} (hi : A.rawOk i) : (A.setR i.toNat v).rawF j = if j = i then v else A.rawF j := by
  unfold Ar.rawOk at hi
  by_cases hj : A.rawOk j
  · have hj' : (A.setR i.toNat v).rawOk j := by unfold Ar.rawOk Ar.setR at *; simpa using hj
    rw [← getD_rawF hj', ← getD_rawF hj]
    unfold Ar.rawOk at hj
    show (A.raw.set i.toNat v).getD j.toNat 0 = _
    rw [List.getD_eq_getElem?_getD, List.getElem?_set]
    by_cases e : j = i
    · rw [if_pos e, if_pos (by rw [e]), if_pos (by omega)]; rfl
    · rw [if_neg e, if_neg (by omega), List.getD_eq_getElem?_getD]
  · have hj' : ¬ (A.setR i.toNat v).rawOk j := by unfold Ar.rawOk Ar.setR at *; simpa using hj
    have e : ¬ j = i := fun e => hj (e ▸ hi)
    rw [if_neg e]; unfold Ar.rawF; rw [if_neg hj, if_neg hj']
theorem set_self {l : List Int} {i : Nat} {v : Int} (hi : i < l.length) (h : l.getD i 0 = v) : l.set i v = l := by
  rw [List.getD_eq_getElem?_getD, List.getElem?_eq_getElem hi] at h
  have h : l[i] = v := h
  rw [← h]; exact List.set_getElem_self hi
structure RStep (w n : Int) (A B : Ar) : Prop where
  eq : ∃ r : List Int, B = { A with raw := r, uses := A.uses + 1 } ∧ r.length = A.raw.length
  up : ∀ i, 4 * w + n ≤ i → B.rawF i = A.rawF i
structure FEv (w n : Int) (A B : Ar) (mb : Int) : Prop where
  hd : ∀ k, 0 ≤ k → k < 4 * w → A.rawF k / 131072 ≤ B.rawF k / 131072 ∧ (A.rawF k / 131072 = B.rawF k / 131072 → B.rawF k = A.rawF k)
  lk : ∀ b, 0 ≤ b → b % 8 = 0 → b / 8 < n → b ≠ mb → B.rawF (4 * w + b / 8) = A.rawF (4 * w + b / 8)
section
variable {A B : Ar} {p : Pl} {w n k b : Int} {ch : Int → List Int}
theorem FEv.same {mb : Int} (h : ∀ i, 0 ≤ i → i < 4 * w + n → B.rawF i = A.rawF i) (wb : 0 ≤ w) (nb : 0 ≤ n) : FEv w n A B mb :=
  ⟨fun k h0 h1 => by rw [h k h0 (by omega)]; exact ⟨Int.le_refl _, fun _ => rfl⟩, fun b h0 h1 h2 _ => h _ (by omega) (by omega)⟩
theorem FEv.trans {C : Ar} {mb : Int} (h : FEv w n A B mb) (g : FEv w n B C mb) : FEv w n A C mb :=
  ⟨fun k h0 h1 => by
    obtain ⟨a1, a2⟩ := h.hd k h0 h1
    obtain ⟨b1, b2⟩ := g.hd k h0 h1
    exact ⟨by omega, fun e => by rw [b2 (by omega), a2 (by omega)]⟩, fun b h0 h1 h2 h3 => by rw [g.lk b h0 h1 h2 h3, h.lk b h0 h1 h2 h3]⟩
theorem FL.same (F : FL B p w n ch) (hr : ∀ i, A.rawF i = B.rawF i) (hl : A.raw.length = B.raw.length) (us : 0 ≤ A.uses) (hd : ∀ k, 0 ≤ k → k < 4 * w → A.rawF k / 131072 ≤ A.uses) : FL A p w n ch where
  heads := F.heads
  links := F.links
  wb := F.wb
  nb := F.nb
  len := by rw [hl]; exact F.len
  us := us
  hd k h0 h1 := ⟨by rw [hr]; exact (F.hd k h0 h1).1, hd k h0 h1⟩
  chn k h0 h1 := by
    rw [hr]
    exact chain_frame (fun i => by unfold Ar.rawOk; rw [hl]) _ _ (fun x _ => hr _) (F.chn k h0 h1)
  mem := F.mem
  nd := F.nd
  dj := F.dj
  rg := F.rg
theorem FL.tick (F : FL A p w n ch) : FL (A.later 1) p w n ch := F.congr (fun _ _ _ => rfl) rfl (by show A.uses ≤ A.uses + 1; omega)
theorem FL.pop1 (F : FL A p w n ch) (hu : A.uses ≤ 1000000000) {l : List Int} (hk : ch k = b :: l) :
    FL ((A.later 1).setR k.toNat (nextF (A.rawF k) (A.rawF (4 * w + b / 8)))) p w n (upd ch k l) ∧ FEv w n A ((A.later 1).setR k.toNat (nextF (A.rawF k) (A.rawF (4 * w + b / 8)))) (-1) := by
  obtain ⟨h0, h1⟩ := F.rg k (by rw [hk]; simp)
  have wb := F.wb
  have nb := F.nb
  have us := F.us
  have o1 := F.hdOk h0 h1
  have hkd := F.hd k h0 h1
  have hch := F.chn k h0 h1
  rw [hk] at hch
  have hc := chain_pop (A := A) (lk := 4 * w) (hd := k) (b := b) (l := l) (by rw [mod17]; exact hch) o1 (by omega) (fun x hx => by
    obtain ⟨a1, a2, a3⟩ := F.mem k x (by rw [hk]; exact hx)
    exact ⟨a2, a1, by omega, F.lkOk a1 a3, by omega⟩)
  have rf : ∀ j, ((A.later 1).setR k.toNat (nextF (A.rawF k) (A.rawF (4 * w + b / 8)))).rawF j = if j = k then nextF (A.rawF k) (A.rawF (4 * w + b / 8)) else A.rawF j := fun j => rawF_set1 (A := A.later 1) o1
  have nx : nextF (A.rawF k) (A.rawF (4 * w + b / 8)) = (A.rawF k / 131072 + 1) * 131072 + A.rawF (4 * w + b / 8) := nextF_eq (by omega) (by omega) hc.2.2.2.1 hc.2.2.2.2
  have b0 := hc.2.2.2.1
  have b1 := hc.2.2.2.2
  refine ⟨(F.pop hu hk).same (fun i => rawF_congr rfl i) (by show (A.raw.set _ _).length = (A.raw.set _ _).length; rw [List.length_set]) (by show 0 ≤ A.uses + 1; omega) fun j j0 j1 => ?_, fun j j0 j1 => ?_, fun c c0 c1 c2 _ => ?_⟩
  · rw [rf]
    show _ ≤ A.uses + 1
    by_cases e : j = k
    · rw [if_pos e, nx]; omega
    · rw [if_neg e]; have := F.hd j j0 j1; omega
  · rw [rf]
    by_cases e : j = k
    · rw [if_pos e, nx, e]; exact ⟨by omega, fun h => by omega⟩
    · rw [if_neg e]; exact ⟨Int.le_refl _, fun _ => rfl⟩
  · rw [rf, if_neg (by omega)]
theorem FL.push1 (F : FL A p w n ch) (hu : A.uses ≤ 1000000000) (h0 : 0 ≤ k) (h1 : k < 4 * w) (hb : 0 ≤ b ∧ b % 8 = 0 ∧ b / 8 < n) (hn : ∀ j, b ∉ ch j) (hl : A.rawF (4 * w + b / 8) = A.rawF k % 131072) :
    FL ((A.later 1).setR k.toNat (nextF (A.rawF k) (b / 8 + 1))) p w n (upd ch k (b :: ch k)) ∧ FEv w n A ((A.later 1).setR k.toNat (nextF (A.rawF k) (b / 8 + 1))) (-1) := by
  have wb := F.wb
  have nb := F.nb
  have us := F.us
  have o1 := F.hdOk h0 h1
  have o2 := F.lkOk hb.1 hb.2.2
  have hkd := F.hd k h0 h1
  have td : Int.tdiv b 8 = b / 8 := Int.tdiv_eq_ediv_of_nonneg hb.1
  have e1 : w64 (w64 (Int.tdiv b 8) + 1) = b / 8 + 1 := by rw [td, w64_in (x := b / 8) (by omega) (by omega), w64_in (by omega) (by omega)]
  have rf : ∀ j, ((A.later 1).setR k.toNat (nextF (A.rawF k) (b / 8 + 1))).rawF j = if j = k then nextF (A.rawF k) (b / 8 + 1) else A.rawF j := fun j => rawF_set1 (A := A.later 1) o1
  have nx : nextF (A.rawF k) (b / 8 + 1) = (A.rawF k / 131072 + 1) * 131072 + (b / 8 + 1) := nextF_eq (by omega) (by omega) (by omega) (by omega)
  have hraw : ((A.later 1).setR k.toNat (nextF (A.rawF k) (b / 8 + 1))).raw = (A.pushed k (4 * w + b / 8) b).raw := by
    show A.raw.set k.toNat _ = (A.raw.set (4 * w + b / 8).toNat (iand (A.rawF k) 131071)).set k.toNat (nextF (A.rawF k) (w64 (w64 (Int.tdiv b 8) + 1)))
    rw [e1, set_self (l := A.raw) (i := (4 * w + b / 8).toNat) (v := iand (A.rawF k) 131071) (by unfold Ar.rawOk at o2; omega) (by rw [getD_rawF o2, hl, mod17])]
  refine ⟨(F.push hu h0 h1 hb hn).same (fun i => rawF_congr hraw i) (by rw [hraw]) (by show 0 ≤ A.uses + 1; omega) fun j j0 j1 => ?_, fun j j0 j1 => ?_, fun c c0 c1 c2 _ => ?_⟩
  · rw [rf]
    show _ ≤ A.uses + 1
    by_cases e : j = k
    · rw [if_pos e, nx]; omega
    · rw [if_neg e]; have := F.hd j j0 j1; omega
  · rw [rf]
    by_cases e : j = k
    · rw [if_pos e, nx, e]; exact ⟨by omega, fun h => by omega⟩
    · rw [if_neg e]; exact ⟨Int.le_refl _, fun _ => rfl⟩
  · rw [rf, if_neg (by omega)]
theorem FL.link1 (F : FL A p w n ch) (hb : 0 ≤ b ∧ b % 8 = 0 ∧ b / 8 < n) (hn : ∀ j, b ∉ ch j) (v : Int) :
    FL ((A.later 1).setR (4 * w + b / 8).toNat v) p w n ch ∧ FEv w n A ((A.later 1).setR (4 * w + b / 8).toNat v) b := by
  have wb := F.wb
  have nb := F.nb
  have us := F.us
  have o2 := F.lkOk hb.1 hb.2.2
  have rf : ∀ j, ((A.later 1).setR (4 * w + b / 8).toNat v).rawF j = if j = 4 * w + b / 8 then v else A.rawF j := fun j => rawF_set1 (A := A.later 1) o2
  refine ⟨⟨F.heads, F.links, F.wb, F.nb, by show _ ≤ ((A.raw.set _ _).length : Int); rw [List.length_set]; exact F.len, by show 0 ≤ A.uses + 1; omega, fun j j0 j1 => ?_, fun j j0 j1 => ?_, F.mem, F.nd, F.dj, F.rg⟩, fun j j0 j1 => ?_, fun c c0 c1 c2 c3 => ?_⟩
  · rw [rf, if_neg (by omega)]
    show _ ∧ _ ≤ A.uses + 1
    have := F.hd j j0 j1; omega
  · rw [rf, if_neg (by omega)]
    refine chain_frame (fun i => by unfold Ar.rawOk; show _ ∧ i < ((A.raw.set _ _).length : Int) ↔ _; rw [List.length_set]) _ _ (fun x hx => ?_) (F.chn j j0 j1)
    obtain ⟨a1, a2, a3⟩ := F.mem j x hx
    have : x ≠ b := fun e => hn j (e ▸ hx)
    rw [rf, if_neg (by omega)]
  · rw [rf, if_neg (by omega)]; exact ⟨Int.le_refl _, fun _ => rfl⟩
  · rw [rf, if_neg (by omega)]
structure PoI (p : Pl) (w n k : Int) (x : Po) (A : Ar) : Prop where
  pl : x.pl = p
  hd : x.head = k
  ok : x.ok = false
  ph : x.at' = 0 ∨ x.at' = 1 ∨ x.at' = 2
  was : x.at' ≠ 0 → 0 ≤ x.was ∧ x.was % 131072 ≠ 0 ∧ x.was % 131072 ≤ n ∧ x.was / 131072 ≤ A.rawF k / 131072 ∧ (x.was / 131072 = A.rawF k / 131072 → A.rawF k = x.was)
  link : x.at' = 2 → A.rawF k = x.was → x.link = A.rawF (4 * w + (x.was % 131072 - 1))
theorem PoI.new (hp : p.heads = 0) (wb : 0 ≤ w ∧ w ≤ 1000) {who c : Int} (h : headF p who c = k) : PoI p w n k ⟨p, headF p who c, 0, 0, 0, 0, false⟩ A := ⟨rfl, h, rfl, .inl rfl, fun h => (h rfl).elim, fun h => by cases h⟩
theorem PoI.keep {x : Po} (P : PoI p w n k x A) (F : FL A p w n ch) (h0 : 0 ≤ k) (h1 : k < 4 * w) {mb : Int} (hm : ∀ j, mb ∉ ch j) (E : FEv w n A B mb) : PoI p w n k x B := by
  obtain ⟨e1, e2⟩ := E.hd k h0 h1
  refine ⟨P.pl, P.hd, P.ok, P.ph, fun h => ?_, fun h hb => ?_⟩
  · obtain ⟨a1, a2, a3, a4, a5⟩ := P.was h
    exact ⟨a1, a2, a3, by omega, fun e => by rw [e2 (by omega)]; exact a5 (by omega)⟩
  · obtain ⟨a1, a2, a3, a4, a5⟩ := P.was (by omega)
    have t : A.rawF k / 131072 = B.rawF k / 131072 := by rw [hb] at e1 ⊢; omega
    have hA : A.rawF k = x.was := by rw [← hb]; exact (e2 t).symm
    rw [P.link h hA]
    obtain ⟨b, l, hbl⟩ : ∃ b l, ch k = b :: l := by
      cases hc : ch k with
      | nil => exact (a2 (by rw [← hA]; exact F.first_nil h0 h1 hc)).elim
      | cons b l => exact ⟨b, l, rfl⟩
    have hf := F.first_cons h0 h1 hbl
    rw [hA] at hf
    have hmem : b ∈ ch k := by rw [hbl]; simp
    obtain ⟨m1, m2, m3⟩ := F.mem k b hmem
    rw [hf, show b / 8 + 1 - 1 = b / 8 by omega]
    exact (E.lk b m1 m2 m3 fun e => hm k (e ▸ hmem)).symm
theorem rstep_later {w n : Int} {A : Ar} : RStep w n A (A.later 1) := ⟨⟨A.raw, rfl, rfl⟩, fun _ _ => rfl⟩
theorem rstep_set {i v : Int} (o : A.rawOk i) (h : i < 4 * w + n) : RStep w n A ((A.later 1).setR i.toNat v) := ⟨⟨A.raw.set i.toNat v, rfl, by rw [List.length_set]⟩, fun j hj => by rw [rawF_set1 (A := A.later 1) o, if_neg (by omega)]; rfl⟩
theorem PoI.step {x : Po} (P : PoI p w n k x A) (F : FL A p w n ch) (hu : A.uses ≤ 1000000000) (h0 : 0 ≤ k) (h1 : k < 4 * w) :
    (x.stepB A = false ∧ x.stepA A = A.later 1 ∧ PoI p w n k (x.stepM A) (A.later 1)) ∨
    (x.stepB A = true ∧ x.stepA A = A.later 1 ∧ (x.stepM A).ok = false ∧ ch k = []) ∨
    (x.stepB A = true ∧ (x.stepM A).ok = true ∧ ∃ b l, ch k = b :: l ∧ (x.stepM A).base = b ∧ x.stepA A = (A.later 1).setR k.toNat (nextF (A.rawF k) (A.rawF (4 * w + b / 8)))) := by
  have us := F.us
  have wb := F.wb
  have nb := F.nb
  have o1 := F.hdOk h0 h1
  have hkd := F.hd k h0 h1
  have tk : A.tick = A.later 1 := tick_uses us (by omega)
  have eh := P.hd
  rcases P.ph with h | h | h
  · have s := Po.s0 (A := A) h (by rw [eh]; exact o1)
    rw [eh, tk] at s
    obtain ⟨s1, s2⟩ := Prod.mk.inj s
    have sb : x.stepB A = decide (A.rawF k % 131072 = 0) := by
      unfold Po.stepB; rw [if_neg (by omega), if_neg (by omega), if_neg (by omega), eh, mod17]
    by_cases c : A.rawF k % 131072 = 0
    · right; left
      refine ⟨by rw [sb, decide_eq_true c], s2, by rw [s1]; exact P.ok, ?_⟩
      cases hc : ch k with
      | nil => rfl
      | cons b l =>
        have := F.first_cons h0 h1 hc
        have := F.mem k b (by rw [hc]; simp)
        omega
    · left
      refine ⟨by rw [sb, decide_eq_false c], s2, ?_⟩
      rw [s1, if_neg c]
      obtain ⟨b, l, hbl⟩ : ∃ b l, ch k = b :: l := by
        cases hc : ch k with
        | nil => exact (c (F.first_nil h0 h1 hc)).elim
        | cons b l => exact ⟨b, l, rfl⟩
      have hf := F.first_cons h0 h1 hbl
      obtain ⟨m1, m2, m3⟩ := F.mem k b (by rw [hbl]; simp)
      exact ⟨P.pl, rfl, P.ok, .inr (.inl rfl), fun _ => ⟨hkd.1, c, by show A.rawF k % 131072 ≤ n; omega, Int.le_refl _, fun _ => rfl⟩, fun h => by cases h⟩
  · left
    obtain ⟨a1, a2, a3, a4, a5⟩ := P.was (by omega)
    have el : w64 (w64 (x.pl.links + x.was % 131072) - 1) = 4 * w + (x.was % 131072 - 1) := by
      rw [P.pl, F.links, w64_in (x := 4 * w + x.was % 131072) (by omega) (by omega), w64_in (by omega) (by omega)]; omega
    have o2 : A.rawOk (4 * w + (x.was % 131072 - 1)) := ⟨by omega, by have := F.len; omega⟩
    have s := Po.s1 (A := A) h el o2
    rw [tk] at s
    obtain ⟨s1, s2⟩ := Prod.mk.inj s
    refine ⟨by unfold Po.stepB; rw [if_pos h], s2, ?_⟩
    rw [s1]
    exact ⟨P.pl, P.hd, P.ok, .inr (.inr rfl), fun _ => ⟨a1, a2, a3, a4, a5⟩, fun _ _ => rfl⟩
  · obtain ⟨a1, a2, a3, a4, a5⟩ := P.was (by omega)
    have sb : x.stepB A = A.swapRb x.head x.was := by unfold Po.stepB; rw [if_neg (by omega), if_pos h]
    by_cases c : A.rawF k = x.was
    · right; right
      have s := Po.s2y (A := A) h (by rw [eh]; exact o1) (by rw [eh]; exact c)
      rw [eh, tk] at s
      obtain ⟨s1, s2⟩ := Prod.mk.inj s
      have sw : A.swapRb x.head x.was = true := by rw [eh]; exact decide_eq_true ⟨o1, by rw [getD_rawF o1]; exact c⟩
      obtain ⟨b, l, hbl⟩ : ∃ b l, ch k = b :: l := by
        cases hc : ch k with
        | nil => exact (a2 (by rw [← c]; exact F.first_nil h0 h1 hc)).elim
        | cons b l => exact ⟨b, l, rfl⟩
      have hf := F.first_cons h0 h1 hbl
      rw [c] at hf
      obtain ⟨m1, m2, m3⟩ := F.mem k b (by rw [hbl]; simp)
      refine ⟨by rw [sb, sw], by rw [s1], b, l, hbl, ?_, ?_⟩
      · rw [s1]
        show w64 (w64 (x.was % 131072 - 1) * 8) = b
        rw [hf, w64_in (x := b / 8 + 1 - 1) (by omega) (by omega), w64_in (by omega) (by omega)]; omega
      · rw [s2, P.link h c, c, hf, show b / 8 + 1 - 1 = b / 8 by omega]
    · left
      have s := Po.s2n (A := A) h (by rw [eh]; exact o1) (by rw [eh]; exact c)
      rw [tk] at s
      obtain ⟨s1, s2⟩ := Prod.mk.inj s
      have sw : A.swapRb x.head x.was = false := by rw [eh]; exact decide_eq_false fun e => c (by rw [← getD_rawF o1]; exact e.2)
      refine ⟨by rw [sb, sw], s2, ?_⟩
      rw [s1]
      exact ⟨P.pl, P.hd, P.ok, .inl rfl, fun h => (h rfl).elim, fun h => by cases h⟩
structure PuI (p : Pl) (w n k b : Int) (x : Pu) (A : Ar) : Prop where
  pl : x.pl = p
  hd : x.head = k
  ba : x.base = b
  bb : 0 ≤ b ∧ b % 8 = 0 ∧ b / 8 < n
  ph : x.at' = 0 ∨ x.at' = 1 ∨ x.at' = 2
  was : x.at' ≠ 0 → 0 ≤ x.was
  link : x.at' = 2 → A.rawF (4 * w + b / 8) = x.was % 131072
theorem PuI.new {who c : Int} (h : headF p who c = k) (hb : 0 ≤ b ∧ b % 8 = 0 ∧ b / 8 < n) : PuI p w n k b ⟨p, headF p who c, 0, 0, b⟩ A := ⟨rfl, h, rfl, hb, .inl rfl, fun h => (h rfl).elim, fun h => by cases h⟩
theorem PuI.keep {x : Pu} (P : PuI p w n k b x A) {mb : Int} (hm : b ≠ mb) (E : FEv w n A B mb) : PuI p w n k b x B :=
  ⟨P.pl, P.hd, P.ba, P.bb, P.ph, P.was, fun h => by rw [E.lk b P.bb.1 P.bb.2.1 P.bb.2.2 hm]; exact P.link h⟩
theorem PuI.step {x : Pu} (P : PuI p w n k b x A) (F : FL A p w n ch) (hu : A.uses ≤ 1000000000) (h0 : 0 ≤ k) (h1 : k < 4 * w) (hn : ∀ j, b ∉ ch j) :
    (x.stepB A = false ∧ PuI p w n k b (x.stepM A) (x.stepA A) ∧ FL (x.stepA A) p w n ch ∧ FEv w n A (x.stepA A) b ∧ RStep w n A (x.stepA A)) ∨
    (x.stepB A = true ∧ FL (x.stepA A) p w n (upd ch k (b :: ch k)) ∧ FEv w n A (x.stepA A) b ∧ RStep w n A (x.stepA A)) := by
  have us := F.us
  have wb := F.wb
  have nb := F.nb
  have o1 := F.hdOk h0 h1
  have o2 := F.lkOk P.bb.1 P.bb.2.2
  have bb := P.bb
  have hkd := F.hd k h0 h1
  have tk : A.tick = A.later 1 := tick_uses us (by omega)
  have eh := P.hd
  have same : FEv w n A (A.later 1) b := FEv.same (fun _ _ _ => rfl) wb.1 nb.1
  have td : Int.tdiv b 8 = b / 8 := Int.tdiv_eq_ediv_of_nonneg bb.1
  rcases P.ph with h | h | h
  · left
    have s := Pu.s0 (A := A) h (by rw [eh]; exact o1)
    rw [eh, tk] at s
    obtain ⟨s1, s2⟩ := Prod.mk.inj s
    refine ⟨by unfold Pu.stepB; rw [if_neg (by omega), decide_eq_false (by omega)], ?_⟩
    rw [s1, s2]
    exact ⟨⟨P.pl, rfl, P.ba, bb, .inr (.inl rfl), fun _ => hkd.1, fun h => by cases h⟩, F.tick, same, rstep_later⟩
  · left
    have el : w64 (x.pl.links + w64 (Int.tdiv x.base 8)) = 4 * w + b / 8 := by
      rw [P.pl, P.ba, F.links, td, w64_in (x := b / 8) (by omega) (by omega), w64_in (by omega) (by omega)]
    have s := Pu.s1 (A := A) h el o2
    rw [tk, mod17] at s
    obtain ⟨s1, s2⟩ := Prod.mk.inj s
    obtain ⟨f1, f2⟩ := F.link1 bb hn (x.was % 131072)
    refine ⟨by unfold Pu.stepB; rw [if_neg (by omega), decide_eq_false (by omega)], ?_⟩
    rw [s1, s2]
    exact ⟨⟨P.pl, P.hd, P.ba, bb, .inr (.inr rfl), fun _ => P.was (by omega), fun _ => by rw [rawF_set1 (A := A.later 1) o2, if_pos rfl]⟩, f1, f2, rstep_set o2 (by omega)⟩
  · have sb : x.stepB A = A.swapRb x.head x.was := by unfold Pu.stepB; rw [if_pos h]
    have w0 := P.was (by omega)
    by_cases c : A.rawF k = x.was
    · right
      have s := Pu.s2y (A := A) h (by rw [eh]; exact o1) (by rw [eh]; exact c)
      rw [eh, tk, P.ba, td] at s
      obtain ⟨s1, s2⟩ := Prod.mk.inj s
      have sw : A.swapRb x.head x.was = true := by rw [eh]; exact decide_eq_true ⟨o1, by rw [getD_rawF o1]; exact c⟩
      have e1 : w64 (w64 (b / 8) + 1) = b / 8 + 1 := by rw [w64_in (x := b / 8) (by omega) (by omega), w64_in (by omega) (by omega)]
      rw [e1, ← c] at s2
      obtain ⟨f1, f2⟩ := F.push1 hu h0 h1 bb hn (by rw [c]; exact P.link h)
      refine ⟨by rw [sb, sw], ?_⟩
      rw [s2]
      exact ⟨f1, ⟨f2.hd, fun c c0 c1 c2 _ => f2.lk c c0 c1 c2 (by omega)⟩, rstep_set o1 (by omega)⟩
    · left
      have s := Pu.s2n (A := A) h (by rw [eh]; exact o1) (by rw [eh]; exact c)
      rw [tk] at s
      obtain ⟨s1, s2⟩ := Prod.mk.inj s
      have sw : A.swapRb x.head x.was = false := by rw [eh]; exact decide_eq_false fun e => c (by rw [← getD_rawF o1]; exact e.2)
      refine ⟨by rw [sb, sw], ?_⟩
      rw [s1, s2]
      exact ⟨⟨P.pl, P.hd, P.ba, bb, .inl rfl, fun h => (h rfl).elim, fun h => by cases h⟩, F.tick, same, rstep_later⟩
end
section
variable {A B C : Ar} {p : Pl} {w m : Int} {S S' S2 : Sg}
theorem SL.ofRaw (X : SL A p w m S) {r : List Int} {ch' : Int → List Int} (hl : r.length = A.raw.length) (up : ∀ i, 4 * w + (m + 7) / 8 ≤ i → ({ A with raw := r } : Ar).rawF i = A.rawF i) (F : FL { A with raw := r } p w ((m + 7) / 8) ch')
    (hc : ∀ k b, b ∈ ch' k → S.cl b = k % 4) (ha : ∀ h, A.stF h ≠ 0 → ∀ k, opB h ∉ ch' k) : SL { A with raw := r } p w m { S with ch := ch' } := by
  obtain ⟨p1, p2, p3, p4, p5⟩ := X.places
  have wb := X.wb
  have mb := X.mb
  have st : ∀ h, ({ A with raw := r } : Ar).stF h = A.stF h := fun h => stF_slots rfl h
  refine ⟨F, X.pl, X.wb, X.mb, by show p.carved < (r.length : Int); rw [hl]; exact X.rl, X.wl, X.fr, ?_, X.cvb, ?_, X.gnb, X.gnz, X.blk, X.dis, hc, ?_, ?_, X.cr1, X.cr2, X.cnt, X.ncb, X.cnb⟩
  · rw [up _ (by omega)]; exact X.cvr
  · intro b h0 h1 h2; rw [up _ (by omega)]; exact X.gnr b h0 h1 h2
  · intro h hh
    rw [st] at hh
    exact ⟨(X.act h hh).1, ha h hh⟩
  · intro i hi
    obtain ⟨h, h1, h2, h3⟩ := X.bz i hi
    exact ⟨h, by rw [st]; exact h1, h2, h3⟩
def Ow (A : Ar) (S : Sg) (b : Int) : Prop := S.cl b ≠ -1 ∧ (∀ k, b ∉ S.ch k) ∧ ∀ h, A.stF h ≠ 0 → opB h ≠ b
structure Ev (p : Pl) (w m : Int) (A : Ar) (S : Sg) (B : Ar) (S' : Sg) (mine : Int) : Prop where
  fe : FEv w ((m + 7) / 8) A B mine
  cl : ∀ b, S.cl b ≠ -1 → S'.cl b = S.cl b
  ow : ∀ b, Ow A S b → b ≠ mine → Ow B S' b
  st : ∀ h, opB h ≠ mine → B.stF h = A.stF h
  fa : B.fault = A.fault
  rl : B.raw.length = A.raw.length
  rw : ∀ i, p.carved < i → B.rawF i = A.rawF i
  us : A.uses ≤ B.uses
theorem Ev.later (X : SL A p w m S) {n mine : Int} (hn : 0 ≤ n) : Ev p w m A S (A.later n) S mine :=
  ⟨FEv.same (fun _ _ _ => rfl) X.F.wb.1 X.F.nb.1, fun _ _ => rfl, fun _ h _ => h, fun _ _ => rfl, rfl, rfl, fun _ _ => rfl, by show A.uses ≤ A.uses + n; omega⟩
theorem Ev.refl {mine : Int} : Ev p w m A S A S mine := ⟨⟨fun _ _ _ => ⟨Int.le_refl _, fun _ => rfl⟩, fun _ _ _ _ _ => rfl⟩, fun _ _ => rfl, fun _ h _ => h, fun _ _ => rfl, rfl, rfl, fun _ _ => rfl, Int.le_refl _⟩
structure AlI (p : Pl) (w m : Int) (x : Al) (A : Ar) (S : Sg) : Prop where
  pl : x.pl = p
  who : 0 ≤ x.work ∧ x.work < w
  cls : 0 ≤ x.cls ∧ x.cls < 4
  lst : 0 ≤ x.lst ∧ x.lst ≤ w
  wh : x.what = 0 ∨ x.what = 1 ∨ x.what = 2 ∨ x.what = 3
  pops : x.what = 0 → x.lst < w ∧ ∃ k, 0 ≤ k ∧ k < 4 * w ∧ k % 4 = x.cls ∧ PoI p w ((m + 7) / 8) k x.po A
  swaps : x.what = 2 → 0 ≤ x.base ∧ x.base + sizeF x.cls ≤ m
  bears : x.what = 3 → Ow A S x.base ∧ S.cl x.base = x.cls
  h0 : x.h = 0
def Al.mine (x : Al) : Int := if x.what = 3 then x.base else -1
theorem AlI.new (X : SL A p w m S) {who c : Int} (wh : 0 ≤ who ∧ who < w) (hc : 0 ≤ c ∧ c < 4) : AlI p w m (newAl p who c) A S := by
  obtain ⟨p1, p2, p3, p4, p5⟩ := X.places
  have wb := X.wb
  have e := headF_eq (p := p) (w := who) (c := c) p1 ⟨wh.1, by omega⟩ hc
  exact ⟨rfl, wh, hc, ⟨Int.le_refl 0, by show 0 ≤ w; omega⟩, .inl rfl, fun _ => ⟨by show 0 < w; omega, 4 * who + c, by omega, by omega, by show (4 * who + c) % 4 = c; omega, PoI.new p1 ⟨by omega, by omega⟩ e⟩, fun h => (by cases h), fun h => (by cases h), rfl⟩
theorem AlI.keep {x : Al} (I : AlI p w m x A S) (X : SL A p w m S) {mine : Int} (E : Ev p w m A S B S' mine) (hm : ∀ j, mine ∉ S.ch j) (hb : x.what = 3 → x.base ≠ mine) : AlI p w m x B S' := by
  refine ⟨I.pl, I.who, I.cls, I.lst, I.wh, fun h => ?_, I.swaps, fun h => ?_, I.h0⟩
  · obtain ⟨a, k, k0, k1, k2, P⟩ := I.pops h
    exact ⟨a, k, k0, k1, k2, P.keep X.F k0 k1 hm E.fe⟩
  · obtain ⟨o, c⟩ := I.bears h
    exact ⟨E.ow _ o (hb h), by rw [E.cl _ o.1]; exact c⟩
theorem runs_one {M J : Type} {X : Mch M J} {x x' : M} {D D' : Ar} (h : X.Runs 1 x D x' D') : X.step x D = (x', D') := by
  cases h with
  | one h1 h2 h3 => rfl
  | more h1 h2 h3 h4 => cases h4
theorem count_setN : ∀ (n : Nat) {l : List Bool} {b : Nat}, b + n ≤ l.length → (setN l b true n).count true = l.count true + newsN l b n
  | 0, l, b, _ => rfl
  | n + 1, l, b, h => by
    have ih := count_setN n (l := l) (b := b) (by omega)
    show ((setN l b true n).set (b + n) true).count true = l.count true + newsN l b (n + 1)
    have hl : b + n < (setN l b true n).length := by rw [setN_length]; omega
    rw [List.count_set hl, ih]
    have hg : (setN l b true n)[b + n] = l.getD (b + n) false := by
      have := setN_get l b true n (b + n)
      rw [if_neg (by omega), List.getElem?_eq_getElem hl, List.getElem?_eq_getElem (by omega)] at this
      rw [List.getD_eq_getElem?_getD, List.getElem?_eq_getElem (by omega)]
      simpa using this
    rw [hg, show newsN l b (n + 1) = newsN l b n + (if l.getD (b + n) false then 0 else 1) from rfl]
    have hc : l.getD (b + n) false = true → 0 < l.count true + newsN l b n := fun e => by
      have : 0 < l.count true := by
        refine List.count_pos_iff.2 ?_
        rw [List.getD_eq_getElem?_getD, List.getElem?_eq_getElem (by omega)] at e
        rw [← (show l[b + n] = true from e)]; exact List.getElem_mem _
      omega
    cases e : l.getD (b + n) false
    · simp; omega
    · have := hc e
      simp; omega
theorem bornF_cc {A : Ar} (hw : A.wf) {h : Int} (hf : opB h + sizeF (opC h) ≤ A.words.length) (hc : A.nC = A.carved.count true) : (A.bornF h).nC = (A.bornF h).carved.count true := by
  have o := opC_nat h
  have hb := opB_nat h
  have szc := sz_pos (c := opC h) (by omega) (by omega)
  rw [(bornF_counts A hw h).1, bornF_carved, count_setN _ (by rw [hw.carved]; omega), hc]
  have : (A.carved.count true + newsN A.carved (opB h).toNat (sizeF (opC h)).toNat) ≤ 65536 := by
    rw [← count_setN _ (by rw [hw.carved]; omega)]
    refine Nat.le_trans List.count_le_length ?_
    rw [setN_length, hw.carved]; exact hw.words
  rw [w64_in (by omega) (by omega)]; omega
structure AlS (p : Pl) (w m : Int) (x : Al) (A : Ar) (S : Sg) (y : Al) (B : Ar) (S' : Sg) : Prop where
  wd : B.words = A.words
  sl : SL B p w m S'
  ev : Ev p w m A S B S' x.mine
  us : B.uses = A.uses + 1
  inv : y.what ≠ 4 → AlI p w m y B S'
  cls : y.cls = x.cls
  work : y.work = x.work
  acq : y.what = 3 → S.cl y.base = -1 ∨ ∃ k, y.base ∈ S.ch k
  nR : B.nR = A.nR
  cc : A.nC = A.carved.count true → B.nC = B.carved.count true
  res : (y.h = 0 ∧ (∀ k, B.stF k = A.stF k) ∧ B.nL = A.nL) ∨ (y.what = 4 ∧ x.what = 3 ∧ y.h ≠ 0 ∧ opB y.h = x.base ∧ opC y.h = x.cls ∧ openOk y.h = true ∧ A.stF y.h = 0 ∧ (∀ k, B.stF k = if k = y.h then 1 else A.stF k) ∧ B.nL = A.nL + sizeF x.cls)
theorem AlI.step {x : Al} (I : AlI p w m x A S) (X : SL A p w m S) (hwf : A.wf) (hu : A.uses ≤ 1000000) : ∃ S', AlS p w m x A S (x.step A).1 (x.step A).2 S' := by
  obtain ⟨p1, p2, p3, p4, p5⟩ := X.places
  have wb := X.wb
  have mb := X.mb
  have us := X.F.us
  have cvb := X.cvb
  have sz := sz_pos I.cls.1 I.cls.2
  have X1 := X.later (n := 1) (by omega)
  have E1 : ∀ mine, Ev p w m A S (A.later 1) S mine := fun mine => Ev.later X (by omega)
  have m0 : x.what ≠ 3 → x.mine = -1 := fun h => if_neg h
  rcases I.wh with h | h | h | h
  · obtain ⟨l0, k, k0, k1, k2, P⟩ := I.pops h
    have lst := I.lst
    have stp : x.step A = (if x.po.stepB A then Al.popd { x with po := x.po.stepM A } else { x with po := x.po.stepM A }, x.po.stepA A) := by unfold Al.step; rw [if_pos h]
    rw [stp]
    have el : w64 (x.lst + 1) = x.lst + 1 := w64_in (by omega) (by omega)
    rcases P.step X.F (by omega) k0 k1 with ⟨s1, s2, s3⟩ | ⟨s1, s2, s3, s4⟩ | ⟨s1, s2, b, l, s3, s4, s5⟩
    · rw [s1, s2, if_neg (by simp)]
      exact ⟨S, rfl, X1, E1 _, rfl, fun _ => ⟨I.pl, I.who, I.cls, I.lst, I.wh, fun _ => ⟨l0, k, k0, k1, k2, s3⟩, fun h2 => (by rw [show ({ x with po := x.po.stepM A } : Al).what = x.what from rfl, h] at h2; cases h2), fun h2 => (by rw [show ({ x with po := x.po.stepM A } : Al).what = x.what from rfl, h] at h2; cases h2), I.h0⟩, rfl, rfl, fun h2 => (by rw [show ({ x with po := x.po.stepM A } : Al).what = x.what from rfl, h] at h2; cases h2), rfl, fun h => h, .inl ⟨I.h0, fun _ => rfl, rfl⟩⟩
    · rw [s1, s2, if_pos rfl]
      unfold Al.popd
      rw [if_neg (by rw [s3]; simp)]
      dsimp only
      rw [el, I.pl, p5]
      have ei : imax w 1 = w := by unfold imax; split <;> omega
      rw [ei]
      by_cases c : x.lst + 1 ≥ w
      · rw [if_pos c]
        refine ⟨S, rfl, X1, E1 _, rfl, fun _ => ⟨rfl, I.who, I.cls, ⟨by show 0 ≤ x.lst + 1; omega, by show x.lst + 1 ≤ w; omega⟩, .inr (.inl rfl), fun h => (by cases h), fun h => (by cases h), fun h => (by cases h), I.h0⟩, rfl, rfl, fun h => (by cases h), rfl, fun h => h, .inl ⟨I.h0, fun _ => rfl, rfl⟩⟩
      · rw [if_neg c]
        have wh := I.who
        have ew : w64 (x.work + (x.lst + 1)) = x.work + (x.lst + 1) := w64_in (by omega) (by omega)
        rw [ew, Int.tmod_eq_emod_of_nonneg (by omega)]
        have q0 := Int.emod_nonneg (x.work + (x.lst + 1)) (b := w) (by omega)
        have q1 := Int.emod_lt_of_pos (x.work + (x.lst + 1)) (b := w) (by omega)
        have e := headF_eq (p := p) (w := (x.work + (x.lst + 1)) % w) (c := x.cls) p1 ⟨q0, by omega⟩ I.cls
        have cl := I.cls
        refine ⟨S, rfl, X1, E1 _, rfl, fun _ => ⟨rfl, I.who, I.cls, ⟨by show 0 ≤ x.lst + 1; omega, by show x.lst + 1 ≤ w; omega⟩, .inl h, fun _ => ⟨by show x.lst + 1 < w; omega, 4 * ((x.work + (x.lst + 1)) % w) + x.cls, by omega, by omega, by show (4 * ((x.work + (x.lst + 1)) % w) + x.cls) % 4 = x.cls; omega, PoI.new p1 ⟨by omega, by omega⟩ e⟩, fun h2 => (by rw [show x.what = 2 from h2] at h; cases h), fun h2 => (by rw [show x.what = 3 from h2] at h; cases h), I.h0⟩, rfl, rfl, fun h2 => (by rw [show x.what = 3 from h2] at h; cases h), rfl, fun h => h, .inl ⟨I.h0, fun _ => rfl, rfl⟩⟩
    · rw [s1, if_pos rfl]
      unfold Al.popd
      rw [if_pos s2]
      dsimp only
      rw [el, s4, s5]
      obtain ⟨F, fe⟩ := X.F.pop1 (by omega) s3
      have hmem : b ∈ S.ch k := by rw [s3]; simp
      have hcl := X.chc k b hmem
      have hsub : ∀ j y, y ∈ upd S.ch k l j → y ∈ S.ch j := fun j y hy => by
        unfold upd at hy; split at hy
        · rename_i e; rw [e, s3]; exact List.mem_cons_of_mem _ hy
        · exact hy
      have Y := X1.ofRaw (r := A.raw.set k.toNat (nextF (A.rawF k) (A.rawF (4 * w + b / 8)))) (ch' := upd S.ch k l) (by rw [List.length_set]; rfl) (fun i hi => by
        have := rawF_set1 (A := A.later 1) (i := k) (j := i) (v := nextF (A.rawF k) (A.rawF (4 * w + b / 8))) (X.F.hdOk k0 k1)
        rw [if_neg (by have := X.F.nb; omega)] at this
        exact this) F (fun j y hy => X.chc j y (hsub j y hy)) fun h hh j hj => (X.act h hh).2 j (hsub j _ hj)
      have hact : ∀ h, A.stF h ≠ 0 → opB h ≠ b := fun h hh e => (X.act h hh).2 k (by rw [e]; exact hmem)
      have hnin : ∀ j, b ∉ upd S.ch k l j := fun j hj => by
        unfold upd at hj; split at hj
        · have := X.F.nd k; rw [s3] at this; exact (List.nodup_cons.1 this).1 hj
        · rename_i e; exact e (X.F.dj j k b hj hmem)
      have lst := I.lst
      refine ⟨_, rfl, Y, ⟨?_, fun _ _ => rfl, fun c oc _ => ⟨oc.1, fun j hj => oc.2.1 j (hsub j c hj), oc.2.2⟩, fun _ _ => rfl, rfl, by show (A.raw.set _ _).length = _; rw [List.length_set], fun i hi => ?_, by show A.uses ≤ A.uses + 1; omega⟩, rfl, fun _ => ⟨I.pl, I.who, I.cls, ⟨by show 0 ≤ x.lst + 1; omega, by show x.lst + 1 ≤ w; omega⟩, .inr (.inr (.inr rfl)), fun h => (by cases h), fun h => (by cases h), fun _ => ⟨⟨by show S.cl b ≠ -1; omega, hnin, hact⟩, by show S.cl b = x.cls; omega⟩, I.h0⟩, rfl, rfl, fun _ => .inr ⟨k, hmem⟩, rfl, fun h => h, .inl ⟨I.h0, fun _ => rfl, rfl⟩⟩
      · rw [m0 (by omega)]; exact fe
      · have := rawF_set1 (A := A.later 1) (i := k) (j := i) (v := nextF (A.rawF k) (A.rawF (4 * w + b / 8))) (X.F.hdOk k0 k1)
        rw [if_neg (by omega)] at this
        exact this
  · have stp : x.step A = ({ x with base := A.rawF x.pl.carved, what := if A.rawF x.pl.carved > w64 (A.words.length - sizeF x.cls) then 4 else 2 }, A.touchR x.pl.carved) := by unfold Al.step; rw [if_neg (by omega), if_pos h]
    rw [stp, I.pl, X.cvr, X.wl, w64_in (x := m - sizeF x.cls) (by omega) (by omega), touchR_yes (show A.rawOk p.carved from ⟨by omega, X.rl⟩), tick_uses us (by omega)]
    by_cases c : S.cv > m - sizeF x.cls
    · rw [if_pos c]
      exact ⟨S, rfl, X1, E1 _, rfl, fun h => (h rfl).elim, rfl, rfl, fun h => (by cases h), rfl, fun h => h, .inl ⟨I.h0, fun _ => rfl, rfl⟩⟩
    · rw [if_neg c]
      exact ⟨S, rfl, X1, E1 _, rfl, fun _ => ⟨rfl, I.who, I.cls, I.lst, .inr (.inr (.inl rfl)), fun h => (by cases h), fun _ => ⟨cvb.1, by show S.cv + sizeF x.cls ≤ m; omega⟩, fun h => (by cases h), I.h0⟩, rfl, rfl, fun h => (by cases h), rfl, fun h => h, .inl ⟨I.h0, fun _ => rfl, rfl⟩⟩
  · obtain ⟨b0, b1⟩ := I.swaps h
    have stp : x.step A = ({ x with what := if A.swapRb x.pl.carved x.base then 3 else 1 }, A.swapR x.pl.carved x.base (w64 (x.base + sizeF x.cls))) := by unfold Al.step; rw [if_neg (by omega), if_neg (by omega), if_pos h]
    have okc : A.rawOk p.carved := ⟨by omega, X.rl⟩
    have tk : A.tick = A.later 1 := tick_uses us (by omega)
    rw [stp, I.pl, w64_in (x := x.base + sizeF x.cls) (by omega) (by omega)]
    by_cases c : A.rawF p.carved = x.base
    · have sw : A.swapRb p.carved x.base = true := decide_eq_true ⟨okc, by rw [getD_rawF okc]; exact c⟩
      have sa : A.swapR p.carved x.base (x.base + sizeF x.cls) = (A.later 1).setR p.carved.toNat (S.cv + sizeF x.cls) := by
        unfold Ar.swapR; rw [if_pos okc, if_pos (by rw [getD_rawF okc]; exact c), tk, ← c, X.cvr]
      rw [sw, sa, if_pos rfl]
      have ec : x.base = S.cv := by rw [← c]; exact X.cvr
      have Y := X.carve (by omega) I.cls.1 I.cls.2 (by omega)
      have hcl : S.cl S.cv = -1 := by
        by_cases h : S.cl S.cv = -1
        · exact h
        · have := X.blk _ h; have := sz_pos this.1 this.2.1; omega
      have hr : ∀ i, ((A.later 1).setR p.carved.toNat (S.cv + sizeF x.cls)).rawF i = if i = p.carved then S.cv + sizeF x.cls else A.rawF i := fun i => rawF_set1 (A := A.later 1) okc
      have nin : ∀ j, S.cv ∉ S.ch j := fun j hj => by
        have := X.chc j _ hj
        have := X.F.rg j (by intro e; rw [e] at hj; cases hj); omega
      have nac : ∀ h, A.stF h ≠ 0 → opB h ≠ S.cv := fun h hh e => by
        have := (X.act h hh).1
        rw [e, hcl] at this
        have := (opC_nat h).1; omega
      refine ⟨_, rfl, Y, ⟨?_, fun d hd => ?_, fun d od _ => ⟨?_, od.2.1, od.2.2⟩, fun _ _ => rfl, rfl, by show (A.raw.set _ _).length = _; rw [List.length_set], fun i hi => by rw [hr, if_neg (by omega)], by show A.uses ≤ A.uses + 1; omega⟩, rfl, fun _ => ⟨rfl, I.who, I.cls, I.lst, .inr (.inr (.inr rfl)), fun h => (by cases h), fun h => (by cases h), fun _ => ⟨⟨?_, ?_, ?_⟩, ?_⟩, I.h0⟩, rfl, rfl, fun _ => .inl ?_, rfl, fun h => h, .inl ⟨I.h0, fun _ => rfl, rfl⟩⟩
      · exact FEv.same (fun i i0 i1 => by rw [hr, if_neg (by omega)]) (by omega) (by omega)
      · show updI S.cl S.cv x.cls d = _
        unfold updI; rw [if_neg (fun e => hd (by rw [e]; exact hcl))]
      · show updI S.cl S.cv x.cls d ≠ -1
        unfold updI; rw [if_neg (fun e => od.1 (by rw [e]; exact hcl))]; exact od.1
      · show updI S.cl S.cv x.cls x.base ≠ -1
        rw [ec]; unfold updI; rw [if_pos rfl]; have := I.cls; omega
      · show ∀ j, x.base ∉ S.ch j
        rw [ec]; exact nin
      · show ∀ h, A.stF h ≠ 0 → opB h ≠ x.base
        rw [ec]; exact nac
      · show updI S.cl S.cv x.cls x.base = _
        rw [ec]; unfold updI; rw [if_pos rfl]
      · show S.cl x.base = -1
        rw [ec]; exact hcl
    · have sw : A.swapRb p.carved x.base = false := decide_eq_false fun e => c (by rw [← getD_rawF okc]; exact e.2)
      have sa : A.swapR p.carved x.base (x.base + sizeF x.cls) = A.later 1 := by
        unfold Ar.swapR; rw [if_pos okc, if_neg (by rw [getD_rawF okc]; exact c), tk]
      rw [sw, sa, if_neg (by simp)]
      exact ⟨S, rfl, X1, E1 _, rfl, fun _ => ⟨rfl, I.who, I.cls, I.lst, .inr (.inl rfl), fun h => (by cases h), fun h => (by cases h), fun h => (by cases h), I.h0⟩, rfl, rfl, fun h => (by cases h), rfl, fun h => h, .inl ⟨I.h0, fun _ => rfl, rfl⟩⟩
  · obtain ⟨o, oc⟩ := I.bears h
    have hx0 := I.h0
    have lst := I.lst
    have hc1 : x.cls ≠ -1 := by have := I.cls; omega
    obtain ⟨v1, ⟨v2, v3, v4, v5⟩, bo, Y, yst, ynL⟩ := X.bear hwf (by omega) oc hc1 o.2.1 o.2.2
    have ipl := I.pl
    obtain ⟨xpl, xwork, xcls, xlst, xwhat, xbase, xh, xpo⟩ := x
    simp only at h hx0 ipl oc hc1 v1 v2 v3 v4 v5 bo Y yst ynL lst o
    subst h; subst hx0; subst ipl
    have r1 := bear_last X (by omega) (who := xwork) (j := xlst) (y := xpo) ⟨lst.1, by omega⟩ oc hc1 bo
    have stp : Al.step ⟨xpl, xwork, xcls, xlst, 3, xbase, 0, xpo⟩ A = _ := runs_one r1
    rw [stp]
    have gb := X.gnb xbase
    have hne : packF xbase (S.gn xbase + 1) xcls ≠ 0 := fun e => by
      rw [e] at v3
      have : opG 0 = 0 := by decide
      omega
    have off : Off xpl.carved 0 ((A.later 1).setR (xpl.gens + xbase / 8).toNat (S.gn xbase + 1)) (((A.later 1).setR (xpl.gens + xbase / 8).toNat (S.gn xbase + 1)).bornF (packF xbase (S.gn xbase + 1) xcls)) :=
      Off.bornF (setR_wf (later_wf hwf 1) _ _) X.fr bo.2.1
    have blk := X.blk xbase (by rw [oc]; exact hc1)
    have szb := sz_pos blk.1 blk.2.1
    have okg : (A.later 1).rawOk (xpl.gens + xbase / 8) := ⟨by omega, by have := X.rl; show _ < (A.raw.length : Int); omega⟩
    have hr : ∀ i, ((A.later 1).setR (xpl.gens + xbase / 8).toNat (S.gn xbase + 1)).rawF i = if i = xpl.gens + xbase / 8 then S.gn xbase + 1 else A.rawF i := fun i => rawF_set1 okg
    have rb : ∀ i, (((A.later 1).setR (xpl.gens + xbase / 8).toNat (S.gn xbase + 1)).bornF (packF xbase (S.gn xbase + 1) xcls)).rawF i = if i = xpl.gens + xbase / 8 then S.gn xbase + 1 else A.rawF i := fun i => by
      rw [rawF_congr (bornF_raw _ _) i, hr]
    have hs0 : A.stF (packF xbase (S.gn xbase + 1) xcls) = 0 := by
      by_cases e : A.stF (packF xbase (S.gn xbase + 1) xcls) = 0
      · exact e
      · exact (o.2.2 _ e v2).elim
    refine ⟨_, by rw [off.wd]; rfl, Y, ⟨?_, fun _ _ => rfl, fun d od hd => ⟨od.1, od.2.1, fun h hh => ?_⟩, fun h hh => ?_, ?_, ?_, fun i hi => ?_, ?_⟩, ?_, fun h => (h rfl).elim, rfl, rfl, fun h => (by cases h), ?_, fun h => ?_, .inr ⟨rfl, rfl, hne, v2, v4, v5, hs0, yst, ynL⟩⟩
    · exact FEv.same (fun i i0 i1 => by rw [rb, if_neg (by omega)]) (by omega) (by omega)
    · rw [yst] at hh
      split at hh
      · rename_i e; rw [e, v2]
        intro e2; exact hd (by show d = if (3 : Int) = 3 then xbase else -1; rw [if_pos rfl]; exact e2.symm)
      · exact od.2.2 h hh
    · rw [yst, if_neg]
      intro e
      rw [e, v2] at hh
      exact hh (by show xbase = if (3 : Int) = 3 then xbase else -1; rw [if_pos rfl])
    · rw [off.fa]; rfl
    · rw [off.rl]; show (A.raw.set _ _).length = _; rw [List.length_set]
    · rw [rb, if_neg (by omega)]
    · rw [off.us]; show A.uses ≤ A.uses + 1 + 0; omega
    · rw [off.us]; show A.uses + 1 + 0 = _; omega
    · exact (bornF_counts _ (setR_wf (later_wf hwf 1) _ _) _).2.2.2
    · exact bornF_cc (setR_wf (later_wf hwf 1) _ _) bo.2.1 h
structure FeI (p : Pl) (w m who : Int) (x : Fe) (A : Ar) (S : Sg) : Prop where
  st : A.stF x.h = 2
  nd : x.done = false
  pu : PuI p w ((m + 7) / 8) (4 * who + opC x.h) (opB x.h) x.pu A
theorem FeI.new (X : SL A p w m S) {who h : Int} (wh : 0 ≤ who ∧ who < w) (hs : A.stF h = 2) : FeI p w m who (newFe p who h) A S := by
  obtain ⟨p1, p2, p3, p4, p5⟩ := X.places
  have wb := X.wb
  have mb := X.mb
  have hC := opC_nat h
  obtain ⟨a1, a2⟩ := X.act h (by rw [hs]; decide)
  obtain ⟨b1, b2, b3, b4, b5⟩ := X.blk (opB h) (by omega)
  have sz := sz_pos b1 b2
  have cvb := X.cvb
  have e := headF_eq (p := p) (w := who) (c := opC h) p1 ⟨wh.1, by omega⟩ ⟨by omega, by omega⟩
  exact ⟨hs, rfl, PuI.new e ⟨b3, b4, by show opB h / 8 < (m + 7) / 8; omega⟩⟩
theorem FeI.keep {who : Int} {x : Fe} (I : FeI p w m who x A S) {mine : Int} (E : Ev p w m A S B S' mine) (hm : opB x.h ≠ mine) : FeI p w m who x B S' :=
  ⟨by rw [E.st _ hm]; exact I.st, I.nd, I.pu.keep hm E.fe⟩
structure FeS (p : Pl) (w m who : Int) (x : Fe) (A : Ar) (S : Sg) (y : Fe) (B : Ar) (S' : Sg) : Prop where
  wd : B.words = A.words
  sl : SL B p w m S'
  ev : Ev p w m A S B S' (opB x.h)
  us : B.uses = A.uses + 1
  h : y.h = x.h
  nL : B.nL = A.nL
  cc : A.nC = A.carved.count true → B.nC = B.carved.count true
  res : (y.done = false ∧ FeI p w m who y B S' ∧ (∀ k, B.stF k = A.stF k) ∧ B.nR = A.nR) ∨ (y.done = true ∧ (∀ k, B.stF k = if k = x.h then 0 else A.stF k) ∧ B.nR = A.nR - sizeF (opC x.h))
theorem diedF_parts (A : Ar) (h : Int) : (A.diedF h).raw = A.raw ∧ (A.diedF h).words = A.words ∧ (A.diedF h).fault = A.fault ∧ (A.diedF h).uses = A.uses ∧ (A.diedF h).nC = A.nC ∧ (A.diedF h).carved = A.carved := by
  unfold Ar.diedF Ar.turnF; split <;> exact ⟨rfl, rfl, rfl, rfl, rfl, rfl⟩
theorem died_raw (A : Ar) (r : List Int) (h : Int) : ({ A with raw := r } : Ar).diedF h = { A.diedF h with raw := r } := by
  have e : ({ A with raw := r } : Ar).stF h = A.stF h := stF_slots rfl h
  unfold Ar.diedF Ar.turnF Ar.turnN
  rw [e]
  by_cases hs : A.stF h = 2
  · simp only [if_pos hs]; rfl
  · simp only [if_neg hs]; rfl
theorem FeI.step {who : Int} {x : Fe} (I : FeI p w m who x A S) (X : SL A p w m S) (hwf : A.wf) (hu : A.uses ≤ 1000000) (wh : 0 ≤ who ∧ who < w) : ∃ S', FeS p w m who x A S (x.step A).1 (x.step A).2 S' := by
  obtain ⟨p1, p2, p3, p4, p5⟩ := X.places
  have wb := X.wb
  have mb := X.mb
  have us := X.F.us
  have hC := opC_nat x.h
  obtain ⟨a1, a2⟩ := X.act x.h (by rw [I.st]; decide)
  have szh := sz_pos (c := opC x.h) (by omega) (by omega)
  have X1 := X.later (n := 1) (by omega)
  have k0 : 0 ≤ 4 * who + opC x.h := by omega
  have k1 : 4 * who + opC x.h < 4 * w := by omega
  rcases I.pu.step X.F (by omega) k0 k1 a2 with ⟨s1, s2, s3, s4, s5⟩ | ⟨s1, s3, s4, s5⟩
  · have stp : x.step A = ({ x with pu := x.pu.stepM A }, x.pu.stepA A) := by unfold Fe.step; rw [if_neg (by rw [I.nd]; simp), if_neg (by rw [s1]; simp)]
    rw [stp]
    obtain ⟨r, er, hl⟩ := s5.eq
    have up := s5.up
    dsimp only
    rw [er] at s2 s3 s4 up ⊢
    have Y := X1.ofRaw (r := r) (ch' := S.ch) hl up s3 X.chc fun h hh => (X.act h hh).2
    exact ⟨_, rfl, Y, ⟨s4, fun _ _ => rfl, fun _ h _ => h, fun _ _ => rfl, rfl, hl, fun i hi => up i (by omega), by show A.uses ≤ A.uses + 1; omega⟩, rfl, rfl, rfl, fun h => h, .inl ⟨I.nd, ⟨I.st, I.nd, s2⟩, fun _ => rfl, rfl⟩⟩
  · have stp : x.step A = ({ x with pu := x.pu.stepM A, done := true }, (x.pu.stepA A).diedF x.h) := by unfold Fe.step; rw [if_neg (by rw [I.nd]; simp), if_pos s1]
    rw [stp]
    obtain ⟨r, er, hl⟩ := s5.eq
    have up := s5.up
    dsimp only
    rw [er] at s3 s4 up ⊢
    have cnb := X.cnb
    obtain ⟨D, dst, dL, dR⟩ := X1.die (later_wf hwf 1) (by show A.uses + 1 ≤ _; omega) (h := x.h) I.st (by show -(64 * (A.uses + 1 + 1)) ≤ A.nR - _; omega)
    have parts := diedF_parts (A.later 1) x.h
    obtain ⟨q1, q2, q3, q4, q5, q6⟩ := parts
    have q1 : ((A.later 1).diedF x.h).raw = A.raw := q1
    have q2 : ((A.later 1).diedF x.h).words = A.words := q2
    have q3 : ((A.later 1).diedF x.h).fault = A.fault := q3
    have q4 : ((A.later 1).diedF x.h).uses = A.uses + 1 := q4
    have q5 : ((A.later 1).diedF x.h).nC = A.nC := q5
    have q6 : ((A.later 1).diedF x.h).carved = A.carved := q6
    have eD : ({ A with raw := r, uses := A.uses + 1 } : Ar).diedF x.h = { (A.later 1).diedF x.h with raw := r } := died_raw (A.later 1) r x.h
    rw [eD]
    clear eD
    have dst : ∀ k, ((A.later 1).diedF x.h).stF k = if k = x.h then 0 else A.stF k := dst
    have dL : ((A.later 1).diedF x.h).nL = A.nL := dL
    have dR : ((A.later 1).diedF x.h).nR = A.nR - sizeF (opC x.h) := dR
    generalize (A.later 1).diedF x.h = D0 at *
    have F2 : FL { D0 with raw := r } p w ((m + 7) / 8) (upd S.ch (4 * who + opC x.h) (opB x.h :: S.ch (4 * who + opC x.h))) :=
      s3.same (fun i => rawF_congr rfl i) rfl (by show 0 ≤ (D0).uses; rw [q4]; omega) fun k h0 h1 => by
        show _ ≤ (D0).uses
        rw [q4]
        exact (s3.hd k h0 h1).2
    have rr : ∀ i, ({ D0 with raw := r } : Ar).rawF i = ({ A with raw := r, uses := A.uses + 1 } : Ar).rawF i := fun i => rawF_congr rfl i
    have noact : ∀ h, (D0).stF h ≠ 0 → opB h ≠ opB x.h := fun h hh e => by
      rw [dst] at hh
      split at hh
      · exact hh rfl
      · rename_i hn
        exact hh (stF_one (A := A) (h := x.h) (k := h) (by rw [I.st]; decide) e hn)
    have Y := D.ofRaw (r := r) (by rw [q1]; exact hl) (fun i hi => by
      rw [rr, up i hi]; exact (rawF_congr q1 i).symm) F2 (fun k b hb => by
        unfold upd at hb; split at hb
        · rename_i e
          rcases List.mem_cons.1 hb with rfl | hb
          · rw [a1, e]; omega
          · rw [e]; exact X.chc _ b hb
        · exact X.chc k b hb) fun h hh k hk => by
        have hh' : A.stF h ≠ 0 := fun e => hh (by rw [dst]; split; rfl; exact e)
        unfold upd at hk; split at hk
        · rcases List.mem_cons.1 hk with e | hk
          · exact noact h hh e
          · exact (X.act h hh').2 _ hk
        · exact (X.act h hh').2 _ hk
    have yst : ∀ k, ({ D0 with raw := r } : Ar).stF k = if k = x.h then 0 else A.stF k := fun k => by
      rw [show ({ D0 with raw := r } : Ar).stF k = (D0).stF k from stF_slots rfl k, dst]
    refine ⟨_, q2, Y, ⟨⟨fun k h0 h1 => by rw [rr]; exact s4.hd k h0 h1, fun b h0 h1 h2 h3 => by rw [rr]; exact s4.lk b h0 h1 h2 h3⟩, fun _ _ => rfl, fun b ob hb => ⟨ob.1, fun k hk => ?_, fun h hh => ?_⟩, fun h hh => ?_, q3, hl, fun i hi => by rw [rr]; exact up i (by omega), by show A.uses ≤ (D0).uses; rw [q4]; omega⟩, q4, rfl, dL, fun h => ?_, .inr ⟨rfl, yst, dR⟩⟩
    · have hk : b ∈ upd S.ch (4 * who + opC x.h) (opB x.h :: S.ch (4 * who + opC x.h)) k := hk
      unfold upd at hk; split at hk
      · rcases List.mem_cons.1 hk with e | hk
        · exact hb e
        · exact ob.2.1 _ hk
      · exact ob.2.1 _ hk
    · rw [yst] at hh
      split at hh
      · exact (hh rfl).elim
      · exact ob.2.2 h hh
    · rw [yst, if_neg (fun e => hh (by rw [e]))]
    · show D0.nC = D0.carved.count true
      rw [q5, q6]; exact h
end
section
variable {A B : Ar} {p : Pl} {w m : Int} {S S' : Sg}
structure Qu (p : Pl) (w m : Int) (A : Ar) (S : Sg) (B : Ar) : Prop where
  sl : SL B p w m S
  ev : Ev p w m A S B S (-1)
  st : ∀ h, B.stF h = A.stF h
  nL : B.nL = A.nL
  nR : B.nR = A.nR
  cc : A.nC = A.carved.count true → B.nC = B.carved.count true
theorem Qu.later (X : SL A p w m S) {n : Int} (hn : 0 ≤ n) : Qu p w m A S (A.later n) := ⟨X.later hn, Ev.later X hn, fun _ => rfl, rfl, rfl, fun h => h⟩
theorem Qu.store (X : SL A p w m S) (hu : A.uses ≤ 1000000000) {h off v : Int} (hi : A.inOk h off) : Qu p w m A S (A.storeF h off v) ∧ (A.storeF h off v).uses = A.uses + 1 := by
  have us := X.F.us
  have e : A.storeF h off v = (A.later 1).setW (pos h off) v := by rw [storeF_yes hi, tick_uses us (by omega)]
  rw [e]
  have st : ∀ k, ((A.later 1).setW (pos h off) v).stF k = A.stF k := fun k => stF_slots rfl k
  have X2 : SL ((A.later 1).setW (pos h off) v) p w m S := X.congr (fun _ _ _ => rfl) rfl (by show A.uses ≤ A.uses + 1; omega) (by show (A.words.set _ _).length = _; rw [List.length_set]) st rfl rfl rfl rfl rfl rfl rfl rfl
  exact ⟨⟨X2, ⟨FEv.same (fun _ _ _ => rfl) X.F.wb.1 X.F.nb.1, fun _ _ => rfl, fun b o _ => ⟨o.1, o.2.1, fun k hk => o.2.2 k (by rw [← st k]; exact hk)⟩, fun k _ => st k, rfl, rfl, fun _ _ => rfl, by show A.uses ≤ A.uses + 1; omega⟩, st, rfl, rfl, fun h => h⟩, rfl⟩
theorem Qu.storeR (X : SL A p w m S) (hu : A.uses ≤ 1000000000) {i v : Int} (h : p.carved < i ∧ i < A.raw.length) :
    SL (A.storeR i v) p w m S ∧ FEv w ((m + 7) / 8) A (A.storeR i v) (-1) ∧ (∀ h, (A.storeR i v).stF h = A.stF h) ∧ (A.storeR i v).nL = A.nL ∧ (A.storeR i v).nR = A.nR ∧ (A.storeR i v).words = A.words ∧ (A.storeR i v).fault = A.fault ∧ (A.storeR i v).uses = A.uses + 1 ∧ (A.storeR i v).raw.length = A.raw.length ∧ ∀ j, (A.storeR i v).rawF j = if j = i then v else A.rawF j := by
  obtain ⟨p1, p2, p3, p4, p5⟩ := X.places
  have wb := X.wb
  have mb := X.mb
  have us := X.F.us
  have ok : A.rawOk i := ⟨by omega, h.2⟩
  have e : A.storeR i v = (A.later 1).setR i.toNat v := by
    unfold Ar.storeR
    rw [if_pos ok, tick_uses us (by omega)]
  rw [e]
  have rf : ∀ j, ((A.later 1).setR i.toNat v).rawF j = if j = i then v else A.rawF j := fun j => rawF_set1 (A := A.later 1) ok
  refine ⟨X.congr (fun j h0 h1 => by rw [rf, if_neg (by omega)]) (by show (A.raw.set _ _).length = _; rw [List.length_set]) (by show A.uses ≤ A.uses + 1; omega) rfl (fun h => stF_slots rfl h) rfl rfl rfl rfl rfl rfl rfl rfl,
    FEv.same (fun j j0 j1 => by rw [rf, if_neg (by omega)]) (by omega) (by omega), fun h => stF_slots rfl h, rfl, rfl, rfl, rfl, rfl, by show (A.raw.set _ _).length = _; rw [List.length_set], rf⟩
theorem Ev.retire (X : SL A p w m S) (hwf : A.wf) (hu : A.uses ≤ 1000000000) {h : Int} (hs : A.stF h = 1) (cn : -(64 * (A.uses + 1)) ≤ A.nL - sizeF (opC h) ∧ A.nR + sizeF (opC h) ≤ 64 * (A.uses + 1)) :
    SL (A.retireF h) p w m S ∧ (∀ k, (A.retireF h).stF k = if k = h then 2 else A.stF k) ∧ (A.retireF h).nL = A.nL - sizeF (opC h) ∧ (A.retireF h).nR = A.nR + sizeF (opC h) ∧ Ev p w m A S (A.retireF h) S (opB h) ∧
      (A.nC = A.carved.count true → (A.retireF h).nC = (A.retireF h).carved.count true) ∧ (A.retireF h).uses = A.uses ∧ (A.retireF h).words = A.words ∧ (A.retireF h).fault = A.fault := by
  obtain ⟨Y, yst, yL, yR⟩ := X.retire hu hs cn
  have parts : (A.retireF h).raw = A.raw ∧ (A.retireF h).words = A.words ∧ (A.retireF h).fault = A.fault ∧ (A.retireF h).uses = A.uses ∧ (A.retireF h).nC = A.nC ∧ (A.retireF h).carved = A.carved := by
    unfold Ar.retireF Ar.turnF; split <;> exact ⟨rfl, rfl, rfl, rfl, rfl, rfl⟩
  obtain ⟨q1, q2, q3, q4, q5, q6⟩ := parts
  refine ⟨Y, yst, yL, yR, ⟨FEv.same (fun i _ _ => rawF_congr q1 i) X.F.wb.1 X.F.nb.1, fun _ _ => rfl, fun b o hb => ⟨o.1, o.2.1, fun k hk => ?_⟩, fun k hk => ?_, q3, by rw [q1], fun i _ => rawF_congr q1 i, by rw [q4]; exact Int.le_refl _⟩, fun h => by rw [q5, q6]; exact h, q4, q2, q3⟩
  · rw [yst] at hk
    split at hk
    · rename_i e; rw [e]; exact fun e2 => hb e2.symm
    · exact o.2.2 k hk
  · rw [yst, if_neg (fun e => hk (by rw [e]))]
end
section
variable {A B C : Ar} {g : Gd} {m : Int} {S S' : Sg} {l : Int → List (Int × Int)} {k h i v : Int} {p : Pl} {w : Int}
theorem loadF_same (hw : B.words = A.words) (hs : B.stF h = A.stF h) : B.loadF h i = A.loadF h i := by
  unfold Ar.loadF
  by_cases hi : A.inOk h i
  · have hb : B.inOk h i := ⟨by rw [hs]; exact hi.1, hi.2⟩
    rw [if_pos hi, if_pos hb, hw]
  · have hb : ¬ B.inOk h i := fun hb => hi ⟨by rw [← hs]; exact hb.1, hb.2⟩
    rw [if_neg hi, if_neg hb]
theorem pos_apart (X : SL A p w m S) {h k i j : Int} (hi : A.inOk h i) (hk : A.inOk k j) : pos k j = pos h i ↔ k = h ∧ j = i := by
  obtain ⟨h1, h2, h3⟩ := hi
  obtain ⟨k1, k2, k3⟩ := hk
  obtain ⟨ah, _⟩ := X.act h h1
  obtain ⟨ak, _⟩ := X.act k k1
  have ch := opC_nat h
  have ck := opC_nat k
  have bh := X.blk (opB h) (by omega)
  have bk := X.blk (opB k) (by omega)
  constructor
  · intro e
    unfold pos at e
    by_cases hk : k = h
    · subst hk; exact ⟨rfl, by omega⟩
    · exfalso
      by_cases hb : opB k = opB h
      · exact k1 (stF_one h1 hb hk)
      · rcases Int.lt_or_gt_of_ne hb with hlt | hlt
        · have := X.dis (opB k) (opB h) (by omega) (by omega) hlt
          rw [ak] at this; omega
        · have := X.dis (opB h) (opB k) (by omega) (by omega) hlt
          rw [ah] at this; omega
  · rintro ⟨rfl, rfl⟩; rfl
structure Stored (A : Ar) (g : Gd) (m : Int) (S : Sg) (l : Int → List (Int × Int)) (h i v : Int) (B : Ar) : Prop where
  gi : GI B g m S l
  al : Ar.Alike A B
  st : ∀ k, B.stF k = A.stF k
  nL : B.nL = A.nL
  nR : B.nR = A.nR
  us : B.uses = A.uses + 1
  rf : ∀ i, B.rawF i = A.rawF i
  rl : B.raw.length = A.raw.length
  ld : ∀ k j, A.inOk k j → B.loadF k j = if k = h ∧ j = i then v else A.loadF k j
theorem GI.store (X : GI A g m S l) (hu : A.uses ≤ 1000000000) (hi : A.inOk h i) : Stored A g m S l h i v (A.storeF h i v) := by
  obtain ⟨Q, us⟩ := Qu.store X.sl hu (v := v) hi
  have e : A.storeF h i v = (A.tick).setW (pos h i) v := storeF_yes hi v
  have rf : ∀ j, (A.storeF h i v).rawF j = A.rawF j := fun j => by rw [e]; rfl
  have rl : (A.storeF h i v).raw.length = A.raw.length := by rw [e]; rfl
  have fa : (A.storeF h i v).fault = A.fault := by rw [e]; rfl
  refine ⟨⟨storeF_wf X.wf h i v, Q.sl, fa.trans X.fa, X.ta, X.wb, by rw [rl]; exact X.rl, by rw [rl]; exact X.rb, fun k x hx => by rw [Q.st]; exact X.st k x hx, X.nd, X.dj, X.rg, Q.nR.trans X.nR, by rw [Q.nL]; exact X.l0, ?_, X.ze, fun he => ?_, fun he => by rw [rf]; exact X.es he⟩, storeF_alike A h i v, Q.st, Q.nL, Q.nR, us, rf, rl, fun k j hk => ?_⟩
  · have := X.nu; have := Q.nL; have := Q.nR; omega
  · have := X.eb he; rw [rf]; omega
  · rw [loadF_storeF X.wf hi hk]
    by_cases e : pos k j = pos h i
    · rw [if_pos e, if_pos ((pos_apart X.sl hi hk).1 e)]
    · rw [if_neg e, if_neg (fun h => e ((pos_apart X.sl hi hk).2 h))]
theorem touch_later (X : GI A g m S l) (hu : A.uses ≤ 1000000000) (hi : A.inOk h i) : A.touch h i = A.later 1 := by
  rw [touch_yes hi]
  have us := X.sl.F.us
  unfold Ar.tick Ar.later
  rw [w64_in (by omega) (by omega)]
structure Wr (B : Ar) (g : Gd) (m : Int) (S : Sg) (l : Int → List (Int × Int)) (h : Int) (w : Nat → Int) (n : Nat) (C : Ar) : Prop where
  gi : GI C g m S l
  al : Ar.Alike B C
  st : ∀ k, C.stF k = B.stF k
  nL : C.nL = B.nL
  nR : C.nR = B.nR
  us : C.uses = B.uses + n
  rf : ∀ i, C.rawF i = B.rawF i
  rl : C.raw.length = B.raw.length
  ld : ∀ j : Nat, j < n → C.loadF h j = w j
  lo : ∀ k j, B.inOk k j → k ≠ h → C.loadF k j = B.loadF k j
theorem Wr.nil (X : GI B g m S l) (w : Nat → Int) : Wr B g m S l h w 0 B := ⟨X, .refl B, fun _ => rfl, rfl, rfl, by omega, fun _ => rfl, rfl, fun j hj => by omega, fun _ _ _ _ => rfl⟩
theorem Wr.next {w : Nat → Int} {n : Nat} (W : Wr B g m S l h w n C) (hu : C.uses ≤ 1000000000) (hi : B.inOk h n) : Wr B g m S l h w (n + 1) (C.storeF h n (w n)) := by
  have inS : ∀ k j, B.inOk k j → C.inOk k j := fun k j hk => (inOk_st W.st).2 hk
  have Z := W.gi.store (v := w n) hu (inS h n hi)
  have us := W.us
  have zu := Z.us
  refine ⟨Z.gi, W.al.trans Z.al, fun k => (Z.st k).trans (W.st k), Z.nL.trans W.nL, Z.nR.trans W.nR, by omega, fun i => (Z.rf i).trans (W.rf i), Z.rl.trans W.rl, fun j hj => ?_, fun k j hk hne => ?_⟩
  · have hij : B.inOk h j := ⟨hi.1, by omega, by have := hi.2.2; omega⟩
    rw [Z.ld h j (inS _ _ hij)]
    by_cases e : j = n
    · rw [if_pos ⟨rfl, by omega⟩, e]
    · rw [if_neg (fun h => e (by have := h.2; omega))]; exact W.ld j (by omega)
  · rw [Z.ld k j (inS _ _ hk), if_neg (fun h => hne h.1)]; exact W.lo k j hk hne
end
theorem ld_later' (A : Ar) (n h i : Int) : (A.later n).loadF h i = A.loadF h i := loadF_same rfl (stF_slots rfl h)
theorem st_later' (A : Ar) (n h : Int) : (A.later n).stF h = A.stF h := stF_slots rfl h
theorem inOk_later' {A : Ar} {n h i : Int} (hi : A.inOk h i) : (A.later n).inOk h i := ⟨by rw [st_later']; exact hi.1, hi.2⟩
section
variable {A B C : Ar} {g : Gd} {m : Int} {S S' : Sg} {l l' : Int → List (Int × Int)} {k h i v : Int} {q mq ob : Nat} {n : Nat}
theorem roomF_live (hs : A.stF h ≠ 0) : roomF h = sizeF (opC h) ∧ clsF h = opC h := by
  have ho := stF_ok hs
  unfold roomF clsF opC
  rw [ho]; exact ⟨rfl, rfl⟩
theorem wordF_live (hs : A.stF h ≠ 0) (i : Int) : wordF h i = i % sizeF (opC h) := by
  unfold wordF
  rw [(roomF_live hs).1, if_neg (by have := sz_op h; omega)]
structure DA (A : Ar) (g : Gd) (at_ : Int) : Prop where
  lo : g.ta + gwords g.ep g.w ≤ at_
  hi : at_ + 3 * g.w ≤ A.raw.length
structure DQ (A : Ar) (o : DOw) (t : Int) (xs : List Int) : Prop where
  r0 : A.rawF (dw o.at_ o.work 0) = t
  r1 : A.rawF (dw o.at_ o.work 1) = o.b
  r2 : A.rawF (dw o.at_ o.work 2) = o.h
  bt : o.b = t + xs.length
  tb : 0 ≤ t ∧ t ≤ 1000000
  hs : A.stF o.h = 1
  ln : (xs.length : Int) ≤ sizeF (opC o.h)
  ld : ∀ j : Nat, j < xs.length → A.loadF o.h ((t + j) % sizeF (opC o.h)) = xs.getD j 0
theorem DQ.later {o : DOw} {t : Int} {xs : List Int} (D : DQ A o t xs) (n : Int) : DQ (A.later n) o t xs :=
  ⟨D.r0, D.r1, D.r2, D.bt, D.tb, by rw [st_later']; exact D.hs, D.ln, fun j hj => by rw [ld_later']; exact D.ld j hj⟩
theorem bnd_ok {o : DOw} (X : GI A g m S l) (D : DA A g o.at_) (wh : 0 ≤ o.work ∧ o.work < g.w) : o.bnd := by
  have := X.wb; have := X.rb; have := D.hi; have := D.lo; have := X.ta; have := X.c0
  have : 0 ≤ gwords g.ep g.w := by unfold gwords; cases g.ep <;> simp <;> omega
  exact ⟨⟨by omega, by omega⟩, ⟨wh.1, by omega⟩⟩
theorem dw_in {o : DOw} (X : GI A g m S l) (D : DA A g o.at_) (wh : 0 ≤ o.work ∧ o.work < g.w) {k : Int} (k0 : 0 ≤ k) (k1 : k < 3) : g.pl.carved < dw o.at_ o.work k ∧ dw o.at_ o.work k < A.raw.length ∧ g.ta < dw o.at_ o.work k ∧ 0 ≤ dw o.at_ o.work k := by
  have := X.wb; have := X.rb; have := D.hi; have := D.lo; have := X.ta; have := X.c0
  have : 1 ≤ gwords g.ep g.w := by unfold gwords; cases g.ep <;> simp <;> omega
  unfold dw
  refine ⟨by omega, by omega, by omega, by omega⟩
theorem touchR_dw {o : DOw} (X : GI A g m S l) (D : DA A g o.at_) (wh : 0 ≤ o.work ∧ o.work < g.w) (hu : A.uses ≤ 900000) {k : Int} (k0 : 0 ≤ k) (k1 : k < 3) : A.touchR (dw o.at_ o.work k) = A.later 1 := by
  obtain ⟨a, b, c, d⟩ := dw_in X D wh k0 k1
  exact tick_later ⟨d, b⟩ X.u0 (by omega)
structure Pushed (A : Ar) (g : Gd) (m : Int) (S : Sg) (l : Int → List (Int × Int)) (o : DOw) (t v : Int) (xs : List Int) (B : Ar) : Prop where
  gi : GI B g m S l
  al : Ar.Alike A B
  dq : DQ B { o with b := o.b + 1 } t (xs ++ [v])
  st : ∀ h, B.stF h = A.stF h
  lo : ∀ h i, A.inOk h i → h ≠ o.h → B.loadF h i = A.loadF h i
  rf : ∀ i, i ≠ dw o.at_ o.work 1 → B.rawF i = A.rawF i
  nL : B.nL = A.nL
  rl : B.raw.length = A.raw.length
theorem mod_ne' {n i j t : Int} (hn : 0 < n) (hij : i ≠ j) (h0 : 0 ≤ i ∧ i < n) (h1 : 0 ≤ j ∧ j < n) : (t + i) % n ≠ (t + j) % n := fun e => by
  have d1 := Int.emod_add_mul_ediv (t + i) n
  have d2 := Int.emod_add_mul_ediv (t + j) n
  rw [e] at d1
  have e3 : i - j = n * ((t + i) / n) - n * ((t + j) / n) := by omega
  rw [← Int.mul_sub] at e3
  generalize (t + i) / n - (t + j) / n = k at e3
  have : k = 0 := by
    rcases Int.lt_trichotomy k 0 with h | h | h
    · have : n * k ≤ n * (-1) := Int.mul_le_mul_of_nonneg_left (by omega) (by omega)
      omega
    · exact h
    · have : n * 1 ≤ n * k := Int.mul_le_mul_of_nonneg_left (by omega) (by omega)
      omega
  rw [this] at e3; omega
theorem getD_snoc (xs : List Int) (x : Int) (n : Nat) : (xs ++ [x]).getD n 0 = if n < xs.length then xs.getD n 0 else if n = xs.length then x else 0 := by
  rw [List.getD_eq_getElem?_getD, List.getD_eq_getElem?_getD, List.getElem?_append]
  split
  · rfl
  · rename_i h
    by_cases e : n = xs.length
    · rw [if_pos e, e, Nat.sub_self]; rfl
    · rw [if_neg e]
      obtain ⟨k, hk⟩ : ∃ k, n - xs.length = k + 1 := ⟨n - xs.length - 1, by omega⟩
      rw [hk]; rfl
theorem push_two {o : DOw} {t v : Int} {xs : List Int} (X : GI A g m S l) (D : DA A g o.at_) (wh : 0 ≤ o.work ∧ o.work < g.w) (hu : A.uses ≤ 800000) (ll : (l o.work).length < 1000) (Q : DQ A o t xs) (hr : (xs.length : Int) < sizeF (opC o.h)) {al : Option Al} {cp : Option Cm} {now : Int} :
    ∃ B, Pushed A g m S l o t v xs B ∧ B.uses = A.uses + 2 ∧ (mPs q mq ob).Runs 2 ⟨g, l, o, v, t, 5, al, cp, none, now, false⟩ A ⟨g, l, { o with b := o.b + 1 }, v, t, 7, al, cp, none, now, true⟩ B := by
  have u0 := X.u0
  have wb := X.wb
  have sz := sz_op o.h
  have tb := Q.tb
  have bt := Q.bt
  have hs0 : A.stF o.h ≠ 0 := by rw [Q.hs]; decide
  have hw := wordF_live hs0 o.b
  have m0 := Int.emod_nonneg o.b (b := sizeF (opC o.h)) (by omega)
  have m1 := Int.emod_lt_of_pos o.b (b := sizeF (opC o.h)) (by omega)
  have hi : A.inOk o.h (o.b % sizeF (opC o.h)) := ⟨hs0, m0, m1⟩
  have Z := X.store (v := v) (by omega) hi
  have zu := Z.us
  obtain ⟨d1, d2, d3, d4⟩ := dw_in X D wh (k := 1) (by decide) (by decide)
  have O := outS Z.gi.sl (i := dw o.at_ o.work 1) (v := o.b + 1) ⟨d1, by rw [Z.rl]; exact d2⟩ (by omega)
  have ou := O.us
  have X2 := Z.gi.out O (storeR_wf Z.gi.wf _ _) (fun _ => by omega)
  have okr : (A.storeF o.h (o.b % sizeF (opC o.h)) v).rawOk (dw o.at_ o.work 1) := ⟨d4, by rw [Z.rl]; exact d2⟩
  have ew : ((A.storeF o.h (o.b % sizeF (opC o.h)) v).storeR (dw o.at_ o.work 1) (o.b + 1)).words = (A.storeF o.h (o.b % sizeF (opC o.h)) v).words := by unfold Ar.storeR; rw [if_pos okr]; rfl
  have lds : ∀ h i, ((A.storeF o.h (o.b % sizeF (opC o.h)) v).storeR (dw o.at_ o.work 1) (o.b + 1)).loadF h i = (A.storeF o.h (o.b % sizeF (opC o.h)) v).loadF h i := fun h i => loadF_same ew (O.st h)
  have bd := bnd_ok X D wh
  have iv : ∀ (what : Int) (D : Ar), what = 5 ∨ what = 6 → Ps.inv ⟨g, l, o, v, t, what, al, cp, none, now, false⟩ D := fun what D hw => ⟨by show 1 ≤ g.w ∧ g.w ≤ 1000; omega, bd, ll, fun h => (by have h : what = 1 := h; omega), fun h => (by have h : what = 2 := h; omega), fun _ => rfl, fun h => (by have h : what = 4 := h; omega)⟩
  have e1 : w64 (o.b + 1) = o.b + 1 := w64_in (by omega) (by omega)
  refine ⟨(A.storeF o.h (o.b % sizeF (opC o.h)) v).storeR (dw o.at_ o.work 1) (o.b + 1), ⟨X2, Z.al.trans (storeR_alike _ _ _), ⟨?_, ?_, ?_, ?_, tb, ?_, ?_, ?_⟩, fun h => (O.st h).trans (Z.st h), fun h i hh hne => ?_, fun i hi => ?_, O.nL.trans Z.nL, O.rl.trans Z.rl⟩, by omega, ?_⟩
  · show Ar.rawF _ (dw o.at_ o.work 0) = t
    rw [O.rf, if_neg (by unfold dw; omega), Z.rf]; exact Q.r0
  · show Ar.rawF _ (dw o.at_ o.work 1) = o.b + 1
    rw [O.rf, if_pos rfl]
  · show Ar.rawF _ (dw o.at_ o.work 2) = o.h
    rw [O.rf, if_neg (by unfold dw; omega), Z.rf]; exact Q.r2
  · show o.b + 1 = t + ((xs ++ [v]).length : Int)
    rw [List.length_append]; show _ = t + ((xs.length + 1 : Nat) : Int); omega
  · show Ar.stF _ o.h = 1
    rw [O.st, Z.st]; exact Q.hs
  · show ((xs ++ [v]).length : Int) ≤ sizeF (opC o.h)
    rw [List.length_append]; show ((xs.length + 1 : Nat) : Int) ≤ _; omega
  · intro j hj
    show _ = (xs ++ [v]).getD j 0
    rw [List.length_append] at hj
    have hj : j < xs.length + 1 := hj
    have hij : A.inOk o.h ((t + j) % sizeF (opC o.h)) := ⟨hs0, Int.emod_nonneg _ (by omega), Int.emod_lt_of_pos _ (by omega)⟩
    show ((A.storeF o.h (o.b % sizeF (opC o.h)) v).storeR (dw o.at_ o.work 1) (o.b + 1)).loadF o.h ((t + j) % sizeF (opC o.h)) = _
    rw [lds, Z.ld _ _ hij, getD_snoc]
    by_cases e : j < xs.length
    · rw [if_pos e, if_neg (fun h => ?_)]
      · exact Q.ld j e
      · have := h.2
        rw [bt] at this
        exact mod_ne' (n := sizeF (opC o.h)) (by omega) (by omega) ⟨by omega, by omega⟩ ⟨by omega, hr⟩ this
    · have ej : j = xs.length := by omega
      rw [if_neg e, if_pos ej, if_pos ⟨rfl, by rw [bt, ej]⟩]
  · rw [lds, Z.ld _ _ hh, if_neg (fun h => hne h.1)]
  · rw [O.rf, if_neg hi, Z.rf]
  · refine .more (x1 := ⟨g, l, o, v, t, 6, al, cp, none, now, false⟩) (D1 := A.storeF o.h (o.b % sizeF (opC o.h)) v) (by exact iv 5 _ (.inl rfl)) ?_ (by rw [zu, w64_in (by omega) (by omega)]; exact Int.le_refl _) rfl (.one (by exact iv 6 _ (.inr rfl)) ?_ (by rw [ou, w64_in (by omega) (by omega)]; exact Int.le_refl _) rfl)
    · show ((⟨g, l, o, v, t, 6, al, cp, none, now, false⟩ : Ps), A.storeF o.h (wordF o.h o.b) v) = _
      rw [hw]
    · show ((⟨g, l, ⟨o.at_, o.work, w64 (o.b + 1), o.h, o.pl⟩, v, t, 7, al, cp, none, now, true⟩ : Ps), (A.storeF o.h (o.b % sizeF (opC o.h)) v).storeR (dw o.at_ o.work 1) (w64 (o.b + 1))) = _
      rw [e1]
end
section
variable {A B C : Ar} {g : Gd} {m : Int} {S S' : Sg} {l l' : Int → List (Int × Int)} {k h i v t : Int} {q mq ob : Nat} {n : Nat} {o : DOw} {xs : List Int}
theorem ps_iv (wb : 1 ≤ g.w ∧ g.w ≤ 1000) (bd : o.bnd) (ll : (l o.work).length < 1000) {v t what : Int} {al : Option Al} {cp : Option Cm} {now : Int} {went : Bool} (h1 : what ≠ 1) (h2 : what ≠ 2) (h4 : what ≠ 4) (D : Ar) : Ps.inv ⟨g, l, o, v, t, what, al, cp, none, now, went⟩ D :=
  ⟨wb, bd, ll, fun h => (h1 h).elim, fun h => (h2 h).elim, fun _ => rfl, fun h => (h4 h).elim⟩
theorem ps_first (X : GI A g m S l) (D : DA A g o.at_) (wh : 0 ≤ o.work ∧ o.work < g.w) (hu : A.uses ≤ 800000) (ll : (l o.work).length < 1000) (Q : DQ A o t xs) :
    (mPs q mq ob).inv ⟨g, l, o, v, 0, 0, none, none, none, 0, false⟩ A ∧ (A.later 1).uses ≤ w64 (A.uses + 1) ∧ (mPs q mq ob).step ⟨g, l, o, v, 0, 0, none, none, none, 0, false⟩ A = (if sizeF (opC o.h) ≤ xs.length then
      (if opC o.h + 1 < 4 then ⟨g, l, o, v, t, 1, some (newAl o.pl o.work (opC o.h + 1)), none, none, 0, false⟩ else ⟨g, l, o, v, t, 7, none, none, none, 0, false⟩) else ⟨g, l, o, v, t, 5, none, none, none, 0, false⟩, A.later 1) := by
  have u0 := X.u0
  have wb := X.wb
  have tb := Q.tb
  have bt := Q.bt
  have sz := sz_op o.h
  have oc := opC_nat o.h
  have hs0 : A.stF o.h ≠ 0 := by rw [Q.hs]; decide
  obtain ⟨rl, cl⟩ := roomF_live hs0
  have ln := Q.ln
  refine ⟨ps_iv ⟨by omega, by omega⟩ (bnd_ok X D wh) ll (by decide) (by decide) (by decide) A, by show A.uses + 1 ≤ _; rw [w64_in (by omega) (by omega)]; exact Int.le_refl _, ?_⟩
  have e1 : w64 (o.b - t) = xs.length := by rw [bt, w64_in (by omega) (by omega)]; omega
  have e2 : w64 (opC o.h + 1) = opC o.h + 1 := w64_in (by omega) (by omega)
  show (if roomF o.h ≤ w64 (o.b - A.rawF (dw o.at_ o.work 0)) then Ps.grow ⟨g, l, o, v, A.rawF (dw o.at_ o.work 0), 5, none, none, none, 0, false⟩ else ⟨g, l, o, v, A.rawF (dw o.at_ o.work 0), 5, none, none, none, 0, false⟩, A.touchR (dw o.at_ o.work 0)) = _
  rw [touchR_dw X D wh (by omega) (by decide) (by decide), Q.r0, e1, rl]
  refine Prod.ext ?_ rfl
  show (if _ then _ else _ : Ps) = if _ then _ else _
  by_cases hr : sizeF (opC o.h) ≤ xs.length
  · rw [if_pos hr, if_pos hr]
    show (if w64 (clsF o.h + 1) < 4 then (⟨g, l, o, v, t, 1, some (newAl o.pl o.work (w64 (clsF o.h + 1))), none, none, 0, false⟩ : Ps) else ⟨g, l, o, v, t, 7, none, none, none, 0, false⟩) = _
    rw [cl, e2]
  · rw [if_neg hr, if_neg hr]
theorem push_room (X : GI A g m S l) (D : DA A g o.at_) (wh : 0 ≤ o.work ∧ o.work < g.w) (hu : A.uses ≤ 700000) (ll : (l o.work).length < 1000) (Q : DQ A o t xs) (hr : (xs.length : Int) < sizeF (opC o.h)) :
    ∃ B, Pushed A g m S l o t v xs B ∧ B.uses = A.uses + 3 ∧ (mPs q mq ob).Runs 3 ⟨g, l, o, v, 0, 0, none, none, none, 0, false⟩ A ⟨g, l, { o with b := o.b + 1 }, v, t, 7, none, none, none, 0, true⟩ B := by
  obtain ⟨iv, hu1, st⟩ := ps_first (q := q) (mq := mq) (ob := ob) (v := v) X D wh (by omega) ll Q
  rw [if_neg (by omega)] at st
  obtain ⟨B, P, bu, r⟩ := push_two (q := q) (mq := mq) (ob := ob) (v := v) (al := none) (cp := none) (now := 0) (X.later (n := 1) (by decide)) ⟨D.lo, D.hi⟩ wh (by show A.uses + 1 ≤ _; omega) ll (Q.later 1) hr
  have bu : B.uses = A.uses + 1 + 2 := bu
  refine ⟨B, ⟨P.gi, (later_alike A 1).trans P.al, P.dq, fun h => (P.st h).trans (st_later' A 1 h), fun h i hh hne => (P.lo h i (inOk_later' hh) hne).trans (ld_later' A 1 h i), P.rf, P.nL, P.rl⟩, by omega, .more iv st hu1 rfl r⟩
theorem push_full (X : GI A g m S l) (D : DA A g o.at_) (wh : 0 ≤ o.work ∧ o.work < g.w) (hu : A.uses ≤ 700000) (ll : (l o.work).length < 1000) (Q : DQ A o t xs) (hr : sizeF (opC o.h) ≤ xs.length) (hc : opC o.h = 3) :
    (mPs q mq ob).Runs 1 ⟨g, l, o, v, 0, 0, none, none, none, 0, false⟩ A ⟨g, l, o, v, t, 7, none, none, none, 0, false⟩ (A.later 1) := by
  obtain ⟨iv, hu1, st⟩ := ps_first (q := q) (mq := mq) (ob := ob) (v := v) X D wh (by omega) ll Q
  rw [if_pos hr, if_neg (by omega)] at st
  exact .one iv st hu1 rfl
theorem ps_al_lift {a a' : Al} (wb : 1 ≤ g.w ∧ g.w ≤ 1000) (bd : o.bnd) (ll : (l o.work).length < 1000) {cp : Option Cm} {now : Int} {went : Bool} (h0 : mAl.Runs n a A a' B) :
    ∀ x1 : Ps, Ps.got ⟨g, l, o, v, t, 1, some a', cp, none, now, went⟩ a'.h = x1 →
      (x1.what = 2 → (mPs q mq ob).Path n ⟨g, l, o, v, t, 1, some a, cp, none, now, went⟩ A x1 B) ∧ (x1.what = 7 → (mPs q mq ob).Runs n ⟨g, l, o, v, t, 1, some a, cp, none, now, went⟩ A x1 B) := by
  have st : ∀ (a : Al) (A : Ar), (mPs q mq ob).step ⟨g, l, o, v, t, 1, some a, cp, none, now, went⟩ A = (if mAl.fin (a.step A).1 = true then Ps.got ⟨g, l, o, v, t, 1, some (a.step A).1, cp, none, now, went⟩ (a.step A).1.h else ⟨g, l, o, v, t, 1, some (a.step A).1, cp, none, now, went⟩, (a.step A).2) := fun a A => rfl
  have iv : ∀ (a : Al) (A : Ar), mAl.inv a A → (mPs q mq ob).inv ⟨g, l, o, v, t, 1, some a, cp, none, now, went⟩ A := fun a A hi => ⟨wb, bd, ll, fun _ => ⟨a, rfl, hi⟩, fun h => (by have h : (1 : Int) = 2 := h; omega), fun _ => rfl, fun h => (by have h : (1 : Int) = 4 := h; omega)⟩
  induction h0 with
  | @one a A hi hu hf =>
    intro x1 hx
    have s1 : (mPs q mq ob).step ⟨g, l, o, v, t, 1, some a, cp, none, now, went⟩ A = (x1, (mAl.step a A).2) := (st a A).trans (by
      rw [if_pos (show mAl.fin (a.step A).1 = true from hf)]
      exact congrArg (fun y => (y, (a.step A).2)) hx)
    exact ⟨fun he => .cons (iv a A hi) s1 hu (by show ((x1.what : Int) == 7) = false; rw [he]; rfl) .nil, fun he => .one (iv a A hi) s1 hu (by show ((x1.what : Int) == 7) = true; rw [he]; rfl)⟩
  | @more n a A a' B hi hu hf hr ih =>
    intro x1 hx
    have s1 : (mPs q mq ob).step ⟨g, l, o, v, t, 1, some a, cp, none, now, went⟩ A = (⟨g, l, o, v, t, 1, some (mAl.step a A).1, cp, none, now, went⟩, (mAl.step a A).2) := (st a A).trans (by rw [if_neg (by rw [show mAl.fin (a.step A).1 = false from hf]; exact Bool.false_ne_true)]; rfl)
    obtain ⟨i1, i2⟩ := ih x1 hx
    exact ⟨fun he => .cons (iv a A hi) s1 hu rfl (i1 he), fun he => .more (iv a A hi) s1 hu rfl (i2 he)⟩
theorem ps_lk_lift {y y' : Lk} (wb : 1 ≤ g.w ∧ g.w ≤ 1000) (bd : o.bnd) (ll : (l o.work).length < 1000) {al : Option Al} {cp : Option Cm} {now : Int} {went : Bool} (h1 : (mLk q mq).Runs n y A y' B) :
    (mPs q mq ob).Path n ⟨g, l, o, v, t, 4, al, cp, some y, now, went⟩ A ⟨g, y'.ls, o, v, t, 5, al, cp, none, now, went⟩ B := by
  have st : ∀ (y : Lk) (A : Ar) (y1 : Lk) (A1 : Ar), (mLk q mq).step y A = (y1, A1) → (mPs q mq ob).step ⟨g, l, o, v, t, 4, al, cp, some y, now, went⟩ A = (if y1.fin = true then ⟨g, y1.ls, o, v, t, 5, al, cp, none, now, went⟩ else ⟨g, l, o, v, t, 4, al, cp, some y1, now, went⟩, A1) := fun y A y1 A1 hs => by
    have hs : y.step A = (y1, A1) := hs
    show ((if (y.step A).1.fin = true then ⟨g, (y.step A).1.ls, o, v, t, 5, al, cp, none, now, went⟩ else ⟨g, l, o, v, t, 4, al, cp, some (y.step A).1, now, went⟩ : Ps), (y.step A).2) = _
    rw [hs]
  have iv : ∀ (y : Lk) (A : Ar), (mLk q mq).inv y A → (mPs q mq ob).inv ⟨g, l, o, v, t, 4, al, cp, some y, now, went⟩ A := fun y A hi => ⟨wb, bd, ll, fun h => (by have h : (4 : Int) = 1 := h; omega), fun h => (by have h : (4 : Int) = 2 := h; omega), fun h => (h rfl).elim, fun _ => ⟨y, rfl, hi⟩⟩
  induction h1 with
  | @one y A y1 A1 hi hs hu hf =>
    have hf : y1.fin = true := hf
    exact .cons (iv y A hi) ((st y A y1 A1 hs).trans (by rw [if_pos hf])) hu rfl .nil
  | @more n y A y1 A1 y' B hi hs hu hf hr ih =>
    have hf : y1.fin = false := hf
    exact .cons (iv y A hi) ((st y A y1 A1 hs).trans (by rw [if_neg (by rw [hf]; exact Bool.false_ne_true)])) hu rfl ih
structure CJ (A : Ar) (g : Gd) (m : Int) (S : Sg) (l : Int → List (Int × Int)) (h2 t : Int) (xs : List Int) (j : Nat) (C : Ar) : Prop where
  gi : GI C g m S l
  al : Ar.Alike A C
  st : ∀ k, C.stF k = A.stF k
  nL : C.nL = A.nL
  us : C.uses = A.uses + 2 * j
  rf : ∀ i, C.rawF i = A.rawF i
  rl : C.raw.length = A.raw.length
  ld : ∀ i : Nat, i < j → C.loadF h2 ((t + i) % sizeF (opC h2)) = xs.getD i 0
  lo : ∀ k i, A.inOk k i → k ≠ h2 → C.loadF k i = A.loadF k i
theorem ps_copy (X : GI A g m S l) (wb : 1 ≤ g.w ∧ g.w ≤ 1000) (bd : o.bnd) (ll : (l o.work).length < 1000) (hu : A.uses ≤ 800000) {h2 : Int} {al : Option Al} (hn : h2 ≠ o.h) (hs : A.stF o.h = 1) (hs2 : A.stF h2 = 1) (bt : o.b = t + xs.length) (tb : 0 ≤ t ∧ t ≤ 1000000) (ln : (xs.length : Int) ≤ sizeF (opC o.h)) (ln2 : (xs.length : Int) ≤ sizeF (opC h2))
    (lx : ∀ j : Nat, j < xs.length → A.loadF o.h ((t + j) % sizeF (opC o.h)) = xs.getD j 0) : ∀ j : Nat, j ≤ xs.length → 1 ≤ xs.length →
    ∃ C vj, CJ A g m S l h2 t xs j C ∧ (mPs q mq ob).Path (2 * j) ⟨g, l, o, v, t, 2, al, some ⟨o.h, h2, t, o.b, 0, false⟩, none, h2, false⟩ A ⟨g, l, o, v, t, if j = xs.length then 3 else 2, al, some ⟨o.h, h2, t + j, o.b, vj, false⟩, none, h2, false⟩ C
  | 0, _, h1 => ⟨A, 0, ⟨X, .refl A, fun _ => rfl, rfl, by omega, fun _ => rfl, rfl, fun i hi => by omega, fun _ _ _ _ => rfl⟩, by rw [if_neg (by omega), show t + ((0 : Nat) : Int) = t by omega]; exact .nil⟩
  | j + 1, hj, h1 => by
    obtain ⟨C, vj, W, pth⟩ := ps_copy X wb bd ll hu hn hs hs2 bt tb ln ln2 lx j (by omega) h1
    rw [if_neg (by omega)] at pth
    have u0 := X.u0
    have us := W.us
    have sz := sz_op o.h
    have sz2 := sz_op h2
    have s0 : C.stF o.h ≠ 0 := by rw [W.st, hs]; decide
    have s2 : C.stF h2 ≠ 0 := by rw [W.st, hs2]; decide
    have w1 := wordF_live s0 (t + j)
    have w2 := wordF_live s2 (t + j)
    have i1 : A.inOk o.h ((t + j) % sizeF (opC o.h)) := ⟨by rw [hs]; decide, Int.emod_nonneg _ (by omega), Int.emod_lt_of_pos _ (by omega)⟩
    have i1C : C.inOk o.h ((t + j) % sizeF (opC o.h)) := (inOk_st W.st).2 i1
    have l1 : C.loadF o.h ((t + j) % sizeF (opC o.h)) = xs.getD j 0 := by rw [W.lo _ _ i1 (fun e => hn e.symm)]; exact lx j (by omega)
    have X1 := W.gi.later (n := 1) (by decide)
    have i2 : (C.later 1).inOk h2 ((t + j) % sizeF (opC h2)) := ⟨by rw [st_later']; exact s2, Int.emod_nonneg _ (by omega), Int.emod_lt_of_pos _ (by omega)⟩
    have Z := X1.store (v := xs.getD j 0) (by show C.uses + 1 ≤ _; omega) i2
    have zu : ((C.later 1).storeF h2 ((t + j) % sizeF (opC h2)) (xs.getD j 0)).uses = C.uses + 1 + 1 := Z.us
    have inA : ∀ k i, A.inOk k i → (C.later 1).inOk k i := fun k i hk => inOk_later' ((inOk_st W.st).2 hk)
    have e1 : w64 (t + j + 1) = t + ((j + 1 : Nat) : Int) := by rw [w64_in (by omega) (by omega)]; omega
    have nf : mCp.fin ⟨o.h, h2, t + j, o.b, xs.getD j 0, true⟩ = false := decide_eq_false (by show ¬ o.b ≤ t + j; omega)
    refine ⟨_, xs.getD j 0, ⟨Z.gi, (W.al.trans (later_alike C 1)).trans Z.al, fun k => (Z.st k).trans ((st_later' C 1 k).trans (W.st k)), Z.nL.trans W.nL, by omega, fun i => (Z.rf i).trans (W.rf i), Z.rl.trans W.rl, fun i hi => ?_, fun k i hk hne => ?_⟩, ?_⟩
    · have hii : (C.later 1).inOk h2 ((t + i) % sizeF (opC h2)) := ⟨by rw [st_later']; exact s2, Int.emod_nonneg _ (by omega), Int.emod_lt_of_pos _ (by omega)⟩
      rw [Z.ld _ _ hii]
      by_cases e : i = j
      · rw [if_pos ⟨rfl, by rw [e]⟩, e]
      · rw [if_neg (fun h => mod_ne' (n := sizeF (opC h2)) (by omega) (by omega) ⟨by omega, by omega⟩ ⟨by omega, by omega⟩ h.2), ld_later']
        exact W.ld i (by omega)
    · rw [Z.ld _ _ (inA k i hk), if_neg (fun h => hne h.1), ld_later']; exact W.lo k i hk hne
    · rw [show 2 * (j + 1) = 2 * j + 2 by omega]
      refine pth.trans (.cons (x1 := ⟨g, l, o, v, t, 2, al, some ⟨o.h, h2, t + j, o.b, xs.getD j 0, true⟩, none, h2, false⟩) (D1 := C.later 1) ⟨wb, bd, ll, fun h => (by have h : (2 : Int) = 1 := h; omega), fun _ => ⟨_, rfl⟩, fun _ => rfl, fun h => (by have h : (2 : Int) = 4 := h; omega)⟩ ?_ ?_ rfl (.cons (D1 := (C.later 1).storeF h2 ((t + j) % sizeF (opC h2)) (xs.getD j 0)) ?_ ?_ ?_ ?_ .nil))
      · have hst : Cm.step ⟨o.h, h2, t + j, o.b, vj, false⟩ C = (⟨o.h, h2, t + j, o.b, xs.getD j 0, true⟩, C.later 1) := by
          unfold Cm.step
          rw [if_neg (by show ¬ o.b ≤ t + j; omega), if_pos rfl]
          show ((⟨o.h, h2, t + j, o.b, C.loadF o.h (wordF o.h (t + j)), true⟩ : Cm), C.touch o.h (wordF o.h (t + j))) = _
          rw [w1, l1, touch_later W.gi (by omega) i1C]
        show (if mCp.fin (Cm.step ⟨o.h, h2, t + j, o.b, vj, false⟩ C).1 = true then (⟨g, l, o, v, t, 3, al, some (Cm.step ⟨o.h, h2, t + j, o.b, vj, false⟩ C).1, none, h2, false⟩ : Ps) else ⟨g, l, o, v, t, 2, al, some (Cm.step ⟨o.h, h2, t + j, o.b, vj, false⟩ C).1, none, h2, false⟩, (Cm.step ⟨o.h, h2, t + j, o.b, vj, false⟩ C).2) = _
        rw [hst, nf, if_neg Bool.false_ne_true]
      · show C.uses + 1 ≤ _; rw [w64_in (by omega) (by omega)]; exact Int.le_refl _
      · exact ⟨wb, bd, ll, fun h => (by have h : (2 : Int) = 1 := h; omega), fun _ => ⟨_, rfl⟩, fun _ => rfl, fun h => (by have h : (2 : Int) = 4 := h; omega)⟩
      · have hst : Cm.step ⟨o.h, h2, t + j, o.b, xs.getD j 0, true⟩ (C.later 1) = (⟨o.h, h2, t + ((j + 1 : Nat) : Int), o.b, xs.getD j 0, false⟩, (C.later 1).storeF h2 ((t + j) % sizeF (opC h2)) (xs.getD j 0)) := by
          unfold Cm.step
          rw [if_neg (by show ¬ o.b ≤ t + j; omega), if_neg (by show ¬ true = false; decide)]
          show ((⟨o.h, h2, w64 (t + j + 1), o.b, xs.getD j 0, false⟩ : Cm), (C.later 1).storeF h2 (wordF h2 (t + j)) (xs.getD j 0)) = _
          rw [w2, e1]
        show (if mCp.fin (Cm.step ⟨o.h, h2, t + j, o.b, xs.getD j 0, true⟩ (C.later 1)).1 = true then (⟨g, l, o, v, t, 3, al, some (Cm.step ⟨o.h, h2, t + j, o.b, xs.getD j 0, true⟩ (C.later 1)).1, none, h2, false⟩ : Ps) else ⟨g, l, o, v, t, 2, al, some (Cm.step ⟨o.h, h2, t + j, o.b, xs.getD j 0, true⟩ (C.later 1)).1, none, h2, false⟩, (Cm.step ⟨o.h, h2, t + j, o.b, xs.getD j 0, true⟩ (C.later 1)).2) = _
        rw [hst]
        refine Prod.ext ?_ rfl
        show (if decide (o.b ≤ t + ((j + 1 : Nat) : Int)) = true then _ else _ : Ps) = _
        by_cases e : j + 1 = xs.length
        · rw [if_pos (decide_eq_true (by omega)), if_pos e]
        · rw [if_neg (by rw [decide_eq_false (by omega)]; exact Bool.false_ne_true), if_neg e]
      · show _ ≤ w64 (C.uses + 1 + 1); rw [zu, w64_in (by omega) (by omega)]; exact Int.le_refl _
      · show (((if j + 1 = xs.length then 3 else 2 : Int)) == 7) = false
        split <;> rfl
end
structure SlotZ (A : Ar) (g : Gd) (m : Int) (S : Sg) (l : Int → List (Int × Int)) (who c : Int) (n : Nat) (x : Al) (B : Ar) (S' : Sg) : Prop where
  z : Alloced A g.pl g.w m S who c n x B S'
  gi : GI B g m S' l
  cv : S'.cv ≤ S.cv + sizeF c
  nz : S.cv + sizeF c ≤ m → x.h ≠ 0
  un : A.uses ≤ B.uses ∧ B.uses ≤ A.uses + g.w + 5
theorem GI.slot {A : Ar} {g : Gd} {m : Int} {S : Sg} {l : Int → List (Int × Int)} (X : GI A g m S l) (hu : A.uses ≤ 900000) {who c : Int} (wh : 0 ≤ who ∧ who < g.w) (hc : 0 ≤ c ∧ c < 4) : ∃ n x B S', SlotZ A g m S l who c n x B S' := by
  obtain ⟨n, x, B, S', Z⟩ := alloc_solo X.sl X.wf (by omega) wh hc
  have sz := sz_pos hc.1 hc.2
  have us := Z.off.us
  have nn := Z.nn
  refine ⟨n, x, B, S', Z, X.alloc hc Z, ?_, fun hm => ?_, ⟨by omega, by omega⟩⟩
  · obtain ⟨kk, b', l', h1, h2, _, _, _, h3, _⟩ | ⟨h1, h2, h3, h4⟩ | ⟨h1, h2, h3, _⟩ := Z.gives.or
    · rw [h3]; show S.cv ≤ _; omega
    · rw [h3]; show S.cv + _ ≤ _; omega
    · rw [h3]; omega
  · obtain ⟨kk, b', l', h1, h2, _, _, hcc, h3, h4⟩ | ⟨h1, h2, h3, h4⟩ | ⟨h1, h2, h3, _⟩ := Z.gives.or
    · rw [h4]; exact (list_name X.sl (by omega) h2 hcc).2.2.2.2
    · rw [h4]; exact (carve_name X.sl hc h2).2.2.2.2
    · exact (h2 hm).elim
end Go.Proofs.YtjnacjniiogjcaaGreat
