/- Texts of this claim, one behind the other. -/
import Derived.Test.YtjnacjniiogjcaaGreatCWThiefLast3
set_option linter.unusedSimpArgs false
set_option linter.unusedVariables false
set_option maxRecDepth 20000
namespace Go.Proofs.YtjnacjniiogjcaaGreat
open Go Go.Fw
section
variable {A B C : Ar} {g : Gd} {m : Int} {S S' : Sg} {l l' : Int → List (Int × Int)} {k h i v t : Int} {q mq ob : Nat} {n : Nat} {o : DOw} {xs : List Int}
structure RetF (A : Ar) (g : Gd) (m : Int) (S : Sg) (l : Int → List (Int × Int)) (k h : Int) (B : Ar) (l' : Int → List (Int × Int)) (S' : Sg) : Prop where
  gi : GI B g m S' l'
  al : Ar.Alike A B
  st : B.stF h ≠ 1
  ot : ∀ j, j ≠ h → A.stF j = 1 → B.stF j = 1
  ld : ∀ j i, j ≠ h → A.stF j = 1 → B.loadF j i = A.loadF j i
  rw : ∀ i, g.pl.carved < i → i ≠ g.ta → B.rawF i = A.rawF i
  nL : B.nL = A.nL - sizeF (opC h)
  us : A.uses ≤ B.uses ∧ B.uses ≤ A.uses + 1000
  rl : B.raw.length = A.raw.length
  lo : ∀ j, j ≠ k → l' j = l j
  ll : (l' k).length ≤ (l k).length + 1
  cv : S'.cv = S.cv
  nw : ∀ j, B.stF j = 1 → A.stF j = 1
theorem GI.retF (X : GI A g m S l) (hu : A.uses ≤ 680000) (kb : 0 ≤ k ∧ k < g.w) (hs : A.stF h = 1) (hz : sizeF (opC h) ≤ A.nL) (ll : (l k).length ≤ 190) (th : 1 ≤ g.th) :
    ∃ B l' S', RetF A g m S l k h B l' S' ∧ RunO q mq (retM g l k h) g k (A.retireF h) (setL l k (l k ++ [(h, 0)])) l' B := by
  have u0 := X.u0
  have c0 := X.c0
  obtain ⟨A1, B, l', S', R1, X1, X', run', hor⟩ := X.retire_run (q := q) (mq := mq) (k := k) (h := h) hu kb hs hz ll th
  have u1 := R1.us
  have lenf : ∀ keep : Int × Int → Bool, ((l k ++ [(h, sinceF g A)]).filter keep).length ≤ (l k ++ [(h, sinceF g A)]).length := fun keep => List.length_filter_le _ _
  have notgs : ∀ {keep gs} (L1 : Lkd A1 g m S (setL l k (l k ++ [(h, sinceF g A)])) k keep gs 1 B) (j : Int), j ≠ h → A.stF j = 1 → j ∉ gs := fun {keep gs} L1 j hj h1 hg => by
    obtain ⟨x, hx, _, rfl⟩ := L1.gone.1 hg
    rw [setL_same] at hx
    rcases List.mem_append.1 hx with hx | hx
    · have := X.st k x hx; rw [h1] at this; cases this
    · have : x = (h, sinceF g A) := by simpa using hx
      rw [this] at hj; exact hj rfl
  have s1 : ∀ j, j ≠ h → A.stF j = 1 → A1.stF j = 1 := fun j hj h1 => by rw [R1.st, if_neg hj]; exact h1
  have l1 : ∀ j i, j ≠ h → A1.loadF j i = A.loadF j i := fun j i hj => loadF_same R1.wd (by rw [R1.st, if_neg hj])
  refine ⟨B, l', S', ?_, run'⟩
  rcases hor with ⟨_, rfl, rfl, rfl⟩ | ⟨_, keep, gs, L1, rfl, rfl⟩
  · refine ⟨X', R1.al, by rw [R1.st, if_pos rfl]; decide, s1, fun j i hj _ => l1 j i hj, fun i hi _ => R1.rw i (by omega), R1.nL, ⟨by omega, by omega⟩, R1.rl, fun j hj => setL_ne _ _ hj, ?_, rfl, fun j hj => ?_⟩
    · rw [setL_same]; simp
    · rw [R1.st] at hj
      split at hj
      · cases hj
      · exact hj
  · have lu := L1.us
    have := lenf keep
    rw [setL_same] at lu
    simp only [List.length_append, List.length_cons, List.length_nil] at lu this
    refine ⟨X', R1.al.trans L1.al, ?_, fun j hj h1 => ?_, fun j i hj h1 => ?_, fun i hi hn => (L1.rw i hi hn).trans (R1.rw i (by omega)), L1.nL.trans R1.nL, ⟨by omega, by omega⟩, L1.rl.trans R1.rl, fun j hj => setL_ne _ _ hj, ?_, (frS_cv _ _ _).1, fun j hj => ?_⟩
    · rw [L1.st]; split
      · decide
      · rw [R1.st, if_pos rfl]; decide
    · rw [L1.st, if_neg (notgs L1 j hj h1)]; exact s1 j hj h1
    · rw [loadF_same L1.wd (by rw [L1.st, if_neg (notgs L1 j hj h1)])]; exact l1 j i hj
    · rw [setL_same]; simp only [List.length_append, List.length_cons, List.length_nil] at *; omega
    · rw [L1.st] at hj
      split at hj
      · cases hj
      · rw [R1.st] at hj
        split at hj
        · cases hj
        · exact hj
structure GrownD (A : Ar) (g : Gd) (m : Int) (S : Sg) (l : Int → List (Int × Int)) (o : DOw) (t v : Int) (xs : List Int) (h2 : Int) (B : Ar) (l' : Int → List (Int × Int)) (S' : Sg) : Prop where
  gi : GI B g m S' l'
  al : Ar.Alike A B
  dq : DQ B { o with b := o.b + 1, h := h2 } t (xs ++ [v])
  c2 : opC h2 = opC o.h + 1
  n2 : A.stF h2 = 0
  st : B.stF o.h ≠ 1
  ot : ∀ j, j ≠ o.h → A.stF j = 1 → B.stF j = 1
  lo : ∀ j i, j ≠ o.h → A.stF j = 1 → B.loadF j i = A.loadF j i
  rf : ∀ i, g.pl.carved < i → i ≠ g.ta → i ≠ dw o.at_ o.work 1 → i ≠ dw o.at_ o.work 2 → B.rawF i = A.rawF i
  nL : B.nL = A.nL - sizeF (opC o.h) + sizeF (opC h2)
  us : A.uses ≤ B.uses ∧ B.uses ≤ A.uses + 1500
  rl : B.raw.length = A.raw.length
  ll : (l' o.work).length ≤ (l o.work).length + 1
  lk : ∀ j, j ≠ o.work → l' j = l j
  cv : S'.cv ≤ S.cv + sizeF (opC h2)
  nw : ∀ j, j ≠ h2 → B.stF j = 1 → A.stF j = 1
  gv : (∃ k, S.ch k ≠ []) ∨ S.cv + sizeF (opC h2) ≤ m
theorem push_grow (X : GI A g m S l) (D : DA A g o.at_) (wh : 0 ≤ o.work ∧ o.work < g.w) (pl : o.pl = g.pl) (hu : A.uses ≤ 600000) (ll : (l o.work).length ≤ 100) (th : 1 ≤ g.th) (nl : sizeF (opC o.h) ≤ A.nL) (Q : DQ A o t xs) (hr : sizeF (opC o.h) ≤ xs.length) (hc : opC o.h < 3) :
    (∃ h2 n B l' S' al cp, GrownD A g m S l o t v xs h2 B l' S' ∧ n ≤ 4000 ∧ (mPs q mq ob).Runs n ⟨g, l, o, v, 0, 0, none, none, none, 0, false⟩ A ⟨g, l', { o with b := o.b + 1, h := h2 }, v, t, 7, al, cp, none, h2, true⟩ B) ∨
    (m < S.cv + sizeF (opC o.h + 1) ∧ ∃ n B al, GI B g m S l ∧ Ar.Alike A B ∧ B.words = A.words ∧ (∀ k, B.stF k = A.stF k) ∧ (∀ i, g.pl.carved < i → B.rawF i = A.rawF i) ∧ B.nL = A.nL ∧ B.raw.length = A.raw.length ∧ A.uses ≤ B.uses ∧ B.uses ≤ A.uses + 200 ∧ n ≤ 4000 ∧
      (mPs q mq ob).Runs n ⟨g, l, o, v, 0, 0, none, none, none, 0, false⟩ A ⟨g, l, o, v, t, 7, al, none, none, 0, false⟩ B) := by
  have u0 := X.u0
  have wb := X.wb
  have tb := Q.tb
  have bt := Q.bt
  have ln := Q.ln
  have oc := opC_nat o.h
  have sz := sz_op o.h
  have wb' : 1 ≤ g.w ∧ g.w ≤ 1000 := ⟨by omega, by omega⟩
  have bd := bnd_ok X D wh
  have hs0 : A.stF o.h ≠ 0 := by rw [Q.hs]; decide
  obtain ⟨iv, hu1, st⟩ := ps_first (q := q) (mq := mq) (ob := ob) (v := v) X D wh (by omega) (by omega) Q
  rw [if_pos hr, if_pos (by omega), pl] at st
  have X1 := X.later (n := 1) (by decide)
  have uA1 : (A.later 1).uses = A.uses + 1 := rfl
  obtain ⟨n1, x, B, S1, Z⟩ := X1.slot (by omega) wh (c := opC o.h + 1) ⟨by omega, by omega⟩
  have un := Z.un
  have nn := Z.z.nn
  have hlif := ps_al_lift (q := q) (mq := mq) (ob := ob) (g := g) (l := l) (o := o) (v := v) (t := t) wb' bd (by omega) (cp := none) (now := 0) (went := false) Z.z.run
  by_cases hx : x.h = 0
  · -- no room
    refine .inr ⟨?_, ?_⟩
    · obtain ⟨kk, b', l', h1, h2, _, _, hcc, h3, h4⟩ | ⟨h1, h2, h3, h4⟩ | ⟨h1, h2, h3, _⟩ := Z.z.gives.or
      · exact ((list_name X1.sl (by omega) h2 hcc).2.2.2.2 (h4 ▸ hx)).elim
      · exact ((carve_name X1.sl ⟨by omega, by omega⟩ h2).2.2.2.2 (h4 ▸ hx)).elim
      · have : (A.later 1).uses = A.uses + 1 := rfl
        omega
    · have hS : S1 = S := by
        obtain ⟨kk, b', l', h1, h2, _, _, hcc, h3, h4⟩ | ⟨h1, h2, h3, h4⟩ | ⟨h1, h2, h3, _⟩ := Z.z.gives.or
        · exact ((list_name X1.sl (by omega) h2 hcc).2.2.2.2 (h4 ▸ hx)).elim
        · exact ((carve_name X1.sl ⟨by omega, by omega⟩ h2).2.2.2.2 (h4 ▸ hx)).elim
        · exact h3
      have GB := Z.gi
      rw [hS] at GB
      obtain ⟨_, i2⟩ := hlif ⟨g, l, o, v, t, 7, some x, none, none, 0, false⟩ (by unfold Ps.got; rw [if_neg (fun h => h hx)])
      have off := Z.z.off
      exact ⟨n1 + 1, B, some x, GB, (later_alike A 1).trans off.al, off.wd, fun k => by rw [Z.z.st, if_neg (fun h => h.1 hx)]; exact st_later' A 1 k, fun i hi => off.rw i hi, by rw [Z.z.nL, if_neg (fun h => h hx)]; show A.nL + 0 = _; omega, off.rl, by omega, by omega, by omega, .more iv st hu1 rfl (i2 rfl)⟩
  · -- a new buffer
    refine .inl ?_
    have hcx : opC x.h = opC o.h + 1 := (Z.z.hd hx).1
    have hx0 : A.stF x.h = 0 := by rw [← st_later' A 1]; exact (Z.z.hd hx).2.2
    have hne : x.h ≠ o.h := fun e => by rw [e] at hcx; omega
    have off := Z.z.off
    have sB : ∀ j, j ≠ x.h → B.stF j = A.stF j := fun j hj => by rw [Z.z.st, if_neg (fun h => hj h.2)]; exact st_later' A 1 j
    have sBx : B.stF x.h = 1 := by rw [Z.z.st, if_pos ⟨hx, rfl⟩]
    have lB : ∀ j i, j ≠ x.h → B.loadF j i = A.loadF j i := fun j i hj => loadF_same off.wd (sB j hj)
    have sBo : B.stF o.h = 1 := by rw [sB _ (fun e => hne e.symm)]; exact Q.hs
    have sx := sz_op x.h
    have s2 : sizeF (opC o.h) * 2 = sizeF (opC x.h) := by
      rw [hcx]
      have h3 : opC o.h = 0 ∨ opC o.h = 1 ∨ opC o.h = 2 := by omega
      rcases h3 with h | h | h <;> rw [h] <;> rfl
    obtain ⟨i1, _⟩ := hlif ⟨g, l, o, v, t, 2, some x, some ⟨o.h, x.h, t, o.b, 0, false⟩, none, x.h, false⟩ (by unfold Ps.got; rw [if_pos hx])
    obtain ⟨C, vj, W, pc⟩ := ps_copy (q := q) (mq := mq) (ob := ob) (v := v) (al := some x) Z.gi wb' bd (by omega) (by omega) hne sBo sBx bt tb ln (by omega) (fun j hj => by rw [lB _ _ (fun e => hne e.symm)]; exact Q.ld j hj) xs.length (Nat.le_refl _) (by omega)
    rw [if_pos rfl] at pc
    have wu := W.us
    -- the buffer's word
    obtain ⟨d1, d2, d3, d4⟩ := dw_in X D wh (k := 2) (by decide) (by decide)
    have lC : C.raw.length = A.raw.length := W.rl.trans off.rl
    have O := outS W.gi.sl (i := dw o.at_ o.work 2) (v := x.h) ⟨d1, by rw [lC]; exact d2⟩ (by omega)
    have ou := O.us
    have XO := W.gi.out O (storeR_wf W.gi.wf _ _) (fun _ => by omega)
    have okr : C.rawOk (dw o.at_ o.work 2) := ⟨d4, by rw [lC]; exact d2⟩
    have ew : (C.storeR (dw o.at_ o.work 2) x.h).words = C.words := by unfold Ar.storeR; rw [if_pos okr]; rfl
    have lO : ∀ h i, (C.storeR (dw o.at_ o.work 2) x.h).loadF h i = C.loadF h i := fun h i => loadF_same ew (O.st h)
    have nLO : (C.storeR (dw o.at_ o.work 2) x.h).nL = A.nL + sizeF (opC x.h) := by
      rw [O.nL, W.nL, Z.z.nL, if_pos hx, hcx]; rfl
    have sO : ∀ j, (C.storeR (dw o.at_ o.work 2) x.h).stF j = B.stF j := fun j => (O.st j).trans (W.st j)
    obtain ⟨E, l', S', F, run⟩ := XO.retF (q := q) (mq := mq) (k := o.work) (h := o.h) (by omega) wh (by rw [sO]; exact sBo) (by rw [nLO]; omega) (by omega) th
    have fu := F.us
    have hw3 : ∀ D : Ar, Ps.inv ⟨g, l, o, v, t, 3, some x, some ⟨o.h, x.h, t + xs.length, o.b, vj, false⟩, none, x.h, false⟩ D := fun D => ps_iv wb' bd (by omega) (by decide) (by decide) (by decide) D
    have st3 : (mPs q mq ob).step ⟨g, l, o, v, t, 3, some x, some ⟨o.h, x.h, t + xs.length, o.b, vj, false⟩, none, x.h, false⟩ C = (⟨g, setL l o.work (l o.work ++ [(o.h, 0)]), { o with h := x.h }, v, t, if (retM g l o.work o.h).isNone = true then 5 else 4, some x, some ⟨o.h, x.h, t + xs.length, o.b, vj, false⟩, retM g l o.work o.h, x.h, false⟩, (C.storeR (dw o.at_ o.work 2) x.h).retireF o.h) := rfl
    have hu3 : ((C.storeR (dw o.at_ o.work 2) x.h).retireF o.h).uses ≤ w64 (C.uses + 1) := by
      rw [(Off.retireF (c := 0) XO.wf o.h).us, w64_in (by omega) (by omega)]; omega
    have bd2 : DOw.bnd { o with h := x.h } := ⟨bd.a, bd.w⟩
    have pr : ∃ n3, n3 ≤ 2501 ∧ (mPs q mq ob).Path n3 ⟨g, l, o, v, t, 3, some x, some ⟨o.h, x.h, t + xs.length, o.b, vj, false⟩, none, x.h, false⟩ C ⟨g, l', { o with h := x.h }, v, t, 5, some x, some ⟨o.h, x.h, t + xs.length, o.b, vj, false⟩, none, x.h, false⟩ E := by
      cases hm : retM g l o.work o.h with
      | none =>
        rw [hm] at run st3
        obtain ⟨rfl, rfl⟩ := run
        exact ⟨1, by decide, .cons (hw3 C) st3 hu3 rfl .nil⟩
      | some y =>
        rw [hm] at run st3
        obtain ⟨n3, hn3, r⟩ := run
        refine ⟨n3 + 1, by omega, .cons (hw3 C) st3 hu3 rfl ?_⟩
        exact ps_lk_lift (l := setL l o.work (l o.work ++ [(o.h, 0)])) (o := { o with h := x.h }) wb' bd2 (by show (setL l o.work (l o.work ++ [(o.h, 0)]) o.work).length < 1000; rw [setL_same]; simp; omega) r
    obtain ⟨n3, hn3, pr⟩ := pr
    have rE : ∀ i, g.pl.carved < i → i ≠ g.ta → E.rawF i = if i = dw o.at_ o.work 2 then x.h else A.rawF i := fun i hi hn => by
      rw [F.rw i hi hn, O.rf]
      by_cases e : i = dw o.at_ o.work 2
      · rw [if_pos e, if_pos e]
      · rw [if_neg e, if_neg e, W.rf, off.rw i hi]; rfl
    obtain ⟨a1, a2, a3, a4⟩ := dw_in X D wh (k := 0) (by decide) (by decide)
    obtain ⟨b1, b2, b3, b4⟩ := dw_in X D wh (k := 1) (by decide) (by decide)
    have sE : E.stF x.h = 1 := F.ot _ hne (by rw [sO]; exact sBx)
    have QE : DQ E { o with h := x.h } t xs := by
      refine ⟨?_, ?_, ?_, bt, tb, sE, by show (xs.length : Int) ≤ sizeF (opC x.h); omega, fun j hj => ?_⟩
      · show E.rawF (dw o.at_ o.work 0) = t
        rw [rE _ a1 (by omega), if_neg (by unfold dw; omega)]; exact Q.r0
      · show E.rawF (dw o.at_ o.work 1) = o.b
        rw [rE _ b1 (by omega), if_neg (by unfold dw; omega)]; exact Q.r1
      · show E.rawF (dw o.at_ o.work 2) = x.h
        rw [rE _ d1 (by omega), if_pos rfl]
      · show E.loadF x.h ((t + j) % sizeF (opC x.h)) = _
        rw [F.ld _ _ hne (by rw [sO]; exact sBx), lO]; exact W.ld j hj
    have rlE : E.raw.length = A.raw.length := F.rl.trans (O.rl.trans lC)
    obtain ⟨P, PP, pu, rp⟩ := push_two (q := q) (mq := mq) (ob := ob) (v := v) (o := { o with h := x.h }) (al := some x) (cp := some ⟨o.h, x.h, t + xs.length, o.b, vj, false⟩) (now := x.h) F.gi ⟨D.lo, by rw [rlE]; exact D.hi⟩ wh (by omega) (by have := F.ll; show (l' o.work).length < 1000; omega) QE (by show (xs.length : Int) < sizeF (opC x.h); omega)
    have rr := MchR.Runs.more iv st hu1 rfl (i1 rfl |>.run (pc.run (pr.run rp)))
    refine ⟨x.h, _, P, l', S', _, _, ⟨PP.gi, ?_, PP.dq, hcx, hx0, ?_, fun j hj h1 => ?_, fun j i hj h1 => ?_, fun i hi hn h1 h2 => ?_, ?_, ⟨by omega, by omega⟩, PP.rl.trans rlE, F.ll, F.lo, by rw [F.cv, hcx]; exact Z.cv, fun j hj h1 => ?_, ?_⟩, ?_, rr⟩
    · exact ((((later_alike A 1).trans off.al).trans W.al).trans ((storeR_alike _ _ _).trans F.al)).trans PP.al
    · rw [PP.st]; exact F.st
    · have hjx : j ≠ x.h := fun e => by rw [e, hx0] at h1; cases h1
      rw [PP.st]; exact F.ot j hj (by rw [sO, sB j hjx]; exact h1)
    · have hjx : j ≠ x.h := fun e => by rw [e, hx0] at h1; cases h1
      have sOj : (C.storeR (dw o.at_ o.work 2) x.h).stF j = 1 := by rw [sO, sB j hjx]; exact h1
      have sEj := F.ot j hj sOj
      have e1 : P.loadF j i = E.loadF j i := by
        by_cases hij : E.inOk j i
        · exact PP.lo j i hij hjx
        · unfold Ar.loadF
          have hP : ¬ P.inOk j i := fun h => hij ((inOk_st PP.st).1 h)
          rw [if_neg hij, if_neg hP]
      have e2 : C.loadF j i = B.loadF j i := by
        by_cases hij : B.inOk j i
        · exact W.lo j i hij hjx
        · unfold Ar.loadF
          have hC : ¬ C.inOk j i := fun h => hij ((inOk_st W.st).1 h)
          rw [if_neg hij, if_neg hC]
      rw [e1, F.ld j i hj sOj, lO, e2, lB j i hjx]
    · rw [PP.rf i h1, rE i hi hn, if_neg h2]
    · rw [PP.nL, F.nL, nLO]; omega
    · rw [PP.st] at h1
      have := F.nw j h1
      rw [sO, sB j hj] at this; exact this
    · rw [hcx]
      obtain ⟨kk, b', l', h1, h2, _⟩ | ⟨h1, h2, _⟩ | ⟨_, _, _, h4⟩ := Z.z.gives.or
      · exact .inl ⟨kk, by rw [h2]; exact List.cons_ne_nil _ _⟩
      · exact .inr h2
      · exact (hx h4).elim
    · have hlen : xs.length ≤ 64 := by omega
      show n1 + (2 * xs.length + (n3 + 2)) + 1 ≤ 4000
      omega
end
def Mch.toR {M J : Type} (X : Mch M J) : MchR M J := ⟨X.f, X.addr, X.bl, fun _ _ => True, X.inv, X.step, X.fin⟩
theorem Mch.toR_ok {M J : Type} {X : Mch M J} (h : X.ok) : X.toR.ok := fun I A G m j hA ok _ hi => by
  obtain ⟨h0⟩ : Nonempty (SpecF Tryz.prog X.f #[.pointer (some ⟨X.addr j, 0, none⟩), .pointer (aI I)] (own A (X.bl m j) G) fun v K => ∃ j', v = .bool (X.fin (X.step m A).1) ∧ K = own (X.step m A).2 (X.bl (X.step m A).1 j') G ∧ X.addr j' = X.addr j ∧ Ok I G (keys (X.bl (X.step m A).1 j')) ∧ Aw I (X.step m A).2) := ⟨h I A G m j hA ok hi⟩
  refine h0.mono ?_
  rintro v K ⟨j', a, b, c, d, e⟩
  exact ⟨j', a, b, c, d, trivial, e⟩
theorem Mch.toR_runs {M J : Type} {X : Mch M J} {n : Nat} {m m' : M} {A A' : Ar} (h : X.Runs n m A m' A') : X.toR.Runs n m A m' A' := by
  induction h with
  | one hi hu hf => exact .one hi rfl hu hf
  | more hi hu hf _ ih => exact .more hi rfl hu hf ih
section
variable {A B C : Ar} {g : Gd} {m : Int} {S S' : Sg} {l l' : Int → List (Int × Int)} {k h i v t : Int} {q mq ob : Nat} {n : Nat} {o : DOw} {xs : List Int}
structure Bot (A : Ar) (g : Gd) (m : Int) (S : Sg) (l : Int → List (Int × Int)) (i v : Int) (B : Ar) : Prop where
  gi : GI B g m S l
  al : Ar.Alike A B
  ok : A.rawOk i
  lf : ∀ h j, B.loadF h j = A.loadF h j
  st : ∀ h, B.stF h = A.stF h
  rf : ∀ j, B.rawF j = if j = i then v else A.rawF j
  nL : B.nL = A.nL
  rl : B.raw.length = A.raw.length
  us : B.uses = A.uses + 1
  us' : B.uses ≤ w64 (A.uses + 1)
theorem GI.bot (X : GI A g m S l) (D : DA A g o.at_) (wh : 0 ≤ o.work ∧ o.work < g.w) (hu : A.uses ≤ 900000) (v : Int) {k : Int} (k0 : 0 ≤ k) (k1 : k < 3) : Bot A g m S l (dw o.at_ o.work k) v (A.storeR (dw o.at_ o.work k) v) := by
  have u0 := X.u0
  obtain ⟨d1, d2, d3, d4⟩ := dw_in X D wh k0 k1
  have O := outS X.sl (i := dw o.at_ o.work k) (v := v) ⟨d1, d2⟩ (by omega)
  have ou := O.us
  have okr : A.rawOk (dw o.at_ o.work k) := ⟨d4, d2⟩
  have ew : (A.storeR (dw o.at_ o.work k) v).words = A.words := by unfold Ar.storeR; rw [if_pos okr]; rfl
  exact ⟨X.out O (storeR_wf X.wf _ _) (fun _ => by omega), storeR_alike _ _ _, okr, fun h j => loadF_same ew (O.st h), O.st, O.rf, O.nL, O.rl, ou, by rw [ou, w64_in (by omega) (by omega)]; exact Int.le_refl _⟩
structure Popped (A : Ar) (g : Gd) (m : Int) (S : Sg) (l : Int → List (Int × Int)) (o : DOw) (xs : List Int) (b' t' : Int) (B : Ar) : Prop where
  gi : GI B g m S l
  al : Ar.Alike A B
  dq : DQ B { o with b := b' } t' xs.dropLast
  st : ∀ h, B.stF h = A.stF h
  lf : ∀ h j, B.loadF h j = A.loadF h j
  rf : ∀ i, i ≠ dw o.at_ o.work 0 → i ≠ dw o.at_ o.work 1 → B.rawF i = A.rawF i
  nL : B.nL = A.nL
  rl : B.raw.length = A.raw.length
  us : B.uses = A.uses + (if xs.length = 1 then 5 else 3)
theorem pop_run (X : GI A g m S l) (D : DA A g o.at_) (wh : 0 ≤ o.work ∧ o.work < g.w) (hu : A.uses ≤ 700000) (ht : t ≤ 900000) (Q : DQ A o t xs) :
    ∃ n B b' t' v ok, Popped A g m S l o xs b' t' B ∧ n ≤ 5 ∧ t' ≤ t + 1 ∧ t ≤ t' ∧ ok = decide (0 < xs.length) ∧ (0 < xs.length → v = xs.getD (xs.length - 1) 0) ∧ (mPp q ob).toR.Runs n ⟨o, 0, 0, 0, false⟩ A ⟨{ o with b := b' }, t, 5, v, ok⟩ B := by
  have u0 := X.u0
  have wb := X.wb
  have sz := sz_op o.h
  have tb := Q.tb
  have bt := Q.bt
  have ln := Q.ln
  have hs0 : A.stF o.h ≠ 0 := by rw [Q.hs]; decide
  have bd : o.bnd := bnd_ok X D wh
  have lb : (xs.length : Int) ≤ 64 := by omega
  have e1 : w64 (o.b - 1) = o.b - 1 := w64_in (by omega) (by omega)
  have e2 : w64 (o.b - 1 + 1) = o.b := by rw [w64_in (by omega) (by omega)]; omega
  have n01 : dw o.at_ o.work 0 ≠ dw o.at_ o.work 1 := by unfold dw; omega
  have n02 : dw o.at_ o.work 2 ≠ dw o.at_ o.work 0 := by unfold dw; omega
  have n12 : dw o.at_ o.work 2 ≠ dw o.at_ o.work 1 := by unfold dw; omega
  have iv : ∀ (b t w v : Int) (ok : Bool) (D : Ar), (mPp q ob).toR.inv ⟨{ o with b := b }, t, w, v, ok⟩ D := fun b t w v ok D => ⟨bd.a, bd.w⟩
  have X1 := X.bot D wh (by omega) (o.b - 1) (k := 1) (by decide) (by decide)
  have us1 := X1.us
  obtain ⟨A1, hA1⟩ : ∃ A1, A1 = A.storeR (dw o.at_ o.work 1) (o.b - 1) := ⟨_, rfl⟩
  rw [← hA1] at X1 us1
  have D1 : DA A1 g o.at_ := ⟨D.lo, by rw [X1.rl]; exact D.hi⟩
  have r10 : A1.rawF (dw o.at_ o.work 0) = t := by rw [X1.rf, if_neg n01]; exact Q.r0
  have t1 := touchR_dw (k := 0) X1.gi D1 wh (by omega) (by decide) (by decide)
  have s0 : (mPp q ob).toR.step ⟨o, 0, 0, 0, false⟩ A = (⟨{ o with b := o.b - 1 }, 0, 1, 0, false⟩, A1) := by
    show ((⟨{ o with b := w64 (o.b - 1) }, 0, 1, 0, false⟩ : Pp), A.storeR (dw o.at_ o.work 1) (w64 (o.b - 1))) = _
    rw [e1, hA1]
  have s1 : (mPp q ob).toR.step ⟨{ o with b := o.b - 1 }, 0, 1, 0, false⟩ A1 = (⟨{ o with b := o.b - 1 }, t, if o.b - 1 < t then 4 else 2, 0, false⟩, A1.later 1) := by
    show ((⟨{ o with b := o.b - 1 }, A1.rawF (dw o.at_ o.work 0), if o.b - 1 < A1.rawF (dw o.at_ o.work 0) then 4 else 2, 0, false⟩ : Pp), A1.touchR (dw o.at_ o.work 0)) = _
    rw [r10, t1]
  have lu : ∀ {C : Ar}, 0 ≤ C.uses → C.uses ≤ 900000 → (C.later 1).uses ≤ w64 (C.uses + 1) := fun {C} h0 h1 => by
    show C.uses + 1 ≤ _; rw [w64_in (by omega) (by omega)]; exact Int.le_refl _
  by_cases he : xs.length = 0
  · -- empty
    have hxs : xs = [] := List.length_eq_zero_iff.1 he
    subst hxs
    have bt : o.b = t + ((0 : Nat) : Int) := bt
    rw [if_pos (by omega)] at s1
    have X2 := X1.gi.later (n := 1) (by decide)
    have X3 := GI.bot (o := o) X2 ⟨D1.lo, D1.hi⟩ wh (by show A1.uses + 1 ≤ _; omega) o.b (k := 1) (by decide) (by decide)
    have us3 : _ = A1.uses + 1 + 1 := X3.us
    refine ⟨3, _, o.b, t, 0, false, ⟨X3.gi, X1.al.trans ((later_alike A1 1).trans X3.al), ⟨?_, ?_, ?_, bt, tb, ?_, ln, fun j hj => (by cases hj)⟩, fun h => (X3.st h).trans ((st_later' A1 1 h).trans (X1.st h)), fun h j => (X3.lf h j).trans ((ld_later' A1 1 h j).trans (X1.lf h j)), fun i h0 h1 => ?_, X3.nL.trans X1.nL, X3.rl.trans X1.rl, ?_⟩, by decide, by omega, by omega, rfl, fun h => (by cases h), ?_⟩
    · rw [X3.rf, if_neg n01]; exact r10
    · rw [X3.rf, if_pos rfl]
    · rw [X3.rf, if_neg n12]; show A1.rawF _ = _; rw [X1.rf, if_neg n12]; exact Q.r2
    · rw [X3.st]; show (A1.later 1).stF o.h = 1; rw [st_later', X1.st]; exact Q.hs
    · rw [X3.rf, if_neg h1]; show A1.rawF _ = _; rw [X1.rf, if_neg h1]
    · show _ = A.uses + (if (0 : Nat) = 1 then 5 else 3); rw [if_neg (by decide)]; omega
    · refine .more (x1 := ⟨{ o with b := o.b - 1 }, 0, 1, 0, false⟩) (D1 := A1) (by exact iv o.b 0 0 0 false A) s0 X1.us' rfl (.more (by exact iv _ _ _ _ _ _) s1 (lu (by omega) (by omega)) rfl (.one (by exact iv _ _ _ _ _ _) ?_ X3.us' rfl))
      show ((⟨{ o with b := w64 (o.b - 1 + 1) }, t, 5, 0, false⟩ : Pp), (A1.later 1).storeR (dw o.at_ o.work 1) (w64 (o.b - 1 + 1))) = _
      rw [e2]
  · rw [if_neg (by omega)] at s1
    have X2 := X1.gi.later (n := 1) (by decide)
    have hw := wordF_live (A := A) hs0 (o.b - 1)
    have m0 := Int.emod_nonneg (o.b - 1) (b := sizeF (opC o.h)) (by omega)
    have m1 := Int.emod_lt_of_pos (o.b - 1) (b := sizeF (opC o.h)) (by omega)
    have hs2 : (A1.later 1).stF o.h ≠ 0 := by rw [st_later', X1.st]; exact hs0
    have hi : (A1.later 1).inOk o.h ((o.b - 1) % sizeF (opC o.h)) := ⟨hs2, m0, m1⟩
    have t2 := touch_later X2 (by show A1.uses + 1 ≤ _; omega) hi
    have hv : (A1.later 1).loadF o.h ((o.b - 1) % sizeF (opC o.h)) = xs.getD (xs.length - 1) 0 := by
      rw [ld_later', X1.lf, ← Q.ld (xs.length - 1) (by omega)]
      rw [show t + ((xs.length - 1 : Nat) : Int) = o.b - 1 by omega]
    have e3 : (A1.later 1).later 1 = A1.later 2 := by unfold Ar.later; rw [show A1.uses + 1 + 1 = A1.uses + 2 by omega]
    have s2 : (mPp q ob).toR.step ⟨{ o with b := o.b - 1 }, t, 2, 0, false⟩ (A1.later 1) = (if t < o.b - 1 then ⟨{ o with b := o.b - 1 }, t, 5, xs.getD (xs.length - 1) 0, true⟩ else ⟨{ o with b := o.b - 1 }, t, 3, xs.getD (xs.length - 1) 0, false⟩, A1.later 2) := by
      show (if t < o.b - 1 then (⟨{ o with b := o.b - 1 }, t, 5, (A1.later 1).loadF o.h (wordF o.h (o.b - 1)), true⟩ : Pp) else ⟨{ o with b := o.b - 1 }, t, 3, (A1.later 1).loadF o.h (wordF o.h (o.b - 1)), false⟩, (A1.later 1).touch o.h (wordF o.h (o.b - 1))) = _
      rw [hw, hv, t2, e3]
    have u2 : (A1.later 2).uses ≤ w64 ((A1.later 1).uses + 1) := by show A1.uses + 2 ≤ w64 (A1.uses + 1 + 1); rw [w64_in (by omega) (by omega)]; omega
    have X3 := X1.gi.later (n := 2) (by decide)
    have dl : xs.dropLast.length = xs.length - 1 := List.length_dropLast
    have dg : ∀ j : Nat, j < xs.length - 1 → xs.dropLast.getD j 0 = xs.getD j 0 := fun j hj => by
      rw [List.getD_eq_getElem?_getD, List.getD_eq_getElem?_getD, List.getElem?_dropLast, if_pos hj]
    by_cases h2 : t < o.b - 1
    · rw [if_pos h2] at s2
      refine ⟨3, A1.later 2, o.b - 1, t, xs.getD (xs.length - 1) 0, true, ⟨X3, X1.al.trans (later_alike A1 2), ⟨r10, ?_, ?_, ?_, tb, ?_, ?_, fun j hj => ?_⟩, fun h => (st_later' A1 2 h).trans (X1.st h), fun h j => (ld_later' A1 2 h j).trans (X1.lf h j), fun i h0 h1 => ?_, X1.nL, X1.rl, ?_⟩, by decide, by omega, by omega, (decide_eq_true (by omega)).symm, fun _ => rfl, ?_⟩
      · show A1.rawF _ = _; rw [X1.rf, if_pos rfl]
      · show A1.rawF _ = _; rw [X1.rf, if_neg n12]; exact Q.r2
      · show o.b - 1 = t + (xs.dropLast.length : Int); rw [dl]; omega
      · rw [st_later', X1.st]; exact Q.hs
      · rw [dl]; show ((xs.length - 1 : Nat) : Int) ≤ sizeF (opC o.h); omega
      · rw [dl] at hj
        rw [dg j hj, ld_later', X1.lf]; exact Q.ld j (by omega)
      · show A1.rawF _ = _; rw [X1.rf, if_neg h1]
      · rw [if_neg (by omega)]; show A1.uses + 2 = _; omega
      · exact .more (x1 := ⟨{ o with b := o.b - 1 }, 0, 1, 0, false⟩) (D1 := A1) (by exact iv o.b 0 0 0 false A) s0 X1.us' rfl (.more (by exact iv _ _ _ _ _ _) s1 (lu (by omega) (by omega)) rfl (.one (by exact iv _ _ _ _ _ _) s2 u2 rfl))
    · rw [if_neg h2] at s2
      have h1l : xs.length = 1 := by omega
      have D3 : DA (A1.later 2) g o.at_ := ⟨D1.lo, D1.hi⟩
      have X4 := GI.bot (o := o) X3 D3 wh (by show A1.uses + 2 ≤ _; omega) (t + 1) (k := 0) (by decide) (by decide)
      have us4 : _ = A1.uses + 2 + 1 := X4.us
      obtain ⟨w1, w2⟩ := swapR_yes (A := A1.later 2) (i := dw o.at_ o.work 0) (v := t) (x := t + 1) X4.ok r10
      obtain ⟨A4, hA4⟩ : ∃ A4, A4 = (A1.later 2).storeR (dw o.at_ o.work 0) (t + 1) := ⟨_, rfl⟩
      rw [← hA4] at X4 us4 w2
      have X5 := GI.bot (o := o) X4.gi ⟨D1.lo, by rw [X4.rl]; exact D1.hi⟩ wh (by omega) o.b (k := 1) (by decide) (by decide)
      have us5 := X5.us
      have s3 : (mPp q ob).toR.step ⟨{ o with b := o.b - 1 }, t, 3, xs.getD (xs.length - 1) 0, false⟩ (A1.later 2) = (⟨{ o with b := o.b - 1 }, t, 4, xs.getD (xs.length - 1) 0, true⟩, A4) := by
        show ((⟨{ o with b := o.b - 1 }, t, 4, xs.getD (xs.length - 1) 0, (A1.later 2).swapRb (dw o.at_ o.work 0) t⟩ : Pp), (A1.later 2).swapR (dw o.at_ o.work 0) t (w64 (t + 1))) = _
        rw [w64_in (by omega) (by omega), w1, w2]
      have dn : xs.dropLast = [] := List.length_eq_zero_iff.1 (by rw [dl]; omega)
      refine ⟨5, _, o.b, t + 1, xs.getD (xs.length - 1) 0, true, ⟨X5.gi, X1.al.trans ((later_alike A1 2).trans (X4.al.trans X5.al)), ⟨?_, ?_, ?_, ?_, ⟨by omega, by omega⟩, ?_, ?_, fun j hj => ?_⟩, fun h => (X5.st h).trans ((X4.st h).trans ((st_later' A1 2 h).trans (X1.st h))), fun h j => (X5.lf h j).trans ((X4.lf h j).trans ((ld_later' A1 2 h j).trans (X1.lf h j))), fun i h0 h1 => ?_, X5.nL.trans (X4.nL.trans X1.nL), X5.rl.trans (X4.rl.trans X1.rl), ?_⟩, by decide, by omega, by omega, (decide_eq_true (by omega)).symm, fun _ => rfl, ?_⟩
      · rw [X5.rf, if_neg n01, X4.rf, if_pos rfl]
      · rw [X5.rf, if_pos rfl]
      · rw [X5.rf, if_neg n12, X4.rf, if_neg n02]; show A1.rawF _ = _; rw [X1.rf, if_neg n12]; exact Q.r2
      · show o.b = t + 1 + (xs.dropLast.length : Int); rw [dl]; omega
      · rw [X5.st, X4.st, st_later', X1.st]; exact Q.hs
      · rw [dl]; show ((xs.length - 1 : Nat) : Int) ≤ sizeF (opC o.h); omega
      · rw [dl] at hj; omega
      · rw [X5.rf, if_neg h1, X4.rf, if_neg h0]; show A1.rawF _ = _; rw [X1.rf, if_neg h1]
      · rw [if_pos h1l]; omega
      · refine .more (x1 := ⟨{ o with b := o.b - 1 }, 0, 1, 0, false⟩) (D1 := A1) (by exact iv o.b 0 0 0 false A) s0 X1.us' rfl (.more (by exact iv _ _ _ _ _ _) s1 (lu (by omega) (by omega)) rfl (.more (by exact iv _ _ _ _ _ _) s2 u2 rfl (.more (by exact iv _ _ _ _ _ _) s3 (by rw [us4]; show A1.uses + 2 + 1 ≤ w64 (A1.uses + 2 + 1); rw [w64_in (by omega) (by omega)]; omega) rfl (.one (by exact iv _ _ _ _ _ _) ?_ X5.us' rfl))))
        show ((⟨{ o with b := w64 (o.b - 1 + 1) }, t, 5, xs.getD (xs.length - 1) 0, true⟩ : Pp), A4.storeR (dw o.at_ o.work 1) (w64 (o.b - 1 + 1))) = _
        rw [e2]
end
def sumF (f : Nat → Int) : Nat → Int
  | 0 => 0
  | n + 1 => sumF f n + f n
theorem sumF_of {f h : Nat → Int} : ∀ {n : Nat}, (∀ i, i < n → f i = h i) → sumF f n = sumF h n
  | 0, _ => rfl
  | n + 1, e => by show sumF f n + f n = sumF h n + h n; rw [sumF_of (n := n) fun i hi => e i (by omega), e n (by omega)]
theorem sumF_upd {α : Type} (h : α → Int) (f : Nat → α) {w : Nat} (a : α) : ∀ {n : Nat}, w < n → sumF (fun j => h (updF f w a j)) n = sumF (fun j => h (f j)) n - h (f w) + h a
  | 0, e => by omega
  | n + 1, e => by
    show sumF _ n + h (updF f w a n) = sumF _ n + h (f n) - _ + _
    by_cases e2 : n = w
    · rw [sumF_of (h := fun j => h (f j)) fun i hi => by rw [updF_ne f a (by omega)], e2, updF_same]; omega
    · rw [sumF_upd h f a (n := n) (by omega), updF_ne f a e2]; omega
theorem sumF_le {f : Nat → Int} (h0 : ∀ i, 0 ≤ f i) {w : Nat} : ∀ {n : Nat}, w < n → f w ≤ sumF f n
  | 0, e => by omega
  | n + 1, e => by
    have nn : ∀ k, 0 ≤ sumF f k := fun k => by
      induction k with
      | zero => exact Int.le_refl 0
      | succ k ih => have := h0 k; show 0 ≤ sumF f k + f k; omega
    have := nn n
    have := h0 n
    show f w ≤ sumF f n + f n
    by_cases e2 : n = w
    · rw [e2] at this ⊢; have := nn w; omega
    · have := sumF_le h0 (n := n) (w := w) (by omega); omega
structure Dq where
  o : DOw
  t : Int
  xs : List Int
  ob : Nat
structure DI (A : Ar) (g : Gd) (m : Int) (S : Sg) (l : Int → List (Int × Int)) (at_ : Int) (n : Nat) (ex : Int) (f : Nat → Dq) : Prop where
  gi : GI A g m S l
  da : DA A g at_
  nw : (n : Int) ≤ g.w
  dq : ∀ i, i < n → DQ A (f i).o (f i).t (f i).xs
  oa : ∀ i, i < n → (f i).o.at_ = at_
  ow : ∀ i : Nat, i < n → (f i).o.work = i
  op : ∀ i, i < n → (f i).o.pl = g.pl
  ne : ∀ i j, i < n → j < n → i ≠ j → (f i).o.h ≠ (f j).o.h
  nL : A.nL = sumF (fun i => sizeF (opC (f i).o.h)) n + ex
  ex0 : 0 ≤ ex
  ll : ∀ i : Nat, i < n → ((l i).length : Int) ≤ opC (f i).o.h
  tu : ∀ i, i < n → (f i).t ≤ A.uses
  cv : S.cv ≤ sumF (fun i => 2 * sizeF (opC (f i).o.h) - 8) n + ex
section
variable {A B C : Ar} {g : Gd} {m : Int} {S S' : Sg} {l l' : Int → List (Int × Int)} {k h i v t at_ ex : Int} {q mq ob : Nat} {n : Nat} {o : DOw} {xs : List Int} {f : Nat → Dq}
theorem DQ.move (Q : DQ A o t xs) (h0 : ∀ k : Int, 0 ≤ k → k < 3 → B.rawF (dw o.at_ o.work k) = A.rawF (dw o.at_ o.work k)) (h1 : B.stF o.h = 1) (h2 : ∀ j, B.loadF o.h j = A.loadF o.h j) : DQ B o t xs :=
  ⟨(h0 0 (by decide) (by decide)).trans Q.r0, (h0 1 (by decide) (by decide)).trans Q.r1, (h0 2 (by decide) (by decide)).trans Q.r2, Q.bt, Q.tb, h1, Q.ln, fun j hj => (h2 _).trans (Q.ld j hj)⟩
theorem lo_all (hst : B.stF h = A.stF h) (hl : ∀ i, A.inOk h i → B.loadF h i = A.loadF h i) : ∀ i, B.loadF h i = A.loadF h i := fun i => by
  by_cases hi : A.inOk h i
  · exact hl i hi
  · unfold Ar.loadF
    rw [if_neg hi, if_neg (fun hb : B.inOk h i => hi ⟨by rw [← hst]; exact hb.1, hb.2⟩)]
theorem DI.put (E : DI A g m S l at_ n ex f) {w : Nat} (hw : w < n) {x : Dq} (G : GI B g m S' l') (rl : B.raw.length = A.raw.length) (D : DQ B x.o x.t x.xs) (oa : x.o.at_ = at_) (ow : x.o.work = w) (op : x.o.pl = g.pl)
    (ne : ∀ j, j < n → j ≠ w → x.o.h ≠ (f j).o.h) (nL : B.nL = A.nL - sizeF (opC (f w).o.h) + sizeF (opC x.o.h)) (ll : ((l' w).length : Int) ≤ opC x.o.h) (lo : ∀ j : Int, j ≠ w → l' j = l j) (tu : x.t ≤ B.uses) (us : A.uses ≤ B.uses)
    (cv : S'.cv ≤ S.cv + 2 * sizeF (opC x.o.h) - 2 * sizeF (opC (f w).o.h))
    (ot : ∀ j, j < n → j ≠ w → B.stF (f j).o.h = 1 ∧ ∀ i, B.loadF (f j).o.h i = A.loadF (f j).o.h i)
    (rf : ∀ i, g.pl.carved < i → i ≠ g.ta → i ≠ dw at_ w 0 → i ≠ dw at_ w 1 → i ≠ dw at_ w 2 → B.rawF i = A.rawF i) : DI B g m S' l' at_ n ex (updF f w x) := by
  have cases : ∀ {P : Dq → Nat → Prop}, P x w → (∀ j, j < n → j ≠ w → P (f j) j) → ∀ j, j < n → P (updF f w x j) j := fun {P} h1 h2 j hj => by
    by_cases e : j = w
    · rw [e, updF_same]; exact h1
    · rw [updF_ne f x e]; exact h2 j hj e
  refine ⟨G, ⟨E.da.lo, by rw [rl]; exact E.da.hi⟩, E.nw, ?_, ?_, ?_, ?_, fun i j hi hj hij => ?_, ?_, ?_, ?_, ?_, ?_⟩
  · refine cases (P := fun x _ => DQ B x.o x.t x.xs) D fun j hj e => ?_
    obtain ⟨o1, o2⟩ := ot j hj e
    refine (E.dq j hj).move (fun k k0 k1 => ?_) o1 o2
    have wj := E.ow j hj
    have aj := E.oa j hj
    have hjw : (0 : Int) ≤ (f j).o.work ∧ (f j).o.work < g.w := by have := E.nw; omega
    obtain ⟨d1, d2, d3, d4⟩ := dw_in (o := (f j).o) E.gi (by rw [aj]; exact E.da) hjw k0 k1
    refine rf _ d1 (by omega) ?_ ?_ ?_
    all_goals (unfold dw; omega)
  · exact cases (P := fun x _ => x.o.at_ = at_) oa fun j hj _ => E.oa j hj
  · exact cases (P := fun x j => x.o.work = j) ow fun j hj _ => E.ow j hj
  · exact cases (P := fun x _ => x.o.pl = g.pl) op fun j hj _ => E.op j hj
  · by_cases ei : i = w
    · have ej : j ≠ w := by omega
      rw [ei, updF_same, updF_ne f x ej]; exact ne j hj ej
    · by_cases ej : j = w
      · rw [ej, updF_same, updF_ne f x ei]; exact fun e => ne i hi ei e.symm
      · rw [updF_ne f x ei, updF_ne f x ej]; exact E.ne i j hi hj hij
  · rw [sumF_upd (fun x : Dq => sizeF (opC x.o.h)) f x hw, nL, E.nL]; omega
  · exact E.ex0
  · refine cases (P := fun x j => ((l' (j : Int)).length : Int) ≤ opC x.o.h) ll fun j hj e => ?_
    rw [lo j (by omega)]; exact E.ll j hj
  · refine cases (P := fun x _ => x.t ≤ B.uses) tu fun j hj _ => ?_
    have := E.tu j hj; omega
  · rw [sumF_upd (fun x : Dq => 2 * sizeF (opC x.o.h) - 8) f x hw]
    have := E.cv
    show S'.cv ≤ sumF _ n - (2 * sizeF (opC (f w).o.h) - 8) + (2 * sizeF (opC x.o.h) - 8) + ex
    omega
structure DIat (E : Prop) (A : Ar) (g : Gd) (x : Dq) (w : Nat) (n : Nat) : Prop where
  wh : 0 ≤ x.o.work ∧ x.o.work < g.w
  da : DA A g x.o.at_
  hs : A.stF x.o.h = 1
  lb : (x.xs.length : Int) ≤ 64
  sz : sizeF (opC x.o.h) ≤ A.nL
theorem DI.ati (E : DI A g m S l at_ n ex f) {w : Nat} (hw : w < n) : DIat True A g (f w) w n := by
  have ow := E.ow w hw
  have nw := E.nw
  refine ⟨⟨by omega, by omega⟩, by rw [E.oa w hw]; exact E.da, (E.dq w hw).hs, ?_, ?_⟩
  · have := (E.dq w hw).ln; have := sz_op (f w).o.h; omega
  · have e0 := E.ex0
    have h : sizeF (opC (f w).o.h) ≤ sumF (fun i => sizeF (opC (f i).o.h)) n := sumF_le (f := fun i => sizeF (opC (f i).o.h)) (fun i => by have := sz_op (f i).o.h; show 0 ≤ sizeF (opC (f i).o.h); omega) hw
    rw [E.nL]; omega
structure PushY (A : Ar) (g : Gd) (m : Int) (S : Sg) (l : Int → List (Int × Int)) (at_ : Int) (n : Nat) (ex : Int) (f : Nat → Dq) (w : Nat) (v : Int) (q mq ob N : Nat) (B : Ar) (S' : Sg) (l' : Int → List (Int × Int)) (o' : DOw) (al : Option Al) (cp : Option Cm) (now : Int) : Prop where
  di : DI B g m S' l' at_ n ex (updF f w ⟨o', (f w).t, (f w).xs ++ [v], (f w).ob⟩)
  run : (mPs q mq ob).Runs N ⟨g, l, (f w).o, v, 0, 0, none, none, none, 0, false⟩ A ⟨g, l', o', v, (f w).t, 7, al, cp, none, now, true⟩ B
  hn : N ≤ 4000
  al : Ar.Alike A B
  us : A.uses ≤ B.uses ∧ B.uses ≤ A.uses + 1500
  or : (((f w).xs.length : Int) < sizeF (opC (f w).o.h) ∧ o' = { (f w).o with b := (f w).o.b + 1 } ∧ S' = S ∧ l' = l ∧ B.uses = A.uses + 3 ∧ (∀ h, B.stF h = A.stF h) ∧ ∀ h i, h ≠ (f w).o.h → B.loadF h i = A.loadF h i) ∨
    (((f w).xs.length : Int) = sizeF (opC (f w).o.h) ∧ opC (f w).o.h < 3 ∧ opC o'.h = opC (f w).o.h + 1 ∧ B.stF (f w).o.h ≠ 1 ∧ (∀ j, j ≠ o'.h → B.stF j = 1 → A.stF j = 1) ∧ ((∃ k, S.ch k ≠ []) ∨ S.cv + sizeF (opC (f w).o.h + 1) ≤ m))
structure PushN (A : Ar) (g : Gd) (m : Int) (S : Sg) (l : Int → List (Int × Int)) (at_ : Int) (n : Nat) (ex : Int) (f : Nat → Dq) (w : Nat) (v : Int) (q mq ob N : Nat) (B : Ar) (al : Option Al) : Prop where
  di : DI B g m S l at_ n ex f
  run : (mPs q mq ob).Runs N ⟨g, l, (f w).o, v, 0, 0, none, none, none, 0, false⟩ A ⟨g, l, (f w).o, v, (f w).t, 7, al, none, none, 0, false⟩ B
  hn : N ≤ 4000
  al : Ar.Alike A B
  us : A.uses ≤ B.uses ∧ B.uses ≤ A.uses + 1500
  full : ((f w).xs.length : Int) = sizeF (opC (f w).o.h)
  why : opC (f w).o.h = 3 ∨ (opC (f w).o.h < 3 ∧ m < S.cv + sizeF (opC (f w).o.h + 1))
  st : ∀ h, B.stF h = A.stF h
theorem updF_id {α : Type} (f : Nat → α) (w : Nat) : updF f w (f w) = f := by
  funext j; unfold updF; split
  · rename_i e; rw [e]
  · rfl
theorem DI.push (E : DI A g m S l at_ n ex f) {w : Nat} (hw : w < n) (hu : A.uses ≤ 600000) (th : 1 ≤ g.th) (v : Int) (q mq ob : Nat) :
    (∃ N B S' l' o' al cp now, PushY A g m S l at_ n ex f w v q mq ob N B S' l' o' al cp now) ∨ ∃ N B al, PushN A g m S l at_ n ex f w v q mq ob N B al := by
  obtain ⟨wh, da, hs, lb, sz⟩ := E.ati hw
  have X := E.gi
  have u0 := X.u0
  have Q := E.dq w hw
  have ow := E.ow w hw
  have oa := E.oa w hw
  have op := E.op w hw
  have so := sz_op (f w).o.h
  have oc := opC_nat (f w).o.h
  have tu := E.tu w hw
  have ln := Q.ln
  have ll0 : ((l (f w).o.work).length : Int) ≤ opC (f w).o.h := by rw [ow]; exact E.ll w hw
  by_cases hr : ((f w).xs.length : Int) < sizeF (opC (f w).o.h)
  · obtain ⟨B, P, bu, r⟩ := push_room (q := q) (mq := mq) (ob := ob) (v := v) X da wh (by omega) (by omega) Q hr
    refine .inl ⟨3, B, S, l, { (f w).o with b := (f w).o.b + 1 }, none, none, 0, ?_, r, by decide, P.al, ⟨by omega, by omega⟩, .inl ⟨hr, rfl, rfl, rfl, bu, P.st, fun h i hne => lo_all (P.st _) (fun i hi => P.lo _ i hi hne) i⟩⟩
    refine E.put hw (x := ⟨{ (f w).o with b := (f w).o.b + 1 }, (f w).t, (f w).xs ++ [v], (f w).ob⟩) P.gi P.rl P.dq oa ow op (fun j hj e => E.ne w j hw hj (fun h => e h.symm)) (by rw [P.nL]; show _ = A.nL - sizeF (opC (f w).o.h) + sizeF (opC (f w).o.h); omega) (by rw [← ow]; exact ll0) (fun _ _ => rfl) (by show (f w).t ≤ _; omega) (by omega) (by show S.cv ≤ S.cv + 2 * sizeF (opC (f w).o.h) - 2 * sizeF (opC (f w).o.h); omega) (fun j hj e => ?_) (fun i hi hn h0 h1 h2 => P.rf i (by rw [oa, ow]; exact h1))
    have hne := E.ne j w hj hw e
    exact ⟨by rw [P.st]; exact (E.dq j hj).hs, lo_all (P.st _) fun i hi => P.lo _ i hi hne⟩
  · have hr' : sizeF (opC (f w).o.h) ≤ ((f w).xs.length : Int) := by omega
    by_cases hc : opC (f w).o.h < 3
    · rcases push_grow (q := q) (mq := mq) (ob := ob) (v := v) X da wh op (by omega) (by omega) th sz Q hr' hc with ⟨h2, N, B, l', S', al, cp, GR, hN, r⟩ | ⟨hm, N, B, al, GB, ab, wd, st, rf, nL, rl, u1, u2, hN, r⟩
      · have us := GR.us
        have c2 := GR.c2
        have s2 : sizeF (opC (f w).o.h) * 2 = sizeF (opC h2) := by
          rw [c2]
          have h3 : opC (f w).o.h = 0 ∨ opC (f w).o.h = 1 ∨ opC (f w).o.h = 2 := by omega
          rcases h3 with h | h | h <;> rw [h] <;> rfl
        have gc := GR.cv
        refine .inl ⟨N, B, S', l', { (f w).o with b := (f w).o.b + 1, h := h2 }, al, cp, h2, ?_, r, hN, GR.al, us, .inr ⟨by omega, hc, c2, GR.st, GR.nw, by rw [← c2]; exact GR.gv⟩⟩
        refine E.put hw (x := ⟨{ (f w).o with b := (f w).o.b + 1, h := h2 }, (f w).t, (f w).xs ++ [v], (f w).ob⟩) GR.gi GR.rl GR.dq oa ow op (fun j hj e => ?_) GR.nL ?_ (fun j hj => GR.lk j (by rw [ow]; exact hj)) (by show (f w).t ≤ _; omega) (by omega) ?_ (fun j hj e => ?_) (fun i hi hn h0 h1 h2 => GR.rf i hi hn (by rw [oa, ow]; exact h1) (by rw [oa, ow]; exact h2))
        · show h2 ≠ _
          intro e2
          have a := (E.dq j hj).hs
          have b := GR.n2
          rw [e2, a] at b; cases b
        · have := GR.ll
          rw [ow] at this
          show ((l' (w : Int)).length : Int) ≤ opC h2
          rw [ow] at ll0; omega
        · show S'.cv ≤ S.cv + 2 * sizeF (opC h2) - 2 * sizeF (opC (f w).o.h); omega
        · have hne := E.ne j w hj hw e
          have a := (E.dq j hj).hs
          exact ⟨GR.ot _ hne a, fun i => GR.lo _ i hne a⟩
      · refine .inr ⟨N, B, al, ?_, r, hN, ab, ⟨u1, by omega⟩, by omega, .inr ⟨hc, hm⟩, st⟩
        have lf : ∀ h i, B.loadF h i = A.loadF h i := fun h i => loadF_same wd (st h)
        have := E.put hw (x := f w) (S' := S) (l' := l) GB rl (Q.move (fun k k0 k1 => rf _ (dw_in (o := (f w).o) X da wh k0 k1).1) (by rw [st]; exact hs) (lf _)) oa ow op (fun j hj e => E.ne w j hw hj (fun h => e h.symm)) (by rw [nL]; omega) (E.ll w hw) (fun _ _ => rfl) (by omega) u1 (by omega) (fun j hj e => ⟨by rw [st]; exact (E.dq j hj).hs, lf _⟩) (fun i hi _ _ _ _ => rf i hi)
        rw [updF_id] at this; exact this
    · have r := push_full (q := q) (mq := mq) (ob := ob) (v := v) X da wh (by omega) (by omega) Q hr' (by omega)
      refine .inr ⟨1, A.later 1, none, ?_, r, by decide, later_alike A 1, ⟨by show A.uses ≤ A.uses + 1; omega, by show A.uses + 1 ≤ _; omega⟩, by omega, .inl (by omega), fun h => st_later' A 1 h⟩
      have := E.put hw (x := f w) (S' := S) (l' := l) (X.later (n := 1) (by decide)) rfl (Q.later 1) oa ow op (fun j hj e => E.ne w j hw hj (fun h => e h.symm)) (by show A.nL = _; omega) (E.ll w hw) (fun _ _ => rfl) (by show _ ≤ A.uses + 1; omega) (by show A.uses ≤ A.uses + 1; omega) (by omega) (fun j hj e => ⟨by rw [st_later']; exact (E.dq j hj).hs, fun i => ld_later' A 1 _ i⟩) (fun i _ _ _ _ _ => rfl)
      rw [updF_id] at this; exact this
structure PopD (A : Ar) (g : Gd) (m : Int) (S : Sg) (l : Int → List (Int × Int)) (at_ : Int) (n : Nat) (ex : Int) (f : Nat → Dq) (w : Nat) (q ob N : Nat) (B : Ar) (x : Dq) (v : Int) (ok : Bool) : Prop where
  di : DI B g m S l at_ n ex (updF f w x)
  run : (mPp q ob).toR.Runs N ⟨(f w).o, 0, 0, 0, false⟩ A ⟨x.o, (f w).t, 5, v, ok⟩ B
  hn : N ≤ 4000
  al : Ar.Alike A B
  us : B.uses = A.uses + (if (f w).xs.length = 1 then 5 else 3)
  xs : x.xs = (f w).xs.dropLast
  ob : x.ob = (f w).ob
  oh : x.o.h = (f w).o.h
  hk : ok = decide (0 < (f w).xs.length)
  hv : 0 < (f w).xs.length → v = (f w).xs.getD ((f w).xs.length - 1) 0
  st : ∀ h, B.stF h = A.stF h
  lf : ∀ h j, B.loadF h j = A.loadF h j
theorem DI.pop (E : DI A g m S l at_ n ex f) {w : Nat} (hw : w < n) (hu : A.uses ≤ 600000) (q ob : Nat) : ∃ N B x v ok, PopD A g m S l at_ n ex f w q ob N B x v ok := by
  obtain ⟨wh, da, hs, lb, sz⟩ := E.ati hw
  have X := E.gi
  have Q := E.dq w hw
  have ow := E.ow w hw
  have oa := E.oa w hw
  have op := E.op w hw
  have tu := E.tu w hw
  obtain ⟨N, B, b', t', v, ok, P, hN, h1, h2, h3, h4, r⟩ := pop_run (q := q) (ob := ob) X da wh (by omega) (by omega) Q
  have us := P.us
  have ub : A.uses + 3 ≤ B.uses := by rw [us]; split <;> omega
  refine ⟨N, B, ⟨{ (f w).o with b := b' }, t', (f w).xs.dropLast, (f w).ob⟩, v, ok, ?_, r, by omega, P.al, us, rfl, rfl, rfl, h3, h4, P.st, P.lf⟩
  refine E.put hw (x := ⟨{ (f w).o with b := b' }, t', (f w).xs.dropLast, (f w).ob⟩) (S' := S) (l' := l) P.gi P.rl P.dq oa ow op (fun j hj e => E.ne w j hw hj (fun h => e h.symm)) (by rw [P.nL]; show _ = A.nL - sizeF (opC (f w).o.h) + sizeF (opC (f w).o.h); omega) (E.ll w hw) (fun _ _ => rfl) (by show t' ≤ _; omega) (by omega) (by show S.cv ≤ S.cv + 2 * sizeF (opC (f w).o.h) - 2 * sizeF (opC (f w).o.h); omega) (fun j hj e => ⟨by rw [P.st]; exact (E.dq j hj).hs, P.lf _⟩) (fun i hi hn h0 h1 h2 => P.rf i (by rw [oa, ow]; exact h0) (by rw [oa, ow]; exact h1))
theorem DI.later (E : DI A g m S l at_ n ex f) {k : Int} (hk : 0 ≤ k) : DI (A.later k) g m S l at_ n ex f :=
  ⟨E.gi.later hk, ⟨E.da.lo, E.da.hi⟩, E.nw, fun i hi => (E.dq i hi).later k, E.oa, E.ow, E.op, E.ne, E.nL, E.ex0, E.ll, fun i hi => by have := E.tu i hi; show _ ≤ A.uses + k; omega, E.cv⟩
structure DM (A : Ar) (g : Gd) (m : Int) (S : Sg) (at_ : Int) (n : Nat) (ex : Int) (f : Nat → Dq) : Prop where
  di : DI A g m S (fun _ => []) at_ n ex f
  ch : ∀ k, S.ch k = []
  cv : S.cv = 8 * n
  rz : ∀ i, at_ + 3 * n ≤ i → A.rawF i = 0
  em : ∀ i, i < n → (f i).xs = [] ∧ (f i).t = 0 ∧ (f i).o.b = 0 ∧ opC (f i).o.h = 0
  us : A.uses ≤ 200 * n
structure Born (A : Ar) (g : Gd) (m : Int) (S : Sg) (at_ : Int) (n : Nat) (ex : Int) (f : Nat → Dq) (N : Nat) (x : Al) (B : Ar) (S' : Sg) : Prop where
  run : mAl.Runs N (newAl g.pl n 0) A x B
  hn : N ≤ 4000
  al : Ar.Alike A B
  wf : B.wf
  al2 : Ar.Alike A (B.storeR (dw at_ n 2) x.h)
  hx : x.h ≠ 0
  dm : ∀ ob, DM (B.storeR (dw at_ n 2) x.h) g m S' at_ (n + 1) ex (updF f n ⟨⟨at_, n, 0, x.h, g.pl⟩, 0, [], ob⟩)
theorem DM.born (M : DM A g m S at_ n ex f) (hn : (n : Int) < g.w) (hm : 8 * (n : Int) + 8 ≤ m) : ∃ N x B S', Born A g m S at_ n ex f N x B S' := by
  have E := M.di
  have X := E.gi
  have wb := X.wb
  have u0 := X.u0
  have us0 := M.us
  have cv := M.cv
  obtain ⟨N, x, B, S', Z⟩ := X.slot (by omega) (who := n) (c := 0) ⟨by omega, hn⟩ (by decide)
  have hx := Z.nz (by rw [cv]; show 8 * (n : Int) + 8 ≤ m; exact hm)
  have nn := Z.z.nn
  obtain ⟨hc, _, hx0⟩ := Z.z.hd hx
  have off := Z.z.off
  have ou := off.us
  have eS : S'.cv = 8 * (n : Int) + 8 ∧ ∀ k, S'.ch k = [] := by
    obtain ⟨kk, b', l', h1, h2, _⟩ | ⟨h1, h2, h3, h4⟩ | ⟨h1, h2, h3, h4⟩ := Z.z.gives.or
    · rw [M.ch] at h2; cases h2
    · rw [h3]; refine ⟨?_, M.ch⟩; show S.cv + sizeF 0 = _; rw [cv]; rfl
    · exact (hx h4).elim
  have DB : DA B g at_ := ⟨E.da.lo, by rw [off.rl]; exact E.da.hi⟩
  have wh : 0 ≤ (⟨at_, n, 0, x.h, g.pl⟩ : DOw).work ∧ (⟨at_, n, 0, x.h, g.pl⟩ : DOw).work < g.w := ⟨by show 0 ≤ (n : Int); omega, hn⟩
  have T := Z.gi.bot (o := ⟨at_, n, 0, x.h, g.pl⟩) DB wh (by omega) x.h (k := 2) (by decide) (by decide)
  have tu := T.us
  obtain ⟨C, hC⟩ : ∃ C, C = B.storeR (dw at_ n 2) x.h := ⟨_, rfl⟩
  have T : Bot B g m S' (fun _ => []) (dw at_ n 2) x.h C := by rw [hC]; exact T
  have tu : C.uses = B.uses + 1 := by rw [hC]; exact tu
  refine ⟨N, x, B, S', Z.z.run, by omega, off.al, off.wf, off.al.trans (storeR_alike _ _ _), hx, fun ob => ?_⟩
  rw [← hC]
  have ta0 := X.ta
  have lo0 := E.da.lo
  have hi0 := E.da.hi
  have gw : 1 ≤ gwords g.ep g.w := by unfold gwords; cases g.ep <;> simp <;> omega
  have rC : ∀ i, g.pl.carved < i → i ≠ dw at_ n 2 → C.rawF i = A.rawF i := fun i hi h => by rw [T.rf, if_neg h, off.rw i hi]
  have sC : ∀ j, C.stF j = if j = x.h then 1 else A.stF j := fun j => by
    rw [T.st, Z.z.st]
    by_cases e : j = x.h
    · rw [if_pos ⟨hx, e⟩, if_pos e]
    · rw [if_neg (fun h => e h.2), if_neg e]
  have nx : ∀ j, j < n → (f j).o.h ≠ x.h := fun j hj e => by have := (E.dq j hj).hs; rw [e, hx0] at this; cases this
  have cases : ∀ {P : Dq → Nat → Prop}, P ⟨⟨at_, n, 0, x.h, g.pl⟩, 0, [], ob⟩ n → (∀ j, j < n → P (f j) j) → ∀ j, j < n + 1 → P (updF f n ⟨⟨at_, n, 0, x.h, g.pl⟩, 0, [], ob⟩ j) j := fun {P} h1 h2 j hj => by
    by_cases e : j = n
    · rw [e, updF_same]; exact h1
    · rw [updF_ne f _ e]; exact h2 j (by omega)
  have sums : ∀ F : Dq → Int, sumF (fun j => F (updF f n ⟨⟨at_, n, 0, x.h, g.pl⟩, 0, [], ob⟩ j)) (n + 1) = sumF (fun j => F (f j)) n + F ⟨⟨at_, n, 0, x.h, g.pl⟩, 0, [], ob⟩ := fun F => by
    show sumF _ n + F (updF f n _ n) = _
    rw [updF_same, sumF_of (h := fun j => F (f j)) fun i hi => by rw [updF_ne f _ (by omega)]]
  refine ⟨⟨T.gi, ⟨lo0, by rw [T.rl, off.rl]; exact hi0⟩, by omega, ?_, ?_, ?_, ?_, fun i j hi hj hij => ?_, ?_, ?_, ?_, ?_, ?_⟩, eS.2, by rw [eS.1]; omega, fun i hi => ?_, ?_, ?_⟩
  · refine cases (P := fun x _ => DQ C x.o x.t x.xs) ?_ fun j hj => ?_
    · have s8 : sizeF (opC x.h) = 8 := by rw [hc]; rfl
      refine ⟨?_, ?_, ?_, rfl, (show (0 : Int) ≤ 0 ∧ (0 : Int) ≤ 1000000 by decide), ?_, by show ((0 : Nat) : Int) ≤ sizeF (opC x.h); omega, fun j hj => (by cases hj)⟩
      · show C.rawF (dw at_ n 0) = 0
        rw [rC _ (by unfold dw; omega) (by unfold dw; omega)]; exact M.rz _ (by unfold dw; omega)
      · show C.rawF (dw at_ n 1) = 0
        rw [rC _ (by unfold dw; omega) (by unfold dw; omega)]; exact M.rz _ (by unfold dw; omega)
      · show C.rawF (dw at_ n 2) = x.h
        rw [T.rf, if_pos rfl]
      · show C.stF x.h = 1
        rw [sC, if_pos rfl]
    · have wj := E.ow j hj
      have aj := E.oa j hj
      refine (E.dq j hj).move (fun k k0 k1 => ?_) ?_ (fun i => ?_)
      · rw [aj, wj]
        exact rC _ (by unfold dw; omega) (by unfold dw; omega)
      · rw [sC, if_neg (nx j hj)]; exact (E.dq j hj).hs
      · rw [T.lf]
        refine loadF_same off.wd ?_
        rw [Z.z.st, if_neg (fun h => nx j hj h.2)]
  · exact cases (P := fun x _ => x.o.at_ = at_) rfl E.oa
  · exact cases (P := fun x j => x.o.work = j) rfl E.ow
  · exact cases (P := fun x _ => x.o.pl = g.pl) rfl E.op
  · by_cases ei : i = n
    · have ej : j ≠ n := by omega
      rw [ei, updF_same, updF_ne f _ ej]; exact fun e => nx j (by omega) e.symm
    · by_cases ej : j = n
      · rw [ej, updF_same, updF_ne f _ ei]; exact nx i (by omega)
      · rw [updF_ne f _ ei, updF_ne f _ ej]; exact E.ne i j (by omega) (by omega) hij
  · rw [sums fun x => sizeF (opC x.o.h), T.nL, Z.z.nL, if_pos hx, E.nL]
    show _ = _ + sizeF (opC x.h) + ex; rw [hc]; omega
  · exact E.ex0
  · exact cases (P := fun x j => (((fun _ => []) : Int → List (Int × Int)) (j : Int)).length ≤ opC x.o.h) (by show ((0 : Nat) : Int) ≤ opC x.h; rw [hc]; decide) fun j hj => E.ll j hj
  · refine cases (P := fun x _ => x.t ≤ C.uses) (by show (0 : Int) ≤ C.uses; omega) fun j hj => ?_
    have := E.tu j hj; omega
  · rw [sums fun x => 2 * sizeF (opC x.o.h) - 8]
    have := E.cv
    have s8 : sizeF (opC x.h) = 8 := by rw [hc]; rfl
    show S'.cv ≤ _ + (2 * sizeF (opC x.h) - 8) + ex
    rw [eS.1, s8]; omega
  · rw [rC _ (by omega) (by unfold dw; omega)]; exact M.rz i (by omega)
  · exact cases (P := fun x _ => x.xs = [] ∧ x.t = 0 ∧ x.o.b = 0 ∧ opC x.o.h = 0) ⟨rfl, rfl, rfl, hc⟩ M.em
  · omega
end
noncomputable def t_thief_one_Step (p0 : Value) (p1 : Option Addr) : Tree :=
 .act (opS Tryz.prog (.call { callee := .value (.tmp 0), args := #[(.tmp 1)], argTypes := #[ty_p_arena_Arena] }) ty_unit [p0, (.pointer p1)]) .unit fun _ =>
 .ret (.bool true)
theorem t_thief_one_Step_spec {p0 : Value} {p1 : Option Addr} : SpT f_thief_one_Step #[p0, (.pointer p1)] (t_thief_one_Step p0 p1) := spT tcfg0 Tryz.func152 (by kernel_rfl)
noncomputable def t_thief_New (p0 : Int) (p1 : Option Addr) (p2 : Int) (p3 : Int) (p4 : Int) (p5 : Int) : Tree :=
 .newP (.cells #[(.int .i64 p0), (.pointer p1), (.int .i64 p2), (.int .i64 p3), (.int .i64 p4), (.int .i64 p5), (.slice none 0 0), .nilIface, (.bool false), (.int .i64 0), (.int .i64 0), (.int .i64 0), (.bool false)] ty_thief_Steal) fun x21 =>
 .newS (.cells #[(.func (.func f_thief_Steal_enter) #[(.pointer (some x21))] #[]), (.func (.func f_thief_Steal_reads) #[(.pointer (some x21))] #[]), (.func (.func f_thief_Steal_lasts) #[(.pointer (some x21))] #[]), (.func (.func f_thief_Steal_buffers) #[(.pointer (some x21))] #[]), (.func (.func f_thief_Steal_holds) #[(.pointer (some x21))] #[]), (.func (.func f_thief_Steal_again) #[(.pointer (some x21))] #[]), (.func (.func f_thief_Steal_loads) #[(.pointer (some x21))] #[])] ty_func_thief_machine) 7 fun x37 =>
 lkN (some x21) fun x38 =>
 .st (x38.add 6) (.slice x37.a x37.len x37.cap) <|
 bif (decide ((p4 : Int) > 0)) then (
 lkN (some x21) fun x44 =>
 .ld (x44.add 6) .slice fun x46 =>
 .newS (.cells #[(.func (.func f_thief_Steal_still) #[(.pointer (some x21))] #[]), (.func (.func f_thief_Steal_keeps) #[(.pointer (some x21))] #[]), (.func (.func f_thief_Steal_more) #[(.pointer (some x21))] #[]), (.func (.func f_thief_Steal_keys) #[(.pointer (some x21))] #[])] ty_func_thief_machine) 4 fun x55 =>
 .act (opS Tryz.prog (.call { callee := .builtin .append, args := #[(.tmp 0), (.tmp 1)], argTypes := #[ty_s_func_thief_machine, ty_s_func_thief_machine] }) ty_s_func_thief_machine [(.slice x46.a x46.len x46.cap), (.slice x55.a x55.len x55.cap)]) (.one (.leaf .slice)) fun x56 =>
 lkN (some x21) fun x57 =>
 .st (x57.add 6) (.slice x56.a x56.len x56.cap) <|
 lkN (some x21) fun x61 =>
 .ld (x61.add 6) .slice fun x63 =>
 .newS (.cells #[(.func (.func f_thief_Steal_takes) #[(.pointer (some x21))] #[])] ty_func_thief_machine) 1 fun x66 =>
 .act (opS Tryz.prog (.call { callee := .builtin .append, args := #[(.tmp 0), (.tmp 1)], argTypes := #[ty_s_func_thief_machine, ty_s_func_thief_machine] }) ty_s_func_thief_machine [(.slice x63.a x63.len x63.cap), (.slice x66.a x66.len x66.cap)]) (.one (.leaf .slice)) fun x67 =>
 lkN (some x21) fun x68 =>
 .st (x68.add 6) (.slice x67.a x67.len x67.cap) <|
 .ret (.pointer (some x21)))
 else (
 lkN (some x21) fun x61 =>
 .ld (x61.add 6) .slice fun x63 =>
 .newS (.cells #[(.func (.func f_thief_Steal_takes) #[(.pointer (some x21))] #[])] ty_func_thief_machine) 1 fun x66 =>
 .act (opS Tryz.prog (.call { callee := .builtin .append, args := #[(.tmp 0), (.tmp 1)], argTypes := #[ty_s_func_thief_machine, ty_s_func_thief_machine] }) ty_s_func_thief_machine [(.slice x63.a x63.len x63.cap), (.slice x66.a x66.len x66.cap)]) (.one (.leaf .slice)) fun x67 =>
 lkN (some x21) fun x68 =>
 .st (x68.add 6) (.slice x67.a x67.len x67.cap) <|
 .ret (.pointer (some x21)))
theorem t_thief_New_spec {p0 : Int} {p1 : Option Addr} {p2 : Int} {p3 : Int} {p4 : Int} {p5 : Int} : SpT f_thief_New #[(.int .i64 p0), (.pointer p1), (.int .i64 p2), (.int .i64 p3), (.int .i64 p4), (.int .i64 p5)] (t_thief_New p0 p1 p2 p3 p4 p5) := spT tcfg0 Tryz.func16 (by kernel_rfl)
noncomputable def t_thief_Steal_word (p0 : Option Addr) (p1 : Option Addr) (p2 : Int) : Tree :=
 lkN p0 fun x9 =>
 .ld x9 (.int .i64) fun x11 =>
 lkN p0 fun x13 =>
 .ld (x13.add 3) (.int .i64) fun x15 =>
 .qcall f_deque_Word [(.int .i64 x11), (.int .i64 x15), (.int .i64 p2)] (.one (.leaf (.int .i64))) fun x17 =>
 .call f_arena_Arena_Raw [(.pointer p1), (.int .i64 x17)] (.one (.leaf (.int .i64))) fun x18 =>
 .ret (.int .i64 x18)
theorem t_thief_Steal_word_spec {p0 : Option Addr} {p1 : Option Addr} {p2 : Int} : SpT f_thief_Steal_word #[(.pointer p0), (.pointer p1), (.int .i64 p2)] (t_thief_Steal_word p0 p1 p2) := spT tcfg0 Tryz.func81 (by kernel_rfl)
noncomputable def t_thief_Steal_none (p0 : Option Addr) : Tree :=
 lkN p0 fun x3 =>
 .st (x3.add 6) (.slice none 0 0) <|
 .ret (.tuple #[])
theorem t_thief_Steal_none_spec {p0 : Option Addr} : SpT f_thief_Steal_none #[(.pointer p0)] (t_thief_Steal_none p0) := spT tcfg0 Tryz.func83 (by kernel_rfl)
noncomputable def t_thief_Steal_kept (p0 : Option Addr) (p1 : Int) (p2 : Int) : Tree :=
 lkN p0 fun x9 =>
 .ld (x9.add 1) .ptr fun x11 =>
 lkN p0 fun x13 =>
 .ld (x13.add 2) (.int .i64) fun x15 =>
 .call f_guard_Guard_Protect [(.pointer x11), (.int .i64 x15), (.int .i64 p1), (.int .i64 p2)] (.one (.leaf .val)) fun x18 =>
 .look (opS Tryz.prog (.binOp .neq ty_guard_Machine (.tmp 0) (.const .nilIface) ty_guard_Machine) ty_bool [x18]) (.one (.leaf .bool)) fun x20 =>
 bif x20 then (
 .ret x18)
 else (
 .ret .nilIface)
theorem t_thief_Steal_kept_spec {p0 : Option Addr} {p1 : Int} {p2 : Int} : SpT f_thief_Steal_kept #[(.pointer p0), (.int .i64 p1), (.int .i64 p2)] (t_thief_Steal_kept p0 p1 p2) := spT tcfg0 Tryz.func85 (by kernel_rfl)
noncomputable def t_thief_Steal_enter (p0 : Option Addr) : Tree :=
 lkN p0 fun x5 =>
 .ld (x5.add 1) .ptr fun x7 =>
 lkN p0 fun x9 =>
 .ld (x9.add 2) (.int .i64) fun x11 =>
 .call f_guard_Guard_Enter [(.pointer x7), (.int .i64 x11)] (.one (.leaf .val)) fun x12 =>
 .look (opS Tryz.prog (.binOp .neq ty_guard_Machine (.tmp 0) (.const .nilIface) ty_guard_Machine) ty_bool [x12]) (.one (.leaf .bool)) fun x14 =>
 bif x14 then (
 .ret x12)
 else (
 .ret .nilIface)
theorem t_thief_Steal_enter_spec {p0 : Option Addr} : SpT f_thief_Steal_enter #[(.pointer p0)] (t_thief_Steal_enter p0) := spT tcfg0 Tryz.func45 (by kernel_rfl)
noncomputable def t_thief_Steal_reads (p0 : Option Addr) : Tree :=
 .newP (.cells #[(.pointer p0)] ty_p_thief_Steal) fun x1 =>
 .ret (.iface ty_thief_one (.func (.func f_thief_Steal_reads_1) #[] #[(.pointer (some x1))]))
theorem t_thief_Steal_reads_spec {p0 : Option Addr} : SpT f_thief_Steal_reads #[(.pointer p0)] (t_thief_Steal_reads p0) := spT tcfg0 Tryz.func46 (by kernel_rfl)
noncomputable def t_thief_Steal_reads_1 (p0 : Option Addr) (c0 : Addr) : Tree :=
 .ld c0 .ptr fun x3 =>
 .ld c0 .ptr fun x4 =>
 .call f_thief_Steal_word [(.pointer x4), (.pointer p0), (.int .i64 0)] (.one (.leaf (.int .i64))) fun x6 =>
 .check (ldS c0) (.pointer x3) <|
 lkN x3 fun x7 =>
 .st (x7.add 9) (.int .i64 x6) <|
 .ret (.tuple #[])
theorem t_thief_Steal_reads_1_spec {p0 : Option Addr} {c0 : Addr} : SpT f_thief_Steal_reads_1 #[(.pointer p0), (.pointer (some c0))] (t_thief_Steal_reads_1 p0 c0) := spT tcfg0 Tryz.func80 (by kernel_rfl)
noncomputable def t_thief_Steal_lasts (p0 : Option Addr) : Tree :=
 .newP (.cells #[(.pointer p0)] ty_p_thief_Steal) fun x1 =>
 .ret (.iface ty_thief_one (.func (.func f_thief_Steal_lasts_1) #[] #[(.pointer (some x1))]))
theorem t_thief_Steal_lasts_spec {p0 : Option Addr} : SpT f_thief_Steal_lasts #[(.pointer p0)] (t_thief_Steal_lasts p0) := spT tcfg0 Tryz.func47 (by kernel_rfl)
noncomputable def t_thief_Steal_lasts_1 (p0 : Option Addr) (c0 : Addr) : Tree :=
 .ld c0 .ptr fun x3 =>
 .ld c0 .ptr fun x6 =>
 lkN x6 fun x7 =>
 .ld (x7.add 9) (.int .i64) fun x9 =>
 .call f_thief_Steal_word [(.pointer x3), (.pointer p0), (.int .i64 1)] (.one (.leaf (.int .i64))) fun x5 =>
 .check (ldS (x7.add 9)) (.int .i64 x9) <|
 .check (nck x6) (.pointer (some x7)) <|
 .check (ldS c0) (.pointer x6) <|
 bif (decide ((x5 : Int) ≤ x9)) then (
 .ld c0 .ptr fun x11 =>
 .call f_thief_Steal_none [(.pointer x11)] .unit fun _ =>
 .ret (.tuple #[]))
 else (
 .ret (.tuple #[]))
theorem t_thief_Steal_lasts_1_spec {p0 : Option Addr} {c0 : Addr} : SpT f_thief_Steal_lasts_1 #[(.pointer p0), (.pointer (some c0))] (t_thief_Steal_lasts_1 p0 c0) := spT tcfg0 Tryz.func82 (by kernel_rfl)
noncomputable def t_thief_Steal_buffers (p0 : Option Addr) : Tree :=
 .newP (.cells #[(.pointer p0)] ty_p_thief_Steal) fun x1 =>
 .ret (.iface ty_thief_one (.func (.func f_thief_Steal_buffers_1) #[] #[(.pointer (some x1))]))
theorem t_thief_Steal_buffers_spec {p0 : Option Addr} : SpT f_thief_Steal_buffers #[(.pointer p0)] (t_thief_Steal_buffers p0) := spT tcfg0 Tryz.func48 (by kernel_rfl)
noncomputable def t_thief_Steal_buffers_1 (p0 : Option Addr) (c0 : Addr) : Tree :=
 .ld c0 .ptr fun x3 =>
 .ld c0 .ptr fun x4 =>
 .call f_thief_Steal_word [(.pointer x4), (.pointer p0), (.int .i64 2)] (.one (.leaf (.int .i64))) fun x6 =>
 .check (ldS c0) (.pointer x3) <|
 lkN x3 fun x7 =>
 .st (x7.add 10) (.int .i64 x6) <|
 .ret (.tuple #[])
theorem t_thief_Steal_buffers_1_spec {p0 : Option Addr} {c0 : Addr} : SpT f_thief_Steal_buffers_1 #[(.pointer p0), (.pointer (some c0))] (t_thief_Steal_buffers_1 p0 c0) := spT tcfg0 Tryz.func84 (by kernel_rfl)
noncomputable def t_thief_Steal_holds (p0 : Option Addr) : Tree :=
 lkN p0 fun x5 =>
 .ld (x5.add 10) (.int .i64) fun x7 =>
 .call f_thief_Steal_kept [(.pointer p0), (.int .i64 0), (.int .i64 x7)] (.one (.leaf .val)) fun x8 =>
 .ret x8
theorem t_thief_Steal_holds_spec {p0 : Option Addr} : SpT f_thief_Steal_holds #[(.pointer p0)] (t_thief_Steal_holds p0) := spT tcfg0 Tryz.func49 (by kernel_rfl)
noncomputable def t_thief_Steal_again (p0 : Option Addr) : Tree :=
 .newP (.cells #[(.pointer p0)] ty_p_thief_Steal) fun x1 =>
 .ld x1 .ptr fun x3 =>
 .ld x1 .ptr fun x4 =>
 lkN x4 fun x5 =>
 .ld (x5.add 10) (.int .i64) fun x7 =>
 .call f_thief_Steal_kept [(.pointer x3), (.int .i64 0), (.int .i64 x7)] (.one (.leaf .val)) fun x8 =>
 .look (opS Tryz.prog (.binOp .eql ty_thief_machine (.tmp 0) (.const .nilIface) ty_thief_machine) ty_bool [x8]) (.one (.leaf .bool)) fun x9 =>
 bif x9 then (
 .ret .nilIface)
 else (
 .ret (.iface ty_thief_one (.func (.func f_thief_Steal_again_1) #[] #[(.pointer (some x1))])))
theorem t_thief_Steal_again_spec {p0 : Option Addr} : SpT f_thief_Steal_again #[(.pointer p0)] (t_thief_Steal_again p0) := spT tcfg0 Tryz.func50 (by kernel_rfl)
noncomputable def t_thief_Steal_again_1 (p0 : Option Addr) (c0 : Addr) : Tree :=
 .ld c0 .ptr fun x3 =>
 .ld c0 .ptr fun x6 =>
 lkN x6 fun x7 =>
 .ld (x7.add 10) (.int .i64) fun x9 =>
 .call f_thief_Steal_word [(.pointer x3), (.pointer p0), (.int .i64 2)] (.one (.leaf (.int .i64))) fun x5 =>
 .check (ldS (x7.add 10)) (.int .i64 x9) <|
 .check (nck x6) (.pointer (some x7)) <|
 .check (ldS c0) (.pointer x6) <|
 bif ((x5 : Int) != x9) then (
 .ld c0 .ptr fun x11 =>
 .call f_thief_Steal_none [(.pointer x11)] .unit fun _ =>
 .ret (.tuple #[]))
 else (
 .ret (.tuple #[]))
theorem t_thief_Steal_again_1_spec {p0 : Option Addr} {c0 : Addr} : SpT f_thief_Steal_again_1 #[(.pointer p0), (.pointer (some c0))] (t_thief_Steal_again_1 p0 c0) := spT tcfg0 Tryz.func86 (by kernel_rfl)
noncomputable def t_thief_Steal_loads (p0 : Option Addr) : Tree :=
 .newP (.cells #[(.pointer p0)] ty_p_thief_Steal) fun x1 =>
 .ret (.iface ty_thief_one (.func (.func f_thief_Steal_loads_1) #[] #[(.pointer (some x1))]))
theorem t_thief_Steal_loads_spec {p0 : Option Addr} : SpT f_thief_Steal_loads #[(.pointer p0)] (t_thief_Steal_loads p0) := spT tcfg0 Tryz.func51 (by kernel_rfl)
noncomputable def t_thief_Steal_loads_1 (p0 : Option Addr) (c0 : Addr) : Tree :=
 .ld c0 .ptr fun x3 =>
 .ld c0 .ptr fun x5 =>
 lkN x5 fun x6 =>
 .ld (x6.add 10) (.int .i64) fun x8 =>
 .ld c0 .ptr fun x9 =>
 lkN x9 fun x10 =>
 .ld (x10.add 10) (.int .i64) fun x12 =>
 .ld c0 .ptr fun x13 =>
 lkN x13 fun x14 =>
 .ld (x14.add 9) (.int .i64) fun x16 =>
 .call f_ring_Word [(.int .i64 x12), (.int .i64 x16)] (.one (.leaf (.int .i64))) fun x17 =>
 .check (ldS (x6.add 10)) (.int .i64 x8) <|
 .check (nck x5) (.pointer (some x6)) <|
 .check (ldS c0) (.pointer x5) <|
 .check (ldS c0) (.pointer x3) <|
 .call f_arena_Arena_Load [(.pointer p0), (.int .i64 x8), (.int .i64 x17)] (.one (.leaf (.int .i64))) fun x18 =>
 .check (ldS c0) (.pointer x3) <|
 lkN x3 fun x19 =>
 .st (x19.add 11) (.int .i64 x18) <|
 .ret (.tuple #[])
theorem t_thief_Steal_loads_1_spec {p0 : Option Addr} {c0 : Addr} : SpT f_thief_Steal_loads_1 #[(.pointer p0), (.pointer (some c0))] (t_thief_Steal_loads_1 p0 c0) := spT tcfg0 Tryz.func87 (by kernel_rfl)
noncomputable def t_thief_Steal_still (p0 : Option Addr) : Tree :=
 .newP (.cells #[(.pointer p0)] ty_p_thief_Steal) fun x1 =>
 .ret (.iface ty_thief_one (.func (.func f_thief_Steal_still_1) #[] #[(.pointer (some x1))]))
theorem t_thief_Steal_still_spec {p0 : Option Addr} : SpT f_thief_Steal_still #[(.pointer p0)] (t_thief_Steal_still p0) := spT tcfg0 Tryz.func52 (by kernel_rfl)
noncomputable def t_thief_Steal_still_1 (p0 : Option Addr) (c0 : Addr) : Tree :=
 .ld c0 .ptr fun x3 =>
 .ld c0 .ptr fun x6 =>
 lkN x6 fun x7 =>
 .ld (x7.add 9) (.int .i64) fun x9 =>
 .call f_thief_Steal_word [(.pointer x3), (.pointer p0), (.int .i64 0)] (.one (.leaf (.int .i64))) fun x5 =>
 .check (ldS (x7.add 9)) (.int .i64 x9) <|
 .check (nck x6) (.pointer (some x7)) <|
 .check (ldS c0) (.pointer x6) <|
 bif ((x5 : Int) != x9) then (
 .ld c0 .ptr fun x11 =>
 .call f_thief_Steal_none [(.pointer x11)] .unit fun _ =>
 .ret (.tuple #[]))
 else (
 .ret (.tuple #[]))
theorem t_thief_Steal_still_1_spec {p0 : Option Addr} {c0 : Addr} : SpT f_thief_Steal_still_1 #[(.pointer p0), (.pointer (some c0))] (t_thief_Steal_still_1 p0 c0) := spT tcfg0 Tryz.func88 (by kernel_rfl)
noncomputable def t_thief_Steal_keeps (p0 : Option Addr) : Tree :=
 lkN p0 fun x5 =>
 .ld (x5.add 11) (.int .i64) fun x7 =>
 .call f_thief_Steal_kept [(.pointer p0), (.int .i64 1), (.int .i64 x7)] (.one (.leaf .val)) fun x8 =>
 .ret x8
theorem t_thief_Steal_keeps_spec {p0 : Option Addr} : SpT f_thief_Steal_keeps #[(.pointer p0)] (t_thief_Steal_keeps p0) := spT tcfg0 Tryz.func53 (by kernel_rfl)
noncomputable def t_thief_Steal_more (p0 : Option Addr) : Tree :=
 lkN p0 fun x5 =>
 .ld (x5.add 11) (.int .i64) fun x7 =>
 .call f_thief_Steal_kept [(.pointer p0), (.int .i64 1), (.int .i64 x7)] (.one (.leaf .val)) fun x8 =>
 .look (opS Tryz.prog (.binOp .eql ty_thief_machine (.tmp 0) (.const .nilIface) ty_thief_machine) ty_bool [x8]) (.one (.leaf .bool)) fun x9 =>
 bif x9 then (
 .ret .nilIface)
 else (
 .call f_thief_Steal_still [(.pointer p0)] (.one (.leaf .val)) fun x11 =>
 .ret x11)
theorem t_thief_Steal_more_spec {p0 : Option Addr} : SpT f_thief_Steal_more #[(.pointer p0)] (t_thief_Steal_more p0) := spT tcfg0 Tryz.func54 (by kernel_rfl)
noncomputable def t_thief_Steal_keys (p0 : Option Addr) : Tree :=
 .newP (.cells #[(.pointer p0)] ty_p_thief_Steal) fun x1 =>
 .ret (.iface ty_thief_one (.func (.func f_thief_Steal_keys_1) #[] #[(.pointer (some x1))]))
theorem t_thief_Steal_keys_spec {p0 : Option Addr} : SpT f_thief_Steal_keys #[(.pointer p0)] (t_thief_Steal_keys p0) := spT tcfg0 Tryz.func55 (by kernel_rfl)
noncomputable def t_thief_Steal_keys_1 (p0 : Option Addr) (c0 : Addr) : Tree :=
 .ld c0 .ptr fun x4 =>
 lkN x4 fun x5 =>
 .ld (x5.add 11) (.int .i64) fun x7 =>
 .ld c0 .ptr fun x8 =>
 lkN x8 fun x9 =>
 .ld (x9.add 5) (.int .i64) fun x11 =>
 .ld c0 .ptr fun x13 =>
 lkN x13 fun x14 =>
 .ld (x14.add 4) (.int .i64) fun x16 =>
 .call f_arena_Arena_Load [(.pointer p0), (.int .i64 x7), (.int .i64 x11)] (.one (.leaf (.int .i64))) fun x12 =>
 .check (ldS (x14.add 4)) (.int .i64 x16) <|
 .check (nck x13) (.pointer (some x14)) <|
 .check (ldS c0) (.pointer x13) <|
 .call f_key_Ahead [(.int .i64 x12), (.int .i64 x16)] (.one (.leaf .bool)) fun x17 =>
 bif (!x17) then (
 .ld c0 .ptr fun x19 =>
 .call f_thief_Steal_none [(.pointer x19)] .unit fun _ =>
 .ret (.tuple #[]))
 else (
 .ret (.tuple #[]))
theorem t_thief_Steal_keys_1_spec {p0 : Option Addr} {c0 : Addr} : SpT f_thief_Steal_keys_1 #[(.pointer p0), (.pointer (some c0))] (t_thief_Steal_keys_1 p0 c0) := spT tcfg0 Tryz.func89 (by kernel_rfl)
noncomputable def t_thief_Steal_takes (p0 : Option Addr) : Tree :=
 .newP (.cells #[(.pointer p0)] ty_p_thief_Steal) fun x1 =>
 .ret (.iface ty_thief_one (.func (.func f_thief_Steal_takes_1) #[] #[(.pointer (some x1))]))
theorem t_thief_Steal_takes_spec {p0 : Option Addr} : SpT f_thief_Steal_takes #[(.pointer p0)] (t_thief_Steal_takes p0) := spT tcfg0 Tryz.func56 (by kernel_rfl)
noncomputable def t_thief_Steal_takes_1 (p0 : Option Addr) (c0 : Addr) : Tree :=
 .ld c0 .ptr fun x3 =>
 .ld c0 .ptr fun x5 =>
 lkN x5 fun x6 =>
 .ld x6 (.int .i64) fun x8 =>
 .ld c0 .ptr fun x9 =>
 lkN x9 fun x10 =>
 .ld (x10.add 3) (.int .i64) fun x12 =>
 .qcall f_deque_Word [(.int .i64 x8), (.int .i64 x12), (.int .i64 0)] (.one (.leaf (.int .i64))) fun x13 =>
 .ld c0 .ptr fun x14 =>
 lkN x14 fun x15 =>
 .ld (x15.add 9) (.int .i64) fun x17 =>
 .ld c0 .ptr fun x18 =>
 lkN x18 fun x19 =>
 .ld (x19.add 9) (.int .i64) fun x21 =>
 .call f_arena_Arena_SwapRaw [(.pointer p0), (.int .i64 x13), (.int .i64 x17), (.int .i64 (w64 (x21 + 1)))] (.one (.leaf .bool)) fun x23 =>
 .check (ldS c0) (.pointer x3) <|
 lkN x3 fun x24 =>
 .st (x24.add 12) (.bool x23) <|
 .ret (.tuple #[])
theorem t_thief_Steal_takes_1_spec {p0 : Option Addr} {c0 : Addr} : SpT f_thief_Steal_takes_1 #[(.pointer p0), (.pointer (some c0))] (t_thief_Steal_takes_1 p0 c0) := spT tcfg0 Tryz.func90 (by kernel_rfl)
@[reducible] def t_thief_Steal_next_L1_sh : List Sh1 := [(.leaf .val)]
noncomputable def t_thief_Steal_next_L1 (p0 : Option Addr) (y1 : HL Sh1.T t_thief_Steal_next_L1_sh) : Tree :=
 lkN p0 fun x6 =>
 .ld (x6.add 6) .slice fun x8 =>
 bif (decide ((((x8.len : Nat) : Int) : Int) > 0)) then (
 lkN p0 fun x12 =>
 .ld (x12.add 6) .slice fun x14 =>
 .look (opS Tryz.prog (.indexAddr ty_s_func_thief_machine (.tmp 0) (.const (.int .i64 0))) ty_unit [(.slice x14.a x14.len x14.cap)]) (.one (.leaf .addr)) fun x15 =>
 .ld x15 .val fun x16 =>
 lkN p0 fun x19 =>
 .ld (x19.add 6) .slice fun x21 =>
 .look (opS Tryz.prog (.slice ty_s_func_thief_machine (.tmp 0) (some (.const (.int .i64 1))) none none) ty_s_func_thief_machine [(.slice x21.a x21.len x21.cap)]) (.one (.leaf .slice)) fun x22 =>
 lkN p0 fun x23 =>
 .st (x23.add 6) (.slice x22.a x22.len x22.cap) <|
 .act (opS Tryz.prog (.call { callee := .value (.tmp 0), args := #[], argTypes := #[] }) ty_thief_machine [x16]) (.one (.leaf .val)) fun x26 =>
 .look (opS Tryz.prog (.binOp .neq ty_thief_machine (.tmp 0) (.const .nilIface) ty_thief_machine) ty_bool [x26]) (.one (.leaf .bool)) fun x28 =>
 bif x28 then (
 .ret x26)
 else (
 .again 64 [y1.1]))
 else (
 lkN p0 fun x31 =>
 .ld (x31.add 8) .bool fun x33 =>
 bif x33 then (
 .ret .nilIface)
 else (
 lkN p0 fun x35 =>
 .st (x35.add 8) (.bool true) <|
 lkN p0 fun x38 =>
 .ld (x38.add 1) .ptr fun x40 =>
 lkN p0 fun x42 =>
 .ld (x42.add 2) (.int .i64) fun x44 =>
 .call f_guard_Guard_Leave [(.pointer x40), (.int .i64 x44)] (.one (.leaf .val)) fun x45 =>
 .ret x45))
noncomputable def t_thief_Steal_next (p0 : Option Addr) : Tree :=
 .loop 64 t_thief_Steal_next_L1_sh [.nilIface] (t_thief_Steal_next_L1 p0)
theorem t_thief_Steal_next_spec {p0 : Option Addr} : SpT f_thief_Steal_next #[(.pointer p0)] (t_thief_Steal_next p0) := spT tcfg0 Tryz.func57 (by kernel_rfl)
noncomputable def t_thief_Steal_Step (p0 : Option Addr) (p1 : Option Addr) : Tree :=
 lkN p0 fun x6 =>
 .ld (x6.add 7) .val fun x8 =>
 .look (opS Tryz.prog (.binOp .eql ty_thief_machine (.tmp 0) (.const .nilIface) ty_thief_machine) ty_bool [x8]) (.one (.leaf .bool)) fun x9 =>
 bif x9 then (
 lkN p0 fun x12 =>
 .ld (x12.add 8) .bool fun x14 =>
 bif (!x14) then (
 .call f_thief_Steal_next [(.pointer p0)] (.one (.leaf .val)) fun x19 =>
 lkN p0 fun x20 =>
 .act (opS Tryz.prog (.store ty_thief_machine (.tmp 0) (.tmp 1)) ty_unit [(.pointer (some (x20.add 7))), x19]) .unit fun _ =>
 lkN p0 fun x23 =>
 .ld (x23.add 7) .val fun x25 =>
 .look (opS Tryz.prog (.binOp .neq ty_thief_machine (.tmp 0) (.const .nilIface) ty_thief_machine) ty_bool [x25]) (.one (.leaf .bool)) fun x26 =>
 bif x26 then (
 lkN p0 fun x29 =>
 .ld (x29.add 7) .val fun x31 =>
 .act (opS Tryz.prog (.call { callee := .invoke (.tmp 0) "Step", args := #[(.tmp 1)], argTypes := #[ty_p_arena_Arena] }) ty_bool [x31, (.pointer p1)]) (.one (.leaf .bool)) fun x33 =>
 bif x33 then (
 lkN p0 fun x36 =>
 .st (x36.add 7) .nilIface <|
 lkN p0 fun x39 =>
 .ld (x39.add 7) .val fun x41 =>
 .look (opS Tryz.prog (.binOp .eql ty_thief_machine (.tmp 0) (.const .nilIface) ty_thief_machine) ty_bool [x41]) (.one (.leaf .bool)) fun x42 =>
 bif x42 then (
 lkN p0 fun x45 =>
 .ld (x45.add 8) .bool fun x47 =>
 .ret (.bool x47))
 else (
 .ret (.bool false)))
 else (
 lkN p0 fun x39 =>
 .ld (x39.add 7) .val fun x41 =>
 .look (opS Tryz.prog (.binOp .eql ty_thief_machine (.tmp 0) (.const .nilIface) ty_thief_machine) ty_bool [x41]) (.one (.leaf .bool)) fun x42 =>
 bif x42 then (
 lkN p0 fun x45 =>
 .ld (x45.add 8) .bool fun x47 =>
 .ret (.bool x47))
 else (
 .ret (.bool false))))
 else (
 lkN p0 fun x39 =>
 .ld (x39.add 7) .val fun x41 =>
 .look (opS Tryz.prog (.binOp .eql ty_thief_machine (.tmp 0) (.const .nilIface) ty_thief_machine) ty_bool [x41]) (.one (.leaf .bool)) fun x42 =>
 bif x42 then (
 lkN p0 fun x45 =>
 .ld (x45.add 8) .bool fun x47 =>
 .ret (.bool x47))
 else (
 .ret (.bool false))))
 else (
 lkN p0 fun x23 =>
 .ld (x23.add 7) .val fun x25 =>
 .look (opS Tryz.prog (.binOp .neq ty_thief_machine (.tmp 0) (.const .nilIface) ty_thief_machine) ty_bool [x25]) (.one (.leaf .bool)) fun x26 =>
 bif x26 then (
 lkN p0 fun x29 =>
 .ld (x29.add 7) .val fun x31 =>
 .act (opS Tryz.prog (.call { callee := .invoke (.tmp 0) "Step", args := #[(.tmp 1)], argTypes := #[ty_p_arena_Arena] }) ty_bool [x31, (.pointer p1)]) (.one (.leaf .bool)) fun x33 =>
 bif x33 then (
 lkN p0 fun x36 =>
 .st (x36.add 7) .nilIface <|
 lkN p0 fun x39 =>
 .ld (x39.add 7) .val fun x41 =>
 .look (opS Tryz.prog (.binOp .eql ty_thief_machine (.tmp 0) (.const .nilIface) ty_thief_machine) ty_bool [x41]) (.one (.leaf .bool)) fun x42 =>
 bif x42 then (
 lkN p0 fun x45 =>
 .ld (x45.add 8) .bool fun x47 =>
 .ret (.bool x47))
 else (
 .ret (.bool false)))
 else (
 lkN p0 fun x39 =>
 .ld (x39.add 7) .val fun x41 =>
 .look (opS Tryz.prog (.binOp .eql ty_thief_machine (.tmp 0) (.const .nilIface) ty_thief_machine) ty_bool [x41]) (.one (.leaf .bool)) fun x42 =>
 bif x42 then (
 lkN p0 fun x45 =>
 .ld (x45.add 8) .bool fun x47 =>
 .ret (.bool x47))
 else (
 .ret (.bool false))))
 else (
 lkN p0 fun x39 =>
 .ld (x39.add 7) .val fun x41 =>
 .look (opS Tryz.prog (.binOp .eql ty_thief_machine (.tmp 0) (.const .nilIface) ty_thief_machine) ty_bool [x41]) (.one (.leaf .bool)) fun x42 =>
 bif x42 then (
 lkN p0 fun x45 =>
 .ld (x45.add 8) .bool fun x47 =>
 .ret (.bool x47))
 else (
 .ret (.bool false)))))
 else (
 lkN p0 fun x23 =>
 .ld (x23.add 7) .val fun x25 =>
 .look (opS Tryz.prog (.binOp .neq ty_thief_machine (.tmp 0) (.const .nilIface) ty_thief_machine) ty_bool [x25]) (.one (.leaf .bool)) fun x26 =>
 bif x26 then (
 lkN p0 fun x29 =>
 .ld (x29.add 7) .val fun x31 =>
 .act (opS Tryz.prog (.call { callee := .invoke (.tmp 0) "Step", args := #[(.tmp 1)], argTypes := #[ty_p_arena_Arena] }) ty_bool [x31, (.pointer p1)]) (.one (.leaf .bool)) fun x33 =>
 bif x33 then (
 lkN p0 fun x36 =>
 .st (x36.add 7) .nilIface <|
 lkN p0 fun x39 =>
 .ld (x39.add 7) .val fun x41 =>
 .look (opS Tryz.prog (.binOp .eql ty_thief_machine (.tmp 0) (.const .nilIface) ty_thief_machine) ty_bool [x41]) (.one (.leaf .bool)) fun x42 =>
 bif x42 then (
 lkN p0 fun x45 =>
 .ld (x45.add 8) .bool fun x47 =>
 .ret (.bool x47))
 else (
 .ret (.bool false)))
 else (
 lkN p0 fun x39 =>
 .ld (x39.add 7) .val fun x41 =>
 .look (opS Tryz.prog (.binOp .eql ty_thief_machine (.tmp 0) (.const .nilIface) ty_thief_machine) ty_bool [x41]) (.one (.leaf .bool)) fun x42 =>
 bif x42 then (
 lkN p0 fun x45 =>
 .ld (x45.add 8) .bool fun x47 =>
 .ret (.bool x47))
 else (
 .ret (.bool false))))
 else (
 lkN p0 fun x39 =>
 .ld (x39.add 7) .val fun x41 =>
 .look (opS Tryz.prog (.binOp .eql ty_thief_machine (.tmp 0) (.const .nilIface) ty_thief_machine) ty_bool [x41]) (.one (.leaf .bool)) fun x42 =>
 bif x42 then (
 lkN p0 fun x45 =>
 .ld (x45.add 8) .bool fun x47 =>
 .ret (.bool x47))
 else (
 .ret (.bool false))))
theorem t_thief_Steal_Step_spec {p0 : Option Addr} {p1 : Option Addr} : SpT f_thief_Steal_Step #[(.pointer p0), (.pointer p1)] (t_thief_Steal_Step p0 p1) := spT tcfg0 Tryz.func21 (by kernel_rfl)
noncomputable def t_thief_Steal_Value (p0 : Option Addr) : Tree :=
 lkN p0 fun x5 =>
 .ld (x5.add 12) .bool fun x7 =>
 bif (!x7) then (
 .ret (.tuple #[(.int .i64 0), (.bool false)]))
 else (
 lkN p0 fun x11 =>
 .ld (x11.add 7) .val fun x13 =>
 .look (opS Tryz.prog (.binOp .neq ty_thief_machine (.tmp 0) (.const .nilIface) ty_thief_machine) ty_bool [x13]) (.one (.leaf .bool)) fun x14 =>
 bif x14 then (
 .ret (.tuple #[(.int .i64 0), (.bool false)]))
 else (
 lkN p0 fun x18 =>
 .ld (x18.add 8) .bool fun x20 =>
 bif (!x20) then (
 .ret (.tuple #[(.int .i64 0), (.bool false)]))
 else (
 lkN p0 fun x24 =>
 .ld (x24.add 11) (.int .i64) fun x26 =>
 .ret (.tuple #[(.int .i64 x26), (.bool true)]))))
theorem t_thief_Steal_Value_spec {p0 : Option Addr} : SpT f_thief_Steal_Value #[(.pointer p0)] (t_thief_Steal_Value p0) := spT tcfg0 Tryz.func18 (by kernel_rfl)
def oneV (f : FuncId) (c : Nat) : Value := .iface ty_thief_one (.func (.func f) #[] #[(.pointer (some ⟨c, 0, none⟩))])
theorem one_inv (f : Value) (p : Option Addr) : opS Tryz.prog (.call { callee := .invoke (.tmp 0) "Step", args := #[(.tmp 1)], argTypes := #[ty_p_arena_Arena] }) ty_bool [(.iface ty_thief_one f), (.pointer p)] = .pure (.enter f_thief_one_Step [f, .pointer p].toArray) := by kernel_rfl
theorem one_reads (a p : Option Addr) : opS Tryz.prog (.call { callee := .value (.tmp 0), args := #[(.tmp 1)], argTypes := #[ty_p_arena_Arena] }) ty_unit [(.func (.func f_thief_Steal_reads_1) #[] #[(.pointer a)]), (.pointer p)] = .pure (.enter f_thief_Steal_reads_1 [.pointer p, .pointer a].toArray) := by kernel_rfl
theorem one_lasts (a p : Option Addr) : opS Tryz.prog (.call { callee := .value (.tmp 0), args := #[(.tmp 1)], argTypes := #[ty_p_arena_Arena] }) ty_unit [(.func (.func f_thief_Steal_lasts_1) #[] #[(.pointer a)]), (.pointer p)] = .pure (.enter f_thief_Steal_lasts_1 [.pointer p, .pointer a].toArray) := by kernel_rfl
theorem one_buffers (a p : Option Addr) : opS Tryz.prog (.call { callee := .value (.tmp 0), args := #[(.tmp 1)], argTypes := #[ty_p_arena_Arena] }) ty_unit [(.func (.func f_thief_Steal_buffers_1) #[] #[(.pointer a)]), (.pointer p)] = .pure (.enter f_thief_Steal_buffers_1 [.pointer p, .pointer a].toArray) := by kernel_rfl
theorem one_again (a p : Option Addr) : opS Tryz.prog (.call { callee := .value (.tmp 0), args := #[(.tmp 1)], argTypes := #[ty_p_arena_Arena] }) ty_unit [(.func (.func f_thief_Steal_again_1) #[] #[(.pointer a)]), (.pointer p)] = .pure (.enter f_thief_Steal_again_1 [.pointer p, .pointer a].toArray) := by kernel_rfl
theorem one_loads (a p : Option Addr) : opS Tryz.prog (.call { callee := .value (.tmp 0), args := #[(.tmp 1)], argTypes := #[ty_p_arena_Arena] }) ty_unit [(.func (.func f_thief_Steal_loads_1) #[] #[(.pointer a)]), (.pointer p)] = .pure (.enter f_thief_Steal_loads_1 [.pointer p, .pointer a].toArray) := by kernel_rfl
theorem one_still (a p : Option Addr) : opS Tryz.prog (.call { callee := .value (.tmp 0), args := #[(.tmp 1)], argTypes := #[ty_p_arena_Arena] }) ty_unit [(.func (.func f_thief_Steal_still_1) #[] #[(.pointer a)]), (.pointer p)] = .pure (.enter f_thief_Steal_still_1 [.pointer p, .pointer a].toArray) := by kernel_rfl
theorem one_keys (a p : Option Addr) : opS Tryz.prog (.call { callee := .value (.tmp 0), args := #[(.tmp 1)], argTypes := #[ty_p_arena_Arena] }) ty_unit [(.func (.func f_thief_Steal_keys_1) #[] #[(.pointer a)]), (.pointer p)] = .pure (.enter f_thief_Steal_keys_1 [.pointer p, .pointer a].toArray) := by kernel_rfl
theorem one_takes (a p : Option Addr) : opS Tryz.prog (.call { callee := .value (.tmp 0), args := #[(.tmp 1)], argTypes := #[ty_p_arena_Arena] }) ty_unit [(.func (.func f_thief_Steal_takes_1) #[] #[(.pointer a)]), (.pointer p)] = .pure (.enter f_thief_Steal_takes_1 [.pointer p, .pointer a].toArray) := by kernel_rfl
structure Ts where
  at_ : Int
  work : Int
  victim : Int
  before : Int
  keyAt : Int
  leaves : Bool
  t : Int
  h : Int
  v : Int
  ok : Bool
def tsC (x : Ts) (q : Nat) (s : Sl) (m : Value) : List Value := [.int .i64 x.at_, .pointer (some ⟨q, 0, none⟩), .int .i64 x.work, .int .i64 x.victim, .int .i64 x.before, .int .i64 x.keyAt, slV s, m, .bool x.leaves, .int .i64 x.t, .int .i64 x.h, .int .i64 x.v, .bool x.ok]
structure Ts.bnd (x : Ts) : Prop where
  a : 0 ≤ x.at_ ∧ x.at_ ≤ 1000000
  w : 0 ≤ x.victim ∧ x.victim ≤ 1000
section
variable {L : Hands} {R : Value → Heap → Prop} {G : Heap} {l rest : Bl} {A : Ar} {I : List Nat} {q b c : Nat} {s : Sl} {m : Value} {x : Ts}
theorem w_tword (i : Nat) {n : Int} {k : Int → Tree} (hb : x.bnd) (hn : 0 ≤ n ∧ n ≤ 10) (hA : Aw I A) (ok : Ok I G (keys l)) (hi : l[i]? = some (b, oc ty_thief_Steal (tsC x q s m)))
    (h : Aw I (A.touchR (dw x.at_ x.victim n)) → wp Tryz.prog (k (A.rawF (dw x.at_ x.victim n))) L (own (A.touchR (dw x.at_ x.victim n)) l G) R) :
    wp Tryz.prog (.call f_thief_Steal_word [.pointer (some ⟨b, 0, none⟩), .pointer (aI I), .int .i64 n] (.one (.leaf (.int .i64))) k) L (own A l G) R := by
  refine wp_call_of (R0 := fun u H => u = .int .i64 (A.rawF (dw x.at_ x.victim n)) ∧ H = own (A.touchR (dw x.at_ x.victim n)) l G ∧ Aw I (A.touchR (dw x.at_ x.victim n))) ?_ ?_
  · refine t_thief_Steal_word_spec fun L => ?_
    unfold t_thief_Steal_word
    refine wp_nil.2 (w_ld i (x := x.at_) hA ok rfl hi rfl (wp_nil.2 (w_ld i (x := x.victim) hA ok rfl hi rfl ?_)))
    refine wp_qcall_det (x := dw x.at_ x.victim n) (DWord_det _ _ _ hb.a hb.w hn _) ?_
    refine w_Raw hA fun hA1 => ?_
    exact wp_ret_of ⟨rfl, rfl, hA1⟩
  · rintro u H ⟨rfl, rfl, a⟩
    exact ⟨_, rfl, h a⟩
end
noncomputable def t_key_place (p0 : Int) : Tree :=
 .ret (.int .i64 (w64 (10 * (w64 (4 - p0)))))
theorem t_key_place_spec {p0 : Int} : SpT f_key_place #[(.int .i64 p0)] (t_key_place p0) := spT tcfg0 Tryz.func78 (by kernel_rfl)
noncomputable def t_key_digits (p0 : Int) : Tree :=
 .newP (.cells #[(.int .i64 p0)] ty_int) fun x1 =>
 .ret (.func (.func f_key_digits_1) #[] #[(.pointer (some x1))])
theorem t_key_digits_spec {p0 : Int} : SpT f_key_digits #[(.int .i64 p0)] (t_key_digits p0) := spT tcfg0 Tryz.func103 (by kernel_rfl)
noncomputable def t_key_digits_1 (p0 : Int) (c0 : Addr) : Tree :=
 .ld c0 (.int .i64) fun x4 =>
 .call f_key_place [(.int .i64 p0)] (.one (.leaf (.int .i64))) fun x6 =>
 .check (ldS c0) (.int .i64 x4) <|
 .look (opS Tryz.prog (.binOp .shr ty_int (.tmp 0) (.tmp 1) ty_int) ty_int [(.int .i64 x4), (.int .i64 x6)]) (.one (.leaf (.int .i64))) fun x7 =>
 .ret (.int .i64 (iand x7 1023))
theorem t_key_digits_1_spec {p0 : Int} {c0 : Addr} : SpT f_key_digits_1 #[(.int .i64 p0), (.pointer (some c0))] (t_key_digits_1 p0 c0) := spT tcfg0 Tryz.func120 (by kernel_rfl)
@[reducible] def t_key_Check_L1_sh : List Sh1 := [(.leaf .bool), (.leaf .bool), (.leaf (.int .i64))]
noncomputable def t_key_Check_L1 (p0 : Int) (x8 : Value) (y1 : HL Sh1.T t_key_Check_L1_sh) : Tree :=
 bif (decide ((y1.2.2.1 : Int) < 5)) then (
 .act (opS Tryz.prog (.call { callee := .value (.tmp 0), args := #[(.tmp 1)], argTypes := #[ty_int] }) ty_int [x8, (.int .i64 y1.2.2.1)]) (.one (.leaf (.int .i64))) fun x14 =>
 bif (decide ((x14 : Int) > 1000)) then (
 .ret (.bool false))
 else (
 bif y1.2.1 then (
 bif (decide ((x14 : Int) > 0)) then (
 .ret (.bool false))
 else (
 .again 256 [(.bool y1.1), (.bool ((x14 : Int) == 0)), (.int .i64 (w64 (y1.2.2.1 + 1)))]))
 else (
 .again 256 [(.bool y1.1), (.bool ((x14 : Int) == 0)), (.int .i64 (w64 (y1.2.2.1 + 1)))])))
 else (
 .call f_key_place [(.int .i64 (-1))] (.one (.leaf (.int .i64))) fun x28 =>
 .look (opS Tryz.prog (.binOp .shr ty_int (.tmp 0) (.tmp 1) ty_int) ty_int [(.int .i64 p0), (.int .i64 x28)]) (.one (.leaf (.int .i64))) fun x29 =>
 .call f_key_place [(.int .i64 (-1))] (.one (.leaf (.int .i64))) fun x30 =>
 .check (opS Tryz.prog (.binOp .shr ty_int (.tmp 0) (.tmp 1) ty_int) ty_int [(.int .i64 p0), (.int .i64 x28)]) (.int .i64 x29) <|
 .look (opS Tryz.prog (.binOp .shr ty_int (.const (.int .i64 1125899906842624)) (.tmp 0) ty_int) ty_int [(.int .i64 x30)]) (.one (.leaf (.int .i64))) fun x31 =>
 .ret (.bool ((x29 : Int) == x31)))
noncomputable def t_key_Check (p0 : Int) : Tree :=
 .call f_key_digits [(.int .i64 p0)] (.one (.leaf .val)) fun x8 =>
 .loop 256 t_key_Check_L1_sh [(.bool false), (.bool false), (.int .i64 0)] (t_key_Check_L1 p0 x8)
theorem t_key_Check_spec {p0 : Int} : SpT f_key_Check #[(.int .i64 p0)] (t_key_Check p0) := spT tcfg0 Tryz.func68 (by kernel_rfl)
@[reducible] def t_key_Depth_L1_sh : List Sh1 := [(.leaf (.int .i64))]
noncomputable def t_key_Depth_L1 (x9 : Value) (y1 : HL Sh1.T t_key_Depth_L1_sh) : Tree :=
 bif (decide ((y1.1 : Int) < 5)) then (
 .act (opS Tryz.prog (.call { callee := .value (.tmp 0), args := #[(.tmp 1)], argTypes := #[ty_int] }) ty_int [x9, (.int .i64 y1.1)]) (.one (.leaf (.int .i64))) fun x15 =>
 bif (decide ((x15 : Int) > 0)) then (
 .again 320 [(.int .i64 (w64 (y1.1 + 1)))])
 else (
 .ret (.int .i64 y1.1)))
 else (
 .ret (.int .i64 y1.1))
noncomputable def t_key_Depth (p0 : Int) : Tree :=
 .call f_key_Check [(.int .i64 p0)] (.one (.leaf .bool)) fun x6 =>
 bif (!x6) then (
 .ret (.int .i64 0))
 else (
 .call f_key_digits [(.int .i64 p0)] (.one (.leaf .val)) fun x9 =>
 .loop 320 t_key_Depth_L1_sh [(.int .i64 0)] (t_key_Depth_L1 x9))
theorem t_key_Depth_spec {p0 : Int} : SpT f_key_Depth #[(.int .i64 p0)] (t_key_Depth p0) := spT tcfg0 Tryz.func77 (by kernel_rfl)
noncomputable def t_key_Under (p0 : Int) (p1 : Int) : Tree :=
 .call f_key_Check [(.int .i64 p0)] (.one (.leaf .bool)) fun x7 =>
 bif (!x7) then (
 .ret (.bool false))
 else (
 .call f_key_Check [(.int .i64 p1)] (.one (.leaf .bool)) fun x11 =>
 bif (!x11) then (
 .ret (.bool false))
 else (
 .call f_key_Depth [(.int .i64 p0)] (.one (.leaf (.int .i64))) fun x16 =>
 .call f_key_Depth [(.int .i64 p1)] (.one (.leaf (.int .i64))) fun x18 =>
 bif (decide ((x16 : Int) ≤ x18)) then (
 .ret (.bool false))
 else (
 .call f_key_Depth [(.int .i64 p1)] (.one (.leaf (.int .i64))) fun x22 =>
 .call f_key_place [(.int .i64 (w64 (x22 - 1)))] (.one (.leaf (.int .i64))) fun x24 =>
 .look (opS Tryz.prog (.binOp .shr ty_int (.tmp 0) (.tmp 1) ty_int) ty_int [(.int .i64 p0), (.int .i64 x24)]) (.one (.leaf (.int .i64))) fun x27 =>
 .look (opS Tryz.prog (.binOp .shr ty_int (.tmp 0) (.tmp 1) ty_int) ty_int [(.int .i64 p1), (.int .i64 x24)]) (.one (.leaf (.int .i64))) fun x30 =>
 .ret (.bool ((x27 : Int) == x30)))))
theorem t_key_Under_spec {p0 : Int} {p1 : Int} : SpT f_key_Under #[(.int .i64 p0), (.int .i64 p1)] (t_key_Under p0 p1) := spT tcfg0 Tryz.func69 (by kernel_rfl)
noncomputable def t_key_Ahead (p0 : Int) (p1 : Int) : Tree :=
 .call f_key_Check [(.int .i64 p0)] (.one (.leaf .bool)) fun x6 =>
 bif (!x6) then (
 .ret (.bool false))
 else (
 .call f_key_Check [(.int .i64 p1)] (.one (.leaf .bool)) fun x10 =>
 bif (!x10) then (
 .ret (.bool false))
 else (
 .call f_key_Under [(.int .i64 p1), (.int .i64 p0)] (.one (.leaf .bool)) fun x16 =>
 bif x16 then (
 .ret (.bool false))
 else (
 .call f_key_Under [(.int .i64 p0), (.int .i64 p1)] (.one (.leaf .bool)) fun x20 =>
 bif x20 then (
 .ret (.bool true))
 else (
 .ret (.bool (decide ((p0 : Int) < p1)))))))
theorem t_key_Ahead_spec {p0 : Int} {p1 : Int} : SpT f_key_Ahead #[(.int .i64 p0), (.int .i64 p1)] (t_key_Ahead p0 p1) := spT tcfg0 Tryz.func28 (by kernel_rfl)
def placeF (d : Int) : Int := w64 (10 * w64 (4 - d))
def shF (x p : Int) : Int := x.fdiv (2 ^ (min p.toNat 64))
def digitF (k d : Int) : Int := iand (shF k (placeF d)) 1023
def chkGo (k : Int) : Nat → Int → Bool → Bool
  | 0, _, _ => shF k (placeF (-1)) == shF 1125899906842624 (placeF (-1))
  | n + 1, i, e => if digitF k i > 1000 then false else if e = true ∧ digitF k i > 0 then false else chkGo k n (i + 1) (digitF k i == 0)
def checkF (k : Int) : Bool := chkGo k 5 0 false
def dpGo (k : Int) : Nat → Int → Int
  | 0, i => i
  | n + 1, i => if digitF k i > 0 then dpGo k n (i + 1) else i
def depthF (k : Int) : Int := if checkF k = true then dpGo k 5 0 else 0
def underF (a b : Int) : Bool := if checkF a = true then if checkF b = true then if depthF a ≤ depthF b then false else shF a (placeF (w64 (depthF b - 1))) == shF b (placeF (w64 (depthF b - 1))) else false else false
def aheadF (a b : Int) : Bool := if checkF a = true then if checkF b = true then if underF b a = true then false else if underF a b = true then true else decide (a < b) else false else false
theorem placeF_eq {d : Int} (h : -1 ≤ d ∧ d ≤ 4) : placeF d = 10 * (4 - d) := by
  unfold placeF
  rw [w64_in (x := 4 - d) (by omega) (by omega), w64_in (by omega) (by omega)]
theorem dpGo_le (k : Int) : ∀ (n : Nat) (i : Int), i ≤ dpGo k n i ∧ dpGo k n i ≤ i + n
  | 0, i => ⟨Int.le_refl _, by show i ≤ i + ((0 : Nat) : Int); omega⟩
  | n + 1, i => by
    unfold dpGo
    split
    · have := dpGo_le k n (i + 1); omega
    · omega
theorem depthF_le (k : Int) : 0 ≤ depthF k ∧ depthF k ≤ 5 := by
  unfold depthF
  split
  · have := dpGo_le k 5 0; omega
  · omega
section
variable {L : Hands} {R : Value → Heap → Prop} {G H : Heap}
theorem Ok0.below {l : Bl} (ok : Ok0 H (keys l)) : H.le (putL l H) := fun b o hb => by
  rw [putL_out]
  · exact hb
  · intro h; rw [ok.no b h] at hb; cases hb
theorem p_ck {l : Bl} (i : Nat) {a : Addr} {b n : Nat} {T : TypeId} {c : List Value} {v : Value} {t : Tree} (ok : Ok0 G (keys l)) (ha : a = ⟨b, n, none⟩) (hi : l[i]? = some (b, oc T c)) (hx : c[n]? = some v) (h : wp Tryz.prog t L (putL l G) R) : wp Tryz.prog (.check (ldS a) v t) L (putL l G) R := by
  subst ha
  refine chk_cell ?_ h
  rw [Heap.cell_of (putL_get G ok.nd hi), List.getElem?_toArray]; exact hx
theorem place_det (d : Int) (H : Heap) : Det Tryz.prog f_key_place [.int .i64 d] H (.int .i64 (placeF d)) H := by
  refine t_key_place_spec fun L => ?_
  unfold t_key_place
  exact wp_ret_of ⟨rfl, rfl⟩
def dC (k : Int) : Obj := oc ty_int [.int .i64 k]
def dV (q : Nat) : Value := .func (.func f_key_digits_1) #[] #[(.pointer (some ⟨q, 0, none⟩))]
theorem w_digits {k : Int} {K : Value → Tree} (h : ∀ q, Ok0 H (keys [(q, dC k)]) → wp Tryz.prog (K (dV q)) L (putL [(q, dC k)] H) R) : wp Tryz.prog (.call f_key_digits [.int .i64 k] (.one (.leaf .val)) K) L H R := by
  refine wp_call_of (R0 := fun v H' => ∃ q, v = dV q ∧ H' = putL [(q, dC k)] H ∧ Ok0 H (keys [(q, dC k)])) ?_ ?_
  · refine t_key_digits_spec fun L => ?_
    unfold t_key_digits
    have ok0 : Ok0 H (keys []) := ⟨.nil, fun b h => (by cases h)⟩
    refine p_newP (l := []) (c := [.int .i64 k]) ok0 fun q ok1 => ?_
    exact wp_ret_of ⟨q, rfl, rfl, ok1⟩
  · rintro v H' ⟨q, rfl, rfl, o⟩
    exact ⟨_, rfl, h q o⟩
theorem digit_op (q : Nat) (d : Int) : opS Tryz.prog (.call { callee := .value (.tmp 0), args := #[(.tmp 1)], argTypes := #[ty_int] }) ty_int [dV q, .int .i64 d] = .pure (.enter f_key_digits_1 [.int .i64 d, .pointer (some ⟨q, 0, none⟩)].toArray) := by
  unfold dV; kernel_rfl
theorem w_digit {q : Nat} {k d : Int} {K : Int → Tree} (hd : -1 ≤ d ∧ d ≤ 4) (ok : Ok0 H (keys [(q, dC k)])) (h : wp Tryz.prog (K (digitF k d)) L (putL [(q, dC k)] H) R) :
    wp Tryz.prog (.act (opS Tryz.prog (.call { callee := .value (.tmp 0), args := #[(.tmp 1)], argTypes := #[ty_int] }) ty_int [dV q, .int .i64 d]) (.one (.leaf (.int .i64))) K) L (putL [(q, dC k)] H) R := by
  refine act_enter (digit_op q d) (wp_call_det (x := digitF k d) (H' := putL [(q, dC k)] H) ?_ h)
  refine t_key_digits_1_spec fun L => ?_
  unfold t_key_digits_1
  refine p_ld (l := [(q, dC k)]) (x := k) 0 ok rfl rfl rfl ?_
  refine wp_call_det (x := placeF d) (place_det _ _) ?_
  refine p_ck (l := [(q, dC k)]) 0 ok rfl rfl rfl ?_
  refine look_val (x := shF k (placeF d)) (opS_shr (by rw [placeF_eq hd]; omega)) ?_
  exact wp_ret_of ⟨rfl, rfl⟩
theorem w_shr {x p : Int} (hp : 0 ≤ p) {t t' u : TypeId} {K : Int → Tree} (h : wp Tryz.prog (K (shF x p)) L H R) : wp Tryz.prog (.look (opS Tryz.prog (.binOp .shr t (.tmp 0) (.tmp 1) t') u [.int .i64 x, .int .i64 p]) (.one (.leaf (.int .i64))) K) L H R :=
  look_val (x := shF x p) (opS_shr hp) h
theorem shrC (u : TypeId) : opS Tryz.prog (.binOp .shr ty_int (.const (.int .i64 1125899906842624)) (.tmp 0) ty_int) u [.int .i64 (placeF (-1))] = .pure (.value (.int .i64 (shF 1125899906842624 (placeF (-1))))) := by kernel_rfl
theorem chk_go {k : Int} {q : Nat} (ok : Ok0 H (keys [(q, dC k)])) : ∀ (n : Nat) (i : Int) (y e : Bool), i + n = 5 → 0 ≤ i →
    wp Tryz.prog (.loop 256 t_key_Check_L1_sh [.bool y, .bool e, .int .i64 i] (t_key_Check_L1 k (dV q))) L (putL [(q, dC k)] H) fun v K => v = .bool (chkGo k n i e) ∧ K = H
  | 0, i, y, e, hi, h0 => by
    have end' : ∀ b : Bool, wp Tryz.prog (.ret (.bool b)) L (putL [(q, dC k)] H) fun v K => v = .bool b ∧ K = H := fun b => ⟨H, ok.below, rfl, rfl⟩
    refine wp_loop_unroll (y, e, i, ()) rfl ?_
    rw [t_key_Check_L1]
    refine wp_false (decide_eq_false (show ¬ i < 5 by omega)) ?_
    refine wp_call_det (x := placeF (-1)) (place_det _ _) ?_
    refine w_shr (by decide) ?_
    refine wp_call_det (x := placeF (-1)) (place_det _ _) ?_
    refine check_val (opS_shr (by decide)) ?_
    refine look_val (x := shF 1125899906842624 (placeF (-1))) (shrC _) ?_
    exact end' _
  | n + 1, i, y, e, hi, h0 => by
    have end' : ∀ b : Bool, wp Tryz.prog (.ret (.bool b)) L (putL [(q, dC k)] H) fun v K => v = .bool b ∧ K = H := fun b => ⟨H, ok.below, rfl, rfl⟩
    refine wp_loop_unroll (y, e, i, ()) rfl ?_
    rw [t_key_Check_L1]
    refine wp_true (decide_eq_true (show i < 5 by omega)) ?_
    refine w_digit (d := i) (by omega) ok ?_
    have ih := fun e' => chk_go (k := k) ok n (i + 1) y e' (by omega) (by omega)
    unfold chkGo
    by_cases h1 : digitF k i > 1000
    · refine wp_true (decide_eq_true h1) ?_
      rw [if_pos h1]; exact end' _
    refine wp_false (decide_eq_false h1) ?_
    rw [if_neg h1]
    cases e with
    | true =>
      refine wp_true rfl ?_
      by_cases h2 : digitF k i > 0
      · refine wp_true (decide_eq_true h2) ?_
        rw [if_pos ⟨rfl, h2⟩]; exact end' _
      refine wp_false (decide_eq_false h2) (wp_again ?_)
      rw [if_neg (fun h => h2 h.2), w64_in (x := i + 1) (by omega) (by omega)]
      exact ih _
    | false =>
      refine wp_false rfl (wp_again ?_)
      rw [if_neg (fun h => (by cases h.1)), w64_in (x := i + 1) (by omega) (by omega)]
      exact ih _
theorem Check_det (k : Int) (H : Heap) : Det Tryz.prog f_key_Check [.int .i64 k] H (.bool (checkF k)) H := by
  refine t_key_Check_spec fun L => ?_
  unfold t_key_Check
  refine w_digits fun q ok => ?_
  exact chk_go ok 5 0 false false rfl (by decide)
theorem dp_go {k : Int} {q : Nat} (ok : Ok0 H (keys [(q, dC k)])) : ∀ (n : Nat) (i : Int), i + n = 5 → 0 ≤ i →
    wp Tryz.prog (.loop 320 t_key_Depth_L1_sh [.int .i64 i] (t_key_Depth_L1 (dV q))) L (putL [(q, dC k)] H) fun v K => v = .int .i64 (dpGo k n i) ∧ K = H
  | 0, i, hi, h0 => by
    refine wp_loop_unroll (i, ()) rfl ?_
    rw [t_key_Depth_L1]
    refine wp_false (decide_eq_false (show ¬ i < 5 by omega)) ?_
    exact ⟨H, ok.below, rfl, rfl⟩
  | n + 1, i, hi, h0 => by
    refine wp_loop_unroll (i, ()) rfl ?_
    rw [t_key_Depth_L1]
    refine wp_true (decide_eq_true (show i < 5 by omega)) ?_
    refine w_digit (d := i) (by omega) ok ?_
    have ih := dp_go (k := k) ok n (i + 1) (by omega) (by omega)
    unfold dpGo
    by_cases h1 : digitF k i > 0
    · refine wp_true (decide_eq_true h1) (wp_again ?_)
      rw [if_pos h1, w64_in (x := i + 1) (by omega) (by omega)]; exact ih
    refine wp_false (decide_eq_false h1) ?_
    rw [if_neg h1]
    exact ⟨H, ok.below, rfl, rfl⟩
theorem Depth_det (k : Int) (H : Heap) : Det Tryz.prog f_key_Depth [.int .i64 k] H (.int .i64 (depthF k)) H := by
  refine t_key_Depth_spec fun L => ?_
  unfold t_key_Depth
  refine wp_call_det (x := checkF k) (Check_det _ _) ?_
  unfold depthF
  cases hc : checkF k with
  | false => exact wp_true rfl (wp_ret_of ⟨rfl, rfl⟩)
  | true =>
    refine wp_false rfl ?_
    refine w_digits fun q ok => ?_
    rw [if_pos rfl]
    exact dp_go ok 5 0 rfl (by decide)
theorem Under_det (a b : Int) (H : Heap) : Det Tryz.prog f_key_Under [.int .i64 a, .int .i64 b] H (.bool (underF a b)) H := by
  refine t_key_Under_spec fun L => ?_
  unfold t_key_Under
  refine wp_call_det (x := checkF a) (Check_det _ _) ?_
  have dl := depthF_le b
  have da := depthF_le a
  unfold underF
  cases hc : checkF a with
  | false => exact wp_true rfl (wp_ret_of ⟨rfl, rfl⟩)
  | true =>
    refine wp_false rfl ?_
    rw [if_pos rfl]
    refine wp_call_det (x := checkF b) (Check_det _ _) ?_
    cases hb : checkF b with
    | false => exact wp_true rfl (wp_ret_of ⟨rfl, rfl⟩)
    | true =>
      refine wp_false rfl ?_
      rw [if_pos rfl]
      refine wp_call_det (x := depthF a) (Depth_det _ _) ?_
      refine wp_call_det (x := depthF b) (Depth_det _ _) ?_
      by_cases h : depthF a ≤ depthF b
      · refine wp_true (decide_eq_true h) ?_
        rw [if_pos h]; exact wp_ret_of ⟨rfl, rfl⟩
      refine wp_false (decide_eq_false h) ?_
      rw [if_neg h]
      refine wp_call_det (x := depthF b) (Depth_det _ _) ?_
      refine wp_call_det (x := placeF (w64 (depthF b - 1))) (place_det _ _) ?_
      have hp : 0 ≤ placeF (w64 (depthF b - 1)) := by rw [w64_in (by omega) (by omega), placeF_eq (by omega)]; omega
      refine w_shr hp (w_shr hp ?_)
      exact wp_ret_of ⟨rfl, rfl⟩
theorem Ahead_det (a b : Int) (H : Heap) : Det Tryz.prog f_key_Ahead [.int .i64 a, .int .i64 b] H (.bool (aheadF a b)) H := by
  refine t_key_Ahead_spec fun L => ?_
  unfold t_key_Ahead
  refine wp_call_det (x := checkF a) (Check_det _ _) ?_
  unfold aheadF
  cases hc : checkF a with
  | false => exact wp_true rfl (wp_ret_of ⟨rfl, rfl⟩)
  | true =>
    refine wp_false rfl ?_
    rw [if_pos rfl]
    refine wp_call_det (x := checkF b) (Check_det _ _) ?_
    cases hb : checkF b with
    | false => exact wp_true rfl (wp_ret_of ⟨rfl, rfl⟩)
    | true =>
      refine wp_false rfl ?_
      rw [if_pos rfl]
      refine wp_call_det (x := underF b a) (Under_det _ _ _) ?_
      cases hu : underF b a with
      | true => exact wp_true rfl (wp_ret_of ⟨rfl, rfl⟩)
      | false =>
        refine wp_false rfl ?_
        rw [if_neg (by decide)]
        refine wp_call_det (x := underF a b) (Under_det _ _ _) ?_
        cases hv : underF a b with
        | true => exact wp_true rfl (wp_ret_of ⟨rfl, rfl⟩)
        | false => exact wp_false rfl (wp_ret_of ⟨rfl, rfl⟩)
end
def cellO (b : Nat) : List Value := [.pointer (some ⟨b, 0, none⟩)]
def OneP (b : Nat) (rest : Bl) (q : Nat) (m : Value) (x' : Ts) (s' : Sl) (A' : Ar) (I : List Nat) (G : Heap) : Value → Heap → Prop := fun v H => v = .tuple #[] ∧ H = own A' ((b, oc ty_thief_Steal (tsC x' q s' m)) :: rest) G ∧ Aw I A'
section
variable {L : Hands} {R : Value → Heap → Prop} {G : Heap} {rest : Bl} {A : Ar} {I : List Nat} {q b c : Nat} {s : Sl} {m : Value} {x : Ts}
theorem w_cell {k : Option Addr → Tree} {l : Bl} (hA : Aw I A) (ok : Ok I G (keys l)) (hc : (c, oc ty_p_thief_Steal (cellO b)) ∈ l) (h : wp Tryz.prog (k (some ⟨b, 0, none⟩)) L (own A l G) R) : wp Tryz.prog (.ld ⟨c, 0, none⟩ .ptr k) L (own A l G) R :=
  w_ldm (x := some ⟨b, 0, none⟩) hA ok rfl hc rfl h
theorem ck_cell {t : Tree} {l : Bl} (hA : Aw I A) (ok : Ok I G (keys l)) (hc : (c, oc ty_p_thief_Steal (cellO b)) ∈ l) (h : wp Tryz.prog t L (own A l G) R) : wp Tryz.prog (.check (ldS ⟨c, 0, none⟩) (.pointer (some ⟨b, 0, none⟩)) t) L (own A l G) R := by
  obtain ⟨i, hi⟩ := mem_idx hc
  exact w_ck i hA ok rfl hi rfl h
theorem reads_spec (hb : x.bnd) (hA : Aw I A) (ok : Ok I G (keys ((b, oc ty_thief_Steal (tsC x q s m)) :: rest))) (hc : (c, oc ty_p_thief_Steal (cellO b)) ∈ (b, oc ty_thief_Steal (tsC x q s m)) :: rest) :
    SpecF Tryz.prog f_thief_Steal_reads_1 #[.pointer (aI I), .pointer (some ⟨c, 0, none⟩)] (own A ((b, oc ty_thief_Steal (tsC x q s m)) :: rest) G) (OneP b rest q m { x with t := A.rawF (dw x.at_ x.victim 0) } s (A.touchR (dw x.at_ x.victim 0)) I G) := by
  refine t_thief_Steal_reads_1_spec fun L => ?_
  unfold t_thief_Steal_reads_1
  refine w_cell hA ok hc (w_cell hA ok hc ?_)
  refine w_tword 0 hb (by decide) hA ok rfl fun hA1 => ?_
  refine ck_cell hA1 ok hc ?_
  refine wp_nil.2 (w_st 0 hA1 ok rfl rfl rfl rfl ?_)
  exact wp_ret_of ⟨rfl, rfl, hA1⟩
theorem buffers_spec (hb : x.bnd) (hA : Aw I A) (ok : Ok I G (keys ((b, oc ty_thief_Steal (tsC x q s m)) :: rest))) (hc : (c, oc ty_p_thief_Steal (cellO b)) ∈ (b, oc ty_thief_Steal (tsC x q s m)) :: rest) :
    SpecF Tryz.prog f_thief_Steal_buffers_1 #[.pointer (aI I), .pointer (some ⟨c, 0, none⟩)] (own A ((b, oc ty_thief_Steal (tsC x q s m)) :: rest) G) (OneP b rest q m { x with h := A.rawF (dw x.at_ x.victim 2) } s (A.touchR (dw x.at_ x.victim 2)) I G) := by
  refine t_thief_Steal_buffers_1_spec fun L => ?_
  unfold t_thief_Steal_buffers_1
  refine w_cell hA ok hc (w_cell hA ok hc ?_)
  refine w_tword 0 hb (by decide) hA ok rfl fun hA1 => ?_
  refine ck_cell hA1 ok hc ?_
  refine wp_nil.2 (w_st 0 hA1 ok rfl rfl rfl rfl ?_)
  exact wp_ret_of ⟨rfl, rfl, hA1⟩
theorem w_tnone {k : Unit → Tree} (hA : Aw I A) (ok : Ok I G (keys ((b, oc ty_thief_Steal (tsC x q s m)) :: rest))) (h : wp Tryz.prog (k ()) L (own A ((b, oc ty_thief_Steal (tsC x q ⟨none, 0, 0⟩ m)) :: rest) G) R) :
    wp Tryz.prog (.call f_thief_Steal_none [.pointer (some ⟨b, 0, none⟩)] .unit k) L (own A ((b, oc ty_thief_Steal (tsC x q s m)) :: rest) G) R := by
  refine wp_call_of (R0 := fun v H => v = .tuple #[] ∧ H = own A ((b, oc ty_thief_Steal (tsC x q ⟨none, 0, 0⟩ m)) :: rest) G) ?_ ?_
  · refine t_thief_Steal_none_spec fun L => ?_
    unfold t_thief_Steal_none
    refine wp_nil.2 (w_st 0 hA ok rfl rfl rfl rfl ?_)
    exact wp_ret_of ⟨rfl, rfl⟩
  · rintro v H ⟨rfl, rfl⟩
    exact ⟨(), rfl, h⟩
theorem lasts_spec (hb : x.bnd) (hA : Aw I A) (ok : Ok I G (keys ((b, oc ty_thief_Steal (tsC x q s m)) :: rest))) (hc : (c, oc ty_p_thief_Steal (cellO b)) ∈ (b, oc ty_thief_Steal (tsC x q s m)) :: rest) :
    SpecF Tryz.prog f_thief_Steal_lasts_1 #[.pointer (aI I), .pointer (some ⟨c, 0, none⟩)] (own A ((b, oc ty_thief_Steal (tsC x q s m)) :: rest) G) (OneP b rest q m x (if A.rawF (dw x.at_ x.victim 1) ≤ x.t then ⟨none, 0, 0⟩ else s) (A.touchR (dw x.at_ x.victim 1)) I G) := by
  refine t_thief_Steal_lasts_1_spec fun L => ?_
  unfold t_thief_Steal_lasts_1
  refine w_cell hA ok hc (w_cell hA ok hc ?_)
  refine wp_nil.2 (w_ld 0 (x := x.t) hA ok rfl rfl rfl ?_)
  refine w_tword 0 hb (by decide) hA ok rfl fun hA1 => ?_
  refine w_ck 0 hA1 ok rfl rfl rfl ?_
  refine w_ckn rfl ?_
  refine ck_cell hA1 ok hc ?_
  by_cases h : A.rawF (dw x.at_ x.victim 1) ≤ x.t
  · refine wp_true (decide_eq_true h) ?_
    rw [if_pos h]
    refine w_cell hA1 ok hc ?_
    refine w_tnone hA1 ok ?_
    exact wp_ret_of ⟨rfl, rfl, hA1⟩
  · refine wp_false (decide_eq_false h) ?_
    rw [if_neg h]
    exact wp_ret_of ⟨rfl, rfl, hA1⟩
theorem again_spec (hb : x.bnd) (hA : Aw I A) (ok : Ok I G (keys ((b, oc ty_thief_Steal (tsC x q s m)) :: rest))) (hc : (c, oc ty_p_thief_Steal (cellO b)) ∈ (b, oc ty_thief_Steal (tsC x q s m)) :: rest) :
    SpecF Tryz.prog f_thief_Steal_again_1 #[.pointer (aI I), .pointer (some ⟨c, 0, none⟩)] (own A ((b, oc ty_thief_Steal (tsC x q s m)) :: rest) G) (OneP b rest q m x (if A.rawF (dw x.at_ x.victim 2) = x.h then s else ⟨none, 0, 0⟩) (A.touchR (dw x.at_ x.victim 2)) I G) := by
  refine t_thief_Steal_again_1_spec fun L => ?_
  unfold t_thief_Steal_again_1
  refine w_cell hA ok hc (w_cell hA ok hc ?_)
  refine wp_nil.2 (w_ld 0 (x := x.h) hA ok rfl rfl rfl ?_)
  refine w_tword 0 hb (by decide) hA ok rfl fun hA1 => ?_
  refine w_ck 0 hA1 ok rfl rfl rfl ?_
  refine w_ckn rfl ?_
  refine ck_cell hA1 ok hc ?_
  by_cases h : A.rawF (dw x.at_ x.victim 2) = x.h
  · refine wp_false (ibnf h) ?_
    rw [if_pos h]
    exact wp_ret_of ⟨rfl, rfl, hA1⟩
  · refine wp_true (ibne h) ?_
    rw [if_neg h]
    refine w_cell hA1 ok hc ?_
    refine w_tnone hA1 ok ?_
    exact wp_ret_of ⟨rfl, rfl, hA1⟩
theorem still_spec (hb : x.bnd) (hA : Aw I A) (ok : Ok I G (keys ((b, oc ty_thief_Steal (tsC x q s m)) :: rest))) (hc : (c, oc ty_p_thief_Steal (cellO b)) ∈ (b, oc ty_thief_Steal (tsC x q s m)) :: rest) :
    SpecF Tryz.prog f_thief_Steal_still_1 #[.pointer (aI I), .pointer (some ⟨c, 0, none⟩)] (own A ((b, oc ty_thief_Steal (tsC x q s m)) :: rest) G) (OneP b rest q m x (if A.rawF (dw x.at_ x.victim 0) = x.t then s else ⟨none, 0, 0⟩) (A.touchR (dw x.at_ x.victim 0)) I G) := by
  refine t_thief_Steal_still_1_spec fun L => ?_
  unfold t_thief_Steal_still_1
  refine w_cell hA ok hc (w_cell hA ok hc ?_)
  refine wp_nil.2 (w_ld 0 (x := x.t) hA ok rfl rfl rfl ?_)
  refine w_tword 0 hb (by decide) hA ok rfl fun hA1 => ?_
  refine w_ck 0 hA1 ok rfl rfl rfl ?_
  refine w_ckn rfl ?_
  refine ck_cell hA1 ok hc ?_
  by_cases h : A.rawF (dw x.at_ x.victim 0) = x.t
  · refine wp_false (ibnf h) ?_
    rw [if_pos h]
    exact wp_ret_of ⟨rfl, rfl, hA1⟩
  · refine wp_true (ibne h) ?_
    rw [if_neg h]
    refine w_cell hA1 ok hc ?_
    refine w_tnone hA1 ok ?_
    exact wp_ret_of ⟨rfl, rfl, hA1⟩
theorem takes_spec (hb : x.bnd) (hA : Aw I A) (ok : Ok I G (keys ((b, oc ty_thief_Steal (tsC x q s m)) :: rest))) (hc : (c, oc ty_p_thief_Steal (cellO b)) ∈ (b, oc ty_thief_Steal (tsC x q s m)) :: rest) :
    SpecF Tryz.prog f_thief_Steal_takes_1 #[.pointer (aI I), .pointer (some ⟨c, 0, none⟩)] (own A ((b, oc ty_thief_Steal (tsC x q s m)) :: rest) G) (OneP b rest q m { x with ok := A.swapRb (dw x.at_ x.victim 0) x.t } s (A.swapR (dw x.at_ x.victim 0) x.t (w64 (x.t + 1))) I G) := by
  refine t_thief_Steal_takes_1_spec fun L => ?_
  unfold t_thief_Steal_takes_1
  refine w_cell hA ok hc (w_cell hA ok hc ?_)
  refine wp_nil.2 (w_ld 0 (x := x.at_) hA ok rfl rfl rfl ?_)
  refine w_cell hA ok hc ?_
  refine wp_nil.2 (w_ld 0 (x := x.victim) hA ok rfl rfl rfl ?_)
  refine wp_qcall_det (x := dw x.at_ x.victim 0) (DWord_det _ _ _ hb.a hb.w (by decide) _) ?_
  refine w_cell hA ok hc ?_
  refine wp_nil.2 (w_ld 0 (x := x.t) hA ok rfl rfl rfl ?_)
  refine w_cell hA ok hc ?_
  refine wp_nil.2 (w_ld 0 (x := x.t) hA ok rfl rfl rfl ?_)
  refine w_SwapRaw hA fun hA1 => ?_
  refine ck_cell hA1 ok hc ?_
  refine wp_nil.2 (w_st 0 hA1 ok rfl rfl rfl rfl ?_)
  exact wp_ret_of ⟨rfl, rfl, hA1⟩
theorem loads_spec (hb : x.bnd) (hA : Aw I A) (ok : Ok I G (keys ((b, oc ty_thief_Steal (tsC x q s m)) :: rest))) (hc : (c, oc ty_p_thief_Steal (cellO b)) ∈ (b, oc ty_thief_Steal (tsC x q s m)) :: rest) :
    SpecF Tryz.prog f_thief_Steal_loads_1 #[.pointer (aI I), .pointer (some ⟨c, 0, none⟩)] (own A ((b, oc ty_thief_Steal (tsC x q s m)) :: rest) G) (OneP b rest q m { x with v := A.loadF x.h (wordF x.h x.t) } s (A.touch x.h (wordF x.h x.t)) I G) := by
  refine t_thief_Steal_loads_1_spec fun L => ?_
  unfold t_thief_Steal_loads_1
  refine w_cell hA ok hc (w_cell hA ok hc ?_)
  refine wp_nil.2 (w_ld 0 (x := x.h) hA ok rfl rfl rfl ?_)
  refine w_cell hA ok hc ?_
  refine wp_nil.2 (w_ld 0 (x := x.h) hA ok rfl rfl rfl ?_)
  refine w_cell hA ok hc ?_
  refine wp_nil.2 (w_ld 0 (x := x.t) hA ok rfl rfl rfl ?_)
  refine wp_call_det (x := wordF x.h x.t) (RWord_det _ _ _) ?_
  refine w_ck 0 hA ok rfl rfl rfl ?_
  refine w_ckn rfl ?_
  refine ck_cell hA ok hc (ck_cell hA ok hc ?_)
  refine w_Load hA fun hA1 => ?_
  refine ck_cell hA1 ok hc ?_
  refine wp_nil.2 (w_st 0 hA1 ok rfl rfl rfl rfl ?_)
  exact wp_ret_of ⟨rfl, rfl, hA1⟩
theorem keys_spec (hb : x.bnd) (hA : Aw I A) (ok : Ok I G (keys ((b, oc ty_thief_Steal (tsC x q s m)) :: rest))) (hc : (c, oc ty_p_thief_Steal (cellO b)) ∈ (b, oc ty_thief_Steal (tsC x q s m)) :: rest) :
    SpecF Tryz.prog f_thief_Steal_keys_1 #[.pointer (aI I), .pointer (some ⟨c, 0, none⟩)] (own A ((b, oc ty_thief_Steal (tsC x q s m)) :: rest) G) (OneP b rest q m x (if aheadF (A.loadF x.v x.keyAt) x.before = true then s else ⟨none, 0, 0⟩) (A.touch x.v x.keyAt) I G) := by
  refine t_thief_Steal_keys_1_spec fun L => ?_
  unfold t_thief_Steal_keys_1
  refine w_cell hA ok hc ?_
  refine wp_nil.2 (w_ld 0 (x := x.v) hA ok rfl rfl rfl ?_)
  refine w_cell hA ok hc ?_
  refine wp_nil.2 (w_ld 0 (x := x.keyAt) hA ok rfl rfl rfl ?_)
  refine w_cell hA ok hc ?_
  refine wp_nil.2 (w_ld 0 (x := x.before) hA ok rfl rfl rfl ?_)
  refine w_Load hA fun hA1 => ?_
  refine w_ck 0 hA1 ok rfl rfl rfl ?_
  refine w_ckn rfl ?_
  refine ck_cell hA1 ok hc ?_
  refine wp_call_det (x := aheadF (A.loadF x.v x.keyAt) x.before) (Ahead_det _ _ _) ?_
  cases hk : aheadF (A.loadF x.v x.keyAt) x.before with
  | true =>
    refine wp_false rfl ?_
    exact wp_ret_of ⟨rfl, rfl, hA1⟩
  | false =>
    refine wp_true rfl ?_
    refine w_cell hA1 ok hc ?_
    refine w_tnone hA1 ok ?_
    exact wp_ret_of ⟨rfl, rfl, hA1⟩
end
def stepV (f : FuncId) (b : Nat) : Value := .func (.func f) #[(.pointer (some ⟨b, 0, none⟩))] #[]
theorem eqTm0 (u : TypeId) : opS Tryz.prog (.binOp .eql ty_thief_machine (.tmp 0) (.const .nilIface) ty_thief_machine) u [.nilIface] = .pure (.value (.bool true)) := by kernel_rfl
theorem neTm0 (u : TypeId) : opS Tryz.prog (.binOp .neq ty_thief_machine (.tmp 0) (.const .nilIface) ty_thief_machine) u [.nilIface] = .pure (.value (.bool false)) := by kernel_rfl
theorem eqTmP (t : TypeId) (p : Option Addr) (u : TypeId) : opS Tryz.prog (.binOp .eql ty_thief_machine (.tmp 0) (.const .nilIface) ty_thief_machine) u [.iface t (.pointer p)] = .pure (.value (.bool false)) := by kernel_rfl
theorem neTmP (t : TypeId) (p : Option Addr) (u : TypeId) : opS Tryz.prog (.binOp .neq ty_thief_machine (.tmp 0) (.const .nilIface) ty_thief_machine) u [.iface t (.pointer p)] = .pure (.value (.bool true)) := by kernel_rfl
theorem eqTmF (t : TypeId) (f : Fn) (x y : Array Value) (u : TypeId) : opS Tryz.prog (.binOp .eql ty_thief_machine (.tmp 0) (.const .nilIface) ty_thief_machine) u [.iface t (.func f x y)] = .pure (.value (.bool false)) := by kernel_rfl
theorem neTmF (t : TypeId) (f : Fn) (x y : Array Value) (u : TypeId) : opS Tryz.prog (.binOp .neq ty_thief_machine (.tmp 0) (.const .nilIface) ty_thief_machine) u [.iface t (.func f x y)] = .pure (.value (.bool true)) := by kernel_rfl
section
variable {L : Hands} {R : Value → Heap → Prop} {G : Heap} {l rest : Bl} {A A' : Ar} {I : List Nat} {q b c : Nat} {s s' : Sl} {m : Value} {x x' : Ts}
theorem oneStep {f : FuncId} (hop : opS Tryz.prog (.call { callee := .value (.tmp 0), args := #[(.tmp 1)], argTypes := #[ty_p_arena_Arena] }) ty_unit [(.func (.func f) #[] #[(.pointer (some ⟨c, 0, none⟩))]), (.pointer (aI I))] = .pure (.enter f [.pointer (aI I), .pointer (some ⟨c, 0, none⟩)].toArray))
    (spec : SpecF Tryz.prog f #[.pointer (aI I), .pointer (some ⟨c, 0, none⟩)] (own A ((b, oc ty_thief_Steal (tsC x q s m)) :: rest) G) (OneP b rest q m x' s' A' I G)) :
    SpecF Tryz.prog f_thief_one_Step #[.func (.func f) #[] #[(.pointer (some ⟨c, 0, none⟩))], .pointer (aI I)] (own A ((b, oc ty_thief_Steal (tsC x q s m)) :: rest) G) fun v H => v = .bool true ∧ H = own A' ((b, oc ty_thief_Steal (tsC x' q s' m)) :: rest) G ∧ Aw I A' := by
  refine t_thief_one_Step_spec fun L => ?_
  unfold t_thief_one_Step
  refine act_enter hop ?_
  refine wp_call_of spec ?_
  rintro v H ⟨rfl, rfl, a⟩
  exact ⟨(), rfl, wp_ret_of ⟨rfl, rfl, a⟩⟩
theorem mk_reads {k : Value → Tree} (hA : Aw I A) (ok : Ok I G (keys l)) (h : ∀ c : Nat, Ok I G (keys ((c, oc ty_p_thief_Steal (cellO b)) :: l)) → wp Tryz.prog (k (oneV f_thief_Steal_reads_1 c)) L (own A ((c, oc ty_p_thief_Steal (cellO b)) :: l) G) R) :
    wp Tryz.prog (.call f_thief_Steal_reads [.pointer (some ⟨b, 0, none⟩)] (.one (.leaf .val)) k) L (own A l G) R := by
  refine wp_call_of (R0 := fun v H => ∃ c : Nat, v = oneV f_thief_Steal_reads_1 c ∧ H = own A ((c, oc ty_p_thief_Steal (cellO b)) :: l) G ∧ Ok I G (keys ((c, oc ty_p_thief_Steal (cellO b)) :: l))) ?_ ?_
  · refine t_thief_Steal_reads_spec fun L => ?_
    unfold t_thief_Steal_reads
    refine w_newP (c := cellO b) hA ok fun c ok1 => ?_
    exact wp_ret_of ⟨c, rfl, rfl, ok1⟩
  · rintro v H ⟨c, rfl, rfl, o⟩
    exact ⟨_, rfl, h c o⟩
theorem mk_lasts {k : Value → Tree} (hA : Aw I A) (ok : Ok I G (keys l)) (h : ∀ c : Nat, Ok I G (keys ((c, oc ty_p_thief_Steal (cellO b)) :: l)) → wp Tryz.prog (k (oneV f_thief_Steal_lasts_1 c)) L (own A ((c, oc ty_p_thief_Steal (cellO b)) :: l) G) R) :
    wp Tryz.prog (.call f_thief_Steal_lasts [.pointer (some ⟨b, 0, none⟩)] (.one (.leaf .val)) k) L (own A l G) R := by
  refine wp_call_of (R0 := fun v H => ∃ c : Nat, v = oneV f_thief_Steal_lasts_1 c ∧ H = own A ((c, oc ty_p_thief_Steal (cellO b)) :: l) G ∧ Ok I G (keys ((c, oc ty_p_thief_Steal (cellO b)) :: l))) ?_ ?_
  · refine t_thief_Steal_lasts_spec fun L => ?_
    unfold t_thief_Steal_lasts
    refine w_newP (c := cellO b) hA ok fun c ok1 => ?_
    exact wp_ret_of ⟨c, rfl, rfl, ok1⟩
  · rintro v H ⟨c, rfl, rfl, o⟩
    exact ⟨_, rfl, h c o⟩
theorem mk_buffers {k : Value → Tree} (hA : Aw I A) (ok : Ok I G (keys l)) (h : ∀ c : Nat, Ok I G (keys ((c, oc ty_p_thief_Steal (cellO b)) :: l)) → wp Tryz.prog (k (oneV f_thief_Steal_buffers_1 c)) L (own A ((c, oc ty_p_thief_Steal (cellO b)) :: l) G) R) :
    wp Tryz.prog (.call f_thief_Steal_buffers [.pointer (some ⟨b, 0, none⟩)] (.one (.leaf .val)) k) L (own A l G) R := by
  refine wp_call_of (R0 := fun v H => ∃ c : Nat, v = oneV f_thief_Steal_buffers_1 c ∧ H = own A ((c, oc ty_p_thief_Steal (cellO b)) :: l) G ∧ Ok I G (keys ((c, oc ty_p_thief_Steal (cellO b)) :: l))) ?_ ?_
  · refine t_thief_Steal_buffers_spec fun L => ?_
    unfold t_thief_Steal_buffers
    refine w_newP (c := cellO b) hA ok fun c ok1 => ?_
    exact wp_ret_of ⟨c, rfl, rfl, ok1⟩
  · rintro v H ⟨c, rfl, rfl, o⟩
    exact ⟨_, rfl, h c o⟩
theorem mk_loads {k : Value → Tree} (hA : Aw I A) (ok : Ok I G (keys l)) (h : ∀ c : Nat, Ok I G (keys ((c, oc ty_p_thief_Steal (cellO b)) :: l)) → wp Tryz.prog (k (oneV f_thief_Steal_loads_1 c)) L (own A ((c, oc ty_p_thief_Steal (cellO b)) :: l) G) R) :
    wp Tryz.prog (.call f_thief_Steal_loads [.pointer (some ⟨b, 0, none⟩)] (.one (.leaf .val)) k) L (own A l G) R := by
  refine wp_call_of (R0 := fun v H => ∃ c : Nat, v = oneV f_thief_Steal_loads_1 c ∧ H = own A ((c, oc ty_p_thief_Steal (cellO b)) :: l) G ∧ Ok I G (keys ((c, oc ty_p_thief_Steal (cellO b)) :: l))) ?_ ?_
  · refine t_thief_Steal_loads_spec fun L => ?_
    unfold t_thief_Steal_loads
    refine w_newP (c := cellO b) hA ok fun c ok1 => ?_
    exact wp_ret_of ⟨c, rfl, rfl, ok1⟩
  · rintro v H ⟨c, rfl, rfl, o⟩
    exact ⟨_, rfl, h c o⟩
theorem mk_still {k : Value → Tree} (hA : Aw I A) (ok : Ok I G (keys l)) (h : ∀ c : Nat, Ok I G (keys ((c, oc ty_p_thief_Steal (cellO b)) :: l)) → wp Tryz.prog (k (oneV f_thief_Steal_still_1 c)) L (own A ((c, oc ty_p_thief_Steal (cellO b)) :: l) G) R) :
    wp Tryz.prog (.call f_thief_Steal_still [.pointer (some ⟨b, 0, none⟩)] (.one (.leaf .val)) k) L (own A l G) R := by
  refine wp_call_of (R0 := fun v H => ∃ c : Nat, v = oneV f_thief_Steal_still_1 c ∧ H = own A ((c, oc ty_p_thief_Steal (cellO b)) :: l) G ∧ Ok I G (keys ((c, oc ty_p_thief_Steal (cellO b)) :: l))) ?_ ?_
  · refine t_thief_Steal_still_spec fun L => ?_
    unfold t_thief_Steal_still
    refine w_newP (c := cellO b) hA ok fun c ok1 => ?_
    exact wp_ret_of ⟨c, rfl, rfl, ok1⟩
  · rintro v H ⟨c, rfl, rfl, o⟩
    exact ⟨_, rfl, h c o⟩
theorem mk_keys {k : Value → Tree} (hA : Aw I A) (ok : Ok I G (keys l)) (h : ∀ c : Nat, Ok I G (keys ((c, oc ty_p_thief_Steal (cellO b)) :: l)) → wp Tryz.prog (k (oneV f_thief_Steal_keys_1 c)) L (own A ((c, oc ty_p_thief_Steal (cellO b)) :: l) G) R) :
    wp Tryz.prog (.call f_thief_Steal_keys [.pointer (some ⟨b, 0, none⟩)] (.one (.leaf .val)) k) L (own A l G) R := by
  refine wp_call_of (R0 := fun v H => ∃ c : Nat, v = oneV f_thief_Steal_keys_1 c ∧ H = own A ((c, oc ty_p_thief_Steal (cellO b)) :: l) G ∧ Ok I G (keys ((c, oc ty_p_thief_Steal (cellO b)) :: l))) ?_ ?_
  · refine t_thief_Steal_keys_spec fun L => ?_
    unfold t_thief_Steal_keys
    refine w_newP (c := cellO b) hA ok fun c ok1 => ?_
    exact wp_ret_of ⟨c, rfl, rfl, ok1⟩
  · rintro v H ⟨c, rfl, rfl, o⟩
    exact ⟨_, rfl, h c o⟩
theorem mk_takes {k : Value → Tree} (hA : Aw I A) (ok : Ok I G (keys l)) (h : ∀ c : Nat, Ok I G (keys ((c, oc ty_p_thief_Steal (cellO b)) :: l)) → wp Tryz.prog (k (oneV f_thief_Steal_takes_1 c)) L (own A ((c, oc ty_p_thief_Steal (cellO b)) :: l) G) R) :
    wp Tryz.prog (.call f_thief_Steal_takes [.pointer (some ⟨b, 0, none⟩)] (.one (.leaf .val)) k) L (own A l G) R := by
  refine wp_call_of (R0 := fun v H => ∃ c : Nat, v = oneV f_thief_Steal_takes_1 c ∧ H = own A ((c, oc ty_p_thief_Steal (cellO b)) :: l) G ∧ Ok I G (keys ((c, oc ty_p_thief_Steal (cellO b)) :: l))) ?_ ?_
  · refine t_thief_Steal_takes_spec fun L => ?_
    unfold t_thief_Steal_takes
    refine w_newP (c := cellO b) hA ok fun c ok1 => ?_
    exact wp_ret_of ⟨c, rfl, rfl, ok1⟩
  · rintro v H ⟨c, rfl, rfl, o⟩
    exact ⟨_, rfl, h c o⟩
theorem call_enter (p : Option Addr) : opS Tryz.prog (.call { callee := .value (.tmp 0), args := #[], argTypes := #[] }) ty_thief_machine [.func (.func f_thief_Steal_enter) #[(.pointer p)] #[]] = .pure (.enter f_thief_Steal_enter [.pointer p].toArray) := by kernel_rfl
theorem call_reads (p : Option Addr) : opS Tryz.prog (.call { callee := .value (.tmp 0), args := #[], argTypes := #[] }) ty_thief_machine [.func (.func f_thief_Steal_reads) #[(.pointer p)] #[]] = .pure (.enter f_thief_Steal_reads [.pointer p].toArray) := by kernel_rfl
theorem call_lasts (p : Option Addr) : opS Tryz.prog (.call { callee := .value (.tmp 0), args := #[], argTypes := #[] }) ty_thief_machine [.func (.func f_thief_Steal_lasts) #[(.pointer p)] #[]] = .pure (.enter f_thief_Steal_lasts [.pointer p].toArray) := by kernel_rfl
theorem call_buffers (p : Option Addr) : opS Tryz.prog (.call { callee := .value (.tmp 0), args := #[], argTypes := #[] }) ty_thief_machine [.func (.func f_thief_Steal_buffers) #[(.pointer p)] #[]] = .pure (.enter f_thief_Steal_buffers [.pointer p].toArray) := by kernel_rfl
theorem call_holds (p : Option Addr) : opS Tryz.prog (.call { callee := .value (.tmp 0), args := #[], argTypes := #[] }) ty_thief_machine [.func (.func f_thief_Steal_holds) #[(.pointer p)] #[]] = .pure (.enter f_thief_Steal_holds [.pointer p].toArray) := by kernel_rfl
theorem call_again (p : Option Addr) : opS Tryz.prog (.call { callee := .value (.tmp 0), args := #[], argTypes := #[] }) ty_thief_machine [.func (.func f_thief_Steal_again) #[(.pointer p)] #[]] = .pure (.enter f_thief_Steal_again [.pointer p].toArray) := by kernel_rfl
theorem call_loads (p : Option Addr) : opS Tryz.prog (.call { callee := .value (.tmp 0), args := #[], argTypes := #[] }) ty_thief_machine [.func (.func f_thief_Steal_loads) #[(.pointer p)] #[]] = .pure (.enter f_thief_Steal_loads [.pointer p].toArray) := by kernel_rfl
theorem call_still (p : Option Addr) : opS Tryz.prog (.call { callee := .value (.tmp 0), args := #[], argTypes := #[] }) ty_thief_machine [.func (.func f_thief_Steal_still) #[(.pointer p)] #[]] = .pure (.enter f_thief_Steal_still [.pointer p].toArray) := by kernel_rfl
theorem call_keeps (p : Option Addr) : opS Tryz.prog (.call { callee := .value (.tmp 0), args := #[], argTypes := #[] }) ty_thief_machine [.func (.func f_thief_Steal_keeps) #[(.pointer p)] #[]] = .pure (.enter f_thief_Steal_keeps [.pointer p].toArray) := by kernel_rfl
theorem call_more (p : Option Addr) : opS Tryz.prog (.call { callee := .value (.tmp 0), args := #[], argTypes := #[] }) ty_thief_machine [.func (.func f_thief_Steal_more) #[(.pointer p)] #[]] = .pure (.enter f_thief_Steal_more [.pointer p].toArray) := by kernel_rfl
theorem call_keys (p : Option Addr) : opS Tryz.prog (.call { callee := .value (.tmp 0), args := #[], argTypes := #[] }) ty_thief_machine [.func (.func f_thief_Steal_keys) #[(.pointer p)] #[]] = .pure (.enter f_thief_Steal_keys [.pointer p].toArray) := by kernel_rfl
theorem call_takes (p : Option Addr) : opS Tryz.prog (.call { callee := .value (.tmp 0), args := #[], argTypes := #[] }) ty_thief_machine [.func (.func f_thief_Steal_takes) #[(.pointer p)] #[]] = .pure (.enter f_thief_Steal_takes [.pointer p].toArray) := by kernel_rfl
end
section
variable {L : Hands} {R : Value → Heap → Prop} {G : Heap} {rest : Bl} {A : Ar} {I : List Nat} {g : Gd} {q mq b c : Nat} {s : Sl} {m : Value} {x : Ts} {e : List LE}
theorem neGm (t : TypeId) (p : Option Addr) (u : TypeId) : opS Tryz.prog (.binOp .neq ty_guard_Machine (.tmp 0) (.const .nilIface) ty_guard_Machine) u [.iface t (.pointer p)] = .pure (.value (.bool true)) := by kernel_rfl
theorem neGm0 (u : TypeId) : opS Tryz.prog (.binOp .neq ty_guard_Machine (.tmp 0) (.const .nilIface) ty_guard_Machine) u [.nilIface] = .pure (.value (.bool false)) := by kernel_rfl
theorem w_kept {n h : Int} {k : Value → Tree} (bd : 0 ≤ g.ta ∧ g.ta ≤ 1000000 ∧ 0 ≤ x.work ∧ x.work ≤ 1000 ∧ 0 ≤ n ∧ n ≤ 1000) (hA : Aw I A) (ok : Ok I G (keys (g.bl q mq e ++ ((b, oc ty_thief_Steal (tsC x q s m)) :: rest))))
    (h1 : g.ep = false → ∀ j : SeJ, Ok I G (keys (g.bl q mq e ++ (Se.bl ⟨[g.ta + 2 * x.work + n], h⟩ j ++ ((b, oc ty_thief_Steal (tsC x q s m)) :: rest)))) → mSe.rep ⟨[g.ta + 2 * x.work + n], h⟩ j → wp Tryz.prog (k (.iface ty_p_guard_sets (.pointer (some ⟨j.q, 0, none⟩)))) L (own A (g.bl q mq e ++ (Se.bl ⟨[g.ta + 2 * x.work + n], h⟩ j ++ ((b, oc ty_thief_Steal (tsC x q s m)) :: rest))) G) R)
    (h2 : g.ep = true → wp Tryz.prog (k .nilIface) L (own A (g.bl q mq e ++ ((b, oc ty_thief_Steal (tsC x q s m)) :: rest)) G) R) :
    wp Tryz.prog (.call f_thief_Steal_kept [.pointer (some ⟨b, 0, none⟩), .int .i64 n, .int .i64 h] (.one (.leaf .val)) k) L (own A (g.bl q mq e ++ ((b, oc ty_thief_Steal (tsC x q s m)) :: rest)) G) R := by
  have hm : (b, oc ty_thief_Steal (tsC x q s m)) ∈ g.bl q mq e ++ ((b, oc ty_thief_Steal (tsC x q s m)) :: rest) := List.mem_append_right _ List.mem_cons_self
  refine wp_call_of (R0 := fun v H => (g.ep = false ∧ ∃ j : SeJ, v = .iface ty_p_guard_sets (.pointer (some ⟨j.q, 0, none⟩)) ∧ H = own A (g.bl q mq e ++ (Se.bl ⟨[g.ta + 2 * x.work + n], h⟩ j ++ ((b, oc ty_thief_Steal (tsC x q s m)) :: rest))) G ∧ Ok I G (keys (g.bl q mq e ++ (Se.bl ⟨[g.ta + 2 * x.work + n], h⟩ j ++ ((b, oc ty_thief_Steal (tsC x q s m)) :: rest)))) ∧ mSe.rep ⟨[g.ta + 2 * x.work + n], h⟩ j) ∨ (g.ep = true ∧ v = .nilIface ∧ H = own A (g.bl q mq e ++ ((b, oc ty_thief_Steal (tsC x q s m)) :: rest)) G)) ?_ ?_
  · refine t_thief_Steal_kept_spec fun L => ?_
    unfold t_thief_Steal_kept
    refine wp_nil.2 (w_ldm (x := some ⟨q, 0, none⟩) hA ok rfl hm rfl ?_)
    refine wp_nil.2 (w_ldm (x := x.work) hA ok rfl hm rfl ?_)
    refine w_GProtect bd hA ok (fun he j ok1 rp => ?_) fun he => ?_
    · refine look_val (x := true) (neGm _ _ _) (wp_true rfl ?_)
      exact wp_ret_of (.inl ⟨he, j, rfl, rfl, ok1, rp⟩)
    · refine look_val (x := false) (neGm0 _) (wp_false rfl ?_)
      exact wp_ret_of (.inr ⟨he, rfl, rfl⟩)
  · rintro v H (⟨he, j, rfl, rfl, o, rp⟩ | ⟨he, rfl, rfl⟩)
    · exact ⟨_, rfl, h1 he j o rp⟩
    · exact ⟨_, rfl, h2 he⟩
theorem w_tenter {k : Value → Tree} (hA : Aw I A) (ok : Ok I G (keys (g.bl q mq e ++ ((b, oc ty_thief_Steal (tsC x q s m)) :: rest))))
    (h1 : g.ep = true → ∀ z : Nat, Ok I G (keys (g.bl q mq e ++ ((newPn g.w g.ta x.work).bl z ++ ((b, oc ty_thief_Steal (tsC x q s m)) :: rest)))) → wp Tryz.prog (k (.iface ty_p_epoch_Pin (.pointer (some ⟨z, 0, none⟩)))) L (own A (g.bl q mq e ++ ((newPn g.w g.ta x.work).bl z ++ ((b, oc ty_thief_Steal (tsC x q s m)) :: rest))) G) R)
    (h2 : g.ep = false → wp Tryz.prog (k .nilIface) L (own A (g.bl q mq e ++ ((b, oc ty_thief_Steal (tsC x q s m)) :: rest)) G) R) :
    wp Tryz.prog (.call f_thief_Steal_enter [.pointer (some ⟨b, 0, none⟩)] (.one (.leaf .val)) k) L (own A (g.bl q mq e ++ ((b, oc ty_thief_Steal (tsC x q s m)) :: rest)) G) R := by
  have hm : (b, oc ty_thief_Steal (tsC x q s m)) ∈ g.bl q mq e ++ ((b, oc ty_thief_Steal (tsC x q s m)) :: rest) := List.mem_append_right _ List.mem_cons_self
  refine wp_call_of (R0 := fun v H => (g.ep = true ∧ ∃ z : Nat, v = .iface ty_p_epoch_Pin (.pointer (some ⟨z, 0, none⟩)) ∧ H = own A (g.bl q mq e ++ ((newPn g.w g.ta x.work).bl z ++ ((b, oc ty_thief_Steal (tsC x q s m)) :: rest))) G ∧ Ok I G (keys (g.bl q mq e ++ ((newPn g.w g.ta x.work).bl z ++ ((b, oc ty_thief_Steal (tsC x q s m)) :: rest))))) ∨ (g.ep = false ∧ v = .nilIface ∧ H = own A (g.bl q mq e ++ ((b, oc ty_thief_Steal (tsC x q s m)) :: rest)) G)) ?_ ?_
  · refine t_thief_Steal_enter_spec fun L => ?_
    unfold t_thief_Steal_enter
    refine wp_nil.2 (w_ldm (x := some ⟨q, 0, none⟩) hA ok rfl hm rfl ?_)
    refine wp_nil.2 (w_ldm (x := x.work) hA ok rfl hm rfl ?_)
    refine w_GEnter hA ok (fun he z ok1 => ?_) fun he => ?_
    · refine look_val (x := true) (neGm _ _ _) (wp_true rfl ?_)
      exact wp_ret_of (.inl ⟨he, z, rfl, rfl, ok1⟩)
    · refine look_val (x := false) (neGm0 _) (wp_false rfl ?_)
      exact wp_ret_of (.inr ⟨he, rfl, rfl⟩)
  · rintro v H (⟨he, z, rfl, rfl, o⟩ | ⟨he, rfl, rfl⟩)
    · exact ⟨_, rfl, h1 he z o⟩
    · exact ⟨_, rfl, h2 he⟩
end
def eF (b : Nat) : Enc FuncId := ⟨1, fun f => [stepV f b], fun _ => rfl, fun x v h => by simp at h; subst h; rfl⟩
theorem elFn : ElOk ty_s_func_thief_machine ty_func_thief_machine 1 := ⟨⟨_, _, rfl, rfl, rfl, by decide, by decide, rfl, rfl⟩⟩
def steps7 : List FuncId := [f_thief_Steal_enter, f_thief_Steal_reads, f_thief_Steal_lasts, f_thief_Steal_buffers, f_thief_Steal_holds, f_thief_Steal_again, f_thief_Steal_loads]
def steps4 : List FuncId := [f_thief_Steal_still, f_thief_Steal_keeps, f_thief_Steal_more, f_thief_Steal_keys]
def stepsOf (before : Int) : List FuncId := (if before > 0 then steps7 ++ steps4 else steps7) ++ [f_thief_Steal_takes]
section
variable {L : Hands} {R : Value → Heap → Prop} {G : Heap} {l : Bl} {A : Ar} {I : List Nat} {q : Nat}
theorem w_NewSteal {at_ work victim before keyAt : Int} {k : Option Addr → Tree} (hA : Aw I A) (ok : Ok I G (keys l))
    (h : ∀ (b : Nat) (s : Sl) (tl : Bl), SlOf tl ty_func_thief_machine (eF b) s (stepsOf before) → Ok I G (keys ((b, oc ty_thief_Steal (tsC ⟨at_, work, victim, before, keyAt, false, 0, 0, 0, false⟩ q s .nilIface)) :: (tl ++ l))) → wp Tryz.prog (k (some ⟨b, 0, none⟩)) L (own A ((b, oc ty_thief_Steal (tsC ⟨at_, work, victim, before, keyAt, false, 0, 0, 0, false⟩ q s .nilIface)) :: (tl ++ l)) G) R) :
    wp Tryz.prog (.call f_thief_New [.int .i64 at_, .pointer (some ⟨q, 0, none⟩), .int .i64 work, .int .i64 victim, .int .i64 before, .int .i64 keyAt] (.one (.leaf .ptr)) k) L (own A l G) R := by
  obtain ⟨x, hx⟩ : ∃ x : Ts, x = ⟨at_, work, victim, before, keyAt, false, 0, 0, 0, false⟩ := ⟨_, rfl⟩
  rw [← hx] at h
  refine wp_call_of (R0 := fun v H => ∃ (b : Nat) (s : Sl) (tl : Bl), v = .pointer (some ⟨b, 0, none⟩) ∧ H = own A ((b, oc ty_thief_Steal (tsC x q s .nilIface)) :: (tl ++ l)) G ∧ SlOf tl ty_func_thief_machine (eF b) s (stepsOf before) ∧ Ok I G (keys ((b, oc ty_thief_Steal (tsC x q s .nilIface)) :: (tl ++ l)))) ?_ ?_
  rotate_left
  · rintro v H ⟨b, s, tl, rfl, rfl, hs, o⟩
    exact ⟨_, rfl, h b s tl hs o⟩
  refine t_thief_New_spec fun L => ?_
  unfold t_thief_New
  rw [hx]
  refine w_newP (T := ty_thief_Steal) (c := tsC ⟨at_, work, victim, before, keyAt, false, 0, 0, 0, false⟩ q ⟨none, 0, 0⟩ .nilIface) hA ok fun b ok1 => ?_
  · skip
    refine w_newS (c := (eF b).all steps7) hA ok1 fun z ok2 => ?_
    have ok2 : Ok I G (keys ((z, oc ty_func_thief_machine ((eF b).all steps7)) :: (b, oc ty_thief_Steal (tsC ⟨at_, work, victim, before, keyAt, false, 0, 0, 0, false⟩ q ⟨none, 0, 0⟩ .nilIface)) :: l)) := ok2
    refine wp_nil.2 (w_st 1 hA ok2 rfl rfl rfl rfl ?_)
    have ok3 : Ok I G (keys ((z, oc ty_func_thief_machine ((eF b).all steps7)) :: (b, oc ty_thief_Steal (tsC ⟨at_, work, victim, before, keyAt, false, 0, 0, 0, false⟩ q ⟨some ⟨z, 0, none⟩, 7, 7⟩ .nilIface)) :: l)) := ok2
    show wp Tryz.prog _ L (own A ((z, oc ty_func_thief_machine ((eF b).all steps7)) :: (b, oc ty_thief_Steal (tsC ⟨at_, work, victim, before, keyAt, false, 0, 0, 0, false⟩ q ⟨some ⟨z, 0, none⟩, 7, 7⟩ .nilIface)) :: l) G) _
    obtain ⟨p1, ok4⟩ := own_perm (A := A) (l' := [(b, oc ty_thief_Steal (tsC ⟨at_, work, victim, before, keyAt, false, 0, 0, 0, false⟩ q ⟨some ⟨z, 0, none⟩, 7, 7⟩ .nilIface))] ++ ([(z, oc ty_func_thief_machine ((eF b).all steps7))] ++ l)) ok3 (perm_by fun c d c0 cd ca => by simp only [List.cons_append, List.nil_append, cd, ca]; omega)
    rw [p1]
    have s7 : SlOf [(z, oc ty_func_thief_machine ((eF b).all steps7))] ty_func_thief_machine (eF b) ⟨some ⟨z, 0, none⟩, 7, 7⟩ steps7 := .inr ⟨z, [], 0, rfl, rfl, by rw [List.append_nil]; exact List.mem_cons_self⟩
    -- the last one
    have last : ∀ (s : Sl) (tl : Bl) (fs : List FuncId), fs ++ [f_thief_Steal_takes] = stepsOf before → fs.length ≤ 20 → SlOf tl ty_func_thief_machine (eF b) s fs → Ok I G (keys ([(b, oc ty_thief_Steal (tsC ⟨at_, work, victim, before, keyAt, false, 0, 0, 0, false⟩ q s .nilIface))] ++ (tl ++ l))) →
        wp Tryz.prog (.look (opS Tryz.prog (.nilCheck (.tmp 0)) ty_unit [(.pointer (some ⟨b, 0, none⟩))]) (.one (.leaf .addr)) fun x61 =>
          .ld (x61.add 6) .slice fun x63 =>
          .newS (.cells #[(.func (.func f_thief_Steal_takes) #[(.pointer (some ⟨b, 0, none⟩))] #[])] ty_func_thief_machine) 1 fun x66 =>
          .act (opS Tryz.prog (.call { callee := .builtin .append, args := #[(.tmp 0), (.tmp 1)], argTypes := #[ty_s_func_thief_machine, ty_s_func_thief_machine] }) ty_s_func_thief_machine [(.slice x63.a x63.len x63.cap), (.slice x66.a x66.len x66.cap)]) (.one (.leaf .slice)) fun x67 =>
          .look (opS Tryz.prog (.nilCheck (.tmp 0)) ty_unit [(.pointer (some ⟨b, 0, none⟩))]) (.one (.leaf .addr)) fun x68 =>
          .st (x68.add 6) (.slice x67.a x67.len x67.cap) <|
          .ret (.pointer (some ⟨b, 0, none⟩))) L (own A ([(b, oc ty_thief_Steal (tsC ⟨at_, work, victim, before, keyAt, false, 0, 0, 0, false⟩ q s .nilIface))] ++ (tl ++ l)) G) (fun v H => ∃ (b : Nat) (s : Sl) (tl : Bl), v = .pointer (some ⟨b, 0, none⟩) ∧ H = own A ((b, oc ty_thief_Steal (tsC ⟨at_, work, victim, before, keyAt, false, 0, 0, 0, false⟩ q s .nilIface)) :: (tl ++ l)) G ∧ SlOf tl ty_func_thief_machine (eF b) s (stepsOf before) ∧ Ok I G (keys ((b, oc ty_thief_Steal (tsC ⟨at_, work, victim, before, keyAt, false, 0, 0, 0, false⟩ q s .nilIface)) :: (tl ++ l)))) := fun s tl fs hf hl hs o => by
      refine wp_nil.2 (w_ld 0 (x := s) hA o rfl rfl rfl ?_)
      refine w_newS (c := (eF b).all [f_thief_Steal_takes]) hA o fun y o1 => ?_
      obtain ⟨p2, o2⟩ := own_perm (A := A) (l' := [(b, oc ty_thief_Steal (tsC ⟨at_, work, victim, before, keyAt, false, 0, 0, 0, false⟩ q s .nilIface))] ++ (tl ++ (l ++ [(y, oc ty_func_thief_machine ((eF b).all [f_thief_Steal_takes]))]))) o1 (perm_by fun c d c0 cd ca => by simp only [List.cons_append, List.nil_append, cd, ca, c0]; omega)
      rw [p2]
      refine w_appM (E := eF b) elFn [(b, oc ty_thief_Steal (tsC ⟨at_, work, victim, before, keyAt, false, 0, 0, 0, false⟩ q s .nilIface))] (xs := fs) (ys := [f_thief_Steal_takes]) (t := ⟨some ⟨y, 0, none⟩, 1, 1⟩) hA o2 hs ?_ rfl (by show fs.length + 1 ≤ _; omega) fun s' mid' hs' o3 => ?_
      · exact cell_row (c := (eF b).all [f_thief_Steal_takes]) hA o2 (List.mem_append_right _ (List.mem_append_right _ (List.mem_append_right _ List.mem_cons_self))) 0 rfl
      refine wp_nil.2 (w_st 0 hA o3 rfl rfl rfl rfl ?_)
      rw [hf] at hs'
      have o3 : Ok I G (keys ((b, oc ty_thief_Steal (tsC ⟨at_, work, victim, before, keyAt, false, 0, 0, 0, false⟩ q s' .nilIface)) :: (mid' ++ (l ++ [(y, oc ty_func_thief_machine ((eF b).all [f_thief_Steal_takes]))])))) := o3
      show wp Tryz.prog _ L (own A ((b, oc ty_thief_Steal (tsC ⟨at_, work, victim, before, keyAt, false, 0, 0, 0, false⟩ q s' .nilIface)) :: (mid' ++ (l ++ [(y, oc ty_func_thief_machine ((eF b).all [f_thief_Steal_takes]))]))) G) _
      obtain ⟨p3, o4⟩ := own_perm (A := A) (l' := (b, oc ty_thief_Steal (tsC ⟨at_, work, victim, before, keyAt, false, 0, 0, 0, false⟩ q s' .nilIface)) :: (((y, oc ty_func_thief_machine ((eF b).all [f_thief_Steal_takes])) :: mid') ++ l)) o3 (perm_by fun c d c0 cd ca => by simp only [List.cons_append, cd, ca, c0]; omega)
      rw [p3]
      exact wp_ret_of ⟨b, s', _, rfl, rfl, hs'.mono fun p hp => List.mem_cons_of_mem _ hp, o4⟩
    by_cases hb : before > 0
    · refine wp_true (decide_eq_true hb) ?_
      refine wp_nil.2 (w_ld 0 (x := ⟨some ⟨z, 0, none⟩, 7, 7⟩) hA ok4 rfl rfl rfl ?_)
      refine w_newS (c := (eF b).all steps4) hA ok4 fun y o1 => ?_
      obtain ⟨p2, o2⟩ := own_perm (A := A) (l' := [(b, oc ty_thief_Steal (tsC ⟨at_, work, victim, before, keyAt, false, 0, 0, 0, false⟩ q ⟨some ⟨z, 0, none⟩, 7, 7⟩ .nilIface))] ++ ([(z, oc ty_func_thief_machine ((eF b).all steps7))] ++ (l ++ [(y, oc ty_func_thief_machine ((eF b).all steps4))]))) o1 (perm_by fun c d c0 cd ca => by simp only [List.cons_append, List.nil_append, cd, ca, c0]; omega)
      rw [p2]
      refine w_appM (E := eF b) elFn [(b, oc ty_thief_Steal (tsC ⟨at_, work, victim, before, keyAt, false, 0, 0, 0, false⟩ q ⟨some ⟨z, 0, none⟩, 7, 7⟩ .nilIface))] (xs := steps7) (ys := steps4) (t := ⟨some ⟨y, 0, none⟩, 4, 4⟩) hA o2 s7 ?_ rfl (by decide) fun s' mid' hs' o3 => ?_
      · exact cell_row (c := (eF b).all steps4) hA o2 (List.mem_append_right _ (List.mem_append_right _ (List.mem_append_right _ List.mem_cons_self))) 0 rfl
      refine wp_nil.2 (w_st 0 hA o3 rfl rfl rfl rfl ?_)
      have o3 : Ok I G (keys ((b, oc ty_thief_Steal (tsC ⟨at_, work, victim, before, keyAt, false, 0, 0, 0, false⟩ q s' .nilIface)) :: (mid' ++ (l ++ [(y, oc ty_func_thief_machine ((eF b).all steps4))])))) := o3
      show wp Tryz.prog _ L (own A ((b, oc ty_thief_Steal (tsC ⟨at_, work, victim, before, keyAt, false, 0, 0, 0, false⟩ q s' .nilIface)) :: (mid' ++ (l ++ [(y, oc ty_func_thief_machine ((eF b).all steps4))]))) G) _
      obtain ⟨p3, o4⟩ := own_perm (A := A) (l' := [(b, oc ty_thief_Steal (tsC ⟨at_, work, victim, before, keyAt, false, 0, 0, 0, false⟩ q s' .nilIface))] ++ (((y, oc ty_func_thief_machine ((eF b).all steps4)) :: mid') ++ l)) o3 (perm_by fun c d c0 cd ca => by simp only [List.cons_append, List.nil_append, cd, ca, c0]; omega)
      rw [p3]
      exact last s' _ (steps7 ++ steps4) (by unfold stepsOf; rw [if_pos hb]) (by decide) (hs'.mono fun p hp => List.mem_cons_of_mem _ hp) o4
    · refine wp_false (decide_eq_false hb) ?_
      exact last _ _ steps7 (by unfold stepsOf; rw [if_neg hb]) (by decide) s7 ok4
end
section
variable {L : Hands} {R : Value → Heap → Prop} {G : Heap} {rest : Bl} {A : Ar} {I : List Nat} {g : Gd} {q mq b c : Nat} {s : Sl} {m : Value} {x : Ts} {e : List LE}
theorem w_tholds {k : Value → Tree} (bd : 0 ≤ g.ta ∧ g.ta ≤ 1000000 ∧ 0 ≤ x.work ∧ x.work ≤ 1000) (hA : Aw I A) (ok : Ok I G (keys (g.bl q mq e ++ ((b, oc ty_thief_Steal (tsC x q s m)) :: rest))))
    (h1 : g.ep = false → ∀ j : SeJ, Ok I G (keys (g.bl q mq e ++ (Se.bl ⟨[g.ta + 2 * x.work + 0], x.h⟩ j ++ ((b, oc ty_thief_Steal (tsC x q s m)) :: rest)))) → mSe.rep ⟨[g.ta + 2 * x.work + 0], x.h⟩ j → wp Tryz.prog (k (.iface ty_p_guard_sets (.pointer (some ⟨j.q, 0, none⟩)))) L (own A (g.bl q mq e ++ (Se.bl ⟨[g.ta + 2 * x.work + 0], x.h⟩ j ++ ((b, oc ty_thief_Steal (tsC x q s m)) :: rest))) G) R)
    (h2 : g.ep = true → wp Tryz.prog (k .nilIface) L (own A (g.bl q mq e ++ ((b, oc ty_thief_Steal (tsC x q s m)) :: rest)) G) R) :
    wp Tryz.prog (.call f_thief_Steal_holds [.pointer (some ⟨b, 0, none⟩)] (.one (.leaf .val)) k) L (own A (g.bl q mq e ++ ((b, oc ty_thief_Steal (tsC x q s m)) :: rest)) G) R := by
  have hm : (b, oc ty_thief_Steal (tsC x q s m)) ∈ g.bl q mq e ++ ((b, oc ty_thief_Steal (tsC x q s m)) :: rest) := List.mem_append_right _ List.mem_cons_self
  refine wp_call_of (R0 := fun v H => (g.ep = false ∧ ∃ j : SeJ, v = .iface ty_p_guard_sets (.pointer (some ⟨j.q, 0, none⟩)) ∧ H = own A (g.bl q mq e ++ (Se.bl ⟨[g.ta + 2 * x.work + 0], x.h⟩ j ++ ((b, oc ty_thief_Steal (tsC x q s m)) :: rest))) G ∧ Ok I G (keys (g.bl q mq e ++ (Se.bl ⟨[g.ta + 2 * x.work + 0], x.h⟩ j ++ ((b, oc ty_thief_Steal (tsC x q s m)) :: rest)))) ∧ mSe.rep ⟨[g.ta + 2 * x.work + 0], x.h⟩ j) ∨ (g.ep = true ∧ v = .nilIface ∧ H = own A (g.bl q mq e ++ ((b, oc ty_thief_Steal (tsC x q s m)) :: rest)) G)) ?_ ?_
  · refine t_thief_Steal_holds_spec fun L => ?_
    unfold t_thief_Steal_holds
    refine wp_nil.2 (w_ldm (x := x.h) hA ok rfl hm rfl ?_)
    refine w_kept (n := 0) ⟨bd.1, bd.2.1, bd.2.2.1, bd.2.2.2, by decide, by decide⟩ hA ok (fun he j ok1 rp => ?_) fun he => ?_
    · exact wp_ret_of (.inl ⟨he, j, rfl, rfl, ok1, rp⟩)
    · exact wp_ret_of (.inr ⟨he, rfl, rfl⟩)
  · rintro v H (⟨he, j, rfl, rfl, o, rp⟩ | ⟨he, rfl, rfl⟩)
    · exact ⟨_, rfl, h1 he j o rp⟩
    · exact ⟨_, rfl, h2 he⟩
theorem w_tkeeps {k : Value → Tree} (bd : 0 ≤ g.ta ∧ g.ta ≤ 1000000 ∧ 0 ≤ x.work ∧ x.work ≤ 1000) (hA : Aw I A) (ok : Ok I G (keys (g.bl q mq e ++ ((b, oc ty_thief_Steal (tsC x q s m)) :: rest))))
    (h1 : g.ep = false → ∀ j : SeJ, Ok I G (keys (g.bl q mq e ++ (Se.bl ⟨[g.ta + 2 * x.work + 1], x.v⟩ j ++ ((b, oc ty_thief_Steal (tsC x q s m)) :: rest)))) → mSe.rep ⟨[g.ta + 2 * x.work + 1], x.v⟩ j → wp Tryz.prog (k (.iface ty_p_guard_sets (.pointer (some ⟨j.q, 0, none⟩)))) L (own A (g.bl q mq e ++ (Se.bl ⟨[g.ta + 2 * x.work + 1], x.v⟩ j ++ ((b, oc ty_thief_Steal (tsC x q s m)) :: rest))) G) R)
    (h2 : g.ep = true → wp Tryz.prog (k .nilIface) L (own A (g.bl q mq e ++ ((b, oc ty_thief_Steal (tsC x q s m)) :: rest)) G) R) :
    wp Tryz.prog (.call f_thief_Steal_keeps [.pointer (some ⟨b, 0, none⟩)] (.one (.leaf .val)) k) L (own A (g.bl q mq e ++ ((b, oc ty_thief_Steal (tsC x q s m)) :: rest)) G) R := by
  have hm : (b, oc ty_thief_Steal (tsC x q s m)) ∈ g.bl q mq e ++ ((b, oc ty_thief_Steal (tsC x q s m)) :: rest) := List.mem_append_right _ List.mem_cons_self
  refine wp_call_of (R0 := fun v H => (g.ep = false ∧ ∃ j : SeJ, v = .iface ty_p_guard_sets (.pointer (some ⟨j.q, 0, none⟩)) ∧ H = own A (g.bl q mq e ++ (Se.bl ⟨[g.ta + 2 * x.work + 1], x.v⟩ j ++ ((b, oc ty_thief_Steal (tsC x q s m)) :: rest))) G ∧ Ok I G (keys (g.bl q mq e ++ (Se.bl ⟨[g.ta + 2 * x.work + 1], x.v⟩ j ++ ((b, oc ty_thief_Steal (tsC x q s m)) :: rest)))) ∧ mSe.rep ⟨[g.ta + 2 * x.work + 1], x.v⟩ j) ∨ (g.ep = true ∧ v = .nilIface ∧ H = own A (g.bl q mq e ++ ((b, oc ty_thief_Steal (tsC x q s m)) :: rest)) G)) ?_ ?_
  · refine t_thief_Steal_keeps_spec fun L => ?_
    unfold t_thief_Steal_keeps
    refine wp_nil.2 (w_ldm (x := x.v) hA ok rfl hm rfl ?_)
    refine w_kept (n := 1) ⟨bd.1, bd.2.1, bd.2.2.1, bd.2.2.2, by decide, by decide⟩ hA ok (fun he j ok1 rp => ?_) fun he => ?_
    · exact wp_ret_of (.inl ⟨he, j, rfl, rfl, ok1, rp⟩)
    · exact wp_ret_of (.inr ⟨he, rfl, rfl⟩)
  · rintro v H (⟨he, j, rfl, rfl, o, rp⟩ | ⟨he, rfl, rfl⟩)
    · exact ⟨_, rfl, h1 he j o rp⟩
    · exact ⟨_, rfl, h2 he⟩
theorem w_tagain {k : Value → Tree} (bd : 0 ≤ g.ta ∧ g.ta ≤ 1000000 ∧ 0 ≤ x.work ∧ x.work ≤ 1000) (hA : Aw I A) (ok : Ok I G (keys (g.bl q mq e ++ ((b, oc ty_thief_Steal (tsC x q s m)) :: rest))))
    (h1 : g.ep = false → ∀ (c : Nat) (gar : Bl), Ok I G (keys (g.bl q mq e ++ ((c, oc ty_p_thief_Steal (cellO b)) :: (gar ++ ((b, oc ty_thief_Steal (tsC x q s m)) :: rest))))) → wp Tryz.prog (k (oneV f_thief_Steal_again_1 c)) L (own A (g.bl q mq e ++ ((c, oc ty_p_thief_Steal (cellO b)) :: (gar ++ ((b, oc ty_thief_Steal (tsC x q s m)) :: rest)))) G) R)
    (h2 : g.ep = true → ∀ gar, Ok I G (keys (g.bl q mq e ++ (gar ++ ((b, oc ty_thief_Steal (tsC x q s m)) :: rest)))) → wp Tryz.prog (k .nilIface) L (own A (g.bl q mq e ++ (gar ++ ((b, oc ty_thief_Steal (tsC x q s m)) :: rest))) G) R) :
    wp Tryz.prog (.call f_thief_Steal_again [.pointer (some ⟨b, 0, none⟩)] (.one (.leaf .val)) k) L (own A (g.bl q mq e ++ ((b, oc ty_thief_Steal (tsC x q s m)) :: rest)) G) R := by
  refine wp_call_of (R0 := fun v H => (g.ep = false ∧ ∃ (c : Nat) (gar : Bl), v = oneV f_thief_Steal_again_1 c ∧ H = own A (g.bl q mq e ++ ((c, oc ty_p_thief_Steal (cellO b)) :: (gar ++ ((b, oc ty_thief_Steal (tsC x q s m)) :: rest)))) G ∧ Ok I G (keys (g.bl q mq e ++ ((c, oc ty_p_thief_Steal (cellO b)) :: (gar ++ ((b, oc ty_thief_Steal (tsC x q s m)) :: rest)))))) ∨
    (g.ep = true ∧ ∃ gar : Bl, v = .nilIface ∧ H = own A (g.bl q mq e ++ (gar ++ ((b, oc ty_thief_Steal (tsC x q s m)) :: rest))) G ∧ Ok I G (keys (g.bl q mq e ++ (gar ++ ((b, oc ty_thief_Steal (tsC x q s m)) :: rest)))))) ?_ ?_
  · refine t_thief_Steal_again_spec fun L => ?_
    unfold t_thief_Steal_again
    refine w_newP (T := ty_p_thief_Steal) (c := cellO b) hA ok fun c ok1 => ?_
    obtain ⟨p1, ok2⟩ := own_perm (A := A) (l' := g.bl q mq e ++ ((b, oc ty_thief_Steal (tsC x q s m)) :: ((c, oc ty_p_thief_Steal (cellO b)) :: rest))) ok1 (perm_by fun d f c0 cd ca => by simp only [cd, ca]; omega)
    rw [p1]
    have hc : (c, oc ty_p_thief_Steal (cellO b)) ∈ g.bl q mq e ++ ((b, oc ty_thief_Steal (tsC x q s m)) :: ((c, oc ty_p_thief_Steal (cellO b)) :: rest)) := List.mem_append_right _ (List.mem_cons_of_mem _ List.mem_cons_self)
    have hm : (b, oc ty_thief_Steal (tsC x q s m)) ∈ g.bl q mq e ++ ((b, oc ty_thief_Steal (tsC x q s m)) :: ((c, oc ty_p_thief_Steal (cellO b)) :: rest)) := List.mem_append_right _ List.mem_cons_self
    refine w_cell hA ok2 hc (w_cell hA ok2 hc ?_)
    refine wp_nil.2 (w_ldm (x := x.h) hA ok2 rfl hm rfl ?_)
    refine w_kept (n := 0) ⟨bd.1, bd.2.1, bd.2.2.1, bd.2.2.2, by decide, by decide⟩ hA ok2 (fun he j ok3 rp => ?_) fun he => ?_
    · refine look_val (x := false) (eqTmP _ _ _) (wp_false rfl ?_)
      obtain ⟨p3, ok4⟩ := own_perm (A := A) (l' := g.bl q mq e ++ ((c, oc ty_p_thief_Steal (cellO b)) :: (Se.bl ⟨[g.ta + 2 * x.work + 0], x.h⟩ j ++ ((b, oc ty_thief_Steal (tsC x q s m)) :: rest)))) ok3 (perm_by fun d f c0 cd ca => by simp only [cd, ca]; omega)
      rw [p3]
      exact wp_ret_of (.inl ⟨he, c, _, rfl, rfl, ok4⟩)
    · refine look_val (x := true) (eqTm0 _) (wp_true rfl ?_)
      obtain ⟨p3, ok4⟩ := own_perm (A := A) (l' := g.bl q mq e ++ ([(c, oc ty_p_thief_Steal (cellO b))] ++ ((b, oc ty_thief_Steal (tsC x q s m)) :: rest))) ok2 (perm_by fun d f c0 cd ca => by simp only [List.cons_append, List.nil_append, cd, ca]; omega)
      rw [p3]
      exact wp_ret_of (.inr ⟨he, _, rfl, rfl, ok4⟩)
  · rintro v H (⟨he, c, gar, rfl, rfl, o⟩ | ⟨he, gar, rfl, rfl, o⟩)
    · exact ⟨_, rfl, h1 he c gar o⟩
    · exact ⟨_, rfl, h2 he gar o⟩
theorem w_tmore {k : Value → Tree} (bd : 0 ≤ g.ta ∧ g.ta ≤ 1000000 ∧ 0 ≤ x.work ∧ x.work ≤ 1000) (hA : Aw I A) (ok : Ok I G (keys (g.bl q mq e ++ ((b, oc ty_thief_Steal (tsC x q s m)) :: rest))))
    (h1 : g.ep = false → ∀ (c : Nat) (gar : Bl), Ok I G (keys (g.bl q mq e ++ ((c, oc ty_p_thief_Steal (cellO b)) :: (gar ++ ((b, oc ty_thief_Steal (tsC x q s m)) :: rest))))) → wp Tryz.prog (k (oneV f_thief_Steal_still_1 c)) L (own A (g.bl q mq e ++ ((c, oc ty_p_thief_Steal (cellO b)) :: (gar ++ ((b, oc ty_thief_Steal (tsC x q s m)) :: rest)))) G) R)
    (h2 : g.ep = true → wp Tryz.prog (k .nilIface) L (own A (g.bl q mq e ++ ((b, oc ty_thief_Steal (tsC x q s m)) :: rest)) G) R) :
    wp Tryz.prog (.call f_thief_Steal_more [.pointer (some ⟨b, 0, none⟩)] (.one (.leaf .val)) k) L (own A (g.bl q mq e ++ ((b, oc ty_thief_Steal (tsC x q s m)) :: rest)) G) R := by
  have hm : (b, oc ty_thief_Steal (tsC x q s m)) ∈ g.bl q mq e ++ ((b, oc ty_thief_Steal (tsC x q s m)) :: rest) := List.mem_append_right _ List.mem_cons_self
  refine wp_call_of (R0 := fun v H => (g.ep = false ∧ ∃ (c : Nat) (gar : Bl), v = oneV f_thief_Steal_still_1 c ∧ H = own A (g.bl q mq e ++ ((c, oc ty_p_thief_Steal (cellO b)) :: (gar ++ ((b, oc ty_thief_Steal (tsC x q s m)) :: rest)))) G ∧ Ok I G (keys (g.bl q mq e ++ ((c, oc ty_p_thief_Steal (cellO b)) :: (gar ++ ((b, oc ty_thief_Steal (tsC x q s m)) :: rest)))))) ∨
    (g.ep = true ∧ v = .nilIface ∧ H = own A (g.bl q mq e ++ ((b, oc ty_thief_Steal (tsC x q s m)) :: rest)) G)) ?_ ?_
  · refine t_thief_Steal_more_spec fun L => ?_
    unfold t_thief_Steal_more
    refine wp_nil.2 (w_ldm (x := x.v) hA ok rfl hm rfl ?_)
    refine w_kept (n := 1) ⟨bd.1, bd.2.1, bd.2.2.1, bd.2.2.2, by decide, by decide⟩ hA ok (fun he j ok3 rp => ?_) fun he => ?_
    · refine look_val (x := false) (eqTmP _ _ _) (wp_false rfl ?_)
      refine mk_still hA ok3 fun c ok4 => ?_
      obtain ⟨p3, ok5⟩ := own_perm (A := A) (l' := g.bl q mq e ++ ((c, oc ty_p_thief_Steal (cellO b)) :: (Se.bl ⟨[g.ta + 2 * x.work + 1], x.v⟩ j ++ ((b, oc ty_thief_Steal (tsC x q s m)) :: rest)))) ok4 (perm_by fun d f c0 cd ca => by simp only [cd, ca]; omega)
      rw [p3]
      exact wp_ret_of (.inl ⟨he, c, _, rfl, rfl, ok5⟩)
    · refine look_val (x := true) (eqTm0 _) (wp_true rfl ?_)
      exact wp_ret_of (.inr ⟨he, rfl, rfl⟩)
  · rintro v H (⟨he, c, gar, rfl, rfl, o⟩ | ⟨he, rfl, rfl⟩)
    · exact ⟨_, rfl, h1 he c gar o⟩
    · exact ⟨_, rfl, h2 he⟩
end
theorem SlAt.tailF {l : Bl} {e : TypeId} {s : Sl} {w : Nat} {x : FuncId} {xs : List FuncId} (h : SlAt l e (eF w) s (x :: xs)) : SlAt l e (eF w) (loSl s 1) xs ∧ (1 : Int) ≤ (s.len : Int) := by
  rcases h with ⟨_, h⟩ | ⟨b, pre, rest, r, rfl, h2, h3⟩
  · cases h
  · refine ⟨?_, by show (1 : Int) ≤ ((xs.length + 1 : Nat) : Int); omega⟩
    unfold loSl
    dsimp only
    by_cases e : (x :: xs).length + r = 1
    · rw [if_pos e]
      have hx : xs = [] := by simp only [List.length_cons] at e; exact List.eq_nil_of_length_eq_zero (by omega)
      have hr : r = 0 := by simp only [List.length_cons] at e; omega
      subst hx; subst hr
      exact .inr ⟨b, pre, (eF w).all [x] ++ rest, 0, rfl, by omega, by rw [show (eF w).all ([] : List FuncId) = [] from rfl, List.append_nil, ← List.append_assoc]; exact h3⟩
    · rw [if_neg e]
      refine .inr ⟨b, pre ++ [stepV x w], rest, r, ?_, h2, ?_⟩
      · show Sl.mk (some ((Addr.mk b pre.length none).add 1)) _ _ = _
        rw [Addr.add_mk, List.length_append]
        simp only [List.length_cons, List.length_nil, Sl.mk.injEq, true_and]
        omega
      · have : (eF w).all (x :: xs) = [stepV x w] ++ (eF w).all xs := rfl
        rw [this] at h3
        simpa using h3
section
variable {L : Hands} {R : Value → Heap → Prop} {G : Heap} {l : Bl} {A : Ar} {I : List Nat} {b : Nat}
theorem rdF0 {f : FuncId} {fs : List FuncId} {s : Sl} {u : TypeId} {k : Value → Tree} (hA : Aw I A) (ok : Ok I G (keys l)) (hs : SlAt l ty_func_thief_machine (eF b) s (f :: fs)) (h : wp Tryz.prog (k (stepV f b)) L (own A l G) R) :
    wp Tryz.prog (.look (opS Tryz.prog (.indexAddr ty_s_func_thief_machine (.tmp 0) (.const (.int .i64 0))) u [(.slice s.a s.len s.cap)]) (.one (.leaf .addr)) fun y => .ld y .val k) L (own A l G) R := by
  rw [opS_ix0]
  rcases hs with ⟨_, h⟩ | ⟨z, pre, rest, r, rfl, h2, h3⟩
  · cases h
  · refine w_ixS (e := ty_func_thief_machine) rfl rfl rfl (Int.le_refl 0) (by show (0 : Int) < (((f :: fs).length : Nat) : Int); simp only [List.length_cons]; omega) ?_
    refine w_ldm (x := stepV f b) hA ok rfl h3 ?_ h
    have : (pre ++ (eF b).all (f :: fs) ++ rest)[pre.length + (0 : Int).toNat]? = some (stepV f b) := by
      rw [List.append_assoc, List.getElem?_append_right (by simp)]
      show ((eF b).all (f :: fs) ++ rest)[pre.length + 0 - pre.length]? = _
      rw [Nat.add_zero, Nat.sub_self]; rfl
    rw [this]; rfl
theorem cutF1 {s : Sl} {u : TypeId} {k : Sl → Tree} (h1 : (1 : Int) ≤ (s.len : Int)) {H : Heap} (h : wp Tryz.prog (k (loSl s 1)) L H R) :
    wp Tryz.prog (.look (opS Tryz.prog (.slice ty_s_func_thief_machine (.tmp 0) (some (.const (.int .i64 1))) none none) u [.slice s.a s.len s.cap]) (.one (.leaf .slice)) k) L H R := by
  rw [opS_lo1]
  exact look_val (x := loSl s 1) (opS_sliceLo (e := ty_func_thief_machine) rfl rfl rfl (by decide) h1) h
end
inductive Sp | enter | reads | lasts | buffers | holds | again | loads | still | keeps | more | keys | takes
def Sp.f : Sp → FuncId
  | .enter => f_thief_Steal_enter
  | .reads => f_thief_Steal_reads
  | .lasts => f_thief_Steal_lasts
  | .buffers => f_thief_Steal_buffers
  | .holds => f_thief_Steal_holds
  | .again => f_thief_Steal_again
  | .loads => f_thief_Steal_loads
  | .still => f_thief_Steal_still
  | .keeps => f_thief_Steal_keeps
  | .more => f_thief_Steal_more
  | .keys => f_thief_Steal_keys
  | .takes => f_thief_Steal_takes
inductive K1 | reads | lasts | buffers | again | loads | still | keys | takes
def K1.f : K1 → FuncId
  | .reads => f_thief_Steal_reads_1
  | .lasts => f_thief_Steal_lasts_1
  | .buffers => f_thief_Steal_buffers_1
  | .again => f_thief_Steal_again_1
  | .loads => f_thief_Steal_loads_1
  | .still => f_thief_Steal_still_1
  | .keys => f_thief_Steal_keys_1
  | .takes => f_thief_Steal_takes_1
inductive Um
  | no
  | pin (p : Pn)
  | se (m : Se)
  | one (f : K1)
structure UmJ where
  z : Nat
  se : SeJ
def Um.val : Um → UmJ → Value
  | .no, _ => .nilIface
  | .pin _, j => .iface ty_p_epoch_Pin (.pointer (some ⟨j.z, 0, none⟩))
  | .se _, j => .iface ty_p_guard_sets (.pointer (some ⟨j.se.q, 0, none⟩))
  | .one f, j => oneV f.f j.z
def Um.bl (b : Nat) : Um → UmJ → Bl
  | .no, _ => []
  | .pin p, j => p.bl j.z
  | .se m, j => Se.bl m j.se
  | .one _, j => [(j.z, oc ty_p_thief_Steal (cellO b))]
def Um.rep : Um → UmJ → Prop
  | .se m, j => mSe.rep m j.se
  | _, _ => True
def bg (g : Gd) (x : Ts) : Sp → Um
  | .enter => if g.ep = true then .pin (newPn g.w g.ta x.work) else .no
  | .holds => if g.ep = true then .no else .se ⟨[g.ta + 2 * x.work + 0], x.h⟩
  | .keeps => if g.ep = true then .no else .se ⟨[g.ta + 2 * x.work + 1], x.v⟩
  | .again => if g.ep = true then .no else .one .again
  | .more => if g.ep = true then .no else .one .still
  | .reads => .one .reads
  | .lasts => .one .lasts
  | .buffers => .one .buffers
  | .loads => .one .loads
  | .still => .one .still
  | .keys => .one .keys
  | .takes => .one .takes
section
variable {L : Hands} {R : Value → Heap → Prop} {G : Heap} {rest : Bl} {A : Ar} {I : List Nat} {g : Gd} {q mq b c : Nat} {s : Sl} {m : Value} {x : Ts} {e : List LE}
def stB (b q : Nat) (x : Ts) (s : Sl) (m : Value) : Nat × Obj := (b, oc ty_thief_Steal (tsC x q s m))
theorem w_bg (p : Sp) {k : Value → Tree} (bd : 0 ≤ g.ta ∧ g.ta ≤ 1000000 ∧ 0 ≤ x.work ∧ x.work ≤ 1000) (hA : Aw I A) (ok : Ok I G (keys (g.bl q mq e ++ (stB b q x s m :: rest))))
    (h : ∀ (j : UmJ) (gar : Bl), Ok I G (keys (g.bl q mq e ++ (stB b q x s m :: ((bg g x p).bl b j ++ (gar ++ rest))))) → (bg g x p).rep j → wp Tryz.prog (k ((bg g x p).val j)) L (own A (g.bl q mq e ++ (stB b q x s m :: ((bg g x p).bl b j ++ (gar ++ rest)))) G) R) :
    wp Tryz.prog (.act (opS Tryz.prog (.call { callee := .value (.tmp 0), args := #[], argTypes := #[] }) ty_thief_machine [stepV p.f b]) (.one (.leaf .val)) k) L (own A (g.bl q mq e ++ (stB b q x s m :: rest)) G) R := by
  have j0 : UmJ := ⟨0, ⟨0, sl0, []⟩⟩
  have nil : bg g x p = .no → wp Tryz.prog (k .nilIface) L (own A (g.bl q mq e ++ (stB b q x s m :: rest)) G) R := fun hn => by
    have := h j0 [] (by rw [hn]; exact ok) (by rw [hn]; trivial)
    rw [hn] at this; exact this
  have one : ∀ {f : K1} {c : Nat}, bg g x p = .one f → Ok I G (keys ((c, oc ty_p_thief_Steal (cellO b)) :: (g.bl q mq e ++ (stB b q x s m :: rest)))) → wp Tryz.prog (k (oneV f.f c)) L (own A ((c, oc ty_p_thief_Steal (cellO b)) :: (g.bl q mq e ++ (stB b q x s m :: rest))) G) R := fun {f c} hn o => by
    obtain ⟨p1, o1⟩ := own_perm (A := A) (l' := g.bl q mq e ++ (stB b q x s m :: ((c, oc ty_p_thief_Steal (cellO b)) :: ([] ++ rest)))) o (perm_by fun d f c0 cd ca => by simp only [List.nil_append, cd, ca]; omega)
    rw [p1]
    have := h ⟨c, ⟨0, sl0, []⟩⟩ [] (by rw [hn]; exact o1) (by rw [hn]; trivial)
    rw [hn] at this; exact this
  cases p with
  | enter =>
    refine act_enter (call_enter _) (w_tenter hA ok (fun he z o => ?_) fun he => nil (if_neg (by rw [he]; decide)))
    have hn : bg g x .enter = .pin (newPn g.w g.ta x.work) := if_pos he
    obtain ⟨p1, o1⟩ := own_perm (A := A) (l' := g.bl q mq e ++ (stB b q x s m :: ((newPn g.w g.ta x.work).bl z ++ ([] ++ rest)))) o (perm_by fun d f c0 cd ca => by show _ = d (g.bl q mq e ++ ((b, oc ty_thief_Steal (tsC x q s m)) :: _)); simp only [List.nil_append, cd, ca]; omega)
    rw [p1]
    have := h ⟨z, ⟨0, sl0, []⟩⟩ [] (by rw [hn]; exact o1) (by rw [hn]; trivial)
    rw [hn] at this; exact this
  | reads => exact act_enter (call_reads _) (mk_reads hA ok fun c o => one (f := .reads) rfl o)
  | lasts => exact act_enter (call_lasts _) (mk_lasts hA ok fun c o => one (f := .lasts) rfl o)
  | buffers => exact act_enter (call_buffers _) (mk_buffers hA ok fun c o => one (f := .buffers) rfl o)
  | holds =>
    refine act_enter (call_holds _) (w_tholds bd hA ok (fun he j o rp => ?_) fun he => nil (if_pos he))
    have hn : bg g x .holds = .se ⟨[g.ta + 2 * x.work + 0], x.h⟩ := if_neg (by rw [he]; decide)
    obtain ⟨p1, o1⟩ := own_perm (A := A) (l' := g.bl q mq e ++ (stB b q x s m :: (Se.bl ⟨[g.ta + 2 * x.work + 0], x.h⟩ j ++ ([] ++ rest)))) o (perm_by fun d f c0 cd ca => by show _ = d (g.bl q mq e ++ ((b, oc ty_thief_Steal (tsC x q s m)) :: _)); simp only [List.nil_append, cd, ca]; omega)
    rw [p1]
    have := h ⟨0, j⟩ [] (by rw [hn]; exact o1) (by rw [hn]; exact rp)
    rw [hn] at this; exact this
  | again =>
    refine act_enter (call_again _) (w_tagain bd hA ok (fun he c gar o => ?_) fun he gar o => ?_)
    · have hn : bg g x .again = .one .again := if_neg (by rw [he]; decide)
      obtain ⟨p1, o1⟩ := own_perm (A := A) (l' := g.bl q mq e ++ (stB b q x s m :: ((c, oc ty_p_thief_Steal (cellO b)) :: (gar ++ rest)))) o (perm_by fun d f c0 cd ca => by show _ = d (g.bl q mq e ++ ((b, oc ty_thief_Steal (tsC x q s m)) :: _)); simp only [cd, ca]; omega)
      rw [p1]
      have := h ⟨c, ⟨0, sl0, []⟩⟩ gar (by rw [hn]; exact o1) (by rw [hn]; trivial)
      rw [hn] at this; exact this
    · have hn : bg g x .again = .no := if_pos he
      obtain ⟨p1, o1⟩ := own_perm (A := A) (l' := g.bl q mq e ++ (stB b q x s m :: (gar ++ rest))) o (perm_by fun d f c0 cd ca => by show _ = d (g.bl q mq e ++ ((b, oc ty_thief_Steal (tsC x q s m)) :: _)); simp only [cd, ca]; omega)
      rw [p1]
      have := h ⟨0, ⟨0, sl0, []⟩⟩ gar (by rw [hn]; exact o1) (by rw [hn]; trivial)
      rw [hn] at this; exact this
  | loads => exact act_enter (call_loads _) (mk_loads hA ok fun c o => one (f := .loads) rfl o)
  | still => exact act_enter (call_still _) (mk_still hA ok fun c o => one (f := .still) rfl o)
  | keeps =>
    refine act_enter (call_keeps _) (w_tkeeps bd hA ok (fun he j o rp => ?_) fun he => nil (if_pos he))
    have hn : bg g x .keeps = .se ⟨[g.ta + 2 * x.work + 1], x.v⟩ := if_neg (by rw [he]; decide)
    obtain ⟨p1, o1⟩ := own_perm (A := A) (l' := g.bl q mq e ++ (stB b q x s m :: (Se.bl ⟨[g.ta + 2 * x.work + 1], x.v⟩ j ++ ([] ++ rest)))) o (perm_by fun d f c0 cd ca => by show _ = d (g.bl q mq e ++ ((b, oc ty_thief_Steal (tsC x q s m)) :: _)); simp only [List.nil_append, cd, ca]; omega)
    rw [p1]
    have := h ⟨0, j⟩ [] (by rw [hn]; exact o1) (by rw [hn]; exact rp)
    rw [hn] at this; exact this
  | more =>
    refine act_enter (call_more _) (w_tmore bd hA ok (fun he c gar o => ?_) fun he => nil (if_pos he))
    have hn : bg g x .more = .one .still := if_neg (by rw [he]; decide)
    obtain ⟨p1, o1⟩ := own_perm (A := A) (l' := g.bl q mq e ++ (stB b q x s m :: ((c, oc ty_p_thief_Steal (cellO b)) :: (gar ++ rest)))) o (perm_by fun d f c0 cd ca => by show _ = d (g.bl q mq e ++ ((b, oc ty_thief_Steal (tsC x q s m)) :: _)); simp only [cd, ca]; omega)
    rw [p1]
    have := h ⟨c, ⟨0, sl0, []⟩⟩ gar (by rw [hn]; exact o1) (by rw [hn]; trivial)
    rw [hn] at this; exact this
  | keys => exact act_enter (call_keys _) (mk_keys hA ok fun c o => one (f := .keys) rfl o)
  | takes => exact act_enter (call_takes _) (mk_takes hA ok fun c o => one (f := .takes) rfl o)
end
def Um.isNo : Um → Bool
  | .no => true
  | _ => false
def nx (g : Gd) (x : Ts) : List Sp → Ts × List Sp × Um
  | [] => if x.leaves = true then (x, [], .no) else ({ x with leaves := true }, [], .se ⟨leaveW g x.work, 0⟩)
  | p :: ps => if (bg g x p).isNo = true then nx g x ps else (x, ps, bg g x p)
section
variable {L : Hands} {R : Value → Heap → Prop} {G : Heap} {rest : Bl} {A : Ar} {I : List Nat} {g : Gd} {q mq b c : Nat} {s : Sl} {m : Value} {x : Ts} {e : List LE}
theorem st_front {s' : Sl} {x' : Ts} {m' : Value} {K : Tree} {i : Nat} {v : Value} (hA : Aw I A) (ok : Ok I G (keys (g.bl q mq e ++ (stB b q x s m :: rest)))) (hv : Value.single v = true) (hi : (decide (i < 13)) = true) (hc : (tsC x q s m).set i v = tsC x' q s' m') (h : Ok I G (keys (g.bl q mq e ++ (stB b q x' s' m' :: rest))) → wp Tryz.prog K L (own A (g.bl q mq e ++ (stB b q x' s' m' :: rest)) G) R) :
    wp Tryz.prog (.st ⟨b, i, none⟩ v K) L (own A (g.bl q mq e ++ (stB b q x s m :: rest)) G) R := by
  obtain ⟨p, o⟩ := own_perm (A := A) (l' := stB b q x s m :: (g.bl q mq e ++ rest)) ok (perm_by fun c d c0 cd ca => by simp only [cd, ca]; omega)
  rw [p]
  refine w_st 0 hA o rfl rfl hv hi ?_
  show wp Tryz.prog K L (own A ((b, oc ty_thief_Steal ((tsC x q s m).set i v)) :: (g.bl q mq e ++ rest)) G) R
  rw [hc]
  have o : Ok I G (keys (stB b q x' s' m' :: (g.bl q mq e ++ rest))) := o
  obtain ⟨p2, o2⟩ := own_perm (A := A) (l' := g.bl q mq e ++ (stB b q x' s' m' :: rest)) o (perm_by fun c d c0 cd ca => by simp only [cd, ca]; omega)
  show wp Tryz.prog K L (own A (stB b q x' s' m' :: (g.bl q mq e ++ rest)) G) R
  rw [p2]
  exact h o2
def NxP (g : Gd) (q mq b : Nat) (e : List LE) (m : Value) (rest : Bl) (A : Ar) (I : List Nat) (G : Heap) (z : Ts × List Sp × Um) : Value → Heap → Prop := fun v H => ∃ (s' : Sl) (j : UmJ) (gar : Bl), v = z.2.2.val j ∧ H = own A (g.bl q mq e ++ (stB b q z.1 s' m :: (z.2.2.bl b j ++ (gar ++ rest)))) G ∧
  Ok I G (keys (g.bl q mq e ++ (stB b q z.1 s' m :: (z.2.2.bl b j ++ (gar ++ rest))))) ∧ SlAt rest ty_func_thief_machine (eF b) s' (z.2.1.map Sp.f) ∧ z.2.2.rep j
theorem bg_ne (g : Gd) (x : Ts) (p : Sp) (j : UmJ) (u : TypeId) : opS Tryz.prog (.binOp .neq ty_thief_machine (.tmp 0) (.const .nilIface) ty_thief_machine) u [(bg g x p).val j] = .pure (.value (.bool (!(bg g x p).isNo))) := by
  cases bg g x p with
  | no => exact neTm0 u
  | pin p => exact neTmP _ _ u
  | se m => exact neTmP _ _ u
  | one f => exact neTmF _ _ _ _ u
theorem next_go (bd : 0 ≤ g.ta ∧ g.ta ≤ 1000000 ∧ 0 ≤ x.work ∧ x.work ≤ 1000) (hA : Aw I A) : ∀ (ps : List Sp) (s : Sl) (gar0 : Bl) (y : Value), Ok I G (keys (g.bl q mq e ++ (stB b q x s m :: (gar0 ++ rest)))) → SlAt rest ty_func_thief_machine (eF b) s (ps.map Sp.f) →
    wp Tryz.prog (.loop 64 t_thief_Steal_next_L1_sh [y] (t_thief_Steal_next_L1 (some ⟨b, 0, none⟩))) L (own A (g.bl q mq e ++ (stB b q x s m :: (gar0 ++ rest))) G) (NxP g q mq b e m rest A I G (nx g x ps))
  | [], s, gar0, y, ok, hs => by
    have hm : stB b q x s m ∈ g.bl q mq e ++ (stB b q x s m :: (gar0 ++ rest)) := List.mem_append_right _ List.mem_cons_self
    refine wp_loop_unroll (y, ()) rfl ?_
    rw [t_thief_Steal_next_L1]
    refine wp_nil.2 (w_ldm (x := s) hA ok rfl hm rfl ?_)
    have hl := hs.len
    have hl : s.len = 0 := hl
    refine wp_false (decide_eq_false (by omega)) ?_
    refine wp_nil.2 (w_ldm (x := x.leaves) hA ok rfl hm rfl ?_)
    by_cases hv : x.leaves = true
    · rw [hv]
      refine wp_true rfl ?_
      refine wp_ret_of ⟨s, ⟨0, ⟨0, sl0, []⟩⟩, gar0, ?_⟩
      unfold nx
      rw [if_pos hv]
      exact ⟨rfl, rfl, ok, hs, trivial⟩
    · have hv : x.leaves = false := by simpa using hv
      rw [hv]
      refine wp_false rfl (wp_nil.2 ?_)
      refine st_front (i := 8) (x' := { x with leaves := true }) hA ok rfl rfl rfl fun ok1 => ?_
      have hm1 : stB b q { x with leaves := true } s m ∈ g.bl q mq e ++ (stB b q { x with leaves := true } s m :: (gar0 ++ rest)) := List.mem_append_right _ List.mem_cons_self
      refine wp_nil.2 (w_ldm (x := some ⟨q, 0, none⟩) hA ok1 rfl hm1 rfl ?_)
      refine wp_nil.2 (w_ldm (x := x.work) hA ok1 rfl hm1 rfl ?_)
      refine w_GLeave bd hA ok1 fun j z ok2 rp => ?_
      obtain ⟨p, o⟩ := own_perm (A := A) (l' := g.bl q mq e ++ (stB b q { x with leaves := true } s m :: (Se.bl ⟨leaveW g x.work, 0⟩ j ++ ((z ++ gar0) ++ rest)))) ok2 (perm_by fun c d c0 cd ca => by simp only [List.append_assoc, cd, ca]; omega)
      rw [p]
      refine wp_ret_of ⟨s, ⟨0, j⟩, z ++ gar0, ?_⟩
      unfold nx
      rw [if_neg (by rw [hv]; decide)]
      exact ⟨rfl, rfl, o, hs, rp⟩
  | p :: ps, s, gar0, y, ok, hs => by
    have hm : stB b q x s m ∈ g.bl q mq e ++ (stB b q x s m :: (gar0 ++ rest)) := List.mem_append_right _ List.mem_cons_self
    refine wp_loop_unroll (y, ()) rfl ?_
    rw [t_thief_Steal_next_L1]
    refine wp_nil.2 (w_ldm (x := s) hA ok rfl hm rfl ?_)
    obtain ⟨t1, t2⟩ := SlAt.tailF (x := p.f) (xs := ps.map Sp.f) hs
    refine wp_true (decide_eq_true (by omega)) ?_
    refine wp_nil.2 (w_ldm (x := s) hA ok rfl hm rfl ?_)
    refine rdF0 (f := p.f) (fs := ps.map Sp.f) hA ok (hs.mono fun z hz => List.mem_append_right _ (List.mem_cons_of_mem _ (List.mem_append_right _ hz))) ?_
    refine wp_nil.2 (w_ldm (x := s) hA ok rfl hm rfl ?_)
    refine cutF1 t2 (wp_nil.2 ?_)
    refine st_front (i := 6) (s' := loSl s 1) (x' := x) hA ok rfl rfl rfl fun ok1 => ?_
    refine w_bg p bd hA ok1 fun j gar ok2 rp => ?_
    refine look_val (x := !(bg g x p).isNo) (bg_ne g x p j _) ?_
    obtain ⟨pp, o3⟩ := own_perm (A := A) (l' := g.bl q mq e ++ (stB b q x (loSl s 1) m :: ((bg g x p).bl b j ++ ((gar ++ gar0) ++ rest)))) ok2 (perm_by fun c d c0 cd ca => by simp only [List.append_assoc, cd, ca])
    rw [pp]
    cases hn : (bg g x p).isNo with
    | false =>
      refine wp_true rfl ?_
      refine wp_ret_of ⟨loSl s 1, j, gar ++ gar0, ?_⟩
      unfold nx
      rw [if_neg (by rw [hn]; decide)]
      exact ⟨rfl, rfl, o3, t1, rp⟩
    | true =>
      refine wp_false rfl (wp_again ?_)
      have hb : (bg g x p).bl b j = [] := by
        revert hn; cases bg g x p with
        | no => intro _; rfl
        | pin p => intro h; cases h
        | se m => intro h; cases h
        | one f => intro h; cases h
      rw [hb] at o3 ⊢
      have := next_go bd hA ps (loSl s 1) (gar ++ gar0) y o3 t1
      unfold nx
      rw [if_pos hn]
      exact this
end
def one1 (k : K1) (x : Ts) (ps : List Sp) (A : Ar) : Ts × List Sp × Ar :=
  match k with
  | .reads => ({ x with t := A.rawF (dw x.at_ x.victim 0) }, ps, A.touchR (dw x.at_ x.victim 0))
  | .lasts => (x, if A.rawF (dw x.at_ x.victim 1) ≤ x.t then [] else ps, A.touchR (dw x.at_ x.victim 1))
  | .buffers => ({ x with h := A.rawF (dw x.at_ x.victim 2) }, ps, A.touchR (dw x.at_ x.victim 2))
  | .again => (x, if A.rawF (dw x.at_ x.victim 2) = x.h then ps else [], A.touchR (dw x.at_ x.victim 2))
  | .loads => ({ x with v := A.loadF x.h (wordF x.h x.t) }, ps, A.touch x.h (wordF x.h x.t))
  | .still => (x, if A.rawF (dw x.at_ x.victim 0) = x.t then ps else [], A.touchR (dw x.at_ x.victim 0))
  | .keys => (x, if aheadF (A.loadF x.v x.keyAt) x.before = true then ps else [], A.touch x.v x.keyAt)
  | .takes => ({ x with ok := A.swapRb (dw x.at_ x.victim 0) x.t }, ps, A.swapR (dw x.at_ x.victim 0) x.t (w64 (x.t + 1)))
structure St where
  x : Ts
  ps : List Sp
  um : Um
structure TJ where
  b : Nat
  s : Sl
  u : UmJ
  tl : Bl
def St.sub (z : Ts × List Sp × Um) (A : Ar) : St × Ar :=
  match z.2.2 with
  | .no => (⟨z.1, z.2.1, .no⟩, A)
  | .pin p => (⟨z.1, z.2.1, if mPn.fin (p.step A).1 = true then .no else .pin (p.step A).1⟩, (p.step A).2)
  | .se m => (⟨z.1, z.2.1, if mSe.fin (m.step A).1 = true then .no else .se (m.step A).1⟩, (m.step A).2)
  | .one k => (⟨(one1 k z.1 z.2.1 A).1, (one1 k z.1 z.2.1 A).2.1, .no⟩, (one1 k z.1 z.2.1 A).2.2)
def St.nx (g : Gd) (z : St) : Ts × List Sp × Um := if z.um.isNo = true ∧ z.x.leaves = false then Go.Proofs.YtjnacjniiogjcaaGreat.nx g z.x z.ps else (z.x, z.ps, z.um)
def St.step (g : Gd) (z : St) (A : Ar) : St × Ar := St.sub (z.nx g) A
def St.bl (g : Gd) (q mq : Nat) (e : List LE) (z : St) (j : TJ) : Bl := g.bl q mq e ++ (stB j.b q z.x j.s (z.um.val j.u) :: (z.um.bl j.b j.u ++ j.tl))
structure Tb (g : Gd) (x : Ts) : Prop where
  b : x.bnd
  a : 0 ≤ g.ta ∧ g.ta ≤ 1000000
  w : 0 ≤ x.work ∧ x.work ≤ 1000
def Um.inv : Um → Prop
  | .pin p => p.ph ≤ 3
  | _ => True
def mTs (g : Gd) (q mq : Nat) (e : List LE) : MchR St TJ where
  f := f_thief_Steal_Step
  addr := TJ.b
  bl := St.bl g q mq e
  rep := fun z j => SlAt j.tl ty_func_thief_machine (eF j.b) j.s (z.ps.map Sp.f) ∧ z.um.rep j.u
  inv := fun z _ => Tb g z.x ∧ z.um.inv
  step := St.step g
  fin := fun z => z.um.isNo && z.x.leaves
theorem mTs_inv (g : Gd) (q mq : Nat) (e : List LE) : (mTs g q mq e).inv' ty_p_thief_Steal := fun q p => by
  show opS _ _ _ _ = .pure (.enter f_thief_Steal_Step [.pointer (some ⟨q, 0, none⟩), .pointer p].toArray)
  kernel_rfl
section
variable {L : Hands} {R : Value → Heap → Prop} {G : Heap} {rest : Bl} {A : Ar} {I : List Nat} {g : Gd} {q mq b c : Nat} {s : Sl} {m : Value} {x : Ts} {e : List LE}
theorem um_eq (u : Um) (j : UmJ) (t : TypeId) : opS Tryz.prog (.binOp .eql ty_thief_machine (.tmp 0) (.const .nilIface) ty_thief_machine) t [u.val j] = .pure (.value (.bool u.isNo)) := by
  cases u with
  | no => exact eqTm0 t
  | pin p => exact eqTmP _ _ t
  | se m => exact eqTmP _ _ t
  | one f => exact eqTmF _ _ _ _ t
theorem um_ne (u : Um) (j : UmJ) (t : TypeId) : opS Tryz.prog (.binOp .neq ty_thief_machine (.tmp 0) (.const .nilIface) ty_thief_machine) t [u.val j] = .pure (.value (.bool (!u.isNo))) := by
  cases u with
  | no => exact neTm0 t
  | pin p => exact neTmP _ _ t
  | se m => exact neTmP _ _ t
  | one f => exact neTmF _ _ _ _ t
theorem st_um (a : Addr) (u : Um) (j : UmJ) : opS Tryz.prog (.store ty_thief_machine (.tmp 0) (.tmp 1)) ty_unit [.pointer (some a), u.val j] = .store .plain a (u.val j) (.pure .skip) := by cases u <;> kernel_rfl
theorem um_single (u : Um) (j : UmJ) : Value.single (u.val j) = true := by cases u <;> rfl
def TsP (g : Gd) (q mq : Nat) (e : List LE) (b : Nat) (z : St × Ar) (I : List Nat) (G : Heap) : Value → Heap → Prop := fun v K => ∃ j : TJ, v = .bool (z.1.um.isNo && z.1.x.leaves) ∧ K = own z.2 (z.1.bl g q mq e j) G ∧ j.b = b ∧ Ok I G (keys (z.1.bl g q mq e j)) ∧ (SlAt j.tl ty_func_thief_machine (eF j.b) j.s (z.1.ps.map Sp.f) ∧ z.1.um.rep j.u) ∧ Aw I z.2
theorem ts_ret {z : St} {j : TJ} (hA : Aw I A) (ok : Ok I G (keys (z.bl g q mq e j))) (rp : SlAt j.tl ty_func_thief_machine (eF j.b) j.s (z.ps.map Sp.f) ∧ z.um.rep j.u) :
    wp Tryz.prog (.look (opS Tryz.prog (.nilCheck (.tmp 0)) ty_unit [(.pointer (some ⟨j.b, 0, none⟩))]) (.one (.leaf .addr)) fun x39 =>
      .ld (x39.add 7) .val fun x41 =>
      .look (opS Tryz.prog (.binOp .eql ty_thief_machine (.tmp 0) (.const .nilIface) ty_thief_machine) ty_bool [x41]) (.one (.leaf .bool)) fun x42 =>
      bif x42 then (
        .look (opS Tryz.prog (.nilCheck (.tmp 0)) ty_unit [(.pointer (some ⟨j.b, 0, none⟩))]) (.one (.leaf .addr)) fun x45 =>
        .ld (x45.add 8) .bool fun x47 =>
        .ret (.bool x47))
      else (
        .ret (.bool false))) L (own A (z.bl g q mq e j) G) (TsP g q mq e j.b (z, A) I G) := by
  have hm : stB j.b q z.x j.s (z.um.val j.u) ∈ z.bl g q mq e j := List.mem_append_right _ List.mem_cons_self
  refine wp_nil.2 (w_ldm (x := z.um.val j.u) hA ok rfl hm rfl ?_)
  refine look_val (x := z.um.isNo) (um_eq _ _ _) ?_
  have P : ∀ w : Bool, w = (z.um.isNo && z.x.leaves) → TsP g q mq e j.b (z, A) I G (.bool w) (own A (z.bl g q mq e j) G) := fun w hw => ⟨j, by rw [hw], rfl, rfl, ok, rp, hA⟩
  cases hn : z.um.isNo with
  | false => exact wp_false rfl (wp_ret_of (P _ (by rw [hn]; rfl)))
  | true =>
    refine wp_true rfl (wp_nil.2 (w_ldm (x := z.x.leaves) hA ok rfl hm rfl ?_))
    exact wp_ret_of (P _ (by rw [hn]; rfl))
theorem one_spec (k : K1) {ps : List Sp} (hb : x.bnd) (hA : Aw I A) (ok : Ok I G (keys ((b, oc ty_thief_Steal (tsC x q s m)) :: rest))) (hc : (c, oc ty_p_thief_Steal (cellO b)) ∈ (b, oc ty_thief_Steal (tsC x q s m)) :: rest) {tl : Bl} (hs : SlAt tl ty_func_thief_machine (eF b) s (ps.map Sp.f)) :
    ∃ s', SlAt tl ty_func_thief_machine (eF b) s' ((one1 k x ps A).2.1.map Sp.f) ∧ SpecF Tryz.prog f_thief_one_Step #[.func (.func k.f) #[] #[(.pointer (some ⟨c, 0, none⟩))], .pointer (aI I)] (own A ((b, oc ty_thief_Steal (tsC x q s m)) :: rest) G) fun v H => v = .bool true ∧ H = own (one1 k x ps A).2.2 ((b, oc ty_thief_Steal (tsC (one1 k x ps A).1 q s' m)) :: rest) G ∧ Aw I (one1 k x ps A).2.2 := by
  have two : ∀ {d : Prop} [Decidable d], SlAt tl ty_func_thief_machine (eF b) (if d then ⟨none, 0, 0⟩ else s) ((if d then [] else ps).map Sp.f) := fun {d} _ => by
    by_cases h : d
    · rw [if_pos h, if_pos h]; exact .inl ⟨rfl, rfl⟩
    · rw [if_neg h, if_neg h]; exact hs
  have two' : ∀ {d : Prop} [Decidable d], SlAt tl ty_func_thief_machine (eF b) (if d then s else ⟨none, 0, 0⟩) ((if d then ps else []).map Sp.f) := fun {d} _ => by
    by_cases h : d
    · rw [if_pos h, if_pos h]; exact hs
    · rw [if_neg h, if_neg h]; exact .inl ⟨rfl, rfl⟩
  cases k with
  | reads => exact ⟨s, hs, oneStep (one_reads _ _) (reads_spec hb hA ok hc)⟩
  | lasts => exact ⟨_, two, oneStep (one_lasts _ _) (lasts_spec hb hA ok hc)⟩
  | buffers => exact ⟨s, hs, oneStep (one_buffers _ _) (buffers_spec hb hA ok hc)⟩
  | again => exact ⟨_, two', oneStep (one_again _ _) (again_spec hb hA ok hc)⟩
  | loads => exact ⟨s, hs, oneStep (one_loads _ _) (loads_spec hb hA ok hc)⟩
  | still => exact ⟨_, two', oneStep (one_still _ _) (still_spec hb hA ok hc)⟩
  | keys => exact ⟨_, two', oneStep (one_keys _ _) (keys_spec hb hA ok hc)⟩
  | takes => exact ⟨s, hs, oneStep (one_takes _ _) (takes_spec hb hA ok hc)⟩
theorem ts_sub {z : Ts × List Sp × Um} {j : TJ} (hb : Tb g z.1) (hi : z.2.2.inv) (hA : Aw I A) (ok : Ok I G (keys (St.bl g q mq e ⟨z.1, z.2.1, z.2.2⟩ j))) (rp : SlAt j.tl ty_func_thief_machine (eF j.b) j.s (z.2.1.map Sp.f) ∧ z.2.2.rep j.u) :
    wp Tryz.prog (.look (opS Tryz.prog (.nilCheck (.tmp 0)) ty_unit [(.pointer (some ⟨j.b, 0, none⟩))]) (.one (.leaf .addr)) fun x23 =>
      .ld (x23.add 7) .val fun x25 =>
      .look (opS Tryz.prog (.binOp .neq ty_thief_machine (.tmp 0) (.const .nilIface) ty_thief_machine) ty_bool [x25]) (.one (.leaf .bool)) fun x26 =>
      bif x26 then (
        .look (opS Tryz.prog (.nilCheck (.tmp 0)) ty_unit [(.pointer (some ⟨j.b, 0, none⟩))]) (.one (.leaf .addr)) fun x29 =>
        .ld (x29.add 7) .val fun x31 =>
        .act (opS Tryz.prog (.call { callee := .invoke (.tmp 0) "Step", args := #[(.tmp 1)], argTypes := #[ty_p_arena_Arena] }) ty_bool [x31, (.pointer (aI I))]) (.one (.leaf .bool)) fun x33 =>
        bif x33 then (
          .look (opS Tryz.prog (.nilCheck (.tmp 0)) ty_unit [(.pointer (some ⟨j.b, 0, none⟩))]) (.one (.leaf .addr)) fun x36 =>
          .st (x36.add 7) .nilIface <|
          .look (opS Tryz.prog (.nilCheck (.tmp 0)) ty_unit [(.pointer (some ⟨j.b, 0, none⟩))]) (.one (.leaf .addr)) fun x39 =>
          .ld (x39.add 7) .val fun x41 =>
          .look (opS Tryz.prog (.binOp .eql ty_thief_machine (.tmp 0) (.const .nilIface) ty_thief_machine) ty_bool [x41]) (.one (.leaf .bool)) fun x42 =>
          bif x42 then (
            .look (opS Tryz.prog (.nilCheck (.tmp 0)) ty_unit [(.pointer (some ⟨j.b, 0, none⟩))]) (.one (.leaf .addr)) fun x45 =>
            .ld (x45.add 8) .bool fun x47 =>
            .ret (.bool x47))
          else (
            .ret (.bool false)))
        else (
          .look (opS Tryz.prog (.nilCheck (.tmp 0)) ty_unit [(.pointer (some ⟨j.b, 0, none⟩))]) (.one (.leaf .addr)) fun x39 =>
          .ld (x39.add 7) .val fun x41 =>
          .look (opS Tryz.prog (.binOp .eql ty_thief_machine (.tmp 0) (.const .nilIface) ty_thief_machine) ty_bool [x41]) (.one (.leaf .bool)) fun x42 =>
          bif x42 then (
            .look (opS Tryz.prog (.nilCheck (.tmp 0)) ty_unit [(.pointer (some ⟨j.b, 0, none⟩))]) (.one (.leaf .addr)) fun x45 =>
            .ld (x45.add 8) .bool fun x47 =>
            .ret (.bool x47))
          else (
            .ret (.bool false))))
      else (
        .look (opS Tryz.prog (.nilCheck (.tmp 0)) ty_unit [(.pointer (some ⟨j.b, 0, none⟩))]) (.one (.leaf .addr)) fun x39 =>
        .ld (x39.add 7) .val fun x41 =>
        .look (opS Tryz.prog (.binOp .eql ty_thief_machine (.tmp 0) (.const .nilIface) ty_thief_machine) ty_bool [x41]) (.one (.leaf .bool)) fun x42 =>
        bif x42 then (
          .look (opS Tryz.prog (.nilCheck (.tmp 0)) ty_unit [(.pointer (some ⟨j.b, 0, none⟩))]) (.one (.leaf .addr)) fun x45 =>
          .ld (x45.add 8) .bool fun x47 =>
          .ret (.bool x47))
        else (
          .ret (.bool false)))) L (own A (St.bl g q mq e ⟨z.1, z.2.1, z.2.2⟩ j) G) (TsP g q mq e j.b (St.sub z A) I G) := by
  obtain ⟨x, ps, um⟩ := z
  obtain ⟨b, s, u, tl⟩ := j
  dsimp only at hb hi rp ok ⊢
  have hm : stB b q x s (um.val u) ∈ St.bl g q mq e ⟨x, ps, um⟩ ⟨b, s, u, tl⟩ := List.mem_append_right _ List.mem_cons_self
  refine wp_nil.2 (w_ldm (x := um.val u) hA ok rfl hm rfl ?_)
  refine look_val (x := !um.isNo) (um_ne _ _ _) ?_
  -- behind the end of what is under way
  have fin : ∀ {B : Ar} {x' : Ts} {ps' : List Sp} {s' : Sl} {m' : Value} {tl' : Bl} {j0 : UmJ}, Aw I B → Ok I G (keys (g.bl q mq e ++ (stB b q x' s' m' :: tl'))) → SlAt tl' ty_func_thief_machine (eF b) s' (ps'.map Sp.f) →
      wp Tryz.prog (.look (opS Tryz.prog (.nilCheck (.tmp 0)) ty_unit [(.pointer (some ⟨b, 0, none⟩))]) (.one (.leaf .addr)) fun x36 =>
          .st (x36.add 7) .nilIface <|
          .look (opS Tryz.prog (.nilCheck (.tmp 0)) ty_unit [(.pointer (some ⟨b, 0, none⟩))]) (.one (.leaf .addr)) fun x39 =>
          .ld (x39.add 7) .val fun x41 =>
          .look (opS Tryz.prog (.binOp .eql ty_thief_machine (.tmp 0) (.const .nilIface) ty_thief_machine) ty_bool [x41]) (.one (.leaf .bool)) fun x42 =>
          bif x42 then (
            .look (opS Tryz.prog (.nilCheck (.tmp 0)) ty_unit [(.pointer (some ⟨b, 0, none⟩))]) (.one (.leaf .addr)) fun x45 =>
            .ld (x45.add 8) .bool fun x47 =>
            .ret (.bool x47))
          else (
            .ret (.bool false))) L (own B (g.bl q mq e ++ (stB b q x' s' m' :: tl')) G) (TsP g q mq e b (⟨x', ps', .no⟩, B) I G) := fun {B x' ps' s' m' tl' j0} hB o hs => by
    refine wp_nil.2 (st_front (i := 7) (s' := s') (x' := x') (m' := .nilIface) hB o rfl rfl rfl fun o1 => ?_)
    exact ts_ret (z := ⟨x', ps', .no⟩) (j := ⟨b, s', u, tl'⟩) hB o1 ⟨hs, trivial⟩
  cases um with
  | no => exact wp_false rfl (ts_ret (z := ⟨x, ps, .no⟩) (j := ⟨b, s, u, tl⟩) hA ok rp)
  | one k =>
    refine wp_true rfl (wp_nil.2 (w_ldm (x := oneV k.f u.z) hA ok rfl hm rfl ?_))
    refine act_enter (one_inv _ _) ?_
    have ok : Ok I G (keys (g.bl q mq e ++ (stB b q x s (oneV k.f u.z) :: ([(u.z, oc ty_p_thief_Steal (cellO b))] ++ tl)))) := ok
    obtain ⟨p1, o1⟩ := own_perm (A := A) (l' := (b, oc ty_thief_Steal (tsC x q s (oneV k.f u.z))) :: (g.bl q mq e ++ ([(u.z, oc ty_p_thief_Steal (cellO b))] ++ tl))) ok (perm_by fun d f c0 cd ca => by show d (g.bl q mq e ++ ((b, oc ty_thief_Steal (tsC x q s (oneV k.f u.z))) :: _)) = _; simp only [cd, ca]; omega)
    show wp Tryz.prog _ L (own A (g.bl q mq e ++ (stB b q x s (oneV k.f u.z) :: ([(u.z, oc ty_p_thief_Steal (cellO b))] ++ tl))) G) _
    rw [p1]
    obtain ⟨s', hs', sp⟩ := one_spec k (ps := ps) (c := u.z) hb.b hA o1 (List.mem_cons_of_mem _ (List.mem_append_right _ List.mem_cons_self)) rp.1
    refine wp_call_of sp ?_
    rintro v H ⟨rfl, rfl, hB⟩
    refine ⟨true, rfl, wp_true rfl ?_⟩
    have o2 : Ok I G (keys ((b, oc ty_thief_Steal (tsC (one1 k x ps A).1 q s' (oneV k.f u.z))) :: (g.bl q mq e ++ ([(u.z, oc ty_p_thief_Steal (cellO b))] ++ tl)))) := o1
    obtain ⟨p2, o3⟩ := own_perm (A := (one1 k x ps A).2.2) (l' := g.bl q mq e ++ (stB b q (one1 k x ps A).1 s' (oneV k.f u.z) :: ([(u.z, oc ty_p_thief_Steal (cellO b))] ++ tl))) o2 (perm_by fun d f c0 cd ca => by show _ = d (g.bl q mq e ++ ((b, oc ty_thief_Steal (tsC (one1 k x ps A).1 q s' (oneV k.f u.z))) :: _)); simp only [cd, ca]; omega)
    rw [p2]
    exact fin (j0 := u) hB o3 (hs'.mono fun p hp => List.mem_append_right _ hp)
  | pin p =>
    refine wp_true rfl (wp_nil.2 (w_ldm (x := .iface ty_p_epoch_Pin (.pointer (some ⟨u.z, 0, none⟩))) hA ok rfl hm rfl ?_))
    refine act_enter (mPn_inv _ _) ?_
    have ok : Ok I G (keys (g.bl q mq e ++ (stB b q x s (.iface ty_p_epoch_Pin (.pointer (some ⟨u.z, 0, none⟩))) :: (p.bl u.z ++ tl)))) := ok
    obtain ⟨p1, o1⟩ := own_perm (A := A) (l' := p.bl u.z ++ (g.bl q mq e ++ (stB b q x s (.iface ty_p_epoch_Pin (.pointer (some ⟨u.z, 0, none⟩))) :: tl))) ok (perm_by fun d f c0 cd ca => by simp only [cd, ca]; omega)
    show wp Tryz.prog _ L (own A (g.bl q mq e ++ (stB b q x s (.iface ty_p_epoch_Pin (.pointer (some ⟨u.z, 0, none⟩))) :: (p.bl u.z ++ tl))) G) _
    rw [p1]
    rw [keys_append] at o1
    obtain ⟨oa, ob⟩ := o1.split
    refine w_sub (mPn_ok I A _ p u.z hA oa hi) ?_
    rintro v H ⟨z', rfl, rfl, ha, o3, hB⟩
    have ha : z' = u.z := ha
    subst ha
    refine ⟨mPn.fin (p.step A).1, rfl, ?_⟩
    rw [← own_append]
    have o4 : Ok I G (keys ((p.step A).1.bl u.z ++ (g.bl q mq e ++ (stB b q x s (.iface ty_p_epoch_Pin (.pointer (some ⟨u.z, 0, none⟩))) :: tl)))) := by rw [keys_append]; exact o3.join ob
    have hB : Aw I (p.step A).2 := hB
    obtain ⟨p2, o5⟩ := own_perm (A := (p.step A).2) (l' := g.bl q mq e ++ (stB b q x s (.iface ty_p_epoch_Pin (.pointer (some ⟨u.z, 0, none⟩))) :: ((p.step A).1.bl u.z ++ tl))) o4 (perm_by fun d f c0 cd ca => by simp only [cd, ca]; omega)
    show wp Tryz.prog _ L (own (p.step A).2 ((p.step A).1.bl u.z ++ (g.bl q mq e ++ (stB b q x s (.iface ty_p_epoch_Pin (.pointer (some ⟨u.z, 0, none⟩))) :: tl))) G) (TsP g q mq e b (⟨x, ps, if mPn.fin (p.step A).1 = true then .no else .pin (p.step A).1⟩, (p.step A).2) I G)
    rw [p2]
    cases hf : mPn.fin (p.step A).1 with
    | true =>
      rw [if_pos rfl]
      exact wp_true rfl (fin (j0 := u) hB o5 (rp.1.mono fun p hp => List.mem_append_right _ hp))
    | false =>
      rw [if_neg (by decide)]
      exact wp_false rfl (ts_ret (z := ⟨x, ps, .pin (p.step A).1⟩) (j := ⟨b, s, u, tl⟩) hB o5 ⟨rp.1, trivial⟩)
  | se p =>
    refine wp_true rfl (wp_nil.2 (w_ldm (x := .iface ty_p_guard_sets (.pointer (some ⟨u.se.q, 0, none⟩))) hA ok rfl hm rfl ?_))
    refine act_enter (mSe_inv _ _) ?_
    have ok : Ok I G (keys (g.bl q mq e ++ (stB b q x s (.iface ty_p_guard_sets (.pointer (some ⟨u.se.q, 0, none⟩))) :: (p.bl u.se ++ tl)))) := ok
    obtain ⟨p1, o1⟩ := own_perm (A := A) (l' := p.bl u.se ++ (g.bl q mq e ++ (stB b q x s (.iface ty_p_guard_sets (.pointer (some ⟨u.se.q, 0, none⟩))) :: tl))) ok (perm_by fun d f c0 cd ca => by simp only [cd, ca]; omega)
    show wp Tryz.prog _ L (own A (g.bl q mq e ++ (stB b q x s (.iface ty_p_guard_sets (.pointer (some ⟨u.se.q, 0, none⟩))) :: (p.bl u.se ++ tl))) G) _
    rw [p1]
    rw [keys_append] at o1
    obtain ⟨oa, ob⟩ := o1.split
    refine w_sub (mSe_ok I A _ p u.se hA oa rp.2 trivial) ?_
    rintro v H ⟨z', rfl, rfl, ha, o3, rp', hB⟩
    have ha : z'.q = u.se.q := ha
    refine ⟨mSe.fin (p.step A).1, rfl, ?_⟩
    rw [← own_append]
    have o4 : Ok I G (keys ((p.step A).1.bl z' ++ (g.bl q mq e ++ (stB b q x s (.iface ty_p_guard_sets (.pointer (some ⟨u.se.q, 0, none⟩))) :: tl)))) := by rw [keys_append]; exact o3.join ob
    have hB : Aw I (p.step A).2 := hB
    obtain ⟨p2, o5⟩ := own_perm (A := (p.step A).2) (l' := g.bl q mq e ++ (stB b q x s (.iface ty_p_guard_sets (.pointer (some ⟨u.se.q, 0, none⟩))) :: ((p.step A).1.bl z' ++ tl))) o4 (perm_by fun d f c0 cd ca => by simp only [cd, ca]; omega)
    show wp Tryz.prog _ L (own (p.step A).2 ((p.step A).1.bl z' ++ (g.bl q mq e ++ (stB b q x s (.iface ty_p_guard_sets (.pointer (some ⟨u.se.q, 0, none⟩))) :: tl))) G) (TsP g q mq e b (⟨x, ps, if mSe.fin (p.step A).1 = true then .no else .se (p.step A).1⟩, (p.step A).2) I G)
    rw [p2]
    cases hf : mSe.fin (p.step A).1 with
    | true =>
      rw [if_pos rfl]
      exact wp_true rfl (fin (j0 := u) hB o5 (rp.1.mono fun p hp => List.mem_append_right _ hp))
    | false =>
      rw [if_neg (by decide)]
      rw [← ha] at o5 ⊢
      exact wp_false rfl (ts_ret (z := ⟨x, ps, .se (p.step A).1⟩) (j := ⟨b, s, ⟨u.z, z'⟩, tl⟩) hB o5 ⟨rp.1, rp'⟩)
theorem nx_tb : ∀ (ps : List Sp), Tb g x → Tb g (nx g x ps).1
  | [], h => by
    unfold nx
    split
    · exact h
    · exact ⟨⟨h.b.a, h.b.w⟩, h.a, h.w⟩
  | p :: ps, h => by
    unfold nx
    split
    · exact nx_tb ps h
    · exact h
theorem bg_inv (p : Sp) : (bg g x p).inv := by
  by_cases he : g.ep = true <;> cases p <;> simp [bg, he, Um.inv, newPn]
theorem nx_inv : ∀ (ps : List Sp), (nx g x ps).2.2.inv
  | [] => by unfold nx; split <;> trivial
  | p :: ps => by
    unfold nx
    split
    · exact nx_inv ps
    · exact bg_inv p
theorem mTs_ok : (mTs g q mq e).ok := by
  rintro I A G ⟨x, ps, um⟩ ⟨b, s, u, tl⟩ hA ok rp ⟨hb, hi⟩
  have hb : Tb g x := hb
  have hi : um.inv := hi
  have ok : Ok I G (keys (St.bl g q mq e ⟨x, ps, um⟩ ⟨b, s, u, tl⟩)) := ok
  have rp : SlAt tl ty_func_thief_machine (eF b) s (ps.map Sp.f) ∧ um.rep u := rp
  refine SpecF.mono (R := TsP g q mq e b (St.step g ⟨x, ps, um⟩ A) I G) ?_ ?_
  rotate_left
  · rintro v K ⟨j, rfl, rfl, a1, o, r, a⟩
    exact ⟨j, rfl, rfl, a1, o, r, a⟩
  refine t_thief_Steal_Step_spec fun L => ?_
  unfold t_thief_Steal_Step
  have hm : stB b q x s (um.val u) ∈ St.bl g q mq e ⟨x, ps, um⟩ ⟨b, s, u, tl⟩ := List.mem_append_right _ List.mem_cons_self
  show wp Tryz.prog _ L (own A (St.bl g q mq e ⟨x, ps, um⟩ ⟨b, s, u, tl⟩) G) _
  refine wp_nil.2 (w_ldm (x := um.val u) hA ok rfl hm rfl ?_)
  refine look_val (x := um.isNo) (um_eq _ _ _) ?_
  unfold St.step
  cases hn : um.isNo with
  | false =>
    refine wp_false rfl ?_
    have e1 : St.nx g ⟨x, ps, um⟩ = (x, ps, um) := if_neg (fun h => by have := h.1; rw [show (St.mk x ps um).um = um from rfl, hn] at this; cases this)
    rw [e1]
    exact ts_sub (z := (x, ps, um)) (j := ⟨b, s, u, tl⟩) hb hi hA ok rp
  | true =>
    refine wp_true rfl (wp_nil.2 (w_ldm (x := x.leaves) hA ok rfl hm rfl ?_))
    cases hl : x.leaves with
    | true =>
      refine wp_false rfl ?_
      have e1 : St.nx g ⟨x, ps, um⟩ = (x, ps, um) := if_neg (fun h => by have := h.2; rw [show (St.mk x ps um).x = x from rfl, hl] at this; cases this)
      rw [e1]
      exact ts_sub (z := (x, ps, um)) (j := ⟨b, s, u, tl⟩) hb hi hA ok rp
    | false =>
      refine wp_true rfl ?_
      have e1 : St.nx g ⟨x, ps, um⟩ = nx g x ps := if_pos ⟨hn, hl⟩
      rw [e1]
      have hu : um = .no := by cases um <;> first | rfl | cases hn
      subst hu
      refine wp_call_of (R0 := NxP g q mq b e .nilIface tl A I G (nx g x ps)) ?_ ?_
      · refine t_thief_Steal_next_spec fun L => ?_
        unfold t_thief_Steal_next
        exact next_go ⟨hb.a.1, hb.a.2, hb.w.1, hb.w.2⟩ hA ps s [] .nilIface ok rp.1
      · rintro v H ⟨s', j, gar, rfl, rfl, o1, h1, h2⟩
        refine ⟨_, rfl, ?_⟩
        have tb := nx_tb ps hb
        have iv := nx_inv (g := g) (x := x) ps
        generalize nx g x ps = z at *
        refine wp_nil.2 ?_
        rw [st_um]
        refine st_front (i := 7) (s' := s') (x' := z.1) (m' := z.2.2.val j) hA o1 (um_single _ _) rfl rfl fun o2 => ?_
        exact ts_sub (z := z) (j := ⟨b, s', j, gar ++ tl⟩) tb iv hA o2 ⟨h1.mono fun p hp => List.mem_append_right _ hp, h2⟩
end
section
variable {A B C : Ar} {g : Gd} {q mq N : Nat} {e : List LE} {x x' : Ts} {ps ps' : List Sp} {z : St}
theorem r_skip {p : Sp} (hb : bg g x p = .no) (hl : x.leaves = false) (h : (mTs g q mq e).Runs N ⟨x, ps, .no⟩ A z B) : (mTs g q mq e).Runs N ⟨x, p :: ps, .no⟩ A z B := by
  have es : (mTs g q mq e).step ⟨x, p :: ps, .no⟩ A = (mTs g q mq e).step ⟨x, ps, .no⟩ A := by
    show St.sub (St.nx g ⟨x, p :: ps, .no⟩) A = St.sub (St.nx g ⟨x, ps, .no⟩) A
    have e1 : St.nx g ⟨x, p :: ps, .no⟩ = nx g x (p :: ps) := if_pos ⟨rfl, hl⟩
    have e2 : St.nx g ⟨x, ps, .no⟩ = nx g x ps := if_pos ⟨rfl, hl⟩
    rw [e1, e2]
    have : nx g x (p :: ps) = nx g x ps := by
      show (if (bg g x p).isNo = true then nx g x ps else (x, ps, bg g x p)) = _
      rw [hb]; exact if_pos rfl
    rw [this]
  have iv : (mTs g q mq e).inv ⟨x, ps, .no⟩ A → (mTs g q mq e).inv ⟨x, p :: ps, .no⟩ A := fun h => h
  generalize hy : (⟨x, ps, .no⟩ : St) = y at *
  cases h with
  | one hi hst hu hf => exact .one (iv hi) (es.trans hst) hu hf
  | more hi hst hu hf hr => exact .more (iv hi) (es.trans hst) hu hf hr
theorem st_nx {p : Sp} (hl : x.leaves = false) (hb : (bg g x p).isNo = false) : St.nx g ⟨x, p :: ps, .no⟩ = (x, ps, bg g x p) := by
  have e1 : St.nx g ⟨x, p :: ps, .no⟩ = nx g x (p :: ps) := if_pos ⟨rfl, hl⟩
  rw [e1]
  show (if (bg g x p).isNo = true then nx g x ps else (x, ps, bg g x p)) = _
  rw [hb, if_neg (by decide)]
theorem one1_lv (k : K1) (x : Ts) (ps : List Sp) (A : Ar) : (one1 k x ps A).1.leaves = x.leaves := by cases k <;> rfl
theorem r_one {p : Sp} {k : K1} (tb : Tb g x) (hb : bg g x p = .one k) (hl : x.leaves = false) (e1 : one1 k x ps A = (x', ps', B)) (hu : B.uses ≤ w64 (A.uses + 1)) (h : (mTs g q mq e).Runs N ⟨x', ps', .no⟩ B z C) : (mTs g q mq e).Runs (N + 1) ⟨x, p :: ps, .no⟩ A z C := by
  refine .more (x1 := ⟨x', ps', .no⟩) (D1 := B) ⟨tb, trivial⟩ ?_ hu ?_ h
  · show St.sub (St.nx g ⟨x, p :: ps, .no⟩) A = _
    rw [st_nx hl (by rw [hb]; rfl), hb]
    show ((⟨(one1 k x ps A).1, (one1 k x ps A).2.1, .no⟩ : St), (one1 k x ps A).2.2) = _
    rw [e1]
  · have := one1_lv k x ps A
    rw [e1] at this
    show (true && x'.leaves) = false
    rw [show x'.leaves = x.leaves from this, hl]; rfl
theorem r_se {p : Sp} {w v : Int} (tb : Tb g x) (hb : bg g x p = .se ⟨[w], v⟩) (hl : x.leaves = false) (hu : (A.storeR w v).uses ≤ w64 (A.uses + 1)) (h : (mTs g q mq e).Runs N ⟨x, ps, .no⟩ (A.storeR w v) z C) : (mTs g q mq e).Runs (N + 1) ⟨x, p :: ps, .no⟩ A z C := by
  refine .more (x1 := ⟨x, ps, .no⟩) (D1 := A.storeR w v) ⟨tb, trivial⟩ ?_ hu ?_ h
  · show St.sub (St.nx g ⟨x, p :: ps, .no⟩) A = _
    rw [st_nx hl (by rw [hb]; rfl), hb]; rfl
  · show (true && x.leaves) = false; rw [hl]; rfl
theorem r_pin' {n : Nat} {u u' : Pn} (tb : Tb g x) (hl : x.leaves = false) (hp : mPn.Runs n u A u' B) (h : (mTs g q mq e).Runs N ⟨x, ps, .no⟩ B z C) : (mTs g q mq e).Runs (n + N) ⟨x, ps, .pin u⟩ A z C := by
  have fl : ∀ y : Um, (mTs g q mq e).fin ⟨x, ps, y⟩ = false := fun y => by show (y.isNo && x.leaves) = false; rw [hl, Bool.and_false]
  have st : ∀ (u : Pn) (A : Ar), (mTs g q mq e).step ⟨x, ps, .pin u⟩ A = (⟨x, ps, if mPn.fin (u.step A).1 = true then .no else .pin (u.step A).1⟩, (u.step A).2) := fun u A => by
    show St.sub (St.nx g ⟨x, ps, .pin u⟩) A = _
    have : St.nx g ⟨x, ps, .pin u⟩ = (x, ps, .pin u) := if_neg (fun h => (by cases h.1))
    rw [this]; rfl
  induction hp with
  | @one u A hi hu hf =>
    rw [Nat.add_comm]
    refine .more (x1 := ⟨x, ps, .no⟩) ⟨tb, hi⟩ ((st u A).trans ?_) hu (fl _) h
    have hf : mPn.fin (u.step A).1 = true := hf
    rw [if_pos hf]; rfl
  | @more n u A u' A' hi hu hf hr ih =>
    rw [show n + 1 + N = n + N + 1 by omega]
    refine .more (x1 := ⟨x, ps, .pin (u.step A).1⟩) ⟨tb, hi⟩ ((st u A).trans ?_) hu (fl _) (ih h)
    have hf : mPn.fin (u.step A).1 = false := hf
    rw [if_neg (by rw [hf]; decide)]; rfl
theorem r_pin {n : Nat} {u u' : Pn} {p : Sp} (tb : Tb g x) (hb : bg g x p = .pin u) (hl : x.leaves = false) (hp : mPn.Runs n u A u' B) (h : (mTs g q mq e).Runs N ⟨x, ps, .no⟩ B z C) : (mTs g q mq e).Runs (n + N) ⟨x, p :: ps, .no⟩ A z C := by
  have h2 := r_pin' tb hl hp h
  have es : (mTs g q mq e).step ⟨x, p :: ps, .no⟩ A = (mTs g q mq e).step ⟨x, ps, .pin u⟩ A := by
    show St.sub (St.nx g ⟨x, p :: ps, .no⟩) A = St.sub (St.nx g ⟨x, ps, .pin u⟩) A
    have : St.nx g ⟨x, ps, .pin u⟩ = (x, ps, .pin u) := if_neg (fun h => (by cases h.1))
    rw [this, st_nx hl (by rw [hb]; rfl), hb]
  have iv : (mTs g q mq e).inv ⟨x, ps, .pin u⟩ A → (mTs g q mq e).inv ⟨x, p :: ps, .no⟩ A := fun h => ⟨h.1, trivial⟩
  generalize hy : (⟨x, ps, .pin u⟩ : St) = y at *
  generalize n + N = M at *
  cases h2 with
  | one hi hst hu hf => exact .one (iv hi) (es.trans hst) hu hf
  | more hi hst hu hf hr => exact .more (iv hi) (es.trans hst) hu hf hr
theorem r_leaveE (he : g.ep = true) (tb : Tb g x) (hl : x.leaves = false) (hu : (A.storeR (ewd g.ta x.work) 0).uses ≤ w64 (A.uses + 1)) : (mTs g q mq e).Runs 1 ⟨x, [], .no⟩ A ⟨{ x with leaves := true }, [], .no⟩ (A.storeR (ewd g.ta x.work) 0) := by
  refine .one ⟨tb, trivial⟩ ?_ hu rfl
  show St.sub (St.nx g ⟨x, [], .no⟩) A = _
  have e1 : St.nx g ⟨x, [], .no⟩ = nx g x [] := if_pos ⟨rfl, hl⟩
  rw [e1]
  unfold nx
  rw [if_neg (by rw [hl]; decide)]
  unfold leaveW
  rw [he]; rfl
theorem r_leaveH (he : g.ep = false) (tb : Tb g x) (hl : x.leaves = false) (hu : (A.storeR (g.ta + 2 * x.work) 0).uses ≤ w64 (A.uses + 1)) (hu2 : ((A.storeR (g.ta + 2 * x.work) 0).storeR (g.ta + 2 * x.work + 1) 0).uses ≤ w64 ((A.storeR (g.ta + 2 * x.work) 0).uses + 1)) :
    (mTs g q mq e).Runs 2 ⟨x, [], .no⟩ A ⟨{ x with leaves := true }, [], .no⟩ ((A.storeR (g.ta + 2 * x.work) 0).storeR (g.ta + 2 * x.work + 1) 0) := by
  have iv1 : (mTs g q mq e).inv ⟨{ x with leaves := true }, [], .se ⟨[g.ta + 2 * x.work + 1], 0⟩⟩ (A.storeR (g.ta + 2 * x.work) 0) := ⟨⟨⟨tb.b.a, tb.b.w⟩, tb.a, tb.w⟩, trivial⟩
  refine .more (x1 := ⟨{ x with leaves := true }, [], .se ⟨[g.ta + 2 * x.work + 1], 0⟩⟩) ⟨tb, trivial⟩ ?_ hu rfl (.one iv1 ?_ hu2 rfl)
  · show St.sub (St.nx g ⟨x, [], .no⟩) A = _
    have e1 : St.nx g ⟨x, [], .no⟩ = nx g x [] := if_pos ⟨rfl, hl⟩
    rw [e1]
    unfold nx
    rw [if_neg (by rw [hl]; decide)]
    unfold leaveW
    rw [he]; rfl
  · show St.sub (St.nx g ⟨{ x with leaves := true }, [], .se ⟨[g.ta + 2 * x.work + 1], 0⟩⟩) (A.storeR (g.ta + 2 * x.work) 0) = _
    have e1 : St.nx g ⟨{ x with leaves := true }, [], .se ⟨[g.ta + 2 * x.work + 1], 0⟩⟩ = ({ x with leaves := true }, [], .se ⟨[g.ta + 2 * x.work + 1], 0⟩) := if_neg (fun h => (by cases h.1))
    rw [e1]; rfl
end
section
variable {A B C D : Ar} {g : Gd} {m : Int} {S : Sg} {l : Int → List (Int × Int)} {u u' at_ ex i w : Int} {n v : Nat} {f : Nat → Dq} {q mq N : Nat} {e : List LE} {x x' : Ts} {ps ps' : List Sp} {z : St}
structure Sm (A : Ar) (g : Gd) (m : Int) (S : Sg) (l : Int → List (Int × Int)) (B : Ar) (u : Int) : Prop where
  gi : GI B g m S l
  al : Ar.Alike A B
  st : ∀ h, B.stF h = A.stF h
  lf : ∀ h j, B.loadF h j = A.loadF h j
  rf : ∀ i, g.ta + gwords g.ep g.w ≤ i → B.rawF i = A.rawF i
  gt : g.ep = true → B.rawF g.ta = A.rawF g.ta
  nL : B.nL = A.nL
  rl : B.raw.length = A.raw.length
  us : B.uses = A.uses + u
  u0 : 0 ≤ u
theorem Sm.refl (X : GI A g m S l) : Sm A g m S l A 0 := ⟨X, .refl A, fun _ => rfl, fun _ _ => rfl, fun _ _ => rfl, fun _ => rfl, rfl, rfl, by omega, by decide⟩
theorem Sm.trans (a : Sm A g m S l B u) (b : Sm B g m S l C u') : Sm A g m S l C (u + u') :=
  ⟨b.gi, a.al.trans b.al, fun h => (b.st h).trans (a.st h), fun h j => (b.lf h j).trans (a.lf h j), fun i hi => (b.rf i hi).trans (a.rf i hi), fun he => (b.gt he).trans (a.gt he), b.nL.trans a.nL, b.rl.trans a.rl, by have := a.us; have := b.us; omega, by have := a.u0; have := b.u0; omega⟩
theorem Sm.later (X : GI A g m S l) : Sm A g m S l (A.later 1) 1 := ⟨X.later (by decide), later_alike A 1, fun h => st_later' A 1 h, fun h j => ld_later' A 1 h j, fun _ _ => rfl, fun _ => rfl, rfl, rfl, rfl, by decide⟩
theorem Sm.word (X : GI A g m S l) (hu : A.uses ≤ 900000) (h0 : g.ta ≤ i ∧ i < g.ta + gwords g.ep g.w) (he : g.ep = true → i ≠ g.ta) : Sm A g m S l (A.storeR i w) 1 ∧ (A.storeR i w).uses ≤ w64 (A.uses + 1) ∧ ∀ j, (A.storeR i w).rawF j = if j = i then w else A.rawF j := by
  have u0 := X.u0
  have ta := X.ta
  have c0 := X.c0
  have rl := X.rl
  have O := outS X.sl (i := i) (v := w) ⟨by omega, by omega⟩ (by omega)
  have ou := O.us
  have okr : A.rawOk i := ⟨by omega, by omega⟩
  have ew : (A.storeR i w).words = A.words := by unfold Ar.storeR; rw [if_pos okr]; rfl
  exact ⟨⟨X.out O (storeR_wf X.wf _ _) he, storeR_alike _ _ _, O.st, fun h j => loadF_same ew (O.st h), fun j hj => by rw [O.rf, if_neg (by omega)], fun h => by rw [O.rf, if_neg (fun e => he h e.symm)], O.nL, O.rl, ou, by decide⟩, by rw [ou, w64_in (by omega) (by omega)]; exact Int.le_refl _, O.rf⟩
theorem Sm.di (a : Sm A g m S l B u) (E : DI A g m S l at_ n ex f) : DI B g m S l at_ n ex f := by
  have u0 := a.u0
  have us := a.us
  refine ⟨a.gi, ⟨E.da.lo, by rw [a.rl]; exact E.da.hi⟩, E.nw, fun i hi => ?_, E.oa, E.ow, E.op, E.ne, a.nL.trans E.nL, E.ex0, E.ll, fun i hi => by have := E.tu i hi; omega, E.cv⟩
  refine (E.dq i hi).move (fun k k0 k1 => a.rf _ ?_) (by rw [a.st]; exact (E.dq i hi).hs) (a.lf _)
  have := E.oa i hi
  have := E.ow i hi
  have := E.da.lo
  unfold dw; omega
structure Go (g : Gd) (q mq : Nat) (e : List LE) (k : Nat) (x : Ts) (ps : List Sp) (A : Ar) (x' : Ts) (ps' : List Sp) (B : Ar) : Prop where
  go : ∀ {N : Nat} {z : St} {C : Ar}, (mTs g q mq e).Runs N ⟨x', ps', .no⟩ B z C → (mTs g q mq e).Runs (N + k) ⟨x, ps, .no⟩ A z C
theorem Go.trans {k j : Nat} {x2 : Ts} {ps2 : List Sp} (a : Go g q mq e k x ps A x' ps' B) (b : Go g q mq e j x' ps' B x2 ps2 C) : Go g q mq e (j + k) x ps A x2 ps2 C := ⟨fun h => by
  have := a.go (b.go h)
  rwa [Nat.add_assoc] at this⟩
structure Vx (at_ : Int) (v : Nat) (x : Ts) : Prop where
  a : x.at_ = at_
  v : x.victim = v
  l : x.leaves = false
theorem lt_uses (h : 0 ≤ A.uses) (hu : A.uses ≤ 900000) : (A.later 1).uses ≤ w64 (A.uses + 1) := by
  show A.uses + 1 ≤ _; rw [w64_in (by omega) (by omega)]; exact Int.le_refl _
theorem DI.rd (E : DI A g m S l at_ n ex f) (hv : v < n) (hu : A.uses ≤ 900000) {k : Int} (k0 : 0 ≤ k) (k1 : k < 3) : A.touchR (dw at_ v k) = A.later 1 := by
  obtain ⟨wh, da, hs, lb, sz⟩ := E.ati hv
  have := touchR_dw (o := (f v).o) E.gi da wh hu k0 k1
  rwa [E.oa v hv, E.ow v hv] at this
theorem DI.r (E : DI A g m S l at_ n ex f) (hv : v < n) : A.rawF (dw at_ v 0) = (f v).t ∧ A.rawF (dw at_ v 1) = (f v).o.b ∧ A.rawF (dw at_ v 2) = (f v).o.h := by
  have Q := E.dq v hv
  have a := E.oa v hv
  have b := E.ow v hv
  have r0 := Q.r0
  have r1 := Q.r1
  have r2 := Q.r2
  rw [a, b] at r0 r1 r2
  exact ⟨r0, r1, r2⟩
section
variable (E : DI A g m S l at_ n ex f) (hv : v < n) (hu : A.uses ≤ 900000) (tb : Tb g x) (V : Vx at_ v x)
include E hv hu tb V
theorem o_reads : Go g q mq e 1 x (.reads :: ps) A { x with t := (f v).t } ps (A.later 1) := by
  have e1 : one1 .reads x ps A = ({ x with t := (f v).t }, ps, A.later 1) := by
    show ({ x with t := A.rawF (dw x.at_ x.victim 0) }, ps, A.touchR (dw x.at_ x.victim 0)) = _
    rw [V.a, V.v, (E.r hv).1, E.rd hv hu (by decide) (by decide)]
  exact ⟨fun h => r_one (p := .reads) (k := .reads) tb rfl V.l e1 (lt_uses E.gi.u0 hu) h⟩
theorem o_lasts : Go g q mq e 1 x (.lasts :: ps) A x (if (f v).o.b ≤ x.t then [] else ps) (A.later 1) := by
  have e1 : one1 .lasts x ps A = (x, if (f v).o.b ≤ x.t then [] else ps, A.later 1) := by
    show (x, if A.rawF (dw x.at_ x.victim 1) ≤ x.t then [] else ps, A.touchR (dw x.at_ x.victim 1)) = _
    rw [V.a, V.v, (E.r hv).2.1, E.rd hv hu (by decide) (by decide)]
  exact ⟨fun h => r_one (p := .lasts) (k := .lasts) tb rfl V.l e1 (lt_uses E.gi.u0 hu) h⟩
theorem o_buffers : Go g q mq e 1 x (.buffers :: ps) A { x with h := (f v).o.h } ps (A.later 1) := by
  have e1 : one1 .buffers x ps A = ({ x with h := (f v).o.h }, ps, A.later 1) := by
    show ({ x with h := A.rawF (dw x.at_ x.victim 2) }, ps, A.touchR (dw x.at_ x.victim 2)) = _
    rw [V.a, V.v, (E.r hv).2.2, E.rd hv hu (by decide) (by decide)]
  exact ⟨fun h => r_one (p := .buffers) (k := .buffers) tb rfl V.l e1 (lt_uses E.gi.u0 hu) h⟩
theorem o_again (he : g.ep = false) (hh : x.h = (f v).o.h) : Go g q mq e 1 x (.again :: ps) A x ps (A.later 1) := by
  have e1 : one1 .again x ps A = (x, ps, A.later 1) := by
    show (x, if A.rawF (dw x.at_ x.victim 2) = x.h then ps else [], A.touchR (dw x.at_ x.victim 2)) = _
    rw [V.a, V.v, (E.r hv).2.2, E.rd hv hu (by decide) (by decide), if_pos hh.symm]
  exact ⟨fun h => r_one (p := .again) (k := .again) tb (if_neg (by rw [he]; decide)) V.l e1 (lt_uses E.gi.u0 hu) h⟩
theorem o_still (ht : x.t = (f v).t) : Go g q mq e 1 x (.still :: ps) A x ps (A.later 1) := by
  have e1 : one1 .still x ps A = (x, ps, A.later 1) := by
    show (x, if A.rawF (dw x.at_ x.victim 0) = x.t then ps else [], A.touchR (dw x.at_ x.victim 0)) = _
    rw [V.a, V.v, (E.r hv).1, E.rd hv hu (by decide) (by decide), if_pos ht.symm]
  exact ⟨fun h => r_one (p := .still) (k := .still) tb rfl V.l e1 (lt_uses E.gi.u0 hu) h⟩
theorem o_more (he : g.ep = false) (ht : x.t = (f v).t) : Go g q mq e 1 x (.more :: ps) A x ps (A.later 1) := by
  have e1 : one1 .still x ps A = (x, ps, A.later 1) := by
    show (x, if A.rawF (dw x.at_ x.victim 0) = x.t then ps else [], A.touchR (dw x.at_ x.victim 0)) = _
    rw [V.a, V.v, (E.r hv).1, E.rd hv hu (by decide) (by decide), if_pos ht.symm]
  exact ⟨fun h => r_one (p := .more) (k := .still) tb (if_neg (by rw [he]; decide)) V.l e1 (lt_uses E.gi.u0 hu) h⟩
theorem o_loads (hh : x.h = (f v).o.h) (ht : x.t = (f v).t) {y : Int} {ys : List Int} (hx : (f v).xs = y :: ys) : Go g q mq e 1 x (.loads :: ps) A { x with v := y } ps (A.later 1) := by
  have Q := E.dq v hv
  have hs0 : A.stF (f v).o.h ≠ 0 := by rw [Q.hs]; decide
  have sz := sz_op (f v).o.h
  have m0 := Int.emod_nonneg (f v).t (b := sizeF (opC (f v).o.h)) (by omega)
  have m1 := Int.emod_lt_of_pos (f v).t (b := sizeF (opC (f v).o.h)) (by omega)
  have l0 := Q.ld 0 (by rw [hx]; exact Nat.succ_pos _)
  rw [hx, show (f v).t + ((0 : Nat) : Int) = (f v).t by omega] at l0
  have l0 : A.loadF (f v).o.h ((f v).t % sizeF (opC (f v).o.h)) = y := l0
  have e1 : one1 .loads x ps A = ({ x with v := y }, ps, A.later 1) := by
    show ({ x with v := A.loadF x.h (wordF x.h x.t) }, ps, A.touch x.h (wordF x.h x.t)) = _
    rw [hh, ht, wordF_live hs0, l0, touch_later E.gi (by omega) ⟨hs0, m0, m1⟩]
  exact ⟨fun h => r_one (p := .loads) (k := .loads) tb rfl V.l e1 (lt_uses E.gi.u0 hu) h⟩
theorem o_keys (hi : A.inOk x.v x.keyAt) : Go g q mq e 1 x (.keys :: ps) A x (if aheadF (A.loadF x.v x.keyAt) x.before = true then ps else []) (A.later 1) := by
  have hv' := hv
  have e1 : one1 .keys x ps A = (x, if aheadF (A.loadF x.v x.keyAt) x.before = true then ps else [], A.later 1) := by
    show (x, if aheadF (A.loadF x.v x.keyAt) x.before = true then ps else [], A.touch x.v x.keyAt) = _
    rw [touch_later E.gi (by omega) hi]
  exact ⟨fun h => r_one (p := .keys) (k := .keys) tb rfl V.l e1 (lt_uses E.gi.u0 hu) h⟩
theorem o_takes (ht : x.t = (f v).t) {y : Int} {ys : List Int} (hx : (f v).xs = y :: ys) : Go g q mq e 1 x (.takes :: ps) A { x with ok := true } ps (A.storeR (dw at_ v 0) ((f v).t + 1)) ∧
    DI (A.storeR (dw at_ v 0) ((f v).t + 1)) g m S l at_ n ex (updF f v { f v with t := (f v).t + 1, xs := ys }) ∧ Ar.Alike A (A.storeR (dw at_ v 0) ((f v).t + 1)) ∧ (A.storeR (dw at_ v 0) ((f v).t + 1)).uses = A.uses + 1 ∧
    (∀ h, (A.storeR (dw at_ v 0) ((f v).t + 1)).stF h = A.stF h) ∧ ∀ h j, (A.storeR (dw at_ v 0) ((f v).t + 1)).loadF h j = A.loadF h j := by
  obtain ⟨wh, da, hs, lb, sz⟩ := E.ati hv
  have X := E.gi
  have u0 := X.u0
  have Q := E.dq v hv
  have ow := E.ow v hv
  have oa := E.oa v hv
  have op := E.op v hv
  have tu := E.tu v hv
  have tq := Q.tb
  have bt := Q.bt
  have ln := Q.ln
  have P := X.bot da wh (by omega) ((f v).t + 1) (k := 0) (by decide) (by decide)
  rw [oa, ow] at P
  have us := P.us
  have lx : (f v).xs.length = ys.length + 1 := by rw [hx]; rfl
  obtain ⟨w1, w2⟩ := swapR_yes (A := A) (i := dw at_ v 0) (v := (f v).t) (x := (f v).t + 1) P.ok (E.r hv).1
  have e1 : one1 .takes x ps A = ({ x with ok := true }, ps, A.storeR (dw at_ v 0) ((f v).t + 1)) := by
    show ({ x with ok := A.swapRb (dw x.at_ x.victim 0) x.t }, ps, A.swapR (dw x.at_ x.victim 0) x.t (w64 (x.t + 1))) = _
    rw [V.a, V.v, ht, w64_in (x := (f v).t + 1) (by omega) (by omega), w1, w2]
  refine ⟨⟨fun h => r_one (p := .takes) (k := .takes) tb rfl V.l e1 P.us' h⟩, ?_, P.al, us, P.st, P.lf⟩
  refine E.put hv (x := { f v with t := (f v).t + 1, xs := ys }) P.gi P.rl ⟨?_, ?_, ?_, ?_, ?_, ?_, ?_, fun j hj => ?_⟩ oa ow op (fun j hj e => E.ne v j hv hj (fun h => e h.symm)) (by rw [P.nL]; show _ = A.nL - sizeF (opC (f v).o.h) + sizeF (opC (f v).o.h); omega) (E.ll v hv) (fun _ _ => rfl) (by show (f v).t + 1 ≤ _; omega) (by omega) (by show S.cv ≤ S.cv + 2 * sizeF (opC (f v).o.h) - 2 * sizeF (opC (f v).o.h); omega) (fun j hj e => ⟨by rw [P.st]; exact (E.dq j hj).hs, P.lf _⟩) (fun i _ _ h0 _ _ => by rw [P.rf, if_neg h0])
  · show Ar.rawF _ (dw (f v).o.at_ (f v).o.work 0) = (f v).t + 1
    rw [oa, ow, P.rf, if_pos rfl]
  · show Ar.rawF _ (dw (f v).o.at_ (f v).o.work 1) = (f v).o.b
    rw [oa, ow, P.rf, if_neg (by unfold dw; omega)]; exact (E.r hv).2.1
  · show Ar.rawF _ (dw (f v).o.at_ (f v).o.work 2) = (f v).o.h
    rw [oa, ow, P.rf, if_neg (by unfold dw; omega)]; exact (E.r hv).2.2
  · show (f v).o.b = (f v).t + 1 + (ys.length : Int); omega
  · show 0 ≤ (f v).t + 1 ∧ (f v).t + 1 ≤ 1000000; omega
  · show Ar.stF _ (f v).o.h = 1; rw [P.st]; exact hs
  · show (ys.length : Int) ≤ sizeF (opC (f v).o.h); omega
  · have hj : j < ys.length := hj
    show Ar.loadF _ (f v).o.h (((f v).t + 1 + j) % sizeF (opC (f v).o.h)) = ys.getD j 0
    rw [P.lf]
    have := Q.ld (j + 1) (by omega)
    rw [hx, show (f v).t + ((j + 1 : Nat) : Int) = (f v).t + 1 + j by omega] at this
    exact this
end
end
section
variable {A B C D : Ar} {g : Gd} {m : Int} {S : Sg} {l : Int → List (Int × Int)} {u u' at_ ex i w h : Int} {n v : Nat} {f : Nat → Dq} {q mq N : Nat} {e : List LE} {x x' : Ts} {ps ps' : List Sp} {z : St}
theorem o_enter (X : GI A g m S l) (hu : A.uses ≤ 800000) (tb : Tb g x) (V : x.leaves = false) (wk : x.work < g.w) :
    ∃ B k, k ≤ 3 ∧ Sm A g m S l B (if g.ep = true then 3 else 0) ∧ Go g q mq e k x (.enter :: ps) A x ps B := by
  cases he : g.ep with
  | false => exact ⟨A, 0, by decide, by rw [if_neg (by decide)]; exact .refl X, ⟨fun h => r_skip (if_neg (by rw [he]; decide)) V h⟩⟩
  | true =>
    have u0 := X.u0
    have ta := X.ta
    have c0 := X.c0
    have rl := X.rl
    have rb := X.rb
    have wb := X.wb
    have gw : gwords g.ep g.w = 1 + g.w := by unfold gwords; rw [he]; rfl
    obtain ⟨e0, e1⟩ := X.eb he
    have tw := tb.w
    obtain ⟨m', hp⟩ := pin_solo (A := A) (tw := g.w) (ta := g.ta) (who := x.work) (e := A.rawF g.ta) (by omega) ⟨tw.1, tw.2⟩ (by omega) rb u0 (by omega) rfl ⟨e0, by omega⟩
    have L1 := Sm.later X
    obtain ⟨W, _, _⟩ := Sm.word (w := A.rawF g.ta + 1) L1.gi (by show A.uses + 1 ≤ _; omega) (i := g.ta + 1 + x.work) ⟨by omega, by omega⟩ (fun _ => by omega)
    have L2 := Sm.later W.gi
    refine ⟨((A.later 1).storeR (g.ta + 1 + x.work) (A.rawF g.ta + 1)).later 1, 3, by decide, ?_, ⟨fun h => ?_⟩⟩
    · rw [if_pos rfl]; exact (L1.trans W).trans L2
    · rw [Nat.add_comm]
      exact r_pin tb (if_pos he) V hp h
theorem o_holds (E : DI A g m S l at_ n ex f) (hv : v < n) (hu : A.uses ≤ 800000) (tb : Tb g x) (V : Vx at_ v x) (wk : x.work < g.w) (hh : x.h = (f v).o.h) :
    ∃ B k, k ≤ 2 ∧ Sm A g m S l B (if g.ep = true then 0 else 2) ∧ Go g q mq e k x (.holds :: .again :: ps) A x ps B := by
  have X := E.gi
  have ta := X.ta
  have rl := X.rl
  have tw := tb.w
  cases he : g.ep with
  | true => exact ⟨A, 0, by decide, by rw [if_pos rfl]; exact .refl X, ⟨fun h => r_skip (if_pos he) V.l (r_skip (if_pos he) V.l h)⟩⟩
  | false =>
    have gw : gwords g.ep g.w = 2 * g.w := by unfold gwords; rw [he]; rfl
    obtain ⟨W, hw, _⟩ := Sm.word (w := x.h) X (by omega) (i := g.ta + 2 * x.work + 0) ⟨by omega, by omega⟩ (fun h => by rw [he] at h; cases h)
    have us := W.us
    have L2 := Sm.later W.gi
    refine ⟨(A.storeR (g.ta + 2 * x.work + 0) x.h).later 1, 2, by decide, by rw [if_neg (by decide)]; exact W.trans L2, ⟨fun h => ?_⟩⟩
    have := (o_again (q := q) (mq := mq) (e := e) (ps := ps) (W.di E) hv (by omega) tb V he hh).go h
    exact r_se tb (if_neg (by rw [he]; decide)) V.l hw this
theorem o_keeps (E : DI A g m S l at_ n ex f) (hv : v < n) (hu : A.uses ≤ 800000) (tb : Tb g x) (V : Vx at_ v x) (wk : x.work < g.w) (ht : x.t = (f v).t) :
    ∃ B k, k ≤ 2 ∧ Sm A g m S l B (if g.ep = true then 0 else 2) ∧ Go g q mq e k x (.keeps :: .more :: ps) A x ps B := by
  have X := E.gi
  have ta := X.ta
  have rl := X.rl
  have tw := tb.w
  cases he : g.ep with
  | true => exact ⟨A, 0, by decide, by rw [if_pos rfl]; exact .refl X, ⟨fun h => r_skip (if_pos he) V.l (r_skip (if_pos he) V.l h)⟩⟩
  | false =>
    have gw : gwords g.ep g.w = 2 * g.w := by unfold gwords; rw [he]; rfl
    obtain ⟨W, hw, _⟩ := Sm.word (w := x.v) X (by omega) (i := g.ta + 2 * x.work + 1) ⟨by omega, by omega⟩ (fun h => by rw [he] at h; cases h)
    have us := W.us
    have L2 := Sm.later W.gi
    refine ⟨(A.storeR (g.ta + 2 * x.work + 1) x.v).later 1, 2, by decide, by rw [if_neg (by decide)]; exact W.trans L2, ⟨fun h => ?_⟩⟩
    have := (o_more (q := q) (mq := mq) (e := e) (ps := ps) (W.di E) hv (by omega) tb V he ht).go h
    exact r_se tb (if_neg (by rw [he]; decide)) V.l hw this
theorem o_leave (X : GI A g m S l) (hu : A.uses ≤ 800000) (tb : Tb g x) (V : x.leaves = false) (wk : x.work < g.w) :
    ∃ B k, k ≤ 2 ∧ Sm A g m S l B (if g.ep = true then 1 else 2) ∧ (mTs g q mq e).Runs k ⟨x, [], .no⟩ A ⟨{ x with leaves := true }, [], .no⟩ B := by
  have ta := X.ta
  have rl := X.rl
  have rb := X.rb
  have c0 := X.c0
  have tw := tb.w
  cases he : g.ep with
  | true =>
    have gw : gwords g.ep g.w = 1 + g.w := by unfold gwords; rw [he]; rfl
    have ew : ewd g.ta x.work = g.ta + 1 + x.work := ewd_eq ⟨by omega, by omega, by omega, by omega⟩
    obtain ⟨W, hw, _⟩ := Sm.word (w := 0) X (by omega) (i := g.ta + 1 + x.work) ⟨by omega, by omega⟩ (fun _ => by omega)
    refine ⟨A.storeR (g.ta + 1 + x.work) 0, 1, by decide, by rw [if_pos rfl]; exact W, ?_⟩
    have := r_leaveE (q := q) (mq := mq) (e := e) he tb V (by rw [ew]; exact hw)
    rw [ew] at this; exact this
  | false =>
    have gw : gwords g.ep g.w = 2 * g.w := by unfold gwords; rw [he]; rfl
    obtain ⟨W, hw, _⟩ := Sm.word (w := 0) X (by omega) (i := g.ta + 2 * x.work) ⟨by omega, by omega⟩ (fun h => by rw [he] at h; cases h)
    have us := W.us
    obtain ⟨W2, hw2, _⟩ := Sm.word (w := 0) W.gi (by omega) (i := g.ta + 2 * x.work + 1) ⟨by omega, by omega⟩ (fun h => by rw [he] at h; cases h)
    exact ⟨(A.storeR (g.ta + 2 * x.work) 0).storeR (g.ta + 2 * x.work + 1) 0, 2, by decide, by rw [if_neg (by decide)]; exact W.trans W2, r_leaveH he tb V hw hw2⟩
def stepsSp (before : Int) : List Sp := [.enter, .reads, .lasts, .buffers, .holds, .again, .loads] ++ ((if before > 0 then [.still, .keeps, .more, .keys] else []) ++ [.takes])
def newTs (at_ work victim before keyAt : Int) : Ts := ⟨at_, work, victim, before, keyAt, false, 0, 0, 0, false⟩
def usesB (ep : Bool) (before : Int) (ok : Bool) : Int := (if ep = true then 2 else 4) + (if before > 0 then (if ep = true then 2 else 4) else 0) + (if ok = true then 1 else 0)
structure Stl (A : Ar) (g : Gd) (m : Int) (S : Sg) (l : Int → List (Int × Int)) (at_ : Int) (n : Nat) (ex : Int) (f : Nat → Dq) (v wk : Nat) (before keyAt : Int) (q mq : Nat) (e : List LE) (N : Nat) (B : Ar) (x : Ts) : Prop where
  di : DI B g m S l at_ n ex (if x.ok = true then updF f v { f v with t := (f v).t + 1, xs := (f v).xs.tail } else f)
  run : (mTs g q mq e).Runs N ⟨newTs at_ wk v before keyAt, stepsSp before, .no⟩ A ⟨x, [], .no⟩ B
  hn : N ≤ 30
  al : Ar.Alike A B
  lv : x.leaves = true
  hv : x.ok = true → x.v = (f v).xs.headD 0
  hk : x.ok = ((f v).xs != [] && (decide (before ≤ 0) || aheadF (A.loadF ((f v).xs.headD 0) keyAt) before))
  st : ∀ h, B.stF h = A.stF h
  lf : ∀ h j, B.loadF h j = A.loadF h j
  us : B.uses = A.uses + (if g.ep = true then 6 else 4) + (if (f v).xs = [] then 0 else usesB g.ep before x.ok)
theorem Tb.of {y : Ts} (tb : Tb g x) (a : y.at_ = x.at_) (v : y.victim = x.victim) (w : y.work = x.work) : Tb g y := ⟨⟨by rw [a]; exact tb.b.a, by rw [v]; exact tb.b.w⟩, tb.a, by rw [w]; exact tb.w⟩
theorem DI.steal (E : DI A g m S l at_ n ex f) {wk : Nat} (hv : v < n) (hw : wk < n) (hu : A.uses ≤ 600000) (before keyAt : Int) (q mq : Nat) (e : List LE) (ht : before > 0 → ∀ y ys, (f v).xs = y :: ys → A.inOk y keyAt) :
    ∃ N B x, Stl A g m S l at_ n ex f v wk before keyAt q mq e N B x := by
  have X := E.gi
  obtain ⟨wh, da, hs, lb, sz⟩ := E.ati hv
  have bd := bnd_ok X da wh
  have ba := bd.a
  have bw := bd.w
  rw [E.oa v hv] at ba
  rw [E.ow v hv] at bw
  have nw := E.nw
  have wb := X.wb
  have Q := E.dq v hv
  have bt := Q.bt
  have tb0 : Tb g (newTs at_ wk v before keyAt) := ⟨⟨ba, bw⟩, ⟨by have := X.ta; have := X.c0; omega, by have := X.rl; have := X.rb; have : 0 ≤ gwords g.ep g.w := (by unfold gwords; cases g.ep <;> simp <;> omega); omega⟩, ⟨by show (0 : Int) ≤ (wk : Int); omega, by show (wk : Int) ≤ 1000; omega⟩⟩
  have wk0 : (wk : Int) < g.w := by omega
  -- pinned; top; bottom
  obtain ⟨A1, k1, h1, S1, G1⟩ := o_enter (q := q) (mq := mq) (e := e) (x := newTs at_ wk v before keyAt) (ps := .reads :: .lasts :: .buffers :: .holds :: .again :: .loads :: ((if before > 0 then [.still, .keeps, .more, .keys] else []) ++ [.takes])) X (by omega) tb0 rfl wk0
  have u1 := S1.us
  have c1 : (if g.ep = true then (3 : Int) else 0) ≤ 3 := by split <;> decide
  have E1 := S1.di E
  have G2 := o_reads (q := q) (mq := mq) (e := e) (x := newTs at_ wk v before keyAt) (ps := .lasts :: .buffers :: .holds :: .again :: .loads :: ((if before > 0 then [.still, .keeps, .more, .keys] else []) ++ [.takes])) E1 hv (by omega) tb0 ⟨rfl, rfl, rfl⟩
  have S2 := S1.trans (Sm.later S1.gi)
  have u2 := S2.us
  have E2 := S2.di E
  have tb2 : Tb g { newTs at_ wk v before keyAt with t := (f v).t } := tb0.of rfl rfl rfl
  have G3 := o_lasts (q := q) (mq := mq) (e := e) (x := { newTs at_ wk v before keyAt with t := (f v).t }) (ps := .buffers :: .holds :: .again :: .loads :: ((if before > 0 then [.still, .keeps, .more, .keys] else []) ++ [.takes])) E2 hv (by omega) tb2 ⟨rfl, rfl, rfl⟩
  have S3 := S2.trans (Sm.later S2.gi)
  have u3 := S3.us
  have E3 := S3.di E
  have G123 := (G1.trans G2).trans G3
  cases hx : (f v).xs with
  | nil =>
    have e0 : (f v).o.b ≤ ({ newTs at_ wk v before keyAt with t := (f v).t } : Ts).t := by show (f v).o.b ≤ (f v).t; rw [bt, hx]; show (f v).t + ((0 : Nat) : Int) ≤ _; omega
    rw [if_pos e0] at G123
    obtain ⟨B, k4, h4, S4, R4⟩ := o_leave (q := q) (mq := mq) (e := e) (x := { newTs at_ wk v before keyAt with t := (f v).t }) S3.gi (by omega) tb2 rfl wk0
    have S5 := S3.trans S4
    have u5 := S5.us
    refine ⟨_, B, _, ?_, G123.go R4, by omega, S5.al, rfl, fun h => (by cases h), by rw [hx]; rfl, S5.st, S5.lf, ?_⟩
    · rw [if_neg (fun h => (by cases h))]; exact S5.di E
    · rw [hx, if_pos rfl, u5]; cases g.ep <;> simp <;> omega
  | cons y ys =>
    have e0 : ¬ (f v).o.b ≤ ({ newTs at_ wk v before keyAt with t := (f v).t } : Ts).t := by show ¬ (f v).o.b ≤ (f v).t; rw [bt, hx]; show ¬ (f v).t + ((ys.length + 1 : Nat) : Int) ≤ _; omega
    rw [if_neg e0] at G123
    -- the buffer
    have G4 := o_buffers (q := q) (mq := mq) (e := e) (x := { newTs at_ wk v before keyAt with t := (f v).t }) (ps := .holds :: .again :: .loads :: ((if before > 0 then [.still, .keeps, .more, .keys] else []) ++ [.takes])) E3 hv (by omega) tb2 ⟨rfl, rfl, rfl⟩
    have S4 := S3.trans (Sm.later S3.gi)
    have u4 := S4.us
    have E4 := S4.di E
    have tb4 : Tb g { newTs at_ wk v before keyAt with t := (f v).t, h := (f v).o.h } := tb0.of rfl rfl rfl
    obtain ⟨A5, k5, h5, S5', G5⟩ := o_holds (q := q) (mq := mq) (e := e) (x := { newTs at_ wk v before keyAt with t := (f v).t, h := (f v).o.h }) (ps := .loads :: ((if before > 0 then [.still, .keeps, .more, .keys] else []) ++ [.takes])) E4 hv (by omega) tb4 ⟨rfl, rfl, rfl⟩ wk0 rfl
    have S5 := S4.trans S5'
    have u5 := S5.us
    have c5 : (if g.ep = true then (0 : Int) else 2) ≤ 2 := by split <;> decide
    have E5 := S5.di E
    have G6 := o_loads (q := q) (mq := mq) (e := e) (x := { newTs at_ wk v before keyAt with t := (f v).t, h := (f v).o.h }) (ps := ((if before > 0 then [.still, .keeps, .more, .keys] else []) ++ [.takes])) E5 hv (by omega) tb4 ⟨rfl, rfl, rfl⟩ rfl rfl hx
    have S6 := S5.trans (Sm.later S5.gi)
    have u6 := S6.us
    have E6 := S6.di E
    have G456 := ((G123.trans G4).trans G5).trans G6
    have tb6 : Tb g { newTs at_ wk v before keyAt with t := (f v).t, h := (f v).o.h, v := y } := tb0.of rfl rfl rfl
    -- it is taken, and it ends
    have last : ∀ (D : Ar) (uD : Int) (K : Nat), Sm A g m S l D uD → uD ≤ 100 → K ≤ 20 → Go g q mq e K (newTs at_ wk v before keyAt) (stepsSp before) A { newTs at_ wk v before keyAt with t := (f v).t, h := (f v).o.h, v := y } [.takes] D →
        uD + 1 + (if g.ep = true then 1 else 2) = (if g.ep = true then 6 else 4) + usesB g.ep before true → (decide (before ≤ 0) || aheadF (A.loadF y keyAt) before) = true → ∃ N B x, Stl A g m S l at_ n ex f v wk before keyAt q mq e N B x := fun D uD K SD hD hK GD hus hka => by
      have uD' := SD.us
      have ED := SD.di E
      obtain ⟨GT, ET, alT, uT, stT, lfT⟩ := o_takes (q := q) (mq := mq) (e := e) (x := { newTs at_ wk v before keyAt with t := (f v).t, h := (f v).o.h, v := y }) (ps := []) ED hv (by omega) tb6 ⟨rfl, rfl, rfl⟩ rfl hx
      obtain ⟨B, kB, hB, SB, RB⟩ := o_leave (q := q) (mq := mq) (e := e) (x := { newTs at_ wk v before keyAt with t := (f v).t, h := (f v).o.h, v := y, ok := true }) ET.gi (by omega) (tb0.of rfl rfl rfl) rfl wk0
      have uB := SB.us
      refine ⟨_, B, _, ?_, GD.go (GT.go RB), by omega, (SD.al.trans alT).trans SB.al, rfl, fun _ => by rw [hx]; rfl, ?_, fun h => (SB.st h).trans ((stT h).trans (SD.st h)), fun h j => (SB.lf h j).trans ((lfT h j).trans (SD.lf h j)), ?_⟩
      · rw [if_pos rfl, hx]; exact SB.di ET
      · rw [hx]
        show true = (true && (decide (before ≤ 0) || aheadF (A.loadF y keyAt) before))
        rw [hka]; rfl
      · rw [hx, if_neg (List.cons_ne_nil _ _)]
        show B.uses = A.uses + (if g.ep = true then 6 else 4) + usesB g.ep before true
        omega
    by_cases hb : before > 0
    · have hy := ht hb y ys hx
      have eS : stepsSp before = .enter :: .reads :: .lasts :: .buffers :: .holds :: .again :: .loads :: .still :: .keeps :: .more :: .keys :: [.takes] := by unfold stepsSp; rw [if_pos hb]; rfl
      rw [if_pos hb] at G456
      have G7 := o_still (q := q) (mq := mq) (e := e) (x := { newTs at_ wk v before keyAt with t := (f v).t, h := (f v).o.h, v := y }) (ps := .keeps :: .more :: .keys :: [.takes]) E6 hv (by omega) tb6 ⟨rfl, rfl, rfl⟩ rfl
      have S7 := S6.trans (Sm.later S6.gi)
      have u7 := S7.us
      have E7 := S7.di E
      obtain ⟨A8, k8, h8, S8', G8⟩ := o_keeps (q := q) (mq := mq) (e := e) (x := { newTs at_ wk v before keyAt with t := (f v).t, h := (f v).o.h, v := y }) (ps := .keys :: [.takes]) E7 hv (by omega) tb6 ⟨rfl, rfl, rfl⟩ wk0 rfl
      have S8 := S7.trans S8'
      have u8 := S8.us
      have E8 := S8.di E
      have hy8 : A8.inOk y keyAt := ⟨by rw [S8.st]; exact hy.1, hy.2⟩
      have G9 := o_keys (q := q) (mq := mq) (e := e) (x := { newTs at_ wk v before keyAt with t := (f v).t, h := (f v).o.h, v := y }) (ps := [.takes]) E8 hv (by omega) tb6 ⟨rfl, rfl, rfl⟩ hy8
      have S9 := S8.trans (Sm.later S8.gi)
      have u9 := S9.us
      have ek : aheadF (A8.loadF y keyAt) before = aheadF (A.loadF y keyAt) before := by rw [S8.lf]
      have G789 := ((G456.trans G7).trans G8).trans G9
      have ek' : aheadF (A8.loadF ({ newTs at_ wk v before keyAt with t := (f v).t, h := (f v).o.h, v := y } : Ts).v ({ newTs at_ wk v before keyAt with t := (f v).t, h := (f v).o.h, v := y } : Ts).keyAt) ({ newTs at_ wk v before keyAt with t := (f v).t, h := (f v).o.h, v := y } : Ts).before = aheadF (A.loadF y keyAt) before := ek
      rw [ek'] at G789
      cases hk : aheadF (A.loadF y keyAt) before with
      | true =>
        rw [hk, if_pos rfl] at G789
        refine last _ _ _ S9 ?_ ?_ (by rw [eS]; exact G789) ?_ (by rw [hk, Bool.or_true])
        · omega
        · omega
        · unfold usesB; rw [if_pos hb]; cases g.ep <;> simp
      | false =>
        rw [hk, if_neg (by decide)] at G789
        obtain ⟨B, kB, hB, SB, RB⟩ := o_leave (q := q) (mq := mq) (e := e) (x := { newTs at_ wk v before keyAt with t := (f v).t, h := (f v).o.h, v := y }) S9.gi (by omega) tb6 rfl wk0
        have SC := S9.trans SB
        have uC := SC.us
        refine ⟨_, B, _, ?_, by rw [eS]; exact G789.go RB, by omega, SC.al, rfl, fun h => (by cases h), ?_, SC.st, SC.lf, ?_⟩
        · rw [if_neg (fun h => (by cases h))]; exact SC.di E
        · rw [hx]
          show false = (true && (decide (before ≤ 0) || aheadF (A.loadF y keyAt) before))
          rw [hk, decide_eq_false (by omega)]; rfl
        · rw [hx, if_neg (List.cons_ne_nil _ _), uC]
          show _ = A.uses + (if g.ep = true then 6 else 4) + usesB g.ep before false
          unfold usesB; rw [if_pos hb]; cases g.ep <;> simp <;> omega
    · have eS : stepsSp before = .enter :: .reads :: .lasts :: .buffers :: .holds :: .again :: .loads :: [.takes] := by unfold stepsSp; rw [if_neg hb]; rfl
      rw [if_neg hb] at G456
      refine last _ _ _ S6 ?_ ?_ (by rw [eS]; exact G456) ?_ (by rw [decide_eq_true (by omega)]; rfl)
      · omega
      · omega
      · unfold usesB; rw [if_neg hb]; cases g.ep <;> simp
theorem Stl.ub {wk : Nat} {before keyAt : Int} (P : Stl A g m S l at_ n ex f v wk before keyAt q mq e N B x) : A.uses ≤ B.uses ∧ B.uses ≤ A.uses + 20 := by
  rw [P.us]; unfold usesB
  cases g.ep <;> cases x.ok <;> simp only [if_true, if_false, Bool.false_eq_true] <;> (repeat' split) <;> omega
end
end Go.Proofs.YtjnacjniiogjcaaGreat
