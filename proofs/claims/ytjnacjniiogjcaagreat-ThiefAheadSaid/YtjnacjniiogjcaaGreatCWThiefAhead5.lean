/- Texts of this claim, one behind the other. -/
import Derived.Test.YtjnacjniiogjcaaGreatCWThiefAhead4
set_option linter.unusedSimpArgs false
set_option linter.unusedVariables false
set_option maxRecDepth 20000
namespace Go.Proofs.YtjnacjniiogjcaaGreat
open Go Go.Fw

section
variable {A B C D : Ar} {g : Gd} {m : Int} {S : Sg} {l : Int → List (Int × Int)} {u u' at_ ex i w : Int} {n v : Nat} {f : Nat → Dq} {q mq N : Nat} {e : List LE} {x x' : Ts} {ps ps' : List Sp} {z : St}

structure Sm (A : Ar) (g : Gd) (m : Int) (S : Sg) (l : Int → List (Int × Int)) (B : Ar) (u : Int) : Prop where
  gi : GI B g m S l
  al : Ar.Alike A B
  st : ∀ h, B.stF h = A.stF h
  lf : ∀ h j, B.loadF h j = A.loadF h j
  rf : ∀ i, g.ta + gwords g.ep g.w ≤ i → B.rawF i = A.rawF i
  gt : g.ep = true → B.rawF g.ta = A.rawF g.ta
  nL : B.nL = A.nL
  rl : B.raw.length = A.raw.length
  us : B.uses = A.uses + u
  u0 : 0 ≤ u
theorem Sm.refl (X : GI A g m S l) : Sm A g m S l A 0 := ⟨X, .refl A, fun _ => rfl, fun _ _ => rfl, fun _ _ => rfl, fun _ => rfl, rfl, rfl, by omega, by decide⟩
theorem Sm.trans (a : Sm A g m S l B u) (b : Sm B g m S l C u') : Sm A g m S l C (u + u') :=
  ⟨b.gi, a.al.trans b.al, fun h => (b.st h).trans (a.st h), fun h j => (b.lf h j).trans (a.lf h j), fun i hi => (b.rf i hi).trans (a.rf i hi), fun he => (b.gt he).trans (a.gt he), b.nL.trans a.nL, b.rl.trans a.rl, by have := a.us; have := b.us; omega, by have := a.u0; have := b.u0; omega⟩
theorem Sm.later (X : GI A g m S l) : Sm A g m S l (A.later 1) 1 := ⟨X.later (by decide), later_alike A 1, fun h => st_later' A 1 h, fun h j => ld_later' A 1 h j, fun _ _ => rfl, fun _ => rfl, rfl, rfl, rfl, by decide⟩
theorem Sm.word (X : GI A g m S l) (hu : A.uses ≤ 900000) (h0 : g.ta ≤ i ∧ i < g.ta + gwords g.ep g.w) (he : g.ep = true → i ≠ g.ta) : Sm A g m S l (A.storeR i w) 1 ∧ (A.storeR i w).uses ≤ w64 (A.uses + 1) ∧ ∀ j, (A.storeR i w).rawF j = if j = i then w else A.rawF j := by
  have u0 := X.u0
  have ta := X.ta
  have c0 := X.c0
  have rl := X.rl
  have O := outS X.sl (i := i) (v := w) ⟨by omega, by omega⟩ (by omega)
  have ou := O.us
  have okr : A.rawOk i := ⟨by omega, by omega⟩
  have ew : (A.storeR i w).words = A.words := by unfold Ar.storeR; rw [if_pos okr]; rfl
  exact ⟨⟨X.out O (storeR_wf X.wf _ _) he, storeR_alike _ _ _, O.st, fun h j => loadF_same ew (O.st h), fun j hj => by rw [O.rf, if_neg (by omega)], fun h => by rw [O.rf, if_neg (fun e => he h e.symm)], O.nL, O.rl, ou, by decide⟩, by rw [ou, w64_in (by omega) (by omega)]; exact Int.le_refl _, O.rf⟩
theorem Sm.di (a : Sm A g m S l B u) (E : DI A g m S l at_ n ex f) : DI B g m S l at_ n ex f := by
  have u0 := a.u0
  have us := a.us
  refine ⟨a.gi, ⟨E.da.lo, by rw [a.rl]; exact E.da.hi⟩, E.nw, fun i hi => ?_, E.oa, E.ow, E.op, E.ne, a.nL.trans E.nL, E.ex0, E.ll, fun i hi => by have := E.tu i hi; omega, E.cv⟩
  refine (E.dq i hi).move (fun k k0 k1 => a.rf _ ?_) (by rw [a.st]; exact (E.dq i hi).hs) (a.lf _)
  have := E.oa i hi
  have := E.ow i hi
  have := E.da.lo
  unfold dw; omega

structure Go (g : Gd) (q mq : Nat) (e : List LE) (k : Nat) (x : Ts) (ps : List Sp) (A : Ar) (x' : Ts) (ps' : List Sp) (B : Ar) : Prop where
  go : ∀ {N : Nat} {z : St} {C : Ar}, (mTs g q mq e).Runs N ⟨x', ps', .no⟩ B z C → (mTs g q mq e).Runs (N + k) ⟨x, ps, .no⟩ A z C
theorem Go.trans {k j : Nat} {x2 : Ts} {ps2 : List Sp} (a : Go g q mq e k x ps A x' ps' B) (b : Go g q mq e j x' ps' B x2 ps2 C) : Go g q mq e (j + k) x ps A x2 ps2 C := ⟨fun h => by
  have := a.go (b.go h)
  rwa [Nat.add_assoc] at this⟩

structure Vx (at_ : Int) (v : Nat) (x : Ts) : Prop where
  a : x.at_ = at_
  v : x.victim = v
  l : x.leaves = false

theorem lt_uses (h : 0 ≤ A.uses) (hu : A.uses ≤ 900000) : (A.later 1).uses ≤ w64 (A.uses + 1) := by
  show A.uses + 1 ≤ _; rw [w64_in (by omega) (by omega)]; exact Int.le_refl _
theorem DI.rd (E : DI A g m S l at_ n ex f) (hv : v < n) (hu : A.uses ≤ 900000) {k : Int} (k0 : 0 ≤ k) (k1 : k < 3) : A.touchR (dw at_ v k) = A.later 1 := by
  obtain ⟨wh, da, hs, lb, sz⟩ := E.ati hv
  have := touchR_dw (o := (f v).o) E.gi da wh hu k0 k1
  rwa [E.oa v hv, E.ow v hv] at this
theorem DI.r (E : DI A g m S l at_ n ex f) (hv : v < n) : A.rawF (dw at_ v 0) = (f v).t ∧ A.rawF (dw at_ v 1) = (f v).o.b ∧ A.rawF (dw at_ v 2) = (f v).o.h := by
  have Q := E.dq v hv
  have a := E.oa v hv
  have b := E.ow v hv
  have r0 := Q.r0
  have r1 := Q.r1
  have r2 := Q.r2
  rw [a, b] at r0 r1 r2
  exact ⟨r0, r1, r2⟩

section
variable (E : DI A g m S l at_ n ex f) (hv : v < n) (hu : A.uses ≤ 900000) (tb : Tb g x) (V : Vx at_ v x)
include E hv hu tb V
theorem o_reads : Go g q mq e 1 x (.reads :: ps) A { x with t := (f v).t } ps (A.later 1) := by
  have e1 : one1 .reads x ps A = ({ x with t := (f v).t }, ps, A.later 1) := by
    show ({ x with t := A.rawF (dw x.at_ x.victim 0) }, ps, A.touchR (dw x.at_ x.victim 0)) = _
    rw [V.a, V.v, (E.r hv).1, E.rd hv hu (by decide) (by decide)]
  exact ⟨fun h => r_one (p := .reads) (k := .reads) tb rfl V.l e1 (lt_uses E.gi.u0 hu) h⟩
theorem o_lasts : Go g q mq e 1 x (.lasts :: ps) A x (if (f v).o.b ≤ x.t then [] else ps) (A.later 1) := by
  have e1 : one1 .lasts x ps A = (x, if (f v).o.b ≤ x.t then [] else ps, A.later 1) := by
    show (x, if A.rawF (dw x.at_ x.victim 1) ≤ x.t then [] else ps, A.touchR (dw x.at_ x.victim 1)) = _
    rw [V.a, V.v, (E.r hv).2.1, E.rd hv hu (by decide) (by decide)]
  exact ⟨fun h => r_one (p := .lasts) (k := .lasts) tb rfl V.l e1 (lt_uses E.gi.u0 hu) h⟩
theorem o_buffers : Go g q mq e 1 x (.buffers :: ps) A { x with h := (f v).o.h } ps (A.later 1) := by
  have e1 : one1 .buffers x ps A = ({ x with h := (f v).o.h }, ps, A.later 1) := by
    show ({ x with h := A.rawF (dw x.at_ x.victim 2) }, ps, A.touchR (dw x.at_ x.victim 2)) = _
    rw [V.a, V.v, (E.r hv).2.2, E.rd hv hu (by decide) (by decide)]
  exact ⟨fun h => r_one (p := .buffers) (k := .buffers) tb rfl V.l e1 (lt_uses E.gi.u0 hu) h⟩
theorem o_again (he : g.ep = false) (hh : x.h = (f v).o.h) : Go g q mq e 1 x (.again :: ps) A x ps (A.later 1) := by
  have e1 : one1 .again x ps A = (x, ps, A.later 1) := by
    show (x, if A.rawF (dw x.at_ x.victim 2) = x.h then ps else [], A.touchR (dw x.at_ x.victim 2)) = _
    rw [V.a, V.v, (E.r hv).2.2, E.rd hv hu (by decide) (by decide), if_pos hh.symm]
  exact ⟨fun h => r_one (p := .again) (k := .again) tb (if_neg (by rw [he]; decide)) V.l e1 (lt_uses E.gi.u0 hu) h⟩
theorem o_still (ht : x.t = (f v).t) : Go g q mq e 1 x (.still :: ps) A x ps (A.later 1) := by
  have e1 : one1 .still x ps A = (x, ps, A.later 1) := by
    show (x, if A.rawF (dw x.at_ x.victim 0) = x.t then ps else [], A.touchR (dw x.at_ x.victim 0)) = _
    rw [V.a, V.v, (E.r hv).1, E.rd hv hu (by decide) (by decide), if_pos ht.symm]
  exact ⟨fun h => r_one (p := .still) (k := .still) tb rfl V.l e1 (lt_uses E.gi.u0 hu) h⟩
theorem o_more (he : g.ep = false) (ht : x.t = (f v).t) : Go g q mq e 1 x (.more :: ps) A x ps (A.later 1) := by
  have e1 : one1 .still x ps A = (x, ps, A.later 1) := by
    show (x, if A.rawF (dw x.at_ x.victim 0) = x.t then ps else [], A.touchR (dw x.at_ x.victim 0)) = _
    rw [V.a, V.v, (E.r hv).1, E.rd hv hu (by decide) (by decide), if_pos ht.symm]
  exact ⟨fun h => r_one (p := .more) (k := .still) tb (if_neg (by rw [he]; decide)) V.l e1 (lt_uses E.gi.u0 hu) h⟩
theorem o_loads (hh : x.h = (f v).o.h) (ht : x.t = (f v).t) {y : Int} {ys : List Int} (hx : (f v).xs = y :: ys) : Go g q mq e 1 x (.loads :: ps) A { x with v := y } ps (A.later 1) := by
  have Q := E.dq v hv
  have hs0 : A.stF (f v).o.h ≠ 0 := by rw [Q.hs]; decide
  have sz := sz_op (f v).o.h
  have m0 := Int.emod_nonneg (f v).t (b := sizeF (opC (f v).o.h)) (by omega)
  have m1 := Int.emod_lt_of_pos (f v).t (b := sizeF (opC (f v).o.h)) (by omega)
  have l0 := Q.ld 0 (by rw [hx]; exact Nat.succ_pos _)
  rw [hx, show (f v).t + ((0 : Nat) : Int) = (f v).t by omega] at l0
  have l0 : A.loadF (f v).o.h ((f v).t % sizeF (opC (f v).o.h)) = y := l0
  have e1 : one1 .loads x ps A = ({ x with v := y }, ps, A.later 1) := by
    show ({ x with v := A.loadF x.h (wordF x.h x.t) }, ps, A.touch x.h (wordF x.h x.t)) = _
    rw [hh, ht, wordF_live hs0, l0, touch_later E.gi (by omega) ⟨hs0, m0, m1⟩]
  exact ⟨fun h => r_one (p := .loads) (k := .loads) tb rfl V.l e1 (lt_uses E.gi.u0 hu) h⟩
theorem o_keys (hi : A.inOk x.v x.keyAt) : Go g q mq e 1 x (.keys :: ps) A x (if aheadF (A.loadF x.v x.keyAt) x.before = true then ps else []) (A.later 1) := by
  have hv' := hv
  have e1 : one1 .keys x ps A = (x, if aheadF (A.loadF x.v x.keyAt) x.before = true then ps else [], A.later 1) := by
    show (x, if aheadF (A.loadF x.v x.keyAt) x.before = true then ps else [], A.touch x.v x.keyAt) = _
    rw [touch_later E.gi (by omega) hi]
  exact ⟨fun h => r_one (p := .keys) (k := .keys) tb rfl V.l e1 (lt_uses E.gi.u0 hu) h⟩
theorem o_takes (ht : x.t = (f v).t) {y : Int} {ys : List Int} (hx : (f v).xs = y :: ys) : Go g q mq e 1 x (.takes :: ps) A { x with ok := true } ps (A.storeR (dw at_ v 0) ((f v).t + 1)) ∧
    DI (A.storeR (dw at_ v 0) ((f v).t + 1)) g m S l at_ n ex (updF f v { f v with t := (f v).t + 1, xs := ys }) ∧ Ar.Alike A (A.storeR (dw at_ v 0) ((f v).t + 1)) ∧ (A.storeR (dw at_ v 0) ((f v).t + 1)).uses = A.uses + 1 ∧
    (∀ h, (A.storeR (dw at_ v 0) ((f v).t + 1)).stF h = A.stF h) ∧ ∀ h j, (A.storeR (dw at_ v 0) ((f v).t + 1)).loadF h j = A.loadF h j := by
  obtain ⟨wh, da, hs, lb, sz⟩ := E.ati hv
  have X := E.gi
  have u0 := X.u0
  have Q := E.dq v hv
  have ow := E.ow v hv
  have oa := E.oa v hv
  have op := E.op v hv
  have tu := E.tu v hv
  have tq := Q.tb
  have bt := Q.bt
  have ln := Q.ln
  have P := X.bot da wh (by omega) ((f v).t + 1) (k := 0) (by decide) (by decide)
  rw [oa, ow] at P
  have us := P.us
  have lx : (f v).xs.length = ys.length + 1 := by rw [hx]; rfl
  obtain ⟨w1, w2⟩ := swapR_yes (A := A) (i := dw at_ v 0) (v := (f v).t) (x := (f v).t + 1) P.ok (E.r hv).1
  have e1 : one1 .takes x ps A = ({ x with ok := true }, ps, A.storeR (dw at_ v 0) ((f v).t + 1)) := by
    show ({ x with ok := A.swapRb (dw x.at_ x.victim 0) x.t }, ps, A.swapR (dw x.at_ x.victim 0) x.t (w64 (x.t + 1))) = _
    rw [V.a, V.v, ht, w64_in (x := (f v).t + 1) (by omega) (by omega), w1, w2]
  refine ⟨⟨fun h => r_one (p := .takes) (k := .takes) tb rfl V.l e1 P.us' h⟩, ?_, P.al, us, P.st, P.lf⟩
  refine E.put hv (x := { f v with t := (f v).t + 1, xs := ys }) P.gi P.rl ⟨?_, ?_, ?_, ?_, ?_, ?_, ?_, fun j hj => ?_⟩ oa ow op (fun j hj e => E.ne v j hv hj (fun h => e h.symm)) (by rw [P.nL]; show _ = A.nL - sizeF (opC (f v).o.h) + sizeF (opC (f v).o.h); omega) (E.ll v hv) (fun _ _ => rfl) (by show (f v).t + 1 ≤ _; omega) (by omega) (by show S.cv ≤ S.cv + 2 * sizeF (opC (f v).o.h) - 2 * sizeF (opC (f v).o.h); omega) (fun j hj e => ⟨by rw [P.st]; exact (E.dq j hj).hs, P.lf _⟩) (fun i _ _ h0 _ _ => by rw [P.rf, if_neg h0])
  · show Ar.rawF _ (dw (f v).o.at_ (f v).o.work 0) = (f v).t + 1
    rw [oa, ow, P.rf, if_pos rfl]
  · show Ar.rawF _ (dw (f v).o.at_ (f v).o.work 1) = (f v).o.b
    rw [oa, ow, P.rf, if_neg (by unfold dw; omega)]; exact (E.r hv).2.1
  · show Ar.rawF _ (dw (f v).o.at_ (f v).o.work 2) = (f v).o.h
    rw [oa, ow, P.rf, if_neg (by unfold dw; omega)]; exact (E.r hv).2.2
  · show (f v).o.b = (f v).t + 1 + (ys.length : Int); omega
  · show 0 ≤ (f v).t + 1 ∧ (f v).t + 1 ≤ 1000000; omega
  · show Ar.stF _ (f v).o.h = 1; rw [P.st]; exact hs
  · show (ys.length : Int) ≤ sizeF (opC (f v).o.h); omega
  · have hj : j < ys.length := hj
    show Ar.loadF _ (f v).o.h (((f v).t + 1 + j) % sizeF (opC (f v).o.h)) = ys.getD j 0
    rw [P.lf]
    have := Q.ld (j + 1) (by omega)
    rw [hx, show (f v).t + ((j + 1 : Nat) : Int) = (f v).t + 1 + j by omega] at this
    exact this
end
end
end Go.Proofs.YtjnacjniiogjcaaGreat

set_option maxRecDepth 20000
namespace Go.Proofs.YtjnacjniiogjcaaGreat
open Go Go.Fw

section
variable {A B C D : Ar} {g : Gd} {m : Int} {S : Sg} {l : Int → List (Int × Int)} {u u' at_ ex i w h : Int} {n v : Nat} {f : Nat → Dq} {q mq N : Nat} {e : List LE} {x x' : Ts} {ps ps' : List Sp} {z : St}

theorem o_enter (X : GI A g m S l) (hu : A.uses ≤ 800000) (tb : Tb g x) (V : x.leaves = false) (wk : x.work < g.w) :
    ∃ B k, k ≤ 3 ∧ Sm A g m S l B (if g.ep = true then 3 else 0) ∧ Go g q mq e k x (.enter :: ps) A x ps B := by
  cases he : g.ep with
  | false => exact ⟨A, 0, by decide, by rw [if_neg (by decide)]; exact .refl X, ⟨fun h => r_skip (if_neg (by rw [he]; decide)) V h⟩⟩
  | true =>
    have u0 := X.u0
    have ta := X.ta
    have c0 := X.c0
    have rl := X.rl
    have rb := X.rb
    have wb := X.wb
    have gw : gwords g.ep g.w = 1 + g.w := by unfold gwords; rw [he]; rfl
    obtain ⟨e0, e1⟩ := X.eb he
    have tw := tb.w
    obtain ⟨m', hp⟩ := pin_solo (A := A) (tw := g.w) (ta := g.ta) (who := x.work) (e := A.rawF g.ta) (by omega) ⟨tw.1, tw.2⟩ (by omega) rb u0 (by omega) rfl ⟨e0, by omega⟩
    have L1 := Sm.later X
    obtain ⟨W, _, _⟩ := Sm.word (w := A.rawF g.ta + 1) L1.gi (by show A.uses + 1 ≤ _; omega) (i := g.ta + 1 + x.work) ⟨by omega, by omega⟩ (fun _ => by omega)
    have L2 := Sm.later W.gi
    refine ⟨((A.later 1).storeR (g.ta + 1 + x.work) (A.rawF g.ta + 1)).later 1, 3, by decide, ?_, ⟨fun h => ?_⟩⟩
    · rw [if_pos rfl]; exact (L1.trans W).trans L2
    · rw [Nat.add_comm]
      exact r_pin tb (if_pos he) V hp h

theorem o_holds (E : DI A g m S l at_ n ex f) (hv : v < n) (hu : A.uses ≤ 800000) (tb : Tb g x) (V : Vx at_ v x) (wk : x.work < g.w) (hh : x.h = (f v).o.h) :
    ∃ B k, k ≤ 2 ∧ Sm A g m S l B (if g.ep = true then 0 else 2) ∧ Go g q mq e k x (.holds :: .again :: ps) A x ps B := by
  have X := E.gi
  have ta := X.ta
  have rl := X.rl
  have tw := tb.w
  cases he : g.ep with
  | true => exact ⟨A, 0, by decide, by rw [if_pos rfl]; exact .refl X, ⟨fun h => r_skip (if_pos he) V.l (r_skip (if_pos he) V.l h)⟩⟩
  | false =>
    have gw : gwords g.ep g.w = 2 * g.w := by unfold gwords; rw [he]; rfl
    obtain ⟨W, hw, _⟩ := Sm.word (w := x.h) X (by omega) (i := g.ta + 2 * x.work + 0) ⟨by omega, by omega⟩ (fun h => by rw [he] at h; cases h)
    have us := W.us
    have L2 := Sm.later W.gi
    refine ⟨(A.storeR (g.ta + 2 * x.work + 0) x.h).later 1, 2, by decide, by rw [if_neg (by decide)]; exact W.trans L2, ⟨fun h => ?_⟩⟩
    have := (o_again (q := q) (mq := mq) (e := e) (ps := ps) (W.di E) hv (by omega) tb V he hh).go h
    exact r_se tb (if_neg (by rw [he]; decide)) V.l hw this

theorem o_keeps (E : DI A g m S l at_ n ex f) (hv : v < n) (hu : A.uses ≤ 800000) (tb : Tb g x) (V : Vx at_ v x) (wk : x.work < g.w) (ht : x.t = (f v).t) :
    ∃ B k, k ≤ 2 ∧ Sm A g m S l B (if g.ep = true then 0 else 2) ∧ Go g q mq e k x (.keeps :: .more :: ps) A x ps B := by
  have X := E.gi
  have ta := X.ta
  have rl := X.rl
  have tw := tb.w
  cases he : g.ep with
  | true => exact ⟨A, 0, by decide, by rw [if_pos rfl]; exact .refl X, ⟨fun h => r_skip (if_pos he) V.l (r_skip (if_pos he) V.l h)⟩⟩
  | false =>
    have gw : gwords g.ep g.w = 2 * g.w := by unfold gwords; rw [he]; rfl
    obtain ⟨W, hw, _⟩ := Sm.word (w := x.v) X (by omega) (i := g.ta + 2 * x.work + 1) ⟨by omega, by omega⟩ (fun h => by rw [he] at h; cases h)
    have us := W.us
    have L2 := Sm.later W.gi
    refine ⟨(A.storeR (g.ta + 2 * x.work + 1) x.v).later 1, 2, by decide, by rw [if_neg (by decide)]; exact W.trans L2, ⟨fun h => ?_⟩⟩
    have := (o_more (q := q) (mq := mq) (e := e) (ps := ps) (W.di E) hv (by omega) tb V he ht).go h
    exact r_se tb (if_neg (by rw [he]; decide)) V.l hw this

theorem o_leave (X : GI A g m S l) (hu : A.uses ≤ 800000) (tb : Tb g x) (V : x.leaves = false) (wk : x.work < g.w) :
    ∃ B k, k ≤ 2 ∧ Sm A g m S l B (if g.ep = true then 1 else 2) ∧ (mTs g q mq e).Runs k ⟨x, [], .no⟩ A ⟨{ x with leaves := true }, [], .no⟩ B := by
  have ta := X.ta
  have rl := X.rl
  have rb := X.rb
  have c0 := X.c0
  have tw := tb.w
  cases he : g.ep with
  | true =>
    have gw : gwords g.ep g.w = 1 + g.w := by unfold gwords; rw [he]; rfl
    have ew : ewd g.ta x.work = g.ta + 1 + x.work := ewd_eq ⟨by omega, by omega, by omega, by omega⟩
    obtain ⟨W, hw, _⟩ := Sm.word (w := 0) X (by omega) (i := g.ta + 1 + x.work) ⟨by omega, by omega⟩ (fun _ => by omega)
    refine ⟨A.storeR (g.ta + 1 + x.work) 0, 1, by decide, by rw [if_pos rfl]; exact W, ?_⟩
    have := r_leaveE (q := q) (mq := mq) (e := e) he tb V (by rw [ew]; exact hw)
    rw [ew] at this; exact this
  | false =>
    have gw : gwords g.ep g.w = 2 * g.w := by unfold gwords; rw [he]; rfl
    obtain ⟨W, hw, _⟩ := Sm.word (w := 0) X (by omega) (i := g.ta + 2 * x.work) ⟨by omega, by omega⟩ (fun h => by rw [he] at h; cases h)
    have us := W.us
    obtain ⟨W2, hw2, _⟩ := Sm.word (w := 0) W.gi (by omega) (i := g.ta + 2 * x.work + 1) ⟨by omega, by omega⟩ (fun h => by rw [he] at h; cases h)
    exact ⟨(A.storeR (g.ta + 2 * x.work) 0).storeR (g.ta + 2 * x.work + 1) 0, 2, by decide, by rw [if_neg (by decide)]; exact W.trans W2, r_leaveH he tb V hw hw2⟩

def stepsSp (before : Int) : List Sp := [.enter, .reads, .lasts, .buffers, .holds, .again, .loads] ++ ((if before > 0 then [.still, .keeps, .more, .keys] else []) ++ [.takes])
def newTs (at_ work victim before keyAt : Int) : Ts := ⟨at_, work, victim, before, keyAt, false, 0, 0, 0, false⟩
def usesB (ep : Bool) (before : Int) (ok : Bool) : Int := (if ep = true then 2 else 4) + (if before > 0 then (if ep = true then 2 else 4) else 0) + (if ok = true then 1 else 0)
structure Stl (A : Ar) (g : Gd) (m : Int) (S : Sg) (l : Int → List (Int × Int)) (at_ : Int) (n : Nat) (ex : Int) (f : Nat → Dq) (v wk : Nat) (before keyAt : Int) (q mq : Nat) (e : List LE) (N : Nat) (B : Ar) (x : Ts) : Prop where
  di : DI B g m S l at_ n ex (if x.ok = true then updF f v { f v with t := (f v).t + 1, xs := (f v).xs.tail } else f)
  run : (mTs g q mq e).Runs N ⟨newTs at_ wk v before keyAt, stepsSp before, .no⟩ A ⟨x, [], .no⟩ B
  hn : N ≤ 30
  al : Ar.Alike A B
  lv : x.leaves = true
  hv : x.ok = true → x.v = (f v).xs.headD 0
  hk : x.ok = ((f v).xs != [] && (decide (before ≤ 0) || aheadF (A.loadF ((f v).xs.headD 0) keyAt) before))
  st : ∀ h, B.stF h = A.stF h
  lf : ∀ h j, B.loadF h j = A.loadF h j
  us : B.uses = A.uses + (if g.ep = true then 6 else 4) + (if (f v).xs = [] then 0 else usesB g.ep before x.ok)

theorem Tb.of {y : Ts} (tb : Tb g x) (a : y.at_ = x.at_) (v : y.victim = x.victim) (w : y.work = x.work) : Tb g y := ⟨⟨by rw [a]; exact tb.b.a, by rw [v]; exact tb.b.w⟩, tb.a, by rw [w]; exact tb.w⟩

theorem DI.steal (E : DI A g m S l at_ n ex f) {wk : Nat} (hv : v < n) (hw : wk < n) (hu : A.uses ≤ 600000) (before keyAt : Int) (q mq : Nat) (e : List LE) (ht : before > 0 → ∀ y ys, (f v).xs = y :: ys → A.inOk y keyAt) :
    ∃ N B x, Stl A g m S l at_ n ex f v wk before keyAt q mq e N B x := by
  have X := E.gi
  obtain ⟨wh, da, hs, lb, sz⟩ := E.ati hv
  have bd := bnd_ok X da wh
  have ba := bd.a
  have bw := bd.w
  rw [E.oa v hv] at ba
  rw [E.ow v hv] at bw
  have nw := E.nw
  have wb := X.wb
  have Q := E.dq v hv
  have bt := Q.bt
  have tb0 : Tb g (newTs at_ wk v before keyAt) := ⟨⟨ba, bw⟩, ⟨by have := X.ta; have := X.c0; omega, by have := X.rl; have := X.rb; have : 0 ≤ gwords g.ep g.w := (by unfold gwords; cases g.ep <;> simp <;> omega); omega⟩, ⟨by show (0 : Int) ≤ (wk : Int); omega, by show (wk : Int) ≤ 1000; omega⟩⟩
  have wk0 : (wk : Int) < g.w := by omega
  -- pinned; top; bottom
  obtain ⟨A1, k1, h1, S1, G1⟩ := o_enter (q := q) (mq := mq) (e := e) (x := newTs at_ wk v before keyAt) (ps := .reads :: .lasts :: .buffers :: .holds :: .again :: .loads :: ((if before > 0 then [.still, .keeps, .more, .keys] else []) ++ [.takes])) X (by omega) tb0 rfl wk0
  have u1 := S1.us
  have c1 : (if g.ep = true then (3 : Int) else 0) ≤ 3 := by split <;> decide
  have E1 := S1.di E
  have G2 := o_reads (q := q) (mq := mq) (e := e) (x := newTs at_ wk v before keyAt) (ps := .lasts :: .buffers :: .holds :: .again :: .loads :: ((if before > 0 then [.still, .keeps, .more, .keys] else []) ++ [.takes])) E1 hv (by omega) tb0 ⟨rfl, rfl, rfl⟩
  have S2 := S1.trans (Sm.later S1.gi)
  have u2 := S2.us
  have E2 := S2.di E
  have tb2 : Tb g { newTs at_ wk v before keyAt with t := (f v).t } := tb0.of rfl rfl rfl
  have G3 := o_lasts (q := q) (mq := mq) (e := e) (x := { newTs at_ wk v before keyAt with t := (f v).t }) (ps := .buffers :: .holds :: .again :: .loads :: ((if before > 0 then [.still, .keeps, .more, .keys] else []) ++ [.takes])) E2 hv (by omega) tb2 ⟨rfl, rfl, rfl⟩
  have S3 := S2.trans (Sm.later S2.gi)
  have u3 := S3.us
  have E3 := S3.di E
  have G123 := (G1.trans G2).trans G3
  cases hx : (f v).xs with
  | nil =>
    have e0 : (f v).o.b ≤ ({ newTs at_ wk v before keyAt with t := (f v).t } : Ts).t := by show (f v).o.b ≤ (f v).t; rw [bt, hx]; show (f v).t + ((0 : Nat) : Int) ≤ _; omega
    rw [if_pos e0] at G123
    obtain ⟨B, k4, h4, S4, R4⟩ := o_leave (q := q) (mq := mq) (e := e) (x := { newTs at_ wk v before keyAt with t := (f v).t }) S3.gi (by omega) tb2 rfl wk0
    have S5 := S3.trans S4
    have u5 := S5.us
    refine ⟨_, B, _, ?_, G123.go R4, by omega, S5.al, rfl, fun h => (by cases h), by rw [hx]; rfl, S5.st, S5.lf, ?_⟩
    · rw [if_neg (fun h => (by cases h))]; exact S5.di E
    · rw [hx, if_pos rfl, u5]; cases g.ep <;> simp <;> omega
  | cons y ys =>
    have e0 : ¬ (f v).o.b ≤ ({ newTs at_ wk v before keyAt with t := (f v).t } : Ts).t := by show ¬ (f v).o.b ≤ (f v).t; rw [bt, hx]; show ¬ (f v).t + ((ys.length + 1 : Nat) : Int) ≤ _; omega
    rw [if_neg e0] at G123
    -- the buffer
    have G4 := o_buffers (q := q) (mq := mq) (e := e) (x := { newTs at_ wk v before keyAt with t := (f v).t }) (ps := .holds :: .again :: .loads :: ((if before > 0 then [.still, .keeps, .more, .keys] else []) ++ [.takes])) E3 hv (by omega) tb2 ⟨rfl, rfl, rfl⟩
    have S4 := S3.trans (Sm.later S3.gi)
    have u4 := S4.us
    have E4 := S4.di E
    have tb4 : Tb g { newTs at_ wk v before keyAt with t := (f v).t, h := (f v).o.h } := tb0.of rfl rfl rfl
    obtain ⟨A5, k5, h5, S5', G5⟩ := o_holds (q := q) (mq := mq) (e := e) (x := { newTs at_ wk v before keyAt with t := (f v).t, h := (f v).o.h }) (ps := .loads :: ((if before > 0 then [.still, .keeps, .more, .keys] else []) ++ [.takes])) E4 hv (by omega) tb4 ⟨rfl, rfl, rfl⟩ wk0 rfl
    have S5 := S4.trans S5'
    have u5 := S5.us
    have c5 : (if g.ep = true then (0 : Int) else 2) ≤ 2 := by split <;> decide
    have E5 := S5.di E
    have G6 := o_loads (q := q) (mq := mq) (e := e) (x := { newTs at_ wk v before keyAt with t := (f v).t, h := (f v).o.h }) (ps := ((if before > 0 then [.still, .keeps, .more, .keys] else []) ++ [.takes])) E5 hv (by omega) tb4 ⟨rfl, rfl, rfl⟩ rfl rfl hx
    have S6 := S5.trans (Sm.later S5.gi)
    have u6 := S6.us
    have E6 := S6.di E
    have G456 := ((G123.trans G4).trans G5).trans G6
    have tb6 : Tb g { newTs at_ wk v before keyAt with t := (f v).t, h := (f v).o.h, v := y } := tb0.of rfl rfl rfl
    -- it is taken, and it ends
    have last : ∀ (D : Ar) (uD : Int) (K : Nat), Sm A g m S l D uD → uD ≤ 100 → K ≤ 20 → Go g q mq e K (newTs at_ wk v before keyAt) (stepsSp before) A { newTs at_ wk v before keyAt with t := (f v).t, h := (f v).o.h, v := y } [.takes] D →
        uD + 1 + (if g.ep = true then 1 else 2) = (if g.ep = true then 6 else 4) + usesB g.ep before true → (decide (before ≤ 0) || aheadF (A.loadF y keyAt) before) = true → ∃ N B x, Stl A g m S l at_ n ex f v wk before keyAt q mq e N B x := fun D uD K SD hD hK GD hus hka => by
      have uD' := SD.us
      have ED := SD.di E
      obtain ⟨GT, ET, alT, uT, stT, lfT⟩ := o_takes (q := q) (mq := mq) (e := e) (x := { newTs at_ wk v before keyAt with t := (f v).t, h := (f v).o.h, v := y }) (ps := []) ED hv (by omega) tb6 ⟨rfl, rfl, rfl⟩ rfl hx
      obtain ⟨B, kB, hB, SB, RB⟩ := o_leave (q := q) (mq := mq) (e := e) (x := { newTs at_ wk v before keyAt with t := (f v).t, h := (f v).o.h, v := y, ok := true }) ET.gi (by omega) (tb0.of rfl rfl rfl) rfl wk0
      have uB := SB.us
      refine ⟨_, B, _, ?_, GD.go (GT.go RB), by omega, (SD.al.trans alT).trans SB.al, rfl, fun _ => by rw [hx]; rfl, ?_, fun h => (SB.st h).trans ((stT h).trans (SD.st h)), fun h j => (SB.lf h j).trans ((lfT h j).trans (SD.lf h j)), ?_⟩
      · rw [if_pos rfl, hx]; exact SB.di ET
      · rw [hx]
        show true = (true && (decide (before ≤ 0) || aheadF (A.loadF y keyAt) before))
        rw [hka]; rfl
      · rw [hx, if_neg (List.cons_ne_nil _ _)]
        show B.uses = A.uses + (if g.ep = true then 6 else 4) + usesB g.ep before true
        omega
    by_cases hb : before > 0
    · have hy := ht hb y ys hx
      have eS : stepsSp before = .enter :: .reads :: .lasts :: .buffers :: .holds :: .again :: .loads :: .still :: .keeps :: .more :: .keys :: [.takes] := by unfold stepsSp; rw [if_pos hb]; rfl
      rw [if_pos hb] at G456
      have G7 := o_still (q := q) (mq := mq) (e := e) (x := { newTs at_ wk v before keyAt with t := (f v).t, h := (f v).o.h, v := y }) (ps := .keeps :: .more :: .keys :: [.takes]) E6 hv (by omega) tb6 ⟨rfl, rfl, rfl⟩ rfl
      have S7 := S6.trans (Sm.later S6.gi)
      have u7 := S7.us
      have E7 := S7.di E
      obtain ⟨A8, k8, h8, S8', G8⟩ := o_keeps (q := q) (mq := mq) (e := e) (x := { newTs at_ wk v before keyAt with t := (f v).t, h := (f v).o.h, v := y }) (ps := .keys :: [.takes]) E7 hv (by omega) tb6 ⟨rfl, rfl, rfl⟩ wk0 rfl
      have S8 := S7.trans S8'
      have u8 := S8.us
      have E8 := S8.di E
      have hy8 : A8.inOk y keyAt := ⟨by rw [S8.st]; exact hy.1, hy.2⟩
      have G9 := o_keys (q := q) (mq := mq) (e := e) (x := { newTs at_ wk v before keyAt with t := (f v).t, h := (f v).o.h, v := y }) (ps := [.takes]) E8 hv (by omega) tb6 ⟨rfl, rfl, rfl⟩ hy8
      have S9 := S8.trans (Sm.later S8.gi)
      have u9 := S9.us
      have ek : aheadF (A8.loadF y keyAt) before = aheadF (A.loadF y keyAt) before := by rw [S8.lf]
      have G789 := ((G456.trans G7).trans G8).trans G9
      have ek' : aheadF (A8.loadF ({ newTs at_ wk v before keyAt with t := (f v).t, h := (f v).o.h, v := y } : Ts).v ({ newTs at_ wk v before keyAt with t := (f v).t, h := (f v).o.h, v := y } : Ts).keyAt) ({ newTs at_ wk v before keyAt with t := (f v).t, h := (f v).o.h, v := y } : Ts).before = aheadF (A.loadF y keyAt) before := ek
      rw [ek'] at G789
      cases hk : aheadF (A.loadF y keyAt) before with
      | true =>
        rw [hk, if_pos rfl] at G789
        refine last _ _ _ S9 ?_ ?_ (by rw [eS]; exact G789) ?_ (by rw [hk, Bool.or_true])
        · omega
        · omega
        · unfold usesB; rw [if_pos hb]; cases g.ep <;> simp
      | false =>
        rw [hk, if_neg (by decide)] at G789
        obtain ⟨B, kB, hB, SB, RB⟩ := o_leave (q := q) (mq := mq) (e := e) (x := { newTs at_ wk v before keyAt with t := (f v).t, h := (f v).o.h, v := y }) S9.gi (by omega) tb6 rfl wk0
        have SC := S9.trans SB
        have uC := SC.us
        refine ⟨_, B, _, ?_, by rw [eS]; exact G789.go RB, by omega, SC.al, rfl, fun h => (by cases h), ?_, SC.st, SC.lf, ?_⟩
        · rw [if_neg (fun h => (by cases h))]; exact SC.di E
        · rw [hx]
          show false = (true && (decide (before ≤ 0) || aheadF (A.loadF y keyAt) before))
          rw [hk, decide_eq_false (by omega)]; rfl
        · rw [hx, if_neg (List.cons_ne_nil _ _), uC]
          show _ = A.uses + (if g.ep = true then 6 else 4) + usesB g.ep before false
          unfold usesB; rw [if_pos hb]; cases g.ep <;> simp <;> omega
    · have eS : stepsSp before = .enter :: .reads :: .lasts :: .buffers :: .holds :: .again :: .loads :: [.takes] := by unfold stepsSp; rw [if_neg hb]; rfl
      rw [if_neg hb] at G456
      refine last _ _ _ S6 ?_ ?_ (by rw [eS]; exact G456) ?_ (by rw [decide_eq_true (by omega)]; rfl)
      · omega
      · omega
      · unfold usesB; rw [if_neg hb]; cases g.ep <;> simp
theorem Stl.ub {wk : Nat} {before keyAt : Int} (P : Stl A g m S l at_ n ex f v wk before keyAt q mq e N B x) : A.uses ≤ B.uses ∧ B.uses ≤ A.uses + 20 := by
  rw [P.us]; unfold usesB
  cases g.ep <;> cases x.ok <;> simp only [if_true, if_false, Bool.false_eq_true] <;> (repeat' split) <;> omega
end
end Go.Proofs.YtjnacjniiogjcaaGreat

set_option maxRecDepth 10000
namespace Go.Proofs.YtjnacjniiogjcaaGreat
open Go Go.Fw
@[reducible] def t_magpielaw17_run_L1_sh : List Sh1 := [(.leaf .bool), (.leaf (.int .i64))]
noncomputable def t_magpielaw17_run_L1 (p0 : Option Addr) (p1 : Value) (y1 : HL Sh1.T t_magpielaw17_run_L1_sh) : Tree :=
 bif (decide ((y1.2.1 : Int) < 4000)) then (
 .call f_arena_Arena_Uses [(.pointer p0)] (.one (.leaf (.int .i64))) fun x13 =>
 .act (opS Tryz.prog (.call { callee := .invoke (.tmp 0) "Step", args := #[(.tmp 1)], argTypes := #[ty_p_arena_Arena] }) ty_bool [p1, (.pointer p0)]) (.one (.leaf .bool)) fun x16 =>
 .call f_arena_Arena_Uses [(.pointer p0)] (.one (.leaf (.int .i64))) fun x18 =>
 bif (decide ((x18 : Int) > (w64 (x13 + 1)))) then (
 .ret (.bool false))
 else (
 bif x16 then (
 .ret (.bool true))
 else (
 .again 128 [(.bool y1.1), (.int .i64 (w64 (y1.2.1 + 1)))])))
 else (
 .ret (.bool false))
noncomputable def t_magpielaw17_run (p0 : Option Addr) (p1 : Value) : Tree :=
 .loop 128 t_magpielaw17_run_L1_sh [(.bool false), (.int .i64 0)] (t_magpielaw17_run_L1 p0 p1)
theorem t_magpielaw17_run_eq (p0 : Option Addr) (p1 : Value) : funcTree Tryz.prog tcfg1 Tryz.f15 [(.pointer p0), p1] = t_magpielaw17_run p0 p1 := by kernel_rfl
theorem t_magpielaw17_run_spec {p0 : Option Addr} {p1 : Value} {H : Heap} {R : Value → Heap → Prop} (h : ∀ L, wp Tryz.prog (t_magpielaw17_run p0 p1) L H R) : SpecF Tryz.prog f_magpielaw17_run #[(.pointer p0), p1] H R :=
 spec_of_tree (cfg := tcfg1) Tryz.func15 fun L => (t_magpielaw17_run_eq p0 p1).symm ▸ h L

@[reducible] def t_magpielaw17_Make_L1_sh : List Sh1 := [(.leaf .ptr), (.leaf (.int .i64))]
noncomputable def t_magpielaw17_Make_L1 (p0 : Int) (x7 : Addr) (x34 : Addr) (y1 : HL Sh1.T t_magpielaw17_Make_L1_sh) : Tree :=
 bif (decide ((y1.2.1 : Int) < p0)) then (
 .call f_magpielaw17_W_slot [(.pointer (some x34)), (.int .i64 y1.2.1)] (.one (.leaf (.int .i64))) fun x68 =>
 bif ((x68 : Int) == 0) then (
 .ret (.pointer none))
 else (
 .look (nck (some x34)) (.one (.leaf .addr)) fun x72 =>
 .ld x72 .ptr fun x74 =>
 .look (nck (some x34)) (.one (.leaf .addr)) fun x76 =>
 .ld (x76.add 7) (.int .i64) fun x78 =>
 .ldA x7 [(.int .i64), (.int .i64), (.int .i64), (.int .i64), (.int .i64)] fun x81 =>
 .look (nck (some x34)) (.one (.leaf .addr)) fun x83 =>
 .ld (x83.add 1) .ptr fun x85 =>
 .call f_deque_New [(.pointer x74), (.int .i64 x78), (.int .i64 y1.2.1), (.int .i64 x68), (.agg #[(.int .i64 x81.1), (.int .i64 x81.2.1), (.int .i64 x81.2.2.1), (.int .i64 x81.2.2.2.1), (.int .i64 x81.2.2.2.2.1)]), (.pointer x85)] (.one (.leaf .ptr)) fun x86 =>
 .look (opS Tryz.prog (.binOp .eql ty_p_deque_Own (.tmp 0) (.const (.pointer none)) ty_p_deque_Own) ty_bool [(.pointer x86)]) (.one (.leaf .bool)) fun x88 =>
 bif x88 then (
 .ret (.pointer none))
 else (
 .look (nck (some x34)) (.one (.leaf .addr)) fun x91 =>
 .ld (x91.add 8) .slice fun x93 =>
 .newS (.cells #[(.pointer x86)] ty_p_deque_Own) 1 fun x95 =>
 .act (opS Tryz.prog (.call { callee := .builtin .append, args := #[(.tmp 0), (.tmp 1)], argTypes := #[ty_s_p_deque_Own, ty_s_p_deque_Own] }) ty_s_p_deque_Own [(.slice x93.a x93.len x93.cap), (.slice x95.a x95.len x95.cap)]) (.one (.leaf .slice)) fun x96 =>
 .look (nck (some x34)) (.one (.leaf .addr)) fun x97 =>
 .st (x97.add 8) (.slice x96.a x96.len x96.cap) <|
 .again 512 [(.pointer y1.1), (.int .i64 (w64 (y1.2.1 + 1)))])))
 else (
 .ret (.pointer (some x34)))
noncomputable def t_magpielaw17_Make (p0 : Int) (p1 : Int) (p2 : Bool) : Tree :=
 .call f_free_Raw [(.int .i64 p0), (.int .i64 p1)] (.tup [(.agg [(.int .i64), (.int .i64), (.int .i64), (.int .i64), (.int .i64)]), (.leaf (.int .i64))]) fun x17 =>
 .newP (.cells #[(.int .i64 0), (.int .i64 0), (.int .i64 0), (.int .i64 0), (.int .i64 0)] ty_free_Place) fun x7 =>
 .stA x7 [(.int .i64 x17.1.1), (.int .i64 x17.1.2.1), (.int .i64 x17.1.2.2.1), (.int .i64 x17.1.2.2.2.1), (.int .i64 x17.1.2.2.2.2.1)] <|
 .call f_guard_Raw [(.int .i64 p0), (.int .i64 x17.2.1), (.bool p2)] (.one (.leaf (.int .i64))) fun x23 =>
 .ldA x7 [(.int .i64), (.int .i64), (.int .i64), (.int .i64), (.int .i64)] fun x24 =>
 .ldA x7 [(.int .i64), (.int .i64), (.int .i64), (.int .i64), (.int .i64)] fun x31 =>
 .call f_guard_New [(.int .i64 p0), (.int .i64 x17.2.1), (.bool p2), (.int .i64 2), (.agg #[(.int .i64 x31.1), (.int .i64 x31.2.1), (.int .i64 x31.2.2.1), (.int .i64 x31.2.2.2.1), (.int .i64 x31.2.2.2.2.1)])] (.one (.leaf .ptr)) fun x32 =>
 .check (ldAS x7 5 0 #[]) (.agg #[(.int .i64 x24.1), (.int .i64 x24.2.1), (.int .i64 x24.2.2.1), (.int .i64 x24.2.2.2.1), (.int .i64 x24.2.2.2.2.1)]) <|
 .newP (.cells #[(.pointer none), (.pointer x32), (.int .i64 x24.1), (.int .i64 x24.2.1), (.int .i64 x24.2.2.1), (.int .i64 x24.2.2.2.1), (.int .i64 x24.2.2.2.2.1), (.int .i64 (w64 (x17.2.1 + x23))), (.slice none 0 0)] ty_magpielaw17_W) fun x34 =>
 .qcall f_deque_Raw [(.int .i64 p0), (.int .i64 (w64 (x17.2.1 + x23)))] (.one (.leaf (.int .i64))) fun x43 =>
 .call f_arena_New [(.int .i64 (w64 ((w64 (x17.2.1 + x23)) + x43))), (.int .i64 p1), (.bool false)] (.one (.leaf .ptr)) fun x46 =>
 .look (nck (some x34)) (.one (.leaf .addr)) fun x47 =>
 .st x47 (.pointer x46) <|
 .look (nck (some x34)) (.one (.leaf .addr)) fun x50 =>
 .ld x50 .ptr fun x52 =>
 .look (opS Tryz.prog (.binOp .eql ty_p_arena_Arena (.tmp 0) (.const (.pointer none)) ty_p_arena_Arena) ty_bool [(.pointer x52)]) (.one (.leaf .bool)) fun x53 =>
 bif x53 then (
 .ret (.pointer none))
 else (
 .look (nck (some x34)) (.one (.leaf .addr)) fun x56 =>
 .ld (x56.add 1) .ptr fun x58 =>
 .look (opS Tryz.prog (.binOp .eql ty_p_guard_Guard (.tmp 0) (.const (.pointer none)) ty_p_guard_Guard) ty_bool [(.pointer x58)]) (.one (.leaf .bool)) fun x59 =>
 bif x59 then (
 .ret (.pointer none))
 else (
 .loop 512 t_magpielaw17_Make_L1_sh [(.pointer none), (.int .i64 0)] (t_magpielaw17_Make_L1 p0 x7 x34)))
theorem t_magpielaw17_Make_eq (p0 : Int) (p1 : Int) (p2 : Bool) : funcTree Tryz.prog tcfg1 Tryz.f9 [(.int .i64 p0), (.int .i64 p1), (.bool p2)] = t_magpielaw17_Make p0 p1 p2 := by kernel_rfl
theorem t_magpielaw17_Make_spec {p0 : Int} {p1 : Int} {p2 : Bool} {H : Heap} {R : Value → Heap → Prop} (h : ∀ L, wp Tryz.prog (t_magpielaw17_Make p0 p1 p2) L H R) : SpecF Tryz.prog f_magpielaw17_Make #[(.int .i64 p0), (.int .i64 p1), (.bool p2)] H R :=
 spec_of_tree (cfg := tcfg1) Tryz.func9 fun L => (t_magpielaw17_Make_eq p0 p1 p2).symm ▸ h L

noncomputable def t_magpielaw17_awake : Tree :=
 .call f_magpielaw17_Make [(.int .i64 2), (.int .i64 64), (.bool false)] (.one (.leaf .ptr)) fun x8 =>
 .look (opS Tryz.prog (.binOp .eql ty_p_magpielaw17_W (.tmp 0) (.const (.pointer none)) ty_p_magpielaw17_W) ty_bool [(.pointer x8)]) (.one (.leaf .bool)) fun x10 =>
 bif x10 then (
 .ret (.bool false))
 else (
 .look (nck x8) (.one (.leaf .addr)) fun x13 =>
 .ld x13 .ptr fun x15 =>
 .look (nck x8) (.one (.leaf .addr)) fun x17 =>
 .ld (x17.add 8) .slice fun x19 =>
 .look (opS Tryz.prog (.indexAddr ty_s_p_deque_Own (.tmp 0) (.const (.int .i64 0))) ty_unit [(.slice x19.a x19.len x19.cap)]) (.one (.leaf .addr)) fun x20 =>
 .ld x20 .ptr fun x21 =>
 .call f_deque_Own_Push [(.pointer x21), (.int .i64 77)] (.one (.leaf .ptr)) fun x22 =>
 .check (ldS x13) (.pointer x15) <|
 .check (nck x8) (.pointer (some x13)) <|
 .call f_magpielaw17_run [(.pointer x15), (.iface ty_p_deque_Push (.pointer x22))] (.one (.leaf .bool)) fun x24 =>
 bif (!x24) then (
 .ret (.bool false))
 else (
 .look (nck x8) (.one (.leaf .addr)) fun x28 =>
 .ld (x28.add 7) (.int .i64) fun x30 =>
 .look (nck x8) (.one (.leaf .addr)) fun x32 =>
 .ld (x32.add 1) .ptr fun x34 =>
 .look (nck x8) (.one (.leaf .addr)) fun x37 =>
 .ld (x37.add 7) (.int .i64) fun x39 =>
 .look (nck x8) (.one (.leaf .addr)) fun x41 =>
 .ld (x41.add 1) .ptr fun x43 =>
 .call f_thief_New [(.int .i64 x30), (.pointer x34), (.int .i64 1), (.int .i64 0), (.int .i64 0), (.int .i64 0)] (.one (.leaf .ptr)) fun x35 =>
 .check (ldS (x41.add 1)) (.pointer x43) <|
 .check (nck x8) (.pointer (some x41)) <|
 .check (ldS (x37.add 7)) (.int .i64 x39) <|
 .check (nck x8) (.pointer (some x37)) <|
 .call f_thief_New [(.int .i64 x39), (.pointer x43), (.int .i64 1), (.int .i64 0), (.int .i64 0), (.int .i64 0)] (.one (.leaf .ptr)) fun x44 =>
 .look (opS Tryz.prog (.binOp .eql ty_p_thief_Steal (.tmp 0) (.const (.pointer none)) ty_p_thief_Steal) ty_bool [(.pointer x35)]) (.one (.leaf .bool)) fun x46 =>
 bif x46 then (
 .ret (.bool false))
 else (
 .look (opS Tryz.prog (.binOp .eql ty_p_thief_Steal (.tmp 0) (.const (.pointer none)) ty_p_thief_Steal) ty_bool [(.pointer x44)]) (.one (.leaf .bool)) fun x49 =>
 bif x49 then (
 .ret (.bool false))
 else (
 .look (nck x8) (.one (.leaf .addr)) fun x53 =>
 .ld x53 .ptr fun x55 =>
 .call f_magpielaw17_run [(.pointer x55), (.iface ty_p_thief_Steal (.pointer x35))] (.one (.leaf .bool)) fun x58 =>
 bif (!x58) then (
 .ret (.bool false))
 else (
 .look (nck x8) (.one (.leaf .addr)) fun x63 =>
 .ld x63 .ptr fun x65 =>
 .call f_magpielaw17_run [(.pointer x65), (.iface ty_p_thief_Steal (.pointer x44))] (.one (.leaf .bool)) fun x68 =>
 bif (!x68) then (
 .ret (.bool false))
 else (
 .call f_thief_Steal_Value [(.pointer x35)] (.tup [(.leaf (.int .i64)), (.leaf .bool)]) fun x73 =>
 .call f_thief_Steal_Value [(.pointer x44)] (.tup [(.leaf (.int .i64)), (.leaf .bool)]) fun x78 =>
 bif x73.2.1 then (
 bif ((x73.1 : Int) == 77) then (
 .ret (.bool (!x78.2.1)))
 else (
 .ret (.bool false)))
 else (
 .ret (.bool false))))))))
theorem t_magpielaw17_awake_eq : funcTree Tryz.prog tcfg1 Tryz.f20 [] = t_magpielaw17_awake  := by kernel_rfl
theorem t_magpielaw17_awake_spec {H : Heap} {R : Value → Heap → Prop} (h : ∀ L, wp Tryz.prog (t_magpielaw17_awake ) L H R) : SpecF Tryz.prog f_magpielaw17_awake #[] H R :=
 spec_of_tree (cfg := tcfg1) Tryz.func20 fun L => (t_magpielaw17_awake_eq ).symm ▸ h L

@[reducible] def t_magpielaw17_make1_L1_sh : List Sh1 := [(.leaf (.int .i64)), (.leaf (.int .i64))]
noncomputable def t_magpielaw17_make1_L1 (p0 : Sl) (y1 : HL Sh1.T t_magpielaw17_make1_L1_sh) : Tree :=
 bif (decide ((y1.2.1 : Int) < ((p0.len : Nat) : Int))) then (
 bif (decide ((y1.2.1 : Int) < 5)) then (
 .look (opS Tryz.prog (.indexAddr ty_s_int (.tmp 0) (.tmp 1)) ty_unit [(.slice p0.a p0.len p0.cap), (.int .i64 y1.2.1)]) (.one (.leaf .addr)) fun x19 =>
 .ld x19 (.int .i64) fun x20 =>
 .qcall f_magpielaw00_Place [(.int .i64 x20), (.int .i64 3)] (.one (.leaf (.int .i64))) fun x21 =>
 .call f_key_Child [(.int .i64 y1.1), (.int .i64 (w64 (1 + x21)))] (.tup [(.leaf (.int .i64)), (.leaf .bool)]) fun x23 =>
 .again 192 [(.int .i64 x23.1), (.int .i64 (w64 (y1.2.1 + 1)))])
 else (
 .ret (.int .i64 y1.1)))
 else (
 .ret (.int .i64 y1.1))
noncomputable def t_magpielaw17_make1 (p0 : Sl) : Tree :=
 .loop 192 t_magpielaw17_make1_L1_sh [(.int .i64 1125899906842624), (.int .i64 0)] (t_magpielaw17_make1_L1 p0)
theorem t_magpielaw17_make1_eq (p0 : Sl) : funcTree Tryz.prog tcfg1 Tryz.f13 [(.slice p0.a p0.len p0.cap)] = t_magpielaw17_make1 p0 := by kernel_rfl
theorem t_magpielaw17_make1_spec {p0 : Sl} {H : Heap} {R : Value → Heap → Prop} (h : ∀ L, wp Tryz.prog (t_magpielaw17_make1 p0) L H R) : SpecF Tryz.prog f_magpielaw17_make1 #[(.slice p0.a p0.len p0.cap)] H R :=
 spec_of_tree (cfg := tcfg1) Tryz.func13 fun L => (t_magpielaw17_make1_eq p0).symm ▸ h L

noncomputable def t_magpielaw17_W_slot (p0 : Option Addr) (p1 : Int) : Tree :=
 .look (nck p0) (.one (.leaf .addr)) fun x9 =>
 .ldA (x9.add 2) [(.int .i64), (.int .i64), (.int .i64), (.int .i64), (.int .i64)] fun x11 =>
 .call f_slab_NewAlloc [(.agg #[(.int .i64 x11.1), (.int .i64 x11.2.1), (.int .i64 x11.2.2.1), (.int .i64 x11.2.2.2.1), (.int .i64 x11.2.2.2.2.1)]), (.int .i64 p1), (.int .i64 0)] (.one (.leaf .ptr)) fun x13 =>
 .look (opS Tryz.prog (.binOp .eql ty_p_slab_Alloc (.tmp 0) (.const (.pointer none)) ty_p_slab_Alloc) ty_bool [(.pointer x13)]) (.one (.leaf .bool)) fun x15 =>
 bif x15 then (
 .ret (.int .i64 0))
 else (
 .look (nck p0) (.one (.leaf .addr)) fun x18 =>
 .ld x18 .ptr fun x20 =>
 .call f_magpielaw17_run [(.pointer x20), (.iface ty_p_slab_Alloc (.pointer x13))] (.one (.leaf .bool)) fun x23 =>
 bif (!x23) then (
 .ret (.int .i64 0))
 else (
 .call f_slab_Alloc_Handle [(.pointer x13)] (.tup [(.leaf (.int .i64)), (.leaf .bool)]) fun x28 =>
 .ret (.int .i64 x28.1)))
theorem t_magpielaw17_W_slot_eq (p0 : Option Addr) (p1 : Int) : funcTree Tryz.prog tcfg1 Tryz.f11 [(.pointer p0), (.int .i64 p1)] = t_magpielaw17_W_slot p0 p1 := by kernel_rfl
theorem t_magpielaw17_W_slot_spec {p0 : Option Addr} {p1 : Int} {H : Heap} {R : Value → Heap → Prop} (h : ∀ L, wp Tryz.prog (t_magpielaw17_W_slot p0 p1) L H R) : SpecF Tryz.prog f_magpielaw17_W_slot #[(.pointer p0), (.int .i64 p1)] H R :=
 spec_of_tree (cfg := tcfg1) Tryz.func11 fun L => (t_magpielaw17_W_slot_eq p0 p1).symm ▸ h L

end Go.Proofs.YtjnacjniiogjcaaGreat

set_option maxRecDepth 20000
namespace Go.Proofs.YtjnacjniiogjcaaGreat
open Go Go.Fw

theorem runR17_go {M J : Type} {X : MchR M J} (hX : X.ok) {t : TypeId} (hinv : X.inv' t) {I : List Nat} {G : Heap} {n : Nat} {m m' : M} {A A' : Ar} (h : X.Runs n m A m' A') {L : Hands} :
    ∀ {i : Int} {b : Bool} {j : J} {R : Value → Heap → Prop}, (∀ j', Ok I G (keys (X.bl m' j')) → X.rep m' j' → Aw I A' → X.addr j' = X.addr j → R (.bool true) (own A' (X.bl m' j') G)) → Aw I A → Ok I G (keys (X.bl m j)) → X.rep m j → 0 ≤ i → i + n ≤ 4000 →
      wp Tryz.prog (.loop 128 t_magpielaw17_run_L1_sh [(.bool b), (.int .i64 i)] (t_magpielaw17_run_L1 (aI I) (.iface t (.pointer (some ⟨X.addr j, 0, none⟩))))) L (own A (X.bl m j) G) R := by
  induction h with
  | @one m A m1 A1 hi hst hu hf =>
    intro i b j R hR hA ok rp h0 h1
    refine wp_loop_unroll (b, i, ()) rfl ?_
    rw [t_magpielaw17_run_L1]
    refine wp_true (ilt (by show i < 4000; omega)) ?_
    refine w_Uses hA ?_
    refine act_enter (hinv _ _) ?_
    refine wp_call_of (hX I A G m j hA ok rp hi) ?_
    rintro v K ⟨j', rfl, rfl, ha, ok', rp', hA'⟩
    rw [hst] at ok' rp' hA' ⊢
    refine ⟨true, by rw [hf], ?_⟩
    refine w_Uses hA' ?_
    refine wp_false (inlt hu) ?_
    exact wp_true rfl (wp_ret_of (hR j' ok' rp' hA' ha))
  | @more n m A m1 A1 m' A' hi hst hu hf hr ih =>
    intro i b j R hR hA ok rp h0 h1
    refine wp_loop_unroll (b, i, ()) rfl ?_
    rw [t_magpielaw17_run_L1]
    refine wp_true (ilt (by show i < 4000; omega)) ?_
    refine w_Uses hA ?_
    refine act_enter (hinv _ _) ?_
    refine wp_call_of (hX I A G m j hA ok rp hi) ?_
    rintro v K ⟨j', rfl, rfl, ha, ok', rp', hA'⟩
    rw [hst] at ok' rp' hA' ⊢
    refine ⟨false, by rw [hf], ?_⟩
    refine w_Uses hA' ?_
    refine wp_false (inlt hu) (wp_false rfl (wp_again ?_))
    have e : w64 (i + 1) = i + 1 := w64_in (by omega) (by omega)
    rw [e, ← ha]
    exact ih (fun j2 k1 k2 k3 k4 => hR j2 k1 k2 k3 (k4.trans ha)) hA' ok' rp' (by omega) (by omega)

theorem w_runR17 {M J : Type} {X : MchR M J} (hX : X.ok) {t : TypeId} (hinv : X.inv' t) {I : List Nat} {G : Heap} {n : Nat} {m m' : M} {A A' : Ar} (h : X.Runs n m A m' A') (hn : n ≤ 4000) {j : J} {rest : Bl} (hA : Aw I A) (ok : Ok I G (keys (X.bl m j ++ rest))) (rp : X.rep m j)
    {L : Hands} {R : Value → Heap → Prop} {k : Bool → Tree} (hk : ∀ j', X.addr j' = X.addr j → Aw I A' → Ok I G (keys (X.bl m' j' ++ rest)) → X.rep m' j' → wp Tryz.prog (k true) L (own A' (X.bl m' j' ++ rest) G) R) :
    wp Tryz.prog (.call f_magpielaw17_run [.pointer (aI I), .iface t (.pointer (some ⟨X.addr j, 0, none⟩))] (.one (.leaf .bool)) k) L (own A (X.bl m j ++ rest) G) R := by
  rw [keys_append] at ok
  obtain ⟨o1, o2⟩ := ok.split
  refine w_sub (R0 := fun v K => ∃ j', v = .bool true ∧ K = own A' (X.bl m' j') (putL rest G) ∧ Ok I (putL rest G) (keys (X.bl m' j')) ∧ X.rep m' j' ∧ Aw I A' ∧ X.addr j' = X.addr j) ?_ ?_
  · refine t_magpielaw17_run_spec fun L => ?_
    unfold t_magpielaw17_run
    exact runR17_go hX hinv h (fun j' a b c d => ⟨j', rfl, rfl, a, b, c, d⟩) hA o1 rp (Int.le_refl 0) (by omega)
  · rintro v K ⟨j', rfl, rfl, ok', rp', hA', ha⟩
    refine ⟨true, rfl, ?_⟩
    rw [← own_append]
    exact hk j' ha hA' (by rw [keys_append]; exact ok'.join o2) rp'
end Go.Proofs.YtjnacjniiogjcaaGreat

set_option maxRecDepth 20000
namespace Go.Proofs.YtjnacjniiogjcaaGreat
open Go Go.Fw

theorem npW17 (a : Addr) : opS Tryz.prog (.binOp .eql ty_p_magpielaw17_W (.tmp 0) (.const (.pointer none)) ty_p_magpielaw17_W) ty_bool [(.pointer (some a))] = .pure (.value (.bool false)) := by kernel_rfl
theorem npPs (a : Addr) : opS Tryz.prog (.binOp .eql ty_p_deque_Push (.tmp 0) (.const (.pointer none)) ty_p_deque_Push) ty_bool [(.pointer (some a))] = .pure (.value (.bool false)) := by kernel_rfl
theorem npOw (a : Addr) : opS Tryz.prog (.binOp .eql ty_p_deque_Own (.tmp 0) (.const (.pointer none)) ty_p_deque_Own) ty_bool [(.pointer (some a))] = .pure (.value (.bool false)) := by kernel_rfl
theorem elP : ElOk ty_s_p_deque_Own ty_p_deque_Own 1 := ⟨⟨_, _, rfl, rfl, rfl, by decide, by decide, rfl, rfl⟩⟩

def wC (I : List Nat) (q : Nat) (p : Pl) (at_ : Int) (s : Sl) : List Value := [.pointer (aI I), .pointer (some ⟨q, 0, none⟩), .int .i64 p.work, .int .i64 p.heads, .int .i64 p.links, .int .i64 p.gens, .int .i64 p.carved, .int .i64 at_, slV s]
def Dq.bl (q : Nat) (x : Dq) : Bl := [(x.ob, oc ty_deque_Own (owC x.o q))]
def obs (f : Nat → Dq) (n : Nat) : List Nat := arrC n fun i => (f i).ob
def WL (x q mq : Nat) (I : List Nat) (g : Gd) (at_ : Int) (s : Sl) (e : List LE) (f : Nat → Dq) (n : Nat) (sb rest : Bl) : Bl :=
  (x, oc ty_magpielaw17_W (wC I q g.pl at_ s)) :: (g.bl q mq e ++ (famB (fun i => (f i).bl q) n ++ (sb ++ rest)))

section
variable {L : Hands} {R : Value → Heap → Prop} {G : Heap} {l rest sb : Bl} {A B : Ar} {I : List Nat}
variable {g : Gd} {m : Int} {S S' : Sg} {ls l' : Int → List (Int × Int)} {v t at_ ex : Int} {q mq x n N w : Nat} {s : Sl} {e : List LE} {f : Nat → Dq}

theorem w_rdOw {xs : List Nat} {i : Nat} {ob : Nat} {u : TypeId} {k : Option Addr → Tree} (hA : Aw I A) (ok : Ok I G (keys l)) (hs : SlOf l ty_p_deque_Own eP s xs) (hi : xs[i]? = some ob) (h : wp Tryz.prog (k (some ⟨ob, 0, none⟩)) L (own A l G) R) :
    wp Tryz.prog (.look (opS Tryz.prog (.indexAddr ty_s_p_deque_Own (.tmp 0) (.tmp 1)) u [.slice s.a s.len s.cap, .int .i64 (i : Int)]) (.one (.leaf .addr)) fun y => .ld y .ptr k) L (own A l G) R := by
  have hl : i < xs.length := (List.getElem?_eq_some_iff.1 hi).1
  rcases hs with ⟨_, rfl⟩ | ⟨b, rest, r, rfl, h2, h3⟩
  · cases hi
  · refine w_ixS (e := ty_p_deque_Own) rfl rfl rfl (by omega) (by show (i : Int) < (xs.length : Int); omega) ?_
    refine w_ldm (x := some ⟨ob, 0, none⟩) hA ok rfl h3 ?_ h
    rw [Nat.zero_add, eP_all, List.getElem?_append_left (by simpa using hl), Int.toNat_natCast, List.getElem?_map, hi]; rfl
theorem w_app1P {xs : List Nat} {z : Nat} {k : Sl → Tree} {pre tl : Bl} (hA : Aw I A) (ok : Ok I G (keys (pre ++ tl))) (hs : SlOf tl ty_p_deque_Own eP s xs) (hm : xs.length ≤ 1000000)
    (h : ∀ s' tl', SlOf tl' ty_p_deque_Own eP s' (xs ++ [z]) → Ok I G (keys (pre ++ tl')) → wp Tryz.prog (k s') L (own A (pre ++ tl') G) R) :
    wp Tryz.prog (.newS (.cells #[.pointer (some ⟨z, 0, none⟩)] ty_p_deque_Own) 1 fun x => .act (opS Tryz.prog (.call { callee := .builtin .append, args := #[(.tmp 0), (.tmp 1)], argTypes := #[ty_s_p_deque_Own, ty_s_p_deque_Own] }) ty_s_p_deque_Own [(.slice s.a s.len s.cap), (.slice x.a x.len x.cap)]) (.one (.leaf .slice)) k) L (own A (pre ++ tl) G) R := by
  refine w_newS (c := [.pointer (some ⟨z, 0, none⟩)]) hA ok fun q ok1 => ?_
  have ok' : Ok I G (keys (((q, oc ty_p_deque_Own [.pointer (some ⟨z, 0, none⟩)]) :: pre) ++ tl)) := ok1
  show wp Tryz.prog _ L (own A (((q, oc ty_p_deque_Own [.pointer (some ⟨z, 0, none⟩)]) :: pre) ++ tl) G) R
  refine w_appT (E := eP) elP (ys := [z]) (t := ⟨some ⟨q, 0, none⟩, 1, 1⟩) hA ok' hs ?_ rfl (by simp; omega) fun s' tl' hs' ok2 ap => ?_
  · exact cell_row hA ok' List.mem_cons_self 0 rfl
  · obtain ⟨m3, m4⟩ := own_mid (A := A) ok2
    show wp Tryz.prog _ L (own A ((q, oc ty_p_deque_Own [.pointer (some ⟨z, 0, none⟩)]) :: (pre ++ tl')) G) R
    rw [m3]
    exact h s' _ (hs'.mono fun p hp => List.mem_cons_of_mem _ hp) m4

theorem obs_upd {y : Dq} (hy : y.ob = (f w).ob) : obs (updF f w y) n = obs f n := by
  unfold obs
  congr 1
  funext j
  unfold updF
  split
  · rename_i e; rw [e, hy]
  · rfl
theorem obs_get (h : w < n) : (obs f n)[w]? = some (f w).ob := arrC_get h
theorem WL_mem {p : Nat × Obj} (h : p ∈ sb) : p ∈ WL x q mq I g at_ s e f n sb rest := List.mem_cons_of_mem _ (List.mem_append_right _ (List.mem_append_right _ (List.mem_append_left _ h)))
theorem WL_own (h : w < n) : ((f w).ob, oc ty_deque_Own (owC (f w).o q)) ∈ WL x q mq I g at_ s e f n sb rest := List.mem_cons_of_mem _ (List.mem_append_right _ (List.mem_append_left _ (famB_mem.2 ⟨w, h, List.mem_cons_self⟩)))

theorem w_size17 {K : Int → Tree} (E : DI A g m S ls at_ n ex f) (hw : w < n) (hu : A.uses ≤ 700000) (hA : Aw I A) (ok : Ok I G (keys (WL x q mq I g at_ s e f n sb rest)))
    (hk : Aw I (A.later 2) → DI (A.later 2) g m S ls at_ n ex f → wp Tryz.prog (K ((f w).xs.length : Int)) L (own (A.later 2) (WL x q mq I g at_ s e f n sb rest) G) R) :
    wp Tryz.prog (.call f_deque_Own_Size [.pointer (some ⟨(f w).ob, 0, none⟩), .pointer (aI I)] (.one (.leaf (.int .i64))) K) L (own A (WL x q mq I g at_ s e f n sb rest) G) R := by
  obtain ⟨ix, hix⟩ := mem_idx (WL_own (x := x) (q := q) (mq := mq) (I := I) (g := g) (at_ := at_) (s := s) (e := e) (f := f) (n := n) (sb := sb) (rest := rest) hw)
  obtain ⟨wh, da, hs, lb, sz⟩ := E.ati hw
  have Q := E.dq w hw
  have X := E.gi
  have u0 := X.u0
  have tb := Q.tb
  have bt := Q.bt
  refine w_Size ix (bnd_ok X da wh) hA ok hix fun hB => ?_
  have t1 := touchR_dw (o := (f w).o) X da wh (by omega) (k := 1) (by decide) (by decide)
  rw [t1] at hB ⊢
  have t0 := touchR_dw (o := (f w).o) (A := A.later 1) (X.later (by decide)) ⟨da.lo, da.hi⟩ wh (by show A.uses + 1 ≤ _; omega) (k := 0) (by decide) (by decide)
  have e2 : (A.later 1).later 1 = A.later 2 := by unfold Ar.later; rw [show A.uses + 1 + 1 = A.uses + 2 by omega]
  rw [t0, e2] at hB ⊢
  have ev : imax (w64 (A.rawF (dw (f w).o.at_ (f w).o.work 1) - (A.later 1).rawF (dw (f w).o.at_ (f w).o.work 0))) 0 = ((f w).xs.length : Int) := by
    rw [Q.r1, show (A.later 1).rawF (dw (f w).o.at_ (f w).o.work 0) = (f w).t from Q.r0, bt, w64_in (by omega) (by omega)]
    unfold imax; split <;> omega
  rw [ev]
  exact hk hB (E.later (by decide))

def psB (z ob : Nat) (v : Int) : Nat × Obj := (z, oc ty_deque_Push (psC ob v 0 0 none none .nilIface 0 false))
def wentB (z : Nat) (went : Bool) : Bl → Prop := fun rest => ∃ c, (z, oc ty_deque_Push c) ∈ rest ∧ c[8]? = some (.bool went)
def poppedB (z ob : Nat) (y : Pp) : Bl → Prop := fun rest => (z, oc ty_deque_Pop (ppC ob y)) ∈ rest
def stoleB (z : Nat) (q : Nat) (y : Ts) : Bl → Prop := fun rest => ∃ s, (z, oc ty_thief_Steal (tsC y q s .nilIface)) ∈ rest

structure LW (I : List Nat) (G : Heap) (g : Gd) (m at_ : Int) (x q mq : Nat) (s : Sl) (sb : Bl) (n : Nat) (ex : Int) (A : Ar) (S : Sg) (l : Int → List (Int × Int)) (f : Nat → Dq) (e : List LE) (rest : Bl) : Prop where
  aw : Aw I A
  ok : Ok I G (keys (WL x q mq I g at_ s e f n sb rest))
  gs : GdS e l
  di : DI A g m S l at_ n ex f
  hs : SlOf sb ty_p_deque_Own eP s (obs f n)
theorem wentB.in {z : Nat} {went : Bool} {fr : Bl} (h : wentB z went fr) (pre : Bl) (rest : Bl) : wentB z went (pre ++ (fr ++ rest)) := by
  obtain ⟨c, h1, h2⟩ := h
  exact ⟨c, List.mem_append_right _ (List.mem_append_left _ h1), h2⟩
theorem poppedB.in {z ob : Nat} {y : Pp} {fr : Bl} (h : poppedB z ob y fr) (pre : Bl) (rest : Bl) : poppedB z ob y (pre ++ (fr ++ rest)) := List.mem_append_right _ (List.mem_append_left _ h)
theorem stoleB.in {z q : Nat} {y : Ts} {fr : Bl} (h : stoleB z q y fr) (pre : Bl) (rest : Bl) : stoleB z q y (pre ++ (fr ++ rest)) := by
  obtain ⟨s, h⟩ := h
  exact ⟨s, List.mem_append_right _ (List.mem_append_left _ h)⟩
theorem LW.later {l : Int → List (Int × Int)} (E : LW I G g m at_ x q mq s sb n ex A S l f e rest) {k : Int} (hk : 0 ≤ k) : LW I G g m at_ x q mq s sb n ex (A.later k) S l f e rest := ⟨later_aw E.aw k, E.ok, E.gs, E.di.later hk, E.hs⟩

theorem WL_in (gar : Bl) (ok : Ok I G (keys (gar ++ WL x q mq I g at_ s e f n sb rest))) : own A (gar ++ WL x q mq I g at_ s e f n sb rest) G = own A (WL x q mq I g at_ s e f n sb (gar ++ rest)) G ∧ Ok I G (keys (WL x q mq I g at_ s e f n sb (gar ++ rest))) :=
  own_perm (A := A) ok (perm_by fun c d c0 cd ca => by
    show c (gar ++ ((x, oc ty_magpielaw17_W (wC I q g.pl at_ s)) :: (g.bl q mq e ++ (famB (fun i => (f i).bl q) n ++ (sb ++ rest))))) = c ((x, oc ty_magpielaw17_W (wC I q g.pl at_ s)) :: (g.bl q mq e ++ (famB (fun i => (f i).bl q) n ++ (sb ++ (gar ++ rest)))))
    simp only [cd, ca]; omega)
theorem WL_rest {p : Nat × Obj} (h : p ∈ rest) : p ∈ WL x q mq I g at_ s e f n sb rest := List.mem_cons_of_mem _ (List.mem_append_right _ (List.mem_append_right _ (List.mem_append_right _ h)))

section
variable {l : Int → List (Int × Int)}
theorem LW.newPush (E : LW I G g m at_ x q mq s sb n ex A S l f e rest) (hw : w < n) {K : Option Addr → Tree}
    (hk : ∀ z, LW I G g m at_ x q mq s sb n ex A S l f e (psB z (f w).ob v :: rest) → wp Tryz.prog (K (some ⟨z, 0, none⟩)) L (own A (WL x q mq I g at_ s e f n sb (psB z (f w).ob v :: rest)) G) R) :
    wp Tryz.prog (.call f_deque_Own_Push [.pointer (some ⟨(f w).ob, 0, none⟩), .int .i64 v] (.one (.leaf .ptr)) K) L (own A (WL x q mq I g at_ s e f n sb rest) G) R := by
  refine w_NewPushD E.aw E.ok fun z ok1 => ?_
  obtain ⟨p, o⟩ := WL_in (A := A) [psB z (f w).ob v] ok1
  show wp Tryz.prog _ L (own A ([psB z (f w).ob v] ++ WL x q mq I g at_ s e f n sb rest) G) R
  rw [p]
  exact hk z ⟨E.aw, o, E.gs, E.di, E.hs⟩
theorem LW.runPush {z : Nat} (E : LW I G g m at_ x q mq s sb n ex A S l f e (psB z (f w).ob v :: rest)) (hw : w < n) (hu : A.uses ≤ 600000) (th : 1 ≤ g.th) {K : Bool → Tree}
    (hy : ∀ N B S' l' o' al cp now e' fr, PushY A g m S l at_ n ex f w v q mq (f w).ob N B S' l' o' al cp now → wentB z true fr → LW I G g m at_ x q mq s sb n ex B S' l' (updF f w ⟨o', (f w).t, (f w).xs ++ [v], (f w).ob⟩) e' (fr ++ rest) → wp Tryz.prog (K true) L (own B (WL x q mq I g at_ s e' (updF f w ⟨o', (f w).t, (f w).xs ++ [v], (f w).ob⟩) n sb (fr ++ rest)) G) R)
    (hn : ∀ N B al e' fr, PushN A g m S l at_ n ex f w v q mq (f w).ob N B al → wentB z false fr → LW I G g m at_ x q mq s sb n ex B S l f e' (fr ++ rest) → wp Tryz.prog (K true) L (own B (WL x q mq I g at_ s e' f n sb (fr ++ rest)) G) R) :
    wp Tryz.prog (.call f_magpielaw17_run [.pointer (aI I), .iface ty_p_deque_Push (.pointer (some ⟨z, 0, none⟩))] (.one (.leaf .bool)) K) L (own A (WL x q mq I g at_ s e f n sb (psB z (f w).ob v :: rest)) G) R := by
  obtain ⟨c1, hc1⟩ : ∃ c1 : Nat × Obj, c1 = (x, oc ty_magpielaw17_W (wC I q g.pl at_ s)) := ⟨_, rfl⟩
  have ok1 : Ok I G (keys (c1 :: (g.bl q mq e ++ (famB (fun i => (f i).bl q) n ++ (sb ++ (psB z (f w).ob v :: rest)))))) := by rw [hc1]; exact E.ok
  have eW : WL x q mq I g at_ s e f n sb (psB z (f w).ob v :: rest) = c1 :: (g.bl q mq e ++ (famB (fun i => (f i).bl q) n ++ (sb ++ (psB z (f w).ob v :: rest)))) := by rw [hc1]; rfl
  rw [eW]
  obtain ⟨p1, ok2⟩ := own_perm (A := A) (l' := Ps.bl q mq ⟨g, l, (f w).o, v, 0, 0, none, none, none, 0, false⟩ ⟨z, (f w).ob, e, lj0, (0, 0, 0), (0, 0, 0), .nilIface, []⟩ ++ (c1 :: (famR (fun i => (f i).bl q) w n ++ (sb ++ rest)))) ok1 (perm_by fun c d c0 cd ca => by
    show _ = c ((psB z (f w).ob v :: ((f w).ob, oc ty_deque_Own (owC (f w).o q)) :: (g.bl q mq e ++ ([] ++ ([] ++ [])))) ++ (c1 :: (famR (fun i => (f i).bl q) w n ++ (sb ++ rest))))
    have hb : c ((f w).bl q) = d ((f w).ob, oc ty_deque_Own (owC (f w).o q)) := by show c (_ :: []) = _; rw [cd, c0]; rfl
    simp only [List.cons_append, List.append_assoc, List.nil_append, cd, ca, c0, famB_c c0 ca (fun i => (f i).bl q) hw, hb]; omega)
  rw [p1]
  have go : ∀ {N : Nat} {B : Ar} {l' : Int → List (Int × Int)} {o' : DOw} {al : Option Al} {cp : Option Cm} {now t : Int} {went : Bool} {y : Dq}, y.o = o' → y.ob = (f w).ob → N ≤ 4000 →
      (mPs q mq (f w).ob).Runs N ⟨g, l, (f w).o, v, 0, 0, none, none, none, 0, false⟩ A ⟨g, l', o', v, t, 7, al, cp, none, now, went⟩ B →
      (∀ e' fr, wentB z went fr → Aw I B → GdS e' l' → Ok I G (keys (WL x q mq I g at_ s e' (updF f w y) n sb (fr ++ rest))) → wp Tryz.prog (K true) L (own B (WL x q mq I g at_ s e' (updF f w y) n sb (fr ++ rest)) G) R) →
      wp Tryz.prog (.call f_magpielaw17_run [.pointer (aI I), .iface ty_p_deque_Push (.pointer (some ⟨z, 0, none⟩))] (.one (.leaf .bool)) K) L (own A (Ps.bl q mq ⟨g, l, (f w).o, v, 0, 0, none, none, none, 0, false⟩ ⟨z, (f w).ob, e, lj0, (0, 0, 0), (0, 0, 0), .nilIface, []⟩ ++ (c1 :: (famR (fun i => (f i).bl q) w n ++ (sb ++ rest)))) G) R := fun {N B l' o' al cp now t went y} yo yb hN r hk => by
    refine w_runR17 (mPs_ok q mq (f w).ob) (mPs_inv q mq (f w).ob) r hN (j := ⟨z, (f w).ob, e, lj0, (0, 0, 0), (0, 0, 0), .nilIface, []⟩) E.aw ok2 ⟨E.gs, rfl⟩ fun j' ha hB ok3 rp => ?_
    obtain ⟨z', ob', e', lj', aj', cj', ov', gar'⟩ := j'
    have ha : z' = z := ha
    subst ha
    obtain ⟨gs', hob⟩ := rp
    have hob : ob' = (f w).ob := hob
    subst hob
    have ok3 : Ok I G (keys (((z', oc ty_deque_Push (psC (f w).ob v t 7 (alX al aj') (cpX cp cj') ov' now went)) :: ((f w).ob, oc ty_deque_Own (owC o' q)) :: (g.bl q mq e' ++ (alBl al aj' ++ (cpBl cp cj' ++ gar')))) ++ (c1 :: (famR (fun i => (f i).bl q) w n ++ (sb ++ rest))))) := ok3
    show wp Tryz.prog _ L (own B (((z', oc ty_deque_Push (psC (f w).ob v t 7 (alX al aj') (cpX cp cj') ov' now went)) :: ((f w).ob, oc ty_deque_Own (owC o' q)) :: (g.bl q mq e' ++ (alBl al aj' ++ (cpBl cp cj' ++ gar')))) ++ (c1 :: (famR (fun i => (f i).bl q) w n ++ (sb ++ rest)))) G) _
    obtain ⟨p2, ok4⟩ := own_perm (A := B) (l' := WL x q mq I g at_ s e' (updF f w y) n sb (((z', oc ty_deque_Push (psC (f w).ob v t 7 (alX al aj') (cpX cp cj') ov' now went)) :: (alBl al aj' ++ (cpBl cp cj' ++ gar'))) ++ rest)) ok3 (perm_by fun c d c0 cd ca => by
      show _ = c ((x, oc ty_magpielaw17_W (wC I q g.pl at_ s)) :: (g.bl q mq e' ++ (famB (fun i => (updF f w y i).bl q) n ++ (sb ++ _))))
      have hb : c (y.bl q) = d ((f w).ob, oc ty_deque_Own (owC o' q)) := by rw [← yb, ← yo]; show c (_ :: []) = _; rw [cd, c0]; rfl
      simp only [List.cons_append, List.append_assoc, List.nil_append, cd, ca, c0, famB_upd_c c0 ca (Dq.bl q) f y hw, hb, ← hc1]
      have : c (famR (fun j => Dq.bl q (f j)) w n) = c (famR (fun i => (f i).bl q) w n) := rfl
      omega)
    rw [p2]
    exact hk e' _ ⟨_, List.mem_cons_self, rfl⟩ hB gs' ok4
  rcases E.di.push hw hu th v q mq (f w).ob with ⟨N, B, S', l', o', al, cp, now, P⟩ | ⟨N, B, al, P⟩
  · refine go (y := ⟨o', (f w).t, (f w).xs ++ [v], (f w).ob⟩) rfl rfl P.hn P.run fun e' rest' hW aw' gs' ok' => ?_
    exact hy N B S' l' o' al cp now e' rest' P hW ⟨aw', ok', gs', P.di, by rw [obs_upd (y := ⟨o', (f w).t, (f w).xs ++ [v], (f w).ob⟩) (show (f w).ob = (f w).ob from rfl)]; exact E.hs⟩
  · refine go (y := f w) rfl rfl P.hn P.run fun e' rest' hW aw' gs' ok' => ?_
    rw [updF_id] at ok' ⊢
    exact hn N B al e' rest' P hW ⟨aw', ok', gs', P.di, E.hs⟩
theorem LW.went {z : Nat} {went : Bool} (E : LW I G g m at_ x q mq s sb n ex A S l f e rest) (h : wentB z went rest) {K : Bool → Tree} (hk : wp Tryz.prog (K went) L (own A (WL x q mq I g at_ s e f n sb rest) G) R) :
    wp Tryz.prog (.call f_deque_Push_Went [.pointer (some ⟨z, 0, none⟩)] (.one (.leaf .bool)) K) L (own A (WL x q mq I g at_ s e f n sb rest) G) R := by
  obtain ⟨c, h1, h2⟩ := h
  obtain ⟨i, hi⟩ := mem_idx (WL_rest (x := x) (q := q) (mq := mq) (I := I) (g := g) (at_ := at_) (s := s) (e := e) (f := f) (n := n) (sb := sb) h1)
  exact w_Went i E.aw E.ok hi h2 hk

theorem npTs (a : Addr) : opS Tryz.prog (.binOp .eql ty_p_thief_Steal (.tmp 0) (.const (.pointer none)) ty_p_thief_Steal) ty_bool [(.pointer (some a))] = .pure (.value (.bool false)) := by kernel_rfl
theorem stepsSp_f (before : Int) : (stepsSp before).map Sp.f = stepsOf before := by
  unfold stepsSp stepsOf steps7 steps4
  by_cases h : before > 0
  · rw [if_pos h, if_pos h]; rfl
  · rw [if_neg h, if_neg h]; rfl
theorem LW.newSteal {wk vic before keyAt : Int} (E : LW I G g m at_ x q mq s sb n ex A S l f e rest) {K : Option Addr → Tree}
    (hk : ∀ z s0 tl, SlOf tl ty_func_thief_machine (eF z) s0 (stepsOf before) → LW I G g m at_ x q mq s sb n ex A S l f e (stB z q (newTs at_ wk vic before keyAt) s0 .nilIface :: (tl ++ rest)) → wp Tryz.prog (K (some ⟨z, 0, none⟩)) L (own A (WL x q mq I g at_ s e f n sb (stB z q (newTs at_ wk vic before keyAt) s0 .nilIface :: (tl ++ rest))) G) R) :
    wp Tryz.prog (.call f_thief_New [.int .i64 at_, .pointer (some ⟨q, 0, none⟩), .int .i64 wk, .int .i64 vic, .int .i64 before, .int .i64 keyAt] (.one (.leaf .ptr)) K) L (own A (WL x q mq I g at_ s e f n sb rest) G) R := by
  refine w_NewSteal E.aw E.ok fun z s0 tl hs ok1 => ?_
  have ok1 : Ok I G (keys ((stB z q (newTs at_ wk vic before keyAt) s0 .nilIface :: tl) ++ WL x q mq I g at_ s e f n sb rest)) := ok1
  obtain ⟨p, o⟩ := WL_in (A := A) _ ok1
  show wp Tryz.prog _ L (own A ((stB z q (newTs at_ wk vic before keyAt) s0 .nilIface :: tl) ++ WL x q mq I g at_ s e f n sb rest) G) R
  rw [p]
  exact hk z s0 tl hs ⟨E.aw, o, E.gs, E.di, E.hs⟩
theorem LW.runSteal {z : Nat} {wk vic : Nat} {before keyAt : Int} {s0 : Sl} {tl pre : Bl} (E : LW I G g m at_ x q mq s sb n ex A S l f e (pre ++ (stB z q (newTs at_ wk vic before keyAt) s0 .nilIface :: (tl ++ rest)))) (hs : SlOf tl ty_func_thief_machine (eF z) s0 (stepsOf before)) (hv : vic < n) (hw : wk < n) (hu : A.uses ≤ 600000)
    (ht : before > 0 → ∀ y ys, (f vic).xs = y :: ys → A.inOk y keyAt) {K : Bool → Tree}
    (hk : ∀ N B y fr, Stl A g m S l at_ n ex f vic wk before keyAt q mq e N B y → stoleB z q y fr → LW I G g m at_ x q mq s sb n ex B S l (if y.ok = true then updF f vic { f vic with t := (f vic).t + 1, xs := (f vic).xs.tail } else f) e (fr ++ (pre ++ rest)) → wp Tryz.prog (K true) L (own B (WL x q mq I g at_ s e (if y.ok = true then updF f vic { f vic with t := (f vic).t + 1, xs := (f vic).xs.tail } else f) n sb (fr ++ (pre ++ rest))) G) R) :
    wp Tryz.prog (.call f_magpielaw17_run [.pointer (aI I), .iface ty_p_thief_Steal (.pointer (some ⟨z, 0, none⟩))] (.one (.leaf .bool)) K) L (own A (WL x q mq I g at_ s e f n sb (pre ++ (stB z q (newTs at_ wk vic before keyAt) s0 .nilIface :: (tl ++ rest)))) G) R := by
  obtain ⟨N, B, y, P⟩ := E.di.steal hv hw hu before keyAt q mq e ht
  obtain ⟨c1, hc1⟩ : ∃ c1 : Nat × Obj, c1 = (x, oc ty_magpielaw17_W (wC I q g.pl at_ s)) := ⟨_, rfl⟩
  obtain ⟨c2, hc2⟩ : ∃ c2 : Nat × Obj, c2 = stB z q (newTs at_ wk vic before keyAt) s0 .nilIface := ⟨_, rfl⟩
  have ok1 := E.ok
  rw [← hc2] at ok1 ⊢
  have ok1 : Ok I G (keys (c1 :: (g.bl q mq e ++ (famB (fun i => (f i).bl q) n ++ (sb ++ (pre ++ (c2 :: (tl ++ rest)))))))) := by rw [hc1]; exact ok1
  have eW : WL x q mq I g at_ s e f n sb (pre ++ (c2 :: (tl ++ rest))) = c1 :: (g.bl q mq e ++ (famB (fun i => (f i).bl q) n ++ (sb ++ (pre ++ (c2 :: (tl ++ rest)))))) := by rw [hc1]; rfl
  rw [eW]
  obtain ⟨p1, ok2⟩ := own_perm (A := A) (l' := (g.bl q mq e ++ (c2 :: tl)) ++ (c1 :: (famB (fun i => (f i).bl q) n ++ (sb ++ (pre ++ rest))))) ok1 (perm_by fun c d c0 cd ca => by simp only [List.append_assoc, List.cons_append, cd, ca]; omega)
  rw [p1]
  rw [hc2] at ok2 ⊢
  have ok2 : Ok I G (keys ((mTs g q mq e).bl ⟨newTs at_ wk vic before keyAt, stepsSp before, .no⟩ ⟨z, s0, ⟨0, ⟨0, sl0, []⟩⟩, tl⟩ ++ (c1 :: (famB (fun i => (f i).bl q) n ++ (sb ++ (pre ++ rest)))))) := ok2
  show wp Tryz.prog _ L (own A ((mTs g q mq e).bl ⟨newTs at_ wk vic before keyAt, stepsSp before, .no⟩ ⟨z, s0, ⟨0, ⟨0, sl0, []⟩⟩, tl⟩ ++ (c1 :: (famB (fun i => (f i).bl q) n ++ (sb ++ (pre ++ rest))))) G) R
  refine w_runR17 mTs_ok (mTs_inv g q mq e) P.run (by have := P.hn; omega) (j := ⟨z, s0, ⟨0, ⟨0, sl0, []⟩⟩, tl⟩) E.aw ok2 ⟨by rw [stepsSp_f]; exact hs.at', trivial⟩ fun j' ha hB ok3 _ => ?_
  obtain ⟨z', s', u', tl'⟩ := j'
  have ha : z' = z := ha
  subst ha
  have ok3 : Ok I G (keys ((g.bl q mq e ++ (stB z' q y s' .nilIface :: ([] ++ tl'))) ++ (c1 :: (famB (fun i => (f i).bl q) n ++ (sb ++ (pre ++ rest)))))) := ok3
  show wp Tryz.prog _ L (own B ((g.bl q mq e ++ (stB z' q y s' .nilIface :: ([] ++ tl'))) ++ (c1 :: (famB (fun i => (f i).bl q) n ++ (sb ++ (pre ++ rest))))) G) R
  have eb : famB (fun i => ((if y.ok = true then updF f vic { f vic with t := (f vic).t + 1, xs := (f vic).xs.tail } else f) i).bl q) n = famB (fun i => (f i).bl q) n := by
    congr 1
    funext i
    split
    · unfold updF
      split
      · rename_i e; rw [e]; rfl
      · rfl
    · rfl
  have eo : obs (if y.ok = true then updF f vic { f vic with t := (f vic).t + 1, xs := (f vic).xs.tail } else f) n = obs f n := by
    split
    · exact obs_upd rfl
    · rfl
  obtain ⟨p2, ok4⟩ := own_perm (A := B) (l' := WL x q mq I g at_ s e (if y.ok = true then updF f vic { f vic with t := (f vic).t + 1, xs := (f vic).xs.tail } else f) n sb ((stB z' q y s' .nilIface :: tl') ++ (pre ++ rest))) ok3 (perm_by fun c d c0 cd ca => by
    show _ = c ((x, oc ty_magpielaw17_W (wC I q g.pl at_ s)) :: (g.bl q mq e ++ (famB (fun i => ((if y.ok = true then updF f vic { f vic with t := (f vic).t + 1, xs := (f vic).xs.tail } else f) i).bl q) n ++ (sb ++ _))))
    rw [eb, ← hc1]
    simp only [List.append_assoc, List.cons_append, List.nil_append, cd, ca]; omega)
  rw [p2]
  exact hk N B y _ P ⟨s', List.mem_cons_self⟩ ⟨hB, ok4, E.gs, P.di, by rw [eo]; exact E.hs⟩
theorem LW.stealValue {z : Nat} {y : Ts} (E : LW I G g m at_ x q mq s sb n ex A S l f e rest) (h : stoleB z q y rest) (lv : y.leaves = true) {K : HL Sh1.T [(.leaf (.int .i64)), (.leaf .bool)] → Tree} (hk : wp Tryz.prog (K ((if y.ok = true then y.v else 0), y.ok, ())) L (own A (WL x q mq I g at_ s e f n sb rest) G) R) :
    wp Tryz.prog (.call f_thief_Steal_Value [.pointer (some ⟨z, 0, none⟩)] (.tup [(.leaf (.int .i64)), (.leaf .bool)]) K) L (own A (WL x q mq I g at_ s e f n sb rest) G) R := by
  obtain ⟨s1, h⟩ := h
  have hm := WL_rest (x := x) (q := q) (mq := mq) (I := I) (g := g) (at_ := at_) (s := s) (e := e) (f := f) (n := n) (sb := sb) h
  refine wp_call_det (x := ((if y.ok = true then y.v else 0), y.ok, ())) (H' := own A (WL x q mq I g at_ s e f n sb rest) G) ?_ hk
  refine t_thief_Steal_Value_spec fun L => ?_
  unfold t_thief_Steal_Value
  refine wp_nil.2 (w_ldm (x := y.ok) E.aw E.ok rfl hm rfl ?_)
  cases hk : y.ok with
  | false => exact wp_true rfl (wp_ret_of ⟨rfl, rfl⟩)
  | true =>
    refine wp_false rfl ?_
    refine wp_nil.2 (w_ldm (x := .nilIface) E.aw E.ok rfl hm rfl ?_)
    refine look_val (x := false) (neTm0 _) (wp_false rfl ?_)
    refine wp_nil.2 (w_ldm (x := y.leaves) E.aw E.ok rfl hm rfl ?_)
    rw [lv]
    refine wp_false rfl ?_
    refine wp_nil.2 (w_ldm (x := y.v) E.aw E.ok rfl hm rfl ?_)
    exact wp_ret_of ⟨rfl, rfl⟩
theorem w_at (E : LW I G g m at_ x q mq s sb n ex A S l f e rest) {K : Int → Tree} (hk : wp Tryz.prog (K at_) L (own A (WL x q mq I g at_ s e f n sb rest) G) R) :
    wp Tryz.prog (.ld (Addr.add ⟨x, 0, none⟩ 7) (.int .i64) K) L (own A (WL x q mq I g at_ s e f n sb rest) G) R := w_ld 0 (x := at_) E.aw E.ok rfl rfl rfl hk
theorem w_gd (E : LW I G g m at_ x q mq s sb n ex A S l f e rest) {K : Option Addr → Tree} (hk : wp Tryz.prog (K (some ⟨q, 0, none⟩)) L (own A (WL x q mq I g at_ s e f n sb rest) G) R) :
    wp Tryz.prog (.ld (Addr.add ⟨x, 0, none⟩ 1) .ptr K) L (own A (WL x q mq I g at_ s e f n sb rest) G) R := w_ld 0 (x := some ⟨q, 0, none⟩) E.aw E.ok rfl rfl rfl hk
theorem w_ar (E : LW I G g m at_ x q mq s sb n ex A S l f e rest) {K : Option Addr → Tree} (hk : wp Tryz.prog (K (aI I)) L (own A (WL x q mq I g at_ s e f n sb rest) G) R) :
    wp Tryz.prog (.ld ⟨x, 0, none⟩ .ptr K) L (own A (WL x q mq I g at_ s e f n sb rest) G) R := w_ld 0 (x := aI I) E.aw E.ok rfl rfl rfl hk
theorem ck_ar (E : LW I G g m at_ x q mq s sb n ex A S l f e rest) {t : Tree} (hk : wp Tryz.prog t L (own A (WL x q mq I g at_ s e f n sb rest) G) R) :
    wp Tryz.prog (.check (ldS ⟨x, 0, none⟩) (.pointer (aI I)) t) L (own A (WL x q mq I g at_ s e f n sb rest) G) R := w_ck 0 E.aw E.ok rfl rfl rfl hk
theorem ck_gd (E : LW I G g m at_ x q mq s sb n ex A S l f e rest) {t : Tree} (hk : wp Tryz.prog t L (own A (WL x q mq I g at_ s e f n sb rest) G) R) :
    wp Tryz.prog (.check (ldS (Addr.add ⟨x, 0, none⟩ 1)) (.pointer (some ⟨q, 0, none⟩)) t) L (own A (WL x q mq I g at_ s e f n sb rest) G) R := w_ck 0 E.aw E.ok rfl rfl rfl hk
theorem ck_at (E : LW I G g m at_ x q mq s sb n ex A S l f e rest) {t : Tree} (hk : wp Tryz.prog t L (own A (WL x q mq I g at_ s e f n sb rest) G) R) :
    wp Tryz.prog (.check (ldS (Addr.add ⟨x, 0, none⟩ 7)) (.int .i64 at_) t) L (own A (WL x q mq I g at_ s e f n sb rest) G) R := w_ck 0 E.aw E.ok rfl rfl rfl hk
theorem w_ow (E : LW I G g m at_ x q mq s sb n ex A S l f e rest) (hw : w < n) {u : TypeId} {K : Option Addr → Tree} (hk : wp Tryz.prog (K (some ⟨(f w).ob, 0, none⟩)) L (own A (WL x q mq I g at_ s e f n sb rest) G) R) :
    wp Tryz.prog (.ld (Addr.add ⟨x, 0, none⟩ 8) .slice fun z => .look (opS Tryz.prog (.indexAddr ty_s_p_deque_Own (.tmp 0) (.tmp 1)) u [.slice z.a z.len z.cap, .int .i64 (w : Int)]) (.one (.leaf .addr)) fun y => .ld y .ptr K) L (own A (WL x q mq I g at_ s e f n sb rest) G) R :=
  w_ld 0 (x := s) E.aw E.ok rfl rfl rfl (w_rdOw E.aw E.ok (E.hs.mono fun p hp => WL_mem hp) (obs_get hw) hk)
theorem w_ow0 (E : LW I G g m at_ x q mq s sb n ex A S l f e rest) (hw : 0 < n) {u : TypeId} {K : Option Addr → Tree} (hk : wp Tryz.prog (K (some ⟨(f 0).ob, 0, none⟩)) L (own A (WL x q mq I g at_ s e f n sb rest) G) R) :
    wp Tryz.prog (.ld (Addr.add ⟨x, 0, none⟩ 8) .slice fun z => .look (opS Tryz.prog (.indexAddr ty_s_p_deque_Own (.tmp 0) (.const (.int .i64 0))) u [.slice z.a z.len z.cap]) (.one (.leaf .addr)) fun y => .ld y .ptr K) L (own A (WL x q mq I g at_ s e f n sb rest) G) R := by
  simp only [opS_ix0]
  exact w_ow E hw hk
theorem LW.size (E : LW I G g m at_ x q mq s sb n ex A S l f e rest) (hw : w < n) (hu : A.uses ≤ 600000) {K : Int → Tree} (hk : LW I G g m at_ x q mq s sb n ex (A.later 2) S l f e rest → wp Tryz.prog (K ((f w).xs.length : Int)) L (own (A.later 2) (WL x q mq I g at_ s e f n sb rest) G) R) :
    wp Tryz.prog (.call f_deque_Own_Size [.pointer (some ⟨(f w).ob, 0, none⟩), .pointer (aI I)] (.one (.leaf (.int .i64))) K) L (own A (WL x q mq I g at_ s e f n sb rest) G) R :=
  w_size17 E.di hw (by omega) E.aw E.ok fun _ _ => hk (E.later (by decide))
end
end
end Go.Proofs.YtjnacjniiogjcaaGreat

set_option maxRecDepth 20000
namespace Go.Proofs.YtjnacjniiogjcaaGreat
open Go Go.Fw

section
variable {L : Hands} {R : Value → Heap → Prop} {G : Heap} {l rest : Bl}

theorem p_newM {k : Option Nat → Tree} (ok : Ok0 G (keys l)) (h : ∀ b, Ok0 G (keys ((b, .map #[] 0) :: l)) → wp Tryz.prog (k (some b)) L (putL ((b, .map #[] 0) :: l) G) R) : wp Tryz.prog (.newM k) L (putL l G) R :=
  wp_newM fun b hb => h b (p_new ok hb _)
theorem p_ckA (i : Nat) {a : Addr} {b n : Nat} {T : TypeId} {c : List Value} {v : Value} {t : Tree} (ok : Ok0 G (keys l)) (ha : a = ⟨b, 0, none⟩) (hi : l[i]? = some (b, oc T c)) (hn : n = c.length) (hv : v = .agg c.toArray) (h : wp Tryz.prog t L (putL l G) R) :
    wp Tryz.prog (.check (ldAS a n 0 #[]) v t) L (putL l G) R := by
  subst ha; subst hn; subst hv
  refine ⟨?_, h⟩
  rw [ldAS_eq]
  refine ldK_still (putL_get G ok.nd hi) _ 0 #[] (by simp) ?_
  show (Value.agg (#[] ++ c.toArray.extract 0 (0 + 0 + c.length)) : Value) = _
  simp

theorem p_GNew {w n th : Int} {ep : Bool} {p : Pl} {K : Option Addr → Tree} (b : 0 ≤ w ∧ w ≤ 100000) (ok : Ok0 G (keys l))
    (h : ∀ q mq z, Ok0 G (keys (Gd.bl ⟨ep, w, n, p, imax 1 (imin th 64)⟩ q mq [] ++ (z, oc ty_free_Place (plCells p)) :: l)) → wp Tryz.prog (K (some ⟨q, 0, none⟩)) L (putL (Gd.bl ⟨ep, w, n, p, imax 1 (imin th 64)⟩ q mq [] ++ (z, oc ty_free_Place (plCells p)) :: l) G) R) :
    wp Tryz.prog (.call f_guard_New [.int .i64 w, .int .i64 n, .bool ep, .int .i64 th, p.val] (.one (.leaf .ptr)) K) L (putL l G) R := by
  refine wp_call_of (R0 := fun v H => ∃ q mq z, v = .pointer (some ⟨q, 0, none⟩) ∧ H = putL (Gd.bl ⟨ep, w, n, p, imax 1 (imin th 64)⟩ q mq [] ++ (z, oc ty_free_Place (plCells p)) :: l) G ∧ Ok0 G (keys (Gd.bl ⟨ep, w, n, p, imax 1 (imin th 64)⟩ q mq [] ++ (z, oc ty_free_Place (plCells p)) :: l))) ?_ ?_
  · refine t_guard_New_spec (p0 := w) (p1 := n) (p2 := ep) (p3 := th) (p4_0 := p.work) (p4_1 := p.heads) (p4_2 := p.links) (p4_3 := p.gens) (p4_4 := p.carved) fun L => ?_
    unfold t_guard_New
    refine p_newP (c := plCells p) ok fun x9 ok1 => ?_
    refine p_ldA 0 ok1 rfl rfl rfl ?_
    refine ⟨?_, ?_⟩
    · refine wp_call_det (x := (⟨bif ep then ty_guard_epochs else ty_guard_hazards, .agg #[.int .i64 w, .int .i64 n]⟩ : Ifv)) (of_det ep b _) ?_
      refine p_ckA 0 ok1 rfl rfl rfl rfl ?_
      refine p_newM ok1 fun x19 ok2 => ?_
      refine p_ckA 1 ok2 rfl rfl rfl rfl ?_
      refine p_newP (c := Gd.cells ⟨ep, w, n, p, imax 1 (imin th 64)⟩ x19) ok2 fun x21 ok3 => ?_
      exact wp_ret_of ⟨x21, x19, x9, rfl, rfl, ok3⟩
    · refine p_newM ok1 fun x19 ok2 => ?_
      refine p_ckA 1 ok2 rfl rfl rfl rfl ?_
      refine wp_call_det (x := (⟨bif ep then ty_guard_epochs else ty_guard_hazards, .agg #[.int .i64 w, .int .i64 n]⟩ : Ifv)) (of_det ep b _) ?_
      refine p_ckA 1 ok2 rfl rfl rfl rfl ?_
      refine p_newP (c := Gd.cells ⟨ep, w, n, p, imax 1 (imin th 64)⟩ x19) ok2 fun x21 ok3 => ?_
      exact wp_ret_of ⟨x21, x19, x9, rfl, rfl, ok3⟩
  · rintro v H ⟨q, mq, z, rfl, rfl, o⟩
    exact ⟨_, rfl, h q mq z o⟩
end

def gdW (ep : Bool) (w m : Int) : Gd := ⟨ep, w, 4 * w + 2 * ((m + 7) / 8) + 1, plOf w m, imax 1 (imin 2 64)⟩
def atW (ep : Bool) (w m : Int) : Int := 4 * w + 2 * ((m + 7) / 8) + 1 + gwords ep w

theorem gi_made {A : Ar} {w m : Int} {ep : Bool} {r : Nat} (hm : A.made r m.toNat false) (hA : A.wf) (wb : 1 ≤ w ∧ w ≤ 9) (mb : 0 ≤ m ∧ m ≤ 1000) (hr : atW ep w m ≤ r) (hr2 : r ≤ 100000) : GI A (gdW ep w m) m S0g fun _ => [] := by
  have gw : 0 ≤ gwords ep w ∧ gwords ep w ≤ 100 := by unfold gwords; cases ep <;> simp <;> omega
  unfold atW at hr
  have rl : A.raw.length = r := by rw [hm.raw, List.length_replicate]
  have r0 : ∀ i, A.rawF i = 0 := fun i => by
    unfold Ar.rawF
    split
    · rename_i h; rw [hm.raw, List.getD_eq_getElem?_getD, List.getElem?_replicate]; split <;> rfl
    · rfl
  have car : (plOf w m).carved = 4 * w + 2 * ((m + 7) / 8) := rfl
  refine ⟨hA, SL.made hm (by rw [car]; omega) ⟨wb.1, by omega⟩ ⟨by omega, by omega⟩, hm.fault, ?_, ⟨wb.1, by show w ≤ 100; omega⟩, ?_, by omega, fun _ _ h => (by cases h), fun _ => .nil, fun _ _ _ _ h => (by cases h), fun _ h => (h rfl).elim, ?_, by rw [hm.nL]; exact Int.le_refl 0, by rw [hm.nL, hm.nR, hm.uses]; decide, fun _ _ _ h => (by cases h), fun _ => ?_, fun _ _ _ h => (by cases h)⟩
  · show 4 * w + 2 * ((m + 7) / 8) < 4 * w + 2 * ((m + 7) / 8) + 1; omega
  · show 4 * w + 2 * ((m + 7) / 8) + 1 + gwords ep w ≤ _; omega
  · rw [hm.nR]
    have : ∀ n, totR (fun _ => []) n = 0 := fun n => by
      induction n with
      | zero => rfl
      | succ n ih => show totR (fun _ => []) n + 0 = 0; omega
    exact (this _).symm
  · rw [r0, hm.uses]; exact ⟨Int.le_refl 0, Int.le_refl 0⟩

theorem dm_made {A : Ar} {w m : Int} {ep : Bool} {r : Nat} (hm : A.made r m.toNat false) (hA : A.wf) (wb : 1 ≤ w ∧ w ≤ 9) (mb : 0 ≤ m ∧ m ≤ 1000) (hr : atW ep w m + 3 * w = r) (f : Nat → Dq) : DM A (gdW ep w m) m S0g (atW ep w m) 0 0 f := by
  have gw : 0 ≤ gwords ep w ∧ gwords ep w ≤ 100 := by unfold gwords; cases ep <;> simp <;> omega
  have ea : atW ep w m = 4 * w + 2 * ((m + 7) / 8) + 1 + gwords ep w := rfl
  have rl : A.raw.length = r := by rw [hm.raw, List.length_replicate]
  have r0 : ∀ i, A.rawF i = 0 := fun i => by
    unfold Ar.rawF
    split
    · rename_i h; rw [hm.raw, List.getD_eq_getElem?_getD, List.getElem?_replicate]; split <;> rfl
    · rfl
  refine ⟨⟨gi_made hm hA wb mb (by omega) (by omega), ⟨?_, ?_⟩, by show ((0 : Nat) : Int) ≤ w; omega, fun i h => (by cases h), fun i h => (by cases h), fun i h => (by cases h), fun i h => (by cases h), fun i _ h => (by cases h), by rw [hm.nL]; rfl, Int.le_refl 0, fun i h => (by cases h), fun i h => (by cases h), Int.le_refl 0⟩, fun _ => rfl, rfl, fun i _ => r0 i, fun i h => (by cases h), by rw [hm.uses]; decide⟩
  · show 4 * w + 2 * ((m + 7) / 8) + 1 + gwords ep w ≤ _; omega
  · show atW ep w m + 3 * w ≤ _; omega

section
variable {L : Hands} {R : Value → Heap → Prop} {H : Heap}
structure MkI (I : List Nat) (A : Ar) (H : Heap) (ep : Bool) (w m : Int) (x q mq : Nat) (n : Nat) (S : Sg) (f : Nat → Dq) (s : Sl) (sb rest : Bl) : Prop where
  aw : Aw I A
  ok : Ok I H (keys (WL x q mq I (gdW ep w m) (atW ep w m) s [] f n sb rest))
  dm : DM A (gdW ep w m) m S (atW ep w m) n 0 f
  hs : SlOf sb ty_p_deque_Own eP s (obs f n)

theorem obs_succ (f : Nat → Dq) (n : Nat) (y : Dq) : obs (updF f n y) (n + 1) = obs f n ++ [y.ob] := by
  unfold obs arrC
  rw [List.range_succ, List.map_append]
  congr 1
  · refine List.map_congr_left fun i hi => ?_
    rw [updF_ne f y (by have := List.mem_range.1 hi; omega)]
  · show [(updF f n y n).ob] = _; rw [updF_same]
theorem famB_of {β : Type} {f h : Nat → List β} : ∀ {n : Nat}, (∀ i, i < n → f i = h i) → famB f n = famB h n
  | 0, _ => rfl
  | n + 1, e => by show famB f n ++ f n = famB h n ++ h n; rw [famB_of (n := n) fun i hi => e i (by omega), e n (by omega)]
theorem famB_succ_upd (q : Nat) (f : Nat → Dq) (n : Nat) (y : Dq) : famB (fun i => (updF f n y i).bl q) (n + 1) = famB (fun i => (f i).bl q) n ++ y.bl q := by
  show famB _ n ++ (updF f n y n).bl q = _
  rw [updF_same, famB_of (h := fun i => (f i).bl q) fun i hi => by show (updF f n y i).bl q = _; rw [updF_ne f y (by omega)]]

theorem w_slot17 {G : Heap} {I : List Nat} {A C : Ar} {g : Gd} {at_ : Int} {x q mq n N : Nat} {s : Sl} {e : List LE} {f : Nat → Dq} {sb rest : Bl} {i : Int} {xa : Al} {K : Int → Tree} (hA : Aw I A) (ok : Ok I G (keys (WL x q mq I g at_ s e f n sb rest))) (r : mAl.Runs N (newAl g.pl i 0) A xa C) (hN : N ≤ 4000)
    (hk : ∀ gar, Aw I C → Ok I G (keys (WL x q mq I g at_ s e f n sb (gar ++ rest))) → wp Tryz.prog (K xa.h) L (own C (WL x q mq I g at_ s e f n sb (gar ++ rest)) G) R) :
    wp Tryz.prog (.call f_magpielaw17_W_slot [.pointer (some ⟨x, 0, none⟩), .int .i64 i] (.one (.leaf (.int .i64))) K) L (own A (WL x q mq I g at_ s e f n sb rest) G) R := by
  refine wp_call_of (R0 := fun v H => ∃ gar, v = .int .i64 xa.h ∧ H = own C (WL x q mq I g at_ s e f n sb (gar ++ rest)) G ∧ Aw I C ∧ Ok I G (keys (WL x q mq I g at_ s e f n sb (gar ++ rest)))) ?_ ?_
  rotate_left
  · rintro v H ⟨gar, rfl, rfl, a, o⟩
    exact ⟨_, rfl, hk gar a o⟩
  refine t_magpielaw17_W_slot_spec fun L => ?_
  unfold t_magpielaw17_W_slot
  refine wp_nil.2 (w_ldA (x := (g.pl.work, g.pl.heads, g.pl.links, g.pl.gens, g.pl.carved, ())) 0 hA ok rfl rfl rfl ?_)
  refine w_NewAlloc (p := g.pl) hA ok (show sizeF 0 ≠ 0 by decide) fun j okj => ?_
  refine look_val (x := false) (ea_some _) (wp_false rfl ?_)
  have mW : ∀ {hb : Bl}, (x, oc ty_magpielaw17_W (wC I q g.pl at_ s)) ∈ hb ++ WL x q mq I g at_ s e f n sb rest := fun {hb} => List.mem_append_right _ List.mem_cons_self
  refine wp_nil.2 (w_ldm (x := aI I) hA okj rfl mW rfl ?_)
  refine w_runR17 (X := mAl.toR) (Mch.toR_ok mAl_ok) mAl_inv (Mch.toR_runs r) hN (j := j) hA okj trivial fun j' ha hC ok2 _ => ?_
  refine wp_false rfl ?_
  obtain ⟨aq, aq0, aq1⟩ := j'
  have ha : aq = j.1 := ha
  subst ha
  refine w_Handle 0 (x := xa) hC ok2 rfl ?_
  have ok2 : Ok I G (keys (xa.bl (j.1, aq0, aq1) ++ WL x q mq I g at_ s e f n sb rest)) := ok2
  show wp Tryz.prog _ _ (own C (xa.bl (j.1, aq0, aq1) ++ WL x q mq I g at_ s e f n sb rest) G) _
  obtain ⟨p, o⟩ := WL_in (A := C) _ ok2
  rw [p]
  exact wp_ret_of ⟨_, rfl, rfl, hC, o⟩

set_option maxHeartbeats 1000000 in
theorem make17_spec (ep : Bool) (W : Nat) (m : Int) (wb : 1 ≤ W ∧ W ≤ 5) (mb : 8 * (W : Int) ≤ m ∧ m ≤ 700) (H : Heap) : SpecF Tryz.prog f_magpielaw17_Make #[.int .i64 (W : Int), .int .i64 m, .bool ep] H fun v K => ∃ (A : Ar) (x q mq : Nat) (S : Sg) (f : Nat → Dq) (s : Sl) (sb rest : Bl), v = .pointer (some ⟨x, 0, none⟩) ∧
    K = own A (WL x q mq A.ids (gdW ep W m) (atW ep W m) s [] f W sb rest) H ∧ (∀ y ∈ A.ids, H y = none) ∧ MkI A.ids A H ep W m x q mq W S f s sb rest := by
  refine t_magpielaw17_Make_spec fun L => ?_
  unfold t_magpielaw17_Make
  have ok0 : Ok0 H (keys []) := ⟨.nil, fun b h => (by cases h)⟩
  refine w_Raw5 ⟨by omega, by omega⟩ ⟨by omega, by omega⟩ ?_
  refine p_newP (l := []) (c := plCells ⟨0, 0, 0, 0, 0⟩) ok0 fun x7 ok0 => ?_
  refine p_stA 0 ok0 rfl rfl rfl rfl ?_
  dsimp only
  refine wp_call_det (x := gwords ep W) (GRaw_det ep ⟨by omega, by omega⟩ _) ?_
  have gw : 0 ≤ gwords ep W ∧ gwords ep W ≤ 100 := by unfold gwords; cases ep <;> simp <;> omega
  have ok0 : Ok0 H (keys [(x7, oc ty_free_Place (plCells (plOf W m)))]) := ok0
  refine p_ldA (l := [(x7, oc ty_free_Place (plCells (plOf W m)))]) (x := (W, 0, 4 * W, 4 * W + (m + 7) / 8, 4 * W + 2 * ((m + 7) / 8), ())) 0 ok0 rfl rfl rfl ?_
  refine p_ldA (x := (W, 0, 4 * W, 4 * W + (m + 7) / 8, 4 * W + 2 * ((m + 7) / 8), ())) 0 ok0 rfl rfl rfl ?_
  have ea : atW ep W m = 4 * (W : Int) + 2 * ((m + 7) / 8) + 1 + gwords ep W := rfl
  have en : w64 (4 * (W : Int) + 2 * ((m + 7) / 8) + 1 + gwords ep W) = atW ep W m := by rw [w64_in (by omega) (by omega)]; rfl
  have en2 : w64 (atW ep W m + 3 * W) = atW ep W m + 3 * W := w64_in (by omega) (by omega)
  rw [en]
  refine p_GNew (w := W) (n := 4 * (W : Int) + 2 * ((m + 7) / 8) + 1) (th := 2) (ep := ep) (p := plOf W m) ⟨by omega, by omega⟩ ok0 fun q mq z ok1 => ?_
  refine p_ckA (b := x7) (c := plCells (plOf W m)) 3 ok1 rfl rfl rfl rfl ?_
  refine p_newP (c := [.pointer none, .pointer (some ⟨q, 0, none⟩), .int .i64 (W : Int), .int .i64 0, .int .i64 (4 * (W : Int)), .int .i64 (4 * (W : Int) + (m + 7) / 8), .int .i64 (4 * (W : Int) + 2 * ((m + 7) / 8)), .int .i64 (atW ep W m), .slice none 0 0]) ok1 fun x ok2 => ?_
  refine wp_qcall_det (x := 3 * (W : Int)) (DRaw_det _ _ ⟨by omega, by omega⟩ _) ?_
  rw [en2]
  refine w_New ok2 ⟨by omega, by omega⟩ ⟨by omega, by omega⟩ fun A hm hA hI ok => ?_
  refine wp_nil.2 (w_st 0 hA ok rfl rfl rfl rfl ?_)
  have ok : Ok A.ids H (keys (WL x q mq A.ids (gdW ep W m) (atW ep W m) ⟨none, 0, 0⟩ [] (fun _ => ⟨⟨0, 0, 0, 0, plOf W m⟩, 0, [], 0⟩) 0 [] [(z, oc ty_free_Place (plCells (plOf W m))), (x7, oc ty_free_Place (plCells (plOf W m)))])) := ok
  show wp Tryz.prog _ L (own A (WL x q mq A.ids (gdW ep W m) (atW ep W m) ⟨none, 0, 0⟩ [] (fun _ => ⟨⟨0, 0, 0, 0, plOf W m⟩, 0, [], 0⟩) 0 [] [(z, oc ty_free_Place (plCells (plOf W m))), (x7, oc ty_free_Place (plCells (plOf W m)))]) H) _
  refine wp_nil.2 (w_ld 0 (x := aI A.ids) hA ok rfl rfl rfl ?_)
  refine look_val (x := false) (np_some _) (wp_false rfl ?_)
  refine wp_nil.2 (w_ld 0 (x := some ⟨q, 0, none⟩) hA ok rfl rfl rfl ?_)
  refine look_val (x := false) (npGd _) (wp_false rfl ?_)
  have M0 : MkI A.ids A H ep W m x q mq 0 S0g (fun _ => ⟨⟨0, 0, 0, 0, plOf W m⟩, 0, [], 0⟩) ⟨none, 0, 0⟩ [] [(z, oc ty_free_Place (plCells (plOf W m))), (x7, oc ty_free_Place (plCells (plOf W m)))] :=
    ⟨hA, ok, dm_made hm hA.wf ⟨by omega, by omega⟩ ⟨by omega, by omega⟩ (by show _ = (((atW ep W m + 3 * W).toNat : Nat) : Int); omega) _, .nil _ _ _⟩
  have hpl : (x7, oc ty_free_Place (plCells (plOf W m))) ∈ [(z, oc ty_free_Place (plCells (plOf W m))), (x7, oc ty_free_Place (plCells (plOf W m)))] := by simp
  have loop : ∀ (d i : Nat), i + d = W → ∀ (B : Ar) (S : Sg) (f : Nat → Dq) (s : Sl) (sb rest : Bl) (y : Option Addr), B.ids = A.ids → MkI A.ids B H ep W m x q mq i S f s sb rest → (x7, oc ty_free_Place (plCells (plOf W m))) ∈ rest →
      wp Tryz.prog (.loop 512 t_magpielaw17_Make_L1_sh [.pointer y, .int .i64 (i : Int)] (t_magpielaw17_Make_L1 (W : Int) ⟨x7, 0, none⟩ ⟨x, 0, none⟩)) L (own B (WL x q mq A.ids (gdW ep W m) (atW ep W m) s [] f i sb rest) H) fun v K => ∃ (A : Ar) (x q mq : Nat) (S : Sg) (f : Nat → Dq) (s : Sl) (sb rest : Bl), v = .pointer (some ⟨x, 0, none⟩) ∧
        K = own A (WL x q mq A.ids (gdW ep W m) (atW ep W m) s [] f W sb rest) H ∧ (∀ y ∈ A.ids, H y = none) ∧ MkI A.ids A H ep W m x q mq W S f s sb rest := by
    intro d
    induction d with
    | zero =>
      intro i hi B S f s sb rest y hB M hpl
      refine wp_loop_unroll (y, (i : Int), ()) rfl ?_
      rw [t_magpielaw17_Make_L1]
      refine wp_false (decide_eq_false (show ¬ ((i : Int) < (W : Int)) by omega)) ?_
      have : i = W := by omega
      subst this
      refine wp_ret_of ⟨B, x, q, mq, S, f, s, sb, rest, rfl, by rw [hB], by rw [hB]; exact hI, by rw [hB]; exact M⟩
    | succ d ih =>
      intro i hi B S f s sb rest y hB M hpl
      refine wp_loop_unroll (y, (i : Int), ()) rfl ?_
      rw [t_magpielaw17_Make_L1]
      refine wp_true (decide_eq_true (show (i : Int) < (W : Int) by omega)) ?_
      have hA := M.aw
      have ok := M.ok
      have wbw : (gdW ep W m).w = (W : Int) := rfl
      obtain ⟨N, xa, C, S', Bn⟩ := M.dm.born (by rw [wbw]; omega) (by omega)
      refine w_slot17 hA ok Bn.run Bn.hn fun gar0 hC ok2 => ?_
      refine wp_false (ibef Bn.hx) ?_
      have mW : (x, oc ty_magpielaw17_W (wC A.ids q (gdW ep W m).pl (atW ep W m) s)) ∈ WL x q mq A.ids (gdW ep W m) (atW ep W m) s [] f i sb (gar0 ++ rest) := List.mem_cons_self
      have mpl : (x7, oc ty_free_Place (plCells (plOf W m))) ∈ WL x q mq A.ids (gdW ep W m) (atW ep W m) s [] f i sb (gar0 ++ rest) := WL_rest (List.mem_append_right _ hpl)
      refine wp_nil.2 (w_ldm (x := aI A.ids) hC ok2 rfl mW rfl ?_)
      refine wp_nil.2 (w_ldm (x := atW ep W m) hC ok2 rfl mW rfl ?_)
      obtain ⟨ip2, hip2⟩ := mem_idx mpl
      refine w_ldA (x := (W, 0, 4 * W, 4 * W + (m + 7) / 8, 4 * W + 2 * ((m + 7) / 8), ())) ip2 hC ok2 rfl hip2 rfl ?_
      refine wp_nil.2 (w_ldm (x := some ⟨q, 0, none⟩) hC ok2 rfl mW rfl ?_)
      refine w_NewOwn (q := q) (p := plOf W m) (at_ := atW ep W m) (work := (i : Int)) ⟨by omega, by omega⟩ ⟨by omega, by omega⟩ hC ok2 fun zo gar hD ok3 => ?_
      refine look_val (x := false) (npOw _) (wp_false rfl ?_)
      have M1 := Bn.dm zo
      have alD := Bn.al2
      obtain ⟨D, hDe⟩ : ∃ D, D = C.storeR (dw (atW ep W m) i 2) xa.h := ⟨_, rfl⟩
      rw [← hDe] at M1 alD
      have hD : Aw A.ids D := by rw [hDe]; exact hD
      show wp Tryz.prog _ _ (own (C.storeR (dw (atW ep W m) i 2) xa.h) ((zo, oc ty_deque_Own (owC ⟨atW ep W m, i, 0, xa.h, plOf W m⟩ q)) :: (gar ++ WL x q mq A.ids (gdW ep W m) (atW ep W m) s [] f i sb (gar0 ++ rest))) H) _
      rw [← hDe]
      obtain ⟨y, hy⟩ : ∃ y : Dq, y = ⟨⟨atW ep W m, i, 0, xa.h, plOf W m⟩, 0, [], zo⟩ := ⟨_, rfl⟩
      have M1 : DM D (gdW ep W m) m S' (atW ep W m) (i + 1) 0 (updF f i y) := by rw [hy]; exact M1
      have eo : (zo, oc ty_deque_Own (owC ⟨atW ep W m, i, 0, xa.h, plOf W m⟩ q)) = (y.ob, oc ty_deque_Own (owC y.o q)) := by rw [hy]
      have ok3 : Ok A.ids H (keys ((zo, oc ty_deque_Own (owC ⟨atW ep W m, i, 0, xa.h, plOf W m⟩ q)) :: (gar ++ WL x q mq A.ids (gdW ep W m) (atW ep W m) s [] f i sb (gar0 ++ rest)))) := ok3
      rw [eo] at ok3 ⊢
      have yz : y.ob = zo := by rw [hy]
      refine wp_nil.2 (w_ldm (x := s) (T := ty_magpielaw17_W) (c := wC A.ids q (gdW ep W m).pl (atW ep W m) s) hD ok3 rfl (List.mem_cons_of_mem _ (List.mem_append_right _ mW)) rfl ?_)
      obtain ⟨p1, ok4⟩ := own_perm (A := D) (l' := ((x, oc ty_magpielaw17_W (wC A.ids q (gdW ep W m).pl (atW ep W m) s)) :: ((y.ob, oc ty_deque_Own (owC y.o q)) :: (gar ++ ((gdW ep W m).bl q mq [] ++ (famB (fun i => (f i).bl q) i ++ (gar0 ++ rest)))))) ++ sb) ok3 (perm_by fun c d c0 cd ca => by
        show c (_ :: (gar ++ ((x, oc ty_magpielaw17_W (wC A.ids q (gdW ep W m).pl (atW ep W m) s)) :: ((gdW ep W m).bl q mq [] ++ (famB (fun i => (f i).bl q) i ++ (sb ++ (gar0 ++ rest))))))) = _
        simp only [List.cons_append, List.append_assoc, cd, ca]; omega)
      rw [p1, ← yz]
      refine w_app1P (z := y.ob) hD ok4 M.hs ?_ fun s' tl' hs' ok5 => ?_
      · show (arrC i _).length ≤ _; rw [arrC_len]; omega
      refine wp_nil.2 (w_st 0 hD ok5 rfl rfl rfl rfl ?_)
      have ok5 : Ok A.ids H (keys (((x, oc ty_magpielaw17_W (wC A.ids q (gdW ep W m).pl (atW ep W m) s')) :: ((y.ob, oc ty_deque_Own (owC y.o q)) :: (gar ++ ((gdW ep W m).bl q mq [] ++ (famB (fun i => (f i).bl q) i ++ (gar0 ++ rest)))))) ++ tl')) := ok5
      show wp Tryz.prog _ _ (own D (((x, oc ty_magpielaw17_W (wC A.ids q (gdW ep W m).pl (atW ep W m) s')) :: ((y.ob, oc ty_deque_Own (owC y.o q)) :: (gar ++ ((gdW ep W m).bl q mq [] ++ (famB (fun i => (f i).bl q) i ++ (gar0 ++ rest)))))) ++ tl') H) _
      obtain ⟨p2, ok6⟩ := own_perm (A := D) (l' := WL x q mq A.ids (gdW ep W m) (atW ep W m) s' [] (updF f i y) (i + 1) tl' (gar ++ (gar0 ++ rest))) ok5 (perm_by fun c d c0 cd ca => by
        show _ = c ((x, oc ty_magpielaw17_W (wC A.ids q (gdW ep W m).pl (atW ep W m) s')) :: ((gdW ep W m).bl q mq [] ++ (famB (fun k => (updF f i y k).bl q) (i + 1) ++ (tl' ++ _))))
        have hb : c (y.bl q) = d (y.ob, oc ty_deque_Own (owC y.o q)) := by show c (_ :: []) = _; rw [cd, c0]; rfl
        rw [famB_succ_upd]
        simp only [List.cons_append, List.append_assoc, cd, ca, hb]; omega)
      rw [p2]
      refine wp_again ?_
      have en1 : w64 ((i : Int) + 1) = ((i + 1 : Nat) : Int) := by rw [w64_in (by omega) (by omega)]; omega
      show wp Tryz.prog (.loop 512 t_magpielaw17_Make_L1_sh [.pointer _, .int .i64 (w64 ((i : Int) + 1))] _) L _ _
      rw [en1]
      exact ih (i + 1) (by omega) D S' (updF f i y) s' tl' _ _ (by rw [alD.ids, hB]) ⟨hD, ok6, M1, by rw [obs_succ]; exact hs'⟩ (List.mem_append_right _ (List.mem_append_right _ hpl))
  exact loop W 0 (by omega) A S0g _ _ _ _ _ rfl M0 hpl
end
end Go.Proofs.YtjnacjniiogjcaaGreat

set_option maxRecDepth 20000
namespace Go.Proofs.YtjnacjniiogjcaaGreat
open Go Go.Fw

section
variable {I : List Nat} {A : Ar} {x q mq n : Nat} {S : Sg} {f : Nat → Dq} {s : Sl} {sb rest : Bl}
theorem MkI.lw {ep : Bool} {W m : Int} {H : Heap} (M : MkI I A H ep W m x q mq n S f s sb rest) : LW I H (gdW ep W m) m (atW ep W m) x q mq s sb n 0 A S (fun _ => []) f [] rest := ⟨M.aw, M.ok, gd0, M.dm.di, M.hs⟩
end
theorem th1 (ep : Bool) (w m : Int) : 1 ≤ (gdW ep w m).th := by show 1 ≤ imax 1 (imin 2 64); decide

set_option maxHeartbeats 1000000 in
theorem awake17_det (H : Heap) : Det Tryz.prog f_magpielaw17_awake [] H (.bool true) H := by
  refine t_magpielaw17_awake_spec fun L => ?_
  unfold t_magpielaw17_awake
  refine wp_call_of (make17_spec false 2 64 (by decide) (by decide) H) ?_
  rintro v K ⟨A, x, q, mq, S, f, s, sb, rest, rfl, rfl, hI, M⟩
  refine ⟨some ⟨x, 0, none⟩, rfl, ?_⟩
  refine look_val (x := false) (npW17 _) (wp_false rfl ?_)
  have E := M.lw
  have us := M.dm.us
  obtain ⟨m1, m2, m3, m4⟩ := M.dm.em 0 (by decide)
  have th := th1 false ((2 : Nat) : Int) 64
  generalize gdW false ((2 : Nat) : Int) 64 = g at *
  generalize atW false ((2 : Nat) : Int) 64 = at_ at *
  clear M
  refine wp_nil.2 (w_ar E ?_)
  refine wp_nil.2 (w_ow0 E (by decide) ?_)
  refine E.newPush (w := 0) (by decide) fun z E1 => ?_
  refine ck_ar E1 (w_ckn rfl ?_)
  refine E1.runPush (w := 0) (by decide) (by omega) th (fun N B S' l' o' al cp now e' fr P hW E2 => ?_) fun N B al e' fr P hW E2 => ?_
  rotate_left
  · have := P.full; rw [m1, m4] at this; cases this
  have pu := P.us
  refine wp_false rfl ?_
  refine wp_nil.2 (w_at E2 (wp_nil.2 (w_gd E2 ?_)))
  refine wp_nil.2 (w_at E2 (wp_nil.2 (w_gd E2 ?_)))
  refine E2.newSteal (wk := ((1 : Nat) : Int)) (vic := ((0 : Nat) : Int)) fun z1 s1 tl1 hs1 E3 => ?_
  refine ck_gd E3 (w_ckn rfl (ck_at E3 (w_ckn rfl ?_)))
  refine E3.newSteal (wk := ((1 : Nat) : Int)) (vic := ((0 : Nat) : Int)) fun z2 s2 tl2 hs2 E4 => ?_
  refine look_val (x := false) (npTs _) (wp_false rfl ?_)
  refine look_val (x := false) (npTs _) (wp_false rfl ?_)
  refine wp_nil.2 (w_ar E4 ?_)
  have E4' : LW A.ids H g 64 at_ x q mq s sb 2 0 B S' l' (updF f 0 ⟨o', (f 0).t, (f 0).xs ++ [77], (f 0).ob⟩) e' ((stB z2 q (newTs at_ ((1 : Nat) : Int) ((0 : Nat) : Int) 0 0) s2 .nilIface :: tl2) ++ (stB z1 q (newTs at_ ((1 : Nat) : Int) ((0 : Nat) : Int) 0 0) s1 .nilIface :: (tl1 ++ (fr ++ rest)))) := E4
  refine E4'.runSteal hs1 (by decide) (by decide) (by omega) (fun h => (by cases h)) fun N5 B5 y5 fr5 P5 st5 E5 => ?_
  have hk5 := P5.hk
  have hv5 := P5.hv
  have us5 := P5.ub
  rw [updF_same] at hk5 hv5
  have hk5 : y5.ok = true := hk5.trans (by show (((f 0).xs ++ [77] != []) && (decide ((0 : Int) ≤ 0) || _)) = true; rw [m1]; rfl)
  have hv5 : y5.v = 77 := (hv5 hk5).trans (by show ((f 0).xs ++ [77]).headD 0 = 77; rw [m1]; rfl)
  refine wp_false rfl ?_
  rw [hk5, if_pos rfl] at E5 ⊢
  refine wp_nil.2 (w_ar E5 ?_)
  refine E5.runSteal (pre := fr5) hs2 (by decide) (by decide) (by omega) (fun h => (by cases h)) fun N6 B6 y6 fr6 P6 st6 E6 => ?_
  have hk6 := P6.hk
  rw [updF_same, updF_same] at hk6
  have hk6 : y6.ok = false := hk6.trans (by show ((((f 0).xs ++ [77]).tail != []) && _) = false; rw [m1]; rfl)
  refine wp_false rfl ?_
  rw [hk6, if_neg (by decide)] at E6 ⊢
  refine E6.stealValue (st5.in fr6 _) P5.lv ?_
  refine E6.stealValue (st6.in [] _) P6.lv ?_
  rw [hk5, hk6]
  refine wp_true rfl (wp_true (ibeq hv5) ?_)
  exact ⟨H, own_end E6.aw E6.ok hI, rfl, rfl⟩
end Go.Proofs.YtjnacjniiogjcaaGreat

set_option maxRecDepth 20000
namespace Go.Proofs.YtjnacjniiogjcaaGreat
open Go Go.Fw

def rg (c : Int) (n : Nat) : List Int := (List.range n).map fun i => c + (i : Nat)
section
variable {A B : Ar} {g : Gd} {m : Int} {S : Sg} {l : Int → List (Int × Int)} {v at_ ex : Int} {q mq ob n N w : Nat} {f : Nat → Dq} {al : Option Al}
theorem sz2 {c : Int} (h0 : 0 ≤ c) (h3 : c < 3) : sizeF (c + 1) = 2 * sizeF c := by
  have : c = 0 ∨ c = 1 ∨ c = 2 := by omega
  rcases this with h | h | h <;> rw [h] <;> rfl
theorem PushN.not (P : PushN A g m S l at_ n ex f w v q mq ob N B al) (hl : ((f w).xs.length : Int) < 64) (hc : S.cv + 2 * sizeF (opC (f w).o.h) ≤ m) : False := by
  have oc := opC_nat (f w).o.h
  have fl := P.full
  rcases P.why with h | ⟨h, h2⟩
  · rw [h, show sizeF 3 = 64 from rfl] at fl; omega
  · rw [sz2 oc.1 h] at h2; omega
end

structure J1 (I : List Nat) (H : Heap) (g : Gd) (m at_ : Int) (x q mq : Nat) (s : Sl) (sb : Bl) (n : Nat) (ex : Int) (P : Ar → Sg → (Int → List (Int × Int)) → (Nat → Dq) → Prop) (A : Ar) (S : Sg) (l : Int → List (Int × Int)) (f : Nat → Dq) (e : List LE) (rest : Bl) (K : Heap) : Prop where
  lw : LW I H g m at_ x q mq s sb n ex A S l f e rest
  p : P A S l f
  k : K = own A (WL x q mq I g at_ s e f n sb rest) H
end Go.Proofs.YtjnacjniiogjcaaGreat

set_option maxRecDepth 20000
namespace Go.Proofs.YtjnacjniiogjcaaGreat
open Go Go.Fw

def mkGo (zs : List Int) : Nat → Nat → Int → Int
  | 0, _, k => k
  | n + 1, i, k => if i < zs.length then mkGo zs n (i + 1) (childF k (1 + zs.getD i 0 % 3)).1 else k
def mk1 (zs : List Int) : Int := mkGo zs 5 0 1125899906842624

theorem mk_go {L : Hands} {H : Heap} {s : Sl} {zs : List Int} (hz : RowOf H s.a s.len zs) (hl : s.len = zs.length) : ∀ (n i : Nat) (k : Int), i + n = 5 →
    wp Tryz.prog (.loop 192 t_magpielaw17_make1_L1_sh [.int .i64 k, .int .i64 (i : Int)] (t_magpielaw17_make1_L1 s)) L H fun v K => v = .int .i64 (mkGo zs n i k) ∧ K = H
  | 0, i, k, hi => by
    refine wp_loop_unroll (k, (i : Int), ()) rfl ?_
    rw [t_magpielaw17_make1_L1]
    by_cases h : (i : Int) < ((s.len : Nat) : Int)
    · refine wp_true (decide_eq_true h) ?_
      exact wp_false (decide_eq_false (show ¬ (i : Int) < 5 by omega)) (wp_ret_of ⟨rfl, rfl⟩)
    · exact wp_false (decide_eq_false h) (wp_ret_of ⟨rfl, rfl⟩)
  | n + 1, i, k, hi => by
    refine wp_loop_unroll (k, (i : Int), ()) rfl ?_
    rw [t_magpielaw17_make1_L1]
    unfold mkGo
    by_cases h : (i : Int) < ((s.len : Nat) : Int)
    · refine wp_true (decide_eq_true h) (wp_true (decide_eq_true (show (i : Int) < 5 by omega)) ?_)
      rw [if_pos (by omega)]
      refine wp_row hz (Heap.le_refl H) (show (0 : Int) ≤ (i : Int) by omega) h ?_
      refine w_Place (by decide) (by decide) ?_
      have m0 := Int.emod_nonneg (zs.getD (Int.toNat (i : Int)) 0) (b := 3) (by decide)
      have m1 := Int.emod_lt_of_pos (zs.getD (Int.toNat (i : Int)) 0) (b := 3) (by decide)
      refine wp_call_det (x := ((childF k (w64 (1 + zs.getD (Int.toNat (i : Int)) 0 % 3))).1, (childF k (w64 (1 + zs.getD (Int.toNat (i : Int)) 0 % 3))).2, ())) (Child_det _ _ _) ?_
      refine wp_again ?_
      have e1 : w64 ((i : Int) + 1) = ((i + 1 : Nat) : Int) := by rw [w64_in (by omega) (by omega)]; omega
      have e2 : w64 (1 + zs.getD (Int.toNat (i : Int)) 0 % 3) = 1 + zs.getD i 0 % 3 := by rw [w64_in (by omega) (by omega), Int.toNat_natCast]
      have := mk_go (L := L) hz hl n (i + 1) (childF k (1 + zs.getD i 0 % 3)).1 (by omega)
      show wp Tryz.prog (.loop 192 t_magpielaw17_make1_L1_sh [.int .i64 (childF k (w64 (1 + zs.getD (Int.toNat (i : Int)) 0 % 3))).1, .int .i64 (w64 ((i : Int) + 1))] (t_magpielaw17_make1_L1 s)) L H _
      rw [e1, e2]
      exact this
    · rw [if_neg (by omega)]
      exact wp_false (decide_eq_false h) (wp_ret_of ⟨rfl, rfl⟩)
theorem make1_det {s : Sl} {zs : List Int} {H : Heap} (hz : RowOf H s.a s.len zs) (hl : s.len = zs.length) : Det Tryz.prog f_magpielaw17_make1 [.slice s.a s.len s.cap] H (.int .i64 (mk1 zs)) H := by
  refine t_magpielaw17_make1_spec (p0 := s) fun L => ?_
  unfold t_magpielaw17_make1
  exact mk_go hz hl 5 0 _ rfl

theorem fdiv_eq (x : Int) {d : Int} (hd : 0 ≤ d) : x.fdiv d = x / d := Int.fdiv_eq_ediv_of_nonneg x hd
theorem shF_eq (x : Int) {p : Nat} (hp : p ≤ 64) : shF x p = x / 2 ^ p := by
  unfold shF
  rw [show min ((p : Nat) : Int).toNat 64 = p by omega]
  exact fdiv_eq x (Int.le_of_lt (Int.pow_pos (by decide)))
theorem digit_eq (k : Int) (d : Nat) (hd : d ≤ 4) : digitF k d = k / 2 ^ (10 * (4 - d)) % 1024 := by
  unfold digitF
  rw [placeF_eq (by omega), show (10 * (4 - (d : Int)) : Int) = ((10 * (4 - d) : Nat) : Int) by omega, shF_eq k (by omega)]
  exact iand_mask _ 10 (by decide)
structure Ky (k : Int) (n : Nat) (a b c d e : Int) : Prop where
  v : k = 1125899906842624 + a * 1099511627776 + b * 1073741824 + c * 1048576 + d * 1024 + e
  ra : if 0 < n then 1 ≤ a ∧ a ≤ 3 else a = 0
  rb : if 1 < n then 1 ≤ b ∧ b ≤ 3 else b = 0
  rc : if 2 < n then 1 ≤ c ∧ c ≤ 3 else c = 0
  rd : if 3 < n then 1 ≤ d ∧ d ≤ 3 else d = 0
  re : if 4 < n then 1 ≤ e ∧ e ≤ 3 else e = 0
theorem Ky.dg {k : Int} {n : Nat} {a b c d e : Int} (K : Ky k n a b c d e) : digitF k 0 = a ∧ digitF k 1 = b ∧ digitF k 2 = c ∧ digitF k 3 = d ∧ digitF k 4 = e ∧ shF k (placeF (-1)) = 1 := by
  obtain ⟨hv, ra, rb, rc, rd, re⟩ := K
  have ha : 0 ≤ a ∧ a ≤ 3 := by split at ra <;> omega
  have hb : 0 ≤ b ∧ b ≤ 3 := by split at rb <;> omega
  have hc : 0 ≤ c ∧ c ≤ 3 := by split at rc <;> omega
  have hd : 0 ≤ d ∧ d ≤ 3 := by split at rd <;> omega
  have he : 0 ≤ e ∧ e ≤ 3 := by split at re <;> omega
  clear ra rb rc rd re
  have e0 := digit_eq k 0 (by decide)
  have e1 := digit_eq k 1 (by decide)
  have e2 := digit_eq k 2 (by decide)
  have e3 := digit_eq k 3 (by decide)
  have e4 := digit_eq k 4 (by decide)
  have e5 := shF_eq k (p := 50) (by decide)
  refine ⟨e0.trans ?_, e1.trans ?_, e2.trans ?_, e3.trans ?_, e4.trans ?_, (show shF k (placeF (-1)) = shF k ((50 : Nat) : Int) from by rw [placeF_eq (by decide)]; rfl).trans (e5.trans ?_)⟩
  · show k / 1099511627776 % 1024 = a; omega
  · show k / 1073741824 % 1024 = b; omega
  · show k / 1048576 % 1024 = c; omega
  · show k / 1024 % 1024 = d; omega
  · show k / 1 % 1024 = e; omega
  · show k / 1125899906842624 = 1; omega
theorem Ky.chk {k : Int} {n : Nat} {a b c d e : Int} (K : Ky k n a b c d e) (hn : n ≤ 5) : checkF k = true ∧ depthF k = n := by
  obtain ⟨d0, d1, d2, d3, d4, d5⟩ := K.dg
  obtain ⟨hv, ra, rb, rc, rd, re⟩ := K
  have s0 : shF 1125899906842624 (placeF (-1)) = 1 := by decide
  have hc : checkF k = true := by
    unfold checkF
    simp only [chkGo]
    have t1 : (0 : Int) + 1 = 1 := rfl
    have t2 : (1 : Int) + 1 = 2 := rfl
    have t3 : (2 : Int) + 1 = 3 := rfl
    have t4 : (3 : Int) + 1 = 4 := rfl
    rw [t1, t2, t3, t4, d0, d1, d2, d3, d4, d5, s0]
    have hn6 : n = 0 ∨ n = 1 ∨ n = 2 ∨ n = 3 ∨ n = 4 ∨ n = 5 := by omega
    have ha : 0 ≤ a ∧ a ≤ 3 := by split at ra <;> omega
    have hb : 0 ≤ b ∧ b ≤ 3 := by split at rb <;> omega
    have hc : 0 ≤ c ∧ c ≤ 3 := by split at rc <;> omega
    have hd : 0 ≤ d ∧ d ≤ 3 := by split at rd <;> omega
    have he : 0 ≤ e ∧ e ≤ 3 := by split at re <;> omega
    have z1 : a = 0 → b = 0 := by intro h; split at ra <;> split at rb <;> omega
    have z2 : b = 0 → c = 0 := by intro h; split at rb <;> split at rc <;> omega
    have z3 : c = 0 → d = 0 := by intro h; split at rc <;> split at rd <;> omega
    have z4 : d = 0 → e = 0 := by intro h; split at rd <;> split at re <;> omega
    rw [if_neg (by omega), if_neg (fun h => (by cases h.1)), if_neg (by omega), if_neg (fun h => (by have := z1 (by simpa using h.1); omega)), if_neg (by omega), if_neg (fun h => (by have := z2 (by simpa using h.1); omega)), if_neg (by omega), if_neg (fun h => (by have := z3 (by simpa using h.1); omega)), if_neg (by omega), if_neg (fun h => (by have := z4 (by simpa using h.1); omega))]
    rfl
  refine ⟨hc, ?_⟩
  unfold depthF
  rw [if_pos hc]
  simp only [dpGo]
  have t1 : (0 : Int) + 1 = 1 := rfl
  have t2 : (1 : Int) + 1 = 2 := rfl
  have t3 : (2 : Int) + 1 = 3 := rfl
  have t4 : (3 : Int) + 1 = 4 := rfl
  rw [t1, t2, t3, t4, d0, d1, d2, d3, d4]
  have hn6 : n = 0 ∨ n = 1 ∨ n = 2 ∨ n = 3 ∨ n = 4 ∨ n = 5 := by omega
  rcases hn6 with rfl | rfl | rfl | rfl | rfl | rfl <;> simp at ra rb rc rd re <;> (repeat' split) <;> omega
theorem Ky.child {k : Int} {n : Nat} {a b c d e x : Int} (K : Ky k n a b c d e) (hn : n < 5) (hx : 1 ≤ x ∧ x ≤ 3) : ∃ a b c d e, Ky (childF k x).1 (n + 1) a b c d e := by
  obtain ⟨c0, c1⟩ := K.chk (by omega)
  obtain ⟨hv, ra, rb, rc, rd, re⟩ := K
  unfold childF
  rw [if_pos c0, c1, if_neg (by omega), if_neg (by omega), if_neg (by omega), placeF_eq (by omega)]
  have hn5 : n = 0 ∨ n = 1 ∨ n = 2 ∨ n = 3 ∨ n = 4 := by omega
  rcases hn5 with rfl | rfl | rfl | rfl | rfl <;> simp at ra rb rc rd re
  · refine ⟨x, b, c, d, e, ?_, by simpa using hx, by simpa using rb, by simpa using rc, by simpa using rd, by simpa using re⟩
    show w64 (k + w64 (x * 1099511627776)) = _
    rw [w64_in (x := x * 1099511627776) (by omega) (by omega), w64_in (by omega) (by omega)]; omega
  · refine ⟨a, x, c, d, e, ?_, by simpa using ra, by simpa using hx, by simpa using rc, by simpa using rd, by simpa using re⟩
    show w64 (k + w64 (x * 1073741824)) = _
    rw [w64_in (x := x * 1073741824) (by omega) (by omega), w64_in (by omega) (by omega)]; omega
  · refine ⟨a, b, x, d, e, ?_, by simpa using ra, by simpa using rb, by simpa using hx, by simpa using rd, by simpa using re⟩
    show w64 (k + w64 (x * 1048576)) = _
    rw [w64_in (x := x * 1048576) (by omega) (by omega), w64_in (by omega) (by omega)]; omega
  · refine ⟨a, b, c, x, e, ?_, by simpa using ra, by simpa using rb, by simpa using rc, by simpa using hx, by simpa using re⟩
    show w64 (k + w64 (x * 1024)) = _
    rw [w64_in (x := x * 1024) (by omega) (by omega), w64_in (by omega) (by omega)]; omega
  · refine ⟨a, b, c, d, x, ?_, by simpa using ra, by simpa using rb, by simpa using rc, by simpa using rd, by simpa using hx⟩
    show w64 (k + w64 (x * 1)) = _
    rw [w64_in (x := x * 1) (by omega) (by omega), w64_in (by omega) (by omega)]; omega
theorem mkGo_ky (zs : List Int) : ∀ (n i : Nat) (k : Int), i + n = 5 → (∃ a b c d e, Ky k i a b c d e) → ∃ j a b c d e, j ≤ 5 ∧ Ky (mkGo zs n i k) j a b c d e
  | 0, i, k, hi, ⟨a, b, c, d, e, K⟩ => ⟨i, a, b, c, d, e, by omega, K⟩
  | n + 1, i, k, hi, ⟨a, b, c, d, e, K⟩ => by
    unfold mkGo
    split
    · have m0 := Int.emod_nonneg (zs.getD i 0) (b := 3) (by decide)
      have m1 := Int.emod_lt_of_pos (zs.getD i 0) (b := 3) (by decide)
      exact mkGo_ky zs n (i + 1) _ (by omega) (K.child (by omega) ⟨by omega, by omega⟩)
    · exact ⟨i, a, b, c, d, e, by omega, K⟩
theorem mk1_pos (zs : List Int) : 0 < mk1 zs := by
  obtain ⟨j, a, b, c, d, e, hj, hv, ra, rb, rc, rd, re⟩ := mkGo_ky zs 5 0 1125899906842624 rfl ⟨0, 0, 0, 0, 0, by decide, rfl, rfl, rfl, rfl, rfl⟩
  unfold mk1
  rw [hv]
  split at ra <;> split at rb <;> split at rc <;> split at rd <;> split at re <;> omega
end Go.Proofs.YtjnacjniiogjcaaGreat

set_option maxRecDepth 10000
namespace Go.Proofs.YtjnacjniiogjcaaGreat
open Go Go.Fw
noncomputable def t_magpielaw17_ThiefAhead (p0 : Sl) (p1 : Sl) (p2 : Bool) : Tree :=
 .call f_magpielaw17_Make [(.int .i64 2), (.int .i64 200), (.bool p2)] (.one (.leaf .ptr)) fun x19 =>
 .look (opS Tryz.prog (.binOp .eql ty_p_magpielaw17_W (.tmp 0) (.const (.pointer none)) ty_p_magpielaw17_W) ty_bool [(.pointer x19)]) (.one (.leaf .bool)) fun x21 =>
 bif x21 then (
 .ret (.bool false))
 else (
 .call f_magpielaw17_make1 [(.slice p0.a p0.len p0.cap)] (.one (.leaf (.int .i64))) fun x23 =>
 .call f_magpielaw17_make1 [(.slice p1.a p1.len p1.cap)] (.one (.leaf (.int .i64))) fun x25 =>
 .call f_magpielaw17_W_slot [(.pointer x19), (.int .i64 0)] (.one (.leaf (.int .i64))) fun x27 =>
 bif ((x27 : Int) == 0) then (
 .ret (.bool false))
 else (
 .look (nck x19) (.one (.leaf .addr)) fun x31 =>
 .ld x31 .ptr fun x33 =>
 .call f_arena_Arena_Store [(.pointer x33), (.int .i64 x27), (.int .i64 5), (.int .i64 x23)] .unit fun _ =>
 .look (nck x19) (.one (.leaf .addr)) fun x38 =>
 .ld (x38.add 8) .slice fun x40 =>
 .look (opS Tryz.prog (.indexAddr ty_s_p_deque_Own (.tmp 0) (.const (.int .i64 0))) ty_unit [(.slice x40.a x40.len x40.cap)]) (.one (.leaf .addr)) fun x41 =>
 .ld x41 .ptr fun x42 =>
 .call f_deque_Own_Push [(.pointer x42), (.int .i64 x27)] (.one (.leaf .ptr)) fun x44 =>
 .look (opS Tryz.prog (.binOp .eql ty_p_deque_Push (.tmp 0) (.const (.pointer none)) ty_p_deque_Push) ty_bool [(.pointer x44)]) (.one (.leaf .bool)) fun x46 =>
 bif x46 then (
 .ret (.bool false))
 else (
 .look (nck x19) (.one (.leaf .addr)) fun x49 =>
 .ld x49 .ptr fun x51 =>
 .call f_magpielaw17_run [(.pointer x51), (.iface ty_p_deque_Push (.pointer x44))] (.one (.leaf .bool)) fun x54 =>
 bif (!x54) then (
 .ret (.bool false))
 else (
 .call f_deque_Push_Went [(.pointer x44)] (.one (.leaf .bool)) fun x59 =>
 bif (!x59) then (
 .ret (.bool false))
 else (
 .look (nck x19) (.one (.leaf .addr)) fun x63 =>
 .ld (x63.add 7) (.int .i64) fun x65 =>
 .look (nck x19) (.one (.leaf .addr)) fun x67 =>
 .ld (x67.add 1) .ptr fun x69 =>
 .call f_thief_New [(.int .i64 x65), (.pointer x69), (.int .i64 1), (.int .i64 0), (.int .i64 x25), (.int .i64 5)] (.one (.leaf .ptr)) fun x71 =>
 .look (opS Tryz.prog (.binOp .eql ty_p_thief_Steal (.tmp 0) (.const (.pointer none)) ty_p_thief_Steal) ty_bool [(.pointer x71)]) (.one (.leaf .bool)) fun x73 =>
 bif x73 then (
 .ret (.bool false))
 else (
 .look (nck x19) (.one (.leaf .addr)) fun x76 =>
 .ld x76 .ptr fun x78 =>
 .call f_magpielaw17_run [(.pointer x78), (.iface ty_p_thief_Steal (.pointer x71))] (.one (.leaf .bool)) fun x81 =>
 bif (!x81) then (
 .ret (.bool false))
 else (
 .call f_thief_Steal_Value [(.pointer x71)] (.tup [(.leaf (.int .i64)), (.leaf .bool)]) fun x86 =>
 .look (nck x19) (.one (.leaf .addr)) fun x90 =>
 .ld (x90.add 7) (.int .i64) fun x92 =>
 .look (nck x19) (.one (.leaf .addr)) fun x94 =>
 .ld (x94.add 1) .ptr fun x96 =>
 .call f_thief_New [(.int .i64 x92), (.pointer x96), (.int .i64 1), (.int .i64 0), (.int .i64 0), (.int .i64 5)] (.one (.leaf .ptr)) fun x97 =>
 .look (opS Tryz.prog (.binOp .eql ty_p_thief_Steal (.tmp 0) (.const (.pointer none)) ty_p_thief_Steal) ty_bool [(.pointer x97)]) (.one (.leaf .bool)) fun x99 =>
 bif x99 then (
 .ret (.bool false))
 else (
 .look (nck x19) (.one (.leaf .addr)) fun x102 =>
 .ld x102 .ptr fun x104 =>
 .call f_magpielaw17_run [(.pointer x104), (.iface ty_p_thief_Steal (.pointer x97))] (.one (.leaf .bool)) fun x107 =>
 bif (!x107) then (
 .ret (.bool false))
 else (
 .call f_thief_Steal_Value [(.pointer x97)] (.tup [(.leaf (.int .i64)), (.leaf .bool)]) fun x112 =>
 .call f_key_Ahead [(.int .i64 x23), (.int .i64 x25)] (.one (.leaf .bool)) fun x118 =>
 bif (x86.2.1 == x118) then (
 bif (((x86.1 : Int) == x27) == x86.2.1) then (
 bif (x112.2.1 == (!x86.2.1)) then (
 bif (((x112.1 : Int) == x27) == x112.2.1) then (
 .look (nck x19) (.one (.leaf .addr)) fun x142 =>
 .ld x142 .ptr fun x144 =>
 .call f_arena_Arena_Fault [(.pointer x144)] (.one (.leaf .bool)) fun x145 =>
 bif (!x145) then (
 .call f_magpielaw17_awake [] (.one (.leaf .bool)) fun x149 =>
 .ret (.bool x149))
 else (
 .ret (.bool false)))
 else (
 .ret (.bool false)))
 else (
 .ret (.bool false)))
 else (
 .ret (.bool false)))
 else (
 .ret (.bool false)))))))))))
theorem t_magpielaw17_ThiefAhead_eq (p0 : Sl) (p1 : Sl) (p2 : Bool) : funcTree Tryz.prog tcfg1 Tryz.f5 [(.slice p0.a p0.len p0.cap), (.slice p1.a p1.len p1.cap), (.bool p2)] = t_magpielaw17_ThiefAhead p0 p1 p2 := by kernel_rfl
theorem t_magpielaw17_ThiefAhead_spec {p0 : Sl} {p1 : Sl} {p2 : Bool} {H : Heap} {R : Value → Heap → Prop} (h : ∀ L, wp Tryz.prog (t_magpielaw17_ThiefAhead p0 p1 p2) L H R) : SpecF Tryz.prog f_magpielaw17_ThiefAhead #[(.slice p0.a p0.len p0.cap), (.slice p1.a p1.len p1.cap), (.bool p2)] H R :=
 spec_of_tree (cfg := tcfg1) Tryz.func5 fun L => (t_magpielaw17_ThiefAhead_eq p0 p1 p2).symm ▸ h L

end Go.Proofs.YtjnacjniiogjcaaGreat

set_option maxRecDepth 20000
namespace Go.Proofs.YtjnacjniiogjcaaGreat
open Go Go.Fw

structure Us (A : Ar) (n : Nat) (f : Nat → Dq) (us : List (Int × Int)) : Prop where
  lv : ∀ h k, (h, k) ∈ us → A.stF h = 1 ∧ opC h = 0 ∧ A.loadF h 5 = k ∧ ∀ j, j < n → h ≠ (f j).o.h
  nd : (us.map Prod.fst).Nodup

section
variable {A B C : Ar} {g : Gd} {m : Int} {S S' : Sg} {l : Int → List (Int × Int)} {at_ ex k : Int} {n : Nat} {f : Nat → Dq} {us : List (Int × Int)}

theorem DI.slot {xa : Al} {N : Nat} (E : DI A g m S l at_ n ex f) (Z : SlotZ A g m S l 0 0 N xa B S') (hx : xa.h ≠ 0) : DI B g m S' l at_ n (ex + 8) f := by
  have off := Z.z.off
  have un := Z.un
  have nL := Z.z.nL
  have cv := Z.cv
  have ecv := E.cv
  have s8 : sizeF 0 = 8 := rfl
  rw [if_pos hx, s8] at nL
  have u0 := E.gi.u0
  have wb := E.gi.wb
  have lo := E.da.lo
  have ta := E.gi.ta
  have gw : 0 ≤ gwords g.ep g.w := by unfold gwords; cases g.ep <;> simp <;> omega
  have nx : ∀ j, j < n → (f j).o.h ≠ xa.h := fun j hj e => by have := (E.dq j hj).hs; rw [e, (Z.z.hd hx).2.2] at this; cases this
  refine ⟨Z.gi, ⟨lo, by rw [off.rl]; exact E.da.hi⟩, E.nw, fun i hi => ?_, E.oa, E.ow, E.op, E.ne, by rw [nL, E.nL]; omega, by have := E.ex0; omega, E.ll, fun i hi => by have := E.tu i hi; omega, by omega⟩
  refine (E.dq i hi).move (fun k k0 k1 => off.rw _ ?_) ?_ (fun j => loadF_same off.wd ?_)
  · have := E.oa i hi
    have := E.ow i hi
    unfold dw; omega
  · rw [Z.z.st, if_neg (fun h => nx i hi h.2)]; exact (E.dq i hi).hs
  · rw [Z.z.st, if_neg (fun h => nx i hi h.2)]
theorem Us.slot {xa : Al} {N : Nat} (U : Us A n f us) (Z : SlotZ A g m S l 0 0 N xa B S') (hx : xa.h ≠ 0) : Us B n f us ∧ ∀ h k, (h, k) ∈ us → h ≠ xa.h := by
  have nx : ∀ h k, (h, k) ∈ us → h ≠ xa.h := fun h k hh e => by have := (U.lv h k hh).1; rw [e, (Z.z.hd hx).2.2] at this; cases this
  refine ⟨⟨fun h k hh => ?_, U.nd⟩, nx⟩
  obtain ⟨a, b, c, d⟩ := U.lv h k hh
  have e : B.stF h = A.stF h := by rw [Z.z.st, if_neg (fun e => nx h k hh e.2)]
  exact ⟨by rw [e]; exact a, b, by rw [loadF_same Z.z.off.wd e]; exact c, d⟩
theorem DI.store {h v : Int} (E : DI A g m S l at_ n ex f) (hu : A.uses ≤ 900000) (hs : A.stF h = 1) (hc : opC h = 0) (hn : ∀ j, j < n → h ≠ (f j).o.h) (U : Us A n f us) (hx : ∀ h' k, (h', k) ∈ us → h' ≠ h) :
    DI (A.storeF h 5 v) g m S l at_ n ex f ∧ Us (A.storeF h 5 v) n f (us ++ [(h, v)]) ∧ (A.storeF h 5 v).uses = A.uses + 1 ∧ Ar.Alike A (A.storeF h 5 v) := by
  have hi : A.inOk h 5 := ⟨by rw [hs]; decide, by decide, by rw [hc]; decide⟩
  have Z := E.gi.store (v := v) (by omega) hi
  have lf : ∀ k, k ≠ h → ∀ j, (A.storeF h 5 v).loadF k j = A.loadF k j := fun k hk j => lo_all (Z.st _) (fun i hi => by rw [Z.ld _ _ hi, if_neg (fun e => hk e.1)]) j
  have us := Z.us
  refine ⟨⟨Z.gi, ⟨E.da.lo, by rw [Z.rl]; exact E.da.hi⟩, E.nw, fun i hi => ?_, E.oa, E.ow, E.op, E.ne, by rw [Z.nL]; exact E.nL, E.ex0, E.ll, fun i hi => by have := E.tu i hi; omega, E.cv⟩, ⟨fun h' k hh => ?_, ?_⟩, us, Z.al⟩
  · refine (E.dq i hi).move (fun k k0 k1 => Z.rf _) (by rw [Z.st]; exact (E.dq i hi).hs) (lf _ (fun e => hn i hi e.symm))
  · rcases List.mem_append.1 hh with hh | hh
    · obtain ⟨a, b, c, d⟩ := U.lv h' k hh
      exact ⟨by rw [Z.st]; exact a, b, by rw [lf _ (hx h' k hh)]; exact c, d⟩
    · have e : (h', k) = (h, v) := by simpa using hh
      cases e
      exact ⟨by rw [Z.st]; exact hs, hc, by rw [Z.ld _ _ hi, if_pos ⟨rfl, rfl⟩], hn⟩
  · rw [List.map_append]
    refine List.nodup_append.2 ⟨U.nd, by simp, fun a ha b hb e => ?_⟩
    obtain ⟨⟨a1, a2⟩, ha', rfl⟩ := List.mem_map.1 ha
    have hb : b = h := by simpa using hb
    exact hx a1 a2 ha' (e.trans hb)
theorem Us.push {w : Nat} {v : Int} {q mq ob N : Nat} {S'' : Sg} {l' : Int → List (Int × Int)} {o' : DOw} {al : Option Al} {cp : Option Cm} {now : Int} (U : Us A n f us) (P : PushY A g m S l at_ n ex f w v q mq ob N B S'' l' o' al cp now) (hw : w < n) (hr : ((f w).xs.length : Int) < sizeF (opC (f w).o.h)) :
    Us B n (updF f w ⟨o', (f w).t, (f w).xs ++ [v], (f w).ob⟩) us ∧ S'' = S ∧ l' = l ∧ B.uses = A.uses + 3 ∧ o' = { (f w).o with b := (f w).o.b + 1 } := by
  rcases P.or with ⟨r1, r2, r3, r4, r5, r6, r7⟩ | ⟨r1, _⟩
  · refine ⟨⟨fun h k hh => ?_, U.nd⟩, r3, r4, r5, r2⟩
    obtain ⟨a, b, c, d⟩ := U.lv h k hh
    refine ⟨by rw [r6]; exact a, b, by rw [r7 h 5 (d w hw)]; exact c, fun j hj => ?_⟩
    by_cases e : j = w
    · rw [e, updF_same, r2]; exact d w hw
    · rw [updF_ne _ _ e]; exact d j hj
  · omega
theorem Us.still (U : Us A n f us) (st : ∀ h, B.stF h = A.stF h) (lf : ∀ h j, B.loadF h j = A.loadF h j) {w : Nat} {t : Int} {xs : List Int} {d : Bool} : Us B n (if d = true then updF f w { f w with t := t, xs := xs } else f) us := by
  refine ⟨fun h k hh => ?_, U.nd⟩
  obtain ⟨a, b, c, e⟩ := U.lv h k hh
  refine ⟨by rw [st]; exact a, b, by rw [lf]; exact c, fun j hj => ?_⟩
  split
  · by_cases ej : j = w
    · rw [ej, updF_same]; rw [ej] at hj; exact e w hj
    · rw [updF_ne _ _ ej]; exact e j hj
  · exact e j hj
end

section
variable {L : Hands} {R : Value → Heap → Prop} {G : Heap} {rest sb : Bl} {A : Ar} {I : List Nat} {g : Gd} {m : Int} {S : Sg} {l : Int → List (Int × Int)} {at_ ex : Int} {q mq x n : Nat} {s : Sl} {e : List LE} {f : Nat → Dq} {us : List (Int × Int)}
structure NewS (A : Ar) (n : Nat) (f : Nat → Dq) (us : List (Int × Int)) (B : Ar) (h : Int) (S S' : Sg) : Prop where
  hs : B.stF h = 1
  hc : opC h = 0
  hn : ∀ j, j < n → h ≠ (f j).o.h
  uu : Us B n f us
  hx : ∀ h' k, (h', k) ∈ us → h' ≠ h
  cv : S'.cv ≤ S.cv + 8
theorem LW.slot (E : LW I G g m at_ x q mq s sb n ex A S l f e rest) (U : Us A n f us) (hu : A.uses ≤ 600000) (hcv : S.cv + 8 ≤ m) {K : Int → Tree}
    (hk : ∀ B h S' gar, h ≠ 0 → NewS A n f us B h S S' → LW I G g m at_ x q mq s sb n (ex + 8) B S' l f e (gar ++ rest) → B.uses ≤ A.uses + 105 → wp Tryz.prog (K h) L (own B (WL x q mq I g at_ s e f n sb (gar ++ rest)) G) R) :
    wp Tryz.prog (.call f_magpielaw17_W_slot [.pointer (some ⟨x, 0, none⟩), .int .i64 0] (.one (.leaf (.int .i64))) K) L (own A (WL x q mq I g at_ s e f n sb rest) G) R := by
  have wb := E.di.gi.wb
  obtain ⟨N, xa, B, S', Z⟩ := E.di.gi.slot (by omega) (who := 0) (c := 0) ⟨by decide, by omega⟩ (by decide)
  have hx := Z.nz hcv
  have un := Z.un
  refine w_slot17 E.aw E.ok Z.z.run (by have := Z.z.nn; omega) fun gar hB ok => ?_
  obtain ⟨U1, n1⟩ := U.slot Z hx
  obtain ⟨hc, _, h0⟩ := Z.z.hd hx
  refine hk B xa.h S' gar hx ⟨by rw [Z.z.st, if_pos ⟨hx, rfl⟩], hc, fun j hj e => ?_, U1, n1, Z.cv⟩ ⟨hB, ok, E.gs, E.di.slot Z hx, E.hs⟩ (by omega)
  have := (E.di.dq j hj).hs
  rw [← e, h0] at this; cases this
theorem LW.store {h v : Int} {A0 : Ar} {S0 : Sg} (E : LW I G g m at_ x q mq s sb n ex A S l f e rest) (N : NewS A0 n f us A h S0 S) (hu : A.uses ≤ 600000) {K : Unit → Tree}
    (hk : LW I G g m at_ x q mq s sb n ex (A.storeF h 5 v) S l f e rest → Us (A.storeF h 5 v) n f (us ++ [(h, v)]) → (A.storeF h 5 v).uses = A.uses + 1 → wp Tryz.prog (K ()) L (own (A.storeF h 5 v) (WL x q mq I g at_ s e f n sb rest) G) R) :
    wp Tryz.prog (.call f_arena_Arena_Store [.pointer (aI I), .int .i64 h, .int .i64 5, .int .i64 v] .unit K) L (own A (WL x q mq I g at_ s e f n sb rest) G) R := by
  obtain ⟨D, U, u, al⟩ := E.di.store (v := v) (by omega) N.hs N.hc N.hn N.uu N.hx
  exact w_Store E.aw fun hB => hk ⟨hB, E.ok, E.gs, D, E.hs⟩ U u
end
end Go.Proofs.YtjnacjniiogjcaaGreat

set_option maxRecDepth 20000
namespace Go.Proofs.YtjnacjniiogjcaaGreat
open Go Go.Fw

theorem RowOf.le {H K : Heap} {a : Option Addr} {n : Nat} {zs : List Int} (h : RowOf H a n zs) (hK : H.le K) : RowOf K a n zs := fun i hi => by
  obtain ⟨x, h1, h2⟩ := h i hi
  exact ⟨x, h1, cell_le hK h2⟩

def rowN (zs : List Int) (n : Nat) : List Int := (List.range n).map fun i => zs.getD i 0
theorem rowN_len (zs : List Int) (n : Nat) : n = (rowN zs n).length := by simp [rowN]
theorem RowOf.norm {H : Heap} {a : Option Addr} {n : Nat} {zs : List Int} (h : RowOf H a n zs) : RowOf H a n (rowN zs n) := fun i hi => by
  obtain ⟨x, h1, h2⟩ := h i hi
  refine ⟨x, h1, h2.trans ?_⟩
  have : (rowN zs n).getD i 0 = zs.getD i 0 := by
    rw [List.getD_eq_getElem?_getD]
    unfold rowN
    rw [List.getElem?_map, List.getElem?_range hi]; rfl
  rw [this]

set_option maxHeartbeats 1000000 in
theorem ThiefAhead_core (z0 : Sl) (zs0 : List Int) (z1 : Sl) (zs1 : List Int) (ep : Bool) (H : Heap) (hz0 : RowOf H z0.a z0.len zs0) (hl0 : z0.len = zs0.length) (hz1 : RowOf H z1.a z1.len zs1) (hl1 : z1.len = zs1.length) : Det Tryz.prog f_magpielaw17_ThiefAhead [.slice z0.a z0.len z0.cap, .slice z1.a z1.len z1.cap, .bool ep] H (.bool true) H := by
  refine t_magpielaw17_ThiefAhead_spec (p0 := z0) (p1 := z1) fun L => ?_
  unfold t_magpielaw17_ThiefAhead
  refine wp_call_of (make17_spec ep 2 200 (by decide) (by decide) H) ?_
  rintro v K ⟨A, x, q, mq, S, f, s, sb, rest, rfl, rfl, hI, M⟩
  refine ⟨some ⟨x, 0, none⟩, rfl, ?_⟩
  refine look_val (x := false) (npW17 _) (wp_false rfl ?_)
  have us := M.dm.us
  have cv := M.dm.cv
  obtain ⟨m1, m2, m3, m4⟩ := M.dm.em 0 (by decide)
  have E0 := M.lw
  have th := th1 ep ((2 : Nat) : Int) 200
  generalize gdW ep ((2 : Nat) : Int) 200 = g at *
  generalize atW ep ((2 : Nat) : Int) 200 = at_ at *
  clear M
  have kl := own_end E0.aw E0.ok hI
  refine wp_call_det (x := mk1 zs0) (make1_det (hz0.le kl) hl0) ?_
  refine wp_call_det (x := mk1 zs1) (make1_det (hz1.le kl) hl1) ?_
  have kp := mk1_pos zs1
  generalize mk1 zs0 = kx at *
  generalize mk1 zs1 = ky at *
  refine E0.slot (us := []) ⟨fun h k hh => (by cases hh), .nil⟩ (by omega) (by rw [cv]; decide) fun B h S' gar hh NS E1 ub => ?_
  refine wp_false (ibef hh) ?_
  refine wp_nil.2 (w_ar E1 ?_)
  refine E1.store NS (by omega) fun E2 U2 u2 => ?_
  generalize B.storeF h 5 kx = B2 at *
  have U2 : Us B2 2 f [(h, kx)] := U2
  refine wp_nil.2 (w_ow0 E2 (by decide) ?_)
  refine E2.newPush (w := 0) (by decide) fun zz E3 => ?_
  refine look_val (x := false) (npPs _) (wp_false rfl ?_)
  refine wp_nil.2 (w_ar E3 ?_)
  have s8 : sizeF (opC (f 0).o.h) = 8 := by rw [m4]; rfl
  refine E3.runPush (w := 0) (by decide) (by omega) th (fun N C S'' l' o' al cp now e' fr Q hW E4 => ?_) fun N C al e' fr Q hW E4 => ?_
  rotate_left
  · have := Q.full; rw [m1, m4] at this; cases this
  obtain ⟨U4, c1, c2, c3, c4⟩ := U2.push Q (by decide) (by rw [m1, s8]; decide)
  refine wp_false rfl ?_
  refine E4.went (hW.in [] _) ?_
  refine wp_false rfl ?_
  obtain ⟨f4, hf4⟩ : ∃ f4, f4 = updF f 0 ⟨o', (f 0).t, (f 0).xs ++ [h], (f 0).ob⟩ := ⟨_, rfl⟩
  have x4 : (f4 0).xs = [h] := by rw [hf4, updF_same]; show (f 0).xs ++ [h] = _; rw [m1]; rfl
  rw [← hf4] at E4 U4 ⊢
  refine wp_nil.2 (w_at E4 (wp_nil.2 (w_gd E4 ?_)))
  refine E4.newSteal (wk := ((1 : Nat) : Int)) (vic := ((0 : Nat) : Int)) fun z5 s5 tl5 hs5 E5 => ?_
  refine look_val (x := false) (npTs _) (wp_false rfl ?_)
  refine wp_nil.2 (w_ar E5 ?_)
  obtain ⟨v1, v2, v3, v4⟩ := U4.lv h kx (by simp)
  refine E5.runSteal (pre := []) hs5 (by decide) (by decide) (by omega) (fun _ y ys hx => ?_) fun N6 B6 y6 fr6 P6 st6 E6 => ?_
  · rw [x4] at hx; cases hx
    exact ⟨by rw [v1]; decide, by decide, by rw [v2]; decide⟩
  have hk6 := P6.hk
  have hv6 := P6.hv
  have ub6 := P6.ub
  rw [x4] at hk6 hv6
  have hv6 : y6.ok = true → y6.v = h := hv6
  have hk6 : y6.ok = aheadF kx ky := hk6.trans (by show (true && (decide (ky ≤ 0) || aheadF (C.loadF h 5) ky)) = _; rw [v3, decide_eq_false (by omega)]; rfl)
  refine wp_false rfl ?_
  refine E6.stealValue (st6.in [] _) P6.lv ?_
  refine wp_nil.2 (w_at E6 (wp_nil.2 (w_gd E6 ?_)))
  refine E6.newSteal (wk := ((1 : Nat) : Int)) (vic := ((0 : Nat) : Int)) fun z7 s7 tl7 hs7 E7 => ?_
  refine look_val (x := false) (npTs _) (wp_false rfl ?_)
  refine wp_nil.2 (w_ar E7 ?_)
  refine E7.runSteal (pre := []) hs7 (by decide) (by decide) (by omega) (fun h => (by cases h)) fun N8 B8 y8 fr8 P8 st8 E8 => ?_
  have hk8 := P8.hk
  have hv8 := P8.hv
  refine wp_false rfl ?_
  refine E8.stealValue (st8.in [] _) P8.lv ?_
  refine wp_call_det (x := aheadF kx ky) (Ahead_det _ _ _) ?_
  have fin : ∀ y : Bool, y = true → wp Tryz.prog (bif y then .look (opS Tryz.prog (.nilCheck (.tmp 0)) ty_unit [(.pointer (some ⟨x, 0, none⟩))]) (.one (.leaf .addr)) fun x142 =>
                            .ld x142 .ptr fun x144 =>
                            .call f_arena_Arena_Fault [(.pointer x144)] (.one (.leaf .bool)) fun x145 =>
                            bif (!x145) then (
                              .call f_magpielaw17_awake [] (.one (.leaf .bool)) fun x149 =>
                              .ret (.bool x149))
                            else (
                              .ret (.bool false)) else (.ret (.bool false))) L (own B8 (WL x q mq A.ids g at_ s e' (if y8.ok = true then updF (if y6.ok = true then updF f4 0 { f4 0 with t := (f4 0).t + 1, xs := (f4 0).xs.tail } else f4) 0 { (if y6.ok = true then updF f4 0 { f4 0 with t := (f4 0).t + 1, xs := (f4 0).xs.tail } else f4) 0 with t := ((if y6.ok = true then updF f4 0 { f4 0 with t := (f4 0).t + 1, xs := (f4 0).xs.tail } else f4) 0).t + 1, xs := ((if y6.ok = true then updF f4 0 { f4 0 with t := (f4 0).t + 1, xs := (f4 0).xs.tail } else f4) 0).xs.tail } else (if y6.ok = true then updF f4 0 { f4 0 with t := (f4 0).t + 1, xs := (f4 0).xs.tail } else f4)) 2 sb (fr8 ++ ([] ++ (fr6 ++ ([] ++ (fr ++ (gar ++ rest))))))) H) fun u K => u = .bool true ∧ K = H := fun y hy => by
    refine wp_true hy ?_
    refine wp_nil.2 (w_ar E8 ?_)
    refine w_Fault E8.aw ?_
    rw [E8.di.gi.fa]
    refine wp_true rfl ?_
    refine wp_call_det (x := true) (awake17_det _) ?_
    exact ⟨H, own_end E8.aw E8.ok hI, rfl, rfl⟩
  have hk8' : y8.ok = !y6.ok ∧ (y8.ok = true → y8.v = h) := by
    cases ho : y6.ok with
    | true =>
      rw [ho, if_pos rfl, updF_same, x4] at hk8
      have hk8 : y8.ok = false := hk8
      exact ⟨hk8, fun h => by rw [hk8] at h; cases h⟩
    | false =>
      rw [ho, if_neg (by decide), x4] at hk8 hv8
      have hk8 : y8.ok = true := hk8
      exact ⟨hk8, hv8⟩
  refine wp_true (show (y6.ok == aheadF kx ky) = true by rw [hk6]; simp) ?_
  have tv : ∀ y : Ts, (y.ok = true → y.v = h) → ((((if y.ok = true then y.v else 0 : Int)) == h) == y.ok) = true := fun y hy => by
    cases ho : y.ok with
    | true => rw [if_pos rfl, hy ho]; simp
    | false =>
      rw [if_neg (by decide)]
      have : ((0 : Int) == h) = false := ibef (fun e => hh e.symm)
      rw [this]; rfl
  refine wp_true (tv y6 hv6) ?_
  refine wp_true (show (y8.ok == !y6.ok) = true by rw [hk8'.1]; simp) ?_
  exact fin _ (tv y8 hk8'.2)
theorem ThiefAhead_det (z0 : Sl) (zs0 : List Int) (z1 : Sl) (zs1 : List Int) (ep : Bool) (H : Heap) (hz0 : RowOf H z0.a z0.len zs0) (hz1 : RowOf H z1.a z1.len zs1) : Det Tryz.prog f_magpielaw17_ThiefAhead [.slice z0.a z0.len z0.cap, .slice z1.a z1.len z1.cap, .bool ep] H (.bool true) H :=
  ThiefAhead_core z0 (rowN zs0 z0.len) z1 (rowN zs1 z1.len) ep H hz0.norm (rowN_len _ _) hz1.norm (rowN_len _ _)
end Go.Proofs.YtjnacjniiogjcaaGreat

