/- Texts of this claim, one behind the other. -/
import Derived.Test.YtcjhakdopnamoaaCWGuardForces4
set_option linter.unusedSimpArgs false
set_option linter.unusedVariables false
set_option linter.unusedVariables false
set_option linter.unusedSimpArgs false
set_option maxRecDepth 20000
namespace Go.Proofs.Ytcjhakdopnamoaa
open Go Go.Fw

theorem npGd (a : Addr) : opS Try.prog (.binOp .eql ty_p_guard_Guard (.tmp 0) (.const (.pointer none)) ty_p_guard_Guard) ty_bool [(.pointer (some a))] = .pure (.value (.bool false)) := by kernel_rfl
abbrev S0g : Sg := ⟨fun _ => [], 0, fun _ => 0, fun _ => -1, 0⟩
theorem runs_pos {M J : Type} {X : Mch M J} {n : Nat} {m m' : M} {A A' : Ar} (h : X.Runs n m A m' A') : 1 ≤ n := by
  cases h <;> omega
theorem gd0 : GdS [] fun _ => [] := ⟨fun k => .inl ⟨rfl, rfl⟩, fun k => rfl⟩

/-- The first slot of all. -/
structure One1 (I : List Nat) (A : Ar) (ep : Bool) (w s k : Int) (n : Nat) (x : Al) (A' : Ar) (S' : Sg) : Prop where
  run : mAl.Runs n (newAl (plOf w (8 * s)) k 0) A x A'
  nn : (n : Int) ≤ w + 5
  sl : SL A' (plOf w (8 * s)) w (8 * s) S'
  off : Off (plOf w (8 * s)).carved n A A'
  h0 : x.h ≠ 0
  hc : opC x.h = 0
  st : A'.stF x.h = 1
  nL : A'.nL = A.nL + 8
  nR : A'.nR = A.nR
  nc : S'.nc = 8
theorem g_one1 {I : List Nat} {A : Ar} {ep : Bool} {w s k : Int} (E : GZ I A ep w s S0g) (hs : 1 ≤ s) (hu : A.uses ≤ 1000) (hk : 0 ≤ k ∧ k < w) : ∃ n x A' S', One1 I A ep w s k n x A' S' := by
  obtain ⟨n, x', A2, S', Z⟩ := alloc_solo E.sl E.aw.wf (by omega) (who := k) (c := 0) hk (by decide)
  refine ⟨n, x', A2, S', ?_⟩
  obtain ⟨kk, b', l, h1, h2, _⟩ | ⟨h1, h2, h3, h4⟩ | ⟨h1, h2, _⟩ := Z.gives.or
  · rw [ask_nil (fun _ => rfl)] at h1; cases h1
  rotate_left
  · exfalso; apply h2; show 0 + 8 ≤ 8 * s; omega
  obtain ⟨o1, o2, o3, o4, o5⟩ := carve_name E.sl (by decide) h2
  rw [← h4] at o1 o2 o3 o4 o5
  have hst := Z.st x'.h
  rw [if_pos ⟨o5, rfl⟩] at hst
  have nL := Z.nL
  rw [if_pos o5, show sizeF 0 = 8 from rfl] at nL
  exact ⟨Z.run, Z.nn, Z.sl, Z.off, o5, o3, hst, nL, Z.nR, by rw [h3]; rfl⟩

section
variable {L : Hands} {R : Value → Heap → Prop} {G : Heap} {l rest : Bl} {A A' : Ar} {I : List Nat}

theorem w_GRetire {g : Gd} {e : List LE} {ls : Int → List (Int × Int)} {q mq : Nat} {k h : Int} {K : Value → Tree} (hA : Aw I A) (ok : Ok I G (keys (g.bl q mq e ++ rest))) (gs : GdS e ls) (hl : (ls k).length < 1000)
    (h0 : retM g ls k h = none → ∀ e' gar, Ok I G (keys (g.bl q mq e' ++ (gar ++ rest))) → GdS e' (setL ls k (ls k ++ [(h, 0)])) → wp Try.prog (K .nilIface) L (own (A.retireF h) (g.bl q mq e' ++ (gar ++ rest)) G) R)
    (h1 : ∀ x, retM g ls k h = some x → ∀ j : LkJ, Ok I G (keys (x.bl j ++ rest)) → (mLk q mq).rep x j → wp Try.prog (K (.iface ty_p_guard_look (.pointer (some ⟨j.q, 0, none⟩)))) L (own (A.retireF h) (x.bl j ++ rest) G) R) :
    wp Try.prog (.call f_guard_Guard_Retire [.pointer (some ⟨q, 0, none⟩), .pointer (aI I), .int .i64 k, .int .i64 h] (.one (.leaf .val)) K) L (own A (g.bl q mq e ++ rest) G) R := by
  rw [keys_append] at ok
  obtain ⟨o1, o2⟩ := ok.split
  refine w_sub (retire_spec hA o1 gs hl) ?_
  intro v H hp
  unfold GPost at hp
  cases hm : retM g ls k h with
  | none =>
    rw [hm] at hp
    obtain ⟨e', gar, rfl, rfl, o, gs'⟩ := hp
    refine ⟨_, rfl, ?_⟩
    rw [← own_append, List.append_assoc]
    refine h0 hm e' gar ?_ gs'
    have := o.join o2
    rw [← keys_append, List.append_assoc] at this
    exact this
  | some x =>
    rw [hm] at hp
    obtain ⟨j, rfl, rfl, o, rp⟩ := hp
    refine ⟨_, rfl, ?_⟩
    rw [← own_append]
    exact h1 x hm j (by rw [keys_append]; exact o.join o2) rp

set_option maxHeartbeats 1000000 in
theorem awake14_det (H : Heap) : Det Try.prog f_magpielaw14_awake [] H (.bool true) H := by
  refine t_magpielaw14_awake_spec fun L => ?_
  unfold t_magpielaw14_awake
  refine wp_call_of (gmake_spec false 2 4 1 (by decide) (by decide) H) ?_
  rintro v K ⟨A, q, mq, rfl, rfl, hI, ok, E, r0, u0, nl, nr⟩
  refine ⟨(aI A.ids, (2, 0, 4 * 2, 4 * 2 + (8 * 4 + 7) / 8, 4 * 2 + 2 * ((8 * 4 + 7) / 8), ()), some ⟨q, 0, none⟩, ()), rfl, ?_⟩
  have hA := E.aw
  refine w_newP hA ok fun x2 ok1 => ?_
  refine w_stA 0 hA ok1 rfl rfl rfl rfl ?_
  refine look_val (x := false) (np_some _) (wp_false rfl ?_)
  refine look_val (x := false) (npGd _) (wp_false rfl ?_)
  have ok1 : Ok A.ids H (keys ((x2, oc ty_free_Place (plCells (plOf 2 32))) :: (gdOf false 2 4 1).bl q mq [])) := ok1
  show wp Try.prog _ L (own A ((x2, oc ty_free_Place (plCells (plOf 2 32))) :: (gdOf false 2 4 1).bl q mq []) H) _
  obtain ⟨p1, ok2⟩ := own_perm (A := A) (l' := (gdOf false 2 4 1).bl q mq [] ++ [(x2, oc ty_free_Place (plCells (plOf 2 32)))]) ok1 (perm_by fun c d c0 cd ca => by simp only [cd, ca, c0]; omega)
  rw [p1]
  refine w_GEnter hA ok2 (fun h => by cases h) fun _ => ?_
  refine look_val (x := false) (neqMc0 _) (wp_false rfl ?_)
  rw [← p1]
  refine w_ldA 0 hA ok1 rfl rfl rfl ?_
  obtain ⟨n, x, A1, S1, Z⟩ := g_one1 E (by decide) (by omega) (k := 0) (by decide)
  have nn := Z.nn
  refine w_one14 (p := plOf 2 32) Z.run (by omega) hA ok1 fun gar ok3 hA1 => ?_
  refine wp_true (ibne Z.h0) ?_
  obtain ⟨p2, ok4⟩ := own_perm (A := A1) (l' := (gdOf false 2 4 1).bl q mq [] ++ ((x2, oc ty_free_Place (plCells (plOf 2 32))) :: gar)) ok3 (perm_by fun c d c0 cd ca => by simp only [List.cons_append, cd, ca, c0]; omega)
  rw [p2]
  have n1 := runs_pos Z.run
  have off := Z.off.us
  have zl := Z.nL
  have zr := Z.nR
  have rl := E.rl
  have rl : (A.raw.length : Int) = 21 := rl
  obtain ⟨Y, yst, yL, yR⟩ := Z.sl.retire (by omega) Z.st ⟨by rw [Z.hc, show sizeF 0 = 8 from rfl]; omega, by rw [Z.hc, show sizeF 0 = 8 from rfl]; omega⟩
  have ro := Off.retireF (c := (plOf 2 32).carved) hA1.wf x.h
  have ru := ro.us
  have rr := ro.rl
  have zrl := Z.off.rl
  have hx0 := Z.h0
  rw [Z.hc, show sizeF 0 = 8 from rfl] at yR
  refine w_GRetire (k := 0) (h := x.h) hA1 ok4 gd0 (by decide) (fun h => by cases h) fun y hy j ok5 rp => ?_
  have hy : some (retLk (gdOf false 2 4 1) (fun _ => []) 0 x.h).begin = some y := hy
  obtain rfl := Option.some.inj hy
  have hA2 : Aw A.ids (A1.retireF x.h) := hA1.retireF x.h
  generalize A1.retireF x.h = A2 at *
  have rw0 : ∀ i, 16 < i → A2.rawF i = 0 := fun i hi => by
    have c16 : (plOf 2 32).carved = 16 := rfl
    rw [ro.rw i (by rw [c16]; exact hi), Z.off.rw i (by show (16 : Int) < i; exact hi)]; exact r0 i
  have in1 : inS (seenN A2 17 (2 * (2 : Int)).toNat) x.h = false := by
    cases h : inS (seenN A2 17 (2 * (2 : Int)).toNat) x.h with
    | false => rfl
    | true =>
      exfalso
      obtain ⟨i, i1, i2⟩ := (seenN_in A2 17 x.h _).1 h
      rw [rw0 _ (by omega)] at i2; exact hx0 i2.symm
  have eg : gone A2 2 17 [x.h] = [x.h] := by unfold gone; simp only [List.filter_cons, in1]; rfl
  have el : lft A2 2 17 [x.h] = [] := by unfold lft; simp only [List.filter_cons, in1]; rfl
  obtain ⟨A3, S3, m', n3, run, en, ml, me, W⟩ := scan_all (tw := 2) (ta := 17) (who := 0) (xs := [x.h]) Y hA2.wf (by decide) (by show 1 ≤ 1000; decide) (by decide) (by rw [rr, zrl]; omega) (by rw [rr, zrl]; omega) (by omega) (by decide) (by simp) (by rw [yR]; show (8 : Int) * 1 ≤ _; omega) fun h hh => by
    have : h = x.h := by simpa using hh
    subst this
    rw [yst, if_pos rfl]; exact ⟨rfl, Z.hc⟩
  rw [eg] at en W
  rw [el] at ml
  have lift := sc_lift (gq := q) (mq := mq) (g := gdOf false 2 4 1) (ls := setL (fun _ => []) 0 [(x.h, 0)]) (work := 0) (by rw [setL_same]; exact Nat.succ_le_succ (Nat.zero_le 999)) (by decide) run (Nat.zero_le 1000)
  refine w_runR14 (mLk_ok q mq) (mLk_inv q mq) lift (by rw [en]; show 2 * 2 + 3 * 1 ≤ 3000; decide) (j := j) hA2 ok5 rp fun j' ha hA3 ok6 rp6 => ?_
  refine wp_true rfl ?_
  refine w_State hA3 ?_
  have s1 : A3.stF x.h = 0 := by rw [W.st, if_pos (by simp)]
  refine wp_true (ibeq s1) ?_
  have ok7 : Ok A.ids H (keys ((j'.q, oc ty_guard_look (lkC j'.gq 0 false 0 .nilIface)) :: ((gdOf false 2 4 1).bl j'.gq j'.mq j'.e ++ ([] ++ j'.gar)) ++ ((x2, oc ty_free_Place (plCells (plOf 2 32))) :: gar))) := ok6
  show wp Try.prog _ L (own A3 ((j'.q, oc ty_guard_look (lkC j'.gq 0 false 0 .nilIface)) :: ((gdOf false 2 4 1).bl j'.gq j'.mq j'.e ++ ([] ++ j'.gar)) ++ ((x2, oc ty_free_Place (plCells (plOf 2 32))) :: gar)) H) _
  obtain ⟨rp7, e1, e2⟩ := rp6
  obtain ⟨p3, ok8⟩ := own_perm (A := A3) (l' := (gdOf false 2 4 1).bl q mq j'.e ++ ((j'.q, oc ty_guard_look (lkC j'.gq 0 false 0 .nilIface)) :: (j'.gar ++ ((x2, oc ty_free_Place (plCells (plOf 2 32))) :: gar)))) ok7 (perm_by fun c d c0 cd ca => by rw [e1, e2]; simp only [List.cons_append, List.append_assoc, List.nil_append, cd, ca]; omega)
  rw [p3]
  refine w_GLeft hA3 ok8 ?_
  have z0 : (leGet j'.e 0).s.len = 0 := by
    rw [(rp7.le 0).len, rp7.ls 0]
    show (setL (setL (fun _ => []) 0 [(x.h, 0)]) 0 (m'.left.map fun h => (h, (0 : Int))) 0).length = 0
    rw [setL_same, ml]; rfl
  rw [z0]
  exact ⟨H, own_end hA3 ok8 hI, rfl, rfl⟩
end
end Go.Proofs.Ytcjhakdopnamoaa

set_option linter.unusedVariables false
set_option linter.unusedSimpArgs false
set_option maxRecDepth 20000
namespace Go.Proofs.Ytcjhakdopnamoaa
open Go Go.Fw

end Go.Proofs.Ytcjhakdopnamoaa

set_option linter.unusedVariables false
set_option linter.unusedSimpArgs false
set_option maxRecDepth 20000
namespace Go.Proofs.Ytcjhakdopnamoaa
open Go Go.Fw

theorem szs8 : ∀ {xs : List Int}, (∀ x ∈ xs, opC x = 0) → szs xs = 8 * xs.length
  | [], _ => rfl
  | x :: xs, h => by
    have ih := szs8 (xs := xs) fun y hy => h y (List.mem_cons_of_mem _ hy)
    show sizeF (opC x) + szs xs = _
    rw [h x List.mem_cons_self, ih, List.length_cons, show sizeF 0 = 8 from rfl]; omega
section
variable {L : Hands} {R : Value → Heap → Prop} {G : Heap} {rest : Bl} {A A' : Ar} {I : List Nat} {w s th : Int} {ep : Bool}

theorem GZ.gi (E : GZ I A ep w s S0g) (r0 : ∀ i, A.rawF i = 0) (u0 : A.uses = 0) (nl : A.nL = 0) (nr : A.nR = 0) : GI A (gdOf ep w s th) (8 * s) S0g fun _ => [] := by
  have wb := E.wb
  have sb := E.sb
  have rl := E.rl
  have gw : gwords ep w ≤ 100 := by unfold gwords; cases ep <;> simp <;> omega
  refine ⟨E.aw.wf, E.sl, E.fa, ?_, ⟨wb.1, by show w ≤ 100; omega⟩, ?_, by omega, fun _ _ h => (by cases h), fun _ => .nil, fun _ _ _ _ h => (by cases h), fun _ h => (h rfl).elim, ?_, by omega, by omega, fun _ _ _ h => (by cases h), fun _ => ?_, fun _ _ _ h => (by cases h)⟩
  · show 4 * w + 2 * ((8 * s + 7) / 8) < 4 * w + 2 * s + 1; omega
  · show 4 * w + 2 * s + 1 + gwords ep w ≤ _; omega
  · rw [nr]
    have : ∀ n, totR (fun _ => []) n = 0 := fun n => by
      induction n with
      | zero => rfl
      | succ n ih => show totR (fun _ => []) n + 0 = 0; omega
    exact (this _).symm
  · rw [r0, u0]; exact ⟨Int.le_refl 0, Int.le_refl 0⟩

/-- Retired, and run. -/
theorem w_retire14 {g : Gd} {e : List LE} {ls l' : Int → List (Int × Int)} {q mq : Nat} {k h : Int} {K : Bool → Tree} (hA : Aw I A) (hA' : Aw I A') (ok : Ok I G (keys (g.bl q mq e ++ rest))) (gs : GdS e ls) (hl : (ls k).length < 1000)
    (r : RunO q mq (retM g ls k h) g k (A.retireF h) (setL ls k (ls k ++ [(h, 0)])) l' A')
    (hk : ∀ e' gar, Ok I G (keys (g.bl q mq e' ++ (gar ++ rest))) → GdS e' l' → wp Try.prog (K true) L (own A' (g.bl q mq e' ++ (gar ++ rest)) G) R) :
    wp Try.prog (.call f_guard_Guard_Retire [.pointer (some ⟨q, 0, none⟩), .pointer (aI I), .int .i64 k, .int .i64 h] (.one (.leaf .val)) fun x => .call f_magpielaw14_run [.pointer (aI I), x] (.one (.leaf .bool)) K) L (own A (g.bl q mq e ++ rest) G) R := by
  refine w_GRetire hA ok gs hl (fun hm e' gar ok' gs' => ?_) fun x hm j ok' rp => ?_
  · rw [hm] at r
    obtain ⟨rfl, rfl⟩ := r
    exact w_run14_nil (hk e' gar ok' gs')
  · rw [hm] at r
    obtain ⟨n, hn, r⟩ := r
    refine w_runR14 (mLk_ok q mq) (mLk_inv q mq) r (by omega) (j := j) (hA.retireF h) ok' rp fun j' ha _ ok6 rp6 => ?_
    obtain ⟨rp7, e1, e2⟩ := rp6
    have ok7 : Ok I G (keys ((j'.q, oc ty_guard_look (lkC j'.gq k false 0 .nilIface)) :: (g.bl j'.gq j'.mq j'.e ++ ([] ++ j'.gar)) ++ rest)) := ok6
    show wp Try.prog _ L (own A' ((j'.q, oc ty_guard_look (lkC j'.gq k false 0 .nilIface)) :: (g.bl j'.gq j'.mq j'.e ++ ([] ++ j'.gar)) ++ rest) G) _
    obtain ⟨p3, ok8⟩ := own_perm (A := A') (l' := g.bl q mq j'.e ++ (((j'.q, oc ty_guard_look (lkC j'.gq k false 0 .nilIface)) :: j'.gar) ++ rest)) ok7 (perm_by fun c d c0 cd ca => by rw [e1, e2]; simp only [List.cons_append, List.append_assoc, List.nil_append, cd, ca]; omega)
    rw [p3]
    exact hk _ _ ok8 ⟨rp7.le, rp7.ls⟩

theorem w_GForce {g : Gd} {e : List LE} {ls : Int → List (Int × Int)} {q mq : Nat} {k : Int} {K : Value → Tree} (hA : Aw I A) (ok : Ok I G (keys (g.bl q mq e ++ rest))) (gs : GdS e ls) (hl : (ls k).length ≤ 1000)
    (h0 : forM g ls k = none → ∀ e' gar, Ok I G (keys (g.bl q mq e' ++ (gar ++ rest))) → GdS e' ls → wp Try.prog (K .nilIface) L (own A (g.bl q mq e' ++ (gar ++ rest)) G) R)
    (h1 : ∀ x, forM g ls k = some x → ∀ j : LkJ, Ok I G (keys (x.bl j ++ rest)) → (mLk q mq).rep x j → wp Try.prog (K (.iface ty_p_guard_look (.pointer (some ⟨j.q, 0, none⟩)))) L (own A (x.bl j ++ rest) G) R) :
    wp Try.prog (.call f_guard_Guard_Force [.pointer (some ⟨q, 0, none⟩), .int .i64 k] (.one (.leaf .val)) K) L (own A (g.bl q mq e ++ rest) G) R := by
  rw [keys_append] at ok
  obtain ⟨o1, o2⟩ := ok.split
  refine w_sub (force_spec hA o1 gs hl) ?_
  intro v H hp
  unfold GPost at hp
  cases hm : forM g ls k with
  | none =>
    rw [hm] at hp
    obtain ⟨e', gar, rfl, rfl, o, gs'⟩ := hp
    refine ⟨_, rfl, ?_⟩
    rw [← own_append, List.append_assoc]
    refine h0 hm e' gar ?_ gs'
    have := o.join o2
    rw [← keys_append, List.append_assoc] at this
    exact this
  | some x =>
    rw [hm] at hp
    obtain ⟨j, rfl, rfl, o, rp⟩ := hp
    refine ⟨_, rfl, ?_⟩
    rw [← own_append]
    exact h1 x hm j (by rw [keys_append]; exact o.join o2) rp

theorem w_force14 {g : Gd} {e : List LE} {ls l' : Int → List (Int × Int)} {q mq : Nat} {k : Int} {K : Bool → Tree} (hA : Aw I A) (ok : Ok I G (keys (g.bl q mq e ++ rest))) (gs : GdS e ls) (hl : (ls k).length ≤ 1000)
    (r : RunO q mq (forM g ls k) g k A ls l' A')
    (hk : ∀ e' gar, Ok I G (keys (g.bl q mq e' ++ (gar ++ rest))) → GdS e' l' → wp Try.prog (K true) L (own A' (g.bl q mq e' ++ (gar ++ rest)) G) R) :
    wp Try.prog (.call f_guard_Guard_Force [.pointer (some ⟨q, 0, none⟩), .int .i64 k] (.one (.leaf .val)) fun x => .call f_magpielaw14_run [.pointer (aI I), x] (.one (.leaf .bool)) K) L (own A (g.bl q mq e ++ rest) G) R := by
  refine w_GForce hA ok gs hl (fun hm e' gar ok' gs' => ?_) fun x hm j ok' rp => ?_
  · rw [hm] at r
    obtain ⟨rfl, rfl⟩ := r
    exact w_run14_nil (hk e' gar ok' gs')
  · rw [hm] at r
    obtain ⟨n, hn, r⟩ := r
    refine w_runR14 (mLk_ok q mq) (mLk_inv q mq) r (by omega) (j := j) hA ok' rp fun j' ha _ ok6 rp6 => ?_
    obtain ⟨rp7, e1, e2⟩ := rp6
    have ok7 : Ok I G (keys ((j'.q, oc ty_guard_look (lkC j'.gq k false 0 .nilIface)) :: (g.bl j'.gq j'.mq j'.e ++ ([] ++ j'.gar)) ++ rest)) := ok6
    show wp Try.prog _ L (own A' ((j'.q, oc ty_guard_look (lkC j'.gq k false 0 .nilIface)) :: (g.bl j'.gq j'.mq j'.e ++ ([] ++ j'.gar)) ++ rest) G) _
    obtain ⟨p3, ok8⟩ := own_perm (A := A') (l' := g.bl q mq j'.e ++ (((j'.q, oc ty_guard_look (lkC j'.gq k false 0 .nilIface)) :: j'.gar) ++ rest)) ok7 (perm_by fun c d c0 cd ca => by rw [e1, e2]; simp only [List.cons_append, List.append_assoc, List.nil_append, cd, ca]; omega)
    rw [p3]
    exact hk _ _ ok8 ⟨rp7.le, rp7.ls⟩
end

/-- A new slot, where there is room. -/
structure SlotZ (A : Ar) (g : Gd) (m : Int) (S : Sg) (l : Int → List (Int × Int)) (who c : Int) (n : Nat) (x : Al) (B : Ar) (S' : Sg) : Prop where
  z : Alloced A g.pl g.w m S who c n x B S'
  gi : GI B g m S' l
  cv : S'.cv ≤ S.cv + sizeF c
  nz : S.cv + sizeF c ≤ m → x.h ≠ 0
  un : A.uses ≤ B.uses ∧ B.uses ≤ A.uses + g.w + 5
theorem GI.slot {A : Ar} {g : Gd} {m : Int} {S : Sg} {l : Int → List (Int × Int)} (X : GI A g m S l) (hu : A.uses ≤ 900000) {who c : Int} (wh : 0 ≤ who ∧ who < g.w) (hc : 0 ≤ c ∧ c < 4) : ∃ n x B S', SlotZ A g m S l who c n x B S' := by
  obtain ⟨n, x, B, S', Z⟩ := alloc_solo X.sl X.wf (by omega) wh hc
  have sz := sz_pos hc.1 hc.2
  have us := Z.off.us
  have nn := Z.nn
  refine ⟨n, x, B, S', Z, X.alloc hc Z, ?_, fun hm => ?_, ⟨by omega, by omega⟩⟩
  · obtain ⟨kk, b', l', h1, h2, _, _, _, h3, _⟩ | ⟨h1, h2, h3, h4⟩ | ⟨h1, h2, h3, _⟩ := Z.gives.or
    · rw [h3]; show S.cv ≤ _; omega
    · rw [h3]; show S.cv + _ ≤ _; omega
    · rw [h3]; omega
  · obtain ⟨kk, b', l', h1, h2, _, _, hcc, h3, h4⟩ | ⟨h1, h2, h3, h4⟩ | ⟨h1, h2, h3, _⟩ := Z.gives.or
    · rw [h4]; exact (list_name X.sl (by omega) h2 hcc).2.2.2.2
    · rw [h4]; exact (carve_name X.sl hc h2).2.2.2.2
    · exact (h2 hm).elim
end Go.Proofs.Ytcjhakdopnamoaa

set_option linter.unusedVariables false
set_option linter.unusedSimpArgs false
set_option maxRecDepth 20000
namespace Go.Proofs.Ytcjhakdopnamoaa
open Go Go.Fw

section
variable {L : Hands} {R : Value → Heap → Prop} {G : Heap} {rest : Bl} {A A' : Ar} {I : List Nat} {w s th : Int} {ep : Bool}

/-- Left, told. -/
theorem w_GLeft' {g : Gd} {e : List LE} {l : Int → List (Int × Int)} {q mq : Nat} {k : Int} {K : Int → Tree} (hA : Aw I A) (ok : Ok I G (keys (g.bl q mq e ++ rest))) (gs : GdS e l) (h : wp Try.prog (K (l k).length) L (own A (g.bl q mq e ++ rest) G) R) :
    wp Try.prog (.call f_guard_Guard_Left [.pointer (some ⟨q, 0, none⟩), .int .i64 k] (.one (.leaf (.int .i64))) K) L (own A (g.bl q mq e ++ rest) G) R := by
  refine w_GLeft hA ok ?_
  rw [(gs.le k).len, gs.ls k]; exact h
end

structure GL (I : List Nat) (A : Ar) (g : Gd) (S : Sg) (l : Int → List (Int × Int)) (i : Int) : Prop where
  aw : Aw I A
  gi : GI A g 800 S l
  l0 : l 0 = []
  l1 : ((l 1).length : Int) = (i - 1) % g.th
  oc : ∀ k x, x ∈ l k → opC x.1 = 0
  rw : ∀ j, g.pl.carved < j → A.rawF j = 0
  cv : S.cv ≤ 8 * (i - 1)
  us : A.uses ≤ 500 * (i - 1)
  nL : A.nL = 0

end Go.Proofs.Ytcjhakdopnamoaa

set_option linter.unusedVariables false
set_option linter.unusedSimpArgs false
set_option maxRecDepth 20000
namespace Go.Proofs.Ytcjhakdopnamoaa
open Go Go.Fw

theorem totR_nil {l : Int → List (Int × Int)} (h : ∀ k, l k = []) : ∀ n, totR l n = 0
  | 0 => rfl
  | n + 1 => by show totR l n + szs ((l (n : Int)).map Prod.fst) = 0; rw [totR_nil h n, h]; rfl

/-- With no word told all goes. -/
theorem Lkd.all {A B : Ar} {g : Gd} {m : Int} {S : Sg} {l : Int → List (Int × Int)} {k : Int} {keep : Int × Int → Bool} {hs : List Int} (X : GI A g m S l) (hu : A.uses ≤ 900000) (L : Lkd A g m S l k keep hs (forT g) B) (h : ∀ j, g.pl.carved < j → (g.ep = true → j ≠ g.ta) → A.rawF j = 0) :
    ∀ x ∈ l k, keep x = false := fun x hx => by
  have ta := X.ta
  cases he : g.ep with
  | false =>
    cases hk : keep x with
    | false => rfl
    | true =>
      obtain ⟨j, j1, j2⟩ := ((L.ha he).2 x).1 hk
      rw [h _ (by omega) (fun h => by rw [he] at h; cases h)] at j2
      exact (stF_ne0 (by rw [X.st k x hx]; decide) j2.symm).elim
  | true =>
    have f := L.free he fun i hi => h _ (by omega) fun _ => by omega
    have hk := (L.ep he).2.2.2
    obtain ⟨s0, s1⟩ := X.es he k x hx
    obtain ⟨e0, e1⟩ := X.eb he
    have ft : ((forT g : Nat) : Int) = 3 := by unfold forT; rw [if_pos he]; rfl
    rw [hk]
    show (!due _ x) = false
    have : due (B.rawF g.ta) x = true := by
      unfold due
      exact decide_eq_true (by rw [w64_in (by omega) (by omega)]; omega)
    rw [this]; rfl

structure GF (I : List Nat) (A : Ar) (g : Gd) (S : Sg) (l : Int → List (Int × Int)) (who i : Int) : Prop where
  aw : Aw I A
  gi : GI A g 320 S l
  le : ∃ xs, l = setL (fun _ => []) who xs ∧ (xs.length : Int) = i ∧ ∀ x ∈ xs, opC x.1 = 0
  rw : ∀ j, g.pl.carved < j → A.rawF j = 0
  ch : ∀ k, S.ch k = []
  cv : S.cv ≤ 8 * i
  nc : S.nc = 8 * i
  us : A.uses ≤ 500 * i
  nL : A.nL = 0

set_option maxHeartbeats 2000000 in
theorem GuardForces_det (p0 p1 : Int) (p2 : Bool) (H : Heap) : Det Try.prog f_magpielaw14_GuardForces [.int .i64 p0, .int .i64 p1, .bool p2] H (.bool true) H := by
  refine t_magpielaw14_GuardForces_spec fun L => ?_
  unfold t_magpielaw14_GuardForces
  refine w_Place (by omega) (by omega) ?_
  have a0 := Int.emod_nonneg p0 (b := 4) (by omega)
  have a1 := Int.emod_lt_of_pos p0 (b := 4) (by omega)
  generalize p0 % 4 = a at *
  obtain ⟨w, ew⟩ : ∃ w, w = 1 + a := ⟨_, rfl⟩
  have e1 : w64 (1 + a) = w := by rw [ew]; exact w64_in (by omega) (by omega)
  have e2 : w64 (w - 1) = a := by rw [ew]; rw [w64_in (by omega) (by omega)]; omega
  rw [e1]
  refine wp_call_of (gmake_spec p2 w 40 64 (by omega) (by decide) H) ?_
  rintro v K ⟨A, q, mq, rfl, rfl, hI, ok, E, r0, u0, nl, nr⟩
  refine ⟨(aI A.ids, (w, 0, 4 * w, 4 * w + (8 * 40 + 7) / 8, 4 * w + 2 * ((8 * 40 + 7) / 8), ()), some ⟨q, 0, none⟩, ()), rfl, ?_⟩
  have hA := E.aw
  refine w_newP hA ok fun x2 ok1 => ?_
  refine w_stA 0 hA ok1 rfl rfl rfl rfl ?_
  refine look_val (x := false) (np_some _) (wp_false rfl ?_)
  refine look_val (x := false) (npGd _) (wp_false rfl ?_)
  have GI0 := E.gi (th := 64) r0 u0 nl nr
  obtain ⟨g, hg⟩ : ∃ g, g = gdOf p2 w 40 64 := ⟨_, rfl⟩
  have gep : g.ep = p2 := by rw [hg]; rfl
  have gta : g.ta = 4 * w + 81 := by rw [hg]; show 4 * w + 2 * 40 + 1 = _; omega
  have gw : g.w = w := by rw [hg]; rfl
  have gpl : g.pl = plOf w 320 := by rw [hg]; rfl
  have gth : g.th = 64 := by rw [hg]; rfl
  have gca : g.pl.carved = 4 * w + 80 := by rw [gpl]; rfl
  have ok1 : Ok A.ids H (keys ((x2, oc ty_free_Place (plCells (plOf w 320))) :: (gdOf p2 w 40 64).bl q mq [])) := ok1
  show wp Try.prog _ L (own A ((x2, oc ty_free_Place (plCells (plOf w 320))) :: (gdOf p2 w 40 64).bl q mq []) H) _
  rw [← hg] at ok1 GI0 ⊢
  obtain ⟨cP, hcP⟩ : ∃ cP : Nat × Obj, cP = (x2, oc ty_free_Place (plCells (plOf w 320))) := ⟨_, rfl⟩
  rw [← hcP] at ok1 ⊢
  have n0 := Int.emod_nonneg p1 (b := 30) (by omega)
  have n1 := Int.emod_lt_of_pos p1 (b := 30) (by omega)
  generalize hI0 : A.ids = I at *
  rw [e2]
  obtain ⟨pp, ok2⟩ := own_perm (A := A) (l' := g.bl q mq [] ++ [cP]) ok1 (perm_by fun c d c0 cd ca => by simp only [cd, ca, c0]; omega)
  rw [pp]
  refine w_GForce (k := a) hA ok2 gd0 (by decide) (fun _ e gar ok3 gs => ?_) (fun x hx => by cases hx)
  refine look_val (x := false) (neqMc0 _) (wp_false rfl ?_)
  refine w_Place (by omega) (by omega) ?_
  obtain ⟨N, hN⟩ : ∃ N, N = p1 % 30 := ⟨_, rfl⟩
  rw [← hN] at n0 n1 ⊢
  obtain ⟨pp2, ok4⟩ := own_perm (A := A) (l' := cP :: (g.bl q mq e ++ gar)) ok3 (perm_by fun c d c0 cd ca => by simp only [cd, ca, c0]; omega)
  rw [pp2]
  refine wl_bi (fun _ i K => 0 ≤ i ∧ i ≤ N ∧ ∃ B S l e gar, GF I B g S l a i ∧ GdS e l ∧ Ok I H (keys (cP :: (g.bl q mq e ++ gar))) ∧ K = own B (cP :: (g.bl q mq e ++ gar)) H) (fun _ i => (91 - i).toNat) false 0 ⟨Int.le_refl 0, n0, A, S0g, fun _ => [], e, gar, ⟨hA, GI0, ⟨[], (setL_id (fun _ => []) a).symm, rfl, fun _ h => (by cases h)⟩, fun j _ => r0 j, fun _ => rfl, by decide, rfl, by omega, nl⟩, gs, ok4, rfl⟩ ?_
  clear gs ok3 ok4 pp pp2 ok2
  rintro b i K ⟨i0, i2, B, S, l, e, gar, Z, gs, ok2, rfl⟩
  rw [t_magpielaw14_GuardForces_L1, e1, e2]
  have hB := Z.aw
  have zus := Z.us
  have zcv := Z.cv
  obtain ⟨xs, el, xl, xc⟩ := Z.le
  have la : l a = xs := by rw [el, setL_same]
  by_cases hi : i < N
  · refine wp_true (decide_eq_true hi) ?_
    refine w_ldA (x := (w, 0, 4 * w, 4 * w + (8 * 40 + 7) / 8, 4 * w + 2 * ((8 * 40 + 7) / 8), ())) 0 hB ok2 rfl (by rw [hcP]; rfl) rfl ?_
    obtain ⟨n, x, B1, S1, Y⟩ := Z.gi.slot (by omega) (who := a) (c := 0) (by rw [gw]; omega) (by decide)
    have hx0 : x.h ≠ 0 := Y.nz (by rw [show sizeF 0 = 8 from rfl]; omega)
    have run := Y.z.run
    rw [gpl] at run
    have yun := Y.un
    have ynn := Y.z.nn
    rw [gw] at yun ynn
    have hS1 : (∀ k, S1.ch k = []) ∧ S1.cv = S.cv + 8 ∧ S1.nc = S.nc + 8 := by
      obtain ⟨kk, b', l', h1, h2, _⟩ | ⟨h1, h2, h3, h4⟩ | ⟨h1, h2, h3, h4⟩ := Y.z.gives.or
      · rw [Z.ch kk] at h2; cases h2
      · rw [h3]; exact ⟨Z.ch, rfl, rfl⟩
      · exact (hx0 h4).elim
    refine w_one14 (p := plOf w (8 * 40)) run (by omega) hB ok2 fun gar1 ok3 hB1 => ?_
    refine wp_false (ibef hx0) ?_
    obtain ⟨p1', ok4⟩ := own_perm (A := B1) (l' := g.bl q mq e ++ (cP :: (gar ++ gar1))) ok3 (perm_by fun c d c0 cd ca => by simp only [List.cons_append, cd, ca, c0]; omega)
    rw [p1']
    have hst : B1.stF x.h = 1 := by rw [Y.z.st, if_pos ⟨hx0, rfl⟩]
    have hoc : opC x.h = 0 := (Y.z.hd hx0).1
    have ynL : B1.nL = 8 := by rw [Y.z.nL, if_pos hx0, Z.nL]; rfl
    obtain ⟨A1, A', l', S', R1, X1, X', run', hor⟩ := Y.gi.retire_run (q := q) (mq := mq) (k := a) (h := x.h) (by omega) (by rw [gw]; omega) hst (by rw [hoc, ynL]; decide) (by rw [la]; omega) (by rw [gth]; decide)
    rw [la, gth] at hor
    rcases hor with ⟨hlt, ea, eS, el'⟩ | ⟨hge, _⟩
    rotate_left
    · omega
    subst ea; subst eS
    have hA' : Aw I A' := hB1.of R1.al X1.wf
    refine w_retire14 hB1 hA' ok4 gs (by rw [la]; omega) run' fun e' gar' ok5 gs' => ?_
    refine wp_false rfl ?_
    refine w_State hA' ?_
    refine wp_false (ibnf (by rw [R1.st, if_pos rfl])) ?_
    have us1 := R1.us
    rw [show w64 (i + 1) = i + 1 from w64_in (by omega) (by omega)]
    obtain ⟨p6, ok6⟩ := own_perm (A := A') (l' := cP :: (g.bl q mq e' ++ (gar' ++ (gar ++ gar1)))) ok5 (perm_by fun c d c0 cd ca => by simp only [List.cons_append, cd, ca, c0]; omega)
    rw [p6]
    refine wp_again ⟨b, i + 1, rfl, ⟨by omega, by omega, A', S', l', e', _, ⟨hA', X', ⟨xs ++ [(x.h, sinceF g B1)], by rw [el', el, setL_setL], by simp; omega, fun y hy => ?_⟩, fun j hj => ?_, hS1.1, by omega, by have := Z.nc; omega, by omega, by rw [R1.nL, hoc, ynL]; rfl⟩, gs', ok6, rfl⟩, by omega⟩
    · rcases List.mem_append.1 hy with hy | hy
      · exact xc y hy
      · have : y = (x.h, sinceF g B1) := by simpa using hy
        rw [this]; exact hoc
    · rw [R1.rw j (by omega), Y.z.off.rw j hj]; exact Z.rw j hj
  · have hiN : i = N := by omega
    subst hiN
    refine wp_false (decide_eq_false hi) ?_
    obtain ⟨p1', ok4⟩ := own_perm (A := B) (l' := g.bl q mq e ++ (cP :: gar)) ok2 (perm_by fun c d c0 cd ca => by simp only [List.cons_append, cd, ca, c0]; omega)
    rw [p1']
    refine w_GLeft' hB ok4 gs ?_
    refine wp_false (ibnf (by rw [la]; exact xl)) ?_
    refine w_Count hB ?_
    have tR := Z.gi.nR
    have nR0 : B.nR = 8 * i := by
      rw [tR, el, totR_set (by omega) (by rw [gw]; omega), totR_nil (fun _ => rfl), szs8 (xs := xs.map Prod.fst), List.length_map]
      · show (0 : Int) - 0 + _ = _; omega
      · intro y hy
        obtain ⟨z, hz, rfl⟩ := List.mem_map.1 hy
        exact xc z hz
    have e64 : w64 (8 * i) = 8 * i := w64_in (by omega) (by omega)
    refine wp_false (ibnf (show B.nR = w64 (8 * i) by rw [nR0, e64])) ?_
    obtain ⟨A', l', S', X', run', hor⟩ := Z.gi.force_run (q := q) (mq := mq) (k := a) (by omega) (by rw [gw]; omega) (by rw [la]; omega)
    have key : Aw I A' ∧ (∀ k, l' k = []) ∧ S'.nc = 8 * i ∧ A'.nL = 0 := by
      rcases hor with ⟨h0, ea, eS, el'⟩ | ⟨h0, keep, gs2, L1, eS, el'⟩
      · subst ea; subst eS
        refine ⟨hB, fun k => ?_, Z.nc, Z.nL⟩
        rw [el', el]
        by_cases ek : k = a
        · rw [ek, setL_same, ← la, h0]
        · exact setL_ne _ _ ek
      · have hk := L1.all Z.gi (by omega) fun j hj _ => Z.rw j hj
        have hf : (l a).filter keep = [] := List.filter_eq_nil_iff.2 fun y hy h => by rw [hk y hy] at h; cases h
        refine ⟨hB.of L1.al L1.wf, fun k => ?_, by rw [eS, (frS_cv _ _ _).2.1]; exact Z.nc, L1.nL.trans Z.nL⟩
        rw [el', hf, el, setL_setL]
        by_cases ek : k = a
        · rw [ek, setL_same]
        · exact setL_ne _ _ ek
    obtain ⟨hA', hl', hnc, hnL⟩ := key
    have nR1 : A'.nR = 0 := by rw [X'.nR]; exact totR_nil hl' _
    refine w_force14 hB ok4 gs (by rw [la]; omega) run' fun e' gar' ok5 gs' => ?_
    refine wp_false rfl ?_
    refine w_GLeft' hA' ok5 gs' ?_
    refine wp_true (ibeq (by rw [hl']; rfl)) ?_
    refine w_Count hA' ?_
    refine wp_true (ibeq nR1) ?_
    refine w_Count hA' ?_
    have cnt := X'.sl.cnt
    refine wp_true (ibeq (show A'.nF = w64 (8 * i) by rw [e64]; omega)) ?_
    refine w_Fault hA' ?_
    rw [X'.fa]
    refine wp_true rfl ?_
    refine wp_call_det (x := true) (awake14_det _) ?_
    exact ⟨H, own_end hA' ok5 (by rw [← hI0]; rw [hI0]; exact hI), rfl, rfl⟩
end Go.Proofs.Ytcjhakdopnamoaa

