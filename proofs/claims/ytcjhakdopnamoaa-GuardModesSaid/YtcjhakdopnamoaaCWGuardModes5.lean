/- Texts of this claim, one behind the other. -/
import Derived.Test.YtcjhakdopnamoaaCWGuardModes4
set_option linter.unusedSimpArgs false
set_option linter.unusedVariables false
set_option linter.unusedVariables false
set_option linter.unusedSimpArgs false
set_option maxRecDepth 20000
namespace Go.Proofs.Ytcjhakdopnamoaa
open Go Go.Fw

theorem npGd (a : Addr) : opS Try.prog (.binOp .eql ty_p_guard_Guard (.tmp 0) (.const (.pointer none)) ty_p_guard_Guard) ty_bool [(.pointer (some a))] = .pure (.value (.bool false)) := by kernel_rfl
abbrev S0g : Sg := ⟨fun _ => [], 0, fun _ => 0, fun _ => -1, 0⟩
theorem runs_pos {M J : Type} {X : Mch M J} {n : Nat} {m m' : M} {A A' : Ar} (h : X.Runs n m A m' A') : 1 ≤ n := by
  cases h <;> omega
theorem gd0 : GdS [] fun _ => [] := ⟨fun k => .inl ⟨rfl, rfl⟩, fun k => rfl⟩

/-- The first slot of all. -/
structure One1 (I : List Nat) (A : Ar) (ep : Bool) (w s k : Int) (n : Nat) (x : Al) (A' : Ar) (S' : Sg) : Prop where
  run : mAl.Runs n (newAl (plOf w (8 * s)) k 0) A x A'
  nn : (n : Int) ≤ w + 5
  sl : SL A' (plOf w (8 * s)) w (8 * s) S'
  off : Off (plOf w (8 * s)).carved n A A'
  h0 : x.h ≠ 0
  hc : opC x.h = 0
  st : A'.stF x.h = 1
  nL : A'.nL = A.nL + 8
  nR : A'.nR = A.nR
  nc : S'.nc = 8
theorem g_one1 {I : List Nat} {A : Ar} {ep : Bool} {w s k : Int} (E : GZ I A ep w s S0g) (hs : 1 ≤ s) (hu : A.uses ≤ 1000) (hk : 0 ≤ k ∧ k < w) : ∃ n x A' S', One1 I A ep w s k n x A' S' := by
  obtain ⟨n, x', A2, S', Z⟩ := alloc_solo E.sl E.aw.wf (by omega) (who := k) (c := 0) hk (by decide)
  refine ⟨n, x', A2, S', ?_⟩
  obtain ⟨kk, b', l, h1, h2, _⟩ | ⟨h1, h2, h3, h4⟩ | ⟨h1, h2, _⟩ := Z.gives.or
  · rw [ask_nil (fun _ => rfl)] at h1; cases h1
  rotate_left
  · exfalso; apply h2; show 0 + 8 ≤ 8 * s; omega
  obtain ⟨o1, o2, o3, o4, o5⟩ := carve_name E.sl (by decide) h2
  rw [← h4] at o1 o2 o3 o4 o5
  have hst := Z.st x'.h
  rw [if_pos ⟨o5, rfl⟩] at hst
  have nL := Z.nL
  rw [if_pos o5, show sizeF 0 = 8 from rfl] at nL
  exact ⟨Z.run, Z.nn, Z.sl, Z.off, o5, o3, hst, nL, Z.nR, by rw [h3]; rfl⟩

section
variable {L : Hands} {R : Value → Heap → Prop} {G : Heap} {l rest : Bl} {A A' : Ar} {I : List Nat}

theorem w_GRetire {g : Gd} {e : List LE} {ls : Int → List (Int × Int)} {q mq : Nat} {k h : Int} {K : Value → Tree} (hA : Aw I A) (ok : Ok I G (keys (g.bl q mq e ++ rest))) (gs : GdS e ls) (hl : (ls k).length < 1000)
    (h0 : retM g ls k h = none → ∀ e' gar, Ok I G (keys (g.bl q mq e' ++ (gar ++ rest))) → GdS e' (setL ls k (ls k ++ [(h, 0)])) → wp Try.prog (K .nilIface) L (own (A.retireF h) (g.bl q mq e' ++ (gar ++ rest)) G) R)
    (h1 : ∀ x, retM g ls k h = some x → ∀ j : LkJ, Ok I G (keys (x.bl j ++ rest)) → (mLk q mq).rep x j → wp Try.prog (K (.iface ty_p_guard_look (.pointer (some ⟨j.q, 0, none⟩)))) L (own (A.retireF h) (x.bl j ++ rest) G) R) :
    wp Try.prog (.call f_guard_Guard_Retire [.pointer (some ⟨q, 0, none⟩), .pointer (aI I), .int .i64 k, .int .i64 h] (.one (.leaf .val)) K) L (own A (g.bl q mq e ++ rest) G) R := by
  rw [keys_append] at ok
  obtain ⟨o1, o2⟩ := ok.split
  refine w_sub (retire_spec hA o1 gs hl) ?_
  intro v H hp
  unfold GPost at hp
  cases hm : retM g ls k h with
  | none =>
    rw [hm] at hp
    obtain ⟨e', gar, rfl, rfl, o, gs'⟩ := hp
    refine ⟨_, rfl, ?_⟩
    rw [← own_append, List.append_assoc]
    refine h0 hm e' gar ?_ gs'
    have := o.join o2
    rw [← keys_append, List.append_assoc] at this
    exact this
  | some x =>
    rw [hm] at hp
    obtain ⟨j, rfl, rfl, o, rp⟩ := hp
    refine ⟨_, rfl, ?_⟩
    rw [← own_append]
    exact h1 x hm j (by rw [keys_append]; exact o.join o2) rp

set_option maxHeartbeats 1000000 in
theorem awake14_det (H : Heap) : Det Try.prog f_magpielaw14_awake [] H (.bool true) H := by
  refine t_magpielaw14_awake_spec fun L => ?_
  unfold t_magpielaw14_awake
  refine wp_call_of (gmake_spec false 2 4 1 (by decide) (by decide) H) ?_
  rintro v K ⟨A, q, mq, rfl, rfl, hI, ok, E, r0, u0, nl, nr⟩
  refine ⟨(aI A.ids, (2, 0, 4 * 2, 4 * 2 + (8 * 4 + 7) / 8, 4 * 2 + 2 * ((8 * 4 + 7) / 8), ()), some ⟨q, 0, none⟩, ()), rfl, ?_⟩
  have hA := E.aw
  refine w_newP hA ok fun x2 ok1 => ?_
  refine w_stA 0 hA ok1 rfl rfl rfl rfl ?_
  refine look_val (x := false) (np_some _) (wp_false rfl ?_)
  refine look_val (x := false) (npGd _) (wp_false rfl ?_)
  have ok1 : Ok A.ids H (keys ((x2, oc ty_free_Place (plCells (plOf 2 32))) :: (gdOf false 2 4 1).bl q mq [])) := ok1
  show wp Try.prog _ L (own A ((x2, oc ty_free_Place (plCells (plOf 2 32))) :: (gdOf false 2 4 1).bl q mq []) H) _
  obtain ⟨p1, ok2⟩ := own_perm (A := A) (l' := (gdOf false 2 4 1).bl q mq [] ++ [(x2, oc ty_free_Place (plCells (plOf 2 32)))]) ok1 (perm_by fun c d c0 cd ca => by simp only [cd, ca, c0]; omega)
  rw [p1]
  refine w_GEnter hA ok2 (fun h => by cases h) fun _ => ?_
  refine look_val (x := false) (neqMc0 _) (wp_false rfl ?_)
  rw [← p1]
  refine w_ldA 0 hA ok1 rfl rfl rfl ?_
  obtain ⟨n, x, A1, S1, Z⟩ := g_one1 E (by decide) (by omega) (k := 0) (by decide)
  have nn := Z.nn
  refine w_one14 (p := plOf 2 32) Z.run (by omega) hA ok1 fun gar ok3 hA1 => ?_
  refine wp_true (ibne Z.h0) ?_
  obtain ⟨p2, ok4⟩ := own_perm (A := A1) (l' := (gdOf false 2 4 1).bl q mq [] ++ ((x2, oc ty_free_Place (plCells (plOf 2 32))) :: gar)) ok3 (perm_by fun c d c0 cd ca => by simp only [List.cons_append, cd, ca, c0]; omega)
  rw [p2]
  have n1 := runs_pos Z.run
  have off := Z.off.us
  have zl := Z.nL
  have zr := Z.nR
  have rl := E.rl
  have rl : (A.raw.length : Int) = 21 := rl
  obtain ⟨Y, yst, yL, yR⟩ := Z.sl.retire (by omega) Z.st ⟨by rw [Z.hc, show sizeF 0 = 8 from rfl]; omega, by rw [Z.hc, show sizeF 0 = 8 from rfl]; omega⟩
  have ro := Off.retireF (c := (plOf 2 32).carved) hA1.wf x.h
  have ru := ro.us
  have rr := ro.rl
  have zrl := Z.off.rl
  have hx0 := Z.h0
  rw [Z.hc, show sizeF 0 = 8 from rfl] at yR
  refine w_GRetire (k := 0) (h := x.h) hA1 ok4 gd0 (by decide) (fun h => by cases h) fun y hy j ok5 rp => ?_
  have hy : some (retLk (gdOf false 2 4 1) (fun _ => []) 0 x.h).begin = some y := hy
  obtain rfl := Option.some.inj hy
  have hA2 : Aw A.ids (A1.retireF x.h) := hA1.retireF x.h
  generalize A1.retireF x.h = A2 at *
  have rw0 : ∀ i, 16 < i → A2.rawF i = 0 := fun i hi => by
    have c16 : (plOf 2 32).carved = 16 := rfl
    rw [ro.rw i (by rw [c16]; exact hi), Z.off.rw i (by show (16 : Int) < i; exact hi)]; exact r0 i
  have in1 : inS (seenN A2 17 (2 * (2 : Int)).toNat) x.h = false := by
    cases h : inS (seenN A2 17 (2 * (2 : Int)).toNat) x.h with
    | false => rfl
    | true =>
      exfalso
      obtain ⟨i, i1, i2⟩ := (seenN_in A2 17 x.h _).1 h
      rw [rw0 _ (by omega)] at i2; exact hx0 i2.symm
  have eg : gone A2 2 17 [x.h] = [x.h] := by unfold gone; simp only [List.filter_cons, in1]; rfl
  have el : lft A2 2 17 [x.h] = [] := by unfold lft; simp only [List.filter_cons, in1]; rfl
  obtain ⟨A3, S3, m', n3, run, en, ml, me, W⟩ := scan_all (tw := 2) (ta := 17) (who := 0) (xs := [x.h]) Y hA2.wf (by decide) (by show 1 ≤ 1000; decide) (by decide) (by rw [rr, zrl]; omega) (by rw [rr, zrl]; omega) (by omega) (by decide) (by simp) (by rw [yR]; show (8 : Int) * 1 ≤ _; omega) fun h hh => by
    have : h = x.h := by simpa using hh
    subst this
    rw [yst, if_pos rfl]; exact ⟨rfl, Z.hc⟩
  rw [eg] at en W
  rw [el] at ml
  have lift := sc_lift (gq := q) (mq := mq) (g := gdOf false 2 4 1) (ls := setL (fun _ => []) 0 [(x.h, 0)]) (work := 0) (by rw [setL_same]; exact Nat.succ_le_succ (Nat.zero_le 999)) (by decide) run (Nat.zero_le 1000)
  refine w_runR14 (mLk_ok q mq) (mLk_inv q mq) lift (by rw [en]; show 2 * 2 + 3 * 1 ≤ 3000; decide) (j := j) hA2 ok5 rp fun j' ha hA3 ok6 rp6 => ?_
  refine wp_true rfl ?_
  refine w_State hA3 ?_
  have s1 : A3.stF x.h = 0 := by rw [W.st, if_pos (by simp)]
  refine wp_true (ibeq s1) ?_
  have ok7 : Ok A.ids H (keys ((j'.q, oc ty_guard_look (lkC j'.gq 0 false 0 .nilIface)) :: ((gdOf false 2 4 1).bl j'.gq j'.mq j'.e ++ ([] ++ j'.gar)) ++ ((x2, oc ty_free_Place (plCells (plOf 2 32))) :: gar))) := ok6
  show wp Try.prog _ L (own A3 ((j'.q, oc ty_guard_look (lkC j'.gq 0 false 0 .nilIface)) :: ((gdOf false 2 4 1).bl j'.gq j'.mq j'.e ++ ([] ++ j'.gar)) ++ ((x2, oc ty_free_Place (plCells (plOf 2 32))) :: gar)) H) _
  obtain ⟨rp7, e1, e2⟩ := rp6
  obtain ⟨p3, ok8⟩ := own_perm (A := A3) (l' := (gdOf false 2 4 1).bl q mq j'.e ++ ((j'.q, oc ty_guard_look (lkC j'.gq 0 false 0 .nilIface)) :: (j'.gar ++ ((x2, oc ty_free_Place (plCells (plOf 2 32))) :: gar)))) ok7 (perm_by fun c d c0 cd ca => by rw [e1, e2]; simp only [List.cons_append, List.append_assoc, List.nil_append, cd, ca]; omega)
  rw [p3]
  refine w_GLeft hA3 ok8 ?_
  have z0 : (leGet j'.e 0).s.len = 0 := by
    rw [(rp7.le 0).len, rp7.ls 0]
    show (setL (setL (fun _ => []) 0 [(x.h, 0)]) 0 (m'.left.map fun h => (h, (0 : Int))) 0).length = 0
    rw [setL_same, ml]; rfl
  rw [z0]
  exact ⟨H, own_end hA3 ok8 hI, rfl, rfl⟩
end
end Go.Proofs.Ytcjhakdopnamoaa

set_option linter.unusedVariables false
set_option linter.unusedSimpArgs false
set_option maxRecDepth 20000
namespace Go.Proofs.Ytcjhakdopnamoaa
open Go Go.Fw

def Mch.toR {M J : Type} (X : Mch M J) : MchR M J := ⟨X.f, X.addr, X.bl, fun _ _ => True, X.inv, X.step, X.fin⟩
theorem Mch.toR_ok {M J : Type} {X : Mch M J} (h : X.ok) : X.toR.ok := fun I A G m j hA ok _ hi => by
  obtain ⟨h0⟩ : Nonempty (SpecF Try.prog X.f #[.pointer (some ⟨X.addr j, 0, none⟩), .pointer (aI I)] (own A (X.bl m j) G) fun v K => ∃ j', v = .bool (X.fin (X.step m A).1) ∧ K = own (X.step m A).2 (X.bl (X.step m A).1 j') G ∧ X.addr j' = X.addr j ∧ Ok I G (keys (X.bl (X.step m A).1 j')) ∧ Aw I (X.step m A).2) := ⟨h I A G m j hA ok hi⟩
  refine h0.mono ?_
  rintro v K ⟨j', a, b, c, d, e⟩
  exact ⟨j', a, b, c, d, trivial, e⟩
theorem Mch.toR_runs {M J : Type} {X : Mch M J} {n : Nat} {m m' : M} {A A' : Ar} (h : X.Runs n m A m' A') : X.toR.Runs n m A m' A' := by
  induction h with
  | one hi hu hf => exact .one hi rfl hu hf
  | more hi hu hf _ ih => exact .more hi rfl hu hf ih
theorem set1 {a v : Int} {A : Ar} (hu : (A.storeR a v).uses ≤ w64 (A.uses + 1)) : mSe.Runs 1 ⟨[a], v⟩ A ⟨[], v⟩ (A.storeR a v) := .one trivial rfl hu rfl
theorem set2 {a b v : Int} {A : Ar} (hu : (A.storeR a v).uses ≤ w64 (A.uses + 1)) (hu2 : ((A.storeR a v).storeR b v).uses ≤ w64 ((A.storeR a v).uses + 1)) : mSe.Runs 2 ⟨[a, b], v⟩ A ⟨[], v⟩ ((A.storeR a v).storeR b v) := .more trivial rfl hu rfl (set1 hu2)
end Go.Proofs.Ytcjhakdopnamoaa

set_option linter.unusedVariables false
set_option linter.unusedSimpArgs false
set_option maxRecDepth 20000
namespace Go.Proofs.Ytcjhakdopnamoaa
open Go Go.Fw

set_option maxHeartbeats 2000000 in
theorem GuardModes_det (p0 p1 p2 : Int) (p3 : Bool) (H : Heap) : Det Try.prog f_magpielaw14_GuardModes [.int .i64 p0, .int .i64 p1, .int .i64 p2, .bool p3] H (.bool true) H := by
  refine t_magpielaw14_GuardModes_spec fun L => ?_
  unfold t_magpielaw14_GuardModes
  refine w_Place (by omega) (by omega) ?_
  have a0 := Int.emod_nonneg p0 (b := 8) (by omega)
  have a1 := Int.emod_lt_of_pos p0 (b := 8) (by omega)
  generalize p0 % 8 = a at *
  have e1 : w64 (1 + a) = 1 + a := w64_in (by omega) (by omega)
  rw [e1]
  obtain ⟨w, ew⟩ : ∃ w, w = 1 + a := ⟨_, rfl⟩
  rw [← ew]
  refine wp_call_of (gmake_spec p3 w 8 4 (by omega) (by decide) H) ?_
  rintro v K ⟨A, q, mq, rfl, rfl, hI, ok, E, r0, u0, nl, nr⟩
  refine ⟨(aI A.ids, (w, 0, 4 * w, 4 * w + (8 * 8 + 7) / 8, 4 * w + 2 * ((8 * 8 + 7) / 8), ()), some ⟨q, 0, none⟩, ()), rfl, ?_⟩
  have hA := E.aw
  refine w_newP hA ok fun x2 ok1 => ?_
  refine w_stA 0 hA ok1 rfl rfl rfl rfl ?_
  refine look_val (x := false) (np_some _) (wp_false rfl ?_)
  refine look_val (x := false) (npGd _) (wp_false rfl ?_)
  refine w_Place (by omega) (by omega) ?_
  refine w_Place (by omega) (by omega) ?_
  have k0 := Int.emod_nonneg p1 (b := w) (by omega)
  have k1 := Int.emod_lt_of_pos p1 (b := w) (by omega)
  generalize p1 % w = k at *
  have s0 := Int.emod_nonneg p2 (b := 2) (by omega)
  have s1 := Int.emod_lt_of_pos p2 (b := 2) (by omega)
  generalize p2 % 2 = sl at *
  obtain ⟨g, hg⟩ : ∃ g, g = gdOf p3 w 8 4 := ⟨_, rfl⟩
  have gep : g.ep = p3 := by rw [hg]; rfl
  have gta : g.ta = 4 * w + 17 := by rw [hg]; show 4 * w + 2 * 8 + 1 = _; omega
  have gw : g.w = w := by rw [hg]; rfl
  have ok1 : Ok A.ids H (keys ((x2, oc ty_free_Place (plCells (plOf w (8 * 8)))) :: (gdOf p3 w 8 4).bl q mq [])) := ok1
  show wp Try.prog _ L (own A ((x2, oc ty_free_Place (plCells (plOf w (8 * 8)))) :: (gdOf p3 w 8 4).bl q mq []) H) _
  rw [← hg] at ok1 ⊢
  refine w_ldA 0 hA ok1 rfl rfl rfl ?_
  obtain ⟨n, x, A1, S1, Z⟩ := g_one1 E (by decide) (by omega) (k := k) ⟨k0, k1⟩
  have nn := Z.nn
  refine w_one14 (p := plOf w (8 * 8)) Z.run (by omega) hA ok1 fun gar ok3 hA1 => ?_
  refine w_Uses hA1 ?_
  refine wp_false (ibef Z.h0) ?_
  obtain ⟨rest, hrest⟩ : ∃ rest : Bl, rest = (x2, oc ty_free_Place (plCells (plOf w (8 * 8)))) :: gar := ⟨_, rfl⟩
  obtain ⟨p2, ok4⟩ := own_perm (A := A1) (l' := g.bl q mq [] ++ rest) ok3 (perm_by fun c d c0 cd ca => by rw [hrest]; simp only [List.cons_append, cd, ca, c0]; omega)
  rw [p2]
  have off := Z.off.us
  have E1 : GZ A.ids A1 p3 w 8 S1 := ⟨hA1, Z.sl, Z.off.fa.trans E.fa, by rw [Z.off.rl]; exact E.rl, E.wb, E.sb⟩
  have rl := E1.rl
  have car : (plOf w (8 * 8)).carved = 4 * w + 16 := by show 4 * w + 2 * ((8 * 8 + 7) / 8) = _; omega
  have u1 : 0 ≤ A1.uses ∧ A1.uses ≤ 100 := by omega
  have raw0 : ∀ i, 4 * w + 16 < i → A1.rawF i = 0 := fun i hi => by rw [Z.off.rw i (by rw [car]; exact hi)]; exact r0 i
  have SL1 := Z.sl
  have hA1' := hA1
  have wv : ∀ x y : Int, x = y → -1000 ≤ y → y ≤ 1000 → w64 x = y := fun x y h h1 h2 => by rw [h]; exact w64_in (by omega) (by omega)
  have d0 : w64 (A1.uses - A1.uses) = 0 := wv _ 0 (by omega) (by decide) (by decide)
  cases p3 with
  | false =>
    have rl : (A1.raw.length : Int) = 4 * w + 2 * 8 + 1 + 2 * w := rl
    refine w_GEnter hA1 ok4 (fun h => by rw [gep] at h; cases h) fun _ => ?_
    refine w_run14_nil (wp_false rfl ?_)
    refine w_Uses hA1 ?_
    refine w_GProtect (by rw [gta]; omega) hA1 ok4 (fun _ j ok5 rp5 => ?_) (fun h => by rw [gep] at h; cases h)
    have O := outS SL1 (i := g.ta + 2 * k + sl) (v := x.h) ⟨by rw [car, gta]; omega, by rw [gta]; omega⟩ (by omega)
    have ou := O.us
    have orl := O.rl
    obtain ⟨p4, ok6⟩ := own_rot' (A := A1) ok5
    rw [p4]
    refine w_runR14 mSe_ok mSe_inv (set1 (by rw [ou, w64_in (x := A1.uses + 1) (by omega) (by omega)]; exact Int.le_refl _)) (by decide) (j := j) hA1 ok6 rp5 fun j' ha hA2 ok7 rp7 => ?_
    refine wp_false rfl ?_
    refine w_Uses hA2 ?_
    have ok7 : Ok A.ids H (keys (Se.bl ⟨[], x.h⟩ j' ++ (g.bl q mq [] ++ rest))) := ok7
    show wp Try.prog _ L (own (A1.storeR (g.ta + 2 * k + sl) x.h) (Se.bl ⟨[], x.h⟩ j' ++ (g.bl q mq [] ++ rest)) H) _
    generalize A1.storeR (g.ta + 2 * k + sl) x.h = A2 at *
    obtain ⟨p5, ok8⟩ := own_rot' (A := A2) ok7
    rw [p5]
    refine w_GLeave (by rw [gta]; omega) hA2 ok8 fun j2 z ok9 rp9 => ?_
    have hlw : leaveW g k = [g.ta + 2 * k, g.ta + 2 * k + 1] := by unfold leaveW; rw [gep]; rfl
    rw [hlw] at ok9 rp9 ⊢
    have O2 := outS O.sl (i := g.ta + 2 * k) (v := 0) ⟨by rw [car, gta]; omega, by rw [orl, gta]; omega⟩ (by omega)
    have ou2 := O2.us
    have orl2 := O2.rl
    have O3 := outS O2.sl (i := g.ta + 2 * k + 1) (v := 0) ⟨by rw [car, gta]; omega, by rw [orl2, orl, gta]; omega⟩ (by omega)
    have ou3 := O3.us
    obtain ⟨p6, ok10⟩ := own_rot' (A := A2) ok9
    rw [p6]
    refine w_runR14 mSe_ok mSe_inv (set2 (by rw [ou2, w64_in (x := A2.uses + 1) (by omega) (by omega)]; exact Int.le_refl _) (by rw [ou3, w64_in (x := (A2.storeR (g.ta + 2 * k) 0).uses + 1) (by omega) (by omega)]; exact Int.le_refl _)) (by decide) (j := j2) hA2 ok10 rp9 fun j3 ha hA4 ok11 rp11 => ?_
    refine wp_false rfl ?_
    refine w_Uses hA4 ?_
    refine wp_false rfl ?_
    have d1 : w64 (A2.uses - A1.uses) = 1 := wv _ 1 (by omega) (by decide) (by decide)
    generalize (A2.storeR (g.ta + 2 * k) 0).storeR (g.ta + 2 * k + 1) 0 = A4 at *
    have d2 : w64 (A4.uses - A1.uses) = 3 := wv _ 3 (by omega) (by decide) (by decide)
    refine wp_true (ibeq d0) ?_
    refine look_val (x := true) (neqMc _ _ _) (wp_true rfl ?_)
    refine wp_true (ibeq (by rw [d1, d0]; rfl)) ?_
    refine wp_true (ibeq (by rw [d1, d0, d2]; rfl)) ?_
    refine wp_call_det (x := 2 * w) (GRaw_det false ⟨by omega, by omega⟩ _) ?_
    refine wp_true (ibeq (by rw [wv (w * 2) (2 * w) (by omega) (by omega) (by omega)])) ?_
    refine wp_call_det (x := true) (awake14_det _) ?_
    exact ⟨H, own_end hA4 ok11 hI, rfl, rfl⟩
  | true =>
    have rl : (A1.raw.length : Int) = 4 * w + 2 * 8 + 1 + (1 + w) := rl
    refine w_GEnter hA1 ok4 (fun _ z ok5 => ?_) (fun h => by rw [gep] at h; cases h)
    obtain ⟨m', run⟩ := pin_solo (A := A1) (tw := g.w) (ta := g.ta) (who := k) (e := 0) (by rw [gta]; omega) ⟨k0, by omega⟩ (by rw [gta]; omega) (by omega) u1.1 (by omega) (raw0 _ (by rw [gta]; omega)) (by decide)
    have O := outS (SL1.later (n := 1) (by decide)) (i := g.ta + 1 + k) (v := 0 + 1) ⟨by rw [car, gta]; omega, by show _ < (A1.raw.length : Int); rw [gta]; omega⟩ (by show A1.uses + 1 ≤ _; omega)
    have ou : ((A1.later 1).storeR (g.ta + 1 + k) (0 + 1)).uses = A1.uses + 1 + 1 := O.us
    have orl : ((A1.later 1).storeR (g.ta + 1 + k) (0 + 1)).raw.length = A1.raw.length := O.rl
    obtain ⟨p4, ok6⟩ := own_rot' (A := A1) ok5
    rw [p4]
    refine w_runR14 (X := mPn.toR) (Mch.toR_ok mPn_ok) mPn_inv (Mch.toR_runs run) (by decide) (j := z) hA1 ok6 trivial fun j' ha hA2 ok7 rp7 => ?_
    refine wp_false rfl ?_
    refine w_Uses hA2 ?_
    have ok7 : Ok A.ids H (keys (Pn.bl m' j' ++ (g.bl q mq [] ++ rest))) := ok7
    have SL2 := O.sl.later (n := 1) (by decide)
    have ou2 : (((A1.later 1).storeR (g.ta + 1 + k) (0 + 1)).later 1).uses = A1.uses + 3 := by show ((A1.later 1).storeR (g.ta + 1 + k) (0 + 1)).uses + 1 = _; rw [ou]; omega
    have orl2 : (((A1.later 1).storeR (g.ta + 1 + k) (0 + 1)).later 1).raw.length = A1.raw.length := orl
    show wp Try.prog _ L (own (((A1.later 1).storeR (g.ta + 1 + k) (0 + 1)).later 1) (Pn.bl m' j' ++ (g.bl q mq [] ++ rest)) H) _
    generalize ((A1.later 1).storeR (g.ta + 1 + k) (0 + 1)).later 1 = A2 at *
    obtain ⟨p5, ok8⟩ := own_rot' (A := A2) ok7
    rw [p5]
    refine w_GProtect (by rw [gta]; omega) hA2 ok8 (fun h => by rw [gep] at h; cases h) fun _ => ?_
    refine w_run14_nil (wp_false rfl ?_)
    refine w_Uses hA2 ?_
    refine w_GLeave (by rw [gta]; omega) hA2 ok8 fun j2 z ok9 rp9 => ?_
    have hlw : leaveW g k = [g.ta + 1 + k] := by unfold leaveW; rw [gep]; show [ewd g.ta k] = _; rw [ewd_eq ⟨by rw [gta]; omega, by rw [gta]; omega, k0, by omega⟩]
    rw [hlw] at ok9 rp9 ⊢
    have O3 := outS SL2 (i := g.ta + 1 + k) (v := 0) ⟨by rw [car, gta]; omega, by rw [orl2, gta]; omega⟩ (by omega)
    have ou3 := O3.us
    obtain ⟨p6, ok10⟩ := own_rot' (A := A2) ok9
    rw [p6]
    refine w_runR14 mSe_ok mSe_inv (set1 (by rw [ou3, w64_in (x := A2.uses + 1) (by omega) (by omega)]; exact Int.le_refl _)) (by decide) (j := j2) hA2 ok10 rp9 fun j3 ha hA4 ok11 rp11 => ?_
    refine wp_false rfl ?_
    refine w_Uses hA4 ?_
    refine wp_true rfl ?_
    have d1 : w64 (A2.uses - A1.uses) = 3 := wv _ 3 (by omega) (by decide) (by decide)
    generalize A2.storeR (g.ta + 1 + k) 0 = A4 at *
    have d2 : w64 (A4.uses - A1.uses) = 4 := wv _ 4 (by omega) (by decide) (by decide)
    refine wp_true (ibeq d1) ?_
    refine look_val (x := true) (eqlMc0 _) (wp_true rfl ?_)
    refine wp_true (ibeq (by rw [d1]; rfl)) ?_
    refine wp_true (ibeq (by rw [d1, d2]; rfl)) ?_
    refine wp_call_det (x := 1 + w) (GRaw_det true ⟨by omega, by omega⟩ _) ?_
    refine wp_true (ibeq (by rw [wv (w + 1) (1 + w) (by omega) (by omega) (by omega)])) ?_
    refine wp_call_det (x := true) (awake14_det _) ?_
    exact ⟨H, own_end hA4 ok11 hI, rfl, rfl⟩
end Go.Proofs.Ytcjhakdopnamoaa

