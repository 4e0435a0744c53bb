/- Texts of this claim, one behind the other. -/
import Derived.Test.YtcjhakdopnamoaaCWGuardLeft4
set_option linter.unusedSimpArgs false
set_option linter.unusedVariables false
set_option linter.unusedVariables false
set_option linter.unusedSimpArgs false
set_option maxRecDepth 20000
namespace Go.Proofs.Ytcjhakdopnamoaa
open Go Go.Fw

theorem mod_next {i th a : Int} (h1 : 1 ≤ th) (ha : a = (i - 1) % th) : i % th = if a + 1 < th then a + 1 else 0 := by
  have d := Int.emod_add_mul_ediv (i - 1) th
  have a0 := Int.emod_nonneg (i - 1) (b := th) (by omega)
  have a1 := Int.emod_lt_of_pos (i - 1) (b := th) (by omega)
  rw [← ha] at d a0 a1
  have e : i = a + 1 + th * ((i - 1) / th) := by omega
  split
  · rename_i h
    rw [e, Int.add_mul_emod_self_left, Int.emod_eq_of_lt (by omega) h]
  · have : a + 1 = th := by omega
    rw [e, Int.add_mul_emod_self_left, this, Int.emod_self]

section
variable {L : Hands} {R : Value → Heap → Prop} {G : Heap} {rest : Bl} {A A' : Ar} {I : List Nat} {w s th : Int} {ep : Bool}

theorem w_ckRem {i t v : Int} {K : Heap} {s : Tree} (h0 : 0 ≤ i) (h1 : 1 ≤ t) (hv : v = i % t) (h : wp Try.prog s L K R) : wp Try.prog (.check (opS Try.prog (.binOp .rem ty_int (.tmp 0) (.tmp 1) ty_int) ty_int [(.int .i64 i), (.int .i64 t)]) (.int .i64 v) s) L K R := by
  refine check_val ?_ h
  rw [opS_rem (by omega), hv, Int.tmod_eq_emod_of_nonneg h0]
theorem w_rem {i t : Int} {K : Heap} {k : Int → Tree} (h0 : 0 ≤ i) (h1 : 1 ≤ t) (h : wp Try.prog (k (i % t)) L K R) : wp Try.prog (.look (opS Try.prog (.binOp .rem ty_int (.tmp 0) (.tmp 1) ty_int) ty_int [(.int .i64 i), (.int .i64 t)]) (.one (.leaf (.int .i64))) k) L K R := by
  refine look_val (x := i % t) ?_ h
  rw [opS_rem (by omega), Int.tmod_eq_emod_of_nonneg h0]

/-- Left, told. -/
theorem w_GLeft' {g : Gd} {e : List LE} {l : Int → List (Int × Int)} {q mq : Nat} {k : Int} {K : Int → Tree} (hA : Aw I A) (ok : Ok I G (keys (g.bl q mq e ++ rest))) (gs : GdS e l) (h : wp Try.prog (K (l k).length) L (own A (g.bl q mq e ++ rest) G) R) :
    wp Try.prog (.call f_guard_Guard_Left [.pointer (some ⟨q, 0, none⟩), .int .i64 k] (.one (.leaf (.int .i64))) K) L (own A (g.bl q mq e ++ rest) G) R := by
  refine w_GLeft hA ok ?_
  rw [(gs.le k).len, gs.ls k]; exact h
end

structure GL (I : List Nat) (A : Ar) (g : Gd) (S : Sg) (l : Int → List (Int × Int)) (i : Int) : Prop where
  aw : Aw I A
  gi : GI A g 800 S l
  l0 : l 0 = []
  l1 : ((l 1).length : Int) = (i - 1) % g.th
  oc : ∀ k x, x ∈ l k → opC x.1 = 0
  rw : ∀ j, g.pl.carved < j → A.rawF j = 0
  cv : S.cv ≤ 8 * (i - 1)
  us : A.uses ≤ 500 * (i - 1)
  nL : A.nL = 0

set_option maxHeartbeats 2000000 in
theorem GuardLeft_det (p0 p1 : Int) (H : Heap) : Det Try.prog f_magpielaw14_GuardLeft [.int .i64 p0, .int .i64 p1] H (.bool true) H := by
  refine t_magpielaw14_GuardLeft_spec fun L => ?_
  unfold t_magpielaw14_GuardLeft
  refine w_Place (by omega) (by omega) ?_
  have a0 := Int.emod_nonneg p0 (b := 20) (by omega)
  have a1 := Int.emod_lt_of_pos p0 (b := 20) (by omega)
  generalize p0 % 20 = a at *
  obtain ⟨th, eth⟩ : ∃ th, th = 1 + a := ⟨_, rfl⟩
  have e1 : w64 (1 + a) = th := by rw [eth]; exact w64_in (by omega) (by omega)
  rw [e1]
  refine wp_call_of (gmake_spec false 2 100 th (by decide) (by decide) H) ?_
  rintro v K ⟨A, q, mq, rfl, rfl, hI, ok, E, r0, u0, nl, nr⟩
  refine ⟨(aI A.ids, (2, 0, 4 * 2, 4 * 2 + (8 * 100 + 7) / 8, 4 * 2 + 2 * ((8 * 100 + 7) / 8), ()), some ⟨q, 0, none⟩, ()), rfl, ?_⟩
  have hA := E.aw
  refine w_newP hA ok fun x2 ok1 => ?_
  refine w_stA 0 hA ok1 rfl rfl rfl rfl ?_
  refine look_val (x := false) (np_some _) (wp_false rfl ?_)
  refine look_val (x := false) (npGd _) (wp_false rfl ?_)
  have GI0 := E.gi (th := th) r0 u0 nl nr
  obtain ⟨g, hg⟩ : ∃ g, g = gdOf false 2 100 th := ⟨_, rfl⟩
  have gep : g.ep = false := by rw [hg]; rfl
  have gta : g.ta = 209 := by rw [hg]; rfl
  have gw : g.w = 2 := by rw [hg]; rfl
  have gpl : g.pl = plOf 2 800 := by rw [hg]; rfl
  have gth : g.th = th := by
    rw [hg]; show imax 1 (imin th 64) = th
    unfold imax imin; split <;> split <;> omega
  have gca : g.pl.carved = 208 := by rw [gpl]; rfl
  have ok1 : Ok A.ids H (keys ((x2, oc ty_free_Place (plCells (plOf 2 800))) :: (gdOf false 2 100 th).bl q mq [])) := ok1
  show wp Try.prog _ L (own A ((x2, oc ty_free_Place (plCells (plOf 2 800))) :: (gdOf false 2 100 th).bl q mq []) H) _
  rw [← hg] at ok1 GI0 ⊢
  obtain ⟨cP, hcP⟩ : ∃ cP : Nat × Obj, cP = (x2, oc ty_free_Place (plCells (plOf 2 800))) := ⟨_, rfl⟩
  rw [← hcP] at ok1 ⊢
  have n0 := Int.emod_nonneg p1 (b := 90) (by omega)
  have n1 := Int.emod_lt_of_pos p1 (b := 90) (by omega)
  generalize hI0 : A.ids = I at *
  refine wl_bi (fun _ i K => 1 ≤ i ∧ i ≤ p1 % 90 + 1 ∧ ∃ B S l e gar, GL I B g S l i ∧ GdS e l ∧ Ok I H (keys (cP :: (g.bl q mq e ++ gar))) ∧ K = own B (cP :: (g.bl q mq e ++ gar)) H) (fun _ i => (91 - i).toNat) false 1 ⟨Int.le_refl 1, by show (1 : Int) ≤ p1 % 90 + 1; omega, A, S0g, fun _ => [], [], [], ⟨hA, GI0, rfl, ?_, fun _ _ h => (by cases h), fun j _ => r0 j, by decide, by omega, nl⟩, gd0, by rw [List.append_nil]; exact ok1, by rw [List.append_nil]⟩ ?_
  · rw [gth]; show (0 : Int) = (1 - 1) % th; rw [show (1 : Int) - 1 = 0 from rfl, Int.zero_emod]
  rintro b i K ⟨i1, i2, B, S, l, e, gar, Z, gs, ok2, rfl⟩
  rw [t_magpielaw14_GuardLeft_L1]
  refine w_Place (by omega) (by omega) ?_
  have hB := Z.aw
  by_cases hi : i ≤ p1 % 90
  rotate_left
  · refine wp_false (decide_eq_false hi) ?_
    refine w_Fault hB ?_
    rw [Z.gi.fa]
    refine wp_true rfl ?_
    refine wp_call_det (x := true) (awake14_det _) ?_
    exact ⟨H, own_end hB ok2 (by rw [← hI0]; rw [hI0]; exact hI), rfl, rfl⟩
  refine wp_true (decide_eq_true hi) ?_
  refine w_ldA (x := (2, 0, 4 * 2, 4 * 2 + (8 * 100 + 7) / 8, 4 * 2 + 2 * ((8 * 100 + 7) / 8), ())) 0 hB ok2 rfl (by rw [hcP]; rfl) rfl ?_
  obtain ⟨n, x, B1, S1, Y⟩ := Z.gi.slot (by have := Z.us; omega) (who := 1) (c := 0) (by rw [gw]; decide) (by decide)
  have zcv := Z.cv
  have zus := Z.us
  have hx0 : x.h ≠ 0 := Y.nz (by rw [show sizeF 0 = 8 from rfl]; omega)
  have run := Y.z.run
  rw [gpl] at run
  have yun := Y.un
  have ycv := Y.cv
  rw [show sizeF 0 = 8 from rfl] at ycv
  have ynn := Y.z.nn
  rw [gw] at yun ynn
  refine w_one14 (p := plOf 2 (8 * 100)) run (by omega) hB ok2 fun gar1 ok3 hB1 => ?_
  refine wp_false (ibef hx0) ?_
  obtain ⟨p1', ok4⟩ := own_perm (A := B1) (l' := g.bl q mq e ++ (cP :: (gar ++ gar1))) ok3 (perm_by fun c d c0 cd ca => by simp only [List.cons_append, cd, ca, c0]; omega)
  rw [p1']
  have hst : B1.stF x.h = 1 := by rw [Y.z.st, if_pos ⟨hx0, rfl⟩]
  have hoc : opC x.h = 0 := (Y.z.hd hx0).1
  have ynL : B1.nL = 8 := by rw [Y.z.nL, if_pos hx0, Z.nL]; rfl
  have thb : 1 ≤ g.th ∧ g.th ≤ 20 := by omega
  have m0 := Int.emod_nonneg (i - 1) (b := g.th) (by omega)
  have m1 := Int.emod_lt_of_pos (i - 1) (b := g.th) (by omega)
  have zl1 := Z.l1
  obtain ⟨A1, A', l', S', R1, X1, X', run', hor⟩ := Y.gi.retire_run (q := q) (mq := mq) (k := 1) (h := x.h) (by omega) (by rw [gw]; decide) hst (by rw [hoc, ynL]; decide) (by omega) (by omega)
  have es : sinceF g B1 = 0 := by unfold sinceF; rw [if_neg (by rw [gep]; decide)]
  rw [es] at X1 hor
  have hA' : Aw I A' := by
    rcases hor with ⟨_, e1, _⟩ | ⟨_, keep, gs', L1, _⟩
    · rw [e1]; exact hB1.of R1.al X1.wf
    · exact hB1.of (R1.al.trans L1.al) L1.wf
  refine w_retire14 hB1 hA' ok4 gs (by omega) run' fun e' gar' ok5 gs' => ?_
  refine wp_false rfl ?_
  rw [e1]
  have c0 : ∀ j, 208 < j → B1.rawF j = 0 := fun j hj => by rw [Y.z.off.rw j (by omega)]; exact Z.rw j (by omega)
  -- what it came to
  have key : GL I A' g S' l' (i + 1) ∧ A'.nR = 8 * (i % th) ∧ (decide (A'.stF x.h = 0) = decide (i % th = 0)) := by
    have mn := mod_next (i := i) (th := g.th) (a := (i - 1) % g.th) thb.1 rfl
    have hl0 : ∀ ys, setL l 1 ys 0 = l 0 := fun ys => setL_ne l ys (by decide)
    have oc1 : ∀ k y, y ∈ setL l 1 (l 1 ++ [(x.h, 0)]) k → opC y.1 = 0 := fun k y hy => by
      by_cases ek : k = 1
      · rw [ek, setL_same] at hy
        rcases List.mem_append.1 hy with hy | hy
        · exact Z.oc 1 y hy
        · have : y = (x.h, 0) := by simpa using hy
          rw [this]; exact hoc
      · rw [setL_ne l _ ek] at hy; exact Z.oc k y hy
    have r1 : ∀ j, 208 < j → A1.rawF j = 0 := fun j hj => by rw [R1.rw j (by omega)]; exact c0 j hj
    have us1 := R1.us
    have nRof : ∀ {D : Ar} {S : Sg} {ll : Int → List (Int × Int)}, GI D g 800 S ll → ll 0 = [] → (∀ y, y ∈ ll 1 → opC y.1 = 0) → D.nR = 8 * ((ll 1).length : Int) := fun {D S ll} X h0 h1 => by
      have h2 := X.nR
      have h3 : totR ll g.w.toNat = 0 + szs ((ll 0).map Prod.fst) + szs ((ll 1).map Prod.fst) := by rw [gw]; rfl
      rw [h2, h3, h0, szsL h1]; show (0 : Int) + 0 + _ = _; omega
    rcases hor with ⟨hlt, ea, eS, el⟩ | ⟨hge, keep, gs2, L1, eS, el⟩
    · subst ea; subst eS
      rw [zl1] at hlt
      rw [if_pos hlt] at mn
      have hlen : (((l' 1).length : Nat) : Int) = i % g.th := by rw [el, setL_same, List.length_append, mn]; show (((l 1).length + 1 : Nat) : Int) = _; omega
      refine ⟨⟨hA', X', by rw [el, hl0]; exact Z.l0, by rw [hlen]; congr 1; omega, by rw [el]; exact oc1, fun j hj => r1 j (by omega), by omega, by omega, by rw [R1.nL, hoc, ynL]; rfl⟩, ?_, ?_⟩
      · rw [← gth, ← hlen]; exact nRof X' (by rw [el, hl0]; exact Z.l0) (by rw [el]; exact oc1 1)
      · rw [R1.st, if_pos rfl, ← gth, mn, decide_eq_false (by decide), decide_eq_false (by omega)]
    · have hkeep : ∀ y ∈ l 1 ++ [(x.h, 0)], keep y = false := fun y hy => by
        cases hk : keep y with
        | false => rfl
        | true =>
          obtain ⟨j, j1, j2⟩ := ((L1.ha gep).2 y).1 hk
          rw [r1 _ (by omega)] at j2
          have s2 := X1.st 1 y (by rw [setL_same]; exact hy)
          exact (stF_ne0 (by rw [s2]; decide) j2.symm).elim
      have hf : (l 1 ++ [(x.h, (0 : Int))]).filter keep = [] := List.filter_eq_nil_iff.2 fun y hy h => by rw [hkeep y hy] at h; cases h
      rw [hf] at el
      rw [if_neg (by omega)] at mn
      have lus := L1.us
      rw [setL_same, hf, List.length_append] at lus
      have lus2 : A'.uses ≤ A1.uses + 202 * ((1 : Nat) : Int) + 3 * (((l 1).length + 1 : Nat) - ((0 : Nat) : Int)) := lus.2
      have hl1' : l' 1 = [] := by rw [el, setL_same]
      have oc' : ∀ k y, y ∈ l' k → opC y.1 = 0 := fun k y hy => by
        by_cases ek : k = 1
        · rw [ek, hl1'] at hy; cases hy
        · rw [el, setL_ne l _ ek] at hy; exact Z.oc k y hy
      refine ⟨⟨hA', X', by rw [el, hl0]; exact Z.l0, ?_, oc', fun j hj => ?_, ?_, by omega, by rw [L1.nL, R1.nL, hoc, ynL]; rfl⟩, ?_, ?_⟩
      · rw [hl1', show i + 1 - 1 = i by omega, mn]; rfl
      · by_cases ej : j = g.ta
        · rw [ej, (L1.ha gep).1]; exact r1 _ (by omega)
        · rw [L1.rw j hj ej]; exact r1 _ (by omega)
      · rw [eS, (frS_cv _ _ _).1]; omega
      · rw [nRof X' (by rw [el, hl0]; exact Z.l0) (oc' 1), hl1', ← gth, mn]; rfl
      · have hg0 : x.h ∈ gs2 := L1.gone.2 ⟨(x.h, 0), by rw [setL_same]; simp, hkeep _ (by simp), rfl⟩
        rw [L1.st, if_pos hg0, ← gth, mn]
  obtain ⟨Z', knR, kst⟩ := key
  have kl1 := Z'.l1
  rw [gth, show i + 1 - 1 = i by omega] at kl1
  have t1 : 1 ≤ th := by omega
  have im0 := Int.emod_nonneg i (b := th) (by omega)
  have im1 := Int.emod_lt_of_pos i (b := th) (by omega)
  have i0 : (0 : Int) ≤ i := by omega
  have e64 : w64 (8 * (i % th)) = 8 * (i % th) := w64_in (by omega) (by omega)
  refine w_rem i0 t1 ?_
  refine w_GLeft' hA' ok5 gs' ?_
  refine w_ckRem i0 t1 rfl ?_
  refine wp_false (ibnf kl1) ?_
  refine w_GLeft' hA' ok5 gs' ?_
  refine wp_false (ibnf (by rw [Z'.l0]; rfl)) ?_
  refine w_rem i0 t1 ?_
  refine w_Count hA' ?_
  refine w_ckRem i0 t1 rfl ?_
  refine wp_false (ibnf (show A'.nR = w64 (8 * (i % th)) by rw [knR, e64])) ?_
  refine w_rem i0 t1 ?_
  refine w_State hA' ?_
  refine w_ckRem i0 t1 rfl ?_
  refine wp_false (by
    have : (A'.stF x.h == 0) = (i % th == 0) := by have h := kst; simp only [decide_eq_decide] at h; rw [Bool.eq_iff_iff, beq_iff_eq, beq_iff_eq]; exact h
    rw [this]; simp) ?_
  rw [show w64 (i + 1) = i + 1 from w64_in (by omega) (by omega)]
  obtain ⟨p6, ok6⟩ := own_perm (A := A') (l' := cP :: (g.bl q mq e' ++ (gar' ++ (gar ++ gar1)))) ok5 (perm_by fun c d c0 cd ca => by simp only [List.cons_append, cd, ca, c0]; omega)
  rw [p6]
  exact wp_again ⟨b, i + 1, rfl, ⟨by omega, by omega, A', S', l', e', _, Z', gs', ok6, rfl⟩, by omega⟩
end Go.Proofs.Ytcjhakdopnamoaa

