import Derived.Test.YtgnifhkjpekkdaaSaCFree6
import Derived.Test.YtgnifhkjpekkdaaSaCRun10
set_option linter.unusedVariables false
set_option maxRecDepth 20000
namespace Go.Proofs.Ytgnifhkjpekkdaa
open Go Go.Fw

/-- The raw words' part of an arena at rest. -/
def raw0 (a r w s b c g : Nat) : Ar := ⟨a, r, w, s, b, c, g, List.replicate 25 0, List.replicate 64 0, false, [], List.replicate 64 false, List.replicate 64 false, [], 0, 0, 0, 0, false, 0⟩
def raw1 (a r w s b c g : Nat) : Ar := (raw0 a r w s b c g).pushed 0 9 8
def raw2 (a r w s b c g : Nat) : Ar := (raw1 a r w s b c g).pushed 0 10 16
def raw3 (a r w s b c g : Nat) : Ar := (raw2 a r w s b c g).later 3
theorem rz0 (a r w s b c g : Nat) : iand ((raw2 a r w s b c g).rawF 0) 131071 = 3 := by kernel_rfl
theorem rz1 (a r w s b c g : Nat) : (raw2 a r w s b c g).rawF (8 + 3 - 1) = 2 := by kernel_rfl
theorem rz2 (a r w s b c g : Nat) : (raw2 a r w s b c g).rawF (8 + 2 - 1) = 0 := by kernel_rfl

theorem awake10_det (H : Heap) : Det Try.prog f_magpielaw10_awake [] H (.bool true) H := by
  refine t_magpielaw10_awake_spec fun L => ?_
  unfold t_magpielaw10_awake
  refine wp_call_det (x := ((2, 0, 8, 16, 24, ()), 25, ())) (Raw5_det 2 64 2 64 rfl rfl (by omega) (by omega) H) ?_
  refine wp_newP fun e he => ?_
  refine wp_stA_of (Heap.set_same _ _ _) (by exact Nat.le_refl 5) (singles _ rfl) ?_
  rw [Heap.set_set]
  have c1 : putAll #[.int .i64 0, .int .i64 0, .int .i64 0, .int .i64 0, .int .i64 0] 0 [.int .i64 2, .int .i64 0, .int .i64 8, .int .i64 16, .int .i64 24] = (plOf 2 64).cells := rfl
  refine wp_heap (K := H.set e (.cells (plOf 2 64).cells ty_free_Place (0, 0))) rfl ?_
  refine wp_call_of (New_spec 25 64 false _ (by omega) (by omega)) ?_
  rintro v K ⟨A, hm, hi, rfl, rfl⟩
  refine ⟨some ⟨A.a, 0, none⟩, rfl, ?_⟩
  have hA := made_wf hm (by exact Nat.le_of_ble_eq_true rfl) (by exact Nat.le_of_ble_eq_true rfl)
  have hE : ∀ (B : Ar) G, Ar.Alike A B → (H.set e (.cells (plOf 2 64).cells ty_free_Place (0, 0))).le G → (B.put G) e = some (.cells (plOf 2 64).cells ty_free_Place (0, 0)) := fun B G hB hG => by
    rw [Ar.put_out]
    · exact hG _ _ (Heap.set_same _ _ _)
    · intro h; have := hi e (hB.ids ▸ h); rw [Heap.set_same] at this; cases this
  have hle : H.le (H.set e (.cells (plOf 2 64).cells ty_free_Place (0, 0))) := Heap.le_set_new _ he
  refine wp_pl (p := plOf 2 64) (hE A _ (.refl A) (Heap.le_refl _)) (wp_pl (p := plOf 2 64) (hE A _ (.refl A) (Heap.le_refl _)) (wp_pl (p := plOf 2 64) (hE A _ (.refl A) (Heap.le_refl _)) ?_))
  generalize H.set e (.cells (plOf 2 64).cells ty_free_Place (0, 0)) = H1 at *
  refine wp_call_of (NewPush_on (A := A) (plOf 2 64) 0 0 8) ?_
  rintro v K ⟨x0, x1, G1, X, rfl, rfl⟩
  refine ⟨some ⟨x0, 0, none⟩, rfl, ?_⟩
  refine chk_pl (p := plOf 2 64) (hE A _ (.refl A) X.le) (chk_pl (p := plOf 2 64) (hE A _ (.refl A) X.le) ?_)
  refine wp_call_of (NewPush_on (A := A) (plOf 2 64) 0 0 16) ?_
  rintro v K ⟨y0, y1, G2, Y, rfl, rfl⟩
  refine ⟨some ⟨y0, 0, none⟩, rfl, ?_⟩
  have l2 := Heap.le_trans X.le Y.le
  refine chk_pl (p := plOf 2 64) (hE A _ (.refl A) l2) ?_
  refine wp_call_of (NewPop_on (A := A) (plOf 2 64) 0 0) ?_
  rintro v K ⟨z0, z1, G3, Z, rfl, rfl⟩
  refine ⟨some ⟨z0, 0, none⟩, rfl, ?_⟩
  have l3 := Heap.le_trans l2 Z.le
  refine look_val (x := false) (np_some _) (wp_false rfl ?_)
  refine look_val (x := false) (eh_some _) (wp_false rfl ?_)
  refine look_val (x := false) (eh_some _) (wp_false rfl ?_)
  refine look_val (x := false) (eo_some _) (wp_false rfl ?_)
  have hA' : A = raw0 A.a A.r A.w A.s A.b A.c A.g := made_eq hm
  generalize A.a = a, A.r = r, A.w = w, A.s = s, A.b = b, A.c = c, A.g = g at *
  subst hA'
  -- the first push
  obtain ⟨u, u1, u2, U⟩ := push_runs (A := raw0 a r w s b c g) hA (x := ⟨plOf 2 64, headF (plOf 2 64) 0 0, 0, 0, 8⟩) (G := G3) X.i0 X.i1 X.ne (Z.le _ _ (Y.le _ _ X.g0)) (Z.le _ _ (Y.le _ _ X.g1)) rfl (lk := 9) (by kernel_rfl)
    (by show (0 : Int) ≤ 0 ∧ (0 : Int) < 25; omega) (by show (0 : Int) ≤ 9 ∧ (9 : Int) < 25; omega) (by show (0 : Int) ≠ 9; omega) (by show (0 : Int) ≤ 0 ∧ (0 : Int) ≤ 1000000000; omega)
  refine wp_call_det (x := true) (run_det (t := ty_p_free_Push) (inv_Push x0) U (by omega) rfl) (wp_false rfl ?_)
  have xn1 : H1 x1 = none := X.n1
  have yn1 : H1 y1 = none := le_none X.le Y.n1
  have zn1 : H1 z1 = none := le_none l2 Z.n1
  have l4 := le_set_none l3 u.obj xn1
  have al1 : Ar.Alike (raw0 a r w s b c g) (raw1 a r w s b c g) := pushed_alike _ _ _ _
  have w1 : (raw1 a r w s b c g).wf := pushed_wf hA _ _ _
  -- the second push
  obtain ⟨v, v1, v2, V⟩ := push_runs (A := raw1 a r w s b c g) w1 (x := ⟨plOf 2 64, headF (plOf 2 64) 0 0, 0, 0, 16⟩) (G := G3.set x1 u.obj) Y.i0 Y.i1 Y.ne
    (by rw [Heap.set_ne _ _ (Ne.symm (ne_of X.g1 Y.n0))]; exact Z.le _ _ Y.g0) (by rw [Heap.set_ne _ _ (Ne.symm (ne_of X.g1 Y.n1))]; exact Z.le _ _ Y.g1) rfl (lk := 10) (by kernel_rfl)
    (by show (0 : Int) ≤ 0 ∧ (0 : Int) < 25; omega) (by show (0 : Int) ≤ 10 ∧ (10 : Int) < 25; omega) (by show (0 : Int) ≠ 10; omega) (by show (0 : Int) ≤ 0 + 3 ∧ (0 + 3 : Int) ≤ 1000000000; omega)
  refine wp_call_det (x := true) (run_det (t := ty_p_free_Push) (inv_Push y0) V (by omega) rfl) (wp_false rfl ?_)
  have l5 := le_set_none l4 v.obj yn1
  have al2 : Ar.Alike (raw0 a r w s b c g) (raw2 a r w s b c g) := al1.trans (pushed_alike _ _ _ _)
  have w2 : (raw2 a r w s b c g).wf := pushed_wf w1 _ _ _
  refine wp_pl (p := plOf 2 64) (hE (raw2 a r w s b c g) _ al2 l5) ?_
  have hc : chain (raw2 a r w s b c g) 8 (iand ((raw2 a r w s b c g).rawF 0) 131071) [16, 8] := by
    rw [rz0]
    refine ⟨by omega, by omega, by omega, ⟨by omega, by show (8 + 3 - 1 : Int) < 25; omega⟩, ?_⟩
    rw [rz1]
    refine ⟨by omega, by omega, by omega, ⟨by omega, by show (8 + 2 - 1 : Int) < 25; omega⟩, ?_⟩
    exact rz2 a r w s b c g
  refine wp_call_of (List_spec (A := raw2 a r w s b c g) w2 (plOf 2 64) 0 0 (hd := 0) (by kernel_rfl) (by show (0 : Int) ≤ 0 ∧ (0 : Int) < 25; omega) hc (by show 2 < 10000; omega)
    (by show (-1000000 : Int) ≤ 8 ∧ (8 : Int) ≤ 1000000; omega) (by show (0 : Int) ≤ 0 + 3 + 3 ∧ (0 + 3 + 3 : Int) ≤ 1000000000; omega) rfl _) ?_
  rintro q K ⟨t, G6, rfl, rfl, l6, ht, hb⟩
  refine ⟨t, rfl, ?_⟩
  have tl : t.len = 2 := ht.len
  refine wp_false (by rw [tl]; rfl) ?_
  have l7 := Heap.le_trans l5 l6
  have w3 : (raw3 a r w s b c g).wf := later_wf w2 _
  have hz0 : G6 z0 = some (popObj z1) := l6 _ _ (by rw [Heap.set_ne _ _ (Ne.symm (ne_of (Y.g1) Z.n0)), Heap.set_ne _ _ (Ne.symm (ne_of (Y.le _ _ X.g1) Z.n0))]; exact Z.g0)
  have hz1 : G6 z1 = some (Po.obj ⟨plOf 2 64, headF (plOf 2 64) 0 0, 0, 0, 0, 0, false⟩) := l6 _ _ (by rw [Heap.set_ne _ _ (Ne.symm (ne_of (Y.g1) Z.n1)), Heap.set_ne _ _ (Ne.symm (ne_of (Y.le _ _ X.g1) Z.n1))]; exact Z.g1)
  obtain ⟨p, p1, p2, p3, P⟩ := pop_some (A := raw3 a r w s b c g) w3 (x := ⟨plOf 2 64, headF (plOf 2 64) 0 0, 0, 0, 0, 0, false⟩) (G := G6) Z.i0 Z.i1 Z.ne hz0 hz1 rfl (f := 3) (lk := 10)
    (by show (0 : Int) ≤ 0 ∧ (0 : Int) < 25; omega) (rz0 a r w s b c g) (by omega) (by kernel_rfl) (by show (0 : Int) ≤ 10 ∧ (10 : Int) < 25; omega) (by show (0 : Int) ≤ 0 + 3 + 3 + 3 ∧ (0 + 3 + 3 + 3 : Int) ≤ 1000000000; omega)
  refine wp_call_det (x := true) (run_det (t := ty_p_free_Pop) (inv_Pop z0) P (by omega) rfl) (wp_false rfl ?_)
  have hp1 : (G6.set z1 p.obj) z1 = some p.obj := Heap.set_same _ _ _
  have hp0 : (G6.set z1 p.obj) z0 = some (popObj z1) := by rw [Heap.set_ne _ _ Z.ne]; exact hz0
  refine wp_call_det (x := (16, true, ())) (by
    have := Base_det (A := (raw3 a r w s b c g).popped (headF (plOf 2 64) 0 0) 10) p Z.i0 Z.i1 hp0 hp1
    rw [p2, p3] at this; exact this) ?_
  refine wp_true rfl (wp_true rfl (wp_true rfl ?_))
  refine wp_call_det (x := false) (Fault_at (A := (raw3 a r w s b c g).popped (headF (plOf 2 64) 0 0) 10) rfl rfl _) ?_
  exact ⟨H, Heap.le_trans hle (Heap.le_trans (put_new (A := (raw3 a r w s b c g).popped (headF (plOf 2 64) 0 0) 10) hi) (Ar.put_le (le_set_none l7 _ zn1))), rfl, rfl⟩
end Go.Proofs.Ytgnifhkjpekkdaa
