import Derived.Test.YtgnifhkjpekkdaaSaLFree2
set_option linter.unusedVariables false
set_option maxRecDepth 20000
namespace Go.Proofs.Ytgnifhkjpekkdaa
open Go Go.Fw

theorem pushed_ok {A : Ar} {hd lk b i : Int} : (A.pushed hd lk b).rawOk i ↔ A.rawOk i := by unfold Ar.rawOk Ar.pushed; simp only [List.length_set]
theorem popped_ok {A : Ar} {hd lk i : Int} : (A.popped hd lk).rawOk i ↔ A.rawOk i := by unfold Ar.rawOk Ar.popped; simp only [List.length_set]

theorem rawF_pushed {A : Ar} {hd lk b i : Int} (h1 : A.rawOk hd) (h2 : A.rawOk lk) (hi : A.rawOk i) :
    (A.pushed hd lk b).rawF i = if i = hd then nextF (A.rawF hd) (w64 (w64 (Int.tdiv b 8) + 1)) else if i = lk then iand (A.rawF hd) 131071 else A.rawF i := by
  have e : (A.pushed hd lk b).rawF i = (A.pushed hd lk b).raw.getD i.toNat 0 := by unfold Ar.rawF; rw [if_pos (pushed_ok.2 hi)]
  have e2 : A.rawF i = A.raw.getD i.toNat 0 := by unfold Ar.rawF; rw [if_pos hi]
  rw [e, e2]
  unfold Ar.rawOk at h1 h2 hi
  show ((A.raw.set lk.toNat (iand (A.rawF hd) 131071)).set hd.toNat (nextF (A.rawF hd) (w64 (w64 (Int.tdiv b 8) + 1)))).getD i.toNat 0 = _
  rw [List.getD_eq_getElem?_getD, List.getD_eq_getElem?_getD, List.getElem?_set, List.getElem?_set]
  simp only [List.length_set]
  by_cases c1 : i = hd
  · rw [if_pos c1, if_pos (by rw [c1]), if_pos (by omega)]; rfl
  · rw [if_neg c1, if_neg (by omega)]
    by_cases c2 : i = lk
    · rw [if_pos c2, if_pos (by rw [c2]), if_pos (by omega)]; rfl
    · rw [if_neg c2, if_neg (by omega)]

theorem rawF_popped {A : Ar} {hd lk i : Int} (h1 : A.rawOk hd) (hi : A.rawOk i) : (A.popped hd lk).rawF i = if i = hd then nextF (A.rawF hd) (A.rawF lk) else A.rawF i := by
  have e : (A.popped hd lk).rawF i = (A.popped hd lk).raw.getD i.toNat 0 := by unfold Ar.rawF; rw [if_pos (popped_ok.2 hi)]
  have e2 : A.rawF i = A.raw.getD i.toNat 0 := by unfold Ar.rawF; rw [if_pos hi]
  rw [e, e2]
  unfold Ar.rawOk at h1 hi
  show (A.raw.set hd.toNat (nextF (A.rawF hd) (A.rawF lk))).getD i.toNat 0 = _
  rw [List.getD_eq_getElem?_getD, List.getD_eq_getElem?_getD, List.getElem?_set]
  by_cases c1 : i = hd
  · rw [if_pos c1, if_pos (by rw [c1]), if_pos (by omega)]; rfl
  · rw [if_neg c1, if_neg (by omega)]

theorem FreePlaces_det (a b : Int) (H : Heap) : Det Try.prog f_magpielaw10_FreePlaces [.int .i64 a, .int .i64 b] H (.bool true) H := by
  refine t_magpielaw10_FreePlaces_spec fun L => ?_
  unfold t_magpielaw10_FreePlaces
  refine wp_qcall_det (Place_det _ _ (by omega) (by omega) _) ?_
  refine wp_qcall_det (Place_det _ _ (by omega) (by omega) _) ?_
  have a1 := Int.emod_nonneg a (b := 70) (by omega)
  have a2 := Int.emod_lt_of_pos a (b := 70) (by omega)
  have b1 := Int.emod_nonneg b (b := 70000) (by omega)
  have b2 := Int.emod_lt_of_pos b (b := 70000) (by omega)
  generalize a % 70 = w at *
  generalize b % 70000 = m at *
  have e1 : imax w 0 = w := by unfold imax; split <;> omega
  have e2 : imax m 0 = m := by unfold imax; split <;> omega
  have e3 : imax (w64 (-1 - w)) 0 = 0 := by rw [w64_in (by omega) (by omega)]; unfold imax; rw [if_pos (by omega)]
  have e4 : imax (w64 (-1 - m)) 0 = 0 := by rw [w64_in (by omega) (by omega)]; unfold imax; rw [if_pos (by omega)]
  refine wp_call_det (x := ((w, 0, 4 * w, 4 * w + (m + 7) / 8, 4 * w + 2 * ((m + 7) / 8), ()), 4 * w + 2 * ((m + 7) / 8) + 1, ())) (Raw5_det w m w m e1 e2 (by omega) (by omega) H) ?_
  refine wp_newP fun x7 h7 => ?_
  refine wp_stA_of (Heap.set_same _ _ _) (by exact Nat.le_refl 5) (singles _ rfl) ?_
  rw [Heap.set_set]
  refine wp_heap (K := H.set x7 (.cells (plOf w m).cells ty_free_Place (0, 0))) rfl ?_
  refine wp_call_det (x := ((0, 0, 0, 0, 0, ()), 1, ())) (Raw5_det _ _ 0 0 e3 e4 (by omega) (by omega) _) ?_
  refine wp_newP fun x9 h9 => ?_
  obtain ⟨n9, h9⟩ := set_none h9
  refine wp_stA_of (Heap.set_same _ _ _) (by exact Nat.le_refl 5) (singles _ rfl) ?_
  rw [Heap.set_set]
  refine wp_heap (K := (H.set x7 (.cells (plOf w m).cells ty_free_Place (0, 0))).set x9 (.cells (plOf 0 0).cells ty_free_Place (0, 0))) rfl ?_
  have c7 : ((H.set x7 (.cells (plOf w m).cells ty_free_Place (0, 0))).set x9 (.cells (plOf 0 0).cells ty_free_Place (0, 0))) x7 = some (.cells (plOf w m).cells ty_free_Place (0, 0)) := by rw [Heap.set_ne _ _ (Ne.symm n9), Heap.set_same]
  have c9 : ((H.set x7 (.cells (plOf w m).cells ty_free_Place (0, 0))).set x9 (.cells (plOf 0 0).cells ty_free_Place (0, 0))) x9 = some (.cells (plOf 0 0).cells ty_free_Place (0, 0)) := Heap.set_same _ _ _
  have t1 : w64 (Int.tdiv (w64 (m + 7)) 8) = (m + 7) / 8 := by rw [w64_in (x := m + 7) (by omega) (by omega), Int.tdiv_eq_ediv_of_nonneg (by omega), w64_in (by omega) (by omega)]
  have t2 : w64 (4 * w) = 4 * w := w64_in (by omega) (by omega)
  have t3 : w64 (2 * ((m + 7) / 8)) = 2 * ((m + 7) / 8) := w64_in (by omega) (by omega)
  rw [t1, t2, t3, w64_in (x := 4 * w + (m + 7) / 8) (by omega) (by omega), w64_in (x := 4 * w + 2 * ((m + 7) / 8)) (by omega) (by omega), w64_in (x := 4 * w + 2 * ((m + 7) / 8) + 1) (by omega) (by omega)]
  refine wp_ld_of (x := w) ((Heap.cell_of c7 0).trans rfl) (wp_true (ibeq rfl) ?_)
  refine wp_ld_of (x := (0 : Int)) ((Heap.cell_of c7 1).trans rfl) (wp_true (ibeq rfl) ?_)
  refine wp_ld_of (x := 4 * w) ((Heap.cell_of c7 2).trans rfl) (wp_true (ibeq rfl) ?_)
  refine wp_ld_of (x := 4 * w + (m + 7) / 8) ((Heap.cell_of c7 3).trans rfl) (wp_true (ibeq rfl) ?_)
  refine wp_ld_of (x := 4 * w + 2 * ((m + 7) / 8)) ((Heap.cell_of c7 4).trans rfl) (wp_true (ibeq rfl) ?_)
  refine wp_true (ibeq rfl) ?_
  refine wp_ld_of (x := (0 : Int)) ((Heap.cell_of c9 0).trans rfl) (wp_true (ibeq rfl) (wp_true (ibeq rfl) ?_))
  refine wp_call_det (awake10_det _) ?_
  exact ⟨H, Heap.le_trans (Heap.le_set_new _ h7) (Heap.le_set_new _ (by rw [Heap.set_ne _ _ n9]; exact h9)), rfl, rfl⟩

theorem FreeEnds_det (a0 more : Int) (H : Heap) : Det Try.prog f_magpielaw10_FreeEnds [.int .i64 a0, .int .i64 more] H (.bool true) H := by
  refine t_magpielaw10_FreeEnds_spec fun L => ?_
  unfold t_magpielaw10_FreeEnds
  refine wp_call_det (x := ((1, 0, 4, 68, 132, ()), 133, ())) (Raw5_det 1 512 1 512 rfl rfl (by omega) (by omega) H) ?_
  refine wp_newP fun e he => ?_
  refine wp_stA_of (Heap.set_same _ _ _) (by exact Nat.le_refl 5) (singles _ rfl) ?_
  rw [Heap.set_set]
  refine wp_heap (K := H.set e (.cells (plOf 1 512).cells ty_free_Place (0, 0))) rfl ?_
  refine wp_call_of (New_spec 133 512 false _ (by omega) (by omega)) ?_
  rintro v K ⟨A, hm, hi, rfl, rfl⟩
  refine ⟨some ⟨A.a, 0, none⟩, rfl, ?_⟩
  have hA := made_wf hm (by exact Nat.le_of_ble_eq_true rfl) (by exact Nat.le_of_ble_eq_true rfl)
  have hE : ∀ (B : Ar) G, Ar.Alike A B → (H.set e (.cells (plOf 1 512).cells ty_free_Place (0, 0))).le G → (B.put G) e = some (.cells (plOf 1 512).cells ty_free_Place (0, 0)) := fun B G hB hG => by
    rw [Ar.put_out]
    · exact hG _ _ (Heap.set_same _ _ _)
    · intro h; have := hi e (hB.ids ▸ h); rw [Heap.set_same] at this; cases this
  have hle : H.le (H.set e (.cells (plOf 1 512).cells ty_free_Place (0, 0))) := Heap.le_set_new _ he
  refine wp_qcall_det (Place_det _ _ (by omega) (by omega) _) ?_
  have k1 := Int.emod_nonneg a0 (b := 64) (by omega)
  have k2 := Int.emod_lt_of_pos a0 (b := 64) (by omega)
  generalize a0 % 64 = k at *
  refine wp_pl (p := plOf 1 512) (hE A _ (.refl A) (Heap.le_refl _)) (wp_pl (p := plOf 1 512) (hE A _ (.refl A) (Heap.le_refl _)) ?_)
  generalize H.set e (.cells (plOf 1 512).cells ty_free_Place (0, 0)) = H1 at *
  rw [w64_in (x := 8 * k) (by omega) (by omega)]
  refine wp_call_of (NewPush_on (A := A) (plOf 1 512) 0 0 (8 * k)) ?_
  rintro v K ⟨x0, x1, G1, X, rfl, rfl⟩
  refine ⟨some ⟨x0, 0, none⟩, rfl, ?_⟩
  refine chk_pl (p := plOf 1 512) (hE A _ (.refl A) X.le) ?_
  refine wp_call_of (NewPop_on (A := A) (plOf 1 512) 0 0) ?_
  rintro v K ⟨z0, z1, G2, Z, rfl, rfl⟩
  refine ⟨some ⟨z0, 0, none⟩, rfl, ?_⟩
  have l2 := Heap.le_trans X.le Z.le
  refine look_val (x := false) (np_some _) (wp_false rfl ?_)
  refine look_val (x := false) (eh_some _) (wp_false rfl ?_)
  refine look_val (x := false) (eo_some _) (wp_false rfl ?_)
  have rl : A.raw.length = 133 := by rw [hm.raw]; exact List.length_replicate
  have ok : ∀ i : Int, 0 ≤ i → i < 133 → A.rawOk i := fun i h0 h1 => by unfold Ar.rawOk; omega
  have r0 : ∀ i : Int, A.rawF i = 0 := fun i => by
    unfold Ar.rawF
    rw [hm.raw]
    split
    · rw [List.getD_eq_getElem?_getD, List.getElem?_replicate]; split <;> rfl
    · rfl
  have hd0 : headF (plOf 1 512) 0 0 = 0 := by kernel_rfl
  have td : Int.tdiv (8 * k) 8 = k := by rw [Int.tdiv_eq_ediv_of_nonneg (by omega)]; omega
  have hlk : w64 ((plOf 1 512).links + w64 (Int.tdiv (8 * k) 8)) = 4 + k := by
    rw [td, w64_in (x := k) (by omega) (by omega)]; show w64 (4 * 1 + k) = _; rw [w64_in (by omega) (by omega)]; omega
  obtain ⟨u, u1, u2, U⟩ := push_runs (A := A) hA (x := ⟨plOf 1 512, headF (plOf 1 512) 0 0, 0, 0, 8 * k⟩) (G := G2) X.i0 X.i1 X.ne (Z.le _ _ X.g0) (Z.le _ _ X.g1) rfl (lk := 4 + k) hlk
    (by rw [hd0]; exact ok 0 (by omega) (by omega)) (ok _ (by omega) (by omega)) (by show headF (plOf 1 512) 0 0 ≠ _; rw [hd0]; omega) (by rw [hm.uses]; omega)
  refine wp_call_det (x := true) (run_det (t := ty_p_free_Push) (inv_Push x0) U (by omega) rfl) (wp_false rfl ?_)
  rw [hd0] at U ⊢
  have rr : ∀ i, A.rawOk i → (A.pushed 0 (4 + k) (8 * k)).rawF i = if i = 0 then 131072 + (k + 1) else 0 := fun i h => by
    rw [rawF_pushed (ok 0 (by omega) (by omega)) (ok _ (by omega) (by omega)) h, r0, r0, td, w64_in (x := k) (by omega) (by omega), w64_in (x := k + 1) (by omega) (by omega), nextF_eq (by omega) (by omega) (by omega) (by omega), mask17]
    split
    · omega
    · split <;> omega
  have w1 : (A.pushed 0 (4 + k) (8 * k)).wf := pushed_wf hA _ _ _
  have al1 : Ar.Alike A (A.pushed 0 (4 + k) (8 * k)) := pushed_alike _ _ _ _
  have us1 : (A.pushed 0 (4 + k) (8 * k)).uses = 3 := by show A.uses + 3 = 3; rw [hm.uses]; rfl
  have ok1 : ∀ i : Int, 0 ≤ i → i < 133 → (A.pushed 0 (4 + k) (8 * k)).rawOk i := fun i h0 h1 => pushed_ok.2 (ok i h0 h1)
  generalize A.pushed 0 (4 + k) (8 * k) = B at *
  have xn1 : H1 x1 = none := X.n1
  have zn1 : H1 z1 = none := le_none X.le Z.n1
  have l3 := le_set_none l2 u.obj xn1
  have gz0 : (G2.set x1 u.obj) z0 = some (popObj z1) := by rw [Heap.set_ne _ _ (Ne.symm (ne_of X.g1 Z.n0))]; exact Z.g0
  have gz1 : (G2.set x1 u.obj) z1 = some (Po.obj ⟨plOf 1 512, headF (plOf 1 512) 0 0, 0, 0, 0, 0, false⟩) := by rw [Heap.set_ne _ _ (Ne.symm (ne_of X.g1 Z.n1))]; exact Z.g1
  have gx0 : (G2.set x1 u.obj) x0 = some (pushObj x1) := by rw [Heap.set_ne _ _ X.ne]; exact Z.le _ _ X.g0
  have gx1 : (G2.set x1 u.obj) x1 = some u.obj := Heap.set_same _ _ _
  generalize G2.set x1 u.obj = G3 at *
  have hf : iand (B.rawF 0) 131071 = k + 1 := by rw [rr 0 (ok 0 (by omega) (by omega)), if_pos rfl, mask17]; omega
  have hlk2 : w64 (w64 ((plOf 1 512).links + (k + 1)) - 1) = 4 + k := by
    show w64 (w64 (4 * 1 + (k + 1)) - 1) = _; rw [w64_in (x := 4 * 1 + (k + 1)) (by omega) (by omega), w64_in (by omega) (by omega)]; omega
  obtain ⟨p, p1, p2, p3, P⟩ := pop_some (A := B) w1 (x := ⟨plOf 1 512, headF (plOf 1 512) 0 0, 0, 0, 0, 0, false⟩) (G := G3) (by rw [al1.ids]; exact Z.i0) (by rw [al1.ids]; exact Z.i1) Z.ne gz0 gz1 rfl (f := k + 1) (lk := 4 + k)
    (by show B.rawOk (headF (plOf 1 512) 0 0); rw [hd0]; exact ok1 0 (by omega) (by omega)) (by show iand (B.rawF (headF (plOf 1 512) 0 0)) _ = _; rw [hd0]; exact hf) (by omega) hlk2 (ok1 _ (by omega) (by omega)) (by rw [us1]; omega)
  refine wp_call_det (x := true) (run_det (t := ty_p_free_Pop) (inv_Pop z0) P (by omega) (pA_alike al1).symm) (wp_false rfl ?_)
  rw [hd0] at P ⊢
  have w2 : (B.popped 0 (4 + k)).wf := popped_wf w1 _ _
  have al2 : Ar.Alike A (B.popped 0 (4 + k)) := al1.trans (popped_alike _ _ _)
  have us2 : (B.popped 0 (4 + k)).uses = 6 := by show B.uses + 3 = 6; rw [us1]; rfl
  have f2 : iand ((B.popped 0 (4 + k)).rawF 0) 131071 = 0 := by
    rw [rawF_popped (ok1 0 (by omega) (by omega)) (ok1 0 (by omega) (by omega)), if_pos rfl, rr 0 (ok 0 (by omega) (by omega)), if_pos rfl, rr _ (ok (4 + k) (by omega) (by omega)), if_neg (by omega), nextF_eq (by omega) (by omega) (by omega) (by omega), mask17]
    omega
  have ok2 : (B.popped 0 (4 + k)).rawOk 0 := popped_ok.2 (ok1 0 (by omega) (by omega))
  generalize B.popped 0 (4 + k) = C at *
  have l4 := le_set_none l3 p.obj zn1
  have hz0 : (G3.set z1 p.obj) z0 = some (popObj z1) := by rw [Heap.set_ne _ _ Z.ne]; exact gz0
  have hz1 : (G3.set z1 p.obj) z1 = some p.obj := Heap.set_same _ _ _
  have hx0 : (G3.set z1 p.obj) x0 = some (pushObj x1) := by rw [Heap.set_ne _ _ (ne_of X.g0 Z.n1)]; exact gx0
  have hx1 : (G3.set z1 p.obj) x1 = some u.obj := by rw [Heap.set_ne _ _ (ne_of X.g1 Z.n1)]; exact gx1
  generalize G3.set z1 p.obj = G4 at *
  have pa : (.pointer (some ⟨A.a, 0, none⟩) : Value) = pA C := (pA_alike al2).symm
  refine wp_call_det (Uses_at pa us2 _) ?_
  refine wp_qcall_det (Place_det _ _ (by omega) (by omega) _) ?_
  have m1 := Int.emod_nonneg more (b := 5) (by omega)
  have m2 := Int.emod_lt_of_pos more (b := 5) (by omega)
  have xi0 : x0 ∉ C.ids := by rw [al2.ids]; exact X.i0
  have xi1 : x1 ∉ C.ids := by rw [al2.ids]; exact X.i1
  have zi0 : z0 ∉ C.ids := by rw [al2.ids]; exact Z.i0
  have zi1 : z1 ∉ C.ids := by rw [al2.ids]; exact Z.i1
  refine wp_loop_bi (b := false) (fun i K => 0 ≤ i ∧ i < 5 ∧ K = C.put G4) (fun i => i.toNat) (more % 5) ⟨m1, m2, rfl⟩ ?_
  rintro i b K ⟨i0, i1, rfl⟩
  rw [t_magpielaw10_FreeEnds_L1]
  by_cases hp : i > 0
  · refine wp_true (decide_eq_true (by exact hp)) ?_
    have dx := Push_det w2 u xi0 xi1 hx0 hx1
    have ex : u.stepB C = true ∧ u.stepA C = C ∧ u.stepM C = u := by unfold Pu.stepB Pu.stepA Pu.stepM; simp [u1]
    rw [ex.1, ex.2.1, ex.2.2, Heap.set_self hx1] at dx
    refine wp_call_det (x := true) (by rw [pa]; exact dx) (wp_false rfl ?_)
    have dz := Pop_det w2 p zi0 zi1 hz0 hz1
    have ez : p.stepB C = true ∧ p.stepA C = C ∧ p.stepM C = p := by unfold Po.stepB Po.stepA Po.stepM; simp [p1]
    rw [ez.1, ez.2.1, ez.2.2, Heap.set_self hz1] at dz
    refine wp_call_det (x := true) (by rw [pa]; exact dz) (wp_false rfl ?_)
    have e3 : w64 (i - 1) = i - 1 := w64_in (by omega) (by omega)
    exact wp_again ⟨b, i - 1, by rw [e3], ⟨by omega, by omega, rfl⟩, by omega⟩
  · refine wp_false (decide_eq_false (by exact hp)) ?_
    have eb : w64 (w64 (k + 1 - 1) * 8) = 8 * k := by rw [w64_in (x := k + 1 - 1) (by omega) (by omega), w64_in (by omega) (by omega)]; omega
    refine wp_call_det (x := (8 * k, true, ())) (by have := Base_det (A := C) p zi0 zi1 hz0 hz1; rw [p2, p3, eb] at this; exact this) ?_
    rw [w64_in (x := 8 * k) (by omega) (by omega)]
    refine wp_true rfl (wp_true (ibeq rfl) ?_)
    refine wp_call_det (Uses_at pa us2 _) (wp_true (ibeq rfl) ?_)
    refine wp_pl (p := plOf 1 512) (hE C _ al2 l4) ?_
    refine wp_call_of (List_spec (A := C) w2 (plOf 1 512) 0 0 (hd := 0) hd0 ok2 (xs := []) f2 (by exact Nat.zero_lt_succ _) (by show (-1000000 : Int) ≤ 4 * 1 ∧ (4 * 1 : Int) ≤ 1000000; omega) (by rw [us2]; omega) pa _) ?_
    rintro q K ⟨t, G6, rfl, rfl, l6, ht, hb⟩
    refine ⟨t, rfl, ?_⟩
    have tl : t.len = 0 := ht.len
    refine wp_true (by rw [tl]; rfl) ?_
    refine wp_call_det (awake10_det _) ?_
    exact ⟨H, Heap.le_trans hle (Heap.le_trans (put_new (Alike_ids (al2.trans (later_alike C _)) hi)) (Ar.put_le (Heap.le_trans l4 l6))), rfl, rfl⟩
end Go.Proofs.Ytgnifhkjpekkdaa
