import Derived.Test.YtgnifhkjpekkdaaSaLCopy0
import Derived.Test.YtgnifhkjpekkdaaSaPArena
set_option linter.unusedVariables false
set_option maxRecDepth 20000
namespace Go.Proofs.Ytgnifhkjpekkdaa
open Go Go.Fw

/-- An arena in which the two buffers live, at rest but for uses. -/
structure Rc (A : Ar) (f t : Int) (B : Ar) : Prop where
  wf : B.wf
  al : Ar.Alike A B
  sf : B.stF f = 1
  st : B.stF t = 1
  fa : B.fault = false

theorem rc_touch {A B : Ar} {f t h off : Int} (hB : Rc A f t B) (hi : B.inOk h off) : Rc A f t (B.touch h off) ∧ (B.touch h off).uses = w64 (B.uses + 1) ∧ ∀ k j, (B.touch h off).loadF k j = B.loadF k j := by
  refine ⟨⟨touch_wf hB.wf _ _, hB.al.trans (touch_alike _ _ _), (stF_touch ..).trans hB.sf, (stF_touch ..).trans hB.st, ?_⟩, ?_, fun k j => loadF_touch ..⟩
  · rw [touch_yes hi]; exact hB.fa
  · rw [touch_yes hi]; rfl
theorem rc_store {A B : Ar} {f t h off : Int} (v : Int) (hB : Rc A f t B) (hi : B.inOk h off) : Rc A f t (B.storeF h off v) ∧ (B.storeF h off v).uses = w64 (B.uses + 1) ∧ ∀ k j, B.inOk k j → (B.storeF h off v).loadF k j = if pos k j = pos h off then v else B.loadF k j := by
  refine ⟨⟨storeF_wf hB.wf _ _ _, hB.al.trans (storeF_alike _ _ _ _), (stF_storeF ..).trans hB.sf, (stF_storeF ..).trans hB.st, ?_⟩, ?_, fun k j hk => loadF_storeF hB.wf hi hk⟩
  · rw [storeF_yes hi]; exact hB.fa
  · rw [storeF_yes hi]; rfl

theorem mod_ne {k i j n : Int} (h0 : 0 ≤ j) (h1 : j < i) (h2 : i < n) : (k + j) % n ≠ (k + i) % n := by
  intro e
  have h := Int.emod_emod_of_dvd (k + i) (Int.dvd_refl n)
  have h3 : (k + i - (k + j)) % n = 0 := Int.emod_eq_emod_iff_emod_sub_eq_zero.1 e.symm
  rw [show k + i - (k + j) = i - j by omega, Int.emod_eq_of_lt (by omega) (by omega)] at h3
  omega

theorem bornOk_first {A : Ar} {r w : Nat} {fr : Bool} (hm : A.made r w fr) {h : Int} (ho : openOk h = true) (hf : opB h + sizeF (opC h) ≤ w) : A.bornOk h := by
  refine ⟨ho, by rw [hm.words]; simpa using hf, ?_, ?_⟩
  · rw [hm.gens]
    show (0 : Int) < opG h
    unfold opG; rw [ho, if_pos rfl]
    obtain ⟨⟨_, _, h3, _⟩, _⟩ := open_ok ho
    omega
  · intro i _
    rw [hm.busy, List.getD_eq_getElem?_getD, List.getElem?_replicate]
    split <;> rfl

theorem bornOk_next {A : Ar} (hA : A.wf) {h k : Int} (hb : A.bornOk k) (ho : openOk h = true) (hne : opB h ≠ opB k) (hf : opB h + sizeF (opC h) ≤ A.words.length) (hg : alGet A.gens (opB h) = none)
    (hd : opB k + sizeF (opC k) ≤ opB h) (hfree : A.free h) : (A.bornF k).bornOk h := by
  have o1 := opB_nat h
  have o2 := opB_nat k
  have o3 := size_opC k
  refine ⟨ho, by rw [bornF_wl]; exact hf, ?_, ?_⟩
  · rw [bornF_gens, alGet_put, if_neg hne, hg]
    show (0 : Int) < opG h
    unfold opG; rw [ho, if_pos rfl]
    obtain ⟨⟨_, _, h3, _⟩, _⟩ := open_ok ho
    omega
  · intro i hi
    have := hfree i hi
    rw [List.getD_eq_getElem?_getD] at this ⊢
    rw [bornF_busy, setN_get, if_neg (by omega)]
    exact this

set_option maxHeartbeats 2000000 in
theorem RingCopies_det (a0 a1 a2 a3 : Int) (H : Heap) : Det Try.prog f_magpielaw15_RingCopies [.int .i64 a0, .int .i64 a1, .int .i64 a2, .int .i64 a3] H (.bool true) H := by
  refine t_magpielaw15_RingCopies_spec fun L => ?_
  unfold t_magpielaw15_RingCopies
  refine wp_call_of (New_spec 0 256 false H (by omega) (by omega)) ?_
  rintro v K ⟨A, hm, hi, rfl, rfl⟩
  refine ⟨some ⟨A.a, 0, none⟩, rfl, ?_⟩
  have hA := made_wf hm (by exact Nat.le_of_ble_eq_true rfl) (by exact Nat.le_of_ble_eq_true rfl)
  have hwl : A.words.length = 256 := by rw [hm.words]; exact List.length_replicate
  refine wp_qcall_det (Place_det _ _ (by omega) (by omega) _) ?_
  have f1 := Int.emod_nonneg a0 (b := 3) (by omega)
  have f2 := Int.emod_lt_of_pos a0 (b := 3) (by omega)
  have t1 := Int.emod_nonneg a1 (b := 4) (by omega)
  have t2 := Int.emod_lt_of_pos a1 (b := 4) (by omega)
  have k1 := Int.emod_nonneg a2 (b := 1000) (by omega)
  have k2 := Int.emod_lt_of_pos a2 (b := 1000) (by omega)
  have vf : validN 0 1 (a0 % 3) := ⟨by omega, by omega, by omega, by omega, by omega, by omega⟩
  have vt : validN 64 1 (a1 % 4) := ⟨by omega, by omega, by omega, by omega, by omega, by omega⟩
  refine wp_qcall_det (Pack_det _ _ _ _) ?_
  refine wp_qcall_det (Place_det _ _ (by omega) (by omega) _) ?_
  refine wp_qcall_det (Pack_det _ _ _ _) ?_
  obtain ⟨pf1, pf2, pf3, pf4⟩ := opB_pack vf
  obtain ⟨pt1, pt2, pt3, pt4⟩ := opB_pack vt
  generalize packF 0 1 (a0 % 3) = f at *
  generalize packF 64 1 (a1 % 4) = t at *
  have sf : sizeF (opC f) = 8 ∨ sizeF (opC f) = 16 ∨ sizeF (opC f) = 32 := by
    rw [pf3]; have := sizeF_cases f1 (by omega : a0 % 3 < 4); omega
  have st : sizeF (opC t) = 8 ∨ sizeF (opC t) = 16 ∨ sizeF (opC t) = 32 ∨ sizeF (opC t) = 64 := by
    rw [pt3]; have := sizeF_cases t1 t2; omega
  have rf : roomF f = sizeF (opC f) := by unfold roomF opC; rw [pf4, if_pos rfl, if_pos rfl]
  have rt : roomF t = sizeF (opC t) := by unfold roomF opC; rw [pt4, if_pos rfl, if_pos rfl]
  refine look_val (x := false) (np_some _) (wp_false rfl ?_)
  have o1 : A.bornOk f := bornOk_first hm pf4 (by omega)
  refine wp_call_det (x := true) (Born_yes hA o1 rfl H) (wp_false rfl ?_)
  have w1 := bornF_wf hA f o1.2.1
  have l1 := bornF_alike A f
  have o2 : (A.bornF f).bornOk t := bornOk_next hA o1 pt4 (by omega) (by omega) (by rw [hm.gens]; rfl) (by omega) (bornOk_first hm pt4 (by omega)).2.2.2
  refine wp_call_det (x := true) (Born_yes w1 o2 (pA_alike l1).symm H) (wp_false rfl ?_)
  have w2 := bornF_wf w1 t o2.2.1
  have l2 := l1.trans (bornF_alike _ t)
  have rc0 : Rc A f t ((A.bornF f).bornF t) := by
    refine ⟨w2, l2, ?_, ?_, ?_⟩
    · rw [stF_bornF, if_neg (by omega), stF_bornF, if_pos rfl, if_pos ⟨pf4, rfl⟩]
    · rw [stF_bornF, if_pos rfl, if_pos ⟨pt4, rfl⟩]
    · rw [bornF_fault, bornF_fault, hm.fault]
  have us0 : ((A.bornF f).bornF t).uses = 0 := by rw [bornF_uses, bornF_uses, hm.uses]
  generalize (A.bornF f).bornF t = A0 at *
  refine wp_qcall_det (Place_det _ _ (by omega) (by omega) _) ?_
  generalize hk : a2 % 1000 = k at *
  refine wp_qcall_det (Room_det _ _) (wp_qcall_det (Room_det _ _) ?_)
  have hmin : imin (roomF f) (roomF t) ≤ roomF f ∧ imin (roomF f) (roomF t) ≤ roomF t ∧ 8 ≤ imin (roomF f) (roomF t) := by unfold imin; split <;> omega
  have ew : w64 (imin (roomF f) (roomF t) + 1) = imin (roomF f) (roomF t) + 1 := w64_in (by omega) (by omega)
  rw [ew]
  refine wp_qcall_det (Place_det _ _ (by omega) (by omega) _) ?_
  have m1 := Int.emod_nonneg a3 (b := imin (roomF f) (roomF t) + 1) (by omega)
  have m2 := Int.emod_lt_of_pos a3 (b := imin (roomF f) (roomF t) + 1) (by omega)
  generalize a3 % (imin (roomF f) (roomF t) + 1) = m at *
  have wf : ∀ i, wordF f i = i % roomF f := fun i => by unfold wordF; rw [if_neg (by omega)]
  have wt : ∀ i, wordF t i = i % roomF t := fun i => by unfold wordF; rw [if_neg (by omega)]
  have okf : ∀ (B : Ar) i, Rc A f t B → B.inOk f (wordF f i) := fun B i hB => by
    refine ⟨by rw [hB.sf]; decide, ?_, ?_⟩
    · rw [wf]; exact Int.emod_nonneg _ (by omega)
    · rw [wf, ← rf]; exact Int.emod_lt_of_pos _ (by omega)
  have okt : ∀ (B : Ar) i, Rc A f t B → B.inOk t (wordF t i) := fun B i hB => by
    refine ⟨by rw [hB.st]; decide, ?_, ?_⟩
    · rw [wt]; exact Int.emod_nonneg _ (by omega)
    · rw [wt, ← rt]; exact Int.emod_lt_of_pos _ (by omega)
  have pff : ∀ i j, 0 ≤ j → j < i → i < m → pos f (wordF f (k + j)) ≠ pos f (wordF f (k + i)) := fun i j h0 h1 h2 e => by
    have := mod_ne (k := k) (n := roomF f) h0 h1 (by omega)
    rw [← wf, ← wf] at this
    have q1 := (okf A0 (k + j) rc0).2.1
    have q2 := (okf A0 (k + i) rc0).2.1
    unfold pos at e; omega
  have ptt : ∀ i j, 0 ≤ j → j < i → i < m → pos t (wordF t (k + j)) ≠ pos t (wordF t (k + i)) := fun i j h0 h1 h2 e => by
    have := mod_ne (k := k) (n := roomF t) h0 h1 (by omega)
    rw [← wt, ← wt] at this
    have q1 := (okt A0 (k + j) rc0).2.1
    have q2 := (okt A0 (k + i) rc0).2.1
    unfold pos at e; omega
  have pft : ∀ i j, pos f (wordF f i) ≠ pos t (wordF t j) := fun i j e => by
    have q1 := okf A0 i rc0
    have q2 := okt A0 j rc0
    unfold Ar.inOk at q1 q2
    unfold pos at e; omega
  refine wp_loop_int (fun i K => 0 ≤ i ∧ i ≤ m ∧ ∃ B, Rc A f t B ∧ B.uses = i ∧ (∀ j, 0 ≤ j → j < i → B.loadF f (wordF f (k + j)) = 100 + j) ∧ K = B.put H) (fun i => (m - i).toNat) 0 ⟨Int.le_refl 0, m1, A0, rc0, us0, fun j h0 h1 => by omega, rfl⟩ ?_
  rintro i K ⟨i0, i1, B, hB, hu, hl, rfl⟩
  rw [t_magpielaw15_RingCopies_L1]
  by_cases hlt : i < m
  · refine wp_true (ilt hlt) ?_
    have e1 : w64 (k + i) = k + i := w64_in (by omega) (by omega)
    have e2 : w64 (100 + i) = 100 + i := w64_in (by omega) (by omega)
    have e3 : w64 (i + 1) = i + 1 := w64_in (by omega) (by omega)
    refine wp_call_det (Word_at _ (by rw [e1])) ?_
    obtain ⟨s1, s2, s3⟩ := rc_store (100 + i) hB (okf B (k + i) hB)
    refine wp_call_det (x := ()) (by rw [e2]; exact Store_at hB.wf (pA_alike hB.al).symm H) ?_
    refine wp_again ⟨i + 1, by rw [e3], ⟨by omega, by omega, _, s1, by rw [s2, hu, e3], fun j h0 h1 => ?_, rfl⟩, by omega⟩
    rw [s3 _ _ (okf B _ hB)]
    by_cases hj : j = i
    · rw [hj, if_pos rfl]
    · rw [if_neg (pff i j h0 (by omega) hlt)]; exact hl j h0 (by omega)
  have hx : i = m := by omega
  rw [hx] at hu hl
  clear hx
  refine wp_false (inlt (by show m ≤ i; omega)) ?_
  refine wp_call_det (Uses_at (pA_alike hB.al).symm hu H) ?_
  rw [w64_in (x := k + m) (by omega) (by omega)]
  have hB0 := hB
  have hBn : ∀ x ∈ B.ids, H x = none := Alike_ids hB.al hi
  refine wp_call_of (NewCopy_spec (A := B) f t k (k + m) H) ?_
  rintro v K ⟨C, hC, hci, c1, c2, c3, c4, c5, c6, rfl, rfl⟩
  refine ⟨some ⟨C.q, 0, none⟩, rfl, ?_⟩
  refine look_val (x := false) (ec_some _) (wp_false rfl ?_)
  have fin3 : ∀ (L : Hands) (b : Bool) (B : Ar) (D : Cp), Rc A f t B → (∀ x ∈ D.ids, H x = none) → (∀ j, 0 ≤ j → j < m → B.loadF t (wordF t (k + j)) = 100 + j) →
      wp Try.prog (.loop 1408 t_magpielaw15_RingCopies_L3_sh [(.bool b), (.int .i64 0)] (t_magpielaw15_RingCopies_L3 (some ⟨A.a, 0, none⟩) t k m)) L (B.put (D.put H)) (fun u K => u = .bool true ∧ K = H) := by
    intro L b B D hB hD hl
    refine wp_loop_bi (b := b) (fun i K => 0 ≤ i ∧ i ≤ m ∧ ∃ B, Rc A f t B ∧ (∀ j, 0 ≤ j → j < m → B.loadF t (wordF t (k + j)) = 100 + j) ∧ K = B.put (D.put H)) (fun i => (m - i).toNat) 0 ⟨Int.le_refl 0, m1, B, hB, hl, rfl⟩ ?_
    rintro i b K ⟨i0, i1, B, hB, hl, rfl⟩
    rw [t_magpielaw15_RingCopies_L3]
    by_cases hlt : i < m
    · refine wp_true (ilt hlt) ?_
      have e1 : w64 (k + i) = k + i := w64_in (by omega) (by omega)
      have e2 : w64 (100 + i) = 100 + i := w64_in (by omega) (by omega)
      have e3 : w64 (i + 1) = i + 1 := w64_in (by omega) (by omega)
      refine wp_call_det (Word_at _ (by rw [e1])) ?_
      obtain ⟨s1, s2, s3⟩ := rc_touch hB (okt B (k + i) hB)
      refine wp_call_det (Load_at hB.wf (pA_alike hB.al).symm (hl i i0 hlt) _) ?_
      refine wp_false (ibnf e2.symm) (wp_again ⟨b, i + 1, by rw [e3], ⟨by omega, by omega, _, s1, fun j h0 h1 => ?_, rfl⟩, by omega⟩)
      rw [s3]; exact hl j h0 h1
    · refine wp_false (inlt (by show m ≤ i; omega)) ?_
      refine wp_call_det (x := false) (Fault_at (pA_alike hB.al).symm hB.fa _) (wp_true rfl ?_)
      refine wp_true (ile (by omega)) ?_
      refine wp_call_det (awake15_det _) ?_
      exact ⟨H, Heap.le_trans (put_new (Alike_ids hB.al hi)) (Ar.put_le (cp_le hD)), rfl, rfl⟩
  refine wp_loop_bi (b := false) (fun s K => 1 ≤ s ∧ (s ≤ 2 * m ∨ s = 1) ∧ ∃ (B : Ar) (D : Cp), Rc A f t B ∧ B.uses = m + (s - 1) ∧ D.q = C.q ∧ D.e1 = C.e1 ∧ D.e2 = C.e2 ∧ D.from' = f ∧ D.to = t ∧ D.fin = k + m ∧ D.at' = k + (s - 1) / 2 ∧
    D.has = decide ((s - 1) % 2 = 1) ∧ (D.has = true → D.v = 100 + (s - 1) / 2) ∧ (∀ j, 0 ≤ j → j < m → B.loadF f (wordF f (k + j)) = 100 + j) ∧ (∀ j, 0 ≤ j → j < (s - 1) / 2 → B.loadF t (wordF t (k + j)) = 100 + j) ∧ K = B.put (D.put H)) (fun s => (2 * m + 2 - s).toNat) 1
    ⟨by omega, .inr rfl, B, C, hB, by omega, rfl, rfl, rfl, c1, c2, c4, by rw [c3]; omega, by rw [c6]; rfl, (fun e => by rw [c6] at e; cases e), hl, fun j h0 h1 => by omega, rfl⟩ ?_
  rintro s b K ⟨s0, s1, B, D, hB, hu, d1, d2, d3, d4, d5, d6, d7, d8, d9, hf, ht, rfl⟩
  have hD : D.ok B := by unfold Cp.ok at *; rw [d1, d2, d3, hB.al.ids, ← hB0.al.ids]; exact hC
  have hDn : ∀ x ∈ D.ids, H x = none := by unfold Cp.ids; rw [d1, d2, d3]; exact hci
  rw [t_magpielaw15_RingCopies_L2]
  have pq : (.pointer (some ⟨C.q, 0, none⟩) : Value) = pC D := by unfold pC; rw [d1]
  have pa : (.pointer (some ⟨A.a, 0, none⟩) : Value) = pA B := (pA_alike hB.al).symm
  have e1 : w64 (s + 1) = s + 1 := w64_in (by omega) (by omega)
  have e2 : w64 (w64 (m + (s + 1)) - 1) = m + s := by rw [w64_in (x := m + (s + 1)) (by omega) (by omega), w64_in (by omega) (by omega)]; omega
  have e3 : w64 (2 * m) = 2 * m := w64_in (by omega) (by omega)
  have e4 : w64 (m + 2 * m) = m + 2 * m := w64_in (by omega) (by omega)
  by_cases hend : D.fin ≤ D.at'
  · have hm0 : m = 0 ∧ s = 1 := by omega
    refine wp_call_det (x := true) (by rw [pq, pa]; exact Step_end hD hend H) (wp_false rfl ?_)
    refine wp_call_det (Uses_at (pA_alike hB.al).symm hu _) ?_
    refine wp_false (ibnf (by rw [e3, e4]; omega)) ?_
    refine wp_false (ibnf (by rw [e3, hm0.1]; exact hm0.2)) ?_
    exact fin3 _ _ B D hB hDn (fun j h0 h1 => by omega)
  · have hlt : D.at' < D.fin := by omega
    have hj : (s - 1) / 2 < m := by omega
    have h2m : s ≤ 2 * m := by omega
    by_cases ho : (s - 1) % 2 = 1
    · have hh : D.has = true := by rw [d8, decide_eq_true ho]
      have hv := d9 hh
      have ea : w64 (D.at' + 1) = D.at' + 1 := w64_in (by omega) (by omega)
      have hS := Step_store hB.wf hD hlt hh H
      rw [d5, ea] at hS
      obtain ⟨s2, s3, s4⟩ := rc_store D.v hB (okt B D.at' hB)
      have us : w64 (B.uses + 1) = m + s := by rw [hu, w64_in (by omega) (by omega)]; omega
      rw [us] at s3
      have tl : ∀ j, 0 ≤ j → j < (s + 1) / 2 → (B.storeF t (wordF t D.at') D.v).loadF t (wordF t (k + j)) = 100 + j := by
        intro j h0 h1
        rw [s4 _ _ (okt B _ hB), d7]
        by_cases hj' : j = (s - 1) / 2
        · rw [hj', if_pos rfl, hv]
        · rw [if_neg (ptt ((s - 1) / 2) j h0 (by omega) hj)]; exact ht j h0 (by omega)
      have fl : ∀ j, 0 ≤ j → j < m → (B.storeF t (wordF t D.at') D.v).loadF f (wordF f (k + j)) = 100 + j := by
        intro j h0 h1
        rw [s4 _ _ (okf B _ hB), if_neg (pft _ _)]; exact hf j h0 h1
      by_cases hl2 : (s + 1) / 2 < m
      · refine wp_call_det (x := false) (by rw [pq, pa]; have := hS; rw [decide_eq_false (by omega)] at this; exact this) (wp_true rfl ?_)
        rw [e1]
        refine wp_false (inlt (by omega)) ?_
        refine wp_call_det (Uses_at (pA_alike s2.al).symm s3 _) ?_
        refine wp_false (ibnf e2.symm) ?_
        refine wp_again ⟨b, s + 1, rfl, ⟨by omega, by omega, _, D.stored, s2, by rw [s3]; omega, d1, d2, d3, d4, d5, d6, ?_, ?_, ?_, fl, ?_, rfl⟩, by omega⟩
        · show w64 (D.at' + 1) = _; rw [ea, d7]; omega
        · show false = _; rw [decide_eq_false (by omega)]
        · intro e; cases e
        · rw [show (s + 1 - 1) / 2 = (s + 1) / 2 by omega]; exact tl
      · refine wp_call_det (x := true) (by rw [pq, pa]; have := hS; rw [decide_eq_true (by omega)] at this; exact this) (wp_false rfl ?_)
        refine wp_call_det (Uses_at (pA_alike s2.al).symm s3 _) ?_
        refine wp_false (ibnf (by rw [e3, e4]; omega)) ?_
        refine wp_false (ibnf (by rw [e3]; show s = imax (2 * m) 1; unfold imax; split <;> omega)) ?_
        exact fin3 _ b (B.storeF t (wordF t D.at') D.v) D.stored s2 hDn (fun j h0 h1 => tl j h0 (by omega))
    · have hh : D.has = false := by rw [d8, decide_eq_false ho]
      have hS := Step_load hB.wf hD hlt hh H
      rw [d4] at hS
      obtain ⟨s2, s3, s4⟩ := rc_touch hB (okf B D.at' hB)
      have us : w64 (B.uses + 1) = m + s := by rw [hu, w64_in (by omega) (by omega)]; omega
      rw [us] at s3
      refine wp_call_det (x := false) (by rw [pq, pa]; exact hS) (wp_true rfl ?_)
      rw [e1]
      refine wp_false (inlt (by omega)) ?_
      refine wp_call_det (Uses_at (pA_alike s2.al).symm s3 _) ?_
      refine wp_false (ibnf e2.symm) ?_
      refine wp_again ⟨b, s + 1, rfl, ⟨by omega, by omega, _, D.loaded (B.loadF f (wordF f D.at')), s2, by rw [s3]; omega, d1, d2, d3, d4, d5, d6, ?_, ?_, ?_, fun j h0 h1 => by rw [s4]; exact hf j h0 h1, fun j h0 h1 => by rw [s4]; exact ht j h0 (by omega), rfl⟩, by omega⟩
      · show D.at' = _; rw [d7]; omega
      · show true = _; rw [decide_eq_true (by omega)]
      · intro _
        show B.loadF f (wordF f D.at') = _
        rw [d7, hf _ (by omega) hj]; omega
end Go.Proofs.Ytgnifhkjpekkdaa
