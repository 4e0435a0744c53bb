import Derived.Test.YtgnifhkjpekkdaaSaPFl
set_option linter.unusedVariables false
set_option maxRecDepth 20000
namespace Go.Proofs.Ytgnifhkjpekkdaa
open Go Go.Fw

/-! ### Steps of a push, of a pop -/
section
variable {A : Ar}

theorem getD_rawF {i : Int} (h : A.rawOk i) : A.raw.getD i.toNat 0 = A.rawF i := by unfold Ar.rawF; rw [if_pos h]

theorem Pu.s0 {x : Pu} (h : x.at' = 0) (o : A.rawOk x.head) : (x.stepM A, x.stepA A) = ({ x with was := A.rawF x.head, at' := 1 }, A.tick) := by
  have n1 : ¬ x.at' = 1 := by omega
  have n2 : ¬ x.at' = 2 := by omega
  have n3 : ¬ x.at' = 3 := by omega
  unfold Pu.stepM Pu.stepA
  simp only [if_neg n1, if_neg n2, if_neg n3, touchR_yes o]
theorem Pu.s1 {x : Pu} (h : x.at' = 1) {lk : Int} (hl : w64 (x.pl.links + w64 (Int.tdiv x.base 8)) = lk) (o : A.rawOk lk) : (x.stepM A, x.stepA A) = ({ x with at' := 2 }, A.tick.setR lk.toNat (iand x.was 131071)) := by
  unfold Pu.stepM Pu.stepA
  simp only [if_pos h, hl]
  unfold Ar.storeR; rw [if_pos o]
theorem Pu.s2y {x : Pu} (h : x.at' = 2) (o : A.rawOk x.head) (e : A.rawF x.head = x.was) : (x.stepM A, x.stepA A) = ({ x with at' := 3 }, A.tick.setR x.head.toNat (nextF x.was (w64 (w64 (Int.tdiv x.base 8) + 1)))) := by
  have n1 : ¬ x.at' = 1 := by omega
  have e' := (getD_rawF o).trans e
  have sb : A.swapRb x.head x.was = true := decide_eq_true ⟨o, e'⟩
  unfold Pu.stepM Pu.stepA
  simp only [if_neg n1, if_pos h, sb, if_true]
  unfold Ar.swapR; rw [if_pos o, if_pos e']
theorem Pu.s2n {x : Pu} (h : x.at' = 2) (o : A.rawOk x.head) (e : A.rawF x.head ≠ x.was) : (x.stepM A, x.stepA A) = ({ x with at' := 0 }, A.tick) := by
  have n1 : ¬ x.at' = 1 := by omega
  have e' : A.raw.getD x.head.toNat 0 ≠ x.was := by rw [getD_rawF o]; exact e
  have sb : A.swapRb x.head x.was = false := decide_eq_false fun h => e' h.2
  unfold Pu.stepM Pu.stepA
  simp only [if_neg n1, if_pos h, sb, Bool.false_eq_true, if_false]
  unfold Ar.swapR; rw [if_pos o, if_neg e']
theorem Pu.s3 {x : Pu} (h : x.at' = 3) : (x.stepM A, x.stepA A) = (x, A) := by
  have n1 : ¬ x.at' = 1 := by omega
  have n2 : ¬ x.at' = 2 := by omega
  unfold Pu.stepM Pu.stepA
  simp only [if_neg n1, if_neg n2, if_pos h]

theorem Po.s0 {x : Po} (h : x.at' = 0) (o : A.rawOk x.head) : (x.stepM A, x.stepA A) = ({ x with was := A.rawF x.head, at' := if A.rawF x.head % 131072 = 0 then 3 else 1 }, A.tick) := by
  have n1 : ¬ x.at' = 1 := by omega
  have n2 : ¬ x.at' = 2 := by omega
  have n3 : ¬ x.at' = 3 := by omega
  unfold Po.stepM Po.stepA
  simp only [if_neg n1, if_neg n2, if_neg n3, touchR_yes o, mask17]
theorem Po.s1 {x : Po} (h : x.at' = 1) {lk : Int} (hl : w64 (w64 (x.pl.links + x.was % 131072) - 1) = lk) (o : A.rawOk lk) : (x.stepM A, x.stepA A) = ({ x with link := A.rawF lk, at' := 2 }, A.tick) := by
  unfold Po.stepM Po.stepA
  simp only [if_pos h, mask17, hl, touchR_yes o]
theorem Po.s2y {x : Po} (h : x.at' = 2) (o : A.rawOk x.head) (e : A.rawF x.head = x.was) : (x.stepM A, x.stepA A) = ({ x with at' := 3, base := w64 (w64 (x.was % 131072 - 1) * 8), ok := true }, A.tick.setR x.head.toNat (nextF x.was x.link)) := by
  have n1 : ¬ x.at' = 1 := by omega
  have e' := (getD_rawF o).trans e
  have sb : A.swapRb x.head x.was = true := decide_eq_true ⟨o, e'⟩
  unfold Po.stepM Po.stepA
  simp only [if_neg n1, if_pos h, sb, if_true, mask17]
  unfold Ar.swapR; rw [if_pos o, if_pos e']
theorem Po.s2n {x : Po} (h : x.at' = 2) (o : A.rawOk x.head) (e : A.rawF x.head ≠ x.was) : (x.stepM A, x.stepA A) = ({ x with at' := 0 }, A.tick) := by
  have n1 : ¬ x.at' = 1 := by omega
  have e' : A.raw.getD x.head.toNat 0 ≠ x.was := by rw [getD_rawF o]; exact e
  have sb : A.swapRb x.head x.was = false := decide_eq_false fun h => e' h.2
  unfold Po.stepM Po.stepA
  simp only [if_neg n1, if_pos h, sb, Bool.false_eq_true, if_false]
  unfold Ar.swapR; rw [if_pos o, if_neg e']
theorem Po.s3 {x : Po} (h : x.at' = 3) : (x.stepM A, x.stepA A) = (x, A) := by
  have n1 : ¬ x.at' = 1 := by omega
  have n2 : ¬ x.at' = 2 := by omega
  unfold Po.stepM Po.stepA
  simp only [if_neg n1, if_neg n2, if_pos h]

theorem tick_uses (h0 : 0 ≤ A.uses) (h : A.uses ≤ 4000000000000000000) : A.tick = A.later 1 := by
  unfold Ar.tick Ar.later; rw [w64_in (by omega) (by omega)]
theorem rawF_tick (i : Int) : A.tick.rawF i = A.rawF i := rfl
theorem rawF_later (n i : Int) : (A.later n).rawF i = A.rawF i := rfl

/-- A push alone. -/
theorem Pu.solo {p : Pl} {w n : Int} {ch : Int → List Int} (F : FL A p w n ch) (hu : A.uses ≤ 1000000000) {k b : Int} (h0 : 0 ≤ k) (h1 : k < 4 * w) (hb : 0 ≤ b ∧ b % 8 = 0 ∧ b / 8 < n) :
    ∃ y : Pu, y.at' = 3 ∧ y.base = b ∧ mPu.Runs 3 ⟨p, k, 0, 0, b⟩ A y (A.pushed k (4 * w + b / 8) b) := by
  have wb := F.wb
  have nb := F.nb
  have us := F.us
  have o1 := F.hdOk h0 h1
  have o2 := F.lkOk hb.1 hb.2.2
  have td : Int.tdiv b 8 = b / 8 := Int.tdiv_eq_ediv_of_nonneg hb.1
  have el : w64 (p.links + w64 (Int.tdiv b 8)) = 4 * w + b / 8 := by rw [td, F.links, w64_in (x := b / 8) (by omega) (by omega), w64_in (by omega) (by omega)]
  have t1 : w64 (A.uses + 1) = A.uses + 1 := w64_in (by omega) (by omega)
  have t2 : w64 (A.uses + 1 + 1) = A.uses + 1 + 1 := w64_in (by omega) (by omega)
  have t3 : w64 (A.uses + 1 + 1 + 1) = A.uses + 1 + 1 + 1 := w64_in (by omega) (by omega)
  have e1 := Pu.s0 (A := A) (x := ⟨p, k, 0, 0, b⟩) rfl o1
  have e2 := Pu.s1 (A := A.tick) (x := ⟨p, k, A.rawF k, 1, b⟩) rfl el o2
  have o3 : (A.tick.tick.setR (4 * w + b / 8).toNat (iand (A.rawF k) 131071)).rawOk k := by
    unfold Ar.rawOk at *; show 0 ≤ k ∧ k < ((A.raw.set _ _).length : Int); rw [List.length_set]; exact o1
  have hhd : (A.tick.tick.setR (4 * w + b / 8).toNat (iand (A.rawF k) 131071)).rawF k = A.rawF k := by
    rw [← getD_rawF o3, ← getD_rawF o1]
    show (A.raw.set _ _).getD k.toNat 0 = _
    rw [List.getD_eq_getElem?_getD, List.getD_eq_getElem?_getD, List.getElem?_set, if_neg (by omega)]
  have e3 := Pu.s2y (A := A.tick.tick.setR (4 * w + b / 8).toNat (iand (A.rawF k) 131071)) (x := ⟨p, k, A.rawF k, 2, b⟩) rfl o3 hhd
  have ef : (A.tick.tick.setR (4 * w + b / 8).toNat (iand (A.rawF k) 131071)).tick.setR k.toNat (nextF (A.rawF k) (w64 (w64 (Int.tdiv b 8) + 1))) = A.pushed k (4 * w + b / 8) b := by
    unfold Ar.pushed Ar.setR Ar.tick
    simp only [t1, t2, t3, Ar.mk.injEq, true_and]
    omega
  rw [ef] at e3
  refine ⟨⟨p, k, A.rawF k, 3, b⟩, rfl, rfl, ?_⟩
  have r3 : mPu.Runs 1 ⟨p, k, A.rawF k, 2, b⟩ (A.tick.tick.setR (4 * w + b / 8).toNat (iand (A.rawF k) 131071)) ⟨p, k, A.rawF k, 3, b⟩ (A.pushed k (4 * w + b / 8) b) := by
    have h := Mch.Runs.one (X := mPu) (m := ⟨p, k, A.rawF k, 2, b⟩) (A := A.tick.tick.setR (4 * w + b / 8).toNat (iand (A.rawF k) 131071)) trivial
    have e3' : mPu.step ⟨p, k, A.rawF k, 2, b⟩ (A.tick.tick.setR (4 * w + b / 8).toNat (iand (A.rawF k) 131071)) = _ := e3
    rw [e3'] at h
    refine h ?_ rfl
    show A.uses + 3 ≤ w64 (w64 (w64 (A.uses + 1) + 1) + 1)
    rw [t1, t2, t3]; omega
  have r2 : mPu.Runs 2 ⟨p, k, A.rawF k, 1, b⟩ A.tick ⟨p, k, A.rawF k, 3, b⟩ (A.pushed k (4 * w + b / 8) b) := by
    have h := Mch.Runs.more (X := mPu) (n := 1) (m := ⟨p, k, A.rawF k, 1, b⟩) (A := A.tick) (m' := ⟨p, k, A.rawF k, 3, b⟩) (A' := A.pushed k (4 * w + b / 8) b) trivial
    have e2' : mPu.step ⟨p, k, A.rawF k, 1, b⟩ A.tick = _ := e2
    rw [e2'] at h
    exact h (Int.le_refl _) rfl r3
  have h := Mch.Runs.more (X := mPu) (n := 2) (m := ⟨p, k, 0, 0, b⟩) (A := A) (m' := ⟨p, k, A.rawF k, 3, b⟩) (A' := A.pushed k (4 * w + b / 8) b) trivial
  have e1' : mPu.step ⟨p, k, 0, 0, b⟩ A = _ := e1
  rw [e1'] at h
  exact h (Int.le_refl _) rfl r2

/-- A pop alone, where there is nothing. -/
theorem Po.solo_none {p : Pl} {w n : Int} {ch : Int → List Int} (F : FL A p w n ch) (hu : A.uses ≤ 1000000000) {k : Int} (h0 : 0 ≤ k) (h1 : k < 4 * w) (hc : ch k = []) :
    ∃ y : Po, y.at' = 3 ∧ y.base = 0 ∧ y.ok = false ∧ mPo.Runs 1 ⟨p, k, 0, 0, 0, 0, false⟩ A y (A.later 1) := by
  have us := F.us
  have e1 := Po.s0 (A := A) (x := ⟨p, k, 0, 0, 0, 0, false⟩) rfl (F.hdOk h0 h1)
  rw [if_pos (F.first_nil h0 h1 hc), tick_uses us (by omega)] at e1
  refine ⟨⟨p, k, A.rawF k, 3, 0, 0, false⟩, rfl, rfl, rfl, ?_⟩
  have h := Mch.Runs.one (X := mPo) (m := ⟨p, k, 0, 0, 0, 0, false⟩) (A := A) trivial
  have e1' : mPo.step ⟨p, k, 0, 0, 0, 0, false⟩ A = _ := e1
  rw [e1'] at h
  refine h ?_ rfl
  show A.uses + 1 ≤ w64 (A.uses + 1)
  rw [w64_in (by omega) (by omega)]; exact Int.le_refl _

/-- A pop alone, where there is something. -/
theorem Po.solo_some {p : Pl} {w n : Int} {ch : Int → List Int} (F : FL A p w n ch) (hu : A.uses ≤ 1000000000) {k b : Int} {l : List Int} (hc : ch k = b :: l) :
    ∃ y : Po, y.at' = 3 ∧ y.base = b ∧ y.ok = true ∧ mPo.Runs 3 ⟨p, k, 0, 0, 0, 0, false⟩ A y (A.popped k (4 * w + b / 8)) := by
  obtain ⟨h0, h1⟩ := F.rg k (by rw [hc]; simp)
  have wb := F.wb
  have nb := F.nb
  have us := F.us
  have o1 := F.hdOk h0 h1
  have hm := F.mem k b (by rw [hc]; simp)
  have o2 := F.lkOk hm.1 hm.2.2
  have hf := F.first_cons h0 h1 hc
  have el : w64 (w64 (p.links + A.rawF k % 131072) - 1) = 4 * w + b / 8 := by rw [hf, F.links, w64_in (x := 4 * w + (b / 8 + 1)) (by omega) (by omega), w64_in (by omega) (by omega)]; omega
  have eb : w64 (w64 (A.rawF k % 131072 - 1) * 8) = b := by rw [hf, w64_in (x := b / 8 + 1 - 1) (by omega) (by omega), w64_in (by omega) (by omega)]; omega
  have t1 : w64 (A.uses + 1) = A.uses + 1 := w64_in (by omega) (by omega)
  have t2 : w64 (A.uses + 1 + 1) = A.uses + 1 + 1 := w64_in (by omega) (by omega)
  have t3 : w64 (A.uses + 1 + 1 + 1) = A.uses + 1 + 1 + 1 := w64_in (by omega) (by omega)
  have e1 := Po.s0 (A := A) (x := ⟨p, k, 0, 0, 0, 0, false⟩) rfl o1
  have n0 : ¬ A.rawF k % 131072 = 0 := by omega
  simp only [if_neg n0] at e1
  have e2 := Po.s1 (A := A.tick) (x := ⟨p, k, A.rawF k, 1, 0, 0, false⟩) rfl el o2
  have e3 := Po.s2y (A := A.tick.tick) (x := ⟨p, k, A.rawF k, 2, A.rawF (4 * w + b / 8), 0, false⟩) rfl o1 rfl
  have ef : A.tick.tick.tick.setR k.toNat (nextF (A.rawF k) (A.rawF (4 * w + b / 8))) = A.popped k (4 * w + b / 8) := by
    unfold Ar.popped Ar.setR Ar.tick
    simp only [t1, t2, t3, Ar.mk.injEq, true_and]
    omega
  have e3' : mPo.step ⟨p, k, A.rawF k, 2, A.rawF (4 * w + b / 8), 0, false⟩ A.tick.tick = (⟨p, k, A.rawF k, 3, A.rawF (4 * w + b / 8), b, true⟩, A.popped k (4 * w + b / 8)) := by
    refine Eq.trans e3 ?_
    rw [ef]
    show (Po.mk p k (A.rawF k) 3 (A.rawF (4 * w + b / 8)) (w64 (w64 (A.rawF k % 131072 - 1) * 8)) true, _) = _
    rw [eb]
  refine ⟨⟨p, k, A.rawF k, 3, A.rawF (4 * w + b / 8), b, true⟩, rfl, rfl, rfl, ?_⟩
  have r3 : mPo.Runs 1 ⟨p, k, A.rawF k, 2, A.rawF (4 * w + b / 8), 0, false⟩ A.tick.tick ⟨p, k, A.rawF k, 3, A.rawF (4 * w + b / 8), b, true⟩ (A.popped k (4 * w + b / 8)) := by
    have h := Mch.Runs.one (X := mPo) (m := ⟨p, k, A.rawF k, 2, A.rawF (4 * w + b / 8), 0, false⟩) (A := A.tick.tick) trivial
    rw [e3'] at h
    refine h ?_ rfl
    show A.uses + 3 ≤ w64 (w64 (w64 (A.uses + 1) + 1) + 1)
    rw [t1, t2, t3]; omega
  have r2 : mPo.Runs 2 ⟨p, k, A.rawF k, 1, 0, 0, false⟩ A.tick ⟨p, k, A.rawF k, 3, A.rawF (4 * w + b / 8), b, true⟩ (A.popped k (4 * w + b / 8)) := by
    have h := Mch.Runs.more (X := mPo) (n := 1) (m := ⟨p, k, A.rawF k, 1, 0, 0, false⟩) (A := A.tick) (m' := ⟨p, k, A.rawF k, 3, A.rawF (4 * w + b / 8), b, true⟩) (A' := A.popped k (4 * w + b / 8)) trivial
    have e2' : mPo.step ⟨p, k, A.rawF k, 1, 0, 0, false⟩ A.tick = _ := e2
    rw [e2'] at h
    exact h (Int.le_refl _) rfl r3
  have h := Mch.Runs.more (X := mPo) (n := 2) (m := ⟨p, k, 0, 0, 0, 0, false⟩) (A := A) (m' := ⟨p, k, A.rawF k, 3, A.rawF (4 * w + b / 8), b, true⟩) (A' := A.popped k (4 * w + b / 8)) trivial
  have e1' : mPo.step ⟨p, k, 0, 0, 0, 0, false⟩ A = _ := e1
  rw [e1'] at h
  exact h (Int.le_refl _) rfl r2
end
end Go.Proofs.Ytgnifhkjpekkdaa
