import Derived.Test.YtgnifhkjpekkdaaSaCArena5
set_option linter.unusedVariables false
set_option maxRecDepth 20000
namespace Go.Proofs.Ytgnifhkjpekkdaa
open Go Go.Fw

theorem stF_withS (A : Ar) (b h s k : Int) : (A.withS b h s).stF k = if opB k = b then (if openOk k = true ∧ h = k then s else 0) else A.stF k := by
  unfold Ar.stF Ar.withS
  simp only [alGet_put]
  by_cases e : opB k = b
  · rw [if_pos e, if_pos e]
  · rw [if_neg e, if_neg e]

theorem withS_wf {A : Ar} (hA : A.wf) {h : Int} (s : Int) (hf : opB h + sizeF (opC h) ≤ A.words.length) : (A.withS (opB h) h s).wf :=
  ⟨hA.nd, fun k hk => by
    rw [stF_withS] at hk
    split at hk
    · split at hk
      · rename_i e; rw [← e.2]; exact hf
      · exact (hk rfl).elim
    · exact hA.fit k hk, hA.busy, hA.carved, hA.words, hA.raw, hA.wC, hA.wL, hA.wR, hA.wF⟩

theorem turnF_wf {A : Ar} (hA : A.wf) (h : Int) {s : Int} (t : Int) (hs : s ≠ 0) : (A.turnF h s t).wf := by
  unfold Ar.turnF
  split
  · rename_i e; exact withS_wf hA t (hA.fit h (by rw [e]; exact hs))
  · exact hA

theorem addL_wf {A : Ar} (hA : A.wf) (n : Int) : (A.addL n).wf := ⟨hA.nd, hA.fit, hA.busy, hA.carved, hA.words, hA.raw, hA.wC, w64_w64 _, hA.wR, hA.wF⟩
theorem subL_wf {A : Ar} (hA : A.wf) (n : Int) : (A.subL n).wf := ⟨hA.nd, hA.fit, hA.busy, hA.carved, hA.words, hA.raw, hA.wC, w64_w64 _, hA.wR, hA.wF⟩
theorem addR_wf {A : Ar} (hA : A.wf) (n : Int) : (A.addR n).wf := ⟨hA.nd, hA.fit, hA.busy, hA.carved, hA.words, hA.raw, hA.wC, hA.wL, w64_w64 _, hA.wF⟩
theorem subR_wf {A : Ar} (hA : A.wf) (n : Int) : (A.subR n).wf := ⟨hA.nd, hA.fit, hA.busy, hA.carved, hA.words, hA.raw, hA.wC, hA.wL, w64_w64 _, hA.wF⟩
theorem addF_wf {A : Ar} (hA : A.wf) (n : Int) : (A.addF n).wf := ⟨hA.nd, hA.fit, hA.busy, hA.carved, hA.words, hA.raw, hA.wC, hA.wL, hA.wR, w64_w64 _⟩
theorem subF_wf {A : Ar} (hA : A.wf) (n : Int) : (A.subF n).wf := ⟨hA.nd, hA.fit, hA.busy, hA.carved, hA.words, hA.raw, hA.wC, hA.wL, hA.wR, w64_w64 _⟩
theorem addC_wf {A : Ar} (hA : A.wf) (n : Int) : (A.addC n).wf := ⟨hA.nd, hA.fit, hA.busy, hA.carved, hA.words, hA.raw, w64_w64 _, hA.wL, hA.wR, hA.wF⟩
theorem busyN_wf {A : Ar} (hA : A.wf) (b : Nat) (v : Bool) (n : Nat) : (A.busyN b v n).wf := ⟨hA.nd, hA.fit, (setN_length _ _ _ _).trans hA.busy, hA.carved, hA.words, hA.raw, hA.wC, hA.wL, hA.wR, hA.wF⟩
theorem withG_wf {A : Ar} (hA : A.wf) (b g : Int) : (A.withG b g).wf := ⟨hA.nd, hA.fit, hA.busy, hA.carved, hA.words, hA.raw, hA.wC, hA.wL, hA.wR, hA.wF⟩
theorem setB_wf {A : Ar} (hA : A.wf) (n : Nat) (v : Bool) : (A.setB n v).wf := ⟨hA.nd, hA.fit, (List.length_set ..).trans hA.busy, hA.carved, hA.words, hA.raw, hA.wC, hA.wL, hA.wR, hA.wF⟩
theorem setC_wf {A : Ar} (hA : A.wf) (n : Nat) (v : Bool) : (A.setC n v).wf := ⟨hA.nd, hA.fit, hA.busy, (List.length_set ..).trans hA.carved, hA.words, hA.raw, hA.wC, hA.wL, hA.wR, hA.wF⟩

theorem retireF_wf {A : Ar} (hA : A.wf) (h : Int) : (A.retireF h).wf := addR_wf (subL_wf (turnF_wf hA h 2 (by omega)) _) _
theorem diedF_wf {A : Ar} (hA : A.wf) (h : Int) : (A.diedF h).wf := addF_wf (subR_wf (busyN_wf (turnF_wf hA h 0 (by omega)) _ _ _) _) _
theorem new1_wf {A : Ar} (hA : A.wf) (n : Nat) : (A.new1 n).wf := by unfold Ar.new1; split; exact hA; exact addF_wf (addC_wf hA _) _
theorem new2_wf {A : Ar} (hA : A.wf) (n : Nat) : (A.new2 n).wf := by
  unfold Ar.new2; simp only
  split
  · exact setW_wf (setC_wf (setB_wf hA _ _) _ _) _ _
  · exact setC_wf (setB_wf hA _ _) _ _
theorem bornN_wf {A : Ar} (hA : A.wf) (b n : Nat) : (A.bornN b n).wf := by
  induction n with
  | zero => exact hA
  | succ n ih => exact new2_wf (new1_wf ih _) _
theorem bornF_wf {A : Ar} (hA : A.wf) (h : Int) (hf : opB h + sizeF (opC h) ≤ A.words.length) : (A.bornF h).wf :=
  subF_wf (addL_wf (withG_wf (withS_wf (bornN_wf hA _ _) 1 (by rw [(bornN_like A _ _).wl]; exact hf)) _ _) _) _

/-- An arena that was made. -/
structure Ar.made (A : Ar) (nr nw : Nat) (fr : Bool) : Prop where
  nd : A.nd
  raw : A.raw = List.replicate nr 0
  words : A.words = List.replicate nw 0
  fresh : A.fresh = fr
  slots : A.slots = []
  busy : A.busy = List.replicate nw false
  carved : A.carved = List.replicate nw false
  gens : A.gens = []
  nC : A.nC = 0
  nL : A.nL = 0
  nR : A.nR = 0
  nF : A.nF = 0
  fault : A.fault = false
  uses : A.uses = 0

theorem made_wf {A : Ar} {r w : Nat} {f : Bool} (h : A.made r w f) (hr : r ≤ 65536) (hw : w ≤ 65536) : A.wf :=
  have w0 : w64 0 = 0 := w64_in (by omega) (by omega)
  ⟨h.nd, fun k hk => (hk (by unfold Ar.stF; rw [h.slots]; rfl)).elim, by rw [h.busy, h.words]; simp, by rw [h.carved, h.words]; simp, by rw [h.words]; simpa using hw, by rw [h.raw]; simpa using hr,
    by rw [h.nC]; exact w0, by rw [h.nL]; exact w0, by rw [h.nR]; exact w0, by rw [h.nF]; exact w0⟩

theorem set_none {H : Heap} {b x : Nat} {o : Obj} (h : (H.set b o) x = none) : x ≠ b ∧ H x = none := by
  by_cases e : x = b
  · rw [e, Heap.set_same] at h; cases h
  · rw [Heap.set_ne _ _ e] at h; exact ⟨e, h⟩

theorem clamp (p : Int) : imax 0 (imin p 65536) = if p ≤ 0 then 0 else if p ≥ 65536 then 65536 else p := by
  unfold imax imin; split <;> split <;> first | omega | (split <;> omega) | skip
  all_goals (try split) <;> (try split) <;> omega

theorem New_spec (p0 p1 : Int) (f : Bool) (H : Heap) (h0 : 0 ≤ p0 ∧ p0 ≤ 65536) (h1 : 0 ≤ p1 ∧ p1 ≤ 65536) :
    SpecF Try.prog f_arena_New #[.int .i64 p0, .int .i64 p1, .bool f] H fun v K => ∃ A : Ar, A.made p0.toNat p1.toNat f ∧ (∀ x ∈ A.ids, H x = none) ∧ v = pA A ∧ K = A.put H := by
  have c0 : imax 0 (imin p0 65536) = p0 := by rw [clamp]; split <;> (try split) <;> omega
  have c1 : imax 0 (imin p1 65536) = p1 := by rw [clamp]; split <;> (try split) <;> omega
  refine t_arena_New_spec fun L => ?_
  unfold t_arena_New
  rw [c0, c1]
  refine wp_make (make_slice (e := ty_int) rfl rfl rfl (by exact Nat.le_refl 8) rfl rfl h0.1 (by omega)) (x := fun b => Sl.mk (some ⟨b, 0, none⟩) p0.toNat p0.toNat) (fun _ => rfl) fun r hr => ?_
  refine wp_make (make_slice (e := ty_int) rfl rfl rfl (by exact Nat.le_refl 8) rfl rfl h1.1 (by omega)) (x := fun b => Sl.mk (some ⟨b, 0, none⟩) p1.toNat p1.toNat) (fun _ => rfl) fun w hw => ?_
  refine wp_newM fun s hs => ?_
  refine wp_make (make_slice (e := ty_bool) rfl rfl rfl (by exact Nat.le_add_left 1 7) rfl rfl h1.1 (by omega)) (x := fun b => Sl.mk (some ⟨b, 0, none⟩) p1.toNat p1.toNat) (fun _ => rfl) fun b hb => ?_
  refine wp_make (make_slice (e := ty_bool) rfl rfl rfl (by exact Nat.le_add_left 1 7) rfl rfl h1.1 (by omega)) (x := fun b => Sl.mk (some ⟨b, 0, none⟩) p1.toNat p1.toNat) (fun _ => rfl) fun c hc => ?_
  refine wp_newM fun g hg => ?_
  refine wp_newP fun a ha => ?_
  obtain ⟨w1, w0⟩ := set_none hw
  obtain ⟨s1, hs⟩ := set_none hs
  obtain ⟨s2, s0⟩ := set_none hs
  obtain ⟨b1, hb⟩ := set_none hb
  obtain ⟨b2, hb⟩ := set_none hb
  obtain ⟨b3, b0⟩ := set_none hb
  obtain ⟨k1, hc⟩ := set_none hc
  obtain ⟨k2, hc⟩ := set_none hc
  obtain ⟨k3, hc⟩ := set_none hc
  obtain ⟨k4, k0⟩ := set_none hc
  obtain ⟨g1, hg⟩ := set_none hg
  obtain ⟨g2, hg⟩ := set_none hg
  obtain ⟨g3, hg⟩ := set_none hg
  obtain ⟨g4, hg⟩ := set_none hg
  obtain ⟨g5, g0⟩ := set_none hg
  obtain ⟨a1, ha⟩ := set_none ha
  obtain ⟨a2, ha⟩ := set_none ha
  obtain ⟨a3, ha⟩ := set_none ha
  obtain ⟨a4, ha⟩ := set_none ha
  obtain ⟨a5, ha⟩ := set_none ha
  obtain ⟨a6, a0⟩ := set_none ha
  refine wp_ret_of ⟨⟨a, r, w, s, b, c, g, List.replicate p0.toNat 0, List.replicate p1.toNat 0, f, [], List.replicate p1.toNat false, List.replicate p1.toNat false, [], 0, 0, 0, 0, false, 0⟩, ?_, ?_, rfl, ?_⟩
  · refine ⟨?_, rfl, rfl, rfl, rfl, rfl, rfl, rfl, rfl, rfl, rfl, rfl, rfl, rfl⟩
    unfold Ar.nd Ar.ids
    simp [*, Ne.symm w1, Ne.symm s1, Ne.symm s2, Ne.symm b1, Ne.symm b2, Ne.symm b3, Ne.symm k1, Ne.symm k2, Ne.symm k3, Ne.symm k4, Ne.symm g1, Ne.symm g2, Ne.symm g3, Ne.symm g4, Ne.symm g5]
  · intro x hx
    unfold Ar.ids at hx
    simp only [List.mem_cons, List.not_mem_nil, or_false] at hx
    rcases hx with rfl | rfl | rfl | rfl | rfl | rfl | rfl <;> assumption
  · funext x
    unfold Heap.set Ar.put
    simp only [Ar.objA, Ar.arrA, Ar.objR, Ar.objW, Ar.objS, Ar.objB, Ar.objC, Ar.objG, List.length_replicate, ints, bools, List.map_replicate, List.toArray_replicate]
    by_cases xa : x = a
    · rw [if_pos xa, if_pos xa]
    rw [if_neg xa, if_neg xa]
    by_cases xr : x = r
    · rw [if_pos xr, xr, if_neg (Ne.symm g5), if_neg (Ne.symm k4), if_neg (Ne.symm b3), if_neg (Ne.symm s2), if_neg (Ne.symm w1), if_pos rfl]
    rw [if_neg xr, if_neg xr]
    by_cases xw : x = w
    · rw [if_pos xw, xw, if_neg (Ne.symm g4), if_neg (Ne.symm k3), if_neg (Ne.symm b2), if_neg (Ne.symm s1), if_pos rfl]
    rw [if_neg xw, if_neg xw]
    by_cases xs : x = s
    · rw [if_pos xs, xs, if_neg (Ne.symm g3), if_neg (Ne.symm k2), if_neg (Ne.symm b1), if_pos rfl]; rfl
    rw [if_neg xs, if_neg xs]
    by_cases xb : x = b
    · rw [if_pos xb, xb, if_neg (Ne.symm g2), if_neg (Ne.symm k1), if_pos rfl]
    rw [if_neg xb, if_neg xb]
    by_cases xc : x = c
    · rw [if_pos xc, xc, if_neg (Ne.symm g1), if_pos rfl]
    rw [if_neg xc, if_neg xc]
    rfl
end Go.Proofs.Ytgnifhkjpekkdaa
