import Derived.Test.YtgnifhkjpekkdaaSaCFree5
set_option linter.unusedVariables false
set_option maxRecDepth 20000
namespace Go.Proofs.Ytgnifhkjpekkdaa
open Go Go.Fw

theorem pushed_wf {A : Ar} (hA : A.wf) (hd lk b : Int) : (A.pushed hd lk b).wf :=
  ⟨hA.nd, hA.fit, hA.busy, hA.carved, hA.words, by unfold Ar.pushed; simp only [List.length_set]; exact hA.raw, hA.wC, hA.wL, hA.wR, hA.wF⟩
theorem pushed_alike (A : Ar) (hd lk b : Int) : Ar.Alike A (A.pushed hd lk b) := ⟨rfl, rfl, rfl, rfl, rfl, rfl, rfl⟩
theorem popped_wf {A : Ar} (hA : A.wf) (hd lk : Int) : (A.popped hd lk).wf :=
  ⟨hA.nd, hA.fit, hA.busy, hA.carved, hA.words, by unfold Ar.popped; simp only [List.length_set]; exact hA.raw, hA.wC, hA.wL, hA.wR, hA.wF⟩
theorem popped_alike (A : Ar) (hd lk : Int) : Ar.Alike A (A.popped hd lk) := ⟨rfl, rfl, rfl, rfl, rfl, rfl, rfl⟩

theorem chk_pl {L : Hands} {H : Heap} {R : Value → Heap → Prop} {b : Nat} {p : Pl} {t : Tree} (hb : H b = some (.cells p.cells ty_free_Place (0, 0))) (h : wp Try.prog t L H R) : wp Try.prog (.check (ldAS ⟨b, 0, none⟩ 5 0 #[]) p.val t) L H R := by
  refine ⟨?_, h⟩
  rw [ldAS_eq]
  refine ldK_still hb 5 0 #[] (by exact Nat.le_refl 5) ?_
  have hx : (#[] ++ p.cells.extract 0 5) = p.cells := by unfold Pl.cells; simp
  show Value.agg (#[] ++ p.cells.extract 0 5) = _
  rw [hx]; rfl

theorem le_none {H G : Heap} (h : H.le G) {b : Nat} (hb : G b = none) : H b = none := by
  cases hc : H b with
  | none => rfl
  | some o => rw [h _ _ hc] at hb; cases hb

theorem le_set_none {H G : Heap} (h : H.le G) {b : Nat} (o : Obj) (hb : H b = none) : H.le (G.set b o) := fun x v e => by
  by_cases hx : x = b
  · rw [hx, hb] at e; cases e
  · rw [Heap.set_ne _ _ hx]; exact h _ _ e
theorem ne_of {G : Heap} {b c : Nat} {o : Obj} (h : G b = some o) (k : G c = none) : b ≠ c := fun e => by rw [e, k] at h; cases h

/-- A machine that was made, beside an arena. -/
structure MadeM (A : Ar) (G : Heap) (q0 q1 : Nat) (o0 o1 : Obj) (K : Heap) : Prop where
  i0 : q0 ∉ A.ids
  i1 : q1 ∉ A.ids
  ne : q0 ≠ q1
  n0 : G q0 = none
  n1 : G q1 = none
  le : G.le K
  g0 : K q0 = some o0
  g1 : K q1 = some o1

theorem mk_made {A : Ar} {G : Heap} {q0 q1 : Nat} {o0 o1 : Obj} (h0 : A.put G q0 = none) (h1 : A.put G q1 = none) (hn : q0 ≠ q1) :
    MadeM A G q0 q1 o0 o1 ((G.set q1 o1).set q0 o0) ∧ ((A.put G).set q1 o1).set q0 o0 = A.put ((G.set q1 o1).set q0 o0) := by
  obtain ⟨a0, b0⟩ := Ar.put_none h0
  obtain ⟨a1, b1⟩ := Ar.put_none h1
  refine ⟨⟨a0, a1, hn, b0, b1, Heap.le_trans (Heap.le_set_new _ b1) (Heap.le_set_new _ (by rw [Heap.set_ne _ _ hn]; exact b0)), Heap.set_same _ _ _, by rw [Heap.set_ne _ _ (Ne.symm hn), Heap.set_same]⟩, ?_⟩
  rw [Ar.put_set _ a1, Ar.put_set _ a0]

theorem NewPush_on {A : Ar} {G : Heap} (p : Pl) (w c b : Int) : SpecF Try.prog f_free_NewPush #[p.val, .int .i64 w, .int .i64 c, .int .i64 b] (A.put G) fun v K => ∃ q0 q1 G', MadeM A G q0 q1 (pushObj q1) (Pu.obj ⟨p, headF p w c, 0, 0, b⟩) G' ∧ v = .pointer (some ⟨q0, 0, none⟩) ∧ K = A.put G' := by
  refine SpecF.mono (NewPush_spec p w c b (A.put G)) ?_
  rintro v K ⟨q0, q1, h0, h1, hn, rfl, rfl⟩
  obtain ⟨m, e⟩ := mk_made (o0 := pushObj q1) (o1 := Pu.obj ⟨p, headF p w c, 0, 0, b⟩) h0 h1 hn
  exact ⟨q0, q1, _, m, rfl, e⟩
theorem NewPop_on {A : Ar} {G : Heap} (p : Pl) (w c : Int) : SpecF Try.prog f_free_NewPop #[p.val, .int .i64 w, .int .i64 c] (A.put G) fun v K => ∃ q0 q1 G', MadeM A G q0 q1 (popObj q1) (Po.obj ⟨p, headF p w c, 0, 0, 0, 0, false⟩) G' ∧ v = .pointer (some ⟨q0, 0, none⟩) ∧ K = A.put G' := by
  refine SpecF.mono (NewPop_spec p w c (A.put G)) ?_
  rintro v K ⟨q0, q1, h0, h1, hn, rfl, rfl⟩
  obtain ⟨m, e⟩ := mk_made (o0 := popObj q1) (o1 := Po.obj ⟨p, headF p w c, 0, 0, 0, 0, false⟩) h0 h1 hn
  exact ⟨q0, q1, _, m, rfl, e⟩

theorem eh_some (a : Addr) : opS Try.prog (.binOp .eql ty_p_free_Push (.tmp 0) (.const (.pointer none)) ty_p_free_Push) ty_bool [(.pointer (some a))] = .pure (.value (.bool false)) := by kernel_rfl
theorem eo_some (a : Addr) : opS Try.prog (.binOp .eql ty_p_free_Pop (.tmp 0) (.const (.pointer none)) ty_p_free_Pop) ty_bool [(.pointer (some a))] = .pure (.value (.bool false)) := by kernel_rfl

theorem pushed_ok {A : Ar} {hd lk b i : Int} : (A.pushed hd lk b).rawOk i ↔ A.rawOk i := by unfold Ar.rawOk Ar.pushed; simp only [List.length_set]
theorem popped_ok {A : Ar} {hd lk i : Int} : (A.popped hd lk).rawOk i ↔ A.rawOk i := by unfold Ar.rawOk Ar.popped; simp only [List.length_set]

theorem rawF_pushed {A : Ar} {hd lk b i : Int} (h1 : A.rawOk hd) (h2 : A.rawOk lk) (hi : A.rawOk i) :
    (A.pushed hd lk b).rawF i = if i = hd then nextF (A.rawF hd) (w64 (w64 (Int.tdiv b 8) + 1)) else if i = lk then iand (A.rawF hd) 131071 else A.rawF i := by
  have e : (A.pushed hd lk b).rawF i = (A.pushed hd lk b).raw.getD i.toNat 0 := by unfold Ar.rawF; rw [if_pos (pushed_ok.2 hi)]
  have e2 : A.rawF i = A.raw.getD i.toNat 0 := by unfold Ar.rawF; rw [if_pos hi]
  rw [e, e2]
  unfold Ar.rawOk at h1 h2 hi
  show ((A.raw.set lk.toNat (iand (A.rawF hd) 131071)).set hd.toNat (nextF (A.rawF hd) (w64 (w64 (Int.tdiv b 8) + 1)))).getD i.toNat 0 = _
  rw [List.getD_eq_getElem?_getD, List.getD_eq_getElem?_getD, List.getElem?_set, List.getElem?_set]
  simp only [List.length_set]
  by_cases c1 : i = hd
  · rw [if_pos c1, if_pos (by rw [c1]), if_pos (by omega)]; rfl
  · rw [if_neg c1, if_neg (by omega)]
    by_cases c2 : i = lk
    · rw [if_pos c2, if_pos (by rw [c2]), if_pos (by omega)]; rfl
    · rw [if_neg c2, if_neg (by omega)]

theorem rawF_popped {A : Ar} {hd lk i : Int} (h1 : A.rawOk hd) (hi : A.rawOk i) : (A.popped hd lk).rawF i = if i = hd then nextF (A.rawF hd) (A.rawF lk) else A.rawF i := by
  have e : (A.popped hd lk).rawF i = (A.popped hd lk).raw.getD i.toNat 0 := by unfold Ar.rawF; rw [if_pos (popped_ok.2 hi)]
  have e2 : A.rawF i = A.raw.getD i.toNat 0 := by unfold Ar.rawF; rw [if_pos hi]
  rw [e, e2]
  unfold Ar.rawOk at h1 hi
  show (A.raw.set hd.toNat (nextF (A.rawF hd) (A.rawF lk))).getD i.toNat 0 = _
  rw [List.getD_eq_getElem?_getD, List.getD_eq_getElem?_getD, List.getElem?_set]
  by_cases c1 : i = hd
  · rw [if_pos c1, if_pos (by rw [c1]), if_pos (by omega)]; rfl
  · rw [if_neg c1, if_neg (by omega)]

end Go.Proofs.Ytgnifhkjpekkdaa
