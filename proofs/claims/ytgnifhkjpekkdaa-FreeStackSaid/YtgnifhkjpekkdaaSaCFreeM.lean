import Derived.Test.YtgnifhkjpekkdaaSaCMach
set_option linter.unusedVariables false
set_option maxRecDepth 20000
namespace Go.Proofs.Ytgnifhkjpekkdaa
open Go Go.Fw

noncomputable def mPu : Mch Pu (Nat × Nat) where
  f := f_free_Push_Step
  addr := fun j => j.1
  bl := fun m j => [(j.1, pushObj j.2), (j.2, m.obj)]
  inv := fun _ _ => True
  step := fun m A => (m.stepM A, m.stepA A)
  fin := fun m => decide (m.at' = 3)
def mPo : Mch Po (Nat × Nat) where
  f := f_free_Pop_Step
  addr := fun j => j.1
  bl := fun m j => [(j.1, popObj j.2), (j.2, m.obj)]
  inv := fun _ _ => True
  step := fun m A => (m.stepM A, m.stepA A)
  fin := fun m => decide (m.at' = 3)

theorem Aw.Pu {I : List Nat} {A : Ar} (h : Aw I A) (x : Pu) : Aw I (x.stepA A) := by
  unfold Pu.stepA; split
  · exact h.storeR _ _
  · split
    · exact h.swapR _ _ _
    · split
      · exact h
      · exact h.touchR _
theorem Aw.Po {I : List Nat} {A : Ar} (h : Aw I A) (x : Po) : Aw I (x.stepA A) := by
  unfold Po.stepA; split
  · exact h.touchR _
  · split
    · exact h.swapR _ _ _
    · split
      · exact h
      · exact h.touchR _
theorem Pu.fin (x : Pu) (A : Ar) : decide ((x.stepM A).at' = 3) = x.stepB A := by
  unfold Pu.stepM Pu.stepB
  by_cases h1 : x.at' = 1
  · rw [if_pos h1, if_neg (by omega)]
    have : ¬ x.at' = 3 := by omega
    rw [decide_eq_false this]; rfl
  · rw [if_neg h1]
    by_cases h2 : x.at' = 2
    · rw [if_pos h2, if_pos h2]; cases A.swapRb x.head x.was <;> rfl
    · rw [if_neg h2, if_neg h2]
      by_cases h3 : x.at' = 3
      · rw [if_pos h3]
      · rw [if_neg h3, decide_eq_false h3]; rfl
theorem Po.fin (x : Po) (A : Ar) : decide ((x.stepM A).at' = 3) = x.stepB A := by
  unfold Po.stepM Po.stepB
  by_cases h1 : x.at' = 1
  · rw [if_pos h1, if_pos h1]; rfl
  · rw [if_neg h1, if_neg h1]
    by_cases h2 : x.at' = 2
    · rw [if_pos h2, if_pos h2]; cases A.swapRb x.head x.was <;> rfl
    · rw [if_neg h2, if_neg h2]
      by_cases h3 : x.at' = 3
      · rw [if_pos h3, if_pos h3, decide_eq_true h3]
      · rw [if_neg h3, if_neg h3]
        by_cases h4 : iand (A.rawF x.head) 131071 = 0
        · show decide ((if _ then (3 : Int) else 1) = 3) = _
          rw [if_pos h4, decide_eq_true h4]; rfl
        · show decide ((if _ then (3 : Int) else 1) = 3) = _
          rw [if_neg h4, decide_eq_false h4]; rfl

section
variable {L : Hands} {R : Value → Heap → Prop} {A : Ar} {I : List Nat} {l : Bl} {G : Heap}

theorem out_of (hA : Aw I A) (ok : Ok I G (keys l)) {i q : Nat} {o : Obj} (h : l[i]? = some (q, o)) : q ∉ A.ids := by
  rw [hA.ids]; exact ok.out q (List.mem_map.2 ⟨(q, o), List.mem_of_getElem? h, rfl⟩)

theorem Push_own (hA : Aw I A) (ok : Ok I G (keys l)) (x : Pu) (i0 i1 : Nat) {q0 q1 : Nat} (h0 : l[i0]? = some (q0, pushObj q1)) (h1 : l[i1]? = some (q1, x.obj)) :
    Det Try.prog f_free_Push_Step [.pointer (some ⟨q0, 0, none⟩), .pointer (aI I)] (own A l G) (.bool (x.stepB A)) (own (x.stepA A) (l.set i1 (q1, (x.stepM A).obj)) G) := by
  have := Push_det hA.wf x (out_of hA ok h0) (out_of hA ok h1) (putL_get G ok.nd h0) (putL_get G ok.nd h1)
  rw [putL_set G ok.nd h1] at this
  rw [hA.pA]; exact this
theorem Pop_own (hA : Aw I A) (ok : Ok I G (keys l)) (x : Po) (i0 i1 : Nat) {q0 q1 : Nat} (h0 : l[i0]? = some (q0, popObj q1)) (h1 : l[i1]? = some (q1, x.obj)) :
    Det Try.prog f_free_Pop_Step [.pointer (some ⟨q0, 0, none⟩), .pointer (aI I)] (own A l G) (.bool (x.stepB A)) (own (x.stepA A) (l.set i1 (q1, (x.stepM A).obj)) G) := by
  have := Pop_det hA.wf x (out_of hA ok h0) (out_of hA ok h1) (putL_get G ok.nd h0) (putL_get G ok.nd h1)
  rw [putL_set G ok.nd h1] at this
  rw [hA.pA]; exact this
theorem Base_own (hA : Aw I A) (ok : Ok I G (keys l)) (x : Po) (i0 i1 : Nat) {q0 q1 : Nat} (h0 : l[i0]? = some (q0, popObj q1)) (h1 : l[i1]? = some (q1, x.obj)) :
    Det Try.prog f_free_Pop_Base [.pointer (some ⟨q0, 0, none⟩)] (own A l G) (.tuple #[.int .i64 x.base, .bool x.ok]) (own A l G) :=
  Base_det x (out_of hA ok h0) (out_of hA ok h1) (putL_get G ok.nd h0) (putL_get G ok.nd h1)

theorem w_PushStep (i0 i1 : Nat) {q0 q1 : Nat} {x : Pu} {k : Bool → Tree} (hA : Aw I A) (ok : Ok I G (keys l)) (h0 : l[i0]? = some (q0, pushObj q1)) (h1 : l[i1]? = some (q1, x.obj))
    (h : Aw I (x.stepA A) → wp Try.prog (k (x.stepB A)) L (own (x.stepA A) (l.set i1 (q1, (x.stepM A).obj)) G) R) :
    wp Try.prog (.call f_free_Push_Step [.pointer (some ⟨q0, 0, none⟩), .pointer (aI I)] (.one (.leaf .bool)) k) L (own A l G) R := wp_call_det (x := x.stepB A) (Push_own hA ok x i0 i1 h0 h1) (h (hA.Pu x))
theorem w_PopStep (i0 i1 : Nat) {q0 q1 : Nat} {x : Po} {k : Bool → Tree} (hA : Aw I A) (ok : Ok I G (keys l)) (h0 : l[i0]? = some (q0, popObj q1)) (h1 : l[i1]? = some (q1, x.obj))
    (h : Aw I (x.stepA A) → wp Try.prog (k (x.stepB A)) L (own (x.stepA A) (l.set i1 (q1, (x.stepM A).obj)) G) R) :
    wp Try.prog (.call f_free_Pop_Step [.pointer (some ⟨q0, 0, none⟩), .pointer (aI I)] (.one (.leaf .bool)) k) L (own A l G) R := wp_call_det (x := x.stepB A) (Pop_own hA ok x i0 i1 h0 h1) (h (hA.Po x))
theorem w_Base (i0 i1 : Nat) {q0 q1 : Nat} {x : Po} {k : HL Sh1.T [(.leaf (.int .i64)), (.leaf .bool)] → Tree} (hA : Aw I A) (ok : Ok I G (keys l)) (h0 : l[i0]? = some (q0, popObj q1)) (h1 : l[i1]? = some (q1, x.obj))
    (h : wp Try.prog (k (x.base, x.ok, ())) L (own A l G) R) :
    wp Try.prog (.call f_free_Pop_Base [.pointer (some ⟨q0, 0, none⟩)] (.tup [(.leaf (.int .i64)), (.leaf .bool)]) k) L (own A l G) R := wp_call_det (x := (x.base, x.ok, ())) (Base_own hA ok x i0 i1 h0 h1) h

theorem ok2 (hA : Aw I A) (ok : Ok I G (keys l)) {q0 q1 : Nat} {o0 o1 : Obj} (h0 : own A l G q0 = none) (h1 : own A l G q1 = none) (hn : q0 ≠ q1) :
    Ok I G (keys ((q0, o0) :: (q1, o1) :: l)) ∧ ((own A l G).set q1 o1).set q0 o0 = own A ((q0, o0) :: (q1, o1) :: l) G := by
  obtain ⟨a1, a2⟩ := own_new hA ok h1 o1
  have : own A ((q1, o1) :: l) G q0 = none := by rw [← a2, Heap.set_ne _ _ hn]; exact h0
  obtain ⟨b1, b2⟩ := own_new hA a1 this o0
  exact ⟨b1, by rw [a2, b2]⟩

theorem w_NewPop {p : Pl} {w c : Int} {k : Option Addr → Tree} (hA : Aw I A) (ok : Ok I G (keys l)) (h : ∀ q0 q1, Ok I G (keys ((q0, popObj q1) :: (q1, Po.obj ⟨p, headF p w c, 0, 0, 0, 0, false⟩) :: l)) →
      wp Try.prog (k (some ⟨q0, 0, none⟩)) L (own A ((q0, popObj q1) :: (q1, Po.obj ⟨p, headF p w c, 0, 0, 0, 0, false⟩) :: l) G) R) :
    wp Try.prog (.call f_free_NewPop [p.val, .int .i64 w, .int .i64 c] (.one (.leaf .ptr)) k) L (own A l G) R := by
  refine wp_call_of (NewPop_spec p w c _) ?_
  rintro v K ⟨q0, q1, h0, h1, hn, rfl, rfl⟩
  obtain ⟨a, b⟩ := ok2 hA ok (o0 := popObj q1) (o1 := Po.obj ⟨p, headF p w c, 0, 0, 0, 0, false⟩) h0 h1 hn
  exact ⟨_, rfl, by rw [b]; exact h q0 q1 a⟩
theorem w_NewPush {p : Pl} {w c b : Int} {k : Option Addr → Tree} (hA : Aw I A) (ok : Ok I G (keys l)) (h : ∀ q0 q1, Ok I G (keys ((q0, pushObj q1) :: (q1, Pu.obj ⟨p, headF p w c, 0, 0, b⟩) :: l)) →
      wp Try.prog (k (some ⟨q0, 0, none⟩)) L (own A ((q0, pushObj q1) :: (q1, Pu.obj ⟨p, headF p w c, 0, 0, b⟩) :: l) G) R) :
    wp Try.prog (.call f_free_NewPush [p.val, .int .i64 w, .int .i64 c, .int .i64 b] (.one (.leaf .ptr)) k) L (own A l G) R := by
  refine wp_call_of (NewPush_spec p w c b _) ?_
  rintro v K ⟨q0, q1, h0, h1, hn, rfl, rfl⟩
  obtain ⟨a, e⟩ := ok2 hA ok (o0 := pushObj q1) (o1 := Pu.obj ⟨p, headF p w c, 0, 0, b⟩) h0 h1 hn
  exact ⟨_, rfl, by rw [e]; exact h q0 q1 a⟩
end

theorem mPu_ok : mPu.ok := fun I A G m j hA ok _ => by
  refine SpecF.mono (Push_own (l := [(j.1, pushObj j.2), (j.2, m.obj)]) hA ok m 0 1 rfl rfl) ?_
  rintro v K ⟨rfl, rfl⟩
  exact ⟨j, by rw [← m.fin A]; rfl, rfl, rfl, ok, hA.Pu m⟩
theorem mPo_ok : mPo.ok := fun I A G m j hA ok _ => by
  refine SpecF.mono (Pop_own (l := [(j.1, popObj j.2), (j.2, m.obj)]) hA ok m 0 1 rfl rfl) ?_
  rintro v K ⟨rfl, rfl⟩
  exact ⟨j, by rw [← m.fin A]; rfl, rfl, rfl, ok, hA.Po m⟩
theorem mPu_inv : mPu.inv' ty_p_free_Push := inv_Push
theorem mPo_inv : mPo.inv' ty_p_free_Pop := inv_Pop
end Go.Proofs.Ytgnifhkjpekkdaa
