/- Texts of this claim, one behind the other. -/
import Derived.Test.YtcjhakdopnamoaaCWGuardBounds2
set_option linter.unusedSimpArgs false
set_option linter.unusedVariables false
set_option linter.unusedVariables false
set_option linter.unusedSimpArgs false
set_option maxRecDepth 20000
namespace Go.Proofs.Ytcjhakdopnamoaa
open Go Go.Fw

/-- Words set, one by one. -/
structure Se where
  ws : List Int
  v : Int
structure SeJ where
  q : Nat
  s : Sl
  hb : Bl
def Se.bl (x : Se) (j : SeJ) : Bl := (j.q, oc ty_guard_sets [slV j.s, .int .i64 x.v]) :: j.hb
def Se.step (x : Se) (A : Ar) : Se × Ar :=
  match x.ws with
  | [] => (x, A)
  | w :: ws => ({ x with ws := ws }, A.storeR w x.v)
def mSe : MchR Se SeJ where
  f := f_guard_sets_Step
  addr := SeJ.q
  bl := Se.bl
  rep := fun x j => SlAt j.hb ty_int eI j.s x.ws
  inv := fun _ _ => True
  step := Se.step
  fin := fun x => decide (x.ws = [])
theorem mSe_inv : mSe.inv' ty_p_guard_sets := fun q p => by
  show opS _ _ _ _ = .pure (.enter f_guard_sets_Step [.pointer (some ⟨q, 0, none⟩), .pointer p].toArray)
  kernel_rfl

theorem SlAt.len0 {l : Bl} {s : Sl} (h : SlAt l ty_int eI s []) : s.len = 0 := by have := h.len; simpa using this

set_option maxHeartbeats 1000000 in
theorem mSe_ok : mSe.ok := by
  rintro I A G ⟨ws, v⟩ ⟨q, s, hb⟩ hA ok rp _
  have rp : SlAt hb ty_int eI s ws := rp
  have ok : Ok I G (keys ((q, oc ty_guard_sets [slV s, .int .i64 v]) :: hb)) := ok
  refine t_guard_sets_Step_spec fun L => ?_
  unfold t_guard_sets_Step
  show wp Try.prog _ L (own A ((q, oc ty_guard_sets [slV s, .int .i64 v]) :: hb) G) _
  have hl := rp.len
  refine wp_nil.2 (w_ld 0 (x := s) hA ok rfl rfl rfl ?_)
  cases ws with
  | nil =>
    have h0 : s.len = 0 := rp.len0
    refine wp_false (decide_eq_false (by omega)) ?_
    refine wp_nil.2 (w_ld 0 (x := s) hA ok rfl rfl rfl ?_)
    exact wp_ret_of ⟨⟨q, s, hb⟩, by rw [h0]; rfl, rfl, rfl, ok, rp, hA⟩
  | cons w ws =>
    obtain ⟨t1, t2⟩ := rp.tailI
    refine wp_true (decide_eq_true (by omega)) ?_
    refine wp_nil.2 (w_ld 0 (x := s) hA ok rfl rfl rfl ?_)
    rw [opS_ix0]
    refine rdA (xs := w :: ws) hA ok (rp.mono fun p hp => List.mem_cons_of_mem _ hp) (Int.le_refl 0) (by simp) ?_
    refine wp_nil.2 (w_ld 0 (x := v) hA ok rfl rfl rfl ?_)
    refine w_SetRaw hA fun hB => ?_
    refine wp_nil.2 (w_ld 0 (x := s) hB ok rfl rfl rfl ?_)
    rw [opS_lo1]
    refine w_cutLo (by omega) t2 ?_
    refine wp_nil.2 (w_st 0 hB ok rfl rfl rfl rfl ?_)
    have ok1 : Ok I G (keys ((q, oc ty_guard_sets [slV (loSl s 1), .int .i64 v]) :: hb)) := ok
    show wp Try.prog _ L (own (A.storeR w v) ((q, oc ty_guard_sets [slV (loSl s 1), .int .i64 v]) :: hb) G) _
    refine wp_nil.2 (w_ld 0 (x := loSl s 1) hB ok1 rfl rfl rfl ?_)
    refine wp_ret_of ⟨⟨q, loSl s 1, hb⟩, ?_, rfl, rfl, ok1, t1, hB⟩
    have hl1 := t1.len
    show Value.bool (((((loSl s 1).len : Nat) : Int)) == 0) = .bool (decide (ws = []))
    rw [hl1]
    cases ws with
    | nil => rfl
    | cons a b => simp; omega

section
variable {L : Hands} {R : Value → Heap → Prop} {G : Heap} {l rest : Bl} {A : Ar} {I : List Nat}

/-- A guard is made. -/
theorem w_GNew {w n th : Int} {ep : Bool} {p : Pl} {K : Option Addr → Tree} (b : 0 ≤ w ∧ w ≤ 100000) (hA : Aw I A) (ok : Ok I G (keys l))
    (h : ∀ q mq, Ok I G (keys (Gd.bl ⟨ep, w, n, p, imax 1 (imin th 64)⟩ q mq [] ++ l)) → wp Try.prog (K (some ⟨q, 0, none⟩)) L (own A (Gd.bl ⟨ep, w, n, p, imax 1 (imin th 64)⟩ q mq [] ++ l) G) R) :
    wp Try.prog (.call f_guard_New [.int .i64 w, .int .i64 n, .bool ep, .int .i64 th, p.val] (.one (.leaf .ptr)) K) L (own A l G) R := by
  refine wp_call_of (R0 := fun v H => ∃ q mq, v = .pointer (some ⟨q, 0, none⟩) ∧ H = own A (Gd.bl ⟨ep, w, n, p, imax 1 (imin th 64)⟩ q mq [] ++ l) G ∧ Ok I G (keys (Gd.bl ⟨ep, w, n, p, imax 1 (imin th 64)⟩ q mq [] ++ l))) ?_ ?_
  · refine t_guard_New_spec (p0 := w) (p1 := n) (p2 := ep) (p3 := th) (p4_0 := p.work) (p4_1 := p.heads) (p4_2 := p.links) (p4_3 := p.gens) (p4_4 := p.carved) fun L => ?_
    unfold t_guard_New
    refine w_newP (c := plCells p) hA ok fun x9 ok1 => ?_
    refine w_ldA 0 hA ok1 rfl rfl rfl ?_
    have fin : ∀ {x9 x19 x21 : Nat} {rest : Bl} {l' : Bl}, Ok I G (keys l') → l'.Perm (Gd.bl ⟨ep, w, n, p, imax 1 (imin th 64)⟩ x21 x19 [] ++ (x9, oc ty_free_Place (plCells p)) :: l) → wp Try.prog (.ret (.pointer (some ⟨x21, 0, none⟩))) L (own A l' G) fun v H => ∃ q mq, v = .pointer (some ⟨q, 0, none⟩) ∧ H = own A (Gd.bl ⟨ep, w, n, p, imax 1 (imin th 64)⟩ q mq [] ++ l) G ∧ Ok I G (keys (Gd.bl ⟨ep, w, n, p, imax 1 (imin th 64)⟩ q mq [] ++ l)) := fun {x9 x19 x21 rest l'} ok hp => by
      obtain ⟨e1, ok2⟩ := own_perm (A := A) ok hp
      have nd : (keys (Gd.bl ⟨ep, w, n, p, imax 1 (imin th 64)⟩ x21 x19 [] ++ l)).Nodup := by
        have := ok2.nd
        exact (show (keys (Gd.bl ⟨ep, w, n, p, imax 1 (imin th 64)⟩ x21 x19 [] ++ l)).Sublist (keys (Gd.bl ⟨ep, w, n, p, imax 1 (imin th 64)⟩ x21 x19 [] ++ (x9, oc ty_free_Place (plCells p)) :: l)) from ((List.Sublist.refl _).append (List.sublist_cons_self _ _)).map _).nodup this
      have hm : ∀ q ∈ Gd.bl ⟨ep, w, n, p, imax 1 (imin th 64)⟩ x21 x19 [] ++ l, q ∈ Gd.bl ⟨ep, w, n, p, imax 1 (imin th 64)⟩ x21 x19 [] ++ (x9, oc ty_free_Place (plCells p)) :: l := fun q hq => by
        rcases List.mem_append.1 hq with h | h
        · exact List.mem_append_left _ h
        · exact List.mem_append_right _ (List.mem_cons_of_mem _ h)
      rw [e1]
      exact ⟨own A (Gd.bl ⟨ep, w, n, p, imax 1 (imin th 64)⟩ x21 x19 [] ++ l) G, own_sub ok2 nd hm, x21, x19, rfl, rfl, ok2.sub nd fun b hb => by
        obtain ⟨q, hq, e⟩ := List.mem_map.1 hb
        exact List.mem_map.2 ⟨q, hm q hq, e⟩⟩
    refine ⟨?_, ?_⟩
    · refine wp_call_det (x := (⟨bif ep then ty_guard_epochs else ty_guard_hazards, .agg #[.int .i64 w, .int .i64 n]⟩ : Ifv)) (of_det ep b _) ?_
      refine w_ckA 0 hA ok1 rfl rfl rfl rfl ?_
      refine w_newM hA ok1 fun x19 ok2 => ?_
      refine w_ckA 1 hA ok2 rfl rfl rfl rfl ?_
      refine w_newP (c := Gd.cells ⟨ep, w, n, p, imax 1 (imin th 64)⟩ x19) hA ok2 fun x21 ok3 => ?_
      exact fin (x9 := x9) (x19 := x19) (rest := []) ok3 (.refl _)
    · refine w_newM hA ok1 fun x19 ok2 => ?_
      refine w_ckA 1 hA ok2 rfl rfl rfl rfl ?_
      refine wp_call_det (x := (⟨bif ep then ty_guard_epochs else ty_guard_hazards, .agg #[.int .i64 w, .int .i64 n]⟩ : Ifv)) (of_det ep b _) ?_
      refine w_ckA 1 hA ok2 rfl rfl rfl rfl ?_
      refine w_newP (c := Gd.cells ⟨ep, w, n, p, imax 1 (imin th 64)⟩ x19) hA ok2 fun x21 ok3 => ?_
      exact fin (x9 := x9) (x19 := x19) (rest := []) ok3 (.refl _)
  · rintro v H ⟨q, mq, rfl, rfl, o⟩
    exact ⟨_, rfl, h q mq o⟩
end
end Go.Proofs.Ytcjhakdopnamoaa

set_option linter.unusedVariables false
set_option linter.unusedSimpArgs false
set_option maxRecDepth 20000
namespace Go.Proofs.Ytcjhakdopnamoaa
open Go Go.Fw

section
variable {L : Hands} {R : Value → Heap → Prop} {G : Heap} {l rest : Bl} {A : Ar} {I : List Nat} {g : Gd} {e : List LE} {q mq : Nat}

/-- Enter: a pin, or nothing. -/
theorem w_GEnter {k : Int} {K : Value → Tree} (hA : Aw I A) (ok : Ok I G (keys (g.bl q mq e ++ rest)))
    (h1 : g.ep = true → ∀ z : Nat, Ok I G (keys (g.bl q mq e ++ ((newPn g.w g.ta k).bl z ++ rest))) → wp Try.prog (K (.iface ty_p_epoch_Pin (.pointer (some ⟨z, 0, none⟩)))) L (own A (g.bl q mq e ++ ((newPn g.w g.ta k).bl z ++ rest)) G) R)
    (h2 : g.ep = false → wp Try.prog (K .nilIface) L (own A (g.bl q mq e ++ rest) G) R) :
    wp Try.prog (.call f_guard_Guard_Enter [.pointer (some ⟨q, 0, none⟩), .int .i64 k] (.one (.leaf .val)) K) L (own A (g.bl q mq e ++ rest) G) R := by
  cases hp : g.ep with
  | true =>
    refine wp_call_of (R0 := fun v H => ∃ z, v = .iface ty_p_epoch_Pin (.pointer (some ⟨z, 0, none⟩)) ∧ H = own A (g.bl q mq e ++ ((newPn g.w g.ta k).bl z ++ rest)) G ∧ Ok I G (keys (g.bl q mq e ++ ((newPn g.w g.ta k).bl z ++ rest)))) ?_ ?_
    · refine t_guard_Guard_Enter_spec fun L => ?_
      unfold t_guard_Guard_Enter
      refine wp_nil.2 (w_ld 0 (x := gmode g.ep g.w g.ta) hA ok rfl rfl rfl ?_)
      rw [hp]
      refine look_val (x := ((g.w, g.ta, ()), true, ())) (ta_epT _ _ _) (wp_true rfl ?_)
      refine w_newP (c := [.int .i64 0, .int .i64 0]) hA ok fun x5 ok1 => ?_
      refine w_stA 0 hA ok1 rfl rfl rfl rfl ?_
      have ok1 : Ok I G (keys ((x5, oc ty_guard_epochs [.int .i64 g.w, .int .i64 g.ta]) :: (g.bl q mq e ++ rest))) := ok1
      show wp Try.prog _ L (own A ((x5, oc ty_guard_epochs [.int .i64 g.w, .int .i64 g.ta]) :: (g.bl q mq e ++ rest)) G) _
      refine w_ldA 0 hA ok1 rfl rfl rfl ?_
      refine w_NewPin (tw := g.w) (ta := g.ta) (work := k) hA ok1 fun z ok2 => ?_
      obtain ⟨p1, ok3⟩ := own_perm (A := A) (l' := (x5, oc ty_guard_epochs [.int .i64 g.w, .int .i64 g.ta]) :: (g.bl q mq e ++ ((newPn g.w g.ta k).bl z ++ rest))) ok2 (perm_by fun c d c0 cd ca => by simp only [cd, ca]; omega)
      rw [p1]
      exact ⟨_, own_sub ok3 ((List.nodup_cons.1 ok3.nd).2) (fun p hp => List.mem_cons_of_mem _ hp), z, rfl, rfl, ok3.sub ((List.nodup_cons.1 ok3.nd).2) fun b hb => List.mem_cons_of_mem _ hb⟩
    · rintro v H ⟨z, rfl, rfl, o⟩
      exact ⟨_, rfl, h1 hp z o⟩
  | false =>
    refine wp_call_det (x := .nilIface) (H' := own A (g.bl q mq e ++ rest) G) ?_ (h2 hp)
    refine t_guard_Guard_Enter_spec fun L => ?_
    unfold t_guard_Guard_Enter
    refine wp_nil.2 (w_ld 0 (x := gmode g.ep g.w g.ta) hA ok rfl rfl rfl ?_)
    rw [hp]
    refine look_val (x := ((0, 0, ()), false, ())) (ta_epF _ _ _) (wp_false rfl ?_)
    exact wp_ret_of ⟨rfl, rfl⟩

/-- Protect: a word set, or nothing. -/
theorem w_GProtect {k n v : Int} {K : Value → Tree} (b : 0 ≤ g.ta ∧ g.ta ≤ 1000000 ∧ 0 ≤ k ∧ k ≤ 1000 ∧ 0 ≤ n ∧ n ≤ 1000) (hA : Aw I A) (ok : Ok I G (keys (g.bl q mq e ++ rest)))
    (h1 : g.ep = false → ∀ j : SeJ, Ok I G (keys (g.bl q mq e ++ (Se.bl ⟨[g.ta + 2 * k + n], v⟩ j ++ rest))) → mSe.rep ⟨[g.ta + 2 * k + n], v⟩ j → wp Try.prog (K (.iface ty_p_guard_sets (.pointer (some ⟨j.q, 0, none⟩)))) L (own A (g.bl q mq e ++ (Se.bl ⟨[g.ta + 2 * k + n], v⟩ j ++ rest)) G) R)
    (h2 : g.ep = true → wp Try.prog (K .nilIface) L (own A (g.bl q mq e ++ rest) G) R) :
    wp Try.prog (.call f_guard_Guard_Protect [.pointer (some ⟨q, 0, none⟩), .int .i64 k, .int .i64 n, .int .i64 v] (.one (.leaf .val)) K) L (own A (g.bl q mq e ++ rest) G) R := by
  cases hp : g.ep with
  | false =>
    refine wp_call_of (R0 := fun u H => ∃ j : SeJ, u = .iface ty_p_guard_sets (.pointer (some ⟨j.q, 0, none⟩)) ∧ H = own A (g.bl q mq e ++ (Se.bl ⟨[g.ta + 2 * k + n], v⟩ j ++ rest)) G ∧ Ok I G (keys (g.bl q mq e ++ (Se.bl ⟨[g.ta + 2 * k + n], v⟩ j ++ rest))) ∧ mSe.rep ⟨[g.ta + 2 * k + n], v⟩ j) ?_ ?_
    · refine t_guard_Guard_Protect_spec fun L => ?_
      unfold t_guard_Guard_Protect
      refine wp_nil.2 (w_ld 0 (x := gmode g.ep g.w g.ta) hA ok rfl rfl rfl ?_)
      rw [hp]
      refine look_val (x := ((0, 0, ()), false, ())) (ta_epF _ _ _) ?_
      refine w_newP (c := [.int .i64 0, .int .i64 0]) hA ok fun x9 ok1 => ?_
      refine w_stA 0 hA ok1 rfl rfl rfl rfl (wp_false rfl ?_)
      have ok1 : Ok I G (keys ((x9, oc ty_guard_epochs [.int .i64 0, .int .i64 0]) :: (g.bl q mq e ++ rest))) := ok1
      show wp Try.prog _ L (own A ((x9, oc ty_guard_epochs [.int .i64 0, .int .i64 0]) :: (g.bl q mq e ++ rest)) G) _
      refine wp_nil.2 (w_ld 1 (x := gmode g.ep g.w g.ta) hA ok1 rfl rfl rfl ?_)
      rw [hp]
      refine look_val (x := (g.w, g.ta, ())) (ta_ha _ _ _) ?_
      refine wq_Word (tw := g.w) (ta := g.ta) b ?_
      refine w_newS (c := [.int .i64 (g.ta + 2 * k + n)]) hA ok1 fun x29 ok2 => ?_
      refine w_newP (c := [slV ⟨some ⟨x29, 0, none⟩, 1, 1⟩, .int .i64 v]) hA ok2 fun x32 ok3 => ?_
      obtain ⟨p1, ok4⟩ := own_perm (A := A) (l' := (x9, oc ty_guard_epochs [.int .i64 0, .int .i64 0]) :: (g.bl q mq e ++ (Se.bl ⟨[g.ta + 2 * k + n], v⟩ ⟨x32, ⟨some ⟨x29, 0, none⟩, 1, 1⟩, [(x29, oc ty_int [.int .i64 (g.ta + 2 * k + n)])]⟩ ++ rest))) ok3 (perm_by fun c d c0 cd ca => by simp only [Se.bl, cd, ca, c0]; omega)
      rw [p1]
      exact ⟨_, own_sub ok4 ((List.nodup_cons.1 ok4.nd).2) (fun p hp => List.mem_cons_of_mem _ hp), ⟨x32, ⟨some ⟨x29, 0, none⟩, 1, 1⟩, [(x29, oc ty_int [.int .i64 (g.ta + 2 * k + n)])]⟩, rfl, rfl, ok4.sub ((List.nodup_cons.1 ok4.nd).2) fun b hb => List.mem_cons_of_mem _ hb, .inr ⟨x29, [], [], 0, rfl, (by show 0 * 1 ≤ 0; decide), List.mem_cons_self⟩⟩
    · rintro u H ⟨j, rfl, rfl, o, rp⟩
      exact ⟨_, rfl, h1 hp j o rp⟩
  | true =>
    refine wp_call_of (R0 := fun u H => u = .nilIface ∧ H = own A (g.bl q mq e ++ rest) G) ?_ ?_
    · refine t_guard_Guard_Protect_spec fun L => ?_
      unfold t_guard_Guard_Protect
      refine wp_nil.2 (w_ld 0 (x := gmode g.ep g.w g.ta) hA ok rfl rfl rfl ?_)
      rw [hp]
      refine look_val (x := ((g.w, g.ta, ()), true, ())) (ta_epT _ _ _) ?_
      refine w_newP (c := [.int .i64 0, .int .i64 0]) hA ok fun x9 ok1 => ?_
      refine w_stA 0 hA ok1 rfl rfl rfl rfl (wp_true rfl ?_)
      have ok1 : Ok I G (keys ((x9, oc ty_guard_epochs [.int .i64 g.w, .int .i64 g.ta]) :: (g.bl q mq e ++ rest))) := ok1
      show wp Try.prog _ L (own A ((x9, oc ty_guard_epochs [.int .i64 g.w, .int .i64 g.ta]) :: (g.bl q mq e ++ rest)) G) _
      exact ⟨_, own_sub ok1 ok.nd (fun p hp => List.mem_cons_of_mem _ hp), rfl, rfl⟩
    · rintro u H ⟨rfl, rfl⟩
      exact ⟨_, rfl, h2 hp⟩

/-- Leave: words cleared. -/
def leaveW (g : Gd) (k : Int) : List Int := bif g.ep then [ewd g.ta k] else [g.ta + 2 * k, g.ta + 2 * k + 1]
set_option maxHeartbeats 1000000 in
theorem w_GLeave {k : Int} {K : Value → Tree} (b : 0 ≤ g.ta ∧ g.ta ≤ 1000000 ∧ 0 ≤ k ∧ k ≤ 1000) (hA : Aw I A) (ok : Ok I G (keys (g.bl q mq e ++ rest)))
    (h : ∀ (j : SeJ) (z : Bl), Ok I G (keys (g.bl q mq e ++ (Se.bl ⟨leaveW g k, 0⟩ j ++ (z ++ rest)))) → mSe.rep ⟨leaveW g k, 0⟩ j → wp Try.prog (K (.iface ty_p_guard_sets (.pointer (some ⟨j.q, 0, none⟩)))) L (own A (g.bl q mq e ++ (Se.bl ⟨leaveW g k, 0⟩ j ++ (z ++ rest))) G) R) :
    wp Try.prog (.call f_guard_Guard_Leave [.pointer (some ⟨q, 0, none⟩), .int .i64 k] (.one (.leaf .val)) K) L (own A (g.bl q mq e ++ rest) G) R := by
  refine wp_call_of (R0 := fun u H => ∃ (j : SeJ) (z : Bl), u = .iface ty_p_guard_sets (.pointer (some ⟨j.q, 0, none⟩)) ∧ H = own A (g.bl q mq e ++ (Se.bl ⟨leaveW g k, 0⟩ j ++ (z ++ rest))) G ∧ Ok I G (keys (g.bl q mq e ++ (Se.bl ⟨leaveW g k, 0⟩ j ++ (z ++ rest)))) ∧ mSe.rep ⟨leaveW g k, 0⟩ j) ?_ ?_
  · refine t_guard_Guard_Leave_spec fun L => ?_
    unfold t_guard_Guard_Leave
    refine wp_nil.2 (w_ld 0 (x := gmode g.ep g.w g.ta) hA ok rfl rfl rfl ?_)
    unfold leaveW
    cases hp : g.ep with
    | true =>
      refine look_val (x := ((g.w, g.ta, ()), true, ())) (ta_epT _ _ _) ?_
      refine w_newP (c := [.int .i64 0, .int .i64 0]) hA ok fun x5 ok1 => ?_
      refine w_stA 0 hA ok1 rfl rfl rfl rfl (wp_true rfl ?_)
      have ok1 : Ok I G (keys ((x5, oc ty_guard_epochs [.int .i64 g.w, .int .i64 g.ta]) :: (g.bl q mq e ++ rest))) := ok1
      show wp Try.prog _ L (own A ((x5, oc ty_guard_epochs [.int .i64 g.w, .int .i64 g.ta]) :: (g.bl q mq e ++ rest)) G) _
      refine w_ldA 0 hA ok1 rfl rfl rfl ?_
      refine wq_EWord (tw := g.w) (ta := g.ta) ?_
      refine w_newS (c := [.int .i64 (ewd g.ta k)]) hA ok1 fun x23 ok2 => ?_
      refine w_newP (c := [slV ⟨some ⟨x23, 0, none⟩, 1, 1⟩, .int .i64 0]) hA ok2 fun x25 ok3 => ?_
      obtain ⟨p1, ok4⟩ := own_perm (A := A) (l' := g.bl q mq e ++ (Se.bl ⟨[ewd g.ta k], 0⟩ ⟨x25, ⟨some ⟨x23, 0, none⟩, 1, 1⟩, [(x23, oc ty_int [.int .i64 (ewd g.ta k)])]⟩ ++ ([(x5, oc ty_guard_epochs [.int .i64 g.w, .int .i64 g.ta])] ++ rest))) ok3 (perm_by fun c d c0 cd ca => by simp only [Se.bl, cd, ca, c0]; omega)
      rw [p1]
      exact wp_ret_of ⟨⟨x25, ⟨some ⟨x23, 0, none⟩, 1, 1⟩, [(x23, oc ty_int [.int .i64 (ewd g.ta k)])]⟩, _, rfl, rfl, ok4, .inr ⟨x23, [], [], 0, rfl, (by show 0 * 1 ≤ 0; decide), List.mem_cons_self⟩⟩
    | false =>
      refine look_val (x := ((0, 0, ()), false, ())) (ta_epF _ _ _) ?_
      refine w_newP (c := [.int .i64 0, .int .i64 0]) hA ok fun x5 ok1 => ?_
      refine w_stA 0 hA ok1 rfl rfl rfl rfl (wp_false rfl ?_)
      have ok1 : Ok I G (keys ((x5, oc ty_guard_epochs [.int .i64 0, .int .i64 0]) :: (g.bl q mq e ++ rest))) := ok1
      show wp Try.prog _ L (own A ((x5, oc ty_guard_epochs [.int .i64 0, .int .i64 0]) :: (g.bl q mq e ++ rest)) G) _
      refine wp_nil.2 (w_ld 1 (x := gmode g.ep g.w g.ta) hA ok1 rfl rfl rfl ?_)
      rw [hp]
      refine look_val (x := (g.w, g.ta, ())) (ta_ha _ _ _) ?_
      refine w_newP (c := [.int .i64 0, .int .i64 0]) hA ok1 fun x7 ok2 => ?_
      refine w_stA 0 hA ok2 rfl rfl rfl rfl ?_
      obtain ⟨pre, hpre⟩ : ∃ pre : Bl, pre = (x7, oc ty_guard_hazards [.int .i64 g.w, .int .i64 g.ta]) :: (x5, oc ty_guard_epochs [.int .i64 0, .int .i64 0]) :: (g.bl q mq e ++ rest) := ⟨_, rfl⟩
      have ok3 : Ok I G (keys (pre ++ [])) := by rw [List.append_nil, hpre]; exact ok2
      have es : own A ((x7, oc ty_guard_hazards [.int .i64 g.w, .int .i64 g.ta]) :: (x5, oc ty_guard_epochs [.int .i64 0, .int .i64 0]) :: (g.bl q mq e ++ rest)) G = own A (pre ++ []) G := by rw [List.append_nil, hpre]
      show wp Try.prog _ L (own A ((x7, oc ty_guard_hazards [.int .i64 g.w, .int .i64 g.ta]) :: (x5, oc ty_guard_epochs [.int .i64 0, .int .i64 0]) :: (g.bl q mq e ++ rest)) G) _
      rw [es]
      refine wl_si (fun s i K => 0 ≤ i ∧ i ≤ 2 ∧ ∃ tl, SlOf tl ty_int eI s ([g.ta + 2 * k, g.ta + 2 * k + 1].take i.toNat) ∧ Ok I G (keys (pre ++ tl)) ∧ K = own A (pre ++ tl) G) (fun _ i => (2 - i).toNat) ⟨none, 0, 0⟩ 0 ⟨by omega, by omega, [], .inl ⟨rfl, rfl⟩, ok3, rfl⟩ ?_
      rintro s i K ⟨i0, i1, tl, hs, ok4, rfl⟩
      rw [t_guard_Guard_Leave_L1]
      by_cases d : i < 2
      · refine wp_true (decide_eq_true d) ?_
        have hi0 : (pre ++ tl)[0]? = some (x7, oc ty_guard_hazards [.int .i64 g.w, .int .i64 g.ta]) := by rw [hpre]; rfl
        refine w_ldA 0 hA ok4 rfl hi0 rfl ?_
        refine wq_Word (tw := g.w) (ta := g.ta) ⟨b.1, b.2.1, b.2.2.1, b.2.2.2, i0, (by show i ≤ 1000; omega)⟩ ?_
        refine w_app1 hA ok4 hs (by rw [List.length_take]; simp; omega) fun s' tl' hs' ok5 _ => ?_
        rw [w64_in (x := i + 1) (by omega) (by omega)]
        refine wp_again ⟨s', i + 1, rfl, ⟨by omega, by omega, tl', ?_, ok5, rfl⟩, by omega⟩
        have : i = 0 ∨ i = 1 := by omega
        rcases this with rfl | rfl
        · have e0 : g.ta + 2 * k + 0 = g.ta + 2 * k := Int.add_zero _
          rw [e0] at hs'; exact hs'
        · exact hs'
      · have hi : i = 2 := by omega
        subst hi
        refine wp_false (decide_eq_false d) ?_
        refine w_newP (c := [slV s, .int .i64 0]) hA ok4 fun x46 ok5 => ?_
        obtain ⟨p1, ok6⟩ := own_perm (A := A) (l' := g.bl q mq e ++ (Se.bl ⟨[g.ta + 2 * k, g.ta + 2 * k + 1], 0⟩ ⟨x46, s, tl⟩ ++ ([(x7, oc ty_guard_hazards [.int .i64 g.w, .int .i64 g.ta]), (x5, oc ty_guard_epochs [.int .i64 0, .int .i64 0])] ++ rest))) ok5 (perm_by fun c d c0 cd ca => by rw [hpre]; simp only [Se.bl, cd, ca, c0]; omega)
        rw [p1]
        exact wp_ret_of ⟨⟨x46, s, tl⟩, _, rfl, rfl, ok6, (by
          have hs : SlOf tl ty_int eI s [g.ta + 2 * k, g.ta + 2 * k + 1] := hs
          show SlAt tl ty_int eI s [g.ta + 2 * k, g.ta + 2 * k + 1]
          rcases hs with h | ⟨b, rest, r, rfl, h2, h3⟩
          · exact .inl h
          · exact .inr ⟨b, [], rest, r, rfl, by omega, h3⟩)⟩
  · rintro u H ⟨j, z, rfl, rfl, o, rp⟩
    exact ⟨_, rfl, h j z o rp⟩
end
end Go.Proofs.Ytcjhakdopnamoaa

set_option linter.unusedVariables false
set_option linter.unusedSimpArgs false
set_option maxRecDepth 20000
namespace Go.Proofs.Ytcjhakdopnamoaa
open Go Go.Fw

theorem take_fst {xs : List (Int × Int)} {n : Nat} (h : n < xs.length) : (xs.map Prod.fst).take (n + 1) = (xs.map Prod.fst).take n ++ [(xs.getD n (0, 0)).1] := by
  rw [List.take_succ_eq_append_getElem (by simpa using h)]
  simp [List.getD, List.getElem?_eq_getElem h]

section
variable {L : Hands} {R : Value → Heap → Prop} {G : Heap} {l rest : Bl} {A : Ar} {I : List Nat}

/-- The handles of a list. -/
theorem w_handles {s : Sl} {xs : List (Int × Int)} {K : Sl → Tree} (hA : Aw I A) (ok : Ok I G (keys l)) (hs : SlOf l ty_epoch_Limbo eL s xs) (hm : xs.length ≤ 1000)
    (h : ∀ s' tl, SlOf tl ty_int eI s' (xs.map Prod.fst) → Ok I G (keys (l ++ tl)) → wp Try.prog (K s') L (own A (l ++ tl) G) R) :
    wp Try.prog (.call f_guard_handles [.slice s.a s.len s.cap] (.one (.leaf .slice)) K) L (own A l G) R := by
  refine wp_call_of (R0 := fun v H => ∃ s' tl, v = .slice s'.a s'.len s'.cap ∧ H = own A (l ++ tl) G ∧ SlOf tl ty_int eI s' (xs.map Prod.fst) ∧ Ok I G (keys (l ++ tl))) ?_ ?_
  · refine t_guard_handles_spec (p0 := s) fun L => ?_
    unfold t_guard_handles
    have hl := hs.len
    have es : own A l G = own A (l ++ []) G := by rw [List.append_nil]
    rw [es]
    refine wl_si (fun s' i H => 0 ≤ i ∧ i ≤ xs.length ∧ ∃ tl, SlOf tl ty_int eI s' ((xs.map Prod.fst).take i.toNat) ∧ Ok I G (keys (l ++ tl)) ∧ H = own A (l ++ tl) G) (fun _ i => (xs.length - i).toNat) ⟨none, 0, 0⟩ 0 ⟨by omega, by omega, [], .inl ⟨rfl, rfl⟩, by rw [List.append_nil]; exact ok, rfl⟩ ?_
    rintro s' i K ⟨i0, i1, tl, hs', ok4, rfl⟩
    rw [t_guard_handles_L1]
    by_cases d : i < xs.length
    · refine wp_true (decide_eq_true (by show i < ((s.len : Nat) : Int); rw [hl]; exact d)) ?_
      refine w_rdL hA ok4 (hs.mono fun p hp => List.mem_append_left _ hp) i0 d ?_
      refine w_newP (c := [.int .i64 0, .int .i64 0]) hA ok4 fun x5 ok5 => ?_
      refine w_stA 0 hA ok5 rfl rfl rfl rfl ?_
      obtain ⟨y, hy⟩ : ∃ y : Nat × Obj, y = (x5, oc ty_epoch_Limbo [.int .i64 (xs.getD i.toNat (0, 0)).1, .int .i64 (xs.getD i.toNat (0, 0)).2]) := ⟨_, rfl⟩
      have ok5 : Ok I G (keys ((y :: l) ++ tl)) := by rw [hy]; exact ok5
      have ee : ((x5, oc ty_epoch_Limbo [.int .i64 (xs.getD i.toNat (0, 0)).1, .int .i64 (xs.getD i.toNat (0, 0)).2]) :: l) ++ tl = (y :: l) ++ tl := by rw [hy]
      show wp Try.prog _ _ (own A (((x5, oc ty_epoch_Limbo [.int .i64 (xs.getD i.toNat (0, 0)).1, .int .i64 (xs.getD i.toNat (0, 0)).2]) :: l) ++ tl) G) _
      rw [ee]
      refine w_ld 0 (x := (xs.getD i.toNat (0, 0)).1) hA ok5 rfl (by rw [hy]; rfl) rfl ?_
      refine w_app1 hA ok5 hs' (by simp; omega) fun s2 tl2 hs2 ok6 _ => ?_
      obtain ⟨p1, ok7⟩ := own_perm (A := A) (l' := l ++ (y :: tl2)) ok6 (perm_by fun c d c0 cd ca => by simp only [List.cons_append, cd, ca]; omega)
      rw [w64_in (x := i + 1) (by omega) (by omega), p1]
      refine wp_again ⟨s2, i + 1, rfl, ⟨by omega, by omega, y :: tl2, ?_, ok7, rfl⟩, by omega⟩
      rw [show (i + 1).toNat = i.toNat + 1 by omega, take_fst (by omega)]
      exact hs2.mono fun p hp => List.mem_cons_of_mem _ hp
    · have hi : i = xs.length := by omega
      refine wp_false (decide_eq_false (by show ¬ i < ((s.len : Nat) : Int); rw [hl]; exact d)) ?_
      refine wp_ret_of ⟨s', tl, rfl, rfl, ?_, ok4⟩
      have e1 : (xs.map Prod.fst).take i.toNat = xs.map Prod.fst := List.take_of_length_le (by rw [List.length_map]; omega)
      rw [e1] at hs'; exact hs'
  · rintro v H ⟨s', tl, rfl, rfl, a, b⟩
    exact ⟨_, rfl, h s' tl a b⟩
end

/-! ### guard.look -/
inductive In where
  | no
  | tn (m : Tn)
  | sc (m : Sc)
def In.bl : In → TnJ → ScJ → Bl
  | .no, _, _ => []
  | .tn m, t, _ => m.bl t
  | .sc m, _, s => m.bl s
def In.val : In → TnJ → ScJ → Value
  | .no, _, _ => .nilIface
  | .tn m, t, _ => .iface ty_p_epoch_Turn (.pointer (some ⟨t.q, 0, none⟩))
  | .sc m, _, s => .iface ty_p_hazard_Scan (.pointer (some ⟨s.q, 0, none⟩))
def In.rep : In → TnJ → ScJ → Prop
  | .no, _, _ => True
  | .tn m, t, _ => m.rep t
  | .sc m, _, s => m.rep s

structure Lk where
  g : Gd
  ls : Int → List (Int × Int)
  work : Int
  first : Bool
  times : Int
  m : In
structure LkJ where
  q : Nat
  gq : Nat
  mq : Nat
  e : List LE
  tj : TnJ
  sj : ScJ
  gar : Bl
def lkC (gq : Nat) (work : Int) (first : Bool) (times : Int) (v : Value) : List Value := [.pointer (some ⟨gq, 0, none⟩), .int .i64 work, .bool first, .int .i64 times, v]
def Lk.bl (x : Lk) (j : LkJ) : Bl := (j.q, oc ty_guard_look (lkC j.gq x.work x.first x.times (x.m.val j.tj j.sj))) :: (x.g.bl j.gq j.mq j.e ++ (x.m.bl j.tj j.sj ++ j.gar))
structure Lk.rep (x : Lk) (j : LkJ) : Prop where
  le : leOk j.e
  ls : ∀ k, (leGet j.e k).xs = x.ls k
  m : x.m.rep j.tj j.sj
def Lk.begin (x : Lk) : Lk := { x with times := w64 (x.times - 1), m := if x.g.ep = true then .tn (newTn x.g.w x.g.ta x.g.pl x.work (x.ls x.work)) else .sc (newSc x.g.w x.g.ta x.g.pl x.work ((x.ls x.work).map Prod.fst)) }

theorem leB_mem : ∀ {e : List LE} {k : Int} {p : Nat × Obj}, p ∈ (leGet e k).hb → p ∈ leB e
  | [], k, p, h => by cases h
  | x :: e, k, p, h => by
    show p ∈ x.hb ++ leB e
    unfold leGet at h
    split at h
    · exact List.mem_append_left _ h
    · exact List.mem_append_right _ (leB_mem h)

section
variable {L : Hands} {R : Value → Heap → Prop} {G : Heap} {l rest : Bl} {A : Ar} {I : List Nat}

theorem w_lk {e : List LE} {k : Int} {mq : Nat} {K : Sl → Tree} (ix : Nat) (hA : Aw I A) (ok : Ok I G (keys l)) (hi : l[ix]? = some (mq, mapObj slV (leC e)))
    (h : wp Try.prog (K (leGet e k).s) L (own A l G) R) :
    wp Try.prog (.look (opS Try.prog (.lookup ty_m_int_s_epoch_Limbo (.tmp 0) (.tmp 1) false) ty_s_epoch_Limbo [(.map (some mq)), (.int .i64 k)]) (.one (.leaf .slice)) K) L (own A l G) R :=
  w_lookup ix (enc := slV) (c := leC e) (y := (leGet e k).s) hA ok hi rfl rfl rfl rfl (by have h := leC_get e k; revert h; cases alGet (leC e) k <;> exact fun h => h) h
end
end Go.Proofs.Ytcjhakdopnamoaa

set_option linter.unusedVariables false
set_option linter.unusedSimpArgs false
set_option maxRecDepth 20000
namespace Go.Proofs.Ytcjhakdopnamoaa
open Go Go.Fw

section
variable {L : Hands} {R : Value → Heap → Prop} {G : Heap} {l rest : Bl} {A : Ar} {I : List Nat}

theorem w_ckAo (i : Nat) {a : Addr} {b n m : Nat} {T : TypeId} {c : List Value} {v : Value} {t : Tree} (hA : Aw I A) (ok : Ok I G (keys l)) (ha : a = ⟨b, n, none⟩) (hi : l[i]? = some (b, oc T c)) (hn : n + m ≤ c.length) (hv : v = .agg (c.toArray.extract n (n + m))) (h : wp Try.prog t L (own A l G) R) :
    wp Try.prog (.check (ldAS a m 0 #[]) v t) L (own A l G) R := by
  subst ha; subst hv
  refine ⟨?_, h⟩
  rw [ldAS_eq]
  refine ldK_still (own_get hA ok hi) _ 0 #[] (by simpa using hn) ?_
  show (Value.agg (#[] ++ c.toArray.extract (n + 0) (n + 0 + m)) : Value) = _
  simp

def LkB (x : Lk) (j : LkJ) (Q : Lk) (A : Ar) (I : List Nat) (G : Heap) : Value → Heap → Prop := fun v K => ∃ j' : LkJ, v = .tuple #[] ∧ K = own A (Q.bl j') G ∧ j'.q = j.q ∧ j'.gq = j.gq ∧ j'.mq = j.mq ∧ Ok I G (keys (Q.bl j')) ∧ Q.rep j'

set_option maxHeartbeats 1000000 in
theorem begin_spec (x : Lk) (j : LkJ) (hA : Aw I A) (ok : Ok I G (keys (x.bl j))) (rp : x.rep j) (hn : x.m = .no) (hl : (x.ls x.work).length ≤ 1000) :
    SpecF Try.prog f_guard_look_begin #[.pointer (some ⟨j.q, 0, none⟩)] (own A (x.bl j) G) (LkB x j x.begin A I G) := by
  refine t_guard_look_begin_spec fun L => ?_
  unfold t_guard_look_begin
  obtain ⟨g, ls, work, first, times, m⟩ := x
  have hn : m = .no := hn
  subst hn
  obtain ⟨q, gq, mq, e, tj, sj, gar⟩ := j
  have hl : (ls work).length ≤ 1000 := hl
  have ok : Ok I G (keys ((q, oc ty_guard_look (lkC gq work first times .nilIface)) :: (gq, oc ty_guard_Guard (g.cells mq)) :: (mq, mapObj slV (leC e)) :: (leB e ++ gar))) := ok
  show wp Try.prog _ L (own A ((q, oc ty_guard_look (lkC gq work first times .nilIface)) :: (gq, oc ty_guard_Guard (g.cells mq)) :: (mq, mapObj slV (leC e)) :: (leB e ++ gar)) G) _
  have hs0 : SlOf (leGet e work).hb ty_epoch_Limbo eL (leGet e work).s (leGet e work).xs := rp.le work
  rw [rp.ls work] at hs0
  have hs0 : SlOf (leGet e work).hb ty_epoch_Limbo eL (leGet e work).s (ls work) := hs0
  refine wp_nil.2 (w_ld 0 (x := some ⟨gq, 0, none⟩) hA ok rfl rfl rfl ?_)
  refine wp_nil.2 (w_ld 1 (x := gmode g.ep g.w g.ta) hA ok rfl rfl rfl ?_)
  cases hp : g.ep with
  | true =>
    have hb : Lk.begin ⟨g, ls, work, first, times, .no⟩ = ⟨g, ls, work, first, w64 (times - 1), .tn (newTn g.w g.ta g.pl work (ls work))⟩ := by unfold Lk.begin; rw [if_pos hp]
    rw [hb]
    refine look_val (x := ((g.w, g.ta, ()), true, ())) (ta_epT _ _ _) (wp_true rfl ?_)
    refine w_newP (c := [.int .i64 0, .int .i64 0]) hA ok fun x2 ok1 => ?_
    refine w_stA 0 hA ok1 rfl rfl rfl rfl ?_
    have ok1 : Ok I G (keys ((x2, oc ty_guard_epochs [.int .i64 g.w, .int .i64 g.ta]) :: (q, oc ty_guard_look (lkC gq work first times .nilIface)) :: (gq, oc ty_guard_Guard (g.cells mq)) :: (mq, mapObj slV (leC e)) :: (leB e ++ gar))) := ok1
    show wp Try.prog _ L (own A ((x2, oc ty_guard_epochs [.int .i64 g.w, .int .i64 g.ta]) :: (q, oc ty_guard_look (lkC gq work first times .nilIface)) :: (gq, oc ty_guard_Guard (g.cells mq)) :: (mq, mapObj slV (leC e)) :: (leB e ++ gar)) G) _
    refine w_ldA 0 hA ok1 rfl rfl rfl ?_
    refine wp_nil.2 (w_ld 1 (x := some ⟨gq, 0, none⟩) hA ok1 rfl rfl rfl ?_)
    refine wp_nil.2 (w_ldA 2 hA ok1 rfl rfl rfl ?_)
    refine wp_nil.2 (w_ld 1 (x := work) hA ok1 rfl rfl rfl ?_)
    refine wp_nil.2 (w_ld 1 (x := some ⟨gq, 0, none⟩) hA ok1 rfl rfl rfl ?_)
    refine wp_nil.2 (w_ld 2 (x := some mq) hA ok1 rfl rfl rfl ?_)
    refine wp_nil.2 (w_ld 1 (x := work) hA ok1 rfl rfl rfl ?_)
    refine w_lk 3 hA ok1 rfl ?_
    refine w_NewTurn (tw := g.w) (ta := g.ta) (p := g.pl) (work := work) (xs := ls work) hA ok1 (hs0.mono fun p hp => List.mem_cons_of_mem _ (List.mem_cons_of_mem _ (List.mem_cons_of_mem _ (List.mem_cons_of_mem _ (List.mem_append_left _ (leB_mem hp)))))) hl fun t ok2 rt => ?_
    obtain ⟨p1, ok3⟩ := own_perm (A := A) (l' := (q, oc ty_guard_look (lkC gq work first times .nilIface)) :: (gq, oc ty_guard_Guard (g.cells mq)) :: (mq, mapObj slV (leC e)) :: (leB e ++ ((newTn g.w g.ta g.pl work (ls work)).bl t ++ ((x2, oc ty_guard_epochs [.int .i64 g.w, .int .i64 g.ta]) :: gar)))) ok2 (perm_by fun c d c0 cd ca => by simp only [cd, ca]; omega)
    rw [p1]
    refine wp_nil.2 (w_st 0 hA ok3 rfl rfl rfl rfl ?_)
    refine wp_nil.2 (w_ld 0 (x := times) hA (by exact ok3) rfl rfl rfl ?_)
    refine wp_nil.2 (w_st 0 hA (by exact ok3) rfl rfl rfl rfl ?_)
    exact wp_ret_of ⟨⟨q, gq, mq, e, t, sj, (x2, oc ty_guard_epochs [.int .i64 g.w, .int .i64 g.ta]) :: gar⟩, rfl, rfl, rfl, rfl, rfl, ok3, ⟨rp.le, rp.ls, rt⟩⟩
  | false =>
    have hb : Lk.begin ⟨g, ls, work, first, times, .no⟩ = ⟨g, ls, work, first, w64 (times - 1), .sc (newSc g.w g.ta g.pl work ((ls work).map Prod.fst))⟩ := by unfold Lk.begin; rw [if_neg (by rw [hp]; decide)]
    rw [hb]
    refine look_val (x := ((0, 0, ()), false, ())) (ta_epF _ _ _) (wp_false rfl ?_)
    refine look_val (x := ((g.w, g.ta, ()), true, ())) (ta_haT _ _ _) (wp_true rfl ?_)
    refine w_newP (c := [.int .i64 0, .int .i64 0]) hA ok fun x2 ok1 => ?_
    refine w_stA 0 hA ok1 rfl rfl rfl rfl ?_
    have ok1 : Ok I G (keys ((x2, oc ty_guard_hazards [.int .i64 g.w, .int .i64 g.ta]) :: (q, oc ty_guard_look (lkC gq work first times .nilIface)) :: (gq, oc ty_guard_Guard (g.cells mq)) :: (mq, mapObj slV (leC e)) :: (leB e ++ gar))) := ok1
    show wp Try.prog _ L (own A ((x2, oc ty_guard_hazards [.int .i64 g.w, .int .i64 g.ta]) :: (q, oc ty_guard_look (lkC gq work first times .nilIface)) :: (gq, oc ty_guard_Guard (g.cells mq)) :: (mq, mapObj slV (leC e)) :: (leB e ++ gar)) G) _
    refine w_ldA 0 hA ok1 rfl rfl rfl ?_
    refine wp_nil.2 (w_ld 1 (x := some ⟨gq, 0, none⟩) hA ok1 rfl rfl rfl ?_)
    refine wp_nil.2 (w_ldA 2 hA ok1 rfl rfl rfl ?_)
    refine wp_nil.2 (w_ld 1 (x := work) hA ok1 rfl rfl rfl ?_)
    refine wp_nil.2 (w_ld 1 (x := some ⟨gq, 0, none⟩) hA ok1 rfl rfl rfl ?_)
    refine wp_nil.2 (w_ld 2 (x := some mq) hA ok1 rfl rfl rfl ?_)
    refine wp_nil.2 (w_ld 1 (x := work) hA ok1 rfl rfl rfl ?_)
    refine w_lk 3 hA ok1 rfl ?_
    refine w_handles hA ok1 (hs0.mono fun p hp => List.mem_cons_of_mem _ (List.mem_cons_of_mem _ (List.mem_cons_of_mem _ (List.mem_cons_of_mem _ (List.mem_append_left _ (leB_mem hp)))))) hl fun s' tl hs' ok1 => ?_
    refine w_ck 1 hA ok1 rfl rfl rfl ?_
    refine w_ckn rfl ?_
    refine w_ckAo 2 hA ok1 rfl rfl (by show 1 + 5 ≤ 8; decide) rfl ?_
    refine w_ckn rfl ?_
    refine w_ck 1 hA ok1 rfl rfl rfl ?_
    refine w_ckn rfl ?_
    refine w_ckAo 0 hA ok1 rfl rfl (by show 0 + 2 ≤ 2; decide) rfl ?_
    refine w_NewScan (tw := g.w) (ta := g.ta) (p := g.pl) (work := work) (xs := (ls work).map Prod.fst) hA ok1 (SlOf.row hA ok1 (hs'.mono fun p hp => List.mem_append_right _ hp)) hs'.len (by rw [List.length_map]; exact hl) fun t ok2 rt => ?_
    obtain ⟨p1, ok3⟩ := own_perm (A := A) (l' := (q, oc ty_guard_look (lkC gq work first times .nilIface)) :: (gq, oc ty_guard_Guard (g.cells mq)) :: (mq, mapObj slV (leC e)) :: (leB e ++ ((newSc g.w g.ta g.pl work ((ls work).map Prod.fst)).bl t ++ ((x2, oc ty_guard_hazards [.int .i64 g.w, .int .i64 g.ta]) :: (tl ++ gar))))) ok2 (perm_by fun c d c0 cd ca => by simp only [List.cons_append, List.append_assoc, cd, ca]; omega)
    rw [p1]
    refine wp_nil.2 (w_st 0 hA ok3 rfl rfl rfl rfl ?_)
    refine wp_nil.2 (w_ld 0 (x := times) hA (by exact ok3) rfl rfl rfl ?_)
    refine wp_nil.2 (w_st 0 hA (by exact ok3) rfl rfl rfl rfl ?_)
    exact wp_ret_of ⟨⟨q, gq, mq, e, tj, t, (x2, oc ty_guard_hazards [.int .i64 g.w, .int .i64 g.ta]) :: (tl ++ gar)⟩, rfl, rfl, rfl, rfl, rfl, ok3, ⟨rp.le, rp.ls, rt⟩⟩
end
end Go.Proofs.Ytcjhakdopnamoaa

set_option linter.unusedVariables false
set_option linter.unusedSimpArgs false
set_option maxRecDepth 20000
namespace Go.Proofs.Ytcjhakdopnamoaa
open Go Go.Fw

def setL (f : Int → List (Int × Int)) (k : Int) (xs : List (Int × Int)) : Int → List (Int × Int) := fun i => if i = k then xs else f i
theorem setL_same (f : Int → List (Int × Int)) (k : Int) (xs : List (Int × Int)) : setL f k xs k = xs := if_pos rfl
theorem setL_ne (f : Int → List (Int × Int)) {k i : Int} (xs : List (Int × Int)) (h : i ≠ k) : setL f k xs i = f i := if_neg h
def In.gone : In → List (Int × Int)
  | .no => []
  | .tn m => m.left
  | .sc m => m.left.map fun h => (h, 0)
def In.fin : In → Bool
  | .no => false
  | .tn m => decide (4 ≤ m.ph)
  | .sc m => m.ended
def Lk.end_ (x : Lk) : Lk := { x with m := .no, ls := setL x.ls x.work x.m.gone }

theorem ta_mTT (q : Option Addr) (u : TypeId) : opS Try.prog (.typeAssert (.tmp 0) ty_guard_Machine ty_p_epoch_Turn true) u [.iface ty_p_epoch_Turn (.pointer q)] = .pure (.value (.tuple #[.pointer q, .bool true])) := by kernel_rfl
theorem ta_mTF (q : Option Addr) (u : TypeId) : opS Try.prog (.typeAssert (.tmp 0) ty_guard_Machine ty_p_epoch_Turn true) u [.iface ty_p_hazard_Scan (.pointer q)] = .pure (.value (.tuple #[.pointer none, .bool false])) := by kernel_rfl
theorem ta_mST (q : Option Addr) (u : TypeId) : opS Try.prog (.typeAssert (.tmp 0) ty_guard_Machine ty_p_hazard_Scan true) u [.iface ty_p_hazard_Scan (.pointer q)] = .pure (.value (.tuple #[.pointer q, .bool true])) := by kernel_rfl

theorem lsPut {e : List LE} {ls : Int → List (Int × Int)} (h : ∀ k, (leGet e k).xs = ls k) (y : LE) : ∀ k, (leGet (lePut e y) k).xs = setL ls y.k y.xs k := fun k => by
  rw [leGet_put]
  unfold setL
  by_cases c : k = y.k
  · rw [if_pos c, if_pos c]
  · rw [if_neg c, if_neg c]; exact h k

section
variable {L : Hands} {R : Value → Heap → Prop} {G : Heap} {l rest : Bl} {A : Ar} {I : List Nat}

theorem w_app1L {s : Sl} {xs : List (Int × Int)} {v w : Int} {k : Sl → Tree} {pre tl : Bl} (hA : Aw I A) (ok : Ok I G (keys (pre ++ tl))) (hs : SlOf tl ty_epoch_Limbo eL s xs) (hm : xs.length ≤ 1000000)
    (h : ∀ s' tl', SlOf tl' ty_epoch_Limbo eL s' (xs ++ [(v, w)]) → Ok I G (keys (pre ++ tl')) → wp Try.prog (k s') L (own A (pre ++ tl') G) R) :
    wp Try.prog (.newS (.cells #[.int .i64 v, .int .i64 w] ty_epoch_Limbo) 1 fun x => .act (opS Try.prog (.call { callee := .builtin .append, args := #[(.tmp 0), (.tmp 1)], argTypes := #[ty_s_epoch_Limbo, ty_s_epoch_Limbo] }) ty_s_epoch_Limbo [(.slice s.a s.len s.cap), (.slice x.a x.len x.cap)]) (.one (.leaf .slice)) k) L (own A (pre ++ tl) G) R := by
  refine w_newS (c := [.int .i64 v, .int .i64 w]) hA ok fun q ok1 => ?_
  have ok' : Ok I G (keys (((q, oc ty_epoch_Limbo [.int .i64 v, .int .i64 w]) :: pre) ++ tl)) := ok1
  show wp Try.prog _ L (own A (((q, oc ty_epoch_Limbo [.int .i64 v, .int .i64 w]) :: pre) ++ tl) G) R
  refine w_appT (E := eL) elL (ys := [(v, w)]) (t := ⟨some ⟨q, 0, none⟩, 1, 1⟩) hA ok' hs ?_ rfl (by simp; omega) fun s' tl' hs' ok2 ap => ?_
  · exact cell_row hA ok' List.mem_cons_self 0 rfl
  · obtain ⟨m3, m4⟩ := own_mid (A := A) ok2
    show wp Try.prog _ L (own A ((q, oc ty_epoch_Limbo [.int .i64 v, .int .i64 w]) :: (pre ++ tl')) G) R
    rw [m3]
    exact h s' _ (hs'.mono fun p hp => List.mem_cons_of_mem _ hp) m4

theorem w_mapS {e : List LE} {k : Int} {mq : Nat} {s : Sl} {u : TypeId} {K : Unit → Tree} (ix : Nat) (hA : Aw I A) (ok : Ok I G (keys l)) (hi : l[ix]? = some (mq, mapObj slV (leC e)))
    (h : wp Try.prog (K ()) L (own A (l.set ix (mq, mapObj slV (alPut (leC e) k s))) G) R) :
    wp Try.prog (.act (opS Try.prog (.mapUpdate ty_m_int_s_epoch_Limbo (.tmp 0) (.tmp 1) (.tmp 2)) u [(.map (some mq)), (.int .i64 k), (.slice s.a s.len s.cap)]) .unit K) L (own A l G) R :=
  w_mapPut ix (enc := slV) (c := leC e) (v := s) hA ok hi rfl rfl h

set_option maxHeartbeats 1000000 in
/-- The new list is kept. -/
theorem keep_end {g : Gd} {e : List LE} {ls : Int → List (Int × Int)} {q gq mq : Nat} {work times : Int} {first : Bool} {v : Value} {gar : Bl} {s : Sl} {xs : List (Int × Int)} {tl : Bl} {j : LkJ} {x : Lk} (tj : TnJ) (sj : ScJ) (hx : x.end_ = ⟨g, setL ls work xs, work, first, times, .no⟩) (hj : j.q = q ∧ j.gq = gq ∧ j.mq = mq)
    (le : leOk e) (hls : ∀ k, (leGet e k).xs = ls k) (hs : SlOf tl ty_epoch_Limbo eL s xs) (hA : Aw I A)
    (ok : Ok I G (keys ((q, oc ty_guard_look (lkC gq work first times v)) :: (gq, oc ty_guard_Guard (g.cells mq)) :: (mq, mapObj slV (leC e)) :: (leB e ++ (tl ++ gar))))) :
    wp Try.prog (.act (opS Try.prog (.mapUpdate ty_m_int_s_epoch_Limbo (.tmp 0) (.tmp 1) (.tmp 2)) ty_unit [(.map (some mq)), (.int .i64 work), (.slice s.a s.len s.cap)]) .unit fun _ =>
    .look (opS Try.prog (.nilCheck (.tmp 0)) ty_unit [(.pointer (some ⟨q, 0, none⟩))]) (.one (.leaf .addr)) fun x56 =>
    .st (x56.add 4) .nilIface <|
    .ret (.tuple #[])) L (own A ((q, oc ty_guard_look (lkC gq work first times v)) :: (gq, oc ty_guard_Guard (g.cells mq)) :: (mq, mapObj slV (leC e)) :: (leB e ++ (tl ++ gar))) G) (LkB x j x.end_ A I G) := by
  obtain ⟨y, hy⟩ : ∃ y : LE, y = ⟨work, s, xs, tl⟩ := ⟨_, rfl⟩
  have eput : alPut (leC e) work s = leC (lePut e y) := by rw [leC_put, hy]
  refine w_mapS 2 hA ok rfl ?_
  rw [eput]
  have ok1 : Ok I G (keys ((q, oc ty_guard_look (lkC gq work first times v)) :: (gq, oc ty_guard_Guard (g.cells mq)) :: (mq, mapObj slV (leC (lePut e y))) :: (leB e ++ (tl ++ gar)))) := ok
  show wp Try.prog _ L (own A ((q, oc ty_guard_look (lkC gq work first times v)) :: (gq, oc ty_guard_Guard (g.cells mq)) :: (mq, mapObj slV (leC (lePut e y))) :: (leB e ++ (tl ++ gar))) G) _
  refine wp_nil.2 (w_st 0 hA ok1 rfl rfl rfl rfl ?_)
  have ok2 : Ok I G (keys ((q, oc ty_guard_look (lkC gq work first times .nilIface)) :: (gq, oc ty_guard_Guard (g.cells mq)) :: (mq, mapObj slV (leC (lePut e y))) :: (leB e ++ (tl ++ gar)))) := ok1
  show wp Try.prog _ L (own A ((q, oc ty_guard_look (lkC gq work first times .nilIface)) :: (gq, oc ty_guard_Guard (g.cells mq)) :: (mq, mapObj slV (leC (lePut e y))) :: (leB e ++ (tl ++ gar))) G) _
  obtain ⟨p1, ok3⟩ := own_perm (A := A) (l' := (q, oc ty_guard_look (lkC gq work first times .nilIface)) :: (gq, oc ty_guard_Guard (g.cells mq)) :: (mq, mapObj slV (leC (lePut e y))) :: (leB (lePut e y) ++ ((leGet e work).hb ++ gar))) ok2 (perm_by fun c d c0 cd ca => by
    have h1 := leB_c c0 ca e work
    have h2 := leB_put_c c0 ca e y
    have h3 : c y.hb = c tl := by rw [hy]
    have h4 : c (leRest e y.k) = c (leRest e work) := by rw [hy]
    simp only [cd, ca]; omega)
  rw [p1, hx]
  obtain ⟨j1, j2, j3⟩ := hj
  refine wp_ret_of ⟨⟨q, gq, mq, lePut e y, tj, sj, (leGet e work).hb ++ gar⟩, rfl, rfl, j1.symm, j2.symm, j3.symm, ok3, ⟨le.put (by rw [hy]; exact hs), ?_, trivial⟩⟩
  have := lsPut hls y
  rw [hy] at this ⊢
  exact this

set_option maxHeartbeats 1000000 in
theorem end_spec (x : Lk) (j : LkJ) (hA : Aw I A) (ok : Ok I G (keys (x.bl j))) (rp : x.rep j) (hf : x.m.fin = true) (hl : x.m.gone.length ≤ 1000) :
    SpecF Try.prog f_guard_look_end #[.pointer (some ⟨j.q, 0, none⟩)] (own A (x.bl j) G) (LkB x j x.end_ A I G) := by
  refine t_guard_look_end_spec fun L => ?_
  unfold t_guard_look_end
  obtain ⟨g, ls, work, first, times, m⟩ := x
  obtain ⟨q, gq, mq, e, tj, sj, gar⟩ := j
  cases m with
  | no => cases hf
  | tn m =>
    have hl : m.left.length ≤ 1000 := hl
    have hm : m.rep tj := rp.m
    have hf : 4 ≤ m.ph := of_decide_eq_true hf
    have ok : Ok I G (keys ((q, oc ty_guard_look (lkC gq work first times (.iface ty_p_epoch_Turn (.pointer (some ⟨tj.q, 0, none⟩))))) :: (gq, oc ty_guard_Guard (g.cells mq)) :: (mq, mapObj slV (leC e)) :: (leB e ++ (m.bl tj ++ gar)))) := ok
    show wp Try.prog _ L (own A ((q, oc ty_guard_look (lkC gq work first times (.iface ty_p_epoch_Turn (.pointer (some ⟨tj.q, 0, none⟩))))) :: (gq, oc ty_guard_Guard (g.cells mq)) :: (mq, mapObj slV (leC e)) :: (leB e ++ (m.bl tj ++ gar))) G) _
    refine wp_nil.2 (w_ld 0 (x := .iface ty_p_epoch_Turn (.pointer (some ⟨tj.q, 0, none⟩))) hA ok rfl rfl rfl ?_)
    refine look_val (x := (some ⟨tj.q, 0, none⟩, true, ())) (ta_mTT _ _) (wp_true rfl ?_)
    refine wp_nil.2 (w_ld 0 (x := some ⟨gq, 0, none⟩) hA ok rfl rfl rfl ?_)
    refine wp_nil.2 (w_ld 1 (x := some mq) hA ok rfl rfl rfl ?_)
    refine wp_nil.2 (w_ld 0 (x := work) hA ok rfl rfl rfl ?_)
    obtain ⟨p1, ok1⟩ := own_perm (A := A) (l' := m.bl tj ++ ((q, oc ty_guard_look (lkC gq work first times (.iface ty_p_epoch_Turn (.pointer (some ⟨tj.q, 0, none⟩))))) :: (gq, oc ty_guard_Guard (g.cells mq)) :: (mq, mapObj slV (leC e)) :: (leB e ++ gar))) ok (perm_by fun c d c0 cd ca => by simp only [cd, ca]; omega)
    rw [p1]
    refine w_TLeft hA ok1 hm hf hl fun s tl hs ok2 => ?_
    obtain ⟨p2, ok3⟩ := own_perm (A := A) (l' := (q, oc ty_guard_look (lkC gq work first times (.iface ty_p_epoch_Turn (.pointer (some ⟨tj.q, 0, none⟩))))) :: (gq, oc ty_guard_Guard (g.cells mq)) :: (mq, mapObj slV (leC e)) :: (leB e ++ (tl ++ (m.bl tj ++ gar)))) ok2 (perm_by fun c d c0 cd ca => by simp only [cd, ca]; omega)
    rw [p2]
    refine w_ck 0 hA ok3 rfl rfl rfl ?_
    refine w_ckn rfl ?_
    refine w_ck 1 hA ok3 rfl rfl rfl ?_
    refine w_ckn rfl ?_
    refine w_ck 0 hA ok3 rfl rfl rfl ?_
    refine w_ckn rfl ?_
    exact keep_end tj sj rfl ⟨rfl, rfl, rfl⟩ rp.le rp.ls hs hA ok3
  | sc m =>
    have hl : m.left.length ≤ 1000 := by have : (m.left.map fun h => (h, (0 : Int))).length ≤ 1000 := hl; rwa [List.length_map] at this
    have hm : m.rep sj := rp.m
    have hf : m.ended = true := hf
    have ok : Ok I G (keys ((q, oc ty_guard_look (lkC gq work first times (.iface ty_p_hazard_Scan (.pointer (some ⟨sj.q, 0, none⟩))))) :: (gq, oc ty_guard_Guard (g.cells mq)) :: (mq, mapObj slV (leC e)) :: (leB e ++ (m.bl sj ++ gar)))) := ok
    show wp Try.prog _ L (own A ((q, oc ty_guard_look (lkC gq work first times (.iface ty_p_hazard_Scan (.pointer (some ⟨sj.q, 0, none⟩))))) :: (gq, oc ty_guard_Guard (g.cells mq)) :: (mq, mapObj slV (leC e)) :: (leB e ++ (m.bl sj ++ gar))) G) _
    refine wp_nil.2 (w_ld 0 (x := .iface ty_p_hazard_Scan (.pointer (some ⟨sj.q, 0, none⟩))) hA ok rfl rfl rfl ?_)
    refine look_val (x := (none, false, ())) (ta_mTF _ _) (wp_false rfl ?_)
    refine look_val (x := (some ⟨sj.q, 0, none⟩, true, ())) (ta_mST _ _) (wp_true rfl ?_)
    obtain ⟨p1, ok1⟩ := own_perm (A := A) (l' := m.bl sj ++ ((q, oc ty_guard_look (lkC gq work first times (.iface ty_p_hazard_Scan (.pointer (some ⟨sj.q, 0, none⟩))))) :: (gq, oc ty_guard_Guard (g.cells mq)) :: (mq, mapObj slV (leC e)) :: (leB e ++ gar))) ok (perm_by fun c d c0 cd ca => by simp only [cd, ca]; omega)
    rw [p1]
    refine w_Left hA ok1 hm hf hl fun s tl hs ok2 => ?_
    have hsl := hs.len
    obtain ⟨pre, hpre⟩ : ∃ pre : Bl, pre = (q, oc ty_guard_look (lkC gq work first times (.iface ty_p_hazard_Scan (.pointer (some ⟨sj.q, 0, none⟩))))) :: (gq, oc ty_guard_Guard (g.cells mq)) :: (mq, mapObj slV (leC e)) :: (leB e ++ (tl ++ (m.bl sj ++ gar))) := ⟨_, rfl⟩
    obtain ⟨p2, ok3⟩ := own_perm (A := A) (l' := pre ++ []) ok2 (perm_by fun c d c0 cd ca => by rw [hpre]; simp only [List.append_nil, cd, ca]; omega)
    rw [p2]
    have hspre : SlOf pre ty_int eI s m.left := hs.mono fun p hp => by rw [hpre]; exact List.mem_cons_of_mem _ (List.mem_cons_of_mem _ (List.mem_cons_of_mem _ (List.mem_append_right _ (List.mem_append_left _ hp))))
    refine wl_si (fun s' i H => 0 ≤ i ∧ i ≤ m.left.length ∧ ∃ tl, SlOf tl ty_epoch_Limbo eL s' ((m.left.take i.toNat).map fun h => (h, 0)) ∧ Ok I G (keys (pre ++ tl)) ∧ H = own A (pre ++ tl) G) (fun _ i => (m.left.length - i).toNat) ⟨none, 0, 0⟩ 0 ⟨by omega, by omega, [], .inl ⟨rfl, rfl⟩, ok3, rfl⟩ ?_
    rintro s' i K ⟨i0, i1, tl', hs', ok4, rfl⟩
    rw [t_guard_look_end_L1]
    by_cases d : i < m.left.length
    · refine wp_true (decide_eq_true (by show i < ((s.len : Nat) : Int); rw [hsl]; exact d)) ?_
      refine rdA hA ok4 (hspre.mono fun p hp => List.mem_append_left _ hp).at' i0 d ?_
      refine w_app1L hA ok4 hs' (by simp; omega) fun s2 tl2 hs2 ok6 => ?_
      rw [w64_in (x := i + 1) (by omega) (by omega)]
      refine wp_again ⟨s2, i + 1, rfl, ⟨by omega, by omega, tl2, ?_, ok6, rfl⟩, by omega⟩
      rw [show (i + 1).toNat = i.toNat + 1 by omega]
      have e1 : (m.left.take (i.toNat + 1)).map (fun h => (h, (0 : Int))) = (m.left.take i.toNat).map (fun h => (h, (0 : Int))) ++ [(m.left.getD i.toNat 0, 0)] := by
        have hi : i.toNat < m.left.length := by omega
        rw [List.take_succ_eq_append_getElem hi, List.map_append]
        simp only [List.map_cons, List.map_nil, List.getD, List.getElem?_eq_getElem hi, Option.getD_some]
      rw [e1]; exact hs2
    · refine wp_false (decide_eq_false (by show ¬ i < ((s.len : Nat) : Int); rw [hsl]; exact d)) ?_
      have e1 : m.left.take i.toNat = m.left := List.take_of_length_le (by omega)
      rw [e1] at hs'
      have ok5 := ok4
      rw [hpre] at ok5 ⊢
      obtain ⟨p3, ok6⟩ := own_perm (A := A) (l' := (q, oc ty_guard_look (lkC gq work first times (.iface ty_p_hazard_Scan (.pointer (some ⟨sj.q, 0, none⟩))))) :: (gq, oc ty_guard_Guard (g.cells mq)) :: (mq, mapObj slV (leC e)) :: (leB e ++ (tl' ++ (tl ++ (m.bl sj ++ gar))))) ok5 (perm_by fun c d c0 cd ca => by simp only [List.cons_append, List.append_assoc, cd, ca]; omega)
      rw [p3]
      refine wp_nil.2 (w_ld 0 (x := some ⟨gq, 0, none⟩) hA ok6 rfl rfl rfl ?_)
      refine wp_nil.2 (w_ld 1 (x := some mq) hA ok6 rfl rfl rfl ?_)
      refine wp_nil.2 (w_ld 0 (x := work) hA ok6 rfl rfl rfl ?_)
      exact keep_end tj sj rfl ⟨rfl, rfl, rfl⟩ rp.le rp.ls hs' hA ok6
end
end Go.Proofs.Ytcjhakdopnamoaa

set_option linter.unusedVariables false
set_option maxRecDepth 10000
namespace Go.Proofs.Ytcjhakdopnamoaa
open Go Go.Fw
/- magpie/magpielaw14.run -/
@[reducible] def t_magpielaw14_run_L1_sh : List Sh1 := [(.leaf .bool), (.leaf (.int .i64))]
noncomputable def t_magpielaw14_run_L1 (p0 : Option Addr) (p1 : Value) (y1 : HL Sh1.T t_magpielaw14_run_L1_sh) : Tree :=
  bif (decide ((y1.2.1 : Int) < 3000)) then (
    .look (opS Try.prog (.binOp .neq ty_guard_Machine (.tmp 0) (.const .nilIface) ty_guard_Machine) ty_bool [p1]) (.one (.leaf .bool)) fun x12 =>
    bif x12 then (
      .call f_arena_Arena_Uses [(.pointer p0)] (.one (.leaf (.int .i64))) fun x17 =>
      .act (opS Try.prog (.call { callee := .invoke (.tmp 0) "Step", args := #[(.tmp 1)], argTypes := #[ty_p_arena_Arena] }) ty_bool [p1, (.pointer p0)]) (.one (.leaf .bool)) fun x20 =>
      .call f_arena_Arena_Uses [(.pointer p0)] (.one (.leaf (.int .i64))) fun x22 =>
      bif (decide ((x22 : Int) > (w64 (x17 + 1)))) then (
        .ret (.bool false))
      else (
        bif x20 then (
          .ret (.bool true))
        else (
          .again 128 [(.bool y1.1), (.int .i64 (w64 (y1.2.1 + 1)))])))
    else (
      .look (opS Try.prog (.binOp .eql ty_guard_Machine (.tmp 0) (.const .nilIface) ty_guard_Machine) ty_bool [p1]) (.one (.leaf .bool)) fun x28 =>
      .ret (.bool x28)))
  else (
    .look (opS Try.prog (.binOp .eql ty_guard_Machine (.tmp 0) (.const .nilIface) ty_guard_Machine) ty_bool [p1]) (.one (.leaf .bool)) fun x28 =>
    .ret (.bool x28))
noncomputable def t_magpielaw14_run (p0 : Option Addr) (p1 : Value) : Tree :=
  .loop 128 t_magpielaw14_run_L1_sh [(.bool false), (.int .i64 0)] (t_magpielaw14_run_L1 p0 p1)
theorem t_magpielaw14_run_eq (p0 : Option Addr) (p1 : Value) : funcTree Try.prog { quiet := [16, 34, 36, 40, 41, 66, 67, 75, 76, 77, 97, 98, 103, 108, 110, 139, 146, 149, 161], quietTmp := true, fncs := [], ifcs := [] } Try.f19 [(.pointer p0), p1] = t_magpielaw14_run p0 p1 := by kernel_rfl
theorem t_magpielaw14_run_spec {p0 : Option Addr} {p1 : Value} {H : Heap} {R : Value → Heap → Prop} (h : ∀ L, wp Try.prog (t_magpielaw14_run p0 p1) L H R) : SpecF Try.prog f_magpielaw14_run #[(.pointer p0), p1] H R :=
  spec_of_tree (cfg := { quiet := [16, 34, 36, 40, 41, 66, 67, 75, 76, 77, 97, 98, 103, 108, 110, 139, 146, 149, 161], quietTmp := true, fncs := [], ifcs := [] }) Try.func19 fun L => (t_magpielaw14_run_eq p0 p1).symm ▸ h L

/- magpie/magpielaw14.make1 -/
noncomputable def t_magpielaw14_make1 (p0 : Int) (p1 : Int) (p2 : Bool) (p3 : Int) : Tree :=
  .newP (.cells #[(.int .i64 0), (.int .i64 0), (.int .i64 0), (.int .i64 0), (.int .i64 0)] ty_free_Place) fun x9 =>
  .call f_free_Raw [(.int .i64 p0), (.int .i64 (w64 (8 * p1)))] (.tup [(.agg [(.int .i64), (.int .i64), (.int .i64), (.int .i64), (.int .i64)]), (.leaf (.int .i64))]) fun x18 =>
  .newP (.cells #[(.int .i64 0), (.int .i64 0), (.int .i64 0), (.int .i64 0), (.int .i64 0)] ty_free_Place) fun x11 =>
  .stA x11 [(.int .i64 x18.1.1), (.int .i64 x18.1.2.1), (.int .i64 x18.1.2.2.1), (.int .i64 x18.1.2.2.2.1), (.int .i64 x18.1.2.2.2.2.1)] <|
  .call f_guard_Raw [(.int .i64 p0), (.int .i64 x18.2.1), (.bool p2)] (.one (.leaf (.int .i64))) fun x24 =>
  .ldA x11 [(.int .i64), (.int .i64), (.int .i64), (.int .i64), (.int .i64)] fun x31 =>
  .ldA x11 [(.int .i64), (.int .i64), (.int .i64), (.int .i64), (.int .i64)] fun x36 =>
  .call f_arena_New [(.int .i64 (w64 (x18.2.1 + x24))), (.int .i64 (w64 (8 * p1))), (.bool false)] (.one (.leaf .ptr)) fun x30 =>
  .check (ldAS x11 5 0 #[]) (.agg #[(.int .i64 x36.1), (.int .i64 x36.2.1), (.int .i64 x36.2.2.1), (.int .i64 x36.2.2.2.1), (.int .i64 x36.2.2.2.2.1)]) <|
  .check (ldAS x11 5 0 #[]) (.agg #[(.int .i64 x31.1), (.int .i64 x31.2.1), (.int .i64 x31.2.2.1), (.int .i64 x31.2.2.2.1), (.int .i64 x31.2.2.2.2.1)]) <|
  .call f_guard_New [(.int .i64 p0), (.int .i64 x18.2.1), (.bool p2), (.int .i64 p3), (.agg #[(.int .i64 x36.1), (.int .i64 x36.2.1), (.int .i64 x36.2.2.1), (.int .i64 x36.2.2.2.1), (.int .i64 x36.2.2.2.2.1)])] (.one (.leaf .ptr)) fun x37 =>
  .check (ldAS x11 5 0 #[]) (.agg #[(.int .i64 x31.1), (.int .i64 x31.2.1), (.int .i64 x31.2.2.1), (.int .i64 x31.2.2.2.1), (.int .i64 x31.2.2.2.2.1)]) <|
  .stA x9 [(.int .i64 x31.1), (.int .i64 x31.2.1), (.int .i64 x31.2.2.1), (.int .i64 x31.2.2.2.1), (.int .i64 x31.2.2.2.2.1)] <|
  .look (ldK x9 5 0 #[] fun r1 => .pure (.value (.tuple #[(.pointer x30), (.agg r1), (.pointer x37)]))) (.tup [(.leaf .ptr), (.agg [(.int .i64), (.int .i64), (.int .i64), (.int .i64), (.int .i64)]), (.leaf .ptr)]) fun r => .ret (Sh.toVal (.tup [(.leaf .ptr), (.agg [(.int .i64), (.int .i64), (.int .i64), (.int .i64), (.int .i64)]), (.leaf .ptr)]) r)
theorem t_magpielaw14_make1_eq (p0 : Int) (p1 : Int) (p2 : Bool) (p3 : Int) : funcTree Try.prog { quiet := [16, 34, 36, 40, 41, 66, 67, 75, 76, 77, 97, 98, 103, 108, 110, 139, 146, 149, 161], quietTmp := true, fncs := [], ifcs := [] } Try.f17 [(.int .i64 p0), (.int .i64 p1), (.bool p2), (.int .i64 p3)] = t_magpielaw14_make1 p0 p1 p2 p3 := by kernel_rfl
theorem t_magpielaw14_make1_spec {p0 : Int} {p1 : Int} {p2 : Bool} {p3 : Int} {H : Heap} {R : Value → Heap → Prop} (h : ∀ L, wp Try.prog (t_magpielaw14_make1 p0 p1 p2 p3) L H R) : SpecF Try.prog f_magpielaw14_make1 #[(.int .i64 p0), (.int .i64 p1), (.bool p2), (.int .i64 p3)] H R :=
  spec_of_tree (cfg := { quiet := [16, 34, 36, 40, 41, 66, 67, 75, 76, 77, 97, 98, 103, 108, 110, 139, 146, 149, 161], quietTmp := true, fncs := [], ifcs := [] }) Try.func17 fun L => (t_magpielaw14_make1_eq p0 p1 p2 p3).symm ▸ h L

/- magpie/magpielaw14.one -/
@[reducible] def t_magpielaw14_one_L1_sh : List Sh1 := [(.leaf (.int .i64)), (.leaf (.int .i64))]
noncomputable def t_magpielaw14_one_L1 (p0 : Option Addr) (x13 : Option Addr) (y1 : HL Sh1.T t_magpielaw14_one_L1_sh) : Tree :=
  bif (decide ((y1.2.1 : Int) < 100)) then (
    .look (opS Try.prog (.binOp .neq ty_p_slab_Alloc (.tmp 0) (.const (.pointer none)) ty_p_slab_Alloc) ty_bool [(.pointer x13)]) (.one (.leaf .bool)) fun x18 =>
    bif x18 then (
      .call f_slab_Alloc_Step [(.pointer x13), (.pointer p0)] (.one (.leaf .bool)) fun x24 =>
      bif x24 then (
        .call f_slab_Alloc_Handle [(.pointer x13)] (.tup [(.leaf (.int .i64)), (.leaf .bool)]) fun x27 =>
        .ret (.int .i64 x27.1))
      else (
        .again 192 [(.int .i64 y1.1), (.int .i64 (w64 (y1.2.1 + 1)))]))
    else (
      .ret (.int .i64 0)))
  else (
    .ret (.int .i64 0))
noncomputable def t_magpielaw14_one (p0 : Option Addr) (p1_0 : Int) (p1_1 : Int) (p1_2 : Int) (p1_3 : Int) (p1_4 : Int) (p2 : Int) : Tree :=
  .newP (.cells #[(.int .i64 p1_0), (.int .i64 p1_1), (.int .i64 p1_2), (.int .i64 p1_3), (.int .i64 p1_4)] ty_free_Place) fun x4 =>
  .ldA x4 [(.int .i64), (.int .i64), (.int .i64), (.int .i64), (.int .i64)] fun x11 =>
  .call f_slab_NewAlloc [(.agg #[(.int .i64 x11.1), (.int .i64 x11.2.1), (.int .i64 x11.2.2.1), (.int .i64 x11.2.2.2.1), (.int .i64 x11.2.2.2.2.1)]), (.int .i64 p2), (.int .i64 0)] (.one (.leaf .ptr)) fun x13 =>
  .loop 192 t_magpielaw14_one_L1_sh [(.int .i64 0), (.int .i64 0)] (t_magpielaw14_one_L1 p0 x13)
theorem t_magpielaw14_one_eq (p0 : Option Addr) (p1_0 : Int) (p1_1 : Int) (p1_2 : Int) (p1_3 : Int) (p1_4 : Int) (p2 : Int) : funcTree Try.prog { quiet := [16, 34, 36, 40, 41, 66, 67, 75, 76, 77, 97, 98, 103, 108, 110, 139, 146, 149, 161], quietTmp := true, fncs := [], ifcs := [] } Try.f18 [(.pointer p0), (.agg #[(.int .i64 p1_0), (.int .i64 p1_1), (.int .i64 p1_2), (.int .i64 p1_3), (.int .i64 p1_4)]), (.int .i64 p2)] = t_magpielaw14_one p0 p1_0 p1_1 p1_2 p1_3 p1_4 p2 := by kernel_rfl
theorem t_magpielaw14_one_spec {p0 : Option Addr} {p1_0 : Int} {p1_1 : Int} {p1_2 : Int} {p1_3 : Int} {p1_4 : Int} {p2 : Int} {H : Heap} {R : Value → Heap → Prop} (h : ∀ L, wp Try.prog (t_magpielaw14_one p0 p1_0 p1_1 p1_2 p1_3 p1_4 p2) L H R) : SpecF Try.prog f_magpielaw14_one #[(.pointer p0), (.agg #[(.int .i64 p1_0), (.int .i64 p1_1), (.int .i64 p1_2), (.int .i64 p1_3), (.int .i64 p1_4)]), (.int .i64 p2)] H R :=
  spec_of_tree (cfg := { quiet := [16, 34, 36, 40, 41, 66, 67, 75, 76, 77, 97, 98, 103, 108, 110, 139, 146, 149, 161], quietTmp := true, fncs := [], ifcs := [] }) Try.func18 fun L => (t_magpielaw14_one_eq p0 p1_0 p1_1 p1_2 p1_3 p1_4 p2).symm ▸ h L

/- magpie/magpielaw14.awake -/
noncomputable def t_magpielaw14_awake : Tree :=
  .call f_magpielaw14_make1 [(.int .i64 2), (.int .i64 4), (.bool false), (.int .i64 1)] (.tup [(.leaf .ptr), (.agg [(.int .i64), (.int .i64), (.int .i64), (.int .i64), (.int .i64)]), (.leaf .ptr)]) fun x6 =>
  .newP (.cells #[(.int .i64 0), (.int .i64 0), (.int .i64 0), (.int .i64 0), (.int .i64 0)] ty_free_Place) fun x2 =>
  .stA x2 [(.int .i64 x6.2.1.1), (.int .i64 x6.2.1.2.1), (.int .i64 x6.2.1.2.2.1), (.int .i64 x6.2.1.2.2.2.1), (.int .i64 x6.2.1.2.2.2.2.1)] <|
  .look (opS Try.prog (.binOp .eql ty_p_arena_Arena (.tmp 0) (.const (.pointer none)) ty_p_arena_Arena) ty_bool [(.pointer x6.1)]) (.one (.leaf .bool)) fun x11 =>
  bif x11 then (
    .ret (.bool false))
  else (
    .look (opS Try.prog (.binOp .eql ty_p_guard_Guard (.tmp 0) (.const (.pointer none)) ty_p_guard_Guard) ty_bool [(.pointer x6.2.2.1)]) (.one (.leaf .bool)) fun x14 =>
    bif x14 then (
      .ret (.bool false))
    else (
      .call f_guard_Guard_Enter [(.pointer x6.2.2.1), (.int .i64 1)] (.one (.leaf .val)) fun x18 =>
      .look (opS Try.prog (.binOp .neq ty_guard_Machine (.tmp 0) (.const .nilIface) ty_guard_Machine) ty_bool [x18]) (.one (.leaf .bool)) fun x19 =>
      bif x19 then (
        .ret (.bool false))
      else (
        .ldA x2 [(.int .i64), (.int .i64), (.int .i64), (.int .i64), (.int .i64)] fun x22 =>
        .call f_magpielaw14_one [(.pointer x6.1), (.agg #[(.int .i64 x22.1), (.int .i64 x22.2.1), (.int .i64 x22.2.2.1), (.int .i64 x22.2.2.2.1), (.int .i64 x22.2.2.2.2.1)]), (.int .i64 0)] (.one (.leaf (.int .i64))) fun x23 =>
        bif ((x23 : Int) != 0) then (
          .call f_guard_Guard_Retire [(.pointer x6.2.2.1), (.pointer x6.1), (.int .i64 0), (.int .i64 x23)] (.one (.leaf .val)) fun x31 =>
          .call f_magpielaw14_run [(.pointer x6.1), x31] (.one (.leaf .bool)) fun x32 =>
          bif x32 then (
            .call f_arena_Arena_State [(.pointer x6.1), (.int .i64 x23)] (.one (.leaf (.int .i64))) fun x37 =>
            bif ((x37 : Int) == 0) then (
              .call f_guard_Guard_Left [(.pointer x6.2.2.1), (.int .i64 0)] (.one (.leaf (.int .i64))) fun x42 =>
              .ret (.bool ((x42 : Int) == 0)))
            else (
              .ret (.bool false)))
          else (
            .ret (.bool false)))
        else (
          .ret (.bool false)))))
theorem t_magpielaw14_awake_eq : funcTree Try.prog { quiet := [16, 34, 36, 40, 41, 66, 67, 75, 76, 77, 97, 98, 103, 108, 110, 139, 146, 149, 161], quietTmp := true, fncs := [], ifcs := [] } Try.f25 [] = t_magpielaw14_awake  := by kernel_rfl
theorem t_magpielaw14_awake_spec {H : Heap} {R : Value → Heap → Prop} (h : ∀ L, wp Try.prog (t_magpielaw14_awake ) L H R) : SpecF Try.prog f_magpielaw14_awake #[] H R :=
  spec_of_tree (cfg := { quiet := [16, 34, 36, 40, 41, 66, 67, 75, 76, 77, 97, 98, 103, 108, 110, 139, 146, 149, 161], quietTmp := true, fncs := [], ifcs := [] }) Try.func25 fun L => (t_magpielaw14_awake_eq ).symm ▸ h L

end Go.Proofs.Ytcjhakdopnamoaa

set_option linter.unusedVariables false
set_option maxRecDepth 20000
namespace Go.Proofs.Ytcjhakdopnamoaa
open Go Go.Fw

theorem neqMc (t : TypeId) (q : Nat) (u : TypeId) : opS Try.prog (.binOp .neq ty_guard_Machine (.tmp 0) (.const .nilIface) ty_guard_Machine) u [.iface t (.pointer (some ⟨q, 0, none⟩))] = .pure (.value (.bool true)) := by kernel_rfl
theorem neqMc0 (u : TypeId) : opS Try.prog (.binOp .neq ty_guard_Machine (.tmp 0) (.const .nilIface) ty_guard_Machine) u [.nilIface] = .pure (.value (.bool false)) := by kernel_rfl
theorem eqlMc0 (u : TypeId) : opS Try.prog (.binOp .eql ty_guard_Machine (.tmp 0) (.const .nilIface) ty_guard_Machine) u [.nilIface] = .pure (.value (.bool true)) := by kernel_rfl

theorem runR14_go {M J : Type} {X : MchR M J} (hX : X.ok) {t : TypeId} (hinv : X.inv' t) {I : List Nat} {G : Heap} {n : Nat} {m m' : M} {A A' : Ar} (h : X.Runs n m A m' A') {L : Hands} :
    ∀ {i : Int} {b : Bool} {j : J} {R : Value → Heap → Prop}, (∀ j', Ok I G (keys (X.bl m' j')) → X.rep m' j' → Aw I A' → X.addr j' = X.addr j → R (.bool true) (own A' (X.bl m' j') G)) → Aw I A → Ok I G (keys (X.bl m j)) → X.rep m j → 0 ≤ i → i + n ≤ 3000 →
      wp Try.prog (.loop 128 t_magpielaw14_run_L1_sh [(.bool b), (.int .i64 i)] (t_magpielaw14_run_L1 (aI I) (.iface t (.pointer (some ⟨X.addr j, 0, none⟩))))) L (own A (X.bl m j) G) R := by
  induction h with
  | @one m A m1 A1 hi hst hu hf =>
    intro i b j R hR hA ok rp h0 h1
    refine wp_loop_unroll (b, i, ()) rfl ?_
    rw [t_magpielaw14_run_L1]
    refine wp_true (ilt (by show i < 3000; omega)) ?_
    refine look_val (x := true) (neqMc _ _ _) (wp_true rfl ?_)
    refine w_Uses hA ?_
    refine act_enter (hinv _ _) ?_
    refine wp_call_of (hX I A G m j hA ok rp hi) ?_
    rintro v K ⟨j', rfl, rfl, ha, ok', rp', hA'⟩
    rw [hst] at ok' rp' hA' ⊢
    refine ⟨true, by rw [hf], ?_⟩
    refine w_Uses hA' ?_
    refine wp_false (inlt hu) ?_
    exact wp_true rfl (wp_ret_of (hR j' ok' rp' hA' ha))
  | @more n m A m1 A1 m' A' hi hst hu hf hr ih =>
    intro i b j R hR hA ok rp h0 h1
    refine wp_loop_unroll (b, i, ()) rfl ?_
    rw [t_magpielaw14_run_L1]
    refine wp_true (ilt (by show i < 3000; omega)) ?_
    refine look_val (x := true) (neqMc _ _ _) (wp_true rfl ?_)
    refine w_Uses hA ?_
    refine act_enter (hinv _ _) ?_
    refine wp_call_of (hX I A G m j hA ok rp hi) ?_
    rintro v K ⟨j', rfl, rfl, ha, ok', rp', hA'⟩
    rw [hst] at ok' rp' hA' ⊢
    refine ⟨false, by rw [hf], ?_⟩
    refine w_Uses hA' ?_
    refine wp_false (inlt hu) (wp_false rfl (wp_again ?_))
    have e : w64 (i + 1) = i + 1 := w64_in (by omega) (by omega)
    rw [e, ← ha]
    exact ih (fun j2 k1 k2 k3 k4 => hR j2 k1 k2 k3 (k4.trans ha)) hA' ok' rp' (by omega) (by omega)

theorem w_runR14 {M J : Type} {X : MchR M J} (hX : X.ok) {t : TypeId} (hinv : X.inv' t) {I : List Nat} {G : Heap} {n : Nat} {m m' : M} {A A' : Ar} (h : X.Runs n m A m' A') (hn : n ≤ 3000) {j : J} {rest : Bl} (hA : Aw I A) (ok : Ok I G (keys (X.bl m j ++ rest))) (rp : X.rep m j)
    {L : Hands} {R : Value → Heap → Prop} {k : Bool → Tree} (hk : ∀ j', X.addr j' = X.addr j → Aw I A' → Ok I G (keys (X.bl m' j' ++ rest)) → X.rep m' j' → wp Try.prog (k true) L (own A' (X.bl m' j' ++ rest) G) R) :
    wp Try.prog (.call f_magpielaw14_run [.pointer (aI I), .iface t (.pointer (some ⟨X.addr j, 0, none⟩))] (.one (.leaf .bool)) k) L (own A (X.bl m j ++ rest) G) R := by
  rw [keys_append] at ok
  obtain ⟨o1, o2⟩ := ok.split
  refine w_sub (R0 := fun v K => ∃ j', v = .bool true ∧ K = own A' (X.bl m' j') (putL rest G) ∧ Ok I (putL rest G) (keys (X.bl m' j')) ∧ X.rep m' j' ∧ Aw I A' ∧ X.addr j' = X.addr j) ?_ ?_
  · refine t_magpielaw14_run_spec fun L => ?_
    unfold t_magpielaw14_run
    exact runR14_go hX hinv h (fun j' a b c d => ⟨j', rfl, rfl, a, b, c, d⟩) hA o1 rp (Int.le_refl 0) (by omega)
  · rintro v K ⟨j', rfl, rfl, ok', rp', hA', ha⟩
    refine ⟨true, rfl, ?_⟩
    rw [← own_append]
    exact hk j' ha hA' (by rw [keys_append]; exact ok'.join o2) rp'

/-- Nothing to do. -/
theorem w_run14_nil {I : List Nat} {K : Heap} {L : Hands} {R : Value → Heap → Prop} {k : Bool → Tree} (hk : wp Try.prog (k true) L K R) : wp Try.prog (.call f_magpielaw14_run [.pointer (aI I), .nilIface] (.one (.leaf .bool)) k) L K R := by
  refine wp_call_of (R0 := fun v H => v = .bool true ∧ H = K) ?_ ?_
  · refine t_magpielaw14_run_spec fun L => ?_
    unfold t_magpielaw14_run
    refine wp_loop_unroll (false, 0, ()) rfl ?_
    rw [t_magpielaw14_run_L1]
    refine wp_true (ilt (by show (0 : Int) < 3000; decide)) ?_
    refine look_val (x := false) (neqMc0 _) (wp_false rfl ?_)
    refine look_val (x := true) (eqlMc0 _) ?_
    exact wp_ret_of ⟨rfl, rfl⟩
  · rintro v H ⟨rfl, rfl⟩
    exact ⟨true, rfl, hk⟩
end Go.Proofs.Ytcjhakdopnamoaa

set_option linter.unusedVariables false
set_option linter.unusedSimpArgs false
set_option maxRecDepth 20000
namespace Go.Proofs.Ytcjhakdopnamoaa
open Go Go.Fw

theorem eqlMc (t : TypeId) (q : Nat) (u : TypeId) : opS Try.prog (.binOp .eql ty_guard_Machine (.tmp 0) (.const .nilIface) ty_guard_Machine) u [.iface t (.pointer (some ⟨q, 0, none⟩))] = .pure (.value (.bool false)) := by kernel_rfl

noncomputable def lkT2 (q : Nat) : Tree :=
  .look (opS Try.prog (.nilCheck (.tmp 0)) ty_unit [(.pointer (some ⟨q, 0, none⟩))]) (.one (.leaf .addr)) fun x78 =>
  .ld (x78.add 4) .val fun x80 =>
  .look (opS Try.prog (.binOp .eql ty_guard_Machine (.tmp 0) (.const .nilIface) ty_guard_Machine) ty_bool [x80]) (.one (.leaf .bool)) fun x81 =>
  bif x81 then (
    .look (opS Try.prog (.nilCheck (.tmp 0)) ty_unit [(.pointer (some ⟨q, 0, none⟩))]) (.one (.leaf .addr)) fun x84 =>
    .ld (x84.add 3) (.int .i64) fun x86 =>
    .ret (.bool ((x86 : Int) == 0)))
  else (
    .ret (.bool false))
noncomputable def lkT (q : Nat) (p1 : Option Addr) : Tree :=
  .look (opS Try.prog (.nilCheck (.tmp 0)) ty_unit [(.pointer (some ⟨q, 0, none⟩))]) (.one (.leaf .addr)) fun x63 =>
  .ld (x63.add 4) .val fun x65 =>
  .look (opS Try.prog (.binOp .neq ty_guard_Machine (.tmp 0) (.const .nilIface) ty_guard_Machine) ty_bool [x65]) (.one (.leaf .bool)) fun x66 =>
  bif x66 then (
    .look (opS Try.prog (.nilCheck (.tmp 0)) ty_unit [(.pointer (some ⟨q, 0, none⟩))]) (.one (.leaf .addr)) fun x69 =>
    .ld (x69.add 4) .val fun x71 =>
    .act (opS Try.prog (.call { callee := .invoke (.tmp 0) "Step", args := #[(.tmp 1)], argTypes := #[ty_p_arena_Arena] }) ty_bool [x71, (.pointer p1)]) (.one (.leaf .bool)) fun x73 =>
    bif x73 then (
      .call f_guard_look_end [(.pointer (some ⟨q, 0, none⟩))] .unit fun _ => lkT2 q)
    else (lkT2 q))
  else (lkT2 q)

def Lk.fin (x : Lk) : Bool := match x.m with
  | .no => x.times == 0
  | _ => false
def Lk.go (x : Lk) : Lk := match x.m with
  | .no => if 0 < x.times then x.begin else x
  | _ => x
def In.step : In → Ar → In × Ar
  | .no, A => (.no, A)
  | .tn m, A => (.tn (m.step A).1, (m.step A).2)
  | .sc m, A => (.sc (m.step A).1, (m.step A).2)
def In.inv : In → Ar → Prop
  | .no, _ => True
  | .tn m, A => m.inv A ∧ m.left.length ≤ 1000
  | .sc m, A => m.inv A ∧ m.left.length ≤ 1000
def setLast (xs : List (Int × Int)) (v : Int) : List (Int × Int) := xs.set (xs.length - 1) ((xs.getD (xs.length - 1) (0, 0)).1, v)
def Lk.mid (y : Lk) (A : Ar) : Lk × Ar := (if (y.m.step A).1.fin = true then Lk.end_ { y with m := (y.m.step A).1 } else { y with m := (y.m.step A).1 }, (y.m.step A).2)
def Lk.step (x : Lk) (A : Ar) : Lk × Ar :=
  if x.first = true then ({ x with first := false, ls := setL x.ls x.work (setLast (x.ls x.work) (A.rawF x.g.ta)) }, A.touchR x.g.ta)
  else x.go.mid A

theorem Tn.left_step (m : Tn) (A : Ar) (h : m.l.length ≤ 1000) (h2 : m.left.length ≤ 1000) : (m.step A).1.left.length ≤ 1000 := by
  have hs : ∀ m : Tn, m.l.length ≤ 1000 → m.sort.left.length ≤ 1000 := fun m h => by
    show ((m.l.take m.l.length).filter _).length ≤ 1000
    exact Nat.le_trans (List.length_filter_le _ _) (by rw [List.take_length]; exact h)
  unfold Tn.step
  split
  · exact h2
  · split
    · show (if _ then Tn.sort _ else _ : Tn).left.length ≤ 1000
      split
      · exact hs _ h
      · exact h2
    · split
      · show (if _ then Tn.sort _ else _ : Tn).left.length ≤ 1000
        split
        · exact hs _ h
        · exact hs _ h
      · split
        · cases m.frees with
          | nil => exact h2
          | cons f fs => dsimp only; split <;> exact h2
        · exact h2
theorem Sc.left_step (m : Sc) (A : Ar) (h : m.l.length ≤ 1000) (h2 : m.left.length ≤ 1000) : (m.step A).1.left.length ≤ 1000 := by
  have hs : ∀ m : Sc, m.l.length ≤ 1000 → m.sort.left.length ≤ 1000 := fun m h => by
    show ((m.l.take m.l.length).filter _).length ≤ 1000
    exact Nat.le_trans (List.length_filter_le _ _) (by rw [List.take_length]; exact h)
  unfold Sc.step
  split
  · exact h2
  · split
    · show (if _ then Sc.sort _ else _ : Sc).left.length ≤ 1000
      split
      · exact hs _ h
      · exact h2
    · cases m.frees with
      | nil => exact h2
      | cons f fs => dsimp only; split <;> exact h2
theorem In.gone_step (i : In) (A : Ar) (h : i.inv A) : (i.step A).1.gone.length ≤ 1000 := by
  cases i with
  | no => exact Nat.zero_le _
  | tn m => exact Tn.left_step m A h.1.ll h.2
  | sc m =>
    show ((m.step A).1.left.map fun h => (h, (0 : Int))).length ≤ 1000
    rw [List.length_map]; exact Sc.left_step m A h.1.ll h.2

section
variable {L : Hands} {R : Value → Heap → Prop} {G : Heap} {l rest : Bl} {A : Ar} {I : List Nat}

def LkP (z : Lk × Ar) (j : LkJ) (I : List Nat) (G : Heap) : Value → Heap → Prop := fun v K => ∃ j' : LkJ, v = .bool z.1.fin ∧ K = own z.2 (z.1.bl j') G ∧ (j'.q = j.q ∧ j'.gq = j.gq ∧ j'.mq = j.mq) ∧ Ok I G (keys (z.1.bl j')) ∧ z.1.rep j' ∧ Aw I z.2

theorem lkT2_wp {x : Lk} {j j0 : LkJ} (hj : j.q = j0.q ∧ j.gq = j0.gq ∧ j.mq = j0.mq) (hA : Aw I A) (ok : Ok I G (keys (x.bl j))) (rp : x.rep j) : wp Try.prog (lkT2 j.q) L (own A (x.bl j) G) (LkP (x, A) j0 I G) := by
  unfold lkT2
  have ok0 := ok
  obtain ⟨g, ls, work, first, times, m⟩ := x
  unfold Lk.bl at ok
  cases m with
  | no =>
    refine wp_nil.2 (w_ld 0 (x := .nilIface) hA ok rfl rfl rfl ?_)
    refine look_val (x := true) (eqlMc0 _) (wp_true rfl ?_)
    refine wp_nil.2 (w_ld 0 (x := times) hA ok rfl rfl rfl ?_)
    exact wp_ret_of ⟨j, rfl, rfl, hj, ok0, rp, hA⟩
  | tn m =>
    refine wp_nil.2 (w_ld 0 (x := .iface ty_p_epoch_Turn (.pointer (some ⟨j.tj.q, 0, none⟩))) hA ok rfl rfl rfl ?_)
    refine look_val (x := false) (eqlMc _ _ _) (wp_false rfl ?_)
    exact wp_ret_of ⟨j, rfl, rfl, hj, ok0, rp, hA⟩
  | sc m =>
    refine wp_nil.2 (w_ld 0 (x := .iface ty_p_hazard_Scan (.pointer (some ⟨j.sj.q, 0, none⟩))) hA ok rfl rfl rfl ?_)
    refine look_val (x := false) (eqlMc _ _ _) (wp_false rfl ?_)
    exact wp_ret_of ⟨j, rfl, rfl, hj, ok0, rp, hA⟩

theorem lkT_fin {x : Lk} {j j0 : LkJ} {b : Bool} (hb : b = x.m.fin) (hj : j.q = j0.q ∧ j.gq = j0.gq ∧ j.mq = j0.mq) (hA : Aw I A) (ok : Ok I G (keys (x.bl j))) (rp : x.rep j) (hl : x.m.gone.length ≤ 1000) :
    wp Try.prog (bif b then (.call f_guard_look_end [(.pointer (some ⟨j.q, 0, none⟩))] .unit fun _ => lkT2 j.q) else (lkT2 j.q)) L (own A (x.bl j) G) (LkP (if x.m.fin = true then x.end_ else x, A) j0 I G) := by
  subst hb
  by_cases hf : x.m.fin = true
  · rw [if_pos hf]
    refine wp_true hf ?_
    refine wp_call_of (end_spec x j hA ok rp hf hl) ?_
    rintro v K ⟨j', rfl, rfl, e1, e2, e3, ok', rp'⟩
    refine ⟨(), rfl, ?_⟩
    rw [← e1]
    exact lkT2_wp ⟨e1.trans hj.1, e2.trans hj.2.1, e3.trans hj.2.2⟩ hA ok' rp'
  · rw [if_neg hf]
    refine wp_false (by simpa using hf) ?_
    exact lkT2_wp hj hA ok rp

set_option maxHeartbeats 1000000 in
theorem lkT_wp {x : Lk} {j j0 : LkJ} (hj : j.q = j0.q ∧ j.gq = j0.gq ∧ j.mq = j0.mq) (hA : Aw I A) (ok : Ok I G (keys (x.bl j))) (rp : x.rep j) (hi : x.m.inv A) : wp Try.prog (lkT j.q (aI I)) L (own A (x.bl j) G) (LkP (x.mid A) j0 I G) := by
  have hg := x.m.gone_step A hi
  unfold lkT Lk.mid
  have ok0 := ok
  obtain ⟨g, ls, work, first, times, m⟩ := x
  obtain ⟨q, gq, mq, e, tj, sj, gar⟩ := j
  cases m with
  | no =>
    unfold Lk.bl at ok
    refine wp_nil.2 (w_ld 0 (x := .nilIface) hA ok rfl rfl rfl ?_)
    refine look_val (x := false) (neqMc0 _) (wp_false rfl ?_)
    exact lkT2_wp hj hA ok0 rp
  | tn m =>
    have ok : Ok I G (keys ((q, oc ty_guard_look (lkC gq work first times (.iface ty_p_epoch_Turn (.pointer (some ⟨tj.q, 0, none⟩))))) :: (g.bl gq mq e ++ (m.bl tj ++ gar)))) := ok
    show wp Try.prog _ L (own A ((q, oc ty_guard_look (lkC gq work first times (.iface ty_p_epoch_Turn (.pointer (some ⟨tj.q, 0, none⟩))))) :: (g.bl gq mq e ++ (m.bl tj ++ gar))) G) _
    refine wp_nil.2 (w_ld 0 (x := .iface ty_p_epoch_Turn (.pointer (some ⟨tj.q, 0, none⟩))) hA ok rfl rfl rfl ?_)
    refine look_val (x := true) (neqMc _ _ _) (wp_true rfl ?_)
    refine wp_nil.2 (w_ld 0 (x := .iface ty_p_epoch_Turn (.pointer (some ⟨tj.q, 0, none⟩))) hA ok rfl rfl rfl ?_)
    refine act_enter (mTn_inv _ _) ?_
    obtain ⟨p1, ok1⟩ := own_perm (A := A) (l' := m.bl tj ++ ((q, oc ty_guard_look (lkC gq work first times (.iface ty_p_epoch_Turn (.pointer (some ⟨tj.q, 0, none⟩))))) :: (g.bl gq mq e ++ gar))) ok (perm_by fun c d c0 cd ca => by simp only [cd, ca]; omega)
    rw [p1]
    rw [keys_append] at ok1
    obtain ⟨o1, o2⟩ := ok1.split
    refine w_sub (mTn_ok I A _ m tj hA o1 rp.m hi.1) ?_
    rintro v K ⟨tj', rfl, rfl, ea, o3, rt, hA'⟩
    have ea : tj'.q = tj.q := ea
    refine ⟨_, rfl, ?_⟩
    have o4 : Ok I G (keys ((m.step A).1.bl tj' ++ ((q, oc ty_guard_look (lkC gq work first times (.iface ty_p_epoch_Turn (.pointer (some ⟨tj.q, 0, none⟩))))) :: (g.bl gq mq e ++ gar)))) := by rw [keys_append]; exact o3.join o2
    show wp Try.prog _ L (own (m.step A).2 ((m.step A).1.bl tj') (putL _ G)) _
    rw [← own_append]
    rw [← ea] at o4 ⊢
    obtain ⟨p2, o5⟩ := own_perm (A := (m.step A).2) (l' := Lk.bl ⟨g, ls, work, first, times, .tn (m.step A).1⟩ ⟨q, gq, mq, e, tj', sj, gar⟩) o4 (perm_by fun c d c0 cd ca => by
      show _ = c ((q, oc ty_guard_look (lkC gq work first times (.iface ty_p_epoch_Turn (.pointer (some ⟨tj'.q, 0, none⟩))))) :: (g.bl gq mq e ++ ((m.step A).1.bl tj' ++ gar)))
      simp only [cd, ca]; omega)
    rw [p2]
    exact lkT_fin (x := ⟨g, ls, work, first, times, .tn (m.step A).1⟩) (j := ⟨q, gq, mq, e, tj', sj, gar⟩) rfl hj hA' o5 ⟨rp.le, rp.ls, rt⟩ hg
  | sc m =>
    have ok : Ok I G (keys ((q, oc ty_guard_look (lkC gq work first times (.iface ty_p_hazard_Scan (.pointer (some ⟨sj.q, 0, none⟩))))) :: (g.bl gq mq e ++ (m.bl sj ++ gar)))) := ok
    show wp Try.prog _ L (own A ((q, oc ty_guard_look (lkC gq work first times (.iface ty_p_hazard_Scan (.pointer (some ⟨sj.q, 0, none⟩))))) :: (g.bl gq mq e ++ (m.bl sj ++ gar))) G) _
    refine wp_nil.2 (w_ld 0 (x := .iface ty_p_hazard_Scan (.pointer (some ⟨sj.q, 0, none⟩))) hA ok rfl rfl rfl ?_)
    refine look_val (x := true) (neqMc _ _ _) (wp_true rfl ?_)
    refine wp_nil.2 (w_ld 0 (x := .iface ty_p_hazard_Scan (.pointer (some ⟨sj.q, 0, none⟩))) hA ok rfl rfl rfl ?_)
    refine act_enter (mSc_inv _ _) ?_
    obtain ⟨p1, ok1⟩ := own_perm (A := A) (l' := m.bl sj ++ ((q, oc ty_guard_look (lkC gq work first times (.iface ty_p_hazard_Scan (.pointer (some ⟨sj.q, 0, none⟩))))) :: (g.bl gq mq e ++ gar))) ok (perm_by fun c d c0 cd ca => by simp only [cd, ca]; omega)
    rw [p1]
    rw [keys_append] at ok1
    obtain ⟨o1, o2⟩ := ok1.split
    refine w_sub (mSc_ok I A _ m sj hA o1 rp.m hi.1) ?_
    rintro v K ⟨sj', rfl, rfl, ea, o3, rt, hA'⟩
    have ea : sj'.q = sj.q := ea
    refine ⟨_, rfl, ?_⟩
    have o4 : Ok I G (keys ((m.step A).1.bl sj' ++ ((q, oc ty_guard_look (lkC gq work first times (.iface ty_p_hazard_Scan (.pointer (some ⟨sj.q, 0, none⟩))))) :: (g.bl gq mq e ++ gar)))) := by rw [keys_append]; exact o3.join o2
    show wp Try.prog _ L (own (m.step A).2 ((m.step A).1.bl sj') (putL _ G)) _
    rw [← own_append]
    rw [← ea] at o4 ⊢
    obtain ⟨p2, o5⟩ := own_perm (A := (m.step A).2) (l' := Lk.bl ⟨g, ls, work, first, times, .sc (m.step A).1⟩ ⟨q, gq, mq, e, tj, sj', gar⟩) o4 (perm_by fun c d c0 cd ca => by
      show _ = c ((q, oc ty_guard_look (lkC gq work first times (.iface ty_p_hazard_Scan (.pointer (some ⟨sj'.q, 0, none⟩))))) :: (g.bl gq mq e ++ ((m.step A).1.bl sj' ++ gar)))
      simp only [cd, ca]; omega)
    rw [p2]
    exact lkT_fin (x := ⟨g, ls, work, first, times, .sc (m.step A).1⟩) (j := ⟨q, gq, mq, e, tj, sj', gar⟩) rfl hj hA' o5 ⟨rp.le, rp.ls, rt⟩ hg
end
end Go.Proofs.Ytcjhakdopnamoaa

set_option linter.unusedVariables false
set_option linter.unusedSimpArgs false
set_option maxRecDepth 20000
namespace Go.Proofs.Ytcjhakdopnamoaa
open Go Go.Fw

theorem eL_set (rest : List Value) (v : Int) : ∀ (xs : List (Int × Int)) (n : Nat), n < xs.length → (eL.all xs ++ rest).set (n * 2 + 1) (.int .i64 v) = eL.all (xs.set n ((xs.getD n (0, 0)).1, v)) ++ rest
  | [], n, h => by simp at h
  | x :: xs, 0, _ => rfl
  | x :: xs, n + 1, h => by
    have ih := eL_set rest v xs n (by simpa using h)
    show (Value.int .i64 x.1 :: .int .i64 x.2 :: (eL.all xs ++ rest)).set ((n + 1) * 2 + 1) _ = .int .i64 x.1 :: .int .i64 x.2 :: (eL.all (xs.set n ((xs.getD n (0, 0)).1, v)) ++ rest)
    rw [← ih, show (n + 1) * 2 + 1 = (n * 2 + 1) + 1 + 1 by omega]
    rfl
theorem leC_same : ∀ {e : List LE} {y : LE}, (leGet e y.k).xs ≠ [] → y.s = (leGet e y.k).s → leC (lePut e y) = leC e
  | [], y, h, _ => (h rfl).elim
  | x :: e, y, h, hs => by
    unfold leGet at h hs
    show leC (if y.k = x.k then y :: e else x :: lePut e y) = leC (x :: e)
    by_cases c : y.k = x.k
    · rw [if_pos c] at h hs ⊢
      show (y.k, y.s) :: leC e = (x.k, x.s) :: leC e
      rw [c, hs]
    · rw [if_neg c] at h hs ⊢
      show (x.k, x.s) :: leC (lePut e y) = (x.k, x.s) :: leC e
      rw [leC_same h hs]

structure Lk.inv (x : Lk) (A : Ar) : Prop where
  ll : (x.ls x.work).length ≤ 1000
  fs : x.first = true → x.g.ep = true ∧ x.ls x.work ≠ [] ∧ x.m = .no
  wb : 1 ≤ x.g.w ∧ x.g.w ≤ 1000
  mi : x.m.inv A
theorem begin_inv {x : Lk} {A : Ar} (ll : (x.ls x.work).length ≤ 1000) (wb : 1 ≤ x.g.w ∧ x.g.w ≤ 1000) : x.begin.m.inv A := by
  unfold Lk.begin
  dsimp only
  split
  · exact ⟨⟨ll, fun _ => ⟨rfl, rfl⟩, fun h => by cases h⟩, Nat.zero_le _⟩
  · exact ⟨⟨wb, Int.le_refl 0, by show ((x.ls x.work).map Prod.fst).length ≤ 1000; rw [List.length_map]; exact ll, fun _ => .inl ⟨by show (0 : Int) < 2 * x.g.w; omega, rfl, rfl, rfl⟩⟩, Nat.zero_le _⟩
def mLk (gq mq : Nat) : MchR Lk LkJ where
  f := f_guard_look_Step
  addr := LkJ.q
  bl := Lk.bl
  rep := fun x j => x.rep j ∧ j.gq = gq ∧ j.mq = mq
  inv := Lk.inv
  step := Lk.step
  fin := Lk.fin
theorem mLk_inv (gq mq : Nat) : (mLk gq mq).inv' ty_p_guard_look := fun q p => by
  show opS _ _ _ _ = .pure (.enter f_guard_look_Step [.pointer (some ⟨q, 0, none⟩), .pointer p].toArray)
  kernel_rfl

section
variable {L : Hands} {R : Value → Heap → Prop} {G : Heap} {l rest : Bl} {A : Ar} {I : List Nat}

set_option maxHeartbeats 1000000 in
theorem look_first (x : Lk) (j : LkJ) (hA : Aw I A) (ok : Ok I G (keys (x.bl j))) (rp : x.rep j) (hf : x.first = true) (hi : x.inv A) :
    wp Try.prog (t_guard_look_Step (some ⟨j.q, 0, none⟩) (aI I)) L (own A (x.bl j) G) (LkP (x.step A) j I G) := by
  obtain ⟨h1, h2, h3⟩ := hi.fs hf
  have hlen := hi.ll
  unfold Lk.step
  rw [if_pos hf]
  obtain ⟨g, ls, work, first, times, m⟩ := x
  obtain ⟨q, gq, mq, e, tj, sj, gar⟩ := j
  have h1 : g.ep = true := h1
  have h2 : ls work ≠ [] := h2
  have h3 : m = .no := h3
  have hf : first = true := hf
  have hlen : (ls work).length ≤ 1000 := hlen
  subst h3 hf
  unfold t_guard_look_Step
  have ok : Ok I G (keys ((q, oc ty_guard_look (lkC gq work true times .nilIface)) :: (gq, oc ty_guard_Guard (g.cells mq)) :: (mq, mapObj slV (leC e)) :: (leB e ++ gar))) := ok
  show wp Try.prog _ L (own A ((q, oc ty_guard_look (lkC gq work true times .nilIface)) :: (gq, oc ty_guard_Guard (g.cells mq)) :: (mq, mapObj slV (leC e)) :: (leB e ++ gar)) G) _
  refine wp_nil.2 (w_ld 0 (x := true) hA ok rfl rfl rfl (wp_true rfl ?_))
  refine wp_nil.2 (w_st 0 hA ok rfl rfl rfl rfl ?_)
  have ok1 : Ok I G (keys ((q, oc ty_guard_look (lkC gq work false times .nilIface)) :: (gq, oc ty_guard_Guard (g.cells mq)) :: (mq, mapObj slV (leC e)) :: (leB e ++ gar))) := ok
  show wp Try.prog _ L (own A ((q, oc ty_guard_look (lkC gq work false times .nilIface)) :: (gq, oc ty_guard_Guard (g.cells mq)) :: (mq, mapObj slV (leC e)) :: (leB e ++ gar)) G) _
  refine wp_nil.2 (w_ld 0 (x := some ⟨gq, 0, none⟩) hA ok1 rfl rfl rfl ?_)
  refine wp_nil.2 (w_ld 1 (x := some mq) hA ok1 rfl rfl rfl ?_)
  refine wp_nil.2 (w_ld 0 (x := work) hA ok1 rfl rfl rfl ?_)
  refine w_lk 2 hA ok1 rfl ?_
  refine wp_nil.2 (w_ld 0 (x := some ⟨gq, 0, none⟩) hA ok1 rfl rfl rfl ?_)
  refine wp_nil.2 (w_ld 1 (x := gmode g.ep g.w g.ta) hA ok1 rfl rfl rfl ?_)
  rw [h1]
  refine look_val (x := (g.w, g.ta, ())) (ta_ep _ _ _) ?_
  refine wq_Global (tw := g.w) (ta := g.ta) ?_
  refine w_Raw hA fun hA => ?_
  have hs : SlOf (leGet e work).hb ty_epoch_Limbo eL (leGet e work).s (leGet e work).xs := rp.le work
  have hxs : (leGet e work).xs = ls work := rp.ls work
  rcases hs with ⟨_, h0⟩ | ⟨b, rest, r, hsl, hr, hm⟩
  · exact (h2 (hxs.symm.trans h0)).elim
  · have hpos : 0 < (ls work).length := List.length_pos_iff.2 h2
    rw [hxs] at hsl hm
    obtain ⟨s1, s2, hsp⟩ := List.mem_iff_append.1 hm
    rw [hsl]
    have e64 : w64 ((((ls work).length : Nat) : Int) - 1) = (((ls work).length - 1 : Nat) : Int) := by rw [w64_in (by omega) (by omega)]; omega
    show wp Try.prog (.look (opS Try.prog (.indexAddr ty_s_epoch_Limbo (.tmp 0) (.tmp 1)) ty_unit [(.slice (some ⟨b, 0, none⟩) (ls work).length ((ls work).length + r)), (.int .i64 (w64 ((((ls work).length : Nat) : Int) - 1)))]) (.one (.leaf .addr)) _) L _ _
    rw [e64]
    refine look_val (x := ⟨b, ((ls work).length - 1) * 2, none⟩) ?_ ?_
    · rw [opS_idxS (e := ty_epoch_Limbo) rfl rfl (by omega) (by omega), Addr.add_mk, Nat.zero_add]; rfl
    obtain ⟨y, hy⟩ : ∃ y : LE, y = ⟨work, (leGet e work).s, setLast (ls work) (A.rawF g.ta), s1 ++ (b, oc ty_epoch_Limbo (eL.all (setLast (ls work) (A.rawF g.ta)) ++ rest)) :: s2⟩ := ⟨_, rfl⟩
    obtain ⟨p1, ok2⟩ := own_perm (A := A.touchR g.ta) (l' := (b, oc ty_epoch_Limbo (eL.all (ls work) ++ rest)) :: (q, oc ty_guard_look (lkC gq work false times .nilIface)) :: (gq, oc ty_guard_Guard (g.cells mq)) :: (mq, mapObj slV (leC e)) :: ((s1 ++ s2) ++ (leRest e work ++ gar))) ok1 (perm_by fun c d c0 cd ca => by
      have h1 := leB_c c0 ca e work
      have h2 : c (leGet e work).hb = c s1 + c ((b, oc ty_epoch_Limbo (eL.all (ls work) ++ rest)) :: s2) := by rw [hsp, ca]
      simp only [cd, ca] at h2 ⊢; omega)
    rw [p1]
    refine w_st 0 hA ok2 rfl rfl rfl (decide_eq_true (by rw [List.length_append, eL.all_len]; show ((ls work).length - 1) * 2 + 1 < (ls work).length * 2 + _; omega)) ?_
    have eset : (eL.all (ls work) ++ rest).set (((ls work).length - 1) * 2 + 1) (.int .i64 (A.rawF g.ta)) = eL.all (setLast (ls work) (A.rawF g.ta)) ++ rest := eL_set rest _ (ls work) _ (by omega)
    have ok3 : Ok I G (keys ((b, oc ty_epoch_Limbo (eL.all (setLast (ls work) (A.rawF g.ta)) ++ rest)) :: (q, oc ty_guard_look (lkC gq work false times .nilIface)) :: (gq, oc ty_guard_Guard (g.cells mq)) :: (mq, mapObj slV (leC e)) :: ((s1 ++ s2) ++ (leRest e work ++ gar)))) := ok2
    show wp Try.prog _ L (own (A.touchR g.ta) ((b, oc ty_epoch_Limbo ((eL.all (ls work) ++ rest).set (((ls work).length - 1) * 2 + 1) (.int .i64 (A.rawF g.ta)))) :: (q, oc ty_guard_look (lkC gq work false times .nilIface)) :: (gq, oc ty_guard_Guard (g.cells mq)) :: (mq, mapObj slV (leC e)) :: ((s1 ++ s2) ++ (leRest e work ++ gar))) G) _
    rw [eset]
    have hl2 : (setLast (ls work) (A.rawF g.ta)).length = (ls work).length := by unfold setLast; rw [List.length_set]
    have hsY : SlOf y.hb ty_epoch_Limbo eL y.s y.xs := by
      rw [hy]
      exact .inr ⟨b, rest, r, by rw [hl2]; exact hsl, hr, List.mem_append_right _ List.mem_cons_self⟩
    have hyk : y.k = work := by rw [hy]
    have eC : leC (lePut e y) = leC e := leC_same (by rw [hyk, hxs]; exact h2) (by rw [hyk]; rw [hy])
    obtain ⟨p2, ok4⟩ := own_perm (A := A.touchR g.ta) (l' := (q, oc ty_guard_look (lkC gq work false times .nilIface)) :: (gq, oc ty_guard_Guard (g.cells mq)) :: (mq, mapObj slV (leC (lePut e y))) :: (leB (lePut e y) ++ gar)) ok3 (perm_by fun c d c0 cd ca => by
      have h1 := leB_put_c c0 ca e y
      have h2 : c y.hb = c s1 + c ((b, oc ty_epoch_Limbo (eL.all (setLast (ls work) (A.rawF g.ta)) ++ rest)) :: s2) := by rw [hy]; exact ca _ _
      rw [eC]
      rw [hyk] at h1
      simp only [cd, ca] at h2 ⊢; omega)
    rw [p2]
    refine wp_nil.2 (w_ld 0 (x := times) hA ok4 rfl rfl rfl ?_)
    refine wp_ret_of ⟨⟨q, gq, mq, lePut e y, tj, sj, gar⟩, rfl, rfl, ⟨rfl, rfl, rfl⟩, ok4, ⟨rp.le.put hsY, ?_, trivial⟩, hA⟩
    have := lsPut rp.ls y
    rw [hy] at this ⊢
    exact this

theorem look_rest (x : Lk) (j : LkJ) (hA : Aw I A) (ok : Ok I G (keys (x.bl j))) (rp : x.rep j) (hf : x.first = false) (hi : x.inv A) :
    wp Try.prog (t_guard_look_Step (some ⟨j.q, 0, none⟩) (aI I)) L (own A (x.bl j) G) (LkP (x.step A) j I G) := by
  have hlen := hi.ll
  have hwb := hi.wb
  have hmi := hi.mi
  unfold Lk.step
  rw [if_neg (by rw [hf]; decide)]
  unfold Lk.go t_guard_look_Step
  have ok0 := ok
  obtain ⟨g, ls, work, first, times, m⟩ := x
  have hf : first = false := hf
  subst hf
  cases m with
  | no =>
    have bs := begin_spec ⟨g, ls, work, false, times, .no⟩ j hA ok rp rfl hlen
    unfold Lk.bl at ok
    refine wp_nil.2 (w_ld 0 (x := false) hA ok rfl rfl rfl (wp_false rfl ?_))
    refine wp_nil.2 (w_ld 0 (x := .nilIface) hA ok rfl rfl rfl ?_)
    refine look_val (x := true) (eqlMc0 _) (wp_true rfl ?_)
    refine wp_nil.2 (w_ld 0 (x := times) hA ok rfl rfl rfl ?_)
    by_cases ht : 0 < times
    · refine wp_true (decide_eq_true ht) ?_
      refine wp_call_of bs ?_
      rintro v K ⟨j', rfl, rfl, e1, e2, e3, ok', rp'⟩
      refine ⟨(), rfl, ?_⟩
      show wp Try.prog _ L _ (LkP ((if 0 < times then Lk.begin ⟨g, ls, work, false, times, .no⟩ else ⟨g, ls, work, false, times, .no⟩).mid A) j I G)
      rw [if_pos ht, ← e1]
      exact lkT_wp ⟨e1, e2, e3⟩ hA ok' rp' (begin_inv hlen hwb)
    · refine wp_false (decide_eq_false ht) ?_
      show wp Try.prog _ L _ (LkP ((if 0 < times then Lk.begin ⟨g, ls, work, false, times, .no⟩ else ⟨g, ls, work, false, times, .no⟩).mid A) j I G)
      rw [if_neg ht]
      exact lkT_wp (x := ⟨g, ls, work, false, times, .no⟩) ⟨rfl, rfl, rfl⟩ hA ok0 rp hmi
  | tn m =>
    unfold Lk.bl at ok
    refine wp_nil.2 (w_ld 0 (x := false) hA ok rfl rfl rfl (wp_false rfl ?_))
    refine wp_nil.2 (w_ld 0 (x := .iface ty_p_epoch_Turn (.pointer (some ⟨j.tj.q, 0, none⟩))) hA ok rfl rfl rfl ?_)
    refine look_val (x := false) (eqlMc _ _ _) (wp_false rfl ?_)
    exact lkT_wp (x := ⟨g, ls, work, false, times, .tn m⟩) ⟨rfl, rfl, rfl⟩ hA ok0 rp hmi
  | sc m =>
    unfold Lk.bl at ok
    refine wp_nil.2 (w_ld 0 (x := false) hA ok rfl rfl rfl (wp_false rfl ?_))
    refine wp_nil.2 (w_ld 0 (x := .iface ty_p_hazard_Scan (.pointer (some ⟨j.sj.q, 0, none⟩))) hA ok rfl rfl rfl ?_)
    refine look_val (x := false) (eqlMc _ _ _) (wp_false rfl ?_)
    exact lkT_wp (x := ⟨g, ls, work, false, times, .sc m⟩) ⟨rfl, rfl, rfl⟩ hA ok0 rp hmi
end

theorem mLk_ok (gq mq : Nat) : (mLk gq mq).ok := by
  rintro I A G x j hA ok ⟨rp, e1, e2⟩ hi
  refine t_guard_look_Step_spec fun L => ?_
  refine Go.Fw.wp_mono _ (R := LkP (x.step A) j I G) ?_ (fun _ _ _ h => h) ?_
  · by_cases hf : x.first = true
    · exact look_first x j hA ok rp hf hi
    · exact look_rest x j hA ok rp (by simpa using hf) hi
  · rintro v K ⟨j', rfl, rfl, ⟨a, b, c⟩, ok', rp', hA'⟩
    exact ⟨j', rfl, rfl, a, ok', ⟨rp', b.trans e1, c.trans e2⟩, hA'⟩
end Go.Proofs.Ytcjhakdopnamoaa

set_option linter.unusedVariables false
set_option linter.unusedSimpArgs false
set_option maxRecDepth 20000
namespace Go.Proofs.Ytcjhakdopnamoaa
open Go Go.Fw

def retLk (g : Gd) (ls : Int → List (Int × Int)) (k h : Int) : Lk := ⟨g, setL ls k (ls k ++ [(h, 0)]), k, g.ep, if g.th ≤ ((ls k).length : Int) + 1 then 1 else 0, .no⟩
def retM (g : Gd) (ls : Int → List (Int × Int)) (k h : Int) : Option Lk :=
  if g.ep = true then some (retLk g ls k h) else if g.th ≤ ((ls k).length : Int) + 1 then some (retLk g ls k h).begin else none
def forLk (g : Gd) (ls : Int → List (Int × Int)) (k : Int) : Lk := ⟨g, ls, k, false, if g.ep = true then 3 else 1, .no⟩
def forM (g : Gd) (ls : Int → List (Int × Int)) (k : Int) : Option Lk := if ls k = [] then none else some (forLk g ls k).begin

/-- A guard's lists in memory. -/
structure GdS (e : List LE) (ls : Int → List (Int × Int)) : Prop where
  le : leOk e
  ls : ∀ k, (leGet e k).xs = ls k

def GPost (o : Option Lk) (g : Gd) (ls : Int → List (Int × Int)) (q mq : Nat) (A : Ar) (I : List Nat) (G : Heap) : Value → Heap → Prop := fun v K => match o with
  | none => ∃ e gar, v = .nilIface ∧ K = own A (g.bl q mq e ++ gar) G ∧ Ok I G (keys (g.bl q mq e ++ gar)) ∧ GdS e ls
  | some x => ∃ j : LkJ, v = .iface ty_p_guard_look (.pointer (some ⟨j.q, 0, none⟩)) ∧ K = own A (x.bl j) G ∧ Ok I G (keys (x.bl j)) ∧ (mLk q mq).rep x j

section
variable {L : Hands} {R : Value → Heap → Prop} {G : Heap} {l rest : Bl} {A : Ar} {I : List Nat}

theorem w_ckLk {e : List LE} {k : Int} {mq : Nat} {s : Sl} {t : Tree} (ix : Nat) (hA : Aw I A) (ok : Ok I G (keys l)) (hi : l[ix]? = some (mq, mapObj slV (leC e))) (hs : s = (leGet e k).s)
    (h : wp Try.prog t L (own A l G) R) :
    wp Try.prog (.check (opS Try.prog (.lookup ty_m_int_s_epoch_Limbo (.tmp 0) (.tmp 1) false) ty_s_epoch_Limbo [(.map (some mq)), (.int .i64 k)]) (.slice s.a s.len s.cap) t) L (own A l G) R := by
  subst hs
  refine ⟨?_, h⟩
  have hy : (match alGet (leC e) k with | some v => slV v | none => slV sl0) = slV (leGet e k).s := leC_get e k
  have h3 := still_lookup (P := Try.prog) (t := ty_m_int_s_epoch_Limbo) (u := ty_s_epoch_Limbo) (kt := ty_int) (et := ty_s_epoch_Limbo) (x := k) (z := slV sl0) (own_get hA ok hi) rfl rfl rfl rfl
  have h4 : ∀ v : Value, v = slV (leGet e k).s → astill Try.prog (opS Try.prog (.lookup ty_m_int_s_epoch_Limbo (.tmp 0) (.tmp 1) false) ty_s_epoch_Limbo [(.map (some mq)), (.int .i64 k)]) (own A l G) (fun n => nextL Try.prog n (own A l G) v) → astill Try.prog (opS Try.prog (.lookup ty_m_int_s_epoch_Limbo (.tmp 0) (.tmp 1) false) ty_s_epoch_Limbo [(.map (some mq)), (.int .i64 k)]) (own A l G) (fun n => nextL Try.prog n (own A l G) (slV (leGet e k).s)) := fun v hv h => hv ▸ h
  revert hy h3
  cases alGet (leC e) k with
  | some v => exact fun hy h3 => h4 _ hy h3
  | none => exact fun hy h3 => h4 _ hy h3

set_option maxHeartbeats 1000000 in
theorem force_spec {g : Gd} {e : List LE} {ls : Int → List (Int × Int)} {q mq : Nat} {k : Int} (hA : Aw I A) (ok : Ok I G (keys (g.bl q mq e))) (gs : GdS e ls) (hl : (ls k).length ≤ 1000) :
    SpecF Try.prog f_guard_Guard_Force #[.pointer (some ⟨q, 0, none⟩), .int .i64 k] (own A (g.bl q mq e) G) (GPost (forM g ls k) g ls q mq A I G) := by
  refine t_guard_Guard_Force_spec fun L => ?_
  unfold t_guard_Guard_Force
  have hsl : (leGet e k).s.len = (ls k).length := by rw [← gs.ls k]; exact (gs.le k).len
  refine wp_nil.2 (w_ld 0 (x := some mq) hA ok rfl rfl rfl ?_)
  refine w_lk 1 hA ok rfl ?_
  unfold forM
  by_cases h0 : ls k = []
  · rw [if_pos h0]
    refine wp_true (ibeq (by rw [hsl, h0]; rfl)) ?_
    refine wp_ret_of ⟨e, [], rfl, by rw [List.append_nil], by rw [List.append_nil]; exact ok, gs⟩
  · rw [if_neg h0]
    have hp := List.length_pos_iff.2 h0
    refine wp_false (ibef (by rw [hsl]; omega)) ?_
    refine w_newP (c := [.pointer (some ⟨q, 0, none⟩), .int .i64 k, .bool false, .int .i64 1, .nilIface]) hA ok fun z ok1 => ?_
    refine wp_nil.2 (w_ld 1 (x := gmode g.ep g.w g.ta) hA ok1 rfl rfl rfl ?_)
    have tail : ∀ (L : Hands) (x6 : Nat) (o : Obj) (t : Int), Ok I G (keys ((x6, o) :: (z, oc ty_guard_look (lkC q k false t .nilIface)) :: g.bl q mq e)) → (forLk g ls k) = ⟨g, ls, k, false, t, .no⟩ →
        wp Try.prog (.call f_guard_look_begin [(.pointer (some ⟨z, 0, none⟩))] .unit fun _ => .ret (.iface ty_p_guard_look (.pointer (some ⟨z, 0, none⟩)))) L (own A ((x6, o) :: (z, oc ty_guard_look (lkC q k false t .nilIface)) :: g.bl q mq e) G) (GPost (some (forLk g ls k).begin) g ls q mq A I G) := fun L x6 o t ok2 et => by
      rw [et]
      obtain ⟨p1, ok3⟩ := own_perm (A := A) (l' := Lk.bl ⟨g, ls, k, false, t, .no⟩ ⟨z, q, mq, e, ⟨0, sl0, sl0, sl0, [], [], [], []⟩, ⟨0, 0, sl0, sl0, sl0, [], [], [], []⟩, [(x6, o)]⟩) ok2 (perm_by fun c d c0 cd ca => by
        show _ = c ((z, oc ty_guard_look (lkC q k false t .nilIface)) :: (g.bl q mq e ++ ([] ++ [(x6, o)])))
        simp only [cd, ca, c0]; omega)
      rw [p1]
      refine wp_call_of (begin_spec _ ⟨z, q, mq, e, ⟨0, sl0, sl0, sl0, [], [], [], []⟩, ⟨0, 0, sl0, sl0, sl0, [], [], [], []⟩, [(x6, o)]⟩ hA ok3 ⟨gs.le, gs.ls, trivial⟩ rfl hl) ?_
      rintro v K ⟨j', rfl, rfl, e1, e2, e3, ok', rp'⟩
      refine ⟨(), rfl, wp_ret_of ⟨j', ?_, rfl, ok', rp', e2, e3⟩⟩
      have e1 : j'.q = z := e1
      rw [e1]
    cases hp : g.ep with
    | true =>
      refine look_val (x := ((g.w, g.ta, ()), true, ())) (ta_epT _ _ _) ?_
      refine w_newP (c := [.int .i64 0, .int .i64 0]) hA ok1 fun x6 ok2 => ?_
      refine w_stA 0 hA ok2 rfl rfl rfl rfl (wp_true rfl ?_)
      refine wp_nil.2 (w_st 1 hA (by exact ok2) rfl rfl rfl rfl ?_)
      exact tail _ x6 _ 3 ok2 (by unfold forLk; rw [if_pos hp])
    | false =>
      refine look_val (x := ((0, 0, ()), false, ())) (ta_epF _ _ _) ?_
      refine w_newP (c := [.int .i64 0, .int .i64 0]) hA ok1 fun x6 ok2 => ?_
      refine w_stA 0 hA ok2 rfl rfl rfl rfl (wp_false rfl ?_)
      exact tail _ x6 _ 1 ok2 (by unfold forLk; rw [if_neg (by rw [hp]; decide)])
end
end Go.Proofs.Ytcjhakdopnamoaa

set_option linter.unusedVariables false
set_option linter.unusedSimpArgs false
set_option maxRecDepth 20000
namespace Go.Proofs.Ytcjhakdopnamoaa
open Go Go.Fw

def tj0 : TnJ := ⟨0, sl0, sl0, sl0, [], [], [], []⟩
def sj0 : ScJ := ⟨0, 0, sl0, sl0, sl0, [], [], [], []⟩

section
variable {L : Hands} {R : Value → Heap → Prop} {G : Heap} {l rest : Bl} {A : Ar} {I : List Nat}

theorem GdS.put {e : List LE} {ls : Int → List (Int × Int)} (gs : GdS e ls) {y : LE} (hy : SlOf y.hb ty_epoch_Limbo eL y.s y.xs) : GdS (lePut e y) (setL ls y.k y.xs) := ⟨gs.le.put hy, lsPut gs.ls y⟩

set_option maxHeartbeats 2000000 in
theorem retire_spec {g : Gd} {e : List LE} {ls : Int → List (Int × Int)} {q mq : Nat} {k h : Int} (hA : Aw I A) (ok : Ok I G (keys (g.bl q mq e))) (gs : GdS e ls) (hl : (ls k).length < 1000) :
    SpecF Try.prog f_guard_Guard_Retire #[.pointer (some ⟨q, 0, none⟩), .pointer (aI I), .int .i64 k, .int .i64 h] (own A (g.bl q mq e) G) (GPost (retM g ls k h) g (setL ls k (ls k ++ [(h, 0)])) q mq (A.retireF h) I G) := by
  refine t_guard_Guard_Retire_spec fun L => ?_
  unfold t_guard_Guard_Retire
  have hs0 : SlOf (leGet e k).hb ty_epoch_Limbo eL (leGet e k).s (leGet e k).xs := gs.le k
  rw [gs.ls k] at hs0
  refine w_Retire hA fun hA => ?_
  refine wp_nil.2 (w_ld 0 (x := some mq) hA ok rfl rfl rfl ?_)
  refine wp_nil.2 (w_ld 0 (x := some mq) hA ok rfl rfl rfl ?_)
  refine w_lk 1 hA ok rfl ?_
  refine w_newS (c := [.int .i64 h, .int .i64 0]) hA ok fun z ok1 => ?_
  refine w_ckLk 2 hA ok1 rfl rfl ?_
  refine w_ck 1 hA ok1 rfl rfl rfl ?_
  refine w_ckn rfl ?_
  refine w_ck 1 hA ok1 rfl rfl rfl ?_
  refine w_ckn rfl ?_
  obtain ⟨p1, ok2⟩ := own_perm (A := A.retireF h) (l' := ((z, oc ty_epoch_Limbo [.int .i64 h, .int .i64 0]) :: (q, oc ty_guard_Guard (g.cells mq)) :: (mq, mapObj slV (leC e)) :: leRest e k) ++ (leGet e k).hb) ok1 (perm_by fun c d c0 cd ca => by
    have h1 := leB_c c0 ca e k
    simp only [Gd.bl, List.cons_append, cd, ca]; omega)
  rw [p1]
  refine w_appT (E := eL) elL (ys := [(h, 0)]) (t := ⟨some ⟨z, 0, none⟩, 1, 1⟩) hA ok2 hs0 ?_ rfl (by simp; omega) fun s' tl' hs' ok3 ap => ?_
  · exact cell_row hA ok2 (List.mem_append_left _ List.mem_cons_self) 0 rfl
  refine w_ck 1 hA ok3 rfl rfl rfl ?_
  refine w_ckn rfl ?_
  obtain ⟨y, hy⟩ : ∃ y : LE, y = ⟨k, s', ls k ++ [(h, 0)], tl'⟩ := ⟨_, rfl⟩
  have eput : alPut (leC e) k s' = leC (lePut e y) := by rw [leC_put, hy]
  refine w_mapS 2 hA ok3 rfl ?_
  rw [eput]
  have gs' : GdS (lePut e y) (setL ls k (ls k ++ [(h, 0)])) := by
    have := gs.put (y := y) (by rw [hy]; exact hs')
    rw [hy] at this ⊢; exact this
  have ok4 : Ok I G (keys (((z, oc ty_epoch_Limbo [.int .i64 h, .int .i64 0]) :: (q, oc ty_guard_Guard (g.cells mq)) :: (mq, mapObj slV (leC (lePut e y))) :: leRest e k) ++ tl')) := ok3
  show wp Try.prog _ L (own (A.retireF h) (((z, oc ty_epoch_Limbo [.int .i64 h, .int .i64 0]) :: (q, oc ty_guard_Guard (g.cells mq)) :: (mq, mapObj slV (leC (lePut e y))) :: leRest e k) ++ tl') G) _
  obtain ⟨p2, ok5⟩ := own_perm (A := A.retireF h) (l' := g.bl q mq (lePut e y) ++ [(z, oc ty_epoch_Limbo [.int .i64 h, .int .i64 0])]) ok4 (perm_by fun c d c0 cd ca => by
    have h1 := leB_put_c c0 ca e y
    have h3 : c y.hb = c tl' := by rw [hy]
    have h4 : c (leRest e y.k) = c (leRest e k) := by rw [hy]
    simp only [Gd.bl, List.cons_append, cd, ca, c0]; omega)
  rw [p2]
  obtain ⟨c1, hc1⟩ : ∃ c1 : Nat × Obj, c1 = (z, oc ty_epoch_Limbo [.int .i64 h, .int .i64 0]) := ⟨_, rfl⟩
  rw [← hc1] at ok5 ⊢
  generalize lePut e y = e1 at *
  clear p1 p2 hc1 ok4 ok3 ok2 ok1 hs0 hs' eput hy
  have hsl : (leGet e1 k).s.len = (ls k).length + 1 := by rw [(gs'.le k).len, gs'.ls k, setL_same, List.length_append]; rfl
  refine wp_nil.2 (w_ld 0 (x := gmode g.ep g.w g.ta) hA ok5 rfl rfl rfl ?_)
  have hret : ∀ (L : Hands) (t : Int) (x42 : Nat) (c2 : Nat × Obj) (E : Bool), (if g.th ≤ ((ls k).length : Int) + 1 then (1 : Int) else 0) = t → g.ep = E → Ok I G (keys ((x42, oc ty_guard_look (lkC q k E t .nilIface)) :: c2 :: (g.bl q mq e1 ++ [c1]))) →
      own (A.retireF h) ((x42, oc ty_guard_look (lkC q k E t .nilIface)) :: c2 :: (g.bl q mq e1 ++ [c1])) G = own (A.retireF h) ((retLk g ls k h).bl ⟨x42, q, mq, e1, tj0, sj0, [c2, c1]⟩) G ∧ Ok I G (keys ((retLk g ls k h).bl ⟨x42, q, mq, e1, tj0, sj0, [c2, c1]⟩)) := fun L t x42 c2 E ht hE ok => by
    subst ht hE
    exact own_perm (A := A.retireF h) ok (perm_by fun c d c0 cd ca => by
      show _ = c ((x42, oc ty_guard_look (lkC q k g.ep (if g.th ≤ ((ls k).length : Int) + 1 then (1 : Int) else 0) .nilIface)) :: (g.bl q mq e1 ++ ([] ++ [c2, c1])))
      simp only [cd, ca, c0]; omega)
  have rpR : ∀ (x42 : Nat) (c2 : Nat × Obj), (retLk g ls k h).rep ⟨x42, q, mq, e1, tj0, sj0, [c2, c1]⟩ := fun x42 c2 => ⟨gs'.le, gs'.ls, trivial⟩
  unfold retM
  cases hp : g.ep with
  | true =>
    rw [if_pos rfl]
    refine look_val (x := ((g.w, g.ta, ()), true, ())) (ta_epT _ _ _) ?_
    refine w_newP (c := [.int .i64 0, .int .i64 0]) hA ok5 fun x9 ok6 => ?_
    refine w_stA 0 hA ok6 rfl rfl rfl rfl ?_
    refine w_newP (c := [.pointer (some ⟨q, 0, none⟩), .int .i64 k, .bool true, .int .i64 0, .nilIface]) hA (by exact ok6) fun x42 ok7 => ?_
    refine wp_nil.2 (w_ld 2 (x := some mq) hA (by exact ok7) rfl rfl rfl ?_)
    refine w_lk (e := e1) 3 hA (by exact ok7) rfl ?_
    refine wp_nil.2 (w_ld 2 (x := g.th) hA (by exact ok7) rfl rfl rfl ?_)
    by_cases ht : g.th ≤ ((ls k).length : Int) + 1
    · refine wp_true (decide_eq_true (by show g.th ≤ (((leGet e1 k).s.len : Nat) : Int); rw [hsl]; omega)) ?_
      refine wp_nil.2 (w_st 0 hA (by exact ok7) rfl rfl rfl rfl ?_)
      refine wp_false rfl (wp_false rfl ?_)
      obtain ⟨p3, ok8⟩ := hret L 1 x42 _ true (if_pos ht) hp ok7
      exact wp_ret_of ⟨_, rfl, p3, ok8, rpR x42 _, rfl, rfl⟩
    · refine wp_false (decide_eq_false (by show ¬ g.th ≤ (((leGet e1 k).s.len : Nat) : Int); rw [hsl]; omega)) ?_
      refine wp_false rfl (wp_false rfl ?_)
      obtain ⟨p3, ok8⟩ := hret L 0 x42 _ true (if_neg ht) hp ok7
      exact wp_ret_of ⟨_, rfl, p3, ok8, rpR x42 _, rfl, rfl⟩
  | false =>
    rw [if_neg (by decide)]
    refine look_val (x := ((0, 0, ()), false, ())) (ta_epF _ _ _) ?_
    refine w_newP (c := [.int .i64 0, .int .i64 0]) hA ok5 fun x9 ok6 => ?_
    refine w_stA 0 hA ok6 rfl rfl rfl rfl ?_
    refine w_newP (c := [.pointer (some ⟨q, 0, none⟩), .int .i64 k, .bool false, .int .i64 0, .nilIface]) hA (by exact ok6) fun x42 ok7 => ?_
    refine wp_nil.2 (w_ld 2 (x := some mq) hA (by exact ok7) rfl rfl rfl ?_)
    refine w_lk (e := e1) 3 hA (by exact ok7) rfl ?_
    refine wp_nil.2 (w_ld 2 (x := g.th) hA (by exact ok7) rfl rfl rfl ?_)
    by_cases ht : g.th ≤ ((ls k).length : Int) + 1
    · rw [if_pos ht]
      refine wp_true (decide_eq_true (by show g.th ≤ (((leGet e1 k).s.len : Nat) : Int); rw [hsl]; omega)) ?_
      refine wp_nil.2 (w_st 0 hA (by exact ok7) rfl rfl rfl rfl ?_)
      refine wp_true rfl ?_
      refine wp_nil.2 (w_ld 0 (x := 1) hA (by exact ok7) rfl rfl rfl ?_)
      refine wp_false rfl (wp_true rfl ?_)
      obtain ⟨p3, ok8⟩ := hret L 1 x42 _ false (if_pos ht) hp ok7
      refine wp_call_of (p3 ▸ begin_spec (retLk g ls k h) ⟨x42, q, mq, e1, tj0, sj0, [_, c1]⟩ hA ok8 (rpR x42 _) rfl (by show (setL ls k (ls k ++ [(h, 0)]) k).length ≤ 1000; rw [setL_same, List.length_append]; show (ls k).length + 1 ≤ 1000; omega)) ?_
      rintro v K ⟨j', rfl, rfl, e1, e2, e3, ok', rp'⟩
      refine ⟨(), rfl, wp_ret_of ⟨j', ?_, rfl, ok', rp', e2, e3⟩⟩
      have e1 : j'.q = x42 := e1
      rw [e1]
    · rw [if_neg ht]
      refine wp_false (decide_eq_false (by show ¬ g.th ≤ (((leGet e1 k).s.len : Nat) : Int); rw [hsl]; omega)) ?_
      refine wp_true rfl ?_
      refine wp_nil.2 (w_ld 0 (x := 0) hA (by exact ok7) rfl rfl rfl ?_)
      refine wp_true rfl ?_
      obtain ⟨c3, hc3⟩ : ∃ c3 : Nat × Obj, c3 = (x42, oc ty_guard_look (lkC q k false 0 .nilIface)) := ⟨_, rfl⟩
      obtain ⟨c2, hc2⟩ : ∃ c2 : Nat × Obj, c2 = (x9, oc ty_guard_epochs [.int .i64 0, .int .i64 0]) := ⟨_, rfl⟩
      have ok7 : Ok I G (keys ((x42, oc ty_guard_look (lkC q k false 0 .nilIface)) :: (x9, oc ty_guard_epochs [.int .i64 0, .int .i64 0]) :: (g.bl q mq e1 ++ [c1]))) := ok7
      show wp Try.prog _ L (own (A.retireF h) ((x42, oc ty_guard_look (lkC q k false 0 .nilIface)) :: (x9, oc ty_guard_epochs [.int .i64 0, .int .i64 0]) :: (g.bl q mq e1 ++ [c1])) G) _
      rw [← hc3, ← hc2] at ok7 ⊢
      obtain ⟨p4, ok8⟩ := own_perm (A := A.retireF h) (l' := g.bl q mq e1 ++ [c3, c2, c1]) ok7 (perm_by fun c d c0 cd ca => by simp only [cd, ca, c0]; omega)
      rw [p4]
      exact wp_ret_of ⟨e1, [c3, c2, c1], rfl, rfl, ok8, gs'⟩
end
end Go.Proofs.Ytcjhakdopnamoaa

set_option linter.unusedVariables false
set_option linter.unusedSimpArgs false
set_option maxRecDepth 20000
namespace Go.Proofs.Ytcjhakdopnamoaa
open Go Go.Fw

/-! ### Scans and turns alone, slots of any class -/

def szs : List Int → Int
  | [] => 0
  | h :: t => sizeF (opC h) + szs t
theorem sz_op (h : Int) : 8 ≤ sizeF (opC h) ∧ sizeF (opC h) ≤ 64 ∧ sizeF (opC h) % 8 = 0 := sz_pos (opC_nat h).1 (opC_nat h).2
theorem szs_nn : ∀ xs : List Int, 0 ≤ szs xs
  | [] => Int.le_refl 0
  | h :: t => by have := sz_op h; have := szs_nn t; show 0 ≤ sizeF (opC h) + szs t; omega
theorem szs_append : ∀ xs ys : List Int, szs (xs ++ ys) = szs xs + szs ys
  | [], ys => by show szs ys = 0 + szs ys; omega
  | h :: t, ys => by show sizeF (opC h) + szs (t ++ ys) = sizeF (opC h) + szs t + szs ys; rw [szs_append t ys]; omega
theorem szs_filter (q : Int → Bool) : ∀ xs : List Int, szs (xs.filter q) + szs (xs.filter fun x => !q x) = szs xs
  | [] => rfl
  | h :: t => by
    have ih := szs_filter q t
    cases hq : q h with
    | true =>
      simp only [List.filter_cons, hq, if_true, Bool.not_true, Bool.false_eq_true, if_false]
      show sizeF (opC h) + _ + _ = sizeF (opC h) + szs t; omega
    | false =>
      simp only [List.filter_cons, hq, if_true, Bool.not_false, Bool.false_eq_true, if_false]
      show _ + (sizeF (opC h) + _) = sizeF (opC h) + szs t; omega
theorem szs_perm {xs ys : List Int} (h : xs.Perm ys) : szs xs = szs ys := by
  induction h with
  | nil => rfl
  | cons x _ ih => show sizeF (opC x) + _ = sizeF (opC x) + _; rw [ih]
  | swap x y l => show sizeF (opC y) + (sizeF (opC x) + szs l) = sizeF (opC x) + (sizeF (opC y) + szs l); omega
  | trans _ _ a b => exact a.trans b

/-- Freed, one by one. -/
def frS (who : Int) : Sg → List Int → Sg
  | S, [] => S
  | S, h :: hs => frS who { S with ch := upd S.ch (4 * who + opC h) (opB h :: S.ch (4 * who + opC h)) } hs
theorem frS_append (who : Int) : ∀ (hs ks : List Int) (S : Sg), frS who S (hs ++ ks) = frS who (frS who S hs) ks
  | [], ks, S => rfl
  | h :: hs, ks, S => frS_append who hs ks _
structure SweptG (A : Ar) (p : Pl) (w m : Int) (S : Sg) (who : Int) (hs : List Int) (A' : Ar) : Prop where
  off : Off p.carved (3 * hs.length) A A'
  sl : SL A' p w m (frS who S hs)
  st : ∀ k, A'.stF k = if k ∈ hs then 0 else A.stF k
  nL : A'.nL = A.nL
  nR : A'.nR = A.nR - szs hs

section
variable {A : Ar} {p : Pl} {w m : Int} {S : Sg}

theorem SweptG.refl {who : Int} (X : SL A p w m S) (h : A.wf) : SweptG A p w m S who [] A := ⟨.refl h, X, fun k => by rw [if_neg (by simp)], rfl, by show _ = _ - (0 : Int); omega⟩
theorem SweptG.trans {who : Int} {hs ks : List Int} {B C : Ar} (h : SweptG A p w m S who hs B) (g : SweptG B p w m (frS who S hs) who ks C) : SweptG A p w m S who (hs ++ ks) C := by
  refine ⟨?_, by rw [frS_append]; exact g.sl, fun k => ?_, g.nL.trans h.nL, by rw [g.nR, h.nR, szs_append]; omega⟩
  · have := h.off.trans g.off
    rw [List.length_append]
    rw [show (3 * ((hs.length + ks.length : Nat) : Int)) = 3 * (hs.length : Int) + 3 * (ks.length : Int) by omega]
    exact this
  · rw [g.st, h.st]
    by_cases e1 : k ∈ ks
    · rw [if_pos e1, if_pos (List.mem_append_right _ e1)]
    · rw [if_neg e1]
      by_cases e2 : k ∈ hs
      · rw [if_pos e2, if_pos (List.mem_append_left _ e2)]
      · rw [if_neg e2, if_neg (fun h => (List.mem_append.1 h).elim e2 e1)]

theorem sweepG {M J : Type} {X : MchR M J} {on : List Fe → M} (hl : ∀ (fs : List Fe) {n : Nat} {f f' : Fe} {A A' : Ar}, mFe.Runs n f A f' A' → f.done = false → (fs ≠ [] → X.Path n (on (f :: fs)) A (on fs) A') ∧ (fs = [] → X.Runs n (on [f]) A (on []) A'))
    {p : Pl} {w mm who : Int} (wh : 0 ≤ who ∧ who < w) : ∀ (hs : List Int) (A : Ar) (S : Sg), hs ≠ [] → hs.Nodup → SL A p w mm S → A.wf → A.uses + 3 * hs.length ≤ 1000000 → szs hs ≤ A.nR → (∀ h ∈ hs, A.stF h = 2) →
    ∃ A', X.Runs (3 * hs.length) (on (hs.map (newFe p who))) A (on []) A' ∧ SweptG A p w mm S who hs A'
  | [], _, _, h, _, _, _, _, _, _ => (h rfl).elim
  | h :: hs, A, S, _, hnd, X, hwf, hu, hr, hh => by
    obtain ⟨n1, n2⟩ := List.nodup_cons.1 hnd
    have h1 := hh h List.mem_cons_self
    have hr : sizeF (opC h) + szs hs ≤ A.nR := hr
    have sz := sz_op h
    have sn := szs_nn hs
    simp only [List.length_cons] at hu
    have us := X.F.us
    obtain ⟨x', A1, Z⟩ := free_solo X hwf (by omega) wh h1 (by omega)
    obtain ⟨f1, f2⟩ := hl (hs.map (newFe p who)) Z.run rfl
    have z1 := Z.off.us
    have z2 := Z.nR
    have W1 : SweptG A p w mm S who [h] A1 := ⟨Z.off, Z.sl, fun k => by rw [Z.st k]; simp, Z.nL, by rw [z2]; show _ = A.nR - (sizeF (opC h) + 0); omega⟩
    by_cases he : hs = []
    · subst he
      exact ⟨A1, f2 rfl, W1⟩
    · obtain ⟨A2, r2, W⟩ := sweepG hl wh hs A1 _ he n2 Z.sl Z.off.wf (by omega) (by omega) fun k hk => by
        have := hh k (List.mem_cons_of_mem _ hk)
        rw [Z.st k, if_neg (fun e : k = h => n1 (by rw [← e]; exact hk))]; exact this
      refine ⟨A2, ?_, W1.trans W⟩
      have := (f1 (by simpa using he)).run r2
      rw [List.length_cons, show 3 * (hs.length + 1) = 3 + 3 * hs.length by omega]
      exact this

/-- A whole scan. -/
theorem scanG {tw ta who : Int} {xs : List Int} (X : SL A p w m S) (hwf : A.wf) (tb : 1 ≤ tw ∧ tw ≤ 1000) (ll : xs.length ≤ 1000) (h0 : 0 ≤ ta) (h1 : ta + 2 * tw ≤ A.raw.length) (h2 : (A.raw.length : Int) ≤ 1000000) (u1 : A.uses ≤ 900000)
    (wh : 0 ≤ who ∧ who < w) (nd : xs.Nodup) (nr : szs xs ≤ A.nR) (hh : ∀ h ∈ xs, A.stF h = 2) :
    ∃ A' m' n, mSc.Runs n (newSc tw ta p who xs) A m' A' ∧ n = 2 * tw.toNat + 3 * (gone A tw ta xs).length ∧ m'.left = lft A tw ta xs ∧ m'.ended = true ∧ SweptG (A.later (2 * tw)) p w m S who (gone A tw ta xs) A' := by
  have u0 := X.F.us
  have pth := words_path (p := p) (who := who) (xs := xs) tb ll h0 h1 h2 u0 (by omega) ((2 * tw).toNat - 1) (by omega)
  have epp : (((2 * tw).toNat - 1 : Nat) : Int) = 2 * tw - 1 := by omega
  rw [epp] at pth
  suffices hs : ∃ A' m', mSc.Runs (1 + 3 * (gone A tw ta xs).length) (scN A tw ta p who xs ((2 * tw).toNat - 1)) (A.later (2 * tw - 1)) m' A' ∧ m'.left = lft A tw ta xs ∧ m'.ended = true ∧ SweptG (A.later (2 * tw)) p w m S who (gone A tw ta xs) A' by
    obtain ⟨A', m', r, q1, q2, q3⟩ := hs
    exact ⟨A', m', _, pth.run r, by omega, q1, q2, q3⟩
  have e : w64 (ta + (2 * tw - 1)) = ta + (2 * tw - 1) := w64_in (by omega) (by omega)
  have e2 : w64 (A.uses + (2 * tw - 1) + 1) = A.uses + (2 * tw - 1) + 1 := w64_in (by omega) (by omega)
  obtain ⟨n, hn⟩ : ∃ n : Nat, (2 * tw).toNat = n + 1 := ⟨(2 * tw).toNat - 1, by omega⟩
  have hn1 : (n : Int) = 2 * tw - 1 := by omega
  rw [hn, Nat.add_sub_cancel, ← hn1]
  rw [← hn1] at e e2
  let B : Sc := ⟨tw, ta, p, who, n + 1, xs, seenN A ta (n + 1), true, [], lft A tw ta xs, false⟩
  have hgo : xs.filter (fun h => !inS (seenN A ta (n + 1)) h) = gone A tw ta xs := by unfold gone; rw [hn]
  have hlf : xs.filter (inS (seenN A ta (n + 1))) = lft A tw ta xs := by unfold lft; rw [hn]
  have hB : B.base := ⟨tb, by show ((n : Int) + 1) = 2 * tw; omega, ll, rfl⟩
  have hst : mSc.step (scN A tw ta p who xs n) (A.later n) = (B.on ((gone A tw ta xs).map (newFe p who)), A.later (2 * tw)) := by
    show Sc.step (scN A tw ta p who xs n) (A.later n) = _
    unfold Sc.step
    rw [if_neg (show ¬ (scN A tw ta p who xs n).ended = true by intro h; cases h)]
    have en : (scN A tw ta p who xs n).word = n := rfl
    have et : (scN A tw ta p who xs n).ta = ta := rfl
    have ew : (scN A tw ta p who xs n).tw = tw := rfl
    rw [en, et, ew, if_pos (show (n : Int) < 2 * tw by omega), if_pos (by omega), e, tick_later (A := A.later n) (i := ta + n) ⟨by omega, by show ta + n < (A.raw.length : Int); omega⟩ (by show 0 ≤ A.uses + n; omega) (by show A.uses + n ≤ _; omega), later_add, show (n : Int) + 1 = 2 * tw by omega]
    refine Prod.ext ?_ rfl
    have hs : (scN A tw ta p who xs n).word1 (A.later n) = ⟨tw, ta, p, who, n + 1, xs, seenN A ta (n + 1), false, [], [], false⟩ := by
      unfold Sc.word1
      rw [en, et, e]; rfl
    dsimp only
    rw [hs]
    show Sc.mk tw ta p who (n + 1) xs (seenN A ta (n + 1)) true (((xs.take xs.length).filter fun h => !inS (seenN A ta (n + 1)) h).map (newFe p who)) ((xs.take xs.length).filter (inS (seenN A ta (n + 1)))) (decide ((((xs.take xs.length).filter fun h => !inS (seenN A ta (n + 1)) h).map (newFe p who)) = [])) = _
    rw [List.take_length, hgo, hlf]
  have iv : mSc.inv (scN A tw ta p who xs n) (A.later n) := ⟨tb, by show (0 : Int) ≤ n; omega, ll, fun _ => .inl ⟨by show (n : Int) < 2 * tw; omega, rfl, rfl, rfl⟩⟩
  have hu : (A.later (2 * tw)).uses ≤ w64 ((A.later n).uses + 1) := by
    show A.uses + 2 * tw ≤ w64 (A.uses + n + 1)
    rw [e2]; omega
  have hle : (gone A tw ta xs).length ≤ xs.length := List.length_filter_le _ _
  have hsz : szs (gone A tw ta xs) ≤ szs xs := by
    have h1 := szs_filter (inS (seenN A ta (2 * tw).toNat)) xs
    have h2 := szs_nn (xs.filter (inS (seenN A ta (2 * tw).toNat)))
    show szs (xs.filter fun h => !inS (seenN A ta (2 * tw).toNat) h) ≤ _; omega
  by_cases hg : gone A tw ta xs = []
  · refine ⟨A.later (2 * tw), B.on [], ?_, rfl, rfl, ?_⟩
    · rw [hg] at hst ⊢
      exact .one iv hst hu rfl
    · rw [hg]; exact .refl (X.later (by omega)) (later_wf hwf _)
  · obtain ⟨A', r, W⟩ := sweepG (X := mSc) (on := B.on) (fun fs {n f f' A A'} h hf => sc_free hB h hf) (p := p) (w := w) (mm := m) wh (gone A tw ta xs) (A.later (2 * tw)) S hg (nd.filter _) (X.later (by omega)) (later_wf hwf _) (by show A.uses + 2 * tw + _ ≤ _; omega) (by show _ ≤ A.nR; omega) fun h hm => hh h (List.mem_filter.1 hm).1
    refine ⟨A', B.on [], ?_, rfl, rfl, W⟩
    rw [Nat.add_comm]
    refine .more iv hst hu ?_ r
    show decide ((gone A tw ta xs).map (newFe p who) = []) = false
    simpa using hg

theorem turnG_end {who : Int} {B D : Ar} {mm t : Tn} (X : SL B p w m S) (hwf : B.wf) (wh : 0 ≤ who ∧ who < w) (tp : t.pl = p) (tw : t.work = who) (ll : t.l.length ≤ 1000) (u1 : B.uses ≤ 900000)
    (nd : (t.l.map Prod.fst).Nodup) (nr : szs (t.l.map Prod.fst) ≤ B.nR) (hh : ∀ x ∈ t.l, B.stF x.1 = 2) (iv : mTn.inv mm D) (hst : mTn.step mm D = (t.sort, B)) (hu : B.uses ≤ w64 (D.uses + 1)) :
    ∃ A' m', mTn.Runs (1 + 3 * (tgone t.e t.l).length) mm D m' A' ∧ m'.left = tleft t.e t.l ∧ 4 ≤ m'.ph ∧ SweptG B p w m S who (tgone t.e t.l) A' := by
  subst tp; subst tw
  rw [tn_sorted] at hst
  have hle : (tgone t.e t.l).length ≤ t.l.length := by unfold tgone; rw [List.length_map]; exact List.length_filter_le _ _
  have hsz : szs (tgone t.e t.l) ≤ szs (t.l.map Prod.fst) := by
    have : ∀ l : List (Int × Int), szs ((l.filter (due t.e)).map Prod.fst) ≤ szs (l.map Prod.fst) := fun l => by
      induction l with
      | nil => exact Int.le_refl 0
      | cons x l ih =>
        have sx := sz_op x.1
        rw [List.filter_cons]
        split
        · show sizeF (opC x.1) + _ ≤ sizeF (opC x.1) + _; omega
        · show _ ≤ sizeF (opC x.1) + _; omega
    exact this _
  by_cases hg : tgone t.e t.l = []
  · refine ⟨B, Tn.on { t with left := tleft t.e t.l } [], ?_, rfl, Nat.le_refl 4, ?_⟩
    · rw [hg] at hst ⊢
      exact .one iv hst hu rfl
    · rw [hg]; exact .refl X hwf
  · obtain ⟨A', r, W⟩ := sweepG (X := mTn) (on := Tn.on { t with left := tleft t.e t.l }) (fun fs {n f f' A A'} h hf => tn_free (m := { t with left := tleft t.e t.l }) ll h hf) (p := t.pl) (w := w) (mm := m) wh (tgone t.e t.l) B S hg (((List.filter_sublist (l := t.l) (p := due t.e)).map Prod.fst).nodup nd) X hwf (by omega) (by omega) fun h hm => by
      obtain ⟨x, hx, rfl⟩ := List.mem_map.1 hm
      exact hh x (List.mem_filter.1 hx).1
    refine ⟨A', Tn.on { t with left := tleft t.e t.l } [], ?_, rfl, Nat.le_refl 4, W⟩
    rw [Nat.add_comm]
    refine .more iv hst hu ?_ r
    have : (tgone t.e t.l).map (newFe t.pl t.work) ≠ [] := by simpa using hg
    show decide (4 ≤ (Tn.on { t with left := tleft t.e t.l } ((tgone t.e t.l).map (newFe t.pl t.work))).ph) = false
    rw [show (Tn.on { t with left := tleft t.e t.l } ((tgone t.e t.l).map (newFe t.pl t.work))).ph = 3 from if_neg this]; rfl

/-- A whole turn: B is the arena when it sorts, e1 the epoch then. -/
structure TurnB (A : Ar) (p : Pl) (w m : Int) (S : Sg) (tw ta e e1 : Int) (B : Ar) : Prop where
  sl : SL B p w m S
  wf : B.wf
  al : Ar.Alike A B
  wd : B.words = A.words
  fa : B.fault = A.fault
  fr : B.fresh = A.fresh
  rl : B.raw.length = A.raw.length
  rw : ∀ i, B.rawF i = if i = ta then e1 else A.rawF i
  us : A.uses + 1 ≤ B.uses ∧ B.uses ≤ A.uses + 2 + tw
  st : ∀ h, B.stF h = A.stF h
  nL : B.nL = A.nL
  nR : B.nR = A.nR
  ei : e1 = e ∨ e1 = e + 1
  up : (∀ i : Nat, (i : Int) < tw → A.rawF (ta + 1 + i) = 0 ∨ A.rawF (ta + 1 + i) = e + 1) → e1 = e + 1
  dn : e1 = e + 1 → ∀ i : Nat, (i : Int) < tw → A.rawF (ta + 1 + i) = 0 ∨ A.rawF (ta + 1 + i) = e + 1

theorem turnG {tw ta who e : Int} {xs : List (Int × Int)} (X : SL A p w m S) (hwf : A.wf) (tb : 1 ≤ tw ∧ tw ≤ 1000) (ll : xs.length ≤ 1000) (h0 : p.carved < ta) (h1 : ta + 1 + tw ≤ A.raw.length) (h2 : (A.raw.length : Int) ≤ 1000000) (u1 : A.uses ≤ 800000)
    (he : A.rawF ta = e) (eb : 0 ≤ e ∧ e ≤ 1000000) (wh : 0 ≤ who ∧ who < w) (nd : (xs.map Prod.fst).Nodup) (nr : szs (xs.map Prod.fst) ≤ A.nR) (hh : ∀ x ∈ xs, A.stF x.1 = 2) :
    ∃ e1 B A' m' n, mTn.Runs n (newTn tw ta p who xs) A m' A' ∧ (n : Int) ≤ 2 + tw + 3 * xs.length ∧ m'.left = tleft e1 xs ∧ 4 ≤ m'.ph ∧ TurnB A p w m S tw ta e e1 B ∧ SweptG B p w m S who (tgone e1 xs) A' := by
  have u0 := X.F.us
  obtain ⟨p1, p2, p3, p4, p5⟩ := X.places
  have wb := X.wb
  have mb := X.mb
  have t0 : 0 ≤ ta := by omega
  have hlen : ∀ e, ((tgone e xs).length : Int) ≤ xs.length := fun e => by
    have : (tgone e xs).length ≤ xs.length := by unfold tgone; rw [List.length_map]; exact List.length_filter_le _ _
    omega
  have e3 : w64 (e + 1) = e + 1 := w64_in (by omega) (by omega)
  by_cases hw : ∀ i : Nat, (i : Int) < tw → A.rawF (ta + 1 + i) = 0 ∨ A.rawF (ta + 1 + i) = e + 1
  · have pth := looks_path (p := p) (who := who) (xs := xs) tb ll t0 h1 h2 u0 (by omega) he eb tw.toNat (by omega) fun i hi => hw i (by omega)
    have O := outS (X.later (n := 1 + tw) (by omega)) (i := ta) (v := e + 1) ⟨h0, by show ta < (A.raw.length : Int); omega⟩ (by show A.uses + _ ≤ _; omega)
    obtain ⟨B, hB⟩ : ∃ B, B = (A.later (1 + tw)).storeR ta (e + 1) := ⟨_, rfl⟩
    rw [← hB] at O
    have hBw : B.wf := by rw [hB]; exact storeR_wf (later_wf hwf _) _ _
    have okB : (A.later (1 + tw)).rawOk ta := ⟨by omega, by show ta < (A.raw.length : Int); omega⟩
    have hBs : B = ((A.later (1 + tw)).tick).setR ta.toNat (e + 1) := by rw [hB]; unfold Ar.storeR; rw [if_pos okB]
    have us := O.us
    have us1 : (A.later (1 + tw)).uses = A.uses + (1 + tw) := rfl
    have etn : ((tw.toNat : Nat) : Int) = tw := by omega
    have ph2 : (tnN tw ta p who xs e tw.toNat).ph = 2 := if_pos etn
    rw [etn] at pth
    obtain ⟨A', m', r, q1, q2, q3⟩ := turnG_end (t := { tnN tw ta p who xs e tw.toNat with e := e + 1 }) (mm := tnN tw ta p who xs e tw.toNat) (D := A.later (1 + tw)) O.sl hBw wh rfl rfl ll (by omega) nd (by rw [O.nR]; exact nr) (fun x hx => by rw [O.st]; exact hh x hx) ⟨ll, fun _ => ⟨rfl, rfl⟩, fun h => by rw [ph2] at h; omega⟩ (by
        show Tn.step (tnN tw ta p who xs e tw.toNat) (A.later (1 + tw)) = _
        unfold Tn.step
        have et : (tnN tw ta p who xs e tw.toNat).ta = ta := rfl
        have ee : (tnN tw ta p who xs e tw.toNat).e = e := rfl
        obtain ⟨s1, s2⟩ := swapR_yes (A := A.later (1 + tw)) (i := ta) (v := e) (x := e + 1) ⟨by omega, by show ta < (A.raw.length : Int); omega⟩ he
        rw [if_neg (by rw [ph2]; decide), if_neg (by rw [ph2]; decide), if_pos ph2, et, ee, e3, s2, if_pos s1, hB]; rfl) (by
        rw [us, us1, w64_in (by omega) (by omega)]; omega)
    refine ⟨e + 1, B, A', m', _, pth.run r, ?_, q1, q2, ?_, q3⟩
    · have := hlen (e + 1)
      show ((1 + tw.toNat + (1 + 3 * (tgone (e + 1) xs).length) : Nat) : Int) ≤ _; omega
    · refine ⟨O.sl, hBw, ?_, by rw [hBs]; rfl, by rw [hBs]; rfl, by rw [hBs]; rfl, O.rl, fun i => by rw [O.rf]; rfl, ⟨by omega, by omega⟩, O.st, O.nL, O.nR, .inr rfl, fun _ => rfl, fun _ => hw⟩
      rw [hBs]; exact ⟨rfl, rfl, rfl, rfl, rfl, rfl, rfl⟩
  · obtain ⟨k, hk, hk0, hn⟩ : ∃ k : Nat, (k : Int) < tw ∧ (∀ i : Nat, i < k → A.rawF (ta + 1 + i) = 0 ∨ A.rawF (ta + 1 + i) = e + 1) ∧ (A.rawF (ta + 1 + k) ≠ 0 ∧ A.rawF (ta + 1 + k) ≠ e + 1) := by
      have key : ∀ n : Nat, (∀ i : Nat, i < n → A.rawF (ta + 1 + i) = 0 ∨ A.rawF (ta + 1 + i) = e + 1) ∨ ∃ k : Nat, k < n ∧ (∀ i : Nat, i < k → A.rawF (ta + 1 + i) = 0 ∨ A.rawF (ta + 1 + i) = e + 1) ∧ (A.rawF (ta + 1 + k) ≠ 0 ∧ A.rawF (ta + 1 + k) ≠ e + 1) := fun n => by
        induction n with
        | zero => exact .inl fun i hi => by omega
        | succ n ih =>
          rcases ih with h | ⟨k, a, b, c⟩
          · by_cases hz : A.rawF (ta + 1 + n) = 0 ∨ A.rawF (ta + 1 + n) = e + 1
            · refine .inl fun i hi => ?_
              by_cases en : i = n
              · rw [en]; exact hz
              · exact h i (by omega)
            · exact .inr ⟨n, by omega, h, fun e => hz (.inl e), fun e => hz (.inr e)⟩
          · exact .inr ⟨k, by omega, b, c⟩
      rcases key tw.toNat with h | ⟨k, a, b, c⟩
      · exact (hw fun i hi => h i (by omega)).elim
      · exact ⟨k, by omega, b, c⟩
    have pth := looks_path (p := p) (who := who) (xs := xs) tb ll t0 h1 h2 u0 (by omega) he eb k (by omega) hk0
    have e1 : w64 ((k : Int) + 1) = k + 1 := w64_in (by omega) (by omega)
    have ew : ewd ta k = ta + 1 + k := ewd_eq ⟨by omega, by omega, by omega, by omega⟩
    have ph1 : (tnN tw ta p who xs e k).ph = 1 := if_neg (by omega)
    obtain ⟨A', m', r, q1, q2, q3⟩ := turnG_end (t := { tnN tw ta p who xs e k with word := (k : Int) + 1 }) (mm := tnN tw ta p who xs e k) (D := A.later (1 + k)) (B := A.later (2 + k)) (X.later (by omega)) (later_wf hwf _) wh rfl rfl ll (by show A.uses + _ ≤ _; omega) nd nr hh ⟨ll, fun _ => ⟨rfl, rfl⟩, fun h => by rw [ph1] at h; omega⟩ (by
        show Tn.step (tnN tw ta p who xs e k) (A.later (1 + k)) = _
        unfold Tn.step
        have et : (tnN tw ta p who xs e k).ta = ta := rfl
        have ee : (tnN tw ta p who xs e k).e = e := rfl
        have en : (tnN tw ta p who xs e k).word = k := rfl
        have er : (A.later (1 + k)).rawF (ta + 1 + k) = A.rawF (ta + 1 + k) := rfl
        rw [if_neg (by rw [ph1]; decide), if_pos ph1, et, ee, en, ew, e1, e3, er, if_pos hn, tick_later (A := A.later (1 + k)) ⟨by omega, by show ta + 1 + (k : Int) < (A.raw.length : Int); omega⟩ (by show 0 ≤ A.uses + _; omega) (by show A.uses + _ ≤ _; omega), later_add, show 1 + (k : Int) + 1 = 2 + k by omega]; rfl) (by
        show A.uses + (2 + k) ≤ w64 (A.uses + (1 + k) + 1)
        rw [w64_in (by omega) (by omega)]; omega)
    refine ⟨e, A.later (2 + k), A', m', _, pth.run r, ?_, q1, q2, ?_, q3⟩
    · have := hlen e
      show ((1 + k + (1 + 3 * (tgone e xs).length) : Nat) : Int) ≤ _; omega
    · refine ⟨X.later (by omega), later_wf hwf _, later_alike A _, rfl, rfl, rfl, rfl, fun i => ?_, ⟨by show A.uses + 1 ≤ A.uses + (2 + k); omega, by show A.uses + (2 + k) ≤ _; omega⟩, fun h => stF_slots rfl h, rfl, rfl, .inl rfl, fun h => ?_, fun h => by omega⟩
      · split
        · rename_i h; rw [h]; exact he
        · rfl
      · have := h k hk; rcases this with h' | h'
        · exact (hn.1 h').elim
        · exact (hn.2 h').elim
end
end Go.Proofs.Ytcjhakdopnamoaa

set_option linter.unusedVariables false
set_option linter.unusedSimpArgs false
set_option maxRecDepth 20000
namespace Go.Proofs.Ytcjhakdopnamoaa
open Go Go.Fw

/-! ### A guard by what it has; what a look does, alone -/

def gwords (ep : Bool) (w : Int) : Int := bif ep then 1 + w else 2 * w

/-- All that is retired. -/
def totR (ls : Int → List (Int × Int)) : Nat → Int
  | 0 => 0
  | n + 1 => totR ls n + szs ((ls (n : Int)).map Prod.fst)
theorem totR_nn (ls : Int → List (Int × Int)) : ∀ n, 0 ≤ totR ls n
  | 0 => Int.le_refl 0
  | n + 1 => by have := totR_nn ls n; have := szs_nn ((ls (n : Int)).map Prod.fst); show 0 ≤ totR ls n + _; omega
theorem totR_out {ls : Int → List (Int × Int)} {k : Int} {xs : List (Int × Int)} : ∀ {n : Nat}, (n : Int) ≤ k → totR (setL ls k xs) n = totR ls n
  | 0, _ => rfl
  | n + 1, h => by
    show totR (setL ls k xs) n + szs ((setL ls k xs (n : Int)).map Prod.fst) = totR ls n + _
    rw [totR_out (n := n) (by omega), setL_ne ls xs (show (n : Int) ≠ k by omega)]
theorem totR_set {ls : Int → List (Int × Int)} {k : Int} {xs : List (Int × Int)} (h0 : 0 ≤ k) : ∀ {n : Nat}, k < n → totR (setL ls k xs) n = totR ls n - szs ((ls k).map Prod.fst) + szs (xs.map Prod.fst)
  | 0, h => by omega
  | n + 1, h => by
    show totR (setL ls k xs) n + szs ((setL ls k xs (n : Int)).map Prod.fst) = totR ls n + szs ((ls (n : Int)).map Prod.fst) - _ + _
    by_cases e : (n : Int) = k
    · rw [totR_out (by omega), e, setL_same]; omega
    · rw [totR_set h0 (n := n) (by omega), setL_ne ls xs e]; omega
theorem totR_le {ls : Int → List (Int × Int)} {k : Int} (h0 : 0 ≤ k) : ∀ {n : Nat}, k < n → szs ((ls k).map Prod.fst) ≤ totR ls n
  | 0, h => by omega
  | n + 1, h => by
    have a := totR_nn ls n
    have b := szs_nn ((ls (n : Int)).map Prod.fst)
    show _ ≤ totR ls n + szs ((ls (n : Int)).map Prod.fst)
    by_cases e : (n : Int) = k
    · rw [e] at b ⊢; omega
    · have := totR_le (ls := ls) h0 (n := n) (by omega); omega
theorem setL_setL (f : Int → List (Int × Int)) (k : Int) (xs ys : List (Int × Int)) : setL (setL f k xs) k ys = setL f k ys := by
  funext i; unfold setL; split <;> rfl
structure GI (A : Ar) (g : Gd) (m : Int) (S : Sg) (l : Int → List (Int × Int)) : Prop where
  wf : A.wf
  sl : SL A g.pl g.w m S
  fa : A.fault = false
  ta : g.pl.carved < g.ta
  wb : 1 ≤ g.w ∧ g.w ≤ 100
  rl : g.ta + gwords g.ep g.w ≤ A.raw.length
  rb : (A.raw.length : Int) ≤ 1000000
  st : ∀ k x, x ∈ l k → A.stF x.1 = 2
  nd : ∀ k, ((l k).map Prod.fst).Nodup
  dj : ∀ k j x y, x ∈ l k → y ∈ l j → x.1 = y.1 → k = j
  rg : ∀ k, l k ≠ [] → 0 ≤ k ∧ k < g.w
  nR : A.nR = totR l g.w.toNat
  l0 : 0 ≤ A.nL
  nu : A.nL + A.nR ≤ 64 * A.uses
  ze : g.ep = false → ∀ k x, x ∈ l k → x.2 = 0
  eb : g.ep = true → 0 ≤ A.rawF g.ta ∧ A.rawF g.ta ≤ A.uses
  es : g.ep = true → ∀ k x, x ∈ l k → 0 ≤ x.2 ∧ x.2 ≤ A.rawF g.ta

/-- What a look leaves. -/
structure Lkd (A : Ar) (g : Gd) (m : Int) (S : Sg) (l : Int → List (Int × Int)) (k : Int) (keep : Int × Int → Bool) (hs : List Int) (t : Nat) (A' : Ar) : Prop where
  pm : hs.Perm (((l k).filter fun x => !keep x).map Prod.fst)
  wf : A'.wf
  al : Ar.Alike A A'
  wd : A'.words = A.words
  fa : A'.fault = A.fault
  fr : A'.fresh = A.fresh
  rl : A'.raw.length = A.raw.length
  sl : SL A' g.pl g.w m (frS k S hs)
  st : ∀ j, A'.stF j = if j ∈ hs then 0 else A.stF j
  nL : A'.nL = A.nL
  nR : A'.nR = A.nR - szs hs
  rw : ∀ i, g.pl.carved < i → i ≠ g.ta → A'.rawF i = A.rawF i
  us : A.uses ≤ A'.uses ∧ A'.uses ≤ A.uses + 202 * t + 3 * ((l k).length - ((l k).filter keep).length)
  ha : g.ep = false → A'.rawF g.ta = A.rawF g.ta ∧ ∀ x, keep x = true ↔ ∃ i : Nat, (i : Int) < 2 * g.w ∧ A.rawF (g.ta + i) = x.1
  ep : g.ep = true → A.rawF g.ta ≤ A'.rawF g.ta ∧ A'.rawF g.ta ≤ A.rawF g.ta + t ∧ A'.rawF g.ta ≤ A'.uses ∧ keep = fun x => !due (A'.rawF g.ta) x
  free : g.ep = true → (∀ i : Nat, (i : Int) < g.w → A.rawF (g.ta + 1 + i) = 0) → A'.rawF g.ta = A.rawF g.ta + t
  held : g.ep = true → ∀ (i : Nat) (v : Int), (i : Int) < g.w → A.rawF (g.ta + 1 + i) = v + 1 → 0 ≤ v → A.rawF g.ta ≤ v + 1 → A'.rawF g.ta ≤ v + 1

section
variable {A B C : Ar} {g : Gd} {m : Int} {S : Sg} {l : Int → List (Int × Int)} {k h : Int}

theorem len_keep (xs : List (Int × Int)) (q : Int × Int → Bool) : (xs.filter q).length + (xs.filter fun x => !q x).length = xs.length := by
  induction xs with
  | nil => rfl
  | cons x xs ih => rw [List.filter_cons, List.filter_cons]; cases q x <;> simp <;> omega

theorem Lkd.gone {keep : Int × Int → Bool} {hs : List Int} {t : Nat} (L : Lkd A g m S l k keep hs t B) {j : Int} : j ∈ hs ↔ ∃ x ∈ l k, keep x = false ∧ x.1 = j := by
  rw [L.pm.mem_iff, List.mem_map]
  constructor
  · rintro ⟨x, hx, e⟩
    obtain ⟨a, b⟩ := List.mem_filter.1 hx
    exact ⟨x, a, by simpa using b, e⟩
  · rintro ⟨x, a, b, e⟩
    exact ⟨x, List.mem_filter.2 ⟨a, by rw [b]; rfl⟩, e⟩

theorem nodup_inj {xs : List (Int × Int)} (h : (xs.map Prod.fst).Nodup) : ∀ {x y : Int × Int}, x ∈ xs → y ∈ xs → x.1 = y.1 → x = y := by
  induction xs with
  | nil => intro x y hx; cases hx
  | cons z xs ih =>
    intro x y hx hy e
    obtain ⟨n1, n2⟩ := List.nodup_cons.1 (show (z.1 :: xs.map Prod.fst).Nodup from h)
    rcases List.mem_cons.1 hx with e1 | hx <;> rcases List.mem_cons.1 hy with e2 | hy
    · rw [e1, e2]
    · exact (n1 (List.mem_map.2 ⟨y, hy, by rw [← e, e1]⟩)).elim
    · exact (n1 (List.mem_map.2 ⟨x, hx, by rw [e, e2]⟩)).elim
    · exact ih n2 hx hy e

/-- What stays is as it was. -/
theorem GI.lkd (X : GI A g m S l) {keep : Int × Int → Bool} {hs : List Int} {t : Nat} (kb : 0 ≤ k ∧ k < g.w) (L : Lkd A g m S l k keep hs t B) : GI B g m (frS k S hs) (setL l k ((l k).filter keep)) := by
  have us := L.us
  have mem : ∀ {j x}, x ∈ setL l k ((l k).filter keep) j → x ∈ l j ∧ (j = k → keep x = true) := fun {j x} hx => by
    by_cases e : j = k
    · rw [e, setL_same] at hx
      obtain ⟨a, b⟩ := List.mem_filter.1 hx
      exact ⟨by rw [e]; exact a, fun _ => b⟩
    · rw [setL_ne l _ e] at hx
      exact ⟨hx, fun h => (e h).elim⟩
  have hsz : szs ((l k).map Prod.fst) = szs (((l k).filter keep).map Prod.fst) + szs hs := by
    rw [szs_perm L.pm]
    have : ∀ xs : List (Int × Int), szs (xs.map Prod.fst) = szs ((xs.filter keep).map Prod.fst) + szs ((xs.filter fun x => !keep x).map Prod.fst) := fun xs => by
      induction xs with
      | nil => rfl
      | cons x xs ih =>
        rw [List.filter_cons, List.filter_cons]
        cases keep x with
        | true => show sizeF (opC x.1) + _ = (sizeF (opC x.1) + _) + _; simp only [Bool.not_true]; simp only [Bool.false_eq_true, if_false]; omega
        | false => show sizeF (opC x.1) + _ = _ + (sizeF (opC x.1) + _); simp only [Bool.false_eq_true, if_false]; omega
    exact this _
  have tR := X.nR
  refine ⟨L.wf, L.sl, L.fa.trans X.fa, X.ta, X.wb, by rw [L.rl]; exact X.rl, by rw [L.rl]; exact X.rb, fun j x hx => ?_, fun j => ?_, fun j i x y hx hy e => X.dj j i x y (mem hx).1 (mem hy).1 e, fun j hj => ?_, ?_, by rw [L.nL]; exact X.l0, ?_, fun he j x hx => X.ze he j x (mem hx).1, fun he => ?_, fun he j x hx => ?_⟩
  · obtain ⟨a, b⟩ := mem hx
    rw [L.st, if_neg fun hm => ?_]
    · exact X.st j x a
    · obtain ⟨y, y1, y2, y3⟩ := L.gone.1 hm
      have ej := X.dj j k x y a y1 y3.symm
      subst ej
      have := nodup_inj (X.nd j) y1 a y3
      rw [this, b rfl] at y2; cases y2
  · by_cases e : j = k
    · rw [e, setL_same]; exact ((List.filter_sublist (l := l k) (p := keep)).map Prod.fst).nodup (X.nd k)
    · rw [setL_ne l _ e]; exact X.nd j
  · by_cases e : j = k
    · rw [e]; exact kb
    · rw [setL_ne l _ e] at hj; exact X.rg j hj
  · rw [L.nR, tR, totR_set kb.1 (by omega)]; omega
  · have := szs_nn hs; have := X.nu; have := L.nL; have := L.nR; omega
  · obtain ⟨e1, e2, e3, _⟩ := L.ep he
    have := X.eb he; omega
  · obtain ⟨e1, e2, e3, _⟩ := L.ep he
    have := X.es he j x (mem hx).1; omega

/-- A handle is retired. -/
theorem GI.retire (X : GI A g m S l) (hu : A.uses ≤ 1000000000) (kb : 0 ≤ k ∧ k < g.w) (hs : A.stF h = 1) (hz : sizeF (opC h) ≤ A.nL) {s : Int} (hs0 : g.ep = false → s = 0) (hs1 : g.ep = true → 0 ≤ s ∧ s ≤ A.rawF g.ta) :
    GI (A.retireF h) g m S (setL l k (l k ++ [(h, s)])) ∧ (∀ j, (A.retireF h).stF j = if j = h then 2 else A.stF j) ∧ (A.retireF h).nL = A.nL - sizeF (opC h) ∧ Off 0 0 A (A.retireF h) := by
  have sz := sz_op h
  have us := X.sl.F.us
  have nu := X.nu
  have l0 := X.l0
  have r0 : 0 ≤ A.nR := by rw [X.nR]; exact totR_nn _ _
  obtain ⟨Y, yst, yL, yR⟩ := X.sl.retire hu hs ⟨by omega, by omega⟩
  have ro := Off.retireF (c := 0) X.wf h
  have ru := ro.us
  obtain ⟨p1, p2, p3, p4, p5⟩ := X.sl.places
  have wb := X.wb
  have mb := X.sl.mb
  have ta := X.ta
  have hta : (A.retireF h).rawF g.ta = A.rawF g.ta := ro.rw _ (by omega)
  have nh : ∀ j x, x ∈ l j → x.1 ≠ h := fun j x hx e => by have := X.st j x hx; rw [e, hs] at this; cases this
  have mem : ∀ {j x}, x ∈ setL l k (l k ++ [(h, s)]) j → x ∈ l j ∨ (j = k ∧ x = (h, s)) := fun {j x} hx => by
    by_cases e : j = k
    · rw [e, setL_same] at hx
      rcases List.mem_append.1 hx with hx | hx
      · exact .inl (by rw [e]; exact hx)
      · exact .inr ⟨e, by simpa using hx⟩
    · rw [setL_ne l _ e] at hx; exact .inl hx
  have tR := X.nR
  refine ⟨⟨ro.wf, Y, ro.fa.trans X.fa, X.ta, X.wb, by rw [ro.rl]; exact X.rl, by rw [ro.rl]; exact X.rb, fun j x hx => ?_, fun j => ?_, fun j i x y hx hy e => ?_, fun j hj => ?_, ?_, ?_, ?_, fun he j x hx => ?_, fun he => ?_, fun he j x hx => ?_⟩, yst, yL, ro⟩
  · rw [yst]
    rcases mem hx with hx | ⟨_, rfl⟩
    · rw [if_neg (nh j x hx)]; exact X.st j x hx
    · rw [if_pos rfl]
  · by_cases e : j = k
    · rw [e, setL_same, List.map_append]
      refine List.nodup_append.2 ⟨X.nd k, by simp, fun a ha b hb e => ?_⟩
      obtain ⟨x, hx, rfl⟩ := List.mem_map.1 ha
      have hb : b = h := by simpa using hb
      exact nh k x hx (e.trans hb)
    · rw [setL_ne l _ e]; exact X.nd j
  · rcases mem hx with hx | ⟨ej, rfl⟩ <;> rcases mem hy with hy | ⟨ei, rfl⟩
    · exact X.dj j i x y hx hy e
    · exact (nh j x hx e).elim
    · exact (nh i y hy e.symm).elim
    · omega
  · by_cases e : j = k
    · rw [e]; exact kb
    · rw [setL_ne l _ e] at hj; exact X.rg j hj
  · rw [yR, tR, totR_set kb.1 (by omega), List.map_append, szs_append]
    show _ = _ + (_ + (sizeF (opC h) + 0)); omega
  · omega
  · omega
  · rcases mem hx with hx | ⟨_, rfl⟩
    · exact X.ze he j x hx
    · exact hs0 he
  · have := X.eb he; rw [hta, ru]; omega
  · rw [hta]
    rcases mem hx with hx | ⟨_, rfl⟩
    · exact X.es he j x hx
    · exact hs1 he

/-! ### Runs of look -/
variable {q mq : Nat}

theorem tn_lift {n : Nat} {u u' : Tn} {ls : Int → List (Int × Int)} {work T : Int} (hl : (ls work).length ≤ 1000) (wb : 1 ≤ g.w ∧ g.w ≤ 1000) (h : mTn.Runs n u A u' B) (hm : u.left.length ≤ 1000) :
    (T = 0 → (mLk q mq).Runs n ⟨g, ls, work, false, T, .tn u⟩ A (Lk.end_ ⟨g, ls, work, false, T, .tn u'⟩) B) ∧ (T ≠ 0 → (mLk q mq).Path n ⟨g, ls, work, false, T, .tn u⟩ A (Lk.end_ ⟨g, ls, work, false, T, .tn u'⟩) B) := by
  have st : ∀ (m : Tn) (A : Ar) (m1 : Tn) (A1 : Ar), mTn.step m A = (m1, A1) → Lk.step ⟨g, ls, work, false, T, .tn m⟩ A = (if decide (4 ≤ m1.ph) = true then Lk.end_ ⟨g, ls, work, false, T, .tn m1⟩ else ⟨g, ls, work, false, T, .tn m1⟩, A1) := fun m A m1 A1 h => by
    have h : m.step A = (m1, A1) := h
    show (if decide (4 ≤ (m.step A).1.ph) = true then Lk.end_ ⟨g, ls, work, false, T, .tn (m.step A).1⟩ else ⟨g, ls, work, false, T, .tn (m.step A).1⟩, (m.step A).2) = _
    rw [h]
  induction h with
  | @one m A m1 A1 hi hst hu hf =>
    have hf : decide (4 ≤ m1.ph) = true := hf
    have s1 : (mLk q mq).step ⟨g, ls, work, false, T, .tn m⟩ A = (Lk.end_ ⟨g, ls, work, false, T, .tn m1⟩, A1) := (st m A m1 A1 hst).trans (by rw [if_pos hf])
    refine ⟨fun e => .one ⟨hl, fun h => (by cases h), wb, ⟨hi, hm⟩⟩ s1 hu ?_, fun e => .cons ⟨hl, fun h => (by cases h), wb, ⟨hi, hm⟩⟩ s1 hu ?_ .nil⟩
    · show (T == 0) = true; rw [e]; rfl
    · show (T == 0) = false; simpa using e
  | @more n m A m1 A1 m' A' hi hst hu hf hr ih =>
    have hf : decide (4 ≤ m1.ph) = false := hf
    have hl1 : m1.left.length ≤ 1000 := by
      have := m.left_step A hi.ll hm
      have h : m.step A = (m1, A1) := hst
      rwa [h] at this
    have s1 : (mLk q mq).step ⟨g, ls, work, false, T, .tn m⟩ A = (⟨g, ls, work, false, T, .tn m1⟩, A1) := (st m A m1 A1 hst).trans (by rw [if_neg (by rw [hf]; decide)])
    obtain ⟨i1, i2⟩ := ih hl1
    exact ⟨fun e => .more (x1 := ⟨g, ls, work, false, T, .tn m1⟩) ⟨hl, fun h => (by cases h), wb, ⟨hi, hm⟩⟩ s1 hu rfl (i1 e), fun e => .cons (x1 := ⟨g, ls, work, false, T, .tn m1⟩) ⟨hl, fun h => (by cases h), wb, ⟨hi, hm⟩⟩ s1 hu rfl (i2 e)⟩

theorem sc_lift' {n : Nat} {u u' : Sc} {ls : Int → List (Int × Int)} {work : Int} (hl : (ls work).length ≤ 1000) (wb : 1 ≤ g.w ∧ g.w ≤ 1000) (h : mSc.Runs n u A u' B) (hm : u.left.length ≤ 1000) :
    (mLk q mq).Runs n ⟨g, ls, work, false, 0, .sc u⟩ A (Lk.end_ ⟨g, ls, work, false, 0, .sc u'⟩) B := by
  have st : ∀ (m : Sc) (A : Ar) (m1 : Sc) (A1 : Ar), mSc.step m A = (m1, A1) → Lk.step ⟨g, ls, work, false, 0, .sc m⟩ A = (if m1.ended = true then Lk.end_ ⟨g, ls, work, false, 0, .sc m1⟩ else ⟨g, ls, work, false, 0, .sc m1⟩, A1) := fun m A m1 A1 h => by
    have h : m.step A = (m1, A1) := h
    show (if (m.step A).1.ended = true then Lk.end_ ⟨g, ls, work, false, 0, .sc (m.step A).1⟩ else ⟨g, ls, work, false, 0, .sc (m.step A).1⟩, (m.step A).2) = _
    rw [h]
  induction h with
  | @one m A m1 A1 hi hst hu hf =>
    have hf : m1.ended = true := hf
    refine .one ⟨hl, fun h => (by cases h), wb, ⟨hi, hm⟩⟩ ?_ hu rfl
    exact (st m A m1 A1 hst).trans (by rw [if_pos hf])
  | @more n m A m1 A1 m' A' hi hst hu hf hr ih =>
    have hf : m1.ended = false := hf
    have hl1 : m1.left.length ≤ 1000 := by
      have := m.left_step A hi.ll hm
      have h : m.step A = (m1, A1) := hst
      rwa [h] at this
    refine .more (x1 := ⟨g, ls, work, false, 0, .sc m1⟩) ⟨hl, fun h => (by cases h), wb, ⟨hi, hm⟩⟩ ?_ hu rfl (ih hl1)
    exact (st m A m1 A1 hst).trans (by rw [if_neg (by rw [hf]; decide)])

theorem no_runs {n : Nat} {ls : Int → List (Int × Int)} {work t : Int} {z : Lk} (ht : 0 < t) (h : (mLk q mq).Runs n (Lk.begin ⟨g, ls, work, false, t, .no⟩) A z B) : (mLk q mq).Runs n ⟨g, ls, work, false, t, .no⟩ A z B := by
  have e1 : (mLk q mq).step ⟨g, ls, work, false, t, .no⟩ A = (mLk q mq).step (Lk.begin ⟨g, ls, work, false, t, .no⟩) A := by
    show (if 0 < t then Lk.begin ⟨g, ls, work, false, t, .no⟩ else ⟨g, ls, work, false, t, .no⟩ : Lk).mid A = (Lk.go (Lk.begin ⟨g, ls, work, false, t, .no⟩)).mid A
    rw [if_pos ht]
    have : Lk.go (Lk.begin ⟨g, ls, work, false, t, .no⟩) = Lk.begin ⟨g, ls, work, false, t, .no⟩ := by
      unfold Lk.begin Lk.go
      dsimp only
      split <;> rename_i hh <;> revert hh <;> split <;> simp
    rw [this]
  have iv : (mLk q mq).inv (Lk.begin ⟨g, ls, work, false, t, .no⟩) A → (mLk q mq).inv ⟨g, ls, work, false, t, .no⟩ A := fun hi => ⟨hi.ll, fun h => (by cases h), hi.wb, trivial⟩
  generalize hb : Lk.begin ⟨g, ls, work, false, t, .no⟩ = b at *
  cases h with
  | one hi hst hu hf => exact .one (iv hi) (e1.trans hst) hu hf
  | more hi hst hu hf hr => exact .more (iv hi) (e1.trans hst) hu hf hr
end
end Go.Proofs.Ytcjhakdopnamoaa

set_option linter.unusedVariables false
set_option linter.unusedSimpArgs false
set_option maxRecDepth 20000
namespace Go.Proofs.Ytcjhakdopnamoaa
open Go Go.Fw

section
variable {A B C : Ar} {g : Gd} {m : Int} {S : Sg} {l : Int → List (Int × Int)} {k h : Int} {q mq : Nat}

theorem GI.u0 (X : GI A g m S l) : 0 ≤ A.uses := X.sl.F.us
theorem GI.r0 (X : GI A g m S l) : 0 ≤ A.nR := by rw [X.nR]; exact totR_nn _ _
theorem GI.c0 (X : GI A g m S l) : 0 ≤ g.pl.carved := by
  obtain ⟨p1, p2, p3, p4, p5⟩ := X.sl.places
  have := X.wb; have := X.sl.mb; omega

theorem GI.later (X : GI A g m S l) {n : Int} (hn : 0 ≤ n) : GI (A.later n) g m S l :=
  ⟨later_wf X.wf n, X.sl.later hn, X.fa, X.ta, X.wb, X.rl, X.rb, fun k x hx => by rw [stF_slots (B := A.later n) (A := A) rfl]; exact X.st k x hx, X.nd, X.dj, X.rg, X.nR, X.l0, by have := X.nu; show A.nL + A.nR ≤ 64 * (A.uses + n); omega, X.ze,
    fun he => by have := X.eb he; show 0 ≤ A.rawF g.ta ∧ A.rawF g.ta ≤ A.uses + n; omega, X.es⟩

/-- A word that is no part of the slab, nor the global epoch. -/
theorem GI.out (X : GI A g m S l) {i v : Int} (O : OutS A g.pl g.w m S i v B) (hw : B.wf) (hi : g.ep = true → i ≠ g.ta) : GI B g m S l :=
  ⟨hw, O.sl, O.fa.trans X.fa, X.ta, X.wb, by rw [O.rl]; exact X.rl, by rw [O.rl]; exact X.rb, fun k x hx => by rw [O.st]; exact X.st k x hx, X.nd, X.dj, X.rg, O.nR.trans X.nR, by rw [O.nL]; exact X.l0, by have := X.nu; have := O.nL; have := O.nR; have := O.us; omega, X.ze,
    fun he => by have := X.eb he; have := O.us; have r := O.rf g.ta; rw [if_neg (fun e => hi he e.symm)] at r; omega, fun he => by have r := O.rf g.ta; rw [if_neg (fun e => hi he e.symm)] at r; rw [r]; exact X.es he⟩

theorem GI.alloc {who c : Int} {n : Nat} {x : Al} {S' : Sg} (X : GI A g m S l) (hc : 0 ≤ c ∧ c < 4) (Z : Alloced A g.pl g.w m S who c n x B S') : GI B g m S' l := by
  have off := Z.off
  have us := off.us
  have sz := sz_pos hc.1 hc.2
  have n1 : 1 ≤ n := by
    have := Z.run
    cases this <;> omega
  have hta : B.rawF g.ta = A.rawF g.ta := off.rw _ X.ta
  have nL := Z.nL
  have nL2 : A.nL ≤ B.nL ∧ B.nL ≤ A.nL + 64 := by rw [nL]; split <;> omega
  refine ⟨off.wf, Z.sl, off.fa.trans X.fa, X.ta, X.wb, by rw [off.rl]; exact X.rl, by rw [off.rl]; exact X.rb, fun k y hy => ?_, X.nd, X.dj, X.rg, Z.nR.trans X.nR, by have := X.l0; omega, by have := X.nu; have := Z.nR; omega, X.ze, fun he => ?_, fun he => by rw [hta]; exact X.es he⟩
  · have h2 := X.st k y hy
    rw [Z.st, if_neg fun e => ?_]
    · exact h2
    · have := (Z.hd e.1).2.2
      rw [← e.2, h2] at this; cases this
  · have := X.eb he; rw [hta]; omega

theorem filt_perm (p r : Int × Int → Bool) (hp : ∀ x, p x = false → r x = false) : ∀ xs : List (Int × Int), ((xs.filter fun x => !p x) ++ ((xs.filter p).filter fun x => !r x)).Perm (xs.filter fun x => !r x)
  | [] => .nil
  | x :: xs => by
    have ih := filt_perm p r hp xs
    cases hx : p x with
    | false =>
      have hr := hp x hx
      simp only [List.filter_cons, hx, hr, Bool.not_false, if_true, Bool.false_eq_true, if_false, List.cons_append]
      exact ih.cons x
    | true =>
      cases hr : r x with
      | true => simpa only [List.filter_cons, hx, hr, Bool.not_true, if_true, Bool.false_eq_true, if_false] using ih
      | false =>
        simp only [List.filter_cons, hx, hr, Bool.not_true, Bool.not_false, if_true, Bool.false_eq_true, if_false]
        exact List.perm_middle.trans (ih.cons x)
theorem filt_filt (p r : Int × Int → Bool) (hp : ∀ x, p x = false → r x = false) (xs : List (Int × Int)) : (xs.filter p).filter r = xs.filter r := by
  rw [List.filter_filter]
  refine List.filter_congr fun x _ => ?_
  cases hx : p x with
  | true => simp
  | false => rw [hp x hx]; rfl

theorem due_mono {e1 e2 : Int} (h : e1 ≤ e2) {x : Int × Int} (hd : due e1 x = true) : due e2 x = true := by
  unfold due at *
  have := of_decide_eq_true hd
  exact decide_eq_true (by omega)

theorem Lkd.comp {e1 : Int} {keep2 : Int × Int → Bool} {hs1 hs2 : List Int} {t : Nat} (he : g.ep = true) (hta : g.pl.carved < g.ta) (L1 : Lkd A g m S l k (fun x => !due e1 x) hs1 1 B)
    (L2 : Lkd B g m (frS k S hs1) (setL l k ((l k).filter fun x => !due e1 x)) k keep2 hs2 t C) (h1 : B.rawF g.ta = e1) : Lkd A g m S l k keep2 (hs1 ++ hs2) (t + 1) C ∧ ((l k).filter fun x => !due e1 x).filter keep2 = (l k).filter keep2 := by
  obtain ⟨a1, a2, a3, a4⟩ := L1.ep he
  obtain ⟨b1, b2, b3, b4⟩ := L2.ep he
  have hk : ∀ x, (fun x => !due e1 x) x = false → keep2 x = false := fun x hx => by
    rw [b4]
    have h1' : due e1 x = true := by simpa using hx
    show (!due _ x) = false
    rw [due_mono (by omega) h1']; rfl
  have ff := filt_filt _ _ hk (l k)
  have pm2 := L2.pm
  have u2 := L2.us
  have u1 := L1.us
  rw [setL_same] at pm2 u2
  rw [ff] at u2
  refine ⟨⟨?_, L2.wf, L1.al.trans L2.al, L2.wd.trans L1.wd, L2.fa.trans L1.fa, L2.fr.trans L1.fr, L2.rl.trans L1.rl, by rw [frS_append]; exact L2.sl, fun j => ?_, L2.nL.trans L1.nL, by rw [L2.nR, L1.nR, szs_append]; omega, fun i hi hn => (L2.rw i hi hn).trans (L1.rw i hi hn), ?_, fun h => (by rw [he] at h; cases h), fun _ => ⟨by omega, by omega, b3, b4⟩, fun _ hw => ?_, fun _ i v hi hv v0 hva => ?_⟩, ff⟩
  · have h4 := (filt_perm _ _ hk (l k)).map Prod.fst
    rw [List.map_append] at h4
    exact (L1.pm.append pm2).trans h4
  · rw [L2.st, L1.st]
    by_cases e1 : j ∈ hs2
    · rw [if_pos e1, if_pos (List.mem_append_right _ e1)]
    · rw [if_neg e1]
      by_cases e2 : j ∈ hs1
      · rw [if_pos e2, if_pos (List.mem_append_left _ e2)]
      · rw [if_neg e2, if_neg (fun h => (List.mem_append.1 h).elim e2 e1)]
  · refine ⟨by omega, ?_⟩
    have e1 : ((t + 1 : Nat) : Int) = t + 1 := by omega
    rw [e1]; omega
  · have f1 := L1.free he hw
    have f2 := L2.free he fun i hi => by rw [L1.rw _ (by omega) (by omega)]; exact hw i hi
    have e1 : ((t + 1 : Nat) : Int) = t + 1 := by omega
    rw [e1]; omega
  · refine L2.held he i v hi ?_ v0 (L1.held he i v hi hv v0 hva)
    rw [L1.rw _ (by omega) (by omega)]; exact hv

/-- One turn. -/
theorem turn1 (X : GI A g m S l) (he : g.ep = true) (kb : 0 ≤ k ∧ k < g.w) (ll : (l k).length ≤ 200) (hu : A.uses ≤ 700000) :
    ∃ e1 A' m' n, mTn.Runs n (newTn g.w g.ta g.pl k (l k)) A m' A' ∧ n ≤ 800 ∧ m'.left = tleft e1 (l k) ∧ A'.rawF g.ta = e1 ∧ Lkd A g m S l k (fun x => !due e1 x) (tgone e1 (l k)) 1 A' := by
  have wb := X.wb
  have c0 := X.c0
  have ta := X.ta
  have rl := X.rl
  rw [he] at rl
  have rl : g.ta + (1 + g.w) ≤ A.raw.length := rl
  have u0 := X.u0
  have eb := X.eb he
  have hle := totR_le (ls := l) kb.1 (n := g.w.toNat) (by omega)
  obtain ⟨e1, B, A', m', n, run, hn, ml, mp, T, W⟩ := turnG (xs := l k) (tw := g.w) (ta := g.ta) (who := k) (e := A.rawF g.ta) X.sl X.wf ⟨by omega, by omega⟩ (by omega) ta (by omega) X.rb (by omega) rfl ⟨by omega, by omega⟩ kb (X.nd k) (by rw [X.nR]; exact hle) fun x hx => X.st k x hx
  have off := W.off
  have us := off.us
  have tu := T.us
  have hta : A'.rawF g.ta = e1 := by rw [off.rw _ ta, T.rw, if_pos rfl]
  have lk := len_keep (l k) fun x => !due e1 x
  have ed : ((l k).filter fun x => !!due e1 x) = (l k).filter (due e1) := List.filter_congr fun x _ => by simp
  rw [ed] at lk
  have lg : (tgone e1 (l k)).length = ((l k).filter (due e1)).length := by unfold tgone; rw [List.length_map]
  have ei := T.ei
  refine ⟨e1, A', m', n, run, by omega, ml, hta, ⟨by rw [ed]; exact .refl _, off.wf, T.al.trans off.al, off.wd.trans T.wd, off.fa.trans T.fa, off.fr.trans T.fr, off.rl.trans T.rl, W.sl, fun j => by rw [W.st, T.st], W.nL.trans T.nL, by rw [W.nR, T.nR], fun i hi hn => by rw [off.rw i hi, T.rw, if_neg hn], ⟨by omega, by omega⟩, fun h => (by rw [he] at h; cases h), fun _ => ⟨by omega, by omega, by omega, by rw [hta]⟩, fun _ hw => ?_, fun _ i v hi hv v0 hva => ?_⟩⟩
  · rw [hta, T.up fun i hi => .inl (hw i hi)]; rfl
  · rw [hta]
    rcases ei with h | h
    · omega
    · rcases T.dn h i hi with h2 | h2 <;> omega

/-- A look by hazards. -/
theorem haz_look (X : GI A g m S l) (he : g.ep = false) (kb : 0 ≤ k ∧ k < g.w) (ll : (l k).length ≤ 200) (hu : A.uses ≤ 700000) :
    ∃ keep hs n A', (mLk q mq).Runs n (Lk.begin ⟨g, l, k, false, 1, .no⟩) A ⟨g, setL l k ((l k).filter keep), k, false, 0, .no⟩ A' ∧ n ≤ 800 ∧ Lkd A g m S l k keep hs 1 A' := by
  have wb := X.wb
  have c0 := X.c0
  have ta := X.ta
  have rl := X.rl
  rw [he] at rl
  have rl : g.ta + 2 * g.w ≤ A.raw.length := rl
  have u0 := X.u0
  have hle := totR_le (ls := l) kb.1 (n := g.w.toNat) (by omega)
  obtain ⟨A', m', n, run, en, ml, me, W⟩ := scanG (xs := (l k).map Prod.fst) (tw := g.w) (ta := g.ta) (who := k) X.sl X.wf ⟨by omega, by omega⟩ (by rw [List.length_map]; omega) (by omega) rl X.rb (by omega) kb (X.nd k) (by rw [X.nR]; exact hle) fun h hh => by
    obtain ⟨x, hx, rfl⟩ := List.mem_map.1 hh
    exact X.st k x hx
  obtain ⟨keep, hk⟩ : ∃ keep : Int × Int → Bool, keep = fun x => inS (seenN A g.ta (2 * g.w).toNat) x.1 := ⟨_, rfl⟩
  have eg : gone A g.w g.ta ((l k).map Prod.fst) = ((l k).filter fun x => !keep x).map Prod.fst := by
    unfold gone; rw [List.filter_map, hk]; rfl
  have el : lft A g.w g.ta ((l k).map Prod.fst) = ((l k).filter keep).map Prod.fst := by
    unfold lft; rw [List.filter_map, hk]; rfl
  have lk := len_keep (l k) keep
  have lg : (gone A g.w g.ta ((l k).map Prod.fst)).length + ((l k).filter keep).length = (l k).length := by rw [eg, List.length_map]; omega
  have off := W.off
  have us := off.us
  have us2 : (A.later (2 * g.w)).uses = A.uses + 2 * g.w := rfl
  have lift := sc_lift' (g := g) (q := q) (mq := mq) (ls := l) (work := k) (by omega) ⟨by omega, by omega⟩ run (Nat.zero_le 1000)
  have eend : Lk.end_ ⟨g, l, k, false, 0, .sc m'⟩ = ⟨g, setL l k ((l k).filter keep), k, false, 0, .no⟩ := by
    show Lk.mk g (setL l k (m'.left.map fun h => (h, (0 : Int)))) k false 0 .no = _
    rw [ml, el, List.map_map]
    have : ∀ xs : List (Int × Int), (∀ x ∈ xs, x.2 = 0) → xs.map ((fun h => (h, (0 : Int))) ∘ Prod.fst) = xs := fun xs hx => by
      induction xs with
      | nil => rfl
      | cons x xs ih =>
        rw [List.map_cons, ih fun y hy => hx y (List.mem_cons_of_mem _ hy)]
        have := hx x List.mem_cons_self
        obtain ⟨a, b⟩ := x
        have this : b = 0 := this
        rw [this]; rfl
    rw [this _ fun x hx => X.ze he k x (List.mem_filter.1 hx).1]
  rw [eend] at lift
  have ebeg : Lk.begin ⟨g, l, k, false, 1, .no⟩ = ⟨g, l, k, false, 0, .sc (newSc g.w g.ta g.pl k ((l k).map Prod.fst))⟩ := by
    unfold Lk.begin
    rw [if_neg (by show ¬ g.ep = true; rw [he]; decide)]
    rfl
  rw [ebeg]
  refine ⟨keep, _, n, A', lift, by omega, ⟨by rw [eg], off.wf, (later_alike A _).trans off.al, off.wd, off.fa, off.fr, off.rl, W.sl, W.st, W.nL, W.nR, fun i hi _ => off.rw i hi, ⟨by omega, by omega⟩, fun _ => ⟨off.rw _ ta, fun x => ?_⟩, fun h => (by rw [he] at h; cases h), fun h => (by rw [he] at h; cases h), fun h => (by rw [he] at h; cases h)⟩⟩
  rw [hk]
  refine (seenN_in A g.ta x.1 _).trans ⟨?_, ?_⟩
  · rintro ⟨i, a, b⟩; exact ⟨i, by omega, b⟩
  · rintro ⟨i, a, b⟩; exact ⟨i, by omega, b⟩

/-- Looks by epochs. -/
theorem ep_look (he : g.ep = true) (kb : 0 ≤ k ∧ k < g.w) : ∀ (t : Nat) (A : Ar) (S : Sg) (l : Int → List (Int × Int)), GI A g m S l → t ≤ 2 → (l k).length ≤ 200 → A.uses + 1000 * t ≤ 700000 →
    ∃ keep hs n A', (mLk q mq).Runs n (Lk.begin ⟨g, l, k, false, ((t + 1 : Nat) : Int), .no⟩) A ⟨g, setL l k ((l k).filter keep), k, false, 0, .no⟩ A' ∧ n ≤ 800 * (t + 1) ∧ Lkd A g m S l k keep hs (t + 1) A' := by
  intro t
  induction t with
  | zero =>
    intro A S l X ht ll hu
    obtain ⟨e1, A', m', n, run, hn, ml, mp, L⟩ := turn1 X he kb ll (by omega)
    obtain ⟨i1, _⟩ := tn_lift (g := g) (q := q) (mq := mq) (ls := l) (work := k) (T := 0) (by omega) ⟨by have := X.wb; omega, by have := X.wb; omega⟩ run (Nat.zero_le 1000)
    refine ⟨_, _, n, A', ?_, by omega, L⟩
    have eb : Lk.begin ⟨g, l, k, false, ((0 + 1 : Nat) : Int), .no⟩ = ⟨g, l, k, false, 0, .tn (newTn g.w g.ta g.pl k (l k))⟩ := by
      unfold Lk.begin
      rw [if_pos (show (Lk.mk g l k false ((0 + 1 : Nat) : Int) .no).g.ep = true from he)]; rfl
    rw [eb]
    have := i1 rfl
    rw [show Lk.end_ ⟨g, l, k, false, 0, .tn m'⟩ = ⟨g, setL l k m'.left, k, false, 0, .no⟩ from rfl, ml] at this
    exact this
  | succ t ih =>
    intro A S l X ht ll hu
    obtain ⟨e1, A1, m', n, run, hn, ml, mp, L⟩ := turn1 X he kb ll (by omega)
    have wb := X.wb
    obtain ⟨_, i2⟩ := tn_lift (g := g) (q := q) (mq := mq) (ls := l) (work := k) (T := ((t + 1 : Nat) : Int)) (by omega) ⟨by omega, by omega⟩ run (Nat.zero_le 1000)
    have eb : Lk.begin ⟨g, l, k, false, ((t + 1 + 1 : Nat) : Int), .no⟩ = ⟨g, l, k, false, ((t + 1 : Nat) : Int), .tn (newTn g.w g.ta g.pl k (l k))⟩ := by
      unfold Lk.begin
      rw [if_pos (show (Lk.mk g l k false ((t + 1 + 1 : Nat) : Int) .no).g.ep = true from he)]
      have : w64 (((t + 1 + 1 : Nat) : Int) - 1) = ((t + 1 : Nat) : Int) := by rw [w64_in (by omega) (by omega)]; omega
      show Lk.mk g l k false (w64 (((t + 1 + 1 : Nat) : Int) - 1)) _ = _
      rw [this]
    have pth := i2 (by omega)
    rw [show Lk.end_ ⟨g, l, k, false, ((t + 1 : Nat) : Int), .tn m'⟩ = ⟨g, setL l k m'.left, k, false, ((t + 1 : Nat) : Int), .no⟩ from rfl, ml] at pth
    have X1 := X.lkd kb L
    have us1 := L.us
    have lk := len_keep (l k) fun x => !due e1 x
    obtain ⟨keep, hs2, n2, A2, r2, hn2, L2⟩ := ih A1 _ _ X1 (by omega) (by rw [setL_same]; omega) (by omega)
    obtain ⟨Lc, fc⟩ := Lkd.comp he X.ta L L2 mp
    refine ⟨keep, _, n + n2, A2, ?_, by omega, Lc⟩
    rw [eb]
    have r3 := pth.run (no_runs (by omega) r2)
    rw [setL_same, setL_setL, fc] at r3
    exact r3
end
end Go.Proofs.Ytcjhakdopnamoaa

set_option linter.unusedVariables false
set_option linter.unusedSimpArgs false
set_option maxRecDepth 20000
namespace Go.Proofs.Ytcjhakdopnamoaa
open Go Go.Fw

/-- How a machine of the guard, or none, goes to its end. -/
def RunO (q mq : Nat) (o : Option Lk) (g : Gd) (k : Int) (A : Ar) (l0 l' : Int → List (Int × Int)) (A' : Ar) : Prop := match o with
  | none => A' = A ∧ l' = l0
  | some x => ∃ n, n ≤ 2500 ∧ (mLk q mq).Runs n x A ⟨g, l', k, false, 0, .no⟩ A'

/-- Retired; perhaps the epoch was read. -/
structure Ret1 (A : Ar) (h : Int) (A1 : Ar) : Prop where
  al : Ar.Alike A A1
  wd : A1.words = A.words
  fa : A1.fault = A.fault
  fr : A1.fresh = A.fresh
  rl : A1.raw.length = A.raw.length
  rw : ∀ i, 0 < i → A1.rawF i = A.rawF i
  st : ∀ j, A1.stF j = if j = h then 2 else A.stF j
  nL : A1.nL = A.nL - sizeF (opC h)
  us : A.uses ≤ A1.uses ∧ A1.uses ≤ A.uses + 1

def sinceF (g : Gd) (A : Ar) : Int := if g.ep = true then A.rawF g.ta else 0

section
variable {A B C : Ar} {g : Gd} {m : Int} {S : Sg} {l : Int → List (Int × Int)} {k h : Int} {q mq : Nat}

theorem GI.look (X : GI A g m S l) (kb : 0 ≤ k ∧ k < g.w) (ll : (l k).length ≤ 200) (hu : A.uses ≤ 690000) {t : Nat} (h1 : 1 ≤ t) (h3 : t ≤ 3) (ht : g.ep = false → t = 1) :
    ∃ keep hs n A', (mLk q mq).Runs n (Lk.begin ⟨g, l, k, false, (t : Int), .no⟩) A ⟨g, setL l k ((l k).filter keep), k, false, 0, .no⟩ A' ∧ n ≤ 800 * t ∧ Lkd A g m S l k keep hs t A' := by
  cases he : g.ep with
  | false =>
    obtain rfl := ht he
    obtain ⟨keep, hs, n, A', r, hn, L⟩ := haz_look (q := q) (mq := mq) X he kb ll (by omega)
    exact ⟨keep, hs, n, A', r, hn, L⟩
  | true =>
    obtain ⟨t', rfl⟩ : ∃ t', t = t' + 1 := ⟨t - 1, by omega⟩
    exact ep_look (q := q) (mq := mq) he kb t' A S l X (by omega) ll (by omega)

theorem setLast_app (xs : List (Int × Int)) (h s v : Int) : setLast (xs ++ [(h, s)]) v = xs ++ [(h, v)] := by
  unfold setLast
  simp [List.getD]

/-- Retire, to its end. -/
theorem GI.retire_run (X : GI A g m S l) (hu : A.uses ≤ 680000) (kb : 0 ≤ k ∧ k < g.w) (hs : A.stF h = 1) (hz : sizeF (opC h) ≤ A.nL) (ll : (l k).length ≤ 190) (th : 1 ≤ g.th) :
    ∃ A1 A' l' S', Ret1 A h A1 ∧ GI A1 g m S (setL l k (l k ++ [(h, sinceF g A)])) ∧ GI A' g m S' l' ∧ RunO q mq (retM g l k h) g k (A.retireF h) (setL l k (l k ++ [(h, 0)])) l' A' ∧
      ((((l k).length : Int) + 1 < g.th ∧ A' = A1 ∧ S' = S ∧ l' = setL l k (l k ++ [(h, sinceF g A)])) ∨
       (g.th ≤ ((l k).length : Int) + 1 ∧ ∃ keep gs, Lkd A1 g m S (setL l k (l k ++ [(h, sinceF g A)])) k keep gs 1 A' ∧ S' = frS k S gs ∧ l' = setL l k ((l k ++ [(h, sinceF g A)]).filter keep))) := by
  have wb := X.wb
  have u0 := X.u0
  have c0 := X.c0
  have ta := X.ta
  have rl := X.rl
  cases he : g.ep with
  | false =>
    have es : sinceF g A = 0 := by unfold sinceF; rw [if_neg (by rw [he]; decide)]
    rw [es]
    obtain ⟨Y, yst, yL, ro⟩ := X.retire (by omega) kb hs hz (s := 0) (fun _ => rfl) (fun h => (by rw [he] at h; cases h))
    have ru := ro.us
    have R1 : Ret1 A h (A.retireF h) := ⟨ro.al, ro.wd, ro.fa, ro.fr, ro.rl, ro.rw, yst, yL, ⟨by omega, by omega⟩⟩
    by_cases ht : g.th ≤ ((l k).length : Int) + 1
    · have hm : retM g l k h = some (retLk g l k h).begin := by unfold retM; rw [if_neg (by rw [he]; decide), if_pos ht]
      have hb : retLk g l k h = ⟨g, setL l k (l k ++ [(h, 0)]), k, false, 1, .no⟩ := by unfold retLk; rw [he, if_pos ht]
      obtain ⟨keep, gs, n, A', r, hn, L⟩ := Y.look (q := q) (mq := mq) kb (by rw [setL_same]; simp; omega) (by omega) (t := 1) (by decide) (by decide) (fun _ => rfl)
      rw [hm, hb]
      rw [setL_same, setL_setL] at r
      have Y2 := Y.lkd kb L
      rw [setL_same, setL_setL] at Y2
      exact ⟨_, A', _, _, R1, Y, Y2, ⟨n, by omega, r⟩, .inr ⟨ht, keep, gs, L, rfl, rfl⟩⟩
    · have hm : retM g l k h = none := by unfold retM; rw [if_neg (by rw [he]; decide), if_neg ht]
      rw [hm]
      exact ⟨_, _, _, S, R1, Y, Y, ⟨rfl, rfl⟩, .inl ⟨by omega, rfl, rfl, rfl⟩⟩
  | true =>
    rw [he] at rl
    have rl : g.ta + (1 + g.w) ≤ A.raw.length := rl
    have eb := X.eb he
    have es : sinceF g A = A.rawF g.ta := by unfold sinceF; rw [if_pos he]
    rw [es]
    obtain ⟨Y0, yst, yL, ro⟩ := X.retire (by omega) kb hs hz (s := A.rawF g.ta) (fun h => (by rw [he] at h; cases h)) (fun _ => ⟨eb.1, Int.le_refl _⟩)
    have ru := ro.us
    have Y := Y0.later (n := 1) (by decide)
    have R1 : Ret1 A h ((A.retireF h).later 1) := ⟨ro.al.trans (later_alike _ _), ro.wd, ro.fa, ro.fr, ro.rl, ro.rw, fun j => (stF_slots rfl j).trans (yst j), yL, ⟨by show A.uses ≤ (A.retireF h).uses + 1; omega, by show (A.retireF h).uses + 1 ≤ _; omega⟩⟩
    have hta : (A.retireF h).rawF g.ta = A.rawF g.ta := ro.rw _ (by omega)
    have hm : retM g l k h = some (retLk g l k h) := by unfold retM; rw [if_pos he]
    rw [hm]
    obtain ⟨T, hT⟩ : ∃ T : Int, T = if g.th ≤ ((l k).length : Int) + 1 then 1 else 0 := ⟨_, rfl⟩
    have hb : retLk g l k h = ⟨g, setL l k (l k ++ [(h, 0)]), k, true, T, .no⟩ := by unfold retLk; rw [he, hT]
    rw [hb]
    have hst : (mLk q mq).step ⟨g, setL l k (l k ++ [(h, 0)]), k, true, T, .no⟩ (A.retireF h) = (⟨g, setL l k (l k ++ [(h, A.rawF g.ta)]), k, false, T, .no⟩, (A.retireF h).later 1) := by
      show Lk.step ⟨g, setL l k (l k ++ [(h, 0)]), k, true, T, .no⟩ (A.retireF h) = _
      unfold Lk.step
      rw [if_pos rfl]
      show (Lk.mk g (setL (setL l k (l k ++ [(h, 0)])) k (setLast (setL l k (l k ++ [(h, 0)]) k) ((A.retireF h).rawF g.ta))) k false T .no, (A.retireF h).touchR g.ta) = _
      rw [setL_setL, setL_same, setLast_app, hta, tick_later (A := A.retireF h) ⟨by omega, by rw [ro.rl]; omega⟩ (by omega) (by omega)]
    have iv : (mLk q mq).inv ⟨g, setL l k (l k ++ [(h, 0)]), k, true, T, .no⟩ (A.retireF h) := ⟨by show (setL l k (l k ++ [(h, 0)]) k).length ≤ 1000; rw [setL_same]; simp; omega, fun _ => ⟨he, by show setL l k (l k ++ [(h, 0)]) k ≠ []; rw [setL_same]; simp, rfl⟩, ⟨by show 1 ≤ g.w; omega, by show g.w ≤ 1000; omega⟩, trivial⟩
    have hus : ((A.retireF h).later 1).uses ≤ w64 ((A.retireF h).uses + 1) := by
      show (A.retireF h).uses + 1 ≤ _; rw [w64_in (by omega) (by omega)]; exact Int.le_refl _
    by_cases ht : g.th ≤ ((l k).length : Int) + 1
    · rw [if_pos ht] at hT
      obtain ⟨keep, gs, n, A', r, hn, L⟩ := Y.look (q := q) (mq := mq) kb (by rw [setL_same]; simp; omega) (by show (A.retireF h).uses + 1 ≤ _; omega) (t := 1) (by decide) (by decide) (fun _ => rfl)
      rw [setL_same, setL_setL] at r
      have Y2 := Y.lkd kb L
      rw [setL_same, setL_setL] at Y2
      refine ⟨_, A', _, _, R1, Y, Y2, ⟨n + 1, by omega, .more iv hst hus ?_ ?_⟩, .inr ⟨ht, keep, gs, L, rfl, rfl⟩⟩
      · show (T == 0) = false; rw [hT]; rfl
      · rw [hT]; exact no_runs (by decide) r
    · rw [if_neg ht] at hT
      refine ⟨_, _, _, S, R1, Y, Y, ⟨1, by decide, ?_⟩, .inl ⟨by omega, rfl, rfl, rfl⟩⟩
      rw [hT] at hst iv ⊢
      exact .one iv hst hus rfl

/-- How often a forced look goes. -/
def forT (g : Gd) : Nat := if g.ep = true then 3 else 1

/-- Force, to its end. -/
theorem GI.force_run (X : GI A g m S l) (hu : A.uses ≤ 680000) (kb : 0 ≤ k ∧ k < g.w) (ll : (l k).length ≤ 190) :
    ∃ A' l' S', GI A' g m S' l' ∧ RunO q mq (forM g l k) g k A l l' A' ∧
      ((l k = [] ∧ A' = A ∧ S' = S ∧ l' = l) ∨ (l k ≠ [] ∧ ∃ keep gs, Lkd A g m S l k keep gs (forT g) A' ∧ S' = frS k S gs ∧ l' = setL l k ((l k).filter keep))) := by
  by_cases h0 : l k = []
  · have hm : forM g l k = none := by unfold forM; rw [if_pos h0]
    rw [hm]
    exact ⟨A, l, S, X, ⟨rfl, rfl⟩, .inl ⟨h0, rfl, rfl, rfl⟩⟩
  · have hm : forM g l k = some (forLk g l k).begin := by unfold forM; rw [if_neg h0]
    rw [hm]
    have hb : forLk g l k = ⟨g, l, k, false, ((forT g : Nat) : Int), .no⟩ := by unfold forLk forT; cases g.ep <;> rfl
    have f1 : 1 ≤ forT g ∧ forT g ≤ 3 ∧ (g.ep = false → forT g = 1) := by unfold forT; cases g.ep <;> simp
    obtain ⟨keep, gs, n, A', r, hn, L⟩ := X.look (q := q) (mq := mq) kb (by omega) (by omega) (t := forT g) f1.1 f1.2.1 f1.2.2
    rw [hb]
    exact ⟨A', _, _, X.lkd kb L, ⟨n, by omega, r⟩, .inr ⟨h0, keep, gs, L, rfl, rfl⟩⟩
end
end Go.Proofs.Ytcjhakdopnamoaa

set_option linter.unusedVariables false
set_option linter.unusedSimpArgs false
set_option maxRecDepth 20000
namespace Go.Proofs.Ytcjhakdopnamoaa
open Go Go.Fw

def gdOf (ep : Bool) (w s th : Int) : Gd := ⟨ep, w, 4 * w + 2 * s + 1, plOf w (8 * s), imax 1 (imin th 64)⟩
/-- An arena with a guard's words behind the slab's. -/
structure GZ (I : List Nat) (A : Ar) (ep : Bool) (w s : Int) (S : Sg) : Prop where
  aw : Aw I A
  sl : SL A (plOf w (8 * s)) w (8 * s) S
  fa : A.fault = false
  rl : (A.raw.length : Int) = 4 * w + 2 * s + 1 + gwords ep w
  wb : 1 ≤ w ∧ w ≤ 9
  sb : 0 ≤ s ∧ s ≤ 120

section
variable {A B : Ar} {w s : Int} {S S' : Sg} {I : List Nat} {L : Hands} {R : Value → Heap → Prop} {G : Heap} {l : Bl} {ep : Bool}

theorem GZ.later (E : GZ I A ep w s S) {n : Int} (hn : 0 ≤ n) : GZ I (A.later n) ep w s S := ⟨later_aw E.aw n, E.sl.later hn, E.fa, E.rl, E.wb, E.sb⟩
theorem GZ.out (E : GZ I A ep w s S) {i v : Int} (hA : Aw I B) (O : OutS A (plOf w (8 * s)) w (8 * s) S i v B) : GZ I B ep w s S := ⟨hA, O.sl, O.fa.trans E.fa, by rw [O.rl]; exact E.rl, E.wb, E.sb⟩
theorem gmake_spec (ep : Bool) (w s th : Int) (wb : 1 ≤ w ∧ w ≤ 9) (sb : 0 ≤ s ∧ s ≤ 120) (H : Heap) : SpecF Try.prog f_magpielaw14_make1 #[.int .i64 w, .int .i64 s, .bool ep, .int .i64 th] H fun v K => ∃ (A : Ar) (q mq : Nat), v = .tuple #[.pointer (aI A.ids), (plOf w (8 * s)).val, .pointer (some ⟨q, 0, none⟩)] ∧
    K = own A ((gdOf ep w s th).bl q mq []) H ∧ (∀ x ∈ A.ids, H x = none) ∧ Ok A.ids H (keys ((gdOf ep w s th).bl q mq [])) ∧ GZ A.ids A ep w s ⟨fun _ => [], 0, fun _ => 0, fun _ => -1, 0⟩ ∧ (∀ i, A.rawF i = 0) ∧ A.uses = 0 ∧ A.nL = 0 ∧ A.nR = 0 := by
  refine t_magpielaw14_make1_spec fun L => ?_
  unfold t_magpielaw14_make1
  have e8 : w64 (8 * s) = 8 * s := w64_in (by omega) (by omega)
  have ed : (8 * s + 7) / 8 = s := by omega
  rw [e8]
  have ok0 : Ok0 H (keys []) := ⟨.nil, fun b h => (by cases h)⟩
  refine p_newP (l := []) ok0 fun x9 ok0 => ?_
  refine w_Raw5 ⟨by omega, by omega⟩ ⟨by omega, by omega⟩ ?_
  rw [ed]
  refine p_newP ok0 fun x11 ok0 => ?_
  refine p_stA 0 ok0 rfl rfl rfl rfl ?_
  dsimp only
  refine wp_call_det (x := gwords ep w) (GRaw_det ep ⟨by omega, by omega⟩ _) ?_
  have gw : 0 ≤ gwords ep w ∧ gwords ep w ≤ 100 := by unfold gwords; cases ep <;> simp <;> omega
  have en : w64 (4 * w + 2 * s + 1 + gwords ep w) = 4 * w + 2 * s + 1 + gwords ep w := w64_in (by omega) (by omega)
  have ok0 : Ok0 H (keys [(x11, oc ty_free_Place (plCells (plOf w (8 * s)))), (x9, oc ty_free_Place (plCells ⟨0, 0, 0, 0, 0⟩))]) := ok0
  refine p_ldA (l := [(x11, oc ty_free_Place (plCells (plOf w (8 * s)))), (x9, oc ty_free_Place (plCells ⟨0, 0, 0, 0, 0⟩))]) 0 ok0 rfl rfl rfl ?_
  refine p_ldA (l := [(x11, oc ty_free_Place (plCells (plOf w (8 * s)))), (x9, oc ty_free_Place (plCells ⟨0, 0, 0, 0, 0⟩))]) 0 ok0 rfl rfl rfl ?_
  rw [en]
  refine w_New ok0 ⟨by omega, by omega⟩ ⟨by omega, by omega⟩ fun A hm hA hI ok => ?_
  refine w_ckA 0 hA ok rfl rfl rfl rfl ?_
  refine w_ckA 0 hA ok rfl rfl rfl rfl ?_
  refine w_GNew (w := w) (n := 4 * w + 2 * s + 1) (th := th) (ep := ep) (p := plOf w (8 * s)) ⟨by omega, by omega⟩ hA ok fun q mq ok1 => ?_
  obtain ⟨p1, ok2⟩ := own_perm (A := A) (l' := (x11, oc ty_free_Place (plCells (plOf w (8 * s)))) :: (x9, oc ty_free_Place (plCells ⟨0, 0, 0, 0, 0⟩)) :: (gdOf ep w s th).bl q mq []) ok1 (perm_by fun c d c0 cd ca => by
    show c ((gdOf ep w s th).bl q mq [] ++ _) = _
    simp only [cd, ca, c0]; omega)
  rw [p1]
  refine w_ckA 0 hA ok2 rfl rfl rfl rfl ?_
  refine w_stA 1 hA ok2 rfl rfl rfl rfl ?_
  refine ⟨(aI A.ids, (w, 0, 4 * w, 4 * w + (8 * s + 7) / 8, 4 * w + 2 * ((8 * s + 7) / 8), ()), some ⟨q, 0, none⟩, ()), ?_, ?_⟩
  · refine ldK_still (own_get (i := 1) hA (by exact ok2) rfl) 5 0 #[] (by exact Nat.le_refl 5) ?_
    rfl
  have ok2 : Ok A.ids H (x11 :: x9 :: keys ((gdOf ep w s th).bl q mq [])) := ok2
  have nd : (keys ((gdOf ep w s th).bl q mq [])).Nodup := (List.nodup_cons.1 (List.nodup_cons.1 ok2.nd).2).2
  have ok' : Ok A.ids H (keys ((gdOf ep w s th).bl q mq [])) := ok2.sub nd fun b hb => List.mem_cons_of_mem _ (List.mem_cons_of_mem _ hb)
  refine ⟨own A ((gdOf ep w s th).bl q mq []) H, own_sub (by exact ok2) ok'.nd fun p hp => List.mem_cons_of_mem _ (List.mem_cons_of_mem _ hp), A, q, mq, rfl, rfl, hI, ok', ⟨hA, SL.made hm ?_ ⟨wb.1, by omega⟩ ⟨by omega, by omega⟩, hm.fault, ?_, wb, sb⟩, fun i => ?_, hm.uses, hm.nL, hm.nR⟩
  · show 4 * w + 2 * ((8 * s + 7) / 8) < _; omega
  · rw [hm.raw, List.length_replicate]; omega
  · unfold Ar.rawF
    split
    · rename_i h; rw [hm.raw, List.getD_eq_getElem?_getD, List.getElem?_replicate]; split <;> rfl
    · rfl
end
end Go.Proofs.Ytcjhakdopnamoaa

set_option linter.unusedVariables false
set_option maxRecDepth 10000
namespace Go.Proofs.Ytcjhakdopnamoaa
open Go Go.Fw
/- magpie/magpielaw14.GuardBounds -/
@[reducible] def t_magpielaw14_GuardBounds_L3_sh : List Sh1 := [(.leaf .bool), (.leaf (.int .i64))]
noncomputable def t_magpielaw14_GuardBounds_L3 (x36 : HL Sh1.T [(.leaf .ptr), (.agg [(.int .i64), (.int .i64), (.int .i64), (.int .i64), (.int .i64)]), (.leaf .ptr)]) (x14 : Addr) (y2 : HL Sh1.T [(.leaf .bool), (.leaf (.int .i64))]) (y3 : HL Sh1.T t_magpielaw14_GuardBounds_L3_sh) : Tree :=
  bif (decide ((y3.2.1 : Int) < 2)) then (
    .look (opS Try.prog (.indexAddr ty_a5_a2_int (.tmp 0) (.tmp 1)) ty_unit [(.pointer (some x14)), (.int .i64 y2.2.1)]) (.one (.leaf .addr)) fun x213 =>
    .look (opS Try.prog (.indexAddr ty_a2_int (.tmp 0) (.tmp 1)) ty_unit [(.pointer (some x213)), (.int .i64 y3.2.1)]) (.one (.leaf .addr)) fun x214 =>
    .ld x214 (.int .i64) fun x215 =>
    bif ((x215 : Int) != 0) then (
      .look (opS Try.prog (.indexAddr ty_a5_a2_int (.tmp 0) (.tmp 1)) ty_unit [(.pointer (some x14)), (.int .i64 y2.2.1)]) (.one (.leaf .addr)) fun x221 =>
      .look (opS Try.prog (.indexAddr ty_a2_int (.tmp 0) (.tmp 1)) ty_unit [(.pointer (some x221)), (.int .i64 y3.2.1)]) (.one (.leaf .addr)) fun x222 =>
      .ld x222 (.int .i64) fun x223 =>
      .call f_arena_Arena_State [(.pointer x36.1), (.int .i64 x223)] (.one (.leaf (.int .i64))) fun x224 =>
      bif ((x224 : Int) == 0) then (
        .ret (.bool false))
      else (
        .again 2752 [(.bool y3.1), (.int .i64 (w64 (y3.2.1 + 1)))]))
    else (
      .again 2752 [(.bool y3.1), (.int .i64 (w64 (y3.2.1 + 1)))]))
  else (
    .again 2561 [(.bool y3.1), (.int .i64 (w64 (y2.2.1 + 1)))])

@[reducible] def t_magpielaw14_GuardBounds_L2_sh : List Sh1 := [(.leaf .bool), (.leaf (.int .i64))]
noncomputable def t_magpielaw14_GuardBounds_L2 (x27 : Int) (x36 : HL Sh1.T [(.leaf .ptr), (.agg [(.int .i64), (.int .i64), (.int .i64), (.int .i64), (.int .i64)]), (.leaf .ptr)]) (x14 : Addr) (y1 : HL Sh1.T [(.leaf .bool), (.leaf .slice), (.leaf (.int .i64))]) (x88 : Sl) (y2 : HL Sh1.T t_magpielaw14_GuardBounds_L2_sh) : Tree :=
  bif (decide ((y2.2.1 : Int) < (w64 (1 + x27)))) then (
    .loop 2752 t_magpielaw14_GuardBounds_L3_sh [(.bool y2.1), (.int .i64 0)] (t_magpielaw14_GuardBounds_L3 x36 x14 y2))
  else (
    .again 514 [(.bool y2.1), (.slice x88.a x88.len x88.cap), (.int .i64 (w64 (y1.2.2.1 + 1)))])

@[reducible] def t_magpielaw14_GuardBounds_L6_sh : List Sh1 := [(.leaf .bool), (.leaf (.int .i64))]
noncomputable def t_magpielaw14_GuardBounds_L6 (x27 : Int) (x36 : HL Sh1.T [(.leaf .ptr), (.agg [(.int .i64), (.int .i64), (.int .i64), (.int .i64), (.int .i64)]), (.leaf .ptr)]) (x14 : Addr) (y1 : HL Sh1.T [(.leaf .bool), (.leaf .slice), (.leaf (.int .i64))]) (y2 : HL Sh1.T t_magpielaw14_GuardBounds_L6_sh) : Tree :=
  bif (decide ((y2.2.1 : Int) < (w64 (1 + x27)))) then (
    .loop 2752 t_magpielaw14_GuardBounds_L3_sh [(.bool y2.1), (.int .i64 0)] (t_magpielaw14_GuardBounds_L3 x36 x14 y2))
  else (
    .again 514 [(.bool y2.1), (.slice y1.2.1.a y1.2.1.len y1.2.1.cap), (.int .i64 (w64 (y1.2.2.1 + 1)))])

@[reducible] def t_magpielaw14_GuardBounds_L10_sh : List Sh1 := [(.leaf .bool), (.leaf (.int .i64))]
noncomputable def t_magpielaw14_GuardBounds_L10 (x27 : Int) (x36 : HL Sh1.T [(.leaf .ptr), (.agg [(.int .i64), (.int .i64), (.int .i64), (.int .i64), (.int .i64)]), (.leaf .ptr)]) (x14 : Addr) (y1 : HL Sh1.T [(.leaf .bool), (.leaf .slice), (.leaf (.int .i64))]) (x116 : Sl) (y2 : HL Sh1.T t_magpielaw14_GuardBounds_L10_sh) : Tree :=
  bif (decide ((y2.2.1 : Int) < (w64 (1 + x27)))) then (
    .loop 2752 t_magpielaw14_GuardBounds_L3_sh [(.bool y2.1), (.int .i64 0)] (t_magpielaw14_GuardBounds_L3 x36 x14 y2))
  else (
    .again 514 [(.bool y2.1), (.slice x116.a x116.len x116.cap), (.int .i64 (w64 (y1.2.2.1 + 1)))])

@[reducible] def t_magpielaw14_GuardBounds_L123_sh : List Sh1 := [(.leaf .bool), (.leaf (.int .i64))]
noncomputable def t_magpielaw14_GuardBounds_L123 (x27 : Int) (x36 : HL Sh1.T [(.leaf .ptr), (.agg [(.int .i64), (.int .i64), (.int .i64), (.int .i64), (.int .i64)]), (.leaf .ptr)]) (y1 : HL Sh1.T [(.leaf .bool), (.leaf .slice), (.leaf (.int .i64))]) (y3 : HL Sh1.T t_magpielaw14_GuardBounds_L123_sh) : Tree :=
  bif (decide ((y3.2.1 : Int) < (w64 (1 + x27)))) then (
    .call f_guard_Guard_Force [(.pointer x36.2.2.1), (.int .i64 y3.2.1)] (.one (.leaf .val)) fun x246 =>
    .call f_magpielaw14_run [(.pointer x36.1), x246] (.one (.leaf .bool)) fun x247 =>
    bif (!x247) then (
      .ret (.bool false))
    else (
      .call f_guard_Guard_Left [(.pointer x36.2.2.1), (.int .i64 y3.2.1)] (.one (.leaf (.int .i64))) fun x252 =>
      bif ((x252 : Int) != 0) then (
        .ret (.bool false))
      else (
        .again 3392 [(.bool y3.1), (.int .i64 (w64 (y3.2.1 + 1)))])))
  else (
    .call f_arena_Arena_Count [(.pointer x36.1)] (.one (.agg [(.int .i64), (.int .i64), (.int .i64), (.int .i64)])) fun x256 =>
    bif ((x256.2.2.1 : Int) == 0) then (
      .call f_arena_Arena_Count [(.pointer x36.1)] (.one (.agg [(.int .i64), (.int .i64), (.int .i64), (.int .i64)])) fun x261 =>
      bif ((x261.2.1 : Int) == (w64 (8 * ((y1.2.1.len : Nat) : Int)))) then (
        .call f_arena_Arena_Fault [(.pointer x36.1)] (.one (.leaf .bool)) fun x270 =>
        bif (!x270) then (
          .call f_magpielaw14_awake [] (.one (.leaf .bool)) fun x274 =>
          .ret (.bool x274))
        else (
          .ret (.bool false)))
      else (
        .ret (.bool false)))
    else (
      .ret (.bool false)))

@[reducible] def t_magpielaw14_GuardBounds_L122_sh : List Sh1 := [(.leaf .bool), (.leaf (.int .i64))]
noncomputable def t_magpielaw14_GuardBounds_L122 (x27 : Int) (x36 : HL Sh1.T [(.leaf .ptr), (.agg [(.int .i64), (.int .i64), (.int .i64), (.int .i64), (.int .i64)]), (.leaf .ptr)]) (y1 : HL Sh1.T [(.leaf .bool), (.leaf .slice), (.leaf (.int .i64))]) (y2 : HL Sh1.T t_magpielaw14_GuardBounds_L122_sh) : Tree :=
  bif (decide ((y2.2.1 : Int) < (w64 (1 + x27)))) then (
    .call f_guard_Guard_Leave [(.pointer x36.2.2.1), (.int .i64 y2.2.1)] (.one (.leaf .val)) fun x235 =>
    .call f_magpielaw14_run [(.pointer x36.1), x235] (.one (.leaf .bool)) fun x236 =>
    bif (!x236) then (
      .ret (.bool false))
    else (
      .again 3072 [(.bool y2.1), (.int .i64 (w64 (y2.2.1 + 1)))]))
  else (
    .loop 3392 t_magpielaw14_GuardBounds_L123_sh [(.bool y2.1), (.int .i64 0)] (t_magpielaw14_GuardBounds_L123 x27 x36 y1))

noncomputable def t_magpielaw14_GuardBounds_J6 (p2 : Bool) (x27 : Int) (x30 : Int) (x36 : HL Sh1.T [(.leaf .ptr), (.agg [(.int .i64), (.int .i64), (.int .i64), (.int .i64), (.int .i64)]), (.leaf .ptr)]) (x14 : Addr) (y1 : HL Sh1.T [(.leaf .bool), (.leaf .slice), (.leaf (.int .i64))]) (x64 : Int) : Tree :=
  .call f_guard_Guard_Left [(.pointer x36.2.2.1), (.int .i64 x64)] (.one (.leaf (.int .i64))) fun x192 =>
  bif (decide ((x192 : Int) > (w64 ((w64 (1 + x30)) + (w64 ((w64 (1 + x27)) * 2)))))) then (
    bif (!p2) then (
      .ret (.bool false))
    else (
      .loop 2561 t_magpielaw14_GuardBounds_L6_sh [(.bool y1.1), (.int .i64 0)] (t_magpielaw14_GuardBounds_L6 x27 x36 x14 y1)))
  else (
    .loop 2561 t_magpielaw14_GuardBounds_L6_sh [(.bool y1.1), (.int .i64 0)] (t_magpielaw14_GuardBounds_L6 x27 x36 x14 y1))

noncomputable def t_magpielaw14_GuardBounds_J7 (p2 : Bool) (x27 : Int) (x30 : Int) (x36 : HL Sh1.T [(.leaf .ptr), (.agg [(.int .i64), (.int .i64), (.int .i64), (.int .i64), (.int .i64)]), (.leaf .ptr)]) (x14 : Addr) (y1 : HL Sh1.T [(.leaf .bool), (.leaf .slice), (.leaf (.int .i64))]) (x64 : Int) (x82 : Int) : Tree :=
  bif ((x82 : Int) != 0) then (
    .newS (.cells #[(.int .i64 x82)] ty_int) 1 fun x87 =>
    .act (opS Try.prog (.call { callee := .builtin .append, args := #[(.tmp 0), (.tmp 1)], argTypes := #[ty_s_int, ty_s_int] }) ty_s_int [(.slice y1.2.1.a y1.2.1.len y1.2.1.cap), (.slice x87.a x87.len x87.cap)]) (.one (.leaf .slice)) fun x88 =>
    .call f_guard_Guard_Left [(.pointer x36.2.2.1), (.int .i64 x64)] (.one (.leaf (.int .i64))) fun x192 =>
    bif (decide ((x192 : Int) > (w64 ((w64 (1 + x30)) + (w64 ((w64 (1 + x27)) * 2)))))) then (
      bif (!p2) then (
        .ret (.bool false))
      else (
        .loop 2561 t_magpielaw14_GuardBounds_L2_sh [(.bool y1.1), (.int .i64 0)] (t_magpielaw14_GuardBounds_L2 x27 x36 x14 y1 x88)))
    else (
      .loop 2561 t_magpielaw14_GuardBounds_L2_sh [(.bool y1.1), (.int .i64 0)] (t_magpielaw14_GuardBounds_L2 x27 x36 x14 y1 x88)))
  else (
    t_magpielaw14_GuardBounds_J6 p2 x27 x30 x36 x14 y1 x64)

noncomputable def t_magpielaw14_GuardBounds_J14 (p2 : Bool) (x27 : Int) (x30 : Int) (x36 : HL Sh1.T [(.leaf .ptr), (.agg [(.int .i64), (.int .i64), (.int .i64), (.int .i64), (.int .i64)]), (.leaf .ptr)]) (x14 : Addr) (y1 : HL Sh1.T [(.leaf .bool), (.leaf .slice), (.leaf (.int .i64))]) (x60 : Int) (x64 : Int) : Tree :=
  bif ((((y1.2.1.len : Nat) : Int) : Int) == 0) then (
    .again 514 [(.bool y1.1), (.slice y1.2.1.a y1.2.1.len y1.2.1.cap), (.int .i64 (w64 (y1.2.2.1 + 1)))])
  else (
    .look (opS Try.prog (.binOp .rem ty_int (.tmp 0) (.tmp 1) ty_int) ty_int [(.int .i64 (w64 (Int.tdiv x60 64))), (.int .i64 ((y1.2.1.len : Nat) : Int))]) (.one (.leaf (.int .i64))) fun x99 =>
    .look (opS Try.prog (.indexAddr ty_s_int (.tmp 0) (.tmp 1)) ty_unit [(.slice y1.2.1.a y1.2.1.len y1.2.1.cap), (.int .i64 x99)]) (.one (.leaf .addr)) fun x100 =>
    .ld x100 (.int .i64) fun x101 =>
    .look (opS Try.prog (.binOp .rem ty_int (.tmp 0) (.tmp 1) ty_int) ty_int [(.int .i64 (w64 (Int.tdiv x60 64))), (.int .i64 ((y1.2.1.len : Nat) : Int))]) (.one (.leaf (.int .i64))) fun x106 =>
    .look (opS Try.prog (.slice ty_s_int (.tmp 0) none (some (.tmp 1)) none) ty_s_int [(.slice y1.2.1.a y1.2.1.len y1.2.1.cap), (.int .i64 x106)]) (.one (.leaf .slice)) fun x107 =>
    .look (opS Try.prog (.binOp .rem ty_int (.tmp 0) (.tmp 1) ty_int) ty_int [(.int .i64 (w64 (Int.tdiv x60 64))), (.int .i64 ((y1.2.1.len : Nat) : Int))]) (.one (.leaf (.int .i64))) fun x113 =>
    .look (opS Try.prog (.slice ty_s_int (.tmp 0) (some (.tmp 1)) none none) ty_s_int [(.slice y1.2.1.a y1.2.1.len y1.2.1.cap), (.int .i64 (w64 (x113 + 1)))]) (.one (.leaf .slice)) fun x115 =>
    .act (opS Try.prog (.call { callee := .builtin .append, args := #[(.const (.slice none 0 0)), (.tmp 0)], argTypes := #[ty_s_int, ty_s_int] }) ty_s_int [(.slice x107.a x107.len x107.cap)]) (.one (.leaf .slice)) fun x108 =>
    .check (opS Try.prog (.slice ty_s_int (.tmp 0) (some (.tmp 1)) none none) ty_s_int [(.slice y1.2.1.a y1.2.1.len y1.2.1.cap), (.int .i64 (w64 (x113 + 1)))]) (.slice x115.a x115.len x115.cap) <|
    .check (opS Try.prog (.binOp .rem ty_int (.tmp 0) (.tmp 1) ty_int) ty_int [(.int .i64 (w64 (Int.tdiv x60 64))), (.int .i64 ((y1.2.1.len : Nat) : Int))]) (.int .i64 x113) <|
    .act (opS Try.prog (.call { callee := .builtin .append, args := #[(.tmp 0), (.tmp 1)], argTypes := #[ty_s_int, ty_s_int] }) ty_s_int [(.slice x108.a x108.len x108.cap), (.slice x115.a x115.len x115.cap)]) (.one (.leaf .slice)) fun x116 =>
    .call f_guard_Guard_Retire [(.pointer x36.2.2.1), (.pointer x36.1), (.int .i64 x64), (.int .i64 x101)] (.one (.leaf .val)) fun x122 =>
    .call f_magpielaw14_run [(.pointer x36.1), x122] (.one (.leaf .bool)) fun x123 =>
    bif (!x123) then (
      .ret (.bool false))
    else (
      .call f_guard_Guard_Left [(.pointer x36.2.2.1), (.int .i64 x64)] (.one (.leaf (.int .i64))) fun x192 =>
      bif (decide ((x192 : Int) > (w64 ((w64 (1 + x30)) + (w64 ((w64 (1 + x27)) * 2)))))) then (
        bif (!p2) then (
          .ret (.bool false))
        else (
          .loop 2561 t_magpielaw14_GuardBounds_L10_sh [(.bool y1.1), (.int .i64 0)] (t_magpielaw14_GuardBounds_L10 x27 x36 x14 y1 x116)))
      else (
        .loop 2561 t_magpielaw14_GuardBounds_L10_sh [(.bool y1.1), (.int .i64 0)] (t_magpielaw14_GuardBounds_L10 x27 x36 x14 y1 x116))))

noncomputable def t_magpielaw14_GuardBounds_J19 (p2 : Bool) (x27 : Int) (x30 : Int) (x36 : HL Sh1.T [(.leaf .ptr), (.agg [(.int .i64), (.int .i64), (.int .i64), (.int .i64), (.int .i64)]), (.leaf .ptr)]) (x14 : Addr) (y1 : HL Sh1.T [(.leaf .bool), (.leaf .slice), (.leaf (.int .i64))]) (x60 : Int) (x64 : Int) : Tree :=
  bif (((Int.tmod x60 8) : Int) == 5) then (
    bif ((((y1.2.1.len : Nat) : Int) : Int) == 0) then (
      .again 514 [(.bool y1.1), (.slice y1.2.1.a y1.2.1.len y1.2.1.cap), (.int .i64 (w64 (y1.2.2.1 + 1)))])
    else (
      .look (opS Try.prog (.indexAddr ty_a5_a2_int (.tmp 0) (.tmp 1)) ty_unit [(.pointer (some x14)), (.int .i64 x64)]) (.one (.leaf .addr)) fun x132 =>
      .ld x132 (.int .i64) fun x134 =>
      bif ((x134 : Int) != 0) then (
        .again 514 [(.bool y1.1), (.slice y1.2.1.a y1.2.1.len y1.2.1.cap), (.int .i64 (w64 (y1.2.2.1 + 1)))])
      else (
        .look (opS Try.prog (.indexAddr ty_a5_a2_int (.tmp 0) (.tmp 1)) ty_unit [(.pointer (some x14)), (.int .i64 x64)]) (.one (.leaf .addr)) fun x139 =>
        .ld (x139.add 1) (.int .i64) fun x141 =>
        bif ((x141 : Int) != 0) then (
          .again 514 [(.bool y1.1), (.slice y1.2.1.a y1.2.1.len y1.2.1.cap), (.int .i64 (w64 (y1.2.2.1 + 1)))])
        else (
          .call f_guard_Guard_Enter [(.pointer x36.2.2.1), (.int .i64 x64)] (.one (.leaf .val)) fun x147 =>
          .call f_magpielaw14_run [(.pointer x36.1), x147] (.one (.leaf .bool)) fun x148 =>
          bif (!x148) then (
            .ret (.bool false))
          else (
            .look (opS Try.prog (.binOp .rem ty_int (.tmp 0) (.tmp 1) ty_int) ty_int [(.int .i64 (w64 (Int.tdiv x60 64))), (.int .i64 ((y1.2.1.len : Nat) : Int))]) (.one (.leaf (.int .i64))) fun x160 =>
            .look (opS Try.prog (.indexAddr ty_s_int (.tmp 0) (.tmp 1)) ty_unit [(.slice y1.2.1.a y1.2.1.len y1.2.1.cap), (.int .i64 x160)]) (.one (.leaf .addr)) fun x161 =>
            .ld x161 (.int .i64) fun x162 =>
            .call f_guard_Guard_Protect [(.pointer x36.2.2.1), (.int .i64 x64), (.int .i64 (Int.tmod (w64 (Int.tdiv x60 64)) 2)), (.int .i64 x162)] (.one (.leaf .val)) fun x163 =>
            .call f_magpielaw14_run [(.pointer x36.1), x163] (.one (.leaf .bool)) fun x164 =>
            bif (!x164) then (
              .ret (.bool false))
            else (
              .look (opS Try.prog (.binOp .rem ty_int (.tmp 0) (.tmp 1) ty_int) ty_int [(.int .i64 (w64 (Int.tdiv x60 64))), (.int .i64 ((y1.2.1.len : Nat) : Int))]) (.one (.leaf (.int .i64))) fun x174 =>
              .look (opS Try.prog (.indexAddr ty_s_int (.tmp 0) (.tmp 1)) ty_unit [(.slice y1.2.1.a y1.2.1.len y1.2.1.cap), (.int .i64 x174)]) (.one (.leaf .addr)) fun x175 =>
              .ld x175 (.int .i64) fun x176 =>
              .look (opS Try.prog (.indexAddr ty_a5_a2_int (.tmp 0) (.tmp 1)) ty_unit [(.pointer (some x14)), (.int .i64 x64)]) (.one (.leaf .addr)) fun x177 =>
              .look (opS Try.prog (.indexAddr ty_a2_int (.tmp 0) (.tmp 1)) ty_unit [(.pointer (some x177)), (.int .i64 (Int.tmod (w64 (Int.tdiv x60 64)) 2))]) (.one (.leaf .addr)) fun x178 =>
              .st x178 (.int .i64 x176) <|
              t_magpielaw14_GuardBounds_J6 p2 x27 x30 x36 x14 y1 x64))))))
  else (
    bif (((Int.tmod x60 8) : Int) == 6) then (
      .call f_guard_Guard_Leave [(.pointer x36.2.2.1), (.int .i64 x64)] (.one (.leaf .val)) fun x184 =>
      .call f_magpielaw14_run [(.pointer x36.1), x184] (.one (.leaf .bool)) fun x185 =>
      bif (!x185) then (
        .ret (.bool false))
      else (
        .look (opS Try.prog (.indexAddr ty_a5_a2_int (.tmp 0) (.tmp 1)) ty_unit [(.pointer (some x14)), (.int .i64 x64)]) (.one (.leaf .addr)) fun x189 =>
        .stA x189 [(.int .i64 0), (.int .i64 0)] <|
        t_magpielaw14_GuardBounds_J6 p2 x27 x30 x36 x14 y1 x64))
    else (
      .call f_guard_Guard_Force [(.pointer x36.2.2.1), (.int .i64 x64)] (.one (.leaf .val)) fun x72 =>
      .call f_magpielaw14_run [(.pointer x36.1), x72] (.one (.leaf .bool)) fun x73 =>
      bif (!x73) then (
        .ret (.bool false))
      else (
        t_magpielaw14_GuardBounds_J6 p2 x27 x30 x36 x14 y1 x64)))

noncomputable def t_magpielaw14_GuardBounds_J20 (p2 : Bool) (x27 : Int) (x30 : Int) (x36 : HL Sh1.T [(.leaf .ptr), (.agg [(.int .i64), (.int .i64), (.int .i64), (.int .i64), (.int .i64)]), (.leaf .ptr)]) (x14 : Addr) (y1 : HL Sh1.T [(.leaf .bool), (.leaf .slice), (.leaf (.int .i64))]) (x60 : Int) (x64 : Int) : Tree :=
  bif (((Int.tmod x60 8) : Int) == 3) then (
    bif (((Int.tmod x60 8) : Int) == 3) then (
      t_magpielaw14_GuardBounds_J14 p2 x27 x30 x36 x14 y1 x60 x64)
    else (
      t_magpielaw14_GuardBounds_J19 p2 x27 x30 x36 x14 y1 x60 x64))
  else (
    bif (((Int.tmod x60 8) : Int) == 4) then (
      t_magpielaw14_GuardBounds_J14 p2 x27 x30 x36 x14 y1 x60 x64)
    else (
      t_magpielaw14_GuardBounds_J19 p2 x27 x30 x36 x14 y1 x60 x64))

@[reducible] def t_magpielaw14_GuardBounds_L1_sh : List Sh1 := [(.leaf .bool), (.leaf .slice), (.leaf (.int .i64))]
noncomputable def t_magpielaw14_GuardBounds_L1 (p2 : Bool) (p3 : Sl) (x27 : Int) (x30 : Int) (x36 : HL Sh1.T [(.leaf .ptr), (.agg [(.int .i64), (.int .i64), (.int .i64), (.int .i64), (.int .i64)]), (.leaf .ptr)]) (x12 : Addr) (x14 : Addr) (y1 : HL Sh1.T t_magpielaw14_GuardBounds_L1_sh) : Tree :=
  bif (decide ((y1.2.2.1 : Int) < ((p3.len : Nat) : Int))) then (
    bif (decide ((y1.2.2.1 : Int) < 80)) then (
      .look (opS Try.prog (.indexAddr ty_s_int (.tmp 0) (.tmp 1)) ty_unit [(.slice p3.a p3.len p3.cap), (.int .i64 y1.2.2.1)]) (.one (.leaf .addr)) fun x58 =>
      .ld x58 (.int .i64) fun x59 =>
      .qcall f_magpielaw00_Place [(.int .i64 x59), (.int .i64 1048576)] (.one (.leaf (.int .i64))) fun x60 =>
      .look (opS Try.prog (.binOp .rem ty_int (.tmp 0) (.tmp 1) ty_int) ty_int [(.int .i64 (w64 (Int.tdiv x60 8))), (.int .i64 (w64 (1 + x27)))]) (.one (.leaf (.int .i64))) fun x64 =>
      bif (((Int.tmod x60 8) : Int) == 0) then (
        bif (((Int.tmod x60 8) : Int) == 0) then (
          .ldA x12 [(.int .i64), (.int .i64), (.int .i64), (.int .i64), (.int .i64)] fun x80 =>
          .call f_magpielaw14_one [(.pointer x36.1), (.agg #[(.int .i64 x80.1), (.int .i64 x80.2.1), (.int .i64 x80.2.2.1), (.int .i64 x80.2.2.2.1), (.int .i64 x80.2.2.2.2.1)]), (.int .i64 x64)] (.one (.leaf (.int .i64))) fun x82 =>
          t_magpielaw14_GuardBounds_J7 p2 x27 x30 x36 x14 y1 x64 x82)
        else (
          t_magpielaw14_GuardBounds_J20 p2 x27 x30 x36 x14 y1 x60 x64))
      else (
        bif (((Int.tmod x60 8) : Int) == 1) then (
          bif (((Int.tmod x60 8) : Int) == 1) then (
            .ldA x12 [(.int .i64), (.int .i64), (.int .i64), (.int .i64), (.int .i64)] fun x80 =>
            .call f_magpielaw14_one [(.pointer x36.1), (.agg #[(.int .i64 x80.1), (.int .i64 x80.2.1), (.int .i64 x80.2.2.1), (.int .i64 x80.2.2.2.1), (.int .i64 x80.2.2.2.2.1)]), (.int .i64 x64)] (.one (.leaf (.int .i64))) fun x82 =>
            t_magpielaw14_GuardBounds_J7 p2 x27 x30 x36 x14 y1 x64 x82)
          else (
            t_magpielaw14_GuardBounds_J20 p2 x27 x30 x36 x14 y1 x60 x64))
        else (
          bif (((Int.tmod x60 8) : Int) == 2) then (
            .ldA x12 [(.int .i64), (.int .i64), (.int .i64), (.int .i64), (.int .i64)] fun x80 =>
            .call f_magpielaw14_one [(.pointer x36.1), (.agg #[(.int .i64 x80.1), (.int .i64 x80.2.1), (.int .i64 x80.2.2.1), (.int .i64 x80.2.2.2.1), (.int .i64 x80.2.2.2.2.1)]), (.int .i64 x64)] (.one (.leaf (.int .i64))) fun x82 =>
            t_magpielaw14_GuardBounds_J7 p2 x27 x30 x36 x14 y1 x64 x82)
          else (
            t_magpielaw14_GuardBounds_J20 p2 x27 x30 x36 x14 y1 x60 x64))))
    else (
      .loop 3072 t_magpielaw14_GuardBounds_L122_sh [(.bool y1.1), (.int .i64 0)] (t_magpielaw14_GuardBounds_L122 x27 x36 y1)))
  else (
    .loop 3072 t_magpielaw14_GuardBounds_L122_sh [(.bool y1.1), (.int .i64 0)] (t_magpielaw14_GuardBounds_L122 x27 x36 y1))
noncomputable def t_magpielaw14_GuardBounds (p0 : Int) (p1 : Int) (p2 : Bool) (p3 : Sl) : Tree :=
  .qcall f_magpielaw00_Place [(.int .i64 p0), (.int .i64 5)] (.one (.leaf (.int .i64))) fun x27 =>
  .qcall f_magpielaw00_Place [(.int .i64 p1), (.int .i64 8)] (.one (.leaf (.int .i64))) fun x30 =>
  .call f_magpielaw14_make1 [(.int .i64 (w64 (1 + x27))), (.int .i64 120), (.bool p2), (.int .i64 (w64 (1 + x30)))] (.tup [(.leaf .ptr), (.agg [(.int .i64), (.int .i64), (.int .i64), (.int .i64), (.int .i64)]), (.leaf .ptr)]) fun x36 =>
  .newP (.cells #[(.int .i64 0), (.int .i64 0), (.int .i64 0), (.int .i64 0), (.int .i64 0)] ty_free_Place) fun x12 =>
  .stA x12 [(.int .i64 x36.2.1.1), (.int .i64 x36.2.1.2.1), (.int .i64 x36.2.1.2.2.1), (.int .i64 x36.2.1.2.2.2.1), (.int .i64 x36.2.1.2.2.2.2.1)] <|
  .look (opS Try.prog (.binOp .eql ty_p_arena_Arena (.tmp 0) (.const (.pointer none)) ty_p_arena_Arena) ty_bool [(.pointer x36.1)]) (.one (.leaf .bool)) fun x41 =>
  bif x41 then (
    .ret (.bool false))
  else (
    .look (opS Try.prog (.binOp .eql ty_p_guard_Guard (.tmp 0) (.const (.pointer none)) ty_p_guard_Guard) ty_bool [(.pointer x36.2.2.1)]) (.one (.leaf .bool)) fun x44 =>
    bif x44 then (
      .ret (.bool false))
    else (
      .newP (.cells #[(.int .i64 0), (.int .i64 0), (.int .i64 0), (.int .i64 0), (.int .i64 0), (.int .i64 0), (.int .i64 0), (.int .i64 0), (.int .i64 0), (.int .i64 0)] ty_a5_a2_int) fun x14 =>
      .loop 514 t_magpielaw14_GuardBounds_L1_sh [(.bool false), (.slice none 0 0), (.int .i64 0)] (t_magpielaw14_GuardBounds_L1 p2 p3 x27 x30 x36 x12 x14)))
theorem t_magpielaw14_GuardBounds_eq (p0 : Int) (p1 : Int) (p2 : Bool) (p3 : Sl) : funcTree Try.prog { quiet := [16, 34, 36, 40, 41, 66, 67, 75, 76, 77, 97, 98, 103, 108, 110, 139, 146, 149, 161], quietTmp := true, fncs := [], ifcs := [] } Try.f6 [(.int .i64 p0), (.int .i64 p1), (.bool p2), (.slice p3.a p3.len p3.cap)] = t_magpielaw14_GuardBounds p0 p1 p2 p3 := by kernel_rfl
theorem t_magpielaw14_GuardBounds_spec {p0 : Int} {p1 : Int} {p2 : Bool} {p3 : Sl} {H : Heap} {R : Value → Heap → Prop} (h : ∀ L, wp Try.prog (t_magpielaw14_GuardBounds p0 p1 p2 p3) L H R) : SpecF Try.prog f_magpielaw14_GuardBounds #[(.int .i64 p0), (.int .i64 p1), (.bool p2), (.slice p3.a p3.len p3.cap)] H R :=
  spec_of_tree (cfg := { quiet := [16, 34, 36, 40, 41, 66, 67, 75, 76, 77, 97, 98, 103, 108, 110, 139, 146, 149, 161], quietTmp := true, fncs := [], ifcs := [] }) Try.func6 fun L => (t_magpielaw14_GuardBounds_eq p0 p1 p2 p3).symm ▸ h L

end Go.Proofs.Ytcjhakdopnamoaa

set_option linter.unusedVariables false
set_option linter.unusedSimpArgs false
set_option maxRecDepth 20000
namespace Go.Proofs.Ytcjhakdopnamoaa
open Go Go.Fw

theorem nnAl (a : Addr) : opS Try.prog (.binOp .neq ty_p_slab_Alloc (.tmp 0) (.const (.pointer none)) ty_p_slab_Alloc) ty_bool [(.pointer (some a))] = .pure (.value (.bool true)) := by kernel_rfl

section
variable {L : Hands} {R : Value → Heap → Prop} {G : Heap} {l rest : Bl} {A A' : Ar} {I : List Nat}

theorem one14_go {n : Nat} {x x' : Al} (h : mAl.Runs n x A x' A') :
    ∀ {i b : Int} {j : Nat × Nat × Nat} {L : Hands} {R : Value → Heap → Prop}, (∀ j' : Nat × Nat × Nat, Ok I G (keys (x'.bl j')) → Aw I A' → R (.int .i64 x'.h) (own A' (x'.bl j') G)) → Aw I A → Ok I G (keys (x.bl j)) → 0 ≤ i → i + n ≤ 100 →
      wp Try.prog (.loop 192 t_magpielaw14_one_L1_sh [(.int .i64 b), (.int .i64 i)] (t_magpielaw14_one_L1 (aI I) (some ⟨j.1, 0, none⟩))) L (own A (x.bl j) G) R := by
  induction h with
  | @one m A hi hu hf =>
    intro i b j L R hR hA ok h0 h1
    refine wp_loop_unroll (b, i, ()) rfl ?_
    rw [t_magpielaw14_one_L1]
    refine wp_true (ilt (by show i < 100; omega)) ?_
    refine look_val (x := true) (nnAl _) (wp_true rfl ?_)
    refine wp_call_of (mAl_ok I A G m j hA ok hi) ?_
    rintro v K ⟨j', rfl, rfl, ha, ok', hA'⟩
    refine ⟨true, by rw [hf], ?_⟩
    refine wp_true rfl ?_
    obtain ⟨q, q0, q1⟩ := j'
    have ha : q = j.1 := ha
    subst ha
    refine w_Handle 0 hA' ok' rfl ?_
    exact wp_ret_of (hR _ ok' hA')
  | @more n m A m' A' hi hu hf hr ih =>
    intro i b j L R hR hA ok h0 h1
    refine wp_loop_unroll (b, i, ()) rfl ?_
    rw [t_magpielaw14_one_L1]
    refine wp_true (ilt (by show i < 100; omega)) ?_
    refine look_val (x := true) (nnAl _) (wp_true rfl ?_)
    refine wp_call_of (mAl_ok I A G m j hA ok hi) ?_
    rintro v K ⟨j', rfl, rfl, ha, ok', hA'⟩
    refine ⟨false, by rw [hf], ?_⟩
    refine wp_false rfl (wp_again ?_)
    have e : w64 (i + 1) = i + 1 := w64_in (by omega) (by omega)
    have ha : j'.1 = j.1 := ha
    rw [e, ← ha]
    exact ih hR hA' ok' (by omega) (by omega)

/-- A slot is made. -/
theorem w_one14 {n : Nat} {x' : Al} {p : Pl} {w : Int} {k : Int → Tree} (h : mAl.Runs n (newAl p w 0) A x' A') (hn : n ≤ 100) (hA : Aw I A) (ok : Ok I G (keys l))
    (hk : ∀ gar, Ok I G (keys (l ++ gar)) → Aw I A' → wp Try.prog (k x'.h) L (own A' (l ++ gar) G) R) :
    wp Try.prog (.call f_magpielaw14_one [.pointer (aI I), p.val, .int .i64 w] (.one (.leaf (.int .i64))) k) L (own A l G) R := by
  refine wp_call_of (R0 := fun v K => ∃ gar, v = .int .i64 x'.h ∧ K = own A' (l ++ gar) G ∧ Ok I G (keys (l ++ gar)) ∧ Aw I A') ?_ ?_
  · refine t_magpielaw14_one_spec (p1_0 := p.work) (p1_1 := p.heads) (p1_2 := p.links) (p1_3 := p.gens) (p1_4 := p.carved) fun L => ?_
    unfold t_magpielaw14_one
    refine w_newP (c := plCells p) hA ok fun x4 ok1 => ?_
    refine w_ldA 0 hA ok1 rfl rfl rfl ?_
    refine w_NewAlloc (p := p) (w := w) (c := 0) hA ok1 (by decide) fun j ok2 => ?_
    have ok3 := ok2
    rw [keys_append] at ok3
    obtain ⟨o1, o2⟩ := ok3.split
    rw [own_append]
    refine one14_go h (fun j' o3 hA' => ?_) hA o1 (Int.le_refl 0) (by omega)
    have o4 : Ok I G (keys (x'.bl j' ++ ((x4, oc ty_free_Place (plCells p)) :: l))) := by rw [keys_append]; exact o3.join o2
    obtain ⟨p1, ok5⟩ := own_perm (A := A') (l' := l ++ (x'.bl j' ++ [(x4, oc ty_free_Place (plCells p))])) o4 (perm_by fun c d c0 cd ca => by simp only [cd, ca, c0]; omega)
    refine ⟨_, rfl, ?_, ok5, hA'⟩
    rw [← p1, own_append]
  · rintro v K ⟨gar, rfl, rfl, o, hA'⟩
    exact ⟨_, rfl, hk gar o hA'⟩

theorem sc_lift {gq mq n : Nat} {m m' : Sc} {g : Gd} {ls : Int → List (Int × Int)} {work : Int} (hl : (ls work).length ≤ 1000) (wb : 1 ≤ g.w ∧ g.w ≤ 1000) (h : mSc.Runs n m A m' A') (hm : m.left.length ≤ 1000) :
    (mLk gq mq).Runs n ⟨g, ls, work, false, 0, .sc m⟩ A (Lk.end_ ⟨g, ls, work, false, 0, .sc m'⟩) A' := by
  have st : ∀ (m : Sc) (A : Ar) (m1 : Sc) (A1 : Ar), mSc.step m A = (m1, A1) → Lk.step ⟨g, ls, work, false, 0, .sc m⟩ A = (if m1.ended = true then Lk.end_ ⟨g, ls, work, false, 0, .sc m1⟩ else ⟨g, ls, work, false, 0, .sc m1⟩, A1) := fun m A m1 A1 h => by
    have h : m.step A = (m1, A1) := h
    show (if (m.step A).1.ended = true then Lk.end_ ⟨g, ls, work, false, 0, .sc (m.step A).1⟩ else ⟨g, ls, work, false, 0, .sc (m.step A).1⟩, (m.step A).2) = _
    rw [h]
  induction h with
  | @one m A m1 A1 hi hst hu hf =>
    have hf : m1.ended = true := hf
    refine .one ⟨hl, fun h => (by cases h), wb, ⟨hi, hm⟩⟩ ?_ hu rfl
    exact (st m A m1 A1 hst).trans (by rw [if_pos hf])
  | @more n m A m1 A1 m' A' hi hst hu hf hr ih =>
    have hf : m1.ended = false := hf
    have hl1 : m1.left.length ≤ 1000 := by
      have := m.left_step A hi.ll hm
      have h : m.step A = (m1, A1) := hst
      rwa [h] at this
    refine .more (x1 := ⟨g, ls, work, false, 0, .sc m1⟩) ⟨hl, fun h => (by cases h), wb, ⟨hi, hm⟩⟩ ?_ hu rfl (ih hl1)
    exact (st m A m1 A1 hst).trans (by rw [if_neg (by rw [hf]; decide)])
end
end Go.Proofs.Ytcjhakdopnamoaa

set_option linter.unusedVariables false
set_option linter.unusedSimpArgs false
set_option maxRecDepth 20000
namespace Go.Proofs.Ytcjhakdopnamoaa
open Go Go.Fw

theorem npGd (a : Addr) : opS Try.prog (.binOp .eql ty_p_guard_Guard (.tmp 0) (.const (.pointer none)) ty_p_guard_Guard) ty_bool [(.pointer (some a))] = .pure (.value (.bool false)) := by kernel_rfl
abbrev S0g : Sg := ⟨fun _ => [], 0, fun _ => 0, fun _ => -1, 0⟩
theorem runs_pos {M J : Type} {X : Mch M J} {n : Nat} {m m' : M} {A A' : Ar} (h : X.Runs n m A m' A') : 1 ≤ n := by
  cases h <;> omega
theorem gd0 : GdS [] fun _ => [] := ⟨fun k => .inl ⟨rfl, rfl⟩, fun k => rfl⟩

/-- The first slot of all. -/
structure One1 (I : List Nat) (A : Ar) (ep : Bool) (w s k : Int) (n : Nat) (x : Al) (A' : Ar) (S' : Sg) : Prop where
  run : mAl.Runs n (newAl (plOf w (8 * s)) k 0) A x A'
  nn : (n : Int) ≤ w + 5
  sl : SL A' (plOf w (8 * s)) w (8 * s) S'
  off : Off (plOf w (8 * s)).carved n A A'
  h0 : x.h ≠ 0
  hc : opC x.h = 0
  st : A'.stF x.h = 1
  nL : A'.nL = A.nL + 8
  nR : A'.nR = A.nR
  nc : S'.nc = 8
theorem g_one1 {I : List Nat} {A : Ar} {ep : Bool} {w s k : Int} (E : GZ I A ep w s S0g) (hs : 1 ≤ s) (hu : A.uses ≤ 1000) (hk : 0 ≤ k ∧ k < w) : ∃ n x A' S', One1 I A ep w s k n x A' S' := by
  obtain ⟨n, x', A2, S', Z⟩ := alloc_solo E.sl E.aw.wf (by omega) (who := k) (c := 0) hk (by decide)
  refine ⟨n, x', A2, S', ?_⟩
  obtain ⟨kk, b', l, h1, h2, _⟩ | ⟨h1, h2, h3, h4⟩ | ⟨h1, h2, _⟩ := Z.gives.or
  · rw [ask_nil (fun _ => rfl)] at h1; cases h1
  rotate_left
  · exfalso; apply h2; show 0 + 8 ≤ 8 * s; omega
  obtain ⟨o1, o2, o3, o4, o5⟩ := carve_name E.sl (by decide) h2
  rw [← h4] at o1 o2 o3 o4 o5
  have hst := Z.st x'.h
  rw [if_pos ⟨o5, rfl⟩] at hst
  have nL := Z.nL
  rw [if_pos o5, show sizeF 0 = 8 from rfl] at nL
  exact ⟨Z.run, Z.nn, Z.sl, Z.off, o5, o3, hst, nL, Z.nR, by rw [h3]; rfl⟩

section
variable {L : Hands} {R : Value → Heap → Prop} {G : Heap} {l rest : Bl} {A A' : Ar} {I : List Nat}

theorem w_GRetire {g : Gd} {e : List LE} {ls : Int → List (Int × Int)} {q mq : Nat} {k h : Int} {K : Value → Tree} (hA : Aw I A) (ok : Ok I G (keys (g.bl q mq e ++ rest))) (gs : GdS e ls) (hl : (ls k).length < 1000)
    (h0 : retM g ls k h = none → ∀ e' gar, Ok I G (keys (g.bl q mq e' ++ (gar ++ rest))) → GdS e' (setL ls k (ls k ++ [(h, 0)])) → wp Try.prog (K .nilIface) L (own (A.retireF h) (g.bl q mq e' ++ (gar ++ rest)) G) R)
    (h1 : ∀ x, retM g ls k h = some x → ∀ j : LkJ, Ok I G (keys (x.bl j ++ rest)) → (mLk q mq).rep x j → wp Try.prog (K (.iface ty_p_guard_look (.pointer (some ⟨j.q, 0, none⟩)))) L (own (A.retireF h) (x.bl j ++ rest) G) R) :
    wp Try.prog (.call f_guard_Guard_Retire [.pointer (some ⟨q, 0, none⟩), .pointer (aI I), .int .i64 k, .int .i64 h] (.one (.leaf .val)) K) L (own A (g.bl q mq e ++ rest) G) R := by
  rw [keys_append] at ok
  obtain ⟨o1, o2⟩ := ok.split
  refine w_sub (retire_spec hA o1 gs hl) ?_
  intro v H hp
  unfold GPost at hp
  cases hm : retM g ls k h with
  | none =>
    rw [hm] at hp
    obtain ⟨e', gar, rfl, rfl, o, gs'⟩ := hp
    refine ⟨_, rfl, ?_⟩
    rw [← own_append, List.append_assoc]
    refine h0 hm e' gar ?_ gs'
    have := o.join o2
    rw [← keys_append, List.append_assoc] at this
    exact this
  | some x =>
    rw [hm] at hp
    obtain ⟨j, rfl, rfl, o, rp⟩ := hp
    refine ⟨_, rfl, ?_⟩
    rw [← own_append]
    exact h1 x hm j (by rw [keys_append]; exact o.join o2) rp

set_option maxHeartbeats 1000000 in
theorem awake14_det (H : Heap) : Det Try.prog f_magpielaw14_awake [] H (.bool true) H := by
  refine t_magpielaw14_awake_spec fun L => ?_
  unfold t_magpielaw14_awake
  refine wp_call_of (gmake_spec false 2 4 1 (by decide) (by decide) H) ?_
  rintro v K ⟨A, q, mq, rfl, rfl, hI, ok, E, r0, u0, nl, nr⟩
  refine ⟨(aI A.ids, (2, 0, 4 * 2, 4 * 2 + (8 * 4 + 7) / 8, 4 * 2 + 2 * ((8 * 4 + 7) / 8), ()), some ⟨q, 0, none⟩, ()), rfl, ?_⟩
  have hA := E.aw
  refine w_newP hA ok fun x2 ok1 => ?_
  refine w_stA 0 hA ok1 rfl rfl rfl rfl ?_
  refine look_val (x := false) (np_some _) (wp_false rfl ?_)
  refine look_val (x := false) (npGd _) (wp_false rfl ?_)
  have ok1 : Ok A.ids H (keys ((x2, oc ty_free_Place (plCells (plOf 2 32))) :: (gdOf false 2 4 1).bl q mq [])) := ok1
  show wp Try.prog _ L (own A ((x2, oc ty_free_Place (plCells (plOf 2 32))) :: (gdOf false 2 4 1).bl q mq []) H) _
  obtain ⟨p1, ok2⟩ := own_perm (A := A) (l' := (gdOf false 2 4 1).bl q mq [] ++ [(x2, oc ty_free_Place (plCells (plOf 2 32)))]) ok1 (perm_by fun c d c0 cd ca => by simp only [cd, ca, c0]; omega)
  rw [p1]
  refine w_GEnter hA ok2 (fun h => by cases h) fun _ => ?_
  refine look_val (x := false) (neqMc0 _) (wp_false rfl ?_)
  rw [← p1]
  refine w_ldA 0 hA ok1 rfl rfl rfl ?_
  obtain ⟨n, x, A1, S1, Z⟩ := g_one1 E (by decide) (by omega) (k := 0) (by decide)
  have nn := Z.nn
  refine w_one14 (p := plOf 2 32) Z.run (by omega) hA ok1 fun gar ok3 hA1 => ?_
  refine wp_true (ibne Z.h0) ?_
  obtain ⟨p2, ok4⟩ := own_perm (A := A1) (l' := (gdOf false 2 4 1).bl q mq [] ++ ((x2, oc ty_free_Place (plCells (plOf 2 32))) :: gar)) ok3 (perm_by fun c d c0 cd ca => by simp only [List.cons_append, cd, ca, c0]; omega)
  rw [p2]
  have n1 := runs_pos Z.run
  have off := Z.off.us
  have zl := Z.nL
  have zr := Z.nR
  have rl := E.rl
  have rl : (A.raw.length : Int) = 21 := rl
  obtain ⟨Y, yst, yL, yR⟩ := Z.sl.retire (by omega) Z.st ⟨by rw [Z.hc, show sizeF 0 = 8 from rfl]; omega, by rw [Z.hc, show sizeF 0 = 8 from rfl]; omega⟩
  have ro := Off.retireF (c := (plOf 2 32).carved) hA1.wf x.h
  have ru := ro.us
  have rr := ro.rl
  have zrl := Z.off.rl
  have hx0 := Z.h0
  rw [Z.hc, show sizeF 0 = 8 from rfl] at yR
  refine w_GRetire (k := 0) (h := x.h) hA1 ok4 gd0 (by decide) (fun h => by cases h) fun y hy j ok5 rp => ?_
  have hy : some (retLk (gdOf false 2 4 1) (fun _ => []) 0 x.h).begin = some y := hy
  obtain rfl := Option.some.inj hy
  have hA2 : Aw A.ids (A1.retireF x.h) := hA1.retireF x.h
  generalize A1.retireF x.h = A2 at *
  have rw0 : ∀ i, 16 < i → A2.rawF i = 0 := fun i hi => by
    have c16 : (plOf 2 32).carved = 16 := rfl
    rw [ro.rw i (by rw [c16]; exact hi), Z.off.rw i (by show (16 : Int) < i; exact hi)]; exact r0 i
  have in1 : inS (seenN A2 17 (2 * (2 : Int)).toNat) x.h = false := by
    cases h : inS (seenN A2 17 (2 * (2 : Int)).toNat) x.h with
    | false => rfl
    | true =>
      exfalso
      obtain ⟨i, i1, i2⟩ := (seenN_in A2 17 x.h _).1 h
      rw [rw0 _ (by omega)] at i2; exact hx0 i2.symm
  have eg : gone A2 2 17 [x.h] = [x.h] := by unfold gone; simp only [List.filter_cons, in1]; rfl
  have el : lft A2 2 17 [x.h] = [] := by unfold lft; simp only [List.filter_cons, in1]; rfl
  obtain ⟨A3, S3, m', n3, run, en, ml, me, W⟩ := scan_all (tw := 2) (ta := 17) (who := 0) (xs := [x.h]) Y hA2.wf (by decide) (by show 1 ≤ 1000; decide) (by decide) (by rw [rr, zrl]; omega) (by rw [rr, zrl]; omega) (by omega) (by decide) (by simp) (by rw [yR]; show (8 : Int) * 1 ≤ _; omega) fun h hh => by
    have : h = x.h := by simpa using hh
    subst this
    rw [yst, if_pos rfl]; exact ⟨rfl, Z.hc⟩
  rw [eg] at en W
  rw [el] at ml
  have lift := sc_lift (gq := q) (mq := mq) (g := gdOf false 2 4 1) (ls := setL (fun _ => []) 0 [(x.h, 0)]) (work := 0) (by rw [setL_same]; exact Nat.succ_le_succ (Nat.zero_le 999)) (by decide) run (Nat.zero_le 1000)
  refine w_runR14 (mLk_ok q mq) (mLk_inv q mq) lift (by rw [en]; show 2 * 2 + 3 * 1 ≤ 3000; decide) (j := j) hA2 ok5 rp fun j' ha hA3 ok6 rp6 => ?_
  refine wp_true rfl ?_
  refine w_State hA3 ?_
  have s1 : A3.stF x.h = 0 := by rw [W.st, if_pos (by simp)]
  refine wp_true (ibeq s1) ?_
  have ok7 : Ok A.ids H (keys ((j'.q, oc ty_guard_look (lkC j'.gq 0 false 0 .nilIface)) :: ((gdOf false 2 4 1).bl j'.gq j'.mq j'.e ++ ([] ++ j'.gar)) ++ ((x2, oc ty_free_Place (plCells (plOf 2 32))) :: gar))) := ok6
  show wp Try.prog _ L (own A3 ((j'.q, oc ty_guard_look (lkC j'.gq 0 false 0 .nilIface)) :: ((gdOf false 2 4 1).bl j'.gq j'.mq j'.e ++ ([] ++ j'.gar)) ++ ((x2, oc ty_free_Place (plCells (plOf 2 32))) :: gar)) H) _
  obtain ⟨rp7, e1, e2⟩ := rp6
  obtain ⟨p3, ok8⟩ := own_perm (A := A3) (l' := (gdOf false 2 4 1).bl q mq j'.e ++ ((j'.q, oc ty_guard_look (lkC j'.gq 0 false 0 .nilIface)) :: (j'.gar ++ ((x2, oc ty_free_Place (plCells (plOf 2 32))) :: gar)))) ok7 (perm_by fun c d c0 cd ca => by rw [e1, e2]; simp only [List.cons_append, List.append_assoc, List.nil_append, cd, ca]; omega)
  rw [p3]
  refine w_GLeft hA3 ok8 ?_
  have z0 : (leGet j'.e 0).s.len = 0 := by
    rw [(rp7.le 0).len, rp7.ls 0]
    show (setL (setL (fun _ => []) 0 [(x.h, 0)]) 0 (m'.left.map fun h => (h, (0 : Int))) 0).length = 0
    rw [setL_same, ml]; rfl
  rw [z0]
  exact ⟨H, own_end hA3 ok8 hI, rfl, rfl⟩
end
end Go.Proofs.Ytcjhakdopnamoaa

set_option linter.unusedVariables false
set_option linter.unusedSimpArgs false
set_option maxRecDepth 20000
namespace Go.Proofs.Ytcjhakdopnamoaa
open Go Go.Fw

def Mch.toR {M J : Type} (X : Mch M J) : MchR M J := ⟨X.f, X.addr, X.bl, fun _ _ => True, X.inv, X.step, X.fin⟩
theorem Mch.toR_ok {M J : Type} {X : Mch M J} (h : X.ok) : X.toR.ok := fun I A G m j hA ok _ hi => by
  obtain ⟨h0⟩ : Nonempty (SpecF Try.prog X.f #[.pointer (some ⟨X.addr j, 0, none⟩), .pointer (aI I)] (own A (X.bl m j) G) fun v K => ∃ j', v = .bool (X.fin (X.step m A).1) ∧ K = own (X.step m A).2 (X.bl (X.step m A).1 j') G ∧ X.addr j' = X.addr j ∧ Ok I G (keys (X.bl (X.step m A).1 j')) ∧ Aw I (X.step m A).2) := ⟨h I A G m j hA ok hi⟩
  refine h0.mono ?_
  rintro v K ⟨j', a, b, c, d, e⟩
  exact ⟨j', a, b, c, d, trivial, e⟩
theorem Mch.toR_runs {M J : Type} {X : Mch M J} {n : Nat} {m m' : M} {A A' : Ar} (h : X.Runs n m A m' A') : X.toR.Runs n m A m' A' := by
  induction h with
  | one hi hu hf => exact .one hi rfl hu hf
  | more hi hu hf _ ih => exact .more hi rfl hu hf ih
theorem set1 {a v : Int} {A : Ar} (hu : (A.storeR a v).uses ≤ w64 (A.uses + 1)) : mSe.Runs 1 ⟨[a], v⟩ A ⟨[], v⟩ (A.storeR a v) := .one trivial rfl hu rfl
theorem set2 {a b v : Int} {A : Ar} (hu : (A.storeR a v).uses ≤ w64 (A.uses + 1)) (hu2 : ((A.storeR a v).storeR b v).uses ≤ w64 ((A.storeR a v).uses + 1)) : mSe.Runs 2 ⟨[a, b], v⟩ A ⟨[], v⟩ ((A.storeR a v).storeR b v) := .more trivial rfl hu rfl (set1 hu2)
end Go.Proofs.Ytcjhakdopnamoaa

set_option linter.unusedVariables false
set_option linter.unusedSimpArgs false
set_option maxRecDepth 20000
namespace Go.Proofs.Ytcjhakdopnamoaa
open Go Go.Fw

section
variable {L : Hands} {R : Value → Heap → Prop} {G : Heap} {rest : Bl} {A A' : Ar} {I : List Nat} {w s th : Int} {ep : Bool}

theorem GZ.gi (E : GZ I A ep w s S0g) (r0 : ∀ i, A.rawF i = 0) (u0 : A.uses = 0) (nl : A.nL = 0) (nr : A.nR = 0) : GI A (gdOf ep w s th) (8 * s) S0g fun _ => [] := by
  have wb := E.wb
  have sb := E.sb
  have rl := E.rl
  have gw : gwords ep w ≤ 100 := by unfold gwords; cases ep <;> simp <;> omega
  refine ⟨E.aw.wf, E.sl, E.fa, ?_, ⟨wb.1, by show w ≤ 100; omega⟩, ?_, by omega, fun _ _ h => (by cases h), fun _ => .nil, fun _ _ _ _ h => (by cases h), fun _ h => (h rfl).elim, ?_, by omega, by omega, fun _ _ _ h => (by cases h), fun _ => ?_, fun _ _ _ h => (by cases h)⟩
  · show 4 * w + 2 * ((8 * s + 7) / 8) < 4 * w + 2 * s + 1; omega
  · show 4 * w + 2 * s + 1 + gwords ep w ≤ _; omega
  · rw [nr]
    have : ∀ n, totR (fun _ => []) n = 0 := fun n => by
      induction n with
      | zero => rfl
      | succ n ih => show totR (fun _ => []) n + 0 = 0; omega
    exact (this _).symm
  · rw [r0, u0]; exact ⟨Int.le_refl 0, Int.le_refl 0⟩

/-- Retired, and run. -/
theorem w_retire14 {g : Gd} {e : List LE} {ls l' : Int → List (Int × Int)} {q mq : Nat} {k h : Int} {K : Bool → Tree} (hA : Aw I A) (hA' : Aw I A') (ok : Ok I G (keys (g.bl q mq e ++ rest))) (gs : GdS e ls) (hl : (ls k).length < 1000)
    (r : RunO q mq (retM g ls k h) g k (A.retireF h) (setL ls k (ls k ++ [(h, 0)])) l' A')
    (hk : ∀ e' gar, Ok I G (keys (g.bl q mq e' ++ (gar ++ rest))) → GdS e' l' → wp Try.prog (K true) L (own A' (g.bl q mq e' ++ (gar ++ rest)) G) R) :
    wp Try.prog (.call f_guard_Guard_Retire [.pointer (some ⟨q, 0, none⟩), .pointer (aI I), .int .i64 k, .int .i64 h] (.one (.leaf .val)) fun x => .call f_magpielaw14_run [.pointer (aI I), x] (.one (.leaf .bool)) K) L (own A (g.bl q mq e ++ rest) G) R := by
  refine w_GRetire hA ok gs hl (fun hm e' gar ok' gs' => ?_) fun x hm j ok' rp => ?_
  · rw [hm] at r
    obtain ⟨rfl, rfl⟩ := r
    exact w_run14_nil (hk e' gar ok' gs')
  · rw [hm] at r
    obtain ⟨n, hn, r⟩ := r
    refine w_runR14 (mLk_ok q mq) (mLk_inv q mq) r (by omega) (j := j) (hA.retireF h) ok' rp fun j' ha _ ok6 rp6 => ?_
    obtain ⟨rp7, e1, e2⟩ := rp6
    have ok7 : Ok I G (keys ((j'.q, oc ty_guard_look (lkC j'.gq k false 0 .nilIface)) :: (g.bl j'.gq j'.mq j'.e ++ ([] ++ j'.gar)) ++ rest)) := ok6
    show wp Try.prog _ L (own A' ((j'.q, oc ty_guard_look (lkC j'.gq k false 0 .nilIface)) :: (g.bl j'.gq j'.mq j'.e ++ ([] ++ j'.gar)) ++ rest) G) _
    obtain ⟨p3, ok8⟩ := own_perm (A := A') (l' := g.bl q mq j'.e ++ (((j'.q, oc ty_guard_look (lkC j'.gq k false 0 .nilIface)) :: j'.gar) ++ rest)) ok7 (perm_by fun c d c0 cd ca => by rw [e1, e2]; simp only [List.cons_append, List.append_assoc, List.nil_append, cd, ca]; omega)
    rw [p3]
    exact hk _ _ ok8 ⟨rp7.le, rp7.ls⟩

theorem w_GForce {g : Gd} {e : List LE} {ls : Int → List (Int × Int)} {q mq : Nat} {k : Int} {K : Value → Tree} (hA : Aw I A) (ok : Ok I G (keys (g.bl q mq e ++ rest))) (gs : GdS e ls) (hl : (ls k).length ≤ 1000)
    (h0 : forM g ls k = none → ∀ e' gar, Ok I G (keys (g.bl q mq e' ++ (gar ++ rest))) → GdS e' ls → wp Try.prog (K .nilIface) L (own A (g.bl q mq e' ++ (gar ++ rest)) G) R)
    (h1 : ∀ x, forM g ls k = some x → ∀ j : LkJ, Ok I G (keys (x.bl j ++ rest)) → (mLk q mq).rep x j → wp Try.prog (K (.iface ty_p_guard_look (.pointer (some ⟨j.q, 0, none⟩)))) L (own A (x.bl j ++ rest) G) R) :
    wp Try.prog (.call f_guard_Guard_Force [.pointer (some ⟨q, 0, none⟩), .int .i64 k] (.one (.leaf .val)) K) L (own A (g.bl q mq e ++ rest) G) R := by
  rw [keys_append] at ok
  obtain ⟨o1, o2⟩ := ok.split
  refine w_sub (force_spec hA o1 gs hl) ?_
  intro v H hp
  unfold GPost at hp
  cases hm : forM g ls k with
  | none =>
    rw [hm] at hp
    obtain ⟨e', gar, rfl, rfl, o, gs'⟩ := hp
    refine ⟨_, rfl, ?_⟩
    rw [← own_append, List.append_assoc]
    refine h0 hm e' gar ?_ gs'
    have := o.join o2
    rw [← keys_append, List.append_assoc] at this
    exact this
  | some x =>
    rw [hm] at hp
    obtain ⟨j, rfl, rfl, o, rp⟩ := hp
    refine ⟨_, rfl, ?_⟩
    rw [← own_append]
    exact h1 x hm j (by rw [keys_append]; exact o.join o2) rp

theorem w_force14 {g : Gd} {e : List LE} {ls l' : Int → List (Int × Int)} {q mq : Nat} {k : Int} {K : Bool → Tree} (hA : Aw I A) (ok : Ok I G (keys (g.bl q mq e ++ rest))) (gs : GdS e ls) (hl : (ls k).length ≤ 1000)
    (r : RunO q mq (forM g ls k) g k A ls l' A')
    (hk : ∀ e' gar, Ok I G (keys (g.bl q mq e' ++ (gar ++ rest))) → GdS e' l' → wp Try.prog (K true) L (own A' (g.bl q mq e' ++ (gar ++ rest)) G) R) :
    wp Try.prog (.call f_guard_Guard_Force [.pointer (some ⟨q, 0, none⟩), .int .i64 k] (.one (.leaf .val)) fun x => .call f_magpielaw14_run [.pointer (aI I), x] (.one (.leaf .bool)) K) L (own A (g.bl q mq e ++ rest) G) R := by
  refine w_GForce hA ok gs hl (fun hm e' gar ok' gs' => ?_) fun x hm j ok' rp => ?_
  · rw [hm] at r
    obtain ⟨rfl, rfl⟩ := r
    exact w_run14_nil (hk e' gar ok' gs')
  · rw [hm] at r
    obtain ⟨n, hn, r⟩ := r
    refine w_runR14 (mLk_ok q mq) (mLk_inv q mq) r (by omega) (j := j) hA ok' rp fun j' ha _ ok6 rp6 => ?_
    obtain ⟨rp7, e1, e2⟩ := rp6
    have ok7 : Ok I G (keys ((j'.q, oc ty_guard_look (lkC j'.gq k false 0 .nilIface)) :: (g.bl j'.gq j'.mq j'.e ++ ([] ++ j'.gar)) ++ rest)) := ok6
    show wp Try.prog _ L (own A' ((j'.q, oc ty_guard_look (lkC j'.gq k false 0 .nilIface)) :: (g.bl j'.gq j'.mq j'.e ++ ([] ++ j'.gar)) ++ rest) G) _
    obtain ⟨p3, ok8⟩ := own_perm (A := A') (l' := g.bl q mq j'.e ++ (((j'.q, oc ty_guard_look (lkC j'.gq k false 0 .nilIface)) :: j'.gar) ++ rest)) ok7 (perm_by fun c d c0 cd ca => by rw [e1, e2]; simp only [List.cons_append, List.append_assoc, List.nil_append, cd, ca]; omega)
    rw [p3]
    exact hk _ _ ok8 ⟨rp7.le, rp7.ls⟩
end

/-- A new slot, where there is room. -/
structure SlotZ (A : Ar) (g : Gd) (m : Int) (S : Sg) (l : Int → List (Int × Int)) (who c : Int) (n : Nat) (x : Al) (B : Ar) (S' : Sg) : Prop where
  z : Alloced A g.pl g.w m S who c n x B S'
  gi : GI B g m S' l
  cv : S'.cv ≤ S.cv + sizeF c
  nz : S.cv + sizeF c ≤ m → x.h ≠ 0
  un : A.uses ≤ B.uses ∧ B.uses ≤ A.uses + g.w + 5
theorem GI.slot {A : Ar} {g : Gd} {m : Int} {S : Sg} {l : Int → List (Int × Int)} (X : GI A g m S l) (hu : A.uses ≤ 900000) {who c : Int} (wh : 0 ≤ who ∧ who < g.w) (hc : 0 ≤ c ∧ c < 4) : ∃ n x B S', SlotZ A g m S l who c n x B S' := by
  obtain ⟨n, x, B, S', Z⟩ := alloc_solo X.sl X.wf (by omega) wh hc
  have sz := sz_pos hc.1 hc.2
  have us := Z.off.us
  have nn := Z.nn
  refine ⟨n, x, B, S', Z, X.alloc hc Z, ?_, fun hm => ?_, ⟨by omega, by omega⟩⟩
  · obtain ⟨kk, b', l', h1, h2, _, _, _, h3, _⟩ | ⟨h1, h2, h3, h4⟩ | ⟨h1, h2, h3, _⟩ := Z.gives.or
    · rw [h3]; show S.cv ≤ _; omega
    · rw [h3]; show S.cv + _ ≤ _; omega
    · rw [h3]; omega
  · obtain ⟨kk, b', l', h1, h2, _, _, hcc, h3, h4⟩ | ⟨h1, h2, h3, h4⟩ | ⟨h1, h2, h3, _⟩ := Z.gives.or
    · rw [h4]; exact (list_name X.sl (by omega) h2 hcc).2.2.2.2
    · rw [h4]; exact (carve_name X.sl hc h2).2.2.2.2
    · exact (h2 hm).elim
end Go.Proofs.Ytcjhakdopnamoaa

set_option linter.unusedVariables false
set_option linter.unusedSimpArgs false
set_option maxRecDepth 20000
namespace Go.Proofs.Ytcjhakdopnamoaa
open Go Go.Fw

section
variable {L : Hands} {R : Value → Heap → Prop} {G : Heap} {rest : Bl} {A A' : Ar} {I : List Nat} {w s th : Int} {ep : Bool}

theorem w_ckRem {i t v : Int} {K : Heap} {s : Tree} (h0 : 0 ≤ i) (h1 : 1 ≤ t) (hv : v = i % t) (h : wp Try.prog s L K R) : wp Try.prog (.check (opS Try.prog (.binOp .rem ty_int (.tmp 0) (.tmp 1) ty_int) ty_int [(.int .i64 i), (.int .i64 t)]) (.int .i64 v) s) L K R := by
  refine check_val ?_ h
  rw [opS_rem (by omega), hv, Int.tmod_eq_emod_of_nonneg h0]
theorem w_rem {i t : Int} {K : Heap} {k : Int → Tree} (h0 : 0 ≤ i) (h1 : 1 ≤ t) (h : wp Try.prog (k (i % t)) L K R) : wp Try.prog (.look (opS Try.prog (.binOp .rem ty_int (.tmp 0) (.tmp 1) ty_int) ty_int [(.int .i64 i), (.int .i64 t)]) (.one (.leaf (.int .i64))) k) L K R := by
  refine look_val (x := i % t) ?_ h
  rw [opS_rem (by omega), Int.tmod_eq_emod_of_nonneg h0]

/-- Left, told. -/
theorem w_GLeft' {g : Gd} {e : List LE} {l : Int → List (Int × Int)} {q mq : Nat} {k : Int} {K : Int → Tree} (hA : Aw I A) (ok : Ok I G (keys (g.bl q mq e ++ rest))) (gs : GdS e l) (h : wp Try.prog (K (l k).length) L (own A (g.bl q mq e ++ rest) G) R) :
    wp Try.prog (.call f_guard_Guard_Left [.pointer (some ⟨q, 0, none⟩), .int .i64 k] (.one (.leaf (.int .i64))) K) L (own A (g.bl q mq e ++ rest) G) R := by
  refine w_GLeft hA ok ?_
  rw [(gs.le k).len, gs.ls k]; exact h
end

structure GL (I : List Nat) (A : Ar) (g : Gd) (S : Sg) (l : Int → List (Int × Int)) (i : Int) : Prop where
  aw : Aw I A
  gi : GI A g 800 S l
  l0 : l 0 = []
  l1 : ((l 1).length : Int) = (i - 1) % g.th
  oc : ∀ k x, x ∈ l k → opC x.1 = 0
  rw : ∀ j, g.pl.carved < j → A.rawF j = 0
  cv : S.cv ≤ 8 * (i - 1)
  us : A.uses ≤ 500 * (i - 1)
  nL : A.nL = 0

end Go.Proofs.Ytcjhakdopnamoaa

set_option linter.unusedVariables false
set_option linter.unusedSimpArgs false
set_option maxRecDepth 20000
namespace Go.Proofs.Ytcjhakdopnamoaa
open Go Go.Fw

theorem totR_nil {l : Int → List (Int × Int)} (h : ∀ k, l k = []) : ∀ n, totR l n = 0
  | 0 => rfl
  | n + 1 => by show totR l n + szs ((l (n : Int)).map Prod.fst) = 0; rw [totR_nil h n, h]; rfl

/-- With no word told all goes. -/
theorem Lkd.all {A B : Ar} {g : Gd} {m : Int} {S : Sg} {l : Int → List (Int × Int)} {k : Int} {keep : Int × Int → Bool} {hs : List Int} (X : GI A g m S l) (hu : A.uses ≤ 900000) (L : Lkd A g m S l k keep hs (forT g) B) (h : ∀ j, g.pl.carved < j → (g.ep = true → j ≠ g.ta) → A.rawF j = 0) :
    ∀ x ∈ l k, keep x = false := fun x hx => by
  have ta := X.ta
  cases he : g.ep with
  | false =>
    cases hk : keep x with
    | false => rfl
    | true =>
      obtain ⟨j, j1, j2⟩ := ((L.ha he).2 x).1 hk
      rw [h _ (by omega) (fun h => by rw [he] at h; cases h)] at j2
      exact (stF_ne0 (by rw [X.st k x hx]; decide) j2.symm).elim
  | true =>
    have f := L.free he fun i hi => h _ (by omega) fun _ => by omega
    have hk := (L.ep he).2.2.2
    obtain ⟨s0, s1⟩ := X.es he k x hx
    obtain ⟨e0, e1⟩ := X.eb he
    have ft : ((forT g : Nat) : Int) = 3 := by unfold forT; rw [if_pos he]; rfl
    rw [hk]
    show (!due _ x) = false
    have : due (B.rawF g.ta) x = true := by
      unfold due
      exact decide_eq_true (by rw [w64_in (by omega) (by omega)]; omega)
    rw [this]; rfl

structure GF (I : List Nat) (A : Ar) (g : Gd) (S : Sg) (l : Int → List (Int × Int)) (who i : Int) : Prop where
  aw : Aw I A
  gi : GI A g 320 S l
  le : ∃ xs, l = setL (fun _ => []) who xs ∧ (xs.length : Int) = i ∧ ∀ x ∈ xs, opC x.1 = 0
  rw : ∀ j, g.pl.carved < j → A.rawF j = 0
  ch : ∀ k, S.ch k = []
  cv : S.cv ≤ 8 * i
  nc : S.nc = 8 * i
  us : A.uses ≤ 500 * i
  nL : A.nL = 0

end Go.Proofs.Ytcjhakdopnamoaa

