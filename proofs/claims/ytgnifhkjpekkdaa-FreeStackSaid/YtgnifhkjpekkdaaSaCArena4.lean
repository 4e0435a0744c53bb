import Derived.Test.YtgnifhkjpekkdaaSaCArena3
set_option linter.unusedVariables false
set_option maxRecDepth 20000
namespace Go.Proofs.Ytgnifhkjpekkdaa
open Go Go.Fw

/-- A loop with one number. -/
theorem wp_loop_int {L : Hands} {H : Heap} {R : Value → Heap → Prop} {n : Nat} {init : List Value} {body : HL Sh1.T [.leaf (.int .i64)] → Tree} (I : Int → Heap → Prop) (m : Int → Nat) (i0 : Int) (hi : I i0 H)
    (hstep : ∀ (i : Int) H', I i H' → wp Try.prog (body (i, ())) (L.set n fun vals H'' => ∃ j : Int, vals = [.int .i64 j] ∧ I j H'' ∧ m j < m i) H' R) (h0 : init = [.int .i64 i0] := by rfl) :
    wp Try.prog (.loop n [.leaf (.int .i64)] init body) L H R := by
  refine wp_loop_inv (fun x K => I x.1 K) (fun x _ => m x.1) (i0, ()) h0 hi ?_
  rintro ⟨i, u⟩ K hI
  refine Go.Fw.wp_mono _ (hstep i K hI) (fun k vals H'' hk => ?_) (fun _ _ h => h)
  unfold Hands.set at *
  split at hk
  · rename_i e; rw [if_pos e]; obtain ⟨j, h1, h2, h3⟩ := hk; exact ⟨(j, ()), h1, h2, h3⟩
  · rename_i e; rw [if_neg e]; exact hk

def Ar.withS (A : Ar) (b h s : Int) : Ar := { A with slots := alPut A.slots b (h, s) }

theorem set_slots {A : Ar} (hA : A.nd) (b h s : Int) (H : Heap) : (A.put H).set A.s (mapObj encSlot (alPut A.slots b (h, s))) = (A.withS b h s).put H :=
  Ar.set_any (B := A.withS b h s) hA ⟨rfl, rfl, rfl, rfl, rfl, rfl, rfl⟩ H _ _ (.inr (.inr (.inr (.inl ⟨rfl, rfl, rfl, rfl, rfl, rfl, rfl, rfl⟩))))

def Ar.turnF (A : Ar) (h s t : Int) : Ar := if A.stF h = s then A.withS (opB h) h t else A
def Ar.turnN (A : Ar) (h s : Int) : Int := if A.stF h = s then sizeF (opC h) else 0
def Ar.turnB (A : Ar) (h s : Int) : Bool := decide (A.stF h = s)

theorem turn_det {A : Ar} (hA : A.nd) (h s t : Int) (H : Heap) : Det Try.prog f_arena_Arena_turn [pA A, .int .i64 h, .int .i64 s, .int .i64 t] (A.put H)
    (.tuple #[.int .i64 (A.turnN h s), .bool (A.turnB h s)]) ((A.turnF h s t).put H) := by
  refine t_arena_Arena_turn_spec fun L => ?_
  unfold t_arena_Arena_turn Ar.turnF Ar.turnN Ar.turnB
  refine wp_call_det (State_det hA h H) ?_
  by_cases e : A.stF h = s
  · rw [if_pos e, if_pos e, decide_eq_true e]
    refine wp_false (ibnf e) ?_
    refine wp_qcall_det (Open_all _ _) (wp_nil.2 ?_)
    refine wp_fld (x := some A.s) (n := 3) ?_
    refine wp_mapUpdate (kt := ty_int) (et := ty_arena_slot) (enc := encSlot) (v := (h, t)) (Ar.at_s hA H) rfl rfl ?_
    rw [set_slots hA]
    exact wp_qcall_det (Size_det _ _) (wp_ret_of ⟨rfl, rfl⟩)
  · rw [if_neg e, if_neg e, decide_eq_false e]
    exact wp_true (ibne e) (wp_ret_of ⟨rfl, rfl⟩)

theorem turnF_nd {A : Ar} (hA : A.nd) (h s t : Int) : (A.turnF h s t).nd := by unfold Ar.turnF; split <;> exact hA

def Ar.addL (A : Ar) (n : Int) : Ar := { A with nL := w64 (A.nL + n) }
def Ar.subL (A : Ar) (n : Int) : Ar := { A with nL := w64 (A.nL - n) }
def Ar.addR (A : Ar) (n : Int) : Ar := { A with nR := w64 (A.nR + n) }
def Ar.subR (A : Ar) (n : Int) : Ar := { A with nR := w64 (A.nR - n) }
def Ar.addF (A : Ar) (n : Int) : Ar := { A with nF := w64 (A.nF + n) }
def Ar.subF (A : Ar) (n : Int) : Ar := { A with nF := w64 (A.nF - n) }
def Ar.addC (A : Ar) (n : Int) : Ar := { A with nC := w64 (A.nC + n) }

def Ar.retireF (A : Ar) (h : Int) : Ar := ((A.turnF h 1 2).subL (A.turnN h 1)).addR (A.turnN h 1)

theorem Retire_det {A : Ar} (hA : A.nd) (h : Int) (H : Heap) : Det Try.prog f_arena_Arena_Retire [pA A, .int .i64 h] (A.put H) (.bool (A.turnB h 1)) ((A.retireF h).put H) := by
  refine t_arena_Arena_Retire_spec fun L => ?_
  unfold t_arena_Arena_Retire
  refine wp_call_det (x := (A.turnN h 1, A.turnB h 1, ())) (turn_det hA h 1 2 H) (wp_nil.2 ?_)
  have hB := turnF_nd hA h 1 2
  have ea : A.a = (A.turnF h 1 2).a := by unfold Ar.turnF; split <;> rfl
  have er : A.retireF h = ((A.turnF h 1 2).subL (A.turnN h 1)).addR (A.turnN h 1) := rfl
  rw [er, ea]
  generalize A.turnF h 1 2 = B at hB ⊢
  generalize A.turnN h 1 = n
  refine wp_fld (x := B.nL) (n := 8) (wp_nil.2 ?_)
  refine wp_setf (B.subL n) (n := 8) (u := .int .i64 B.nL) hB (wp_nil.2 ?_)
  refine wp_fld (A := B.subL n) (x := B.nR) (n := 9) (wp_nil.2 ?_)
  exact wp_setf (A := B.subL n) ((B.subL n).addR n) (n := 9) (u := .int .i64 B.nR) hB (wp_ret_of ⟨rfl, rfl⟩)

/-- A piece of a list, all of it v. -/
def setN {α : Type} (l : List α) (b : Nat) (v : α) : Nat → List α
  | 0 => l
  | n + 1 => (setN l b v n).set (b + n) v

theorem setN_length {α : Type} (l : List α) (b : Nat) (v : α) (n : Nat) : (setN l b v n).length = l.length := by
  induction n with
  | zero => rfl
  | succ n ih => simp only [setN, List.length_set, ih]

theorem setN_get {α : Type} (l : List α) (b : Nat) (v : α) (n i : Nat) : (setN l b v n)[i]? = if b ≤ i ∧ i < b + n ∧ i < l.length then some v else l[i]? := by
  induction n with
  | zero => rw [if_neg (by omega)]; rfl
  | succ n ih =>
    simp only [setN, List.getElem?_set, setN_length, ih]
    by_cases h1 : b + n = i
    · rw [if_pos h1]
      by_cases h2 : b + n < l.length
      · rw [if_pos h2, if_pos (by omega)]
      · rw [if_neg h2, if_neg (by omega)]
        exact (List.getElem?_eq_none (by omega)).symm
    · rw [if_neg h1]
      by_cases h2 : b ≤ i ∧ i < b + n ∧ i < l.length
      · rw [if_pos h2, if_pos (by omega)]
      · rw [if_neg h2, if_neg (by omega)]

def Ar.busyN (A : Ar) (b : Nat) (v : Bool) (n : Nat) : Ar := { A with busy := setN A.busy b v n }

theorem set_busy {A B : Ar} (hA : A.nd) (h : Ar.Alike A B) (v : Bool) (n : Nat) (hb : B.busy = A.busy.set n v) (hB : B.arrA = A.arrA ∧ B.objR = A.objR ∧ B.objW = A.objW ∧ B.objS = A.objS ∧ B.objC = A.objC ∧ B.objG = A.objG) (H : Heap) :
    (A.put H).set A.b (.cells ((bools A.busy).setIfInBounds n (.bool v)) ty_bool (0, 0)) = B.put H := by
  refine Ar.set_any (B := B) hA h H _ _ (.inr (.inr (.inr (.inr (.inl ⟨rfl, ?_, ?_, hB.2.1, hB.2.2.1, hB.2.2.2.1, hB.2.2.2.2.1, hB.2.2.2.2.2⟩)))))
  · unfold Ar.objB; rw [bools_set, hb]
  · unfold Ar.objA; rw [hB.1]

theorem set_carved {A B : Ar} (hA : A.nd) (h : Ar.Alike A B) (v : Bool) (n : Nat) (hb : B.carved = A.carved.set n v) (hB : B.arrA = A.arrA ∧ B.objR = A.objR ∧ B.objW = A.objW ∧ B.objS = A.objS ∧ B.objB = A.objB ∧ B.objG = A.objG) (H : Heap) :
    (A.put H).set A.c (.cells ((bools A.carved).setIfInBounds n (.bool v)) ty_bool (0, 0)) = B.put H := by
  refine Ar.set_any (B := B) hA h H _ _ (.inr (.inr (.inr (.inr (.inr (.inl ⟨rfl, ?_, ?_, hB.2.1, hB.2.2.1, hB.2.2.2.1, hB.2.2.2.2.1, hB.2.2.2.2.2⟩))))))
  · unfold Ar.objC; rw [bools_set, hb]
  · unfold Ar.objA; rw [hB.1]

def Ar.diedF (A : Ar) (h : Int) : Ar := (((A.turnF h 2 0).busyN (opB h).toNat false (A.turnN h 2).toNat).subR (A.turnN h 2)).addF (A.turnN h 2)

theorem turnN_le {A : Ar} (hA : A.wf) (h : Int) {s : Int} (hs : s ≠ 0) : 0 ≤ A.turnN h s ∧ A.turnN h s ≤ 64 ∧ (A.turnN h s ≠ 0 → opB h + A.turnN h s ≤ A.words.length) := by
  unfold Ar.turnN
  have := size_opC h
  split
  · rename_i e
    refine ⟨by omega, by omega, fun _ => hA.fit h (by omega)⟩
  · omega

theorem arrA_busy (A : Ar) (l : List Bool) (h : l.length = A.busy.length) : ({ A with busy := l } : Ar).arrA = A.arrA := by unfold Ar.arrA; rw [h]

theorem Died_det {A : Ar} (hA : A.wf) (h : Int) (H : Heap) : Det Try.prog f_arena_Arena_Died [pA A, .int .i64 h] (A.put H) (.bool (A.turnB h 2)) ((A.diedF h).put H) := by
  have hn := turnN_le hA h (s := 2) (by omega)
  have hB := turnF_nd hA.nd h 2 0
  have hbl : (A.turnF h 2 0).busy.length = A.words.length := by unfold Ar.turnF; split <;> exact hA.busy
  have hw := hA.words
  have ho := opB_nat h
  refine t_arena_Arena_Died_spec fun L => ?_
  unfold t_arena_Arena_Died
  refine wp_call_det (x := (A.turnN h 2, A.turnB h 2, ())) (turn_det hA.nd h 2 0 H) ?_
  refine wp_qcall_det (Open_all _ _) ?_
  have ea : A.a = (A.turnF h 2 0).a := by unfold Ar.turnF; split <;> rfl
  have er : A.diedF h = (((A.turnF h 2 0).busyN (opB h).toNat false (A.turnN h 2).toNat).subR (A.turnN h 2)).addF (A.turnN h 2) := rfl
  rw [er, ea]
  generalize A.turnF h 2 0 = B at hB hbl ⊢
  generalize A.turnN h 2 = n at hn ⊢
  refine wp_loop_int (fun i K => 0 ≤ i ∧ i ≤ n ∧ K = (B.busyN (opB h).toNat false i.toNat).put H) (fun i => (n - i).toNat) 0 ⟨Int.le_refl 0, hn.1, rfl⟩ ?_
  intro i K ⟨h0, h1, hK⟩
  rw [hK]
  rw [t_arena_Arena_Died_L1]
  have hC : (B.busyN (opB h).toNat false i.toNat).nd := hB
  have hCl : (B.busyN (opB h).toNat false i.toNat).busy.length = A.words.length := (setN_length _ _ _ _).trans hbl
  by_cases hlt : i < n
  · refine wp_true (ilt hlt) (wp_nil.2 ?_)
    have hfit := hn.2.2 (by omega)
    have e1 : w64 (opB h + i) = opB h + i := w64_in (by omega) (by omega)
    have e2 : w64 (i + 1) = i + 1 := w64_in (by omega) (by omega)
    refine wp_fld (A := B.busyN (opB h).toNat false i.toNat) (x := Sl.mk (some ⟨B.b, 0, none⟩) A.words.length A.words.length) (n := 4) (hx := by
      rw [← hCl]; rfl) ?_
    refine look_val (x := Addr.mk B.b (0 + (opB h + i).toNat) none) ?_ ?_
    · show opS Try.prog _ _ [_, .int .i64 (w64 (opB h + i))] = _
      rw [e1]
      exact idx_bool (by omega) (by show opB h + i < ((A.words.length : Nat) : Int); omega)
    · have hl : 0 + (opB h + i).toNat < (B.busyN (opB h).toNat false i.toNat).busy.length := by omega
      refine wp_st_of (Ar.at_b hC H) (bools_getD hl) rfl ?_
      have e3 : 0 + (opB h + i).toNat = (opB h).toNat + i.toNat := by omega
      have e4 : (i + 1).toNat = i.toNat + 1 := by omega
      rw [e3]
      have hset := set_busy (B := B.busyN (opB h).toNat false (i + 1).toNat) hC ⟨rfl, rfl, rfl, rfl, rfl, rfl, rfl⟩ false ((opB h).toNat + i.toNat) (by rw [e4]; rfl)
        ⟨by rw [e4]; unfold Ar.busyN Ar.arrA; simp only [setN_length], rfl, rfl, rfl, rfl, rfl⟩ H
      refine wp_again ?_
      refine ⟨i + 1, by rw [e2], ⟨by omega, by omega, hset⟩, by omega⟩
  · have hx : i = n := by omega
    refine wp_false (inlt (by omega)) (wp_nil.2 ?_)
    rw [hx] at hC ⊢
    have ec : B.a = (B.busyN (opB h).toNat false n.toNat).a := rfl
    rw [ec]
    generalize B.busyN (opB h).toNat false n.toNat = C at hC ⊢
    refine wp_fld (x := C.nR) (n := 9) (wp_nil.2 ?_)
    refine wp_setf (C.subR n) (n := 9) (u := .int .i64 C.nR) hC (wp_nil.2 ?_)
    refine wp_fld (A := C.subR n) (x := C.nF) (n := 10) (wp_nil.2 ?_)
    exact wp_setf (A := C.subR n) ((C.subR n).addF n) (n := 10) (u := .int .i64 C.nF) hC (wp_ret_of ⟨rfl, rfl⟩)

theorem Uses_det {A : Ar} (H : Heap) : Det Try.prog f_arena_Arena_Uses [pA A] (A.put H) (.int .i64 A.uses) (A.put H) := by
  refine t_arena_Arena_Uses_spec fun L => ?_
  unfold t_arena_Arena_Uses
  exact wp_nil.2 (wp_fld (x := A.uses) (n := 12) (wp_ret_of ⟨rfl, rfl⟩))

theorem Fault_det {A : Ar} (H : Heap) : Det Try.prog f_arena_Arena_Fault [pA A] (A.put H) (.bool A.fault) (A.put H) := by
  refine t_arena_Arena_Fault_spec fun L => ?_
  unfold t_arena_Arena_Fault
  exact wp_nil.2 (wp_fld (x := A.fault) (n := 11) (wp_ret_of ⟨rfl, rfl⟩))

theorem Count_det {A : Ar} (H : Heap) : Det Try.prog f_arena_Arena_Count [pA A] (A.put H) (.agg #[.int .i64 A.nC, .int .i64 A.nL, .int .i64 A.nR, .int .i64 A.nF]) (A.put H) := by
  refine t_arena_Arena_Count_spec fun L => ?_
  unfold t_arena_Arena_Count
  refine wp_newP fun b hb => wp_nil.2 ?_
  have hne : A.a ≠ b := fun e => (Ar.put_none hb).1 (by rw [← e]; exact List.mem_cons_self)
  refine wp_ldA_of (x := (A.nC, A.nL, A.nR, A.nF, ())) (c := A.arrA) (n := 7) (by rw [Heap.set_ne _ _ hne]; exact A.at_a H) (by exact Nat.le_of_ble_eq_true rfl) rfl ?_
  refine wp_stA_of (Heap.set_same _ _ _) (by exact Nat.le_refl 4) (by intro v hv; simp only [List.mem_cons, List.not_mem_nil, or_false] at hv; rcases hv with rfl | rfl | rfl | rfl <;> rfl) ?_
  rw [Heap.set_set]
  have hp : putAll #[.int .i64 0, .int .i64 0, .int .i64 0, .int .i64 0] 0 [.int .i64 A.nC, .int .i64 A.nL, .int .i64 A.nR, .int .i64 A.nF] = #[.int .i64 A.nC, .int .i64 A.nL, .int .i64 A.nR, .int .i64 A.nF] := rfl
  rw [hp]
  refine ⟨(A.nC, A.nL, A.nR, A.nF, ()), ?_, ?_⟩
  · refine ldK_still (Heap.set_same _ _ _) 4 0 #[] (by exact Nat.le_refl 4) ?_
    have hx : (#[] ++ (#[.int .i64 A.nC, .int .i64 A.nL, .int .i64 A.nR, .int .i64 A.nF] : Array Value).extract 0 4) = #[.int .i64 A.nC, .int .i64 A.nL, .int .i64 A.nR, .int .i64 A.nF] := by simp
    show Value.agg (#[] ++ (#[.int .i64 A.nC, .int .i64 A.nL, .int .i64 A.nR, .int .i64 A.nF] : Array Value).extract 0 4) = _
    rw [hx]
  · exact ⟨A.put H, Heap.le_set_new _ hb, rfl, rfl⟩
end Go.Proofs.Ytgnifhkjpekkdaa
