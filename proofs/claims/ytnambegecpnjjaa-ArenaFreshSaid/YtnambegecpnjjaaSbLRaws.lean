import Derived.Test.YtnambegecpnjjaaSbCArenaX
import Derived.Test.YtnambegecpnjjaaSbCRow
import Derived.Test.YtnambegecpnjjaaSbTrArena9
set_option linter.unusedVariables false
set_option maxRecDepth 20000
namespace Go.Proofs.Ytnambegecpnjjaa
open Go Go.Fw

theorem idx21 {b o : Nat} {i : Int} (h0 : 0 ≤ i) (h1 : i < 21) : opS Try.prog (.indexAddr ty_a21_int (.tmp 0) (.tmp 1)) ty_unit [.pointer (some ⟨b, o, none⟩), .int .i64 i] = .pure (.value (.pointer (some ⟨b, o + i.toNat, none⟩))) :=
  idxA (e := ty_int) (n := 21) rfl rfl rfl h0 h1

theorem Raw_at2 {A : Ar} (hA : A.wf) {i x : Int} {p : Value} (hp : p = pA A) (hx : A.rawF i = x) (H : Heap) : Det Try.prog f_arena_Arena_Raw [p, .int .i64 i] (A.put H) (.int .i64 x) ((A.touchR i).put H) := by
  rw [hp, ← hx]; exact Raw_det hA i H
theorem SetRaw_at {A : Ar} (hA : A.wf) {i v : Int} {p : Value} (hp : p = pA A) (H : Heap) : Det Try.prog f_arena_Arena_SetRaw [p, .int .i64 i, .int .i64 v] (A.put H) (.tuple #[]) ((A.storeR i v).put H) := by rw [hp]; exact SetRaw_det hA i v H
theorem SwapRaw_at {A : Ar} (hA : A.wf) {i v w : Int} {p : Value} (hp : p = pA A) (H : Heap) : Det Try.prog f_arena_Arena_SwapRaw [p, .int .i64 i, .int .i64 v, .int .i64 w] (A.put H) (.bool (A.swapRb i v)) ((A.swapR i v w).put H) := by rw [hp]; exact SwapRaw_det hA i v w H
theorem AddRaw_at {A : Ar} (hA : A.wf) {i v x : Int} {p : Value} (hp : p = pA A) (hx : A.rawF i = x) (H : Heap) : Det Try.prog f_arena_Arena_AddRaw [p, .int .i64 i, .int .i64 v] (A.put H) (.int .i64 x) ((A.storeR i (w64 (x + v))).put H) := by
  rw [hp, ← hx]; exact AddRaw_det hA i v H

/-- An arena whose raw words are those of a list. -/
structure Rw (A : Ar) (k : Int) (B : Ar) (xs : List Int) (n : Int) : Prop where
  wf : B.wf
  al : Ar.Alike A B
  fa : B.fault = false
  us : B.uses = n
  rl : (B.raw.length : Int) = k
  xl : xs.length = 21
  kb : k ≤ 21
  eq : ∀ j : Nat, (j : Int) < k → B.raw.getD j 0 = xs.getD j 0

theorem Rw.ok {A B : Ar} {k n j : Int} {xs : List Int} (h : Rw A k B xs n) (h0 : 0 ≤ j) (h1 : j < k) : B.rawOk j := by unfold Ar.rawOk; rw [h.rl]; exact ⟨h0, h1⟩
theorem Rw.get {A B : Ar} {k n j : Int} {xs : List Int} (h : Rw A k B xs n) (h0 : 0 ≤ j) (h1 : j < k) : B.rawF j = xs.getD j.toNat 0 := by
  unfold Ar.rawF; rw [if_pos (h.ok h0 h1)]; exact h.eq _ (by omega)
theorem Rw.tick {A B : Ar} {k n : Int} {xs : List Int} (h : Rw A k B xs n) (hn : 0 ≤ n ∧ n < 1000000) : Rw A k B.tick xs (n + 1) :=
  ⟨tick_wf h.wf, h.al.trans ⟨rfl, rfl, rfl, rfl, rfl, rfl, rfl⟩, h.fa, by show w64 (B.uses + 1) = _; rw [h.us]; exact w64_in (by omega) (by omega), h.rl, h.xl, h.kb, h.eq⟩
theorem Rw.set {A B : Ar} {k n j : Int} {xs : List Int} (h : Rw A k B xs n) (h0 : 0 ≤ j) (h1 : j < k) (v : Int) : Rw A k (B.setR j.toNat v) (xs.set j.toNat v) n :=
  ⟨setR_wf h.wf _ _, h.al.trans ⟨rfl, rfl, rfl, rfl, rfl, rfl, rfl⟩, h.fa, h.us, by show (((B.raw.set _ _).length : Nat) : Int) = k; rw [List.length_set]; exact h.rl, by rw [List.length_set]; exact h.xl, h.kb, fun i hi => by
    have e := h.eq i hi
    have hr := h.rl
    have hl := h.xl
    show (B.raw.set j.toNat v).getD i 0 = _
    simp only [List.getD_eq_getElem?_getD, List.getElem?_set] at e ⊢
    have hk := h.kb
    by_cases c : j.toNat = i
    · rw [if_pos c, if_pos c, if_pos (by omega), if_pos (by omega)]
    · rw [if_neg c, if_neg c]; exact e⟩

theorem ArenaRaws_det (a0 : Int) (s : Sl) (zs : List Int) (H : Heap) (hz : RowOf H s.a s.len zs) : Det Try.prog f_magpielaw09_ArenaRaws [.int .i64 a0, .slice s.a s.len s.cap] H (.bool true) H := by
  refine t_magpielaw09_ArenaRaws_spec (p1 := s) fun L => ?_
  unfold t_magpielaw09_ArenaRaws
  refine wp_qcall_det (Place_det _ _ (by omega) (by omega) _) ?_
  have k1 := Int.emod_nonneg a0 (b := 20) (by omega)
  have k2 := Int.emod_lt_of_pos a0 (b := 20) (by omega)
  generalize a0 % 20 = k0 at *
  have ek : w64 (1 + k0) = 1 + k0 := w64_in (by omega) (by omega)
  rw [ek]
  refine wp_call_of (New_spec (1 + k0) 0 false H (by omega) (by omega)) ?_
  rintro u K ⟨A, hm, hi, rfl, rfl⟩
  refine ⟨some ⟨A.a, 0, none⟩, rfl, ?_⟩
  have hA := made_wf hm (by omega) (by exact Nat.zero_le _)
  refine look_val (x := false) (np_some _) (wp_false rfl ?_)
  refine wp_newP fun q hq => ?_
  obtain ⟨q1, q2⟩ := Ar.put_none hq
  refine wp_heap (Ar.put_set _ q1) ?_
  have hle : ∀ (B : Ar) (o : Obj), Ar.Alike A B → H.le (B.put (H.set q o)) := fun B o hB => Heap.le_trans (put_new (Alike_ids hB hi)) (Ar.put_le (Heap.le_set_new o q2))
  have hrl : A.raw.length = (1 + k0).toNat := by rw [hm.raw]; exact List.length_replicate
  have R0 : Rw A (1 + k0) A (List.replicate 21 0) 0 := ⟨hA, .refl A, hm.fault, hm.uses, by rw [hrl]; omega, List.length_replicate, by omega, fun j hj => by
    rw [hm.raw, List.getD_eq_getElem?_getD, List.getD_eq_getElem?_getD, List.getElem?_replicate, List.getElem?_replicate, if_pos (by omega), if_pos (by omega)]⟩
  have tail : ∀ L (B : Ar) (xs : List Int) n, Rw A (1 + k0) B xs n → wp Try.prog (t_magpielaw09_ArenaRaws_J11 (some ⟨A.a, 0, none⟩)) L (B.put (H.set q (.cells (ints xs) ty_a21_int (0, 0)))) (fun u K => u = .bool true ∧ K = H) := by
    intro L B xs n hB
    unfold t_magpielaw09_ArenaRaws_J11
    refine wp_call_det (x := false) (Fault_at (pA_alike hB.al).symm hB.fa _) (wp_true rfl ?_)
    refine wp_call_det (awake09_det _) ?_
    exact ⟨H, hle B _ hB.al, rfl, rfl⟩
  refine wp_loop_bii (b := false) (fun n i K => n = i ∧ 0 ≤ i ∧ i ≤ 60 ∧ ∃ (B : Ar) (xs : List Int), Rw A (1 + k0) B xs n ∧ K = B.put (H.set q (.cells (ints xs) ty_a21_int (0, 0)))) (fun _ i => (60 - i).toNat) 0 0
    ⟨rfl, by omega, by omega, A, List.replicate 21 0, R0, rfl⟩ ?_
  rintro n i b K ⟨rfl, i0, i1, B, xs, hB, rfl⟩
  rw [t_magpielaw09_ArenaRaws_L1]
  have pa : (.pointer (some ⟨A.a, 0, none⟩) : Value) = pA B := (pA_alike hB.al).symm
  have qB : q ∉ B.ids := by rw [hB.al.ids]; exact q1
  by_cases c1 : n < ((s.len : Nat) : Int)
  case neg => exact wp_false (decide_eq_false c1) (tail _ B xs n hB)
  refine wp_true (decide_eq_true c1) ?_
  by_cases c2 : n < 60
  case neg => exact wp_false (decide_eq_false c2) (tail _ B xs n hB)
  refine wp_true (decide_eq_true c2) ?_
  refine wp_row hz (hle B _ hB.al) i0 c1 ?_
  refine wp_qcall_det (Place_det _ _ (by omega) (by omega) _) ?_
  have v1 := Int.emod_nonneg (zs.getD n.toNat 0) (b := 1048576) (by omega)
  have v2 := Int.emod_lt_of_pos (zs.getD n.toNat 0) (b := 1048576) (by omega)
  generalize zs.getD n.toNat 0 % 1048576 = v at *
  have e1 : w64 (Int.tdiv v 4) = v / 4 := by rw [Int.tdiv_eq_ediv_of_nonneg v1, w64_in (by omega) (by omega)]
  have e2 : Int.tmod (v / 4) (1 + k0) = v / 4 % (1 + k0) := Int.tmod_eq_emod_of_nonneg (by omega)
  refine look_val (x := v / 4 % (1 + k0)) (by rw [e1, ek, opS_rem (by omega), e2]) ?_
  have j0 := Int.emod_nonneg (v / 4) (b := 1 + k0) (by omega)
  have j1 := Int.emod_lt_of_pos (v / 4) (b := 1 + k0) (by omega)
  generalize v / 4 % (1 + k0) = j at *
  have e3 : Int.tmod v 4 = v % 4 := Int.tmod_eq_emod_of_nonneg v1
  rw [e3]
  have hjx : j.toNat < xs.length := by rw [hB.xl]; omega
  have j21 : j < 21 := by omega
  have fin : ∀ (L : Hands) (C : Ar) (ys : List Int), Rw A (1 + k0) C ys (n + 1) → wp Try.prog (.call f_arena_Arena_Uses [(.pointer (some ⟨A.a, 0, none⟩))] (.one (.leaf (.int .i64))) fun x107 => t_magpielaw09_ArenaRaws_J0 (b, n, n, ()) x107)
      (L.set 512 fun vals H'' => ∃ (c : Bool) (i' j' : Int), vals = [.bool c, .int .i64 i', .int .i64 j'] ∧ (i' = j' ∧ 0 ≤ j' ∧ j' ≤ 60 ∧ ∃ (B : Ar) (xs : List Int), Rw A (1 + k0) B xs i' ∧ H'' = B.put (H.set q (.cells (ints xs) ty_a21_int (0, 0)))) ∧ (60 - j').toNat < (60 - n).toNat)
      (C.put (H.set q (.cells (ints ys) ty_a21_int (0, 0)))) (fun u K => u = .bool true ∧ K = H) := by
    intro L C ys hC
    refine wp_call_det (Uses_at (pA_alike hC.al).symm hC.us _) ?_
    unfold t_magpielaw09_ArenaRaws_J0
    have e4 : w64 (n + 1) = n + 1 := w64_in (by omega) (by omega)
    refine wp_false (ibnf (by show n + 1 = w64 (n + 1); omega)) ?_
    refine wp_again ⟨b, n + 1, n + 1, by show [Value.bool b, .int .i64 (w64 (n + 1)), .int .i64 (w64 (n + 1))] = _; rw [e4], ⟨rfl, by omega, by omega, C, ys, hC, rfl⟩, by omega⟩
  have hn : 0 ≤ n ∧ n < 1000000 := by omega
  have T := hB.tick hn
  have okj := hB.ok j0 j1
  have gj := hB.get j0 j1
  have z0 : ∀ t : Nat, 0 + t = t := Nat.zero_add
  have hld : (B.put (H.set q (.cells (ints xs) ty_a21_int (0, 0)))).cell? ⟨q, 0 + j.toNat, none⟩ = some (.int .i64 (xs.getD j.toNat 0)) := by
    rw [z0]; exact (Heap.cell_of (by rw [Ar.put_out qB, Heap.set_same]) _).trans (ints_getD hjx)
  by_cases d0 : v % 4 = 0
  · refine wp_true (ibeq d0) ?_
    refine wp_call_det (x := ()) (SetRaw_at hB.wf pa _) ?_
    have es : B.storeR j v = B.tick.setR j.toNat v := by unfold Ar.storeR; rw [if_pos okj]
    rw [es]
    have S := T.set j0 j1 v
    have qS : q ∉ (B.tick.setR j.toNat v).ids := by rw [S.al.ids]; exact q1
    refine look_val (x := ⟨q, 0 + j.toNat, none⟩) (idx21 j0 j21) ?_
    refine bl_set (n := j.toNat) (u := .int .i64 (xs.getD j.toNat 0)) qS (ints (xs.set j.toNat v)) ?_ (by rw [z0]) (ints_getD hjx) (ints_set _ _ _)
    exact fin _ _ _ S
  refine wp_false (ibef d0) ?_
  by_cases d1 : v % 4 = 1
  · refine wp_true (ibeq d1) ?_
    refine look_val (x := ⟨q, 0 + j.toNat, none⟩) (idx21 j0 j21) (wp_ld_of (x := xs.getD j.toNat 0) hld ?_)
    refine look_val (x := ⟨q, 0 + j.toNat, none⟩) (idx21 j0 j21) (wp_ld_of (x := xs.getD j.toNat 0) hld ?_)
    generalize w64 (xs.getD j.toNat 0 - Int.tmod (w64 (Int.tdiv v 400)) 2) = old
    refine wp_call_det (SwapRaw_at hB.wf pa _) ?_
    by_cases ho : old = xs.getD j.toNat 0
    · have es : B.swapR j old v = B.tick.setR j.toNat v := by
        unfold Ar.swapR; rw [if_pos okj, if_pos]; rw [ho, ← gj]; unfold Ar.rawF; rw [if_pos okj]
      have eb : B.swapRb j old = true := by
        unfold Ar.swapRb; refine decide_eq_true ⟨okj, ?_⟩; rw [ho, ← gj]; unfold Ar.rawF; rw [if_pos okj]
      rw [es, eb]
      have S := T.set j0 j1 v
      have qS : q ∉ (B.tick.setR j.toNat v).ids := by rw [S.al.ids]; exact q1
      have hld2 : ((B.tick.setR j.toNat v).put (H.set q (.cells (ints xs) ty_a21_int (0, 0)))).cell? ⟨q, 0 + j.toNat, none⟩ = some (.int .i64 (xs.getD j.toNat 0)) := by
        rw [z0]; exact (Heap.cell_of (by rw [Ar.put_out qS, Heap.set_same]) _).trans (ints_getD hjx)
      refine chk_cell hld2 (check_val (idx21 j0 j21) ?_)
      refine wp_false (by rw [ibeq ho]; rfl) ?_
      refine look_val (x := ⟨q, 0 + j.toNat, none⟩) (idx21 j0 j21) (wp_ld_of (x := xs.getD j.toNat 0) hld2 ?_)
      refine wp_true (ibeq ho) ?_
      refine look_val (x := ⟨q, 0 + j.toNat, none⟩) (idx21 j0 j21) ?_
      refine bl_set (n := j.toNat) (u := .int .i64 (xs.getD j.toNat 0)) qS (ints (xs.set j.toNat v)) ?_ (by rw [z0]) (ints_getD hjx) (ints_set _ _ _)
      exact fin _ _ _ S
    · have hne : ¬ B.raw.getD j.toNat 0 = old := fun e => by
        have : B.rawF j = old := by unfold Ar.rawF; rw [if_pos okj]; exact e
        rw [gj] at this; exact ho this.symm
      have es : B.swapR j old v = B.tick := by unfold Ar.swapR; rw [if_pos okj, if_neg hne]
      have eb : B.swapRb j old = false := by unfold Ar.swapRb; exact decide_eq_false (fun h => hne h.2)
      rw [es, eb]
      have qS : q ∉ B.tick.ids := by rw [T.al.ids]; exact q1
      have hld2 : (B.tick.put (H.set q (.cells (ints xs) ty_a21_int (0, 0)))).cell? ⟨q, 0 + j.toNat, none⟩ = some (.int .i64 (xs.getD j.toNat 0)) := by
        rw [z0]; exact (Heap.cell_of (by rw [Ar.put_out qS, Heap.set_same]) _).trans (ints_getD hjx)
      refine chk_cell hld2 (check_val (idx21 j0 j21) ?_)
      refine wp_false (by rw [ibef ho]; rfl) ?_
      refine look_val (x := ⟨q, 0 + j.toNat, none⟩) (idx21 j0 j21) (wp_ld_of (x := xs.getD j.toNat 0) hld2 ?_)
      refine wp_false (ibef ho) ?_
      exact fin _ _ _ T
  refine wp_false (ibef d1) ?_
  by_cases d2 : v % 4 = 2
  · refine wp_true (ibeq d2) ?_
    refine look_val (x := ⟨q, 0 + j.toNat, none⟩) (idx21 j0 j21) (wp_ld_of (x := xs.getD j.toNat 0) hld ?_)
    refine wp_call_det (AddRaw_at hB.wf pa gj _) ?_
    have e5 : w64 (xs.getD j.toNat 0 + w64 (v - 50000)) = w64 (w64 (xs.getD j.toNat 0 + v) - 50000) := by
      rw [w64_in (x := v - 50000) (by omega) (by omega), w64_sub]; congr 1; omega
    have es : B.storeR j (w64 (xs.getD j.toNat 0 + w64 (v - 50000))) = B.tick.setR j.toNat (w64 (w64 (xs.getD j.toNat 0 + v) - 50000)) := by unfold Ar.storeR; rw [if_pos okj, e5]
    rw [es]
    have S := T.set j0 j1 (w64 (w64 (xs.getD j.toNat 0 + v) - 50000))
    have qS : q ∉ (B.tick.setR j.toNat (w64 (w64 (xs.getD j.toNat 0 + v) - 50000))).ids := by rw [S.al.ids]; exact q1
    have hld2 : ((B.tick.setR j.toNat (w64 (w64 (xs.getD j.toNat 0 + v) - 50000))).put (H.set q (.cells (ints xs) ty_a21_int (0, 0)))).cell? ⟨q, 0 + j.toNat, none⟩ = some (.int .i64 (xs.getD j.toNat 0)) := by
      rw [z0]; exact (Heap.cell_of (by rw [Ar.put_out qS, Heap.set_same]) _).trans (ints_getD hjx)
    refine chk_cell hld2 (check_val (idx21 j0 j21) ?_)
    refine wp_false (ibnf rfl) ?_
    refine look_val (x := ⟨q, 0 + j.toNat, none⟩) (idx21 j0 j21) (wp_ld_of (x := xs.getD j.toNat 0) hld2 ?_)
    refine look_val (x := ⟨q, 0 + j.toNat, none⟩) (idx21 j0 j21) ?_
    refine bl_set (n := j.toNat) (u := .int .i64 (xs.getD j.toNat 0)) qS (ints (xs.set j.toNat (w64 (w64 (xs.getD j.toNat 0 + v) - 50000)))) ?_ (by rw [z0]) (ints_getD hjx) (ints_set _ _ _)
    exact fin _ _ _ S
  refine wp_false (ibef d2) ?_
  refine look_val (x := ⟨q, 0 + j.toNat, none⟩) (idx21 j0 j21) (wp_ld_of (x := xs.getD j.toNat 0) hld ?_)
  refine wp_call_det (Raw_at2 hB.wf pa gj _) ?_
  have es : B.touchR j = B.tick := touchR_yes okj
  rw [es]
  have qS : q ∉ B.tick.ids := by rw [T.al.ids]; exact q1
  have hld2 : (B.tick.put (H.set q (.cells (ints xs) ty_a21_int (0, 0)))).cell? ⟨q, 0 + j.toNat, none⟩ = some (.int .i64 (xs.getD j.toNat 0)) := by
    rw [z0]; exact (Heap.cell_of (by rw [Ar.put_out qS, Heap.set_same]) _).trans (ints_getD hjx)
  refine chk_cell hld2 (check_val (idx21 j0 j21) ?_)
  exact wp_false (ibnf rfl) (fin _ _ _ T)
end Go.Proofs.Ytnambegecpnjjaa
