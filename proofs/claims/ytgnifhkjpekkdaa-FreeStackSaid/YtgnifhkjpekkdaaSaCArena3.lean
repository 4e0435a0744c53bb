import Derived.Test.YtgnifhkjpekkdaaSaCArena2
set_option linter.unusedVariables false
set_option maxRecDepth 20000
namespace Go.Proofs.Ytgnifhkjpekkdaa
open Go Go.Fw

/-- What holds of each arena that was made. -/
structure Ar.wf (A : Ar) : Prop where
  nd : A.nd
  fit : ∀ h, A.stF h ≠ 0 → opB h + sizeF (opC h) ≤ A.words.length
  busy : A.busy.length = A.words.length
  carved : A.carved.length = A.words.length
  words : A.words.length ≤ 65536
  raw : A.raw.length ≤ 65536
  wC : w64 A.nC = A.nC
  wL : w64 A.nL = A.nL
  wR : w64 A.nR = A.nR
  wF : w64 A.nF = A.nF

theorem w64_w64 (x : Int) : w64 (w64 x) = w64 x := by
  have h : -9223372036854775808 ≤ w64 x ∧ w64 x ≤ 9223372036854775807 := by unfold w64; rw [IntKind.wrap_i64]; omega
  exact w64_in h.1 h.2

theorem opB_nat (h : Int) : 0 ≤ opB h ∧ opB h < 65536 := by
  unfold opB
  split
  · rename_i e; obtain ⟨⟨h1, h2, _⟩, _⟩ := open_ok e; exact ⟨h1, h2⟩
  · omega
theorem opC_nat (h : Int) : 0 ≤ opC h ∧ opC h < 4 := by
  unfold opC
  split
  · rename_i e; obtain ⟨⟨h1, h2, _, _, h3, h4⟩, _⟩ := open_ok e; exact ⟨h3, h4⟩
  · omega
theorem size_opC (h : Int) : 8 ≤ sizeF (opC h) ∧ sizeF (opC h) ≤ 64 := by
  have := sizeF_cases (opC_nat h).1 (opC_nat h).2
  omega
theorem stF_ok {A : Ar} {h : Int} (hs : A.stF h ≠ 0) : openOk h = true := by
  unfold Ar.stF at hs
  split at hs
  · split at hs
    · rename_i e; exact e.1
    · exact (hs rfl).elim
  · exact (hs rfl).elim

def szF (h : Int) : Int := sizeF (opC h)

theorem body_det {A : Ar} (hA : A.wf) {h : Int} (hf : opB h + sizeF (opC h) ≤ A.words.length) (H : Heap) :
    Det Try.prog f_arena_Arena_body [pA A, .int .i64 h] (A.put H) (.slice (some ⟨A.w, (opB h).toNat, none⟩) (sizeF (opC h)).toNat (sizeF (opC h)).toNat) (A.put H) := by
  have h1 := opB_nat h
  have h2 := size_opC h
  have hw := hA.words
  refine t_arena_Arena_body_spec fun L => ?_
  unfold t_arena_Arena_body
  refine wp_qcall_det (Open_all _ _) ?_
  refine wp_qcall_det (Size_det _ _) (wp_nil.2 ?_)
  refine wp_fld (x := Sl.mk (some ⟨A.w, 0, none⟩) A.words.length A.words.length) (n := 1) ?_
  have e1 : w64 (opB h + sizeF (opC h)) = opB h + sizeF (opC h) := w64_in (by omega) (by omega)
  refine look_val (x := Sl.mk (some ⟨A.w, (opB h).toNat, none⟩) (sizeF (opC h)).toNat (sizeF (opC h)).toNat) ?_ (wp_ret_of ⟨rfl, rfl⟩)
  have hs := opS_slice3 (P := Try.prog) (t := ty_s_int) (u := ty_s_int) (e := ty_int) (a := some ⟨A.w, 0, none⟩) (len := A.words.length) (cap := A.words.length) (lo := opB h) (hi := w64 (opB h + sizeF (opC h))) rfl rfl rfl h1.1 (by omega) (by omega)
  rw [e1] at hs
  show opS Try.prog _ _ [_, _, .int .i64 (w64 (opB h + sizeF (opC h))), .int .i64 (w64 (opB h + sizeF (opC h)))] = _
  rw [e1]
  refine hs.trans ?_
  rw [if_neg (by omega)]
  show Sem.pure (Next.value (.slice (some ((Addr.mk A.w 0 none).add _)) _ _)) = _
  rw [Addr.add_mk, Nat.zero_add, show (opB h + sizeF (opC h)).toNat - (opB h).toNat = (sizeF (opC h)).toNat by omega]

def Ar.inOk (A : Ar) (h off : Int) : Prop := A.stF h ≠ 0 ∧ 0 ≤ off ∧ off < sizeF (opC h)
instance (A : Ar) (h off : Int) : Decidable (A.inOk h off) := by unfold Ar.inOk; infer_instance
def pos (h off : Int) : Nat := (opB h).toNat + off.toNat

theorem in_ok {A : Ar} (hA : A.wf) {h off : Int} (hi : A.inOk h off) (H : Heap) : Det Try.prog f_arena_Arena_in [pA A, .int .i64 h, .int .i64 off] (A.put H) (.pointer (some ⟨A.w, pos h off, none⟩)) (A.tick.put H) := by
  obtain ⟨h0, h1, h2⟩ := hi
  have h3 := size_opC h
  refine t_arena_Arena_in_spec fun L => ?_
  unfold t_arena_Arena_in
  refine wp_nil.2 (wp_fld (x := A.uses) (n := 12) (wp_nil.2 ?_))
  refine wp_setf A.tick (n := 12) (u := .int .i64 A.uses) hA.nd ?_
  refine wp_call_det (State_det (A := A.tick) hA.nd h H) ?_
  refine wp_false (ibef h0) ?_
  refine wp_call_det (x := Sl.mk (some ⟨A.w, (opB h).toNat, none⟩) (sizeF (opC h)).toNat (sizeF (opC h)).toNat) (body_det (A := A.tick) ⟨hA.nd, hA.fit, hA.busy, hA.carved, hA.words, hA.raw, hA.wC, hA.wL, hA.wR, hA.wF⟩ (hA.fit h h0) H) ?_
  refine wp_false (inlt h1) ?_
  refine wp_false (decide_eq_false (by show ¬ off ≥ (((sizeF (opC h)).toNat : Nat) : Int); omega)) ?_
  refine look_val (x := Addr.mk A.w (pos h off) none) (idx_int h1 (by show off < (((sizeF (opC h)).toNat : Nat) : Int); omega)) ?_
  exact wp_ret_of ⟨rfl, rfl⟩

theorem tick_wf {A : Ar} (hA : A.wf) : A.tick.wf := ⟨hA.nd, hA.fit, hA.busy, hA.carved, hA.words, hA.raw, hA.wC, hA.wL, hA.wR, hA.wF⟩
theorem bad_wf {A : Ar} (hA : A.wf) : A.bad.wf := ⟨hA.nd, hA.fit, hA.busy, hA.carved, hA.words, hA.raw, hA.wC, hA.wL, hA.wR, hA.wF⟩

theorem in_bad {A : Ar} (hA : A.wf) {h off : Int} (hi : ¬ A.inOk h off) (H : Heap) : Det Try.prog f_arena_Arena_in [pA A, .int .i64 h, .int .i64 off] (A.put H) (.pointer none) (A.tick.bad.put H) := by
  have h3 := size_opC h
  refine t_arena_Arena_in_spec fun L => ?_
  unfold t_arena_Arena_in
  refine wp_nil.2 (wp_fld (x := A.uses) (n := 12) (wp_nil.2 ?_))
  refine wp_setf A.tick (n := 12) (u := .int .i64 A.uses) hA.nd ?_
  refine wp_call_det (State_det (A := A.tick) hA.nd h H) ?_
  by_cases h0 : A.stF h = 0
  · refine wp_true (ibeq h0) (wp_nil.2 ?_)
    exact wp_setf (A := A.tick) A.tick.bad (n := 11) (u := .bool A.fault) hA.nd (wp_ret_of ⟨rfl, rfl⟩)
  · refine wp_false (ibef h0) ?_
    refine wp_call_det (x := Sl.mk (some ⟨A.w, (opB h).toNat, none⟩) (sizeF (opC h)).toNat (sizeF (opC h)).toNat) (body_det (A := A.tick) (tick_wf hA) (hA.fit h h0) H) ?_
    by_cases h1 : off < 0
    · refine wp_true (ilt h1) (wp_nil.2 ?_)
      exact wp_setf (A := A.tick) A.tick.bad (n := 11) (u := .bool A.fault) hA.nd (wp_ret_of ⟨rfl, rfl⟩)
    · refine wp_false (inlt (by omega)) ?_
      have h2 : off ≥ (((sizeF (opC h)).toNat : Nat) : Int) := by unfold Ar.inOk at hi; omega
      refine wp_true (decide_eq_true h2) (wp_nil.2 ?_)
      exact wp_setf (A := A.tick) A.tick.bad (n := 11) (u := .bool A.fault) hA.nd (wp_ret_of ⟨rfl, rfl⟩)

theorem pos_lt {A : Ar} (hA : A.wf) {h off : Int} (hi : A.inOk h off) : pos h off < A.words.length := by
  obtain ⟨h0, h1, h2⟩ := hi
  have := hA.fit h h0
  have := opB_nat h
  unfold pos; omega

theorem ints_getD {l : List Int} {n : Nat} (h : n < l.length) : (ints l)[n]? = some (.int .i64 (l.getD n 0)) := by simp [ints, h]
theorem bools_getD {l : List Bool} {n : Nat} (h : n < l.length) : (bools l)[n]? = some (.bool (l.getD n false)) := by simp [bools, h]

def Ar.touch (A : Ar) (h off : Int) : Ar := if A.inOk h off then A.tick else A.tick.bad
def Ar.loadF (A : Ar) (h off : Int) : Int := if A.inOk h off then A.words.getD (pos h off) 0 else 0
def Ar.setW (A : Ar) (n : Nat) (v : Int) : Ar := { A with words := A.words.set n v }
def Ar.storeF (A : Ar) (h off v : Int) : Ar := if A.inOk h off then A.tick.setW (pos h off) v else A.tick.bad

theorem touch_wf {A : Ar} (hA : A.wf) (h off : Int) : (A.touch h off).wf := by unfold Ar.touch; split; exact tick_wf hA; exact bad_wf (tick_wf hA)
theorem setW_wf {A : Ar} (hA : A.wf) (n : Nat) (v : Int) : (A.setW n v).wf :=
  ⟨hA.nd, fun h hs => by unfold Ar.setW; simp only [List.length_set]; exact hA.fit h hs, by unfold Ar.setW; simp only [List.length_set]; exact hA.busy, by unfold Ar.setW; simp only [List.length_set]; exact hA.carved,
    by unfold Ar.setW; simp only [List.length_set]; exact hA.words, hA.raw, hA.wC, hA.wL, hA.wR, hA.wF⟩
theorem storeF_wf {A : Ar} (hA : A.wf) (h off v : Int) : (A.storeF h off v).wf := by unfold Ar.storeF; split; exact setW_wf (tick_wf hA) _ _; exact bad_wf (tick_wf hA)

theorem set_words {A : Ar} (hA : A.nd) (n : Nat) (v : Int) (H : Heap) : (A.put H).set A.w (.cells ((ints A.words).setIfInBounds n (.int .i64 v)) ty_int (0, 0)) = (A.setW n v).put H := by
  refine Ar.set_any (B := A.setW n v) hA ⟨rfl, rfl, rfl, rfl, rfl, rfl, rfl⟩ H _ _ (.inr (.inr (.inl ⟨rfl, ?_, ?_, rfl, rfl, rfl, rfl, rfl⟩)))
  · unfold Ar.objW Ar.setW; rw [ints_set]
  · unfold Ar.objA Ar.arrA Ar.setW; simp only [List.length_set]

theorem Load_det {A : Ar} (hA : A.wf) (h off : Int) (H : Heap) : Det Try.prog f_arena_Arena_Load [pA A, .int .i64 h, .int .i64 off] (A.put H) (.int .i64 (A.loadF h off)) ((A.touch h off).put H) := by
  refine t_arena_Arena_Load_spec fun L => ?_
  unfold t_arena_Arena_Load Ar.loadF Ar.touch
  by_cases hi : A.inOk h off
  · have hl := pos_lt hA hi
    rw [if_pos hi, if_pos hi]
    refine wp_call_det (x := some ⟨A.w, pos h off, none⟩) (in_ok hA hi H) ?_
    refine wp_call_det (x := A.words.getD (pos h off) 0) (load_some ?_) (wp_ret_of ⟨rfl, rfl⟩)
    exact (Heap.cell_of (Ar.at_w (A := A.tick) hA.nd H) _).trans (ints_getD hl)
  · rw [if_neg hi, if_neg hi]
    refine wp_call_det (x := none) (in_bad hA hi H) ?_
    exact wp_call_det (load_none _) (wp_ret_of ⟨rfl, rfl⟩)

theorem Store_det {A : Ar} (hA : A.wf) (h off v : Int) (H : Heap) : Det Try.prog f_arena_Arena_Store [pA A, .int .i64 h, .int .i64 off, .int .i64 v] (A.put H) (.tuple #[]) ((A.storeF h off v).put H) := by
  refine t_arena_Arena_Store_spec fun L => ?_
  unfold t_arena_Arena_Store Ar.storeF
  by_cases hi : A.inOk h off
  · have hl := pos_lt hA hi
    rw [if_pos hi]
    refine wp_call_det (x := some ⟨A.w, pos h off, none⟩) (in_ok hA hi H) ?_
    refine wp_call_det (x := ()) (store_some (Ar.at_w (A := A.tick) hA.nd H) (ints_get hl)) ?_
    refine wp_ret_of ⟨rfl, ?_⟩
    exact set_words (A := A.tick) hA.nd _ _ _
  · rw [if_neg hi]
    refine wp_call_det (x := none) (in_bad hA hi H) ?_
    exact wp_call_det (x := ()) (store_none _ _) (wp_ret_of ⟨rfl, rfl⟩)

def Ar.rawF (A : Ar) (i : Int) : Int := if A.rawOk i then A.raw.getD i.toNat 0 else 0
def Ar.touchR (A : Ar) (i : Int) : Ar := if A.rawOk i then A.tick else A.tick.bad
def Ar.setR (A : Ar) (n : Nat) (v : Int) : Ar := { A with raw := A.raw.set n v }
def Ar.storeR (A : Ar) (i v : Int) : Ar := if A.rawOk i then A.tick.setR i.toNat v else A.tick.bad
def Ar.swapR (A : Ar) (i v w : Int) : Ar := if A.rawOk i then if A.raw.getD i.toNat 0 = v then A.tick.setR i.toNat w else A.tick else A.tick.bad
def Ar.swapRb (A : Ar) (i v : Int) : Bool := decide (A.rawOk i ∧ A.raw.getD i.toNat 0 = v)

theorem touchR_wf {A : Ar} (hA : A.wf) (i : Int) : (A.touchR i).wf := by unfold Ar.touchR; split; exact tick_wf hA; exact bad_wf (tick_wf hA)
theorem setR_wf {A : Ar} (hA : A.wf) (n : Nat) (v : Int) : (A.setR n v).wf :=
  ⟨hA.nd, hA.fit, hA.busy, hA.carved, hA.words, by unfold Ar.setR; simp only [List.length_set]; exact hA.raw, hA.wC, hA.wL, hA.wR, hA.wF⟩
theorem storeR_wf {A : Ar} (hA : A.wf) (i v : Int) : (A.storeR i v).wf := by unfold Ar.storeR; split; exact setR_wf (tick_wf hA) _ _; exact bad_wf (tick_wf hA)
theorem swapR_wf {A : Ar} (hA : A.wf) (i v w : Int) : (A.swapR i v w).wf := by
  unfold Ar.swapR; split
  · split; exact setR_wf (tick_wf hA) _ _; exact tick_wf hA
  · exact bad_wf (tick_wf hA)

theorem set_raw {A : Ar} (hA : A.nd) (n : Nat) (v : Int) (H : Heap) : (A.put H).set A.r (.cells ((ints A.raw).setIfInBounds n (.int .i64 v)) ty_int (0, 0)) = (A.setR n v).put H := by
  refine Ar.set_any (B := A.setR n v) hA ⟨rfl, rfl, rfl, rfl, rfl, rfl, rfl⟩ H _ _ (.inr (.inl ⟨rfl, ?_, ?_, rfl, rfl, rfl, rfl, rfl⟩))
  · unfold Ar.objR Ar.setR; rw [ints_set]
  · unfold Ar.objA Ar.arrA Ar.setR; simp only [List.length_set]

theorem raw_cell {A : Ar} (hA : A.nd) {i : Int} (hi : A.rawOk i) (H : Heap) : (ints A.raw)[i.toNat]? = some (.int .i64 (A.raw.getD i.toNat 0)) := by
  have hl : i.toNat < A.raw.length := by unfold Ar.rawOk at hi; omega
  exact ints_getD hl

theorem Raw_det {A : Ar} (hA : A.wf) (i : Int) (H : Heap) : Det Try.prog f_arena_Arena_Raw [pA A, .int .i64 i] (A.put H) (.int .i64 (A.rawF i)) ((A.touchR i).put H) := by
  refine t_arena_Arena_Raw_spec fun L => ?_
  unfold t_arena_Arena_Raw Ar.rawF Ar.touchR
  by_cases hi : A.rawOk i
  · rw [if_pos hi, if_pos hi]
    refine wp_call_det (x := some ⟨A.r, i.toNat, none⟩) (at_ok hA.nd hi H) ?_
    refine wp_call_det (x := A.raw.getD i.toNat 0) (load_some ?_) (wp_ret_of ⟨rfl, rfl⟩)
    exact (Heap.cell_of (Ar.at_r (A := A.tick) hA.nd H) _).trans (raw_cell hA.nd hi H)
  · rw [if_neg hi, if_neg hi]
    refine wp_call_det (x := none) (at_bad hA.nd hi H) ?_
    exact wp_call_det (load_none _) (wp_ret_of ⟨rfl, rfl⟩)

theorem SetRaw_det {A : Ar} (hA : A.wf) (i v : Int) (H : Heap) : Det Try.prog f_arena_Arena_SetRaw [pA A, .int .i64 i, .int .i64 v] (A.put H) (.tuple #[]) ((A.storeR i v).put H) := by
  refine t_arena_Arena_SetRaw_spec fun L => ?_
  unfold t_arena_Arena_SetRaw Ar.storeR
  by_cases hi : A.rawOk i
  · rw [if_pos hi]
    refine wp_call_det (x := some ⟨A.r, i.toNat, none⟩) (at_ok hA.nd hi H) ?_
    refine wp_call_det (x := ()) (store_some (Ar.at_r (A := A.tick) hA.nd H) (raw_cell hA.nd hi H)) ?_
    exact wp_ret_of ⟨rfl, set_raw (A := A.tick) hA.nd _ _ _⟩
  · rw [if_neg hi]
    refine wp_call_det (x := none) (at_bad hA.nd hi H) ?_
    exact wp_call_det (x := ()) (store_none _ _) (wp_ret_of ⟨rfl, rfl⟩)

theorem SwapRaw_det {A : Ar} (hA : A.wf) (i v w : Int) (H : Heap) : Det Try.prog f_arena_Arena_SwapRaw [pA A, .int .i64 i, .int .i64 v, .int .i64 w] (A.put H) (.bool (A.swapRb i v)) ((A.swapR i v w).put H) := by
  refine t_arena_Arena_SwapRaw_spec fun L => ?_
  unfold t_arena_Arena_SwapRaw Ar.swapR Ar.swapRb
  by_cases hi : A.rawOk i
  · rw [if_pos hi]
    refine wp_call_det (x := some ⟨A.r, i.toNat, none⟩) (at_ok hA.nd hi H) ?_
    by_cases hv : A.raw.getD i.toNat 0 = v
    · rw [if_pos hv, decide_eq_true ⟨hi, hv⟩]
      refine wp_call_det (x := true) (swap_yes (Ar.at_r (A := A.tick) hA.nd H) (by rw [← hv]; exact raw_cell hA.nd hi H)) ?_
      exact wp_ret_of ⟨rfl, set_raw (A := A.tick) hA.nd _ _ _⟩
    · rw [if_neg hv, decide_eq_false (fun h => hv h.2)]
      refine wp_call_det (x := false) (swap_no (x := A.raw.getD i.toNat 0) ?_ hv) (wp_ret_of ⟨rfl, rfl⟩)
      exact (Heap.cell_of (Ar.at_r (A := A.tick) hA.nd H) _).trans (raw_cell hA.nd hi H)
  · rw [if_neg hi, decide_eq_false (fun h => hi h.1)]
    refine wp_call_det (x := none) (at_bad hA.nd hi H) ?_
    exact wp_call_det (x := false) (swap_none _ _ _) (wp_ret_of ⟨rfl, rfl⟩)
end Go.Proofs.Ytgnifhkjpekkdaa
