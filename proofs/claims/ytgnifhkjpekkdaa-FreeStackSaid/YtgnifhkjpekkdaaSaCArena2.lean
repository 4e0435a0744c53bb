import Derived.Test.YtgnifhkjpekkdaaSaCArena
set_option linter.unusedVariables false
set_option maxRecDepth 20000
namespace Go.Proofs.Ytgnifhkjpekkdaa
open Go Go.Fw

def pA (A : Ar) : Value := .pointer (some ⟨A.a, 0, none⟩)
def pO (p : Option Addr) : Value := .pointer p

/-- What Open answers, by its parts. -/
def opB (h : Int) : Int := if openOk h then oBase h else 0
def opG (h : Int) : Int := if openOk h then oGen h else 0
def opC (h : Int) : Int := if openOk h then oClass h else 0

theorem Open_all (H : Heap) (h : Int) : Det Try.prog f_handle_Open [.int .i64 h] H (Sh.toVal (.tup [(.leaf (.int .i64)), (.leaf (.int .i64)), (.leaf (.int .i64)), (.leaf .bool)]) (opB h, opG h, opC h, openOk h, ())) H := by
  refine Open_at H ?_
  unfold openV opB opG opC
  cases openOk h <;> rfl

section
variable {L : Hands} {H : Heap} {R : Value → Heap → Prop} {A B : Ar}

/-- A field of an arena. -/
theorem wp_fld {p : Addr} {n : Nat} {l : Leaf} {x : l.T} {k : l.T → Tree} (h : wp Try.prog (k x) L (A.put H) R) (hp : p = ⟨A.a, n, none⟩ := by rfl) (hx : A.arrA[n]? = some (l.toVal x) := by rfl) :
    wp Try.prog (.ld p l k) L (A.put H) R := by
  subst hp
  exact wp_ld_of (by rw [Heap.cell_of (A.at_a H)]; exact hx) h

structure ButA (A B : Ar) : Prop where
  al : Ar.Alike A B
  r : B.objR = A.objR
  w : B.objW = A.objW
  s : B.objS = A.objS
  b : B.objB = A.objB
  c : B.objC = A.objC
  g : B.objG = A.objG

theorem wp_setf (B : Ar) {p : Addr} {n : Nat} {v u : Value} {k : Tree} (hA : A.nd) (h : wp Try.prog k L (B.put H) R) (hp : p = ⟨A.a, n, none⟩ := by rfl) (hn : A.arrA[n]? = some u := by rfl)
    (hb : A.arrA.setIfInBounds n v = B.arrA := by rfl) (hB : ButA A B := by exact ⟨⟨rfl, rfl, rfl, rfl, rfl, rfl, rfl⟩, rfl, rfl, rfl, rfl, rfl, rfl⟩) (hs : Value.single v = true := by rfl) :
    wp Try.prog (.st p v k) L (A.put H) R := by
  subst hp
  refine wp_st_of (A.at_a H) hn hs ?_
  rw [Ar.set_any (B := B) hA hB.al H _ _ (.inl ⟨rfl, by unfold Ar.objA; rw [hb], hB.r, hB.w, hB.s, hB.b, hB.c, hB.g⟩)]
  exact h
end

/-- What a slot is. -/
def Ar.stF (A : Ar) (h : Int) : Int := match alGet A.slots (opB h) with
  | some (h', s) => if openOk h = true ∧ h' = h then s else 0
  | none => 0

theorem State_det {A : Ar} (hA : A.nd) (h : Int) (H : Heap) : Det Try.prog f_arena_Arena_State [pA A, .int .i64 h] (A.put H) (.int .i64 (A.stF h)) (A.put H) := by
  refine t_arena_Arena_State_spec fun L => ?_
  unfold t_arena_Arena_State
  refine wp_qcall_det (Open_all _ _) ?_
  refine wp_nil.2 ?_
  refine wp_fld (x := some A.s) (n := 3) ?_
  have key : ∀ y : Int × Int × Unit, (match alGet A.slots (opB h) with | some v => encSlot v | none => .agg #[.int .i64 0, .int .i64 0]) = Sh.toVal (.one (.agg [(.int .i64), (.int .i64)])) y →
      A.stF h = (if openOk h = true then if y.1 = h then y.2.1 else 0 else 0) → 
      wp Try.prog (.newP (.cells #[(.int .i64 0), (.int .i64 0)] ty_arena_slot) fun x9 =>
  .stA x9 [(.int .i64 y.1), (.int .i64 y.2.1)] <|
  bif openOk h then (
    .ld x9 (.int .i64) fun x26 =>
    bif ((x26 : Int) == h) then (
      .ld (x9.add 1) (.int .i64) fun x31 =>
      .ret (.int .i64 x31))
    else (
      .ret (.int .i64 0)))
  else (
    .ret (.int .i64 0))) L (A.put H) (fun u K => u = .int .i64 (A.stF h) ∧ K = A.put H) := by
    intro y hy hst
    refine wp_newP fun b hb => ?_
    refine wp_stA_of (Heap.set_same _ _ _) (by exact Nat.le_refl 2) (by intro v hv; simp only [List.mem_cons, List.not_mem_nil, or_false] at hv; rcases hv with rfl | rfl <;> rfl) ?_
    rw [Heap.set_set]
    have hle := Heap.le_set_new (.cells (putAll #[.int .i64 0, .int .i64 0] 0 [.int .i64 y.1, .int .i64 y.2.1]) ty_arena_slot (0, 0)) hb
    cases hk : openOk h with
    | false =>
      refine wp_false rfl ⟨A.put H, hle, ?_, rfl⟩
      rw [hst, hk]; rfl
    | true =>
      refine wp_true rfl ?_
      refine wp_ld_of (x := y.1) (by rw [Heap.cell_set]; rfl) ?_
      rw [hk, if_pos rfl] at hst
      by_cases e : y.1 = h
      · refine wp_true (ibeq e) ?_
        refine wp_ld_of (x := y.2.1) (by show Heap.cell? _ ⟨b, 1, none⟩ = _; rw [Heap.cell_set]; rfl) ⟨A.put H, hle, ?_, rfl⟩
        rw [hst, if_pos e]
      · refine wp_false (ibef e) ⟨A.put H, hle, ?_, rfl⟩
        rw [hst, if_neg e]
  unfold Ar.stF at *
  refine wp_lookup (l := A.slots) (enc := encSlot) (kt := ty_int) (et := ty_arena_slot) (y := match alGet A.slots (opB h) with | some v => (v.1, v.2, ()) | none => (0, 0, ())) (Ar.at_s hA H) rfl rfl rfl rfl ?_ (key _ ?_ ?_)
  · cases alGet A.slots (opB h) <;> rfl
  · cases alGet A.slots (opB h) <;> rfl
  · cases alGet A.slots (opB h) with
    | none => simp
    | some v => 
      obtain ⟨v1, v2⟩ := v
      by_cases h1 : openOk h = true <;> by_cases h2 : v1 = h <;> simp [h1, h2]

theorem load_none (H : Heap) : Det Try.prog f_arena_load [.pointer none] H (.int .i64 0) H := by
  refine t_arena_load_spec fun L => ?_
  unfold t_arena_load
  exact ⟨true, rfl, wp_true rfl (wp_ret_of ⟨rfl, rfl⟩)⟩

theorem neql_some (a : Addr) : opS Try.prog (.binOp .eql ty_p_int (.tmp 0) (.const (.pointer none)) ty_p_int) ty_bool [(.pointer (some a))] = .pure (.value (.bool false)) := by kernel_rfl
theorem neq_some (a : Addr) : opS Try.prog (.binOp .neq ty_p_int (.tmp 0) (.const (.pointer none)) ty_p_int) ty_bool [(.pointer (some a))] = .pure (.value (.bool true)) := by kernel_rfl

theorem load_some {a : Addr} {x : Int} {H : Heap} (h : H.cell? a = some (.int .i64 x)) : Det Try.prog f_arena_load [.pointer (some a)] H (.int .i64 x) H := by
  refine t_arena_load_spec fun L => ?_
  unfold t_arena_load
  refine look_val (x := false) (neql_some a) ?_
  refine wp_false rfl (wp_nil.2 ?_)
  exact wp_ld_of (x := x) h (wp_ret_of ⟨rfl, rfl⟩)

theorem store_none (v : Int) (H : Heap) : Det Try.prog f_arena_store [.pointer none, .int .i64 v] H (.tuple #[]) H := by
  refine t_arena_store_spec fun L => ?_
  unfold t_arena_store
  exact ⟨false, rfl, wp_false rfl (wp_ret_of ⟨rfl, rfl⟩)⟩

theorem store_some {b n T : Nat} {c : Array Value} {u : Value} {v : Int} {H : Heap} (hb : H b = some (.cells c T (0, 0))) (hn : c[n]? = some u) :
    Det Try.prog f_arena_store [.pointer (some ⟨b, n, none⟩), .int .i64 v] H (.tuple #[]) (H.set b (.cells (c.setIfInBounds n (.int .i64 v)) T (0, 0))) := by
  refine t_arena_store_spec fun L => ?_
  unfold t_arena_store
  refine look_val (x := true) (neq_some _) ?_
  refine wp_true rfl (wp_nil.2 ?_)
  exact wp_st_of hb hn rfl (wp_ret_of ⟨rfl, rfl⟩)

theorem swap_none (v w : Int) (H : Heap) : Det Try.prog f_arena_swap [.pointer none, .int .i64 v, .int .i64 w] H (.bool false) H := by
  refine t_arena_swap_spec fun L => ?_
  unfold t_arena_swap
  exact ⟨true, rfl, wp_true rfl (wp_ret_of ⟨rfl, rfl⟩)⟩

theorem swap_no {a : Addr} {x v w : Int} {H : Heap} (h : H.cell? a = some (.int .i64 x)) (hx : x ≠ v) : Det Try.prog f_arena_swap [.pointer (some a), .int .i64 v, .int .i64 w] H (.bool false) H := by
  refine t_arena_swap_spec fun L => ?_
  unfold t_arena_swap
  refine look_val (x := false) (neql_some a) ?_
  refine wp_false rfl (wp_nil.2 ?_)
  refine wp_ld_of (x := x) h ?_
  exact wp_true (ibne hx) (wp_ret_of ⟨rfl, rfl⟩)

theorem swap_yes {b n T : Nat} {c : Array Value} {v w : Int} {H : Heap} (hb : H b = some (.cells c T (0, 0))) (hn : c[n]? = some (.int .i64 v)) :
    Det Try.prog f_arena_swap [.pointer (some ⟨b, n, none⟩), .int .i64 v, .int .i64 w] H (.bool true) (H.set b (.cells (c.setIfInBounds n (.int .i64 w)) T (0, 0))) := by
  refine t_arena_swap_spec fun L => ?_
  unfold t_arena_swap
  refine look_val (x := false) (neql_some _) ?_
  refine wp_false rfl (wp_nil.2 ?_)
  refine wp_ld_of (x := v) (by rw [Heap.cell_of hb]; exact hn) ?_
  refine wp_false (ibnf rfl) (wp_nil.2 ?_)
  exact wp_st_of hb hn rfl (wp_ret_of ⟨rfl, rfl⟩)

theorem idxS1 {t u e : TypeId} {n l c b o : Nat} {i : Int} {info : TypeInfo} (hu : Try.prog.underlying t = some (.slice e)) (hi : Try.prog.info? e = some info) (hs : info.size = 1) (h0 : 0 ≤ i) (h1 : i < l) :
    opS Try.prog (.indexAddr t (.tmp 0) (.tmp 1)) u [.slice (some ⟨b, o, none⟩) l c, .int .i64 i] = .pure (.value (.pointer (some ⟨b, o + i.toNat, none⟩))) := by
  rw [opS_idxS hu hi h0 h1, Addr.add_mk, hs, Nat.mul_one]
theorem idx_int {u : TypeId} {l c b o : Nat} {i : Int} (h0 : 0 ≤ i) (h1 : i < l) :
    opS Try.prog (.indexAddr ty_s_int (.tmp 0) (.tmp 1)) u [.slice (some ⟨b, o, none⟩) l c, .int .i64 i] = .pure (.value (.pointer (some ⟨b, o + i.toNat, none⟩))) := idxS1 (n := 0) rfl rfl rfl h0 h1
theorem idx_bool {u : TypeId} {l c b o : Nat} {i : Int} (h0 : 0 ≤ i) (h1 : i < l) :
    opS Try.prog (.indexAddr ty_s_bool (.tmp 0) (.tmp 1)) u [.slice (some ⟨b, o, none⟩) l c, .int .i64 i] = .pure (.value (.pointer (some ⟨b, o + i.toNat, none⟩))) := idxS1 (n := 0) rfl rfl rfl h0 h1

def Ar.tick (A : Ar) : Ar := { A with uses := w64 (A.uses + 1) }
def Ar.bad (A : Ar) : Ar := { A with fault := true }
theorem Ar.tick_nd {A : Ar} (h : A.nd) : A.tick.nd := h
theorem Ar.bad_nd {A : Ar} (h : A.nd) : A.bad.nd := h

theorem ints_get {l : List Int} {n : Nat} (h : n < l.length) : (ints l)[n]? = some (.int .i64 l[n]) := by simp [ints, h]
theorem bools_get {l : List Bool} {n : Nat} (h : n < l.length) : (bools l)[n]? = some (.bool l[n]) := by simp [bools, h]
theorem ints_set (l : List Int) (n : Nat) (v : Int) : (ints l).setIfInBounds n (.int .i64 v) = ints (l.set n v) := by simp [ints, List.map_set]
theorem bools_set (l : List Bool) (n : Nat) (v : Bool) : (bools l).setIfInBounds n (.bool v) = bools (l.set n v) := by simp [bools, List.map_set]

def Ar.rawOk (A : Ar) (i : Int) : Prop := 0 ≤ i ∧ i < A.raw.length
instance (A : Ar) (i : Int) : Decidable (A.rawOk i) := by unfold Ar.rawOk; infer_instance

theorem at_ok {A : Ar} (hA : A.nd) {i : Int} (hi : A.rawOk i) (H : Heap) : Det Try.prog f_arena_Arena_at [pA A, .int .i64 i] (A.put H) (.pointer (some ⟨A.r, i.toNat, none⟩)) (A.tick.put H) := by
  obtain ⟨h0, h1⟩ := hi
  refine t_arena_Arena_at_spec fun L => ?_
  unfold t_arena_Arena_at
  refine wp_nil.2 (wp_fld (x := A.uses) (n := 12) (wp_nil.2 ?_))
  refine wp_setf A.tick (n := 12) (u := .int .i64 A.uses) hA ?_
  refine wp_false (inlt h0) (wp_nil.2 ?_)
  refine wp_fld (A := A.tick) (x := Sl.mk (some ⟨A.r, 0, none⟩) A.raw.length A.raw.length) (n := 0) ?_
  refine wp_false (decide_eq_false (by show ¬ i ≥ ((A.raw.length : Nat) : Int); omega)) (wp_nil.2 ?_)
  refine wp_fld (A := A.tick) (x := Sl.mk (some ⟨A.r, 0, none⟩) A.raw.length A.raw.length) (n := 0) ?_
  refine look_val (x := Addr.mk A.r (0 + i.toNat) none) (idx_int h0 h1) ?_
  exact wp_ret_of ⟨by rw [Nat.zero_add], rfl⟩

theorem at_bad {A : Ar} (hA : A.nd) {i : Int} (hi : ¬ A.rawOk i) (H : Heap) : Det Try.prog f_arena_Arena_at [pA A, .int .i64 i] (A.put H) (.pointer none) (A.tick.bad.put H) := by
  refine t_arena_Arena_at_spec fun L => ?_
  unfold t_arena_Arena_at
  refine wp_nil.2 (wp_fld (x := A.uses) (n := 12) (wp_nil.2 ?_))
  refine wp_setf A.tick (n := 12) (u := .int .i64 A.uses) hA ?_
  by_cases h0 : i < 0
  · refine wp_true (ilt h0) (wp_nil.2 ?_)
    exact wp_setf (A := A.tick) A.tick.bad (n := 11) (u := .bool A.fault) hA (wp_ret_of ⟨rfl, rfl⟩)
  · refine wp_false (inlt (by omega)) (wp_nil.2 ?_)
    refine wp_fld (A := A.tick) (x := Sl.mk (some ⟨A.r, 0, none⟩) A.raw.length A.raw.length) (n := 0) ?_
    have : i ≥ ((A.raw.length : Nat) : Int) := by unfold Ar.rawOk at hi; omega
    refine wp_true (decide_eq_true this) (wp_nil.2 ?_)
    exact wp_setf (A := A.tick) A.tick.bad (n := 11) (u := .bool A.fault) hA (wp_ret_of ⟨rfl, rfl⟩)
end Go.Proofs.Ytgnifhkjpekkdaa
