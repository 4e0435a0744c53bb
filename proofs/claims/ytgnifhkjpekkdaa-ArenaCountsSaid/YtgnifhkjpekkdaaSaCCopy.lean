import Derived.Test.YtgnifhkjpekkdaaSaLArena
import Derived.Test.YtgnifhkjpekkdaaSaCRing
import Derived.Test.YtgnifhkjpekkdaaSaTrCopy
set_option linter.unusedVariables false
set_option maxRecDepth 20000
namespace Go.Proofs.Ytgnifhkjpekkdaa
open Go Go.Fw

/-- A copy that goes. -/
structure Cp where
  q : Nat
  e1 : Nat
  e2 : Nat
  from' : Int
  to : Int
  at' : Int
  fin : Int
  v : Int
  has : Bool

namespace Cp
def arr (C : Cp) : Array Value := #[.int .i64 C.from', .int .i64 C.to, .int .i64 C.at', .int .i64 C.fin, .func (.func f_ring_word_1) #[] #[.pointer (some ⟨C.e1, 0, none⟩)], .func (.func f_ring_word_1) #[] #[.pointer (some ⟨C.e2, 0, none⟩)], .int .i64 C.v, .bool C.has]
def obj (C : Cp) : Obj := .cells C.arr ty_ring_Copy (0, 0)
def env (h : Int) : Obj := .cells #[.int .i64 (roomF h)] ty_int (0, 0)
def ids (C : Cp) : List Nat := [C.q, C.e1, C.e2]
/-- The copy's blocks, on what is below. -/
def put (C : Cp) (H : Heap) : Heap := fun x => if x = C.q then some C.obj else if x = C.e1 then some (env C.from') else if x = C.e2 then some (env C.to) else H x
def ok (C : Cp) (A : Ar) : Prop := C.q ≠ C.e1 ∧ C.q ≠ C.e2 ∧ C.e1 ≠ C.e2 ∧ C.q ∉ A.ids ∧ C.e1 ∉ A.ids ∧ C.e2 ∉ A.ids
end Cp

section
variable {L : Hands} {H : Heap} {R : Value → Heap → Prop} {A : Ar} {C D : Cp}

theorem cp_q (h : C.ok A) (H : Heap) : A.put (C.put H) C.q = some C.obj := by rw [Ar.put_out h.2.2.2.1]; unfold Cp.put; rw [if_pos rfl]
theorem cp_e1 (h : C.ok A) (H : Heap) : A.put (C.put H) C.e1 = some (Cp.env C.from') := by rw [Ar.put_out h.2.2.2.2.1]; unfold Cp.put; rw [if_neg (Ne.symm h.1), if_pos rfl]
theorem cp_e2 (h : C.ok A) (H : Heap) : A.put (C.put H) C.e2 = some (Cp.env C.to) := by rw [Ar.put_out h.2.2.2.2.2]; unfold Cp.put; rw [if_neg (Ne.symm h.2.1), if_neg (Ne.symm h.2.2.1), if_pos rfl]

theorem cp_fld {p : Addr} {n : Nat} {l : Leaf} {x : l.T} {k : l.T → Tree} (hC : C.ok A) (h : wp Try.prog (k x) L (A.put (C.put H)) R) (hp : p = ⟨C.q, n, none⟩ := by rfl) (hx : C.arr[n]? = some (l.toVal x) := by rfl) :
    wp Try.prog (.ld p l k) L (A.put (C.put H)) R := by
  subst hp
  exact wp_ld_of ((Heap.cell_of (cp_q hC H) _).trans hx) h

theorem cp_set (D : Cp) {p : Addr} {n : Nat} {v u : Value} {k : Tree} (hC : C.ok A) (h : wp Try.prog k L (A.put (D.put H)) R) (hp : p = ⟨C.q, n, none⟩ := by rfl) (hn : C.arr[n]? = some u := by rfl)
    (hb : C.arr.setIfInBounds n v = D.arr := by rfl) (hD : D.q = C.q ∧ D.e1 = C.e1 ∧ D.e2 = C.e2 ∧ D.from' = C.from' ∧ D.to = C.to := by exact ⟨rfl, rfl, rfl, rfl, rfl⟩) (hs : Value.single v = true := by rfl) :
    wp Try.prog (.st p v k) L (A.put (C.put H)) R := by
  subst hp
  refine wp_st_of (cp_q hC H) hn hs ?_
  have : (A.put (C.put H)).set C.q (.cells (C.arr.setIfInBounds n v) ty_ring_Copy (0, 0)) = A.put (D.put H) := by
    rw [Ar.put_set _ hC.2.2.2.1, hb]
    congr 1
    funext y
    unfold Heap.set Cp.put
    rw [hD.1, hD.2.1, hD.2.2.1, hD.2.2.2.1, hD.2.2.2.2]
    by_cases hy : y = C.q
    · rw [if_pos hy, if_pos hy]; rfl
    · rw [if_neg hy, if_neg hy, if_neg hy]
  rw [this]; exact h
end

def pC (C : Cp) : Value := .pointer (some ⟨C.q, 0, none⟩)

theorem word1_at {h i : Int} {b : Nat} {H : Heap} (hb : H b = some (Cp.env h)) : Det Try.prog f_ring_word_1 [.int .i64 i, .pointer (some ⟨b, 0, none⟩)] H (.int .i64 (wordF h i)) H := by
  have hr := roomF_of h
  exact word1_det (r := roomF h) (T := ty_int) hb (by omega)

def Cp.loaded (C : Cp) (v : Int) : Cp := { C with v := v, has := true }
def Cp.stored (C : Cp) : Cp := { C with at' := w64 (C.at' + 1), has := false }

theorem Step_end {C : Cp} {A : Ar} (hC : C.ok A) (he : C.fin ≤ C.at') (H : Heap) : Det Try.prog f_ring_Copy_Step [pC C, pA A] (A.put (C.put H)) (.bool true) (A.put (C.put H)) := by
  refine t_ring_Copy_Step_spec fun L => ?_
  unfold t_ring_Copy_Step
  refine wp_nil.2 (cp_fld (x := C.at') (n := 2) hC (wp_nil.2 (cp_fld (x := C.fin) (n := 3) hC ?_)))
  refine wp_true (decide_eq_true he) (wp_nil.2 ?_)
  refine cp_fld (x := C.at') (n := 2) hC (wp_nil.2 (cp_fld (x := C.fin) (n := 3) hC ?_))
  exact wp_ret_of ⟨by rw [decide_eq_true (show C.at' ≥ C.fin from he)], rfl⟩

theorem Step_load {C : Cp} {A : Ar} (hA : A.wf) (hC : C.ok A) (he : C.at' < C.fin) (hh : C.has = false) (H : Heap) :
    Det Try.prog f_ring_Copy_Step [pC C, pA A] (A.put (C.put H)) (.bool false) ((A.touch C.from' (wordF C.from' C.at')).put ((C.loaded (A.loadF C.from' (wordF C.from' C.at'))).put H)) := by
  refine t_ring_Copy_Step_spec fun L => ?_
  unfold t_ring_Copy_Step
  refine wp_nil.2 (cp_fld (x := C.at') (n := 2) hC (wp_nil.2 (cp_fld (x := C.fin) (n := 3) hC ?_)))
  refine wp_false (decide_eq_false (by show ¬ C.at' ≥ C.fin; omega)) (wp_nil.2 ?_)
  refine cp_fld (x := C.has) (n := 7) hC ?_
  refine wp_true (by rw [hh]; rfl) (wp_nil.2 ?_)
  refine cp_fld (x := C.from') (n := 0) hC (wp_nil.2 ?_)
  refine cp_fld (x := Fnv.mk (.func f_ring_word_1) #[] #[.pointer (some ⟨C.e1, 0, none⟩)]) (n := 4) hC (wp_nil.2 ?_)
  refine cp_fld (x := C.at') (n := 2) hC ?_
  refine look_enter (call_word _ _) (word1_at (cp_e1 hC H)) ?_
  refine wp_call_det (Load_at hA rfl rfl _) (wp_nil.2 ?_)
  have al := touch_alike A C.from' (wordF C.from' C.at')
  have hD : C.ok (A.touch C.from' (wordF C.from' C.at')) := by unfold Cp.ok; rw [al.ids]; exact hC
  generalize A.touch C.from' (wordF C.from' C.at') = B at *
  generalize A.loadF C.from' (wordF C.from' C.at') = v at *
  refine cp_set { C with v := v } (n := 6) hD (u := .int .i64 C.v) (wp_nil.2 ?_)
  refine cp_set (C := { C with v := v }) (C.loaded v) (n := 7) hD (u := .bool C.has) (wp_nil.2 ?_)
  refine cp_fld (C := C.loaded v) (x := C.at') (n := 2) hD (wp_nil.2 (cp_fld (C := C.loaded v) (x := C.fin) (n := 3) hD ?_))
  exact wp_ret_of ⟨by rw [decide_eq_false (show ¬ C.at' ≥ C.fin by omega)], rfl⟩

theorem Step_store {C : Cp} {A : Ar} (hA : A.wf) (hC : C.ok A) (he : C.at' < C.fin) (hh : C.has = true) (H : Heap) :
    Det Try.prog f_ring_Copy_Step [pC C, pA A] (A.put (C.put H)) (.bool (decide (w64 (C.at' + 1) ≥ C.fin))) ((A.storeF C.to (wordF C.to C.at') C.v).put (C.stored.put H)) := by
  refine t_ring_Copy_Step_spec fun L => ?_
  unfold t_ring_Copy_Step
  refine wp_nil.2 (cp_fld (x := C.at') (n := 2) hC (wp_nil.2 (cp_fld (x := C.fin) (n := 3) hC ?_)))
  refine wp_false (decide_eq_false (by show ¬ C.at' ≥ C.fin; omega)) (wp_nil.2 ?_)
  refine cp_fld (x := C.has) (n := 7) hC ?_
  refine wp_false (by rw [hh]; rfl) (wp_nil.2 ?_)
  refine cp_fld (x := C.to) (n := 1) hC (wp_nil.2 ?_)
  refine cp_fld (x := Fnv.mk (.func f_ring_word_1) #[] #[.pointer (some ⟨C.e2, 0, none⟩)]) (n := 5) hC (wp_nil.2 ?_)
  refine cp_fld (x := C.at') (n := 2) hC ?_
  refine look_enter (call_word _ _) (word1_at (cp_e2 hC H)) (wp_nil.2 ?_)
  refine cp_fld (x := C.v) (n := 6) hC ?_
  refine wp_call_det (x := ()) (Store_at hA rfl _) (wp_nil.2 ?_)
  have al := storeF_alike A C.to (wordF C.to C.at') C.v
  have hD : C.ok (A.storeF C.to (wordF C.to C.at') C.v) := by unfold Cp.ok; rw [al.ids]; exact hC
  generalize A.storeF C.to (wordF C.to C.at') C.v = B at *
  refine cp_fld (x := C.at') (n := 2) hD (wp_nil.2 ?_)
  refine cp_set { C with at' := w64 (C.at' + 1) } (n := 2) hD (u := .int .i64 C.at') (wp_nil.2 ?_)
  refine cp_set (C := { C with at' := w64 (C.at' + 1) }) C.stored (n := 7) hD (u := .bool C.has) (wp_nil.2 ?_)
  refine cp_fld (C := C.stored) (x := w64 (C.at' + 1)) (n := 2) hD (wp_nil.2 (cp_fld (C := C.stored) (x := C.fin) (n := 3) hD ?_))
  exact wp_ret_of ⟨rfl, rfl⟩

theorem NewCopy_spec {A : Ar} (f t a b : Int) (H : Heap) :
    SpecF Try.prog f_ring_NewCopy #[.int .i64 f, .int .i64 t, .int .i64 a, .int .i64 b] (A.put H) fun v K => ∃ C : Cp, C.ok A ∧ (∀ x ∈ C.ids, H x = none) ∧ C.from' = f ∧ C.to = t ∧ C.at' = a ∧ C.fin = b ∧ C.v = 0 ∧ C.has = false ∧ v = pC C ∧ K = A.put (C.put H) := by
  refine t_ring_NewCopy_spec fun L => ?_
  unfold t_ring_NewCopy
  refine wp_call_of (word_spec f _) ?_
  rintro v K ⟨e1, he1, rfl, rfl⟩
  refine ⟨⟨.func f_ring_word_1, #[], #[.pointer (some ⟨e1, 0, none⟩)]⟩, rfl, ?_⟩
  refine wp_call_of (word_spec t _) ?_
  rintro v K ⟨e2, he2, rfl, rfl⟩
  refine ⟨⟨.func f_ring_word_1, #[], #[.pointer (some ⟨e2, 0, none⟩)]⟩, rfl, ?_⟩
  refine wp_newP fun q hq => ?_
  obtain ⟨h1, he2⟩ := set_none he2
  obtain ⟨h2, hq⟩ := set_none hq
  obtain ⟨h3, hq⟩ := set_none hq
  have n1 := Ar.put_none he1
  have n2 := Ar.put_none he2
  have n3 := Ar.put_none hq
  refine wp_ret_of ⟨⟨q, e1, e2, f, t, a, b, 0, false⟩, ⟨h3, h2, Ne.symm h1, n3.1, n1.1, n2.1⟩, ?_, rfl, rfl, rfl, rfl, rfl, rfl, rfl, ?_⟩
  · intro x hx
    unfold Cp.ids at hx
    simp only [List.mem_cons, List.not_mem_nil, or_false] at hx
    rcases hx with rfl | rfl | rfl
    · exact n3.2
    · exact n1.2
    · exact n2.2
  · rw [Ar.put_set _ n1.1, Ar.put_set _ n2.1, Ar.put_set _ n3.1]
    congr 1
    funext y
    unfold Heap.set Cp.put
    by_cases y1 : y = q
    · rw [if_pos y1, if_pos y1]; rfl
    · rw [if_neg y1, if_neg y1]
      by_cases y2 : y = e1
      · rw [if_pos y2, if_pos y2, if_neg (by rw [y2]; exact Ne.symm h1)]; rfl
      · rw [if_neg y2, if_neg y2]
        by_cases y3 : y = e2
        · rw [if_pos y3, if_pos y3]; rfl
        · rw [if_neg y3, if_neg y3]

theorem cp_le {C : Cp} {H : Heap} (h : ∀ x ∈ C.ids, H x = none) : H.le (C.put H) := fun x o e => by
  have hx : x ∉ C.ids := fun hm => by rw [h x hm] at e; cases e
  unfold Cp.ids at hx
  simp only [List.mem_cons, not_or, List.not_mem_nil, not_false_eq_true, and_true] at hx
  unfold Cp.put
  rw [if_neg hx.1, if_neg hx.2.1, if_neg hx.2.2]; exact e

theorem nc_some (a : Addr) : opS Try.prog (.binOp .neq ty_p_ring_Copy (.tmp 0) (.const (.pointer none)) ty_p_ring_Copy) ty_bool [(.pointer (some a))] = .pure (.value (.bool true)) := by kernel_rfl
theorem na_some (a : Addr) : opS Try.prog (.binOp .neq ty_p_arena_Arena (.tmp 0) (.const (.pointer none)) ty_p_arena_Arena) ty_bool [(.pointer (some a))] = .pure (.value (.bool true)) := by kernel_rfl
theorem ec_some (a : Addr) : opS Try.prog (.binOp .eql ty_p_ring_Copy (.tmp 0) (.const (.pointer none)) ty_p_ring_Copy) ty_bool [(.pointer (some a))] = .pure (.value (.bool false)) := by kernel_rfl

end Go.Proofs.Ytgnifhkjpekkdaa
