import Derived.Test.YtgnifhkjpekkdaaSaCSlice
import Derived.Test.YtgnifhkjpekkdaaSaCBlock
import Derived.Test.YtgnifhkjpekkdaaSaTrFree
set_option linter.unusedVariables false
set_option maxRecDepth 20000
namespace Go.Proofs.Ytgnifhkjpekkdaa
open Go Go.Fw

/-- Where raw words stand. -/
structure Pl where
  work : Int
  heads : Int
  links : Int
  gens : Int
  carved : Int

def Pl.cells (p : Pl) : Array Value := #[.int .i64 p.work, .int .i64 p.heads, .int .i64 p.links, .int .i64 p.gens, .int .i64 p.carved]
def Pl.val (p : Pl) : Value := .agg p.cells

/-- A push. -/
structure Pu where
  pl : Pl
  head : Int
  was : Int
  at' : Int
  base : Int
def Pu.cells (x : Pu) : Array Value := #[.int .i64 x.pl.work, .int .i64 x.pl.heads, .int .i64 x.pl.links, .int .i64 x.pl.gens, .int .i64 x.pl.carved, .int .i64 x.head, .int .i64 x.was, .int .i64 x.at', .int .i64 x.base]
def Pu.obj (x : Pu) : Obj := .cells x.cells ty_free_pusher (0, 0)

/-- A pop. -/
structure Po where
  pl : Pl
  head : Int
  was : Int
  at' : Int
  link : Int
  base : Int
  ok : Bool
def Po.cells (x : Po) : Array Value := #[.int .i64 x.pl.work, .int .i64 x.pl.heads, .int .i64 x.pl.links, .int .i64 x.pl.gens, .int .i64 x.pl.carved, .int .i64 x.head, .int .i64 x.was, .int .i64 x.at', .int .i64 x.link, .int .i64 x.base, .bool x.ok]
def Po.obj (x : Po) : Obj := .cells x.cells ty_free_popper (0, 0)

def nextF (h f : Int) : Int := ior (w64 ((w64 ((Int.fdiv h (2 ^ 17)) + 1)) * 2 ^ 17)) f
theorem next_det (h f : Int) (H : Heap) : Det Try.prog f_free_next [.int .i64 h, .int .i64 f] H (.int .i64 (nextF h f)) H := by
  refine t_free_next_spec fun L => ?_
  unfold t_free_next
  exact wp_ret_of ⟨rfl, rfl⟩

def Pu.stepB (x : Pu) (A : Ar) : Bool := if x.at' = 2 then A.swapRb x.head x.was else decide (x.at' = 3)
def Pu.stepA (x : Pu) (A : Ar) : Ar :=
  if x.at' = 1 then A.storeR (w64 (x.pl.links + w64 (Int.tdiv x.base 8))) (iand x.was 131071)
  else if x.at' = 2 then A.swapR x.head x.was (nextF x.was (w64 (w64 (Int.tdiv x.base 8) + 1)))
  else if x.at' = 3 then A else A.touchR x.head
def Pu.stepM (x : Pu) (A : Ar) : Pu :=
  if x.at' = 1 then { x with at' := 2 }
  else if x.at' = 2 then { x with at' := if A.swapRb x.head x.was then 3 else 0 }
  else if x.at' = 3 then x else { x with was := A.rawF x.head, at' := 1 }

theorem Raw_at {A : Ar} (hA : A.wf) {i x : Int} {p : Value} (hp : p = pA A) (hx : A.rawF i = x) (H : Heap) : Det Try.prog f_arena_Arena_Raw [p, .int .i64 i] (A.put H) (.int .i64 x) ((A.touchR i).put H) := by
  rw [hp, ← hx]; exact Raw_det hA i H

theorem pusher_det {A : Ar} (hA : A.wf) (x : Pu) {q : Nat} (hq : q ∉ A.ids) (G : Heap) :
    Det Try.prog f_free_pusher_Step [.pointer (some ⟨q, 0, none⟩), pA A] (A.put (G.set q x.obj)) (.bool (x.stepB A)) ((x.stepA A).put (G.set q (x.stepM A).obj)) := by
  refine t_free_pusher_Step_spec fun L => ?_
  unfold t_free_pusher_Step Pu.stepB Pu.stepA Pu.stepM
  refine wp_nil.2 (bl_fld (x := x.at') (n := 7) hq ?_)
  by_cases h1 : x.at' = 1
  · rw [if_neg (by omega), if_pos h1, if_pos h1, decide_eq_false (by omega)]
    refine wp_true (ibeq h1) (wp_nil.2 ?_)
    refine bl_fld (x := x.pl.links) (n := 2) hq (wp_nil.2 ?_)
    refine bl_fld (x := x.base) (n := 8) hq (wp_nil.2 ?_)
    refine bl_fld (x := x.was) (n := 6) hq ?_
    refine wp_call_det (x := ()) (SetRaw_det hA _ _ _) (wp_nil.2 ?_)
    have hq' : q ∉ (A.storeR (w64 (x.pl.links + w64 (Int.tdiv x.base 8))) (iand x.was 131071)).ids := by rw [(storeR_alike A _ _).ids]; exact hq
    refine bl_set (u := .int .i64 x.at') (n := 7) hq' (({ x with at' := 2 } : Pu).cells) ?_
    exact wp_ret_of ⟨rfl, rfl⟩
  · refine wp_false (ibef h1) ?_
    rw [if_neg h1, if_neg h1]
    by_cases h2 : x.at' = 2
    · rw [if_pos h2, if_pos h2, if_pos h2]
      refine wp_true (ibeq h2) (wp_nil.2 ?_)
      refine bl_set (u := .int .i64 x.at') (n := 7) hq (({ x with at' := 0 } : Pu).cells) (wp_nil.2 ?_)
      refine bl_fld (x := x.head) (n := 5) hq (wp_nil.2 ?_)
      refine bl_fld (x := x.was) (n := 6) hq (wp_nil.2 ?_)
      refine bl_fld (x := x.was) (n := 6) hq (wp_nil.2 ?_)
      refine bl_fld (x := x.base) (n := 8) hq ?_
      refine wp_qcall_det (next_det _ _ _) ?_
      refine wp_call_det (SwapRaw_det hA _ _ _ _) ?_
      have hq' : q ∉ (A.swapR x.head x.was (nextF x.was (w64 (w64 (Int.tdiv x.base 8) + 1)))).ids := by rw [(swapR_alike A _ _ _).ids]; exact hq
      cases hb : A.swapRb x.head x.was with
      | true =>
        refine wp_true rfl (wp_nil.2 ?_)
        refine bl_set (u := .int .i64 0) (n := 7) hq' (({ x with at' := 3 } : Pu).cells) (wp_nil.2 ?_)
        refine bl_fld (x := (3 : Int)) (n := 7) hq' ?_
        exact wp_ret_of ⟨rfl, rfl⟩
      | false =>
        refine wp_false rfl (wp_nil.2 ?_)
        refine bl_fld (x := (0 : Int)) (n := 7) hq' ?_
        exact wp_ret_of ⟨rfl, rfl⟩
    · refine wp_false (ibef h2) ?_
      rw [if_neg h2, if_neg h2, if_neg h2]
      by_cases h3 : x.at' = 3
      · rw [if_pos h3, if_pos h3, decide_eq_true h3]
        exact wp_true (ibeq h3) (wp_ret_of ⟨rfl, rfl⟩)
      · refine wp_false (ibef h3) (wp_nil.2 ?_)
        rw [if_neg h3, if_neg h3, decide_eq_false h3]
        refine bl_fld (x := x.head) (n := 5) hq ?_
        refine wp_call_det (Raw_det hA _ _) (wp_nil.2 ?_)
        have hq' : q ∉ (A.touchR x.head).ids := by rw [(touchR_alike A _).ids]; exact hq
        refine bl_set (u := .int .i64 x.was) (n := 6) hq' (({ x with was := A.rawF x.head } : Pu).cells) (wp_nil.2 ?_)
        refine bl_set (u := .int .i64 x.at') (n := 7) hq' (({ x with was := A.rawF x.head, at' := 1 } : Pu).cells) ?_
        exact wp_ret_of ⟨rfl, rfl⟩

def Po.stepB (x : Po) (A : Ar) : Bool := if x.at' = 1 then false else if x.at' = 2 then A.swapRb x.head x.was else if x.at' = 3 then true else decide (iand (A.rawF x.head) 131071 = 0)
def Po.stepA (x : Po) (A : Ar) : Ar :=
  if x.at' = 1 then A.touchR (w64 (w64 (x.pl.links + iand x.was 131071) - 1))
  else if x.at' = 2 then A.swapR x.head x.was (nextF x.was x.link)
  else if x.at' = 3 then A else A.touchR x.head
def Po.stepM (x : Po) (A : Ar) : Po :=
  if x.at' = 1 then { x with link := A.rawF (w64 (w64 (x.pl.links + iand x.was 131071) - 1)), at' := 2 }
  else if x.at' = 2 then if A.swapRb x.head x.was then { x with at' := 3, base := w64 (w64 (iand x.was 131071 - 1) * 8), ok := true } else { x with at' := 0 }
  else if x.at' = 3 then x else { x with was := A.rawF x.head, at' := if iand (A.rawF x.head) 131071 = 0 then 3 else 1 }

theorem popper_det {A : Ar} (hA : A.wf) (x : Po) {q : Nat} (hq : q ∉ A.ids) (G : Heap) :
    Det Try.prog f_free_popper_Step [.pointer (some ⟨q, 0, none⟩), pA A] (A.put (G.set q x.obj)) (.bool (x.stepB A)) ((x.stepA A).put (G.set q (x.stepM A).obj)) := by
  refine t_free_popper_Step_spec fun L => ?_
  unfold t_free_popper_Step Po.stepB Po.stepA Po.stepM
  refine wp_nil.2 (bl_fld (x := x.at') (n := 7) hq ?_)
  by_cases h1 : x.at' = 1
  · rw [if_pos h1, if_pos h1, if_pos h1]
    refine wp_true (ibeq h1) (wp_nil.2 ?_)
    refine bl_fld (x := x.pl.links) (n := 2) hq (wp_nil.2 ?_)
    refine bl_fld (x := x.was) (n := 6) hq ?_
    refine wp_call_det (Raw_det hA _ _) (wp_nil.2 ?_)
    have hq' : q ∉ (A.touchR (w64 (w64 (x.pl.links + iand x.was 131071) - 1))).ids := by rw [(touchR_alike A _).ids]; exact hq
    refine bl_set (u := .int .i64 x.link) (n := 8) hq' (({ x with link := A.rawF (w64 (w64 (x.pl.links + iand x.was 131071) - 1)) } : Po).cells) (wp_nil.2 ?_)
    refine bl_set (u := .int .i64 x.at') (n := 7) hq' (({ x with link := A.rawF (w64 (w64 (x.pl.links + iand x.was 131071) - 1)), at' := 2 } : Po).cells) ?_
    exact wp_ret_of ⟨rfl, rfl⟩
  · refine wp_false (ibef h1) ?_
    rw [if_neg h1, if_neg h1, if_neg h1]
    by_cases h2 : x.at' = 2
    · rw [if_pos h2, if_pos h2, if_pos h2]
      refine wp_true (ibeq h2) (wp_nil.2 ?_)
      refine bl_set (u := .int .i64 x.at') (n := 7) hq (({ x with at' := 0 } : Po).cells) (wp_nil.2 ?_)
      refine bl_fld (x := x.head) (n := 5) hq (wp_nil.2 ?_)
      refine bl_fld (x := x.was) (n := 6) hq (wp_nil.2 ?_)
      refine bl_fld (x := x.was) (n := 6) hq (wp_nil.2 ?_)
      refine bl_fld (x := x.link) (n := 8) hq ?_
      refine wp_qcall_det (next_det _ _ _) ?_
      refine wp_call_det (SwapRaw_det hA _ _ _ _) ?_
      have hq' : q ∉ (A.swapR x.head x.was (nextF x.was x.link)).ids := by rw [(swapR_alike A _ _ _).ids]; exact hq
      cases hb : A.swapRb x.head x.was with
      | true =>
        refine wp_true rfl (wp_nil.2 ?_)
        refine bl_fld (x := x.was) (n := 6) hq' (wp_nil.2 ?_)
        refine bl_set (u := .int .i64 0) (n := 7) hq' (({ x with at' := 3 } : Po).cells) (wp_nil.2 ?_)
        refine bl_set (u := .int .i64 x.base) (n := 9) hq' (({ x with at' := 3, base := w64 (w64 (iand x.was 131071 - 1) * 8) } : Po).cells) (wp_nil.2 ?_)
        refine bl_set (u := .bool x.ok) (n := 10) hq' (({ x with at' := 3, base := w64 (w64 (iand x.was 131071 - 1) * 8), ok := true } : Po).cells) (wp_nil.2 ?_)
        refine bl_fld (x := (3 : Int)) (n := 7) hq' ?_
        exact wp_ret_of ⟨rfl, rfl⟩
      | false =>
        refine wp_false rfl (wp_nil.2 ?_)
        refine bl_fld (x := (0 : Int)) (n := 7) hq' ?_
        exact wp_ret_of ⟨rfl, rfl⟩
    · refine wp_false (ibef h2) ?_
      rw [if_neg h2, if_neg h2, if_neg h2]
      by_cases h3 : x.at' = 3
      · rw [if_pos h3, if_pos h3, if_pos h3]
        exact wp_true (ibeq h3) (wp_ret_of ⟨rfl, rfl⟩)
      · refine wp_false (ibef h3) (wp_nil.2 ?_)
        rw [if_neg h3, if_neg h3, if_neg h3]
        refine bl_fld (x := x.head) (n := 5) hq ?_
        refine wp_call_det (Raw_det hA _ _) (wp_nil.2 ?_)
        have hq' : q ∉ (A.touchR x.head).ids := by rw [(touchR_alike A _).ids]; exact hq
        refine bl_set (u := .int .i64 x.was) (n := 6) hq' (({ x with was := A.rawF x.head } : Po).cells) (wp_nil.2 ?_)
        refine bl_set (u := .int .i64 x.at') (n := 7) hq' (({ x with was := A.rawF x.head, at' := 1 } : Po).cells) (wp_nil.2 ?_)
        refine bl_fld (x := A.rawF x.head) (n := 6) hq' ?_
        by_cases h4 : iand (A.rawF x.head) 131071 = 0
        · rw [decide_eq_true h4, if_pos h4]
          refine wp_true (ibeq h4) (wp_nil.2 ?_)
          refine bl_set (u := .int .i64 1) (n := 7) hq' (({ x with was := A.rawF x.head, at' := 3 } : Po).cells) (wp_nil.2 ?_)
          refine bl_fld (x := (3 : Int)) (n := 7) hq' ?_
          exact wp_ret_of ⟨rfl, rfl⟩
        · rw [decide_eq_false h4, if_neg h4]
          refine wp_false (ibef h4) (wp_nil.2 ?_)
          refine bl_fld (x := (1 : Int)) (n := 7) hq' ?_
          exact wp_ret_of ⟨rfl, rfl⟩
end Go.Proofs.Ytgnifhkjpekkdaa
