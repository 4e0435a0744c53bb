/- Texts of this claim, one behind the other. -/
import Derived.Test.YtjleoogieoahnaaB1
set_option linter.unusedSimpArgs false
set_option linter.unusedVariables false
set_option linter.unusedVariables false
set_option linter.unusedSimpArgs false
set_option maxRecDepth 20000
namespace Go.Proofs.Ytjleoogieoahnaa
open Go Go.Fw

section
variable {L : Hands} {R : Value → Heap → Prop} {G : Heap} {l : Bl} {A : Ar} {I : List Nat}

theorem p_newS {c : List Value} {T : TypeId} {n : Nat} {k : Sl → Tree} (ok : Ok0 G (keys l)) (h : ∀ b, Ok0 G (keys ((b, oc T c) :: l)) → wp Try.prog (k ⟨some ⟨b, 0, none⟩, n, n⟩) L (putL ((b, oc T c) :: l) G) R) :
    wp Try.prog (.newS (.cells c.toArray T) n k) L (putL l G) R := wp_newS fun b hb => h b (p_new ok hb (oc T c))
theorem p_end (ok : Ok0 G (keys l)) : G.le (putL l G) := by
  intro b o hb
  rw [putL_out]
  · exact hb
  · intro h; rw [ok.no b h] at hb; cases hb

def fw (a n k : Int) : Int := w64 (w64 (a + w64 (2 * n)) + k)
theorem fw_eq {a n k : Int} (b : 0 ≤ a ∧ a ≤ 1000 ∧ 0 ≤ n ∧ n ≤ 1000 ∧ 0 ≤ k ∧ k ≤ 1) : fw a n k = a + 2 * n + k := by
  unfold fw; rw [w64_in (x := 2 * n) (by omega) (by omega), w64_in (x := a + 2 * n) (by omega) (by omega), w64_in (by omega) (by omega)]
theorem FWord_det (a n k : Int) (H : Heap) : Det Try.prog f_future_Word [.int .i64 a, .int .i64 n, .int .i64 k] H (.int .i64 (fw a n k)) H := by
  refine t_future_Word_spec fun L => ?_
  unfold t_future_Word
  exact wp_ret_of ⟨rfl, rfl⟩
theorem wq_FWord {H : Heap} {a n w : Int} {k : Int → Tree} (h : wp Try.prog (k (fw a n w)) L H R) : wp Try.prog (.qcall f_future_Word [.int .i64 a, .int .i64 n, .int .i64 w] (.one (.leaf (.int .i64))) k) L H R := wp_qcall_det (x := fw a n w) (FWord_det a n w H) h
theorem wq_FRaw {H : Heap} {n a : Int} (b : 0 ≤ n ∧ n ≤ 1000) {k : Int → Tree} (h : wp Try.prog (k (2 * n)) L H R) : wp Try.prog (.qcall f_future_Raw [.int .i64 n, .int .i64 a] (.one (.leaf (.int .i64))) k) L H R := by
  have e : w64 (2 * imax n 0) = 2 * n := by
    rw [show imax n 0 = n by unfold imax; rw [if_neg (by omega)]]
    exact w64_in (by omega) (by omega)
  refine wp_qcall_det (x := 2 * n) (show Det Try.prog f_future_Raw [.int .i64 n, .int .i64 a] H (.int .i64 (2 * n)) H from t_future_Raw_spec fun L => ?_) h
  unfold t_future_Raw
  rw [e]
  exact wp_ret_of ⟨rfl, rfl⟩

theorem arr_sl (a : Addr) : opS Try.prog (.slice ty_a2_int (.tmp 0) none none none) ty_s_int [(.pointer (some a))] = .pure (.value (.slice (some a) 2 2)) := by kernel_rfl

theorem of_det (a n v : Int) (H : Heap) : Det Try.prog f_future_of [.int .i64 a, .int .i64 n, .int .i64 v] H (.agg #[.int .i64 (fw a n 0), .int .i64 (fw a n 1), .int .i64 v, .int .i64 0, .bool false]) H := by
  refine t_future_of_spec fun L => ?_
  unfold t_future_of
  have ok0 : Ok0 H (keys []) := ⟨.nil, fun b h => (by cases h)⟩
  refine p_newP (l := []) ok0 fun x6 ok0 => ?_
  refine p_newP ok0 fun x7 ok0 => ?_
  refine p_stA 0 ok0 rfl rfl rfl rfl ?_
  refine look_val (x := ⟨some ⟨x7, 0, none⟩, 2, 2⟩) (arr_sl _) ?_
  refine wq_FWord (wq_FWord ?_)
  refine p_newS (c := [.int .i64 (fw a n 0), .int .i64 (fw a n 1)]) ok0 fun x18 ok1 => ?_
  refine check_val (arr_sl _) ?_
  have ok1 : Ok0 H (keys [(x18, oc ty_int [.int .i64 (fw a n 0), .int .i64 (fw a n 1)]), (x7, oc ty_future_place [.int .i64 0, .int .i64 0, .int .i64 v, .int .i64 0, .bool false]), (x6, oc ty_future_place [.int .i64 0, .int .i64 0, .int .i64 0, .int .i64 0, .bool false])]) := ok1
  show wp Try.prog _ L (putL [(x18, oc ty_int [.int .i64 (fw a n 0), .int .i64 (fw a n 1)]), (x7, oc ty_future_place [.int .i64 0, .int .i64 0, .int .i64 v, .int .i64 0, .bool false]), (x6, oc ty_future_place [.int .i64 0, .int .i64 0, .int .i64 0, .int .i64 0, .bool false])] H) _
  refine copy_gen (e := ty_int) (T := ty_future_place) (new := [.int .i64 (fw a n 0), .int .i64 (fw a n 1)]) (c := #[.int .i64 0, .int .i64 0, .int .i64 v, .int .i64 0, .bool false]) rfl rfl ?_ rfl ?_ (by exact Nat.le_add_left 2 3) (singles _ rfl) ?_
  · intro i hi
    refine ⟨⟨x18, 0, none⟩, rfl, ?_⟩
    rw [Addr.add_mk, Heap.cell_of (putL_get (i := 0) H ok1.nd rfl), List.getElem?_toArray, Nat.zero_add]
  · exact putL_get (i := 1) H ok1.nd rfl
  refine ⟨2, rfl, ?_⟩
  have e := putL_set (l := [(x18, oc ty_int [.int .i64 (fw a n 0), .int .i64 (fw a n 1)]), (x7, oc ty_future_place [.int .i64 0, .int .i64 0, .int .i64 v, .int .i64 0, .bool false]), (x6, oc ty_future_place [.int .i64 0, .int .i64 0, .int .i64 0, .int .i64 0, .bool false])]) (i := 1) (b := x7) (o' := oc ty_future_place [.int .i64 (fw a n 0), .int .i64 (fw a n 1), .int .i64 v, .int .i64 0, .bool false]) H ok1.nd rfl
  have e' : (putL [(x18, oc ty_int [.int .i64 (fw a n 0), .int .i64 (fw a n 1)]), (x7, oc ty_future_place [.int .i64 0, .int .i64 0, .int .i64 v, .int .i64 0, .bool false]), (x6, oc ty_future_place [.int .i64 0, .int .i64 0, .int .i64 0, .int .i64 0, .bool false])] H).set x7 (.cells (putAll #[.int .i64 0, .int .i64 0, .int .i64 v, .int .i64 0, .bool false] 0 [.int .i64 (fw a n 0), .int .i64 (fw a n 1)]) ty_future_place (0, 0)) = _ := e
  rw [e']
  have ok2 : Ok0 H (keys [(x18, oc ty_int [.int .i64 (fw a n 0), .int .i64 (fw a n 1)]), (x7, oc ty_future_place [.int .i64 (fw a n 0), .int .i64 (fw a n 1), .int .i64 v, .int .i64 0, .bool false]), (x6, oc ty_future_place [.int .i64 0, .int .i64 0, .int .i64 0, .int .i64 0, .bool false])]) := ok1
  show wp Try.prog _ L (putL [(x18, oc ty_int [.int .i64 (fw a n 0), .int .i64 (fw a n 1)]), (x7, oc ty_future_place [.int .i64 (fw a n 0), .int .i64 (fw a n 1), .int .i64 v, .int .i64 0, .bool false]), (x6, oc ty_future_place [.int .i64 0, .int .i64 0, .int .i64 0, .int .i64 0, .bool false])] H) _
  refine p_ldA (l := [(x18, oc ty_int [.int .i64 (fw a n 0), .int .i64 (fw a n 1)]), (x7, oc ty_future_place [.int .i64 (fw a n 0), .int .i64 (fw a n 1), .int .i64 v, .int .i64 0, .bool false]), (x6, oc ty_future_place [.int .i64 0, .int .i64 0, .int .i64 0, .int .i64 0, .bool false])]) 1 ok2 rfl rfl rfl ?_
  refine p_stA 2 ok2 rfl rfl rfl rfl ?_
  refine ⟨(fw a n 0, fw a n 1, v, 0, false, ()), ?_, H, p_end (by exact ok2), rfl, rfl⟩
  refine ldK_still (putL_get (i := 2) H (by exact ok2.nd) rfl) 5 0 #[] (by exact Nat.le_refl 5) ?_
  rfl

/-- A future's machine. -/
structure Ft where
  w0 : Int
  w1 : Int
  v : Int
  ph : Int
  ok : Bool
def Ft.cells (x : Ft) : List Value := [.int .i64 x.w0, .int .i64 x.w1, .int .i64 x.v, .int .i64 x.ph, .bool x.ok]
theorem place_word0 (x : Ft) (H : Heap) : Det Try.prog f_future_place_word [.agg #[.int .i64 x.w0, .int .i64 x.w1, .int .i64 x.v, .int .i64 x.ph, .bool x.ok], .int .i64 0] H (.int .i64 x.w0) H := by
  refine t_future_place_word_spec (p0_0 := x.w0) (p0_1 := x.w1) (p0_2 := x.v) (p0_3 := x.ph) (p0_4 := x.ok) fun L => ?_
  unfold t_future_place_word
  refine wp_newP fun b hb => ?_
  refine w_ix (A := ⟨0, 0, 0, 0, 0, 0, 0, [], [], false, [], [], [], [], 0, 0, 0, 0, false, 0⟩) (e := ty_int) (n := 2) rfl rfl rfl (by decide) (by decide) ?_
  refine wp_ld_of (x := x.w0) (by rw [Heap.cell_set]; rfl) ?_
  exact ⟨H, Heap.le_set_new _ hb, rfl, rfl⟩
theorem place_word1 (x : Ft) (H : Heap) : Det Try.prog f_future_place_word [.agg #[.int .i64 x.w0, .int .i64 x.w1, .int .i64 x.v, .int .i64 x.ph, .bool x.ok], .int .i64 1] H (.int .i64 x.w1) H := by
  refine t_future_place_word_spec (p0_0 := x.w0) (p0_1 := x.w1) (p0_2 := x.v) (p0_3 := x.ph) (p0_4 := x.ok) fun L => ?_
  unfold t_future_place_word
  refine wp_newP fun b hb => ?_
  refine w_ix (A := ⟨0, 0, 0, 0, 0, 0, 0, [], [], false, [], [], [], [], 0, 0, 0, 0, false, 0⟩) (e := ty_int) (n := 2) rfl rfl rfl (by decide) (by decide) ?_
  refine wp_ld_of (x := x.w1) (by rw [Heap.cell_set]; rfl) ?_
  exact ⟨H, Heap.le_set_new _ hb, rfl, rfl⟩
theorem wq_pw0 {H : Heap} {w0 w1 v ph : Int} {o : Bool} {k : Int → Tree} (h : wp Try.prog (k w0) L H R) : wp Try.prog (.qcall f_future_place_word [.agg #[.int .i64 w0, .int .i64 w1, .int .i64 v, .int .i64 ph, .bool o], .int .i64 0] (.one (.leaf (.int .i64))) k) L H R := wp_qcall_det (x := w0) (place_word0 ⟨w0, w1, v, ph, o⟩ H) h
theorem wq_pw1 {H : Heap} {w0 w1 v ph : Int} {o : Bool} {k : Int → Tree} (h : wp Try.prog (k w1) L H R) : wp Try.prog (.qcall f_future_place_word [.agg #[.int .i64 w0, .int .i64 w1, .int .i64 v, .int .i64 ph, .bool o], .int .i64 1] (.one (.leaf (.int .i64))) k) L H R := wp_qcall_det (x := w1) (place_word1 ⟨w0, w1, v, ph, o⟩ H) h

def Ft.setS (x : Ft) (A : Ar) : Ft × Ar :=
  if x.ph = 0 then ({ x with ph := if A.swapRb x.w0 0 = true then 1 else 3 }, A.swapR x.w0 0 1)
  else if x.ph = 1 then ({ x with ph := 2 }, A.storeR x.w1 x.v)
  else if x.ph = 2 then ({ x with ph := 3, ok := true }, A.storeR x.w0 2)
  else ({ x with ph := 3 }, A)
def Ft.getS (x : Ft) (A : Ar) : Ft × Ar :=
  if x.ph = 0 then ({ x with ph := if A.rawF x.w0 = 2 then 1 else 3 }, A.touchR x.w0)
  else if x.ph = 1 then ({ x with v := A.rawF x.w1, ok := true, ph := 3 }, A.touchR x.w1)
  else (x, A)
def mSt : Mch Ft Nat where
  f := f_future_Set_Step
  addr := id
  bl := fun x q => [(q, oc ty_future_Set x.cells)]
  inv := fun _ _ => True
  step := Ft.setS
  fin := fun x => (x.ph : Int) == 3
def mGt : Mch Ft Nat where
  f := f_future_Get_Step
  addr := id
  bl := fun x q => [(q, oc ty_future_Get x.cells)]
  inv := fun _ _ => True
  step := Ft.getS
  fin := fun x => (x.ph : Int) == 3
theorem mSt_inv : mSt.inv' ty_p_future_Set := fun q p => by
  show opS _ _ _ _ = .pure (.enter f_future_Set_Step [.pointer (some ⟨q, 0, none⟩), .pointer p].toArray)
  kernel_rfl
theorem mGt_inv : mGt.inv' ty_p_future_Get := fun q p => by
  show opS _ _ _ _ = .pure (.enter f_future_Get_Step [.pointer (some ⟨q, 0, none⟩), .pointer p].toArray)
  kernel_rfl

set_option maxHeartbeats 4000000 in
theorem mSt_ok : mSt.ok := by
  rintro I A G ⟨w0, w1, v, ph, o⟩ q hA ok _
  have ok : Ok I G (keys [(q, oc ty_future_Set [.int .i64 w0, .int .i64 w1, .int .i64 v, .int .i64 ph, .bool o])]) := ok
  refine t_future_Set_Step_spec fun L => ?_
  unfold t_future_Set_Step
  show wp Try.prog _ L (own A [(q, oc ty_future_Set [.int .i64 w0, .int .i64 w1, .int .i64 v, .int .i64 ph, .bool o])] G) fun u K => ∃ j' : Nat, u = .bool ((Ft.setS ⟨w0, w1, v, ph, o⟩ A).1.ph == 3) ∧ K = own (Ft.setS ⟨w0, w1, v, ph, o⟩ A).2 [(j', oc ty_future_Set (Ft.setS ⟨w0, w1, v, ph, o⟩ A).1.cells)] G ∧ j' = q ∧ Ok I G [j'] ∧ Aw I (Ft.setS ⟨w0, w1, v, ph, o⟩ A).2
  unfold Ft.setS
  dsimp only
  repeat (first
  | refine wp_nil.2 ?_
  | refine w_ld 0 hA ok rfl rfl rfl ?_
  | refine w_ld 1 hA ok rfl rfl rfl ?_
  | refine w_ld 2 hA ok rfl rfl rfl ?_
  | refine w_ld 3 hA ok rfl rfl rfl ?_
  | refine w_ld 4 hA ok rfl rfl rfl ?_
  | refine w_ld 5 hA ok rfl rfl rfl ?_
  | refine w_ld 6 hA ok rfl rfl rfl ?_
  | refine w_ld 7 hA ok rfl rfl rfl ?_
  | refine w_st 0 hA ok rfl rfl rfl rfl ?_
  | refine w_st 1 hA ok rfl rfl rfl rfl ?_
  | refine w_st 2 hA ok rfl rfl rfl rfl ?_
  | refine w_st 3 hA ok rfl rfl rfl rfl ?_
  | refine w_st 4 hA ok rfl rfl rfl rfl ?_
  | refine w_st 5 hA ok rfl rfl rfl rfl ?_
  | refine w_st 6 hA ok rfl rfl rfl rfl ?_
  | refine w_st 7 hA ok rfl rfl rfl rfl ?_
  | refine w_ldA 0 hA ok rfl rfl rfl ?_
  | refine w_ldA 1 hA ok rfl rfl rfl ?_
  | refine w_ldA 2 hA ok rfl rfl rfl ?_
  | refine w_ldA 3 hA ok rfl rfl rfl ?_
  | refine w_ldA 4 hA ok rfl rfl rfl ?_
  | refine w_ldA 5 hA ok rfl rfl rfl ?_
  | refine w_ldA 6 hA ok rfl rfl rfl ?_
  | refine w_ldA 7 hA ok rfl rfl rfl ?_
  | refine w_stA 0 hA ok rfl rfl rfl rfl ?_
  | refine w_stA 1 hA ok rfl rfl rfl rfl ?_
  | refine w_stA 2 hA ok rfl rfl rfl rfl ?_
  | refine w_stA 3 hA ok rfl rfl rfl rfl ?_
  | refine w_stA 4 hA ok rfl rfl rfl rfl ?_
  | refine w_stA 5 hA ok rfl rfl rfl rfl ?_
  | refine w_stA 6 hA ok rfl rfl rfl rfl ?_
  | refine w_stA 7 hA ok rfl rfl rfl rfl ?_
  | (refine w_Raw hA ?_; intro hA)
  | (refine w_SetRaw hA ?_; intro hA)
  | (refine w_SwapRaw hA ?_; intro hA)
  | (refine w_AddRaw hA ?_; intro hA)
  | (refine w_Load hA ?_; intro hA)
  | (refine w_Store hA ?_; intro hA)
  | (refine w_Retire hA ?_; intro hA)
  | (refine w_Died hA ?_; intro hA)
  | (refine w_Born hA ?_; intro hA)
  | refine w_State hA ?_
  | refine w_Uses hA ?_
  | refine w_Fault hA ?_
  | refine w_Words hA ?_
  | refine w_Count hA ?_
  | refine wq_Size ?_
  | refine wq_Open ?_
  | refine wq_Pack ?_
  | refine wq_head ?_
  | refine w_ck 0 hA ok rfl rfl rfl ?_
  | refine w_ck 1 hA ok rfl rfl rfl ?_
  | refine w_ck 2 hA ok rfl rfl rfl ?_
  | refine w_ck 3 hA ok rfl rfl rfl ?_
  | refine w_ck 4 hA ok rfl rfl rfl ?_
  | refine w_ck 5 hA ok rfl rfl rfl ?_
  | refine w_ck 6 hA ok rfl rfl rfl ?_
  | refine w_ck 7 hA ok rfl rfl rfl ?_
  | refine w_ckn rfl ?_
  | refine w_Base 0 1 hA ok rfl rfl ?_
  | refine w_Base 1 2 hA ok rfl rfl ?_
  | refine w_Base 2 3 hA ok rfl rfl ?_
  | refine w_Base 3 4 hA ok rfl rfl ?_
  | refine w_Base 4 5 hA ok rfl rfl ?_
  | refine w_Base 5 6 hA ok rfl rfl ?_
  | (refine w_PopStep 0 1 hA ok rfl rfl ?_; intro hA)
  | (refine w_PopStep 1 2 hA ok rfl rfl ?_; intro hA)
  | (refine w_PopStep 2 3 hA ok rfl rfl ?_; intro hA)
  | (refine w_PopStep 3 4 hA ok rfl rfl ?_; intro hA)
  | (refine w_PopStep 4 5 hA ok rfl rfl ?_; intro hA)
  | (refine w_PopStep 5 6 hA ok rfl rfl ?_; intro hA)
  | (refine w_PushStep 0 1 hA ok rfl rfl ?_; intro hA)
  | (refine w_PushStep 1 2 hA ok rfl rfl ?_; intro hA)
  | (refine w_PushStep 2 3 hA ok rfl rfl ?_; intro hA)
  | (refine w_PushStep 3 4 hA ok rfl rfl ?_; intro hA)
  | (refine w_PushStep 4 5 hA ok rfl rfl ?_; intro hA)
  | (refine w_PushStep 5 6 hA ok rfl rfl ?_; intro hA)
  | refine wp_true (by assumption) ?_
  | refine wp_false (by assumption) ?_)
  refine w_newP hA ok fun x5 ok => ?_
  repeat (first
  | refine wp_nil.2 ?_
  | refine w_ld 0 hA ok rfl rfl rfl ?_
  | refine w_ld 1 hA ok rfl rfl rfl ?_
  | refine w_ld 2 hA ok rfl rfl rfl ?_
  | refine w_ld 3 hA ok rfl rfl rfl ?_
  | refine w_ld 4 hA ok rfl rfl rfl ?_
  | refine w_ld 5 hA ok rfl rfl rfl ?_
  | refine w_ld 6 hA ok rfl rfl rfl ?_
  | refine w_ld 7 hA ok rfl rfl rfl ?_
  | refine w_st 0 hA ok rfl rfl rfl rfl ?_
  | refine w_st 1 hA ok rfl rfl rfl rfl ?_
  | refine w_st 2 hA ok rfl rfl rfl rfl ?_
  | refine w_st 3 hA ok rfl rfl rfl rfl ?_
  | refine w_st 4 hA ok rfl rfl rfl rfl ?_
  | refine w_st 5 hA ok rfl rfl rfl rfl ?_
  | refine w_st 6 hA ok rfl rfl rfl rfl ?_
  | refine w_st 7 hA ok rfl rfl rfl rfl ?_
  | refine w_ldA 0 hA ok rfl rfl rfl ?_
  | refine w_ldA 1 hA ok rfl rfl rfl ?_
  | refine w_ldA 2 hA ok rfl rfl rfl ?_
  | refine w_ldA 3 hA ok rfl rfl rfl ?_
  | refine w_ldA 4 hA ok rfl rfl rfl ?_
  | refine w_ldA 5 hA ok rfl rfl rfl ?_
  | refine w_ldA 6 hA ok rfl rfl rfl ?_
  | refine w_ldA 7 hA ok rfl rfl rfl ?_
  | refine w_stA 0 hA ok rfl rfl rfl rfl ?_
  | refine w_stA 1 hA ok rfl rfl rfl rfl ?_
  | refine w_stA 2 hA ok rfl rfl rfl rfl ?_
  | refine w_stA 3 hA ok rfl rfl rfl rfl ?_
  | refine w_stA 4 hA ok rfl rfl rfl rfl ?_
  | refine w_stA 5 hA ok rfl rfl rfl rfl ?_
  | refine w_stA 6 hA ok rfl rfl rfl rfl ?_
  | refine w_stA 7 hA ok rfl rfl rfl rfl ?_
  | (refine w_Raw hA ?_; intro hA)
  | (refine w_SetRaw hA ?_; intro hA)
  | (refine w_SwapRaw hA ?_; intro hA)
  | (refine w_AddRaw hA ?_; intro hA)
  | (refine w_Load hA ?_; intro hA)
  | (refine w_Store hA ?_; intro hA)
  | (refine w_Retire hA ?_; intro hA)
  | (refine w_Died hA ?_; intro hA)
  | (refine w_Born hA ?_; intro hA)
  | refine w_State hA ?_
  | refine w_Uses hA ?_
  | refine w_Fault hA ?_
  | refine w_Words hA ?_
  | refine w_Count hA ?_
  | refine wq_Size ?_
  | refine wq_Open ?_
  | refine wq_Pack ?_
  | refine wq_head ?_
  | refine w_ck 0 hA ok rfl rfl rfl ?_
  | refine w_ck 1 hA ok rfl rfl rfl ?_
  | refine w_ck 2 hA ok rfl rfl rfl ?_
  | refine w_ck 3 hA ok rfl rfl rfl ?_
  | refine w_ck 4 hA ok rfl rfl rfl ?_
  | refine w_ck 5 hA ok rfl rfl rfl ?_
  | refine w_ck 6 hA ok rfl rfl rfl ?_
  | refine w_ck 7 hA ok rfl rfl rfl ?_
  | refine w_ckn rfl ?_
  | refine w_Base 0 1 hA ok rfl rfl ?_
  | refine w_Base 1 2 hA ok rfl rfl ?_
  | refine w_Base 2 3 hA ok rfl rfl ?_
  | refine w_Base 3 4 hA ok rfl rfl ?_
  | refine w_Base 4 5 hA ok rfl rfl ?_
  | refine w_Base 5 6 hA ok rfl rfl ?_
  | (refine w_PopStep 0 1 hA ok rfl rfl ?_; intro hA)
  | (refine w_PopStep 1 2 hA ok rfl rfl ?_; intro hA)
  | (refine w_PopStep 2 3 hA ok rfl rfl ?_; intro hA)
  | (refine w_PopStep 3 4 hA ok rfl rfl ?_; intro hA)
  | (refine w_PopStep 4 5 hA ok rfl rfl ?_; intro hA)
  | (refine w_PopStep 5 6 hA ok rfl rfl ?_; intro hA)
  | (refine w_PushStep 0 1 hA ok rfl rfl ?_; intro hA)
  | (refine w_PushStep 1 2 hA ok rfl rfl ?_; intro hA)
  | (refine w_PushStep 2 3 hA ok rfl rfl ?_; intro hA)
  | (refine w_PushStep 3 4 hA ok rfl rfl ?_; intro hA)
  | (refine w_PushStep 4 5 hA ok rfl rfl ?_; intro hA)
  | (refine w_PushStep 5 6 hA ok rfl rfl ?_; intro hA)
  | refine wp_true (by assumption) ?_
  | refine wp_false (by assumption) ?_)
  by_cases h0 : ph = 0
  · subst h0
    rw [if_pos rfl]
    refine wp_true rfl ?_
    repeat (first
  | refine wp_nil.2 ?_
  | refine w_ld 0 hA ok rfl rfl rfl ?_
  | refine w_ld 1 hA ok rfl rfl rfl ?_
  | refine w_ld 2 hA ok rfl rfl rfl ?_
  | refine w_ld 3 hA ok rfl rfl rfl ?_
  | refine w_ld 4 hA ok rfl rfl rfl ?_
  | refine w_ld 5 hA ok rfl rfl rfl ?_
  | refine w_ld 6 hA ok rfl rfl rfl ?_
  | refine w_ld 7 hA ok rfl rfl rfl ?_
  | refine w_st 0 hA ok rfl rfl rfl rfl ?_
  | refine w_st 1 hA ok rfl rfl rfl rfl ?_
  | refine w_st 2 hA ok rfl rfl rfl rfl ?_
  | refine w_st 3 hA ok rfl rfl rfl rfl ?_
  | refine w_st 4 hA ok rfl rfl rfl rfl ?_
  | refine w_st 5 hA ok rfl rfl rfl rfl ?_
  | refine w_st 6 hA ok rfl rfl rfl rfl ?_
  | refine w_st 7 hA ok rfl rfl rfl rfl ?_
  | refine w_ldA 0 hA ok rfl rfl rfl ?_
  | refine w_ldA 1 hA ok rfl rfl rfl ?_
  | refine w_ldA 2 hA ok rfl rfl rfl ?_
  | refine w_ldA 3 hA ok rfl rfl rfl ?_
  | refine w_ldA 4 hA ok rfl rfl rfl ?_
  | refine w_ldA 5 hA ok rfl rfl rfl ?_
  | refine w_ldA 6 hA ok rfl rfl rfl ?_
  | refine w_ldA 7 hA ok rfl rfl rfl ?_
  | refine w_stA 0 hA ok rfl rfl rfl rfl ?_
  | refine w_stA 1 hA ok rfl rfl rfl rfl ?_
  | refine w_stA 2 hA ok rfl rfl rfl rfl ?_
  | refine w_stA 3 hA ok rfl rfl rfl rfl ?_
  | refine w_stA 4 hA ok rfl rfl rfl rfl ?_
  | refine w_stA 5 hA ok rfl rfl rfl rfl ?_
  | refine w_stA 6 hA ok rfl rfl rfl rfl ?_
  | refine w_stA 7 hA ok rfl rfl rfl rfl ?_
  | (refine w_Raw hA ?_; intro hA)
  | (refine w_SetRaw hA ?_; intro hA)
  | (refine w_SwapRaw hA ?_; intro hA)
  | (refine w_AddRaw hA ?_; intro hA)
  | (refine w_Load hA ?_; intro hA)
  | (refine w_Store hA ?_; intro hA)
  | (refine w_Retire hA ?_; intro hA)
  | (refine w_Died hA ?_; intro hA)
  | (refine w_Born hA ?_; intro hA)
  | refine w_State hA ?_
  | refine w_Uses hA ?_
  | refine w_Fault hA ?_
  | refine w_Words hA ?_
  | refine w_Count hA ?_
  | refine wq_Size ?_
  | refine wq_Open ?_
  | refine wq_Pack ?_
  | refine wq_head ?_
  | refine w_ck 0 hA ok rfl rfl rfl ?_
  | refine w_ck 1 hA ok rfl rfl rfl ?_
  | refine w_ck 2 hA ok rfl rfl rfl ?_
  | refine w_ck 3 hA ok rfl rfl rfl ?_
  | refine w_ck 4 hA ok rfl rfl rfl ?_
  | refine w_ck 5 hA ok rfl rfl rfl ?_
  | refine w_ck 6 hA ok rfl rfl rfl ?_
  | refine w_ck 7 hA ok rfl rfl rfl ?_
  | refine w_ckn rfl ?_
  | refine w_Base 0 1 hA ok rfl rfl ?_
  | refine w_Base 1 2 hA ok rfl rfl ?_
  | refine w_Base 2 3 hA ok rfl rfl ?_
  | refine w_Base 3 4 hA ok rfl rfl ?_
  | refine w_Base 4 5 hA ok rfl rfl ?_
  | refine w_Base 5 6 hA ok rfl rfl ?_
  | (refine w_PopStep 0 1 hA ok rfl rfl ?_; intro hA)
  | (refine w_PopStep 1 2 hA ok rfl rfl ?_; intro hA)
  | (refine w_PopStep 2 3 hA ok rfl rfl ?_; intro hA)
  | (refine w_PopStep 3 4 hA ok rfl rfl ?_; intro hA)
  | (refine w_PopStep 4 5 hA ok rfl rfl ?_; intro hA)
  | (refine w_PopStep 5 6 hA ok rfl rfl ?_; intro hA)
  | (refine w_PushStep 0 1 hA ok rfl rfl ?_; intro hA)
  | (refine w_PushStep 1 2 hA ok rfl rfl ?_; intro hA)
  | (refine w_PushStep 2 3 hA ok rfl rfl ?_; intro hA)
  | (refine w_PushStep 3 4 hA ok rfl rfl ?_; intro hA)
  | (refine w_PushStep 4 5 hA ok rfl rfl ?_; intro hA)
  | (refine w_PushStep 5 6 hA ok rfl rfl ?_; intro hA)
  | refine wp_true (by assumption) ?_
  | refine wp_false (by assumption) ?_)
    refine wq_pw0 ?_
    repeat (first
  | refine wp_nil.2 ?_
  | refine w_ld 0 hA ok rfl rfl rfl ?_
  | refine w_ld 1 hA ok rfl rfl rfl ?_
  | refine w_ld 2 hA ok rfl rfl rfl ?_
  | refine w_ld 3 hA ok rfl rfl rfl ?_
  | refine w_ld 4 hA ok rfl rfl rfl ?_
  | refine w_ld 5 hA ok rfl rfl rfl ?_
  | refine w_ld 6 hA ok rfl rfl rfl ?_
  | refine w_ld 7 hA ok rfl rfl rfl ?_
  | refine w_st 0 hA ok rfl rfl rfl rfl ?_
  | refine w_st 1 hA ok rfl rfl rfl rfl ?_
  | refine w_st 2 hA ok rfl rfl rfl rfl ?_
  | refine w_st 3 hA ok rfl rfl rfl rfl ?_
  | refine w_st 4 hA ok rfl rfl rfl rfl ?_
  | refine w_st 5 hA ok rfl rfl rfl rfl ?_
  | refine w_st 6 hA ok rfl rfl rfl rfl ?_
  | refine w_st 7 hA ok rfl rfl rfl rfl ?_
  | refine w_ldA 0 hA ok rfl rfl rfl ?_
  | refine w_ldA 1 hA ok rfl rfl rfl ?_
  | refine w_ldA 2 hA ok rfl rfl rfl ?_
  | refine w_ldA 3 hA ok rfl rfl rfl ?_
  | refine w_ldA 4 hA ok rfl rfl rfl ?_
  | refine w_ldA 5 hA ok rfl rfl rfl ?_
  | refine w_ldA 6 hA ok rfl rfl rfl ?_
  | refine w_ldA 7 hA ok rfl rfl rfl ?_
  | refine w_stA 0 hA ok rfl rfl rfl rfl ?_
  | refine w_stA 1 hA ok rfl rfl rfl rfl ?_
  | refine w_stA 2 hA ok rfl rfl rfl rfl ?_
  | refine w_stA 3 hA ok rfl rfl rfl rfl ?_
  | refine w_stA 4 hA ok rfl rfl rfl rfl ?_
  | refine w_stA 5 hA ok rfl rfl rfl rfl ?_
  | refine w_stA 6 hA ok rfl rfl rfl rfl ?_
  | refine w_stA 7 hA ok rfl rfl rfl rfl ?_
  | (refine w_Raw hA ?_; intro hA)
  | (refine w_SetRaw hA ?_; intro hA)
  | (refine w_SwapRaw hA ?_; intro hA)
  | (refine w_AddRaw hA ?_; intro hA)
  | (refine w_Load hA ?_; intro hA)
  | (refine w_Store hA ?_; intro hA)
  | (refine w_Retire hA ?_; intro hA)
  | (refine w_Died hA ?_; intro hA)
  | (refine w_Born hA ?_; intro hA)
  | refine w_State hA ?_
  | refine w_Uses hA ?_
  | refine w_Fault hA ?_
  | refine w_Words hA ?_
  | refine w_Count hA ?_
  | refine wq_Size ?_
  | refine wq_Open ?_
  | refine wq_Pack ?_
  | refine wq_head ?_
  | refine w_ck 0 hA ok rfl rfl rfl ?_
  | refine w_ck 1 hA ok rfl rfl rfl ?_
  | refine w_ck 2 hA ok rfl rfl rfl ?_
  | refine w_ck 3 hA ok rfl rfl rfl ?_
  | refine w_ck 4 hA ok rfl rfl rfl ?_
  | refine w_ck 5 hA ok rfl rfl rfl ?_
  | refine w_ck 6 hA ok rfl rfl rfl ?_
  | refine w_ck 7 hA ok rfl rfl rfl ?_
  | refine w_ckn rfl ?_
  | refine w_Base 0 1 hA ok rfl rfl ?_
  | refine w_Base 1 2 hA ok rfl rfl ?_
  | refine w_Base 2 3 hA ok rfl rfl ?_
  | refine w_Base 3 4 hA ok rfl rfl ?_
  | refine w_Base 4 5 hA ok rfl rfl ?_
  | refine w_Base 5 6 hA ok rfl rfl ?_
  | (refine w_PopStep 0 1 hA ok rfl rfl ?_; intro hA)
  | (refine w_PopStep 1 2 hA ok rfl rfl ?_; intro hA)
  | (refine w_PopStep 2 3 hA ok rfl rfl ?_; intro hA)
  | (refine w_PopStep 3 4 hA ok rfl rfl ?_; intro hA)
  | (refine w_PopStep 4 5 hA ok rfl rfl ?_; intro hA)
  | (refine w_PopStep 5 6 hA ok rfl rfl ?_; intro hA)
  | (refine w_PushStep 0 1 hA ok rfl rfl ?_; intro hA)
  | (refine w_PushStep 1 2 hA ok rfl rfl ?_; intro hA)
  | (refine w_PushStep 2 3 hA ok rfl rfl ?_; intro hA)
  | (refine w_PushStep 3 4 hA ok rfl rfl ?_; intro hA)
  | (refine w_PushStep 4 5 hA ok rfl rfl ?_; intro hA)
  | (refine w_PushStep 5 6 hA ok rfl rfl ?_; intro hA)
  | refine wp_true (by assumption) ?_
  | refine wp_false (by assumption) ?_)
    by_cases hs : A.swapRb w0 0 = true
    · rw [if_pos hs]
      refine wp_false (by rw [hs]; rfl) ?_
      repeat (first
  | refine wp_nil.2 ?_
  | refine w_ld 0 hA ok rfl rfl rfl ?_
  | refine w_ld 1 hA ok rfl rfl rfl ?_
  | refine w_ld 2 hA ok rfl rfl rfl ?_
  | refine w_ld 3 hA ok rfl rfl rfl ?_
  | refine w_ld 4 hA ok rfl rfl rfl ?_
  | refine w_ld 5 hA ok rfl rfl rfl ?_
  | refine w_ld 6 hA ok rfl rfl rfl ?_
  | refine w_ld 7 hA ok rfl rfl rfl ?_
  | refine w_st 0 hA ok rfl rfl rfl rfl ?_
  | refine w_st 1 hA ok rfl rfl rfl rfl ?_
  | refine w_st 2 hA ok rfl rfl rfl rfl ?_
  | refine w_st 3 hA ok rfl rfl rfl rfl ?_
  | refine w_st 4 hA ok rfl rfl rfl rfl ?_
  | refine w_st 5 hA ok rfl rfl rfl rfl ?_
  | refine w_st 6 hA ok rfl rfl rfl rfl ?_
  | refine w_st 7 hA ok rfl rfl rfl rfl ?_
  | refine w_ldA 0 hA ok rfl rfl rfl ?_
  | refine w_ldA 1 hA ok rfl rfl rfl ?_
  | refine w_ldA 2 hA ok rfl rfl rfl ?_
  | refine w_ldA 3 hA ok rfl rfl rfl ?_
  | refine w_ldA 4 hA ok rfl rfl rfl ?_
  | refine w_ldA 5 hA ok rfl rfl rfl ?_
  | refine w_ldA 6 hA ok rfl rfl rfl ?_
  | refine w_ldA 7 hA ok rfl rfl rfl ?_
  | refine w_stA 0 hA ok rfl rfl rfl rfl ?_
  | refine w_stA 1 hA ok rfl rfl rfl rfl ?_
  | refine w_stA 2 hA ok rfl rfl rfl rfl ?_
  | refine w_stA 3 hA ok rfl rfl rfl rfl ?_
  | refine w_stA 4 hA ok rfl rfl rfl rfl ?_
  | refine w_stA 5 hA ok rfl rfl rfl rfl ?_
  | refine w_stA 6 hA ok rfl rfl rfl rfl ?_
  | refine w_stA 7 hA ok rfl rfl rfl rfl ?_
  | (refine w_Raw hA ?_; intro hA)
  | (refine w_SetRaw hA ?_; intro hA)
  | (refine w_SwapRaw hA ?_; intro hA)
  | (refine w_AddRaw hA ?_; intro hA)
  | (refine w_Load hA ?_; intro hA)
  | (refine w_Store hA ?_; intro hA)
  | (refine w_Retire hA ?_; intro hA)
  | (refine w_Died hA ?_; intro hA)
  | (refine w_Born hA ?_; intro hA)
  | refine w_State hA ?_
  | refine w_Uses hA ?_
  | refine w_Fault hA ?_
  | refine w_Words hA ?_
  | refine w_Count hA ?_
  | refine wq_Size ?_
  | refine wq_Open ?_
  | refine wq_Pack ?_
  | refine wq_head ?_
  | refine w_ck 0 hA ok rfl rfl rfl ?_
  | refine w_ck 1 hA ok rfl rfl rfl ?_
  | refine w_ck 2 hA ok rfl rfl rfl ?_
  | refine w_ck 3 hA ok rfl rfl rfl ?_
  | refine w_ck 4 hA ok rfl rfl rfl ?_
  | refine w_ck 5 hA ok rfl rfl rfl ?_
  | refine w_ck 6 hA ok rfl rfl rfl ?_
  | refine w_ck 7 hA ok rfl rfl rfl ?_
  | refine w_ckn rfl ?_
  | refine w_Base 0 1 hA ok rfl rfl ?_
  | refine w_Base 1 2 hA ok rfl rfl ?_
  | refine w_Base 2 3 hA ok rfl rfl ?_
  | refine w_Base 3 4 hA ok rfl rfl ?_
  | refine w_Base 4 5 hA ok rfl rfl ?_
  | refine w_Base 5 6 hA ok rfl rfl ?_
  | (refine w_PopStep 0 1 hA ok rfl rfl ?_; intro hA)
  | (refine w_PopStep 1 2 hA ok rfl rfl ?_; intro hA)
  | (refine w_PopStep 2 3 hA ok rfl rfl ?_; intro hA)
  | (refine w_PopStep 3 4 hA ok rfl rfl ?_; intro hA)
  | (refine w_PopStep 4 5 hA ok rfl rfl ?_; intro hA)
  | (refine w_PopStep 5 6 hA ok rfl rfl ?_; intro hA)
  | (refine w_PushStep 0 1 hA ok rfl rfl ?_; intro hA)
  | (refine w_PushStep 1 2 hA ok rfl rfl ?_; intro hA)
  | (refine w_PushStep 2 3 hA ok rfl rfl ?_; intro hA)
  | (refine w_PushStep 3 4 hA ok rfl rfl ?_; intro hA)
  | (refine w_PushStep 4 5 hA ok rfl rfl ?_; intro hA)
  | (refine w_PushStep 5 6 hA ok rfl rfl ?_; intro hA)
  | refine wp_true (by assumption) ?_
  | refine wp_false (by assumption) ?_)
      exact w_ret [1] ok rfl (by decide) fun ok => ⟨q, rfl, rfl, rfl, ok, hA⟩
    · rw [if_neg hs]
      refine wp_true (by simpa using hs) ?_
      repeat (first
  | refine wp_nil.2 ?_
  | refine w_ld 0 hA ok rfl rfl rfl ?_
  | refine w_ld 1 hA ok rfl rfl rfl ?_
  | refine w_ld 2 hA ok rfl rfl rfl ?_
  | refine w_ld 3 hA ok rfl rfl rfl ?_
  | refine w_ld 4 hA ok rfl rfl rfl ?_
  | refine w_ld 5 hA ok rfl rfl rfl ?_
  | refine w_ld 6 hA ok rfl rfl rfl ?_
  | refine w_ld 7 hA ok rfl rfl rfl ?_
  | refine w_st 0 hA ok rfl rfl rfl rfl ?_
  | refine w_st 1 hA ok rfl rfl rfl rfl ?_
  | refine w_st 2 hA ok rfl rfl rfl rfl ?_
  | refine w_st 3 hA ok rfl rfl rfl rfl ?_
  | refine w_st 4 hA ok rfl rfl rfl rfl ?_
  | refine w_st 5 hA ok rfl rfl rfl rfl ?_
  | refine w_st 6 hA ok rfl rfl rfl rfl ?_
  | refine w_st 7 hA ok rfl rfl rfl rfl ?_
  | refine w_ldA 0 hA ok rfl rfl rfl ?_
  | refine w_ldA 1 hA ok rfl rfl rfl ?_
  | refine w_ldA 2 hA ok rfl rfl rfl ?_
  | refine w_ldA 3 hA ok rfl rfl rfl ?_
  | refine w_ldA 4 hA ok rfl rfl rfl ?_
  | refine w_ldA 5 hA ok rfl rfl rfl ?_
  | refine w_ldA 6 hA ok rfl rfl rfl ?_
  | refine w_ldA 7 hA ok rfl rfl rfl ?_
  | refine w_stA 0 hA ok rfl rfl rfl rfl ?_
  | refine w_stA 1 hA ok rfl rfl rfl rfl ?_
  | refine w_stA 2 hA ok rfl rfl rfl rfl ?_
  | refine w_stA 3 hA ok rfl rfl rfl rfl ?_
  | refine w_stA 4 hA ok rfl rfl rfl rfl ?_
  | refine w_stA 5 hA ok rfl rfl rfl rfl ?_
  | refine w_stA 6 hA ok rfl rfl rfl rfl ?_
  | refine w_stA 7 hA ok rfl rfl rfl rfl ?_
  | (refine w_Raw hA ?_; intro hA)
  | (refine w_SetRaw hA ?_; intro hA)
  | (refine w_SwapRaw hA ?_; intro hA)
  | (refine w_AddRaw hA ?_; intro hA)
  | (refine w_Load hA ?_; intro hA)
  | (refine w_Store hA ?_; intro hA)
  | (refine w_Retire hA ?_; intro hA)
  | (refine w_Died hA ?_; intro hA)
  | (refine w_Born hA ?_; intro hA)
  | refine w_State hA ?_
  | refine w_Uses hA ?_
  | refine w_Fault hA ?_
  | refine w_Words hA ?_
  | refine w_Count hA ?_
  | refine wq_Size ?_
  | refine wq_Open ?_
  | refine wq_Pack ?_
  | refine wq_head ?_
  | refine w_ck 0 hA ok rfl rfl rfl ?_
  | refine w_ck 1 hA ok rfl rfl rfl ?_
  | refine w_ck 2 hA ok rfl rfl rfl ?_
  | refine w_ck 3 hA ok rfl rfl rfl ?_
  | refine w_ck 4 hA ok rfl rfl rfl ?_
  | refine w_ck 5 hA ok rfl rfl rfl ?_
  | refine w_ck 6 hA ok rfl rfl rfl ?_
  | refine w_ck 7 hA ok rfl rfl rfl ?_
  | refine w_ckn rfl ?_
  | refine w_Base 0 1 hA ok rfl rfl ?_
  | refine w_Base 1 2 hA ok rfl rfl ?_
  | refine w_Base 2 3 hA ok rfl rfl ?_
  | refine w_Base 3 4 hA ok rfl rfl ?_
  | refine w_Base 4 5 hA ok rfl rfl ?_
  | refine w_Base 5 6 hA ok rfl rfl ?_
  | (refine w_PopStep 0 1 hA ok rfl rfl ?_; intro hA)
  | (refine w_PopStep 1 2 hA ok rfl rfl ?_; intro hA)
  | (refine w_PopStep 2 3 hA ok rfl rfl ?_; intro hA)
  | (refine w_PopStep 3 4 hA ok rfl rfl ?_; intro hA)
  | (refine w_PopStep 4 5 hA ok rfl rfl ?_; intro hA)
  | (refine w_PopStep 5 6 hA ok rfl rfl ?_; intro hA)
  | (refine w_PushStep 0 1 hA ok rfl rfl ?_; intro hA)
  | (refine w_PushStep 1 2 hA ok rfl rfl ?_; intro hA)
  | (refine w_PushStep 2 3 hA ok rfl rfl ?_; intro hA)
  | (refine w_PushStep 3 4 hA ok rfl rfl ?_; intro hA)
  | (refine w_PushStep 4 5 hA ok rfl rfl ?_; intro hA)
  | (refine w_PushStep 5 6 hA ok rfl rfl ?_; intro hA)
  | refine wp_true (by assumption) ?_
  | refine wp_false (by assumption) ?_)
      exact w_ret [1] ok rfl (by decide) fun ok => ⟨q, rfl, rfl, rfl, ok, hA⟩
  rw [if_neg h0]
  refine wp_false (ibef h0) ?_
  by_cases h1 : ph = 1
  · subst h1
    rw [if_pos rfl]
    refine wp_true rfl ?_
    repeat (first
  | refine wp_nil.2 ?_
  | refine w_ld 0 hA ok rfl rfl rfl ?_
  | refine w_ld 1 hA ok rfl rfl rfl ?_
  | refine w_ld 2 hA ok rfl rfl rfl ?_
  | refine w_ld 3 hA ok rfl rfl rfl ?_
  | refine w_ld 4 hA ok rfl rfl rfl ?_
  | refine w_ld 5 hA ok rfl rfl rfl ?_
  | refine w_ld 6 hA ok rfl rfl rfl ?_
  | refine w_ld 7 hA ok rfl rfl rfl ?_
  | refine w_st 0 hA ok rfl rfl rfl rfl ?_
  | refine w_st 1 hA ok rfl rfl rfl rfl ?_
  | refine w_st 2 hA ok rfl rfl rfl rfl ?_
  | refine w_st 3 hA ok rfl rfl rfl rfl ?_
  | refine w_st 4 hA ok rfl rfl rfl rfl ?_
  | refine w_st 5 hA ok rfl rfl rfl rfl ?_
  | refine w_st 6 hA ok rfl rfl rfl rfl ?_
  | refine w_st 7 hA ok rfl rfl rfl rfl ?_
  | refine w_ldA 0 hA ok rfl rfl rfl ?_
  | refine w_ldA 1 hA ok rfl rfl rfl ?_
  | refine w_ldA 2 hA ok rfl rfl rfl ?_
  | refine w_ldA 3 hA ok rfl rfl rfl ?_
  | refine w_ldA 4 hA ok rfl rfl rfl ?_
  | refine w_ldA 5 hA ok rfl rfl rfl ?_
  | refine w_ldA 6 hA ok rfl rfl rfl ?_
  | refine w_ldA 7 hA ok rfl rfl rfl ?_
  | refine w_stA 0 hA ok rfl rfl rfl rfl ?_
  | refine w_stA 1 hA ok rfl rfl rfl rfl ?_
  | refine w_stA 2 hA ok rfl rfl rfl rfl ?_
  | refine w_stA 3 hA ok rfl rfl rfl rfl ?_
  | refine w_stA 4 hA ok rfl rfl rfl rfl ?_
  | refine w_stA 5 hA ok rfl rfl rfl rfl ?_
  | refine w_stA 6 hA ok rfl rfl rfl rfl ?_
  | refine w_stA 7 hA ok rfl rfl rfl rfl ?_
  | (refine w_Raw hA ?_; intro hA)
  | (refine w_SetRaw hA ?_; intro hA)
  | (refine w_SwapRaw hA ?_; intro hA)
  | (refine w_AddRaw hA ?_; intro hA)
  | (refine w_Load hA ?_; intro hA)
  | (refine w_Store hA ?_; intro hA)
  | (refine w_Retire hA ?_; intro hA)
  | (refine w_Died hA ?_; intro hA)
  | (refine w_Born hA ?_; intro hA)
  | refine w_State hA ?_
  | refine w_Uses hA ?_
  | refine w_Fault hA ?_
  | refine w_Words hA ?_
  | refine w_Count hA ?_
  | refine wq_Size ?_
  | refine wq_Open ?_
  | refine wq_Pack ?_
  | refine wq_head ?_
  | refine w_ck 0 hA ok rfl rfl rfl ?_
  | refine w_ck 1 hA ok rfl rfl rfl ?_
  | refine w_ck 2 hA ok rfl rfl rfl ?_
  | refine w_ck 3 hA ok rfl rfl rfl ?_
  | refine w_ck 4 hA ok rfl rfl rfl ?_
  | refine w_ck 5 hA ok rfl rfl rfl ?_
  | refine w_ck 6 hA ok rfl rfl rfl ?_
  | refine w_ck 7 hA ok rfl rfl rfl ?_
  | refine w_ckn rfl ?_
  | refine w_Base 0 1 hA ok rfl rfl ?_
  | refine w_Base 1 2 hA ok rfl rfl ?_
  | refine w_Base 2 3 hA ok rfl rfl ?_
  | refine w_Base 3 4 hA ok rfl rfl ?_
  | refine w_Base 4 5 hA ok rfl rfl ?_
  | refine w_Base 5 6 hA ok rfl rfl ?_
  | (refine w_PopStep 0 1 hA ok rfl rfl ?_; intro hA)
  | (refine w_PopStep 1 2 hA ok rfl rfl ?_; intro hA)
  | (refine w_PopStep 2 3 hA ok rfl rfl ?_; intro hA)
  | (refine w_PopStep 3 4 hA ok rfl rfl ?_; intro hA)
  | (refine w_PopStep 4 5 hA ok rfl rfl ?_; intro hA)
  | (refine w_PopStep 5 6 hA ok rfl rfl ?_; intro hA)
  | (refine w_PushStep 0 1 hA ok rfl rfl ?_; intro hA)
  | (refine w_PushStep 1 2 hA ok rfl rfl ?_; intro hA)
  | (refine w_PushStep 2 3 hA ok rfl rfl ?_; intro hA)
  | (refine w_PushStep 3 4 hA ok rfl rfl ?_; intro hA)
  | (refine w_PushStep 4 5 hA ok rfl rfl ?_; intro hA)
  | (refine w_PushStep 5 6 hA ok rfl rfl ?_; intro hA)
  | refine wp_true (by assumption) ?_
  | refine wp_false (by assumption) ?_)
    refine wq_pw1 ?_
    repeat (first
  | refine wp_nil.2 ?_
  | refine w_ld 0 hA ok rfl rfl rfl ?_
  | refine w_ld 1 hA ok rfl rfl rfl ?_
  | refine w_ld 2 hA ok rfl rfl rfl ?_
  | refine w_ld 3 hA ok rfl rfl rfl ?_
  | refine w_ld 4 hA ok rfl rfl rfl ?_
  | refine w_ld 5 hA ok rfl rfl rfl ?_
  | refine w_ld 6 hA ok rfl rfl rfl ?_
  | refine w_ld 7 hA ok rfl rfl rfl ?_
  | refine w_st 0 hA ok rfl rfl rfl rfl ?_
  | refine w_st 1 hA ok rfl rfl rfl rfl ?_
  | refine w_st 2 hA ok rfl rfl rfl rfl ?_
  | refine w_st 3 hA ok rfl rfl rfl rfl ?_
  | refine w_st 4 hA ok rfl rfl rfl rfl ?_
  | refine w_st 5 hA ok rfl rfl rfl rfl ?_
  | refine w_st 6 hA ok rfl rfl rfl rfl ?_
  | refine w_st 7 hA ok rfl rfl rfl rfl ?_
  | refine w_ldA 0 hA ok rfl rfl rfl ?_
  | refine w_ldA 1 hA ok rfl rfl rfl ?_
  | refine w_ldA 2 hA ok rfl rfl rfl ?_
  | refine w_ldA 3 hA ok rfl rfl rfl ?_
  | refine w_ldA 4 hA ok rfl rfl rfl ?_
  | refine w_ldA 5 hA ok rfl rfl rfl ?_
  | refine w_ldA 6 hA ok rfl rfl rfl ?_
  | refine w_ldA 7 hA ok rfl rfl rfl ?_
  | refine w_stA 0 hA ok rfl rfl rfl rfl ?_
  | refine w_stA 1 hA ok rfl rfl rfl rfl ?_
  | refine w_stA 2 hA ok rfl rfl rfl rfl ?_
  | refine w_stA 3 hA ok rfl rfl rfl rfl ?_
  | refine w_stA 4 hA ok rfl rfl rfl rfl ?_
  | refine w_stA 5 hA ok rfl rfl rfl rfl ?_
  | refine w_stA 6 hA ok rfl rfl rfl rfl ?_
  | refine w_stA 7 hA ok rfl rfl rfl rfl ?_
  | (refine w_Raw hA ?_; intro hA)
  | (refine w_SetRaw hA ?_; intro hA)
  | (refine w_SwapRaw hA ?_; intro hA)
  | (refine w_AddRaw hA ?_; intro hA)
  | (refine w_Load hA ?_; intro hA)
  | (refine w_Store hA ?_; intro hA)
  | (refine w_Retire hA ?_; intro hA)
  | (refine w_Died hA ?_; intro hA)
  | (refine w_Born hA ?_; intro hA)
  | refine w_State hA ?_
  | refine w_Uses hA ?_
  | refine w_Fault hA ?_
  | refine w_Words hA ?_
  | refine w_Count hA ?_
  | refine wq_Size ?_
  | refine wq_Open ?_
  | refine wq_Pack ?_
  | refine wq_head ?_
  | refine w_ck 0 hA ok rfl rfl rfl ?_
  | refine w_ck 1 hA ok rfl rfl rfl ?_
  | refine w_ck 2 hA ok rfl rfl rfl ?_
  | refine w_ck 3 hA ok rfl rfl rfl ?_
  | refine w_ck 4 hA ok rfl rfl rfl ?_
  | refine w_ck 5 hA ok rfl rfl rfl ?_
  | refine w_ck 6 hA ok rfl rfl rfl ?_
  | refine w_ck 7 hA ok rfl rfl rfl ?_
  | refine w_ckn rfl ?_
  | refine w_Base 0 1 hA ok rfl rfl ?_
  | refine w_Base 1 2 hA ok rfl rfl ?_
  | refine w_Base 2 3 hA ok rfl rfl ?_
  | refine w_Base 3 4 hA ok rfl rfl ?_
  | refine w_Base 4 5 hA ok rfl rfl ?_
  | refine w_Base 5 6 hA ok rfl rfl ?_
  | (refine w_PopStep 0 1 hA ok rfl rfl ?_; intro hA)
  | (refine w_PopStep 1 2 hA ok rfl rfl ?_; intro hA)
  | (refine w_PopStep 2 3 hA ok rfl rfl ?_; intro hA)
  | (refine w_PopStep 3 4 hA ok rfl rfl ?_; intro hA)
  | (refine w_PopStep 4 5 hA ok rfl rfl ?_; intro hA)
  | (refine w_PopStep 5 6 hA ok rfl rfl ?_; intro hA)
  | (refine w_PushStep 0 1 hA ok rfl rfl ?_; intro hA)
  | (refine w_PushStep 1 2 hA ok rfl rfl ?_; intro hA)
  | (refine w_PushStep 2 3 hA ok rfl rfl ?_; intro hA)
  | (refine w_PushStep 3 4 hA ok rfl rfl ?_; intro hA)
  | (refine w_PushStep 4 5 hA ok rfl rfl ?_; intro hA)
  | (refine w_PushStep 5 6 hA ok rfl rfl ?_; intro hA)
  | refine wp_true (by assumption) ?_
  | refine wp_false (by assumption) ?_)
    exact w_ret [1] ok rfl (by decide) fun ok => ⟨q, rfl, rfl, rfl, ok, hA⟩
  rw [if_neg h1]
  refine wp_false (ibef h1) ?_
  by_cases h2 : ph = 2
  · subst h2
    rw [if_pos rfl]
    refine wp_true rfl ?_
    repeat (first
  | refine wp_nil.2 ?_
  | refine w_ld 0 hA ok rfl rfl rfl ?_
  | refine w_ld 1 hA ok rfl rfl rfl ?_
  | refine w_ld 2 hA ok rfl rfl rfl ?_
  | refine w_ld 3 hA ok rfl rfl rfl ?_
  | refine w_ld 4 hA ok rfl rfl rfl ?_
  | refine w_ld 5 hA ok rfl rfl rfl ?_
  | refine w_ld 6 hA ok rfl rfl rfl ?_
  | refine w_ld 7 hA ok rfl rfl rfl ?_
  | refine w_st 0 hA ok rfl rfl rfl rfl ?_
  | refine w_st 1 hA ok rfl rfl rfl rfl ?_
  | refine w_st 2 hA ok rfl rfl rfl rfl ?_
  | refine w_st 3 hA ok rfl rfl rfl rfl ?_
  | refine w_st 4 hA ok rfl rfl rfl rfl ?_
  | refine w_st 5 hA ok rfl rfl rfl rfl ?_
  | refine w_st 6 hA ok rfl rfl rfl rfl ?_
  | refine w_st 7 hA ok rfl rfl rfl rfl ?_
  | refine w_ldA 0 hA ok rfl rfl rfl ?_
  | refine w_ldA 1 hA ok rfl rfl rfl ?_
  | refine w_ldA 2 hA ok rfl rfl rfl ?_
  | refine w_ldA 3 hA ok rfl rfl rfl ?_
  | refine w_ldA 4 hA ok rfl rfl rfl ?_
  | refine w_ldA 5 hA ok rfl rfl rfl ?_
  | refine w_ldA 6 hA ok rfl rfl rfl ?_
  | refine w_ldA 7 hA ok rfl rfl rfl ?_
  | refine w_stA 0 hA ok rfl rfl rfl rfl ?_
  | refine w_stA 1 hA ok rfl rfl rfl rfl ?_
  | refine w_stA 2 hA ok rfl rfl rfl rfl ?_
  | refine w_stA 3 hA ok rfl rfl rfl rfl ?_
  | refine w_stA 4 hA ok rfl rfl rfl rfl ?_
  | refine w_stA 5 hA ok rfl rfl rfl rfl ?_
  | refine w_stA 6 hA ok rfl rfl rfl rfl ?_
  | refine w_stA 7 hA ok rfl rfl rfl rfl ?_
  | (refine w_Raw hA ?_; intro hA)
  | (refine w_SetRaw hA ?_; intro hA)
  | (refine w_SwapRaw hA ?_; intro hA)
  | (refine w_AddRaw hA ?_; intro hA)
  | (refine w_Load hA ?_; intro hA)
  | (refine w_Store hA ?_; intro hA)
  | (refine w_Retire hA ?_; intro hA)
  | (refine w_Died hA ?_; intro hA)
  | (refine w_Born hA ?_; intro hA)
  | refine w_State hA ?_
  | refine w_Uses hA ?_
  | refine w_Fault hA ?_
  | refine w_Words hA ?_
  | refine w_Count hA ?_
  | refine wq_Size ?_
  | refine wq_Open ?_
  | refine wq_Pack ?_
  | refine wq_head ?_
  | refine w_ck 0 hA ok rfl rfl rfl ?_
  | refine w_ck 1 hA ok rfl rfl rfl ?_
  | refine w_ck 2 hA ok rfl rfl rfl ?_
  | refine w_ck 3 hA ok rfl rfl rfl ?_
  | refine w_ck 4 hA ok rfl rfl rfl ?_
  | refine w_ck 5 hA ok rfl rfl rfl ?_
  | refine w_ck 6 hA ok rfl rfl rfl ?_
  | refine w_ck 7 hA ok rfl rfl rfl ?_
  | refine w_ckn rfl ?_
  | refine w_Base 0 1 hA ok rfl rfl ?_
  | refine w_Base 1 2 hA ok rfl rfl ?_
  | refine w_Base 2 3 hA ok rfl rfl ?_
  | refine w_Base 3 4 hA ok rfl rfl ?_
  | refine w_Base 4 5 hA ok rfl rfl ?_
  | refine w_Base 5 6 hA ok rfl rfl ?_
  | (refine w_PopStep 0 1 hA ok rfl rfl ?_; intro hA)
  | (refine w_PopStep 1 2 hA ok rfl rfl ?_; intro hA)
  | (refine w_PopStep 2 3 hA ok rfl rfl ?_; intro hA)
  | (refine w_PopStep 3 4 hA ok rfl rfl ?_; intro hA)
  | (refine w_PopStep 4 5 hA ok rfl rfl ?_; intro hA)
  | (refine w_PopStep 5 6 hA ok rfl rfl ?_; intro hA)
  | (refine w_PushStep 0 1 hA ok rfl rfl ?_; intro hA)
  | (refine w_PushStep 1 2 hA ok rfl rfl ?_; intro hA)
  | (refine w_PushStep 2 3 hA ok rfl rfl ?_; intro hA)
  | (refine w_PushStep 3 4 hA ok rfl rfl ?_; intro hA)
  | (refine w_PushStep 4 5 hA ok rfl rfl ?_; intro hA)
  | (refine w_PushStep 5 6 hA ok rfl rfl ?_; intro hA)
  | refine wp_true (by assumption) ?_
  | refine wp_false (by assumption) ?_)
    refine wq_pw0 ?_
    repeat (first
  | refine wp_nil.2 ?_
  | refine w_ld 0 hA ok rfl rfl rfl ?_
  | refine w_ld 1 hA ok rfl rfl rfl ?_
  | refine w_ld 2 hA ok rfl rfl rfl ?_
  | refine w_ld 3 hA ok rfl rfl rfl ?_
  | refine w_ld 4 hA ok rfl rfl rfl ?_
  | refine w_ld 5 hA ok rfl rfl rfl ?_
  | refine w_ld 6 hA ok rfl rfl rfl ?_
  | refine w_ld 7 hA ok rfl rfl rfl ?_
  | refine w_st 0 hA ok rfl rfl rfl rfl ?_
  | refine w_st 1 hA ok rfl rfl rfl rfl ?_
  | refine w_st 2 hA ok rfl rfl rfl rfl ?_
  | refine w_st 3 hA ok rfl rfl rfl rfl ?_
  | refine w_st 4 hA ok rfl rfl rfl rfl ?_
  | refine w_st 5 hA ok rfl rfl rfl rfl ?_
  | refine w_st 6 hA ok rfl rfl rfl rfl ?_
  | refine w_st 7 hA ok rfl rfl rfl rfl ?_
  | refine w_ldA 0 hA ok rfl rfl rfl ?_
  | refine w_ldA 1 hA ok rfl rfl rfl ?_
  | refine w_ldA 2 hA ok rfl rfl rfl ?_
  | refine w_ldA 3 hA ok rfl rfl rfl ?_
  | refine w_ldA 4 hA ok rfl rfl rfl ?_
  | refine w_ldA 5 hA ok rfl rfl rfl ?_
  | refine w_ldA 6 hA ok rfl rfl rfl ?_
  | refine w_ldA 7 hA ok rfl rfl rfl ?_
  | refine w_stA 0 hA ok rfl rfl rfl rfl ?_
  | refine w_stA 1 hA ok rfl rfl rfl rfl ?_
  | refine w_stA 2 hA ok rfl rfl rfl rfl ?_
  | refine w_stA 3 hA ok rfl rfl rfl rfl ?_
  | refine w_stA 4 hA ok rfl rfl rfl rfl ?_
  | refine w_stA 5 hA ok rfl rfl rfl rfl ?_
  | refine w_stA 6 hA ok rfl rfl rfl rfl ?_
  | refine w_stA 7 hA ok rfl rfl rfl rfl ?_
  | (refine w_Raw hA ?_; intro hA)
  | (refine w_SetRaw hA ?_; intro hA)
  | (refine w_SwapRaw hA ?_; intro hA)
  | (refine w_AddRaw hA ?_; intro hA)
  | (refine w_Load hA ?_; intro hA)
  | (refine w_Store hA ?_; intro hA)
  | (refine w_Retire hA ?_; intro hA)
  | (refine w_Died hA ?_; intro hA)
  | (refine w_Born hA ?_; intro hA)
  | refine w_State hA ?_
  | refine w_Uses hA ?_
  | refine w_Fault hA ?_
  | refine w_Words hA ?_
  | refine w_Count hA ?_
  | refine wq_Size ?_
  | refine wq_Open ?_
  | refine wq_Pack ?_
  | refine wq_head ?_
  | refine w_ck 0 hA ok rfl rfl rfl ?_
  | refine w_ck 1 hA ok rfl rfl rfl ?_
  | refine w_ck 2 hA ok rfl rfl rfl ?_
  | refine w_ck 3 hA ok rfl rfl rfl ?_
  | refine w_ck 4 hA ok rfl rfl rfl ?_
  | refine w_ck 5 hA ok rfl rfl rfl ?_
  | refine w_ck 6 hA ok rfl rfl rfl ?_
  | refine w_ck 7 hA ok rfl rfl rfl ?_
  | refine w_ckn rfl ?_
  | refine w_Base 0 1 hA ok rfl rfl ?_
  | refine w_Base 1 2 hA ok rfl rfl ?_
  | refine w_Base 2 3 hA ok rfl rfl ?_
  | refine w_Base 3 4 hA ok rfl rfl ?_
  | refine w_Base 4 5 hA ok rfl rfl ?_
  | refine w_Base 5 6 hA ok rfl rfl ?_
  | (refine w_PopStep 0 1 hA ok rfl rfl ?_; intro hA)
  | (refine w_PopStep 1 2 hA ok rfl rfl ?_; intro hA)
  | (refine w_PopStep 2 3 hA ok rfl rfl ?_; intro hA)
  | (refine w_PopStep 3 4 hA ok rfl rfl ?_; intro hA)
  | (refine w_PopStep 4 5 hA ok rfl rfl ?_; intro hA)
  | (refine w_PopStep 5 6 hA ok rfl rfl ?_; intro hA)
  | (refine w_PushStep 0 1 hA ok rfl rfl ?_; intro hA)
  | (refine w_PushStep 1 2 hA ok rfl rfl ?_; intro hA)
  | (refine w_PushStep 2 3 hA ok rfl rfl ?_; intro hA)
  | (refine w_PushStep 3 4 hA ok rfl rfl ?_; intro hA)
  | (refine w_PushStep 4 5 hA ok rfl rfl ?_; intro hA)
  | (refine w_PushStep 5 6 hA ok rfl rfl ?_; intro hA)
  | refine wp_true (by assumption) ?_
  | refine wp_false (by assumption) ?_)
    exact w_ret [1] ok rfl (by decide) fun ok => ⟨q, rfl, rfl, rfl, ok, hA⟩
  rw [if_neg h2]
  refine wp_false (ibef h2) ?_
  repeat (first
  | refine wp_nil.2 ?_
  | refine w_ld 0 hA ok rfl rfl rfl ?_
  | refine w_ld 1 hA ok rfl rfl rfl ?_
  | refine w_ld 2 hA ok rfl rfl rfl ?_
  | refine w_ld 3 hA ok rfl rfl rfl ?_
  | refine w_ld 4 hA ok rfl rfl rfl ?_
  | refine w_ld 5 hA ok rfl rfl rfl ?_
  | refine w_ld 6 hA ok rfl rfl rfl ?_
  | refine w_ld 7 hA ok rfl rfl rfl ?_
  | refine w_st 0 hA ok rfl rfl rfl rfl ?_
  | refine w_st 1 hA ok rfl rfl rfl rfl ?_
  | refine w_st 2 hA ok rfl rfl rfl rfl ?_
  | refine w_st 3 hA ok rfl rfl rfl rfl ?_
  | refine w_st 4 hA ok rfl rfl rfl rfl ?_
  | refine w_st 5 hA ok rfl rfl rfl rfl ?_
  | refine w_st 6 hA ok rfl rfl rfl rfl ?_
  | refine w_st 7 hA ok rfl rfl rfl rfl ?_
  | refine w_ldA 0 hA ok rfl rfl rfl ?_
  | refine w_ldA 1 hA ok rfl rfl rfl ?_
  | refine w_ldA 2 hA ok rfl rfl rfl ?_
  | refine w_ldA 3 hA ok rfl rfl rfl ?_
  | refine w_ldA 4 hA ok rfl rfl rfl ?_
  | refine w_ldA 5 hA ok rfl rfl rfl ?_
  | refine w_ldA 6 hA ok rfl rfl rfl ?_
  | refine w_ldA 7 hA ok rfl rfl rfl ?_
  | refine w_stA 0 hA ok rfl rfl rfl rfl ?_
  | refine w_stA 1 hA ok rfl rfl rfl rfl ?_
  | refine w_stA 2 hA ok rfl rfl rfl rfl ?_
  | refine w_stA 3 hA ok rfl rfl rfl rfl ?_
  | refine w_stA 4 hA ok rfl rfl rfl rfl ?_
  | refine w_stA 5 hA ok rfl rfl rfl rfl ?_
  | refine w_stA 6 hA ok rfl rfl rfl rfl ?_
  | refine w_stA 7 hA ok rfl rfl rfl rfl ?_
  | (refine w_Raw hA ?_; intro hA)
  | (refine w_SetRaw hA ?_; intro hA)
  | (refine w_SwapRaw hA ?_; intro hA)
  | (refine w_AddRaw hA ?_; intro hA)
  | (refine w_Load hA ?_; intro hA)
  | (refine w_Store hA ?_; intro hA)
  | (refine w_Retire hA ?_; intro hA)
  | (refine w_Died hA ?_; intro hA)
  | (refine w_Born hA ?_; intro hA)
  | refine w_State hA ?_
  | refine w_Uses hA ?_
  | refine w_Fault hA ?_
  | refine w_Words hA ?_
  | refine w_Count hA ?_
  | refine wq_Size ?_
  | refine wq_Open ?_
  | refine wq_Pack ?_
  | refine wq_head ?_
  | refine w_ck 0 hA ok rfl rfl rfl ?_
  | refine w_ck 1 hA ok rfl rfl rfl ?_
  | refine w_ck 2 hA ok rfl rfl rfl ?_
  | refine w_ck 3 hA ok rfl rfl rfl ?_
  | refine w_ck 4 hA ok rfl rfl rfl ?_
  | refine w_ck 5 hA ok rfl rfl rfl ?_
  | refine w_ck 6 hA ok rfl rfl rfl ?_
  | refine w_ck 7 hA ok rfl rfl rfl ?_
  | refine w_ckn rfl ?_
  | refine w_Base 0 1 hA ok rfl rfl ?_
  | refine w_Base 1 2 hA ok rfl rfl ?_
  | refine w_Base 2 3 hA ok rfl rfl ?_
  | refine w_Base 3 4 hA ok rfl rfl ?_
  | refine w_Base 4 5 hA ok rfl rfl ?_
  | refine w_Base 5 6 hA ok rfl rfl ?_
  | (refine w_PopStep 0 1 hA ok rfl rfl ?_; intro hA)
  | (refine w_PopStep 1 2 hA ok rfl rfl ?_; intro hA)
  | (refine w_PopStep 2 3 hA ok rfl rfl ?_; intro hA)
  | (refine w_PopStep 3 4 hA ok rfl rfl ?_; intro hA)
  | (refine w_PopStep 4 5 hA ok rfl rfl ?_; intro hA)
  | (refine w_PopStep 5 6 hA ok rfl rfl ?_; intro hA)
  | (refine w_PushStep 0 1 hA ok rfl rfl ?_; intro hA)
  | (refine w_PushStep 1 2 hA ok rfl rfl ?_; intro hA)
  | (refine w_PushStep 2 3 hA ok rfl rfl ?_; intro hA)
  | (refine w_PushStep 3 4 hA ok rfl rfl ?_; intro hA)
  | (refine w_PushStep 4 5 hA ok rfl rfl ?_; intro hA)
  | (refine w_PushStep 5 6 hA ok rfl rfl ?_; intro hA)
  | refine wp_true (by assumption) ?_
  | refine wp_false (by assumption) ?_)
  exact w_ret [1] ok rfl (by decide) fun ok => ⟨q, rfl, rfl, rfl, ok, hA⟩

set_option maxHeartbeats 4000000 in
theorem mGt_ok : mGt.ok := by
  rintro I A G ⟨w0, w1, v, ph, o⟩ q hA ok _
  have ok : Ok I G (keys [(q, oc ty_future_Get [.int .i64 w0, .int .i64 w1, .int .i64 v, .int .i64 ph, .bool o])]) := ok
  refine t_future_Get_Step_spec fun L => ?_
  unfold t_future_Get_Step
  show wp Try.prog _ L (own A [(q, oc ty_future_Get [.int .i64 w0, .int .i64 w1, .int .i64 v, .int .i64 ph, .bool o])] G) fun u K => ∃ j' : Nat, u = .bool ((Ft.getS ⟨w0, w1, v, ph, o⟩ A).1.ph == 3) ∧ K = own (Ft.getS ⟨w0, w1, v, ph, o⟩ A).2 [(j', oc ty_future_Get (Ft.getS ⟨w0, w1, v, ph, o⟩ A).1.cells)] G ∧ j' = q ∧ Ok I G [j'] ∧ Aw I (Ft.getS ⟨w0, w1, v, ph, o⟩ A).2
  unfold Ft.getS
  dsimp only
  repeat (first
  | refine wp_nil.2 ?_
  | refine w_ld 0 hA ok rfl rfl rfl ?_
  | refine w_ld 1 hA ok rfl rfl rfl ?_
  | refine w_ld 2 hA ok rfl rfl rfl ?_
  | refine w_ld 3 hA ok rfl rfl rfl ?_
  | refine w_ld 4 hA ok rfl rfl rfl ?_
  | refine w_ld 5 hA ok rfl rfl rfl ?_
  | refine w_ld 6 hA ok rfl rfl rfl ?_
  | refine w_ld 7 hA ok rfl rfl rfl ?_
  | refine w_st 0 hA ok rfl rfl rfl rfl ?_
  | refine w_st 1 hA ok rfl rfl rfl rfl ?_
  | refine w_st 2 hA ok rfl rfl rfl rfl ?_
  | refine w_st 3 hA ok rfl rfl rfl rfl ?_
  | refine w_st 4 hA ok rfl rfl rfl rfl ?_
  | refine w_st 5 hA ok rfl rfl rfl rfl ?_
  | refine w_st 6 hA ok rfl rfl rfl rfl ?_
  | refine w_st 7 hA ok rfl rfl rfl rfl ?_
  | refine w_ldA 0 hA ok rfl rfl rfl ?_
  | refine w_ldA 1 hA ok rfl rfl rfl ?_
  | refine w_ldA 2 hA ok rfl rfl rfl ?_
  | refine w_ldA 3 hA ok rfl rfl rfl ?_
  | refine w_ldA 4 hA ok rfl rfl rfl ?_
  | refine w_ldA 5 hA ok rfl rfl rfl ?_
  | refine w_ldA 6 hA ok rfl rfl rfl ?_
  | refine w_ldA 7 hA ok rfl rfl rfl ?_
  | refine w_stA 0 hA ok rfl rfl rfl rfl ?_
  | refine w_stA 1 hA ok rfl rfl rfl rfl ?_
  | refine w_stA 2 hA ok rfl rfl rfl rfl ?_
  | refine w_stA 3 hA ok rfl rfl rfl rfl ?_
  | refine w_stA 4 hA ok rfl rfl rfl rfl ?_
  | refine w_stA 5 hA ok rfl rfl rfl rfl ?_
  | refine w_stA 6 hA ok rfl rfl rfl rfl ?_
  | refine w_stA 7 hA ok rfl rfl rfl rfl ?_
  | (refine w_Raw hA ?_; intro hA)
  | (refine w_SetRaw hA ?_; intro hA)
  | (refine w_SwapRaw hA ?_; intro hA)
  | (refine w_AddRaw hA ?_; intro hA)
  | (refine w_Load hA ?_; intro hA)
  | (refine w_Store hA ?_; intro hA)
  | (refine w_Retire hA ?_; intro hA)
  | (refine w_Died hA ?_; intro hA)
  | (refine w_Born hA ?_; intro hA)
  | refine w_State hA ?_
  | refine w_Uses hA ?_
  | refine w_Fault hA ?_
  | refine w_Words hA ?_
  | refine w_Count hA ?_
  | refine wq_Size ?_
  | refine wq_Open ?_
  | refine wq_Pack ?_
  | refine wq_head ?_
  | refine w_ck 0 hA ok rfl rfl rfl ?_
  | refine w_ck 1 hA ok rfl rfl rfl ?_
  | refine w_ck 2 hA ok rfl rfl rfl ?_
  | refine w_ck 3 hA ok rfl rfl rfl ?_
  | refine w_ck 4 hA ok rfl rfl rfl ?_
  | refine w_ck 5 hA ok rfl rfl rfl ?_
  | refine w_ck 6 hA ok rfl rfl rfl ?_
  | refine w_ck 7 hA ok rfl rfl rfl ?_
  | refine w_ckn rfl ?_
  | refine w_Base 0 1 hA ok rfl rfl ?_
  | refine w_Base 1 2 hA ok rfl rfl ?_
  | refine w_Base 2 3 hA ok rfl rfl ?_
  | refine w_Base 3 4 hA ok rfl rfl ?_
  | refine w_Base 4 5 hA ok rfl rfl ?_
  | refine w_Base 5 6 hA ok rfl rfl ?_
  | (refine w_PopStep 0 1 hA ok rfl rfl ?_; intro hA)
  | (refine w_PopStep 1 2 hA ok rfl rfl ?_; intro hA)
  | (refine w_PopStep 2 3 hA ok rfl rfl ?_; intro hA)
  | (refine w_PopStep 3 4 hA ok rfl rfl ?_; intro hA)
  | (refine w_PopStep 4 5 hA ok rfl rfl ?_; intro hA)
  | (refine w_PopStep 5 6 hA ok rfl rfl ?_; intro hA)
  | (refine w_PushStep 0 1 hA ok rfl rfl ?_; intro hA)
  | (refine w_PushStep 1 2 hA ok rfl rfl ?_; intro hA)
  | (refine w_PushStep 2 3 hA ok rfl rfl ?_; intro hA)
  | (refine w_PushStep 3 4 hA ok rfl rfl ?_; intro hA)
  | (refine w_PushStep 4 5 hA ok rfl rfl ?_; intro hA)
  | (refine w_PushStep 5 6 hA ok rfl rfl ?_; intro hA)
  | refine wp_true (by assumption) ?_
  | refine wp_false (by assumption) ?_)
  refine w_newP hA ok fun x5 ok => ?_
  repeat (first
  | refine wp_nil.2 ?_
  | refine w_ld 0 hA ok rfl rfl rfl ?_
  | refine w_ld 1 hA ok rfl rfl rfl ?_
  | refine w_ld 2 hA ok rfl rfl rfl ?_
  | refine w_ld 3 hA ok rfl rfl rfl ?_
  | refine w_ld 4 hA ok rfl rfl rfl ?_
  | refine w_ld 5 hA ok rfl rfl rfl ?_
  | refine w_ld 6 hA ok rfl rfl rfl ?_
  | refine w_ld 7 hA ok rfl rfl rfl ?_
  | refine w_st 0 hA ok rfl rfl rfl rfl ?_
  | refine w_st 1 hA ok rfl rfl rfl rfl ?_
  | refine w_st 2 hA ok rfl rfl rfl rfl ?_
  | refine w_st 3 hA ok rfl rfl rfl rfl ?_
  | refine w_st 4 hA ok rfl rfl rfl rfl ?_
  | refine w_st 5 hA ok rfl rfl rfl rfl ?_
  | refine w_st 6 hA ok rfl rfl rfl rfl ?_
  | refine w_st 7 hA ok rfl rfl rfl rfl ?_
  | refine w_ldA 0 hA ok rfl rfl rfl ?_
  | refine w_ldA 1 hA ok rfl rfl rfl ?_
  | refine w_ldA 2 hA ok rfl rfl rfl ?_
  | refine w_ldA 3 hA ok rfl rfl rfl ?_
  | refine w_ldA 4 hA ok rfl rfl rfl ?_
  | refine w_ldA 5 hA ok rfl rfl rfl ?_
  | refine w_ldA 6 hA ok rfl rfl rfl ?_
  | refine w_ldA 7 hA ok rfl rfl rfl ?_
  | refine w_stA 0 hA ok rfl rfl rfl rfl ?_
  | refine w_stA 1 hA ok rfl rfl rfl rfl ?_
  | refine w_stA 2 hA ok rfl rfl rfl rfl ?_
  | refine w_stA 3 hA ok rfl rfl rfl rfl ?_
  | refine w_stA 4 hA ok rfl rfl rfl rfl ?_
  | refine w_stA 5 hA ok rfl rfl rfl rfl ?_
  | refine w_stA 6 hA ok rfl rfl rfl rfl ?_
  | refine w_stA 7 hA ok rfl rfl rfl rfl ?_
  | (refine w_Raw hA ?_; intro hA)
  | (refine w_SetRaw hA ?_; intro hA)
  | (refine w_SwapRaw hA ?_; intro hA)
  | (refine w_AddRaw hA ?_; intro hA)
  | (refine w_Load hA ?_; intro hA)
  | (refine w_Store hA ?_; intro hA)
  | (refine w_Retire hA ?_; intro hA)
  | (refine w_Died hA ?_; intro hA)
  | (refine w_Born hA ?_; intro hA)
  | refine w_State hA ?_
  | refine w_Uses hA ?_
  | refine w_Fault hA ?_
  | refine w_Words hA ?_
  | refine w_Count hA ?_
  | refine wq_Size ?_
  | refine wq_Open ?_
  | refine wq_Pack ?_
  | refine wq_head ?_
  | refine w_ck 0 hA ok rfl rfl rfl ?_
  | refine w_ck 1 hA ok rfl rfl rfl ?_
  | refine w_ck 2 hA ok rfl rfl rfl ?_
  | refine w_ck 3 hA ok rfl rfl rfl ?_
  | refine w_ck 4 hA ok rfl rfl rfl ?_
  | refine w_ck 5 hA ok rfl rfl rfl ?_
  | refine w_ck 6 hA ok rfl rfl rfl ?_
  | refine w_ck 7 hA ok rfl rfl rfl ?_
  | refine w_ckn rfl ?_
  | refine w_Base 0 1 hA ok rfl rfl ?_
  | refine w_Base 1 2 hA ok rfl rfl ?_
  | refine w_Base 2 3 hA ok rfl rfl ?_
  | refine w_Base 3 4 hA ok rfl rfl ?_
  | refine w_Base 4 5 hA ok rfl rfl ?_
  | refine w_Base 5 6 hA ok rfl rfl ?_
  | (refine w_PopStep 0 1 hA ok rfl rfl ?_; intro hA)
  | (refine w_PopStep 1 2 hA ok rfl rfl ?_; intro hA)
  | (refine w_PopStep 2 3 hA ok rfl rfl ?_; intro hA)
  | (refine w_PopStep 3 4 hA ok rfl rfl ?_; intro hA)
  | (refine w_PopStep 4 5 hA ok rfl rfl ?_; intro hA)
  | (refine w_PopStep 5 6 hA ok rfl rfl ?_; intro hA)
  | (refine w_PushStep 0 1 hA ok rfl rfl ?_; intro hA)
  | (refine w_PushStep 1 2 hA ok rfl rfl ?_; intro hA)
  | (refine w_PushStep 2 3 hA ok rfl rfl ?_; intro hA)
  | (refine w_PushStep 3 4 hA ok rfl rfl ?_; intro hA)
  | (refine w_PushStep 4 5 hA ok rfl rfl ?_; intro hA)
  | (refine w_PushStep 5 6 hA ok rfl rfl ?_; intro hA)
  | refine wp_true (by assumption) ?_
  | refine wp_false (by assumption) ?_)
  by_cases h0 : ph = 0
  · subst h0
    rw [if_pos rfl]
    refine wp_true rfl ?_
    repeat (first
  | refine wp_nil.2 ?_
  | refine w_ld 0 hA ok rfl rfl rfl ?_
  | refine w_ld 1 hA ok rfl rfl rfl ?_
  | refine w_ld 2 hA ok rfl rfl rfl ?_
  | refine w_ld 3 hA ok rfl rfl rfl ?_
  | refine w_ld 4 hA ok rfl rfl rfl ?_
  | refine w_ld 5 hA ok rfl rfl rfl ?_
  | refine w_ld 6 hA ok rfl rfl rfl ?_
  | refine w_ld 7 hA ok rfl rfl rfl ?_
  | refine w_st 0 hA ok rfl rfl rfl rfl ?_
  | refine w_st 1 hA ok rfl rfl rfl rfl ?_
  | refine w_st 2 hA ok rfl rfl rfl rfl ?_
  | refine w_st 3 hA ok rfl rfl rfl rfl ?_
  | refine w_st 4 hA ok rfl rfl rfl rfl ?_
  | refine w_st 5 hA ok rfl rfl rfl rfl ?_
  | refine w_st 6 hA ok rfl rfl rfl rfl ?_
  | refine w_st 7 hA ok rfl rfl rfl rfl ?_
  | refine w_ldA 0 hA ok rfl rfl rfl ?_
  | refine w_ldA 1 hA ok rfl rfl rfl ?_
  | refine w_ldA 2 hA ok rfl rfl rfl ?_
  | refine w_ldA 3 hA ok rfl rfl rfl ?_
  | refine w_ldA 4 hA ok rfl rfl rfl ?_
  | refine w_ldA 5 hA ok rfl rfl rfl ?_
  | refine w_ldA 6 hA ok rfl rfl rfl ?_
  | refine w_ldA 7 hA ok rfl rfl rfl ?_
  | refine w_stA 0 hA ok rfl rfl rfl rfl ?_
  | refine w_stA 1 hA ok rfl rfl rfl rfl ?_
  | refine w_stA 2 hA ok rfl rfl rfl rfl ?_
  | refine w_stA 3 hA ok rfl rfl rfl rfl ?_
  | refine w_stA 4 hA ok rfl rfl rfl rfl ?_
  | refine w_stA 5 hA ok rfl rfl rfl rfl ?_
  | refine w_stA 6 hA ok rfl rfl rfl rfl ?_
  | refine w_stA 7 hA ok rfl rfl rfl rfl ?_
  | (refine w_Raw hA ?_; intro hA)
  | (refine w_SetRaw hA ?_; intro hA)
  | (refine w_SwapRaw hA ?_; intro hA)
  | (refine w_AddRaw hA ?_; intro hA)
  | (refine w_Load hA ?_; intro hA)
  | (refine w_Store hA ?_; intro hA)
  | (refine w_Retire hA ?_; intro hA)
  | (refine w_Died hA ?_; intro hA)
  | (refine w_Born hA ?_; intro hA)
  | refine w_State hA ?_
  | refine w_Uses hA ?_
  | refine w_Fault hA ?_
  | refine w_Words hA ?_
  | refine w_Count hA ?_
  | refine wq_Size ?_
  | refine wq_Open ?_
  | refine wq_Pack ?_
  | refine wq_head ?_
  | refine w_ck 0 hA ok rfl rfl rfl ?_
  | refine w_ck 1 hA ok rfl rfl rfl ?_
  | refine w_ck 2 hA ok rfl rfl rfl ?_
  | refine w_ck 3 hA ok rfl rfl rfl ?_
  | refine w_ck 4 hA ok rfl rfl rfl ?_
  | refine w_ck 5 hA ok rfl rfl rfl ?_
  | refine w_ck 6 hA ok rfl rfl rfl ?_
  | refine w_ck 7 hA ok rfl rfl rfl ?_
  | refine w_ckn rfl ?_
  | refine w_Base 0 1 hA ok rfl rfl ?_
  | refine w_Base 1 2 hA ok rfl rfl ?_
  | refine w_Base 2 3 hA ok rfl rfl ?_
  | refine w_Base 3 4 hA ok rfl rfl ?_
  | refine w_Base 4 5 hA ok rfl rfl ?_
  | refine w_Base 5 6 hA ok rfl rfl ?_
  | (refine w_PopStep 0 1 hA ok rfl rfl ?_; intro hA)
  | (refine w_PopStep 1 2 hA ok rfl rfl ?_; intro hA)
  | (refine w_PopStep 2 3 hA ok rfl rfl ?_; intro hA)
  | (refine w_PopStep 3 4 hA ok rfl rfl ?_; intro hA)
  | (refine w_PopStep 4 5 hA ok rfl rfl ?_; intro hA)
  | (refine w_PopStep 5 6 hA ok rfl rfl ?_; intro hA)
  | (refine w_PushStep 0 1 hA ok rfl rfl ?_; intro hA)
  | (refine w_PushStep 1 2 hA ok rfl rfl ?_; intro hA)
  | (refine w_PushStep 2 3 hA ok rfl rfl ?_; intro hA)
  | (refine w_PushStep 3 4 hA ok rfl rfl ?_; intro hA)
  | (refine w_PushStep 4 5 hA ok rfl rfl ?_; intro hA)
  | (refine w_PushStep 5 6 hA ok rfl rfl ?_; intro hA)
  | refine wp_true (by assumption) ?_
  | refine wp_false (by assumption) ?_)
    refine wq_pw0 ?_
    repeat (first
  | refine wp_nil.2 ?_
  | refine w_ld 0 hA ok rfl rfl rfl ?_
  | refine w_ld 1 hA ok rfl rfl rfl ?_
  | refine w_ld 2 hA ok rfl rfl rfl ?_
  | refine w_ld 3 hA ok rfl rfl rfl ?_
  | refine w_ld 4 hA ok rfl rfl rfl ?_
  | refine w_ld 5 hA ok rfl rfl rfl ?_
  | refine w_ld 6 hA ok rfl rfl rfl ?_
  | refine w_ld 7 hA ok rfl rfl rfl ?_
  | refine w_st 0 hA ok rfl rfl rfl rfl ?_
  | refine w_st 1 hA ok rfl rfl rfl rfl ?_
  | refine w_st 2 hA ok rfl rfl rfl rfl ?_
  | refine w_st 3 hA ok rfl rfl rfl rfl ?_
  | refine w_st 4 hA ok rfl rfl rfl rfl ?_
  | refine w_st 5 hA ok rfl rfl rfl rfl ?_
  | refine w_st 6 hA ok rfl rfl rfl rfl ?_
  | refine w_st 7 hA ok rfl rfl rfl rfl ?_
  | refine w_ldA 0 hA ok rfl rfl rfl ?_
  | refine w_ldA 1 hA ok rfl rfl rfl ?_
  | refine w_ldA 2 hA ok rfl rfl rfl ?_
  | refine w_ldA 3 hA ok rfl rfl rfl ?_
  | refine w_ldA 4 hA ok rfl rfl rfl ?_
  | refine w_ldA 5 hA ok rfl rfl rfl ?_
  | refine w_ldA 6 hA ok rfl rfl rfl ?_
  | refine w_ldA 7 hA ok rfl rfl rfl ?_
  | refine w_stA 0 hA ok rfl rfl rfl rfl ?_
  | refine w_stA 1 hA ok rfl rfl rfl rfl ?_
  | refine w_stA 2 hA ok rfl rfl rfl rfl ?_
  | refine w_stA 3 hA ok rfl rfl rfl rfl ?_
  | refine w_stA 4 hA ok rfl rfl rfl rfl ?_
  | refine w_stA 5 hA ok rfl rfl rfl rfl ?_
  | refine w_stA 6 hA ok rfl rfl rfl rfl ?_
  | refine w_stA 7 hA ok rfl rfl rfl rfl ?_
  | (refine w_Raw hA ?_; intro hA)
  | (refine w_SetRaw hA ?_; intro hA)
  | (refine w_SwapRaw hA ?_; intro hA)
  | (refine w_AddRaw hA ?_; intro hA)
  | (refine w_Load hA ?_; intro hA)
  | (refine w_Store hA ?_; intro hA)
  | (refine w_Retire hA ?_; intro hA)
  | (refine w_Died hA ?_; intro hA)
  | (refine w_Born hA ?_; intro hA)
  | refine w_State hA ?_
  | refine w_Uses hA ?_
  | refine w_Fault hA ?_
  | refine w_Words hA ?_
  | refine w_Count hA ?_
  | refine wq_Size ?_
  | refine wq_Open ?_
  | refine wq_Pack ?_
  | refine wq_head ?_
  | refine w_ck 0 hA ok rfl rfl rfl ?_
  | refine w_ck 1 hA ok rfl rfl rfl ?_
  | refine w_ck 2 hA ok rfl rfl rfl ?_
  | refine w_ck 3 hA ok rfl rfl rfl ?_
  | refine w_ck 4 hA ok rfl rfl rfl ?_
  | refine w_ck 5 hA ok rfl rfl rfl ?_
  | refine w_ck 6 hA ok rfl rfl rfl ?_
  | refine w_ck 7 hA ok rfl rfl rfl ?_
  | refine w_ckn rfl ?_
  | refine w_Base 0 1 hA ok rfl rfl ?_
  | refine w_Base 1 2 hA ok rfl rfl ?_
  | refine w_Base 2 3 hA ok rfl rfl ?_
  | refine w_Base 3 4 hA ok rfl rfl ?_
  | refine w_Base 4 5 hA ok rfl rfl ?_
  | refine w_Base 5 6 hA ok rfl rfl ?_
  | (refine w_PopStep 0 1 hA ok rfl rfl ?_; intro hA)
  | (refine w_PopStep 1 2 hA ok rfl rfl ?_; intro hA)
  | (refine w_PopStep 2 3 hA ok rfl rfl ?_; intro hA)
  | (refine w_PopStep 3 4 hA ok rfl rfl ?_; intro hA)
  | (refine w_PopStep 4 5 hA ok rfl rfl ?_; intro hA)
  | (refine w_PopStep 5 6 hA ok rfl rfl ?_; intro hA)
  | (refine w_PushStep 0 1 hA ok rfl rfl ?_; intro hA)
  | (refine w_PushStep 1 2 hA ok rfl rfl ?_; intro hA)
  | (refine w_PushStep 2 3 hA ok rfl rfl ?_; intro hA)
  | (refine w_PushStep 3 4 hA ok rfl rfl ?_; intro hA)
  | (refine w_PushStep 4 5 hA ok rfl rfl ?_; intro hA)
  | (refine w_PushStep 5 6 hA ok rfl rfl ?_; intro hA)
  | refine wp_true (by assumption) ?_
  | refine wp_false (by assumption) ?_)
    by_cases hs : A.rawF w0 = 2
    · rw [if_pos hs]
      refine wp_false (ibnf hs) ?_
      repeat (first
  | refine wp_nil.2 ?_
  | refine w_ld 0 hA ok rfl rfl rfl ?_
  | refine w_ld 1 hA ok rfl rfl rfl ?_
  | refine w_ld 2 hA ok rfl rfl rfl ?_
  | refine w_ld 3 hA ok rfl rfl rfl ?_
  | refine w_ld 4 hA ok rfl rfl rfl ?_
  | refine w_ld 5 hA ok rfl rfl rfl ?_
  | refine w_ld 6 hA ok rfl rfl rfl ?_
  | refine w_ld 7 hA ok rfl rfl rfl ?_
  | refine w_st 0 hA ok rfl rfl rfl rfl ?_
  | refine w_st 1 hA ok rfl rfl rfl rfl ?_
  | refine w_st 2 hA ok rfl rfl rfl rfl ?_
  | refine w_st 3 hA ok rfl rfl rfl rfl ?_
  | refine w_st 4 hA ok rfl rfl rfl rfl ?_
  | refine w_st 5 hA ok rfl rfl rfl rfl ?_
  | refine w_st 6 hA ok rfl rfl rfl rfl ?_
  | refine w_st 7 hA ok rfl rfl rfl rfl ?_
  | refine w_ldA 0 hA ok rfl rfl rfl ?_
  | refine w_ldA 1 hA ok rfl rfl rfl ?_
  | refine w_ldA 2 hA ok rfl rfl rfl ?_
  | refine w_ldA 3 hA ok rfl rfl rfl ?_
  | refine w_ldA 4 hA ok rfl rfl rfl ?_
  | refine w_ldA 5 hA ok rfl rfl rfl ?_
  | refine w_ldA 6 hA ok rfl rfl rfl ?_
  | refine w_ldA 7 hA ok rfl rfl rfl ?_
  | refine w_stA 0 hA ok rfl rfl rfl rfl ?_
  | refine w_stA 1 hA ok rfl rfl rfl rfl ?_
  | refine w_stA 2 hA ok rfl rfl rfl rfl ?_
  | refine w_stA 3 hA ok rfl rfl rfl rfl ?_
  | refine w_stA 4 hA ok rfl rfl rfl rfl ?_
  | refine w_stA 5 hA ok rfl rfl rfl rfl ?_
  | refine w_stA 6 hA ok rfl rfl rfl rfl ?_
  | refine w_stA 7 hA ok rfl rfl rfl rfl ?_
  | (refine w_Raw hA ?_; intro hA)
  | (refine w_SetRaw hA ?_; intro hA)
  | (refine w_SwapRaw hA ?_; intro hA)
  | (refine w_AddRaw hA ?_; intro hA)
  | (refine w_Load hA ?_; intro hA)
  | (refine w_Store hA ?_; intro hA)
  | (refine w_Retire hA ?_; intro hA)
  | (refine w_Died hA ?_; intro hA)
  | (refine w_Born hA ?_; intro hA)
  | refine w_State hA ?_
  | refine w_Uses hA ?_
  | refine w_Fault hA ?_
  | refine w_Words hA ?_
  | refine w_Count hA ?_
  | refine wq_Size ?_
  | refine wq_Open ?_
  | refine wq_Pack ?_
  | refine wq_head ?_
  | refine w_ck 0 hA ok rfl rfl rfl ?_
  | refine w_ck 1 hA ok rfl rfl rfl ?_
  | refine w_ck 2 hA ok rfl rfl rfl ?_
  | refine w_ck 3 hA ok rfl rfl rfl ?_
  | refine w_ck 4 hA ok rfl rfl rfl ?_
  | refine w_ck 5 hA ok rfl rfl rfl ?_
  | refine w_ck 6 hA ok rfl rfl rfl ?_
  | refine w_ck 7 hA ok rfl rfl rfl ?_
  | refine w_ckn rfl ?_
  | refine w_Base 0 1 hA ok rfl rfl ?_
  | refine w_Base 1 2 hA ok rfl rfl ?_
  | refine w_Base 2 3 hA ok rfl rfl ?_
  | refine w_Base 3 4 hA ok rfl rfl ?_
  | refine w_Base 4 5 hA ok rfl rfl ?_
  | refine w_Base 5 6 hA ok rfl rfl ?_
  | (refine w_PopStep 0 1 hA ok rfl rfl ?_; intro hA)
  | (refine w_PopStep 1 2 hA ok rfl rfl ?_; intro hA)
  | (refine w_PopStep 2 3 hA ok rfl rfl ?_; intro hA)
  | (refine w_PopStep 3 4 hA ok rfl rfl ?_; intro hA)
  | (refine w_PopStep 4 5 hA ok rfl rfl ?_; intro hA)
  | (refine w_PopStep 5 6 hA ok rfl rfl ?_; intro hA)
  | (refine w_PushStep 0 1 hA ok rfl rfl ?_; intro hA)
  | (refine w_PushStep 1 2 hA ok rfl rfl ?_; intro hA)
  | (refine w_PushStep 2 3 hA ok rfl rfl ?_; intro hA)
  | (refine w_PushStep 3 4 hA ok rfl rfl ?_; intro hA)
  | (refine w_PushStep 4 5 hA ok rfl rfl ?_; intro hA)
  | (refine w_PushStep 5 6 hA ok rfl rfl ?_; intro hA)
  | refine wp_true (by assumption) ?_
  | refine wp_false (by assumption) ?_)
      exact w_ret [1] ok rfl (by decide) fun ok => ⟨q, rfl, rfl, rfl, ok, hA⟩
    · rw [if_neg hs]
      refine wp_true (ibne hs) ?_
      repeat (first
  | refine wp_nil.2 ?_
  | refine w_ld 0 hA ok rfl rfl rfl ?_
  | refine w_ld 1 hA ok rfl rfl rfl ?_
  | refine w_ld 2 hA ok rfl rfl rfl ?_
  | refine w_ld 3 hA ok rfl rfl rfl ?_
  | refine w_ld 4 hA ok rfl rfl rfl ?_
  | refine w_ld 5 hA ok rfl rfl rfl ?_
  | refine w_ld 6 hA ok rfl rfl rfl ?_
  | refine w_ld 7 hA ok rfl rfl rfl ?_
  | refine w_st 0 hA ok rfl rfl rfl rfl ?_
  | refine w_st 1 hA ok rfl rfl rfl rfl ?_
  | refine w_st 2 hA ok rfl rfl rfl rfl ?_
  | refine w_st 3 hA ok rfl rfl rfl rfl ?_
  | refine w_st 4 hA ok rfl rfl rfl rfl ?_
  | refine w_st 5 hA ok rfl rfl rfl rfl ?_
  | refine w_st 6 hA ok rfl rfl rfl rfl ?_
  | refine w_st 7 hA ok rfl rfl rfl rfl ?_
  | refine w_ldA 0 hA ok rfl rfl rfl ?_
  | refine w_ldA 1 hA ok rfl rfl rfl ?_
  | refine w_ldA 2 hA ok rfl rfl rfl ?_
  | refine w_ldA 3 hA ok rfl rfl rfl ?_
  | refine w_ldA 4 hA ok rfl rfl rfl ?_
  | refine w_ldA 5 hA ok rfl rfl rfl ?_
  | refine w_ldA 6 hA ok rfl rfl rfl ?_
  | refine w_ldA 7 hA ok rfl rfl rfl ?_
  | refine w_stA 0 hA ok rfl rfl rfl rfl ?_
  | refine w_stA 1 hA ok rfl rfl rfl rfl ?_
  | refine w_stA 2 hA ok rfl rfl rfl rfl ?_
  | refine w_stA 3 hA ok rfl rfl rfl rfl ?_
  | refine w_stA 4 hA ok rfl rfl rfl rfl ?_
  | refine w_stA 5 hA ok rfl rfl rfl rfl ?_
  | refine w_stA 6 hA ok rfl rfl rfl rfl ?_
  | refine w_stA 7 hA ok rfl rfl rfl rfl ?_
  | (refine w_Raw hA ?_; intro hA)
  | (refine w_SetRaw hA ?_; intro hA)
  | (refine w_SwapRaw hA ?_; intro hA)
  | (refine w_AddRaw hA ?_; intro hA)
  | (refine w_Load hA ?_; intro hA)
  | (refine w_Store hA ?_; intro hA)
  | (refine w_Retire hA ?_; intro hA)
  | (refine w_Died hA ?_; intro hA)
  | (refine w_Born hA ?_; intro hA)
  | refine w_State hA ?_
  | refine w_Uses hA ?_
  | refine w_Fault hA ?_
  | refine w_Words hA ?_
  | refine w_Count hA ?_
  | refine wq_Size ?_
  | refine wq_Open ?_
  | refine wq_Pack ?_
  | refine wq_head ?_
  | refine w_ck 0 hA ok rfl rfl rfl ?_
  | refine w_ck 1 hA ok rfl rfl rfl ?_
  | refine w_ck 2 hA ok rfl rfl rfl ?_
  | refine w_ck 3 hA ok rfl rfl rfl ?_
  | refine w_ck 4 hA ok rfl rfl rfl ?_
  | refine w_ck 5 hA ok rfl rfl rfl ?_
  | refine w_ck 6 hA ok rfl rfl rfl ?_
  | refine w_ck 7 hA ok rfl rfl rfl ?_
  | refine w_ckn rfl ?_
  | refine w_Base 0 1 hA ok rfl rfl ?_
  | refine w_Base 1 2 hA ok rfl rfl ?_
  | refine w_Base 2 3 hA ok rfl rfl ?_
  | refine w_Base 3 4 hA ok rfl rfl ?_
  | refine w_Base 4 5 hA ok rfl rfl ?_
  | refine w_Base 5 6 hA ok rfl rfl ?_
  | (refine w_PopStep 0 1 hA ok rfl rfl ?_; intro hA)
  | (refine w_PopStep 1 2 hA ok rfl rfl ?_; intro hA)
  | (refine w_PopStep 2 3 hA ok rfl rfl ?_; intro hA)
  | (refine w_PopStep 3 4 hA ok rfl rfl ?_; intro hA)
  | (refine w_PopStep 4 5 hA ok rfl rfl ?_; intro hA)
  | (refine w_PopStep 5 6 hA ok rfl rfl ?_; intro hA)
  | (refine w_PushStep 0 1 hA ok rfl rfl ?_; intro hA)
  | (refine w_PushStep 1 2 hA ok rfl rfl ?_; intro hA)
  | (refine w_PushStep 2 3 hA ok rfl rfl ?_; intro hA)
  | (refine w_PushStep 3 4 hA ok rfl rfl ?_; intro hA)
  | (refine w_PushStep 4 5 hA ok rfl rfl ?_; intro hA)
  | (refine w_PushStep 5 6 hA ok rfl rfl ?_; intro hA)
  | refine wp_true (by assumption) ?_
  | refine wp_false (by assumption) ?_)
      exact w_ret [1] ok rfl (by decide) fun ok => ⟨q, rfl, rfl, rfl, ok, hA⟩
  rw [if_neg h0]
  refine wp_false (ibef h0) ?_
  by_cases h1 : ph = 1
  · subst h1
    rw [if_pos rfl]
    refine wp_true rfl ?_
    repeat (first
  | refine wp_nil.2 ?_
  | refine w_ld 0 hA ok rfl rfl rfl ?_
  | refine w_ld 1 hA ok rfl rfl rfl ?_
  | refine w_ld 2 hA ok rfl rfl rfl ?_
  | refine w_ld 3 hA ok rfl rfl rfl ?_
  | refine w_ld 4 hA ok rfl rfl rfl ?_
  | refine w_ld 5 hA ok rfl rfl rfl ?_
  | refine w_ld 6 hA ok rfl rfl rfl ?_
  | refine w_ld 7 hA ok rfl rfl rfl ?_
  | refine w_st 0 hA ok rfl rfl rfl rfl ?_
  | refine w_st 1 hA ok rfl rfl rfl rfl ?_
  | refine w_st 2 hA ok rfl rfl rfl rfl ?_
  | refine w_st 3 hA ok rfl rfl rfl rfl ?_
  | refine w_st 4 hA ok rfl rfl rfl rfl ?_
  | refine w_st 5 hA ok rfl rfl rfl rfl ?_
  | refine w_st 6 hA ok rfl rfl rfl rfl ?_
  | refine w_st 7 hA ok rfl rfl rfl rfl ?_
  | refine w_ldA 0 hA ok rfl rfl rfl ?_
  | refine w_ldA 1 hA ok rfl rfl rfl ?_
  | refine w_ldA 2 hA ok rfl rfl rfl ?_
  | refine w_ldA 3 hA ok rfl rfl rfl ?_
  | refine w_ldA 4 hA ok rfl rfl rfl ?_
  | refine w_ldA 5 hA ok rfl rfl rfl ?_
  | refine w_ldA 6 hA ok rfl rfl rfl ?_
  | refine w_ldA 7 hA ok rfl rfl rfl ?_
  | refine w_stA 0 hA ok rfl rfl rfl rfl ?_
  | refine w_stA 1 hA ok rfl rfl rfl rfl ?_
  | refine w_stA 2 hA ok rfl rfl rfl rfl ?_
  | refine w_stA 3 hA ok rfl rfl rfl rfl ?_
  | refine w_stA 4 hA ok rfl rfl rfl rfl ?_
  | refine w_stA 5 hA ok rfl rfl rfl rfl ?_
  | refine w_stA 6 hA ok rfl rfl rfl rfl ?_
  | refine w_stA 7 hA ok rfl rfl rfl rfl ?_
  | (refine w_Raw hA ?_; intro hA)
  | (refine w_SetRaw hA ?_; intro hA)
  | (refine w_SwapRaw hA ?_; intro hA)
  | (refine w_AddRaw hA ?_; intro hA)
  | (refine w_Load hA ?_; intro hA)
  | (refine w_Store hA ?_; intro hA)
  | (refine w_Retire hA ?_; intro hA)
  | (refine w_Died hA ?_; intro hA)
  | (refine w_Born hA ?_; intro hA)
  | refine w_State hA ?_
  | refine w_Uses hA ?_
  | refine w_Fault hA ?_
  | refine w_Words hA ?_
  | refine w_Count hA ?_
  | refine wq_Size ?_
  | refine wq_Open ?_
  | refine wq_Pack ?_
  | refine wq_head ?_
  | refine w_ck 0 hA ok rfl rfl rfl ?_
  | refine w_ck 1 hA ok rfl rfl rfl ?_
  | refine w_ck 2 hA ok rfl rfl rfl ?_
  | refine w_ck 3 hA ok rfl rfl rfl ?_
  | refine w_ck 4 hA ok rfl rfl rfl ?_
  | refine w_ck 5 hA ok rfl rfl rfl ?_
  | refine w_ck 6 hA ok rfl rfl rfl ?_
  | refine w_ck 7 hA ok rfl rfl rfl ?_
  | refine w_ckn rfl ?_
  | refine w_Base 0 1 hA ok rfl rfl ?_
  | refine w_Base 1 2 hA ok rfl rfl ?_
  | refine w_Base 2 3 hA ok rfl rfl ?_
  | refine w_Base 3 4 hA ok rfl rfl ?_
  | refine w_Base 4 5 hA ok rfl rfl ?_
  | refine w_Base 5 6 hA ok rfl rfl ?_
  | (refine w_PopStep 0 1 hA ok rfl rfl ?_; intro hA)
  | (refine w_PopStep 1 2 hA ok rfl rfl ?_; intro hA)
  | (refine w_PopStep 2 3 hA ok rfl rfl ?_; intro hA)
  | (refine w_PopStep 3 4 hA ok rfl rfl ?_; intro hA)
  | (refine w_PopStep 4 5 hA ok rfl rfl ?_; intro hA)
  | (refine w_PopStep 5 6 hA ok rfl rfl ?_; intro hA)
  | (refine w_PushStep 0 1 hA ok rfl rfl ?_; intro hA)
  | (refine w_PushStep 1 2 hA ok rfl rfl ?_; intro hA)
  | (refine w_PushStep 2 3 hA ok rfl rfl ?_; intro hA)
  | (refine w_PushStep 3 4 hA ok rfl rfl ?_; intro hA)
  | (refine w_PushStep 4 5 hA ok rfl rfl ?_; intro hA)
  | (refine w_PushStep 5 6 hA ok rfl rfl ?_; intro hA)
  | refine wp_true (by assumption) ?_
  | refine wp_false (by assumption) ?_)
    refine wq_pw1 ?_
    repeat (first
  | refine wp_nil.2 ?_
  | refine w_ld 0 hA ok rfl rfl rfl ?_
  | refine w_ld 1 hA ok rfl rfl rfl ?_
  | refine w_ld 2 hA ok rfl rfl rfl ?_
  | refine w_ld 3 hA ok rfl rfl rfl ?_
  | refine w_ld 4 hA ok rfl rfl rfl ?_
  | refine w_ld 5 hA ok rfl rfl rfl ?_
  | refine w_ld 6 hA ok rfl rfl rfl ?_
  | refine w_ld 7 hA ok rfl rfl rfl ?_
  | refine w_st 0 hA ok rfl rfl rfl rfl ?_
  | refine w_st 1 hA ok rfl rfl rfl rfl ?_
  | refine w_st 2 hA ok rfl rfl rfl rfl ?_
  | refine w_st 3 hA ok rfl rfl rfl rfl ?_
  | refine w_st 4 hA ok rfl rfl rfl rfl ?_
  | refine w_st 5 hA ok rfl rfl rfl rfl ?_
  | refine w_st 6 hA ok rfl rfl rfl rfl ?_
  | refine w_st 7 hA ok rfl rfl rfl rfl ?_
  | refine w_ldA 0 hA ok rfl rfl rfl ?_
  | refine w_ldA 1 hA ok rfl rfl rfl ?_
  | refine w_ldA 2 hA ok rfl rfl rfl ?_
  | refine w_ldA 3 hA ok rfl rfl rfl ?_
  | refine w_ldA 4 hA ok rfl rfl rfl ?_
  | refine w_ldA 5 hA ok rfl rfl rfl ?_
  | refine w_ldA 6 hA ok rfl rfl rfl ?_
  | refine w_ldA 7 hA ok rfl rfl rfl ?_
  | refine w_stA 0 hA ok rfl rfl rfl rfl ?_
  | refine w_stA 1 hA ok rfl rfl rfl rfl ?_
  | refine w_stA 2 hA ok rfl rfl rfl rfl ?_
  | refine w_stA 3 hA ok rfl rfl rfl rfl ?_
  | refine w_stA 4 hA ok rfl rfl rfl rfl ?_
  | refine w_stA 5 hA ok rfl rfl rfl rfl ?_
  | refine w_stA 6 hA ok rfl rfl rfl rfl ?_
  | refine w_stA 7 hA ok rfl rfl rfl rfl ?_
  | (refine w_Raw hA ?_; intro hA)
  | (refine w_SetRaw hA ?_; intro hA)
  | (refine w_SwapRaw hA ?_; intro hA)
  | (refine w_AddRaw hA ?_; intro hA)
  | (refine w_Load hA ?_; intro hA)
  | (refine w_Store hA ?_; intro hA)
  | (refine w_Retire hA ?_; intro hA)
  | (refine w_Died hA ?_; intro hA)
  | (refine w_Born hA ?_; intro hA)
  | refine w_State hA ?_
  | refine w_Uses hA ?_
  | refine w_Fault hA ?_
  | refine w_Words hA ?_
  | refine w_Count hA ?_
  | refine wq_Size ?_
  | refine wq_Open ?_
  | refine wq_Pack ?_
  | refine wq_head ?_
  | refine w_ck 0 hA ok rfl rfl rfl ?_
  | refine w_ck 1 hA ok rfl rfl rfl ?_
  | refine w_ck 2 hA ok rfl rfl rfl ?_
  | refine w_ck 3 hA ok rfl rfl rfl ?_
  | refine w_ck 4 hA ok rfl rfl rfl ?_
  | refine w_ck 5 hA ok rfl rfl rfl ?_
  | refine w_ck 6 hA ok rfl rfl rfl ?_
  | refine w_ck 7 hA ok rfl rfl rfl ?_
  | refine w_ckn rfl ?_
  | refine w_Base 0 1 hA ok rfl rfl ?_
  | refine w_Base 1 2 hA ok rfl rfl ?_
  | refine w_Base 2 3 hA ok rfl rfl ?_
  | refine w_Base 3 4 hA ok rfl rfl ?_
  | refine w_Base 4 5 hA ok rfl rfl ?_
  | refine w_Base 5 6 hA ok rfl rfl ?_
  | (refine w_PopStep 0 1 hA ok rfl rfl ?_; intro hA)
  | (refine w_PopStep 1 2 hA ok rfl rfl ?_; intro hA)
  | (refine w_PopStep 2 3 hA ok rfl rfl ?_; intro hA)
  | (refine w_PopStep 3 4 hA ok rfl rfl ?_; intro hA)
  | (refine w_PopStep 4 5 hA ok rfl rfl ?_; intro hA)
  | (refine w_PopStep 5 6 hA ok rfl rfl ?_; intro hA)
  | (refine w_PushStep 0 1 hA ok rfl rfl ?_; intro hA)
  | (refine w_PushStep 1 2 hA ok rfl rfl ?_; intro hA)
  | (refine w_PushStep 2 3 hA ok rfl rfl ?_; intro hA)
  | (refine w_PushStep 3 4 hA ok rfl rfl ?_; intro hA)
  | (refine w_PushStep 4 5 hA ok rfl rfl ?_; intro hA)
  | (refine w_PushStep 5 6 hA ok rfl rfl ?_; intro hA)
  | refine wp_true (by assumption) ?_
  | refine wp_false (by assumption) ?_)
    exact w_ret [1] ok rfl (by decide) fun ok => ⟨q, rfl, rfl, rfl, ok, hA⟩
  rw [if_neg h1]
  refine wp_false (ibef h1) ?_
  repeat (first
  | refine wp_nil.2 ?_
  | refine w_ld 0 hA ok rfl rfl rfl ?_
  | refine w_ld 1 hA ok rfl rfl rfl ?_
  | refine w_ld 2 hA ok rfl rfl rfl ?_
  | refine w_ld 3 hA ok rfl rfl rfl ?_
  | refine w_ld 4 hA ok rfl rfl rfl ?_
  | refine w_ld 5 hA ok rfl rfl rfl ?_
  | refine w_ld 6 hA ok rfl rfl rfl ?_
  | refine w_ld 7 hA ok rfl rfl rfl ?_
  | refine w_st 0 hA ok rfl rfl rfl rfl ?_
  | refine w_st 1 hA ok rfl rfl rfl rfl ?_
  | refine w_st 2 hA ok rfl rfl rfl rfl ?_
  | refine w_st 3 hA ok rfl rfl rfl rfl ?_
  | refine w_st 4 hA ok rfl rfl rfl rfl ?_
  | refine w_st 5 hA ok rfl rfl rfl rfl ?_
  | refine w_st 6 hA ok rfl rfl rfl rfl ?_
  | refine w_st 7 hA ok rfl rfl rfl rfl ?_
  | refine w_ldA 0 hA ok rfl rfl rfl ?_
  | refine w_ldA 1 hA ok rfl rfl rfl ?_
  | refine w_ldA 2 hA ok rfl rfl rfl ?_
  | refine w_ldA 3 hA ok rfl rfl rfl ?_
  | refine w_ldA 4 hA ok rfl rfl rfl ?_
  | refine w_ldA 5 hA ok rfl rfl rfl ?_
  | refine w_ldA 6 hA ok rfl rfl rfl ?_
  | refine w_ldA 7 hA ok rfl rfl rfl ?_
  | refine w_stA 0 hA ok rfl rfl rfl rfl ?_
  | refine w_stA 1 hA ok rfl rfl rfl rfl ?_
  | refine w_stA 2 hA ok rfl rfl rfl rfl ?_
  | refine w_stA 3 hA ok rfl rfl rfl rfl ?_
  | refine w_stA 4 hA ok rfl rfl rfl rfl ?_
  | refine w_stA 5 hA ok rfl rfl rfl rfl ?_
  | refine w_stA 6 hA ok rfl rfl rfl rfl ?_
  | refine w_stA 7 hA ok rfl rfl rfl rfl ?_
  | (refine w_Raw hA ?_; intro hA)
  | (refine w_SetRaw hA ?_; intro hA)
  | (refine w_SwapRaw hA ?_; intro hA)
  | (refine w_AddRaw hA ?_; intro hA)
  | (refine w_Load hA ?_; intro hA)
  | (refine w_Store hA ?_; intro hA)
  | (refine w_Retire hA ?_; intro hA)
  | (refine w_Died hA ?_; intro hA)
  | (refine w_Born hA ?_; intro hA)
  | refine w_State hA ?_
  | refine w_Uses hA ?_
  | refine w_Fault hA ?_
  | refine w_Words hA ?_
  | refine w_Count hA ?_
  | refine wq_Size ?_
  | refine wq_Open ?_
  | refine wq_Pack ?_
  | refine wq_head ?_
  | refine w_ck 0 hA ok rfl rfl rfl ?_
  | refine w_ck 1 hA ok rfl rfl rfl ?_
  | refine w_ck 2 hA ok rfl rfl rfl ?_
  | refine w_ck 3 hA ok rfl rfl rfl ?_
  | refine w_ck 4 hA ok rfl rfl rfl ?_
  | refine w_ck 5 hA ok rfl rfl rfl ?_
  | refine w_ck 6 hA ok rfl rfl rfl ?_
  | refine w_ck 7 hA ok rfl rfl rfl ?_
  | refine w_ckn rfl ?_
  | refine w_Base 0 1 hA ok rfl rfl ?_
  | refine w_Base 1 2 hA ok rfl rfl ?_
  | refine w_Base 2 3 hA ok rfl rfl ?_
  | refine w_Base 3 4 hA ok rfl rfl ?_
  | refine w_Base 4 5 hA ok rfl rfl ?_
  | refine w_Base 5 6 hA ok rfl rfl ?_
  | (refine w_PopStep 0 1 hA ok rfl rfl ?_; intro hA)
  | (refine w_PopStep 1 2 hA ok rfl rfl ?_; intro hA)
  | (refine w_PopStep 2 3 hA ok rfl rfl ?_; intro hA)
  | (refine w_PopStep 3 4 hA ok rfl rfl ?_; intro hA)
  | (refine w_PopStep 4 5 hA ok rfl rfl ?_; intro hA)
  | (refine w_PopStep 5 6 hA ok rfl rfl ?_; intro hA)
  | (refine w_PushStep 0 1 hA ok rfl rfl ?_; intro hA)
  | (refine w_PushStep 1 2 hA ok rfl rfl ?_; intro hA)
  | (refine w_PushStep 2 3 hA ok rfl rfl ?_; intro hA)
  | (refine w_PushStep 3 4 hA ok rfl rfl ?_; intro hA)
  | (refine w_PushStep 4 5 hA ok rfl rfl ?_; intro hA)
  | (refine w_PushStep 5 6 hA ok rfl rfl ?_; intro hA)
  | refine wp_true (by assumption) ?_
  | refine wp_false (by assumption) ?_)
  exact w_ret [1] ok rfl (by decide) fun ok => ⟨q, rfl, rfl, rfl, ok, hA⟩

def newFt (a n v : Int) : Ft := ⟨fw a n 0, fw a n 1, v, 0, false⟩
theorem w_NewSet {a n v : Int} {k : Option Addr → Tree} (hA : Aw I A) (ok : Ok I G (keys l)) (h : ∀ q : Nat, Ok I G (keys ((q, oc ty_future_Set (newFt a n v).cells) :: l)) → wp Try.prog (k (some ⟨q, 0, none⟩)) L (own A ((q, oc ty_future_Set (newFt a n v).cells) :: l) G) R) :
    wp Try.prog (.call f_future_NewSet [.int .i64 a, .int .i64 n, .int .i64 v] (.one (.leaf .ptr)) k) L (own A l G) R := by
  refine wp_call_of (R0 := fun u K => ∃ q : Nat, u = .pointer (some ⟨q, 0, none⟩) ∧ K = own A ((q, oc ty_future_Set (newFt a n v).cells) :: l) G ∧ Ok I G (keys ((q, oc ty_future_Set (newFt a n v).cells) :: l))) ?_ ?_
  · refine t_future_NewSet_spec fun L => ?_
    unfold t_future_NewSet
    refine wp_call_det (x := (fw a n 0, fw a n 1, v, 0, false, ())) (of_det a n v _) ?_
    refine w_newP hA ok fun q ok => ?_
    exact wp_ret_of ⟨q, rfl, rfl, ok⟩
  · rintro u K ⟨q, rfl, rfl, o⟩
    exact ⟨_, rfl, h q o⟩
theorem w_NewGet {a n : Int} {k : Option Addr → Tree} (hA : Aw I A) (ok : Ok I G (keys l)) (h : ∀ q : Nat, Ok I G (keys ((q, oc ty_future_Get (newFt a n 0).cells) :: l)) → wp Try.prog (k (some ⟨q, 0, none⟩)) L (own A ((q, oc ty_future_Get (newFt a n 0).cells) :: l) G) R) :
    wp Try.prog (.call f_future_NewGet [.int .i64 a, .int .i64 n] (.one (.leaf .ptr)) k) L (own A l G) R := by
  refine wp_call_of (R0 := fun u K => ∃ q : Nat, u = .pointer (some ⟨q, 0, none⟩) ∧ K = own A ((q, oc ty_future_Get (newFt a n 0).cells) :: l) G ∧ Ok I G (keys ((q, oc ty_future_Get (newFt a n 0).cells) :: l))) ?_ ?_
  · refine t_future_NewGet_spec fun L => ?_
    unfold t_future_NewGet
    refine wp_call_det (x := (fw a n 0, fw a n 1, 0, 0, false, ())) (of_det a n 0 _) ?_
    refine w_newP hA ok fun q ok => ?_
    exact wp_ret_of ⟨q, rfl, rfl, ok⟩
  · rintro u K ⟨q, rfl, rfl, o⟩
    exact ⟨_, rfl, h q o⟩
theorem w_Went {q : Nat} {x : Ft} {k : Bool → Tree} (hA : Aw I A) (ok : Ok I G (keys l)) (hm : (q, oc ty_future_Set x.cells) ∈ l) (h : wp Try.prog (k x.ok) L (own A l G) R) :
    wp Try.prog (.call f_future_Set_Went [.pointer (some ⟨q, 0, none⟩)] (.one (.leaf .bool)) k) L (own A l G) R := by
  refine wp_call_det (x := x.ok) (H' := own A l G) ?_ h
  refine t_future_Set_Went_spec fun L => ?_
  unfold t_future_Set_Went
  refine wp_nil.2 (w_ldm (x := x.ok) hA ok rfl hm rfl ?_)
  exact wp_ret_of ⟨rfl, rfl⟩
theorem w_Value {q : Nat} {x : Ft} {k : HL Sh1.T [(.leaf (.int .i64)), (.leaf .bool)] → Tree} (hA : Aw I A) (ok : Ok I G (keys l)) (hm : (q, oc ty_future_Get x.cells) ∈ l) (h : wp Try.prog (k (x.v, x.ok, ())) L (own A l G) R) :
    wp Try.prog (.call f_future_Get_Value [.pointer (some ⟨q, 0, none⟩)] (.tup [(.leaf (.int .i64)), (.leaf .bool)]) k) L (own A l G) R := by
  refine wp_call_det (x := (x.v, x.ok, ())) (H' := own A l G) ?_ h
  refine t_future_Get_Value_spec fun L => ?_
  unfold t_future_Get_Value
  refine wp_nil.2 (w_ldm (x := x.v) hA ok rfl hm rfl (wp_nil.2 (w_ldm (x := x.ok) hA ok rfl hm rfl ?_)))
  exact wp_ret_of ⟨rfl, rfl⟩
end
end Go.Proofs.Ytjleoogieoahnaa

set_option linter.unusedVariables false
set_option maxRecDepth 20000
namespace Go.Proofs.Ytjleoogieoahnaa
open Go Go.Fw

section
variable {L : Hands} {R : Value → Heap → Prop} {H : Heap} {I : List Nat} {A : Ar} {N : Nat}
/-- A cell of an array, read. -/
theorem w_arn {t e u T : TypeId} {b : Nat} {g : Nat → Value} {k : Int} {lf : Leaf} {x : lf.T} {t' : Addr → lf.T → Tree} {l : Bl} {info : TypeInfo} (hA : Aw I A) (ok : Ok I H (keys l)) (hb : (b, oc T (arrC N g)) ∈ l) (hu : Try.prog.underlying t = some (.array N e)) (hi : Try.prog.info? e = some info) (hs : info.size = 1) (k0 : 0 ≤ k) (k1 : k < N)
    (hx : Lf.dec lf (g k.toNat) = some x) (h : wp Try.prog (t' ⟨b, 0 + k.toNat, none⟩ x) L (own A l H) R) :
    wp Try.prog (.look (opS Try.prog (.indexAddr t (.tmp 0) (.tmp 1)) u [.pointer (some ⟨b, 0, none⟩), .int .i64 k]) (.one (.leaf .addr)) fun y => .ld y lf (t' y)) L (own A l H) R := by
  refine w_ix (A := A) (e := e) (n := N) hu hi hs k0 (by omega) ?_
  refine w_ldm (x := x) hA ok rfl hb ?_ h
  rw [Nat.zero_add, arrC_get (by omega)]; exact hx
/-- A cell of an array, turned. -/
theorem w_arnS (ix : Nat) {t e u T : TypeId} {b : Nat} {g : Nat → Value} {k : Int} {v : Value} {t' : Tree} {l : Bl} {info : TypeInfo} (hA : Aw I A) (ok : Ok I H (keys l)) (hb : l[ix]? = some (b, oc T (arrC N g))) (hu : Try.prog.underlying t = some (.array N e)) (hi : Try.prog.info? e = some info) (hs : info.size = 1) (k0 : 0 ≤ k) (k1 : k < N) (hv : Value.single v = true)
    (h : wp Try.prog t' L (own A (l.set ix (b, oc T (arrC N fun j => if j = k.toNat then v else g j))) H) R) :
    wp Try.prog (.look (opS Try.prog (.indexAddr t (.tmp 0) (.tmp 1)) u [.pointer (some ⟨b, 0, none⟩), .int .i64 k]) (.one (.leaf .addr)) fun y => .st y v t') L (own A l H) R := by
  refine w_ix (A := A) (e := e) (n := N) hu hi hs k0 (by omega) ?_
  refine w_st ix hA ok rfl hb hv (by rw [arrC_len]; exact decide_eq_true (by omega)) ?_
  rw [Nat.zero_add, arrC_set]; exact h
theorem ck_arn {T : TypeId} {b : Nat} {g : Nat → Value} {k : Int} {v : Value} {t' : Tree} {l : Bl} (hA : Aw I A) (ok : Ok I H (keys l)) (hb : (b, oc T (arrC N g)) ∈ l) (k0 : 0 ≤ k) (k1 : k < N) (hv : g k.toNat = v)
    (h : wp Try.prog t' L (own A l H) R) : wp Try.prog (.check (ldS ⟨b, 0 + k.toNat, none⟩) v t') L (own A l H) R := by
  refine chk_cell ?_ h
  rw [Heap.cell_of (own_mem hA ok hb), List.getElem?_toArray, Nat.zero_add, arrC_get (by omega), hv]
theorem ck_aix {t e u : TypeId} {b : Nat} {k : Int} {t' : Tree} {H : Heap} {info : TypeInfo} (hu : Try.prog.underlying t = some (.array N e)) (hi : Try.prog.info? e = some info) (hs : info.size = 1) (k0 : 0 ≤ k) (k1 : k < N) (h : wp Try.prog t' L H R) :
    wp Try.prog (.check (opS Try.prog (.indexAddr t (.tmp 0) (.tmp 1)) u [.pointer (some ⟨b, 0, none⟩), .int .i64 k]) (.pointer (some ⟨b, 0 + k.toNat, none⟩)) t') L H R := by
  refine check_val ?_ h
  rw [opS_idx hu hi k0 (by omega), Addr.add_mk, hs, Nat.mul_one]
end
end Go.Proofs.Ytjleoogieoahnaa

set_option linter.unusedVariables false
set_option maxRecDepth 20000
namespace Go.Proofs.Ytjleoogieoahnaa
open Go Go.Fw

/-! ### Steps of a push, of a pop -/
section
variable {A : Ar}

theorem getD_rawF {i : Int} (h : A.rawOk i) : A.raw.getD i.toNat 0 = A.rawF i := by unfold Ar.rawF; rw [if_pos h]

theorem Pu.s0 {x : Pu} (h : x.at' = 0) (o : A.rawOk x.head) : (x.stepM A, x.stepA A) = ({ x with was := A.rawF x.head, at' := 1 }, A.tick) := by
  have n1 : ¬ x.at' = 1 := by omega
  have n2 : ¬ x.at' = 2 := by omega
  have n3 : ¬ x.at' = 3 := by omega
  unfold Pu.stepM Pu.stepA
  simp only [if_neg n1, if_neg n2, if_neg n3, touchR_yes o]
theorem Pu.s1 {x : Pu} (h : x.at' = 1) {lk : Int} (hl : w64 (x.pl.links + w64 (Int.tdiv x.base 8)) = lk) (o : A.rawOk lk) : (x.stepM A, x.stepA A) = ({ x with at' := 2 }, A.tick.setR lk.toNat (iand x.was 131071)) := by
  unfold Pu.stepM Pu.stepA
  simp only [if_pos h, hl]
  unfold Ar.storeR; rw [if_pos o]
theorem Pu.s2y {x : Pu} (h : x.at' = 2) (o : A.rawOk x.head) (e : A.rawF x.head = x.was) : (x.stepM A, x.stepA A) = ({ x with at' := 3 }, A.tick.setR x.head.toNat (nextF x.was (w64 (w64 (Int.tdiv x.base 8) + 1)))) := by
  have n1 : ¬ x.at' = 1 := by omega
  have e' := (getD_rawF o).trans e
  have sb : A.swapRb x.head x.was = true := decide_eq_true ⟨o, e'⟩
  unfold Pu.stepM Pu.stepA
  simp only [if_neg n1, if_pos h, sb, if_true]
  unfold Ar.swapR; rw [if_pos o, if_pos e']
theorem Pu.s2n {x : Pu} (h : x.at' = 2) (o : A.rawOk x.head) (e : A.rawF x.head ≠ x.was) : (x.stepM A, x.stepA A) = ({ x with at' := 0 }, A.tick) := by
  have n1 : ¬ x.at' = 1 := by omega
  have e' : A.raw.getD x.head.toNat 0 ≠ x.was := by rw [getD_rawF o]; exact e
  have sb : A.swapRb x.head x.was = false := decide_eq_false fun h => e' h.2
  unfold Pu.stepM Pu.stepA
  simp only [if_neg n1, if_pos h, sb, Bool.false_eq_true, if_false]
  unfold Ar.swapR; rw [if_pos o, if_neg e']
theorem Pu.s3 {x : Pu} (h : x.at' = 3) : (x.stepM A, x.stepA A) = (x, A) := by
  have n1 : ¬ x.at' = 1 := by omega
  have n2 : ¬ x.at' = 2 := by omega
  unfold Pu.stepM Pu.stepA
  simp only [if_neg n1, if_neg n2, if_pos h]

theorem Po.s0 {x : Po} (h : x.at' = 0) (o : A.rawOk x.head) : (x.stepM A, x.stepA A) = ({ x with was := A.rawF x.head, at' := if A.rawF x.head % 131072 = 0 then 3 else 1 }, A.tick) := by
  have n1 : ¬ x.at' = 1 := by omega
  have n2 : ¬ x.at' = 2 := by omega
  have n3 : ¬ x.at' = 3 := by omega
  unfold Po.stepM Po.stepA
  simp only [if_neg n1, if_neg n2, if_neg n3, touchR_yes o, mask17]
theorem Po.s1 {x : Po} (h : x.at' = 1) {lk : Int} (hl : w64 (w64 (x.pl.links + x.was % 131072) - 1) = lk) (o : A.rawOk lk) : (x.stepM A, x.stepA A) = ({ x with link := A.rawF lk, at' := 2 }, A.tick) := by
  unfold Po.stepM Po.stepA
  simp only [if_pos h, mask17, hl, touchR_yes o]
theorem Po.s2y {x : Po} (h : x.at' = 2) (o : A.rawOk x.head) (e : A.rawF x.head = x.was) : (x.stepM A, x.stepA A) = ({ x with at' := 3, base := w64 (w64 (x.was % 131072 - 1) * 8), ok := true }, A.tick.setR x.head.toNat (nextF x.was x.link)) := by
  have n1 : ¬ x.at' = 1 := by omega
  have e' := (getD_rawF o).trans e
  have sb : A.swapRb x.head x.was = true := decide_eq_true ⟨o, e'⟩
  unfold Po.stepM Po.stepA
  simp only [if_neg n1, if_pos h, sb, if_true, mask17]
  unfold Ar.swapR; rw [if_pos o, if_pos e']
theorem Po.s2n {x : Po} (h : x.at' = 2) (o : A.rawOk x.head) (e : A.rawF x.head ≠ x.was) : (x.stepM A, x.stepA A) = ({ x with at' := 0 }, A.tick) := by
  have n1 : ¬ x.at' = 1 := by omega
  have e' : A.raw.getD x.head.toNat 0 ≠ x.was := by rw [getD_rawF o]; exact e
  have sb : A.swapRb x.head x.was = false := decide_eq_false fun h => e' h.2
  unfold Po.stepM Po.stepA
  simp only [if_neg n1, if_pos h, sb, Bool.false_eq_true, if_false]
  unfold Ar.swapR; rw [if_pos o, if_neg e']
theorem Po.s3 {x : Po} (h : x.at' = 3) : (x.stepM A, x.stepA A) = (x, A) := by
  have n1 : ¬ x.at' = 1 := by omega
  have n2 : ¬ x.at' = 2 := by omega
  unfold Po.stepM Po.stepA
  simp only [if_neg n1, if_neg n2, if_pos h]

theorem tick_uses (h0 : 0 ≤ A.uses) (h : A.uses ≤ 4000000000000000000) : A.tick = A.later 1 := by
  unfold Ar.tick Ar.later; rw [w64_in (by omega) (by omega)]
theorem rawF_tick (i : Int) : A.tick.rawF i = A.rawF i := rfl
theorem rawF_later (n i : Int) : (A.later n).rawF i = A.rawF i := rfl

/-- A push alone. -/
theorem Pu.solo {p : Pl} {w n : Int} {ch : Int → List Int} (F : FL A p w n ch) (hu : A.uses ≤ 1000000000) {k b : Int} (h0 : 0 ≤ k) (h1 : k < 4 * w) (hb : 0 ≤ b ∧ b % 8 = 0 ∧ b / 8 < n) :
    ∃ y : Pu, y.at' = 3 ∧ y.base = b ∧ mPu.Runs 3 ⟨p, k, 0, 0, b⟩ A y (A.pushed k (4 * w + b / 8) b) := by
  have wb := F.wb
  have nb := F.nb
  have us := F.us
  have o1 := F.hdOk h0 h1
  have o2 := F.lkOk hb.1 hb.2.2
  have td : Int.tdiv b 8 = b / 8 := Int.tdiv_eq_ediv_of_nonneg hb.1
  have el : w64 (p.links + w64 (Int.tdiv b 8)) = 4 * w + b / 8 := by rw [td, F.links, w64_in (x := b / 8) (by omega) (by omega), w64_in (by omega) (by omega)]
  have t1 : w64 (A.uses + 1) = A.uses + 1 := w64_in (by omega) (by omega)
  have t2 : w64 (A.uses + 1 + 1) = A.uses + 1 + 1 := w64_in (by omega) (by omega)
  have t3 : w64 (A.uses + 1 + 1 + 1) = A.uses + 1 + 1 + 1 := w64_in (by omega) (by omega)
  have e1 := Pu.s0 (A := A) (x := ⟨p, k, 0, 0, b⟩) rfl o1
  have e2 := Pu.s1 (A := A.tick) (x := ⟨p, k, A.rawF k, 1, b⟩) rfl el o2
  have o3 : (A.tick.tick.setR (4 * w + b / 8).toNat (iand (A.rawF k) 131071)).rawOk k := by
    unfold Ar.rawOk at *; show 0 ≤ k ∧ k < ((A.raw.set _ _).length : Int); rw [List.length_set]; exact o1
  have hhd : (A.tick.tick.setR (4 * w + b / 8).toNat (iand (A.rawF k) 131071)).rawF k = A.rawF k := by
    rw [← getD_rawF o3, ← getD_rawF o1]
    show (A.raw.set _ _).getD k.toNat 0 = _
    rw [List.getD_eq_getElem?_getD, List.getD_eq_getElem?_getD, List.getElem?_set, if_neg (by omega)]
  have e3 := Pu.s2y (A := A.tick.tick.setR (4 * w + b / 8).toNat (iand (A.rawF k) 131071)) (x := ⟨p, k, A.rawF k, 2, b⟩) rfl o3 hhd
  have ef : (A.tick.tick.setR (4 * w + b / 8).toNat (iand (A.rawF k) 131071)).tick.setR k.toNat (nextF (A.rawF k) (w64 (w64 (Int.tdiv b 8) + 1))) = A.pushed k (4 * w + b / 8) b := by
    unfold Ar.pushed Ar.setR Ar.tick
    simp only [t1, t2, t3, Ar.mk.injEq, true_and]
    omega
  rw [ef] at e3
  refine ⟨⟨p, k, A.rawF k, 3, b⟩, rfl, rfl, ?_⟩
  have r3 : mPu.Runs 1 ⟨p, k, A.rawF k, 2, b⟩ (A.tick.tick.setR (4 * w + b / 8).toNat (iand (A.rawF k) 131071)) ⟨p, k, A.rawF k, 3, b⟩ (A.pushed k (4 * w + b / 8) b) := by
    have h := Mch.Runs.one (X := mPu) (m := ⟨p, k, A.rawF k, 2, b⟩) (A := A.tick.tick.setR (4 * w + b / 8).toNat (iand (A.rawF k) 131071)) trivial
    have e3' : mPu.step ⟨p, k, A.rawF k, 2, b⟩ (A.tick.tick.setR (4 * w + b / 8).toNat (iand (A.rawF k) 131071)) = _ := e3
    rw [e3'] at h
    refine h ?_ rfl
    show A.uses + 3 ≤ w64 (w64 (w64 (A.uses + 1) + 1) + 1)
    rw [t1, t2, t3]; omega
  have r2 : mPu.Runs 2 ⟨p, k, A.rawF k, 1, b⟩ A.tick ⟨p, k, A.rawF k, 3, b⟩ (A.pushed k (4 * w + b / 8) b) := by
    have h := Mch.Runs.more (X := mPu) (n := 1) (m := ⟨p, k, A.rawF k, 1, b⟩) (A := A.tick) (m' := ⟨p, k, A.rawF k, 3, b⟩) (A' := A.pushed k (4 * w + b / 8) b) trivial
    have e2' : mPu.step ⟨p, k, A.rawF k, 1, b⟩ A.tick = _ := e2
    rw [e2'] at h
    exact h (Int.le_refl _) rfl r3
  have h := Mch.Runs.more (X := mPu) (n := 2) (m := ⟨p, k, 0, 0, b⟩) (A := A) (m' := ⟨p, k, A.rawF k, 3, b⟩) (A' := A.pushed k (4 * w + b / 8) b) trivial
  have e1' : mPu.step ⟨p, k, 0, 0, b⟩ A = _ := e1
  rw [e1'] at h
  exact h (Int.le_refl _) rfl r2

/-- A pop alone, where there is nothing. -/
theorem Po.solo_none {p : Pl} {w n : Int} {ch : Int → List Int} (F : FL A p w n ch) (hu : A.uses ≤ 1000000000) {k : Int} (h0 : 0 ≤ k) (h1 : k < 4 * w) (hc : ch k = []) :
    ∃ y : Po, y.at' = 3 ∧ y.base = 0 ∧ y.ok = false ∧ mPo.Runs 1 ⟨p, k, 0, 0, 0, 0, false⟩ A y (A.later 1) := by
  have us := F.us
  have e1 := Po.s0 (A := A) (x := ⟨p, k, 0, 0, 0, 0, false⟩) rfl (F.hdOk h0 h1)
  rw [if_pos (F.first_nil h0 h1 hc), tick_uses us (by omega)] at e1
  refine ⟨⟨p, k, A.rawF k, 3, 0, 0, false⟩, rfl, rfl, rfl, ?_⟩
  have h := Mch.Runs.one (X := mPo) (m := ⟨p, k, 0, 0, 0, 0, false⟩) (A := A) trivial
  have e1' : mPo.step ⟨p, k, 0, 0, 0, 0, false⟩ A = _ := e1
  rw [e1'] at h
  refine h ?_ rfl
  show A.uses + 1 ≤ w64 (A.uses + 1)
  rw [w64_in (by omega) (by omega)]; exact Int.le_refl _

/-- A pop alone, where there is something. -/
theorem Po.solo_some {p : Pl} {w n : Int} {ch : Int → List Int} (F : FL A p w n ch) (hu : A.uses ≤ 1000000000) {k b : Int} {l : List Int} (hc : ch k = b :: l) :
    ∃ y : Po, y.at' = 3 ∧ y.base = b ∧ y.ok = true ∧ mPo.Runs 3 ⟨p, k, 0, 0, 0, 0, false⟩ A y (A.popped k (4 * w + b / 8)) := by
  obtain ⟨h0, h1⟩ := F.rg k (by rw [hc]; simp)
  have wb := F.wb
  have nb := F.nb
  have us := F.us
  have o1 := F.hdOk h0 h1
  have hm := F.mem k b (by rw [hc]; simp)
  have o2 := F.lkOk hm.1 hm.2.2
  have hf := F.first_cons h0 h1 hc
  have el : w64 (w64 (p.links + A.rawF k % 131072) - 1) = 4 * w + b / 8 := by rw [hf, F.links, w64_in (x := 4 * w + (b / 8 + 1)) (by omega) (by omega), w64_in (by omega) (by omega)]; omega
  have eb : w64 (w64 (A.rawF k % 131072 - 1) * 8) = b := by rw [hf, w64_in (x := b / 8 + 1 - 1) (by omega) (by omega), w64_in (by omega) (by omega)]; omega
  have t1 : w64 (A.uses + 1) = A.uses + 1 := w64_in (by omega) (by omega)
  have t2 : w64 (A.uses + 1 + 1) = A.uses + 1 + 1 := w64_in (by omega) (by omega)
  have t3 : w64 (A.uses + 1 + 1 + 1) = A.uses + 1 + 1 + 1 := w64_in (by omega) (by omega)
  have e1 := Po.s0 (A := A) (x := ⟨p, k, 0, 0, 0, 0, false⟩) rfl o1
  have n0 : ¬ A.rawF k % 131072 = 0 := by omega
  simp only [if_neg n0] at e1
  have e2 := Po.s1 (A := A.tick) (x := ⟨p, k, A.rawF k, 1, 0, 0, false⟩) rfl el o2
  have e3 := Po.s2y (A := A.tick.tick) (x := ⟨p, k, A.rawF k, 2, A.rawF (4 * w + b / 8), 0, false⟩) rfl o1 rfl
  have ef : A.tick.tick.tick.setR k.toNat (nextF (A.rawF k) (A.rawF (4 * w + b / 8))) = A.popped k (4 * w + b / 8) := by
    unfold Ar.popped Ar.setR Ar.tick
    simp only [t1, t2, t3, Ar.mk.injEq, true_and]
    omega
  have e3' : mPo.step ⟨p, k, A.rawF k, 2, A.rawF (4 * w + b / 8), 0, false⟩ A.tick.tick = (⟨p, k, A.rawF k, 3, A.rawF (4 * w + b / 8), b, true⟩, A.popped k (4 * w + b / 8)) := by
    refine Eq.trans e3 ?_
    rw [ef]
    show (Po.mk p k (A.rawF k) 3 (A.rawF (4 * w + b / 8)) (w64 (w64 (A.rawF k % 131072 - 1) * 8)) true, _) = _
    rw [eb]
  refine ⟨⟨p, k, A.rawF k, 3, A.rawF (4 * w + b / 8), b, true⟩, rfl, rfl, rfl, ?_⟩
  have r3 : mPo.Runs 1 ⟨p, k, A.rawF k, 2, A.rawF (4 * w + b / 8), 0, false⟩ A.tick.tick ⟨p, k, A.rawF k, 3, A.rawF (4 * w + b / 8), b, true⟩ (A.popped k (4 * w + b / 8)) := by
    have h := Mch.Runs.one (X := mPo) (m := ⟨p, k, A.rawF k, 2, A.rawF (4 * w + b / 8), 0, false⟩) (A := A.tick.tick) trivial
    rw [e3'] at h
    refine h ?_ rfl
    show A.uses + 3 ≤ w64 (w64 (w64 (A.uses + 1) + 1) + 1)
    rw [t1, t2, t3]; omega
  have r2 : mPo.Runs 2 ⟨p, k, A.rawF k, 1, 0, 0, false⟩ A.tick ⟨p, k, A.rawF k, 3, A.rawF (4 * w + b / 8), b, true⟩ (A.popped k (4 * w + b / 8)) := by
    have h := Mch.Runs.more (X := mPo) (n := 1) (m := ⟨p, k, A.rawF k, 1, 0, 0, false⟩) (A := A.tick) (m' := ⟨p, k, A.rawF k, 3, A.rawF (4 * w + b / 8), b, true⟩) (A' := A.popped k (4 * w + b / 8)) trivial
    have e2' : mPo.step ⟨p, k, A.rawF k, 1, 0, 0, false⟩ A.tick = _ := e2
    rw [e2'] at h
    exact h (Int.le_refl _) rfl r3
  have h := Mch.Runs.more (X := mPo) (n := 2) (m := ⟨p, k, 0, 0, 0, 0, false⟩) (A := A) (m' := ⟨p, k, A.rawF k, 3, A.rawF (4 * w + b / 8), b, true⟩) (A' := A.popped k (4 * w + b / 8)) trivial
  have e1' : mPo.step ⟨p, k, 0, 0, 0, 0, false⟩ A = _ := e1
  rw [e1'] at h
  exact h (Int.le_refl _) rfl r2
end
end Go.Proofs.Ytjleoogieoahnaa

set_option linter.unusedVariables false
set_option linter.unusedSimpArgs false
set_option maxRecDepth 20000
namespace Go.Proofs.Ytjleoogieoahnaa
open Go Go.Fw

/-! ### Machines of lists, whatever falls between their steps -/

theorem rawF_set1 {A : Ar} {i j v : Int} (hi : A.rawOk i) : (A.setR i.toNat v).rawF j = if j = i then v else A.rawF j := by
  unfold Ar.rawOk at hi
  by_cases hj : A.rawOk j
  · have hj' : (A.setR i.toNat v).rawOk j := by unfold Ar.rawOk Ar.setR at *; simpa using hj
    rw [← getD_rawF hj', ← getD_rawF hj]
    unfold Ar.rawOk at hj
    show (A.raw.set i.toNat v).getD j.toNat 0 = _
    rw [List.getD_eq_getElem?_getD, List.getElem?_set]
    by_cases e : j = i
    · rw [if_pos e, if_pos (by rw [e]), if_pos (by omega)]; rfl
    · rw [if_neg e, if_neg (by omega), List.getD_eq_getElem?_getD]
  · have hj' : ¬ (A.setR i.toNat v).rawOk j := by unfold Ar.rawOk Ar.setR at *; simpa using hj
    have e : ¬ j = i := fun e => hj (e ▸ hi)
    rw [if_neg e]; unfold Ar.rawF; rw [if_neg hj, if_neg hj']

theorem set_self {l : List Int} {i : Nat} {v : Int} (hi : i < l.length) (h : l.getD i 0 = v) : l.set i v = l := by
  rw [List.getD_eq_getElem?_getD, List.getElem?_eq_getElem hi] at h
  have h : l[i] = v := h
  rw [← h]; exact List.set_getElem_self hi

/-- Words turned, one use. -/
structure RStep (w n : Int) (A B : Ar) : Prop where
  eq : ∃ r : List Int, B = { A with raw := r, uses := A.uses + 1 } ∧ r.length = A.raw.length
  up : ∀ i, 4 * w + n ≤ i → B.rawF i = A.rawF i

/-- What the step of another one leaves; mb: the base whose link it may turn. -/
structure FEv (w n : Int) (A B : Ar) (mb : Int) : Prop where
  hd : ∀ k, 0 ≤ k → k < 4 * w → A.rawF k / 131072 ≤ B.rawF k / 131072 ∧ (A.rawF k / 131072 = B.rawF k / 131072 → B.rawF k = A.rawF k)
  lk : ∀ b, 0 ≤ b → b % 8 = 0 → b / 8 < n → b ≠ mb → B.rawF (4 * w + b / 8) = A.rawF (4 * w + b / 8)

section
variable {A B : Ar} {p : Pl} {w n k b : Int} {ch : Int → List Int}

theorem FEv.same {mb : Int} (h : ∀ i, 0 ≤ i → i < 4 * w + n → B.rawF i = A.rawF i) (wb : 0 ≤ w) (nb : 0 ≤ n) : FEv w n A B mb :=
  ⟨fun k h0 h1 => by rw [h k h0 (by omega)]; exact ⟨Int.le_refl _, fun _ => rfl⟩, fun b h0 h1 h2 _ => h _ (by omega) (by omega)⟩
theorem FEv.trans {C : Ar} {mb : Int} (h : FEv w n A B mb) (g : FEv w n B C mb) : FEv w n A C mb :=
  ⟨fun k h0 h1 => by
    obtain ⟨a1, a2⟩ := h.hd k h0 h1
    obtain ⟨b1, b2⟩ := g.hd k h0 h1
    exact ⟨by omega, fun e => by rw [b2 (by omega), a2 (by omega)]⟩, fun b h0 h1 h2 h3 => by rw [g.lk b h0 h1 h2 h3, h.lk b h0 h1 h2 h3]⟩

theorem FL.same (F : FL B p w n ch) (hr : ∀ i, A.rawF i = B.rawF i) (hl : A.raw.length = B.raw.length) (us : 0 ≤ A.uses) (hd : ∀ k, 0 ≤ k → k < 4 * w → A.rawF k / 131072 ≤ A.uses) : FL A p w n ch where
  heads := F.heads
  links := F.links
  wb := F.wb
  nb := F.nb
  len := by rw [hl]; exact F.len
  us := us
  hd k h0 h1 := ⟨by rw [hr]; exact (F.hd k h0 h1).1, hd k h0 h1⟩
  chn k h0 h1 := by
    rw [hr]
    exact chain_frame (fun i => by unfold Ar.rawOk; rw [hl]) _ _ (fun x _ => hr _) (F.chn k h0 h1)
  mem := F.mem
  nd := F.nd
  dj := F.dj
  rg := F.rg

theorem FL.tick (F : FL A p w n ch) : FL (A.later 1) p w n ch := F.congr (fun _ _ _ => rfl) rfl (by show A.uses ≤ A.uses + 1; omega)

/-- A head that was swapped. -/
theorem FL.pop1 (F : FL A p w n ch) (hu : A.uses ≤ 1000000000) {l : List Int} (hk : ch k = b :: l) :
    FL ((A.later 1).setR k.toNat (nextF (A.rawF k) (A.rawF (4 * w + b / 8)))) p w n (upd ch k l) ∧ FEv w n A ((A.later 1).setR k.toNat (nextF (A.rawF k) (A.rawF (4 * w + b / 8)))) (-1) := by
  obtain ⟨h0, h1⟩ := F.rg k (by rw [hk]; simp)
  have wb := F.wb
  have nb := F.nb
  have us := F.us
  have o1 := F.hdOk h0 h1
  have hkd := F.hd k h0 h1
  have hch := F.chn k h0 h1
  rw [hk] at hch
  have hc := chain_pop (A := A) (lk := 4 * w) (hd := k) (b := b) (l := l) (by rw [mod17]; exact hch) o1 (by omega) (fun x hx => by
    obtain ⟨a1, a2, a3⟩ := F.mem k x (by rw [hk]; exact hx)
    exact ⟨a2, a1, by omega, F.lkOk a1 a3, by omega⟩)
  have rf : ∀ j, ((A.later 1).setR k.toNat (nextF (A.rawF k) (A.rawF (4 * w + b / 8)))).rawF j = if j = k then nextF (A.rawF k) (A.rawF (4 * w + b / 8)) else A.rawF j := fun j => rawF_set1 (A := A.later 1) o1
  have nx : nextF (A.rawF k) (A.rawF (4 * w + b / 8)) = (A.rawF k / 131072 + 1) * 131072 + A.rawF (4 * w + b / 8) := nextF_eq (by omega) (by omega) hc.2.2.2.1 hc.2.2.2.2
  have b0 := hc.2.2.2.1
  have b1 := hc.2.2.2.2
  refine ⟨(F.pop hu hk).same (fun i => rawF_congr rfl i) (by show (A.raw.set _ _).length = (A.raw.set _ _).length; rw [List.length_set]) (by show 0 ≤ A.uses + 1; omega) fun j j0 j1 => ?_, fun j j0 j1 => ?_, fun c c0 c1 c2 _ => ?_⟩
  · rw [rf]
    show _ ≤ A.uses + 1
    by_cases e : j = k
    · rw [if_pos e, nx]; omega
    · rw [if_neg e]; have := F.hd j j0 j1; omega
  · rw [rf]
    by_cases e : j = k
    · rw [if_pos e, nx, e]; exact ⟨by omega, fun h => by omega⟩
    · rw [if_neg e]; exact ⟨Int.le_refl _, fun _ => rfl⟩
  · rw [rf, if_neg (by omega)]

theorem FL.push1 (F : FL A p w n ch) (hu : A.uses ≤ 1000000000) (h0 : 0 ≤ k) (h1 : k < 4 * w) (hb : 0 ≤ b ∧ b % 8 = 0 ∧ b / 8 < n) (hn : ∀ j, b ∉ ch j) (hl : A.rawF (4 * w + b / 8) = A.rawF k % 131072) :
    FL ((A.later 1).setR k.toNat (nextF (A.rawF k) (b / 8 + 1))) p w n (upd ch k (b :: ch k)) ∧ FEv w n A ((A.later 1).setR k.toNat (nextF (A.rawF k) (b / 8 + 1))) (-1) := by
  have wb := F.wb
  have nb := F.nb
  have us := F.us
  have o1 := F.hdOk h0 h1
  have o2 := F.lkOk hb.1 hb.2.2
  have hkd := F.hd k h0 h1
  have td : Int.tdiv b 8 = b / 8 := Int.tdiv_eq_ediv_of_nonneg hb.1
  have e1 : w64 (w64 (Int.tdiv b 8) + 1) = b / 8 + 1 := by rw [td, w64_in (x := b / 8) (by omega) (by omega), w64_in (by omega) (by omega)]
  have rf : ∀ j, ((A.later 1).setR k.toNat (nextF (A.rawF k) (b / 8 + 1))).rawF j = if j = k then nextF (A.rawF k) (b / 8 + 1) else A.rawF j := fun j => rawF_set1 (A := A.later 1) o1
  have nx : nextF (A.rawF k) (b / 8 + 1) = (A.rawF k / 131072 + 1) * 131072 + (b / 8 + 1) := nextF_eq (by omega) (by omega) (by omega) (by omega)
  have hraw : ((A.later 1).setR k.toNat (nextF (A.rawF k) (b / 8 + 1))).raw = (A.pushed k (4 * w + b / 8) b).raw := by
    show A.raw.set k.toNat _ = (A.raw.set (4 * w + b / 8).toNat (iand (A.rawF k) 131071)).set k.toNat (nextF (A.rawF k) (w64 (w64 (Int.tdiv b 8) + 1)))
    rw [e1, set_self (l := A.raw) (i := (4 * w + b / 8).toNat) (v := iand (A.rawF k) 131071) (by unfold Ar.rawOk at o2; omega) (by rw [getD_rawF o2, hl, mod17])]
  refine ⟨(F.push hu h0 h1 hb hn).same (fun i => rawF_congr hraw i) (by rw [hraw]) (by show 0 ≤ A.uses + 1; omega) fun j j0 j1 => ?_, fun j j0 j1 => ?_, fun c c0 c1 c2 _ => ?_⟩
  · rw [rf]
    show _ ≤ A.uses + 1
    by_cases e : j = k
    · rw [if_pos e, nx]; omega
    · rw [if_neg e]; have := F.hd j j0 j1; omega
  · rw [rf]
    by_cases e : j = k
    · rw [if_pos e, nx, e]; exact ⟨by omega, fun h => by omega⟩
    · rw [if_neg e]; exact ⟨Int.le_refl _, fun _ => rfl⟩
  · rw [rf, if_neg (by omega)]

/-- The link of a base that is in no list. -/
theorem FL.link1 (F : FL A p w n ch) (hb : 0 ≤ b ∧ b % 8 = 0 ∧ b / 8 < n) (hn : ∀ j, b ∉ ch j) (v : Int) :
    FL ((A.later 1).setR (4 * w + b / 8).toNat v) p w n ch ∧ FEv w n A ((A.later 1).setR (4 * w + b / 8).toNat v) b := by
  have wb := F.wb
  have nb := F.nb
  have us := F.us
  have o2 := F.lkOk hb.1 hb.2.2
  have rf : ∀ j, ((A.later 1).setR (4 * w + b / 8).toNat v).rawF j = if j = 4 * w + b / 8 then v else A.rawF j := fun j => rawF_set1 (A := A.later 1) o2
  refine ⟨⟨F.heads, F.links, F.wb, F.nb, by show _ ≤ ((A.raw.set _ _).length : Int); rw [List.length_set]; exact F.len, by show 0 ≤ A.uses + 1; omega, fun j j0 j1 => ?_, fun j j0 j1 => ?_, F.mem, F.nd, F.dj, F.rg⟩, fun j j0 j1 => ?_, fun c c0 c1 c2 c3 => ?_⟩
  · rw [rf, if_neg (by omega)]
    show _ ∧ _ ≤ A.uses + 1
    have := F.hd j j0 j1; omega
  · rw [rf, if_neg (by omega)]
    refine chain_frame (fun i => by unfold Ar.rawOk; show _ ∧ i < ((A.raw.set _ _).length : Int) ↔ _; rw [List.length_set]) _ _ (fun x hx => ?_) (F.chn j j0 j1)
    obtain ⟨a1, a2, a3⟩ := F.mem j x hx
    have : x ≠ b := fun e => hn j (e ▸ hx)
    rw [rf, if_neg (by omega)]
  · rw [rf, if_neg (by omega)]; exact ⟨Int.le_refl _, fun _ => rfl⟩
  · rw [rf, if_neg (by omega)]

/-- A pop under way. -/
structure PoI (p : Pl) (w n k : Int) (x : Po) (A : Ar) : Prop where
  pl : x.pl = p
  hd : x.head = k
  ok : x.ok = false
  ph : x.at' = 0 ∨ x.at' = 1 ∨ x.at' = 2
  was : x.at' ≠ 0 → 0 ≤ x.was ∧ x.was % 131072 ≠ 0 ∧ x.was % 131072 ≤ n ∧ x.was / 131072 ≤ A.rawF k / 131072 ∧ (x.was / 131072 = A.rawF k / 131072 → A.rawF k = x.was)
  link : x.at' = 2 → A.rawF k = x.was → x.link = A.rawF (4 * w + (x.was % 131072 - 1))

theorem PoI.new (hp : p.heads = 0) (wb : 0 ≤ w ∧ w ≤ 1000) {who c : Int} (h : headF p who c = k) : PoI p w n k ⟨p, headF p who c, 0, 0, 0, 0, false⟩ A := ⟨rfl, h, rfl, .inl rfl, fun h => (h rfl).elim, fun h => by cases h⟩

theorem PoI.keep {x : Po} (P : PoI p w n k x A) (F : FL A p w n ch) (h0 : 0 ≤ k) (h1 : k < 4 * w) {mb : Int} (hm : ∀ j, mb ∉ ch j) (E : FEv w n A B mb) : PoI p w n k x B := by
  obtain ⟨e1, e2⟩ := E.hd k h0 h1
  refine ⟨P.pl, P.hd, P.ok, P.ph, fun h => ?_, fun h hb => ?_⟩
  · obtain ⟨a1, a2, a3, a4, a5⟩ := P.was h
    exact ⟨a1, a2, a3, by omega, fun e => by rw [e2 (by omega)]; exact a5 (by omega)⟩
  · obtain ⟨a1, a2, a3, a4, a5⟩ := P.was (by omega)
    have t : A.rawF k / 131072 = B.rawF k / 131072 := by rw [hb] at e1 ⊢; omega
    have hA : A.rawF k = x.was := by rw [← hb]; exact (e2 t).symm
    rw [P.link h hA]
    obtain ⟨b, l, hbl⟩ : ∃ b l, ch k = b :: l := by
      cases hc : ch k with
      | nil => exact (a2 (by rw [← hA]; exact F.first_nil h0 h1 hc)).elim
      | cons b l => exact ⟨b, l, rfl⟩
    have hf := F.first_cons h0 h1 hbl
    rw [hA] at hf
    have hmem : b ∈ ch k := by rw [hbl]; simp
    obtain ⟨m1, m2, m3⟩ := F.mem k b hmem
    rw [hf, show b / 8 + 1 - 1 = b / 8 by omega]
    exact (E.lk b m1 m2 m3 fun e => hm k (e ▸ hmem)).symm

theorem rstep_later {w n : Int} {A : Ar} : RStep w n A (A.later 1) := ⟨⟨A.raw, rfl, rfl⟩, fun _ _ => rfl⟩
theorem rstep_set {i v : Int} (o : A.rawOk i) (h : i < 4 * w + n) : RStep w n A ((A.later 1).setR i.toNat v) := ⟨⟨A.raw.set i.toNat v, rfl, by rw [List.length_set]⟩, fun j hj => by rw [rawF_set1 (A := A.later 1) o, if_neg (by omega)]; rfl⟩

/-- A step of a pop: it goes on; it ends with nothing; it ends with a base. -/
theorem PoI.step {x : Po} (P : PoI p w n k x A) (F : FL A p w n ch) (hu : A.uses ≤ 1000000000) (h0 : 0 ≤ k) (h1 : k < 4 * w) :
    (x.stepB A = false ∧ x.stepA A = A.later 1 ∧ PoI p w n k (x.stepM A) (A.later 1)) ∨
    (x.stepB A = true ∧ x.stepA A = A.later 1 ∧ (x.stepM A).ok = false ∧ ch k = []) ∨
    (x.stepB A = true ∧ (x.stepM A).ok = true ∧ ∃ b l, ch k = b :: l ∧ (x.stepM A).base = b ∧ x.stepA A = (A.later 1).setR k.toNat (nextF (A.rawF k) (A.rawF (4 * w + b / 8)))) := by
  have us := F.us
  have wb := F.wb
  have nb := F.nb
  have o1 := F.hdOk h0 h1
  have hkd := F.hd k h0 h1
  have tk : A.tick = A.later 1 := tick_uses us (by omega)
  have eh := P.hd
  rcases P.ph with h | h | h
  · have s := Po.s0 (A := A) h (by rw [eh]; exact o1)
    rw [eh, tk] at s
    obtain ⟨s1, s2⟩ := Prod.mk.inj s
    have sb : x.stepB A = decide (A.rawF k % 131072 = 0) := by
      unfold Po.stepB; rw [if_neg (by omega), if_neg (by omega), if_neg (by omega), eh, mod17]
    by_cases c : A.rawF k % 131072 = 0
    · right; left
      refine ⟨by rw [sb, decide_eq_true c], s2, by rw [s1]; exact P.ok, ?_⟩
      cases hc : ch k with
      | nil => rfl
      | cons b l =>
        have := F.first_cons h0 h1 hc
        have := F.mem k b (by rw [hc]; simp)
        omega
    · left
      refine ⟨by rw [sb, decide_eq_false c], s2, ?_⟩
      rw [s1, if_neg c]
      obtain ⟨b, l, hbl⟩ : ∃ b l, ch k = b :: l := by
        cases hc : ch k with
        | nil => exact (c (F.first_nil h0 h1 hc)).elim
        | cons b l => exact ⟨b, l, rfl⟩
      have hf := F.first_cons h0 h1 hbl
      obtain ⟨m1, m2, m3⟩ := F.mem k b (by rw [hbl]; simp)
      exact ⟨P.pl, rfl, P.ok, .inr (.inl rfl), fun _ => ⟨hkd.1, c, by show A.rawF k % 131072 ≤ n; omega, Int.le_refl _, fun _ => rfl⟩, fun h => by cases h⟩
  · left
    obtain ⟨a1, a2, a3, a4, a5⟩ := P.was (by omega)
    have el : w64 (w64 (x.pl.links + x.was % 131072) - 1) = 4 * w + (x.was % 131072 - 1) := by
      rw [P.pl, F.links, w64_in (x := 4 * w + x.was % 131072) (by omega) (by omega), w64_in (by omega) (by omega)]; omega
    have o2 : A.rawOk (4 * w + (x.was % 131072 - 1)) := ⟨by omega, by have := F.len; omega⟩
    have s := Po.s1 (A := A) h el o2
    rw [tk] at s
    obtain ⟨s1, s2⟩ := Prod.mk.inj s
    refine ⟨by unfold Po.stepB; rw [if_pos h], s2, ?_⟩
    rw [s1]
    exact ⟨P.pl, P.hd, P.ok, .inr (.inr rfl), fun _ => ⟨a1, a2, a3, a4, a5⟩, fun _ _ => rfl⟩
  · obtain ⟨a1, a2, a3, a4, a5⟩ := P.was (by omega)
    have sb : x.stepB A = A.swapRb x.head x.was := by unfold Po.stepB; rw [if_neg (by omega), if_pos h]
    by_cases c : A.rawF k = x.was
    · right; right
      have s := Po.s2y (A := A) h (by rw [eh]; exact o1) (by rw [eh]; exact c)
      rw [eh, tk] at s
      obtain ⟨s1, s2⟩ := Prod.mk.inj s
      have sw : A.swapRb x.head x.was = true := by rw [eh]; exact decide_eq_true ⟨o1, by rw [getD_rawF o1]; exact c⟩
      obtain ⟨b, l, hbl⟩ : ∃ b l, ch k = b :: l := by
        cases hc : ch k with
        | nil => exact (a2 (by rw [← c]; exact F.first_nil h0 h1 hc)).elim
        | cons b l => exact ⟨b, l, rfl⟩
      have hf := F.first_cons h0 h1 hbl
      rw [c] at hf
      obtain ⟨m1, m2, m3⟩ := F.mem k b (by rw [hbl]; simp)
      refine ⟨by rw [sb, sw], by rw [s1], b, l, hbl, ?_, ?_⟩
      · rw [s1]
        show w64 (w64 (x.was % 131072 - 1) * 8) = b
        rw [hf, w64_in (x := b / 8 + 1 - 1) (by omega) (by omega), w64_in (by omega) (by omega)]; omega
      · rw [s2, P.link h c, c, hf, show b / 8 + 1 - 1 = b / 8 by omega]
    · left
      have s := Po.s2n (A := A) h (by rw [eh]; exact o1) (by rw [eh]; exact c)
      rw [tk] at s
      obtain ⟨s1, s2⟩ := Prod.mk.inj s
      have sw : A.swapRb x.head x.was = false := by rw [eh]; exact decide_eq_false fun e => c (by rw [← getD_rawF o1]; exact e.2)
      refine ⟨by rw [sb, sw], s2, ?_⟩
      rw [s1]
      exact ⟨P.pl, P.hd, P.ok, .inl rfl, fun h => (h rfl).elim, fun h => by cases h⟩

/-- A push under way. -/
structure PuI (p : Pl) (w n k b : Int) (x : Pu) (A : Ar) : Prop where
  pl : x.pl = p
  hd : x.head = k
  ba : x.base = b
  bb : 0 ≤ b ∧ b % 8 = 0 ∧ b / 8 < n
  ph : x.at' = 0 ∨ x.at' = 1 ∨ x.at' = 2
  was : x.at' ≠ 0 → 0 ≤ x.was
  link : x.at' = 2 → A.rawF (4 * w + b / 8) = x.was % 131072

theorem PuI.new {who c : Int} (h : headF p who c = k) (hb : 0 ≤ b ∧ b % 8 = 0 ∧ b / 8 < n) : PuI p w n k b ⟨p, headF p who c, 0, 0, b⟩ A := ⟨rfl, h, rfl, hb, .inl rfl, fun h => (h rfl).elim, fun h => by cases h⟩
theorem PuI.keep {x : Pu} (P : PuI p w n k b x A) {mb : Int} (hm : b ≠ mb) (E : FEv w n A B mb) : PuI p w n k b x B :=
  ⟨P.pl, P.hd, P.ba, P.bb, P.ph, P.was, fun h => by rw [E.lk b P.bb.1 P.bb.2.1 P.bb.2.2 hm]; exact P.link h⟩

theorem PuI.step {x : Pu} (P : PuI p w n k b x A) (F : FL A p w n ch) (hu : A.uses ≤ 1000000000) (h0 : 0 ≤ k) (h1 : k < 4 * w) (hn : ∀ j, b ∉ ch j) :
    (x.stepB A = false ∧ PuI p w n k b (x.stepM A) (x.stepA A) ∧ FL (x.stepA A) p w n ch ∧ FEv w n A (x.stepA A) b ∧ RStep w n A (x.stepA A)) ∨
    (x.stepB A = true ∧ FL (x.stepA A) p w n (upd ch k (b :: ch k)) ∧ FEv w n A (x.stepA A) b ∧ RStep w n A (x.stepA A)) := by
  have us := F.us
  have wb := F.wb
  have nb := F.nb
  have o1 := F.hdOk h0 h1
  have o2 := F.lkOk P.bb.1 P.bb.2.2
  have bb := P.bb
  have hkd := F.hd k h0 h1
  have tk : A.tick = A.later 1 := tick_uses us (by omega)
  have eh := P.hd
  have same : FEv w n A (A.later 1) b := FEv.same (fun _ _ _ => rfl) wb.1 nb.1
  have td : Int.tdiv b 8 = b / 8 := Int.tdiv_eq_ediv_of_nonneg bb.1
  rcases P.ph with h | h | h
  · left
    have s := Pu.s0 (A := A) h (by rw [eh]; exact o1)
    rw [eh, tk] at s
    obtain ⟨s1, s2⟩ := Prod.mk.inj s
    refine ⟨by unfold Pu.stepB; rw [if_neg (by omega), decide_eq_false (by omega)], ?_⟩
    rw [s1, s2]
    exact ⟨⟨P.pl, rfl, P.ba, bb, .inr (.inl rfl), fun _ => hkd.1, fun h => by cases h⟩, F.tick, same, rstep_later⟩
  · left
    have el : w64 (x.pl.links + w64 (Int.tdiv x.base 8)) = 4 * w + b / 8 := by
      rw [P.pl, P.ba, F.links, td, w64_in (x := b / 8) (by omega) (by omega), w64_in (by omega) (by omega)]
    have s := Pu.s1 (A := A) h el o2
    rw [tk, mod17] at s
    obtain ⟨s1, s2⟩ := Prod.mk.inj s
    obtain ⟨f1, f2⟩ := F.link1 bb hn (x.was % 131072)
    refine ⟨by unfold Pu.stepB; rw [if_neg (by omega), decide_eq_false (by omega)], ?_⟩
    rw [s1, s2]
    exact ⟨⟨P.pl, P.hd, P.ba, bb, .inr (.inr rfl), fun _ => P.was (by omega), fun _ => by rw [rawF_set1 (A := A.later 1) o2, if_pos rfl]⟩, f1, f2, rstep_set o2 (by omega)⟩
  · have sb : x.stepB A = A.swapRb x.head x.was := by unfold Pu.stepB; rw [if_pos h]
    have w0 := P.was (by omega)
    by_cases c : A.rawF k = x.was
    · right
      have s := Pu.s2y (A := A) h (by rw [eh]; exact o1) (by rw [eh]; exact c)
      rw [eh, tk, P.ba, td] at s
      obtain ⟨s1, s2⟩ := Prod.mk.inj s
      have sw : A.swapRb x.head x.was = true := by rw [eh]; exact decide_eq_true ⟨o1, by rw [getD_rawF o1]; exact c⟩
      have e1 : w64 (w64 (b / 8) + 1) = b / 8 + 1 := by rw [w64_in (x := b / 8) (by omega) (by omega), w64_in (by omega) (by omega)]
      rw [e1, ← c] at s2
      obtain ⟨f1, f2⟩ := F.push1 hu h0 h1 bb hn (by rw [c]; exact P.link h)
      refine ⟨by rw [sb, sw], ?_⟩
      rw [s2]
      exact ⟨f1, ⟨f2.hd, fun c c0 c1 c2 _ => f2.lk c c0 c1 c2 (by omega)⟩, rstep_set o1 (by omega)⟩
    · left
      have s := Pu.s2n (A := A) h (by rw [eh]; exact o1) (by rw [eh]; exact c)
      rw [tk] at s
      obtain ⟨s1, s2⟩ := Prod.mk.inj s
      have sw : A.swapRb x.head x.was = false := by rw [eh]; exact decide_eq_false fun e => c (by rw [← getD_rawF o1]; exact e.2)
      refine ⟨by rw [sb, sw], ?_⟩
      rw [s1, s2]
      exact ⟨⟨P.pl, P.hd, P.ba, bb, .inl rfl, fun h => (h rfl).elim, fun h => by cases h⟩, F.tick, same, rstep_later⟩
end
end Go.Proofs.Ytjleoogieoahnaa

set_option linter.unusedVariables false
set_option maxRecDepth 10000
namespace Go.Proofs.Ytjleoogieoahnaa
open Go Go.Fw
/- magpie/magpielaw19.FutureSteps -/
noncomputable def t_magpielaw19_FutureSteps (p0 : Int) (p1 : Int) (p2 : Int) : Tree :=
  .qcall f_magpielaw00_Place [(.int .i64 p0), (.int .i64 8)] (.one (.leaf (.int .i64))) fun x16 =>
  .qcall f_future_Raw [(.int .i64 8), (.int .i64 0)] (.one (.leaf (.int .i64))) fun x17 =>
  .call f_arena_New [(.int .i64 x17), (.int .i64 0), (.bool false)] (.one (.leaf .ptr)) fun x18 =>
  .call f_future_NewGet [(.int .i64 0), (.int .i64 x16)] (.one (.leaf .ptr)) fun x20 =>
  .call f_future_NewSet [(.int .i64 0), (.int .i64 x16), (.int .i64 p1)] (.one (.leaf .ptr)) fun x23 =>
  .call f_future_NewSet [(.int .i64 0), (.int .i64 x16), (.int .i64 p2)] (.one (.leaf .ptr)) fun x26 =>
  .call f_future_NewGet [(.int .i64 0), (.int .i64 x16)] (.one (.leaf .ptr)) fun x28 =>
  .look (opS Try.prog (.binOp .eql ty_p_arena_Arena (.tmp 0) (.const (.pointer none)) ty_p_arena_Arena) ty_bool [(.pointer x18)]) (.one (.leaf .bool)) fun x30 =>
  bif x30 then (
    .ret (.bool false))
  else (
    .look (opS Try.prog (.binOp .eql ty_p_future_Get (.tmp 0) (.const (.pointer none)) ty_p_future_Get) ty_bool [(.pointer x20)]) (.one (.leaf .bool)) fun x33 =>
    bif x33 then (
      .ret (.bool false))
    else (
      .look (opS Try.prog (.binOp .eql ty_p_future_Set (.tmp 0) (.const (.pointer none)) ty_p_future_Set) ty_bool [(.pointer x23)]) (.one (.leaf .bool)) fun x37 =>
      bif x37 then (
        .ret (.bool false))
      else (
        .look (opS Try.prog (.binOp .eql ty_p_future_Set (.tmp 0) (.const (.pointer none)) ty_p_future_Set) ty_bool [(.pointer x26)]) (.one (.leaf .bool)) fun x41 =>
        bif x41 then (
          .ret (.bool false))
        else (
          .look (opS Try.prog (.binOp .eql ty_p_future_Get (.tmp 0) (.const (.pointer none)) ty_p_future_Get) ty_bool [(.pointer x28)]) (.one (.leaf .bool)) fun x45 =>
          bif x45 then (
            .ret (.bool false))
          else (
            .call f_magpielaw19_run [(.pointer x18), (.iface ty_p_future_Get (.pointer x20))] (.one (.leaf .bool)) fun x51 =>
            bif (!x51) then (
              .ret (.bool false))
            else (
              .call f_arena_Arena_Uses [(.pointer x18)] (.one (.leaf (.int .i64))) fun x56 =>
              bif ((x56 : Int) != 1) then (
                .ret (.bool false))
              else (
                .call f_magpielaw19_run [(.pointer x18), (.iface ty_p_future_Set (.pointer x23))] (.one (.leaf .bool)) fun x63 =>
                bif (!x63) then (
                  .ret (.bool false))
                else (
                  .call f_arena_Arena_Uses [(.pointer x18)] (.one (.leaf (.int .i64))) fun x68 =>
                  bif ((x68 : Int) != 4) then (
                    .ret (.bool false))
                  else (
                    .call f_magpielaw19_run [(.pointer x18), (.iface ty_p_future_Set (.pointer x26))] (.one (.leaf .bool)) fun x75 =>
                    bif (!x75) then (
                      .ret (.bool false))
                    else (
                      .call f_arena_Arena_Uses [(.pointer x18)] (.one (.leaf (.int .i64))) fun x80 =>
                      bif ((x80 : Int) != 5) then (
                        .ret (.bool false))
                      else (
                        .call f_magpielaw19_run [(.pointer x18), (.iface ty_p_future_Get (.pointer x28))] (.one (.leaf .bool)) fun x87 =>
                        bif (!x87) then (
                          .ret (.bool false))
                        else (
                          .call f_arena_Arena_Uses [(.pointer x18)] (.one (.leaf (.int .i64))) fun x92 =>
                          bif ((x92 : Int) != 7) then (
                            .ret (.bool false))
                          else (
                            .call f_future_Get_Value [(.pointer x28)] (.tup [(.leaf (.int .i64)), (.leaf .bool)]) fun x97 =>
                            .call f_future_Set_Went [(.pointer x23)] (.one (.leaf .bool)) fun x101 =>
                            bif x101 then (
                              .call f_future_Set_Went [(.pointer x26)] (.one (.leaf .bool)) fun x104 =>
                              bif (!x104) then (
                                bif x97.2.1 then (
                                  bif ((x97.1 : Int) == p1) then (
                                    .qcall f_future_Word [(.int .i64 0), (.int .i64 x16), (.int .i64 0)] (.one (.leaf (.int .i64))) fun x118 =>
                                    .call f_arena_Arena_Raw [(.pointer x18), (.int .i64 x118)] (.one (.leaf (.int .i64))) fun x119 =>
                                    bif ((x119 : Int) == 2) then (
                                      .qcall f_future_Word [(.int .i64 0), (.int .i64 x16), (.int .i64 1)] (.one (.leaf (.int .i64))) fun x125 =>
                                      .call f_arena_Arena_Raw [(.pointer x18), (.int .i64 x125)] (.one (.leaf (.int .i64))) fun x126 =>
                                      bif ((x126 : Int) == p1) then (
                                        .call f_magpielaw19_awake [] (.one (.leaf .bool)) fun x131 =>
                                        .ret (.bool x131))
                                      else (
                                        .ret (.bool false)))
                                    else (
                                      .ret (.bool false)))
                                  else (
                                    .ret (.bool false)))
                                else (
                                  .ret (.bool false)))
                              else (
                                .ret (.bool false)))
                            else (
                              .ret (.bool false)))))))))))))))
theorem t_magpielaw19_FutureSteps_eq (p0 : Int) (p1 : Int) (p2 : Int) : funcTree Try.prog { quiet := [10, 23, 25, 26, 30, 37, 42, 45, 47, 54, 73], quietTmp := true, fncs := [], ifcs := [] } Try.f5 [(.int .i64 p0), (.int .i64 p1), (.int .i64 p2)] = t_magpielaw19_FutureSteps p0 p1 p2 := by kernel_rfl
theorem t_magpielaw19_FutureSteps_spec {p0 : Int} {p1 : Int} {p2 : Int} {H : Heap} {R : Value → Heap → Prop} (h : ∀ L, wp Try.prog (t_magpielaw19_FutureSteps p0 p1 p2) L H R) : SpecF Try.prog f_magpielaw19_FutureSteps #[(.int .i64 p0), (.int .i64 p1), (.int .i64 p2)] H R :=
  spec_of_tree (cfg := { quiet := [10, 23, 25, 26, 30, 37, 42, 45, 47, 54, 73], quietTmp := true, fncs := [], ifcs := [] }) Try.func5 fun L => (t_magpielaw19_FutureSteps_eq p0 p1 p2).symm ▸ h L

/- magpie/magpielaw19.FutureMany -/
noncomputable def t_magpielaw19_FutureMany_J8 (x29 : Option Addr) : Tree :=
  .call f_arena_Arena_Fault [(.pointer x29)] (.one (.leaf .bool)) fun x134 =>
  bif (!x134) then (
    .call f_magpielaw19_awake [] (.one (.leaf .bool)) fun x137 =>
    .ret (.bool x137))
  else (
    .ret (.bool false))

@[reducible] def t_magpielaw19_FutureMany_L1_sh : List Sh1 := [(.leaf .bool), (.leaf (.int .i64))]
noncomputable def t_magpielaw19_FutureMany_L1 (p2 : Sl) (x20 : Int) (x23 : Int) (x29 : Option Addr) (x10 : Addr) (x11 : Addr) (y1 : HL Sh1.T t_magpielaw19_FutureMany_L1_sh) : Tree :=
  bif (decide ((y1.2.1 : Int) < ((p2.len : Nat) : Int))) then (
    bif (decide ((y1.2.1 : Int) < 60)) then (
      .look (opS Try.prog (.indexAddr ty_s_int (.tmp 0) (.tmp 1)) ty_unit [(.slice p2.a p2.len p2.cap), (.int .i64 y1.2.1)]) (.one (.leaf .addr)) fun x64 =>
      .ld x64 (.int .i64) fun x65 =>
      .qcall f_magpielaw00_Place [(.int .i64 x65), (.int .i64 1048576)] (.one (.leaf (.int .i64))) fun x66 =>
      .look (opS Try.prog (.binOp .rem ty_int (.tmp 0) (.tmp 1) ty_int) ty_int [(.int .i64 (w64 (Int.tdiv x66 2))), (.int .i64 (w64 (1 + x20)))]) (.one (.leaf (.int .i64))) fun x70 =>
      bif (((Int.tmod x66 2) : Int) == 0) then (
        .call f_future_NewSet [(.int .i64 x23), (.int .i64 x70), (.int .i64 x66)] (.one (.leaf .ptr)) fun x77 =>
        .look (opS Try.prog (.binOp .eql ty_p_future_Set (.tmp 0) (.const (.pointer none)) ty_p_future_Set) ty_bool [(.pointer x77)]) (.one (.leaf .bool)) fun x79 =>
        bif x79 then (
          .ret (.bool false))
        else (
          .call f_magpielaw19_run [(.pointer x29), (.iface ty_p_future_Set (.pointer x77))] (.one (.leaf .bool)) fun x84 =>
          bif (!x84) then (
            .ret (.bool false))
          else (
            .look (opS Try.prog (.indexAddr ty_a16_bool (.tmp 0) (.tmp 1)) ty_unit [(.pointer (some x10)), (.int .i64 x70)]) (.one (.leaf .addr)) fun x91 =>
            .ld x91 .bool fun x92 =>
            .call f_future_Set_Went [(.pointer x77)] (.one (.leaf .bool)) fun x89 =>
            .check (ldS x91) (.bool x92) <|
            .check (opS Try.prog (.indexAddr ty_a16_bool (.tmp 0) (.tmp 1)) ty_unit [(.pointer (some x10)), (.int .i64 x70)]) (.pointer (some x91)) <|
            bif (x89 == x92) then (
              .ret (.bool false))
            else (
              .look (opS Try.prog (.indexAddr ty_a16_bool (.tmp 0) (.tmp 1)) ty_unit [(.pointer (some x10)), (.int .i64 x70)]) (.one (.leaf .addr)) fun x96 =>
              .ld x96 .bool fun x97 =>
              bif (!x97) then (
                .look (opS Try.prog (.indexAddr ty_a16_bool (.tmp 0) (.tmp 1)) ty_unit [(.pointer (some x10)), (.int .i64 x70)]) (.one (.leaf .addr)) fun x102 =>
                .st x102 (.bool true) <|
                .look (opS Try.prog (.indexAddr ty_a16_int (.tmp 0) (.tmp 1)) ty_unit [(.pointer (some x11)), (.int .i64 x70)]) (.one (.leaf .addr)) fun x103 =>
                .st x103 (.int .i64 x66) <|
                .again 512 [(.bool y1.1), (.int .i64 (w64 (y1.2.1 + 1)))])
              else (
                .again 512 [(.bool y1.1), (.int .i64 (w64 (y1.2.1 + 1)))])))))
      else (
        .call f_future_NewGet [(.int .i64 x23), (.int .i64 x70)] (.one (.leaf .ptr)) fun x106 =>
        .look (opS Try.prog (.binOp .eql ty_p_future_Get (.tmp 0) (.const (.pointer none)) ty_p_future_Get) ty_bool [(.pointer x106)]) (.one (.leaf .bool)) fun x108 =>
        bif x108 then (
          .ret (.bool false))
        else (
          .call f_magpielaw19_run [(.pointer x29), (.iface ty_p_future_Get (.pointer x106))] (.one (.leaf .bool)) fun x113 =>
          bif (!x113) then (
            .ret (.bool false))
          else (
            .call f_future_Get_Value [(.pointer x106)] (.tup [(.leaf (.int .i64)), (.leaf .bool)]) fun x118 =>
            .look (opS Try.prog (.indexAddr ty_a16_bool (.tmp 0) (.tmp 1)) ty_unit [(.pointer (some x10)), (.int .i64 x70)]) (.one (.leaf .addr)) fun x123 =>
            .ld x123 .bool fun x124 =>
            bif (!(x118.2.1 == x124)) then (
              .ret (.bool false))
            else (
              .look (opS Try.prog (.indexAddr ty_a16_int (.tmp 0) (.tmp 1)) ty_unit [(.pointer (some x11)), (.int .i64 x70)]) (.one (.leaf .addr)) fun x129 =>
              .ld x129 (.int .i64) fun x130 =>
              bif ((x118.1 : Int) != x130) then (
                .ret (.bool false))
              else (
                .again 512 [(.bool y1.1), (.int .i64 (w64 (y1.2.1 + 1)))]))))))
    else (
      t_magpielaw19_FutureMany_J8 x29))
  else (
    t_magpielaw19_FutureMany_J8 x29)
noncomputable def t_magpielaw19_FutureMany (p0 : Int) (p1 : Int) (p2 : Sl) : Tree :=
  .qcall f_magpielaw00_Place [(.int .i64 p0), (.int .i64 16)] (.one (.leaf (.int .i64))) fun x20 =>
  .qcall f_magpielaw00_Place [(.int .i64 p1), (.int .i64 50)] (.one (.leaf (.int .i64))) fun x23 =>
  .qcall f_future_Raw [(.int .i64 (w64 (1 + x20))), (.int .i64 x23)] (.one (.leaf (.int .i64))) fun x27 =>
  .call f_arena_New [(.int .i64 (w64 (x23 + x27))), (.int .i64 0), (.bool false)] (.one (.leaf .ptr)) fun x29 =>
  .look (opS Try.prog (.binOp .eql ty_p_arena_Arena (.tmp 0) (.const (.pointer none)) ty_p_arena_Arena) ty_bool [(.pointer x29)]) (.one (.leaf .bool)) fun x31 =>
  bif x31 then (
    .ret (.bool false))
  else (
    .qcall f_future_Raw [(.int .i64 (w64 (1 + x20))), (.int .i64 x23)] (.one (.leaf (.int .i64))) fun x35 =>
    bif ((x35 : Int) != (w64 (2 * (w64 (1 + x20))))) then (
      .ret (.bool false))
    else (
      .qcall f_future_Word [(.int .i64 x23), (.int .i64 (w64 ((w64 (1 + x20)) - 1))), (.int .i64 1)] (.one (.leaf (.int .i64))) fun x44 =>
      bif ((x44 : Int) != (w64 ((w64 (x23 + (w64 (2 * (w64 (1 + x20)))))) - 1))) then (
        .ret (.bool false))
      else (
        .newP (.cells #[(.bool false), (.bool false), (.bool false), (.bool false), (.bool false), (.bool false), (.bool false), (.bool false), (.bool false), (.bool false), (.bool false), (.bool false), (.bool false), (.bool false), (.bool false), (.bool false)] ty_a16_bool) fun x10 =>
        .newP (.cells #[(.int .i64 0), (.int .i64 0), (.int .i64 0), (.int .i64 0), (.int .i64 0), (.int .i64 0), (.int .i64 0), (.int .i64 0), (.int .i64 0), (.int .i64 0), (.int .i64 0), (.int .i64 0), (.int .i64 0), (.int .i64 0), (.int .i64 0), (.int .i64 0)] ty_a16_int) fun x11 =>
        .loop 512 t_magpielaw19_FutureMany_L1_sh [(.bool false), (.int .i64 0)] (t_magpielaw19_FutureMany_L1 p2 x20 x23 x29 x10 x11))))
theorem t_magpielaw19_FutureMany_eq (p0 : Int) (p1 : Int) (p2 : Sl) : funcTree Try.prog { quiet := [10, 23, 25, 26, 30, 37, 42, 45, 47, 54, 73], quietTmp := true, fncs := [], ifcs := [] } Try.f7 [(.int .i64 p0), (.int .i64 p1), (.slice p2.a p2.len p2.cap)] = t_magpielaw19_FutureMany p0 p1 p2 := by kernel_rfl
theorem t_magpielaw19_FutureMany_spec {p0 : Int} {p1 : Int} {p2 : Sl} {H : Heap} {R : Value → Heap → Prop} (h : ∀ L, wp Try.prog (t_magpielaw19_FutureMany p0 p1 p2) L H R) : SpecF Try.prog f_magpielaw19_FutureMany #[(.int .i64 p0), (.int .i64 p1), (.slice p2.a p2.len p2.cap)] H R :=
  spec_of_tree (cfg := { quiet := [10, 23, 25, 26, 30, 37, 42, 45, 47, 54, 73], quietTmp := true, fncs := [], ifcs := [] }) Try.func7 fun L => (t_magpielaw19_FutureMany_eq p0 p1 p2).symm ▸ h L

/- magpie/magpielaw19.FutureOnce -/
noncomputable def t_magpielaw19_FutureOnce_J5 (y2 : HL Sh1.T [(.leaf .bool), (.leaf (.int .i64)), (.leaf .bool), (.leaf (.int .i64))]) (x83 : Int) (x150 : Int) : Tree :=
  bif (decide ((x150 : Int) > (w64 (x83 + 1)))) then (
    .ret (.bool false))
  else (
    .again 1088 [(.bool y2.1), (.int .i64 y2.2.1), (.bool y2.2.2.1), (.int .i64 (w64 (y2.2.2.2.1 + 1)))])

noncomputable def t_magpielaw19_FutureOnce_J8 (y2 : HL Sh1.T [(.leaf .bool), (.leaf (.int .i64)), (.leaf .bool), (.leaf (.int .i64))]) (x83 : Int) (x150 : Int) : Tree :=
  bif (decide ((x150 : Int) > (w64 (x83 + 1)))) then (
    .ret (.bool false))
  else (
    .again 1088 [(.bool y2.1), (.int .i64 y2.2.1), (.bool true), (.int .i64 (w64 (y2.2.2.2.1 + 1)))])

noncomputable def t_magpielaw19_FutureOnce_J13 (x4 : Addr) (x29 : Option Addr) (x10 : Addr) (y2 : HL Sh1.T [(.leaf .bool), (.leaf (.int .i64)), (.leaf .bool), (.leaf (.int .i64))]) (x79 : Int) (x83 : Int) : Tree :=
  bif (decide ((x79 : Int) ≥ 4)) then (
    .look (opS Try.prog (.indexAddr ty_a4_p_future_Get (.tmp 0) (.tmp 1)) ty_unit [(.pointer (some x10)), (.int .i64 (Int.tmod x79 4))]) (.one (.leaf .addr)) fun x124 =>
    .ld x124 .ptr fun x125 =>
    .call f_future_Get_Step [(.pointer x125), (.pointer x29)] (.one (.leaf .bool)) fun x127 =>
    bif x127 then (
      .look (opS Try.prog (.indexAddr ty_a4_p_future_Get (.tmp 0) (.tmp 1)) ty_unit [(.pointer (some x10)), (.int .i64 (Int.tmod x79 4))]) (.one (.leaf .addr)) fun x130 =>
      .ld x130 .ptr fun x131 =>
      .call f_future_Get_Value [(.pointer x131)] (.tup [(.leaf (.int .i64)), (.leaf .bool)]) fun x132 =>
      bif x132.2.1 then (
        bif (decide ((y2.2.1 : Int) < 0)) then (
          .ret (.bool false))
        else (
          .look (opS Try.prog (.call { callee := .value (.tmp 0), args := #[(.tmp 1)], argTypes := #[ty_int] }) ty_int [(.func (.func f_magpielaw19_FutureOnce_1) #[] #[(.pointer (some x4))]), (.int .i64 y2.2.1)]) (.one (.leaf (.int .i64))) fun x142 =>
          bif ((x132.1 : Int) != x142) then (
            .ret (.bool false))
          else (
            .look (opS Try.prog (.indexAddr ty_a4_p_future_Get (.tmp 0) (.tmp 1)) ty_unit [(.pointer (some x10)), (.int .i64 (Int.tmod x79 4))]) (.one (.leaf .addr)) fun x148 =>
            .st x148 (.pointer none) <|
            .call f_arena_Arena_Uses [(.pointer x29)] (.one (.leaf (.int .i64))) fun x150 =>
            t_magpielaw19_FutureOnce_J8 y2 x83 x150)))
      else (
        bif ((x132.1 : Int) != 0) then (
          .ret (.bool false))
        else (
          .look (opS Try.prog (.indexAddr ty_a4_p_future_Get (.tmp 0) (.tmp 1)) ty_unit [(.pointer (some x10)), (.int .i64 (Int.tmod x79 4))]) (.one (.leaf .addr)) fun x148 =>
          .st x148 (.pointer none) <|
          .call f_arena_Arena_Uses [(.pointer x29)] (.one (.leaf (.int .i64))) fun x150 =>
          t_magpielaw19_FutureOnce_J5 y2 x83 x150)))
    else (
      .call f_arena_Arena_Uses [(.pointer x29)] (.one (.leaf (.int .i64))) fun x150 =>
      t_magpielaw19_FutureOnce_J5 y2 x83 x150))
  else (
    .call f_arena_Arena_Uses [(.pointer x29)] (.one (.leaf (.int .i64))) fun x150 =>
    t_magpielaw19_FutureOnce_J5 y2 x83 x150)

noncomputable def t_magpielaw19_FutureOnce_J14 (x4 : Addr) (x26 : Int) (x29 : Option Addr) (x10 : Addr) (y2 : HL Sh1.T [(.leaf .bool), (.leaf (.int .i64)), (.leaf .bool), (.leaf (.int .i64))]) (x79 : Int) (x83 : Int) (x114 : Bool) : Tree :=
  bif x114 then (
    .call f_future_NewGet [(.int .i64 5), (.int .i64 x26)] (.one (.leaf .ptr)) fun x118 =>
    .look (opS Try.prog (.indexAddr ty_a4_p_future_Get (.tmp 0) (.tmp 1)) ty_unit [(.pointer (some x10)), (.int .i64 (Int.tmod x79 4))]) (.one (.leaf .addr)) fun x119 =>
    .st x119 (.pointer x118) <|
    .call f_arena_Arena_Uses [(.pointer x29)] (.one (.leaf (.int .i64))) fun x150 =>
    t_magpielaw19_FutureOnce_J5 y2 x83 x150)
  else (
    t_magpielaw19_FutureOnce_J13 x4 x29 x10 y2 x79 x83)

noncomputable def t_magpielaw19_FutureOnce_J26 (x4 : Addr) (x29 : Option Addr) (x10 : Addr) (y2 : HL Sh1.T [(.leaf .bool), (.leaf (.int .i64)), (.leaf .bool), (.leaf (.int .i64))]) (x83 : Int) : Tree :=
  bif (decide (((Int.tmod y2.2.2.2.1 8) : Int) ≥ 4)) then (
    .look (opS Try.prog (.indexAddr ty_a4_p_future_Get (.tmp 0) (.tmp 1)) ty_unit [(.pointer (some x10)), (.int .i64 (Int.tmod (Int.tmod y2.2.2.2.1 8) 4))]) (.one (.leaf .addr)) fun x124 =>
    .ld x124 .ptr fun x125 =>
    .call f_future_Get_Step [(.pointer x125), (.pointer x29)] (.one (.leaf .bool)) fun x127 =>
    bif x127 then (
      .look (opS Try.prog (.indexAddr ty_a4_p_future_Get (.tmp 0) (.tmp 1)) ty_unit [(.pointer (some x10)), (.int .i64 (Int.tmod (Int.tmod y2.2.2.2.1 8) 4))]) (.one (.leaf .addr)) fun x130 =>
      .ld x130 .ptr fun x131 =>
      .call f_future_Get_Value [(.pointer x131)] (.tup [(.leaf (.int .i64)), (.leaf .bool)]) fun x132 =>
      bif x132.2.1 then (
        bif (decide ((y2.2.1 : Int) < 0)) then (
          .ret (.bool false))
        else (
          .look (opS Try.prog (.call { callee := .value (.tmp 0), args := #[(.tmp 1)], argTypes := #[ty_int] }) ty_int [(.func (.func f_magpielaw19_FutureOnce_1) #[] #[(.pointer (some x4))]), (.int .i64 y2.2.1)]) (.one (.leaf (.int .i64))) fun x142 =>
          bif ((x132.1 : Int) != x142) then (
            .ret (.bool false))
          else (
            .look (opS Try.prog (.indexAddr ty_a4_p_future_Get (.tmp 0) (.tmp 1)) ty_unit [(.pointer (some x10)), (.int .i64 (Int.tmod (Int.tmod y2.2.2.2.1 8) 4))]) (.one (.leaf .addr)) fun x148 =>
            .st x148 (.pointer none) <|
            .call f_arena_Arena_Uses [(.pointer x29)] (.one (.leaf (.int .i64))) fun x150 =>
            t_magpielaw19_FutureOnce_J8 y2 x83 x150)))
      else (
        bif ((x132.1 : Int) != 0) then (
          .ret (.bool false))
        else (
          .look (opS Try.prog (.indexAddr ty_a4_p_future_Get (.tmp 0) (.tmp 1)) ty_unit [(.pointer (some x10)), (.int .i64 (Int.tmod (Int.tmod y2.2.2.2.1 8) 4))]) (.one (.leaf .addr)) fun x148 =>
          .st x148 (.pointer none) <|
          .call f_arena_Arena_Uses [(.pointer x29)] (.one (.leaf (.int .i64))) fun x150 =>
          t_magpielaw19_FutureOnce_J5 y2 x83 x150)))
    else (
      .call f_arena_Arena_Uses [(.pointer x29)] (.one (.leaf (.int .i64))) fun x150 =>
      t_magpielaw19_FutureOnce_J5 y2 x83 x150))
  else (
    .call f_arena_Arena_Uses [(.pointer x29)] (.one (.leaf (.int .i64))) fun x150 =>
    t_magpielaw19_FutureOnce_J5 y2 x83 x150)

noncomputable def t_magpielaw19_FutureOnce_J27 (x4 : Addr) (x26 : Int) (x29 : Option Addr) (x10 : Addr) (y2 : HL Sh1.T [(.leaf .bool), (.leaf (.int .i64)), (.leaf .bool), (.leaf (.int .i64))]) (x83 : Int) (x114 : Bool) : Tree :=
  bif x114 then (
    .call f_future_NewGet [(.int .i64 5), (.int .i64 x26)] (.one (.leaf .ptr)) fun x118 =>
    .look (opS Try.prog (.indexAddr ty_a4_p_future_Get (.tmp 0) (.tmp 1)) ty_unit [(.pointer (some x10)), (.int .i64 (Int.tmod (Int.tmod y2.2.2.2.1 8) 4))]) (.one (.leaf .addr)) fun x119 =>
    .st x119 (.pointer x118) <|
    .call f_arena_Arena_Uses [(.pointer x29)] (.one (.leaf (.int .i64))) fun x150 =>
    t_magpielaw19_FutureOnce_J5 y2 x83 x150)
  else (
    t_magpielaw19_FutureOnce_J26 x4 x29 x10 y2 x83)

noncomputable def t_magpielaw19_FutureOnce_J34 (x4 : Addr) (x29 : Option Addr) (y2 : HL Sh1.T [(.leaf .bool), (.leaf (.int .i64)), (.leaf .bool), (.leaf (.int .i64))]) (x155 : Option Addr) : Tree :=
  .look (opS Try.prog (.binOp .eql ty_p_future_Get (.tmp 0) (.const (.pointer none)) ty_p_future_Get) ty_bool [(.pointer x155)]) (.one (.leaf .bool)) fun x157 =>
  bif x157 then (
    .ret (.bool false))
  else (
    .call f_magpielaw19_run [(.pointer x29), (.iface ty_p_future_Get (.pointer x155))] (.one (.leaf .bool)) fun x162 =>
    bif (!x162) then (
      .ret (.bool false))
    else (
      .call f_future_Get_Value [(.pointer x155)] (.tup [(.leaf (.int .i64)), (.leaf .bool)]) fun x167 =>
      bif x167.2.1 then (
        bif (decide ((y2.2.1 : Int) ≥ 0)) then (
          .look (opS Try.prog (.call { callee := .value (.tmp 0), args := #[(.tmp 1)], argTypes := #[ty_int] }) ty_int [(.func (.func f_magpielaw19_FutureOnce_1) #[] #[(.pointer (some x4))]), (.int .i64 y2.2.1)]) (.one (.leaf (.int .i64))) fun x179 =>
          bif ((x167.1 : Int) == x179) then (
            .call f_arena_Arena_Fault [(.pointer x29)] (.one (.leaf .bool)) fun x184 =>
            bif (!x184) then (
              bif (!y2.2.2.1) then (
                .call f_magpielaw19_awake [] (.one (.leaf .bool)) fun x196 =>
                .ret (.bool x196))
              else (
                bif (decide ((y2.2.1 : Int) ≥ 0)) then (
                  .call f_magpielaw19_awake [] (.one (.leaf .bool)) fun x196 =>
                  .ret (.bool x196))
                else (
                  .ret (.bool false))))
            else (
              .ret (.bool false)))
          else (
            .ret (.bool false)))
        else (
          .ret (.bool false)))
      else (
        .ret (.bool false))))

@[reducible] def t_magpielaw19_FutureOnce_L2_sh : List Sh1 := [(.leaf .bool), (.leaf (.int .i64)), (.leaf .bool), (.leaf (.int .i64))]
noncomputable def t_magpielaw19_FutureOnce_L2 (p2 : Sl) (x4 : Addr) (x26 : Int) (x29 : Option Addr) (x9 : Addr) (x10 : Addr) (x15 : Addr) (y2 : HL Sh1.T t_magpielaw19_FutureOnce_L2_sh) : Tree :=
  bif (decide ((y2.2.2.2.1 : Int) < (w64 (((p2.len : Nat) : Int) + 40)))) then (
    bif (decide ((y2.2.2.2.1 : Int) < 300)) then (
      bif (decide ((y2.2.2.2.1 : Int) < ((p2.len : Nat) : Int))) then (
        .look (opS Try.prog (.indexAddr ty_s_int (.tmp 0) (.tmp 1)) ty_unit [(.slice p2.a p2.len p2.cap), (.int .i64 y2.2.2.2.1)]) (.one (.leaf .addr)) fun x77 =>
        .ld x77 (.int .i64) fun x78 =>
        .qcall f_magpielaw00_Place [(.int .i64 x78), (.int .i64 8)] (.one (.leaf (.int .i64))) fun x79 =>
        .call f_arena_Arena_Uses [(.pointer x29)] (.one (.leaf (.int .i64))) fun x83 =>
        bif (decide ((x79 : Int) < 4)) then (
          .look (opS Try.prog (.indexAddr ty_a4_bool (.tmp 0) (.tmp 1)) ty_unit [(.pointer (some x15)), (.int .i64 (Int.tmod x79 4))]) (.one (.leaf .addr)) fun x89 =>
          .ld x89 .bool fun x90 =>
          bif (!x90) then (
            .look (opS Try.prog (.indexAddr ty_a4_p_future_Set (.tmp 0) (.tmp 1)) ty_unit [(.pointer (some x9)), (.int .i64 (Int.tmod x79 4))]) (.one (.leaf .addr)) fun x94 =>
            .ld x94 .ptr fun x95 =>
            .call f_future_Set_Step [(.pointer x95), (.pointer x29)] (.one (.leaf .bool)) fun x97 =>
            bif x97 then (
              .look (opS Try.prog (.indexAddr ty_a4_bool (.tmp 0) (.tmp 1)) ty_unit [(.pointer (some x15)), (.int .i64 (Int.tmod x79 4))]) (.one (.leaf .addr)) fun x99 =>
              .st x99 (.bool true) <|
              .look (opS Try.prog (.indexAddr ty_a4_p_future_Set (.tmp 0) (.tmp 1)) ty_unit [(.pointer (some x9)), (.int .i64 (Int.tmod x79 4))]) (.one (.leaf .addr)) fun x101 =>
              .ld x101 .ptr fun x102 =>
              .call f_future_Set_Went [(.pointer x102)] (.one (.leaf .bool)) fun x103 =>
              bif x103 then (
                bif (decide ((y2.2.1 : Int) ≥ 0)) then (
                  .ret (.bool false))
                else (
                  .call f_arena_Arena_Uses [(.pointer x29)] (.one (.leaf (.int .i64))) fun x150 =>
                  bif (decide ((x150 : Int) > (w64 (x83 + 1)))) then (
                    .ret (.bool false))
                  else (
                    .again 1088 [(.bool y2.1), (.int .i64 (Int.tmod x79 4)), (.bool y2.2.2.1), (.int .i64 (w64 (y2.2.2.2.1 + 1)))])))
              else (
                .call f_arena_Arena_Uses [(.pointer x29)] (.one (.leaf (.int .i64))) fun x150 =>
                t_magpielaw19_FutureOnce_J5 y2 x83 x150))
            else (
              .call f_arena_Arena_Uses [(.pointer x29)] (.one (.leaf (.int .i64))) fun x150 =>
              t_magpielaw19_FutureOnce_J5 y2 x83 x150))
          else (
            bif (decide ((x79 : Int) ≥ 4)) then (
              .look (opS Try.prog (.indexAddr ty_a4_p_future_Get (.tmp 0) (.tmp 1)) ty_unit [(.pointer (some x10)), (.int .i64 (Int.tmod x79 4))]) (.one (.leaf .addr)) fun x112 =>
              .ld x112 .ptr fun x113 =>
              .look (opS Try.prog (.binOp .eql ty_p_future_Get (.tmp 0) (.const (.pointer none)) ty_p_future_Get) ty_bool [(.pointer x113)]) (.one (.leaf .bool)) fun x114 =>
              t_magpielaw19_FutureOnce_J14 x4 x26 x29 x10 y2 x79 x83 x114)
            else (
              t_magpielaw19_FutureOnce_J13 x4 x29 x10 y2 x79 x83)))
        else (
          bif (decide ((x79 : Int) ≥ 4)) then (
            .look (opS Try.prog (.indexAddr ty_a4_p_future_Get (.tmp 0) (.tmp 1)) ty_unit [(.pointer (some x10)), (.int .i64 (Int.tmod x79 4))]) (.one (.leaf .addr)) fun x112 =>
            .ld x112 .ptr fun x113 =>
            .look (opS Try.prog (.binOp .eql ty_p_future_Get (.tmp 0) (.const (.pointer none)) ty_p_future_Get) ty_bool [(.pointer x113)]) (.one (.leaf .bool)) fun x114 =>
            t_magpielaw19_FutureOnce_J14 x4 x26 x29 x10 y2 x79 x83 x114)
          else (
            t_magpielaw19_FutureOnce_J13 x4 x29 x10 y2 x79 x83)))
      else (
        .call f_arena_Arena_Uses [(.pointer x29)] (.one (.leaf (.int .i64))) fun x83 =>
        bif (decide (((Int.tmod y2.2.2.2.1 8) : Int) < 4)) then (
          .look (opS Try.prog (.indexAddr ty_a4_bool (.tmp 0) (.tmp 1)) ty_unit [(.pointer (some x15)), (.int .i64 (Int.tmod (Int.tmod y2.2.2.2.1 8) 4))]) (.one (.leaf .addr)) fun x89 =>
          .ld x89 .bool fun x90 =>
          bif (!x90) then (
            .look (opS Try.prog (.indexAddr ty_a4_p_future_Set (.tmp 0) (.tmp 1)) ty_unit [(.pointer (some x9)), (.int .i64 (Int.tmod (Int.tmod y2.2.2.2.1 8) 4))]) (.one (.leaf .addr)) fun x94 =>
            .ld x94 .ptr fun x95 =>
            .call f_future_Set_Step [(.pointer x95), (.pointer x29)] (.one (.leaf .bool)) fun x97 =>
            bif x97 then (
              .look (opS Try.prog (.indexAddr ty_a4_bool (.tmp 0) (.tmp 1)) ty_unit [(.pointer (some x15)), (.int .i64 (Int.tmod (Int.tmod y2.2.2.2.1 8) 4))]) (.one (.leaf .addr)) fun x99 =>
              .st x99 (.bool true) <|
              .look (opS Try.prog (.indexAddr ty_a4_p_future_Set (.tmp 0) (.tmp 1)) ty_unit [(.pointer (some x9)), (.int .i64 (Int.tmod (Int.tmod y2.2.2.2.1 8) 4))]) (.one (.leaf .addr)) fun x101 =>
              .ld x101 .ptr fun x102 =>
              .call f_future_Set_Went [(.pointer x102)] (.one (.leaf .bool)) fun x103 =>
              bif x103 then (
                bif (decide ((y2.2.1 : Int) ≥ 0)) then (
                  .ret (.bool false))
                else (
                  .call f_arena_Arena_Uses [(.pointer x29)] (.one (.leaf (.int .i64))) fun x150 =>
                  bif (decide ((x150 : Int) > (w64 (x83 + 1)))) then (
                    .ret (.bool false))
                  else (
                    .again 1088 [(.bool y2.1), (.int .i64 (Int.tmod (Int.tmod y2.2.2.2.1 8) 4)), (.bool y2.2.2.1), (.int .i64 (w64 (y2.2.2.2.1 + 1)))])))
              else (
                .call f_arena_Arena_Uses [(.pointer x29)] (.one (.leaf (.int .i64))) fun x150 =>
                t_magpielaw19_FutureOnce_J5 y2 x83 x150))
            else (
              .call f_arena_Arena_Uses [(.pointer x29)] (.one (.leaf (.int .i64))) fun x150 =>
              t_magpielaw19_FutureOnce_J5 y2 x83 x150))
          else (
            bif (decide (((Int.tmod y2.2.2.2.1 8) : Int) ≥ 4)) then (
              .look (opS Try.prog (.indexAddr ty_a4_p_future_Get (.tmp 0) (.tmp 1)) ty_unit [(.pointer (some x10)), (.int .i64 (Int.tmod (Int.tmod y2.2.2.2.1 8) 4))]) (.one (.leaf .addr)) fun x112 =>
              .ld x112 .ptr fun x113 =>
              .look (opS Try.prog (.binOp .eql ty_p_future_Get (.tmp 0) (.const (.pointer none)) ty_p_future_Get) ty_bool [(.pointer x113)]) (.one (.leaf .bool)) fun x114 =>
              t_magpielaw19_FutureOnce_J27 x4 x26 x29 x10 y2 x83 x114)
            else (
              t_magpielaw19_FutureOnce_J26 x4 x29 x10 y2 x83)))
        else (
          bif (decide (((Int.tmod y2.2.2.2.1 8) : Int) ≥ 4)) then (
            .look (opS Try.prog (.indexAddr ty_a4_p_future_Get (.tmp 0) (.tmp 1)) ty_unit [(.pointer (some x10)), (.int .i64 (Int.tmod (Int.tmod y2.2.2.2.1 8) 4))]) (.one (.leaf .addr)) fun x112 =>
            .ld x112 .ptr fun x113 =>
            .look (opS Try.prog (.binOp .eql ty_p_future_Get (.tmp 0) (.const (.pointer none)) ty_p_future_Get) ty_bool [(.pointer x113)]) (.one (.leaf .bool)) fun x114 =>
            t_magpielaw19_FutureOnce_J27 x4 x26 x29 x10 y2 x83 x114)
          else (
            t_magpielaw19_FutureOnce_J26 x4 x29 x10 y2 x83))))
    else (
      .call f_future_NewGet [(.int .i64 5), (.int .i64 x26)] (.one (.leaf .ptr)) fun x155 =>
      t_magpielaw19_FutureOnce_J34 x4 x29 y2 x155))
  else (
    .call f_future_NewGet [(.int .i64 5), (.int .i64 x26)] (.one (.leaf .ptr)) fun x155 =>
    t_magpielaw19_FutureOnce_J34 x4 x29 y2 x155)

@[reducible] def t_magpielaw19_FutureOnce_L1_sh : List Sh1 := [(.leaf .bool), (.leaf (.int .i64))]
noncomputable def t_magpielaw19_FutureOnce_L1 (p2 : Sl) (x4 : Addr) (x26 : Int) (x29 : Option Addr) (x9 : Addr) (x10 : Addr) (y1 : HL Sh1.T t_magpielaw19_FutureOnce_L1_sh) : Tree :=
  bif (decide ((y1.2.1 : Int) < 4)) then (
    .look (opS Try.prog (.call { callee := .value (.tmp 0), args := #[(.tmp 1)], argTypes := #[ty_int] }) ty_int [(.func (.func f_magpielaw19_FutureOnce_1) #[] #[(.pointer (some x4))]), (.int .i64 y1.2.1)]) (.one (.leaf (.int .i64))) fun x51 =>
    .call f_future_NewSet [(.int .i64 5), (.int .i64 x26), (.int .i64 x51)] (.one (.leaf .ptr)) fun x52 =>
    .look (opS Try.prog (.indexAddr ty_a4_p_future_Set (.tmp 0) (.tmp 1)) ty_unit [(.pointer (some x9)), (.int .i64 y1.2.1)]) (.one (.leaf .addr)) fun x53 =>
    .st x53 (.pointer x52) <|
    .look (opS Try.prog (.indexAddr ty_a4_p_future_Set (.tmp 0) (.tmp 1)) ty_unit [(.pointer (some x9)), (.int .i64 y1.2.1)]) (.one (.leaf .addr)) fun x55 =>
    .ld x55 .ptr fun x56 =>
    .look (opS Try.prog (.binOp .eql ty_p_future_Set (.tmp 0) (.const (.pointer none)) ty_p_future_Set) ty_bool [(.pointer x56)]) (.one (.leaf .bool)) fun x57 =>
    bif x57 then (
      .ret (.bool false))
    else (
      .again 640 [(.bool y1.1), (.int .i64 (w64 (y1.2.1 + 1)))]))
  else (
    .newP (.cells #[(.bool false), (.bool false), (.bool false), (.bool false)] ty_a4_bool) fun x15 =>
    .loop 1088 t_magpielaw19_FutureOnce_L2_sh [(.bool y1.1), (.int .i64 (-1)), (.bool false), (.int .i64 0)] (t_magpielaw19_FutureOnce_L2 p2 x4 x26 x29 x9 x10 x15))
noncomputable def t_magpielaw19_FutureOnce (p0 : Int) (p1 : Sl) (p2 : Sl) : Tree :=
  .newP (.cells #[(.slice p1.a p1.len p1.cap)] ty_s_int) fun x4 =>
  .qcall f_magpielaw00_Place [(.int .i64 p0), (.int .i64 4)] (.one (.leaf (.int .i64))) fun x26 =>
  .qcall f_future_Raw [(.int .i64 4), (.int .i64 5)] (.one (.leaf (.int .i64))) fun x27 =>
  .call f_arena_New [(.int .i64 (w64 (x27 + 5))), (.int .i64 0), (.bool false)] (.one (.leaf .ptr)) fun x29 =>
  .look (opS Try.prog (.binOp .eql ty_p_arena_Arena (.tmp 0) (.const (.pointer none)) ty_p_arena_Arena) ty_bool [(.pointer x29)]) (.one (.leaf .bool)) fun x31 =>
  bif x31 then (
    .look (opS Try.prog (.binOp .neq ty_p_arena_Arena (.tmp 0) (.const (.pointer none)) ty_p_arena_Arena) ty_bool [(.pointer x29)]) (.one (.leaf .bool)) fun x38 =>
    bif x38 then (
      .call f_magpielaw19_awake [] (.one (.leaf .bool)) fun x40 =>
      .ret (.bool x40))
    else (
      .ret (.bool false)))
  else (
    bif (decide ((((p2.len : Nat) : Int) : Int) > 200)) then (
      .look (opS Try.prog (.binOp .neq ty_p_arena_Arena (.tmp 0) (.const (.pointer none)) ty_p_arena_Arena) ty_bool [(.pointer x29)]) (.one (.leaf .bool)) fun x38 =>
      bif x38 then (
        .call f_magpielaw19_awake [] (.one (.leaf .bool)) fun x40 =>
        .ret (.bool x40))
      else (
        .ret (.bool false)))
    else (
      .newP (.cells #[(.pointer none), (.pointer none), (.pointer none), (.pointer none)] ty_a4_p_future_Set) fun x9 =>
      .newP (.cells #[(.pointer none), (.pointer none), (.pointer none), (.pointer none)] ty_a4_p_future_Get) fun x10 =>
      .loop 640 t_magpielaw19_FutureOnce_L1_sh [(.bool false), (.int .i64 0)] (t_magpielaw19_FutureOnce_L1 p2 x4 x26 x29 x9 x10)))
theorem t_magpielaw19_FutureOnce_eq (p0 : Int) (p1 : Sl) (p2 : Sl) : funcTree Try.prog { quiet := [10, 23, 25, 26, 30, 37, 42, 45, 47, 54, 73], quietTmp := true, fncs := [], ifcs := [] } Try.f6 [(.int .i64 p0), (.slice p1.a p1.len p1.cap), (.slice p2.a p2.len p2.cap)] = t_magpielaw19_FutureOnce p0 p1 p2 := by kernel_rfl
theorem t_magpielaw19_FutureOnce_spec {p0 : Int} {p1 : Sl} {p2 : Sl} {H : Heap} {R : Value → Heap → Prop} (h : ∀ L, wp Try.prog (t_magpielaw19_FutureOnce p0 p1 p2) L H R) : SpecF Try.prog f_magpielaw19_FutureOnce #[(.int .i64 p0), (.slice p1.a p1.len p1.cap), (.slice p2.a p2.len p2.cap)] H R :=
  spec_of_tree (cfg := { quiet := [10, 23, 25, 26, 30, 37, 42, 45, 47, 54, 73], quietTmp := true, fncs := [], ifcs := [] }) Try.func6 fun L => (t_magpielaw19_FutureOnce_eq p0 p1 p2).symm ▸ h L

/- magpie/magpielaw19.FutureOnce$1 -/
noncomputable def t_magpielaw19_FutureOnce_1 (p0 : Int) (c0 : Addr) : Tree :=
  .ld c0 .slice fun x5 =>
  bif (decide ((p0 : Int) < ((x5.len : Nat) : Int))) then (
    .ld c0 .slice fun x8 =>
    .look (opS Try.prog (.indexAddr ty_s_int (.tmp 0) (.tmp 1)) ty_unit [(.slice x8.a x8.len x8.cap), (.int .i64 p0)]) (.one (.leaf .addr)) fun x10 =>
    .ld x10 (.int .i64) fun x11 =>
    .ret (.int .i64 x11))
  else (
    .ret (.int .i64 (w64 (10 + p0))))
theorem t_magpielaw19_FutureOnce_1_eq (p0 : Int) (c0 : Addr) : funcTree Try.prog { quiet := [10, 23, 25, 26, 30, 37, 42, 45, 47, 54, 73], quietTmp := true, fncs := [], ifcs := [] } Try.f39 [(.int .i64 p0), (.pointer (some c0))] = t_magpielaw19_FutureOnce_1 p0 c0 := by kernel_rfl
theorem t_magpielaw19_FutureOnce_1_spec {p0 : Int} {c0 : Addr} {H : Heap} {R : Value → Heap → Prop} (h : ∀ L, wp Try.prog (t_magpielaw19_FutureOnce_1 p0 c0) L H R) : SpecF Try.prog f_magpielaw19_FutureOnce_1 #[(.int .i64 p0), (.pointer (some c0))] H R :=
  spec_of_tree (cfg := { quiet := [10, 23, 25, 26, 30, 37, 42, 45, 47, 54, 73], quietTmp := true, fncs := [], ifcs := [] }) Try.func39 fun L => (t_magpielaw19_FutureOnce_1_eq p0 c0).symm ▸ h L

end Go.Proofs.Ytjleoogieoahnaa

set_option linter.unusedVariables false
set_option linter.unusedSimpArgs false
set_option maxRecDepth 20000
namespace Go.Proofs.Ytjleoogieoahnaa
open Go Go.Fw

section
variable {A : Ar} {L : Hands} {R : Value → Heap → Prop} {H : Heap} {I : List Nat} {l : Bl}

/-- So many uses later, words turned. -/
structure Fu (A B : Ar) (k : Int) (g : Int → Int) : Prop where
  us : B.uses = A.uses + k
  fa : B.fault = A.fault
  rl : B.raw.length = A.raw.length
  rf : ∀ j, B.rawF j = g j
theorem store_yes {i v : Int} (o : A.rawOk i) (u0 : 0 ≤ A.uses) (u1 : A.uses ≤ 1000000) : A.storeR i v = (A.later 1).setR i.toNat v := by
  unfold Ar.storeR; rw [if_pos o, tick_uses u0 (by omega)]
theorem fswap_yes {i v w : Int} (o : A.rawOk i) (u0 : 0 ≤ A.uses) (u1 : A.uses ≤ 1000000) (h : A.rawF i = v) : A.swapRb i v = true ∧ A.swapR i v w = (A.later 1).setR i.toNat w := by
  have h' : A.raw.getD i.toNat 0 = v := by rw [getD_rawF o]; exact h
  refine ⟨decide_eq_true ⟨o, h'⟩, ?_⟩
  unfold Ar.swapR; rw [if_pos o, if_pos h', tick_uses u0 (by omega)]
theorem fswap_no {i v w : Int} (o : A.rawOk i) (u0 : 0 ≤ A.uses) (u1 : A.uses ≤ 1000000) (h : A.rawF i ≠ v) : A.swapRb i v = false ∧ A.swapR i v w = A.later 1 := by
  have h' : A.raw.getD i.toNat 0 ≠ v := by rw [getD_rawF o]; exact h
  refine ⟨decide_eq_false fun e => h' e.2, ?_⟩
  unfold Ar.swapR; rw [if_pos o, if_neg h', tick_uses u0 (by omega)]
theorem touch_yes2 {i : Int} (o : A.rawOk i) (u0 : 0 ≤ A.uses) (u1 : A.uses ≤ 1000000) : A.touchR i = A.later 1 := by rw [touchR_yes o, tick_uses u0 (by omega)]

theorem setR_ok {i j v : Int} : (A.setR i.toNat v).rawOk j ↔ A.rawOk j := by unfold Ar.rawOk Ar.setR; simp

/-- A set that goes. -/
theorem set_goes {a b v : Int} (oa : A.rawOk a) (ob : A.rawOk b) (hab : a ≠ b) (u0 : 0 ≤ A.uses) (u1 : A.uses ≤ 100000) (h : A.rawF a = 0) :
    ∃ B, mSt.Runs 3 ⟨a, b, v, 0, false⟩ A ⟨a, b, v, 3, true⟩ B ∧ Fu A B 3 fun j => if j = a then 2 else if j = b then v else A.rawF j := by
  obtain ⟨s1, s2⟩ := fswap_yes (w := 1) oa u0 (by omega) h
  have e1 : mSt.step ⟨a, b, v, 0, false⟩ A = (⟨a, b, v, 1, false⟩, (A.later 1).setR a.toNat 1) := by
    rw [show mSt.step = Ft.setS from rfl]
    unfold Ft.setS
    dsimp only
    rw [if_pos rfl, s1, s2]; rfl
  have f1 : ∀ j, ((A.later 1).setR a.toNat 1).rawF j = if j = a then 1 else A.rawF j := fun j => rawF_set1 (A := A.later 1) oa
  generalize hA1 : (A.later 1).setR a.toNat 1 = A1 at *
  have u1' : A1.uses = A.uses + 1 := by rw [← hA1]; rfl
  have l1 : A1.raw.length = A.raw.length := by rw [← hA1]; show (A.raw.set _ _).length = _; rw [List.length_set]
  have fa1 : A1.fault = A.fault := by rw [← hA1]; rfl
  have ok1 : ∀ j, A1.rawOk j ↔ A.rawOk j := fun j => by unfold Ar.rawOk; rw [l1]
  have e2 : mSt.step ⟨a, b, v, 1, false⟩ A1 = (⟨a, b, v, 2, false⟩, (A1.later 1).setR b.toNat v) := by
    rw [show mSt.step = Ft.setS from rfl]
    unfold Ft.setS
    dsimp only
    rw [if_neg (by decide), if_pos rfl, store_yes ((ok1 b).2 ob) (by omega) (by omega)]
  have f2 : ∀ j, ((A1.later 1).setR b.toNat v).rawF j = if j = b then v else A1.rawF j := fun j => rawF_set1 (A := A1.later 1) ((ok1 b).2 ob)
  generalize hA2 : (A1.later 1).setR b.toNat v = A2 at *
  have u2' : A2.uses = A1.uses + 1 := by rw [← hA2]; rfl
  have l2 : A2.raw.length = A1.raw.length := by rw [← hA2]; show (A1.raw.set _ _).length = _; rw [List.length_set]
  have fa2 : A2.fault = A1.fault := by rw [← hA2]; rfl
  have ok2 : ∀ j, A2.rawOk j ↔ A.rawOk j := fun j => by unfold Ar.rawOk; rw [l2, l1]
  have e3 : mSt.step ⟨a, b, v, 2, false⟩ A2 = (⟨a, b, v, 3, true⟩, (A2.later 1).setR a.toNat 2) := by
    rw [show mSt.step = Ft.setS from rfl]
    unfold Ft.setS
    dsimp only
    rw [if_neg (by decide), if_neg (by decide), if_pos rfl, store_yes ((ok2 a).2 oa) (by omega) (by omega)]
  have f3 : ∀ j, ((A2.later 1).setR a.toNat 2).rawF j = if j = a then 2 else A2.rawF j := fun j => rawF_set1 (A := A2.later 1) ((ok2 a).2 oa)
  refine ⟨(A2.later 1).setR a.toNat 2, ?_, ⟨by show A2.uses + 1 = _; omega, by show A2.fault = _; rw [fa2, fa1], by show (A2.raw.set _ _).length = _; rw [List.length_set, l2, l1], fun j => ?_⟩⟩
  · refine .more trivial (by rw [e1]; show A1.uses ≤ w64 (A.uses + 1); rw [w64_in (by omega) (by omega)]; omega) (by rw [e1]; rfl) ?_
    rw [e1]
    refine .more trivial (by rw [e2]; show A2.uses ≤ w64 (A1.uses + 1); rw [w64_in (by omega) (by omega)]; omega) (by rw [e2]; rfl) ?_
    rw [e2]
    have := Mch.Runs.one (X := mSt) (m := ⟨a, b, v, 2, false⟩) (A := A2) trivial (by rw [e3]; show A2.uses + 1 ≤ w64 (A2.uses + 1); rw [w64_in (by omega) (by omega)]; omega) (by rw [e3]; rfl)
    rw [e3] at this
    exact this
  · rw [f3, f2, f1]
    show _ = if j = a then 2 else if j = b then v else A.rawF j
    by_cases c1 : j = a
    · simp [c1]
    · by_cases c2 : j = b
      · simp [c1, c2]
      · simp [c1, c2]
/-- One that does not. -/
theorem set_no {a b v : Int} (oa : A.rawOk a) (u0 : 0 ≤ A.uses) (u1 : A.uses ≤ 100000) (h : A.rawF a ≠ 0) : mSt.Runs 1 ⟨a, b, v, 0, false⟩ A ⟨a, b, v, 3, false⟩ (A.later 1) := by
  obtain ⟨s1, s2⟩ := fswap_no (w := 1) oa u0 (by omega) h
  have e1 : mSt.step ⟨a, b, v, 0, false⟩ A = (⟨a, b, v, 3, false⟩, A.later 1) := by
    rw [show mSt.step = Ft.setS from rfl]
    unfold Ft.setS
    dsimp only
    rw [if_pos rfl, s1, s2]; rfl
  have := Mch.Runs.one (X := mSt) (m := ⟨a, b, v, 0, false⟩) (A := A) trivial (by rw [e1]; show A.uses + 1 ≤ w64 (A.uses + 1); rw [w64_in (by omega) (by omega)]; omega) (by rw [e1]; rfl)
  rw [e1] at this
  exact this
theorem get_some {a b : Int} (oa : A.rawOk a) (ob : A.rawOk b) (u0 : 0 ≤ A.uses) (u1 : A.uses ≤ 100000) (h : A.rawF a = 2) : mGt.Runs 2 ⟨a, b, 0, 0, false⟩ A ⟨a, b, A.rawF b, 3, true⟩ (A.later 2) := by
  have e1 : mGt.step ⟨a, b, 0, 0, false⟩ A = (⟨a, b, 0, 1, false⟩, A.later 1) := by
    rw [show mGt.step = Ft.getS from rfl]
    unfold Ft.getS
    dsimp only
    rw [if_pos rfl, if_pos h, touch_yes2 oa u0 (by omega)]
  have e2 : mGt.step ⟨a, b, 0, 1, false⟩ (A.later 1) = (⟨a, b, A.rawF b, 3, true⟩, A.later 2) := by
    rw [show mGt.step = Ft.getS from rfl]
    unfold Ft.getS
    dsimp only
    rw [if_neg (by decide), if_pos rfl, touch_yes2 (A := A.later 1) ob (by show 0 ≤ A.uses + 1; omega) (by show A.uses + 1 ≤ _; omega)]
    have : (A.later 1).later 1 = A.later 2 := by unfold Ar.later; dsimp only; rw [Int.add_assoc]; rfl
    rw [this]; rfl
  refine .more trivial (by rw [e1]; show A.uses + 1 ≤ w64 (A.uses + 1); rw [w64_in (by omega) (by omega)]; omega) (by rw [e1]; rfl) ?_
  rw [e1]
  have := Mch.Runs.one (X := mGt) (m := ⟨a, b, 0, 1, false⟩) (A := A.later 1) trivial (by rw [e2]; show A.uses + 2 ≤ w64 (A.uses + 1 + 1); rw [w64_in (by omega) (by omega)]; omega) (by rw [e2]; rfl)
  rw [e2] at this
  exact this
theorem get_none {a b : Int} (oa : A.rawOk a) (u0 : 0 ≤ A.uses) (u1 : A.uses ≤ 100000) (h : A.rawF a ≠ 2) : mGt.Runs 1 ⟨a, b, 0, 0, false⟩ A ⟨a, b, 0, 3, false⟩ (A.later 1) := by
  have e1 : mGt.step ⟨a, b, 0, 0, false⟩ A = (⟨a, b, 0, 3, false⟩, A.later 1) := by
    rw [show mGt.step = Ft.getS from rfl]
    unfold Ft.getS
    dsimp only
    rw [if_pos rfl, if_neg h, touch_yes2 oa u0 (by omega)]
  have := Mch.Runs.one (X := mGt) (m := ⟨a, b, 0, 0, false⟩) (A := A) trivial (by rw [e1]; show A.uses + 1 ≤ w64 (A.uses + 1); rw [w64_in (by omega) (by omega)]; omega) (by rw [e1]; rfl)
  rw [e1] at this
  exact this

theorem eqG (a : Addr) : opS Try.prog (.binOp .eql ty_p_future_Get (.tmp 0) (.const (.pointer none)) ty_p_future_Get) ty_bool [(.pointer (some a))] = .pure (.value (.bool false)) := by kernel_rfl
theorem eqSt (a : Addr) : opS Try.prog (.binOp .eql ty_p_future_Set (.tmp 0) (.const (.pointer none)) ty_p_future_Set) ty_bool [(.pointer (some a))] = .pure (.value (.bool false)) := by kernel_rfl
theorem eqAr (a : Addr) : opS Try.prog (.binOp .eql ty_p_arena_Arena (.tmp 0) (.const (.pointer none)) ty_p_arena_Arena) ty_bool [(.pointer (some a))] = .pure (.value (.bool false)) := by kernel_rfl

theorem made0 {A : Ar} {n m : Nat} {f : Bool} (hm : A.made n m f) : (∀ i, A.rawF i = 0) ∧ A.raw.length = n := by
  refine ⟨fun i => ?_, by rw [hm.raw, List.length_replicate]⟩
  unfold Ar.rawF
  split
  · rw [hm.raw, List.getD_eq_getElem?_getD, List.getElem?_replicate]; split <;> rfl
  · rfl

set_option maxHeartbeats 1000000 in
theorem awake19_det (H : Heap) : Det Try.prog f_magpielaw19_awake [] H (.bool true) H := by
  refine t_magpielaw19_awake_spec fun L => ?_
  unfold t_magpielaw19_awake
  refine wq_FRaw (by decide) ?_
  have ok0 : Ok0 H (keys []) := ⟨.nil, fun b h => (by cases h)⟩
  refine w_New (l := []) (n := 7) (m := 0) (f := false) ok0 (by decide) (by decide) fun A hm hA hI ok => ?_
  refine w_NewGet hA ok fun g ok => ?_
  refine w_NewSet hA ok fun s ok => ?_
  refine w_NewGet hA ok fun h ok => ?_
  refine look_val (x := false) (eqAr _) (wp_false rfl ?_)
  refine look_val (x := false) (eqG _) (wp_false rfl ?_)
  refine look_val (x := false) (eqSt _) (wp_false rfl ?_)
  refine look_val (x := false) (eqG _) (wp_false rfl ?_)
  obtain ⟨r0, rl⟩ := made0 hm
  have u0 := hm.uses
  have f0 : fw 3 1 0 = 5 := by decide
  have f1 : fw 3 1 1 = 6 := by decide
  have nf : ∀ v, newFt 3 1 v = ⟨5, 6, v, 0, false⟩ := fun v => by unfold newFt; rw [f0, f1]
  rw [nf, nf] at ok ⊢
  have o5 : A.rawOk 5 := ⟨by decide, by rw [rl]; decide⟩
  have o6 : A.rawOk 6 := ⟨by decide, by rw [rl]; decide⟩
  -- a get that tells nothing
  have e1 : mGt.step ⟨5, 6, 0, 0, false⟩ A = (⟨5, 6, 0, 3, false⟩, A.later 1) := by
    rw [show mGt.step = Ft.getS from rfl]
    unfold Ft.getS
    dsimp only
    rw [if_pos rfl, if_neg (by rw [r0]; decide), touch_yes2 o5 (by omega) (by omega)]
  obtain ⟨p1, ok1⟩ := own_perm (A := A) (l' := [(g, oc ty_future_Get (Ft.mk 5 6 0 0 false).cells)] ++ [(h, oc ty_future_Get (Ft.mk 5 6 0 0 false).cells), (s, oc ty_future_Set (Ft.mk 5 6 (-9) 0 false).cells)]) ok (perm_by fun c d c0 cd ca => by simp only [cd, ca, c0, List.cons_append, List.nil_append]; omega)
  rw [p1]
  have ok2 : Ok A.ids H (keys [(g, oc ty_future_Get (Ft.mk 5 6 0 0 false).cells)] ++ keys [(h, oc ty_future_Get (Ft.mk 5 6 0 0 false).cells), (s, oc ty_future_Set (Ft.mk 5 6 (-9) 0 false).cells)]) := ok1
  obtain ⟨o1, o2⟩ := ok2.split
  refine w_sub (mGt_ok A.ids A _ ⟨5, 6, 0, 0, false⟩ g hA o1 trivial) ?_
  rintro v K ⟨j', rfl, rfl, ej, o3, hA1⟩
  rw [e1] at o3 hA1 ⊢
  have ej : j' = g := ej
  subst ej
  refine ⟨true, rfl, wp_false rfl ?_⟩
  rw [← own_append]
  have hA1 : Aw A.ids (A.later 1) := hA1
  have ok3 : Ok A.ids H (keys ([(j', oc ty_future_Get (Ft.mk 5 6 0 3 false).cells)] ++ [(h, oc ty_future_Get (Ft.mk 5 6 0 0 false).cells), (s, oc ty_future_Set (Ft.mk 5 6 (-9) 0 false).cells)])) := by rw [keys_append]; exact o3.join o2
  obtain ⟨p4, ok4⟩ := own_perm (A := A.later 1) (l' := [(s, oc ty_future_Set (Ft.mk 5 6 (-9) 0 false).cells)] ++ [(h, oc ty_future_Get (Ft.mk 5 6 0 0 false).cells), (j', oc ty_future_Get (Ft.mk 5 6 0 3 false).cells)]) ok3 (perm_by fun c d c0 cd ca => by simp only [cd, ca, c0, List.cons_append, List.nil_append]; omega)
  show wp Try.prog _ L (own (A.later 1) ([(j', oc ty_future_Get (Ft.mk 5 6 0 3 false).cells)] ++ [(h, oc ty_future_Get (Ft.mk 5 6 0 0 false).cells), (s, oc ty_future_Set (Ft.mk 5 6 (-9) 0 false).cells)]) H) _
  rw [p4]
  obtain ⟨B, run, F⟩ := set_goes (A := A.later 1) (a := 5) (b := 6) (v := -9) o5 o6 (by decide) (by show 0 ≤ A.uses + 1; omega) (by show A.uses + 1 ≤ _; omega) (r0 5)
  refine w_run19 mSt_ok mSt_inv run (by decide) (j := s) hA1 ok4 fun j5 ha hB ok5 => ?_
  have ha : j5 = s := ha
  subst ha
  refine wp_false rfl ?_
  have u1 : (A.later 1).uses = A.uses + 1 := rfl
  have fus := F.us
  have frl := F.rl
  have rl1 : (A.later 1).raw.length = A.raw.length := rfl
  have ok5 : Ok A.ids H (keys ([(j5, oc ty_future_Set (Ft.mk 5 6 (-9) 3 true).cells)] ++ [(h, oc ty_future_Get (Ft.mk 5 6 0 0 false).cells), (j', oc ty_future_Get (Ft.mk 5 6 0 3 false).cells)])) := ok5
  show wp Try.prog _ L (own B ([(j5, oc ty_future_Set (Ft.mk 5 6 (-9) 3 true).cells)] ++ [(h, oc ty_future_Get (Ft.mk 5 6 0 0 false).cells), (j', oc ty_future_Get (Ft.mk 5 6 0 3 false).cells)]) H) _
  obtain ⟨p6, ok6⟩ := own_perm (A := B) (l' := [(h, oc ty_future_Get (Ft.mk 5 6 0 0 false).cells)] ++ [(j5, oc ty_future_Set (Ft.mk 5 6 (-9) 3 true).cells), (j', oc ty_future_Get (Ft.mk 5 6 0 3 false).cells)]) ok5 (perm_by fun c d c0 cd ca => by simp only [cd, ca, c0, List.cons_append, List.nil_append]; omega)
  rw [p6]
  have g5 : B.rawF 5 = 2 := by rw [F.rf]; rfl
  have g6 : B.rawF 6 = -9 := by rw [F.rf]; rfl
  have run2 := get_some (A := B) (a := 5) (b := 6) ⟨by decide, by rw [frl, rl1, rl]; decide⟩ ⟨by decide, by rw [frl, rl1, rl]; decide⟩ (by omega) (by omega) g5
  rw [g6] at run2
  refine w_run19 mGt_ok mGt_inv run2 (by decide) (j := h) hB ok6 fun j7 ha hC ok7 => ?_
  have ha : j7 = h := ha
  subst ha
  refine wp_false rfl ?_
  have ok7 : Ok A.ids H (keys [(j7, oc ty_future_Get (Ft.mk 5 6 (-9) 3 true).cells), (j5, oc ty_future_Set (Ft.mk 5 6 (-9) 3 true).cells), (j', oc ty_future_Get (Ft.mk 5 6 0 3 false).cells)]) := ok7
  show wp Try.prog _ L (own (B.later 2) [(j7, oc ty_future_Get (Ft.mk 5 6 (-9) 3 true).cells), (j5, oc ty_future_Set (Ft.mk 5 6 (-9) 3 true).cells), (j', oc ty_future_Get (Ft.mk 5 6 0 3 false).cells)] H) _
  refine w_Value (x := ⟨5, 6, 0, 3, false⟩) hC ok7 (by simp) ?_
  refine w_Value (x := ⟨5, 6, -9, 3, true⟩) hC ok7 (by simp) ?_
  refine wp_true rfl ?_
  refine w_Went (x := ⟨5, 6, -9, 3, true⟩) hC ok7 (by simp) ?_
  refine wp_true rfl (wp_true rfl (wp_true rfl ?_))
  refine w_Uses hC ?_
  refine ⟨H, own_end hC ok7 hI, ?_, rfl⟩
  show Value.bool (B.uses + 2 == 6) = _
  rw [fus, u1, u0]; rfl
end
end Go.Proofs.Ytjleoogieoahnaa

