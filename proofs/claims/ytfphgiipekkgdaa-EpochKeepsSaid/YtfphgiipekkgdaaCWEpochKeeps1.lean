/- Texts of this claim, one behind the other. -/
import Derived.Test.YtfphgiipekkgdaaCWEpochKeeps0
set_option linter.unusedSimpArgs false
set_option linter.unusedVariables false
set_option linter.unusedVariables false
set_option linter.unusedSimpArgs false
set_option maxRecDepth 20000
namespace Go.Proofs.Ytfphgiipekkgdaa
open Go Go.Fw

/-! ### epoch.Turn -/

def eL : Enc (Int × Int) := ⟨2, fun x => [.int .i64 x.1, .int .i64 x.2], fun _ => rfl, fun x v h => by simp at h; rcases h with rfl | rfl <;> rfl⟩
theorem elL : ElOk ty_s_epoch_Limbo ty_epoch_Limbo 2 := ⟨⟨_, _, rfl, rfl, rfl, by decide, by decide, rfl, rfl⟩⟩

theorem eL_drop (rest : List Value) : ∀ (xs : List (Int × Int)) (n : Nat), n < xs.length → ∃ t, (eL.all xs ++ rest).drop (n * 2) = .int .i64 (xs.getD n (0, 0)).1 :: .int .i64 (xs.getD n (0, 0)).2 :: t
  | [], n, h => by simp at h
  | x :: xs, 0, _ => ⟨eL.all xs ++ rest, rfl⟩
  | x :: xs, n + 1, h => by
    obtain ⟨t, ht⟩ := eL_drop rest xs n (by simpa using h)
    refine ⟨t, ?_⟩
    rw [show (n + 1) * 2 = n * 2 + 2 by omega]
    show (eL.all xs ++ rest).drop (n * 2) = _
    rw [ht]; rfl

structure Tn where
  tw : Int
  ta : Int
  pl : Pl
  work : Int
  e : Int
  word : Int
  l : List (Int × Int)
  frees : List Fe
  left : List (Int × Int)
  ph : Nat
structure TnJ where
  q : Nat
  ls : Sl
  fs : Sl
  ds : Sl
  fj : List Tri
  tls : Bl
  tfs : Bl
  tds : Bl

def tnNext (q : Nat) : Nat → Value
  | 0 => .func (.func f_epoch_Turn_global) #[.pointer (some ⟨q, 0, none⟩)] #[]
  | 1 => .func (.func f_epoch_Turn_look) #[.pointer (some ⟨q, 0, none⟩)] #[]
  | 2 => .func (.func f_epoch_Turn_swap) #[.pointer (some ⟨q, 0, none⟩)] #[]
  | 3 => .func (.func f_epoch_Turn_free) #[.pointer (some ⟨q, 0, none⟩)] #[]
  | _ => .nilFunc
theorem tcall0 (x y : Value) : opS Try.prog (.call { callee := .value (.tmp 0), args := #[(.tmp 1)], argTypes := #[ty_p_arena_Arena] }) ty_unit [.func (.func f_epoch_Turn_global) #[x] #[], y] = .pure (.enter f_epoch_Turn_global [x, y].toArray) := by kernel_rfl
theorem tcall1 (x y : Value) : opS Try.prog (.call { callee := .value (.tmp 0), args := #[(.tmp 1)], argTypes := #[ty_p_arena_Arena] }) ty_unit [.func (.func f_epoch_Turn_look) #[x] #[], y] = .pure (.enter f_epoch_Turn_look [x, y].toArray) := by kernel_rfl
theorem tcall2 (x y : Value) : opS Try.prog (.call { callee := .value (.tmp 0), args := #[(.tmp 1)], argTypes := #[ty_p_arena_Arena] }) ty_unit [.func (.func f_epoch_Turn_swap) #[x] #[], y] = .pure (.enter f_epoch_Turn_swap [x, y].toArray) := by kernel_rfl
theorem tcall3 (x y : Value) : opS Try.prog (.call { callee := .value (.tmp 0), args := #[(.tmp 1)], argTypes := #[ty_p_arena_Arena] }) ty_unit [.func (.func f_epoch_Turn_free) #[x] #[], y] = .pure (.enter f_epoch_Turn_free [x, y].toArray) := by kernel_rfl

def tnC (tw ta : Int) (p : Pl) (work e word : Int) (ls fs ds : Sl) (nx : Value) : List Value :=
  [.int .i64 tw, .int .i64 ta, .int .i64 p.work, .int .i64 p.heads, .int .i64 p.links, .int .i64 p.gens, .int .i64 p.carved, .int .i64 work, .int .i64 e, .int .i64 word, .slice ls.a ls.len ls.cap, .slice fs.a fs.len fs.cap, .slice ds.a ds.len ds.cap, nx]
def Tn.cells (m : Tn) (j : TnJ) : List Value := tnC m.tw m.ta m.pl m.work m.e m.word j.ls j.fs j.ds (tnNext j.q m.ph)
def Tn.bl (m : Tn) (j : TnJ) : Bl := (j.q, oc ty_epoch_Turn (m.cells j)) :: (fbl m.frees j.fj ++ (j.tls ++ (j.tfs ++ j.tds)))

structure Tn.rep (m : Tn) (j : TnJ) : Prop where
  ls : SlOf j.tls ty_epoch_Limbo eL j.ls m.l
  fs : SlAt j.tfs ty_p_slab_Free eP j.fs (j.fj.map (·.1))
  ds : SlOf j.tds ty_epoch_Limbo eL j.ds m.left
  fl : m.frees.length = j.fj.length
  un : m.ph ≤ 2 → j.fs = sl0 ∧ j.ds = sl0

def due (e : Int) (x : Int × Int) : Bool := decide (w64 (x.2 + 2) ≤ e)
def Tn.upto (m : Tn) (n : Nat) : Tn := { m with frees := ((m.l.take n).filter (due m.e)).map fun x => newFe m.pl m.work x.1, left := (m.l.take n).filter fun x => !due m.e x }
def Tn.sort (m : Tn) : Tn := { m.upto m.l.length with ph := if (m.upto m.l.length).frees = [] then 4 else 3 }

theorem take_filterP {p : Int × Int → Bool} {l : List (Int × Int)} {n : Nat} (h : n < l.length) : (l.take (n + 1)).filter p = (l.take n).filter p ++ if p (l.getD n (0, 0)) then [l.getD n (0, 0)] else [] := by
  have e : l.take (n + 1) = l.take n ++ [l.getD n (0, 0)] := by
    rw [List.take_add_one, List.getD_eq_getElem?_getD, List.getElem?_eq_getElem h]; rfl
  rw [e, List.filter_append]
  congr 1
  unfold List.filter
  cases p (l.getD n (0, 0)) <;> rfl

section
variable {L : Hands} {R : Value → Heap → Prop} {A : Ar} {I : List Nat} {l : Bl} {G : Heap}

theorem w_rdL {xs : List (Int × Int)} {s : Sl} {i : Int} {u : TypeId} {k : HL Leaf.T [.int .i64, .int .i64] → Tree} (hA : Aw I A) (ok : Ok I G (keys l)) (hs : SlOf l ty_epoch_Limbo eL s xs) (h0 : 0 ≤ i) (h1 : i < xs.length)
    (h : wp Try.prog (k ((xs.getD i.toNat (0, 0)).1, (xs.getD i.toNat (0, 0)).2, ())) L (own A l G) R) :
    wp Try.prog (.look (opS Try.prog (.indexAddr ty_s_epoch_Limbo (.tmp 0) (.tmp 1)) u [.slice s.a s.len s.cap, .int .i64 i]) (.one (.leaf .addr)) fun x => .ldA x [(.int .i64), (.int .i64)] k) L (own A l G) R := by
  rcases hs with ⟨rfl, rfl⟩ | ⟨b, rest, r, rfl, h2, h3⟩
  · have : (([] : List (Int × Int)).length : Int) = 0 := rfl
    omega
  · have hl : i.toNat < xs.length := by omega
    obtain ⟨ix, hix⟩ := mem_idx h3
    obtain ⟨t, ht⟩ := eL_drop rest xs i.toNat hl
    refine look_val (x := ⟨b, i.toNat * 2, none⟩) ?_ ?_
    · rw [opS_idxS (e := ty_epoch_Limbo) rfl rfl h0 h1, Addr.add_mk, Nat.zero_add]; rfl
    · refine w_ldA (c := eL.all xs ++ rest) ix hA ok rfl hix (x := ((xs.getD i.toNat (0, 0)).1, (xs.getD i.toNat (0, 0)).2, ())) ?_ h (decide_eq_true ?_)
      · rw [ht]; rfl
      · rw [List.length_append, eL.all_len]; show i.toNat * 2 ≤ xs.length * 2 + _; omega

/-- While it sorts. -/
structure TSrt (I : List Nat) (G : Heap) (A : Ar) (m : Tn) (q : Nat) (ls : Sl) (i : Int) (H : Heap) (j : TnJ) : Prop where
  i0 : 0 ≤ i
  i1 : i ≤ m.l.length
  eH : H = own A ((m.upto i.toNat).bl j) G
  ok : Ok I G (keys ((m.upto i.toNat).bl j))
  eq : j.q = q
  eL : j.ls = ls
  ls : SlOf j.tls ty_epoch_Limbo Proofs.Ytfphgiipekkgdaa.eL j.ls m.l
  fs : SlOf j.tfs ty_p_slab_Free eP j.fs (j.fj.map (·.1))
  ds : SlOf j.tds ty_epoch_Limbo Proofs.Ytfphgiipekkgdaa.eL j.ds (m.upto i.toNat).left
  fl : (m.upto i.toNat).frees.length = j.fj.length

set_option maxHeartbeats 2000000 in
theorem tsort_spec (m : Tn) (j : TnJ) (hA : Aw I A) (ok : Ok I G (keys (m.bl j))) (rp : m.rep j) (hs : m.ph ≤ 2) (hf : m.frees = []) (hd : m.left = []) (hl : m.l.length ≤ 1000) :
    SpecF Try.prog f_epoch_Turn_sort #[.pointer (some ⟨j.q, 0, none⟩)] (own A (m.bl j) G) fun v K => ∃ j', v = .tuple #[] ∧ K = own A (m.sort.bl j') G ∧ j'.q = j.q ∧ Ok I G (keys (m.sort.bl j')) ∧ m.sort.rep j' := by
  refine t_epoch_Turn_sort_spec fun L => ?_
  unfold t_epoch_Turn_sort
  obtain ⟨u1, u2⟩ := rp.un hs
  have efj : j.fj = [] := List.eq_nil_of_length_eq_zero (by rw [← rp.fl, hf]; rfl)
  have e0 : m.upto 0 = m := by cases m; simp only at hf hd; subst hf; subst hd; rfl
  unfold Tn.bl at ok ⊢
  repeat (first
  | refine wp_nil.2 ?_
  | refine w_ld 0 hA ok rfl rfl rfl ?_
  | refine w_ld 1 hA ok rfl rfl rfl ?_
  | refine w_ld 2 hA ok rfl rfl rfl ?_
  | refine w_ld 3 hA ok rfl rfl rfl ?_
  | refine w_ld 4 hA ok rfl rfl rfl ?_
  | refine w_ld 5 hA ok rfl rfl rfl ?_
  | refine w_ld 6 hA ok rfl rfl rfl ?_
  | refine w_ld 7 hA ok rfl rfl rfl ?_
  | refine w_st 0 hA ok rfl rfl rfl rfl ?_
  | refine w_st 1 hA ok rfl rfl rfl rfl ?_
  | refine w_st 2 hA ok rfl rfl rfl rfl ?_
  | refine w_st 3 hA ok rfl rfl rfl rfl ?_
  | refine w_st 4 hA ok rfl rfl rfl rfl ?_
  | refine w_st 5 hA ok rfl rfl rfl rfl ?_
  | refine w_st 6 hA ok rfl rfl rfl rfl ?_
  | refine w_st 7 hA ok rfl rfl rfl rfl ?_
  | refine w_ldA 0 hA ok rfl rfl rfl ?_
  | refine w_ldA 1 hA ok rfl rfl rfl ?_
  | refine w_ldA 2 hA ok rfl rfl rfl ?_
  | refine w_ldA 3 hA ok rfl rfl rfl ?_
  | refine w_ldA 4 hA ok rfl rfl rfl ?_
  | refine w_ldA 5 hA ok rfl rfl rfl ?_
  | refine w_ldA 6 hA ok rfl rfl rfl ?_
  | refine w_ldA 7 hA ok rfl rfl rfl ?_
  | refine w_stA 0 hA ok rfl rfl rfl rfl ?_
  | refine w_stA 1 hA ok rfl rfl rfl rfl ?_
  | refine w_stA 2 hA ok rfl rfl rfl rfl ?_
  | refine w_stA 3 hA ok rfl rfl rfl rfl ?_
  | refine w_stA 4 hA ok rfl rfl rfl rfl ?_
  | refine w_stA 5 hA ok rfl rfl rfl rfl ?_
  | refine w_stA 6 hA ok rfl rfl rfl rfl ?_
  | refine w_stA 7 hA ok rfl rfl rfl rfl ?_
  | (refine w_Raw hA ?_; intro hA)
  | (refine w_SetRaw hA ?_; intro hA)
  | (refine w_SwapRaw hA ?_; intro hA)
  | (refine w_AddRaw hA ?_; intro hA)
  | (refine w_Load hA ?_; intro hA)
  | (refine w_Store hA ?_; intro hA)
  | (refine w_Retire hA ?_; intro hA)
  | (refine w_Died hA ?_; intro hA)
  | (refine w_Born hA ?_; intro hA)
  | refine w_State hA ?_
  | refine w_Uses hA ?_
  | refine w_Fault hA ?_
  | refine w_Words hA ?_
  | refine w_Count hA ?_
  | refine wq_Size ?_
  | refine wq_Open ?_
  | refine wq_Pack ?_
  | refine wq_head ?_
  | refine w_ck 0 hA ok rfl rfl rfl ?_
  | refine w_ck 1 hA ok rfl rfl rfl ?_
  | refine w_ck 2 hA ok rfl rfl rfl ?_
  | refine w_ck 3 hA ok rfl rfl rfl ?_
  | refine w_ck 4 hA ok rfl rfl rfl ?_
  | refine w_ck 5 hA ok rfl rfl rfl ?_
  | refine w_ck 6 hA ok rfl rfl rfl ?_
  | refine w_ck 7 hA ok rfl rfl rfl ?_
  | refine w_ckn rfl ?_
  | refine w_Base 0 1 hA ok rfl rfl ?_
  | refine w_Base 1 2 hA ok rfl rfl ?_
  | refine w_Base 2 3 hA ok rfl rfl ?_
  | refine w_Base 3 4 hA ok rfl rfl ?_
  | refine w_Base 4 5 hA ok rfl rfl ?_
  | refine w_Base 5 6 hA ok rfl rfl ?_
  | (refine w_PopStep 0 1 hA ok rfl rfl ?_; intro hA)
  | (refine w_PopStep 1 2 hA ok rfl rfl ?_; intro hA)
  | (refine w_PopStep 2 3 hA ok rfl rfl ?_; intro hA)
  | (refine w_PopStep 3 4 hA ok rfl rfl ?_; intro hA)
  | (refine w_PopStep 4 5 hA ok rfl rfl ?_; intro hA)
  | (refine w_PopStep 5 6 hA ok rfl rfl ?_; intro hA)
  | (refine w_PushStep 0 1 hA ok rfl rfl ?_; intro hA)
  | (refine w_PushStep 1 2 hA ok rfl rfl ?_; intro hA)
  | (refine w_PushStep 2 3 hA ok rfl rfl ?_; intro hA)
  | (refine w_PushStep 3 4 hA ok rfl rfl ?_; intro hA)
  | (refine w_PushStep 4 5 hA ok rfl rfl ?_; intro hA)
  | (refine w_PushStep 5 6 hA ok rfl rfl ?_; intro hA)
  | refine wp_true (by assumption) ?_
  | refine wp_false (by assumption) ?_)
  refine wl_i (fun i H => ∃ j', TSrt I G A m j.q j.ls i H j') (fun i => (m.l.length - i).toNat) 0 ⟨j, Int.le_refl 0, by omega, by rw [show (0 : Int).toNat = 0 from rfl, e0]; rfl, by rw [show (0 : Int).toNat = 0 from rfl, e0]; exact ok, rfl, rfl, rp.ls, ?_, by rw [show (0 : Int).toNat = 0 from rfl, e0]; exact rp.ds, by rw [show (0 : Int).toNat = 0 from rfl, e0]; exact rp.fl⟩ ?_
  · rw [u1, efj]; exact .inl ⟨rfl, rfl⟩
  rintro i H ⟨j1, hS⟩
  obtain ⟨i0, i1, eH, ok1, eq, eL, hls, hfs, hds, hfl⟩ := hS
  subst eH
  have hlen := hls.len
  unfold Tn.bl at ok1 ⊢
  have ok := ok1
  rw [t_epoch_Turn_sort_L1, ← eL, ← eq]
  by_cases hi : i < m.l.length
  · refine wp_true (decide_eq_true (by show i < ((j1.ls.len : Nat) : Int); rw [hlen]; exact hi)) ?_
    refine w_rdL hA ok (hls.mono fun p hp => ?_) i0 hi ?_
    · exact List.mem_cons_of_mem _ (List.mem_append_right _ (List.mem_append_left _ hp))
    refine w_newP hA ok fun x3 ok => ?_
    repeat (first
  | refine wp_nil.2 ?_
  | refine w_ld 0 hA ok rfl rfl rfl ?_
  | refine w_ld 1 hA ok rfl rfl rfl ?_
  | refine w_ld 2 hA ok rfl rfl rfl ?_
  | refine w_ld 3 hA ok rfl rfl rfl ?_
  | refine w_ld 4 hA ok rfl rfl rfl ?_
  | refine w_ld 5 hA ok rfl rfl rfl ?_
  | refine w_ld 6 hA ok rfl rfl rfl ?_
  | refine w_ld 7 hA ok rfl rfl rfl ?_
  | refine w_st 0 hA ok rfl rfl rfl rfl ?_
  | refine w_st 1 hA ok rfl rfl rfl rfl ?_
  | refine w_st 2 hA ok rfl rfl rfl rfl ?_
  | refine w_st 3 hA ok rfl rfl rfl rfl ?_
  | refine w_st 4 hA ok rfl rfl rfl rfl ?_
  | refine w_st 5 hA ok rfl rfl rfl rfl ?_
  | refine w_st 6 hA ok rfl rfl rfl rfl ?_
  | refine w_st 7 hA ok rfl rfl rfl rfl ?_
  | refine w_ldA 0 hA ok rfl rfl rfl ?_
  | refine w_ldA 1 hA ok rfl rfl rfl ?_
  | refine w_ldA 2 hA ok rfl rfl rfl ?_
  | refine w_ldA 3 hA ok rfl rfl rfl ?_
  | refine w_ldA 4 hA ok rfl rfl rfl ?_
  | refine w_ldA 5 hA ok rfl rfl rfl ?_
  | refine w_ldA 6 hA ok rfl rfl rfl ?_
  | refine w_ldA 7 hA ok rfl rfl rfl ?_
  | refine w_stA 0 hA ok rfl rfl rfl rfl ?_
  | refine w_stA 1 hA ok rfl rfl rfl rfl ?_
  | refine w_stA 2 hA ok rfl rfl rfl rfl ?_
  | refine w_stA 3 hA ok rfl rfl rfl rfl ?_
  | refine w_stA 4 hA ok rfl rfl rfl rfl ?_
  | refine w_stA 5 hA ok rfl rfl rfl rfl ?_
  | refine w_stA 6 hA ok rfl rfl rfl rfl ?_
  | refine w_stA 7 hA ok rfl rfl rfl rfl ?_
  | (refine w_Raw hA ?_; intro hA)
  | (refine w_SetRaw hA ?_; intro hA)
  | (refine w_SwapRaw hA ?_; intro hA)
  | (refine w_AddRaw hA ?_; intro hA)
  | (refine w_Load hA ?_; intro hA)
  | (refine w_Store hA ?_; intro hA)
  | (refine w_Retire hA ?_; intro hA)
  | (refine w_Died hA ?_; intro hA)
  | (refine w_Born hA ?_; intro hA)
  | refine w_State hA ?_
  | refine w_Uses hA ?_
  | refine w_Fault hA ?_
  | refine w_Words hA ?_
  | refine w_Count hA ?_
  | refine wq_Size ?_
  | refine wq_Open ?_
  | refine wq_Pack ?_
  | refine wq_head ?_
  | refine w_ck 0 hA ok rfl rfl rfl ?_
  | refine w_ck 1 hA ok rfl rfl rfl ?_
  | refine w_ck 2 hA ok rfl rfl rfl ?_
  | refine w_ck 3 hA ok rfl rfl rfl ?_
  | refine w_ck 4 hA ok rfl rfl rfl ?_
  | refine w_ck 5 hA ok rfl rfl rfl ?_
  | refine w_ck 6 hA ok rfl rfl rfl ?_
  | refine w_ck 7 hA ok rfl rfl rfl ?_
  | refine w_ckn rfl ?_
  | refine w_Base 0 1 hA ok rfl rfl ?_
  | refine w_Base 1 2 hA ok rfl rfl ?_
  | refine w_Base 2 3 hA ok rfl rfl ?_
  | refine w_Base 3 4 hA ok rfl rfl ?_
  | refine w_Base 4 5 hA ok rfl rfl ?_
  | refine w_Base 5 6 hA ok rfl rfl ?_
  | (refine w_PopStep 0 1 hA ok rfl rfl ?_; intro hA)
  | (refine w_PopStep 1 2 hA ok rfl rfl ?_; intro hA)
  | (refine w_PopStep 2 3 hA ok rfl rfl ?_; intro hA)
  | (refine w_PopStep 3 4 hA ok rfl rfl ?_; intro hA)
  | (refine w_PopStep 4 5 hA ok rfl rfl ?_; intro hA)
  | (refine w_PopStep 5 6 hA ok rfl rfl ?_; intro hA)
  | (refine w_PushStep 0 1 hA ok rfl rfl ?_; intro hA)
  | (refine w_PushStep 1 2 hA ok rfl rfl ?_; intro hA)
  | (refine w_PushStep 2 3 hA ok rfl rfl ?_; intro hA)
  | (refine w_PushStep 3 4 hA ok rfl rfl ?_; intro hA)
  | (refine w_PushStep 4 5 hA ok rfl rfl ?_; intro hA)
  | (refine w_PushStep 5 6 hA ok rfl rfl ?_; intro hA)
  | refine wp_true (by assumption) ?_
  | refine wp_false (by assumption) ?_)
    have ht : i.toNat < m.l.length := by omega
    have e1 : w64 (i + 1) = i + 1 := w64_in (by omega) (by omega)
    have e2 : (i + 1).toNat = i.toNat + 1 := by omega
    have fl : (m.upto (i.toNat + 1)).left = (m.upto i.toNat).left ++ if due m.e (m.l.getD i.toNat (0, 0)) then [] else [m.l.getD i.toNat (0, 0)] := by
      show ((m.l.take (i.toNat + 1)).filter fun x => !due m.e x) = ((m.l.take i.toNat).filter fun x => !due m.e x) ++ _
      rw [take_filterP ht]
      cases due m.e (m.l.getD i.toNat (0, 0)) <;> rfl
    have ff : (m.upto (i.toNat + 1)).frees = (m.upto i.toNat).frees ++ if due m.e (m.l.getD i.toNat (0, 0)) then [newFe m.pl m.work (m.l.getD i.toNat (0, 0)).1] else [] := by
      show ((m.l.take (i.toNat + 1)).filter (due m.e)).map (fun x => newFe m.pl m.work x.1) = ((m.l.take i.toNat).filter (due m.e)).map (fun x => newFe m.pl m.work x.1) ++ _
      rw [take_filterP ht, List.map_append]
      cases due m.e (m.l.getD i.toNat (0, 0)) <;> rfl
    have hll : (m.upto i.toNat).left.length ≤ 1000 := Nat.le_trans (List.length_filter_le _ _) (by rw [List.length_take]; omega)
    have hlf : (m.upto i.toNat).frees.length ≤ 1000 := by
      show (((m.l.take i.toNat).filter (due m.e)).map fun x => newFe m.pl m.work x.1).length ≤ 1000
      rw [List.length_map]
      exact Nat.le_trans (List.length_filter_le _ _) (by rw [List.length_take]; omega)
    dsimp only at ok ⊢
    rw [e1]
    obtain ⟨y, hy⟩ : ∃ y, y = m.l.getD i.toNat (0, 0) := ⟨_, rfl⟩
    rw [← hy] at fl ff ⊢
    have ok : Ok I G (keys ((x3, oc ty_epoch_Limbo [.int .i64 y.1, .int .i64 y.2]) :: (j1.q, oc ty_epoch_Turn ((m.upto i.toNat).cells j1)) :: (fbl (m.upto i.toNat).frees j1.fj ++ (j1.tls ++ (j1.tfs ++ j1.tds))))) := ok
    show wp Try.prog _ _ (own A ((x3, oc ty_epoch_Limbo [.int .i64 y.1, .int .i64 y.2]) :: (j1.q, oc ty_epoch_Turn ((m.upto i.toNat).cells j1)) :: (fbl (m.upto i.toNat).frees j1.fj ++ (j1.tls ++ (j1.tfs ++ j1.tds)))) G) _
    by_cases hin : due m.e y = true
    · rw [if_pos hin] at fl ff
      refine wp_true hin ?_
      repeat (first
  | refine wp_nil.2 ?_
  | refine w_ld 0 hA ok rfl rfl rfl ?_
  | refine w_ld 1 hA ok rfl rfl rfl ?_
  | refine w_ld 2 hA ok rfl rfl rfl ?_
  | refine w_ld 3 hA ok rfl rfl rfl ?_
  | refine w_ld 4 hA ok rfl rfl rfl ?_
  | refine w_ld 5 hA ok rfl rfl rfl ?_
  | refine w_ld 6 hA ok rfl rfl rfl ?_
  | refine w_ld 7 hA ok rfl rfl rfl ?_
  | refine w_st 0 hA ok rfl rfl rfl rfl ?_
  | refine w_st 1 hA ok rfl rfl rfl rfl ?_
  | refine w_st 2 hA ok rfl rfl rfl rfl ?_
  | refine w_st 3 hA ok rfl rfl rfl rfl ?_
  | refine w_st 4 hA ok rfl rfl rfl rfl ?_
  | refine w_st 5 hA ok rfl rfl rfl rfl ?_
  | refine w_st 6 hA ok rfl rfl rfl rfl ?_
  | refine w_st 7 hA ok rfl rfl rfl rfl ?_
  | refine w_ldA 0 hA ok rfl rfl rfl ?_
  | refine w_ldA 1 hA ok rfl rfl rfl ?_
  | refine w_ldA 2 hA ok rfl rfl rfl ?_
  | refine w_ldA 3 hA ok rfl rfl rfl ?_
  | refine w_ldA 4 hA ok rfl rfl rfl ?_
  | refine w_ldA 5 hA ok rfl rfl rfl ?_
  | refine w_ldA 6 hA ok rfl rfl rfl ?_
  | refine w_ldA 7 hA ok rfl rfl rfl ?_
  | refine w_stA 0 hA ok rfl rfl rfl rfl ?_
  | refine w_stA 1 hA ok rfl rfl rfl rfl ?_
  | refine w_stA 2 hA ok rfl rfl rfl rfl ?_
  | refine w_stA 3 hA ok rfl rfl rfl rfl ?_
  | refine w_stA 4 hA ok rfl rfl rfl rfl ?_
  | refine w_stA 5 hA ok rfl rfl rfl rfl ?_
  | refine w_stA 6 hA ok rfl rfl rfl rfl ?_
  | refine w_stA 7 hA ok rfl rfl rfl rfl ?_
  | (refine w_Raw hA ?_; intro hA)
  | (refine w_SetRaw hA ?_; intro hA)
  | (refine w_SwapRaw hA ?_; intro hA)
  | (refine w_AddRaw hA ?_; intro hA)
  | (refine w_Load hA ?_; intro hA)
  | (refine w_Store hA ?_; intro hA)
  | (refine w_Retire hA ?_; intro hA)
  | (refine w_Died hA ?_; intro hA)
  | (refine w_Born hA ?_; intro hA)
  | refine w_State hA ?_
  | refine w_Uses hA ?_
  | refine w_Fault hA ?_
  | refine w_Words hA ?_
  | refine w_Count hA ?_
  | refine wq_Size ?_
  | refine wq_Open ?_
  | refine wq_Pack ?_
  | refine wq_head ?_
  | refine w_ck 0 hA ok rfl rfl rfl ?_
  | refine w_ck 1 hA ok rfl rfl rfl ?_
  | refine w_ck 2 hA ok rfl rfl rfl ?_
  | refine w_ck 3 hA ok rfl rfl rfl ?_
  | refine w_ck 4 hA ok rfl rfl rfl ?_
  | refine w_ck 5 hA ok rfl rfl rfl ?_
  | refine w_ck 6 hA ok rfl rfl rfl ?_
  | refine w_ck 7 hA ok rfl rfl rfl ?_
  | refine w_ckn rfl ?_
  | refine w_Base 0 1 hA ok rfl rfl ?_
  | refine w_Base 1 2 hA ok rfl rfl ?_
  | refine w_Base 2 3 hA ok rfl rfl ?_
  | refine w_Base 3 4 hA ok rfl rfl ?_
  | refine w_Base 4 5 hA ok rfl rfl ?_
  | refine w_Base 5 6 hA ok rfl rfl ?_
  | (refine w_PopStep 0 1 hA ok rfl rfl ?_; intro hA)
  | (refine w_PopStep 1 2 hA ok rfl rfl ?_; intro hA)
  | (refine w_PopStep 2 3 hA ok rfl rfl ?_; intro hA)
  | (refine w_PopStep 3 4 hA ok rfl rfl ?_; intro hA)
  | (refine w_PopStep 4 5 hA ok rfl rfl ?_; intro hA)
  | (refine w_PopStep 5 6 hA ok rfl rfl ?_; intro hA)
  | (refine w_PushStep 0 1 hA ok rfl rfl ?_; intro hA)
  | (refine w_PushStep 1 2 hA ok rfl rfl ?_; intro hA)
  | (refine w_PushStep 2 3 hA ok rfl rfl ?_; intro hA)
  | (refine w_PushStep 3 4 hA ok rfl rfl ?_; intro hA)
  | (refine w_PushStep 4 5 hA ok rfl rfl ?_; intro hA)
  | (refine w_PushStep 5 6 hA ok rfl rfl ?_; intro hA)
  | refine wp_true (by assumption) ?_
  | refine wp_false (by assumption) ?_)
      refine w_NewFree (p := m.pl) (w := m.work) hA ok fun jf ok => ?_
      repeat (first
  | refine wp_nil.2 ?_
  | refine w_ld 0 hA ok rfl rfl rfl ?_
  | refine w_ld 1 hA ok rfl rfl rfl ?_
  | refine w_ld 2 hA ok rfl rfl rfl ?_
  | refine w_ld 3 hA ok rfl rfl rfl ?_
  | refine w_ld 4 hA ok rfl rfl rfl ?_
  | refine w_ld 5 hA ok rfl rfl rfl ?_
  | refine w_ld 6 hA ok rfl rfl rfl ?_
  | refine w_ld 7 hA ok rfl rfl rfl ?_
  | refine w_st 0 hA ok rfl rfl rfl rfl ?_
  | refine w_st 1 hA ok rfl rfl rfl rfl ?_
  | refine w_st 2 hA ok rfl rfl rfl rfl ?_
  | refine w_st 3 hA ok rfl rfl rfl rfl ?_
  | refine w_st 4 hA ok rfl rfl rfl rfl ?_
  | refine w_st 5 hA ok rfl rfl rfl rfl ?_
  | refine w_st 6 hA ok rfl rfl rfl rfl ?_
  | refine w_st 7 hA ok rfl rfl rfl rfl ?_
  | refine w_ldA 0 hA ok rfl rfl rfl ?_
  | refine w_ldA 1 hA ok rfl rfl rfl ?_
  | refine w_ldA 2 hA ok rfl rfl rfl ?_
  | refine w_ldA 3 hA ok rfl rfl rfl ?_
  | refine w_ldA 4 hA ok rfl rfl rfl ?_
  | refine w_ldA 5 hA ok rfl rfl rfl ?_
  | refine w_ldA 6 hA ok rfl rfl rfl ?_
  | refine w_ldA 7 hA ok rfl rfl rfl ?_
  | refine w_stA 0 hA ok rfl rfl rfl rfl ?_
  | refine w_stA 1 hA ok rfl rfl rfl rfl ?_
  | refine w_stA 2 hA ok rfl rfl rfl rfl ?_
  | refine w_stA 3 hA ok rfl rfl rfl rfl ?_
  | refine w_stA 4 hA ok rfl rfl rfl rfl ?_
  | refine w_stA 5 hA ok rfl rfl rfl rfl ?_
  | refine w_stA 6 hA ok rfl rfl rfl rfl ?_
  | refine w_stA 7 hA ok rfl rfl rfl rfl ?_
  | (refine w_Raw hA ?_; intro hA)
  | (refine w_SetRaw hA ?_; intro hA)
  | (refine w_SwapRaw hA ?_; intro hA)
  | (refine w_AddRaw hA ?_; intro hA)
  | (refine w_Load hA ?_; intro hA)
  | (refine w_Store hA ?_; intro hA)
  | (refine w_Retire hA ?_; intro hA)
  | (refine w_Died hA ?_; intro hA)
  | (refine w_Born hA ?_; intro hA)
  | refine w_State hA ?_
  | refine w_Uses hA ?_
  | refine w_Fault hA ?_
  | refine w_Words hA ?_
  | refine w_Count hA ?_
  | refine wq_Size ?_
  | refine wq_Open ?_
  | refine wq_Pack ?_
  | refine wq_head ?_
  | refine w_ck 0 hA ok rfl rfl rfl ?_
  | refine w_ck 1 hA ok rfl rfl rfl ?_
  | refine w_ck 2 hA ok rfl rfl rfl ?_
  | refine w_ck 3 hA ok rfl rfl rfl ?_
  | refine w_ck 4 hA ok rfl rfl rfl ?_
  | refine w_ck 5 hA ok rfl rfl rfl ?_
  | refine w_ck 6 hA ok rfl rfl rfl ?_
  | refine w_ck 7 hA ok rfl rfl rfl ?_
  | refine w_ckn rfl ?_
  | refine w_Base 0 1 hA ok rfl rfl ?_
  | refine w_Base 1 2 hA ok rfl rfl ?_
  | refine w_Base 2 3 hA ok rfl rfl ?_
  | refine w_Base 3 4 hA ok rfl rfl ?_
  | refine w_Base 4 5 hA ok rfl rfl ?_
  | refine w_Base 5 6 hA ok rfl rfl ?_
  | (refine w_PopStep 0 1 hA ok rfl rfl ?_; intro hA)
  | (refine w_PopStep 1 2 hA ok rfl rfl ?_; intro hA)
  | (refine w_PopStep 2 3 hA ok rfl rfl ?_; intro hA)
  | (refine w_PopStep 3 4 hA ok rfl rfl ?_; intro hA)
  | (refine w_PopStep 4 5 hA ok rfl rfl ?_; intro hA)
  | (refine w_PopStep 5 6 hA ok rfl rfl ?_; intro hA)
  | (refine w_PushStep 0 1 hA ok rfl rfl ?_; intro hA)
  | (refine w_PushStep 1 2 hA ok rfl rfl ?_; intro hA)
  | (refine w_PushStep 2 3 hA ok rfl rfl ?_; intro hA)
  | (refine w_PushStep 3 4 hA ok rfl rfl ?_; intro hA)
  | (refine w_PushStep 4 5 hA ok rfl rfl ?_; intro hA)
  | (refine w_PushStep 5 6 hA ok rfl rfl ?_; intro hA)
  | refine wp_true (by assumption) ?_
  | refine wp_false (by assumption) ?_)
      refine w_newS hA ok fun g ok => ?_
      repeat (first
  | refine wp_nil.2 ?_
  | refine w_ld 0 hA ok rfl rfl rfl ?_
  | refine w_ld 1 hA ok rfl rfl rfl ?_
  | refine w_ld 2 hA ok rfl rfl rfl ?_
  | refine w_ld 3 hA ok rfl rfl rfl ?_
  | refine w_ld 4 hA ok rfl rfl rfl ?_
  | refine w_ld 5 hA ok rfl rfl rfl ?_
  | refine w_ld 6 hA ok rfl rfl rfl ?_
  | refine w_ld 7 hA ok rfl rfl rfl ?_
  | refine w_st 0 hA ok rfl rfl rfl rfl ?_
  | refine w_st 1 hA ok rfl rfl rfl rfl ?_
  | refine w_st 2 hA ok rfl rfl rfl rfl ?_
  | refine w_st 3 hA ok rfl rfl rfl rfl ?_
  | refine w_st 4 hA ok rfl rfl rfl rfl ?_
  | refine w_st 5 hA ok rfl rfl rfl rfl ?_
  | refine w_st 6 hA ok rfl rfl rfl rfl ?_
  | refine w_st 7 hA ok rfl rfl rfl rfl ?_
  | refine w_ldA 0 hA ok rfl rfl rfl ?_
  | refine w_ldA 1 hA ok rfl rfl rfl ?_
  | refine w_ldA 2 hA ok rfl rfl rfl ?_
  | refine w_ldA 3 hA ok rfl rfl rfl ?_
  | refine w_ldA 4 hA ok rfl rfl rfl ?_
  | refine w_ldA 5 hA ok rfl rfl rfl ?_
  | refine w_ldA 6 hA ok rfl rfl rfl ?_
  | refine w_ldA 7 hA ok rfl rfl rfl ?_
  | refine w_stA 0 hA ok rfl rfl rfl rfl ?_
  | refine w_stA 1 hA ok rfl rfl rfl rfl ?_
  | refine w_stA 2 hA ok rfl rfl rfl rfl ?_
  | refine w_stA 3 hA ok rfl rfl rfl rfl ?_
  | refine w_stA 4 hA ok rfl rfl rfl rfl ?_
  | refine w_stA 5 hA ok rfl rfl rfl rfl ?_
  | refine w_stA 6 hA ok rfl rfl rfl rfl ?_
  | refine w_stA 7 hA ok rfl rfl rfl rfl ?_
  | (refine w_Raw hA ?_; intro hA)
  | (refine w_SetRaw hA ?_; intro hA)
  | (refine w_SwapRaw hA ?_; intro hA)
  | (refine w_AddRaw hA ?_; intro hA)
  | (refine w_Load hA ?_; intro hA)
  | (refine w_Store hA ?_; intro hA)
  | (refine w_Retire hA ?_; intro hA)
  | (refine w_Died hA ?_; intro hA)
  | (refine w_Born hA ?_; intro hA)
  | refine w_State hA ?_
  | refine w_Uses hA ?_
  | refine w_Fault hA ?_
  | refine w_Words hA ?_
  | refine w_Count hA ?_
  | refine wq_Size ?_
  | refine wq_Open ?_
  | refine wq_Pack ?_
  | refine wq_head ?_
  | refine w_ck 0 hA ok rfl rfl rfl ?_
  | refine w_ck 1 hA ok rfl rfl rfl ?_
  | refine w_ck 2 hA ok rfl rfl rfl ?_
  | refine w_ck 3 hA ok rfl rfl rfl ?_
  | refine w_ck 4 hA ok rfl rfl rfl ?_
  | refine w_ck 5 hA ok rfl rfl rfl ?_
  | refine w_ck 6 hA ok rfl rfl rfl ?_
  | refine w_ck 7 hA ok rfl rfl rfl ?_
  | refine w_ckn rfl ?_
  | refine w_Base 0 1 hA ok rfl rfl ?_
  | refine w_Base 1 2 hA ok rfl rfl ?_
  | refine w_Base 2 3 hA ok rfl rfl ?_
  | refine w_Base 3 4 hA ok rfl rfl ?_
  | refine w_Base 4 5 hA ok rfl rfl ?_
  | refine w_Base 5 6 hA ok rfl rfl ?_
  | (refine w_PopStep 0 1 hA ok rfl rfl ?_; intro hA)
  | (refine w_PopStep 1 2 hA ok rfl rfl ?_; intro hA)
  | (refine w_PopStep 2 3 hA ok rfl rfl ?_; intro hA)
  | (refine w_PopStep 3 4 hA ok rfl rfl ?_; intro hA)
  | (refine w_PopStep 4 5 hA ok rfl rfl ?_; intro hA)
  | (refine w_PopStep 5 6 hA ok rfl rfl ?_; intro hA)
  | (refine w_PushStep 0 1 hA ok rfl rfl ?_; intro hA)
  | (refine w_PushStep 1 2 hA ok rfl rfl ?_; intro hA)
  | (refine w_PushStep 2 3 hA ok rfl rfl ?_; intro hA)
  | (refine w_PushStep 3 4 hA ok rfl rfl ?_; intro hA)
  | (refine w_PushStep 4 5 hA ok rfl rfl ?_; intro hA)
  | (refine w_PushStep 5 6 hA ok rfl rfl ?_; intro hA)
  | refine wp_true (by assumption) ?_
  | refine wp_false (by assumption) ?_)
      obtain ⟨p1, ok2⟩ := own_perm (A := A) (l' := (j1.q, oc ty_epoch_Turn ((m.upto i.toNat).cells j1)) :: (fbl (m.upto i.toNat).frees j1.fj ++ ((newFe m.pl m.work y.1).bl jf ++ j1.tls)) ++ (((g, oc ty_p_slab_Free [.pointer (some ⟨jf.1, 0, none⟩)]) :: j1.tfs) ++ ((x3, oc ty_epoch_Limbo [.int .i64 y.1, .int .i64 y.2]) :: j1.tds))) ok (perm_by fun c d c0 cd ca => by simp only [cd, ca, c0]; omega)
      rw [p1]
      have ok := ok2
      refine w_appM (E := eP) elF _ (xs := j1.fj.map (·.1)) (ys := [jf.1]) (t := ⟨some ⟨g, 0, none⟩, 1, 1⟩) hA ok (hfs.mono fun p hp => List.mem_cons_of_mem _ hp) ?_ rfl (by simp only [List.length_cons, List.length_nil, List.length_map]; omega) fun s' mid' hs' ok => ?_
      · exact cell_row (c := [.pointer (some ⟨jf.1, 0, none⟩)]) hA ok (List.mem_append_right _ (List.mem_append_left _ List.mem_cons_self)) 0 rfl
      repeat (first
  | refine wp_nil.2 ?_
  | refine w_ld 0 hA ok rfl rfl rfl ?_
  | refine w_ld 1 hA ok rfl rfl rfl ?_
  | refine w_ld 2 hA ok rfl rfl rfl ?_
  | refine w_ld 3 hA ok rfl rfl rfl ?_
  | refine w_ld 4 hA ok rfl rfl rfl ?_
  | refine w_ld 5 hA ok rfl rfl rfl ?_
  | refine w_ld 6 hA ok rfl rfl rfl ?_
  | refine w_ld 7 hA ok rfl rfl rfl ?_
  | refine w_st 0 hA ok rfl rfl rfl rfl ?_
  | refine w_st 1 hA ok rfl rfl rfl rfl ?_
  | refine w_st 2 hA ok rfl rfl rfl rfl ?_
  | refine w_st 3 hA ok rfl rfl rfl rfl ?_
  | refine w_st 4 hA ok rfl rfl rfl rfl ?_
  | refine w_st 5 hA ok rfl rfl rfl rfl ?_
  | refine w_st 6 hA ok rfl rfl rfl rfl ?_
  | refine w_st 7 hA ok rfl rfl rfl rfl ?_
  | refine w_ldA 0 hA ok rfl rfl rfl ?_
  | refine w_ldA 1 hA ok rfl rfl rfl ?_
  | refine w_ldA 2 hA ok rfl rfl rfl ?_
  | refine w_ldA 3 hA ok rfl rfl rfl ?_
  | refine w_ldA 4 hA ok rfl rfl rfl ?_
  | refine w_ldA 5 hA ok rfl rfl rfl ?_
  | refine w_ldA 6 hA ok rfl rfl rfl ?_
  | refine w_ldA 7 hA ok rfl rfl rfl ?_
  | refine w_stA 0 hA ok rfl rfl rfl rfl ?_
  | refine w_stA 1 hA ok rfl rfl rfl rfl ?_
  | refine w_stA 2 hA ok rfl rfl rfl rfl ?_
  | refine w_stA 3 hA ok rfl rfl rfl rfl ?_
  | refine w_stA 4 hA ok rfl rfl rfl rfl ?_
  | refine w_stA 5 hA ok rfl rfl rfl rfl ?_
  | refine w_stA 6 hA ok rfl rfl rfl rfl ?_
  | refine w_stA 7 hA ok rfl rfl rfl rfl ?_
  | (refine w_Raw hA ?_; intro hA)
  | (refine w_SetRaw hA ?_; intro hA)
  | (refine w_SwapRaw hA ?_; intro hA)
  | (refine w_AddRaw hA ?_; intro hA)
  | (refine w_Load hA ?_; intro hA)
  | (refine w_Store hA ?_; intro hA)
  | (refine w_Retire hA ?_; intro hA)
  | (refine w_Died hA ?_; intro hA)
  | (refine w_Born hA ?_; intro hA)
  | refine w_State hA ?_
  | refine w_Uses hA ?_
  | refine w_Fault hA ?_
  | refine w_Words hA ?_
  | refine w_Count hA ?_
  | refine wq_Size ?_
  | refine wq_Open ?_
  | refine wq_Pack ?_
  | refine wq_head ?_
  | refine w_ck 0 hA ok rfl rfl rfl ?_
  | refine w_ck 1 hA ok rfl rfl rfl ?_
  | refine w_ck 2 hA ok rfl rfl rfl ?_
  | refine w_ck 3 hA ok rfl rfl rfl ?_
  | refine w_ck 4 hA ok rfl rfl rfl ?_
  | refine w_ck 5 hA ok rfl rfl rfl ?_
  | refine w_ck 6 hA ok rfl rfl rfl ?_
  | refine w_ck 7 hA ok rfl rfl rfl ?_
  | refine w_ckn rfl ?_
  | refine w_Base 0 1 hA ok rfl rfl ?_
  | refine w_Base 1 2 hA ok rfl rfl ?_
  | refine w_Base 2 3 hA ok rfl rfl ?_
  | refine w_Base 3 4 hA ok rfl rfl ?_
  | refine w_Base 4 5 hA ok rfl rfl ?_
  | refine w_Base 5 6 hA ok rfl rfl ?_
  | (refine w_PopStep 0 1 hA ok rfl rfl ?_; intro hA)
  | (refine w_PopStep 1 2 hA ok rfl rfl ?_; intro hA)
  | (refine w_PopStep 2 3 hA ok rfl rfl ?_; intro hA)
  | (refine w_PopStep 3 4 hA ok rfl rfl ?_; intro hA)
  | (refine w_PopStep 4 5 hA ok rfl rfl ?_; intro hA)
  | (refine w_PopStep 5 6 hA ok rfl rfl ?_; intro hA)
  | (refine w_PushStep 0 1 hA ok rfl rfl ?_; intro hA)
  | (refine w_PushStep 1 2 hA ok rfl rfl ?_; intro hA)
  | (refine w_PushStep 2 3 hA ok rfl rfl ?_; intro hA)
  | (refine w_PushStep 3 4 hA ok rfl rfl ?_; intro hA)
  | (refine w_PushStep 4 5 hA ok rfl rfl ?_; intro hA)
  | (refine w_PushStep 5 6 hA ok rfl rfl ?_; intro hA)
  | refine wp_true (by assumption) ?_
  | refine wp_false (by assumption) ?_)
      have hp : ((j1.q, oc ty_epoch_Turn ((m.upto (i.toNat + 1)).cells { j1 with fs := s', tfs := mid', fj := j1.fj ++ [jf], tds := (x3, oc ty_epoch_Limbo [.int .i64 y.1, .int .i64 y.2]) :: j1.tds })) :: (fbl (m.upto i.toNat).frees j1.fj ++ ((newFe m.pl m.work y.1).bl jf ++ j1.tls)) ++ (mid' ++ ((x3, oc ty_epoch_Limbo [.int .i64 y.1, .int .i64 y.2]) :: j1.tds))).Perm ((m.upto (i.toNat + 1)).bl { j1 with fs := s', tfs := mid', fj := j1.fj ++ [jf], tds := (x3, oc ty_epoch_Limbo [.int .i64 y.1, .int .i64 y.2]) :: j1.tds }) := by
        unfold Tn.bl
        rw [ff]
        dsimp only
        rw [fbl_snoc hfl]
        exact (perm_by fun c d c0 cd ca => by simp only [cd, ca, c0]; omega)
      refine wp_again ⟨i + 1, rfl, ⟨{ j1 with fs := s', tfs := mid', fj := j1.fj ++ [jf], tds := (x3, oc ty_epoch_Limbo [.int .i64 y.1, .int .i64 y.2]) :: j1.tds }, by omega, by omega, ?_, ?_, rfl, rfl, hls, ?_, ?_, ?_⟩, by omega⟩
      · rw [e2]; exact (own_perm2 (A := A) hp ok).1
      · rw [e2]; exact (own_perm2 (A := A) hp ok).2
      · rw [List.map_append]; exact hs'
      · rw [e2, fl, List.append_nil]; exact hds.mono fun p hp => List.mem_cons_of_mem _ hp
      · rw [e2, ff, List.length_append, List.length_append, hfl]; rfl
    · rw [if_neg hin] at fl ff
      refine wp_false (show due m.e y = false by simpa using hin) ?_
      repeat (first
  | refine wp_nil.2 ?_
  | refine w_ld 0 hA ok rfl rfl rfl ?_
  | refine w_ld 1 hA ok rfl rfl rfl ?_
  | refine w_ld 2 hA ok rfl rfl rfl ?_
  | refine w_ld 3 hA ok rfl rfl rfl ?_
  | refine w_ld 4 hA ok rfl rfl rfl ?_
  | refine w_ld 5 hA ok rfl rfl rfl ?_
  | refine w_ld 6 hA ok rfl rfl rfl ?_
  | refine w_ld 7 hA ok rfl rfl rfl ?_
  | refine w_st 0 hA ok rfl rfl rfl rfl ?_
  | refine w_st 1 hA ok rfl rfl rfl rfl ?_
  | refine w_st 2 hA ok rfl rfl rfl rfl ?_
  | refine w_st 3 hA ok rfl rfl rfl rfl ?_
  | refine w_st 4 hA ok rfl rfl rfl rfl ?_
  | refine w_st 5 hA ok rfl rfl rfl rfl ?_
  | refine w_st 6 hA ok rfl rfl rfl rfl ?_
  | refine w_st 7 hA ok rfl rfl rfl rfl ?_
  | refine w_ldA 0 hA ok rfl rfl rfl ?_
  | refine w_ldA 1 hA ok rfl rfl rfl ?_
  | refine w_ldA 2 hA ok rfl rfl rfl ?_
  | refine w_ldA 3 hA ok rfl rfl rfl ?_
  | refine w_ldA 4 hA ok rfl rfl rfl ?_
  | refine w_ldA 5 hA ok rfl rfl rfl ?_
  | refine w_ldA 6 hA ok rfl rfl rfl ?_
  | refine w_ldA 7 hA ok rfl rfl rfl ?_
  | refine w_stA 0 hA ok rfl rfl rfl rfl ?_
  | refine w_stA 1 hA ok rfl rfl rfl rfl ?_
  | refine w_stA 2 hA ok rfl rfl rfl rfl ?_
  | refine w_stA 3 hA ok rfl rfl rfl rfl ?_
  | refine w_stA 4 hA ok rfl rfl rfl rfl ?_
  | refine w_stA 5 hA ok rfl rfl rfl rfl ?_
  | refine w_stA 6 hA ok rfl rfl rfl rfl ?_
  | refine w_stA 7 hA ok rfl rfl rfl rfl ?_
  | (refine w_Raw hA ?_; intro hA)
  | (refine w_SetRaw hA ?_; intro hA)
  | (refine w_SwapRaw hA ?_; intro hA)
  | (refine w_AddRaw hA ?_; intro hA)
  | (refine w_Load hA ?_; intro hA)
  | (refine w_Store hA ?_; intro hA)
  | (refine w_Retire hA ?_; intro hA)
  | (refine w_Died hA ?_; intro hA)
  | (refine w_Born hA ?_; intro hA)
  | refine w_State hA ?_
  | refine w_Uses hA ?_
  | refine w_Fault hA ?_
  | refine w_Words hA ?_
  | refine w_Count hA ?_
  | refine wq_Size ?_
  | refine wq_Open ?_
  | refine wq_Pack ?_
  | refine wq_head ?_
  | refine w_ck 0 hA ok rfl rfl rfl ?_
  | refine w_ck 1 hA ok rfl rfl rfl ?_
  | refine w_ck 2 hA ok rfl rfl rfl ?_
  | refine w_ck 3 hA ok rfl rfl rfl ?_
  | refine w_ck 4 hA ok rfl rfl rfl ?_
  | refine w_ck 5 hA ok rfl rfl rfl ?_
  | refine w_ck 6 hA ok rfl rfl rfl ?_
  | refine w_ck 7 hA ok rfl rfl rfl ?_
  | refine w_ckn rfl ?_
  | refine w_Base 0 1 hA ok rfl rfl ?_
  | refine w_Base 1 2 hA ok rfl rfl ?_
  | refine w_Base 2 3 hA ok rfl rfl ?_
  | refine w_Base 3 4 hA ok rfl rfl ?_
  | refine w_Base 4 5 hA ok rfl rfl ?_
  | refine w_Base 5 6 hA ok rfl rfl ?_
  | (refine w_PopStep 0 1 hA ok rfl rfl ?_; intro hA)
  | (refine w_PopStep 1 2 hA ok rfl rfl ?_; intro hA)
  | (refine w_PopStep 2 3 hA ok rfl rfl ?_; intro hA)
  | (refine w_PopStep 3 4 hA ok rfl rfl ?_; intro hA)
  | (refine w_PopStep 4 5 hA ok rfl rfl ?_; intro hA)
  | (refine w_PopStep 5 6 hA ok rfl rfl ?_; intro hA)
  | (refine w_PushStep 0 1 hA ok rfl rfl ?_; intro hA)
  | (refine w_PushStep 1 2 hA ok rfl rfl ?_; intro hA)
  | (refine w_PushStep 2 3 hA ok rfl rfl ?_; intro hA)
  | (refine w_PushStep 3 4 hA ok rfl rfl ?_; intro hA)
  | (refine w_PushStep 4 5 hA ok rfl rfl ?_; intro hA)
  | (refine w_PushStep 5 6 hA ok rfl rfl ?_; intro hA)
  | refine wp_true (by assumption) ?_
  | refine wp_false (by assumption) ?_)
      refine w_newS hA ok fun g ok => ?_
      repeat (first
  | refine wp_nil.2 ?_
  | refine w_ld 0 hA ok rfl rfl rfl ?_
  | refine w_ld 1 hA ok rfl rfl rfl ?_
  | refine w_ld 2 hA ok rfl rfl rfl ?_
  | refine w_ld 3 hA ok rfl rfl rfl ?_
  | refine w_ld 4 hA ok rfl rfl rfl ?_
  | refine w_ld 5 hA ok rfl rfl rfl ?_
  | refine w_ld 6 hA ok rfl rfl rfl ?_
  | refine w_ld 7 hA ok rfl rfl rfl ?_
  | refine w_st 0 hA ok rfl rfl rfl rfl ?_
  | refine w_st 1 hA ok rfl rfl rfl rfl ?_
  | refine w_st 2 hA ok rfl rfl rfl rfl ?_
  | refine w_st 3 hA ok rfl rfl rfl rfl ?_
  | refine w_st 4 hA ok rfl rfl rfl rfl ?_
  | refine w_st 5 hA ok rfl rfl rfl rfl ?_
  | refine w_st 6 hA ok rfl rfl rfl rfl ?_
  | refine w_st 7 hA ok rfl rfl rfl rfl ?_
  | refine w_ldA 0 hA ok rfl rfl rfl ?_
  | refine w_ldA 1 hA ok rfl rfl rfl ?_
  | refine w_ldA 2 hA ok rfl rfl rfl ?_
  | refine w_ldA 3 hA ok rfl rfl rfl ?_
  | refine w_ldA 4 hA ok rfl rfl rfl ?_
  | refine w_ldA 5 hA ok rfl rfl rfl ?_
  | refine w_ldA 6 hA ok rfl rfl rfl ?_
  | refine w_ldA 7 hA ok rfl rfl rfl ?_
  | refine w_stA 0 hA ok rfl rfl rfl rfl ?_
  | refine w_stA 1 hA ok rfl rfl rfl rfl ?_
  | refine w_stA 2 hA ok rfl rfl rfl rfl ?_
  | refine w_stA 3 hA ok rfl rfl rfl rfl ?_
  | refine w_stA 4 hA ok rfl rfl rfl rfl ?_
  | refine w_stA 5 hA ok rfl rfl rfl rfl ?_
  | refine w_stA 6 hA ok rfl rfl rfl rfl ?_
  | refine w_stA 7 hA ok rfl rfl rfl rfl ?_
  | (refine w_Raw hA ?_; intro hA)
  | (refine w_SetRaw hA ?_; intro hA)
  | (refine w_SwapRaw hA ?_; intro hA)
  | (refine w_AddRaw hA ?_; intro hA)
  | (refine w_Load hA ?_; intro hA)
  | (refine w_Store hA ?_; intro hA)
  | (refine w_Retire hA ?_; intro hA)
  | (refine w_Died hA ?_; intro hA)
  | (refine w_Born hA ?_; intro hA)
  | refine w_State hA ?_
  | refine w_Uses hA ?_
  | refine w_Fault hA ?_
  | refine w_Words hA ?_
  | refine w_Count hA ?_
  | refine wq_Size ?_
  | refine wq_Open ?_
  | refine wq_Pack ?_
  | refine wq_head ?_
  | refine w_ck 0 hA ok rfl rfl rfl ?_
  | refine w_ck 1 hA ok rfl rfl rfl ?_
  | refine w_ck 2 hA ok rfl rfl rfl ?_
  | refine w_ck 3 hA ok rfl rfl rfl ?_
  | refine w_ck 4 hA ok rfl rfl rfl ?_
  | refine w_ck 5 hA ok rfl rfl rfl ?_
  | refine w_ck 6 hA ok rfl rfl rfl ?_
  | refine w_ck 7 hA ok rfl rfl rfl ?_
  | refine w_ckn rfl ?_
  | refine w_Base 0 1 hA ok rfl rfl ?_
  | refine w_Base 1 2 hA ok rfl rfl ?_
  | refine w_Base 2 3 hA ok rfl rfl ?_
  | refine w_Base 3 4 hA ok rfl rfl ?_
  | refine w_Base 4 5 hA ok rfl rfl ?_
  | refine w_Base 5 6 hA ok rfl rfl ?_
  | (refine w_PopStep 0 1 hA ok rfl rfl ?_; intro hA)
  | (refine w_PopStep 1 2 hA ok rfl rfl ?_; intro hA)
  | (refine w_PopStep 2 3 hA ok rfl rfl ?_; intro hA)
  | (refine w_PopStep 3 4 hA ok rfl rfl ?_; intro hA)
  | (refine w_PopStep 4 5 hA ok rfl rfl ?_; intro hA)
  | (refine w_PopStep 5 6 hA ok rfl rfl ?_; intro hA)
  | (refine w_PushStep 0 1 hA ok rfl rfl ?_; intro hA)
  | (refine w_PushStep 1 2 hA ok rfl rfl ?_; intro hA)
  | (refine w_PushStep 2 3 hA ok rfl rfl ?_; intro hA)
  | (refine w_PushStep 3 4 hA ok rfl rfl ?_; intro hA)
  | (refine w_PushStep 4 5 hA ok rfl rfl ?_; intro hA)
  | (refine w_PushStep 5 6 hA ok rfl rfl ?_; intro hA)
  | refine wp_true (by assumption) ?_
  | refine wp_false (by assumption) ?_)
      obtain ⟨p1, ok2⟩ := own_perm (A := A) (l' := (j1.q, oc ty_epoch_Turn ((m.upto i.toNat).cells j1)) :: (fbl (m.upto i.toNat).frees j1.fj ++ (j1.tls ++ j1.tfs)) ++ (((g, oc ty_epoch_Limbo [.int .i64 y.1, .int .i64 y.2]) :: (x3, oc ty_epoch_Limbo [.int .i64 y.1, .int .i64 y.2]) :: j1.tds) ++ [])) ok (perm_by fun c d c0 cd ca => by simp only [cd, ca, c0]; omega)
      rw [p1]
      have ok := ok2
      refine w_appM (E := Proofs.Ytfphgiipekkgdaa.eL) elL _ (xs := (m.upto i.toNat).left) (ys := [y]) (t := ⟨some ⟨g, 0, none⟩, 1, 1⟩) hA ok (hds.mono fun p hp => List.mem_cons_of_mem _ (List.mem_cons_of_mem _ hp)) ?_ rfl (by simp only [List.length_cons, List.length_nil]; omega) fun s' mid' hs' ok => ?_
      · exact cell_row (c := [.int .i64 y.1, .int .i64 y.2]) hA ok (List.mem_append_right _ (List.mem_append_left _ List.mem_cons_self)) 0 rfl
      repeat (first
  | refine wp_nil.2 ?_
  | refine w_ld 0 hA ok rfl rfl rfl ?_
  | refine w_ld 1 hA ok rfl rfl rfl ?_
  | refine w_ld 2 hA ok rfl rfl rfl ?_
  | refine w_ld 3 hA ok rfl rfl rfl ?_
  | refine w_ld 4 hA ok rfl rfl rfl ?_
  | refine w_ld 5 hA ok rfl rfl rfl ?_
  | refine w_ld 6 hA ok rfl rfl rfl ?_
  | refine w_ld 7 hA ok rfl rfl rfl ?_
  | refine w_st 0 hA ok rfl rfl rfl rfl ?_
  | refine w_st 1 hA ok rfl rfl rfl rfl ?_
  | refine w_st 2 hA ok rfl rfl rfl rfl ?_
  | refine w_st 3 hA ok rfl rfl rfl rfl ?_
  | refine w_st 4 hA ok rfl rfl rfl rfl ?_
  | refine w_st 5 hA ok rfl rfl rfl rfl ?_
  | refine w_st 6 hA ok rfl rfl rfl rfl ?_
  | refine w_st 7 hA ok rfl rfl rfl rfl ?_
  | refine w_ldA 0 hA ok rfl rfl rfl ?_
  | refine w_ldA 1 hA ok rfl rfl rfl ?_
  | refine w_ldA 2 hA ok rfl rfl rfl ?_
  | refine w_ldA 3 hA ok rfl rfl rfl ?_
  | refine w_ldA 4 hA ok rfl rfl rfl ?_
  | refine w_ldA 5 hA ok rfl rfl rfl ?_
  | refine w_ldA 6 hA ok rfl rfl rfl ?_
  | refine w_ldA 7 hA ok rfl rfl rfl ?_
  | refine w_stA 0 hA ok rfl rfl rfl rfl ?_
  | refine w_stA 1 hA ok rfl rfl rfl rfl ?_
  | refine w_stA 2 hA ok rfl rfl rfl rfl ?_
  | refine w_stA 3 hA ok rfl rfl rfl rfl ?_
  | refine w_stA 4 hA ok rfl rfl rfl rfl ?_
  | refine w_stA 5 hA ok rfl rfl rfl rfl ?_
  | refine w_stA 6 hA ok rfl rfl rfl rfl ?_
  | refine w_stA 7 hA ok rfl rfl rfl rfl ?_
  | (refine w_Raw hA ?_; intro hA)
  | (refine w_SetRaw hA ?_; intro hA)
  | (refine w_SwapRaw hA ?_; intro hA)
  | (refine w_AddRaw hA ?_; intro hA)
  | (refine w_Load hA ?_; intro hA)
  | (refine w_Store hA ?_; intro hA)
  | (refine w_Retire hA ?_; intro hA)
  | (refine w_Died hA ?_; intro hA)
  | (refine w_Born hA ?_; intro hA)
  | refine w_State hA ?_
  | refine w_Uses hA ?_
  | refine w_Fault hA ?_
  | refine w_Words hA ?_
  | refine w_Count hA ?_
  | refine wq_Size ?_
  | refine wq_Open ?_
  | refine wq_Pack ?_
  | refine wq_head ?_
  | refine w_ck 0 hA ok rfl rfl rfl ?_
  | refine w_ck 1 hA ok rfl rfl rfl ?_
  | refine w_ck 2 hA ok rfl rfl rfl ?_
  | refine w_ck 3 hA ok rfl rfl rfl ?_
  | refine w_ck 4 hA ok rfl rfl rfl ?_
  | refine w_ck 5 hA ok rfl rfl rfl ?_
  | refine w_ck 6 hA ok rfl rfl rfl ?_
  | refine w_ck 7 hA ok rfl rfl rfl ?_
  | refine w_ckn rfl ?_
  | refine w_Base 0 1 hA ok rfl rfl ?_
  | refine w_Base 1 2 hA ok rfl rfl ?_
  | refine w_Base 2 3 hA ok rfl rfl ?_
  | refine w_Base 3 4 hA ok rfl rfl ?_
  | refine w_Base 4 5 hA ok rfl rfl ?_
  | refine w_Base 5 6 hA ok rfl rfl ?_
  | (refine w_PopStep 0 1 hA ok rfl rfl ?_; intro hA)
  | (refine w_PopStep 1 2 hA ok rfl rfl ?_; intro hA)
  | (refine w_PopStep 2 3 hA ok rfl rfl ?_; intro hA)
  | (refine w_PopStep 3 4 hA ok rfl rfl ?_; intro hA)
  | (refine w_PopStep 4 5 hA ok rfl rfl ?_; intro hA)
  | (refine w_PopStep 5 6 hA ok rfl rfl ?_; intro hA)
  | (refine w_PushStep 0 1 hA ok rfl rfl ?_; intro hA)
  | (refine w_PushStep 1 2 hA ok rfl rfl ?_; intro hA)
  | (refine w_PushStep 2 3 hA ok rfl rfl ?_; intro hA)
  | (refine w_PushStep 3 4 hA ok rfl rfl ?_; intro hA)
  | (refine w_PushStep 4 5 hA ok rfl rfl ?_; intro hA)
  | (refine w_PushStep 5 6 hA ok rfl rfl ?_; intro hA)
  | refine wp_true (by assumption) ?_
  | refine wp_false (by assumption) ?_)
      rw [List.append_nil] at ff
      have hp : ((j1.q, oc ty_epoch_Turn ((m.upto (i.toNat + 1)).cells { j1 with ds := s', tds := mid' })) :: (fbl (m.upto i.toNat).frees j1.fj ++ (j1.tls ++ j1.tfs)) ++ (mid' ++ [])).Perm ((m.upto (i.toNat + 1)).bl { j1 with ds := s', tds := mid' }) := by
        unfold Tn.bl
        rw [ff]
        dsimp only
        exact (perm_by fun c d c0 cd ca => by simp only [cd, ca, c0]; omega)
      refine wp_again ⟨i + 1, rfl, ⟨{ j1 with ds := s', tds := mid' }, by omega, by omega, ?_, ?_, rfl, rfl, hls, hfs, ?_, ?_⟩, by omega⟩
      · rw [e2]; exact (own_perm2 (A := A) hp ok).1
      · rw [e2]; exact (own_perm2 (A := A) hp ok).2
      · rw [e2, fl]; exact hs'
      · rw [e2, ff]; exact hfl
  · refine wp_false (decide_eq_false (by show ¬ i < ((j1.ls.len : Nat) : Int); rw [hlen]; exact hi)) ?_
    have ei : i.toNat = m.l.length := by omega
    rw [ei] at hds hfl ok ⊢
    repeat (first
  | refine wp_nil.2 ?_
  | refine w_ld 0 hA ok rfl rfl rfl ?_
  | refine w_ld 1 hA ok rfl rfl rfl ?_
  | refine w_ld 2 hA ok rfl rfl rfl ?_
  | refine w_ld 3 hA ok rfl rfl rfl ?_
  | refine w_ld 4 hA ok rfl rfl rfl ?_
  | refine w_ld 5 hA ok rfl rfl rfl ?_
  | refine w_ld 6 hA ok rfl rfl rfl ?_
  | refine w_ld 7 hA ok rfl rfl rfl ?_
  | refine w_st 0 hA ok rfl rfl rfl rfl ?_
  | refine w_st 1 hA ok rfl rfl rfl rfl ?_
  | refine w_st 2 hA ok rfl rfl rfl rfl ?_
  | refine w_st 3 hA ok rfl rfl rfl rfl ?_
  | refine w_st 4 hA ok rfl rfl rfl rfl ?_
  | refine w_st 5 hA ok rfl rfl rfl rfl ?_
  | refine w_st 6 hA ok rfl rfl rfl rfl ?_
  | refine w_st 7 hA ok rfl rfl rfl rfl ?_
  | refine w_ldA 0 hA ok rfl rfl rfl ?_
  | refine w_ldA 1 hA ok rfl rfl rfl ?_
  | refine w_ldA 2 hA ok rfl rfl rfl ?_
  | refine w_ldA 3 hA ok rfl rfl rfl ?_
  | refine w_ldA 4 hA ok rfl rfl rfl ?_
  | refine w_ldA 5 hA ok rfl rfl rfl ?_
  | refine w_ldA 6 hA ok rfl rfl rfl ?_
  | refine w_ldA 7 hA ok rfl rfl rfl ?_
  | refine w_stA 0 hA ok rfl rfl rfl rfl ?_
  | refine w_stA 1 hA ok rfl rfl rfl rfl ?_
  | refine w_stA 2 hA ok rfl rfl rfl rfl ?_
  | refine w_stA 3 hA ok rfl rfl rfl rfl ?_
  | refine w_stA 4 hA ok rfl rfl rfl rfl ?_
  | refine w_stA 5 hA ok rfl rfl rfl rfl ?_
  | refine w_stA 6 hA ok rfl rfl rfl rfl ?_
  | refine w_stA 7 hA ok rfl rfl rfl rfl ?_
  | (refine w_Raw hA ?_; intro hA)
  | (refine w_SetRaw hA ?_; intro hA)
  | (refine w_SwapRaw hA ?_; intro hA)
  | (refine w_AddRaw hA ?_; intro hA)
  | (refine w_Load hA ?_; intro hA)
  | (refine w_Store hA ?_; intro hA)
  | (refine w_Retire hA ?_; intro hA)
  | (refine w_Died hA ?_; intro hA)
  | (refine w_Born hA ?_; intro hA)
  | refine w_State hA ?_
  | refine w_Uses hA ?_
  | refine w_Fault hA ?_
  | refine w_Words hA ?_
  | refine w_Count hA ?_
  | refine wq_Size ?_
  | refine wq_Open ?_
  | refine wq_Pack ?_
  | refine wq_head ?_
  | refine w_ck 0 hA ok rfl rfl rfl ?_
  | refine w_ck 1 hA ok rfl rfl rfl ?_
  | refine w_ck 2 hA ok rfl rfl rfl ?_
  | refine w_ck 3 hA ok rfl rfl rfl ?_
  | refine w_ck 4 hA ok rfl rfl rfl ?_
  | refine w_ck 5 hA ok rfl rfl rfl ?_
  | refine w_ck 6 hA ok rfl rfl rfl ?_
  | refine w_ck 7 hA ok rfl rfl rfl ?_
  | refine w_ckn rfl ?_
  | refine w_Base 0 1 hA ok rfl rfl ?_
  | refine w_Base 1 2 hA ok rfl rfl ?_
  | refine w_Base 2 3 hA ok rfl rfl ?_
  | refine w_Base 3 4 hA ok rfl rfl ?_
  | refine w_Base 4 5 hA ok rfl rfl ?_
  | refine w_Base 5 6 hA ok rfl rfl ?_
  | (refine w_PopStep 0 1 hA ok rfl rfl ?_; intro hA)
  | (refine w_PopStep 1 2 hA ok rfl rfl ?_; intro hA)
  | (refine w_PopStep 2 3 hA ok rfl rfl ?_; intro hA)
  | (refine w_PopStep 3 4 hA ok rfl rfl ?_; intro hA)
  | (refine w_PopStep 4 5 hA ok rfl rfl ?_; intro hA)
  | (refine w_PopStep 5 6 hA ok rfl rfl ?_; intro hA)
  | (refine w_PushStep 0 1 hA ok rfl rfl ?_; intro hA)
  | (refine w_PushStep 1 2 hA ok rfl rfl ?_; intro hA)
  | (refine w_PushStep 2 3 hA ok rfl rfl ?_; intro hA)
  | (refine w_PushStep 3 4 hA ok rfl rfl ?_; intro hA)
  | (refine w_PushStep 4 5 hA ok rfl rfl ?_; intro hA)
  | (refine w_PushStep 5 6 hA ok rfl rfl ?_; intro hA)
  | refine wp_true (by assumption) ?_
  | refine wp_false (by assumption) ?_)
    have hfl2 := hfs.len
    rw [List.length_map, ← hfl] at hfl2
    by_cases hz : (m.upto m.l.length).frees = []
    · refine wp_true (ibeq (by show ((j1.fs.len : Nat) : Int) = 0; rw [hfl2, hz]; rfl)) ?_
      repeat (first
  | refine wp_nil.2 ?_
  | refine w_ld 0 hA ok rfl rfl rfl ?_
  | refine w_ld 1 hA ok rfl rfl rfl ?_
  | refine w_ld 2 hA ok rfl rfl rfl ?_
  | refine w_ld 3 hA ok rfl rfl rfl ?_
  | refine w_ld 4 hA ok rfl rfl rfl ?_
  | refine w_ld 5 hA ok rfl rfl rfl ?_
  | refine w_ld 6 hA ok rfl rfl rfl ?_
  | refine w_ld 7 hA ok rfl rfl rfl ?_
  | refine w_st 0 hA ok rfl rfl rfl rfl ?_
  | refine w_st 1 hA ok rfl rfl rfl rfl ?_
  | refine w_st 2 hA ok rfl rfl rfl rfl ?_
  | refine w_st 3 hA ok rfl rfl rfl rfl ?_
  | refine w_st 4 hA ok rfl rfl rfl rfl ?_
  | refine w_st 5 hA ok rfl rfl rfl rfl ?_
  | refine w_st 6 hA ok rfl rfl rfl rfl ?_
  | refine w_st 7 hA ok rfl rfl rfl rfl ?_
  | refine w_ldA 0 hA ok rfl rfl rfl ?_
  | refine w_ldA 1 hA ok rfl rfl rfl ?_
  | refine w_ldA 2 hA ok rfl rfl rfl ?_
  | refine w_ldA 3 hA ok rfl rfl rfl ?_
  | refine w_ldA 4 hA ok rfl rfl rfl ?_
  | refine w_ldA 5 hA ok rfl rfl rfl ?_
  | refine w_ldA 6 hA ok rfl rfl rfl ?_
  | refine w_ldA 7 hA ok rfl rfl rfl ?_
  | refine w_stA 0 hA ok rfl rfl rfl rfl ?_
  | refine w_stA 1 hA ok rfl rfl rfl rfl ?_
  | refine w_stA 2 hA ok rfl rfl rfl rfl ?_
  | refine w_stA 3 hA ok rfl rfl rfl rfl ?_
  | refine w_stA 4 hA ok rfl rfl rfl rfl ?_
  | refine w_stA 5 hA ok rfl rfl rfl rfl ?_
  | refine w_stA 6 hA ok rfl rfl rfl rfl ?_
  | refine w_stA 7 hA ok rfl rfl rfl rfl ?_
  | (refine w_Raw hA ?_; intro hA)
  | (refine w_SetRaw hA ?_; intro hA)
  | (refine w_SwapRaw hA ?_; intro hA)
  | (refine w_AddRaw hA ?_; intro hA)
  | (refine w_Load hA ?_; intro hA)
  | (refine w_Store hA ?_; intro hA)
  | (refine w_Retire hA ?_; intro hA)
  | (refine w_Died hA ?_; intro hA)
  | (refine w_Born hA ?_; intro hA)
  | refine w_State hA ?_
  | refine w_Uses hA ?_
  | refine w_Fault hA ?_
  | refine w_Words hA ?_
  | refine w_Count hA ?_
  | refine wq_Size ?_
  | refine wq_Open ?_
  | refine wq_Pack ?_
  | refine wq_head ?_
  | refine w_ck 0 hA ok rfl rfl rfl ?_
  | refine w_ck 1 hA ok rfl rfl rfl ?_
  | refine w_ck 2 hA ok rfl rfl rfl ?_
  | refine w_ck 3 hA ok rfl rfl rfl ?_
  | refine w_ck 4 hA ok rfl rfl rfl ?_
  | refine w_ck 5 hA ok rfl rfl rfl ?_
  | refine w_ck 6 hA ok rfl rfl rfl ?_
  | refine w_ck 7 hA ok rfl rfl rfl ?_
  | refine w_ckn rfl ?_
  | refine w_Base 0 1 hA ok rfl rfl ?_
  | refine w_Base 1 2 hA ok rfl rfl ?_
  | refine w_Base 2 3 hA ok rfl rfl ?_
  | refine w_Base 3 4 hA ok rfl rfl ?_
  | refine w_Base 4 5 hA ok rfl rfl ?_
  | refine w_Base 5 6 hA ok rfl rfl ?_
  | (refine w_PopStep 0 1 hA ok rfl rfl ?_; intro hA)
  | (refine w_PopStep 1 2 hA ok rfl rfl ?_; intro hA)
  | (refine w_PopStep 2 3 hA ok rfl rfl ?_; intro hA)
  | (refine w_PopStep 3 4 hA ok rfl rfl ?_; intro hA)
  | (refine w_PopStep 4 5 hA ok rfl rfl ?_; intro hA)
  | (refine w_PopStep 5 6 hA ok rfl rfl ?_; intro hA)
  | (refine w_PushStep 0 1 hA ok rfl rfl ?_; intro hA)
  | (refine w_PushStep 1 2 hA ok rfl rfl ?_; intro hA)
  | (refine w_PushStep 2 3 hA ok rfl rfl ?_; intro hA)
  | (refine w_PushStep 3 4 hA ok rfl rfl ?_; intro hA)
  | (refine w_PushStep 4 5 hA ok rfl rfl ?_; intro hA)
  | (refine w_PushStep 5 6 hA ok rfl rfl ?_; intro hA)
  | refine wp_true (by assumption) ?_
  | refine wp_false (by assumption) ?_)
      have ep : m.sort.ph = 4 := if_pos hz
      refine wp_ret_of ⟨j1, rfl, ?_, rfl, ok, ⟨hls, hfs.at', hds, hfl, fun h => by rw [ep] at h; omega⟩⟩
      have key : m.sort.cells j1 = tnC m.tw m.ta m.pl m.work m.e m.word j1.ls j1.fs j1.ds (tnNext j1.q 4) := by unfold Tn.cells; rw [ep]; rfl
      rw [key]; rfl
    · refine wp_false (ibef (by show ((j1.fs.len : Nat) : Int) ≠ 0; rw [hfl2]; have := List.length_pos_iff.2 hz; omega)) ?_
      have ep : m.sort.ph = 3 := if_neg hz
      refine wp_ret_of ⟨j1, rfl, ?_, rfl, ok, ⟨hls, hfs.at', hds, hfl, fun h => by rw [ep] at h; omega⟩⟩
      have key : m.sort.cells j1 = tnC m.tw m.ta m.pl m.work m.e m.word j1.ls j1.fs j1.ds (tnNext j1.q 3) := by unfold Tn.cells; rw [ep]; rfl
      rw [key]; rfl
end
end Go.Proofs.Ytfphgiipekkgdaa

set_option linter.unusedVariables false
set_option linter.unusedSimpArgs false
set_option maxRecDepth 20000
namespace Go.Proofs.Ytfphgiipekkgdaa
open Go Go.Fw

def Tn.step (m : Tn) (A : Ar) : Tn × Ar :=
  if m.ph = 0 then ({ m with e := A.rawF m.ta, ph := if m.tw < 1 then 2 else 1 }, A.touchR m.ta)
  else if m.ph = 1 then
    (if A.rawF (ewd m.ta m.word) ≠ 0 ∧ A.rawF (ewd m.ta m.word) ≠ w64 (m.e + 1) then Tn.sort { m with word := w64 (m.word + 1) }
     else { m with word := w64 (m.word + 1), ph := if w64 (m.word + 1) = m.tw then 2 else 1 }, A.touchR (ewd m.ta m.word))
  else if m.ph = 2 then ((if A.swapRb m.ta m.e = true then Tn.sort { m with e := w64 (m.e + 1) } else m.sort), A.swapR m.ta m.e (w64 (m.e + 1)))
  else if m.ph = 3 then match m.frees with
    | [] => (m, A)
    | f :: fs => if (f.step A).1.done = true then ({ m with frees := fs, ph := if fs = [] then 4 else 3 }, (f.step A).2) else ({ m with frees := (f.step A).1 :: fs }, (f.step A).2)
  else (m, A)
structure Tn.inv (m : Tn) (A : Ar) : Prop where
  ll : m.l.length ≤ 1000
  un : m.ph ≤ 2 → m.frees = [] ∧ m.left = []
  fr : m.ph = 3 → m.frees ≠ []
def mTn : MchR Tn TnJ where
  f := f_epoch_Turn_Step
  addr := TnJ.q
  bl := Tn.bl
  rep := Tn.rep
  inv := Tn.inv
  step := Tn.step
  fin := fun m => decide (4 ≤ m.ph)
theorem mTn_inv : mTn.inv' ty_p_epoch_Turn := fun q p => by
  show opS _ _ _ _ = .pure (.enter f_epoch_Turn_Step [.pointer (some ⟨q, 0, none⟩), .pointer p].toArray)
  kernel_rfl
theorem tneq (q : Nat) : ∀ ph : Nat, opS Try.prog (.binOp .neq ty_epoch_step (.tmp 0) (.const .nilFunc) ty_epoch_step) ty_bool [tnNext q ph] = .pure (.value (.bool (decide (ph < 4))))
  | 0 => fneq _ _
  | 1 => fneq _ _
  | 2 => fneq _ _
  | 3 => fneq _ _
  | n + 4 => by rw [decide_eq_false (by omega)]; exact fneq0
theorem teq (q : Nat) : ∀ ph : Nat, opS Try.prog (.binOp .eql ty_epoch_step (.tmp 0) (.const .nilFunc) ty_epoch_step) ty_bool [tnNext q ph] = .pure (.value (.bool (decide (4 ≤ ph))))
  | 0 => feq _ _
  | 1 => feq _ _
  | 2 => feq _ _
  | 3 => feq _ _
  | n + 4 => by rw [decide_eq_true (by omega)]; exact feq0

section
variable {L : Hands} {R : Value → Heap → Prop} {A : Ar} {I : List Nat} {l : Bl} {G : Heap}

def TPost (I : List Nat) (G : Heap) (j : TnJ) (m1 : Tn) (A1 : Ar) : Value → Heap → Prop := fun v K => ∃ j' : TnJ, v = .tuple #[] ∧ K = own A1 (m1.bl j') G ∧ j'.q = j.q ∧ Ok I G (keys (m1.bl j')) ∧ m1.rep j' ∧ Aw I A1

theorem tglobal_spec (m : Tn) (j : TnJ) (hA : Aw I A) (ok : Ok I G (keys (m.bl j))) (rp : m.rep j) (hp : m.ph = 0) :
    SpecF Try.prog f_epoch_Turn_global #[.pointer (some ⟨j.q, 0, none⟩), .pointer (aI I)] (own A (m.bl j) G) (TPost I G j { m with e := A.rawF m.ta, ph := if m.tw < 1 then 2 else 1 } (A.touchR m.ta)) := by
  refine t_epoch_Turn_global_spec fun L => ?_
  unfold t_epoch_Turn_global
  unfold Tn.bl at ok ⊢
  repeat (first
  | refine wp_nil.2 ?_
  | refine w_ld 0 hA ok rfl rfl rfl ?_
  | refine w_ld 1 hA ok rfl rfl rfl ?_
  | refine w_ld 2 hA ok rfl rfl rfl ?_
  | refine w_ld 3 hA ok rfl rfl rfl ?_
  | refine w_ld 4 hA ok rfl rfl rfl ?_
  | refine w_ld 5 hA ok rfl rfl rfl ?_
  | refine w_ld 6 hA ok rfl rfl rfl ?_
  | refine w_ld 7 hA ok rfl rfl rfl ?_
  | refine w_st 0 hA ok rfl rfl rfl rfl ?_
  | refine w_st 1 hA ok rfl rfl rfl rfl ?_
  | refine w_st 2 hA ok rfl rfl rfl rfl ?_
  | refine w_st 3 hA ok rfl rfl rfl rfl ?_
  | refine w_st 4 hA ok rfl rfl rfl rfl ?_
  | refine w_st 5 hA ok rfl rfl rfl rfl ?_
  | refine w_st 6 hA ok rfl rfl rfl rfl ?_
  | refine w_st 7 hA ok rfl rfl rfl rfl ?_
  | refine w_ldA 0 hA ok rfl rfl rfl ?_
  | refine w_ldA 1 hA ok rfl rfl rfl ?_
  | refine w_ldA 2 hA ok rfl rfl rfl ?_
  | refine w_ldA 3 hA ok rfl rfl rfl ?_
  | refine w_ldA 4 hA ok rfl rfl rfl ?_
  | refine w_ldA 5 hA ok rfl rfl rfl ?_
  | refine w_ldA 6 hA ok rfl rfl rfl ?_
  | refine w_ldA 7 hA ok rfl rfl rfl ?_
  | refine w_stA 0 hA ok rfl rfl rfl rfl ?_
  | refine w_stA 1 hA ok rfl rfl rfl rfl ?_
  | refine w_stA 2 hA ok rfl rfl rfl rfl ?_
  | refine w_stA 3 hA ok rfl rfl rfl rfl ?_
  | refine w_stA 4 hA ok rfl rfl rfl rfl ?_
  | refine w_stA 5 hA ok rfl rfl rfl rfl ?_
  | refine w_stA 6 hA ok rfl rfl rfl rfl ?_
  | refine w_stA 7 hA ok rfl rfl rfl rfl ?_
  | (refine w_Raw hA ?_; intro hA)
  | (refine w_SetRaw hA ?_; intro hA)
  | (refine w_SwapRaw hA ?_; intro hA)
  | (refine w_AddRaw hA ?_; intro hA)
  | (refine w_Load hA ?_; intro hA)
  | (refine w_Store hA ?_; intro hA)
  | (refine w_Retire hA ?_; intro hA)
  | (refine w_Died hA ?_; intro hA)
  | (refine w_Born hA ?_; intro hA)
  | refine w_State hA ?_
  | refine w_Uses hA ?_
  | refine w_Fault hA ?_
  | refine w_Words hA ?_
  | refine w_Count hA ?_
  | refine wq_Size ?_
  | refine wq_Open ?_
  | refine wq_Pack ?_
  | refine wq_head ?_
  | refine w_ck 0 hA ok rfl rfl rfl ?_
  | refine w_ck 1 hA ok rfl rfl rfl ?_
  | refine w_ck 2 hA ok rfl rfl rfl ?_
  | refine w_ck 3 hA ok rfl rfl rfl ?_
  | refine w_ck 4 hA ok rfl rfl rfl ?_
  | refine w_ck 5 hA ok rfl rfl rfl ?_
  | refine w_ck 6 hA ok rfl rfl rfl ?_
  | refine w_ck 7 hA ok rfl rfl rfl ?_
  | refine w_ckn rfl ?_
  | refine w_Base 0 1 hA ok rfl rfl ?_
  | refine w_Base 1 2 hA ok rfl rfl ?_
  | refine w_Base 2 3 hA ok rfl rfl ?_
  | refine w_Base 3 4 hA ok rfl rfl ?_
  | refine w_Base 4 5 hA ok rfl rfl ?_
  | refine w_Base 5 6 hA ok rfl rfl ?_
  | (refine w_PopStep 0 1 hA ok rfl rfl ?_; intro hA)
  | (refine w_PopStep 1 2 hA ok rfl rfl ?_; intro hA)
  | (refine w_PopStep 2 3 hA ok rfl rfl ?_; intro hA)
  | (refine w_PopStep 3 4 hA ok rfl rfl ?_; intro hA)
  | (refine w_PopStep 4 5 hA ok rfl rfl ?_; intro hA)
  | (refine w_PopStep 5 6 hA ok rfl rfl ?_; intro hA)
  | (refine w_PushStep 0 1 hA ok rfl rfl ?_; intro hA)
  | (refine w_PushStep 1 2 hA ok rfl rfl ?_; intro hA)
  | (refine w_PushStep 2 3 hA ok rfl rfl ?_; intro hA)
  | (refine w_PushStep 3 4 hA ok rfl rfl ?_; intro hA)
  | (refine w_PushStep 4 5 hA ok rfl rfl ?_; intro hA)
  | (refine w_PushStep 5 6 hA ok rfl rfl ?_; intro hA)
  | refine wp_true (by assumption) ?_
  | refine wp_false (by assumption) ?_)
  refine wq_Global ?_
  repeat (first
  | refine wp_nil.2 ?_
  | refine w_ld 0 hA ok rfl rfl rfl ?_
  | refine w_ld 1 hA ok rfl rfl rfl ?_
  | refine w_ld 2 hA ok rfl rfl rfl ?_
  | refine w_ld 3 hA ok rfl rfl rfl ?_
  | refine w_ld 4 hA ok rfl rfl rfl ?_
  | refine w_ld 5 hA ok rfl rfl rfl ?_
  | refine w_ld 6 hA ok rfl rfl rfl ?_
  | refine w_ld 7 hA ok rfl rfl rfl ?_
  | refine w_st 0 hA ok rfl rfl rfl rfl ?_
  | refine w_st 1 hA ok rfl rfl rfl rfl ?_
  | refine w_st 2 hA ok rfl rfl rfl rfl ?_
  | refine w_st 3 hA ok rfl rfl rfl rfl ?_
  | refine w_st 4 hA ok rfl rfl rfl rfl ?_
  | refine w_st 5 hA ok rfl rfl rfl rfl ?_
  | refine w_st 6 hA ok rfl rfl rfl rfl ?_
  | refine w_st 7 hA ok rfl rfl rfl rfl ?_
  | refine w_ldA 0 hA ok rfl rfl rfl ?_
  | refine w_ldA 1 hA ok rfl rfl rfl ?_
  | refine w_ldA 2 hA ok rfl rfl rfl ?_
  | refine w_ldA 3 hA ok rfl rfl rfl ?_
  | refine w_ldA 4 hA ok rfl rfl rfl ?_
  | refine w_ldA 5 hA ok rfl rfl rfl ?_
  | refine w_ldA 6 hA ok rfl rfl rfl ?_
  | refine w_ldA 7 hA ok rfl rfl rfl ?_
  | refine w_stA 0 hA ok rfl rfl rfl rfl ?_
  | refine w_stA 1 hA ok rfl rfl rfl rfl ?_
  | refine w_stA 2 hA ok rfl rfl rfl rfl ?_
  | refine w_stA 3 hA ok rfl rfl rfl rfl ?_
  | refine w_stA 4 hA ok rfl rfl rfl rfl ?_
  | refine w_stA 5 hA ok rfl rfl rfl rfl ?_
  | refine w_stA 6 hA ok rfl rfl rfl rfl ?_
  | refine w_stA 7 hA ok rfl rfl rfl rfl ?_
  | (refine w_Raw hA ?_; intro hA)
  | (refine w_SetRaw hA ?_; intro hA)
  | (refine w_SwapRaw hA ?_; intro hA)
  | (refine w_AddRaw hA ?_; intro hA)
  | (refine w_Load hA ?_; intro hA)
  | (refine w_Store hA ?_; intro hA)
  | (refine w_Retire hA ?_; intro hA)
  | (refine w_Died hA ?_; intro hA)
  | (refine w_Born hA ?_; intro hA)
  | refine w_State hA ?_
  | refine w_Uses hA ?_
  | refine w_Fault hA ?_
  | refine w_Words hA ?_
  | refine w_Count hA ?_
  | refine wq_Size ?_
  | refine wq_Open ?_
  | refine wq_Pack ?_
  | refine wq_head ?_
  | refine w_ck 0 hA ok rfl rfl rfl ?_
  | refine w_ck 1 hA ok rfl rfl rfl ?_
  | refine w_ck 2 hA ok rfl rfl rfl ?_
  | refine w_ck 3 hA ok rfl rfl rfl ?_
  | refine w_ck 4 hA ok rfl rfl rfl ?_
  | refine w_ck 5 hA ok rfl rfl rfl ?_
  | refine w_ck 6 hA ok rfl rfl rfl ?_
  | refine w_ck 7 hA ok rfl rfl rfl ?_
  | refine w_ckn rfl ?_
  | refine w_Base 0 1 hA ok rfl rfl ?_
  | refine w_Base 1 2 hA ok rfl rfl ?_
  | refine w_Base 2 3 hA ok rfl rfl ?_
  | refine w_Base 3 4 hA ok rfl rfl ?_
  | refine w_Base 4 5 hA ok rfl rfl ?_
  | refine w_Base 5 6 hA ok rfl rfl ?_
  | (refine w_PopStep 0 1 hA ok rfl rfl ?_; intro hA)
  | (refine w_PopStep 1 2 hA ok rfl rfl ?_; intro hA)
  | (refine w_PopStep 2 3 hA ok rfl rfl ?_; intro hA)
  | (refine w_PopStep 3 4 hA ok rfl rfl ?_; intro hA)
  | (refine w_PopStep 4 5 hA ok rfl rfl ?_; intro hA)
  | (refine w_PopStep 5 6 hA ok rfl rfl ?_; intro hA)
  | (refine w_PushStep 0 1 hA ok rfl rfl ?_; intro hA)
  | (refine w_PushStep 1 2 hA ok rfl rfl ?_; intro hA)
  | (refine w_PushStep 2 3 hA ok rfl rfl ?_; intro hA)
  | (refine w_PushStep 3 4 hA ok rfl rfl ?_; intro hA)
  | (refine w_PushStep 4 5 hA ok rfl rfl ?_; intro hA)
  | (refine w_PushStep 5 6 hA ok rfl rfl ?_; intro hA)
  | refine wp_true (by assumption) ?_
  | refine wp_false (by assumption) ?_)
  by_cases c : m.tw < 1
  · refine wp_true (decide_eq_true c) ?_
    repeat (first
  | refine wp_nil.2 ?_
  | refine w_ld 0 hA ok rfl rfl rfl ?_
  | refine w_ld 1 hA ok rfl rfl rfl ?_
  | refine w_ld 2 hA ok rfl rfl rfl ?_
  | refine w_ld 3 hA ok rfl rfl rfl ?_
  | refine w_ld 4 hA ok rfl rfl rfl ?_
  | refine w_ld 5 hA ok rfl rfl rfl ?_
  | refine w_ld 6 hA ok rfl rfl rfl ?_
  | refine w_ld 7 hA ok rfl rfl rfl ?_
  | refine w_st 0 hA ok rfl rfl rfl rfl ?_
  | refine w_st 1 hA ok rfl rfl rfl rfl ?_
  | refine w_st 2 hA ok rfl rfl rfl rfl ?_
  | refine w_st 3 hA ok rfl rfl rfl rfl ?_
  | refine w_st 4 hA ok rfl rfl rfl rfl ?_
  | refine w_st 5 hA ok rfl rfl rfl rfl ?_
  | refine w_st 6 hA ok rfl rfl rfl rfl ?_
  | refine w_st 7 hA ok rfl rfl rfl rfl ?_
  | refine w_ldA 0 hA ok rfl rfl rfl ?_
  | refine w_ldA 1 hA ok rfl rfl rfl ?_
  | refine w_ldA 2 hA ok rfl rfl rfl ?_
  | refine w_ldA 3 hA ok rfl rfl rfl ?_
  | refine w_ldA 4 hA ok rfl rfl rfl ?_
  | refine w_ldA 5 hA ok rfl rfl rfl ?_
  | refine w_ldA 6 hA ok rfl rfl rfl ?_
  | refine w_ldA 7 hA ok rfl rfl rfl ?_
  | refine w_stA 0 hA ok rfl rfl rfl rfl ?_
  | refine w_stA 1 hA ok rfl rfl rfl rfl ?_
  | refine w_stA 2 hA ok rfl rfl rfl rfl ?_
  | refine w_stA 3 hA ok rfl rfl rfl rfl ?_
  | refine w_stA 4 hA ok rfl rfl rfl rfl ?_
  | refine w_stA 5 hA ok rfl rfl rfl rfl ?_
  | refine w_stA 6 hA ok rfl rfl rfl rfl ?_
  | refine w_stA 7 hA ok rfl rfl rfl rfl ?_
  | (refine w_Raw hA ?_; intro hA)
  | (refine w_SetRaw hA ?_; intro hA)
  | (refine w_SwapRaw hA ?_; intro hA)
  | (refine w_AddRaw hA ?_; intro hA)
  | (refine w_Load hA ?_; intro hA)
  | (refine w_Store hA ?_; intro hA)
  | (refine w_Retire hA ?_; intro hA)
  | (refine w_Died hA ?_; intro hA)
  | (refine w_Born hA ?_; intro hA)
  | refine w_State hA ?_
  | refine w_Uses hA ?_
  | refine w_Fault hA ?_
  | refine w_Words hA ?_
  | refine w_Count hA ?_
  | refine wq_Size ?_
  | refine wq_Open ?_
  | refine wq_Pack ?_
  | refine wq_head ?_
  | refine w_ck 0 hA ok rfl rfl rfl ?_
  | refine w_ck 1 hA ok rfl rfl rfl ?_
  | refine w_ck 2 hA ok rfl rfl rfl ?_
  | refine w_ck 3 hA ok rfl rfl rfl ?_
  | refine w_ck 4 hA ok rfl rfl rfl ?_
  | refine w_ck 5 hA ok rfl rfl rfl ?_
  | refine w_ck 6 hA ok rfl rfl rfl ?_
  | refine w_ck 7 hA ok rfl rfl rfl ?_
  | refine w_ckn rfl ?_
  | refine w_Base 0 1 hA ok rfl rfl ?_
  | refine w_Base 1 2 hA ok rfl rfl ?_
  | refine w_Base 2 3 hA ok rfl rfl ?_
  | refine w_Base 3 4 hA ok rfl rfl ?_
  | refine w_Base 4 5 hA ok rfl rfl ?_
  | refine w_Base 5 6 hA ok rfl rfl ?_
  | (refine w_PopStep 0 1 hA ok rfl rfl ?_; intro hA)
  | (refine w_PopStep 1 2 hA ok rfl rfl ?_; intro hA)
  | (refine w_PopStep 2 3 hA ok rfl rfl ?_; intro hA)
  | (refine w_PopStep 3 4 hA ok rfl rfl ?_; intro hA)
  | (refine w_PopStep 4 5 hA ok rfl rfl ?_; intro hA)
  | (refine w_PopStep 5 6 hA ok rfl rfl ?_; intro hA)
  | (refine w_PushStep 0 1 hA ok rfl rfl ?_; intro hA)
  | (refine w_PushStep 1 2 hA ok rfl rfl ?_; intro hA)
  | (refine w_PushStep 2 3 hA ok rfl rfl ?_; intro hA)
  | (refine w_PushStep 3 4 hA ok rfl rfl ?_; intro hA)
  | (refine w_PushStep 4 5 hA ok rfl rfl ?_; intro hA)
  | (refine w_PushStep 5 6 hA ok rfl rfl ?_; intro hA)
  | refine wp_true (by assumption) ?_
  | refine wp_false (by assumption) ?_)
    refine wp_ret_of ⟨j, rfl, ?_, rfl, ok, ⟨rp.ls, rp.fs, rp.ds, rp.fl, fun _ => rp.un (by omega)⟩, hA⟩
    rw [if_pos c]; rfl
  · refine wp_false (decide_eq_false c) ?_
    refine wp_ret_of ⟨j, rfl, ?_, rfl, ok, ⟨rp.ls, rp.fs, rp.ds, rp.fl, fun _ => rp.un (by omega)⟩, hA⟩
    rw [if_neg c]; rfl

set_option maxHeartbeats 2000000 in
theorem tlook_spec (m : Tn) (j : TnJ) (hA : Aw I A) (ok : Ok I G (keys (m.bl j))) (rp : m.rep j) (hp : m.ph = 1) (hf : m.frees = []) (hd : m.left = []) (hl : m.l.length ≤ 1000) :
    SpecF Try.prog f_epoch_Turn_look #[.pointer (some ⟨j.q, 0, none⟩), .pointer (aI I)] (own A (m.bl j) G) (TPost I G j
      (if A.rawF (ewd m.ta m.word) ≠ 0 ∧ A.rawF (ewd m.ta m.word) ≠ w64 (m.e + 1) then Tn.sort { m with word := w64 (m.word + 1) }
       else { m with word := w64 (m.word + 1), ph := if w64 (m.word + 1) = m.tw then 2 else 1 }) (A.touchR (ewd m.ta m.word))) := by
  refine t_epoch_Turn_look_spec fun L => ?_
  unfold t_epoch_Turn_look
  unfold Tn.bl at ok ⊢
  repeat (first
  | refine wp_nil.2 ?_
  | refine w_ld 0 hA ok rfl rfl rfl ?_
  | refine w_ld 1 hA ok rfl rfl rfl ?_
  | refine w_ld 2 hA ok rfl rfl rfl ?_
  | refine w_ld 3 hA ok rfl rfl rfl ?_
  | refine w_ld 4 hA ok rfl rfl rfl ?_
  | refine w_ld 5 hA ok rfl rfl rfl ?_
  | refine w_ld 6 hA ok rfl rfl rfl ?_
  | refine w_ld 7 hA ok rfl rfl rfl ?_
  | refine w_st 0 hA ok rfl rfl rfl rfl ?_
  | refine w_st 1 hA ok rfl rfl rfl rfl ?_
  | refine w_st 2 hA ok rfl rfl rfl rfl ?_
  | refine w_st 3 hA ok rfl rfl rfl rfl ?_
  | refine w_st 4 hA ok rfl rfl rfl rfl ?_
  | refine w_st 5 hA ok rfl rfl rfl rfl ?_
  | refine w_st 6 hA ok rfl rfl rfl rfl ?_
  | refine w_st 7 hA ok rfl rfl rfl rfl ?_
  | refine w_ldA 0 hA ok rfl rfl rfl ?_
  | refine w_ldA 1 hA ok rfl rfl rfl ?_
  | refine w_ldA 2 hA ok rfl rfl rfl ?_
  | refine w_ldA 3 hA ok rfl rfl rfl ?_
  | refine w_ldA 4 hA ok rfl rfl rfl ?_
  | refine w_ldA 5 hA ok rfl rfl rfl ?_
  | refine w_ldA 6 hA ok rfl rfl rfl ?_
  | refine w_ldA 7 hA ok rfl rfl rfl ?_
  | refine w_stA 0 hA ok rfl rfl rfl rfl ?_
  | refine w_stA 1 hA ok rfl rfl rfl rfl ?_
  | refine w_stA 2 hA ok rfl rfl rfl rfl ?_
  | refine w_stA 3 hA ok rfl rfl rfl rfl ?_
  | refine w_stA 4 hA ok rfl rfl rfl rfl ?_
  | refine w_stA 5 hA ok rfl rfl rfl rfl ?_
  | refine w_stA 6 hA ok rfl rfl rfl rfl ?_
  | refine w_stA 7 hA ok rfl rfl rfl rfl ?_
  | (refine w_Raw hA ?_; intro hA)
  | (refine w_SetRaw hA ?_; intro hA)
  | (refine w_SwapRaw hA ?_; intro hA)
  | (refine w_AddRaw hA ?_; intro hA)
  | (refine w_Load hA ?_; intro hA)
  | (refine w_Store hA ?_; intro hA)
  | (refine w_Retire hA ?_; intro hA)
  | (refine w_Died hA ?_; intro hA)
  | (refine w_Born hA ?_; intro hA)
  | refine w_State hA ?_
  | refine w_Uses hA ?_
  | refine w_Fault hA ?_
  | refine w_Words hA ?_
  | refine w_Count hA ?_
  | refine wq_Size ?_
  | refine wq_Open ?_
  | refine wq_Pack ?_
  | refine wq_head ?_
  | refine w_ck 0 hA ok rfl rfl rfl ?_
  | refine w_ck 1 hA ok rfl rfl rfl ?_
  | refine w_ck 2 hA ok rfl rfl rfl ?_
  | refine w_ck 3 hA ok rfl rfl rfl ?_
  | refine w_ck 4 hA ok rfl rfl rfl ?_
  | refine w_ck 5 hA ok rfl rfl rfl ?_
  | refine w_ck 6 hA ok rfl rfl rfl ?_
  | refine w_ck 7 hA ok rfl rfl rfl ?_
  | refine w_ckn rfl ?_
  | refine w_Base 0 1 hA ok rfl rfl ?_
  | refine w_Base 1 2 hA ok rfl rfl ?_
  | refine w_Base 2 3 hA ok rfl rfl ?_
  | refine w_Base 3 4 hA ok rfl rfl ?_
  | refine w_Base 4 5 hA ok rfl rfl ?_
  | refine w_Base 5 6 hA ok rfl rfl ?_
  | (refine w_PopStep 0 1 hA ok rfl rfl ?_; intro hA)
  | (refine w_PopStep 1 2 hA ok rfl rfl ?_; intro hA)
  | (refine w_PopStep 2 3 hA ok rfl rfl ?_; intro hA)
  | (refine w_PopStep 3 4 hA ok rfl rfl ?_; intro hA)
  | (refine w_PopStep 4 5 hA ok rfl rfl ?_; intro hA)
  | (refine w_PopStep 5 6 hA ok rfl rfl ?_; intro hA)
  | (refine w_PushStep 0 1 hA ok rfl rfl ?_; intro hA)
  | (refine w_PushStep 1 2 hA ok rfl rfl ?_; intro hA)
  | (refine w_PushStep 2 3 hA ok rfl rfl ?_; intro hA)
  | (refine w_PushStep 3 4 hA ok rfl rfl ?_; intro hA)
  | (refine w_PushStep 4 5 hA ok rfl rfl ?_; intro hA)
  | (refine w_PushStep 5 6 hA ok rfl rfl ?_; intro hA)
  | refine wp_true (by assumption) ?_
  | refine wp_false (by assumption) ?_)
  refine wq_EWord ?_
  repeat (first
  | refine wp_nil.2 ?_
  | refine w_ld 0 hA ok rfl rfl rfl ?_
  | refine w_ld 1 hA ok rfl rfl rfl ?_
  | refine w_ld 2 hA ok rfl rfl rfl ?_
  | refine w_ld 3 hA ok rfl rfl rfl ?_
  | refine w_ld 4 hA ok rfl rfl rfl ?_
  | refine w_ld 5 hA ok rfl rfl rfl ?_
  | refine w_ld 6 hA ok rfl rfl rfl ?_
  | refine w_ld 7 hA ok rfl rfl rfl ?_
  | refine w_st 0 hA ok rfl rfl rfl rfl ?_
  | refine w_st 1 hA ok rfl rfl rfl rfl ?_
  | refine w_st 2 hA ok rfl rfl rfl rfl ?_
  | refine w_st 3 hA ok rfl rfl rfl rfl ?_
  | refine w_st 4 hA ok rfl rfl rfl rfl ?_
  | refine w_st 5 hA ok rfl rfl rfl rfl ?_
  | refine w_st 6 hA ok rfl rfl rfl rfl ?_
  | refine w_st 7 hA ok rfl rfl rfl rfl ?_
  | refine w_ldA 0 hA ok rfl rfl rfl ?_
  | refine w_ldA 1 hA ok rfl rfl rfl ?_
  | refine w_ldA 2 hA ok rfl rfl rfl ?_
  | refine w_ldA 3 hA ok rfl rfl rfl ?_
  | refine w_ldA 4 hA ok rfl rfl rfl ?_
  | refine w_ldA 5 hA ok rfl rfl rfl ?_
  | refine w_ldA 6 hA ok rfl rfl rfl ?_
  | refine w_ldA 7 hA ok rfl rfl rfl ?_
  | refine w_stA 0 hA ok rfl rfl rfl rfl ?_
  | refine w_stA 1 hA ok rfl rfl rfl rfl ?_
  | refine w_stA 2 hA ok rfl rfl rfl rfl ?_
  | refine w_stA 3 hA ok rfl rfl rfl rfl ?_
  | refine w_stA 4 hA ok rfl rfl rfl rfl ?_
  | refine w_stA 5 hA ok rfl rfl rfl rfl ?_
  | refine w_stA 6 hA ok rfl rfl rfl rfl ?_
  | refine w_stA 7 hA ok rfl rfl rfl rfl ?_
  | (refine w_Raw hA ?_; intro hA)
  | (refine w_SetRaw hA ?_; intro hA)
  | (refine w_SwapRaw hA ?_; intro hA)
  | (refine w_AddRaw hA ?_; intro hA)
  | (refine w_Load hA ?_; intro hA)
  | (refine w_Store hA ?_; intro hA)
  | (refine w_Retire hA ?_; intro hA)
  | (refine w_Died hA ?_; intro hA)
  | (refine w_Born hA ?_; intro hA)
  | refine w_State hA ?_
  | refine w_Uses hA ?_
  | refine w_Fault hA ?_
  | refine w_Words hA ?_
  | refine w_Count hA ?_
  | refine wq_Size ?_
  | refine wq_Open ?_
  | refine wq_Pack ?_
  | refine wq_head ?_
  | refine w_ck 0 hA ok rfl rfl rfl ?_
  | refine w_ck 1 hA ok rfl rfl rfl ?_
  | refine w_ck 2 hA ok rfl rfl rfl ?_
  | refine w_ck 3 hA ok rfl rfl rfl ?_
  | refine w_ck 4 hA ok rfl rfl rfl ?_
  | refine w_ck 5 hA ok rfl rfl rfl ?_
  | refine w_ck 6 hA ok rfl rfl rfl ?_
  | refine w_ck 7 hA ok rfl rfl rfl ?_
  | refine w_ckn rfl ?_
  | refine w_Base 0 1 hA ok rfl rfl ?_
  | refine w_Base 1 2 hA ok rfl rfl ?_
  | refine w_Base 2 3 hA ok rfl rfl ?_
  | refine w_Base 3 4 hA ok rfl rfl ?_
  | refine w_Base 4 5 hA ok rfl rfl ?_
  | refine w_Base 5 6 hA ok rfl rfl ?_
  | (refine w_PopStep 0 1 hA ok rfl rfl ?_; intro hA)
  | (refine w_PopStep 1 2 hA ok rfl rfl ?_; intro hA)
  | (refine w_PopStep 2 3 hA ok rfl rfl ?_; intro hA)
  | (refine w_PopStep 3 4 hA ok rfl rfl ?_; intro hA)
  | (refine w_PopStep 4 5 hA ok rfl rfl ?_; intro hA)
  | (refine w_PopStep 5 6 hA ok rfl rfl ?_; intro hA)
  | (refine w_PushStep 0 1 hA ok rfl rfl ?_; intro hA)
  | (refine w_PushStep 1 2 hA ok rfl rfl ?_; intro hA)
  | (refine w_PushStep 2 3 hA ok rfl rfl ?_; intro hA)
  | (refine w_PushStep 3 4 hA ok rfl rfl ?_; intro hA)
  | (refine w_PushStep 4 5 hA ok rfl rfl ?_; intro hA)
  | (refine w_PushStep 5 6 hA ok rfl rfl ?_; intro hA)
  | refine wp_true (by assumption) ?_
  | refine wp_false (by assumption) ?_)
  have rp1 : Tn.rep { m with word := w64 (m.word + 1) } j := ⟨rp.ls, rp.fs, rp.ds, rp.fl, rp.un⟩
  have tail : ∀ L, A.rawF (ewd m.ta m.word) = 0 ∨ A.rawF (ewd m.ta m.word) = w64 (m.e + 1) → wp Try.prog (
      .look (opS Try.prog (.nilCheck (.tmp 0)) ty_unit [(.pointer (some ⟨j.q, 0, none⟩))]) (.one (.leaf .addr)) fun x39 =>
      .ld (x39.add 9) (.int .i64) fun x41 =>
      .look (opS Try.prog (.nilCheck (.tmp 0)) ty_unit [(.pointer (some ⟨j.q, 0, none⟩))]) (.one (.leaf .addr)) fun x43 =>
      .ld x43 (.int .i64) fun x46 =>
      bif ((x41 : Int) == x46) then (
        .look (opS Try.prog (.nilCheck (.tmp 0)) ty_unit [(.pointer (some ⟨j.q, 0, none⟩))]) (.one (.leaf .addr)) fun x51 =>
        .st (x51.add 13) (.func (.func f_epoch_Turn_swap) #[(.pointer (some ⟨j.q, 0, none⟩))] #[]) <|
        .ret (.tuple #[]))
      else (
        .ret (.tuple #[]))) L (own (A.touchR (ewd m.ta m.word)) (Tn.bl { m with word := w64 (m.word + 1) } j) G) (TPost I G j
      (if A.rawF (ewd m.ta m.word) ≠ 0 ∧ A.rawF (ewd m.ta m.word) ≠ w64 (m.e + 1) then Tn.sort { m with word := w64 (m.word + 1) }
       else { m with word := w64 (m.word + 1), ph := if w64 (m.word + 1) = m.tw then 2 else 1 }) (A.touchR (ewd m.ta m.word))) := by
    intro L hv
    have ok : Ok I G (keys (Tn.bl { m with word := w64 (m.word + 1) } j)) := ok
    rw [if_neg (fun h => by rcases hv with h' | h'; exact h.1 h'; exact h.2 h')]
    unfold Tn.bl at ok ⊢
    repeat (first
  | refine wp_nil.2 ?_
  | refine w_ld 0 hA ok rfl rfl rfl ?_
  | refine w_ld 1 hA ok rfl rfl rfl ?_
  | refine w_ld 2 hA ok rfl rfl rfl ?_
  | refine w_ld 3 hA ok rfl rfl rfl ?_
  | refine w_ld 4 hA ok rfl rfl rfl ?_
  | refine w_ld 5 hA ok rfl rfl rfl ?_
  | refine w_ld 6 hA ok rfl rfl rfl ?_
  | refine w_ld 7 hA ok rfl rfl rfl ?_
  | refine w_st 0 hA ok rfl rfl rfl rfl ?_
  | refine w_st 1 hA ok rfl rfl rfl rfl ?_
  | refine w_st 2 hA ok rfl rfl rfl rfl ?_
  | refine w_st 3 hA ok rfl rfl rfl rfl ?_
  | refine w_st 4 hA ok rfl rfl rfl rfl ?_
  | refine w_st 5 hA ok rfl rfl rfl rfl ?_
  | refine w_st 6 hA ok rfl rfl rfl rfl ?_
  | refine w_st 7 hA ok rfl rfl rfl rfl ?_
  | refine w_ldA 0 hA ok rfl rfl rfl ?_
  | refine w_ldA 1 hA ok rfl rfl rfl ?_
  | refine w_ldA 2 hA ok rfl rfl rfl ?_
  | refine w_ldA 3 hA ok rfl rfl rfl ?_
  | refine w_ldA 4 hA ok rfl rfl rfl ?_
  | refine w_ldA 5 hA ok rfl rfl rfl ?_
  | refine w_ldA 6 hA ok rfl rfl rfl ?_
  | refine w_ldA 7 hA ok rfl rfl rfl ?_
  | refine w_stA 0 hA ok rfl rfl rfl rfl ?_
  | refine w_stA 1 hA ok rfl rfl rfl rfl ?_
  | refine w_stA 2 hA ok rfl rfl rfl rfl ?_
  | refine w_stA 3 hA ok rfl rfl rfl rfl ?_
  | refine w_stA 4 hA ok rfl rfl rfl rfl ?_
  | refine w_stA 5 hA ok rfl rfl rfl rfl ?_
  | refine w_stA 6 hA ok rfl rfl rfl rfl ?_
  | refine w_stA 7 hA ok rfl rfl rfl rfl ?_
  | (refine w_Raw hA ?_; intro hA)
  | (refine w_SetRaw hA ?_; intro hA)
  | (refine w_SwapRaw hA ?_; intro hA)
  | (refine w_AddRaw hA ?_; intro hA)
  | (refine w_Load hA ?_; intro hA)
  | (refine w_Store hA ?_; intro hA)
  | (refine w_Retire hA ?_; intro hA)
  | (refine w_Died hA ?_; intro hA)
  | (refine w_Born hA ?_; intro hA)
  | refine w_State hA ?_
  | refine w_Uses hA ?_
  | refine w_Fault hA ?_
  | refine w_Words hA ?_
  | refine w_Count hA ?_
  | refine wq_Size ?_
  | refine wq_Open ?_
  | refine wq_Pack ?_
  | refine wq_head ?_
  | refine w_ck 0 hA ok rfl rfl rfl ?_
  | refine w_ck 1 hA ok rfl rfl rfl ?_
  | refine w_ck 2 hA ok rfl rfl rfl ?_
  | refine w_ck 3 hA ok rfl rfl rfl ?_
  | refine w_ck 4 hA ok rfl rfl rfl ?_
  | refine w_ck 5 hA ok rfl rfl rfl ?_
  | refine w_ck 6 hA ok rfl rfl rfl ?_
  | refine w_ck 7 hA ok rfl rfl rfl ?_
  | refine w_ckn rfl ?_
  | refine w_Base 0 1 hA ok rfl rfl ?_
  | refine w_Base 1 2 hA ok rfl rfl ?_
  | refine w_Base 2 3 hA ok rfl rfl ?_
  | refine w_Base 3 4 hA ok rfl rfl ?_
  | refine w_Base 4 5 hA ok rfl rfl ?_
  | refine w_Base 5 6 hA ok rfl rfl ?_
  | (refine w_PopStep 0 1 hA ok rfl rfl ?_; intro hA)
  | (refine w_PopStep 1 2 hA ok rfl rfl ?_; intro hA)
  | (refine w_PopStep 2 3 hA ok rfl rfl ?_; intro hA)
  | (refine w_PopStep 3 4 hA ok rfl rfl ?_; intro hA)
  | (refine w_PopStep 4 5 hA ok rfl rfl ?_; intro hA)
  | (refine w_PopStep 5 6 hA ok rfl rfl ?_; intro hA)
  | (refine w_PushStep 0 1 hA ok rfl rfl ?_; intro hA)
  | (refine w_PushStep 1 2 hA ok rfl rfl ?_; intro hA)
  | (refine w_PushStep 2 3 hA ok rfl rfl ?_; intro hA)
  | (refine w_PushStep 3 4 hA ok rfl rfl ?_; intro hA)
  | (refine w_PushStep 4 5 hA ok rfl rfl ?_; intro hA)
  | (refine w_PushStep 5 6 hA ok rfl rfl ?_; intro hA)
  | refine wp_true (by assumption) ?_
  | refine wp_false (by assumption) ?_)
    by_cases c : w64 (m.word + 1) = m.tw
    · refine wp_true (ibeq c) ?_
      repeat (first
  | refine wp_nil.2 ?_
  | refine w_ld 0 hA ok rfl rfl rfl ?_
  | refine w_ld 1 hA ok rfl rfl rfl ?_
  | refine w_ld 2 hA ok rfl rfl rfl ?_
  | refine w_ld 3 hA ok rfl rfl rfl ?_
  | refine w_ld 4 hA ok rfl rfl rfl ?_
  | refine w_ld 5 hA ok rfl rfl rfl ?_
  | refine w_ld 6 hA ok rfl rfl rfl ?_
  | refine w_ld 7 hA ok rfl rfl rfl ?_
  | refine w_st 0 hA ok rfl rfl rfl rfl ?_
  | refine w_st 1 hA ok rfl rfl rfl rfl ?_
  | refine w_st 2 hA ok rfl rfl rfl rfl ?_
  | refine w_st 3 hA ok rfl rfl rfl rfl ?_
  | refine w_st 4 hA ok rfl rfl rfl rfl ?_
  | refine w_st 5 hA ok rfl rfl rfl rfl ?_
  | refine w_st 6 hA ok rfl rfl rfl rfl ?_
  | refine w_st 7 hA ok rfl rfl rfl rfl ?_
  | refine w_ldA 0 hA ok rfl rfl rfl ?_
  | refine w_ldA 1 hA ok rfl rfl rfl ?_
  | refine w_ldA 2 hA ok rfl rfl rfl ?_
  | refine w_ldA 3 hA ok rfl rfl rfl ?_
  | refine w_ldA 4 hA ok rfl rfl rfl ?_
  | refine w_ldA 5 hA ok rfl rfl rfl ?_
  | refine w_ldA 6 hA ok rfl rfl rfl ?_
  | refine w_ldA 7 hA ok rfl rfl rfl ?_
  | refine w_stA 0 hA ok rfl rfl rfl rfl ?_
  | refine w_stA 1 hA ok rfl rfl rfl rfl ?_
  | refine w_stA 2 hA ok rfl rfl rfl rfl ?_
  | refine w_stA 3 hA ok rfl rfl rfl rfl ?_
  | refine w_stA 4 hA ok rfl rfl rfl rfl ?_
  | refine w_stA 5 hA ok rfl rfl rfl rfl ?_
  | refine w_stA 6 hA ok rfl rfl rfl rfl ?_
  | refine w_stA 7 hA ok rfl rfl rfl rfl ?_
  | (refine w_Raw hA ?_; intro hA)
  | (refine w_SetRaw hA ?_; intro hA)
  | (refine w_SwapRaw hA ?_; intro hA)
  | (refine w_AddRaw hA ?_; intro hA)
  | (refine w_Load hA ?_; intro hA)
  | (refine w_Store hA ?_; intro hA)
  | (refine w_Retire hA ?_; intro hA)
  | (refine w_Died hA ?_; intro hA)
  | (refine w_Born hA ?_; intro hA)
  | refine w_State hA ?_
  | refine w_Uses hA ?_
  | refine w_Fault hA ?_
  | refine w_Words hA ?_
  | refine w_Count hA ?_
  | refine wq_Size ?_
  | refine wq_Open ?_
  | refine wq_Pack ?_
  | refine wq_head ?_
  | refine w_ck 0 hA ok rfl rfl rfl ?_
  | refine w_ck 1 hA ok rfl rfl rfl ?_
  | refine w_ck 2 hA ok rfl rfl rfl ?_
  | refine w_ck 3 hA ok rfl rfl rfl ?_
  | refine w_ck 4 hA ok rfl rfl rfl ?_
  | refine w_ck 5 hA ok rfl rfl rfl ?_
  | refine w_ck 6 hA ok rfl rfl rfl ?_
  | refine w_ck 7 hA ok rfl rfl rfl ?_
  | refine w_ckn rfl ?_
  | refine w_Base 0 1 hA ok rfl rfl ?_
  | refine w_Base 1 2 hA ok rfl rfl ?_
  | refine w_Base 2 3 hA ok rfl rfl ?_
  | refine w_Base 3 4 hA ok rfl rfl ?_
  | refine w_Base 4 5 hA ok rfl rfl ?_
  | refine w_Base 5 6 hA ok rfl rfl ?_
  | (refine w_PopStep 0 1 hA ok rfl rfl ?_; intro hA)
  | (refine w_PopStep 1 2 hA ok rfl rfl ?_; intro hA)
  | (refine w_PopStep 2 3 hA ok rfl rfl ?_; intro hA)
  | (refine w_PopStep 3 4 hA ok rfl rfl ?_; intro hA)
  | (refine w_PopStep 4 5 hA ok rfl rfl ?_; intro hA)
  | (refine w_PopStep 5 6 hA ok rfl rfl ?_; intro hA)
  | (refine w_PushStep 0 1 hA ok rfl rfl ?_; intro hA)
  | (refine w_PushStep 1 2 hA ok rfl rfl ?_; intro hA)
  | (refine w_PushStep 2 3 hA ok rfl rfl ?_; intro hA)
  | (refine w_PushStep 3 4 hA ok rfl rfl ?_; intro hA)
  | (refine w_PushStep 4 5 hA ok rfl rfl ?_; intro hA)
  | (refine w_PushStep 5 6 hA ok rfl rfl ?_; intro hA)
  | refine wp_true (by assumption) ?_
  | refine wp_false (by assumption) ?_)
      refine wp_ret_of ⟨j, rfl, ?_, rfl, ok, ⟨rp.ls, rp.fs, rp.ds, rp.fl, fun _ => rp.un (by omega)⟩, hA⟩
      rw [if_pos c]; rfl
    · refine wp_false (ibef c) ?_
      refine wp_ret_of ⟨j, rfl, ?_, rfl, ok, ⟨rp.ls, rp.fs, rp.ds, rp.fl, fun _ => rp.un (by omega)⟩, hA⟩
      rw [if_neg c]
      have e : tnNext j.q m.ph = tnNext j.q 1 := by rw [hp]
      show own _ ((j.q, oc ty_epoch_Turn (tnC m.tw m.ta m.pl m.work m.e (w64 (m.word + 1)) j.ls j.fs j.ds (tnNext j.q m.ph))) :: _) G = _
      rw [e]; rfl
  by_cases c0 : A.rawF (ewd m.ta m.word) = 0
  · refine wp_false (by rw [c0]; rfl) ?_
    exact tail L (.inl c0)
  · refine wp_true (ibne c0) ?_
    repeat (first
  | refine wp_nil.2 ?_
  | refine w_ld 0 hA ok rfl rfl rfl ?_
  | refine w_ld 1 hA ok rfl rfl rfl ?_
  | refine w_ld 2 hA ok rfl rfl rfl ?_
  | refine w_ld 3 hA ok rfl rfl rfl ?_
  | refine w_ld 4 hA ok rfl rfl rfl ?_
  | refine w_ld 5 hA ok rfl rfl rfl ?_
  | refine w_ld 6 hA ok rfl rfl rfl ?_
  | refine w_ld 7 hA ok rfl rfl rfl ?_
  | refine w_st 0 hA ok rfl rfl rfl rfl ?_
  | refine w_st 1 hA ok rfl rfl rfl rfl ?_
  | refine w_st 2 hA ok rfl rfl rfl rfl ?_
  | refine w_st 3 hA ok rfl rfl rfl rfl ?_
  | refine w_st 4 hA ok rfl rfl rfl rfl ?_
  | refine w_st 5 hA ok rfl rfl rfl rfl ?_
  | refine w_st 6 hA ok rfl rfl rfl rfl ?_
  | refine w_st 7 hA ok rfl rfl rfl rfl ?_
  | refine w_ldA 0 hA ok rfl rfl rfl ?_
  | refine w_ldA 1 hA ok rfl rfl rfl ?_
  | refine w_ldA 2 hA ok rfl rfl rfl ?_
  | refine w_ldA 3 hA ok rfl rfl rfl ?_
  | refine w_ldA 4 hA ok rfl rfl rfl ?_
  | refine w_ldA 5 hA ok rfl rfl rfl ?_
  | refine w_ldA 6 hA ok rfl rfl rfl ?_
  | refine w_ldA 7 hA ok rfl rfl rfl ?_
  | refine w_stA 0 hA ok rfl rfl rfl rfl ?_
  | refine w_stA 1 hA ok rfl rfl rfl rfl ?_
  | refine w_stA 2 hA ok rfl rfl rfl rfl ?_
  | refine w_stA 3 hA ok rfl rfl rfl rfl ?_
  | refine w_stA 4 hA ok rfl rfl rfl rfl ?_
  | refine w_stA 5 hA ok rfl rfl rfl rfl ?_
  | refine w_stA 6 hA ok rfl rfl rfl rfl ?_
  | refine w_stA 7 hA ok rfl rfl rfl rfl ?_
  | (refine w_Raw hA ?_; intro hA)
  | (refine w_SetRaw hA ?_; intro hA)
  | (refine w_SwapRaw hA ?_; intro hA)
  | (refine w_AddRaw hA ?_; intro hA)
  | (refine w_Load hA ?_; intro hA)
  | (refine w_Store hA ?_; intro hA)
  | (refine w_Retire hA ?_; intro hA)
  | (refine w_Died hA ?_; intro hA)
  | (refine w_Born hA ?_; intro hA)
  | refine w_State hA ?_
  | refine w_Uses hA ?_
  | refine w_Fault hA ?_
  | refine w_Words hA ?_
  | refine w_Count hA ?_
  | refine wq_Size ?_
  | refine wq_Open ?_
  | refine wq_Pack ?_
  | refine wq_head ?_
  | refine w_ck 0 hA ok rfl rfl rfl ?_
  | refine w_ck 1 hA ok rfl rfl rfl ?_
  | refine w_ck 2 hA ok rfl rfl rfl ?_
  | refine w_ck 3 hA ok rfl rfl rfl ?_
  | refine w_ck 4 hA ok rfl rfl rfl ?_
  | refine w_ck 5 hA ok rfl rfl rfl ?_
  | refine w_ck 6 hA ok rfl rfl rfl ?_
  | refine w_ck 7 hA ok rfl rfl rfl ?_
  | refine w_ckn rfl ?_
  | refine w_Base 0 1 hA ok rfl rfl ?_
  | refine w_Base 1 2 hA ok rfl rfl ?_
  | refine w_Base 2 3 hA ok rfl rfl ?_
  | refine w_Base 3 4 hA ok rfl rfl ?_
  | refine w_Base 4 5 hA ok rfl rfl ?_
  | refine w_Base 5 6 hA ok rfl rfl ?_
  | (refine w_PopStep 0 1 hA ok rfl rfl ?_; intro hA)
  | (refine w_PopStep 1 2 hA ok rfl rfl ?_; intro hA)
  | (refine w_PopStep 2 3 hA ok rfl rfl ?_; intro hA)
  | (refine w_PopStep 3 4 hA ok rfl rfl ?_; intro hA)
  | (refine w_PopStep 4 5 hA ok rfl rfl ?_; intro hA)
  | (refine w_PopStep 5 6 hA ok rfl rfl ?_; intro hA)
  | (refine w_PushStep 0 1 hA ok rfl rfl ?_; intro hA)
  | (refine w_PushStep 1 2 hA ok rfl rfl ?_; intro hA)
  | (refine w_PushStep 2 3 hA ok rfl rfl ?_; intro hA)
  | (refine w_PushStep 3 4 hA ok rfl rfl ?_; intro hA)
  | (refine w_PushStep 4 5 hA ok rfl rfl ?_; intro hA)
  | (refine w_PushStep 5 6 hA ok rfl rfl ?_; intro hA)
  | refine wp_true (by assumption) ?_
  | refine wp_false (by assumption) ?_)
    by_cases c1 : A.rawF (ewd m.ta m.word) = w64 (m.e + 1)
    · refine wp_false (ibnf c1) ?_
      exact tail L (.inr c1)
    · refine wp_true (ibne c1) ?_
      rw [if_pos ⟨c0, c1⟩]
      refine wp_call_of (tsort_spec { m with word := w64 (m.word + 1) } j hA ok rp1 (by show m.ph ≤ 2; omega) hf hd hl) ?_
      rintro v K ⟨j', rfl, rfl, eq, ok', rp'⟩
      exact ⟨(), rfl, wp_ret_of ⟨j', rfl, rfl, eq, ok', rp', hA⟩⟩

theorem tswap_spec (m : Tn) (j : TnJ) (hA : Aw I A) (ok : Ok I G (keys (m.bl j))) (rp : m.rep j) (hp : m.ph = 2) (hf : m.frees = []) (hd : m.left = []) (hl : m.l.length ≤ 1000) :
    SpecF Try.prog f_epoch_Turn_swap #[.pointer (some ⟨j.q, 0, none⟩), .pointer (aI I)] (own A (m.bl j) G) (TPost I G j
      (if A.swapRb m.ta m.e = true then Tn.sort { m with e := w64 (m.e + 1) } else m.sort) (A.swapR m.ta m.e (w64 (m.e + 1)))) := by
  refine t_epoch_Turn_swap_spec fun L => ?_
  unfold t_epoch_Turn_swap
  unfold Tn.bl at ok ⊢
  repeat (first
  | refine wp_nil.2 ?_
  | refine w_ld 0 hA ok rfl rfl rfl ?_
  | refine w_ld 1 hA ok rfl rfl rfl ?_
  | refine w_ld 2 hA ok rfl rfl rfl ?_
  | refine w_ld 3 hA ok rfl rfl rfl ?_
  | refine w_ld 4 hA ok rfl rfl rfl ?_
  | refine w_ld 5 hA ok rfl rfl rfl ?_
  | refine w_ld 6 hA ok rfl rfl rfl ?_
  | refine w_ld 7 hA ok rfl rfl rfl ?_
  | refine w_st 0 hA ok rfl rfl rfl rfl ?_
  | refine w_st 1 hA ok rfl rfl rfl rfl ?_
  | refine w_st 2 hA ok rfl rfl rfl rfl ?_
  | refine w_st 3 hA ok rfl rfl rfl rfl ?_
  | refine w_st 4 hA ok rfl rfl rfl rfl ?_
  | refine w_st 5 hA ok rfl rfl rfl rfl ?_
  | refine w_st 6 hA ok rfl rfl rfl rfl ?_
  | refine w_st 7 hA ok rfl rfl rfl rfl ?_
  | refine w_ldA 0 hA ok rfl rfl rfl ?_
  | refine w_ldA 1 hA ok rfl rfl rfl ?_
  | refine w_ldA 2 hA ok rfl rfl rfl ?_
  | refine w_ldA 3 hA ok rfl rfl rfl ?_
  | refine w_ldA 4 hA ok rfl rfl rfl ?_
  | refine w_ldA 5 hA ok rfl rfl rfl ?_
  | refine w_ldA 6 hA ok rfl rfl rfl ?_
  | refine w_ldA 7 hA ok rfl rfl rfl ?_
  | refine w_stA 0 hA ok rfl rfl rfl rfl ?_
  | refine w_stA 1 hA ok rfl rfl rfl rfl ?_
  | refine w_stA 2 hA ok rfl rfl rfl rfl ?_
  | refine w_stA 3 hA ok rfl rfl rfl rfl ?_
  | refine w_stA 4 hA ok rfl rfl rfl rfl ?_
  | refine w_stA 5 hA ok rfl rfl rfl rfl ?_
  | refine w_stA 6 hA ok rfl rfl rfl rfl ?_
  | refine w_stA 7 hA ok rfl rfl rfl rfl ?_
  | (refine w_Raw hA ?_; intro hA)
  | (refine w_SetRaw hA ?_; intro hA)
  | (refine w_SwapRaw hA ?_; intro hA)
  | (refine w_AddRaw hA ?_; intro hA)
  | (refine w_Load hA ?_; intro hA)
  | (refine w_Store hA ?_; intro hA)
  | (refine w_Retire hA ?_; intro hA)
  | (refine w_Died hA ?_; intro hA)
  | (refine w_Born hA ?_; intro hA)
  | refine w_State hA ?_
  | refine w_Uses hA ?_
  | refine w_Fault hA ?_
  | refine w_Words hA ?_
  | refine w_Count hA ?_
  | refine wq_Size ?_
  | refine wq_Open ?_
  | refine wq_Pack ?_
  | refine wq_head ?_
  | refine w_ck 0 hA ok rfl rfl rfl ?_
  | refine w_ck 1 hA ok rfl rfl rfl ?_
  | refine w_ck 2 hA ok rfl rfl rfl ?_
  | refine w_ck 3 hA ok rfl rfl rfl ?_
  | refine w_ck 4 hA ok rfl rfl rfl ?_
  | refine w_ck 5 hA ok rfl rfl rfl ?_
  | refine w_ck 6 hA ok rfl rfl rfl ?_
  | refine w_ck 7 hA ok rfl rfl rfl ?_
  | refine w_ckn rfl ?_
  | refine w_Base 0 1 hA ok rfl rfl ?_
  | refine w_Base 1 2 hA ok rfl rfl ?_
  | refine w_Base 2 3 hA ok rfl rfl ?_
  | refine w_Base 3 4 hA ok rfl rfl ?_
  | refine w_Base 4 5 hA ok rfl rfl ?_
  | refine w_Base 5 6 hA ok rfl rfl ?_
  | (refine w_PopStep 0 1 hA ok rfl rfl ?_; intro hA)
  | (refine w_PopStep 1 2 hA ok rfl rfl ?_; intro hA)
  | (refine w_PopStep 2 3 hA ok rfl rfl ?_; intro hA)
  | (refine w_PopStep 3 4 hA ok rfl rfl ?_; intro hA)
  | (refine w_PopStep 4 5 hA ok rfl rfl ?_; intro hA)
  | (refine w_PopStep 5 6 hA ok rfl rfl ?_; intro hA)
  | (refine w_PushStep 0 1 hA ok rfl rfl ?_; intro hA)
  | (refine w_PushStep 1 2 hA ok rfl rfl ?_; intro hA)
  | (refine w_PushStep 2 3 hA ok rfl rfl ?_; intro hA)
  | (refine w_PushStep 3 4 hA ok rfl rfl ?_; intro hA)
  | (refine w_PushStep 4 5 hA ok rfl rfl ?_; intro hA)
  | (refine w_PushStep 5 6 hA ok rfl rfl ?_; intro hA)
  | refine wp_true (by assumption) ?_
  | refine wp_false (by assumption) ?_)
  refine wq_Global ?_
  repeat (first
  | refine wp_nil.2 ?_
  | refine w_ld 0 hA ok rfl rfl rfl ?_
  | refine w_ld 1 hA ok rfl rfl rfl ?_
  | refine w_ld 2 hA ok rfl rfl rfl ?_
  | refine w_ld 3 hA ok rfl rfl rfl ?_
  | refine w_ld 4 hA ok rfl rfl rfl ?_
  | refine w_ld 5 hA ok rfl rfl rfl ?_
  | refine w_ld 6 hA ok rfl rfl rfl ?_
  | refine w_ld 7 hA ok rfl rfl rfl ?_
  | refine w_st 0 hA ok rfl rfl rfl rfl ?_
  | refine w_st 1 hA ok rfl rfl rfl rfl ?_
  | refine w_st 2 hA ok rfl rfl rfl rfl ?_
  | refine w_st 3 hA ok rfl rfl rfl rfl ?_
  | refine w_st 4 hA ok rfl rfl rfl rfl ?_
  | refine w_st 5 hA ok rfl rfl rfl rfl ?_
  | refine w_st 6 hA ok rfl rfl rfl rfl ?_
  | refine w_st 7 hA ok rfl rfl rfl rfl ?_
  | refine w_ldA 0 hA ok rfl rfl rfl ?_
  | refine w_ldA 1 hA ok rfl rfl rfl ?_
  | refine w_ldA 2 hA ok rfl rfl rfl ?_
  | refine w_ldA 3 hA ok rfl rfl rfl ?_
  | refine w_ldA 4 hA ok rfl rfl rfl ?_
  | refine w_ldA 5 hA ok rfl rfl rfl ?_
  | refine w_ldA 6 hA ok rfl rfl rfl ?_
  | refine w_ldA 7 hA ok rfl rfl rfl ?_
  | refine w_stA 0 hA ok rfl rfl rfl rfl ?_
  | refine w_stA 1 hA ok rfl rfl rfl rfl ?_
  | refine w_stA 2 hA ok rfl rfl rfl rfl ?_
  | refine w_stA 3 hA ok rfl rfl rfl rfl ?_
  | refine w_stA 4 hA ok rfl rfl rfl rfl ?_
  | refine w_stA 5 hA ok rfl rfl rfl rfl ?_
  | refine w_stA 6 hA ok rfl rfl rfl rfl ?_
  | refine w_stA 7 hA ok rfl rfl rfl rfl ?_
  | (refine w_Raw hA ?_; intro hA)
  | (refine w_SetRaw hA ?_; intro hA)
  | (refine w_SwapRaw hA ?_; intro hA)
  | (refine w_AddRaw hA ?_; intro hA)
  | (refine w_Load hA ?_; intro hA)
  | (refine w_Store hA ?_; intro hA)
  | (refine w_Retire hA ?_; intro hA)
  | (refine w_Died hA ?_; intro hA)
  | (refine w_Born hA ?_; intro hA)
  | refine w_State hA ?_
  | refine w_Uses hA ?_
  | refine w_Fault hA ?_
  | refine w_Words hA ?_
  | refine w_Count hA ?_
  | refine wq_Size ?_
  | refine wq_Open ?_
  | refine wq_Pack ?_
  | refine wq_head ?_
  | refine w_ck 0 hA ok rfl rfl rfl ?_
  | refine w_ck 1 hA ok rfl rfl rfl ?_
  | refine w_ck 2 hA ok rfl rfl rfl ?_
  | refine w_ck 3 hA ok rfl rfl rfl ?_
  | refine w_ck 4 hA ok rfl rfl rfl ?_
  | refine w_ck 5 hA ok rfl rfl rfl ?_
  | refine w_ck 6 hA ok rfl rfl rfl ?_
  | refine w_ck 7 hA ok rfl rfl rfl ?_
  | refine w_ckn rfl ?_
  | refine w_Base 0 1 hA ok rfl rfl ?_
  | refine w_Base 1 2 hA ok rfl rfl ?_
  | refine w_Base 2 3 hA ok rfl rfl ?_
  | refine w_Base 3 4 hA ok rfl rfl ?_
  | refine w_Base 4 5 hA ok rfl rfl ?_
  | refine w_Base 5 6 hA ok rfl rfl ?_
  | (refine w_PopStep 0 1 hA ok rfl rfl ?_; intro hA)
  | (refine w_PopStep 1 2 hA ok rfl rfl ?_; intro hA)
  | (refine w_PopStep 2 3 hA ok rfl rfl ?_; intro hA)
  | (refine w_PopStep 3 4 hA ok rfl rfl ?_; intro hA)
  | (refine w_PopStep 4 5 hA ok rfl rfl ?_; intro hA)
  | (refine w_PopStep 5 6 hA ok rfl rfl ?_; intro hA)
  | (refine w_PushStep 0 1 hA ok rfl rfl ?_; intro hA)
  | (refine w_PushStep 1 2 hA ok rfl rfl ?_; intro hA)
  | (refine w_PushStep 2 3 hA ok rfl rfl ?_; intro hA)
  | (refine w_PushStep 3 4 hA ok rfl rfl ?_; intro hA)
  | (refine w_PushStep 4 5 hA ok rfl rfl ?_; intro hA)
  | (refine w_PushStep 5 6 hA ok rfl rfl ?_; intro hA)
  | refine wp_true (by assumption) ?_
  | refine wp_false (by assumption) ?_)
  by_cases c : A.swapRb m.ta m.e = true
  · rw [if_pos c]
    refine wp_true c ?_
    repeat (first
  | refine wp_nil.2 ?_
  | refine w_ld 0 hA ok rfl rfl rfl ?_
  | refine w_ld 1 hA ok rfl rfl rfl ?_
  | refine w_ld 2 hA ok rfl rfl rfl ?_
  | refine w_ld 3 hA ok rfl rfl rfl ?_
  | refine w_ld 4 hA ok rfl rfl rfl ?_
  | refine w_ld 5 hA ok rfl rfl rfl ?_
  | refine w_ld 6 hA ok rfl rfl rfl ?_
  | refine w_ld 7 hA ok rfl rfl rfl ?_
  | refine w_st 0 hA ok rfl rfl rfl rfl ?_
  | refine w_st 1 hA ok rfl rfl rfl rfl ?_
  | refine w_st 2 hA ok rfl rfl rfl rfl ?_
  | refine w_st 3 hA ok rfl rfl rfl rfl ?_
  | refine w_st 4 hA ok rfl rfl rfl rfl ?_
  | refine w_st 5 hA ok rfl rfl rfl rfl ?_
  | refine w_st 6 hA ok rfl rfl rfl rfl ?_
  | refine w_st 7 hA ok rfl rfl rfl rfl ?_
  | refine w_ldA 0 hA ok rfl rfl rfl ?_
  | refine w_ldA 1 hA ok rfl rfl rfl ?_
  | refine w_ldA 2 hA ok rfl rfl rfl ?_
  | refine w_ldA 3 hA ok rfl rfl rfl ?_
  | refine w_ldA 4 hA ok rfl rfl rfl ?_
  | refine w_ldA 5 hA ok rfl rfl rfl ?_
  | refine w_ldA 6 hA ok rfl rfl rfl ?_
  | refine w_ldA 7 hA ok rfl rfl rfl ?_
  | refine w_stA 0 hA ok rfl rfl rfl rfl ?_
  | refine w_stA 1 hA ok rfl rfl rfl rfl ?_
  | refine w_stA 2 hA ok rfl rfl rfl rfl ?_
  | refine w_stA 3 hA ok rfl rfl rfl rfl ?_
  | refine w_stA 4 hA ok rfl rfl rfl rfl ?_
  | refine w_stA 5 hA ok rfl rfl rfl rfl ?_
  | refine w_stA 6 hA ok rfl rfl rfl rfl ?_
  | refine w_stA 7 hA ok rfl rfl rfl rfl ?_
  | (refine w_Raw hA ?_; intro hA)
  | (refine w_SetRaw hA ?_; intro hA)
  | (refine w_SwapRaw hA ?_; intro hA)
  | (refine w_AddRaw hA ?_; intro hA)
  | (refine w_Load hA ?_; intro hA)
  | (refine w_Store hA ?_; intro hA)
  | (refine w_Retire hA ?_; intro hA)
  | (refine w_Died hA ?_; intro hA)
  | (refine w_Born hA ?_; intro hA)
  | refine w_State hA ?_
  | refine w_Uses hA ?_
  | refine w_Fault hA ?_
  | refine w_Words hA ?_
  | refine w_Count hA ?_
  | refine wq_Size ?_
  | refine wq_Open ?_
  | refine wq_Pack ?_
  | refine wq_head ?_
  | refine w_ck 0 hA ok rfl rfl rfl ?_
  | refine w_ck 1 hA ok rfl rfl rfl ?_
  | refine w_ck 2 hA ok rfl rfl rfl ?_
  | refine w_ck 3 hA ok rfl rfl rfl ?_
  | refine w_ck 4 hA ok rfl rfl rfl ?_
  | refine w_ck 5 hA ok rfl rfl rfl ?_
  | refine w_ck 6 hA ok rfl rfl rfl ?_
  | refine w_ck 7 hA ok rfl rfl rfl ?_
  | refine w_ckn rfl ?_
  | refine w_Base 0 1 hA ok rfl rfl ?_
  | refine w_Base 1 2 hA ok rfl rfl ?_
  | refine w_Base 2 3 hA ok rfl rfl ?_
  | refine w_Base 3 4 hA ok rfl rfl ?_
  | refine w_Base 4 5 hA ok rfl rfl ?_
  | refine w_Base 5 6 hA ok rfl rfl ?_
  | (refine w_PopStep 0 1 hA ok rfl rfl ?_; intro hA)
  | (refine w_PopStep 1 2 hA ok rfl rfl ?_; intro hA)
  | (refine w_PopStep 2 3 hA ok rfl rfl ?_; intro hA)
  | (refine w_PopStep 3 4 hA ok rfl rfl ?_; intro hA)
  | (refine w_PopStep 4 5 hA ok rfl rfl ?_; intro hA)
  | (refine w_PopStep 5 6 hA ok rfl rfl ?_; intro hA)
  | (refine w_PushStep 0 1 hA ok rfl rfl ?_; intro hA)
  | (refine w_PushStep 1 2 hA ok rfl rfl ?_; intro hA)
  | (refine w_PushStep 2 3 hA ok rfl rfl ?_; intro hA)
  | (refine w_PushStep 3 4 hA ok rfl rfl ?_; intro hA)
  | (refine w_PushStep 4 5 hA ok rfl rfl ?_; intro hA)
  | (refine w_PushStep 5 6 hA ok rfl rfl ?_; intro hA)
  | refine wp_true (by assumption) ?_
  | refine wp_false (by assumption) ?_)
    refine wp_call_of (tsort_spec { m with e := w64 (m.e + 1) } j hA ok ⟨rp.ls, rp.fs, rp.ds, rp.fl, rp.un⟩ (by show m.ph ≤ 2; omega) hf hd hl) ?_
    rintro v K ⟨j', rfl, rfl, eq, ok', rp'⟩
    exact ⟨(), rfl, wp_ret_of ⟨j', rfl, rfl, eq, ok', rp', hA⟩⟩
  · rw [if_neg c]
    refine wp_false (by simpa using c) ?_
    refine wp_call_of (tsort_spec m j hA ok rp (by omega) hf hd hl) ?_
    rintro v K ⟨j', rfl, rfl, eq, ok', rp'⟩
    exact ⟨(), rfl, wp_ret_of ⟨j', rfl, rfl, eq, ok', rp', hA⟩⟩

set_option maxHeartbeats 2000000 in
theorem tfree_spec (m : Tn) (j : TnJ) (hA : Aw I A) (ok : Ok I G (keys (m.bl j))) (rp : m.rep j) (hp : m.ph = 3) {f : Fe} {fs : List Fe} (efs : m.frees = f :: fs) :
    SpecF Try.prog f_epoch_Turn_free #[.pointer (some ⟨j.q, 0, none⟩), .pointer (aI I)] (own A (m.bl j) G) (TPost I G j
      (if (f.step A).1.done = true then { m with frees := fs, ph := if fs = [] then 4 else 3 } else { m with frees := (f.step A).1 :: fs }) (f.step A).2) := by
  refine t_epoch_Turn_free_spec fun L => ?_
  unfold t_epoch_Turn_free
  obtain ⟨jf, js, ejs⟩ : ∃ jf js, j.fj = jf :: js := by
    have := rp.fl
    cases h : j.fj with
    | nil => rw [efs, h] at this; cases this
    | cons f fs => exact ⟨f, fs, rfl⟩
  have rfs := rp.fs
  rw [ejs] at rfs
  have hl0 : (0 : Int) < (j.fs.len : Int) := by have := rfs.len; simp at this; omega
  have hfl : fs.length = js.length := by have := rp.fl; rw [efs, ejs] at this; simpa using this
  unfold Tn.bl at ok ⊢
  rw [efs, ejs] at ok ⊢
  simp only [fbl] at ok ⊢
  repeat (first
  | refine wp_nil.2 ?_
  | refine w_ld 0 hA ok rfl rfl rfl ?_
  | refine w_ld 1 hA ok rfl rfl rfl ?_
  | refine w_ld 2 hA ok rfl rfl rfl ?_
  | refine w_ld 3 hA ok rfl rfl rfl ?_
  | refine w_ld 4 hA ok rfl rfl rfl ?_
  | refine w_ld 5 hA ok rfl rfl rfl ?_
  | refine w_ld 6 hA ok rfl rfl rfl ?_
  | refine w_ld 7 hA ok rfl rfl rfl ?_
  | refine w_st 0 hA ok rfl rfl rfl rfl ?_
  | refine w_st 1 hA ok rfl rfl rfl rfl ?_
  | refine w_st 2 hA ok rfl rfl rfl rfl ?_
  | refine w_st 3 hA ok rfl rfl rfl rfl ?_
  | refine w_st 4 hA ok rfl rfl rfl rfl ?_
  | refine w_st 5 hA ok rfl rfl rfl rfl ?_
  | refine w_st 6 hA ok rfl rfl rfl rfl ?_
  | refine w_st 7 hA ok rfl rfl rfl rfl ?_
  | refine w_ldA 0 hA ok rfl rfl rfl ?_
  | refine w_ldA 1 hA ok rfl rfl rfl ?_
  | refine w_ldA 2 hA ok rfl rfl rfl ?_
  | refine w_ldA 3 hA ok rfl rfl rfl ?_
  | refine w_ldA 4 hA ok rfl rfl rfl ?_
  | refine w_ldA 5 hA ok rfl rfl rfl ?_
  | refine w_ldA 6 hA ok rfl rfl rfl ?_
  | refine w_ldA 7 hA ok rfl rfl rfl ?_
  | refine w_stA 0 hA ok rfl rfl rfl rfl ?_
  | refine w_stA 1 hA ok rfl rfl rfl rfl ?_
  | refine w_stA 2 hA ok rfl rfl rfl rfl ?_
  | refine w_stA 3 hA ok rfl rfl rfl rfl ?_
  | refine w_stA 4 hA ok rfl rfl rfl rfl ?_
  | refine w_stA 5 hA ok rfl rfl rfl rfl ?_
  | refine w_stA 6 hA ok rfl rfl rfl rfl ?_
  | refine w_stA 7 hA ok rfl rfl rfl rfl ?_
  | (refine w_Raw hA ?_; intro hA)
  | (refine w_SetRaw hA ?_; intro hA)
  | (refine w_SwapRaw hA ?_; intro hA)
  | (refine w_AddRaw hA ?_; intro hA)
  | (refine w_Load hA ?_; intro hA)
  | (refine w_Store hA ?_; intro hA)
  | (refine w_Retire hA ?_; intro hA)
  | (refine w_Died hA ?_; intro hA)
  | (refine w_Born hA ?_; intro hA)
  | refine w_State hA ?_
  | refine w_Uses hA ?_
  | refine w_Fault hA ?_
  | refine w_Words hA ?_
  | refine w_Count hA ?_
  | refine wq_Size ?_
  | refine wq_Open ?_
  | refine wq_Pack ?_
  | refine wq_head ?_
  | refine w_ck 0 hA ok rfl rfl rfl ?_
  | refine w_ck 1 hA ok rfl rfl rfl ?_
  | refine w_ck 2 hA ok rfl rfl rfl ?_
  | refine w_ck 3 hA ok rfl rfl rfl ?_
  | refine w_ck 4 hA ok rfl rfl rfl ?_
  | refine w_ck 5 hA ok rfl rfl rfl ?_
  | refine w_ck 6 hA ok rfl rfl rfl ?_
  | refine w_ck 7 hA ok rfl rfl rfl ?_
  | refine w_ckn rfl ?_
  | refine w_Base 0 1 hA ok rfl rfl ?_
  | refine w_Base 1 2 hA ok rfl rfl ?_
  | refine w_Base 2 3 hA ok rfl rfl ?_
  | refine w_Base 3 4 hA ok rfl rfl ?_
  | refine w_Base 4 5 hA ok rfl rfl ?_
  | refine w_Base 5 6 hA ok rfl rfl ?_
  | (refine w_PopStep 0 1 hA ok rfl rfl ?_; intro hA)
  | (refine w_PopStep 1 2 hA ok rfl rfl ?_; intro hA)
  | (refine w_PopStep 2 3 hA ok rfl rfl ?_; intro hA)
  | (refine w_PopStep 3 4 hA ok rfl rfl ?_; intro hA)
  | (refine w_PopStep 4 5 hA ok rfl rfl ?_; intro hA)
  | (refine w_PopStep 5 6 hA ok rfl rfl ?_; intro hA)
  | (refine w_PushStep 0 1 hA ok rfl rfl ?_; intro hA)
  | (refine w_PushStep 1 2 hA ok rfl rfl ?_; intro hA)
  | (refine w_PushStep 2 3 hA ok rfl rfl ?_; intro hA)
  | (refine w_PushStep 3 4 hA ok rfl rfl ?_; intro hA)
  | (refine w_PushStep 4 5 hA ok rfl rfl ?_; intro hA)
  | (refine w_PushStep 5 6 hA ok rfl rfl ?_; intro hA)
  | refine wp_true (by assumption) ?_
  | refine wp_false (by assumption) ?_)
  refine rdP0 hA ok (rfs.mono fun p hp => List.mem_cons_of_mem _ (List.mem_append_right _ (List.mem_append_right _ (List.mem_append_left _ hp)))) ?_
  obtain ⟨p1, ok2⟩ := own_perm (A := A) (l' := f.bl jf ++ ((j.q, oc ty_epoch_Turn (m.cells j)) :: (fbl fs js ++ (j.tls ++ (j.tfs ++ j.tds))))) ok (perm_by fun c d c0 cd ca => by simp only [cd, ca, c0]; omega)
  rw [p1]
  have ok3 : Ok I G (keys (f.bl jf) ++ keys ((j.q, oc ty_epoch_Turn (m.cells j)) :: (fbl fs js ++ (j.tls ++ (j.tfs ++ j.tds))))) := by rw [← keys_append]; exact ok2
  obtain ⟨o1, o2⟩ := ok3.split
  refine w_sub (mFe_ok I A _ f jf hA o1 trivial) ?_
  rintro v K ⟨jf', rfl, rfl, ej, o3, hA'⟩
  refine ⟨(f.step A).1.done, rfl, ?_⟩
  have hA := hA'
  show wp Try.prog _ L (own (f.step A).2 ((f.step A).1.bl jf') (putL _ G)) _
  rw [← own_append]
  have o4 : Ok I G (keys ((f.step A).1.bl jf' ++ ((j.q, oc ty_epoch_Turn (m.cells j)) :: (fbl fs js ++ (j.tls ++ (j.tfs ++ j.tds)))))) := by rw [keys_append]; exact o3.join o2
  by_cases hd : (f.step A).1.done = true
  · rw [if_pos hd]
    refine wp_true hd ?_
    obtain ⟨p2, ok5⟩ := own_perm (A := (f.step A).2) (l' := (j.q, oc ty_epoch_Turn (m.cells j)) :: (fbl fs js ++ (j.tls ++ (j.tfs ++ ((f.step A).1.bl jf' ++ j.tds))))) o4 (perm_by fun c d c0 cd ca => by simp only [cd, ca, c0]; omega)
    have ok := ok5
    have p3 : own (f.step A).2 (Fe.bl (f.step A).1 jf' ++ ((j.q, oc ty_epoch_Turn (m.cells j)) :: (fbl fs js ++ (j.tls ++ (j.tfs ++ j.tds))))) G = _ := p2
    rw [p3]
    repeat (first
  | refine wp_nil.2 ?_
  | refine w_ld 0 hA ok rfl rfl rfl ?_
  | refine w_ld 1 hA ok rfl rfl rfl ?_
  | refine w_ld 2 hA ok rfl rfl rfl ?_
  | refine w_ld 3 hA ok rfl rfl rfl ?_
  | refine w_ld 4 hA ok rfl rfl rfl ?_
  | refine w_ld 5 hA ok rfl rfl rfl ?_
  | refine w_ld 6 hA ok rfl rfl rfl ?_
  | refine w_ld 7 hA ok rfl rfl rfl ?_
  | refine w_st 0 hA ok rfl rfl rfl rfl ?_
  | refine w_st 1 hA ok rfl rfl rfl rfl ?_
  | refine w_st 2 hA ok rfl rfl rfl rfl ?_
  | refine w_st 3 hA ok rfl rfl rfl rfl ?_
  | refine w_st 4 hA ok rfl rfl rfl rfl ?_
  | refine w_st 5 hA ok rfl rfl rfl rfl ?_
  | refine w_st 6 hA ok rfl rfl rfl rfl ?_
  | refine w_st 7 hA ok rfl rfl rfl rfl ?_
  | refine w_ldA 0 hA ok rfl rfl rfl ?_
  | refine w_ldA 1 hA ok rfl rfl rfl ?_
  | refine w_ldA 2 hA ok rfl rfl rfl ?_
  | refine w_ldA 3 hA ok rfl rfl rfl ?_
  | refine w_ldA 4 hA ok rfl rfl rfl ?_
  | refine w_ldA 5 hA ok rfl rfl rfl ?_
  | refine w_ldA 6 hA ok rfl rfl rfl ?_
  | refine w_ldA 7 hA ok rfl rfl rfl ?_
  | refine w_stA 0 hA ok rfl rfl rfl rfl ?_
  | refine w_stA 1 hA ok rfl rfl rfl rfl ?_
  | refine w_stA 2 hA ok rfl rfl rfl rfl ?_
  | refine w_stA 3 hA ok rfl rfl rfl rfl ?_
  | refine w_stA 4 hA ok rfl rfl rfl rfl ?_
  | refine w_stA 5 hA ok rfl rfl rfl rfl ?_
  | refine w_stA 6 hA ok rfl rfl rfl rfl ?_
  | refine w_stA 7 hA ok rfl rfl rfl rfl ?_
  | (refine w_Raw hA ?_; intro hA)
  | (refine w_SetRaw hA ?_; intro hA)
  | (refine w_SwapRaw hA ?_; intro hA)
  | (refine w_AddRaw hA ?_; intro hA)
  | (refine w_Load hA ?_; intro hA)
  | (refine w_Store hA ?_; intro hA)
  | (refine w_Retire hA ?_; intro hA)
  | (refine w_Died hA ?_; intro hA)
  | (refine w_Born hA ?_; intro hA)
  | refine w_State hA ?_
  | refine w_Uses hA ?_
  | refine w_Fault hA ?_
  | refine w_Words hA ?_
  | refine w_Count hA ?_
  | refine wq_Size ?_
  | refine wq_Open ?_
  | refine wq_Pack ?_
  | refine wq_head ?_
  | refine w_ck 0 hA ok rfl rfl rfl ?_
  | refine w_ck 1 hA ok rfl rfl rfl ?_
  | refine w_ck 2 hA ok rfl rfl rfl ?_
  | refine w_ck 3 hA ok rfl rfl rfl ?_
  | refine w_ck 4 hA ok rfl rfl rfl ?_
  | refine w_ck 5 hA ok rfl rfl rfl ?_
  | refine w_ck 6 hA ok rfl rfl rfl ?_
  | refine w_ck 7 hA ok rfl rfl rfl ?_
  | refine w_ckn rfl ?_
  | refine w_Base 0 1 hA ok rfl rfl ?_
  | refine w_Base 1 2 hA ok rfl rfl ?_
  | refine w_Base 2 3 hA ok rfl rfl ?_
  | refine w_Base 3 4 hA ok rfl rfl ?_
  | refine w_Base 4 5 hA ok rfl rfl ?_
  | refine w_Base 5 6 hA ok rfl rfl ?_
  | (refine w_PopStep 0 1 hA ok rfl rfl ?_; intro hA)
  | (refine w_PopStep 1 2 hA ok rfl rfl ?_; intro hA)
  | (refine w_PopStep 2 3 hA ok rfl rfl ?_; intro hA)
  | (refine w_PopStep 3 4 hA ok rfl rfl ?_; intro hA)
  | (refine w_PopStep 4 5 hA ok rfl rfl ?_; intro hA)
  | (refine w_PopStep 5 6 hA ok rfl rfl ?_; intro hA)
  | (refine w_PushStep 0 1 hA ok rfl rfl ?_; intro hA)
  | (refine w_PushStep 1 2 hA ok rfl rfl ?_; intro hA)
  | (refine w_PushStep 2 3 hA ok rfl rfl ?_; intro hA)
  | (refine w_PushStep 3 4 hA ok rfl rfl ?_; intro hA)
  | (refine w_PushStep 4 5 hA ok rfl rfl ?_; intro hA)
  | (refine w_PushStep 5 6 hA ok rfl rfl ?_; intro hA)
  | refine wp_true (by assumption) ?_
  | refine wp_false (by assumption) ?_)
    obtain ⟨tl1, tl2⟩ := rfs.tail
    rw [opS_lo1]
    refine look_val (x := loSl j.fs 1) (opS_sliceLo (e := ty_p_slab_Free) rfl rfl rfl (by omega) tl2) ?_
    repeat (first
  | refine wp_nil.2 ?_
  | refine w_ld 0 hA ok rfl rfl rfl ?_
  | refine w_ld 1 hA ok rfl rfl rfl ?_
  | refine w_ld 2 hA ok rfl rfl rfl ?_
  | refine w_ld 3 hA ok rfl rfl rfl ?_
  | refine w_ld 4 hA ok rfl rfl rfl ?_
  | refine w_ld 5 hA ok rfl rfl rfl ?_
  | refine w_ld 6 hA ok rfl rfl rfl ?_
  | refine w_ld 7 hA ok rfl rfl rfl ?_
  | refine w_st 0 hA ok rfl rfl rfl rfl ?_
  | refine w_st 1 hA ok rfl rfl rfl rfl ?_
  | refine w_st 2 hA ok rfl rfl rfl rfl ?_
  | refine w_st 3 hA ok rfl rfl rfl rfl ?_
  | refine w_st 4 hA ok rfl rfl rfl rfl ?_
  | refine w_st 5 hA ok rfl rfl rfl rfl ?_
  | refine w_st 6 hA ok rfl rfl rfl rfl ?_
  | refine w_st 7 hA ok rfl rfl rfl rfl ?_
  | refine w_ldA 0 hA ok rfl rfl rfl ?_
  | refine w_ldA 1 hA ok rfl rfl rfl ?_
  | refine w_ldA 2 hA ok rfl rfl rfl ?_
  | refine w_ldA 3 hA ok rfl rfl rfl ?_
  | refine w_ldA 4 hA ok rfl rfl rfl ?_
  | refine w_ldA 5 hA ok rfl rfl rfl ?_
  | refine w_ldA 6 hA ok rfl rfl rfl ?_
  | refine w_ldA 7 hA ok rfl rfl rfl ?_
  | refine w_stA 0 hA ok rfl rfl rfl rfl ?_
  | refine w_stA 1 hA ok rfl rfl rfl rfl ?_
  | refine w_stA 2 hA ok rfl rfl rfl rfl ?_
  | refine w_stA 3 hA ok rfl rfl rfl rfl ?_
  | refine w_stA 4 hA ok rfl rfl rfl rfl ?_
  | refine w_stA 5 hA ok rfl rfl rfl rfl ?_
  | refine w_stA 6 hA ok rfl rfl rfl rfl ?_
  | refine w_stA 7 hA ok rfl rfl rfl rfl ?_
  | (refine w_Raw hA ?_; intro hA)
  | (refine w_SetRaw hA ?_; intro hA)
  | (refine w_SwapRaw hA ?_; intro hA)
  | (refine w_AddRaw hA ?_; intro hA)
  | (refine w_Load hA ?_; intro hA)
  | (refine w_Store hA ?_; intro hA)
  | (refine w_Retire hA ?_; intro hA)
  | (refine w_Died hA ?_; intro hA)
  | (refine w_Born hA ?_; intro hA)
  | refine w_State hA ?_
  | refine w_Uses hA ?_
  | refine w_Fault hA ?_
  | refine w_Words hA ?_
  | refine w_Count hA ?_
  | refine wq_Size ?_
  | refine wq_Open ?_
  | refine wq_Pack ?_
  | refine wq_head ?_
  | refine w_ck 0 hA ok rfl rfl rfl ?_
  | refine w_ck 1 hA ok rfl rfl rfl ?_
  | refine w_ck 2 hA ok rfl rfl rfl ?_
  | refine w_ck 3 hA ok rfl rfl rfl ?_
  | refine w_ck 4 hA ok rfl rfl rfl ?_
  | refine w_ck 5 hA ok rfl rfl rfl ?_
  | refine w_ck 6 hA ok rfl rfl rfl ?_
  | refine w_ck 7 hA ok rfl rfl rfl ?_
  | refine w_ckn rfl ?_
  | refine w_Base 0 1 hA ok rfl rfl ?_
  | refine w_Base 1 2 hA ok rfl rfl ?_
  | refine w_Base 2 3 hA ok rfl rfl ?_
  | refine w_Base 3 4 hA ok rfl rfl ?_
  | refine w_Base 4 5 hA ok rfl rfl ?_
  | refine w_Base 5 6 hA ok rfl rfl ?_
  | (refine w_PopStep 0 1 hA ok rfl rfl ?_; intro hA)
  | (refine w_PopStep 1 2 hA ok rfl rfl ?_; intro hA)
  | (refine w_PopStep 2 3 hA ok rfl rfl ?_; intro hA)
  | (refine w_PopStep 3 4 hA ok rfl rfl ?_; intro hA)
  | (refine w_PopStep 4 5 hA ok rfl rfl ?_; intro hA)
  | (refine w_PopStep 5 6 hA ok rfl rfl ?_; intro hA)
  | (refine w_PushStep 0 1 hA ok rfl rfl ?_; intro hA)
  | (refine w_PushStep 1 2 hA ok rfl rfl ?_; intro hA)
  | (refine w_PushStep 2 3 hA ok rfl rfl ?_; intro hA)
  | (refine w_PushStep 3 4 hA ok rfl rfl ?_; intro hA)
  | (refine w_PushStep 4 5 hA ok rfl rfl ?_; intro hA)
  | (refine w_PushStep 5 6 hA ok rfl rfl ?_; intro hA)
  | refine wp_true (by assumption) ?_
  | refine wp_false (by assumption) ?_)
    have hle := tl1.len
    rw [List.length_map] at hle
    by_cases hz : fs = []
    · refine wp_true (ibeq (by show (((loSl j.fs 1).len : Nat) : Int) = 0; rw [hle, ← hfl, hz]; rfl)) ?_
      repeat (first
  | refine wp_nil.2 ?_
  | refine w_ld 0 hA ok rfl rfl rfl ?_
  | refine w_ld 1 hA ok rfl rfl rfl ?_
  | refine w_ld 2 hA ok rfl rfl rfl ?_
  | refine w_ld 3 hA ok rfl rfl rfl ?_
  | refine w_ld 4 hA ok rfl rfl rfl ?_
  | refine w_ld 5 hA ok rfl rfl rfl ?_
  | refine w_ld 6 hA ok rfl rfl rfl ?_
  | refine w_ld 7 hA ok rfl rfl rfl ?_
  | refine w_st 0 hA ok rfl rfl rfl rfl ?_
  | refine w_st 1 hA ok rfl rfl rfl rfl ?_
  | refine w_st 2 hA ok rfl rfl rfl rfl ?_
  | refine w_st 3 hA ok rfl rfl rfl rfl ?_
  | refine w_st 4 hA ok rfl rfl rfl rfl ?_
  | refine w_st 5 hA ok rfl rfl rfl rfl ?_
  | refine w_st 6 hA ok rfl rfl rfl rfl ?_
  | refine w_st 7 hA ok rfl rfl rfl rfl ?_
  | refine w_ldA 0 hA ok rfl rfl rfl ?_
  | refine w_ldA 1 hA ok rfl rfl rfl ?_
  | refine w_ldA 2 hA ok rfl rfl rfl ?_
  | refine w_ldA 3 hA ok rfl rfl rfl ?_
  | refine w_ldA 4 hA ok rfl rfl rfl ?_
  | refine w_ldA 5 hA ok rfl rfl rfl ?_
  | refine w_ldA 6 hA ok rfl rfl rfl ?_
  | refine w_ldA 7 hA ok rfl rfl rfl ?_
  | refine w_stA 0 hA ok rfl rfl rfl rfl ?_
  | refine w_stA 1 hA ok rfl rfl rfl rfl ?_
  | refine w_stA 2 hA ok rfl rfl rfl rfl ?_
  | refine w_stA 3 hA ok rfl rfl rfl rfl ?_
  | refine w_stA 4 hA ok rfl rfl rfl rfl ?_
  | refine w_stA 5 hA ok rfl rfl rfl rfl ?_
  | refine w_stA 6 hA ok rfl rfl rfl rfl ?_
  | refine w_stA 7 hA ok rfl rfl rfl rfl ?_
  | (refine w_Raw hA ?_; intro hA)
  | (refine w_SetRaw hA ?_; intro hA)
  | (refine w_SwapRaw hA ?_; intro hA)
  | (refine w_AddRaw hA ?_; intro hA)
  | (refine w_Load hA ?_; intro hA)
  | (refine w_Store hA ?_; intro hA)
  | (refine w_Retire hA ?_; intro hA)
  | (refine w_Died hA ?_; intro hA)
  | (refine w_Born hA ?_; intro hA)
  | refine w_State hA ?_
  | refine w_Uses hA ?_
  | refine w_Fault hA ?_
  | refine w_Words hA ?_
  | refine w_Count hA ?_
  | refine wq_Size ?_
  | refine wq_Open ?_
  | refine wq_Pack ?_
  | refine wq_head ?_
  | refine w_ck 0 hA ok rfl rfl rfl ?_
  | refine w_ck 1 hA ok rfl rfl rfl ?_
  | refine w_ck 2 hA ok rfl rfl rfl ?_
  | refine w_ck 3 hA ok rfl rfl rfl ?_
  | refine w_ck 4 hA ok rfl rfl rfl ?_
  | refine w_ck 5 hA ok rfl rfl rfl ?_
  | refine w_ck 6 hA ok rfl rfl rfl ?_
  | refine w_ck 7 hA ok rfl rfl rfl ?_
  | refine w_ckn rfl ?_
  | refine w_Base 0 1 hA ok rfl rfl ?_
  | refine w_Base 1 2 hA ok rfl rfl ?_
  | refine w_Base 2 3 hA ok rfl rfl ?_
  | refine w_Base 3 4 hA ok rfl rfl ?_
  | refine w_Base 4 5 hA ok rfl rfl ?_
  | refine w_Base 5 6 hA ok rfl rfl ?_
  | (refine w_PopStep 0 1 hA ok rfl rfl ?_; intro hA)
  | (refine w_PopStep 1 2 hA ok rfl rfl ?_; intro hA)
  | (refine w_PopStep 2 3 hA ok rfl rfl ?_; intro hA)
  | (refine w_PopStep 3 4 hA ok rfl rfl ?_; intro hA)
  | (refine w_PopStep 4 5 hA ok rfl rfl ?_; intro hA)
  | (refine w_PopStep 5 6 hA ok rfl rfl ?_; intro hA)
  | (refine w_PushStep 0 1 hA ok rfl rfl ?_; intro hA)
  | (refine w_PushStep 1 2 hA ok rfl rfl ?_; intro hA)
  | (refine w_PushStep 2 3 hA ok rfl rfl ?_; intro hA)
  | (refine w_PushStep 3 4 hA ok rfl rfl ?_; intro hA)
  | (refine w_PushStep 4 5 hA ok rfl rfl ?_; intro hA)
  | (refine w_PushStep 5 6 hA ok rfl rfl ?_; intro hA)
  | refine wp_true (by assumption) ?_
  | refine wp_false (by assumption) ?_)
      rw [if_pos hz]
      exact wp_ret_of ⟨{ j with fs := loSl j.fs 1, fj := js, tds := (f.step A).1.bl jf' ++ j.tds }, rfl, rfl, rfl, ok, ⟨rp.ls, tl1, rp.ds.mono fun p hp => List.mem_append_right _ hp, hfl, fun h => (by have h : 4 ≤ 2 := h; omega)⟩, hA⟩
    · refine wp_false (ibef (by show (((loSl j.fs 1).len : Nat) : Int) ≠ 0; rw [hle, ← hfl]; have := List.length_pos_iff.2 hz; omega)) ?_
      rw [if_neg hz]
      refine wp_ret_of ⟨{ j with fs := loSl j.fs 1, fj := js, tds := (f.step A).1.bl jf' ++ j.tds }, rfl, ?_, rfl, ok, ⟨rp.ls, tl1, rp.ds.mono fun p hp => List.mem_append_right _ hp, hfl, fun h => (by have h : 3 ≤ 2 := h; omega)⟩, hA⟩
      have e : tnNext j.q m.ph = tnNext j.q 3 := by rw [hp]
      show own _ ((j.q, oc ty_epoch_Turn (tnC m.tw m.ta m.pl m.work m.e m.word j.ls (loSl j.fs 1) j.ds (tnNext j.q m.ph))) :: _) G = _
      rw [e]; rfl
  · rw [if_neg hd]
    refine wp_false (by simpa using hd) ?_
    obtain ⟨p2, ok5⟩ := own_perm (A := (f.step A).2) (l' := (j.q, oc ty_epoch_Turn (m.cells j)) :: (((f.step A).1.bl jf' ++ fbl fs js) ++ (j.tls ++ (j.tfs ++ j.tds)))) o4 (perm_by fun c d c0 cd ca => by simp only [cd, ca, c0]; omega)
    have ok := ok5
    have p3 : own (f.step A).2 (Fe.bl (f.step A).1 jf' ++ ((j.q, oc ty_epoch_Turn (m.cells j)) :: (fbl fs js ++ (j.tls ++ (j.tfs ++ j.tds))))) G = _ := p2
    rw [p3]
    repeat (first
  | refine wp_nil.2 ?_
  | refine w_ld 0 hA ok rfl rfl rfl ?_
  | refine w_ld 1 hA ok rfl rfl rfl ?_
  | refine w_ld 2 hA ok rfl rfl rfl ?_
  | refine w_ld 3 hA ok rfl rfl rfl ?_
  | refine w_ld 4 hA ok rfl rfl rfl ?_
  | refine w_ld 5 hA ok rfl rfl rfl ?_
  | refine w_ld 6 hA ok rfl rfl rfl ?_
  | refine w_ld 7 hA ok rfl rfl rfl ?_
  | refine w_st 0 hA ok rfl rfl rfl rfl ?_
  | refine w_st 1 hA ok rfl rfl rfl rfl ?_
  | refine w_st 2 hA ok rfl rfl rfl rfl ?_
  | refine w_st 3 hA ok rfl rfl rfl rfl ?_
  | refine w_st 4 hA ok rfl rfl rfl rfl ?_
  | refine w_st 5 hA ok rfl rfl rfl rfl ?_
  | refine w_st 6 hA ok rfl rfl rfl rfl ?_
  | refine w_st 7 hA ok rfl rfl rfl rfl ?_
  | refine w_ldA 0 hA ok rfl rfl rfl ?_
  | refine w_ldA 1 hA ok rfl rfl rfl ?_
  | refine w_ldA 2 hA ok rfl rfl rfl ?_
  | refine w_ldA 3 hA ok rfl rfl rfl ?_
  | refine w_ldA 4 hA ok rfl rfl rfl ?_
  | refine w_ldA 5 hA ok rfl rfl rfl ?_
  | refine w_ldA 6 hA ok rfl rfl rfl ?_
  | refine w_ldA 7 hA ok rfl rfl rfl ?_
  | refine w_stA 0 hA ok rfl rfl rfl rfl ?_
  | refine w_stA 1 hA ok rfl rfl rfl rfl ?_
  | refine w_stA 2 hA ok rfl rfl rfl rfl ?_
  | refine w_stA 3 hA ok rfl rfl rfl rfl ?_
  | refine w_stA 4 hA ok rfl rfl rfl rfl ?_
  | refine w_stA 5 hA ok rfl rfl rfl rfl ?_
  | refine w_stA 6 hA ok rfl rfl rfl rfl ?_
  | refine w_stA 7 hA ok rfl rfl rfl rfl ?_
  | (refine w_Raw hA ?_; intro hA)
  | (refine w_SetRaw hA ?_; intro hA)
  | (refine w_SwapRaw hA ?_; intro hA)
  | (refine w_AddRaw hA ?_; intro hA)
  | (refine w_Load hA ?_; intro hA)
  | (refine w_Store hA ?_; intro hA)
  | (refine w_Retire hA ?_; intro hA)
  | (refine w_Died hA ?_; intro hA)
  | (refine w_Born hA ?_; intro hA)
  | refine w_State hA ?_
  | refine w_Uses hA ?_
  | refine w_Fault hA ?_
  | refine w_Words hA ?_
  | refine w_Count hA ?_
  | refine wq_Size ?_
  | refine wq_Open ?_
  | refine wq_Pack ?_
  | refine wq_head ?_
  | refine w_ck 0 hA ok rfl rfl rfl ?_
  | refine w_ck 1 hA ok rfl rfl rfl ?_
  | refine w_ck 2 hA ok rfl rfl rfl ?_
  | refine w_ck 3 hA ok rfl rfl rfl ?_
  | refine w_ck 4 hA ok rfl rfl rfl ?_
  | refine w_ck 5 hA ok rfl rfl rfl ?_
  | refine w_ck 6 hA ok rfl rfl rfl ?_
  | refine w_ck 7 hA ok rfl rfl rfl ?_
  | refine w_ckn rfl ?_
  | refine w_Base 0 1 hA ok rfl rfl ?_
  | refine w_Base 1 2 hA ok rfl rfl ?_
  | refine w_Base 2 3 hA ok rfl rfl ?_
  | refine w_Base 3 4 hA ok rfl rfl ?_
  | refine w_Base 4 5 hA ok rfl rfl ?_
  | refine w_Base 5 6 hA ok rfl rfl ?_
  | (refine w_PopStep 0 1 hA ok rfl rfl ?_; intro hA)
  | (refine w_PopStep 1 2 hA ok rfl rfl ?_; intro hA)
  | (refine w_PopStep 2 3 hA ok rfl rfl ?_; intro hA)
  | (refine w_PopStep 3 4 hA ok rfl rfl ?_; intro hA)
  | (refine w_PopStep 4 5 hA ok rfl rfl ?_; intro hA)
  | (refine w_PopStep 5 6 hA ok rfl rfl ?_; intro hA)
  | (refine w_PushStep 0 1 hA ok rfl rfl ?_; intro hA)
  | (refine w_PushStep 1 2 hA ok rfl rfl ?_; intro hA)
  | (refine w_PushStep 2 3 hA ok rfl rfl ?_; intro hA)
  | (refine w_PushStep 3 4 hA ok rfl rfl ?_; intro hA)
  | (refine w_PushStep 4 5 hA ok rfl rfl ?_; intro hA)
  | (refine w_PushStep 5 6 hA ok rfl rfl ?_; intro hA)
  | refine wp_true (by assumption) ?_
  | refine wp_false (by assumption) ?_)
    have hle := rfs.len
    refine wp_false (ibef (by show ((j.fs.len : Nat) : Int) ≠ 0; omega)) ?_
    refine wp_ret_of ⟨{ j with fj := jf' :: js }, rfl, rfl, rfl, ok, ⟨rp.ls, ?_, rp.ds, ?_, fun h => (by have h : m.ph ≤ 2 := h; omega)⟩, hA⟩
    · show SlAt j.tfs ty_p_slab_Free eP j.fs (jf'.1 :: js.map (·.1))
      rw [show jf'.1 = jf.1 from ej]; exact rfs
    · show ((f.step A).1 :: fs).length = (jf' :: js).length
      simp [hfl]

theorem mTn_ok : mTn.ok := by
  rintro I A G m j hA ok rp ⟨ll, un, fr⟩
  have ok : Ok I G (keys (m.bl j)) := ok
  have rp : m.rep j := rp
  have key : ∀ (f : FuncId) {m1 : Tn} {A1 : Ar}, m.step A = (m1, A1) → m.ph < 4 → SpecF Try.prog f #[.pointer (some ⟨j.q, 0, none⟩), .pointer (aI I)] (own A (m.bl j) G) (TPost I G j m1 A1) →
      opS Try.prog (.call { callee := .value (.tmp 0), args := #[(.tmp 1)], argTypes := #[ty_p_arena_Arena] }) ty_unit [tnNext j.q m.ph, .pointer (aI I)] = .pure (.enter f [.pointer (some ⟨j.q, 0, none⟩), .pointer (aI I)].toArray) →
      SpecF Try.prog f_epoch_Turn_Step #[.pointer (some ⟨j.q, 0, none⟩), .pointer (aI I)] (own A (m.bl j) G) fun v K => ∃ j' : TnJ, v = .bool (decide (4 ≤ (m.step A).1.ph)) ∧ K = own (m.step A).2 ((m.step A).1.bl j') G ∧ j'.q = j.q ∧ Ok I G (keys ((m.step A).1.bl j')) ∧ (m.step A).1.rep j' ∧ Aw I (m.step A).2 := by
    intro f m1 A1 hst hp hs hc
    rw [hst]
    refine t_epoch_Turn_Step_spec fun L => ?_
    unfold t_epoch_Turn_Step
    unfold Tn.bl at ok ⊢
    repeat (first
  | refine wp_nil.2 ?_
  | refine w_ld 0 hA ok rfl rfl rfl ?_
  | refine w_ld 1 hA ok rfl rfl rfl ?_
  | refine w_ld 2 hA ok rfl rfl rfl ?_
  | refine w_ld 3 hA ok rfl rfl rfl ?_
  | refine w_ld 4 hA ok rfl rfl rfl ?_
  | refine w_ld 5 hA ok rfl rfl rfl ?_
  | refine w_ld 6 hA ok rfl rfl rfl ?_
  | refine w_ld 7 hA ok rfl rfl rfl ?_
  | refine w_st 0 hA ok rfl rfl rfl rfl ?_
  | refine w_st 1 hA ok rfl rfl rfl rfl ?_
  | refine w_st 2 hA ok rfl rfl rfl rfl ?_
  | refine w_st 3 hA ok rfl rfl rfl rfl ?_
  | refine w_st 4 hA ok rfl rfl rfl rfl ?_
  | refine w_st 5 hA ok rfl rfl rfl rfl ?_
  | refine w_st 6 hA ok rfl rfl rfl rfl ?_
  | refine w_st 7 hA ok rfl rfl rfl rfl ?_
  | refine w_ldA 0 hA ok rfl rfl rfl ?_
  | refine w_ldA 1 hA ok rfl rfl rfl ?_
  | refine w_ldA 2 hA ok rfl rfl rfl ?_
  | refine w_ldA 3 hA ok rfl rfl rfl ?_
  | refine w_ldA 4 hA ok rfl rfl rfl ?_
  | refine w_ldA 5 hA ok rfl rfl rfl ?_
  | refine w_ldA 6 hA ok rfl rfl rfl ?_
  | refine w_ldA 7 hA ok rfl rfl rfl ?_
  | refine w_stA 0 hA ok rfl rfl rfl rfl ?_
  | refine w_stA 1 hA ok rfl rfl rfl rfl ?_
  | refine w_stA 2 hA ok rfl rfl rfl rfl ?_
  | refine w_stA 3 hA ok rfl rfl rfl rfl ?_
  | refine w_stA 4 hA ok rfl rfl rfl rfl ?_
  | refine w_stA 5 hA ok rfl rfl rfl rfl ?_
  | refine w_stA 6 hA ok rfl rfl rfl rfl ?_
  | refine w_stA 7 hA ok rfl rfl rfl rfl ?_
  | (refine w_Raw hA ?_; intro hA)
  | (refine w_SetRaw hA ?_; intro hA)
  | (refine w_SwapRaw hA ?_; intro hA)
  | (refine w_AddRaw hA ?_; intro hA)
  | (refine w_Load hA ?_; intro hA)
  | (refine w_Store hA ?_; intro hA)
  | (refine w_Retire hA ?_; intro hA)
  | (refine w_Died hA ?_; intro hA)
  | (refine w_Born hA ?_; intro hA)
  | refine w_State hA ?_
  | refine w_Uses hA ?_
  | refine w_Fault hA ?_
  | refine w_Words hA ?_
  | refine w_Count hA ?_
  | refine wq_Size ?_
  | refine wq_Open ?_
  | refine wq_Pack ?_
  | refine wq_head ?_
  | refine w_ck 0 hA ok rfl rfl rfl ?_
  | refine w_ck 1 hA ok rfl rfl rfl ?_
  | refine w_ck 2 hA ok rfl rfl rfl ?_
  | refine w_ck 3 hA ok rfl rfl rfl ?_
  | refine w_ck 4 hA ok rfl rfl rfl ?_
  | refine w_ck 5 hA ok rfl rfl rfl ?_
  | refine w_ck 6 hA ok rfl rfl rfl ?_
  | refine w_ck 7 hA ok rfl rfl rfl ?_
  | refine w_ckn rfl ?_
  | refine w_Base 0 1 hA ok rfl rfl ?_
  | refine w_Base 1 2 hA ok rfl rfl ?_
  | refine w_Base 2 3 hA ok rfl rfl ?_
  | refine w_Base 3 4 hA ok rfl rfl ?_
  | refine w_Base 4 5 hA ok rfl rfl ?_
  | refine w_Base 5 6 hA ok rfl rfl ?_
  | (refine w_PopStep 0 1 hA ok rfl rfl ?_; intro hA)
  | (refine w_PopStep 1 2 hA ok rfl rfl ?_; intro hA)
  | (refine w_PopStep 2 3 hA ok rfl rfl ?_; intro hA)
  | (refine w_PopStep 3 4 hA ok rfl rfl ?_; intro hA)
  | (refine w_PopStep 4 5 hA ok rfl rfl ?_; intro hA)
  | (refine w_PopStep 5 6 hA ok rfl rfl ?_; intro hA)
  | (refine w_PushStep 0 1 hA ok rfl rfl ?_; intro hA)
  | (refine w_PushStep 1 2 hA ok rfl rfl ?_; intro hA)
  | (refine w_PushStep 2 3 hA ok rfl rfl ?_; intro hA)
  | (refine w_PushStep 3 4 hA ok rfl rfl ?_; intro hA)
  | (refine w_PushStep 4 5 hA ok rfl rfl ?_; intro hA)
  | (refine w_PushStep 5 6 hA ok rfl rfl ?_; intro hA)
  | refine wp_true (by assumption) ?_
  | refine wp_false (by assumption) ?_)
    refine look_val (x := decide (m.ph < 4)) (tneq _ _) (wp_true (decide_eq_true hp) ?_)
    repeat (first
  | refine wp_nil.2 ?_
  | refine w_ld 0 hA ok rfl rfl rfl ?_
  | refine w_ld 1 hA ok rfl rfl rfl ?_
  | refine w_ld 2 hA ok rfl rfl rfl ?_
  | refine w_ld 3 hA ok rfl rfl rfl ?_
  | refine w_ld 4 hA ok rfl rfl rfl ?_
  | refine w_ld 5 hA ok rfl rfl rfl ?_
  | refine w_ld 6 hA ok rfl rfl rfl ?_
  | refine w_ld 7 hA ok rfl rfl rfl ?_
  | refine w_st 0 hA ok rfl rfl rfl rfl ?_
  | refine w_st 1 hA ok rfl rfl rfl rfl ?_
  | refine w_st 2 hA ok rfl rfl rfl rfl ?_
  | refine w_st 3 hA ok rfl rfl rfl rfl ?_
  | refine w_st 4 hA ok rfl rfl rfl rfl ?_
  | refine w_st 5 hA ok rfl rfl rfl rfl ?_
  | refine w_st 6 hA ok rfl rfl rfl rfl ?_
  | refine w_st 7 hA ok rfl rfl rfl rfl ?_
  | refine w_ldA 0 hA ok rfl rfl rfl ?_
  | refine w_ldA 1 hA ok rfl rfl rfl ?_
  | refine w_ldA 2 hA ok rfl rfl rfl ?_
  | refine w_ldA 3 hA ok rfl rfl rfl ?_
  | refine w_ldA 4 hA ok rfl rfl rfl ?_
  | refine w_ldA 5 hA ok rfl rfl rfl ?_
  | refine w_ldA 6 hA ok rfl rfl rfl ?_
  | refine w_ldA 7 hA ok rfl rfl rfl ?_
  | refine w_stA 0 hA ok rfl rfl rfl rfl ?_
  | refine w_stA 1 hA ok rfl rfl rfl rfl ?_
  | refine w_stA 2 hA ok rfl rfl rfl rfl ?_
  | refine w_stA 3 hA ok rfl rfl rfl rfl ?_
  | refine w_stA 4 hA ok rfl rfl rfl rfl ?_
  | refine w_stA 5 hA ok rfl rfl rfl rfl ?_
  | refine w_stA 6 hA ok rfl rfl rfl rfl ?_
  | refine w_stA 7 hA ok rfl rfl rfl rfl ?_
  | (refine w_Raw hA ?_; intro hA)
  | (refine w_SetRaw hA ?_; intro hA)
  | (refine w_SwapRaw hA ?_; intro hA)
  | (refine w_AddRaw hA ?_; intro hA)
  | (refine w_Load hA ?_; intro hA)
  | (refine w_Store hA ?_; intro hA)
  | (refine w_Retire hA ?_; intro hA)
  | (refine w_Died hA ?_; intro hA)
  | (refine w_Born hA ?_; intro hA)
  | refine w_State hA ?_
  | refine w_Uses hA ?_
  | refine w_Fault hA ?_
  | refine w_Words hA ?_
  | refine w_Count hA ?_
  | refine wq_Size ?_
  | refine wq_Open ?_
  | refine wq_Pack ?_
  | refine wq_head ?_
  | refine w_ck 0 hA ok rfl rfl rfl ?_
  | refine w_ck 1 hA ok rfl rfl rfl ?_
  | refine w_ck 2 hA ok rfl rfl rfl ?_
  | refine w_ck 3 hA ok rfl rfl rfl ?_
  | refine w_ck 4 hA ok rfl rfl rfl ?_
  | refine w_ck 5 hA ok rfl rfl rfl ?_
  | refine w_ck 6 hA ok rfl rfl rfl ?_
  | refine w_ck 7 hA ok rfl rfl rfl ?_
  | refine w_ckn rfl ?_
  | refine w_Base 0 1 hA ok rfl rfl ?_
  | refine w_Base 1 2 hA ok rfl rfl ?_
  | refine w_Base 2 3 hA ok rfl rfl ?_
  | refine w_Base 3 4 hA ok rfl rfl ?_
  | refine w_Base 4 5 hA ok rfl rfl ?_
  | refine w_Base 5 6 hA ok rfl rfl ?_
  | (refine w_PopStep 0 1 hA ok rfl rfl ?_; intro hA)
  | (refine w_PopStep 1 2 hA ok rfl rfl ?_; intro hA)
  | (refine w_PopStep 2 3 hA ok rfl rfl ?_; intro hA)
  | (refine w_PopStep 3 4 hA ok rfl rfl ?_; intro hA)
  | (refine w_PopStep 4 5 hA ok rfl rfl ?_; intro hA)
  | (refine w_PopStep 5 6 hA ok rfl rfl ?_; intro hA)
  | (refine w_PushStep 0 1 hA ok rfl rfl ?_; intro hA)
  | (refine w_PushStep 1 2 hA ok rfl rfl ?_; intro hA)
  | (refine w_PushStep 2 3 hA ok rfl rfl ?_; intro hA)
  | (refine w_PushStep 3 4 hA ok rfl rfl ?_; intro hA)
  | (refine w_PushStep 4 5 hA ok rfl rfl ?_; intro hA)
  | (refine w_PushStep 5 6 hA ok rfl rfl ?_; intro hA)
  | refine wp_true (by assumption) ?_
  | refine wp_false (by assumption) ?_)
    refine act_enter hc ?_
    refine wp_call_of hs ?_
    rintro v K ⟨j', rfl, rfl, eq, ok', rp', hA'⟩
    refine ⟨(), rfl, ?_⟩
    have ok := ok'
    have hA := hA'
    rw [← eq]
    unfold Tn.bl at ok ⊢
    repeat (first
  | refine wp_nil.2 ?_
  | refine w_ld 0 hA ok rfl rfl rfl ?_
  | refine w_ld 1 hA ok rfl rfl rfl ?_
  | refine w_ld 2 hA ok rfl rfl rfl ?_
  | refine w_ld 3 hA ok rfl rfl rfl ?_
  | refine w_ld 4 hA ok rfl rfl rfl ?_
  | refine w_ld 5 hA ok rfl rfl rfl ?_
  | refine w_ld 6 hA ok rfl rfl rfl ?_
  | refine w_ld 7 hA ok rfl rfl rfl ?_
  | refine w_st 0 hA ok rfl rfl rfl rfl ?_
  | refine w_st 1 hA ok rfl rfl rfl rfl ?_
  | refine w_st 2 hA ok rfl rfl rfl rfl ?_
  | refine w_st 3 hA ok rfl rfl rfl rfl ?_
  | refine w_st 4 hA ok rfl rfl rfl rfl ?_
  | refine w_st 5 hA ok rfl rfl rfl rfl ?_
  | refine w_st 6 hA ok rfl rfl rfl rfl ?_
  | refine w_st 7 hA ok rfl rfl rfl rfl ?_
  | refine w_ldA 0 hA ok rfl rfl rfl ?_
  | refine w_ldA 1 hA ok rfl rfl rfl ?_
  | refine w_ldA 2 hA ok rfl rfl rfl ?_
  | refine w_ldA 3 hA ok rfl rfl rfl ?_
  | refine w_ldA 4 hA ok rfl rfl rfl ?_
  | refine w_ldA 5 hA ok rfl rfl rfl ?_
  | refine w_ldA 6 hA ok rfl rfl rfl ?_
  | refine w_ldA 7 hA ok rfl rfl rfl ?_
  | refine w_stA 0 hA ok rfl rfl rfl rfl ?_
  | refine w_stA 1 hA ok rfl rfl rfl rfl ?_
  | refine w_stA 2 hA ok rfl rfl rfl rfl ?_
  | refine w_stA 3 hA ok rfl rfl rfl rfl ?_
  | refine w_stA 4 hA ok rfl rfl rfl rfl ?_
  | refine w_stA 5 hA ok rfl rfl rfl rfl ?_
  | refine w_stA 6 hA ok rfl rfl rfl rfl ?_
  | refine w_stA 7 hA ok rfl rfl rfl rfl ?_
  | (refine w_Raw hA ?_; intro hA)
  | (refine w_SetRaw hA ?_; intro hA)
  | (refine w_SwapRaw hA ?_; intro hA)
  | (refine w_AddRaw hA ?_; intro hA)
  | (refine w_Load hA ?_; intro hA)
  | (refine w_Store hA ?_; intro hA)
  | (refine w_Retire hA ?_; intro hA)
  | (refine w_Died hA ?_; intro hA)
  | (refine w_Born hA ?_; intro hA)
  | refine w_State hA ?_
  | refine w_Uses hA ?_
  | refine w_Fault hA ?_
  | refine w_Words hA ?_
  | refine w_Count hA ?_
  | refine wq_Size ?_
  | refine wq_Open ?_
  | refine wq_Pack ?_
  | refine wq_head ?_
  | refine w_ck 0 hA ok rfl rfl rfl ?_
  | refine w_ck 1 hA ok rfl rfl rfl ?_
  | refine w_ck 2 hA ok rfl rfl rfl ?_
  | refine w_ck 3 hA ok rfl rfl rfl ?_
  | refine w_ck 4 hA ok rfl rfl rfl ?_
  | refine w_ck 5 hA ok rfl rfl rfl ?_
  | refine w_ck 6 hA ok rfl rfl rfl ?_
  | refine w_ck 7 hA ok rfl rfl rfl ?_
  | refine w_ckn rfl ?_
  | refine w_Base 0 1 hA ok rfl rfl ?_
  | refine w_Base 1 2 hA ok rfl rfl ?_
  | refine w_Base 2 3 hA ok rfl rfl ?_
  | refine w_Base 3 4 hA ok rfl rfl ?_
  | refine w_Base 4 5 hA ok rfl rfl ?_
  | refine w_Base 5 6 hA ok rfl rfl ?_
  | (refine w_PopStep 0 1 hA ok rfl rfl ?_; intro hA)
  | (refine w_PopStep 1 2 hA ok rfl rfl ?_; intro hA)
  | (refine w_PopStep 2 3 hA ok rfl rfl ?_; intro hA)
  | (refine w_PopStep 3 4 hA ok rfl rfl ?_; intro hA)
  | (refine w_PopStep 4 5 hA ok rfl rfl ?_; intro hA)
  | (refine w_PopStep 5 6 hA ok rfl rfl ?_; intro hA)
  | (refine w_PushStep 0 1 hA ok rfl rfl ?_; intro hA)
  | (refine w_PushStep 1 2 hA ok rfl rfl ?_; intro hA)
  | (refine w_PushStep 2 3 hA ok rfl rfl ?_; intro hA)
  | (refine w_PushStep 3 4 hA ok rfl rfl ?_; intro hA)
  | (refine w_PushStep 4 5 hA ok rfl rfl ?_; intro hA)
  | (refine w_PushStep 5 6 hA ok rfl rfl ?_; intro hA)
  | refine wp_true (by assumption) ?_
  | refine wp_false (by assumption) ?_)
    refine look_val (x := decide (4 ≤ m1.ph)) (teq _ _) ?_
    exact wp_ret_of ⟨j', rfl, rfl, rfl, ok', rp', hA'⟩
  show SpecF Try.prog f_epoch_Turn_Step #[.pointer (some ⟨j.q, 0, none⟩), .pointer (aI I)] (own A (m.bl j) G) fun v K => ∃ j' : TnJ, v = .bool (decide (4 ≤ (m.step A).1.ph)) ∧ K = own (m.step A).2 ((m.step A).1.bl j') G ∧ j'.q = j.q ∧ Ok I G (keys ((m.step A).1.bl j')) ∧ (m.step A).1.rep j' ∧ Aw I (m.step A).2
  by_cases h0 : m.ph = 0
  · refine key f_epoch_Turn_global (by unfold Tn.step; rw [if_pos h0]) (by omega) (tglobal_spec m j hA ok rp h0) ?_
    rw [h0]; exact tcall0 _ _
  by_cases h1 : m.ph = 1
  · obtain ⟨u1, u2⟩ := un (by omega)
    refine key f_epoch_Turn_look (by unfold Tn.step; rw [if_neg h0, if_pos h1]) (by omega) (tlook_spec m j hA ok rp h1 u1 u2 ll) ?_
    rw [h1]; exact tcall1 _ _
  by_cases h2 : m.ph = 2
  · obtain ⟨u1, u2⟩ := un (by omega)
    refine key f_epoch_Turn_swap (by unfold Tn.step; rw [if_neg h0, if_neg h1, if_pos h2]) (by omega) (tswap_spec m j hA ok rp h2 u1 u2 ll) ?_
    rw [h2]; exact tcall2 _ _
  by_cases h3 : m.ph = 3
  · obtain ⟨f, fs, efs⟩ : ∃ f fs, m.frees = f :: fs := by
      cases h : m.frees with
      | nil => exact (fr h3 h).elim
      | cons f fs => exact ⟨f, fs, rfl⟩
    refine key f_epoch_Turn_free ?_ (by omega) (tfree_spec m j hA ok rp h3 efs) ?_
    · unfold Tn.step; rw [if_neg h0, if_neg h1, if_neg h2, if_pos h3, efs]
      dsimp only
      split <;> rfl
    · rw [h3]; exact tcall3 _ _
  have hst : m.step A = (m, A) := by unfold Tn.step; rw [if_neg h0, if_neg h1, if_neg h2, if_neg h3]
  rw [hst]
  refine t_epoch_Turn_Step_spec fun L => ?_
  unfold t_epoch_Turn_Step
  unfold Tn.bl at ok ⊢
  repeat (first
  | refine wp_nil.2 ?_
  | refine w_ld 0 hA ok rfl rfl rfl ?_
  | refine w_ld 1 hA ok rfl rfl rfl ?_
  | refine w_ld 2 hA ok rfl rfl rfl ?_
  | refine w_ld 3 hA ok rfl rfl rfl ?_
  | refine w_ld 4 hA ok rfl rfl rfl ?_
  | refine w_ld 5 hA ok rfl rfl rfl ?_
  | refine w_ld 6 hA ok rfl rfl rfl ?_
  | refine w_ld 7 hA ok rfl rfl rfl ?_
  | refine w_st 0 hA ok rfl rfl rfl rfl ?_
  | refine w_st 1 hA ok rfl rfl rfl rfl ?_
  | refine w_st 2 hA ok rfl rfl rfl rfl ?_
  | refine w_st 3 hA ok rfl rfl rfl rfl ?_
  | refine w_st 4 hA ok rfl rfl rfl rfl ?_
  | refine w_st 5 hA ok rfl rfl rfl rfl ?_
  | refine w_st 6 hA ok rfl rfl rfl rfl ?_
  | refine w_st 7 hA ok rfl rfl rfl rfl ?_
  | refine w_ldA 0 hA ok rfl rfl rfl ?_
  | refine w_ldA 1 hA ok rfl rfl rfl ?_
  | refine w_ldA 2 hA ok rfl rfl rfl ?_
  | refine w_ldA 3 hA ok rfl rfl rfl ?_
  | refine w_ldA 4 hA ok rfl rfl rfl ?_
  | refine w_ldA 5 hA ok rfl rfl rfl ?_
  | refine w_ldA 6 hA ok rfl rfl rfl ?_
  | refine w_ldA 7 hA ok rfl rfl rfl ?_
  | refine w_stA 0 hA ok rfl rfl rfl rfl ?_
  | refine w_stA 1 hA ok rfl rfl rfl rfl ?_
  | refine w_stA 2 hA ok rfl rfl rfl rfl ?_
  | refine w_stA 3 hA ok rfl rfl rfl rfl ?_
  | refine w_stA 4 hA ok rfl rfl rfl rfl ?_
  | refine w_stA 5 hA ok rfl rfl rfl rfl ?_
  | refine w_stA 6 hA ok rfl rfl rfl rfl ?_
  | refine w_stA 7 hA ok rfl rfl rfl rfl ?_
  | (refine w_Raw hA ?_; intro hA)
  | (refine w_SetRaw hA ?_; intro hA)
  | (refine w_SwapRaw hA ?_; intro hA)
  | (refine w_AddRaw hA ?_; intro hA)
  | (refine w_Load hA ?_; intro hA)
  | (refine w_Store hA ?_; intro hA)
  | (refine w_Retire hA ?_; intro hA)
  | (refine w_Died hA ?_; intro hA)
  | (refine w_Born hA ?_; intro hA)
  | refine w_State hA ?_
  | refine w_Uses hA ?_
  | refine w_Fault hA ?_
  | refine w_Words hA ?_
  | refine w_Count hA ?_
  | refine wq_Size ?_
  | refine wq_Open ?_
  | refine wq_Pack ?_
  | refine wq_head ?_
  | refine w_ck 0 hA ok rfl rfl rfl ?_
  | refine w_ck 1 hA ok rfl rfl rfl ?_
  | refine w_ck 2 hA ok rfl rfl rfl ?_
  | refine w_ck 3 hA ok rfl rfl rfl ?_
  | refine w_ck 4 hA ok rfl rfl rfl ?_
  | refine w_ck 5 hA ok rfl rfl rfl ?_
  | refine w_ck 6 hA ok rfl rfl rfl ?_
  | refine w_ck 7 hA ok rfl rfl rfl ?_
  | refine w_ckn rfl ?_
  | refine w_Base 0 1 hA ok rfl rfl ?_
  | refine w_Base 1 2 hA ok rfl rfl ?_
  | refine w_Base 2 3 hA ok rfl rfl ?_
  | refine w_Base 3 4 hA ok rfl rfl ?_
  | refine w_Base 4 5 hA ok rfl rfl ?_
  | refine w_Base 5 6 hA ok rfl rfl ?_
  | (refine w_PopStep 0 1 hA ok rfl rfl ?_; intro hA)
  | (refine w_PopStep 1 2 hA ok rfl rfl ?_; intro hA)
  | (refine w_PopStep 2 3 hA ok rfl rfl ?_; intro hA)
  | (refine w_PopStep 3 4 hA ok rfl rfl ?_; intro hA)
  | (refine w_PopStep 4 5 hA ok rfl rfl ?_; intro hA)
  | (refine w_PopStep 5 6 hA ok rfl rfl ?_; intro hA)
  | (refine w_PushStep 0 1 hA ok rfl rfl ?_; intro hA)
  | (refine w_PushStep 1 2 hA ok rfl rfl ?_; intro hA)
  | (refine w_PushStep 2 3 hA ok rfl rfl ?_; intro hA)
  | (refine w_PushStep 3 4 hA ok rfl rfl ?_; intro hA)
  | (refine w_PushStep 4 5 hA ok rfl rfl ?_; intro hA)
  | (refine w_PushStep 5 6 hA ok rfl rfl ?_; intro hA)
  | refine wp_true (by assumption) ?_
  | refine wp_false (by assumption) ?_)
  refine look_val (x := decide (m.ph < 4)) (tneq _ _) (wp_false (decide_eq_false (by omega)) ?_)
  repeat (first
  | refine wp_nil.2 ?_
  | refine w_ld 0 hA ok rfl rfl rfl ?_
  | refine w_ld 1 hA ok rfl rfl rfl ?_
  | refine w_ld 2 hA ok rfl rfl rfl ?_
  | refine w_ld 3 hA ok rfl rfl rfl ?_
  | refine w_ld 4 hA ok rfl rfl rfl ?_
  | refine w_ld 5 hA ok rfl rfl rfl ?_
  | refine w_ld 6 hA ok rfl rfl rfl ?_
  | refine w_ld 7 hA ok rfl rfl rfl ?_
  | refine w_st 0 hA ok rfl rfl rfl rfl ?_
  | refine w_st 1 hA ok rfl rfl rfl rfl ?_
  | refine w_st 2 hA ok rfl rfl rfl rfl ?_
  | refine w_st 3 hA ok rfl rfl rfl rfl ?_
  | refine w_st 4 hA ok rfl rfl rfl rfl ?_
  | refine w_st 5 hA ok rfl rfl rfl rfl ?_
  | refine w_st 6 hA ok rfl rfl rfl rfl ?_
  | refine w_st 7 hA ok rfl rfl rfl rfl ?_
  | refine w_ldA 0 hA ok rfl rfl rfl ?_
  | refine w_ldA 1 hA ok rfl rfl rfl ?_
  | refine w_ldA 2 hA ok rfl rfl rfl ?_
  | refine w_ldA 3 hA ok rfl rfl rfl ?_
  | refine w_ldA 4 hA ok rfl rfl rfl ?_
  | refine w_ldA 5 hA ok rfl rfl rfl ?_
  | refine w_ldA 6 hA ok rfl rfl rfl ?_
  | refine w_ldA 7 hA ok rfl rfl rfl ?_
  | refine w_stA 0 hA ok rfl rfl rfl rfl ?_
  | refine w_stA 1 hA ok rfl rfl rfl rfl ?_
  | refine w_stA 2 hA ok rfl rfl rfl rfl ?_
  | refine w_stA 3 hA ok rfl rfl rfl rfl ?_
  | refine w_stA 4 hA ok rfl rfl rfl rfl ?_
  | refine w_stA 5 hA ok rfl rfl rfl rfl ?_
  | refine w_stA 6 hA ok rfl rfl rfl rfl ?_
  | refine w_stA 7 hA ok rfl rfl rfl rfl ?_
  | (refine w_Raw hA ?_; intro hA)
  | (refine w_SetRaw hA ?_; intro hA)
  | (refine w_SwapRaw hA ?_; intro hA)
  | (refine w_AddRaw hA ?_; intro hA)
  | (refine w_Load hA ?_; intro hA)
  | (refine w_Store hA ?_; intro hA)
  | (refine w_Retire hA ?_; intro hA)
  | (refine w_Died hA ?_; intro hA)
  | (refine w_Born hA ?_; intro hA)
  | refine w_State hA ?_
  | refine w_Uses hA ?_
  | refine w_Fault hA ?_
  | refine w_Words hA ?_
  | refine w_Count hA ?_
  | refine wq_Size ?_
  | refine wq_Open ?_
  | refine wq_Pack ?_
  | refine wq_head ?_
  | refine w_ck 0 hA ok rfl rfl rfl ?_
  | refine w_ck 1 hA ok rfl rfl rfl ?_
  | refine w_ck 2 hA ok rfl rfl rfl ?_
  | refine w_ck 3 hA ok rfl rfl rfl ?_
  | refine w_ck 4 hA ok rfl rfl rfl ?_
  | refine w_ck 5 hA ok rfl rfl rfl ?_
  | refine w_ck 6 hA ok rfl rfl rfl ?_
  | refine w_ck 7 hA ok rfl rfl rfl ?_
  | refine w_ckn rfl ?_
  | refine w_Base 0 1 hA ok rfl rfl ?_
  | refine w_Base 1 2 hA ok rfl rfl ?_
  | refine w_Base 2 3 hA ok rfl rfl ?_
  | refine w_Base 3 4 hA ok rfl rfl ?_
  | refine w_Base 4 5 hA ok rfl rfl ?_
  | refine w_Base 5 6 hA ok rfl rfl ?_
  | (refine w_PopStep 0 1 hA ok rfl rfl ?_; intro hA)
  | (refine w_PopStep 1 2 hA ok rfl rfl ?_; intro hA)
  | (refine w_PopStep 2 3 hA ok rfl rfl ?_; intro hA)
  | (refine w_PopStep 3 4 hA ok rfl rfl ?_; intro hA)
  | (refine w_PopStep 4 5 hA ok rfl rfl ?_; intro hA)
  | (refine w_PopStep 5 6 hA ok rfl rfl ?_; intro hA)
  | (refine w_PushStep 0 1 hA ok rfl rfl ?_; intro hA)
  | (refine w_PushStep 1 2 hA ok rfl rfl ?_; intro hA)
  | (refine w_PushStep 2 3 hA ok rfl rfl ?_; intro hA)
  | (refine w_PushStep 3 4 hA ok rfl rfl ?_; intro hA)
  | (refine w_PushStep 4 5 hA ok rfl rfl ?_; intro hA)
  | (refine w_PushStep 5 6 hA ok rfl rfl ?_; intro hA)
  | refine wp_true (by assumption) ?_
  | refine wp_false (by assumption) ?_)
  refine look_val (x := decide (4 ≤ m.ph)) (teq _ _) ?_
  exact wp_ret_of ⟨j, rfl, rfl, rfl, ok, rp, hA⟩

def newTn (tw ta : Int) (p : Pl) (work : Int) (xs : List (Int × Int)) : Tn := ⟨tw, ta, p, work, 0, 0, xs, [], [], 0⟩

set_option maxHeartbeats 1000000 in
theorem w_NewTurn {tw ta work : Int} {p : Pl} {xs : List (Int × Int)} {s : Sl} {k : Option Addr → Tree} (hA : Aw I A) (ok : Ok I G (keys l)) (hs : SlOf l ty_epoch_Limbo eL s xs) (hm : xs.length ≤ 1000)
    (h : ∀ j : TnJ, Ok I G (keys ((newTn tw ta p work xs).bl j ++ l)) → (newTn tw ta p work xs).rep j → wp Try.prog (k (some ⟨j.q, 0, none⟩)) L (own A ((newTn tw ta p work xs).bl j ++ l) G) R) :
    wp Try.prog (.call f_epoch_NewTurn [.agg #[.int .i64 tw, .int .i64 ta], p.val, .int .i64 work, .slice s.a s.len s.cap] (.one (.leaf .ptr)) k) L (own A l G) R := by
  refine wp_call_of (R0 := fun v K => ∃ j : TnJ, v = .pointer (some ⟨j.q, 0, none⟩) ∧ K = own A ((newTn tw ta p work xs).bl j ++ l) G ∧ Ok I G (keys ((newTn tw ta p work xs).bl j ++ l)) ∧ (newTn tw ta p work xs).rep j) ?_ ?_
  · refine t_epoch_NewTurn_spec (p0_0 := tw) (p0_1 := ta) (p1_0 := p.work) (p1_1 := p.heads) (p1_2 := p.links) (p1_3 := p.gens) (p1_4 := p.carved) (p2 := work) (p3 := s) fun L => ?_
    unfold t_epoch_NewTurn
    have hsl := hs.len
    have ok0 := ok
    refine w_newP hA ok fun e1 ok => ?_
    refine w_newP hA ok fun e2 ok => ?_
    repeat (first
  | refine wp_nil.2 ?_
  | refine w_ld 0 hA ok rfl rfl rfl ?_
  | refine w_ld 1 hA ok rfl rfl rfl ?_
  | refine w_ld 2 hA ok rfl rfl rfl ?_
  | refine w_ld 3 hA ok rfl rfl rfl ?_
  | refine w_ld 4 hA ok rfl rfl rfl ?_
  | refine w_ld 5 hA ok rfl rfl rfl ?_
  | refine w_ld 6 hA ok rfl rfl rfl ?_
  | refine w_ld 7 hA ok rfl rfl rfl ?_
  | refine w_st 0 hA ok rfl rfl rfl rfl ?_
  | refine w_st 1 hA ok rfl rfl rfl rfl ?_
  | refine w_st 2 hA ok rfl rfl rfl rfl ?_
  | refine w_st 3 hA ok rfl rfl rfl rfl ?_
  | refine w_st 4 hA ok rfl rfl rfl rfl ?_
  | refine w_st 5 hA ok rfl rfl rfl rfl ?_
  | refine w_st 6 hA ok rfl rfl rfl rfl ?_
  | refine w_st 7 hA ok rfl rfl rfl rfl ?_
  | refine w_ldA 0 hA ok rfl rfl rfl ?_
  | refine w_ldA 1 hA ok rfl rfl rfl ?_
  | refine w_ldA 2 hA ok rfl rfl rfl ?_
  | refine w_ldA 3 hA ok rfl rfl rfl ?_
  | refine w_ldA 4 hA ok rfl rfl rfl ?_
  | refine w_ldA 5 hA ok rfl rfl rfl ?_
  | refine w_ldA 6 hA ok rfl rfl rfl ?_
  | refine w_ldA 7 hA ok rfl rfl rfl ?_
  | refine w_stA 0 hA ok rfl rfl rfl rfl ?_
  | refine w_stA 1 hA ok rfl rfl rfl rfl ?_
  | refine w_stA 2 hA ok rfl rfl rfl rfl ?_
  | refine w_stA 3 hA ok rfl rfl rfl rfl ?_
  | refine w_stA 4 hA ok rfl rfl rfl rfl ?_
  | refine w_stA 5 hA ok rfl rfl rfl rfl ?_
  | refine w_stA 6 hA ok rfl rfl rfl rfl ?_
  | refine w_stA 7 hA ok rfl rfl rfl rfl ?_
  | (refine w_Raw hA ?_; intro hA)
  | (refine w_SetRaw hA ?_; intro hA)
  | (refine w_SwapRaw hA ?_; intro hA)
  | (refine w_AddRaw hA ?_; intro hA)
  | (refine w_Load hA ?_; intro hA)
  | (refine w_Store hA ?_; intro hA)
  | (refine w_Retire hA ?_; intro hA)
  | (refine w_Died hA ?_; intro hA)
  | (refine w_Born hA ?_; intro hA)
  | refine w_State hA ?_
  | refine w_Uses hA ?_
  | refine w_Fault hA ?_
  | refine w_Words hA ?_
  | refine w_Count hA ?_
  | refine wq_Size ?_
  | refine wq_Open ?_
  | refine wq_Pack ?_
  | refine wq_head ?_
  | refine w_ck 0 hA ok rfl rfl rfl ?_
  | refine w_ck 1 hA ok rfl rfl rfl ?_
  | refine w_ck 2 hA ok rfl rfl rfl ?_
  | refine w_ck 3 hA ok rfl rfl rfl ?_
  | refine w_ck 4 hA ok rfl rfl rfl ?_
  | refine w_ck 5 hA ok rfl rfl rfl ?_
  | refine w_ck 6 hA ok rfl rfl rfl ?_
  | refine w_ck 7 hA ok rfl rfl rfl ?_
  | refine w_ckn rfl ?_
  | refine w_Base 0 1 hA ok rfl rfl ?_
  | refine w_Base 1 2 hA ok rfl rfl ?_
  | refine w_Base 2 3 hA ok rfl rfl ?_
  | refine w_Base 3 4 hA ok rfl rfl ?_
  | refine w_Base 4 5 hA ok rfl rfl ?_
  | refine w_Base 5 6 hA ok rfl rfl ?_
  | (refine w_PopStep 0 1 hA ok rfl rfl ?_; intro hA)
  | (refine w_PopStep 1 2 hA ok rfl rfl ?_; intro hA)
  | (refine w_PopStep 2 3 hA ok rfl rfl ?_; intro hA)
  | (refine w_PopStep 3 4 hA ok rfl rfl ?_; intro hA)
  | (refine w_PopStep 4 5 hA ok rfl rfl ?_; intro hA)
  | (refine w_PopStep 5 6 hA ok rfl rfl ?_; intro hA)
  | (refine w_PushStep 0 1 hA ok rfl rfl ?_; intro hA)
  | (refine w_PushStep 1 2 hA ok rfl rfl ?_; intro hA)
  | (refine w_PushStep 2 3 hA ok rfl rfl ?_; intro hA)
  | (refine w_PushStep 3 4 hA ok rfl rfl ?_; intro hA)
  | (refine w_PushStep 4 5 hA ok rfl rfl ?_; intro hA)
  | (refine w_PushStep 5 6 hA ok rfl rfl ?_; intro hA)
  | refine wp_true (by assumption) ?_
  | refine wp_false (by assumption) ?_)
    refine w_newP hA ok fun q ok => ?_
    repeat (first
  | refine wp_nil.2 ?_
  | refine w_ld 0 hA ok rfl rfl rfl ?_
  | refine w_ld 1 hA ok rfl rfl rfl ?_
  | refine w_ld 2 hA ok rfl rfl rfl ?_
  | refine w_ld 3 hA ok rfl rfl rfl ?_
  | refine w_ld 4 hA ok rfl rfl rfl ?_
  | refine w_ld 5 hA ok rfl rfl rfl ?_
  | refine w_ld 6 hA ok rfl rfl rfl ?_
  | refine w_ld 7 hA ok rfl rfl rfl ?_
  | refine w_st 0 hA ok rfl rfl rfl rfl ?_
  | refine w_st 1 hA ok rfl rfl rfl rfl ?_
  | refine w_st 2 hA ok rfl rfl rfl rfl ?_
  | refine w_st 3 hA ok rfl rfl rfl rfl ?_
  | refine w_st 4 hA ok rfl rfl rfl rfl ?_
  | refine w_st 5 hA ok rfl rfl rfl rfl ?_
  | refine w_st 6 hA ok rfl rfl rfl rfl ?_
  | refine w_st 7 hA ok rfl rfl rfl rfl ?_
  | refine w_ldA 0 hA ok rfl rfl rfl ?_
  | refine w_ldA 1 hA ok rfl rfl rfl ?_
  | refine w_ldA 2 hA ok rfl rfl rfl ?_
  | refine w_ldA 3 hA ok rfl rfl rfl ?_
  | refine w_ldA 4 hA ok rfl rfl rfl ?_
  | refine w_ldA 5 hA ok rfl rfl rfl ?_
  | refine w_ldA 6 hA ok rfl rfl rfl ?_
  | refine w_ldA 7 hA ok rfl rfl rfl ?_
  | refine w_stA 0 hA ok rfl rfl rfl rfl ?_
  | refine w_stA 1 hA ok rfl rfl rfl rfl ?_
  | refine w_stA 2 hA ok rfl rfl rfl rfl ?_
  | refine w_stA 3 hA ok rfl rfl rfl rfl ?_
  | refine w_stA 4 hA ok rfl rfl rfl rfl ?_
  | refine w_stA 5 hA ok rfl rfl rfl rfl ?_
  | refine w_stA 6 hA ok rfl rfl rfl rfl ?_
  | refine w_stA 7 hA ok rfl rfl rfl rfl ?_
  | (refine w_Raw hA ?_; intro hA)
  | (refine w_SetRaw hA ?_; intro hA)
  | (refine w_SwapRaw hA ?_; intro hA)
  | (refine w_AddRaw hA ?_; intro hA)
  | (refine w_Load hA ?_; intro hA)
  | (refine w_Store hA ?_; intro hA)
  | (refine w_Retire hA ?_; intro hA)
  | (refine w_Died hA ?_; intro hA)
  | (refine w_Born hA ?_; intro hA)
  | refine w_State hA ?_
  | refine w_Uses hA ?_
  | refine w_Fault hA ?_
  | refine w_Words hA ?_
  | refine w_Count hA ?_
  | refine wq_Size ?_
  | refine wq_Open ?_
  | refine wq_Pack ?_
  | refine wq_head ?_
  | refine w_ck 0 hA ok rfl rfl rfl ?_
  | refine w_ck 1 hA ok rfl rfl rfl ?_
  | refine w_ck 2 hA ok rfl rfl rfl ?_
  | refine w_ck 3 hA ok rfl rfl rfl ?_
  | refine w_ck 4 hA ok rfl rfl rfl ?_
  | refine w_ck 5 hA ok rfl rfl rfl ?_
  | refine w_ck 6 hA ok rfl rfl rfl ?_
  | refine w_ck 7 hA ok rfl rfl rfl ?_
  | refine w_ckn rfl ?_
  | refine w_Base 0 1 hA ok rfl rfl ?_
  | refine w_Base 1 2 hA ok rfl rfl ?_
  | refine w_Base 2 3 hA ok rfl rfl ?_
  | refine w_Base 3 4 hA ok rfl rfl ?_
  | refine w_Base 4 5 hA ok rfl rfl ?_
  | refine w_Base 5 6 hA ok rfl rfl ?_
  | (refine w_PopStep 0 1 hA ok rfl rfl ?_; intro hA)
  | (refine w_PopStep 1 2 hA ok rfl rfl ?_; intro hA)
  | (refine w_PopStep 2 3 hA ok rfl rfl ?_; intro hA)
  | (refine w_PopStep 3 4 hA ok rfl rfl ?_; intro hA)
  | (refine w_PopStep 4 5 hA ok rfl rfl ?_; intro hA)
  | (refine w_PopStep 5 6 hA ok rfl rfl ?_; intro hA)
  | (refine w_PushStep 0 1 hA ok rfl rfl ?_; intro hA)
  | (refine w_PushStep 1 2 hA ok rfl rfl ?_; intro hA)
  | (refine w_PushStep 2 3 hA ok rfl rfl ?_; intro hA)
  | (refine w_PushStep 3 4 hA ok rfl rfl ?_; intro hA)
  | (refine w_PushStep 4 5 hA ok rfl rfl ?_; intro hA)
  | (refine w_PushStep 5 6 hA ok rfl rfl ?_; intro hA)
  | refine wp_true (by assumption) ?_
  | refine wp_false (by assumption) ?_)
    refine w_appM (E := eL) elL (xs := []) (ys := xs) (s := sl0) (mid := []) (post := l) [(q, _), (e2, _), (e1, _)] hA ok (.inl ⟨rfl, rfl⟩) (SlOf.row hA ok (hs.mono fun p hp => ?_)) hsl (by simp; omega) fun s' mid' hs' ok => ?_
    · exact List.mem_cons_of_mem _ (List.mem_cons_of_mem _ (List.mem_cons_of_mem _ hp))
    repeat (first
  | refine wp_nil.2 ?_
  | refine w_ld 0 hA ok rfl rfl rfl ?_
  | refine w_ld 1 hA ok rfl rfl rfl ?_
  | refine w_ld 2 hA ok rfl rfl rfl ?_
  | refine w_ld 3 hA ok rfl rfl rfl ?_
  | refine w_ld 4 hA ok rfl rfl rfl ?_
  | refine w_ld 5 hA ok rfl rfl rfl ?_
  | refine w_ld 6 hA ok rfl rfl rfl ?_
  | refine w_ld 7 hA ok rfl rfl rfl ?_
  | refine w_st 0 hA ok rfl rfl rfl rfl ?_
  | refine w_st 1 hA ok rfl rfl rfl rfl ?_
  | refine w_st 2 hA ok rfl rfl rfl rfl ?_
  | refine w_st 3 hA ok rfl rfl rfl rfl ?_
  | refine w_st 4 hA ok rfl rfl rfl rfl ?_
  | refine w_st 5 hA ok rfl rfl rfl rfl ?_
  | refine w_st 6 hA ok rfl rfl rfl rfl ?_
  | refine w_st 7 hA ok rfl rfl rfl rfl ?_
  | refine w_ldA 0 hA ok rfl rfl rfl ?_
  | refine w_ldA 1 hA ok rfl rfl rfl ?_
  | refine w_ldA 2 hA ok rfl rfl rfl ?_
  | refine w_ldA 3 hA ok rfl rfl rfl ?_
  | refine w_ldA 4 hA ok rfl rfl rfl ?_
  | refine w_ldA 5 hA ok rfl rfl rfl ?_
  | refine w_ldA 6 hA ok rfl rfl rfl ?_
  | refine w_ldA 7 hA ok rfl rfl rfl ?_
  | refine w_stA 0 hA ok rfl rfl rfl rfl ?_
  | refine w_stA 1 hA ok rfl rfl rfl rfl ?_
  | refine w_stA 2 hA ok rfl rfl rfl rfl ?_
  | refine w_stA 3 hA ok rfl rfl rfl rfl ?_
  | refine w_stA 4 hA ok rfl rfl rfl rfl ?_
  | refine w_stA 5 hA ok rfl rfl rfl rfl ?_
  | refine w_stA 6 hA ok rfl rfl rfl rfl ?_
  | refine w_stA 7 hA ok rfl rfl rfl rfl ?_
  | (refine w_Raw hA ?_; intro hA)
  | (refine w_SetRaw hA ?_; intro hA)
  | (refine w_SwapRaw hA ?_; intro hA)
  | (refine w_AddRaw hA ?_; intro hA)
  | (refine w_Load hA ?_; intro hA)
  | (refine w_Store hA ?_; intro hA)
  | (refine w_Retire hA ?_; intro hA)
  | (refine w_Died hA ?_; intro hA)
  | (refine w_Born hA ?_; intro hA)
  | refine w_State hA ?_
  | refine w_Uses hA ?_
  | refine w_Fault hA ?_
  | refine w_Words hA ?_
  | refine w_Count hA ?_
  | refine wq_Size ?_
  | refine wq_Open ?_
  | refine wq_Pack ?_
  | refine wq_head ?_
  | refine w_ck 0 hA ok rfl rfl rfl ?_
  | refine w_ck 1 hA ok rfl rfl rfl ?_
  | refine w_ck 2 hA ok rfl rfl rfl ?_
  | refine w_ck 3 hA ok rfl rfl rfl ?_
  | refine w_ck 4 hA ok rfl rfl rfl ?_
  | refine w_ck 5 hA ok rfl rfl rfl ?_
  | refine w_ck 6 hA ok rfl rfl rfl ?_
  | refine w_ck 7 hA ok rfl rfl rfl ?_
  | refine w_ckn rfl ?_
  | refine w_Base 0 1 hA ok rfl rfl ?_
  | refine w_Base 1 2 hA ok rfl rfl ?_
  | refine w_Base 2 3 hA ok rfl rfl ?_
  | refine w_Base 3 4 hA ok rfl rfl ?_
  | refine w_Base 4 5 hA ok rfl rfl ?_
  | refine w_Base 5 6 hA ok rfl rfl ?_
  | (refine w_PopStep 0 1 hA ok rfl rfl ?_; intro hA)
  | (refine w_PopStep 1 2 hA ok rfl rfl ?_; intro hA)
  | (refine w_PopStep 2 3 hA ok rfl rfl ?_; intro hA)
  | (refine w_PopStep 3 4 hA ok rfl rfl ?_; intro hA)
  | (refine w_PopStep 4 5 hA ok rfl rfl ?_; intro hA)
  | (refine w_PopStep 5 6 hA ok rfl rfl ?_; intro hA)
  | (refine w_PushStep 0 1 hA ok rfl rfl ?_; intro hA)
  | (refine w_PushStep 1 2 hA ok rfl rfl ?_; intro hA)
  | (refine w_PushStep 2 3 hA ok rfl rfl ?_; intro hA)
  | (refine w_PushStep 3 4 hA ok rfl rfl ?_; intro hA)
  | (refine w_PushStep 4 5 hA ok rfl rfl ?_; intro hA)
  | (refine w_PushStep 5 6 hA ok rfl rfl ?_; intro hA)
  | refine wp_true (by assumption) ?_
  | refine wp_false (by assumption) ?_)
    rw [List.nil_append] at hs'
    let j0 : TnJ := ⟨q, s', sl0, sl0, [], mid', [], []⟩
    have eb : (newTn tw ta p work xs).bl j0 ++ l = (q, oc ty_epoch_Turn ((newTn tw ta p work xs).cells j0)) :: (mid' ++ l) := by
      unfold Tn.bl
      simp [fbl, newTn, j0]
    have ok1 : Ok I G (keys ((newTn tw ta p work xs).bl j0 ++ l)) := by
      rw [eb]
      have nd := ok.nd
      refine ok.sub ?_ fun b hb => ?_
      · have sl : (q :: keys (mid' ++ l)).Sublist (q :: e2 :: e1 :: keys (mid' ++ l)) := .cons_cons _ (.cons _ (.cons _ (List.Sublist.refl _)))
        exact sl.nodup nd
      · have hb : b ∈ q :: keys (mid' ++ l) := hb
        show b ∈ q :: e2 :: e1 :: keys (mid' ++ l)
        simp only [List.mem_cons] at hb ⊢
        rcases hb with h | h
        · exact .inl h
        · exact .inr (.inr (.inr h))
    refine ⟨own A ((newTn tw ta p work xs).bl j0 ++ l) G, own_sub ok ok1.nd fun b hb => ?_, j0, rfl, rfl, ok1, ⟨hs', .inl ⟨rfl, rfl⟩, .inl ⟨rfl, rfl⟩, rfl, fun _ => ⟨rfl, rfl⟩⟩⟩
    rw [eb] at hb
    rcases List.mem_cons.1 hb with h | hb
    · rw [h]; exact List.mem_cons_self
    · exact List.mem_cons_of_mem _ (List.mem_cons_of_mem _ (List.mem_cons_of_mem _ hb))
  · rintro v K ⟨j, rfl, rfl, o, r⟩
    exact ⟨_, rfl, h j o r⟩

/-- What is left. -/
theorem w_TLeft {m : Tn} {j : TnJ} {rest : Bl} {k : Sl → Tree} (hA : Aw I A) (ok : Ok I G (keys (m.bl j ++ rest))) (rp : m.rep j) (he : 4 ≤ m.ph) (hm : m.left.length ≤ 1000)
    (h : ∀ s' tl', SlOf tl' ty_epoch_Limbo eL s' m.left → Ok I G (keys (m.bl j ++ (tl' ++ rest))) → wp Try.prog (k s') L (own A (m.bl j ++ (tl' ++ rest)) G) R) :
    wp Try.prog (.call f_epoch_Turn_Left [.pointer (some ⟨j.q, 0, none⟩)] (.one (.leaf .slice)) k) L (own A (m.bl j ++ rest) G) R := by
  refine wp_call_of (R0 := fun v K => ∃ s' tl', v = .slice s'.a s'.len s'.cap ∧ K = own A (m.bl j ++ (tl' ++ rest)) G ∧ SlOf tl' ty_epoch_Limbo eL s' m.left ∧ Ok I G (keys (m.bl j ++ (tl' ++ rest)))) ?_ ?_
  · refine t_epoch_Turn_Left_spec fun L => ?_
    unfold t_epoch_Turn_Left
    refine wp_nil.2 ?_
    refine w_ld 0 hA ok rfl rfl rfl ?_
    refine look_val (x := decide (m.ph < 4)) (tneq _ _) (wp_false (decide_eq_false (by omega)) ?_)
    refine wp_nil.2 ?_
    refine w_ld 0 hA ok rfl rfl rfl ?_
    rw [opS_nilapp]
    refine w_appM (E := eL) elL (xs := []) (ys := m.left) (s := sl0) (mid := []) (post := rest) (m.bl j) hA ok (.inl ⟨rfl, rfl⟩) ?_ rp.ds.len (by simp; omega) fun s' mid' hs' ok => ?_
    · refine SlOf.row hA ok (rp.ds.mono fun p hp => List.mem_append_left _ ?_)
      exact List.mem_cons_of_mem _ (List.mem_append_right _ (List.mem_append_right _ (List.mem_append_right _ hp)))
    exact wp_ret_of ⟨s', mid', rfl, rfl, hs', ok⟩
  · rintro v K ⟨s', tl', rfl, rfl, hs', o⟩
    exact ⟨_, rfl, h s' tl' hs' o⟩
end
end Go.Proofs.Ytfphgiipekkgdaa

set_option linter.unusedVariables false
set_option linter.unusedSimpArgs false
set_option maxRecDepth 20000
namespace Go.Proofs.Ytfphgiipekkgdaa
open Go Go.Fw

/-! ### A turn alone, to its end -/

abbrev Tn.on (m : Tn) (fs : List Fe) : Tn := { m with frees := fs, ph := if fs = [] then 4 else 3 }

theorem tn_free {m : Tn} (ll : m.l.length ≤ 1000) {fs : List Fe} : ∀ {n : Nat} {f f' : Fe} {A A' : Ar}, mFe.Runs n f A f' A' → f.done = false →
    (fs ≠ [] → mTn.Path n (m.on (f :: fs)) A (m.on fs) A') ∧ (fs = [] → mTn.Runs n (m.on [f]) A (m.on []) A') := by
  intro n f f' A A' h
  have p3 : ∀ (f : Fe), (m.on (f :: fs)).ph = 3 := fun f => by
    show (if (f :: fs) = [] then 4 else 3) = 3
    rw [if_neg (List.cons_ne_nil _ _)]
  have iv : ∀ (f : Fe) (A : Ar), mTn.inv (m.on (f :: fs)) A := fun f A => ⟨ll, fun h => by rw [p3] at h; omega, fun _ => by simp⟩
  have st : ∀ (f : Fe) (A : Ar), mTn.step (m.on (f :: fs)) A = if (f.step A).1.done = true then (m.on fs, (f.step A).2) else (m.on ((f.step A).1 :: fs), (f.step A).2) := fun f A => by
    show Tn.step (m.on (f :: fs)) A = _
    unfold Tn.step
    rw [if_neg (by rw [p3]; decide), if_neg (by rw [p3]; decide), if_neg (by rw [p3]; decide), if_pos (p3 f)]
    dsimp only
    split
    · rfl
    · simp
  induction h with
  | @one f A h1 h2 h3 =>
    intro hf
    have h3 : (f.step A).1.done = true := h3
    have st1 := st f A
    rw [if_pos h3] at st1
    refine ⟨fun hn => .cons (iv f A) st1 h2 ?_ .nil, fun hn => ?_⟩
    · show decide (4 ≤ (m.on fs).ph) = false
      rw [show (m.on fs).ph = 3 from if_neg hn]; rfl
    · subst hn
      exact .one (iv f A) st1 h2 rfl
  | @more n f A f' A' h1 h2 h3 h4 ih =>
    intro hf
    have h3 : (f.step A).1.done = false := h3
    obtain ⟨i1, i2⟩ := ih h3
    have st1 := st f A
    rw [if_neg (by rw [h3]; simp)] at st1
    have hf2 : mTn.fin (m.on ((f.step A).1 :: fs)) = false := by
      show decide (4 ≤ (m.on ((f.step A).1 :: fs)).ph) = false
      rw [p3]; rfl
    refine ⟨fun hn => .cons (iv f A) st1 h2 hf2 (i1 hn), fun hn => ?_⟩
    have := i2 hn
    subst hn
    exact .more (iv f A) st1 h2 hf2 this

theorem tsweep {m : Tn} (ll : m.l.length ≤ 1000) {p : Pl} {w mm who : Int} (wh : 0 ≤ who ∧ who < w) : ∀ (hs : List Int) (A : Ar) (S : Sg), hs ≠ [] → hs.Nodup → SL A p w mm S → A.wf → A.uses + 3 * hs.length ≤ 1000000 → 8 * hs.length ≤ A.nR → (∀ h ∈ hs, A.stF h = 2 ∧ opC h = 0) →
    ∃ A' S', mTn.Runs (3 * hs.length) (m.on (hs.map (newFe p who))) A (m.on []) A' ∧ Swept A p w mm S who hs A' S'
  | [], _, _, h, _, _, _, _, _, _ => (h rfl).elim
  | h :: hs, A, S, _, hnd, X, hwf, hu, hr, hh => by
    obtain ⟨n1, n2⟩ := List.nodup_cons.1 hnd
    obtain ⟨h1, h2⟩ := hh h List.mem_cons_self
    simp only [List.length_cons] at hu hr
    have us := X.F.us
    obtain ⟨x', A1, Z⟩ := free_solo X hwf (by omega) wh h1 (by rw [h2, show sizeF 0 = 8 from rfl]; omega)
    obtain ⟨f1, f2⟩ := tn_free ll (fs := hs.map (newFe p who)) Z.run rfl
    have z1 := Z.off.us
    have z2 := Z.nR
    rw [h2, show sizeF 0 = 8 from rfl] at z2
    have chz : upd S.ch (4 * who + opC h) (opB h :: S.ch (4 * who + opC h)) (4 * who) = opB h :: S.ch (4 * who) := by
      rw [h2, Int.add_zero]; unfold upd; rw [if_pos rfl]
    by_cases he : hs = []
    · subst he
      refine ⟨A1, _, f2 rfl, Z.off, Z.sl, fun k => ?_, Z.nL, ?_, chz, rfl⟩
      · rw [Z.st k]; simp
      · rw [z2]; simp
    · obtain ⟨A2, S2, r2, W⟩ := tsweep ll wh hs A1 _ he n2 Z.sl Z.off.wf (by omega) (by omega) fun k hk => by
        have := hh k (List.mem_cons_of_mem _ hk)
        refine ⟨?_, this.2⟩
        rw [Z.st k, if_neg (fun e : k = h => n1 (by rw [← e]; exact hk))]; exact this.1
      refine ⟨A2, S2, ?_, ?_, W.sl, fun k => ?_, W.nL.trans Z.nL, ?_, ?_, W.nc⟩
      · have := (f1 (by simpa using he)).run r2
        rw [List.length_cons, show 3 * (hs.length + 1) = 3 + 3 * hs.length by omega]
        exact this
      · have := Z.off.trans W.off
        rw [List.length_cons]
        rw [show (3 * ((hs.length + 1 : Nat) : Int)) = 3 + 3 * (hs.length : Int) by omega]
        exact this
      · rw [W.st k, Z.st k]
        by_cases e1 : k ∈ hs
        · rw [if_pos e1, if_pos (List.mem_cons_of_mem _ e1)]
        · rw [if_neg e1]
          by_cases e2 : k = h
          · rw [if_pos e2, if_pos (by rw [e2]; exact List.mem_cons_self)]
          · rw [if_neg e2, if_neg (by simp [e1, e2])]
      · rw [W.nR, z2, List.length_cons]; omega
      · rw [W.ch]
        show _ ++ upd S.ch (4 * who + opC h) (opB h :: S.ch (4 * who + opC h)) (4 * who) = _
        rw [chz]; simp

def tgone (e : Int) (xs : List (Int × Int)) : List Int := (xs.filter (due e)).map Prod.fst
def tleft (e : Int) (xs : List (Int × Int)) : List (Int × Int) := xs.filter fun x => !due e x

section
variable {A : Ar} {p : Pl} {w m : Int} {S : Sg}

theorem tn_sorted (t : Tn) : t.sort = Tn.on { t with left := tleft t.e t.l } ((tgone t.e t.l).map (newFe t.pl t.work)) := by
  show Tn.mk _ _ _ _ _ _ _ (((t.l.take t.l.length).filter (due t.e)).map fun x => newFe t.pl t.work x.1) ((t.l.take t.l.length).filter fun x => !due t.e x) (if (((t.l.take t.l.length).filter (due t.e)).map fun x => newFe t.pl t.work x.1) = [] then 4 else 3) = _
  rw [List.take_length]
  have : ((t.l.filter (due t.e)).map fun x => newFe t.pl t.work x.1) = (tgone t.e t.l).map (newFe t.pl t.work) := by
    unfold tgone; rw [List.map_map]; rfl
  rw [this]; rfl

theorem turn_end {who : Int} {B D : Ar} {mm t : Tn} (X : SL B p w m S) (hwf : B.wf) (wh : 0 ≤ who ∧ who < w) (tp : t.pl = p) (tw : t.work = who) (ll : t.l.length ≤ 1000) (u1 : B.uses ≤ 900000)
    (nd : (t.l.map Prod.fst).Nodup) (nr : 8 * t.l.length ≤ B.nR) (hh : ∀ x ∈ t.l, B.stF x.1 = 2 ∧ opC x.1 = 0) (iv : mTn.inv mm D) (hst : mTn.step mm D = (t.sort, B)) (hu : B.uses ≤ w64 (D.uses + 1)) :
    ∃ A' S' m', mTn.Runs (1 + 3 * (tgone t.e t.l).length) mm D m' A' ∧ m'.left = tleft t.e t.l ∧ 4 ≤ m'.ph ∧ Swept B p w m S who (tgone t.e t.l) A' S' := by
  subst tp; subst tw
  rw [tn_sorted] at hst
  have hle : (tgone t.e t.l).length ≤ t.l.length := by unfold tgone; rw [List.length_map]; exact List.length_filter_le _ _
  by_cases hg : tgone t.e t.l = []
  · refine ⟨B, S, Tn.on { t with left := tleft t.e t.l } [], ?_, rfl, Nat.le_refl 4, ?_⟩
    · rw [hg] at hst ⊢
      exact .one iv hst hu rfl
    · rw [hg]; exact .refl X hwf
  · obtain ⟨A', S', r, W⟩ := tsweep (m := { t with left := tleft t.e t.l }) ll (p := t.pl) (w := w) (mm := m) wh (tgone t.e t.l) B S hg (((List.filter_sublist (l := t.l) (p := due t.e)).map Prod.fst).nodup nd) X hwf (by omega) (by omega) fun h hm => by
      obtain ⟨x, hx, rfl⟩ := List.mem_map.1 hm
      exact hh x (List.mem_filter.1 hx).1
    refine ⟨A', S', Tn.on { t with left := tleft t.e t.l } [], ?_, rfl, Nat.le_refl 4, W⟩
    rw [Nat.add_comm]
    refine .more iv hst hu ?_ r
    have : (tgone t.e t.l).map (newFe t.pl t.work) ≠ [] := by simpa using hg
    show decide (4 ≤ (Tn.on { t with left := tleft t.e t.l } ((tgone t.e t.l).map (newFe t.pl t.work))).ph) = false
    rw [show (Tn.on { t with left := tleft t.e t.l } ((tgone t.e t.l).map (newFe t.pl t.work))).ph = 3 from if_neg this]; rfl

/-- Behind so many words that were in nobody's way. -/
def tnN (tw ta : Int) (p : Pl) (who : Int) (xs : List (Int × Int)) (e : Int) (n : Nat) : Tn := ⟨tw, ta, p, who, e, n, xs, [], [], if (n : Int) = tw then 2 else 1⟩

theorem looks_path {tw ta who e : Int} {xs : List (Int × Int)} (tb : 1 ≤ tw ∧ tw ≤ 1000) (ll : xs.length ≤ 1000) (h0 : 0 ≤ ta) (h1 : ta + 1 + tw ≤ A.raw.length) (h2 : (A.raw.length : Int) ≤ 1000000) (u0 : 0 ≤ A.uses) (u1 : A.uses ≤ 1000000)
    (he : A.rawF ta = e) (eb : 0 ≤ e ∧ e ≤ 1000000) :
    ∀ n : Nat, (n : Int) ≤ tw → (∀ i : Nat, i < n → A.rawF (ta + 1 + i) = 0 ∨ A.rawF (ta + 1 + i) = e + 1) → mTn.Path (1 + n) (newTn tw ta p who xs) A (tnN tw ta p who xs e n) (A.later (1 + n))
  | 0, _, _ => by
    have e2 : w64 (A.uses + 1) = A.uses + 1 := w64_in (by omega) (by omega)
    refine .cons (x1 := tnN tw ta p who xs e 0) (D1 := A.later (1 + (0 : Nat))) ⟨ll, fun _ => ⟨rfl, rfl⟩, fun h => by cases h⟩ ?_ ?_ ?_ .nil
    · show Tn.step (newTn tw ta p who xs) A = _
      unfold Tn.step
      rw [if_pos (show (newTn tw ta p who xs).ph = 0 from rfl)]
      have et : (newTn tw ta p who xs).ta = ta := rfl
      have ew : (newTn tw ta p who xs).tw = tw := rfl
      rw [et, ew, he, tick_later ⟨by omega, by omega⟩ u0 (by omega), if_neg (by omega)]
      unfold tnN
      rw [if_neg (by omega)]; rfl
    · show A.uses + (1 + 0) ≤ _; rw [e2]; omega
    · show decide (4 ≤ (tnN tw ta p who xs e 0).ph) = false
      unfold tnN; rw [if_neg (by omega)]; rfl
  | n + 1, hn, hw => by
    have ih := looks_path (who := who) (xs := xs) tb ll h0 h1 h2 u0 u1 he eb n (by omega) fun i hi => hw i (by omega)
    have hv := hw n (by omega)
    have ew : ewd ta n = ta + 1 + n := ewd_eq ⟨by omega, by omega, by omega, by omega⟩
    have e1 : w64 ((n : Int) + 1) = n + 1 := w64_in (by omega) (by omega)
    have e2 : w64 (A.uses + (1 + n) + 1) = A.uses + (1 + n) + 1 := w64_in (by omega) (by omega)
    have e3 : w64 (e + 1) = e + 1 := w64_in (by omega) (by omega)
    have p1 : (tnN tw ta p who xs e n).ph = 1 := if_neg (by omega)
    rw [show 1 + (n + 1) = (1 + n) + 1 by omega]
    refine ih.trans (.cons (x1 := tnN tw ta p who xs e (n + 1)) (D1 := A.later (1 + ((n + 1 : Nat) : Int))) ⟨ll, fun _ => ⟨rfl, rfl⟩, fun h => by rw [p1] at h; omega⟩ ?_ ?_ ?_ .nil)
    · show Tn.step (tnN tw ta p who xs e n) (A.later (1 + n)) = _
      unfold Tn.step
      have et : (tnN tw ta p who xs e n).ta = ta := rfl
      have en : (tnN tw ta p who xs e n).word = n := rfl
      have etw : (tnN tw ta p who xs e n).tw = tw := rfl
      have ee : (tnN tw ta p who xs e n).e = e := rfl
      rw [if_neg (by rw [p1]; decide), if_pos p1, et, en, etw, ee, ew, e1, e3]
      have er : (A.later (1 + n)).rawF (ta + 1 + n) = A.rawF (ta + 1 + n) := rfl
      rw [er, if_neg (fun h => by rcases hv with h' | h'; exact h.1 h'; exact h.2 h'), tick_later (A := A.later (1 + n)) ⟨by omega, by show ta + 1 + (n : Int) < (A.raw.length : Int); omega⟩ (by show 0 ≤ A.uses + _; omega) (by show A.uses + _ ≤ _; omega), later_add]
      refine Prod.ext rfl ?_
      show A.later (1 + (n : Int) + 1) = A.later (1 + ((n + 1 : Nat) : Int))
      rw [show 1 + (n : Int) + 1 = 1 + ((n + 1 : Nat) : Int) by omega]
    · show A.uses + (1 + ((n + 1 : Nat) : Int)) ≤ w64 (A.uses + (1 + n) + 1)
      rw [e2]; omega
    · show decide (4 ≤ (tnN tw ta p who xs e (n + 1)).ph) = false
      unfold tnN
      dsimp only
      split <;> rfl

theorem swapR_yes {i v x : Int} (o : A.rawOk i) (h : A.rawF i = v) : A.swapRb i v = true ∧ A.swapR i v x = A.storeR i x := by
  have h' : A.raw.getD i.toNat 0 = v := by rw [getD_rawF o]; exact h
  refine ⟨decide_eq_true ⟨o, h'⟩, ?_⟩
  unfold Ar.swapR Ar.storeR
  rw [if_pos o, if_pos h', if_pos o]

/-- With nobody in its way. -/
theorem turn_free {tw ta who e : Int} {xs : List (Int × Int)} (X : SL A p w m S) (hwf : A.wf) (tb : 1 ≤ tw ∧ tw ≤ 1000) (ll : xs.length ≤ 1000) (h0 : p.carved < ta) (h1 : ta + 1 + tw ≤ A.raw.length) (h2 : (A.raw.length : Int) ≤ 1000000) (u1 : A.uses ≤ 800000)
    (he : A.rawF ta = e) (eb : 0 ≤ e ∧ e ≤ 1000000) (wh : 0 ≤ who ∧ who < w) (nd : (xs.map Prod.fst).Nodup) (nr : 8 * xs.length ≤ A.nR) (hh : ∀ x ∈ xs, A.stF x.1 = 2 ∧ opC x.1 = 0)
    (hw : ∀ i : Nat, (i : Int) < tw → A.rawF (ta + 1 + i) = 0 ∨ A.rawF (ta + 1 + i) = e + 1) :
    ∃ B A' S' m' n, mTn.Runs n (newTn tw ta p who xs) A m' A' ∧ n = 2 + tw.toNat + 3 * (tgone (e + 1) xs).length ∧ m'.left = tleft (e + 1) xs ∧ 4 ≤ m'.ph ∧ OutS (A.later (1 + tw)) p w m S ta (e + 1) B ∧ Swept B p w m S who (tgone (e + 1) xs) A' S' := by
  have u0 := X.F.us
  obtain ⟨p1, p2, p3, p4, p5⟩ := X.places
  have wb := X.wb
  have mb := X.mb
  have t0 : 0 ≤ ta := by omega
  have pth := looks_path (p := p) (who := who) (xs := xs) tb ll t0 h1 h2 u0 (by omega) he eb tw.toNat (by omega) fun i hi => hw i (by omega)
  have O := outS (X.later (n := 1 + tw) (by omega)) (i := ta) (v := e + 1) ⟨h0, by show ta < (A.raw.length : Int); omega⟩ (by show A.uses + _ ≤ _; omega)
  obtain ⟨B, hB⟩ : ∃ B, B = (A.later (1 + tw)).storeR ta (e + 1) := ⟨_, rfl⟩
  rw [← hB] at O
  have hBw : B.wf := by rw [hB]; exact storeR_wf (later_wf hwf _) _ _
  have us := O.us
  have us1 : (A.later (1 + tw)).uses = A.uses + (1 + tw) := rfl
  have e3 : w64 (e + 1) = e + 1 := w64_in (by omega) (by omega)
  have etn : ((tw.toNat : Nat) : Int) = tw := by omega
  have ph2 : (tnN tw ta p who xs e tw.toNat).ph = 2 := if_pos etn
  rw [etn] at pth
  obtain ⟨A', S', m', r, q1, q2, q3⟩ := turn_end (t := { tnN tw ta p who xs e tw.toNat with e := e + 1 }) (mm := tnN tw ta p who xs e tw.toNat) (D := A.later (1 + tw)) O.sl hBw wh rfl rfl ll (by omega) nd (by rw [O.nR]; exact nr) (fun x hx => by rw [O.st]; exact hh x hx) ⟨ll, fun _ => ⟨rfl, rfl⟩, fun h => by rw [ph2] at h; omega⟩ (by
      show Tn.step (tnN tw ta p who xs e tw.toNat) (A.later (1 + tw)) = _
      unfold Tn.step
      have et : (tnN tw ta p who xs e tw.toNat).ta = ta := rfl
      have ee : (tnN tw ta p who xs e tw.toNat).e = e := rfl
      obtain ⟨s1, s2⟩ := swapR_yes (A := A.later (1 + tw)) (i := ta) (v := e) (x := e + 1) ⟨by omega, by show ta < (A.raw.length : Int); omega⟩ he
      rw [if_neg (by rw [ph2]; decide), if_neg (by rw [ph2]; decide), if_pos ph2, et, ee, e3, s2, if_pos s1, hB]; rfl) (by
      rw [us, us1, w64_in (by omega) (by omega)]; omega)
  exact ⟨B, A', S', m', _, pth.run r, by show _ = 2 + tw.toNat + 3 * (tgone (e + 1) xs).length; show 1 + tw.toNat + (1 + 3 * (tgone (e + 1) xs).length) = _; omega, q1, q2, O, q3⟩

/-- With one behind. -/
theorem turn_block {tw ta who e : Int} {xs : List (Int × Int)} (X : SL A p w m S) (hwf : A.wf) (tb : 1 ≤ tw ∧ tw ≤ 1000) (ll : xs.length ≤ 1000) (h0 : 0 ≤ ta) (h1 : ta + 1 + tw ≤ A.raw.length) (h2 : (A.raw.length : Int) ≤ 1000000) (u1 : A.uses ≤ 800000)
    (he : A.rawF ta = e) (eb : 0 ≤ e ∧ e ≤ 1000000) (wh : 0 ≤ who ∧ who < w) (nd : (xs.map Prod.fst).Nodup) (nr : 8 * xs.length ≤ A.nR) (hh : ∀ x ∈ xs, A.stF x.1 = 2 ∧ opC x.1 = 0) {k : Nat} (hk : (k : Int) < tw)
    (hw : ∀ i : Nat, i < k → A.rawF (ta + 1 + i) = 0 ∨ A.rawF (ta + 1 + i) = e + 1) (hn : A.rawF (ta + 1 + k) ≠ 0 ∧ A.rawF (ta + 1 + k) ≠ e + 1) :
    ∃ A' S' m' n, mTn.Runs n (newTn tw ta p who xs) A m' A' ∧ n = 2 + k + 3 * (tgone e xs).length ∧ m'.left = tleft e xs ∧ 4 ≤ m'.ph ∧ Swept (A.later (2 + k)) p w m S who (tgone e xs) A' S' := by
  have u0 := X.F.us
  have pth := looks_path (p := p) (who := who) (xs := xs) tb ll h0 h1 h2 u0 (by omega) he eb k (by omega) hw
  have e3 : w64 (e + 1) = e + 1 := w64_in (by omega) (by omega)
  have e1 : w64 ((k : Int) + 1) = k + 1 := w64_in (by omega) (by omega)
  have ew : ewd ta k = ta + 1 + k := ewd_eq ⟨by omega, by omega, by omega, by omega⟩
  have ph1 : (tnN tw ta p who xs e k).ph = 1 := if_neg (by omega)
  obtain ⟨A', S', m', r, q1, q2, q3⟩ := turn_end (t := { tnN tw ta p who xs e k with word := (k : Int) + 1 }) (mm := tnN tw ta p who xs e k) (D := A.later (1 + k)) (B := A.later (2 + k)) (X.later (by omega)) (later_wf hwf _) wh rfl rfl ll (by show A.uses + _ ≤ _; omega) nd nr hh ⟨ll, fun _ => ⟨rfl, rfl⟩, fun h => by rw [ph1] at h; omega⟩ (by
      show Tn.step (tnN tw ta p who xs e k) (A.later (1 + k)) = _
      unfold Tn.step
      have et : (tnN tw ta p who xs e k).ta = ta := rfl
      have ee : (tnN tw ta p who xs e k).e = e := rfl
      have en : (tnN tw ta p who xs e k).word = k := rfl
      have er : (A.later (1 + k)).rawF (ta + 1 + k) = A.rawF (ta + 1 + k) := rfl
      rw [if_neg (by rw [ph1]; decide), if_pos ph1, et, ee, en, ew, e1, e3, er, if_pos hn, tick_later (A := A.later (1 + k)) ⟨by omega, by show ta + 1 + (k : Int) < (A.raw.length : Int); omega⟩ (by show 0 ≤ A.uses + _; omega) (by show A.uses + _ ≤ _; omega), later_add, show 1 + (k : Int) + 1 = 2 + k by omega]; rfl) (by
      show A.uses + (2 + k) ≤ w64 (A.uses + (1 + k) + 1)
      rw [w64_in (by omega) (by omega)]; omega)
  exact ⟨A', S', m', _, pth.run r, by show 1 + k + (1 + 3 * (tgone e xs).length) = _; omega, q1, q2, q3⟩

end
end Go.Proofs.Ytfphgiipekkgdaa

set_option linter.unusedVariables false
set_option linter.unusedSimpArgs false
set_option maxRecDepth 20000
namespace Go.Proofs.Ytfphgiipekkgdaa
open Go Go.Fw

/-! ### A turn, step by step, while others pin -/

section
variable {A B : Ar} {p : Pl} {w m : Int} {S S' : Sg}

structure TnI (p : Pl) (w m ta : Int) (x : Tn) (A : Ar) (S : Sg) : Prop where
  htw : x.tw = w
  hta : x.ta = ta
  hpl : x.pl = p
  hwk : x.work = 0
  ll : x.l.length ≤ 100
  nf : x.ph < 4
  lb : ∀ q ∈ x.l, q.2 ≤ 1000000
  lb2 : ∀ q ∈ x.left, q.2 ≤ 1000000
  st : (x.ph ≤ 2 ∧ x.frees = [] ∧ x.left = [] ∧ (x.l.map Prod.fst).Nodup ∧ (∀ q ∈ x.l, A.stF q.1 = 2) ∧ (x.ph ≤ 1 → 0 ≤ x.word ∧ x.word < w) ∧ (1 ≤ x.ph → x.e = A.rawF ta) ∧ (x.ph = 0 → x.word = 0)) ∨
    (x.ph = 3 ∧ x.frees ≠ [] ∧ FrsI p w m A S x.frees ∧ (x.frees.map Fe.h).Nodup ∧ (x.left.map Prod.fst).Nodup ∧ (∀ q ∈ x.left, A.stF q.1 = 2 ∧ q.1 ∉ x.frees.map Fe.h) ∧ x.left.length ≤ 100)
/-- A pin at P is not outrun. -/
def TSafe (x : Tn) (g r P : Int) : Prop := g = P + 1 → x.ph = 0 ∨ (x.ph = 1 ∧ x.word ≤ r) ∨ 3 ≤ x.ph
/-- What is looked at since P is not freed by this turn. -/
def HSafe (x : Tn) (h P : Int) : Prop := if x.ph ≤ 2 then ∀ q ∈ x.l, q.1 = h → P ≤ q.2 else h ∉ x.frees.map Fe.h ∧ ∀ q ∈ x.left, q.1 = h → P ≤ q.2

theorem TnI.new (X : SL A p w m S) (hw : 1 ≤ w ∧ w ≤ 1000) {ta : Int} {xs : List (Int × Int)} (hl : xs.length ≤ 100) (nd : (xs.map Prod.fst).Nodup) (hs : ∀ q ∈ xs, A.stF q.1 = 2) (lb : ∀ q ∈ xs, q.2 ≤ 1000000) : TnI p w m ta (newTn w ta p 0 xs) A S :=
  ⟨rfl, rfl, rfl, rfl, hl, by show 0 < 4; decide, lb, fun q hq => (by cases hq), .inl ⟨by show 0 ≤ 2; decide, rfl, rfl, nd, hs, fun _ => ⟨Int.le_refl 0, by show 0 < w; omega⟩, fun h => (by cases h), fun _ => rfl⟩⟩
theorem TSafe.new {ta g r P : Int} {xs : List (Int × Int)} : TSafe (newTn w ta p 0 xs) g r P := fun _ => .inl rfl
theorem HSafe.new {ta h P : Int} {xs : List (Int × Int)} (hx : ∀ q ∈ xs, q.1 = h → P ≤ q.2) : HSafe (newTn w ta p 0 xs) h P := by
  unfold HSafe; rw [if_pos (by show 0 ≤ 2; decide)]; exact hx

theorem TnI.keep {ta : Int} {x : Tn} (I : TnI p w m ta x A S) {mine : Int} (E : Ev p w m A S B S' mine) (hg : B.rawF ta = A.rawF ta) (hm : ∀ h, A.stF h = 2 → opB h ≠ mine) : TnI p w m ta x B S' := by
  have st2 : ∀ h, A.stF h = 2 → B.stF h = 2 := fun h hh => by rw [E.st h (hm h hh)]; exact hh
  refine ⟨I.htw, I.hta, I.hpl, I.hwk, I.ll, I.nf, I.lb, I.lb2, ?_⟩
  rcases I.st with ⟨a1, a2, a3, a4, a5, a6, a7, a8⟩ | ⟨a1, a2, a3, a4, a5, a6, a7⟩
  · exact .inl ⟨a1, a2, a3, a4, fun q hq => st2 _ (a5 q hq), a6, fun h => by rw [hg]; exact a7 h, a8⟩
  · refine .inr ⟨a1, a2, ?_, a4, a5, fun q hq => ⟨st2 _ (a6 q hq).1, (a6 q hq).2⟩, a7⟩
    cases hf : x.frees with
    | nil => trivial
    | cons f fs =>
      rw [hf] at a3
      exact ⟨a3.1.keep E (hm _ a3.1.st), fun g hg => ⟨(a3.2 g hg).1, st2 _ (a3.2 g hg).2⟩⟩

structure TnS (p : Pl) (w m ta : Int) (x : Tn) (A : Ar) (S : Sg) (y : Tn) (B : Ar) (S' : Sg) : Prop where
  sl : SL B p w m S'
  wd : B.words = A.words
  us : B.uses = A.uses + 1
  fa : B.fault = A.fault
  rl : B.raw.length = A.raw.length
  rw : ∀ i, p.carved < i → i ≠ ta → B.rawF i = A.rawF i
  gl : B.rawF ta = A.rawF ta ∨ B.rawF ta = A.rawF ta + 1
  nL : B.nL = A.nL
  nR : B.nR ≤ A.nR
  st : ∀ h, B.stF h = A.stF h ∨ (B.stF h = 0 ∧ A.stF h = 2)
  ts : ∀ r P, 0 ≤ r → r < w → 0 ≤ P → A.rawF (ta + 1 + r) = P + 1 → A.rawF ta = P ∨ A.rawF ta = P + 1 → TSafe x (A.rawF ta) r P → (B.rawF ta = P ∨ B.rawF ta = P + 1) ∧ TSafe y (B.rawF ta) r P ∧
    ∀ h, A.stF h ≠ 0 → HSafe x h P → B.stF h = A.stF h ∧ HSafe y h P
  go : y.ph < 4 → TnI p w m ta y B S'
  fin : 4 ≤ y.ph → (y.left.map Prod.fst).Nodup ∧ (∀ q ∈ y.left, B.stF q.1 = 2) ∧ y.left.length ≤ 100
  lb : ∀ q ∈ y.left, q.2 ≤ 1000000
  l : y.left.length ≤ 1000

/-- What is due is sorted out. -/
theorem tn_sort {t : Tn} {ta : Int} (X : SL B p w m S) (tw : t.tw = w) (tt : t.ta = ta) (tp : t.pl = p) (tk : t.work = 0) (ll : t.l.length ≤ 100) (nd : (t.l.map Prod.fst).Nodup) (hs : ∀ q ∈ t.l, B.stF q.1 = 2) (wh : 1 ≤ w) (lb : ∀ q ∈ t.l, q.2 ≤ 1000000) :
    (t.sort.ph < 4 → TnI p w m ta t.sort B S) ∧ (4 ≤ t.sort.ph → (t.sort.left.map Prod.fst).Nodup ∧ (∀ q ∈ t.sort.left, B.stF q.1 = 2) ∧ t.sort.left.length ≤ 100) ∧ 3 ≤ t.sort.ph ∧ t.sort.left.length ≤ 100 ∧
      (∀ h P, (∀ q ∈ t.l, q.1 = h → P ≤ q.2) → t.e ≤ P + 1 → -1000000 ≤ P → HSafe t.sort h P) ∧ (∀ q ∈ t.sort.left, q.2 ≤ 1000000) := by
  subst tp
  have es := tn_sorted t
  rw [tk] at es
  have hg : (tgone t.e t.l).Nodup := ((List.filter_sublist (l := t.l) (p := due t.e)).map Prod.fst).nodup nd
  have hmap : ((tgone t.e t.l).map (newFe t.pl 0)).map Fe.h = tgone t.e t.l := by rw [List.map_map]; exact List.map_id _
  have hlen : (tleft t.e t.l).length ≤ 100 := Nat.le_trans (List.length_filter_le _ _) ll
  have hnd : ((tleft t.e t.l).map Prod.fst).Nodup := ((List.filter_sublist (l := t.l) (p := fun x => !due t.e x)).map Prod.fst).nodup nd
  have hsl : ∀ q ∈ tleft t.e t.l, B.stF q.1 = 2 := fun q hq => hs q (List.mem_filter.1 hq).1
  have hsg : ∀ h ∈ tgone t.e t.l, B.stF h = 2 := fun h hh => by
    obtain ⟨q, hq, rfl⟩ := List.mem_map.1 hh
    exact hs q (List.mem_filter.1 hq).1
  have dj : ∀ q ∈ tleft t.e t.l, q.1 ∉ tgone t.e t.l := fun q hq hm => by
    obtain ⟨q2, h2, e⟩ := List.mem_map.1 hm
    obtain ⟨m1, m2⟩ := List.mem_filter.1 hq
    obtain ⟨m3, m4⟩ := List.mem_filter.1 h2
    have : q2 = q := by
      have inj : ∀ {l : List (Int × Int)}, (l.map Prod.fst).Nodup → ∀ a ∈ l, ∀ b ∈ l, a.1 = b.1 → a = b := fun {l} => by
        induction l with
        | nil => intro _ a ha; cases ha
        | cons c l ih =>
          intro nd a ha b hb hab
          obtain ⟨n1, n2⟩ := List.nodup_cons.1 (show (c.1 :: l.map Prod.fst).Nodup from nd)
          rcases List.mem_cons.1 ha with e | e
          · rcases List.mem_cons.1 hb with e2 | e2
            · rw [e, e2]
            · subst e
              exact (n1 (by rw [hab]; exact List.mem_map.2 ⟨b, e2, rfl⟩)).elim
          · rcases List.mem_cons.1 hb with e2 | e2
            · subst e2
              exact (n1 (by rw [← hab]; exact List.mem_map.2 ⟨a, e, rfl⟩)).elim
            · exact ih n2 a e b e2 hab
      exact inj nd q2 m3 q m1 e
    subst this
    rw [m4] at m2; cases m2
  have ph3 : 3 ≤ t.sort.ph := by
    show 3 ≤ (if _ then 4 else 3)
    split <;> decide
  have left : t.sort.left = tleft t.e t.l := by rw [es]
  have frees : t.sort.frees = (tgone t.e t.l).map (newFe t.pl 0) := by rw [es]
  refine ⟨fun h4 => ?_, fun _ => by rw [left]; exact ⟨hnd, hsl, hlen⟩, ph3, by rw [left]; exact hlen, fun h P h1 h2 h3 => ?_, fun q hq => by rw [left] at hq; exact lb q (List.mem_filter.1 hq).1⟩
  · have hne : (tgone t.e t.l).map (newFe t.pl 0) ≠ [] := fun e => by
      have : t.sort.ph = 4 := by rw [es]; show (if _ then 4 else 3) = 4; rw [if_pos e]
      omega
    refine ⟨tw, tt, rfl, tk, ll, h4, lb, fun q hq => by rw [left] at hq; exact lb q (List.mem_filter.1 hq).1, .inr ⟨by omega, by rw [frees]; exact hne, ?_, by rw [frees, hmap]; exact hg, by rw [left]; exact hnd, fun q hq => ?_, by rw [left]; exact hlen⟩⟩
    · rw [frees]
      have hall : ∀ g ∈ (tgone t.e t.l).map (newFe t.pl 0), g = newFe t.pl 0 g.h ∧ B.stF g.h = 2 := fun g hgm => by
        obtain ⟨h, hh, rfl⟩ := List.mem_map.1 hgm
        exact ⟨rfl, hsg h hh⟩
      cases hf : (tgone t.e t.l).map (newFe t.pl 0) with
      | nil => trivial
      | cons f fs =>
        rw [hf] at hall
        obtain ⟨q1, q2⟩ := hall f List.mem_cons_self
        refine ⟨?_, fun g hg => hall g (List.mem_cons_of_mem _ hg)⟩
        rw [q1]; exact FeI.new X ⟨Int.le_refl 0, by omega⟩ q2
    · rw [left] at hq
      rw [frees, hmap]
      exact ⟨hsl q hq, dj q hq⟩
  · unfold HSafe
    rw [if_neg (by omega), frees, hmap, left]
    refine ⟨fun hm => ?_, fun q hq e => h1 q (List.mem_filter.1 hq).1 e⟩
    obtain ⟨q, hq, e⟩ := List.mem_map.1 hm
    obtain ⟨m1, m2⟩ := List.mem_filter.1 hq
    have hp := h1 q m1 e
    have hu := lb q m1
    unfold due at m2
    have m2 := of_decide_eq_true m2
    rw [w64_in (by omega) (by omega)] at m2
    omega

set_option maxHeartbeats 2000000 in
theorem TnI.step {ta : Int} {x : Tn} (I : TnI p w m ta x A S) (X : SL A p w m S) (hwf : A.wf) (hu : A.uses ≤ 1000000) (tb : p.carved < ta ∧ ta + 1 + w ≤ A.raw.length) (rl : (A.raw.length : Int) ≤ 1000000) (gb : 0 ≤ A.rawF ta ∧ A.rawF ta ≤ 900000) (w1 : 1 ≤ w) :
    mTn.inv x A ∧ ∃ S', TnS p w m ta x A S (x.step A).1 (x.step A).2 S' := by
  obtain ⟨p1, p2, p3, p4, p5⟩ := X.places
  have wb := X.wb
  have mb := X.mb
  have us := X.F.us
  have ll := I.ll
  have X1 := X.later (n := 1) (by omega)
  have okT : A.rawOk ta := ⟨by omega, by omega⟩
  rcases I.st with ⟨a1, a2, a3, a4, a5, a6, a7, a8⟩ | ⟨a1, a2, a3, a4, a5, a6, a7⟩
  · refine ⟨⟨by omega, fun _ => ⟨a2, a3⟩, fun h => by omega⟩, ?_⟩
    by_cases h0 : x.ph = 0
    · -- the global is looked at
      have hst : x.step A = ({ x with e := A.rawF ta, ph := 1 }, A.later 1) := by
        unfold Tn.step
        rw [if_pos h0, I.hta, I.htw, if_neg (by omega), tick_later ⟨by omega, by omega⟩ us (by omega)]
      rw [hst]
      have w0 := a8 h0
      refine ⟨S, X1, rfl, rfl, rfl, rfl, fun _ _ _ => rfl, .inl rfl, rfl, Int.le_refl _, fun h => .inl rfl, fun r P r0 r1 P0 hr hg ht => ⟨hg, fun _ => .inr (.inl ⟨rfl, by show x.word ≤ r; omega⟩), fun h hs hh => ⟨rfl, ?_⟩⟩, fun _ => ⟨I.htw, I.hta, I.hpl, I.hwk, I.ll, by show 1 < 4; decide, I.lb, I.lb2, .inl ⟨by show 1 ≤ 2; decide, a2, a3, a4, a5, fun _ => a6 (by omega), fun _ => rfl, fun h => (by cases h)⟩⟩, fun h => ?_, I.lb2, by show x.left.length ≤ 1000; rw [a3]; exact Nat.zero_le _⟩
      · unfold HSafe at hh ⊢
        rw [if_pos a1] at hh
        rw [if_pos (by show 1 ≤ 2; decide)]; exact hh
      · exact absurd h (by show ¬ 4 ≤ 1; decide)
    by_cases h1 : x.ph = 1
    · -- a word is looked at
      obtain ⟨wd0, wd1⟩ := a6 (by omega)
      have ee := a7 (by omega)
      have ew : ewd ta x.word = ta + 1 + x.word := ewd_eq ⟨by omega, by omega, by omega, by omega⟩
      have e1 : w64 (x.word + 1) = x.word + 1 := w64_in (by omega) (by omega)
      have e3 : w64 (x.e + 1) = x.e + 1 := w64_in (by omega) (by omega)
      have hst : x.step A = (if A.rawF (ta + 1 + x.word) ≠ 0 ∧ A.rawF (ta + 1 + x.word) ≠ x.e + 1 then Tn.sort { x with word := x.word + 1 } else { x with word := x.word + 1, ph := if x.word + 1 = w then 2 else 1 }, A.later 1) := by
        unfold Tn.step
        rw [if_neg h0, if_pos h1, I.hta, ew, e1, e3, I.htw, tick_later ⟨by omega, by omega⟩ us (by omega)]
      rw [hst]
      by_cases c : A.rawF (ta + 1 + x.word) ≠ 0 ∧ A.rawF (ta + 1 + x.word) ≠ x.e + 1
      · rw [if_pos c]
        obtain ⟨t1, t2, t3, t4, t5, t6⟩ := tn_sort (t := { x with word := x.word + 1 }) (ta := ta) X1 I.htw I.hta I.hpl I.hwk I.ll a4 a5 w1 I.lb
        refine ⟨S, X1, rfl, rfl, rfl, rfl, fun _ _ _ => rfl, .inl rfl, rfl, Int.le_refl _, fun h => .inl rfl, fun r P r0 r1 P0 hr hg ht => ⟨hg, fun _ => .inr (.inr t3), fun h hs hh => ⟨rfl, ?_⟩⟩, t1, t2, t6, Nat.le_trans t4 (by decide)⟩
        unfold HSafe at hh
        rw [if_pos a1] at hh
        exact t5 h P hh (by show x.e ≤ P + 1; omega) (by omega)
      · rw [if_neg c]
        refine ⟨S, X1, rfl, rfl, rfl, rfl, fun _ _ _ => rfl, .inl rfl, rfl, Int.le_refl _, fun h => .inl rfl, fun r P r0 r1 P0 hr hg ht => ⟨hg, fun hgp => ?_, fun h hs hh => ⟨rfl, ?_⟩⟩, fun _ => ⟨I.htw, I.hta, I.hpl, I.hwk, I.ll, ?_, I.lb, I.lb2, .inl ⟨?_, a2, a3, a4, a5, fun hp => ?_, fun _ => ee, fun hp => ?_⟩⟩, fun h => ?_, I.lb2, by show x.left.length ≤ 1000; rw [a3]; exact Nat.zero_le _⟩
        · rcases ht hgp with h | ⟨-, h⟩ | h
          · omega
          · by_cases e : x.word = r
            · exfalso
              rw [e] at c
              have hgp : A.rawF ta = P + 1 := hgp
              exact c ⟨by omega, by omega⟩
            · refine .inr (.inl ⟨?_, by show x.word + 1 ≤ r; omega⟩)
              show (if x.word + 1 = w then 2 else 1) = 1
              rw [if_neg (by omega)]
          · omega
        · unfold HSafe at hh ⊢
          rw [if_pos a1] at hh
          rw [if_pos (by show (if x.word + 1 = w then 2 else 1) ≤ 2; split <;> decide)]; exact hh
        · show (if x.word + 1 = w then 2 else 1) < 4; split <;> decide
        · show (if x.word + 1 = w then 2 else 1) ≤ 2; split <;> decide
        · have hp : (if x.word + 1 = w then 2 else 1) ≤ 1 := hp
          split at hp
          · omega
          · show 0 ≤ x.word + 1 ∧ x.word + 1 < w; omega
        · have hp : (if x.word + 1 = w then 2 else 1) = 0 := hp
          split at hp <;> cases hp
        · have h : 4 ≤ (if x.word + 1 = w then 2 else 1) := h
          split at h <;> omega
    · -- the global is turned
      have h2 : x.ph = 2 := by omega
      have ee := a7 (by omega)
      have e3 : w64 (x.e + 1) = x.e + 1 := w64_in (by omega) (by omega)
      obtain ⟨s1, s2⟩ := swapR_yes (A := A) (i := ta) (v := x.e) (x := x.e + 1) okT ee.symm
      have O := outS X (i := ta) (v := x.e + 1) ⟨tb.1, by omega⟩ (by omega)
      have hst : x.step A = (Tn.sort { x with e := x.e + 1 }, A.storeR ta (x.e + 1)) := by
        unfold Tn.step
        rw [if_neg h0, if_neg h1, if_pos h2, I.hta, e3, s1, s2]; rfl
      rw [hst]
      have Q := Qu.storeR X (by omega) (i := ta) (v := x.e + 1) ⟨tb.1, by omega⟩
      obtain ⟨q1, q2, q3, q4, q5, q6, q7, q8, q9, q10⟩ := Q
      generalize A.storeR ta (x.e + 1) = B at *
      obtain ⟨t1, t2, t3, t4, t5, t6⟩ := tn_sort (t := { x with e := x.e + 1 }) (B := B) (ta := ta) q1 I.htw I.hta I.hpl I.hwk I.ll a4 (fun q hq => by rw [q3]; exact a5 q hq) w1 I.lb
      refine ⟨S, q1, q6, q8, q7, q9, fun i hi hne => by rw [q10, if_neg hne], .inr (by rw [q10, if_pos rfl, ee]), q4, by rw [q5]; exact Int.le_refl _, fun h => .inl (q3 h), fun r P r0 r1 P0 hr hg ht => ?_, t1, t2, t6, Nat.le_trans t4 (by decide)⟩
      have hgP : A.rawF ta = P := by
        rcases hg with h | h
        · exact h
        · rcases ht h with h' | ⟨h', -⟩ | h' <;> omega
      refine ⟨.inr (by rw [q10, if_pos rfl]; omega), fun _ => .inr (.inr t3), fun h hs hh => ⟨q3 h, ?_⟩⟩
      unfold HSafe at hh
      rw [if_pos a1] at hh
      exact t5 h P hh (by show x.e + 1 ≤ P + 1; omega) (by omega)
  · refine ⟨⟨by omega, fun h => by omega, fun _ => a2⟩, ?_⟩
    obtain ⟨f, fs, ef⟩ : ∃ f fs, x.frees = f :: fs := by
      cases h : x.frees with
      | nil => exact (a2 h).elim
      | cons f fs => exact ⟨f, fs, rfl⟩
    rw [ef] at a3 a4 a6
    obtain ⟨b1, b2⟩ := a3
    obtain ⟨n1, n2⟩ := List.nodup_cons.1 (show (f.h :: fs.map Fe.h).Nodup from a4)
    have hst : x.step A = if (f.step A).1.done = true then ({ x with frees := fs, ph := if fs = [] then 4 else 3 }, (f.step A).2) else ({ x with frees := (f.step A).1 :: fs }, (f.step A).2) := by
      unfold Tn.step
      rw [if_neg (by omega), if_neg (by omega), if_neg (by omega), if_pos a1, ef]
    rw [hst]
    obtain ⟨S', Z⟩ := b1.step X hwf hu ⟨Int.le_refl 0, by omega⟩
    generalize (f.step A).1 = y at *
    generalize (f.step A).2 = B at *
    have rg : B.rawF ta = A.rawF ta := Z.ev.rw ta tb.1
    have hng : ¬ x.ph ≤ 2 := by omega
    rcases Z.res with ⟨r1, r2, r3, r4⟩ | ⟨r1, r3, r4⟩
    · rw [if_neg (by rw [r1]; simp)]
      refine ⟨S', Z.sl, Z.wd, Z.us, Z.ev.fa, Z.ev.rl, fun i hi _ => Z.ev.rw i hi, .inl rg, Z.nL, by rw [r4]; exact Int.le_refl _, fun h => .inl (r3 h), fun r P r0 r1' P0 hr hg ht => ⟨by rw [rg]; exact hg, fun _ => .inr (.inr (by show 3 ≤ x.ph; omega)), fun h hs hh => ⟨r3 h, ?_⟩⟩, fun _ => ?_, fun he => ?_, I.lb2, by show x.left.length ≤ 1000; omega⟩
      · unfold HSafe at hh ⊢
        rw [if_neg hng, ef] at hh
        rw [if_neg (show ¬ x.ph ≤ 2 from hng)]
        refine ⟨?_, hh.2⟩
        show h ∉ y.h :: fs.map Fe.h
        rw [Z.h]; exact hh.1
      · refine ⟨I.htw, I.hta, I.hpl, I.hwk, I.ll, I.nf, I.lb, I.lb2, .inr ⟨a1, by simp, ⟨r2, fun g hg => ⟨(b2 g hg).1, by rw [r3]; exact (b2 g hg).2⟩⟩, ?_, a5, fun q hq => ⟨by rw [r3]; exact (a6 q hq).1, ?_⟩, a7⟩⟩
        · show (y.h :: fs.map Fe.h).Nodup
          rw [Z.h]; exact a4
        · show q.1 ∉ y.h :: fs.map Fe.h
          rw [Z.h]; exact (a6 q hq).2
      · exact absurd he (by show ¬ 4 ≤ x.ph; omega)
    · rw [if_pos r1]
      have szf := sz_pos (c := opC f.h) (opC_nat f.h).1 (opC_nat f.h).2
      have ph3 : 3 ≤ (if fs = [] then 4 else 3) := by split <;> decide
      refine ⟨S', Z.sl, Z.wd, Z.us, Z.ev.fa, Z.ev.rl, fun i hi _ => Z.ev.rw i hi, .inl rg, Z.nL, by rw [r4]; omega, fun h => ?_, fun r P r0 r1' P0 hr hg ht => ⟨by rw [rg]; exact hg, fun _ => .inr (.inr ph3), fun h hs hh => ?_⟩, fun he => ?_, fun he => ⟨a5, fun q hq => ?_, a7⟩, I.lb2, by show x.left.length ≤ 1000; omega⟩
      · by_cases e : h = f.h
        · right; rw [r3, if_pos e]; exact ⟨rfl, by rw [e]; exact b1.st⟩
        · left; rw [r3, if_neg e]
      · unfold HSafe at hh
        rw [if_neg hng, ef] at hh
        have hne : h ≠ f.h := fun e => hh.1 (by rw [e]; exact List.mem_cons_self)
        refine ⟨by rw [r3, if_neg hne], ?_⟩
        unfold HSafe
        rw [if_neg (show ¬ (if fs = [] then 4 else 3) ≤ 2 by omega)]
        exact ⟨fun hm => hh.1 (List.mem_cons_of_mem _ hm), hh.2⟩
      · have he : (if fs = [] then 4 else 3) < 4 := he
        have hne : fs ≠ [] := fun e => by rw [if_pos e] at he; omega
        refine ⟨I.htw, I.hta, I.hpl, I.hwk, I.ll, he, I.lb, I.lb2, .inr ⟨if_neg hne, hne, ?_, n2, a5, fun q hq => ⟨?_, fun hm => (a6 q hq).2 (List.mem_cons_of_mem _ hm)⟩, a7⟩⟩
        · have hall : ∀ g ∈ fs, g = newFe p 0 g.h ∧ B.stF g.h = 2 := fun g hg => by
            obtain ⟨h1, h2⟩ := b2 g hg
            refine ⟨h1, ?_⟩
            rw [r3, if_neg (fun e => n1 (by rw [← e]; exact List.mem_map.2 ⟨g, hg, rfl⟩))]; exact h2
          dsimp only
          cases hf : fs with
          | nil => trivial
          | cons g gs =>
            rw [hf] at hall
            obtain ⟨h1, h2⟩ := hall g List.mem_cons_self
            refine ⟨?_, fun g' hg' => hall g' (List.mem_cons_of_mem _ hg')⟩
            rw [h1]; exact FeI.new Z.sl ⟨Int.le_refl 0, by omega⟩ h2
        · rw [r3, if_neg (fun e => (a6 q hq).2 (by rw [e]; exact List.mem_cons_self))]; exact (a6 q hq).1
      · rw [r3, if_neg (fun e => (a6 q hq).2 (by rw [e]; exact List.mem_cons_self))]; exact (a6 q hq).1
end
end Go.Proofs.Ytfphgiipekkgdaa

set_option linter.unusedVariables false
namespace Go.Proofs.Ytfphgiipekkgdaa
open Go Go.Fw

abbrev Tr3 := Nat × Nat × Nat
theorem neg1_nin {p : Pl} {w m : Int} {A : Ar} {S : Sg} (X : SL A p w m S) (k : Int) : (-1 : Int) ∉ S.ch k := fun h => by have := (X.F.mem k _ h).1; omega
def alB : Option (Al × Tr3) → Bl
  | some (x, j) => x.bl j
  | none => []
def alP : Option (Al × Tr3) → Option Addr
  | some (_, j) => some ⟨j.1, 0, none⟩
  | none => none
theorem arrI {N k : Nat} {v : Int} {g : Nat → Int} : (arrC N fun j => if j = k then Value.int .i64 v else .int .i64 (g j)) = arrC N fun j => .int .i64 (if j = k then v else g j) := by
  congr 1; funext j; split <;> rfl
theorem ifself {k : Nat} {g : Nat → Int} : (fun j => if j = k then g k else g j) = g := by
  funext j
  by_cases e : j = k
  · rw [if_pos e, e]
  · rw [if_neg e]

theorem ea_none : opS Try.prog (.binOp .eql ty_p_slab_Alloc (.tmp 0) (.const (.pointer none)) ty_p_slab_Alloc) ty_bool [(.pointer none)] = .pure (.value (.bool true)) := by kernel_rfl
end Go.Proofs.Ytfphgiipekkgdaa

set_option linter.unusedVariables false
namespace Go.Proofs.Ytfphgiipekkgdaa
open Go Go.Fw

theorem wl_bppsi {L : Hands} {H : Heap} {R : Value → Heap → Prop} {n : Nat} {init : List Value} {body : HL Sh1.T [.leaf .bool, .leaf .ptr, .leaf .ptr, .leaf .slice, .leaf (.int .i64)] → Tree} (I : Bool → Option Addr → Option Addr → Sl → Int → Heap → Prop) (m : Bool → Option Addr → Option Addr → Sl → Int → Nat) (x0 : Bool) (x1 : Option Addr) (x2 : Option Addr) (x3 : Sl) (x4 : Int) (hi : I x0 x1 x2 x3 x4 H)
    (hstep : ∀ (x0 : Bool) (x1 : Option Addr) (x2 : Option Addr) (x3 : Sl) (x4 : Int) H', I x0 x1 x2 x3 x4 H' → wp Try.prog (body (x0, x1, x2, x3, x4, ())) (L.set n fun vals H'' => ∃ (y0 : Bool) (y1 : Option Addr) (y2 : Option Addr) (y3 : Sl) (y4 : Int), vals = [.bool y0, .pointer y1, .pointer y2, .slice y3.a y3.len y3.cap, .int .i64 y4] ∧ I y0 y1 y2 y3 y4 H'' ∧ m y0 y1 y2 y3 y4 < m x0 x1 x2 x3 x4) H' R) (h0 : init = [.bool x0, .pointer x1, .pointer x2, .slice x3.a x3.len x3.cap, .int .i64 x4] := by rfl) :
    wp Try.prog (.loop n [.leaf .bool, .leaf .ptr, .leaf .ptr, .leaf .slice, .leaf (.int .i64)] init body) L H R := by
  refine wp_loop_inv (fun x K => I x.1 x.2.1 x.2.2.1 x.2.2.2.1 x.2.2.2.2.1 K) (fun x _ => m x.1 x.2.1 x.2.2.1 x.2.2.2.1 x.2.2.2.2.1) (x0, x1, x2, x3, x4, ()) h0 hi ?_
  rintro ⟨x0, x1, x2, x3, x4, u⟩ K hI
  refine Go.Fw.wp_mono _ (hstep x0 x1 x2 x3 x4 K hI) (fun k vals H'' hk => ?_) (fun _ _ h => h)
  unfold Hands.set at *
  split at hk
  · rename_i e; rw [if_pos e]; obtain ⟨y0, y1, y2, y3, y4, h1, h2, h3⟩ := hk; exact ⟨(y0, y1, y2, y3, y4, ()), h1, h2, h3⟩
  · rename_i e; rw [if_neg e]; exact hk
end Go.Proofs.Ytfphgiipekkgdaa

set_option linter.unusedVariables false
set_option maxRecDepth 20000
namespace Go.Proofs.Ytfphgiipekkgdaa
open Go Go.Fw

section
variable {L : Hands} {R : Value → Heap → Prop} {H : Heap} {I : List Nat} {A : Ar} {N : Nat}
/-- A cell of an array, read. -/
theorem w_arn {t e u T : TypeId} {b : Nat} {g : Nat → Value} {k : Int} {lf : Leaf} {x : lf.T} {t' : Addr → lf.T → Tree} {l : Bl} {info : TypeInfo} (hA : Aw I A) (ok : Ok I H (keys l)) (hb : (b, oc T (arrC N g)) ∈ l) (hu : Try.prog.underlying t = some (.array N e)) (hi : Try.prog.info? e = some info) (hs : info.size = 1) (k0 : 0 ≤ k) (k1 : k < N)
    (hx : Lf.dec lf (g k.toNat) = some x) (h : wp Try.prog (t' ⟨b, 0 + k.toNat, none⟩ x) L (own A l H) R) :
    wp Try.prog (.look (opS Try.prog (.indexAddr t (.tmp 0) (.tmp 1)) u [.pointer (some ⟨b, 0, none⟩), .int .i64 k]) (.one (.leaf .addr)) fun y => .ld y lf (t' y)) L (own A l H) R := by
  refine w_ix (A := A) (e := e) (n := N) hu hi hs k0 (by omega) ?_
  refine w_ldm (x := x) hA ok rfl hb ?_ h
  rw [Nat.zero_add, arrC_get (by omega)]; exact hx
/-- A cell of an array, turned. -/
theorem w_arnS (ix : Nat) {t e u T : TypeId} {b : Nat} {g : Nat → Value} {k : Int} {v : Value} {t' : Tree} {l : Bl} {info : TypeInfo} (hA : Aw I A) (ok : Ok I H (keys l)) (hb : l[ix]? = some (b, oc T (arrC N g))) (hu : Try.prog.underlying t = some (.array N e)) (hi : Try.prog.info? e = some info) (hs : info.size = 1) (k0 : 0 ≤ k) (k1 : k < N) (hv : Value.single v = true)
    (h : wp Try.prog t' L (own A (l.set ix (b, oc T (arrC N fun j => if j = k.toNat then v else g j))) H) R) :
    wp Try.prog (.look (opS Try.prog (.indexAddr t (.tmp 0) (.tmp 1)) u [.pointer (some ⟨b, 0, none⟩), .int .i64 k]) (.one (.leaf .addr)) fun y => .st y v t') L (own A l H) R := by
  refine w_ix (A := A) (e := e) (n := N) hu hi hs k0 (by omega) ?_
  refine w_st ix hA ok rfl hb hv (by rw [arrC_len]; exact decide_eq_true (by omega)) ?_
  rw [Nat.zero_add, arrC_set]; exact h
theorem ck_arn {T : TypeId} {b : Nat} {g : Nat → Value} {k : Int} {v : Value} {t' : Tree} {l : Bl} (hA : Aw I A) (ok : Ok I H (keys l)) (hb : (b, oc T (arrC N g)) ∈ l) (k0 : 0 ≤ k) (k1 : k < N) (hv : g k.toNat = v)
    (h : wp Try.prog t' L (own A l H) R) : wp Try.prog (.check (ldS ⟨b, 0 + k.toNat, none⟩) v t') L (own A l H) R := by
  refine chk_cell ?_ h
  rw [Heap.cell_of (own_mem hA ok hb), List.getElem?_toArray, Nat.zero_add, arrC_get (by omega), hv]
theorem ck_aix {t e u : TypeId} {b : Nat} {k : Int} {t' : Tree} {H : Heap} {info : TypeInfo} (hu : Try.prog.underlying t = some (.array N e)) (hi : Try.prog.info? e = some info) (hs : info.size = 1) (k0 : 0 ≤ k) (k1 : k < N) (h : wp Try.prog t' L H R) :
    wp Try.prog (.check (opS Try.prog (.indexAddr t (.tmp 0) (.tmp 1)) u [.pointer (some ⟨b, 0, none⟩), .int .i64 k]) (.pointer (some ⟨b, 0 + k.toNat, none⟩)) t') L H R := by
  refine check_val ?_ h
  rw [opS_idx hu hi k0 (by omega), Addr.add_mk, hs, Nat.mul_one]
end
end Go.Proofs.Ytfphgiipekkgdaa

set_option linter.unusedVariables false
namespace Go.Proofs.Ytfphgiipekkgdaa
open Go Go.Fw

/-! ### Blocks of so many -/

def updF {α : Type} (f : Nat → α) (w : Nat) (a : α) : Nat → α := fun j => if j = w then a else f j
theorem updF_same {α : Type} (f : Nat → α) (w : Nat) (a : α) : updF f w a w = a := if_pos rfl
theorem updF_ne {α : Type} (f : Nat → α) {w j : Nat} (a : α) (h : j ≠ w) : updF f w a j = f j := if_neg h
theorem arrC_updF {α : Type} {n : Nat} {g : α → Value} {f : Nat → α} {i : Nat} {a : α} : (arrC n fun j => if j = i then g a else g (f j)) = arrC n fun j => g (updF f i a j) := by
  congr 1
  funext j
  unfold updF
  split <;> rfl
theorem arrC_keepF {α : Type} {n : Nat} {g : α → Value} {f : Nat → α} {i : Nat} {a : α} (h : g a = g (f i)) : (arrC n fun j => g (f j)) = arrC n fun j => g (updF f i a j) := by
  congr 1
  funext j
  unfold updF
  split
  · rename_i e; rw [e, h]
  · rfl

def famB {β : Type} (f : Nat → List β) : Nat → List β
  | 0 => []
  | n + 1 => famB f n ++ f n
def famR {β : Type} (f : Nat → List β) (w : Nat) : Nat → List β
  | 0 => []
  | n + 1 => famR f w n ++ (if n = w then [] else f n)
theorem famR_le {β : Type} (f : Nat → List β) (w : Nat) : ∀ n, n ≤ w → famR f w n = famB f n
  | 0, _ => rfl
  | n + 1, h => by show famR f w n ++ _ = famB f n ++ _; rw [famR_le f w n (by omega), if_neg (by omega)]
theorem famB_c {β : Type} {c : List β → Nat} (c0 : c [] = 0) (ca : ∀ a b, c (a ++ b) = c a + c b) (f : Nat → List β) {w : Nat} : ∀ {n : Nat}, w < n → c (famB f n) = c (f w) + c (famR f w n)
  | 0, h => by omega
  | n + 1, h => by
    show c (famB f n ++ f n) = _ + c (famR f w n ++ _)
    rw [ca, ca]
    by_cases e : n = w
    · rw [if_pos e, c0, ← e, famR_le f n n (Nat.le_refl _)]; omega
    · rw [if_neg e, famB_c c0 ca f (w := w) (n := n) (by omega)]; omega
theorem famR_of {β : Type} {f g : Nat → List β} {w : Nat} (h : ∀ j, j ≠ w → f j = g j) : ∀ n, famR f w n = famR g w n
  | 0 => rfl
  | n + 1 => by
    show famR f w n ++ _ = famR g w n ++ _
    rw [famR_of h n]
    by_cases e : n = w
    · rw [if_pos e, if_pos e]
    · rw [if_neg e, if_neg e, h n e]
theorem famR_upd {α β : Type} (b : α → List β) (f : Nat → α) (w : Nat) (a : α) (n : Nat) : famR (fun j => b (updF f w a j)) w n = famR (fun j => b (f j)) w n :=
  famR_of (fun j h => by rw [updF_ne f a h]) n
theorem famB_upd_c {α β : Type} {c : List β → Nat} (c0 : c [] = 0) (ca : ∀ a b, c (a ++ b) = c a + c b) (b : α → List β) (f : Nat → α) {w n : Nat} (a : α) (h : w < n) : c (famB (fun j => b (updF f w a j)) n) = c (b a) + c (famR (fun j => b (f j)) w n) := by
  rw [famB_c c0 ca _ h, famR_upd, updF_same]
end Go.Proofs.Ytfphgiipekkgdaa

set_option linter.unusedVariables false
set_option linter.unusedSimpArgs false
set_option maxRecDepth 20000
namespace Go.Proofs.Ytfphgiipekkgdaa
open Go Go.Fw

def plCells (p : Pl) : List Value := [.int .i64 p.work, .int .i64 p.heads, .int .i64 p.links, .int .i64 p.gens, .int .i64 p.carved]
theorem ea_some (a : Addr) : opS Try.prog (.binOp .eql ty_p_slab_Alloc (.tmp 0) (.const (.pointer none)) ty_p_slab_Alloc) ty_bool [(.pointer (some a))] = .pure (.value (.bool false)) := by kernel_rfl
section
variable {L : Hands} {R : Value → Heap → Prop} {H : Heap}

theorem nnA (a : Addr) : opS Try.prog (.binOp .neq ty_p_arena_Arena (.tmp 0) (.const (.pointer none)) ty_p_arena_Arena) ty_bool [(.pointer (some a))] = .pure (.value (.bool true)) := by kernel_rfl
theorem w_ckA (i : Nat) {A : Ar} {I : List Nat} {l : Bl} {G : Heap} {a : Addr} {b n : Nat} {T : TypeId} {c : List Value} {v : Value} {t : Tree} (hA : Aw I A) (ok : Ok I G (keys l)) (ha : a = ⟨b, 0, none⟩) (hi : l[i]? = some (b, oc T c)) (hn : n = c.length) (hv : v = .agg c.toArray) (h : wp Try.prog t L (own A l G) R) :
    wp Try.prog (.check (ldAS a n 0 #[]) v t) L (own A l G) R := by
  subst ha; subst hn; subst hv
  refine ⟨?_, h⟩
  rw [ldAS_eq]
  refine ldK_still (own_get hA ok hi) _ 0 #[] (by simp) ?_
  show (Value.agg (#[] ++ c.toArray.extract 0 (0 + 0 + c.length)) : Value) = _
  simp
def tbC (w n : Int) : List Value := [.int .i64 w, .int .i64 n]

end
end Go.Proofs.Ytfphgiipekkgdaa

set_option linter.unusedVariables false
set_option maxRecDepth 20000
namespace Go.Proofs.Ytfphgiipekkgdaa
open Go Go.Fw

end Go.Proofs.Ytfphgiipekkgdaa

set_option linter.unusedVariables false
set_option maxRecDepth 10000
namespace Go.Proofs.Ytfphgiipekkgdaa
open Go Go.Fw
end Go.Proofs.Ytfphgiipekkgdaa

set_option linter.unusedVariables false
set_option linter.unusedSimpArgs false
set_option maxRecDepth 20000
namespace Go.Proofs.Ytfphgiipekkgdaa
open Go Go.Fw

section
variable {L : Hands} {R : Value → Heap → Prop} {H : Heap}
end
end Go.Proofs.Ytfphgiipekkgdaa

set_option linter.unusedVariables false
set_option maxRecDepth 10000
namespace Go.Proofs.Ytfphgiipekkgdaa
open Go Go.Fw
/- magpie/magpielaw13.run -/
@[reducible] def t_magpielaw13_run_L1_sh : List Sh1 := [(.leaf .bool), (.leaf (.int .i64))]
noncomputable def t_magpielaw13_run_L1 (p0 : Option Addr) (p1 : Value) (y1 : HL Sh1.T t_magpielaw13_run_L1_sh) : Tree :=
  bif (decide ((y1.2.1 : Int) < 2000)) then (
    .call f_arena_Arena_Uses [(.pointer p0)] (.one (.leaf (.int .i64))) fun x13 =>
    .act (opS Try.prog (.call { callee := .invoke (.tmp 0) "Step", args := #[(.tmp 1)], argTypes := #[ty_p_arena_Arena] }) ty_bool [p1, (.pointer p0)]) (.one (.leaf .bool)) fun x16 =>
    .call f_arena_Arena_Uses [(.pointer p0)] (.one (.leaf (.int .i64))) fun x18 =>
    bif (decide ((x18 : Int) > (w64 (x13 + 1)))) then (
      .ret (.bool false))
    else (
      bif x16 then (
        .ret (.bool true))
      else (
        .again 128 [(.bool y1.1), (.int .i64 (w64 (y1.2.1 + 1)))])))
  else (
    .ret (.bool false))
noncomputable def t_magpielaw13_run (p0 : Option Addr) (p1 : Value) : Tree :=
  .loop 128 t_magpielaw13_run_L1_sh [(.bool false), (.int .i64 0)] (t_magpielaw13_run_L1 p0 p1)
theorem t_magpielaw13_run_eq (p0 : Option Addr) (p1 : Value) : funcTree Try.prog { quiet := [16, 22, 23, 34, 35, 48, 49, 53, 57, 58, 59, 62, 105], quietTmp := true, fncs := [], ifcs := [] } Try.f47 [(.pointer p0), p1] = t_magpielaw13_run p0 p1 := by kernel_rfl
theorem t_magpielaw13_run_spec {p0 : Option Addr} {p1 : Value} {H : Heap} {R : Value → Heap → Prop} (h : ∀ L, wp Try.prog (t_magpielaw13_run p0 p1) L H R) : SpecF Try.prog f_magpielaw13_run #[(.pointer p0), p1] H R :=
  spec_of_tree (cfg := { quiet := [16, 22, 23, 34, 35, 48, 49, 53, 57, 58, 59, 62, 105], quietTmp := true, fncs := [], ifcs := [] }) Try.func47 fun L => (t_magpielaw13_run_eq p0 p1).symm ▸ h L

/- magpie/magpielaw13.make1 -/
noncomputable def t_magpielaw13_make1 (p0 : Int) (p1 : Int) : Tree :=
  .newP (.cells #[(.int .i64 0), (.int .i64 0), (.int .i64 0), (.int .i64 0), (.int .i64 0)] ty_free_Place) fun x5 =>
  .newP (.cells #[(.int .i64 0), (.int .i64 0)] ty_epoch_Table) fun x6 =>
  .call f_free_Raw [(.int .i64 p0), (.int .i64 (w64 (8 * p1)))] (.tup [(.agg [(.int .i64), (.int .i64), (.int .i64), (.int .i64), (.int .i64)]), (.leaf (.int .i64))]) fun x15 =>
  .newP (.cells #[(.int .i64 0), (.int .i64 0), (.int .i64 0), (.int .i64 0), (.int .i64 0)] ty_free_Place) fun x7 =>
  .stA x7 [(.int .i64 x15.1.1), (.int .i64 x15.1.2.1), (.int .i64 x15.1.2.2.1), (.int .i64 x15.1.2.2.2.1), (.int .i64 x15.1.2.2.2.2.1)] <|
  .qcall f_epoch_Raw [(.int .i64 p0), (.int .i64 x15.2.1)] (.tup [(.agg [(.int .i64), (.int .i64)]), (.leaf (.int .i64))]) fun x21 =>
  .newP (.cells #[(.int .i64 0), (.int .i64 0)] ty_epoch_Table) fun x9 =>
  .stA x9 [(.int .i64 x21.1.1), (.int .i64 x21.1.2.1)] <|
  .ldA x7 [(.int .i64), (.int .i64), (.int .i64), (.int .i64), (.int .i64)] fun x31 =>
  .ldA x9 [(.int .i64), (.int .i64)] fun x32 =>
  .call f_arena_New [(.int .i64 (w64 ((w64 (x15.2.1 + x21.2.1)) + 1))), (.int .i64 (w64 (8 * p1))), (.bool false)] (.one (.leaf .ptr)) fun x30 =>
  .check (ldAS x9 2 0 #[]) (.agg #[(.int .i64 x32.1), (.int .i64 x32.2.1)]) <|
  .check (ldAS x7 5 0 #[]) (.agg #[(.int .i64 x31.1), (.int .i64 x31.2.1), (.int .i64 x31.2.2.1), (.int .i64 x31.2.2.2.1), (.int .i64 x31.2.2.2.2.1)]) <|
  .stA x5 [(.int .i64 x31.1), (.int .i64 x31.2.1), (.int .i64 x31.2.2.1), (.int .i64 x31.2.2.2.1), (.int .i64 x31.2.2.2.2.1)] <|
  .check (ldAS x9 2 0 #[]) (.agg #[(.int .i64 x32.1), (.int .i64 x32.2.1)]) <|
  .stA x6 [(.int .i64 x32.1), (.int .i64 x32.2.1)] <|
  .look (ldK x5 5 0 #[] fun r1 => ldK x6 2 0 #[] fun r2 => .pure (.value (.tuple #[(.pointer x30), (.agg r1), (.agg r2)]))) (.tup [(.leaf .ptr), (.agg [(.int .i64), (.int .i64), (.int .i64), (.int .i64), (.int .i64)]), (.agg [(.int .i64), (.int .i64)])]) fun r => .ret (Sh.toVal (.tup [(.leaf .ptr), (.agg [(.int .i64), (.int .i64), (.int .i64), (.int .i64), (.int .i64)]), (.agg [(.int .i64), (.int .i64)])]) r)
theorem t_magpielaw13_make1_eq (p0 : Int) (p1 : Int) : funcTree Try.prog { quiet := [16, 22, 23, 34, 35, 48, 49, 53, 57, 58, 59, 62, 105], quietTmp := true, fncs := [], ifcs := [] } Try.f45 [(.int .i64 p0), (.int .i64 p1)] = t_magpielaw13_make1 p0 p1 := by kernel_rfl
theorem t_magpielaw13_make1_spec {p0 : Int} {p1 : Int} {H : Heap} {R : Value → Heap → Prop} (h : ∀ L, wp Try.prog (t_magpielaw13_make1 p0 p1) L H R) : SpecF Try.prog f_magpielaw13_make1 #[(.int .i64 p0), (.int .i64 p1)] H R :=
  spec_of_tree (cfg := { quiet := [16, 22, 23, 34, 35, 48, 49, 53, 57, 58, 59, 62, 105], quietTmp := true, fncs := [], ifcs := [] }) Try.func45 fun L => (t_magpielaw13_make1_eq p0 p1).symm ▸ h L

/- magpie/magpielaw13.awake -/
noncomputable def t_magpielaw13_awake : Tree :=
  .call f_magpielaw13_make1 [(.int .i64 2), (.int .i64 2)] (.tup [(.leaf .ptr), (.agg [(.int .i64), (.int .i64), (.int .i64), (.int .i64), (.int .i64)]), (.agg [(.int .i64), (.int .i64)])]) fun x6 =>
  .newP (.cells #[(.int .i64 0), (.int .i64 0), (.int .i64 0), (.int .i64 0), (.int .i64 0)] ty_free_Place) fun x2 =>
  .newP (.cells #[(.int .i64 0), (.int .i64 0)] ty_epoch_Table) fun x3 =>
  .stA x2 [(.int .i64 x6.2.1.1), (.int .i64 x6.2.1.2.1), (.int .i64 x6.2.1.2.2.1), (.int .i64 x6.2.1.2.2.2.1), (.int .i64 x6.2.1.2.2.2.2.1)] <|
  .stA x3 [(.int .i64 x6.2.2.1.1), (.int .i64 x6.2.2.1.2.1)] <|
  .ldA x3 [(.int .i64), (.int .i64)] fun x10 =>
  .ldA x2 [(.int .i64), (.int .i64), (.int .i64), (.int .i64), (.int .i64)] fun x11 =>
  .call f_epoch_NewTurn [(.agg #[(.int .i64 x10.1), (.int .i64 x10.2.1)]), (.agg #[(.int .i64 x11.1), (.int .i64 x11.2.1), (.int .i64 x11.2.2.1), (.int .i64 x11.2.2.2.1), (.int .i64 x11.2.2.2.2.1)]), (.int .i64 0), (.slice none 0 0)] (.one (.leaf .ptr)) fun x12 =>
  .look (opS Try.prog (.binOp .neq ty_p_arena_Arena (.tmp 0) (.const (.pointer none)) ty_p_arena_Arena) ty_bool [(.pointer x6.1)]) (.one (.leaf .bool)) fun x14 =>
  bif x14 then (
    .look (opS Try.prog (.binOp .neq ty_p_epoch_Turn (.tmp 0) (.const (.pointer none)) ty_p_epoch_Turn) ty_bool [(.pointer x12)]) (.one (.leaf .bool)) fun x17 =>
    bif x17 then (
      .call f_magpielaw13_run [(.pointer x6.1), (.iface ty_p_epoch_Turn (.pointer x12))] (.one (.leaf .bool)) fun x23 =>
      bif x23 then (
        .ldA x3 [(.int .i64), (.int .i64)] fun x27 =>
        .qcall f_epoch_Table_Global [(.agg #[(.int .i64 x27.1), (.int .i64 x27.2.1)])] (.one (.leaf (.int .i64))) fun x28 =>
        .call f_arena_Arena_Raw [(.pointer x6.1), (.int .i64 x28)] (.one (.leaf (.int .i64))) fun x29 =>
        bif ((x29 : Int) == 1) then (
          .call f_epoch_Turn_Left [(.pointer x12)] (.one (.leaf .slice)) fun x34 =>
          .ret (.bool ((((x34.len : Nat) : Int) : Int) == 0)))
        else (
          .ret (.bool false)))
      else (
        .ret (.bool false)))
    else (
      .ret (.bool false)))
  else (
    .ret (.bool false))
theorem t_magpielaw13_awake_eq : funcTree Try.prog { quiet := [16, 22, 23, 34, 35, 48, 49, 53, 57, 58, 59, 62, 105], quietTmp := true, fncs := [], ifcs := [] } Try.f50 [] = t_magpielaw13_awake  := by kernel_rfl
theorem t_magpielaw13_awake_spec {H : Heap} {R : Value → Heap → Prop} (h : ∀ L, wp Try.prog (t_magpielaw13_awake ) L H R) : SpecF Try.prog f_magpielaw13_awake #[] H R :=
  spec_of_tree (cfg := { quiet := [16, 22, 23, 34, 35, 48, 49, 53, 57, 58, 59, 62, 105], quietTmp := true, fncs := [], ifcs := [] }) Try.func50 fun L => (t_magpielaw13_awake_eq ).symm ▸ h L

end Go.Proofs.Ytfphgiipekkgdaa

set_option linter.unusedVariables false
set_option maxRecDepth 20000
namespace Go.Proofs.Ytfphgiipekkgdaa
open Go Go.Fw

end Go.Proofs.Ytfphgiipekkgdaa

set_option linter.unusedVariables false
set_option maxRecDepth 20000
namespace Go.Proofs.Ytfphgiipekkgdaa
open Go Go.Fw

theorem runR13_go {M J : Type} {X : MchR M J} (hX : X.ok) {t : TypeId} (hinv : X.inv' t) {I : List Nat} {G : Heap} {n : Nat} {m m' : M} {A A' : Ar} (h : X.Runs n m A m' A') {L : Hands} :
    ∀ {i : Int} {b : Bool} {j : J} {R : Value → Heap → Prop}, (∀ j', Ok I G (keys (X.bl m' j')) → X.rep m' j' → Aw I A' → X.addr j' = X.addr j → R (.bool true) (own A' (X.bl m' j') G)) → Aw I A → Ok I G (keys (X.bl m j)) → X.rep m j → 0 ≤ i → i + n ≤ 2000 →
      wp Try.prog (.loop 128 t_magpielaw13_run_L1_sh [(.bool b), (.int .i64 i)] (t_magpielaw13_run_L1 (aI I) (.iface t (.pointer (some ⟨X.addr j, 0, none⟩))))) L (own A (X.bl m j) G) R := by
  induction h with
  | @one m A m1 A1 hi hst hu hf =>
    intro i b j R hR hA ok rp h0 h1
    refine wp_loop_unroll (b, i, ()) rfl ?_
    rw [t_magpielaw13_run_L1]
    refine wp_true (ilt (by show i < 2000; omega)) ?_
    refine w_Uses hA ?_
    refine act_enter (hinv _ _) ?_
    refine wp_call_of (hX I A G m j hA ok rp hi) ?_
    rintro v K ⟨j', rfl, rfl, ha, ok', rp', hA'⟩
    rw [hst] at ok' rp' hA' ⊢
    refine ⟨true, by rw [hf], ?_⟩
    refine w_Uses hA' ?_
    refine wp_false (inlt hu) ?_
    exact wp_true rfl (wp_ret_of (hR j' ok' rp' hA' ha))
  | @more n m A m1 A1 m' A' hi hst hu hf hr ih =>
    intro i b j R hR hA ok rp h0 h1
    refine wp_loop_unroll (b, i, ()) rfl ?_
    rw [t_magpielaw13_run_L1]
    refine wp_true (ilt (by show i < 2000; omega)) ?_
    refine w_Uses hA ?_
    refine act_enter (hinv _ _) ?_
    refine wp_call_of (hX I A G m j hA ok rp hi) ?_
    rintro v K ⟨j', rfl, rfl, ha, ok', rp', hA'⟩
    rw [hst] at ok' rp' hA' ⊢
    refine ⟨false, by rw [hf], ?_⟩
    refine w_Uses hA' ?_
    refine wp_false (inlt hu) (wp_false rfl (wp_again ?_))
    have e : w64 (i + 1) = i + 1 := w64_in (by omega) (by omega)
    rw [e, ← ha]
    exact ih (fun j2 k1 k2 k3 k4 => hR j2 k1 k2 k3 (k4.trans ha)) hA' ok' rp' (by omega) (by omega)

theorem w_runR13 {M J : Type} {X : MchR M J} (hX : X.ok) {t : TypeId} (hinv : X.inv' t) {I : List Nat} {G : Heap} {n : Nat} {m m' : M} {A A' : Ar} (h : X.Runs n m A m' A') (hn : n ≤ 2000) {j : J} {rest : Bl} (hA : Aw I A) (ok : Ok I G (keys (X.bl m j ++ rest))) (rp : X.rep m j)
    {L : Hands} {R : Value → Heap → Prop} {k : Bool → Tree} (hk : ∀ j', X.addr j' = X.addr j → Aw I A' → Ok I G (keys (X.bl m' j' ++ rest)) → X.rep m' j' → wp Try.prog (k true) L (own A' (X.bl m' j' ++ rest) G) R) :
    wp Try.prog (.call f_magpielaw13_run [.pointer (aI I), .iface t (.pointer (some ⟨X.addr j, 0, none⟩))] (.one (.leaf .bool)) k) L (own A (X.bl m j ++ rest) G) R := by
  rw [keys_append] at ok
  obtain ⟨o1, o2⟩ := ok.split
  refine w_sub (R0 := fun v K => ∃ j', v = .bool true ∧ K = own A' (X.bl m' j') (putL rest G) ∧ Ok I (putL rest G) (keys (X.bl m' j')) ∧ X.rep m' j' ∧ Aw I A' ∧ X.addr j' = X.addr j) ?_ ?_
  · refine t_magpielaw13_run_spec fun L => ?_
    unfold t_magpielaw13_run
    exact runR13_go hX hinv h (fun j' a b c d => ⟨j', rfl, rfl, a, b, c, d⟩) hA o1 rp (Int.le_refl 0) (by omega)
  · rintro v K ⟨j', rfl, rfl, ok', rp', hA', ha⟩
    refine ⟨true, rfl, ?_⟩
    rw [← own_append]
    exact hk j' ha hA' (by rw [keys_append]; exact ok'.join o2) rp'
end Go.Proofs.Ytfphgiipekkgdaa

set_option linter.unusedVariables false
set_option maxRecDepth 10000
namespace Go.Proofs.Ytfphgiipekkgdaa
open Go Go.Fw
end Go.Proofs.Ytfphgiipekkgdaa

set_option linter.unusedVariables false
set_option maxRecDepth 20000
namespace Go.Proofs.Ytfphgiipekkgdaa
open Go Go.Fw

end Go.Proofs.Ytfphgiipekkgdaa

set_option linter.unusedVariables false
set_option maxRecDepth 20000
namespace Go.Proofs.Ytfphgiipekkgdaa
open Go Go.Fw

end Go.Proofs.Ytfphgiipekkgdaa

set_option linter.unusedVariables false
set_option linter.unusedSimpArgs false
set_option maxRecDepth 20000
namespace Go.Proofs.Ytfphgiipekkgdaa
open Go Go.Fw

theorem Mch.Runs.pos {M J : Type} {X : Mch M J} {n : Nat} {m m' : M} {A A' : Ar} (h : X.Runs n m A m' A') : 1 ≤ n := by
  cases h <;> omega

/-- Slots that were made and retired. -/
structure MK (I : List Nat) (A : Ar) (w s n : Int) (S : Sg) (hs : List Int) (z : Sl) (tl : Bl) : Prop where
  aw : Aw I A
  sl : SL A (plOf w (8 * s)) w (8 * s) S
  fa : A.fault = false
  ch : ∀ k, S.ch k = []
  cv : S.cv = 8 * n
  nR : A.nR = 8 * n
  us : n ≤ A.uses ∧ A.uses ≤ 20 * n
  ln : (hs.length : Int) = n
  hl : SlOf tl ty_int eI z hs
  st : ∀ h ∈ hs, A.stF h = 2 ∧ opC h = 0 ∧ opB h < 8 * n
  nd : (hs.map opB).Nodup
  rw : ∀ i, 4 * w + 2 * s < i → A.rawF i = 0
  rl : (A.raw.length : Int) = 4 * w + 2 * s + 1 + 2 * w
  nL : A.nL = 0
  nc : S.nc = 8 * n

section
variable {L : Hands} {R : Value → Heap → Prop} {H : Heap}
end
end Go.Proofs.Ytfphgiipekkgdaa

set_option linter.unusedVariables false
set_option linter.unusedSimpArgs false
set_option maxRecDepth 20000
namespace Go.Proofs.Ytfphgiipekkgdaa
open Go Go.Fw

section
variable {A B : Ar} {p : Pl} {w m : Int} {S : Sg} {I : List Nat} {L : Hands} {R : Value → Heap → Prop} {G : Heap} {l : Bl}

end
end Go.Proofs.Ytfphgiipekkgdaa

set_option linter.unusedVariables false
set_option linter.unusedSimpArgs false
set_option maxRecDepth 20000
namespace Go.Proofs.Ytfphgiipekkgdaa
open Go Go.Fw

/-- An arena with epochs' words behind the slab's. -/
structure EZ (I : List Nat) (A : Ar) (w s : Int) (S : Sg) : Prop where
  aw : Aw I A
  sl : SL A (plOf w (8 * s)) w (8 * s) S
  fa : A.fault = false
  rl : (A.raw.length : Int) = 4 * w + 2 * s + 1 + (1 + w) + 1
  wb : 1 ≤ w ∧ w ≤ 9
  sb : 0 ≤ s ∧ s ≤ 50

section
variable {A B : Ar} {w s : Int} {S S' : Sg} {I : List Nat} {L : Hands} {R : Value → Heap → Prop} {G : Heap} {l : Bl}

theorem EZ.touch (E : EZ I A w s S) {i : Int} (h : 0 ≤ i ∧ i < 4 * w + 2 * s + 1 + (1 + w) + 1) (hu : A.uses ≤ 1000000) : A.touchR i = A.later 1 := tick_later ⟨h.1, by rw [E.rl]; exact h.2⟩ E.sl.F.us (by omega)
theorem EZ.later (E : EZ I A w s S) {n : Int} (hn : 0 ≤ n) : EZ I (A.later n) w s S := ⟨later_aw E.aw n, E.sl.later hn, E.fa, E.rl, E.wb, E.sb⟩
theorem EZ.out (E : EZ I A w s S) {i v : Int} (hA : Aw I B) (O : OutS A (plOf w (8 * s)) w (8 * s) S i v B) : EZ I B w s S := ⟨hA, O.sl, O.fa.trans E.fa, by rw [O.rl]; exact E.rl, E.wb, E.sb⟩
theorem EZ.store (E : EZ I A w s S) {i v : Int} (h : 4 * w + 2 * s < i ∧ i < 4 * w + 2 * s + 1 + (1 + w) + 1) (hu : A.uses ≤ 1000000) : OutS A (plOf w (8 * s)) w (8 * s) S i v (A.storeR i v) := by
  have sb := E.sb
  refine outS E.sl ⟨by show 4 * w + 2 * ((8 * s + 7) / 8) < i; omega, by rw [E.rl]; exact h.2⟩ (by omega)

theorem emake_spec (w s : Int) (wb : 1 ≤ w ∧ w ≤ 9) (sb : 0 ≤ s ∧ s ≤ 50) (H : Heap) : SpecF Try.prog f_magpielaw13_make1 #[.int .i64 w, .int .i64 s] H fun v K => ∃ A : Ar, v = .tuple #[.pointer (aI A.ids), (plOf w (8 * s)).val, .agg #[.int .i64 w, .int .i64 (4 * w + 2 * s + 1)]] ∧
    K = own A [] H ∧ (∀ x ∈ A.ids, H x = none) ∧ Ok A.ids H [] ∧ EZ A.ids A w s ⟨fun _ => [], 0, fun _ => 0, fun _ => -1, 0⟩ ∧ (∀ i, A.rawF i = 0) ∧ A.uses = 0 ∧ A.nL = 0 ∧ A.nR = 0 := by
  refine t_magpielaw13_make1_spec fun L => ?_
  unfold t_magpielaw13_make1
  have e8 : w64 (8 * s) = 8 * s := w64_in (by omega) (by omega)
  have ed : (8 * s + 7) / 8 = s := by omega
  rw [e8]
  have ok0 : Ok0 H (keys []) := ⟨.nil, fun b h => (by cases h)⟩
  refine p_newP (l := []) ok0 fun x5 ok0 => ?_
  refine p_newP ok0 fun x6 ok0 => ?_
  refine w_Raw5 ⟨by omega, by omega⟩ ⟨by omega, by omega⟩ ?_
  rw [ed]
  refine p_newP ok0 fun x7 ok0 => ?_
  refine p_stA 0 ok0 rfl rfl rfl rfl ?_
  refine wq_ERaw ⟨by omega, by omega⟩ ?_
  refine p_newP ok0 fun x9 ok0 => ?_
  refine p_stA 0 ok0 rfl rfl rfl rfl ?_
  dsimp only
  have en : w64 (w64 (4 * w + 2 * s + 1 + (1 + w)) + 1) = 4 * w + 2 * s + 1 + (1 + w) + 1 := by
    rw [w64_in (x := 4 * w + 2 * s + 1 + (1 + w)) (by omega) (by omega), w64_in (by omega) (by omega)]
  rw [en]
  have ok0 : Ok0 H (keys [(x9, oc ty_epoch_Table (tbC w (4 * w + 2 * s + 1))), (x7, oc ty_free_Place (plCells (plOf w (8 * s)))), (x6, oc ty_epoch_Table (tbC 0 0)), (x5, oc ty_free_Place (plCells ⟨0, 0, 0, 0, 0⟩))]) := ok0
  refine p_ldA (l := [(x9, oc ty_epoch_Table (tbC w (4 * w + 2 * s + 1))), (x7, oc ty_free_Place (plCells (plOf w (8 * s)))), (x6, oc ty_epoch_Table (tbC 0 0)), (x5, oc ty_free_Place (plCells ⟨0, 0, 0, 0, 0⟩))]) 1 ok0 rfl rfl rfl ?_
  refine p_ldA 0 ok0 rfl rfl rfl ?_
  refine w_New ok0 ⟨by omega, by omega⟩ ⟨by omega, by omega⟩ fun A hm hA hI ok => ?_
  refine w_ckA 0 hA ok rfl rfl rfl rfl ?_
  refine w_ckA 1 hA ok rfl rfl rfl rfl ?_
  refine w_stA 3 hA ok rfl rfl rfl rfl ?_
  refine w_ckA 0 hA ok rfl rfl rfl rfl ?_
  refine w_stA 2 hA ok rfl rfl rfl rfl ?_
  refine ⟨(aI A.ids, (w, 0, 4 * w, 4 * w + (8 * s + 7) / 8, 4 * w + 2 * ((8 * s + 7) / 8), ()), (w, 4 * w + 2 * s + 1, ()), ()), ?_, ?_⟩
  · refine ldK_still (own_get (i := 3) hA (by exact ok) rfl) 5 0 #[] (by exact Nat.le_refl 5) ?_
    refine ldK_still (own_get (i := 2) hA (by exact ok) rfl) 2 0 #[] (by exact Nat.le_refl 2) ?_
    rfl
  have ok' : Ok A.ids H (keys ([] : Bl)) := ⟨.nil, fun b hb => by simp [keys] at hb, fun b hb => by simp [keys] at hb⟩
  refine ⟨own A [] H, own_sub ok ok'.nd fun p hp => (by cases hp), A, rfl, rfl, hI, ok', ⟨hA, SL.made hm ?_ ⟨wb.1, by omega⟩ ⟨by omega, by omega⟩, hm.fault, ?_, wb, sb⟩, fun i => ?_, hm.uses, hm.nL, hm.nR⟩
  · show 4 * w + 2 * ((8 * s + 7) / 8) < _; omega
  · rw [hm.raw, List.length_replicate]; omega
  · unfold Ar.rawF
    split
    · rename_i h; rw [hm.raw, List.getD_eq_getElem?_getD, List.getElem?_replicate]; split <;> rfl
    · rfl

theorem nnT (a : Addr) : opS Try.prog (.binOp .neq ty_p_epoch_Turn (.tmp 0) (.const (.pointer none)) ty_p_epoch_Turn) ty_bool [(.pointer (some a))] = .pure (.value (.bool true)) := by kernel_rfl
/-- A turn with nobody in its way, by itself. -/
theorem EZ.free (E : EZ I A w s S) {xs : List (Int × Int)} {e : Int} (hu : A.uses ≤ 100000) (he : A.rawF (4 * w + 2 * s + 1) = e) (eb : 0 ≤ e ∧ e ≤ 1000000) (ll : xs.length ≤ 50) (nd : (xs.map Prod.fst).Nodup) (nr : 8 * xs.length ≤ A.nR) (hh : ∀ x ∈ xs, A.stF x.1 = 2 ∧ opC x.1 = 0)
    (hw : ∀ i : Int, 0 ≤ i → i < w → A.rawF (4 * w + 2 * s + 1 + 1 + i) = 0 ∨ A.rawF (4 * w + 2 * s + 1 + 1 + i) = e + 1) :
    ∃ A' S' m' n, mTn.Runs n (newTn w (4 * w + 2 * s + 1) (plOf w (8 * s)) 0 xs) A m' A' ∧ n ≤ 2000 ∧ m'.left = tleft (e + 1) xs ∧ 4 ≤ m'.ph ∧ (Aw I A' → EZ I A' w s S') ∧ A'.uses = A.uses + 2 + w + 3 * (tgone (e + 1) xs).length ∧
      A'.rawF (4 * w + 2 * s + 1) = e + 1 ∧ (∀ i, 4 * w + 2 * s + 1 < i → A'.rawF i = A.rawF i) ∧ (∀ k, A'.stF k = if k ∈ tgone (e + 1) xs then 0 else A.stF k) ∧ A'.nR = A.nR - 8 * (tgone (e + 1) xs).length := by
  have wb := E.wb
  have sb := E.sb
  have rl := E.rl
  have cd : (plOf w (8 * s)).carved = 4 * w + 2 * s := by show 4 * w + 2 * ((8 * s + 7) / 8) = _; omega
  obtain ⟨B, A', S', m', n, r, en, q1, q2, O, W⟩ := turn_free (who := 0) (xs := xs) E.sl E.aw.wf (tw := w) (ta := 4 * w + 2 * s + 1) ⟨by omega, by omega⟩ (by omega) (by omega) (by omega) (by omega) (by omega) he eb ⟨by omega, by omega⟩ nd nr hh fun i hi => hw i (by omega) hi
  have gl : (tgone (e + 1) xs).length ≤ xs.length := by unfold tgone; rw [List.length_map]; exact List.length_filter_le _ _
  have us := W.off.us
  have ous := O.us
  refine ⟨A', S', m', n, r, by omega, q1, q2, fun hA => ⟨hA, W.sl, W.off.fa.trans (O.fa.trans E.fa), by rw [W.off.rl, O.rl]; exact E.rl, E.wb, E.sb⟩, ?_, ?_, fun i hi => ?_, fun k => ?_, ?_⟩
  · rw [us, ous]; show A.uses + (1 + w) + 1 + _ = _; omega
  · rw [W.off.rw _ (by omega), O.rf, if_pos rfl]
  · rw [W.off.rw _ (by omega), O.rf, if_neg (by omega)]; rfl
  · rw [W.st, O.st]; rfl
  · rw [W.nR, O.nR]; rfl

/-- A turn with one behind. -/
theorem EZ.block (E : EZ I A w s S) {xs : List (Int × Int)} {e k : Int} (hu : A.uses ≤ 100000) (he : A.rawF (4 * w + 2 * s + 1) = e) (eb : 0 ≤ e ∧ e ≤ 1000000) (ll : xs.length ≤ 50) (nd : (xs.map Prod.fst).Nodup) (nr : 8 * xs.length ≤ A.nR) (hh : ∀ x ∈ xs, A.stF x.1 = 2 ∧ opC x.1 = 0)
    (hk : 0 ≤ k ∧ k < w) (hw : ∀ i : Int, 0 ≤ i → i < k → A.rawF (4 * w + 2 * s + 1 + 1 + i) = 0 ∨ A.rawF (4 * w + 2 * s + 1 + 1 + i) = e + 1) (hn : A.rawF (4 * w + 2 * s + 1 + 1 + k) ≠ 0 ∧ A.rawF (4 * w + 2 * s + 1 + 1 + k) ≠ e + 1) :
    ∃ A' S' m' n, mTn.Runs n (newTn w (4 * w + 2 * s + 1) (plOf w (8 * s)) 0 xs) A m' A' ∧ n ≤ 2000 ∧ m'.left = tleft e xs ∧ 4 ≤ m'.ph ∧ (Aw I A' → EZ I A' w s S') ∧ A'.uses = A.uses + 2 + k + 3 * (tgone e xs).length ∧
      (∀ i, 4 * w + 2 * s < i → A'.rawF i = A.rawF i) ∧ (∀ k, A'.stF k = if k ∈ tgone e xs then 0 else A.stF k) ∧ A'.nR = A.nR - 8 * (tgone e xs).length := by
  have wb := E.wb
  have sb := E.sb
  have rl := E.rl
  have cd : (plOf w (8 * s)).carved = 4 * w + 2 * s := by show 4 * w + 2 * ((8 * s + 7) / 8) = _; omega
  have ek : ((k.toNat : Nat) : Int) = k := by omega
  obtain ⟨A', S', m', n, r, en, q1, q2, W⟩ := turn_block (who := 0) (xs := xs) E.sl E.aw.wf (tw := w) (ta := 4 * w + 2 * s + 1) ⟨by omega, by omega⟩ (by omega) (by omega) (by omega) (by omega) (by omega) he eb ⟨by omega, by omega⟩ nd nr hh (k := k.toNat) (by omega) (fun i hi => hw i (by omega) (by omega)) (by rw [ek]; exact hn)
  have gl : (tgone e xs).length ≤ xs.length := by unfold tgone; rw [List.length_map]; exact List.length_filter_le _ _
  have us := W.off.us
  rw [ek] at W us
  refine ⟨A', S', m', n, r, by omega, q1, q2, fun hA => ⟨hA, W.sl, W.off.fa.trans E.fa, by rw [W.off.rl]; exact E.rl, E.wb, E.sb⟩, ?_, fun i hi => ?_, fun k => ?_, ?_⟩
  · rw [us]; show A.uses + (2 + k) + _ = _; omega
  · rw [W.off.rw _ (by omega)]; rfl
  · rw [W.st]; rfl
  · rw [W.nR]; rfl

theorem awake13_det (H : Heap) : Det Try.prog f_magpielaw13_awake [] H (.bool true) H := by
  refine t_magpielaw13_awake_spec fun L => ?_
  unfold t_magpielaw13_awake
  refine wp_call_of (emake_spec 2 2 (by decide) (by decide) H) ?_
  rintro v K ⟨A, rfl, rfl, hI, ok, E, r0, u0, nl, nr⟩
  refine ⟨(aI A.ids, (2, 0, 4 * 2, 4 * 2 + (8 * 2 + 7) / 8, 4 * 2 + 2 * ((8 * 2 + 7) / 8), ()), (2, 4 * 2 + 2 * 2 + 1, ()), ()), rfl, ?_⟩
  have hA := E.aw
  have ok : Ok A.ids H (keys ([] : Bl)) := ok
  refine w_newP hA ok fun x2 ok => ?_
  refine w_newP hA ok fun x3 ok => ?_
  refine w_stA 1 hA ok rfl rfl rfl rfl ?_
  refine w_stA 0 hA ok rfl rfl rfl rfl ?_
  refine w_ldA 0 hA ok rfl rfl rfl ?_
  refine w_ldA 1 hA ok rfl rfl rfl ?_
  have ok : Ok A.ids H (keys [(x3, oc ty_epoch_Table (tbC 2 13)), (x2, oc ty_free_Place (plCells (plOf 2 16)))]) := ok
  show wp Try.prog _ _ (own A [(x3, oc ty_epoch_Table (tbC 2 13)), (x2, oc ty_free_Place (plCells (plOf 2 16)))] H) _
  refine w_NewTurn (tw := 2) (ta := 13) (work := 0) (p := plOf 2 16) (xs := []) (s := sl0) hA ok (.inl ⟨rfl, rfl⟩) (by show 0 ≤ 1000; decide) fun j okj rpj => ?_
  refine look_val (x := true) (nnA _) (wp_true rfl ?_)
  refine look_val (x := true) (nnT _) (wp_true rfl ?_)
  obtain ⟨A', S', m', n, run, hn, ml, mp, E', us, g, rw', st, nR⟩ := E.free (xs := []) (e := 0) (by omega) (r0 _) (by decide) (by show 0 ≤ 50; decide) (by simp) (by rw [nr]; decide) (fun x hx => by cases hx) fun i _ _ => .inl (r0 _)
  refine w_runR13 mTn_ok mTn_inv run hn (j := j) hA okj rpj fun j' ha hA2 ok2 rp2 => ?_
  refine wp_true rfl ?_
  obtain ⟨ix, hix⟩ := mem_idx (l := m'.bl j' ++ [(x3, oc ty_epoch_Table (tbC 2 13)), (x2, oc ty_free_Place (plCells (plOf 2 16)))]) (p := (x3, oc ty_epoch_Table (tbC 2 13))) (List.mem_append_right _ List.mem_cons_self)
  refine w_ldA ix hA2 ok2 rfl hix rfl ?_
  refine wq_Global (tw := 2) (ta := 13) ?_
  refine w_Raw hA2 fun hA3 => ?_
  refine wp_true (ibeq g) ?_
  have ha : j'.q = j.q := ha
  rw [← ha]
  refine w_TLeft hA3 ok2 rp2 mp (by rw [ml]; show 0 ≤ 1000; decide) fun s1 tl1 hs1 ok3 => ?_
  rw [ml] at hs1
  refine ⟨H, own_end hA3 ok3 hI, ?_, rfl⟩
  show Value.bool (((s1.len : Nat) : Int) == 0) = _
  rw [hs1.len]; rfl
end
end Go.Proofs.Ytfphgiipekkgdaa

