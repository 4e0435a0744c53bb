/- Texts of this claim, one behind the other. -/
import Derived.Test.YtcjhakdopnamoaaCWFrameWords1
set_option linter.unusedSimpArgs false
set_option linter.unusedVariables false
set_option linter.unusedVariables false
set_option maxRecDepth 20000
namespace Go.Proofs.Ytcjhakdopnamoaa
open Go Go.Fw

/-! ### hazard.Scan -/

/-- A scan's state. -/
structure Sc where
  tw : Int
  ta : Int
  pl : Pl
  work : Int
  word : Int
  l : List Int
  seen : List (Int × Bool)
  sorted : Bool
  frees : List Fe
  left : List Int
  ended : Bool

abbrev Tri := Nat × Nat × Nat
structure ScJ where
  q : Nat
  mq : Nat
  ls : Sl
  fs : Sl
  ds : Sl
  fj : List Tri
  tls : Bl
  tfs : Bl
  tds : Bl

def fbl : List Fe → List Tri → Bl
  | x :: xs, j :: js => x.bl j ++ fbl xs js
  | _, _ => []
theorem fbl_snoc {x : Fe} {j : Tri} : ∀ {xs : List Fe} {js : List Tri}, xs.length = js.length → fbl (xs ++ [x]) (js ++ [j]) = fbl xs js ++ x.bl j
  | [], [], _ => by simp [fbl]
  | y :: xs, k :: js, h => by
    have := fbl_snoc (x := x) (j := j) (xs := xs) (js := js) (by simpa using h)
    simp only [List.cons_append, fbl, this, List.append_assoc]
  | [], _ :: _, h => by simp at h
  | _ :: _, [], h => by simp at h

def scC (tw ta : Int) (p : Pl) (work word : Int) (ls : Sl) (mq : Nat) (fs ds : Sl) (ended : Bool) : List Value :=
  [.int .i64 tw, .int .i64 ta, .int .i64 p.work, .int .i64 p.heads, .int .i64 p.links, .int .i64 p.gens, .int .i64 p.carved, .int .i64 work, .int .i64 word, .slice ls.a ls.len ls.cap, .map (some mq), .slice fs.a fs.len fs.cap, .slice ds.a ds.len ds.cap, .bool ended]
def Sc.cells (m : Sc) (j : ScJ) : List Value := scC m.tw m.ta m.pl m.work m.word j.ls j.mq j.fs j.ds m.ended
def Sc.map (m : Sc) (j : ScJ) : Bl := if m.sorted then [] else [(j.mq, mapObj Value.bool m.seen)]
def Sc.bl (m : Sc) (j : ScJ) : Bl := [(j.q, oc ty_hazard_Scan (m.cells j))] ++ (m.map j ++ (fbl m.frees j.fj ++ (j.tls ++ (j.tfs ++ j.tds))))

structure Sc.rep (m : Sc) (j : ScJ) : Prop where
  ls : SlOf j.tls ty_int eI j.ls m.l
  fs : SlAt j.tfs ty_p_slab_Free eP j.fs (j.fj.map (·.1))
  ds : SlOf j.tds ty_int eI j.ds m.left
  fl : m.frees.length = j.fj.length
  un : m.sorted = false → j.fs = ⟨none, 0, 0⟩ ∧ j.ds = ⟨none, 0, 0⟩ ∧ j.tfs = [] ∧ j.tds = []

theorem elF : ElOk ty_s_p_slab_Free ty_p_slab_Free 1 := ⟨⟨_, _, rfl, rfl, rfl, by decide, by decide, rfl, rfl⟩⟩

def inS (seen : List (Int × Bool)) (h : Int) : Bool := (alGet seen h).getD false
def Sc.upto (m : Sc) (n : Nat) : Sc := { m with frees := ((m.l.take n).filter fun h => !inS m.seen h).map (newFe m.pl m.work), left := (m.l.take n).filter (inS m.seen) }
def Sc.sort (m : Sc) : Sc := { m.upto m.l.length with sorted := true, ended := decide ((m.upto m.l.length).frees = []) }

theorem take_filter {p : Int → Bool} {l : List Int} {n : Nat} (h : n < l.length) : (l.take (n + 1)).filter p = (l.take n).filter p ++ if p (l.getD n 0) then [l.getD n 0] else [] := by
  have e : l.take (n + 1) = l.take n ++ [l.getD n 0] := by
    rw [List.take_add_one, List.getD_eq_getElem?_getD, List.getElem?_eq_getElem h]; rfl
  rw [e, List.filter_append]
  congr 1
  unfold List.filter
  cases p (l.getD n 0) <;> rfl
theorem Sc.bl_u {m : Sc} (j : ScJ) (h : m.sorted = false) : m.bl j = (j.q, oc ty_hazard_Scan (m.cells j)) :: (j.mq, mapObj Value.bool m.seen) :: (fbl m.frees j.fj ++ (j.tls ++ (j.tfs ++ j.tds))) := by
  unfold Sc.bl Sc.map; rw [h]; rfl
theorem Sc.bl_s {m : Sc} (j : ScJ) (h : m.sorted = true) : m.bl j = (j.q, oc ty_hazard_Scan (m.cells j)) :: (fbl m.frees j.fj ++ (j.tls ++ (j.tfs ++ j.tds))) := by
  unfold Sc.bl Sc.map; rw [h]; rfl

section
variable {L : Hands} {R : Value → Heap → Prop} {A : Ar} {I : List Nat} {G : Heap}

/-- While it sorts. -/
structure Srt (I : List Nat) (G : Heap) (A : Ar) (m : Sc) (q mq : Nat) (ls : Sl) (i : Int) (H : Heap) (j : ScJ) : Prop where
  i0 : 0 ≤ i
  i1 : i ≤ m.l.length
  eH : H = own A ((m.upto i.toNat).bl j) G
  ok : Ok I G (keys ((m.upto i.toNat).bl j))
  eq : j.q = q
  eM : j.mq = mq
  eL : j.ls = ls
  ls : SlOf j.tls ty_int eI j.ls m.l
  fs : SlOf j.tfs ty_p_slab_Free eP j.fs (j.fj.map (·.1))
  ds : SlOf j.tds ty_int eI j.ds (m.upto i.toNat).left
  fl : (m.upto i.toNat).frees.length = j.fj.length

set_option maxHeartbeats 1000000 in
theorem sort_spec (m : Sc) (j : ScJ) (hA : Aw I A) (ok : Ok I G (keys (m.bl j))) (rp : m.rep j) (hs : m.sorted = false) (hf : m.frees = []) (hd : m.left = []) (hl : m.l.length ≤ 1000) :
    SpecF Try.prog f_hazard_Scan_sort #[.pointer (some ⟨j.q, 0, none⟩)] (own A (m.bl j) G) fun v K => ∃ j', v = .tuple #[] ∧ K = own A (m.sort.bl j') G ∧ j'.q = j.q ∧ Ok I G (keys (m.sort.bl j')) ∧ m.sort.rep j' := by
  refine t_hazard_Scan_sort_spec fun L => ?_
  unfold t_hazard_Scan_sort
  obtain ⟨u1, u2, u3, u4⟩ := rp.un hs
  have efj : j.fj = [] := List.eq_nil_of_length_eq_zero (by rw [← rp.fl, hf]; rfl)
  have e0 : m.upto 0 = m := by cases m; simp only at hf hd; subst hf; subst hd; rfl
  repeat (first
  | refine wp_nil.2 ?_
  | refine w_ld 0 hA ok rfl rfl rfl ?_
  | refine w_ld 1 hA ok rfl rfl rfl ?_
  | refine w_ld 2 hA ok rfl rfl rfl ?_
  | refine w_ld 3 hA ok rfl rfl rfl ?_
  | refine w_ld 4 hA ok rfl rfl rfl ?_
  | refine w_ld 5 hA ok rfl rfl rfl ?_
  | refine w_ld 6 hA ok rfl rfl rfl ?_
  | refine w_ld 7 hA ok rfl rfl rfl ?_
  | refine w_st 0 hA ok rfl rfl rfl rfl ?_
  | refine w_st 1 hA ok rfl rfl rfl rfl ?_
  | refine w_st 2 hA ok rfl rfl rfl rfl ?_
  | refine w_st 3 hA ok rfl rfl rfl rfl ?_
  | refine w_st 4 hA ok rfl rfl rfl rfl ?_
  | refine w_st 5 hA ok rfl rfl rfl rfl ?_
  | refine w_st 6 hA ok rfl rfl rfl rfl ?_
  | refine w_st 7 hA ok rfl rfl rfl rfl ?_
  | refine w_ldA 0 hA ok rfl rfl rfl ?_
  | refine w_ldA 1 hA ok rfl rfl rfl ?_
  | refine w_ldA 2 hA ok rfl rfl rfl ?_
  | refine w_ldA 3 hA ok rfl rfl rfl ?_
  | refine w_ldA 4 hA ok rfl rfl rfl ?_
  | refine w_ldA 5 hA ok rfl rfl rfl ?_
  | refine w_ldA 6 hA ok rfl rfl rfl ?_
  | refine w_ldA 7 hA ok rfl rfl rfl ?_
  | refine w_stA 0 hA ok rfl rfl rfl rfl ?_
  | refine w_stA 1 hA ok rfl rfl rfl rfl ?_
  | refine w_stA 2 hA ok rfl rfl rfl rfl ?_
  | refine w_stA 3 hA ok rfl rfl rfl rfl ?_
  | refine w_stA 4 hA ok rfl rfl rfl rfl ?_
  | refine w_stA 5 hA ok rfl rfl rfl rfl ?_
  | refine w_stA 6 hA ok rfl rfl rfl rfl ?_
  | refine w_stA 7 hA ok rfl rfl rfl rfl ?_
  | (refine w_Raw hA ?_; intro hA)
  | (refine w_SetRaw hA ?_; intro hA)
  | (refine w_SwapRaw hA ?_; intro hA)
  | (refine w_AddRaw hA ?_; intro hA)
  | (refine w_Load hA ?_; intro hA)
  | (refine w_Store hA ?_; intro hA)
  | (refine w_Retire hA ?_; intro hA)
  | (refine w_Died hA ?_; intro hA)
  | (refine w_Born hA ?_; intro hA)
  | refine w_State hA ?_
  | refine w_Uses hA ?_
  | refine w_Fault hA ?_
  | refine w_Words hA ?_
  | refine w_Count hA ?_
  | refine wq_Size ?_
  | refine wq_Open ?_
  | refine wq_Pack ?_
  | refine wq_head ?_
  | refine w_ck 0 hA ok rfl rfl rfl ?_
  | refine w_ck 1 hA ok rfl rfl rfl ?_
  | refine w_ck 2 hA ok rfl rfl rfl ?_
  | refine w_ck 3 hA ok rfl rfl rfl ?_
  | refine w_ck 4 hA ok rfl rfl rfl ?_
  | refine w_ck 5 hA ok rfl rfl rfl ?_
  | refine w_ck 6 hA ok rfl rfl rfl ?_
  | refine w_ck 7 hA ok rfl rfl rfl ?_
  | refine w_ckn rfl ?_
  | refine w_Base 0 1 hA ok rfl rfl ?_
  | refine w_Base 1 2 hA ok rfl rfl ?_
  | refine w_Base 2 3 hA ok rfl rfl ?_
  | refine w_Base 3 4 hA ok rfl rfl ?_
  | refine w_Base 4 5 hA ok rfl rfl ?_
  | refine w_Base 5 6 hA ok rfl rfl ?_
  | (refine w_PopStep 0 1 hA ok rfl rfl ?_; intro hA)
  | (refine w_PopStep 1 2 hA ok rfl rfl ?_; intro hA)
  | (refine w_PopStep 2 3 hA ok rfl rfl ?_; intro hA)
  | (refine w_PopStep 3 4 hA ok rfl rfl ?_; intro hA)
  | (refine w_PopStep 4 5 hA ok rfl rfl ?_; intro hA)
  | (refine w_PopStep 5 6 hA ok rfl rfl ?_; intro hA)
  | (refine w_PushStep 0 1 hA ok rfl rfl ?_; intro hA)
  | (refine w_PushStep 1 2 hA ok rfl rfl ?_; intro hA)
  | (refine w_PushStep 2 3 hA ok rfl rfl ?_; intro hA)
  | (refine w_PushStep 3 4 hA ok rfl rfl ?_; intro hA)
  | (refine w_PushStep 4 5 hA ok rfl rfl ?_; intro hA)
  | (refine w_PushStep 5 6 hA ok rfl rfl ?_; intro hA)
  | refine wp_true (by assumption) ?_
  | refine wp_false (by assumption) ?_)
  refine wl_i (fun i H => ∃ j', Srt I G A m j.q j.mq j.ls i H j') (fun i => (m.l.length - i).toNat) 0 ⟨j, Int.le_refl 0, by omega, by rw [show (0 : Int).toNat = 0 from rfl, e0], by rw [show (0 : Int).toNat = 0 from rfl, e0]; exact ok, rfl, rfl, rfl, rp.ls, ?_, by rw [show (0 : Int).toNat = 0 from rfl, e0]; exact rp.ds, by rw [show (0 : Int).toNat = 0 from rfl, e0]; exact rp.fl⟩ ?_
  · rw [u1, u3, efj]; exact .inl ⟨rfl, rfl⟩
  rintro i H ⟨j1, hS⟩
  obtain ⟨i0, i1, eH, ok1, eq, eM, eL, hls, hfs, hds, hfl⟩ := hS
  subst eH
  have hsu : (m.upto i.toNat).sorted = false := hs
  have hlen := hls.len
  rw [Sc.bl_u j1 hsu] at ok1 ⊢
  have ok := ok1
  rw [t_hazard_Scan_sort_L1, ← eL, ← eq]
  by_cases hi : i < m.l.length
  · refine wp_true (decide_eq_true (by show i < ((j1.ls.len : Nat) : Int); rw [hlen]; exact hi)) ?_
    refine w_rdI hA ok (hls.mono fun p hp => ?_) i0 hi ?_
    · exact List.mem_cons_of_mem _ (List.mem_cons_of_mem _ (List.mem_append_right _ (List.mem_append_left _ hp)))
    repeat (first
  | refine wp_nil.2 ?_
  | refine w_ld 0 hA ok rfl rfl rfl ?_
  | refine w_ld 1 hA ok rfl rfl rfl ?_
  | refine w_ld 2 hA ok rfl rfl rfl ?_
  | refine w_ld 3 hA ok rfl rfl rfl ?_
  | refine w_ld 4 hA ok rfl rfl rfl ?_
  | refine w_ld 5 hA ok rfl rfl rfl ?_
  | refine w_ld 6 hA ok rfl rfl rfl ?_
  | refine w_ld 7 hA ok rfl rfl rfl ?_
  | refine w_st 0 hA ok rfl rfl rfl rfl ?_
  | refine w_st 1 hA ok rfl rfl rfl rfl ?_
  | refine w_st 2 hA ok rfl rfl rfl rfl ?_
  | refine w_st 3 hA ok rfl rfl rfl rfl ?_
  | refine w_st 4 hA ok rfl rfl rfl rfl ?_
  | refine w_st 5 hA ok rfl rfl rfl rfl ?_
  | refine w_st 6 hA ok rfl rfl rfl rfl ?_
  | refine w_st 7 hA ok rfl rfl rfl rfl ?_
  | refine w_ldA 0 hA ok rfl rfl rfl ?_
  | refine w_ldA 1 hA ok rfl rfl rfl ?_
  | refine w_ldA 2 hA ok rfl rfl rfl ?_
  | refine w_ldA 3 hA ok rfl rfl rfl ?_
  | refine w_ldA 4 hA ok rfl rfl rfl ?_
  | refine w_ldA 5 hA ok rfl rfl rfl ?_
  | refine w_ldA 6 hA ok rfl rfl rfl ?_
  | refine w_ldA 7 hA ok rfl rfl rfl ?_
  | refine w_stA 0 hA ok rfl rfl rfl rfl ?_
  | refine w_stA 1 hA ok rfl rfl rfl rfl ?_
  | refine w_stA 2 hA ok rfl rfl rfl rfl ?_
  | refine w_stA 3 hA ok rfl rfl rfl rfl ?_
  | refine w_stA 4 hA ok rfl rfl rfl rfl ?_
  | refine w_stA 5 hA ok rfl rfl rfl rfl ?_
  | refine w_stA 6 hA ok rfl rfl rfl rfl ?_
  | refine w_stA 7 hA ok rfl rfl rfl rfl ?_
  | (refine w_Raw hA ?_; intro hA)
  | (refine w_SetRaw hA ?_; intro hA)
  | (refine w_SwapRaw hA ?_; intro hA)
  | (refine w_AddRaw hA ?_; intro hA)
  | (refine w_Load hA ?_; intro hA)
  | (refine w_Store hA ?_; intro hA)
  | (refine w_Retire hA ?_; intro hA)
  | (refine w_Died hA ?_; intro hA)
  | (refine w_Born hA ?_; intro hA)
  | refine w_State hA ?_
  | refine w_Uses hA ?_
  | refine w_Fault hA ?_
  | refine w_Words hA ?_
  | refine w_Count hA ?_
  | refine wq_Size ?_
  | refine wq_Open ?_
  | refine wq_Pack ?_
  | refine wq_head ?_
  | refine w_ck 0 hA ok rfl rfl rfl ?_
  | refine w_ck 1 hA ok rfl rfl rfl ?_
  | refine w_ck 2 hA ok rfl rfl rfl ?_
  | refine w_ck 3 hA ok rfl rfl rfl ?_
  | refine w_ck 4 hA ok rfl rfl rfl ?_
  | refine w_ck 5 hA ok rfl rfl rfl ?_
  | refine w_ck 6 hA ok rfl rfl rfl ?_
  | refine w_ck 7 hA ok rfl rfl rfl ?_
  | refine w_ckn rfl ?_
  | refine w_Base 0 1 hA ok rfl rfl ?_
  | refine w_Base 1 2 hA ok rfl rfl ?_
  | refine w_Base 2 3 hA ok rfl rfl ?_
  | refine w_Base 3 4 hA ok rfl rfl ?_
  | refine w_Base 4 5 hA ok rfl rfl ?_
  | refine w_Base 5 6 hA ok rfl rfl ?_
  | (refine w_PopStep 0 1 hA ok rfl rfl ?_; intro hA)
  | (refine w_PopStep 1 2 hA ok rfl rfl ?_; intro hA)
  | (refine w_PopStep 2 3 hA ok rfl rfl ?_; intro hA)
  | (refine w_PopStep 3 4 hA ok rfl rfl ?_; intro hA)
  | (refine w_PopStep 4 5 hA ok rfl rfl ?_; intro hA)
  | (refine w_PopStep 5 6 hA ok rfl rfl ?_; intro hA)
  | (refine w_PushStep 0 1 hA ok rfl rfl ?_; intro hA)
  | (refine w_PushStep 1 2 hA ok rfl rfl ?_; intro hA)
  | (refine w_PushStep 2 3 hA ok rfl rfl ?_; intro hA)
  | (refine w_PushStep 3 4 hA ok rfl rfl ?_; intro hA)
  | (refine w_PushStep 4 5 hA ok rfl rfl ?_; intro hA)
  | (refine w_PushStep 5 6 hA ok rfl rfl ?_; intro hA)
  | refine wp_true (by assumption) ?_
  | refine wp_false (by assumption) ?_)
    refine w_lookup 1 (y := inS m.seen (m.l.getD i.toNat 0)) hA ok rfl rfl rfl rfl rfl ?_ ?_
    · unfold inS
      have e : alGet (m.upto i.toNat).seen (m.l.getD (Int.toNat (i, ()).fst) 0) = alGet m.seen (m.l.getD i.toNat 0) := rfl
      rw [e]
      cases alGet m.seen (m.l.getD i.toNat 0) <;> rfl
    have ht : i.toNat < m.l.length := by omega
    have e1 : w64 (i + 1) = i + 1 := w64_in (by omega) (by omega)
    have e2 : (i + 1).toNat = i.toNat + 1 := by omega
    have fl : (m.upto (i.toNat + 1)).left = (m.upto i.toNat).left ++ if inS m.seen (m.l.getD i.toNat 0) then [m.l.getD i.toNat 0] else [] := take_filter ht
    have ff : (m.upto (i.toNat + 1)).frees = (m.upto i.toNat).frees ++ if inS m.seen (m.l.getD i.toNat 0) then [] else [newFe m.pl m.work (m.l.getD i.toNat 0)] := by
      show ((m.l.take (i.toNat + 1)).filter fun h => !inS m.seen h).map (newFe m.pl m.work) = ((m.l.take i.toNat).filter fun h => !inS m.seen h).map (newFe m.pl m.work) ++ _
      rw [take_filter ht, List.map_append]
      cases inS m.seen (m.l.getD i.toNat 0) <;> rfl
    have hll : (m.upto i.toNat).left.length ≤ 1000 := Nat.le_trans (List.length_filter_le _ _) (by rw [List.length_take]; omega)
    have hlf : (m.upto i.toNat).frees.length ≤ 1000 := by
      show (((m.l.take i.toNat).filter fun h => !inS m.seen h).map (newFe m.pl m.work)).length ≤ 1000
      rw [List.length_map]
      exact Nat.le_trans (List.length_filter_le _ _) (by rw [List.length_take]; omega)
    generalize hh : m.l.getD i.toNat 0 = h at fl ff ⊢
    by_cases hin : inS m.seen h = true
    · rw [if_pos hin] at fl ff
      refine wp_true hin ?_
      repeat (first
  | refine wp_nil.2 ?_
  | refine w_ld 0 hA ok rfl rfl rfl ?_
  | refine w_ld 1 hA ok rfl rfl rfl ?_
  | refine w_ld 2 hA ok rfl rfl rfl ?_
  | refine w_ld 3 hA ok rfl rfl rfl ?_
  | refine w_ld 4 hA ok rfl rfl rfl ?_
  | refine w_ld 5 hA ok rfl rfl rfl ?_
  | refine w_ld 6 hA ok rfl rfl rfl ?_
  | refine w_ld 7 hA ok rfl rfl rfl ?_
  | refine w_st 0 hA ok rfl rfl rfl rfl ?_
  | refine w_st 1 hA ok rfl rfl rfl rfl ?_
  | refine w_st 2 hA ok rfl rfl rfl rfl ?_
  | refine w_st 3 hA ok rfl rfl rfl rfl ?_
  | refine w_st 4 hA ok rfl rfl rfl rfl ?_
  | refine w_st 5 hA ok rfl rfl rfl rfl ?_
  | refine w_st 6 hA ok rfl rfl rfl rfl ?_
  | refine w_st 7 hA ok rfl rfl rfl rfl ?_
  | refine w_ldA 0 hA ok rfl rfl rfl ?_
  | refine w_ldA 1 hA ok rfl rfl rfl ?_
  | refine w_ldA 2 hA ok rfl rfl rfl ?_
  | refine w_ldA 3 hA ok rfl rfl rfl ?_
  | refine w_ldA 4 hA ok rfl rfl rfl ?_
  | refine w_ldA 5 hA ok rfl rfl rfl ?_
  | refine w_ldA 6 hA ok rfl rfl rfl ?_
  | refine w_ldA 7 hA ok rfl rfl rfl ?_
  | refine w_stA 0 hA ok rfl rfl rfl rfl ?_
  | refine w_stA 1 hA ok rfl rfl rfl rfl ?_
  | refine w_stA 2 hA ok rfl rfl rfl rfl ?_
  | refine w_stA 3 hA ok rfl rfl rfl rfl ?_
  | refine w_stA 4 hA ok rfl rfl rfl rfl ?_
  | refine w_stA 5 hA ok rfl rfl rfl rfl ?_
  | refine w_stA 6 hA ok rfl rfl rfl rfl ?_
  | refine w_stA 7 hA ok rfl rfl rfl rfl ?_
  | (refine w_Raw hA ?_; intro hA)
  | (refine w_SetRaw hA ?_; intro hA)
  | (refine w_SwapRaw hA ?_; intro hA)
  | (refine w_AddRaw hA ?_; intro hA)
  | (refine w_Load hA ?_; intro hA)
  | (refine w_Store hA ?_; intro hA)
  | (refine w_Retire hA ?_; intro hA)
  | (refine w_Died hA ?_; intro hA)
  | (refine w_Born hA ?_; intro hA)
  | refine w_State hA ?_
  | refine w_Uses hA ?_
  | refine w_Fault hA ?_
  | refine w_Words hA ?_
  | refine w_Count hA ?_
  | refine wq_Size ?_
  | refine wq_Open ?_
  | refine wq_Pack ?_
  | refine wq_head ?_
  | refine w_ck 0 hA ok rfl rfl rfl ?_
  | refine w_ck 1 hA ok rfl rfl rfl ?_
  | refine w_ck 2 hA ok rfl rfl rfl ?_
  | refine w_ck 3 hA ok rfl rfl rfl ?_
  | refine w_ck 4 hA ok rfl rfl rfl ?_
  | refine w_ck 5 hA ok rfl rfl rfl ?_
  | refine w_ck 6 hA ok rfl rfl rfl ?_
  | refine w_ck 7 hA ok rfl rfl rfl ?_
  | refine w_ckn rfl ?_
  | refine w_Base 0 1 hA ok rfl rfl ?_
  | refine w_Base 1 2 hA ok rfl rfl ?_
  | refine w_Base 2 3 hA ok rfl rfl ?_
  | refine w_Base 3 4 hA ok rfl rfl ?_
  | refine w_Base 4 5 hA ok rfl rfl ?_
  | refine w_Base 5 6 hA ok rfl rfl ?_
  | (refine w_PopStep 0 1 hA ok rfl rfl ?_; intro hA)
  | (refine w_PopStep 1 2 hA ok rfl rfl ?_; intro hA)
  | (refine w_PopStep 2 3 hA ok rfl rfl ?_; intro hA)
  | (refine w_PopStep 3 4 hA ok rfl rfl ?_; intro hA)
  | (refine w_PopStep 4 5 hA ok rfl rfl ?_; intro hA)
  | (refine w_PopStep 5 6 hA ok rfl rfl ?_; intro hA)
  | (refine w_PushStep 0 1 hA ok rfl rfl ?_; intro hA)
  | (refine w_PushStep 1 2 hA ok rfl rfl ?_; intro hA)
  | (refine w_PushStep 2 3 hA ok rfl rfl ?_; intro hA)
  | (refine w_PushStep 3 4 hA ok rfl rfl ?_; intro hA)
  | (refine w_PushStep 4 5 hA ok rfl rfl ?_; intro hA)
  | (refine w_PushStep 5 6 hA ok rfl rfl ?_; intro hA)
  | refine wp_true (by assumption) ?_
  | refine wp_false (by assumption) ?_)
      refine w_newS hA ok fun g ok => ?_
      obtain ⟨p1, ok2⟩ := own_perm (A := A) (l' := (j1.q, oc ty_hazard_Scan ((m.upto i.toNat).cells j1)) :: (j1.mq, mapObj Value.bool (m.upto i.toNat).seen) :: (fbl (m.upto i.toNat).frees j1.fj ++ (j1.tls ++ j1.tfs)) ++ (((g, oc ty_int [.int .i64 h]) :: j1.tds) ++ [])) ok (perm_by fun c d c0 cd ca => by simp only [cd, ca, c0]; omega)
      rw [p1]
      have ok := ok2
      refine w_appM (E := eI) elI _ (xs := (m.upto i.toNat).left) (ys := [h]) (t := ⟨some ⟨g, 0, none⟩, 1, 1⟩) hA ok (hds.mono fun p hp => List.mem_cons_of_mem _ hp) ?_ rfl (by simp only [List.length_cons, List.length_nil]; omega) fun s' mid' hs' ok => ?_
      · exact cell_row (c := [.int .i64 h]) hA ok (List.mem_append_right _ (List.mem_append_left _ List.mem_cons_self)) 0 rfl
      repeat (first
  | refine wp_nil.2 ?_
  | refine w_ld 0 hA ok rfl rfl rfl ?_
  | refine w_ld 1 hA ok rfl rfl rfl ?_
  | refine w_ld 2 hA ok rfl rfl rfl ?_
  | refine w_ld 3 hA ok rfl rfl rfl ?_
  | refine w_ld 4 hA ok rfl rfl rfl ?_
  | refine w_ld 5 hA ok rfl rfl rfl ?_
  | refine w_ld 6 hA ok rfl rfl rfl ?_
  | refine w_ld 7 hA ok rfl rfl rfl ?_
  | refine w_st 0 hA ok rfl rfl rfl rfl ?_
  | refine w_st 1 hA ok rfl rfl rfl rfl ?_
  | refine w_st 2 hA ok rfl rfl rfl rfl ?_
  | refine w_st 3 hA ok rfl rfl rfl rfl ?_
  | refine w_st 4 hA ok rfl rfl rfl rfl ?_
  | refine w_st 5 hA ok rfl rfl rfl rfl ?_
  | refine w_st 6 hA ok rfl rfl rfl rfl ?_
  | refine w_st 7 hA ok rfl rfl rfl rfl ?_
  | refine w_ldA 0 hA ok rfl rfl rfl ?_
  | refine w_ldA 1 hA ok rfl rfl rfl ?_
  | refine w_ldA 2 hA ok rfl rfl rfl ?_
  | refine w_ldA 3 hA ok rfl rfl rfl ?_
  | refine w_ldA 4 hA ok rfl rfl rfl ?_
  | refine w_ldA 5 hA ok rfl rfl rfl ?_
  | refine w_ldA 6 hA ok rfl rfl rfl ?_
  | refine w_ldA 7 hA ok rfl rfl rfl ?_
  | refine w_stA 0 hA ok rfl rfl rfl rfl ?_
  | refine w_stA 1 hA ok rfl rfl rfl rfl ?_
  | refine w_stA 2 hA ok rfl rfl rfl rfl ?_
  | refine w_stA 3 hA ok rfl rfl rfl rfl ?_
  | refine w_stA 4 hA ok rfl rfl rfl rfl ?_
  | refine w_stA 5 hA ok rfl rfl rfl rfl ?_
  | refine w_stA 6 hA ok rfl rfl rfl rfl ?_
  | refine w_stA 7 hA ok rfl rfl rfl rfl ?_
  | (refine w_Raw hA ?_; intro hA)
  | (refine w_SetRaw hA ?_; intro hA)
  | (refine w_SwapRaw hA ?_; intro hA)
  | (refine w_AddRaw hA ?_; intro hA)
  | (refine w_Load hA ?_; intro hA)
  | (refine w_Store hA ?_; intro hA)
  | (refine w_Retire hA ?_; intro hA)
  | (refine w_Died hA ?_; intro hA)
  | (refine w_Born hA ?_; intro hA)
  | refine w_State hA ?_
  | refine w_Uses hA ?_
  | refine w_Fault hA ?_
  | refine w_Words hA ?_
  | refine w_Count hA ?_
  | refine wq_Size ?_
  | refine wq_Open ?_
  | refine wq_Pack ?_
  | refine wq_head ?_
  | refine w_ck 0 hA ok rfl rfl rfl ?_
  | refine w_ck 1 hA ok rfl rfl rfl ?_
  | refine w_ck 2 hA ok rfl rfl rfl ?_
  | refine w_ck 3 hA ok rfl rfl rfl ?_
  | refine w_ck 4 hA ok rfl rfl rfl ?_
  | refine w_ck 5 hA ok rfl rfl rfl ?_
  | refine w_ck 6 hA ok rfl rfl rfl ?_
  | refine w_ck 7 hA ok rfl rfl rfl ?_
  | refine w_ckn rfl ?_
  | refine w_Base 0 1 hA ok rfl rfl ?_
  | refine w_Base 1 2 hA ok rfl rfl ?_
  | refine w_Base 2 3 hA ok rfl rfl ?_
  | refine w_Base 3 4 hA ok rfl rfl ?_
  | refine w_Base 4 5 hA ok rfl rfl ?_
  | refine w_Base 5 6 hA ok rfl rfl ?_
  | (refine w_PopStep 0 1 hA ok rfl rfl ?_; intro hA)
  | (refine w_PopStep 1 2 hA ok rfl rfl ?_; intro hA)
  | (refine w_PopStep 2 3 hA ok rfl rfl ?_; intro hA)
  | (refine w_PopStep 3 4 hA ok rfl rfl ?_; intro hA)
  | (refine w_PopStep 4 5 hA ok rfl rfl ?_; intro hA)
  | (refine w_PopStep 5 6 hA ok rfl rfl ?_; intro hA)
  | (refine w_PushStep 0 1 hA ok rfl rfl ?_; intro hA)
  | (refine w_PushStep 1 2 hA ok rfl rfl ?_; intro hA)
  | (refine w_PushStep 2 3 hA ok rfl rfl ?_; intro hA)
  | (refine w_PushStep 3 4 hA ok rfl rfl ?_; intro hA)
  | (refine w_PushStep 4 5 hA ok rfl rfl ?_; intro hA)
  | (refine w_PushStep 5 6 hA ok rfl rfl ?_; intro hA)
  | refine wp_true (by assumption) ?_
  | refine wp_false (by assumption) ?_)
      rw [List.append_nil] at ff
      have hp : ((j1.q, oc ty_hazard_Scan ((m.upto (i.toNat + 1)).cells { j1 with ds := s', tds := mid' })) :: (j1.mq, mapObj Value.bool (m.upto (i.toNat + 1)).seen) :: (fbl (m.upto i.toNat).frees j1.fj ++ (j1.tls ++ j1.tfs)) ++ (mid' ++ [])).Perm ((m.upto (i.toNat + 1)).bl { j1 with ds := s', tds := mid' }) := by
        rw [Sc.bl_u (m := m.upto (i.toNat + 1)) _ hs, ff]
        dsimp only
        exact (perm_by fun c d c0 cd ca => by simp only [cd, ca, c0]; omega)
      refine wp_again ⟨i + 1, by rw [e1], ⟨{ j1 with ds := s', tds := mid' }, by omega, by omega, ?_, ?_, rfl, eM, rfl, hls, hfs, ?_, ?_⟩, by omega⟩
      · rw [e2]; exact (own_perm2 (A := A) hp ok).1
      · rw [e2]; exact (own_perm2 (A := A) hp ok).2
      · rw [e2, fl]; exact hs'
      · rw [e2, ff]; exact hfl
    · rw [if_neg hin] at fl ff
      rw [List.append_nil] at fl
      refine wp_false (by simpa using hin) ?_
      repeat (first
  | refine wp_nil.2 ?_
  | refine w_ld 0 hA ok rfl rfl rfl ?_
  | refine w_ld 1 hA ok rfl rfl rfl ?_
  | refine w_ld 2 hA ok rfl rfl rfl ?_
  | refine w_ld 3 hA ok rfl rfl rfl ?_
  | refine w_ld 4 hA ok rfl rfl rfl ?_
  | refine w_ld 5 hA ok rfl rfl rfl ?_
  | refine w_ld 6 hA ok rfl rfl rfl ?_
  | refine w_ld 7 hA ok rfl rfl rfl ?_
  | refine w_st 0 hA ok rfl rfl rfl rfl ?_
  | refine w_st 1 hA ok rfl rfl rfl rfl ?_
  | refine w_st 2 hA ok rfl rfl rfl rfl ?_
  | refine w_st 3 hA ok rfl rfl rfl rfl ?_
  | refine w_st 4 hA ok rfl rfl rfl rfl ?_
  | refine w_st 5 hA ok rfl rfl rfl rfl ?_
  | refine w_st 6 hA ok rfl rfl rfl rfl ?_
  | refine w_st 7 hA ok rfl rfl rfl rfl ?_
  | refine w_ldA 0 hA ok rfl rfl rfl ?_
  | refine w_ldA 1 hA ok rfl rfl rfl ?_
  | refine w_ldA 2 hA ok rfl rfl rfl ?_
  | refine w_ldA 3 hA ok rfl rfl rfl ?_
  | refine w_ldA 4 hA ok rfl rfl rfl ?_
  | refine w_ldA 5 hA ok rfl rfl rfl ?_
  | refine w_ldA 6 hA ok rfl rfl rfl ?_
  | refine w_ldA 7 hA ok rfl rfl rfl ?_
  | refine w_stA 0 hA ok rfl rfl rfl rfl ?_
  | refine w_stA 1 hA ok rfl rfl rfl rfl ?_
  | refine w_stA 2 hA ok rfl rfl rfl rfl ?_
  | refine w_stA 3 hA ok rfl rfl rfl rfl ?_
  | refine w_stA 4 hA ok rfl rfl rfl rfl ?_
  | refine w_stA 5 hA ok rfl rfl rfl rfl ?_
  | refine w_stA 6 hA ok rfl rfl rfl rfl ?_
  | refine w_stA 7 hA ok rfl rfl rfl rfl ?_
  | (refine w_Raw hA ?_; intro hA)
  | (refine w_SetRaw hA ?_; intro hA)
  | (refine w_SwapRaw hA ?_; intro hA)
  | (refine w_AddRaw hA ?_; intro hA)
  | (refine w_Load hA ?_; intro hA)
  | (refine w_Store hA ?_; intro hA)
  | (refine w_Retire hA ?_; intro hA)
  | (refine w_Died hA ?_; intro hA)
  | (refine w_Born hA ?_; intro hA)
  | refine w_State hA ?_
  | refine w_Uses hA ?_
  | refine w_Fault hA ?_
  | refine w_Words hA ?_
  | refine w_Count hA ?_
  | refine wq_Size ?_
  | refine wq_Open ?_
  | refine wq_Pack ?_
  | refine wq_head ?_
  | refine w_ck 0 hA ok rfl rfl rfl ?_
  | refine w_ck 1 hA ok rfl rfl rfl ?_
  | refine w_ck 2 hA ok rfl rfl rfl ?_
  | refine w_ck 3 hA ok rfl rfl rfl ?_
  | refine w_ck 4 hA ok rfl rfl rfl ?_
  | refine w_ck 5 hA ok rfl rfl rfl ?_
  | refine w_ck 6 hA ok rfl rfl rfl ?_
  | refine w_ck 7 hA ok rfl rfl rfl ?_
  | refine w_ckn rfl ?_
  | refine w_Base 0 1 hA ok rfl rfl ?_
  | refine w_Base 1 2 hA ok rfl rfl ?_
  | refine w_Base 2 3 hA ok rfl rfl ?_
  | refine w_Base 3 4 hA ok rfl rfl ?_
  | refine w_Base 4 5 hA ok rfl rfl ?_
  | refine w_Base 5 6 hA ok rfl rfl ?_
  | (refine w_PopStep 0 1 hA ok rfl rfl ?_; intro hA)
  | (refine w_PopStep 1 2 hA ok rfl rfl ?_; intro hA)
  | (refine w_PopStep 2 3 hA ok rfl rfl ?_; intro hA)
  | (refine w_PopStep 3 4 hA ok rfl rfl ?_; intro hA)
  | (refine w_PopStep 4 5 hA ok rfl rfl ?_; intro hA)
  | (refine w_PopStep 5 6 hA ok rfl rfl ?_; intro hA)
  | (refine w_PushStep 0 1 hA ok rfl rfl ?_; intro hA)
  | (refine w_PushStep 1 2 hA ok rfl rfl ?_; intro hA)
  | (refine w_PushStep 2 3 hA ok rfl rfl ?_; intro hA)
  | (refine w_PushStep 3 4 hA ok rfl rfl ?_; intro hA)
  | (refine w_PushStep 4 5 hA ok rfl rfl ?_; intro hA)
  | (refine w_PushStep 5 6 hA ok rfl rfl ?_; intro hA)
  | refine wp_true (by assumption) ?_
  | refine wp_false (by assumption) ?_)
      refine w_NewFree (p := m.pl) (w := m.work) hA ok fun jf ok => ?_
      repeat (first
  | refine wp_nil.2 ?_
  | refine w_ld 0 hA ok rfl rfl rfl ?_
  | refine w_ld 1 hA ok rfl rfl rfl ?_
  | refine w_ld 2 hA ok rfl rfl rfl ?_
  | refine w_ld 3 hA ok rfl rfl rfl ?_
  | refine w_ld 4 hA ok rfl rfl rfl ?_
  | refine w_ld 5 hA ok rfl rfl rfl ?_
  | refine w_ld 6 hA ok rfl rfl rfl ?_
  | refine w_ld 7 hA ok rfl rfl rfl ?_
  | refine w_st 0 hA ok rfl rfl rfl rfl ?_
  | refine w_st 1 hA ok rfl rfl rfl rfl ?_
  | refine w_st 2 hA ok rfl rfl rfl rfl ?_
  | refine w_st 3 hA ok rfl rfl rfl rfl ?_
  | refine w_st 4 hA ok rfl rfl rfl rfl ?_
  | refine w_st 5 hA ok rfl rfl rfl rfl ?_
  | refine w_st 6 hA ok rfl rfl rfl rfl ?_
  | refine w_st 7 hA ok rfl rfl rfl rfl ?_
  | refine w_ldA 0 hA ok rfl rfl rfl ?_
  | refine w_ldA 1 hA ok rfl rfl rfl ?_
  | refine w_ldA 2 hA ok rfl rfl rfl ?_
  | refine w_ldA 3 hA ok rfl rfl rfl ?_
  | refine w_ldA 4 hA ok rfl rfl rfl ?_
  | refine w_ldA 5 hA ok rfl rfl rfl ?_
  | refine w_ldA 6 hA ok rfl rfl rfl ?_
  | refine w_ldA 7 hA ok rfl rfl rfl ?_
  | refine w_stA 0 hA ok rfl rfl rfl rfl ?_
  | refine w_stA 1 hA ok rfl rfl rfl rfl ?_
  | refine w_stA 2 hA ok rfl rfl rfl rfl ?_
  | refine w_stA 3 hA ok rfl rfl rfl rfl ?_
  | refine w_stA 4 hA ok rfl rfl rfl rfl ?_
  | refine w_stA 5 hA ok rfl rfl rfl rfl ?_
  | refine w_stA 6 hA ok rfl rfl rfl rfl ?_
  | refine w_stA 7 hA ok rfl rfl rfl rfl ?_
  | (refine w_Raw hA ?_; intro hA)
  | (refine w_SetRaw hA ?_; intro hA)
  | (refine w_SwapRaw hA ?_; intro hA)
  | (refine w_AddRaw hA ?_; intro hA)
  | (refine w_Load hA ?_; intro hA)
  | (refine w_Store hA ?_; intro hA)
  | (refine w_Retire hA ?_; intro hA)
  | (refine w_Died hA ?_; intro hA)
  | (refine w_Born hA ?_; intro hA)
  | refine w_State hA ?_
  | refine w_Uses hA ?_
  | refine w_Fault hA ?_
  | refine w_Words hA ?_
  | refine w_Count hA ?_
  | refine wq_Size ?_
  | refine wq_Open ?_
  | refine wq_Pack ?_
  | refine wq_head ?_
  | refine w_ck 0 hA ok rfl rfl rfl ?_
  | refine w_ck 1 hA ok rfl rfl rfl ?_
  | refine w_ck 2 hA ok rfl rfl rfl ?_
  | refine w_ck 3 hA ok rfl rfl rfl ?_
  | refine w_ck 4 hA ok rfl rfl rfl ?_
  | refine w_ck 5 hA ok rfl rfl rfl ?_
  | refine w_ck 6 hA ok rfl rfl rfl ?_
  | refine w_ck 7 hA ok rfl rfl rfl ?_
  | refine w_ckn rfl ?_
  | refine w_Base 0 1 hA ok rfl rfl ?_
  | refine w_Base 1 2 hA ok rfl rfl ?_
  | refine w_Base 2 3 hA ok rfl rfl ?_
  | refine w_Base 3 4 hA ok rfl rfl ?_
  | refine w_Base 4 5 hA ok rfl rfl ?_
  | refine w_Base 5 6 hA ok rfl rfl ?_
  | (refine w_PopStep 0 1 hA ok rfl rfl ?_; intro hA)
  | (refine w_PopStep 1 2 hA ok rfl rfl ?_; intro hA)
  | (refine w_PopStep 2 3 hA ok rfl rfl ?_; intro hA)
  | (refine w_PopStep 3 4 hA ok rfl rfl ?_; intro hA)
  | (refine w_PopStep 4 5 hA ok rfl rfl ?_; intro hA)
  | (refine w_PopStep 5 6 hA ok rfl rfl ?_; intro hA)
  | (refine w_PushStep 0 1 hA ok rfl rfl ?_; intro hA)
  | (refine w_PushStep 1 2 hA ok rfl rfl ?_; intro hA)
  | (refine w_PushStep 2 3 hA ok rfl rfl ?_; intro hA)
  | (refine w_PushStep 3 4 hA ok rfl rfl ?_; intro hA)
  | (refine w_PushStep 4 5 hA ok rfl rfl ?_; intro hA)
  | (refine w_PushStep 5 6 hA ok rfl rfl ?_; intro hA)
  | refine wp_true (by assumption) ?_
  | refine wp_false (by assumption) ?_)
      refine w_newS hA ok fun g ok => ?_
      repeat (first
  | refine wp_nil.2 ?_
  | refine w_ld 0 hA ok rfl rfl rfl ?_
  | refine w_ld 1 hA ok rfl rfl rfl ?_
  | refine w_ld 2 hA ok rfl rfl rfl ?_
  | refine w_ld 3 hA ok rfl rfl rfl ?_
  | refine w_ld 4 hA ok rfl rfl rfl ?_
  | refine w_ld 5 hA ok rfl rfl rfl ?_
  | refine w_ld 6 hA ok rfl rfl rfl ?_
  | refine w_ld 7 hA ok rfl rfl rfl ?_
  | refine w_st 0 hA ok rfl rfl rfl rfl ?_
  | refine w_st 1 hA ok rfl rfl rfl rfl ?_
  | refine w_st 2 hA ok rfl rfl rfl rfl ?_
  | refine w_st 3 hA ok rfl rfl rfl rfl ?_
  | refine w_st 4 hA ok rfl rfl rfl rfl ?_
  | refine w_st 5 hA ok rfl rfl rfl rfl ?_
  | refine w_st 6 hA ok rfl rfl rfl rfl ?_
  | refine w_st 7 hA ok rfl rfl rfl rfl ?_
  | refine w_ldA 0 hA ok rfl rfl rfl ?_
  | refine w_ldA 1 hA ok rfl rfl rfl ?_
  | refine w_ldA 2 hA ok rfl rfl rfl ?_
  | refine w_ldA 3 hA ok rfl rfl rfl ?_
  | refine w_ldA 4 hA ok rfl rfl rfl ?_
  | refine w_ldA 5 hA ok rfl rfl rfl ?_
  | refine w_ldA 6 hA ok rfl rfl rfl ?_
  | refine w_ldA 7 hA ok rfl rfl rfl ?_
  | refine w_stA 0 hA ok rfl rfl rfl rfl ?_
  | refine w_stA 1 hA ok rfl rfl rfl rfl ?_
  | refine w_stA 2 hA ok rfl rfl rfl rfl ?_
  | refine w_stA 3 hA ok rfl rfl rfl rfl ?_
  | refine w_stA 4 hA ok rfl rfl rfl rfl ?_
  | refine w_stA 5 hA ok rfl rfl rfl rfl ?_
  | refine w_stA 6 hA ok rfl rfl rfl rfl ?_
  | refine w_stA 7 hA ok rfl rfl rfl rfl ?_
  | (refine w_Raw hA ?_; intro hA)
  | (refine w_SetRaw hA ?_; intro hA)
  | (refine w_SwapRaw hA ?_; intro hA)
  | (refine w_AddRaw hA ?_; intro hA)
  | (refine w_Load hA ?_; intro hA)
  | (refine w_Store hA ?_; intro hA)
  | (refine w_Retire hA ?_; intro hA)
  | (refine w_Died hA ?_; intro hA)
  | (refine w_Born hA ?_; intro hA)
  | refine w_State hA ?_
  | refine w_Uses hA ?_
  | refine w_Fault hA ?_
  | refine w_Words hA ?_
  | refine w_Count hA ?_
  | refine wq_Size ?_
  | refine wq_Open ?_
  | refine wq_Pack ?_
  | refine wq_head ?_
  | refine w_ck 0 hA ok rfl rfl rfl ?_
  | refine w_ck 1 hA ok rfl rfl rfl ?_
  | refine w_ck 2 hA ok rfl rfl rfl ?_
  | refine w_ck 3 hA ok rfl rfl rfl ?_
  | refine w_ck 4 hA ok rfl rfl rfl ?_
  | refine w_ck 5 hA ok rfl rfl rfl ?_
  | refine w_ck 6 hA ok rfl rfl rfl ?_
  | refine w_ck 7 hA ok rfl rfl rfl ?_
  | refine w_ckn rfl ?_
  | refine w_Base 0 1 hA ok rfl rfl ?_
  | refine w_Base 1 2 hA ok rfl rfl ?_
  | refine w_Base 2 3 hA ok rfl rfl ?_
  | refine w_Base 3 4 hA ok rfl rfl ?_
  | refine w_Base 4 5 hA ok rfl rfl ?_
  | refine w_Base 5 6 hA ok rfl rfl ?_
  | (refine w_PopStep 0 1 hA ok rfl rfl ?_; intro hA)
  | (refine w_PopStep 1 2 hA ok rfl rfl ?_; intro hA)
  | (refine w_PopStep 2 3 hA ok rfl rfl ?_; intro hA)
  | (refine w_PopStep 3 4 hA ok rfl rfl ?_; intro hA)
  | (refine w_PopStep 4 5 hA ok rfl rfl ?_; intro hA)
  | (refine w_PopStep 5 6 hA ok rfl rfl ?_; intro hA)
  | (refine w_PushStep 0 1 hA ok rfl rfl ?_; intro hA)
  | (refine w_PushStep 1 2 hA ok rfl rfl ?_; intro hA)
  | (refine w_PushStep 2 3 hA ok rfl rfl ?_; intro hA)
  | (refine w_PushStep 3 4 hA ok rfl rfl ?_; intro hA)
  | (refine w_PushStep 4 5 hA ok rfl rfl ?_; intro hA)
  | (refine w_PushStep 5 6 hA ok rfl rfl ?_; intro hA)
  | refine wp_true (by assumption) ?_
  | refine wp_false (by assumption) ?_)
      obtain ⟨p1, ok2⟩ := own_perm (A := A) (l' := (j1.q, oc ty_hazard_Scan ((m.upto i.toNat).cells j1)) :: (j1.mq, mapObj Value.bool (m.upto i.toNat).seen) :: (fbl (m.upto i.toNat).frees j1.fj ++ ((newFe m.pl m.work h).bl jf ++ j1.tls)) ++ (((g, oc ty_p_slab_Free [.pointer (some ⟨jf.1, 0, none⟩)]) :: j1.tfs) ++ j1.tds)) ok (perm_by fun c d c0 cd ca => by simp only [cd, ca, c0]; omega)
      rw [p1]
      have ok := ok2
      refine w_appM (E := eP) elF _ (xs := j1.fj.map (·.1)) (ys := [jf.1]) (t := ⟨some ⟨g, 0, none⟩, 1, 1⟩) hA ok (hfs.mono fun p hp => List.mem_cons_of_mem _ hp) ?_ rfl (by simp only [List.length_cons, List.length_nil, List.length_map]; omega) fun s' mid' hs' ok => ?_
      · exact cell_row (c := [.pointer (some ⟨jf.1, 0, none⟩)]) hA ok (List.mem_append_right _ (List.mem_append_left _ List.mem_cons_self)) 0 rfl
      repeat (first
  | refine wp_nil.2 ?_
  | refine w_ld 0 hA ok rfl rfl rfl ?_
  | refine w_ld 1 hA ok rfl rfl rfl ?_
  | refine w_ld 2 hA ok rfl rfl rfl ?_
  | refine w_ld 3 hA ok rfl rfl rfl ?_
  | refine w_ld 4 hA ok rfl rfl rfl ?_
  | refine w_ld 5 hA ok rfl rfl rfl ?_
  | refine w_ld 6 hA ok rfl rfl rfl ?_
  | refine w_ld 7 hA ok rfl rfl rfl ?_
  | refine w_st 0 hA ok rfl rfl rfl rfl ?_
  | refine w_st 1 hA ok rfl rfl rfl rfl ?_
  | refine w_st 2 hA ok rfl rfl rfl rfl ?_
  | refine w_st 3 hA ok rfl rfl rfl rfl ?_
  | refine w_st 4 hA ok rfl rfl rfl rfl ?_
  | refine w_st 5 hA ok rfl rfl rfl rfl ?_
  | refine w_st 6 hA ok rfl rfl rfl rfl ?_
  | refine w_st 7 hA ok rfl rfl rfl rfl ?_
  | refine w_ldA 0 hA ok rfl rfl rfl ?_
  | refine w_ldA 1 hA ok rfl rfl rfl ?_
  | refine w_ldA 2 hA ok rfl rfl rfl ?_
  | refine w_ldA 3 hA ok rfl rfl rfl ?_
  | refine w_ldA 4 hA ok rfl rfl rfl ?_
  | refine w_ldA 5 hA ok rfl rfl rfl ?_
  | refine w_ldA 6 hA ok rfl rfl rfl ?_
  | refine w_ldA 7 hA ok rfl rfl rfl ?_
  | refine w_stA 0 hA ok rfl rfl rfl rfl ?_
  | refine w_stA 1 hA ok rfl rfl rfl rfl ?_
  | refine w_stA 2 hA ok rfl rfl rfl rfl ?_
  | refine w_stA 3 hA ok rfl rfl rfl rfl ?_
  | refine w_stA 4 hA ok rfl rfl rfl rfl ?_
  | refine w_stA 5 hA ok rfl rfl rfl rfl ?_
  | refine w_stA 6 hA ok rfl rfl rfl rfl ?_
  | refine w_stA 7 hA ok rfl rfl rfl rfl ?_
  | (refine w_Raw hA ?_; intro hA)
  | (refine w_SetRaw hA ?_; intro hA)
  | (refine w_SwapRaw hA ?_; intro hA)
  | (refine w_AddRaw hA ?_; intro hA)
  | (refine w_Load hA ?_; intro hA)
  | (refine w_Store hA ?_; intro hA)
  | (refine w_Retire hA ?_; intro hA)
  | (refine w_Died hA ?_; intro hA)
  | (refine w_Born hA ?_; intro hA)
  | refine w_State hA ?_
  | refine w_Uses hA ?_
  | refine w_Fault hA ?_
  | refine w_Words hA ?_
  | refine w_Count hA ?_
  | refine wq_Size ?_
  | refine wq_Open ?_
  | refine wq_Pack ?_
  | refine wq_head ?_
  | refine w_ck 0 hA ok rfl rfl rfl ?_
  | refine w_ck 1 hA ok rfl rfl rfl ?_
  | refine w_ck 2 hA ok rfl rfl rfl ?_
  | refine w_ck 3 hA ok rfl rfl rfl ?_
  | refine w_ck 4 hA ok rfl rfl rfl ?_
  | refine w_ck 5 hA ok rfl rfl rfl ?_
  | refine w_ck 6 hA ok rfl rfl rfl ?_
  | refine w_ck 7 hA ok rfl rfl rfl ?_
  | refine w_ckn rfl ?_
  | refine w_Base 0 1 hA ok rfl rfl ?_
  | refine w_Base 1 2 hA ok rfl rfl ?_
  | refine w_Base 2 3 hA ok rfl rfl ?_
  | refine w_Base 3 4 hA ok rfl rfl ?_
  | refine w_Base 4 5 hA ok rfl rfl ?_
  | refine w_Base 5 6 hA ok rfl rfl ?_
  | (refine w_PopStep 0 1 hA ok rfl rfl ?_; intro hA)
  | (refine w_PopStep 1 2 hA ok rfl rfl ?_; intro hA)
  | (refine w_PopStep 2 3 hA ok rfl rfl ?_; intro hA)
  | (refine w_PopStep 3 4 hA ok rfl rfl ?_; intro hA)
  | (refine w_PopStep 4 5 hA ok rfl rfl ?_; intro hA)
  | (refine w_PopStep 5 6 hA ok rfl rfl ?_; intro hA)
  | (refine w_PushStep 0 1 hA ok rfl rfl ?_; intro hA)
  | (refine w_PushStep 1 2 hA ok rfl rfl ?_; intro hA)
  | (refine w_PushStep 2 3 hA ok rfl rfl ?_; intro hA)
  | (refine w_PushStep 3 4 hA ok rfl rfl ?_; intro hA)
  | (refine w_PushStep 4 5 hA ok rfl rfl ?_; intro hA)
  | (refine w_PushStep 5 6 hA ok rfl rfl ?_; intro hA)
  | refine wp_true (by assumption) ?_
  | refine wp_false (by assumption) ?_)
      have hp : ((j1.q, oc ty_hazard_Scan ((m.upto (i.toNat + 1)).cells { j1 with fs := s', tfs := mid', fj := j1.fj ++ [jf] })) :: (j1.mq, mapObj Value.bool (m.upto (i.toNat + 1)).seen) :: (fbl (m.upto i.toNat).frees j1.fj ++ ((newFe m.pl m.work h).bl jf ++ j1.tls)) ++ (mid' ++ j1.tds)).Perm ((m.upto (i.toNat + 1)).bl { j1 with fs := s', tfs := mid', fj := j1.fj ++ [jf] }) := by
        rw [Sc.bl_u (m := m.upto (i.toNat + 1)) _ hs, ff]
        dsimp only
        rw [fbl_snoc hfl]
        exact (perm_by fun c d c0 cd ca => by simp only [cd, ca, c0]; omega)
      refine wp_again ⟨i + 1, by rw [e1], ⟨{ j1 with fs := s', tfs := mid', fj := j1.fj ++ [jf] }, by omega, by omega, ?_, ?_, rfl, eM, rfl, hls, ?_, ?_, ?_⟩, by omega⟩
      · rw [e2]; exact (own_perm2 (A := A) hp ok).1
      · rw [e2]; exact (own_perm2 (A := A) hp ok).2
      · rw [List.map_append]; exact hs'
      · rw [e2, fl]; exact hds
      · rw [e2, ff, List.length_append, List.length_append, hfl]; rfl
  · refine wp_false (decide_eq_false (by show ¬ i < ((j1.ls.len : Nat) : Int); rw [hlen]; exact hi)) ?_
    have ei : i.toNat = m.l.length := by omega
    rw [ei] at hds hfl ok ⊢
    repeat (first
  | refine wp_nil.2 ?_
  | refine w_ld 0 hA ok rfl rfl rfl ?_
  | refine w_ld 1 hA ok rfl rfl rfl ?_
  | refine w_ld 2 hA ok rfl rfl rfl ?_
  | refine w_ld 3 hA ok rfl rfl rfl ?_
  | refine w_ld 4 hA ok rfl rfl rfl ?_
  | refine w_ld 5 hA ok rfl rfl rfl ?_
  | refine w_ld 6 hA ok rfl rfl rfl ?_
  | refine w_ld 7 hA ok rfl rfl rfl ?_
  | refine w_st 0 hA ok rfl rfl rfl rfl ?_
  | refine w_st 1 hA ok rfl rfl rfl rfl ?_
  | refine w_st 2 hA ok rfl rfl rfl rfl ?_
  | refine w_st 3 hA ok rfl rfl rfl rfl ?_
  | refine w_st 4 hA ok rfl rfl rfl rfl ?_
  | refine w_st 5 hA ok rfl rfl rfl rfl ?_
  | refine w_st 6 hA ok rfl rfl rfl rfl ?_
  | refine w_st 7 hA ok rfl rfl rfl rfl ?_
  | refine w_ldA 0 hA ok rfl rfl rfl ?_
  | refine w_ldA 1 hA ok rfl rfl rfl ?_
  | refine w_ldA 2 hA ok rfl rfl rfl ?_
  | refine w_ldA 3 hA ok rfl rfl rfl ?_
  | refine w_ldA 4 hA ok rfl rfl rfl ?_
  | refine w_ldA 5 hA ok rfl rfl rfl ?_
  | refine w_ldA 6 hA ok rfl rfl rfl ?_
  | refine w_ldA 7 hA ok rfl rfl rfl ?_
  | refine w_stA 0 hA ok rfl rfl rfl rfl ?_
  | refine w_stA 1 hA ok rfl rfl rfl rfl ?_
  | refine w_stA 2 hA ok rfl rfl rfl rfl ?_
  | refine w_stA 3 hA ok rfl rfl rfl rfl ?_
  | refine w_stA 4 hA ok rfl rfl rfl rfl ?_
  | refine w_stA 5 hA ok rfl rfl rfl rfl ?_
  | refine w_stA 6 hA ok rfl rfl rfl rfl ?_
  | refine w_stA 7 hA ok rfl rfl rfl rfl ?_
  | (refine w_Raw hA ?_; intro hA)
  | (refine w_SetRaw hA ?_; intro hA)
  | (refine w_SwapRaw hA ?_; intro hA)
  | (refine w_AddRaw hA ?_; intro hA)
  | (refine w_Load hA ?_; intro hA)
  | (refine w_Store hA ?_; intro hA)
  | (refine w_Retire hA ?_; intro hA)
  | (refine w_Died hA ?_; intro hA)
  | (refine w_Born hA ?_; intro hA)
  | refine w_State hA ?_
  | refine w_Uses hA ?_
  | refine w_Fault hA ?_
  | refine w_Words hA ?_
  | refine w_Count hA ?_
  | refine wq_Size ?_
  | refine wq_Open ?_
  | refine wq_Pack ?_
  | refine wq_head ?_
  | refine w_ck 0 hA ok rfl rfl rfl ?_
  | refine w_ck 1 hA ok rfl rfl rfl ?_
  | refine w_ck 2 hA ok rfl rfl rfl ?_
  | refine w_ck 3 hA ok rfl rfl rfl ?_
  | refine w_ck 4 hA ok rfl rfl rfl ?_
  | refine w_ck 5 hA ok rfl rfl rfl ?_
  | refine w_ck 6 hA ok rfl rfl rfl ?_
  | refine w_ck 7 hA ok rfl rfl rfl ?_
  | refine w_ckn rfl ?_
  | refine w_Base 0 1 hA ok rfl rfl ?_
  | refine w_Base 1 2 hA ok rfl rfl ?_
  | refine w_Base 2 3 hA ok rfl rfl ?_
  | refine w_Base 3 4 hA ok rfl rfl ?_
  | refine w_Base 4 5 hA ok rfl rfl ?_
  | refine w_Base 5 6 hA ok rfl rfl ?_
  | (refine w_PopStep 0 1 hA ok rfl rfl ?_; intro hA)
  | (refine w_PopStep 1 2 hA ok rfl rfl ?_; intro hA)
  | (refine w_PopStep 2 3 hA ok rfl rfl ?_; intro hA)
  | (refine w_PopStep 3 4 hA ok rfl rfl ?_; intro hA)
  | (refine w_PopStep 4 5 hA ok rfl rfl ?_; intro hA)
  | (refine w_PopStep 5 6 hA ok rfl rfl ?_; intro hA)
  | (refine w_PushStep 0 1 hA ok rfl rfl ?_; intro hA)
  | (refine w_PushStep 1 2 hA ok rfl rfl ?_; intro hA)
  | (refine w_PushStep 2 3 hA ok rfl rfl ?_; intro hA)
  | (refine w_PushStep 3 4 hA ok rfl rfl ?_; intro hA)
  | (refine w_PushStep 4 5 hA ok rfl rfl ?_; intro hA)
  | (refine w_PushStep 5 6 hA ok rfl rfl ?_; intro hA)
  | refine wp_true (by assumption) ?_
  | refine wp_false (by assumption) ?_)
    refine w_clear 1 (es := (mapEs Value.bool m.seen 0).toArray) hA ok rfl rfl ?_
    repeat (first
  | refine wp_nil.2 ?_
  | refine w_ld 0 hA ok rfl rfl rfl ?_
  | refine w_ld 1 hA ok rfl rfl rfl ?_
  | refine w_ld 2 hA ok rfl rfl rfl ?_
  | refine w_ld 3 hA ok rfl rfl rfl ?_
  | refine w_ld 4 hA ok rfl rfl rfl ?_
  | refine w_ld 5 hA ok rfl rfl rfl ?_
  | refine w_ld 6 hA ok rfl rfl rfl ?_
  | refine w_ld 7 hA ok rfl rfl rfl ?_
  | refine w_st 0 hA ok rfl rfl rfl rfl ?_
  | refine w_st 1 hA ok rfl rfl rfl rfl ?_
  | refine w_st 2 hA ok rfl rfl rfl rfl ?_
  | refine w_st 3 hA ok rfl rfl rfl rfl ?_
  | refine w_st 4 hA ok rfl rfl rfl rfl ?_
  | refine w_st 5 hA ok rfl rfl rfl rfl ?_
  | refine w_st 6 hA ok rfl rfl rfl rfl ?_
  | refine w_st 7 hA ok rfl rfl rfl rfl ?_
  | refine w_ldA 0 hA ok rfl rfl rfl ?_
  | refine w_ldA 1 hA ok rfl rfl rfl ?_
  | refine w_ldA 2 hA ok rfl rfl rfl ?_
  | refine w_ldA 3 hA ok rfl rfl rfl ?_
  | refine w_ldA 4 hA ok rfl rfl rfl ?_
  | refine w_ldA 5 hA ok rfl rfl rfl ?_
  | refine w_ldA 6 hA ok rfl rfl rfl ?_
  | refine w_ldA 7 hA ok rfl rfl rfl ?_
  | refine w_stA 0 hA ok rfl rfl rfl rfl ?_
  | refine w_stA 1 hA ok rfl rfl rfl rfl ?_
  | refine w_stA 2 hA ok rfl rfl rfl rfl ?_
  | refine w_stA 3 hA ok rfl rfl rfl rfl ?_
  | refine w_stA 4 hA ok rfl rfl rfl rfl ?_
  | refine w_stA 5 hA ok rfl rfl rfl rfl ?_
  | refine w_stA 6 hA ok rfl rfl rfl rfl ?_
  | refine w_stA 7 hA ok rfl rfl rfl rfl ?_
  | (refine w_Raw hA ?_; intro hA)
  | (refine w_SetRaw hA ?_; intro hA)
  | (refine w_SwapRaw hA ?_; intro hA)
  | (refine w_AddRaw hA ?_; intro hA)
  | (refine w_Load hA ?_; intro hA)
  | (refine w_Store hA ?_; intro hA)
  | (refine w_Retire hA ?_; intro hA)
  | (refine w_Died hA ?_; intro hA)
  | (refine w_Born hA ?_; intro hA)
  | refine w_State hA ?_
  | refine w_Uses hA ?_
  | refine w_Fault hA ?_
  | refine w_Words hA ?_
  | refine w_Count hA ?_
  | refine wq_Size ?_
  | refine wq_Open ?_
  | refine wq_Pack ?_
  | refine wq_head ?_
  | refine w_ck 0 hA ok rfl rfl rfl ?_
  | refine w_ck 1 hA ok rfl rfl rfl ?_
  | refine w_ck 2 hA ok rfl rfl rfl ?_
  | refine w_ck 3 hA ok rfl rfl rfl ?_
  | refine w_ck 4 hA ok rfl rfl rfl ?_
  | refine w_ck 5 hA ok rfl rfl rfl ?_
  | refine w_ck 6 hA ok rfl rfl rfl ?_
  | refine w_ck 7 hA ok rfl rfl rfl ?_
  | refine w_ckn rfl ?_
  | refine w_Base 0 1 hA ok rfl rfl ?_
  | refine w_Base 1 2 hA ok rfl rfl ?_
  | refine w_Base 2 3 hA ok rfl rfl ?_
  | refine w_Base 3 4 hA ok rfl rfl ?_
  | refine w_Base 4 5 hA ok rfl rfl ?_
  | refine w_Base 5 6 hA ok rfl rfl ?_
  | (refine w_PopStep 0 1 hA ok rfl rfl ?_; intro hA)
  | (refine w_PopStep 1 2 hA ok rfl rfl ?_; intro hA)
  | (refine w_PopStep 2 3 hA ok rfl rfl ?_; intro hA)
  | (refine w_PopStep 3 4 hA ok rfl rfl ?_; intro hA)
  | (refine w_PopStep 4 5 hA ok rfl rfl ?_; intro hA)
  | (refine w_PopStep 5 6 hA ok rfl rfl ?_; intro hA)
  | (refine w_PushStep 0 1 hA ok rfl rfl ?_; intro hA)
  | (refine w_PushStep 1 2 hA ok rfl rfl ?_; intro hA)
  | (refine w_PushStep 2 3 hA ok rfl rfl ?_; intro hA)
  | (refine w_PushStep 3 4 hA ok rfl rfl ?_; intro hA)
  | (refine w_PushStep 4 5 hA ok rfl rfl ?_; intro hA)
  | (refine w_PushStep 5 6 hA ok rfl rfl ?_; intro hA)
  | refine wp_true (by assumption) ?_
  | refine wp_false (by assumption) ?_)
    have hfl2 := hfs.len
    rw [List.length_map, ← hfl] at hfl2
    have hE : scC m.tw m.ta m.pl m.work m.word j1.ls j1.mq j1.fs j1.ds (((j1.fs.len : Nat) : Int) == 0) = m.sort.cells j1 := by
      show _ = scC m.tw m.ta m.pl m.work m.word j1.ls j1.mq j1.fs j1.ds (decide ((m.upto m.l.length).frees = []))
      congr 1
      rw [hfl2]
      cases (m.upto m.l.length).frees <;> simp
      omega
    have key : ∀ L, wp Try.prog (.ret (.tuple #[])) L (own A ((j1.q, oc ty_hazard_Scan (m.sort.cells j1)) :: (j1.mq, .map #[] m.seen.length) :: (fbl m.sort.frees j1.fj ++ (j1.tls ++ (j1.tfs ++ j1.tds)))) G) fun v K => ∃ j', v = .tuple #[] ∧ K = own A (m.sort.bl j') G ∧ j'.q = j1.q ∧ Ok I G (keys (m.sort.bl j')) ∧ m.sort.rep j' := by
      intro L
      have ok3 : Ok I G (keys ((j1.q, oc ty_hazard_Scan (m.sort.cells j1)) :: (j1.mq, .map #[] m.seen.length) :: (fbl m.sort.frees j1.fj ++ (j1.tls ++ (j1.tfs ++ j1.tds))))) := ok
      have nd := ok3.nd
      have e3 : m.sort.bl j1 = (j1.q, oc ty_hazard_Scan (m.sort.cells j1)) :: (fbl m.sort.frees j1.fj ++ (j1.tls ++ (j1.tfs ++ j1.tds))) := Sc.bl_s j1 rfl
      have ok4 : Ok I G (keys (m.sort.bl j1)) := by
        rw [e3]
        refine ok3.sub ?_ fun b hb => ?_
        · simp only [keys, List.map_cons, List.nodup_cons, List.mem_cons, not_or] at nd ⊢
          exact ⟨nd.1.2, nd.2.2⟩
        · simp only [keys, List.map_cons, List.mem_cons] at hb ⊢
          rcases hb with h | h
          · exact .inl h
          · exact .inr (.inr h)
      refine ⟨own A (m.sort.bl j1) G, own_sub ok3 ok4.nd fun p hp => ?_, j1, rfl, rfl, rfl, ok4, ⟨hls, hfs.at', hds, hfl, fun h => by cases h⟩⟩
      rw [e3] at hp
      rcases List.mem_cons.1 hp with h | h
      · rw [h]; exact List.mem_cons_self
      · exact List.mem_cons_of_mem _ (List.mem_cons_of_mem _ h)
    rw [← hE] at key
    exact key _
end
end Go.Proofs.Ytcjhakdopnamoaa

set_option linter.unusedVariables false
set_option maxRecDepth 10000
namespace Go.Proofs.Ytcjhakdopnamoaa
open Go Go.Fw
/- magpie/epoch.Raw -/
noncomputable def t_epoch_Raw (p0 : Int) (p1 : Int) : Tree :=
  .newP (.cells #[(.int .i64 0), (.int .i64 0)] ty_epoch_Table) fun x4 =>
  .stA x4 [(.int .i64 p0), (.int .i64 p1)] <|
  .look (ldK x4 2 0 #[] fun r0 => .pure (.value (.tuple #[(.agg r0), (.int .i64 (w64 (1 + (imax p0 0))))]))) (.tup [(.agg [(.int .i64), (.int .i64)]), (.leaf (.int .i64))]) fun r => .ret (Sh.toVal (.tup [(.agg [(.int .i64), (.int .i64)]), (.leaf (.int .i64))]) r)
theorem t_epoch_Raw_eq (p0 : Int) (p1 : Int) : funcTree Try.prog { quiet := [16, 34, 36, 40, 41, 66, 67, 75, 76, 77, 97, 98, 103, 108, 110, 139, 146, 149, 161], quietTmp := false, fncs := [], ifcs := [] } Try.f110 [(.int .i64 p0), (.int .i64 p1)] = t_epoch_Raw p0 p1 := by kernel_rfl
theorem t_epoch_Raw_spec {p0 : Int} {p1 : Int} {H : Heap} {R : Value → Heap → Prop} (h : ∀ L, wp Try.prog (t_epoch_Raw p0 p1) L H R) : SpecF Try.prog f_epoch_Raw #[(.int .i64 p0), (.int .i64 p1)] H R :=
  spec_of_tree (cfg := { quiet := [16, 34, 36, 40, 41, 66, 67, 75, 76, 77, 97, 98, 103, 108, 110, 139, 146, 149, 161], quietTmp := false, fncs := [], ifcs := [] }) Try.func110 fun L => (t_epoch_Raw_eq p0 p1).symm ▸ h L

/- (magpie/epoch.Table).Word -/
noncomputable def t_epoch_Table_Word (p0_0 : Int) (p0_1 : Int) (p1 : Int) : Tree :=
  .newP (.cells #[(.int .i64 p0_0), (.int .i64 p0_1)] ty_epoch_Table) fun x2 =>
  .ld (x2.add 1) (.int .i64) fun x6 =>
  .ret (.int .i64 (w64 ((w64 (x6 + 1)) + p1)))
theorem t_epoch_Table_Word_eq (p0_0 : Int) (p0_1 : Int) (p1 : Int) : funcTree Try.prog { quiet := [16, 34, 36, 40, 41, 66, 67, 75, 76, 77, 97, 98, 103, 108, 110, 139, 146, 149, 161], quietTmp := false, fncs := [], ifcs := [] } Try.f67 [(.agg #[(.int .i64 p0_0), (.int .i64 p0_1)]), (.int .i64 p1)] = t_epoch_Table_Word p0_0 p0_1 p1 := by kernel_rfl
theorem t_epoch_Table_Word_spec {p0_0 : Int} {p0_1 : Int} {p1 : Int} {H : Heap} {R : Value → Heap → Prop} (h : ∀ L, wp Try.prog (t_epoch_Table_Word p0_0 p0_1 p1) L H R) : SpecF Try.prog f_epoch_Table_Word #[(.agg #[(.int .i64 p0_0), (.int .i64 p0_1)]), (.int .i64 p1)] H R :=
  spec_of_tree (cfg := { quiet := [16, 34, 36, 40, 41, 66, 67, 75, 76, 77, 97, 98, 103, 108, 110, 139, 146, 149, 161], quietTmp := false, fncs := [], ifcs := [] }) Try.func67 fun L => (t_epoch_Table_Word_eq p0_0 p0_1 p1).symm ▸ h L

/- (magpie/epoch.Table).Global -/
noncomputable def t_epoch_Table_Global (p0_0 : Int) (p0_1 : Int) : Tree :=
  .newP (.cells #[(.int .i64 p0_0), (.int .i64 p0_1)] ty_epoch_Table) fun x1 =>
  .ld (x1.add 1) (.int .i64) fun x4 =>
  .ret (.int .i64 x4)
theorem t_epoch_Table_Global_eq (p0_0 : Int) (p0_1 : Int) : funcTree Try.prog { quiet := [16, 34, 36, 40, 41, 66, 67, 75, 76, 77, 97, 98, 103, 108, 110, 139, 146, 149, 161], quietTmp := false, fncs := [], ifcs := [] } Try.f108 [(.agg #[(.int .i64 p0_0), (.int .i64 p0_1)])] = t_epoch_Table_Global p0_0 p0_1 := by kernel_rfl
theorem t_epoch_Table_Global_spec {p0_0 : Int} {p0_1 : Int} {H : Heap} {R : Value → Heap → Prop} (h : ∀ L, wp Try.prog (t_epoch_Table_Global p0_0 p0_1) L H R) : SpecF Try.prog f_epoch_Table_Global #[(.agg #[(.int .i64 p0_0), (.int .i64 p0_1)])] H R :=
  spec_of_tree (cfg := { quiet := [16, 34, 36, 40, 41, 66, 67, 75, 76, 77, 97, 98, 103, 108, 110, 139, 146, 149, 161], quietTmp := false, fncs := [], ifcs := [] }) Try.func108 fun L => (t_epoch_Table_Global_eq p0_0 p0_1).symm ▸ h L

/- magpie/epoch.NewTurn -/
noncomputable def t_epoch_NewTurn (p0_0 : Int) (p0_1 : Int) (p1_0 : Int) (p1_1 : Int) (p1_2 : Int) (p1_3 : Int) (p1_4 : Int) (p2 : Int) (p3 : Sl) : Tree :=
  .newP (.cells #[(.int .i64 p0_0), (.int .i64 p0_1)] ty_epoch_Table) fun x4 =>
  .newP (.cells #[(.int .i64 p1_0), (.int .i64 p1_1), (.int .i64 p1_2), (.int .i64 p1_3), (.int .i64 p1_4)] ty_free_Place) fun x5 =>
  .ldA x4 [(.int .i64), (.int .i64)] fun x10 =>
  .ldA x5 [(.int .i64), (.int .i64), (.int .i64), (.int .i64), (.int .i64)] fun x11 =>
  .newP (.cells #[(.int .i64 x10.1), (.int .i64 x10.2.1), (.int .i64 x11.1), (.int .i64 x11.2.1), (.int .i64 x11.2.2.1), (.int .i64 x11.2.2.2.1), (.int .i64 x11.2.2.2.2.1), (.int .i64 p2), (.int .i64 0), (.int .i64 0), (.slice none 0 0), (.slice none 0 0), (.slice none 0 0), .nilFunc] ty_epoch_Turn) fun x14 =>
  .look (opS Try.prog (.nilCheck (.tmp 0)) ty_unit [(.pointer (some x14))]) (.one (.leaf .addr)) fun x17 =>
  .ld (x17.add 10) .slice fun x19 =>
  .act (opS Try.prog (.call { callee := .builtin .append, args := #[(.tmp 0), (.tmp 1)], argTypes := #[ty_s_epoch_Limbo, ty_s_epoch_Limbo] }) ty_s_epoch_Limbo [(.slice x19.a x19.len x19.cap), (.slice p3.a p3.len p3.cap)]) (.one (.leaf .slice)) fun x21 =>
  .look (opS Try.prog (.nilCheck (.tmp 0)) ty_unit [(.pointer (some x14))]) (.one (.leaf .addr)) fun x22 =>
  .st (x22.add 10) (.slice x21.a x21.len x21.cap) <|
  .look (opS Try.prog (.nilCheck (.tmp 0)) ty_unit [(.pointer (some x14))]) (.one (.leaf .addr)) fun x27 =>
  .st (x27.add 13) (.func (.func f_epoch_Turn_global) #[(.pointer (some x14))] #[]) <|
  .ret (.pointer (some x14))
theorem t_epoch_NewTurn_eq (p0_0 : Int) (p0_1 : Int) (p1_0 : Int) (p1_1 : Int) (p1_2 : Int) (p1_3 : Int) (p1_4 : Int) (p2 : Int) (p3 : Sl) : funcTree Try.prog { quiet := [16, 34, 36, 40, 41, 66, 67, 75, 76, 77, 97, 98, 103, 108, 110, 139, 146, 149, 161], quietTmp := false, fncs := [], ifcs := [] } Try.f93 [(.agg #[(.int .i64 p0_0), (.int .i64 p0_1)]), (.agg #[(.int .i64 p1_0), (.int .i64 p1_1), (.int .i64 p1_2), (.int .i64 p1_3), (.int .i64 p1_4)]), (.int .i64 p2), (.slice p3.a p3.len p3.cap)] = t_epoch_NewTurn p0_0 p0_1 p1_0 p1_1 p1_2 p1_3 p1_4 p2 p3 := by kernel_rfl
theorem t_epoch_NewTurn_spec {p0_0 : Int} {p0_1 : Int} {p1_0 : Int} {p1_1 : Int} {p1_2 : Int} {p1_3 : Int} {p1_4 : Int} {p2 : Int} {p3 : Sl} {H : Heap} {R : Value → Heap → Prop} (h : ∀ L, wp Try.prog (t_epoch_NewTurn p0_0 p0_1 p1_0 p1_1 p1_2 p1_3 p1_4 p2 p3) L H R) : SpecF Try.prog f_epoch_NewTurn #[(.agg #[(.int .i64 p0_0), (.int .i64 p0_1)]), (.agg #[(.int .i64 p1_0), (.int .i64 p1_1), (.int .i64 p1_2), (.int .i64 p1_3), (.int .i64 p1_4)]), (.int .i64 p2), (.slice p3.a p3.len p3.cap)] H R :=
  spec_of_tree (cfg := { quiet := [16, 34, 36, 40, 41, 66, 67, 75, 76, 77, 97, 98, 103, 108, 110, 139, 146, 149, 161], quietTmp := false, fncs := [], ifcs := [] }) Try.func93 fun L => (t_epoch_NewTurn_eq p0_0 p0_1 p1_0 p1_1 p1_2 p1_3 p1_4 p2 p3).symm ▸ h L

/- (*magpie/epoch.Turn).global -/
noncomputable def t_epoch_Turn_global (p0 : Option Addr) (p1 : Option Addr) : Tree :=
  .look (opS Try.prog (.nilCheck (.tmp 0)) ty_unit [(.pointer p0)]) (.one (.leaf .addr)) fun x7 =>
  .ldA x7 [(.int .i64), (.int .i64)] fun x9 =>
  .qcall f_epoch_Table_Global [(.agg #[(.int .i64 x9.1), (.int .i64 x9.2.1)])] (.one (.leaf (.int .i64))) fun x10 =>
  .call f_arena_Arena_Raw [(.pointer p1), (.int .i64 x10)] (.one (.leaf (.int .i64))) fun x11 =>
  .look (opS Try.prog (.nilCheck (.tmp 0)) ty_unit [(.pointer p0)]) (.one (.leaf .addr)) fun x12 =>
  .st (x12.add 8) (.int .i64 x11) <|
  .look (opS Try.prog (.nilCheck (.tmp 0)) ty_unit [(.pointer p0)]) (.one (.leaf .addr)) fun x17 =>
  .st (x17.add 13) (.func (.func f_epoch_Turn_look) #[(.pointer p0)] #[]) <|
  .look (opS Try.prog (.nilCheck (.tmp 0)) ty_unit [(.pointer p0)]) (.one (.leaf .addr)) fun x20 =>
  .ld x20 (.int .i64) fun x23 =>
  bif (decide ((x23 : Int) < 1)) then (
    .look (opS Try.prog (.nilCheck (.tmp 0)) ty_unit [(.pointer p0)]) (.one (.leaf .addr)) fun x28 =>
    .st (x28.add 13) (.func (.func f_epoch_Turn_swap) #[(.pointer p0)] #[]) <|
    .ret (.tuple #[]))
  else (
    .ret (.tuple #[]))
theorem t_epoch_Turn_global_eq (p0 : Option Addr) (p1 : Option Addr) : funcTree Try.prog { quiet := [16, 34, 36, 40, 41, 66, 67, 75, 76, 77, 97, 98, 103, 108, 110, 139, 146, 149, 161], quietTmp := false, fncs := [], ifcs := [] } Try.f107 [(.pointer p0), (.pointer p1)] = t_epoch_Turn_global p0 p1 := by kernel_rfl
theorem t_epoch_Turn_global_spec {p0 : Option Addr} {p1 : Option Addr} {H : Heap} {R : Value → Heap → Prop} (h : ∀ L, wp Try.prog (t_epoch_Turn_global p0 p1) L H R) : SpecF Try.prog f_epoch_Turn_global #[(.pointer p0), (.pointer p1)] H R :=
  spec_of_tree (cfg := { quiet := [16, 34, 36, 40, 41, 66, 67, 75, 76, 77, 97, 98, 103, 108, 110, 139, 146, 149, 161], quietTmp := false, fncs := [], ifcs := [] }) Try.func107 fun L => (t_epoch_Turn_global_eq p0 p1).symm ▸ h L

/- (*magpie/epoch.Turn).look -/
noncomputable def t_epoch_Turn_look (p0 : Option Addr) (p1 : Option Addr) : Tree :=
  .look (opS Try.prog (.nilCheck (.tmp 0)) ty_unit [(.pointer p0)]) (.one (.leaf .addr)) fun x7 =>
  .ldA x7 [(.int .i64), (.int .i64)] fun x9 =>
  .look (opS Try.prog (.nilCheck (.tmp 0)) ty_unit [(.pointer p0)]) (.one (.leaf .addr)) fun x11 =>
  .ld (x11.add 9) (.int .i64) fun x13 =>
  .qcall f_epoch_Table_Word [(.agg #[(.int .i64 x9.1), (.int .i64 x9.2.1)]), (.int .i64 x13)] (.one (.leaf (.int .i64))) fun x14 =>
  .call f_arena_Arena_Raw [(.pointer p1), (.int .i64 x14)] (.one (.leaf (.int .i64))) fun x15 =>
  .look (opS Try.prog (.nilCheck (.tmp 0)) ty_unit [(.pointer p0)]) (.one (.leaf .addr)) fun x17 =>
  .ld (x17.add 9) (.int .i64) fun x19 =>
  .look (opS Try.prog (.nilCheck (.tmp 0)) ty_unit [(.pointer p0)]) (.one (.leaf .addr)) fun x21 =>
  .st (x21.add 9) (.int .i64 (w64 (x19 + 1))) <|
  bif ((x15 : Int) != 0) then (
    .look (opS Try.prog (.nilCheck (.tmp 0)) ty_unit [(.pointer p0)]) (.one (.leaf .addr)) fun x29 =>
    .ld (x29.add 8) (.int .i64) fun x31 =>
    bif ((x15 : Int) != (w64 (x31 + 1))) then (
      .call f_epoch_Turn_sort [(.pointer p0)] .unit fun _ =>
      .ret (.tuple #[]))
    else (
      .look (opS Try.prog (.nilCheck (.tmp 0)) ty_unit [(.pointer p0)]) (.one (.leaf .addr)) fun x39 =>
      .ld (x39.add 9) (.int .i64) fun x41 =>
      .look (opS Try.prog (.nilCheck (.tmp 0)) ty_unit [(.pointer p0)]) (.one (.leaf .addr)) fun x43 =>
      .ld x43 (.int .i64) fun x46 =>
      bif ((x41 : Int) == x46) then (
        .look (opS Try.prog (.nilCheck (.tmp 0)) ty_unit [(.pointer p0)]) (.one (.leaf .addr)) fun x51 =>
        .st (x51.add 13) (.func (.func f_epoch_Turn_swap) #[(.pointer p0)] #[]) <|
        .ret (.tuple #[]))
      else (
        .ret (.tuple #[]))))
  else (
    .look (opS Try.prog (.nilCheck (.tmp 0)) ty_unit [(.pointer p0)]) (.one (.leaf .addr)) fun x39 =>
    .ld (x39.add 9) (.int .i64) fun x41 =>
    .look (opS Try.prog (.nilCheck (.tmp 0)) ty_unit [(.pointer p0)]) (.one (.leaf .addr)) fun x43 =>
    .ld x43 (.int .i64) fun x46 =>
    bif ((x41 : Int) == x46) then (
      .look (opS Try.prog (.nilCheck (.tmp 0)) ty_unit [(.pointer p0)]) (.one (.leaf .addr)) fun x51 =>
      .st (x51.add 13) (.func (.func f_epoch_Turn_swap) #[(.pointer p0)] #[]) <|
      .ret (.tuple #[]))
    else (
      .ret (.tuple #[])))
theorem t_epoch_Turn_look_eq (p0 : Option Addr) (p1 : Option Addr) : funcTree Try.prog { quiet := [16, 34, 36, 40, 41, 66, 67, 75, 76, 77, 97, 98, 103, 108, 110, 139, 146, 149, 161], quietTmp := false, fncs := [], ifcs := [] } Try.f111 [(.pointer p0), (.pointer p1)] = t_epoch_Turn_look p0 p1 := by kernel_rfl
theorem t_epoch_Turn_look_spec {p0 : Option Addr} {p1 : Option Addr} {H : Heap} {R : Value → Heap → Prop} (h : ∀ L, wp Try.prog (t_epoch_Turn_look p0 p1) L H R) : SpecF Try.prog f_epoch_Turn_look #[(.pointer p0), (.pointer p1)] H R :=
  spec_of_tree (cfg := { quiet := [16, 34, 36, 40, 41, 66, 67, 75, 76, 77, 97, 98, 103, 108, 110, 139, 146, 149, 161], quietTmp := false, fncs := [], ifcs := [] }) Try.func111 fun L => (t_epoch_Turn_look_eq p0 p1).symm ▸ h L

/- (*magpie/epoch.Turn).swap -/
noncomputable def t_epoch_Turn_swap (p0 : Option Addr) (p1 : Option Addr) : Tree :=
  .look (opS Try.prog (.nilCheck (.tmp 0)) ty_unit [(.pointer p0)]) (.one (.leaf .addr)) fun x6 =>
  .ldA x6 [(.int .i64), (.int .i64)] fun x8 =>
  .qcall f_epoch_Table_Global [(.agg #[(.int .i64 x8.1), (.int .i64 x8.2.1)])] (.one (.leaf (.int .i64))) fun x9 =>
  .look (opS Try.prog (.nilCheck (.tmp 0)) ty_unit [(.pointer p0)]) (.one (.leaf .addr)) fun x11 =>
  .ld (x11.add 8) (.int .i64) fun x13 =>
  .look (opS Try.prog (.nilCheck (.tmp 0)) ty_unit [(.pointer p0)]) (.one (.leaf .addr)) fun x15 =>
  .ld (x15.add 8) (.int .i64) fun x17 =>
  .call f_arena_Arena_SwapRaw [(.pointer p1), (.int .i64 x9), (.int .i64 x13), (.int .i64 (w64 (x17 + 1)))] (.one (.leaf .bool)) fun x19 =>
  bif x19 then (
    .look (opS Try.prog (.nilCheck (.tmp 0)) ty_unit [(.pointer p0)]) (.one (.leaf .addr)) fun x21 =>
    .ld (x21.add 8) (.int .i64) fun x23 =>
    .look (opS Try.prog (.nilCheck (.tmp 0)) ty_unit [(.pointer p0)]) (.one (.leaf .addr)) fun x25 =>
    .st (x25.add 8) (.int .i64 (w64 (x23 + 1))) <|
    .call f_epoch_Turn_sort [(.pointer p0)] .unit fun _ =>
    .ret (.tuple #[]))
  else (
    .call f_epoch_Turn_sort [(.pointer p0)] .unit fun _ =>
    .ret (.tuple #[]))
theorem t_epoch_Turn_swap_eq (p0 : Option Addr) (p1 : Option Addr) : funcTree Try.prog { quiet := [16, 34, 36, 40, 41, 66, 67, 75, 76, 77, 97, 98, 103, 108, 110, 139, 146, 149, 161], quietTmp := false, fncs := [], ifcs := [] } Try.f112 [(.pointer p0), (.pointer p1)] = t_epoch_Turn_swap p0 p1 := by kernel_rfl
theorem t_epoch_Turn_swap_spec {p0 : Option Addr} {p1 : Option Addr} {H : Heap} {R : Value → Heap → Prop} (h : ∀ L, wp Try.prog (t_epoch_Turn_swap p0 p1) L H R) : SpecF Try.prog f_epoch_Turn_swap #[(.pointer p0), (.pointer p1)] H R :=
  spec_of_tree (cfg := { quiet := [16, 34, 36, 40, 41, 66, 67, 75, 76, 77, 97, 98, 103, 108, 110, 139, 146, 149, 161], quietTmp := false, fncs := [], ifcs := [] }) Try.func112 fun L => (t_epoch_Turn_swap_eq p0 p1).symm ▸ h L

/- (*magpie/epoch.Turn).sort -/
@[reducible] def t_epoch_Turn_sort_L1_sh : List Sh1 := [(.leaf (.int .i64))]
noncomputable def t_epoch_Turn_sort_L1 (p0 : Option Addr) (x7 : Sl) (y1 : HL Sh1.T t_epoch_Turn_sort_L1_sh) : Tree :=
  bif (decide ((y1.1 : Int) < ((x7.len : Nat) : Int))) then (
    .look (opS Try.prog (.indexAddr ty_s_epoch_Limbo (.tmp 0) (.tmp 1)) ty_unit [(.slice x7.a x7.len x7.cap), (.int .i64 y1.1)]) (.one (.leaf .addr)) fun x11 =>
    .ldA x11 [(.int .i64), (.int .i64)] fun x12 =>
    .newP (.cells #[(.int .i64 0), (.int .i64 0)] ty_epoch_Limbo) fun x3 =>
    .stA x3 [(.int .i64 x12.1), (.int .i64 x12.2.1)] <|
    .ld (x3.add 1) (.int .i64) fun x14 =>
    .look (opS Try.prog (.nilCheck (.tmp 0)) ty_unit [(.pointer p0)]) (.one (.leaf .addr)) fun x17 =>
    .ld (x17.add 8) (.int .i64) fun x19 =>
    bif (decide (((w64 (x14 + 2)) : Int) ≤ x19)) then (
      .look (opS Try.prog (.nilCheck (.tmp 0)) ty_unit [(.pointer p0)]) (.one (.leaf .addr)) fun x23 =>
      .ld (x23.add 11) .slice fun x25 =>
      .look (opS Try.prog (.nilCheck (.tmp 0)) ty_unit [(.pointer p0)]) (.one (.leaf .addr)) fun x27 =>
      .ldA (x27.add 2) [(.int .i64), (.int .i64), (.int .i64), (.int .i64), (.int .i64)] fun x29 =>
      .look (opS Try.prog (.nilCheck (.tmp 0)) ty_unit [(.pointer p0)]) (.one (.leaf .addr)) fun x31 =>
      .ld (x31.add 7) (.int .i64) fun x33 =>
      .ld x3 (.int .i64) fun x35 =>
      .call f_slab_NewFree [(.agg #[(.int .i64 x29.1), (.int .i64 x29.2.1), (.int .i64 x29.2.2.1), (.int .i64 x29.2.2.2.1), (.int .i64 x29.2.2.2.2.1)]), (.int .i64 x33), (.int .i64 x35)] (.one (.leaf .ptr)) fun x36 =>
      .check (ldS (x23.add 11)) (.slice x25.a x25.len x25.cap) <|
      .check (opS Try.prog (.nilCheck (.tmp 0)) ty_unit [(.pointer p0)]) (.pointer (some x23)) <|
      .newS (.cells #[(.pointer x36)] ty_p_slab_Free) 1 fun x37 =>
      .check (ldS (x23.add 11)) (.slice x25.a x25.len x25.cap) <|
      .check (opS Try.prog (.nilCheck (.tmp 0)) ty_unit [(.pointer p0)]) (.pointer (some x23)) <|
      .act (opS Try.prog (.call { callee := .builtin .append, args := #[(.tmp 0), (.tmp 1)], argTypes := #[ty_s_p_slab_Free, ty_s_p_slab_Free] }) ty_s_p_slab_Free [(.slice x25.a x25.len x25.cap), (.slice x37.a x37.len x37.cap)]) (.one (.leaf .slice)) fun x38 =>
      .look (opS Try.prog (.nilCheck (.tmp 0)) ty_unit [(.pointer p0)]) (.one (.leaf .addr)) fun x39 =>
      .st (x39.add 11) (.slice x38.a x38.len x38.cap) <|
      .again 64 [(.int .i64 (w64 (y1.1 + 1)))])
    else (
      .look (opS Try.prog (.nilCheck (.tmp 0)) ty_unit [(.pointer p0)]) (.one (.leaf .addr)) fun x43 =>
      .ld (x43.add 12) .slice fun x45 =>
      .ldA x3 [(.int .i64), (.int .i64)] fun x46 =>
      .newS (.cells #[(.int .i64 x46.1), (.int .i64 x46.2.1)] ty_epoch_Limbo) 1 fun x47 =>
      .check (ldS (x43.add 12)) (.slice x45.a x45.len x45.cap) <|
      .check (opS Try.prog (.nilCheck (.tmp 0)) ty_unit [(.pointer p0)]) (.pointer (some x43)) <|
      .act (opS Try.prog (.call { callee := .builtin .append, args := #[(.tmp 0), (.tmp 1)], argTypes := #[ty_s_epoch_Limbo, ty_s_epoch_Limbo] }) ty_s_epoch_Limbo [(.slice x45.a x45.len x45.cap), (.slice x47.a x47.len x47.cap)]) (.one (.leaf .slice)) fun x48 =>
      .look (opS Try.prog (.nilCheck (.tmp 0)) ty_unit [(.pointer p0)]) (.one (.leaf .addr)) fun x49 =>
      .st (x49.add 12) (.slice x48.a x48.len x48.cap) <|
      .again 64 [(.int .i64 (w64 (y1.1 + 1)))]))
  else (
    .look (opS Try.prog (.nilCheck (.tmp 0)) ty_unit [(.pointer p0)]) (.one (.leaf .addr)) fun x55 =>
    .st (x55.add 13) (.func (.func f_epoch_Turn_free) #[(.pointer p0)] #[]) <|
    .look (opS Try.prog (.nilCheck (.tmp 0)) ty_unit [(.pointer p0)]) (.one (.leaf .addr)) fun x58 =>
    .ld (x58.add 11) .slice fun x60 =>
    bif ((((x60.len : Nat) : Int) : Int) == 0) then (
      .look (opS Try.prog (.nilCheck (.tmp 0)) ty_unit [(.pointer p0)]) (.one (.leaf .addr)) fun x64 =>
      .st (x64.add 13) .nilFunc <|
      .ret (.tuple #[]))
    else (
      .ret (.tuple #[])))
noncomputable def t_epoch_Turn_sort (p0 : Option Addr) : Tree :=
  .look (opS Try.prog (.nilCheck (.tmp 0)) ty_unit [(.pointer p0)]) (.one (.leaf .addr)) fun x5 =>
  .ld (x5.add 10) .slice fun x7 =>
  .loop 64 t_epoch_Turn_sort_L1_sh [(.int .i64 0)] (t_epoch_Turn_sort_L1 p0 x7)
theorem t_epoch_Turn_sort_eq (p0 : Option Addr) : funcTree Try.prog { quiet := [16, 34, 36, 40, 41, 66, 67, 75, 76, 77, 97, 98, 103, 108, 110, 139, 146, 149, 161], quietTmp := false, fncs := [], ifcs := [] } Try.f114 [(.pointer p0)] = t_epoch_Turn_sort p0 := by kernel_rfl
theorem t_epoch_Turn_sort_spec {p0 : Option Addr} {H : Heap} {R : Value → Heap → Prop} (h : ∀ L, wp Try.prog (t_epoch_Turn_sort p0) L H R) : SpecF Try.prog f_epoch_Turn_sort #[(.pointer p0)] H R :=
  spec_of_tree (cfg := { quiet := [16, 34, 36, 40, 41, 66, 67, 75, 76, 77, 97, 98, 103, 108, 110, 139, 146, 149, 161], quietTmp := false, fncs := [], ifcs := [] }) Try.func114 fun L => (t_epoch_Turn_sort_eq p0).symm ▸ h L

/- (*magpie/epoch.Turn).free -/
noncomputable def t_epoch_Turn_free (p0 : Option Addr) (p1 : Option Addr) : Tree :=
  .look (opS Try.prog (.nilCheck (.tmp 0)) ty_unit [(.pointer p0)]) (.one (.leaf .addr)) fun x5 =>
  .ld (x5.add 11) .slice fun x7 =>
  .look (opS Try.prog (.indexAddr ty_s_p_slab_Free (.tmp 0) (.const (.int .i64 0))) ty_unit [(.slice x7.a x7.len x7.cap)]) (.one (.leaf .addr)) fun x8 =>
  .ld x8 .ptr fun x9 =>
  .call f_slab_Free_Step [(.pointer x9), (.pointer p1)] (.one (.leaf .bool)) fun x11 =>
  bif x11 then (
    .look (opS Try.prog (.nilCheck (.tmp 0)) ty_unit [(.pointer p0)]) (.one (.leaf .addr)) fun x14 =>
    .ld (x14.add 11) .slice fun x16 =>
    .look (opS Try.prog (.slice ty_s_p_slab_Free (.tmp 0) (some (.const (.int .i64 1))) none none) ty_s_p_slab_Free [(.slice x16.a x16.len x16.cap)]) (.one (.leaf .slice)) fun x17 =>
    .look (opS Try.prog (.nilCheck (.tmp 0)) ty_unit [(.pointer p0)]) (.one (.leaf .addr)) fun x18 =>
    .st (x18.add 11) (.slice x17.a x17.len x17.cap) <|
    .look (opS Try.prog (.nilCheck (.tmp 0)) ty_unit [(.pointer p0)]) (.one (.leaf .addr)) fun x21 =>
    .ld (x21.add 11) .slice fun x23 =>
    bif ((((x23.len : Nat) : Int) : Int) == 0) then (
      .look (opS Try.prog (.nilCheck (.tmp 0)) ty_unit [(.pointer p0)]) (.one (.leaf .addr)) fun x27 =>
      .st (x27.add 13) .nilFunc <|
      .ret (.tuple #[]))
    else (
      .ret (.tuple #[])))
  else (
    .look (opS Try.prog (.nilCheck (.tmp 0)) ty_unit [(.pointer p0)]) (.one (.leaf .addr)) fun x21 =>
    .ld (x21.add 11) .slice fun x23 =>
    bif ((((x23.len : Nat) : Int) : Int) == 0) then (
      .look (opS Try.prog (.nilCheck (.tmp 0)) ty_unit [(.pointer p0)]) (.one (.leaf .addr)) fun x27 =>
      .st (x27.add 13) .nilFunc <|
      .ret (.tuple #[]))
    else (
      .ret (.tuple #[])))
theorem t_epoch_Turn_free_eq (p0 : Option Addr) (p1 : Option Addr) : funcTree Try.prog { quiet := [16, 34, 36, 40, 41, 66, 67, 75, 76, 77, 97, 98, 103, 108, 110, 139, 146, 149, 161], quietTmp := false, fncs := [], ifcs := [] } Try.f116 [(.pointer p0), (.pointer p1)] = t_epoch_Turn_free p0 p1 := by kernel_rfl
theorem t_epoch_Turn_free_spec {p0 : Option Addr} {p1 : Option Addr} {H : Heap} {R : Value → Heap → Prop} (h : ∀ L, wp Try.prog (t_epoch_Turn_free p0 p1) L H R) : SpecF Try.prog f_epoch_Turn_free #[(.pointer p0), (.pointer p1)] H R :=
  spec_of_tree (cfg := { quiet := [16, 34, 36, 40, 41, 66, 67, 75, 76, 77, 97, 98, 103, 108, 110, 139, 146, 149, 161], quietTmp := false, fncs := [], ifcs := [] }) Try.func116 fun L => (t_epoch_Turn_free_eq p0 p1).symm ▸ h L

/- (*magpie/epoch.Turn).Step -/
noncomputable def t_epoch_Turn_Step (p0 : Option Addr) (p1 : Option Addr) : Tree :=
  .look (opS Try.prog (.nilCheck (.tmp 0)) ty_unit [(.pointer p0)]) (.one (.leaf .addr)) fun x6 =>
  .ld (x6.add 13) .val fun x8 =>
  .look (opS Try.prog (.binOp .neq ty_epoch_step (.tmp 0) (.const .nilFunc) ty_epoch_step) ty_bool [x8]) (.one (.leaf .bool)) fun x9 =>
  bif x9 then (
    .look (opS Try.prog (.nilCheck (.tmp 0)) ty_unit [(.pointer p0)]) (.one (.leaf .addr)) fun x11 =>
    .ld (x11.add 13) .val fun x13 =>
    .act (opS Try.prog (.call { callee := .value (.tmp 0), args := #[(.tmp 1)], argTypes := #[ty_p_arena_Arena] }) ty_unit [x13, (.pointer p1)]) .unit fun _ =>
    .look (opS Try.prog (.nilCheck (.tmp 0)) ty_unit [(.pointer p0)]) (.one (.leaf .addr)) fun x17 =>
    .ld (x17.add 13) .val fun x19 =>
    .look (opS Try.prog (.binOp .eql ty_epoch_step (.tmp 0) (.const .nilFunc) ty_epoch_step) ty_bool [x19]) (.one (.leaf .bool)) fun x20 =>
    .ret (.bool x20))
  else (
    .look (opS Try.prog (.nilCheck (.tmp 0)) ty_unit [(.pointer p0)]) (.one (.leaf .addr)) fun x17 =>
    .ld (x17.add 13) .val fun x19 =>
    .look (opS Try.prog (.binOp .eql ty_epoch_step (.tmp 0) (.const .nilFunc) ty_epoch_step) ty_bool [x19]) (.one (.leaf .bool)) fun x20 =>
    .ret (.bool x20))
theorem t_epoch_Turn_Step_eq (p0 : Option Addr) (p1 : Option Addr) : funcTree Try.prog { quiet := [16, 34, 36, 40, 41, 66, 67, 75, 76, 77, 97, 98, 103, 108, 110, 139, 146, 149, 161], quietTmp := false, fncs := [], ifcs := [] } Try.f157 [(.pointer p0), (.pointer p1)] = t_epoch_Turn_Step p0 p1 := by kernel_rfl
theorem t_epoch_Turn_Step_spec {p0 : Option Addr} {p1 : Option Addr} {H : Heap} {R : Value → Heap → Prop} (h : ∀ L, wp Try.prog (t_epoch_Turn_Step p0 p1) L H R) : SpecF Try.prog f_epoch_Turn_Step #[(.pointer p0), (.pointer p1)] H R :=
  spec_of_tree (cfg := { quiet := [16, 34, 36, 40, 41, 66, 67, 75, 76, 77, 97, 98, 103, 108, 110, 139, 146, 149, 161], quietTmp := false, fncs := [], ifcs := [] }) Try.func157 fun L => (t_epoch_Turn_Step_eq p0 p1).symm ▸ h L

/- (*magpie/epoch.Turn).Left -/
noncomputable def t_epoch_Turn_Left (p0 : Option Addr) : Tree :=
  .look (opS Try.prog (.nilCheck (.tmp 0)) ty_unit [(.pointer p0)]) (.one (.leaf .addr)) fun x4 =>
  .ld (x4.add 13) .val fun x6 =>
  .look (opS Try.prog (.binOp .neq ty_epoch_step (.tmp 0) (.const .nilFunc) ty_epoch_step) ty_bool [x6]) (.one (.leaf .bool)) fun x7 =>
  bif x7 then (
    .ret (.slice none 0 0))
  else (
    .look (opS Try.prog (.nilCheck (.tmp 0)) ty_unit [(.pointer p0)]) (.one (.leaf .addr)) fun x9 =>
    .ld (x9.add 12) .slice fun x11 =>
    .act (opS Try.prog (.call { callee := .builtin .append, args := #[(.const (.slice none 0 0)), (.tmp 0)], argTypes := #[ty_s_epoch_Limbo, ty_s_epoch_Limbo] }) ty_s_epoch_Limbo [(.slice x11.a x11.len x11.cap)]) (.one (.leaf .slice)) fun x12 =>
    .ret (.slice x12.a x12.len x12.cap))
theorem t_epoch_Turn_Left_eq (p0 : Option Addr) : funcTree Try.prog { quiet := [16, 34, 36, 40, 41, 66, 67, 75, 76, 77, 97, 98, 103, 108, 110, 139, 146, 149, 161], quietTmp := false, fncs := [], ifcs := [] } Try.f142 [(.pointer p0)] = t_epoch_Turn_Left p0 := by kernel_rfl
theorem t_epoch_Turn_Left_spec {p0 : Option Addr} {H : Heap} {R : Value → Heap → Prop} (h : ∀ L, wp Try.prog (t_epoch_Turn_Left p0) L H R) : SpecF Try.prog f_epoch_Turn_Left #[(.pointer p0)] H R :=
  spec_of_tree (cfg := { quiet := [16, 34, 36, 40, 41, 66, 67, 75, 76, 77, 97, 98, 103, 108, 110, 139, 146, 149, 161], quietTmp := false, fncs := [], ifcs := [] }) Try.func142 fun L => (t_epoch_Turn_Left_eq p0).symm ▸ h L

end Go.Proofs.Ytcjhakdopnamoaa

set_option linter.unusedVariables false
set_option maxRecDepth 20000
namespace Go.Proofs.Ytcjhakdopnamoaa
open Go Go.Fw

/-! ### epoch.Pin -/

section
variable {L : Hands} {R : Value → Heap → Prop} {A : Ar} {I : List Nat} {l : Bl} {G : Heap}

theorem Global_det (tw ta : Int) (H : Heap) : Det Try.prog f_epoch_Table_Global [.agg #[.int .i64 tw, .int .i64 ta]] H (.int .i64 ta) H := by
  refine t_epoch_Table_Global_spec (p0_0 := tw) (p0_1 := ta) fun L => ?_
  unfold t_epoch_Table_Global
  refine wp_newP fun b hb => wp_ld_of (x := ta) (by rw [Addr.add_mk, Heap.cell_set]; rfl) ?_
  exact ⟨H, Heap.le_set_new _ hb, rfl, rfl⟩
theorem wq_Global {H : Heap} {tw ta : Int} {k : Int → Tree} (h : wp Try.prog (k ta) L H R) :
    wp Try.prog (.qcall f_epoch_Table_Global [.agg #[.int .i64 tw, .int .i64 ta]] (.one (.leaf (.int .i64))) k) L H R := wp_qcall_det (x := ta) (Global_det tw ta H) h
def ewd (ta w : Int) : Int := w64 (w64 (ta + 1) + w)
theorem ewd_eq {ta w : Int} (b : 0 ≤ ta ∧ ta ≤ 1000000 ∧ 0 ≤ w ∧ w ≤ 1000000) : ewd ta w = ta + 1 + w := by
  unfold ewd; rw [w64_in (x := ta + 1) (by omega) (by omega), w64_in (by omega) (by omega)]
theorem EWord_det (tw ta w : Int) (H : Heap) : Det Try.prog f_epoch_Table_Word [.agg #[.int .i64 tw, .int .i64 ta], .int .i64 w] H (.int .i64 (ewd ta w)) H := by
  refine t_epoch_Table_Word_spec (p0_0 := tw) (p0_1 := ta) fun L => ?_
  unfold t_epoch_Table_Word
  refine wp_newP fun b hb => wp_ld_of (x := ta) (by rw [Addr.add_mk, Heap.cell_set]; rfl) ?_
  exact ⟨H, Heap.le_set_new _ hb, rfl, rfl⟩
theorem wq_EWord {H : Heap} {tw ta w : Int} {k : Int → Tree} (h : wp Try.prog (k (ewd ta w)) L H R) :
    wp Try.prog (.qcall f_epoch_Table_Word [.agg #[.int .i64 tw, .int .i64 ta], .int .i64 w] (.one (.leaf (.int .i64))) k) L H R := wp_qcall_det (x := ewd ta w) (EWord_det tw ta w H) h
theorem ERaw_det {w n : Int} (b1 : 0 ≤ w ∧ w ≤ 100000) (H : Heap) : Det Try.prog f_epoch_Raw [.int .i64 w, .int .i64 n] H (.tuple #[.agg #[.int .i64 w, .int .i64 n], .int .i64 (1 + w)]) H := by
  refine t_epoch_Raw_spec fun L => ?_
  unfold t_epoch_Raw
  have e : w64 (1 + imax w 0) = 1 + w := by
    rw [show imax w 0 = w by unfold imax; rw [if_neg (by omega)]]
    exact w64_in (by omega) (by omega)
  rw [e]
  refine wp_newP fun b hb => ?_
  refine wp_stA_of (Heap.set_same _ _ _) (by exact Nat.le_refl 2) (singles _ rfl) ?_
  rw [Heap.set_set]
  have c1 : putAll #[.int .i64 0, .int .i64 0] 0 [.int .i64 w, .int .i64 n] = #[.int .i64 w, .int .i64 n] := rfl
  rw [c1]
  exact ⟨((w, n, ()), 1 + w, ()), ldK_still (Heap.set_same _ _ _) 2 0 #[] (by simp) rfl, H, Heap.le_set_new _ hb, rfl, rfl⟩
theorem wq_ERaw {H : Heap} {w n : Int} {k : HL Sh1.T [(.agg [(.int .i64), (.int .i64)]), (.leaf (.int .i64))] → Tree} (b1 : 0 ≤ w ∧ w ≤ 100000) (h : wp Try.prog (k ((w, n, ()), 1 + w, ())) L H R) :
    wp Try.prog (.qcall f_epoch_Raw [.int .i64 w, .int .i64 n] (.tup [(.agg [(.int .i64), (.int .i64)]), (.leaf (.int .i64))]) k) L H R := wp_qcall_det (x := ((w, n, ()), 1 + w, ())) (ERaw_det b1 H) h

theorem fneq (f : FuncId) (x : Value) : opS Try.prog (.binOp .neq ty_epoch_step (.tmp 0) (.const .nilFunc) ty_epoch_step) ty_bool [.func (.func f) #[x] #[]] = .pure (.value (.bool true)) := by kernel_rfl
theorem fneq0 : opS Try.prog (.binOp .neq ty_epoch_step (.tmp 0) (.const .nilFunc) ty_epoch_step) ty_bool [.nilFunc] = .pure (.value (.bool false)) := by kernel_rfl
theorem feq (f : FuncId) (x : Value) : opS Try.prog (.binOp .eql ty_epoch_step (.tmp 0) (.const .nilFunc) ty_epoch_step) ty_bool [.func (.func f) #[x] #[]] = .pure (.value (.bool false)) := by kernel_rfl
theorem feq0 : opS Try.prog (.binOp .eql ty_epoch_step (.tmp 0) (.const .nilFunc) ty_epoch_step) ty_bool [.nilFunc] = .pure (.value (.bool true)) := by kernel_rfl
structure Pn where
  tw : Int
  ta : Int
  work : Int
  e : Int
  ph : Nat
def pnNext (q : Nat) : Nat → Value
  | 0 => .func (.func f_epoch_Pin_global) #[.pointer (some ⟨q, 0, none⟩)] #[]
  | 1 => .func (.func f_epoch_Pin_own) #[.pointer (some ⟨q, 0, none⟩)] #[]
  | 2 => .func (.func f_epoch_Pin_again) #[.pointer (some ⟨q, 0, none⟩)] #[]
  | _ => .nilFunc
def Pn.cells (m : Pn) (q : Nat) : List Value := [.int .i64 m.tw, .int .i64 m.ta, .int .i64 m.work, .int .i64 m.e, pnNext q m.ph]
def Pn.bl (m : Pn) (q : Nat) : Bl := [(q, oc ty_epoch_Pin (m.cells q))]
def Pn.step (m : Pn) (A : Ar) : Pn × Ar :=
  if m.ph = 0 then ({ m with e := A.rawF m.ta, ph := 1 }, A.touchR m.ta)
  else if m.ph = 1 then ({ m with ph := 2 }, A.storeR (ewd m.ta m.work) (w64 (m.e + 1)))
  else if m.ph = 2 then ({ m with e := A.rawF m.ta, ph := if A.rawF m.ta = m.e then 3 else 1 }, A.touchR m.ta)
  else (m, A)
end
end Go.Proofs.Ytcjhakdopnamoaa

set_option linter.unusedVariables false
set_option maxRecDepth 20000
namespace Go.Proofs.Ytcjhakdopnamoaa
open Go Go.Fw

def Sc.word1 (m : Sc) (A : Ar) : Sc := { m with seen := alPut m.seen (A.rawF (w64 (m.ta + m.word))) true, word := m.word + 1 }
def Sc.step (m : Sc) (A : Ar) : Sc × Ar :=
  if m.ended = true then (m, A)
  else if m.word < 2 * m.tw then (if m.word + 1 = 2 * m.tw then (m.word1 A).sort else m.word1 A, A.touchR (w64 (m.ta + m.word)))
  else match m.frees with
    | [] => (m, A)
    | f :: fs => if (f.step A).1.done = true then ({ m with frees := fs, ended := decide (fs = []) }, (f.step A).2) else ({ m with frees := (f.step A).1 :: fs }, (f.step A).2)
structure Sc.inv (m : Sc) (A : Ar) : Prop where
  tw : 1 ≤ m.tw ∧ m.tw ≤ 1000
  wd : 0 ≤ m.word
  ll : m.l.length ≤ 1000
  fr : m.ended = false → (m.word < 2 * m.tw ∧ m.sorted = false ∧ m.frees = [] ∧ m.left = []) ∨ (2 * m.tw ≤ m.word ∧ m.sorted = true ∧ m.frees ≠ [])
def mSc : MchR Sc ScJ where
  f := f_hazard_Scan_Step
  addr := ScJ.q
  bl := Sc.bl
  rep := Sc.rep
  inv := Sc.inv
  step := Sc.step
  fin := fun m => m.ended
theorem mSc_inv : mSc.inv' ty_p_hazard_Scan := fun q p => by
  show opS _ _ _ _ = .pure (.enter f_hazard_Scan_Step [.pointer (some ⟨q, 0, none⟩), .pointer p].toArray)
  kernel_rfl

theorem opS_lo1 {t u : TypeId} (x : Value) (n : Int) : opS Try.prog (.slice t (.tmp 0) (some (.const (.int .i64 n))) none none) u [x] = opS Try.prog (.slice t (.tmp 0) (some (.tmp 1)) none none) u [x, .int .i64 n] := by kernel_rfl

theorem opS_ix0 {t u : TypeId} (x : Value) (n : Int) : opS Try.prog (.indexAddr t (.tmp 0) (.const (.int .i64 n))) u [x] = opS Try.prog (.indexAddr t (.tmp 0) (.tmp 1)) u [x, .int .i64 n] := by kernel_rfl
theorem rdP0 {L : Hands} {R : Value → Heap → Prop} {A : Ar} {I : List Nat} {l : Bl} {G : Heap} {x : Nat} {xs : List Nat} {s : Sl} {u : TypeId} {k : Option Addr → Tree} (hA : Aw I A) (ok : Ok I G (keys l)) (hs : SlAt l ty_p_slab_Free eP s (x :: xs)) (h : wp Try.prog (k (some ⟨x, 0, none⟩)) L (own A l G) R) :
    wp Try.prog (.look (opS Try.prog (.indexAddr ty_s_p_slab_Free (.tmp 0) (.const (.int .i64 0))) u [(.slice s.a s.len s.cap)]) (.one (.leaf .addr)) fun y => .ld y .ptr k) L (own A l G) R := by
  rw [opS_ix0]
  rcases hs with ⟨_, h⟩ | ⟨b, pre, rest, r, rfl, h2, h3⟩
  · cases h
  · refine w_ixS (e := ty_p_slab_Free) rfl rfl rfl (Int.le_refl 0) (by show (0 : Int) < (((x :: xs).length : Nat) : Int); simp only [List.length_cons]; omega) ?_
    refine w_ldm (x := some ⟨x, 0, none⟩) hA ok rfl h3 ?_ h
    have : (pre ++ eP.all (x :: xs) ++ rest)[pre.length + (0 : Int).toNat]? = some (.pointer (some ⟨x, 0, none⟩)) := by
      rw [List.append_assoc, List.getElem?_append_right (by simp)]
      simp [Enc.all, eP]
    rw [this]; rfl

theorem own_conv {L : Hands} {R : Value → Heap → Prop} {A : Ar} {l l' : Bl} {G : Heap} {t : Tree} (h : l' = l) (hw : wp Try.prog t L (own A l' G) R) : wp Try.prog t L (own A l G) R := h ▸ hw

set_option maxHeartbeats 1000000 in
theorem mSc_ok : mSc.ok := by
  rintro I A G m j hA ok rp ⟨⟨t0, t1⟩, w0, ll, fr⟩
  have ok : Ok I G (keys (m.bl j)) := ok
  have rp : m.rep j := rp
  show SpecF Try.prog f_hazard_Scan_Step #[.pointer (some ⟨j.q, 0, none⟩), .pointer (aI I)] (own A (m.bl j) G) fun v K => ∃ j' : ScJ, v = .bool (m.step A).1.ended ∧ K = own (m.step A).2 ((m.step A).1.bl j') G ∧ j'.q = j.q ∧ Ok I G (keys ((m.step A).1.bl j')) ∧ (m.step A).1.rep j' ∧ Aw I (m.step A).2
  refine t_hazard_Scan_Step_spec fun L => ?_
  unfold t_hazard_Scan_Step Sc.step
  have e2 : w64 (2 * imax m.tw 0) = 2 * m.tw := by
    rw [show imax m.tw 0 = m.tw by unfold imax; rw [if_neg (by omega)]]
    exact w64_in (by omega) (by omega)
  repeat (first
  | refine wp_nil.2 ?_
  | refine w_ld 0 hA ok rfl rfl rfl ?_
  | refine w_ld 1 hA ok rfl rfl rfl ?_
  | refine w_ld 2 hA ok rfl rfl rfl ?_
  | refine w_ld 3 hA ok rfl rfl rfl ?_
  | refine w_ld 4 hA ok rfl rfl rfl ?_
  | refine w_ld 5 hA ok rfl rfl rfl ?_
  | refine w_ld 6 hA ok rfl rfl rfl ?_
  | refine w_ld 7 hA ok rfl rfl rfl ?_
  | refine w_st 0 hA ok rfl rfl rfl rfl ?_
  | refine w_st 1 hA ok rfl rfl rfl rfl ?_
  | refine w_st 2 hA ok rfl rfl rfl rfl ?_
  | refine w_st 3 hA ok rfl rfl rfl rfl ?_
  | refine w_st 4 hA ok rfl rfl rfl rfl ?_
  | refine w_st 5 hA ok rfl rfl rfl rfl ?_
  | refine w_st 6 hA ok rfl rfl rfl rfl ?_
  | refine w_st 7 hA ok rfl rfl rfl rfl ?_
  | refine w_ldA 0 hA ok rfl rfl rfl ?_
  | refine w_ldA 1 hA ok rfl rfl rfl ?_
  | refine w_ldA 2 hA ok rfl rfl rfl ?_
  | refine w_ldA 3 hA ok rfl rfl rfl ?_
  | refine w_ldA 4 hA ok rfl rfl rfl ?_
  | refine w_ldA 5 hA ok rfl rfl rfl ?_
  | refine w_ldA 6 hA ok rfl rfl rfl ?_
  | refine w_ldA 7 hA ok rfl rfl rfl ?_
  | refine w_stA 0 hA ok rfl rfl rfl rfl ?_
  | refine w_stA 1 hA ok rfl rfl rfl rfl ?_
  | refine w_stA 2 hA ok rfl rfl rfl rfl ?_
  | refine w_stA 3 hA ok rfl rfl rfl rfl ?_
  | refine w_stA 4 hA ok rfl rfl rfl rfl ?_
  | refine w_stA 5 hA ok rfl rfl rfl rfl ?_
  | refine w_stA 6 hA ok rfl rfl rfl rfl ?_
  | refine w_stA 7 hA ok rfl rfl rfl rfl ?_
  | (refine w_Raw hA ?_; intro hA)
  | (refine w_SetRaw hA ?_; intro hA)
  | (refine w_SwapRaw hA ?_; intro hA)
  | (refine w_AddRaw hA ?_; intro hA)
  | (refine w_Load hA ?_; intro hA)
  | (refine w_Store hA ?_; intro hA)
  | (refine w_Retire hA ?_; intro hA)
  | (refine w_Died hA ?_; intro hA)
  | (refine w_Born hA ?_; intro hA)
  | refine w_State hA ?_
  | refine w_Uses hA ?_
  | refine w_Fault hA ?_
  | refine w_Words hA ?_
  | refine w_Count hA ?_
  | refine wq_Size ?_
  | refine wq_Open ?_
  | refine wq_Pack ?_
  | refine wq_head ?_
  | refine w_ck 0 hA ok rfl rfl rfl ?_
  | refine w_ck 1 hA ok rfl rfl rfl ?_
  | refine w_ck 2 hA ok rfl rfl rfl ?_
  | refine w_ck 3 hA ok rfl rfl rfl ?_
  | refine w_ck 4 hA ok rfl rfl rfl ?_
  | refine w_ck 5 hA ok rfl rfl rfl ?_
  | refine w_ck 6 hA ok rfl rfl rfl ?_
  | refine w_ck 7 hA ok rfl rfl rfl ?_
  | refine w_ckn rfl ?_
  | refine w_Base 0 1 hA ok rfl rfl ?_
  | refine w_Base 1 2 hA ok rfl rfl ?_
  | refine w_Base 2 3 hA ok rfl rfl ?_
  | refine w_Base 3 4 hA ok rfl rfl ?_
  | refine w_Base 4 5 hA ok rfl rfl ?_
  | refine w_Base 5 6 hA ok rfl rfl ?_
  | (refine w_PopStep 0 1 hA ok rfl rfl ?_; intro hA)
  | (refine w_PopStep 1 2 hA ok rfl rfl ?_; intro hA)
  | (refine w_PopStep 2 3 hA ok rfl rfl ?_; intro hA)
  | (refine w_PopStep 3 4 hA ok rfl rfl ?_; intro hA)
  | (refine w_PopStep 4 5 hA ok rfl rfl ?_; intro hA)
  | (refine w_PopStep 5 6 hA ok rfl rfl ?_; intro hA)
  | (refine w_PushStep 0 1 hA ok rfl rfl ?_; intro hA)
  | (refine w_PushStep 1 2 hA ok rfl rfl ?_; intro hA)
  | (refine w_PushStep 2 3 hA ok rfl rfl ?_; intro hA)
  | (refine w_PushStep 3 4 hA ok rfl rfl ?_; intro hA)
  | (refine w_PushStep 4 5 hA ok rfl rfl ?_; intro hA)
  | (refine w_PushStep 5 6 hA ok rfl rfl ?_; intro hA)
  | refine wp_true (by assumption) ?_
  | refine wp_false (by assumption) ?_)
  rw [e2]
  rcases Bool.eq_false_or_eq_true m.ended with he | he
  · rw [if_pos he]
    refine wp_true he ?_
    repeat (first
  | refine wp_nil.2 ?_
  | refine w_ld 0 hA ok rfl rfl rfl ?_
  | refine w_ld 1 hA ok rfl rfl rfl ?_
  | refine w_ld 2 hA ok rfl rfl rfl ?_
  | refine w_ld 3 hA ok rfl rfl rfl ?_
  | refine w_ld 4 hA ok rfl rfl rfl ?_
  | refine w_ld 5 hA ok rfl rfl rfl ?_
  | refine w_ld 6 hA ok rfl rfl rfl ?_
  | refine w_ld 7 hA ok rfl rfl rfl ?_
  | refine w_st 0 hA ok rfl rfl rfl rfl ?_
  | refine w_st 1 hA ok rfl rfl rfl rfl ?_
  | refine w_st 2 hA ok rfl rfl rfl rfl ?_
  | refine w_st 3 hA ok rfl rfl rfl rfl ?_
  | refine w_st 4 hA ok rfl rfl rfl rfl ?_
  | refine w_st 5 hA ok rfl rfl rfl rfl ?_
  | refine w_st 6 hA ok rfl rfl rfl rfl ?_
  | refine w_st 7 hA ok rfl rfl rfl rfl ?_
  | refine w_ldA 0 hA ok rfl rfl rfl ?_
  | refine w_ldA 1 hA ok rfl rfl rfl ?_
  | refine w_ldA 2 hA ok rfl rfl rfl ?_
  | refine w_ldA 3 hA ok rfl rfl rfl ?_
  | refine w_ldA 4 hA ok rfl rfl rfl ?_
  | refine w_ldA 5 hA ok rfl rfl rfl ?_
  | refine w_ldA 6 hA ok rfl rfl rfl ?_
  | refine w_ldA 7 hA ok rfl rfl rfl ?_
  | refine w_stA 0 hA ok rfl rfl rfl rfl ?_
  | refine w_stA 1 hA ok rfl rfl rfl rfl ?_
  | refine w_stA 2 hA ok rfl rfl rfl rfl ?_
  | refine w_stA 3 hA ok rfl rfl rfl rfl ?_
  | refine w_stA 4 hA ok rfl rfl rfl rfl ?_
  | refine w_stA 5 hA ok rfl rfl rfl rfl ?_
  | refine w_stA 6 hA ok rfl rfl rfl rfl ?_
  | refine w_stA 7 hA ok rfl rfl rfl rfl ?_
  | (refine w_Raw hA ?_; intro hA)
  | (refine w_SetRaw hA ?_; intro hA)
  | (refine w_SwapRaw hA ?_; intro hA)
  | (refine w_AddRaw hA ?_; intro hA)
  | (refine w_Load hA ?_; intro hA)
  | (refine w_Store hA ?_; intro hA)
  | (refine w_Retire hA ?_; intro hA)
  | (refine w_Died hA ?_; intro hA)
  | (refine w_Born hA ?_; intro hA)
  | refine w_State hA ?_
  | refine w_Uses hA ?_
  | refine w_Fault hA ?_
  | refine w_Words hA ?_
  | refine w_Count hA ?_
  | refine wq_Size ?_
  | refine wq_Open ?_
  | refine wq_Pack ?_
  | refine wq_head ?_
  | refine w_ck 0 hA ok rfl rfl rfl ?_
  | refine w_ck 1 hA ok rfl rfl rfl ?_
  | refine w_ck 2 hA ok rfl rfl rfl ?_
  | refine w_ck 3 hA ok rfl rfl rfl ?_
  | refine w_ck 4 hA ok rfl rfl rfl ?_
  | refine w_ck 5 hA ok rfl rfl rfl ?_
  | refine w_ck 6 hA ok rfl rfl rfl ?_
  | refine w_ck 7 hA ok rfl rfl rfl ?_
  | refine w_ckn rfl ?_
  | refine w_Base 0 1 hA ok rfl rfl ?_
  | refine w_Base 1 2 hA ok rfl rfl ?_
  | refine w_Base 2 3 hA ok rfl rfl ?_
  | refine w_Base 3 4 hA ok rfl rfl ?_
  | refine w_Base 4 5 hA ok rfl rfl ?_
  | refine w_Base 5 6 hA ok rfl rfl ?_
  | (refine w_PopStep 0 1 hA ok rfl rfl ?_; intro hA)
  | (refine w_PopStep 1 2 hA ok rfl rfl ?_; intro hA)
  | (refine w_PopStep 2 3 hA ok rfl rfl ?_; intro hA)
  | (refine w_PopStep 3 4 hA ok rfl rfl ?_; intro hA)
  | (refine w_PopStep 4 5 hA ok rfl rfl ?_; intro hA)
  | (refine w_PopStep 5 6 hA ok rfl rfl ?_; intro hA)
  | (refine w_PushStep 0 1 hA ok rfl rfl ?_; intro hA)
  | (refine w_PushStep 1 2 hA ok rfl rfl ?_; intro hA)
  | (refine w_PushStep 2 3 hA ok rfl rfl ?_; intro hA)
  | (refine w_PushStep 3 4 hA ok rfl rfl ?_; intro hA)
  | (refine w_PushStep 4 5 hA ok rfl rfl ?_; intro hA)
  | (refine w_PushStep 5 6 hA ok rfl rfl ?_; intro hA)
  | refine wp_true (by assumption) ?_
  | refine wp_false (by assumption) ?_)
    exact wp_ret_of ⟨j, rfl, rfl, rfl, ok, rp, hA⟩
  · rw [if_neg (by rw [he]; simp)]
    refine wp_false he ?_
    repeat (first
  | refine wp_nil.2 ?_
  | refine w_ld 0 hA ok rfl rfl rfl ?_
  | refine w_ld 1 hA ok rfl rfl rfl ?_
  | refine w_ld 2 hA ok rfl rfl rfl ?_
  | refine w_ld 3 hA ok rfl rfl rfl ?_
  | refine w_ld 4 hA ok rfl rfl rfl ?_
  | refine w_ld 5 hA ok rfl rfl rfl ?_
  | refine w_ld 6 hA ok rfl rfl rfl ?_
  | refine w_ld 7 hA ok rfl rfl rfl ?_
  | refine w_st 0 hA ok rfl rfl rfl rfl ?_
  | refine w_st 1 hA ok rfl rfl rfl rfl ?_
  | refine w_st 2 hA ok rfl rfl rfl rfl ?_
  | refine w_st 3 hA ok rfl rfl rfl rfl ?_
  | refine w_st 4 hA ok rfl rfl rfl rfl ?_
  | refine w_st 5 hA ok rfl rfl rfl rfl ?_
  | refine w_st 6 hA ok rfl rfl rfl rfl ?_
  | refine w_st 7 hA ok rfl rfl rfl rfl ?_
  | refine w_ldA 0 hA ok rfl rfl rfl ?_
  | refine w_ldA 1 hA ok rfl rfl rfl ?_
  | refine w_ldA 2 hA ok rfl rfl rfl ?_
  | refine w_ldA 3 hA ok rfl rfl rfl ?_
  | refine w_ldA 4 hA ok rfl rfl rfl ?_
  | refine w_ldA 5 hA ok rfl rfl rfl ?_
  | refine w_ldA 6 hA ok rfl rfl rfl ?_
  | refine w_ldA 7 hA ok rfl rfl rfl ?_
  | refine w_stA 0 hA ok rfl rfl rfl rfl ?_
  | refine w_stA 1 hA ok rfl rfl rfl rfl ?_
  | refine w_stA 2 hA ok rfl rfl rfl rfl ?_
  | refine w_stA 3 hA ok rfl rfl rfl rfl ?_
  | refine w_stA 4 hA ok rfl rfl rfl rfl ?_
  | refine w_stA 5 hA ok rfl rfl rfl rfl ?_
  | refine w_stA 6 hA ok rfl rfl rfl rfl ?_
  | refine w_stA 7 hA ok rfl rfl rfl rfl ?_
  | (refine w_Raw hA ?_; intro hA)
  | (refine w_SetRaw hA ?_; intro hA)
  | (refine w_SwapRaw hA ?_; intro hA)
  | (refine w_AddRaw hA ?_; intro hA)
  | (refine w_Load hA ?_; intro hA)
  | (refine w_Store hA ?_; intro hA)
  | (refine w_Retire hA ?_; intro hA)
  | (refine w_Died hA ?_; intro hA)
  | (refine w_Born hA ?_; intro hA)
  | refine w_State hA ?_
  | refine w_Uses hA ?_
  | refine w_Fault hA ?_
  | refine w_Words hA ?_
  | refine w_Count hA ?_
  | refine wq_Size ?_
  | refine wq_Open ?_
  | refine wq_Pack ?_
  | refine wq_head ?_
  | refine w_ck 0 hA ok rfl rfl rfl ?_
  | refine w_ck 1 hA ok rfl rfl rfl ?_
  | refine w_ck 2 hA ok rfl rfl rfl ?_
  | refine w_ck 3 hA ok rfl rfl rfl ?_
  | refine w_ck 4 hA ok rfl rfl rfl ?_
  | refine w_ck 5 hA ok rfl rfl rfl ?_
  | refine w_ck 6 hA ok rfl rfl rfl ?_
  | refine w_ck 7 hA ok rfl rfl rfl ?_
  | refine w_ckn rfl ?_
  | refine w_Base 0 1 hA ok rfl rfl ?_
  | refine w_Base 1 2 hA ok rfl rfl ?_
  | refine w_Base 2 3 hA ok rfl rfl ?_
  | refine w_Base 3 4 hA ok rfl rfl ?_
  | refine w_Base 4 5 hA ok rfl rfl ?_
  | refine w_Base 5 6 hA ok rfl rfl ?_
  | (refine w_PopStep 0 1 hA ok rfl rfl ?_; intro hA)
  | (refine w_PopStep 1 2 hA ok rfl rfl ?_; intro hA)
  | (refine w_PopStep 2 3 hA ok rfl rfl ?_; intro hA)
  | (refine w_PopStep 3 4 hA ok rfl rfl ?_; intro hA)
  | (refine w_PopStep 4 5 hA ok rfl rfl ?_; intro hA)
  | (refine w_PopStep 5 6 hA ok rfl rfl ?_; intro hA)
  | (refine w_PushStep 0 1 hA ok rfl rfl ?_; intro hA)
  | (refine w_PushStep 1 2 hA ok rfl rfl ?_; intro hA)
  | (refine w_PushStep 2 3 hA ok rfl rfl ?_; intro hA)
  | (refine w_PushStep 3 4 hA ok rfl rfl ?_; intro hA)
  | (refine w_PushStep 4 5 hA ok rfl rfl ?_; intro hA)
  | (refine w_PushStep 5 6 hA ok rfl rfl ?_; intro hA)
  | refine wp_true (by assumption) ?_
  | refine wp_false (by assumption) ?_)
    rcases fr he with ⟨f1, f2, f3, f4⟩ | ⟨f1, f2, f3⟩
    · rw [if_pos f1]
      refine wp_true (decide_eq_true f1) ?_
      rw [Sc.bl_u j f2] at ok ⊢
      repeat (first
  | refine wp_nil.2 ?_
  | refine w_ld 0 hA ok rfl rfl rfl ?_
  | refine w_ld 1 hA ok rfl rfl rfl ?_
  | refine w_ld 2 hA ok rfl rfl rfl ?_
  | refine w_ld 3 hA ok rfl rfl rfl ?_
  | refine w_ld 4 hA ok rfl rfl rfl ?_
  | refine w_ld 5 hA ok rfl rfl rfl ?_
  | refine w_ld 6 hA ok rfl rfl rfl ?_
  | refine w_ld 7 hA ok rfl rfl rfl ?_
  | refine w_st 0 hA ok rfl rfl rfl rfl ?_
  | refine w_st 1 hA ok rfl rfl rfl rfl ?_
  | refine w_st 2 hA ok rfl rfl rfl rfl ?_
  | refine w_st 3 hA ok rfl rfl rfl rfl ?_
  | refine w_st 4 hA ok rfl rfl rfl rfl ?_
  | refine w_st 5 hA ok rfl rfl rfl rfl ?_
  | refine w_st 6 hA ok rfl rfl rfl rfl ?_
  | refine w_st 7 hA ok rfl rfl rfl rfl ?_
  | refine w_ldA 0 hA ok rfl rfl rfl ?_
  | refine w_ldA 1 hA ok rfl rfl rfl ?_
  | refine w_ldA 2 hA ok rfl rfl rfl ?_
  | refine w_ldA 3 hA ok rfl rfl rfl ?_
  | refine w_ldA 4 hA ok rfl rfl rfl ?_
  | refine w_ldA 5 hA ok rfl rfl rfl ?_
  | refine w_ldA 6 hA ok rfl rfl rfl ?_
  | refine w_ldA 7 hA ok rfl rfl rfl ?_
  | refine w_stA 0 hA ok rfl rfl rfl rfl ?_
  | refine w_stA 1 hA ok rfl rfl rfl rfl ?_
  | refine w_stA 2 hA ok rfl rfl rfl rfl ?_
  | refine w_stA 3 hA ok rfl rfl rfl rfl ?_
  | refine w_stA 4 hA ok rfl rfl rfl rfl ?_
  | refine w_stA 5 hA ok rfl rfl rfl rfl ?_
  | refine w_stA 6 hA ok rfl rfl rfl rfl ?_
  | refine w_stA 7 hA ok rfl rfl rfl rfl ?_
  | (refine w_Raw hA ?_; intro hA)
  | (refine w_SetRaw hA ?_; intro hA)
  | (refine w_SwapRaw hA ?_; intro hA)
  | (refine w_AddRaw hA ?_; intro hA)
  | (refine w_Load hA ?_; intro hA)
  | (refine w_Store hA ?_; intro hA)
  | (refine w_Retire hA ?_; intro hA)
  | (refine w_Died hA ?_; intro hA)
  | (refine w_Born hA ?_; intro hA)
  | refine w_State hA ?_
  | refine w_Uses hA ?_
  | refine w_Fault hA ?_
  | refine w_Words hA ?_
  | refine w_Count hA ?_
  | refine wq_Size ?_
  | refine wq_Open ?_
  | refine wq_Pack ?_
  | refine wq_head ?_
  | refine w_ck 0 hA ok rfl rfl rfl ?_
  | refine w_ck 1 hA ok rfl rfl rfl ?_
  | refine w_ck 2 hA ok rfl rfl rfl ?_
  | refine w_ck 3 hA ok rfl rfl rfl ?_
  | refine w_ck 4 hA ok rfl rfl rfl ?_
  | refine w_ck 5 hA ok rfl rfl rfl ?_
  | refine w_ck 6 hA ok rfl rfl rfl ?_
  | refine w_ck 7 hA ok rfl rfl rfl ?_
  | refine w_ckn rfl ?_
  | refine w_Base 0 1 hA ok rfl rfl ?_
  | refine w_Base 1 2 hA ok rfl rfl ?_
  | refine w_Base 2 3 hA ok rfl rfl ?_
  | refine w_Base 3 4 hA ok rfl rfl ?_
  | refine w_Base 4 5 hA ok rfl rfl ?_
  | refine w_Base 5 6 hA ok rfl rfl ?_
  | (refine w_PopStep 0 1 hA ok rfl rfl ?_; intro hA)
  | (refine w_PopStep 1 2 hA ok rfl rfl ?_; intro hA)
  | (refine w_PopStep 2 3 hA ok rfl rfl ?_; intro hA)
  | (refine w_PopStep 3 4 hA ok rfl rfl ?_; intro hA)
  | (refine w_PopStep 4 5 hA ok rfl rfl ?_; intro hA)
  | (refine w_PopStep 5 6 hA ok rfl rfl ?_; intro hA)
  | (refine w_PushStep 0 1 hA ok rfl rfl ?_; intro hA)
  | (refine w_PushStep 1 2 hA ok rfl rfl ?_; intro hA)
  | (refine w_PushStep 2 3 hA ok rfl rfl ?_; intro hA)
  | (refine w_PushStep 3 4 hA ok rfl rfl ?_; intro hA)
  | (refine w_PushStep 4 5 hA ok rfl rfl ?_; intro hA)
  | (refine w_PushStep 5 6 hA ok rfl rfl ?_; intro hA)
  | refine wp_true (by assumption) ?_
  | refine wp_false (by assumption) ?_)
      rw [opS_mapTrue]
      refine w_mapPut 1 (enc := Value.bool) (v := true) hA ok rfl rfl rfl ?_
      repeat (first
  | refine wp_nil.2 ?_
  | refine w_ld 0 hA ok rfl rfl rfl ?_
  | refine w_ld 1 hA ok rfl rfl rfl ?_
  | refine w_ld 2 hA ok rfl rfl rfl ?_
  | refine w_ld 3 hA ok rfl rfl rfl ?_
  | refine w_ld 4 hA ok rfl rfl rfl ?_
  | refine w_ld 5 hA ok rfl rfl rfl ?_
  | refine w_ld 6 hA ok rfl rfl rfl ?_
  | refine w_ld 7 hA ok rfl rfl rfl ?_
  | refine w_st 0 hA ok rfl rfl rfl rfl ?_
  | refine w_st 1 hA ok rfl rfl rfl rfl ?_
  | refine w_st 2 hA ok rfl rfl rfl rfl ?_
  | refine w_st 3 hA ok rfl rfl rfl rfl ?_
  | refine w_st 4 hA ok rfl rfl rfl rfl ?_
  | refine w_st 5 hA ok rfl rfl rfl rfl ?_
  | refine w_st 6 hA ok rfl rfl rfl rfl ?_
  | refine w_st 7 hA ok rfl rfl rfl rfl ?_
  | refine w_ldA 0 hA ok rfl rfl rfl ?_
  | refine w_ldA 1 hA ok rfl rfl rfl ?_
  | refine w_ldA 2 hA ok rfl rfl rfl ?_
  | refine w_ldA 3 hA ok rfl rfl rfl ?_
  | refine w_ldA 4 hA ok rfl rfl rfl ?_
  | refine w_ldA 5 hA ok rfl rfl rfl ?_
  | refine w_ldA 6 hA ok rfl rfl rfl ?_
  | refine w_ldA 7 hA ok rfl rfl rfl ?_
  | refine w_stA 0 hA ok rfl rfl rfl rfl ?_
  | refine w_stA 1 hA ok rfl rfl rfl rfl ?_
  | refine w_stA 2 hA ok rfl rfl rfl rfl ?_
  | refine w_stA 3 hA ok rfl rfl rfl rfl ?_
  | refine w_stA 4 hA ok rfl rfl rfl rfl ?_
  | refine w_stA 5 hA ok rfl rfl rfl rfl ?_
  | refine w_stA 6 hA ok rfl rfl rfl rfl ?_
  | refine w_stA 7 hA ok rfl rfl rfl rfl ?_
  | (refine w_Raw hA ?_; intro hA)
  | (refine w_SetRaw hA ?_; intro hA)
  | (refine w_SwapRaw hA ?_; intro hA)
  | (refine w_AddRaw hA ?_; intro hA)
  | (refine w_Load hA ?_; intro hA)
  | (refine w_Store hA ?_; intro hA)
  | (refine w_Retire hA ?_; intro hA)
  | (refine w_Died hA ?_; intro hA)
  | (refine w_Born hA ?_; intro hA)
  | refine w_State hA ?_
  | refine w_Uses hA ?_
  | refine w_Fault hA ?_
  | refine w_Words hA ?_
  | refine w_Count hA ?_
  | refine wq_Size ?_
  | refine wq_Open ?_
  | refine wq_Pack ?_
  | refine wq_head ?_
  | refine w_ck 0 hA ok rfl rfl rfl ?_
  | refine w_ck 1 hA ok rfl rfl rfl ?_
  | refine w_ck 2 hA ok rfl rfl rfl ?_
  | refine w_ck 3 hA ok rfl rfl rfl ?_
  | refine w_ck 4 hA ok rfl rfl rfl ?_
  | refine w_ck 5 hA ok rfl rfl rfl ?_
  | refine w_ck 6 hA ok rfl rfl rfl ?_
  | refine w_ck 7 hA ok rfl rfl rfl ?_
  | refine w_ckn rfl ?_
  | refine w_Base 0 1 hA ok rfl rfl ?_
  | refine w_Base 1 2 hA ok rfl rfl ?_
  | refine w_Base 2 3 hA ok rfl rfl ?_
  | refine w_Base 3 4 hA ok rfl rfl ?_
  | refine w_Base 4 5 hA ok rfl rfl ?_
  | refine w_Base 5 6 hA ok rfl rfl ?_
  | (refine w_PopStep 0 1 hA ok rfl rfl ?_; intro hA)
  | (refine w_PopStep 1 2 hA ok rfl rfl ?_; intro hA)
  | (refine w_PopStep 2 3 hA ok rfl rfl ?_; intro hA)
  | (refine w_PopStep 3 4 hA ok rfl rfl ?_; intro hA)
  | (refine w_PopStep 4 5 hA ok rfl rfl ?_; intro hA)
  | (refine w_PopStep 5 6 hA ok rfl rfl ?_; intro hA)
  | (refine w_PushStep 0 1 hA ok rfl rfl ?_; intro hA)
  | (refine w_PushStep 1 2 hA ok rfl rfl ?_; intro hA)
  | (refine w_PushStep 2 3 hA ok rfl rfl ?_; intro hA)
  | (refine w_PushStep 3 4 hA ok rfl rfl ?_; intro hA)
  | (refine w_PushStep 4 5 hA ok rfl rfl ?_; intro hA)
  | (refine w_PushStep 5 6 hA ok rfl rfl ?_; intro hA)
  | refine wp_true (by assumption) ?_
  | refine wp_false (by assumption) ?_)
      have e3 : w64 (m.word + 1) = m.word + 1 := w64_in (by omega) (by omega)
      rw [e3]
      have eb : (m.word1 A).bl j = (j.q, oc ty_hazard_Scan ((m.word1 A).cells j)) :: (j.mq, mapObj Value.bool (m.word1 A).seen) :: (fbl m.frees j.fj ++ (j.tls ++ (j.tfs ++ j.tds))) := Sc.bl_u (m := m.word1 A) j f2
      have ok1 : Ok I G (keys ((m.word1 A).bl j)) := by rw [eb]; exact ok
      have rp1 : (m.word1 A).rep j := ⟨rp.ls, rp.fs, rp.ds, rp.fl, rp.un⟩
      by_cases hw : m.word + 1 = 2 * m.tw
      · rw [if_pos hw]
        refine wp_true (ibeq hw) (own_conv eb ?_)
        refine wp_call_of (sort_spec (m.word1 A) j hA ok1 rp1 f2 f3 f4 ll) ?_
        rintro v K ⟨j', rfl, rfl, eq, ok, rp'⟩
        refine ⟨(), rfl, ?_⟩
        rw [← eq]
        repeat (first
  | refine wp_nil.2 ?_
  | refine w_ld 0 hA ok rfl rfl rfl ?_
  | refine w_ld 1 hA ok rfl rfl rfl ?_
  | refine w_ld 2 hA ok rfl rfl rfl ?_
  | refine w_ld 3 hA ok rfl rfl rfl ?_
  | refine w_ld 4 hA ok rfl rfl rfl ?_
  | refine w_ld 5 hA ok rfl rfl rfl ?_
  | refine w_ld 6 hA ok rfl rfl rfl ?_
  | refine w_ld 7 hA ok rfl rfl rfl ?_
  | refine w_st 0 hA ok rfl rfl rfl rfl ?_
  | refine w_st 1 hA ok rfl rfl rfl rfl ?_
  | refine w_st 2 hA ok rfl rfl rfl rfl ?_
  | refine w_st 3 hA ok rfl rfl rfl rfl ?_
  | refine w_st 4 hA ok rfl rfl rfl rfl ?_
  | refine w_st 5 hA ok rfl rfl rfl rfl ?_
  | refine w_st 6 hA ok rfl rfl rfl rfl ?_
  | refine w_st 7 hA ok rfl rfl rfl rfl ?_
  | refine w_ldA 0 hA ok rfl rfl rfl ?_
  | refine w_ldA 1 hA ok rfl rfl rfl ?_
  | refine w_ldA 2 hA ok rfl rfl rfl ?_
  | refine w_ldA 3 hA ok rfl rfl rfl ?_
  | refine w_ldA 4 hA ok rfl rfl rfl ?_
  | refine w_ldA 5 hA ok rfl rfl rfl ?_
  | refine w_ldA 6 hA ok rfl rfl rfl ?_
  | refine w_ldA 7 hA ok rfl rfl rfl ?_
  | refine w_stA 0 hA ok rfl rfl rfl rfl ?_
  | refine w_stA 1 hA ok rfl rfl rfl rfl ?_
  | refine w_stA 2 hA ok rfl rfl rfl rfl ?_
  | refine w_stA 3 hA ok rfl rfl rfl rfl ?_
  | refine w_stA 4 hA ok rfl rfl rfl rfl ?_
  | refine w_stA 5 hA ok rfl rfl rfl rfl ?_
  | refine w_stA 6 hA ok rfl rfl rfl rfl ?_
  | refine w_stA 7 hA ok rfl rfl rfl rfl ?_
  | (refine w_Raw hA ?_; intro hA)
  | (refine w_SetRaw hA ?_; intro hA)
  | (refine w_SwapRaw hA ?_; intro hA)
  | (refine w_AddRaw hA ?_; intro hA)
  | (refine w_Load hA ?_; intro hA)
  | (refine w_Store hA ?_; intro hA)
  | (refine w_Retire hA ?_; intro hA)
  | (refine w_Died hA ?_; intro hA)
  | (refine w_Born hA ?_; intro hA)
  | refine w_State hA ?_
  | refine w_Uses hA ?_
  | refine w_Fault hA ?_
  | refine w_Words hA ?_
  | refine w_Count hA ?_
  | refine wq_Size ?_
  | refine wq_Open ?_
  | refine wq_Pack ?_
  | refine wq_head ?_
  | refine w_ck 0 hA ok rfl rfl rfl ?_
  | refine w_ck 1 hA ok rfl rfl rfl ?_
  | refine w_ck 2 hA ok rfl rfl rfl ?_
  | refine w_ck 3 hA ok rfl rfl rfl ?_
  | refine w_ck 4 hA ok rfl rfl rfl ?_
  | refine w_ck 5 hA ok rfl rfl rfl ?_
  | refine w_ck 6 hA ok rfl rfl rfl ?_
  | refine w_ck 7 hA ok rfl rfl rfl ?_
  | refine w_ckn rfl ?_
  | refine w_Base 0 1 hA ok rfl rfl ?_
  | refine w_Base 1 2 hA ok rfl rfl ?_
  | refine w_Base 2 3 hA ok rfl rfl ?_
  | refine w_Base 3 4 hA ok rfl rfl ?_
  | refine w_Base 4 5 hA ok rfl rfl ?_
  | refine w_Base 5 6 hA ok rfl rfl ?_
  | (refine w_PopStep 0 1 hA ok rfl rfl ?_; intro hA)
  | (refine w_PopStep 1 2 hA ok rfl rfl ?_; intro hA)
  | (refine w_PopStep 2 3 hA ok rfl rfl ?_; intro hA)
  | (refine w_PopStep 3 4 hA ok rfl rfl ?_; intro hA)
  | (refine w_PopStep 4 5 hA ok rfl rfl ?_; intro hA)
  | (refine w_PopStep 5 6 hA ok rfl rfl ?_; intro hA)
  | (refine w_PushStep 0 1 hA ok rfl rfl ?_; intro hA)
  | (refine w_PushStep 1 2 hA ok rfl rfl ?_; intro hA)
  | (refine w_PushStep 2 3 hA ok rfl rfl ?_; intro hA)
  | (refine w_PushStep 3 4 hA ok rfl rfl ?_; intro hA)
  | (refine w_PushStep 4 5 hA ok rfl rfl ?_; intro hA)
  | (refine w_PushStep 5 6 hA ok rfl rfl ?_; intro hA)
  | refine wp_true (by assumption) ?_
  | refine wp_false (by assumption) ?_)
        exact wp_ret_of ⟨j', rfl, rfl, rfl, ok, rp', hA⟩
      · rw [if_neg hw]
        refine wp_false (ibef hw) ?_
        repeat (first
  | refine wp_nil.2 ?_
  | refine w_ld 0 hA ok rfl rfl rfl ?_
  | refine w_ld 1 hA ok rfl rfl rfl ?_
  | refine w_ld 2 hA ok rfl rfl rfl ?_
  | refine w_ld 3 hA ok rfl rfl rfl ?_
  | refine w_ld 4 hA ok rfl rfl rfl ?_
  | refine w_ld 5 hA ok rfl rfl rfl ?_
  | refine w_ld 6 hA ok rfl rfl rfl ?_
  | refine w_ld 7 hA ok rfl rfl rfl ?_
  | refine w_st 0 hA ok rfl rfl rfl rfl ?_
  | refine w_st 1 hA ok rfl rfl rfl rfl ?_
  | refine w_st 2 hA ok rfl rfl rfl rfl ?_
  | refine w_st 3 hA ok rfl rfl rfl rfl ?_
  | refine w_st 4 hA ok rfl rfl rfl rfl ?_
  | refine w_st 5 hA ok rfl rfl rfl rfl ?_
  | refine w_st 6 hA ok rfl rfl rfl rfl ?_
  | refine w_st 7 hA ok rfl rfl rfl rfl ?_
  | refine w_ldA 0 hA ok rfl rfl rfl ?_
  | refine w_ldA 1 hA ok rfl rfl rfl ?_
  | refine w_ldA 2 hA ok rfl rfl rfl ?_
  | refine w_ldA 3 hA ok rfl rfl rfl ?_
  | refine w_ldA 4 hA ok rfl rfl rfl ?_
  | refine w_ldA 5 hA ok rfl rfl rfl ?_
  | refine w_ldA 6 hA ok rfl rfl rfl ?_
  | refine w_ldA 7 hA ok rfl rfl rfl ?_
  | refine w_stA 0 hA ok rfl rfl rfl rfl ?_
  | refine w_stA 1 hA ok rfl rfl rfl rfl ?_
  | refine w_stA 2 hA ok rfl rfl rfl rfl ?_
  | refine w_stA 3 hA ok rfl rfl rfl rfl ?_
  | refine w_stA 4 hA ok rfl rfl rfl rfl ?_
  | refine w_stA 5 hA ok rfl rfl rfl rfl ?_
  | refine w_stA 6 hA ok rfl rfl rfl rfl ?_
  | refine w_stA 7 hA ok rfl rfl rfl rfl ?_
  | (refine w_Raw hA ?_; intro hA)
  | (refine w_SetRaw hA ?_; intro hA)
  | (refine w_SwapRaw hA ?_; intro hA)
  | (refine w_AddRaw hA ?_; intro hA)
  | (refine w_Load hA ?_; intro hA)
  | (refine w_Store hA ?_; intro hA)
  | (refine w_Retire hA ?_; intro hA)
  | (refine w_Died hA ?_; intro hA)
  | (refine w_Born hA ?_; intro hA)
  | refine w_State hA ?_
  | refine w_Uses hA ?_
  | refine w_Fault hA ?_
  | refine w_Words hA ?_
  | refine w_Count hA ?_
  | refine wq_Size ?_
  | refine wq_Open ?_
  | refine wq_Pack ?_
  | refine wq_head ?_
  | refine w_ck 0 hA ok rfl rfl rfl ?_
  | refine w_ck 1 hA ok rfl rfl rfl ?_
  | refine w_ck 2 hA ok rfl rfl rfl ?_
  | refine w_ck 3 hA ok rfl rfl rfl ?_
  | refine w_ck 4 hA ok rfl rfl rfl ?_
  | refine w_ck 5 hA ok rfl rfl rfl ?_
  | refine w_ck 6 hA ok rfl rfl rfl ?_
  | refine w_ck 7 hA ok rfl rfl rfl ?_
  | refine w_ckn rfl ?_
  | refine w_Base 0 1 hA ok rfl rfl ?_
  | refine w_Base 1 2 hA ok rfl rfl ?_
  | refine w_Base 2 3 hA ok rfl rfl ?_
  | refine w_Base 3 4 hA ok rfl rfl ?_
  | refine w_Base 4 5 hA ok rfl rfl ?_
  | refine w_Base 5 6 hA ok rfl rfl ?_
  | (refine w_PopStep 0 1 hA ok rfl rfl ?_; intro hA)
  | (refine w_PopStep 1 2 hA ok rfl rfl ?_; intro hA)
  | (refine w_PopStep 2 3 hA ok rfl rfl ?_; intro hA)
  | (refine w_PopStep 3 4 hA ok rfl rfl ?_; intro hA)
  | (refine w_PopStep 4 5 hA ok rfl rfl ?_; intro hA)
  | (refine w_PopStep 5 6 hA ok rfl rfl ?_; intro hA)
  | (refine w_PushStep 0 1 hA ok rfl rfl ?_; intro hA)
  | (refine w_PushStep 1 2 hA ok rfl rfl ?_; intro hA)
  | (refine w_PushStep 2 3 hA ok rfl rfl ?_; intro hA)
  | (refine w_PushStep 3 4 hA ok rfl rfl ?_; intro hA)
  | (refine w_PushStep 4 5 hA ok rfl rfl ?_; intro hA)
  | (refine w_PushStep 5 6 hA ok rfl rfl ?_; intro hA)
  | refine wp_true (by assumption) ?_
  | refine wp_false (by assumption) ?_)
        refine own_conv eb ?_
        refine wp_ret_of ⟨j, ?_, rfl, rfl, ok1, rp1, hA⟩
        first | rfl | (rw [show (m.word1 A).ended = m.ended from rfl, he])
    · rw [if_neg (by omega)]
      refine wp_false (decide_eq_false (by show ¬ m.word < 2 * m.tw; omega)) (wp_false (ibef (by omega)) ?_)
      obtain ⟨f, fs, efs⟩ : ∃ f fs, m.frees = f :: fs := by
        cases h : m.frees with
        | nil => exact (f3 h).elim
        | cons f fs => exact ⟨f, fs, rfl⟩
      obtain ⟨jf, js, ejs⟩ : ∃ jf js, j.fj = jf :: js := by
        have := rp.fl
        cases h : j.fj with
        | nil => rw [efs, h] at this; cases this
        | cons f fs => exact ⟨f, fs, rfl⟩
      have rfs := rp.fs
      rw [ejs] at rfs
      have hl0 : (0 : Int) < (j.fs.len : Int) := by have := rfs.len; simp at this; omega
      rw [efs]
      dsimp only
      have sb := Sc.bl_s j f2
      rw [efs, ejs] at sb
      simp only [fbl] at sb
      rw [sb] at ok ⊢
      repeat (first
  | refine wp_nil.2 ?_
  | refine w_ld 0 hA ok rfl rfl rfl ?_
  | refine w_ld 1 hA ok rfl rfl rfl ?_
  | refine w_ld 2 hA ok rfl rfl rfl ?_
  | refine w_ld 3 hA ok rfl rfl rfl ?_
  | refine w_ld 4 hA ok rfl rfl rfl ?_
  | refine w_ld 5 hA ok rfl rfl rfl ?_
  | refine w_ld 6 hA ok rfl rfl rfl ?_
  | refine w_ld 7 hA ok rfl rfl rfl ?_
  | refine w_st 0 hA ok rfl rfl rfl rfl ?_
  | refine w_st 1 hA ok rfl rfl rfl rfl ?_
  | refine w_st 2 hA ok rfl rfl rfl rfl ?_
  | refine w_st 3 hA ok rfl rfl rfl rfl ?_
  | refine w_st 4 hA ok rfl rfl rfl rfl ?_
  | refine w_st 5 hA ok rfl rfl rfl rfl ?_
  | refine w_st 6 hA ok rfl rfl rfl rfl ?_
  | refine w_st 7 hA ok rfl rfl rfl rfl ?_
  | refine w_ldA 0 hA ok rfl rfl rfl ?_
  | refine w_ldA 1 hA ok rfl rfl rfl ?_
  | refine w_ldA 2 hA ok rfl rfl rfl ?_
  | refine w_ldA 3 hA ok rfl rfl rfl ?_
  | refine w_ldA 4 hA ok rfl rfl rfl ?_
  | refine w_ldA 5 hA ok rfl rfl rfl ?_
  | refine w_ldA 6 hA ok rfl rfl rfl ?_
  | refine w_ldA 7 hA ok rfl rfl rfl ?_
  | refine w_stA 0 hA ok rfl rfl rfl rfl ?_
  | refine w_stA 1 hA ok rfl rfl rfl rfl ?_
  | refine w_stA 2 hA ok rfl rfl rfl rfl ?_
  | refine w_stA 3 hA ok rfl rfl rfl rfl ?_
  | refine w_stA 4 hA ok rfl rfl rfl rfl ?_
  | refine w_stA 5 hA ok rfl rfl rfl rfl ?_
  | refine w_stA 6 hA ok rfl rfl rfl rfl ?_
  | refine w_stA 7 hA ok rfl rfl rfl rfl ?_
  | (refine w_Raw hA ?_; intro hA)
  | (refine w_SetRaw hA ?_; intro hA)
  | (refine w_SwapRaw hA ?_; intro hA)
  | (refine w_AddRaw hA ?_; intro hA)
  | (refine w_Load hA ?_; intro hA)
  | (refine w_Store hA ?_; intro hA)
  | (refine w_Retire hA ?_; intro hA)
  | (refine w_Died hA ?_; intro hA)
  | (refine w_Born hA ?_; intro hA)
  | refine w_State hA ?_
  | refine w_Uses hA ?_
  | refine w_Fault hA ?_
  | refine w_Words hA ?_
  | refine w_Count hA ?_
  | refine wq_Size ?_
  | refine wq_Open ?_
  | refine wq_Pack ?_
  | refine wq_head ?_
  | refine w_ck 0 hA ok rfl rfl rfl ?_
  | refine w_ck 1 hA ok rfl rfl rfl ?_
  | refine w_ck 2 hA ok rfl rfl rfl ?_
  | refine w_ck 3 hA ok rfl rfl rfl ?_
  | refine w_ck 4 hA ok rfl rfl rfl ?_
  | refine w_ck 5 hA ok rfl rfl rfl ?_
  | refine w_ck 6 hA ok rfl rfl rfl ?_
  | refine w_ck 7 hA ok rfl rfl rfl ?_
  | refine w_ckn rfl ?_
  | refine w_Base 0 1 hA ok rfl rfl ?_
  | refine w_Base 1 2 hA ok rfl rfl ?_
  | refine w_Base 2 3 hA ok rfl rfl ?_
  | refine w_Base 3 4 hA ok rfl rfl ?_
  | refine w_Base 4 5 hA ok rfl rfl ?_
  | refine w_Base 5 6 hA ok rfl rfl ?_
  | (refine w_PopStep 0 1 hA ok rfl rfl ?_; intro hA)
  | (refine w_PopStep 1 2 hA ok rfl rfl ?_; intro hA)
  | (refine w_PopStep 2 3 hA ok rfl rfl ?_; intro hA)
  | (refine w_PopStep 3 4 hA ok rfl rfl ?_; intro hA)
  | (refine w_PopStep 4 5 hA ok rfl rfl ?_; intro hA)
  | (refine w_PopStep 5 6 hA ok rfl rfl ?_; intro hA)
  | (refine w_PushStep 0 1 hA ok rfl rfl ?_; intro hA)
  | (refine w_PushStep 1 2 hA ok rfl rfl ?_; intro hA)
  | (refine w_PushStep 2 3 hA ok rfl rfl ?_; intro hA)
  | (refine w_PushStep 3 4 hA ok rfl rfl ?_; intro hA)
  | (refine w_PushStep 4 5 hA ok rfl rfl ?_; intro hA)
  | (refine w_PushStep 5 6 hA ok rfl rfl ?_; intro hA)
  | refine wp_true (by assumption) ?_
  | refine wp_false (by assumption) ?_)
      refine rdP0 hA ok (rfs.mono fun p hp => List.mem_cons_of_mem _ (List.mem_append_right _ (List.mem_append_right _ (List.mem_append_left _ hp)))) ?_
      obtain ⟨p1, ok2⟩ := own_perm (A := A) (l' := f.bl jf ++ ((j.q, oc ty_hazard_Scan (m.cells j)) :: (fbl fs js ++ (j.tls ++ (j.tfs ++ j.tds))))) ok (perm_by fun c d c0 cd ca => by simp only [cd, ca, c0]; omega)
      rw [p1]
      have ok3 : Ok I G (keys (f.bl jf) ++ keys ((j.q, oc ty_hazard_Scan (m.cells j)) :: (fbl fs js ++ (j.tls ++ (j.tfs ++ j.tds))))) := by rw [← keys_append]; exact ok2
      obtain ⟨o1, o2⟩ := ok3.split
      refine w_sub (mFe_ok I A _ f jf hA o1 trivial) ?_
      rintro v K ⟨jf', rfl, rfl, ej, o3, hA'⟩
      refine ⟨(f.step A).1.done, rfl, ?_⟩
      have hA := hA'
      show wp Try.prog _ L (own (f.step A).2 ((f.step A).1.bl jf') (putL _ G)) _
      rw [← own_append]
      have o4 : Ok I G (keys ((f.step A).1.bl jf' ++ ((j.q, oc ty_hazard_Scan (m.cells j)) :: (fbl fs js ++ (j.tls ++ (j.tfs ++ j.tds)))))) := by rw [keys_append]; exact o3.join o2
      obtain ⟨p2, ok5⟩ := own_perm (A := (f.step A).2) (l' := (j.q, oc ty_hazard_Scan (m.cells j)) :: (((f.step A).1.bl jf' ++ fbl fs js) ++ (j.tls ++ (j.tfs ++ j.tds)))) o4 (perm_by fun c d c0 cd ca => by simp only [cd, ca, c0]; omega)
      have ok := ok5
      have p3 : own (f.step A).2 (Fe.bl (f.step A).1 jf' ++ ((j.q, oc ty_hazard_Scan (m.cells j)) :: (fbl fs js ++ (j.tls ++ (j.tfs ++ j.tds))))) G = _ := p2
      rw [p3]
      by_cases hd : (f.step A).1.done = true
      · rw [if_pos hd]
        refine wp_true hd ?_
        repeat (first
  | refine wp_nil.2 ?_
  | refine w_ld 0 hA ok rfl rfl rfl ?_
  | refine w_ld 1 hA ok rfl rfl rfl ?_
  | refine w_ld 2 hA ok rfl rfl rfl ?_
  | refine w_ld 3 hA ok rfl rfl rfl ?_
  | refine w_ld 4 hA ok rfl rfl rfl ?_
  | refine w_ld 5 hA ok rfl rfl rfl ?_
  | refine w_ld 6 hA ok rfl rfl rfl ?_
  | refine w_ld 7 hA ok rfl rfl rfl ?_
  | refine w_st 0 hA ok rfl rfl rfl rfl ?_
  | refine w_st 1 hA ok rfl rfl rfl rfl ?_
  | refine w_st 2 hA ok rfl rfl rfl rfl ?_
  | refine w_st 3 hA ok rfl rfl rfl rfl ?_
  | refine w_st 4 hA ok rfl rfl rfl rfl ?_
  | refine w_st 5 hA ok rfl rfl rfl rfl ?_
  | refine w_st 6 hA ok rfl rfl rfl rfl ?_
  | refine w_st 7 hA ok rfl rfl rfl rfl ?_
  | refine w_ldA 0 hA ok rfl rfl rfl ?_
  | refine w_ldA 1 hA ok rfl rfl rfl ?_
  | refine w_ldA 2 hA ok rfl rfl rfl ?_
  | refine w_ldA 3 hA ok rfl rfl rfl ?_
  | refine w_ldA 4 hA ok rfl rfl rfl ?_
  | refine w_ldA 5 hA ok rfl rfl rfl ?_
  | refine w_ldA 6 hA ok rfl rfl rfl ?_
  | refine w_ldA 7 hA ok rfl rfl rfl ?_
  | refine w_stA 0 hA ok rfl rfl rfl rfl ?_
  | refine w_stA 1 hA ok rfl rfl rfl rfl ?_
  | refine w_stA 2 hA ok rfl rfl rfl rfl ?_
  | refine w_stA 3 hA ok rfl rfl rfl rfl ?_
  | refine w_stA 4 hA ok rfl rfl rfl rfl ?_
  | refine w_stA 5 hA ok rfl rfl rfl rfl ?_
  | refine w_stA 6 hA ok rfl rfl rfl rfl ?_
  | refine w_stA 7 hA ok rfl rfl rfl rfl ?_
  | (refine w_Raw hA ?_; intro hA)
  | (refine w_SetRaw hA ?_; intro hA)
  | (refine w_SwapRaw hA ?_; intro hA)
  | (refine w_AddRaw hA ?_; intro hA)
  | (refine w_Load hA ?_; intro hA)
  | (refine w_Store hA ?_; intro hA)
  | (refine w_Retire hA ?_; intro hA)
  | (refine w_Died hA ?_; intro hA)
  | (refine w_Born hA ?_; intro hA)
  | refine w_State hA ?_
  | refine w_Uses hA ?_
  | refine w_Fault hA ?_
  | refine w_Words hA ?_
  | refine w_Count hA ?_
  | refine wq_Size ?_
  | refine wq_Open ?_
  | refine wq_Pack ?_
  | refine wq_head ?_
  | refine w_ck 0 hA ok rfl rfl rfl ?_
  | refine w_ck 1 hA ok rfl rfl rfl ?_
  | refine w_ck 2 hA ok rfl rfl rfl ?_
  | refine w_ck 3 hA ok rfl rfl rfl ?_
  | refine w_ck 4 hA ok rfl rfl rfl ?_
  | refine w_ck 5 hA ok rfl rfl rfl ?_
  | refine w_ck 6 hA ok rfl rfl rfl ?_
  | refine w_ck 7 hA ok rfl rfl rfl ?_
  | refine w_ckn rfl ?_
  | refine w_Base 0 1 hA ok rfl rfl ?_
  | refine w_Base 1 2 hA ok rfl rfl ?_
  | refine w_Base 2 3 hA ok rfl rfl ?_
  | refine w_Base 3 4 hA ok rfl rfl ?_
  | refine w_Base 4 5 hA ok rfl rfl ?_
  | refine w_Base 5 6 hA ok rfl rfl ?_
  | (refine w_PopStep 0 1 hA ok rfl rfl ?_; intro hA)
  | (refine w_PopStep 1 2 hA ok rfl rfl ?_; intro hA)
  | (refine w_PopStep 2 3 hA ok rfl rfl ?_; intro hA)
  | (refine w_PopStep 3 4 hA ok rfl rfl ?_; intro hA)
  | (refine w_PopStep 4 5 hA ok rfl rfl ?_; intro hA)
  | (refine w_PopStep 5 6 hA ok rfl rfl ?_; intro hA)
  | (refine w_PushStep 0 1 hA ok rfl rfl ?_; intro hA)
  | (refine w_PushStep 1 2 hA ok rfl rfl ?_; intro hA)
  | (refine w_PushStep 2 3 hA ok rfl rfl ?_; intro hA)
  | (refine w_PushStep 3 4 hA ok rfl rfl ?_; intro hA)
  | (refine w_PushStep 4 5 hA ok rfl rfl ?_; intro hA)
  | (refine w_PushStep 5 6 hA ok rfl rfl ?_; intro hA)
  | refine wp_true (by assumption) ?_
  | refine wp_false (by assumption) ?_)
        obtain ⟨tl1, tl2⟩ := rfs.tail
        rw [opS_lo1]
        refine look_val (x := loSl j.fs 1) (opS_sliceLo (e := ty_p_slab_Free) rfl rfl rfl (by omega) tl2) ?_
        repeat (first
  | refine wp_nil.2 ?_
  | refine w_ld 0 hA ok rfl rfl rfl ?_
  | refine w_ld 1 hA ok rfl rfl rfl ?_
  | refine w_ld 2 hA ok rfl rfl rfl ?_
  | refine w_ld 3 hA ok rfl rfl rfl ?_
  | refine w_ld 4 hA ok rfl rfl rfl ?_
  | refine w_ld 5 hA ok rfl rfl rfl ?_
  | refine w_ld 6 hA ok rfl rfl rfl ?_
  | refine w_ld 7 hA ok rfl rfl rfl ?_
  | refine w_st 0 hA ok rfl rfl rfl rfl ?_
  | refine w_st 1 hA ok rfl rfl rfl rfl ?_
  | refine w_st 2 hA ok rfl rfl rfl rfl ?_
  | refine w_st 3 hA ok rfl rfl rfl rfl ?_
  | refine w_st 4 hA ok rfl rfl rfl rfl ?_
  | refine w_st 5 hA ok rfl rfl rfl rfl ?_
  | refine w_st 6 hA ok rfl rfl rfl rfl ?_
  | refine w_st 7 hA ok rfl rfl rfl rfl ?_
  | refine w_ldA 0 hA ok rfl rfl rfl ?_
  | refine w_ldA 1 hA ok rfl rfl rfl ?_
  | refine w_ldA 2 hA ok rfl rfl rfl ?_
  | refine w_ldA 3 hA ok rfl rfl rfl ?_
  | refine w_ldA 4 hA ok rfl rfl rfl ?_
  | refine w_ldA 5 hA ok rfl rfl rfl ?_
  | refine w_ldA 6 hA ok rfl rfl rfl ?_
  | refine w_ldA 7 hA ok rfl rfl rfl ?_
  | refine w_stA 0 hA ok rfl rfl rfl rfl ?_
  | refine w_stA 1 hA ok rfl rfl rfl rfl ?_
  | refine w_stA 2 hA ok rfl rfl rfl rfl ?_
  | refine w_stA 3 hA ok rfl rfl rfl rfl ?_
  | refine w_stA 4 hA ok rfl rfl rfl rfl ?_
  | refine w_stA 5 hA ok rfl rfl rfl rfl ?_
  | refine w_stA 6 hA ok rfl rfl rfl rfl ?_
  | refine w_stA 7 hA ok rfl rfl rfl rfl ?_
  | (refine w_Raw hA ?_; intro hA)
  | (refine w_SetRaw hA ?_; intro hA)
  | (refine w_SwapRaw hA ?_; intro hA)
  | (refine w_AddRaw hA ?_; intro hA)
  | (refine w_Load hA ?_; intro hA)
  | (refine w_Store hA ?_; intro hA)
  | (refine w_Retire hA ?_; intro hA)
  | (refine w_Died hA ?_; intro hA)
  | (refine w_Born hA ?_; intro hA)
  | refine w_State hA ?_
  | refine w_Uses hA ?_
  | refine w_Fault hA ?_
  | refine w_Words hA ?_
  | refine w_Count hA ?_
  | refine wq_Size ?_
  | refine wq_Open ?_
  | refine wq_Pack ?_
  | refine wq_head ?_
  | refine w_ck 0 hA ok rfl rfl rfl ?_
  | refine w_ck 1 hA ok rfl rfl rfl ?_
  | refine w_ck 2 hA ok rfl rfl rfl ?_
  | refine w_ck 3 hA ok rfl rfl rfl ?_
  | refine w_ck 4 hA ok rfl rfl rfl ?_
  | refine w_ck 5 hA ok rfl rfl rfl ?_
  | refine w_ck 6 hA ok rfl rfl rfl ?_
  | refine w_ck 7 hA ok rfl rfl rfl ?_
  | refine w_ckn rfl ?_
  | refine w_Base 0 1 hA ok rfl rfl ?_
  | refine w_Base 1 2 hA ok rfl rfl ?_
  | refine w_Base 2 3 hA ok rfl rfl ?_
  | refine w_Base 3 4 hA ok rfl rfl ?_
  | refine w_Base 4 5 hA ok rfl rfl ?_
  | refine w_Base 5 6 hA ok rfl rfl ?_
  | (refine w_PopStep 0 1 hA ok rfl rfl ?_; intro hA)
  | (refine w_PopStep 1 2 hA ok rfl rfl ?_; intro hA)
  | (refine w_PopStep 2 3 hA ok rfl rfl ?_; intro hA)
  | (refine w_PopStep 3 4 hA ok rfl rfl ?_; intro hA)
  | (refine w_PopStep 4 5 hA ok rfl rfl ?_; intro hA)
  | (refine w_PopStep 5 6 hA ok rfl rfl ?_; intro hA)
  | (refine w_PushStep 0 1 hA ok rfl rfl ?_; intro hA)
  | (refine w_PushStep 1 2 hA ok rfl rfl ?_; intro hA)
  | (refine w_PushStep 2 3 hA ok rfl rfl ?_; intro hA)
  | (refine w_PushStep 3 4 hA ok rfl rfl ?_; intro hA)
  | (refine w_PushStep 4 5 hA ok rfl rfl ?_; intro hA)
  | (refine w_PushStep 5 6 hA ok rfl rfl ?_; intro hA)
  | refine wp_true (by assumption) ?_
  | refine wp_false (by assumption) ?_)
        have hle := tl1.len
        rw [List.length_map] at hle
        have hfl : fs.length = js.length := by have := rp.fl; rw [efs, ejs] at this; simpa using this
        have hE : scC m.tw m.ta m.pl m.work m.word j.ls j.mq (loSl j.fs 1) j.ds ((((loSl j.fs 1).len : Nat) : Int) == 0) = ({ m with frees := fs, ended := decide (fs = []) } : Sc).cells { j with fs := loSl j.fs 1, fj := js } := by
          show _ = scC m.tw m.ta m.pl m.work m.word j.ls j.mq (loSl j.fs 1) j.ds (decide (fs = []))
          congr 1
          rw [hle, ← hfl]
          cases fs <;> simp
          omega
        have hb : ({ m with frees := fs, ended := decide (fs = []) } : Sc).bl { j with fs := loSl j.fs 1, fj := js } = (j.q, oc ty_hazard_Scan (scC m.tw m.ta m.pl m.work m.word j.ls j.mq (loSl j.fs 1) j.ds ((((loSl j.fs 1).len : Nat) : Int) == 0))) :: (fbl fs js ++ (j.tls ++ (j.tfs ++ j.tds))) := by
          rw [hE]; exact Sc.bl_s (m := { m with frees := fs, ended := decide (fs = []) }) { j with fs := loSl j.fs 1, fj := js } f2
        have ok3 : Ok I G (keys ((j.q, oc ty_hazard_Scan (scC m.tw m.ta m.pl m.work m.word j.ls j.mq (loSl j.fs 1) j.ds ((((loSl j.fs 1).len : Nat) : Int) == 0))) :: (((f.step A).1.bl jf' ++ fbl fs js) ++ (j.tls ++ (j.tfs ++ j.tds))))) := ok
        have sl : ((j.q, oc ty_hazard_Scan (scC m.tw m.ta m.pl m.work m.word j.ls j.mq (loSl j.fs 1) j.ds ((((loSl j.fs 1).len : Nat) : Int) == 0))) :: (fbl fs js ++ (j.tls ++ (j.tfs ++ j.tds)))).Sublist ((j.q, oc ty_hazard_Scan (scC m.tw m.ta m.pl m.work m.word j.ls j.mq (loSl j.fs 1) j.ds ((((loSl j.fs 1).len : Nat) : Int) == 0))) :: (((f.step A).1.bl jf' ++ fbl fs js) ++ (j.tls ++ (j.tfs ++ j.tds)))) := by
          refine .cons_cons _ (List.Sublist.append ?_ (List.Sublist.refl _))
          exact List.sublist_append_right _ _
        have ok4 : Ok I G (keys ((j.q, oc ty_hazard_Scan (scC m.tw m.ta m.pl m.work m.word j.ls j.mq (loSl j.fs 1) j.ds ((((loSl j.fs 1).len : Nat) : Int) == 0))) :: (fbl fs js ++ (j.tls ++ (j.tfs ++ j.tds))))) :=
          ok3.sub ((sl.map Prod.fst).nodup ok3.nd) fun b hb => (sl.map Prod.fst).subset hb
        have key : ∀ (L : Hands) (v : Value), v = .bool (decide (fs = [])) → wp Try.prog (.ret v) L (own (f.step A).2 ((j.q, oc ty_hazard_Scan (scC m.tw m.ta m.pl m.work m.word j.ls j.mq (loSl j.fs 1) j.ds ((((loSl j.fs 1).len : Nat) : Int) == 0))) :: (((f.step A).1.bl jf' ++ fbl fs js) ++ (j.tls ++ (j.tfs ++ j.tds)))) G) fun v K => ∃ j' : ScJ, v = .bool (decide (fs = [])) ∧ K = own (f.step A).2 (({ m with frees := fs, ended := decide (fs = []) } : Sc).bl j') G ∧ j'.q = j.q ∧ Ok I G (keys (({ m with frees := fs, ended := decide (fs = []) } : Sc).bl j')) ∧ ({ m with frees := fs, ended := decide (fs = []) } : Sc).rep j' ∧ Aw I (f.step A).2 := by
          rintro L v rfl
          refine ⟨own (f.step A).2 (({ m with frees := fs, ended := decide (fs = []) } : Sc).bl { j with fs := loSl j.fs 1, fj := js }) G, ?_, { j with fs := loSl j.fs 1, fj := js }, rfl, rfl, rfl, by rw [hb]; exact ok4, ⟨rp.ls, tl1, rp.ds, hfl, fun h => ?_⟩, hA⟩
          · rw [hb]; exact own_sub ok3 ok4.nd fun p hp => sl.subset hp
          · rw [show ({ m with frees := fs, ended := decide (fs = []) } : Sc).sorted = m.sorted from rfl, f2] at h; cases h
        refine key _ _ ?_
        show Value.bool ((((loSl j.fs 1).len : Nat) : Int) == 0) = _
        rw [hle, ← hfl]
        cases fs <;> simp
        omega
      · rw [if_neg hd]
        refine wp_false (by simpa using hd) ?_
        repeat (first
  | refine wp_nil.2 ?_
  | refine w_ld 0 hA ok rfl rfl rfl ?_
  | refine w_ld 1 hA ok rfl rfl rfl ?_
  | refine w_ld 2 hA ok rfl rfl rfl ?_
  | refine w_ld 3 hA ok rfl rfl rfl ?_
  | refine w_ld 4 hA ok rfl rfl rfl ?_
  | refine w_ld 5 hA ok rfl rfl rfl ?_
  | refine w_ld 6 hA ok rfl rfl rfl ?_
  | refine w_ld 7 hA ok rfl rfl rfl ?_
  | refine w_st 0 hA ok rfl rfl rfl rfl ?_
  | refine w_st 1 hA ok rfl rfl rfl rfl ?_
  | refine w_st 2 hA ok rfl rfl rfl rfl ?_
  | refine w_st 3 hA ok rfl rfl rfl rfl ?_
  | refine w_st 4 hA ok rfl rfl rfl rfl ?_
  | refine w_st 5 hA ok rfl rfl rfl rfl ?_
  | refine w_st 6 hA ok rfl rfl rfl rfl ?_
  | refine w_st 7 hA ok rfl rfl rfl rfl ?_
  | refine w_ldA 0 hA ok rfl rfl rfl ?_
  | refine w_ldA 1 hA ok rfl rfl rfl ?_
  | refine w_ldA 2 hA ok rfl rfl rfl ?_
  | refine w_ldA 3 hA ok rfl rfl rfl ?_
  | refine w_ldA 4 hA ok rfl rfl rfl ?_
  | refine w_ldA 5 hA ok rfl rfl rfl ?_
  | refine w_ldA 6 hA ok rfl rfl rfl ?_
  | refine w_ldA 7 hA ok rfl rfl rfl ?_
  | refine w_stA 0 hA ok rfl rfl rfl rfl ?_
  | refine w_stA 1 hA ok rfl rfl rfl rfl ?_
  | refine w_stA 2 hA ok rfl rfl rfl rfl ?_
  | refine w_stA 3 hA ok rfl rfl rfl rfl ?_
  | refine w_stA 4 hA ok rfl rfl rfl rfl ?_
  | refine w_stA 5 hA ok rfl rfl rfl rfl ?_
  | refine w_stA 6 hA ok rfl rfl rfl rfl ?_
  | refine w_stA 7 hA ok rfl rfl rfl rfl ?_
  | (refine w_Raw hA ?_; intro hA)
  | (refine w_SetRaw hA ?_; intro hA)
  | (refine w_SwapRaw hA ?_; intro hA)
  | (refine w_AddRaw hA ?_; intro hA)
  | (refine w_Load hA ?_; intro hA)
  | (refine w_Store hA ?_; intro hA)
  | (refine w_Retire hA ?_; intro hA)
  | (refine w_Died hA ?_; intro hA)
  | (refine w_Born hA ?_; intro hA)
  | refine w_State hA ?_
  | refine w_Uses hA ?_
  | refine w_Fault hA ?_
  | refine w_Words hA ?_
  | refine w_Count hA ?_
  | refine wq_Size ?_
  | refine wq_Open ?_
  | refine wq_Pack ?_
  | refine wq_head ?_
  | refine w_ck 0 hA ok rfl rfl rfl ?_
  | refine w_ck 1 hA ok rfl rfl rfl ?_
  | refine w_ck 2 hA ok rfl rfl rfl ?_
  | refine w_ck 3 hA ok rfl rfl rfl ?_
  | refine w_ck 4 hA ok rfl rfl rfl ?_
  | refine w_ck 5 hA ok rfl rfl rfl ?_
  | refine w_ck 6 hA ok rfl rfl rfl ?_
  | refine w_ck 7 hA ok rfl rfl rfl ?_
  | refine w_ckn rfl ?_
  | refine w_Base 0 1 hA ok rfl rfl ?_
  | refine w_Base 1 2 hA ok rfl rfl ?_
  | refine w_Base 2 3 hA ok rfl rfl ?_
  | refine w_Base 3 4 hA ok rfl rfl ?_
  | refine w_Base 4 5 hA ok rfl rfl ?_
  | refine w_Base 5 6 hA ok rfl rfl ?_
  | (refine w_PopStep 0 1 hA ok rfl rfl ?_; intro hA)
  | (refine w_PopStep 1 2 hA ok rfl rfl ?_; intro hA)
  | (refine w_PopStep 2 3 hA ok rfl rfl ?_; intro hA)
  | (refine w_PopStep 3 4 hA ok rfl rfl ?_; intro hA)
  | (refine w_PopStep 4 5 hA ok rfl rfl ?_; intro hA)
  | (refine w_PopStep 5 6 hA ok rfl rfl ?_; intro hA)
  | (refine w_PushStep 0 1 hA ok rfl rfl ?_; intro hA)
  | (refine w_PushStep 1 2 hA ok rfl rfl ?_; intro hA)
  | (refine w_PushStep 2 3 hA ok rfl rfl ?_; intro hA)
  | (refine w_PushStep 3 4 hA ok rfl rfl ?_; intro hA)
  | (refine w_PushStep 4 5 hA ok rfl rfl ?_; intro hA)
  | (refine w_PushStep 5 6 hA ok rfl rfl ?_; intro hA)
  | refine wp_true (by assumption) ?_
  | refine wp_false (by assumption) ?_)
        have hb : ({ m with frees := (f.step A).1 :: fs } : Sc).bl { j with fj := jf' :: js } = (j.q, oc ty_hazard_Scan (m.cells j)) :: (((f.step A).1.bl jf' ++ fbl fs js) ++ (j.tls ++ (j.tfs ++ j.tds))) := Sc.bl_s (m := { m with frees := (f.step A).1 :: fs }) { j with fj := jf' :: js } f2
        refine own_conv hb ?_
        refine wp_ret_of ⟨{ j with fj := jf' :: js }, ?_, rfl, rfl, by rw [hb]; exact ok, ⟨rp.ls, ?_, rp.ds, ?_, fun h => ?_⟩, hA⟩
        · first | rfl | rw [he]
        · show SlAt j.tfs ty_p_slab_Free eP j.fs (jf'.1 :: js.map (·.1))
          rw [show jf'.1 = jf.1 from ej]; exact rfs
        · have := rp.fl; rw [efs, ejs] at this; exact this
        · rw [show ({ m with frees := (f.step A).1 :: fs } : Sc).sorted = m.sorted from rfl, f2] at h; cases h
end Go.Proofs.Ytcjhakdopnamoaa

set_option linter.unusedVariables false
set_option linter.unusedSimpArgs false
set_option maxRecDepth 20000
namespace Go.Proofs.Ytcjhakdopnamoaa
open Go Go.Fw

/-! ### epoch.Turn -/

def eL : Enc (Int × Int) := ⟨2, fun x => [.int .i64 x.1, .int .i64 x.2], fun _ => rfl, fun x v h => by simp at h; rcases h with rfl | rfl <;> rfl⟩
theorem elL : ElOk ty_s_epoch_Limbo ty_epoch_Limbo 2 := ⟨⟨_, _, rfl, rfl, rfl, by decide, by decide, rfl, rfl⟩⟩

theorem eL_drop (rest : List Value) : ∀ (xs : List (Int × Int)) (n : Nat), n < xs.length → ∃ t, (eL.all xs ++ rest).drop (n * 2) = .int .i64 (xs.getD n (0, 0)).1 :: .int .i64 (xs.getD n (0, 0)).2 :: t
  | [], n, h => by simp at h
  | x :: xs, 0, _ => ⟨eL.all xs ++ rest, rfl⟩
  | x :: xs, n + 1, h => by
    obtain ⟨t, ht⟩ := eL_drop rest xs n (by simpa using h)
    refine ⟨t, ?_⟩
    rw [show (n + 1) * 2 = n * 2 + 2 by omega]
    show (eL.all xs ++ rest).drop (n * 2) = _
    rw [ht]; rfl

structure Tn where
  tw : Int
  ta : Int
  pl : Pl
  work : Int
  e : Int
  word : Int
  l : List (Int × Int)
  frees : List Fe
  left : List (Int × Int)
  ph : Nat
structure TnJ where
  q : Nat
  ls : Sl
  fs : Sl
  ds : Sl
  fj : List Tri
  tls : Bl
  tfs : Bl
  tds : Bl

def tnNext (q : Nat) : Nat → Value
  | 0 => .func (.func f_epoch_Turn_global) #[.pointer (some ⟨q, 0, none⟩)] #[]
  | 1 => .func (.func f_epoch_Turn_look) #[.pointer (some ⟨q, 0, none⟩)] #[]
  | 2 => .func (.func f_epoch_Turn_swap) #[.pointer (some ⟨q, 0, none⟩)] #[]
  | 3 => .func (.func f_epoch_Turn_free) #[.pointer (some ⟨q, 0, none⟩)] #[]
  | _ => .nilFunc
theorem tcall0 (x y : Value) : opS Try.prog (.call { callee := .value (.tmp 0), args := #[(.tmp 1)], argTypes := #[ty_p_arena_Arena] }) ty_unit [.func (.func f_epoch_Turn_global) #[x] #[], y] = .pure (.enter f_epoch_Turn_global [x, y].toArray) := by kernel_rfl
theorem tcall1 (x y : Value) : opS Try.prog (.call { callee := .value (.tmp 0), args := #[(.tmp 1)], argTypes := #[ty_p_arena_Arena] }) ty_unit [.func (.func f_epoch_Turn_look) #[x] #[], y] = .pure (.enter f_epoch_Turn_look [x, y].toArray) := by kernel_rfl
theorem tcall2 (x y : Value) : opS Try.prog (.call { callee := .value (.tmp 0), args := #[(.tmp 1)], argTypes := #[ty_p_arena_Arena] }) ty_unit [.func (.func f_epoch_Turn_swap) #[x] #[], y] = .pure (.enter f_epoch_Turn_swap [x, y].toArray) := by kernel_rfl
theorem tcall3 (x y : Value) : opS Try.prog (.call { callee := .value (.tmp 0), args := #[(.tmp 1)], argTypes := #[ty_p_arena_Arena] }) ty_unit [.func (.func f_epoch_Turn_free) #[x] #[], y] = .pure (.enter f_epoch_Turn_free [x, y].toArray) := by kernel_rfl

def tnC (tw ta : Int) (p : Pl) (work e word : Int) (ls fs ds : Sl) (nx : Value) : List Value :=
  [.int .i64 tw, .int .i64 ta, .int .i64 p.work, .int .i64 p.heads, .int .i64 p.links, .int .i64 p.gens, .int .i64 p.carved, .int .i64 work, .int .i64 e, .int .i64 word, .slice ls.a ls.len ls.cap, .slice fs.a fs.len fs.cap, .slice ds.a ds.len ds.cap, nx]
def Tn.cells (m : Tn) (j : TnJ) : List Value := tnC m.tw m.ta m.pl m.work m.e m.word j.ls j.fs j.ds (tnNext j.q m.ph)
def Tn.bl (m : Tn) (j : TnJ) : Bl := (j.q, oc ty_epoch_Turn (m.cells j)) :: (fbl m.frees j.fj ++ (j.tls ++ (j.tfs ++ j.tds)))

structure Tn.rep (m : Tn) (j : TnJ) : Prop where
  ls : SlOf j.tls ty_epoch_Limbo eL j.ls m.l
  fs : SlAt j.tfs ty_p_slab_Free eP j.fs (j.fj.map (·.1))
  ds : SlOf j.tds ty_epoch_Limbo eL j.ds m.left
  fl : m.frees.length = j.fj.length
  un : m.ph ≤ 2 → j.fs = sl0 ∧ j.ds = sl0

def due (e : Int) (x : Int × Int) : Bool := decide (w64 (x.2 + 2) ≤ e)
def Tn.upto (m : Tn) (n : Nat) : Tn := { m with frees := ((m.l.take n).filter (due m.e)).map fun x => newFe m.pl m.work x.1, left := (m.l.take n).filter fun x => !due m.e x }
def Tn.sort (m : Tn) : Tn := { m.upto m.l.length with ph := if (m.upto m.l.length).frees = [] then 4 else 3 }

theorem take_filterP {p : Int × Int → Bool} {l : List (Int × Int)} {n : Nat} (h : n < l.length) : (l.take (n + 1)).filter p = (l.take n).filter p ++ if p (l.getD n (0, 0)) then [l.getD n (0, 0)] else [] := by
  have e : l.take (n + 1) = l.take n ++ [l.getD n (0, 0)] := by
    rw [List.take_add_one, List.getD_eq_getElem?_getD, List.getElem?_eq_getElem h]; rfl
  rw [e, List.filter_append]
  congr 1
  unfold List.filter
  cases p (l.getD n (0, 0)) <;> rfl

section
variable {L : Hands} {R : Value → Heap → Prop} {A : Ar} {I : List Nat} {l : Bl} {G : Heap}

theorem w_rdL {xs : List (Int × Int)} {s : Sl} {i : Int} {u : TypeId} {k : HL Leaf.T [.int .i64, .int .i64] → Tree} (hA : Aw I A) (ok : Ok I G (keys l)) (hs : SlOf l ty_epoch_Limbo eL s xs) (h0 : 0 ≤ i) (h1 : i < xs.length)
    (h : wp Try.prog (k ((xs.getD i.toNat (0, 0)).1, (xs.getD i.toNat (0, 0)).2, ())) L (own A l G) R) :
    wp Try.prog (.look (opS Try.prog (.indexAddr ty_s_epoch_Limbo (.tmp 0) (.tmp 1)) u [.slice s.a s.len s.cap, .int .i64 i]) (.one (.leaf .addr)) fun x => .ldA x [(.int .i64), (.int .i64)] k) L (own A l G) R := by
  rcases hs with ⟨rfl, rfl⟩ | ⟨b, rest, r, rfl, h2, h3⟩
  · have : (([] : List (Int × Int)).length : Int) = 0 := rfl
    omega
  · have hl : i.toNat < xs.length := by omega
    obtain ⟨ix, hix⟩ := mem_idx h3
    obtain ⟨t, ht⟩ := eL_drop rest xs i.toNat hl
    refine look_val (x := ⟨b, i.toNat * 2, none⟩) ?_ ?_
    · rw [opS_idxS (e := ty_epoch_Limbo) rfl rfl h0 h1, Addr.add_mk, Nat.zero_add]; rfl
    · refine w_ldA (c := eL.all xs ++ rest) ix hA ok rfl hix (x := ((xs.getD i.toNat (0, 0)).1, (xs.getD i.toNat (0, 0)).2, ())) ?_ h (decide_eq_true ?_)
      · rw [ht]; rfl
      · rw [List.length_append, eL.all_len]; show i.toNat * 2 ≤ xs.length * 2 + _; omega

/-- While it sorts. -/
structure TSrt (I : List Nat) (G : Heap) (A : Ar) (m : Tn) (q : Nat) (ls : Sl) (i : Int) (H : Heap) (j : TnJ) : Prop where
  i0 : 0 ≤ i
  i1 : i ≤ m.l.length
  eH : H = own A ((m.upto i.toNat).bl j) G
  ok : Ok I G (keys ((m.upto i.toNat).bl j))
  eq : j.q = q
  eL : j.ls = ls
  ls : SlOf j.tls ty_epoch_Limbo Proofs.Ytcjhakdopnamoaa.eL j.ls m.l
  fs : SlOf j.tfs ty_p_slab_Free eP j.fs (j.fj.map (·.1))
  ds : SlOf j.tds ty_epoch_Limbo Proofs.Ytcjhakdopnamoaa.eL j.ds (m.upto i.toNat).left
  fl : (m.upto i.toNat).frees.length = j.fj.length

set_option maxHeartbeats 2000000 in
theorem tsort_spec (m : Tn) (j : TnJ) (hA : Aw I A) (ok : Ok I G (keys (m.bl j))) (rp : m.rep j) (hs : m.ph ≤ 2) (hf : m.frees = []) (hd : m.left = []) (hl : m.l.length ≤ 1000) :
    SpecF Try.prog f_epoch_Turn_sort #[.pointer (some ⟨j.q, 0, none⟩)] (own A (m.bl j) G) fun v K => ∃ j', v = .tuple #[] ∧ K = own A (m.sort.bl j') G ∧ j'.q = j.q ∧ Ok I G (keys (m.sort.bl j')) ∧ m.sort.rep j' := by
  refine t_epoch_Turn_sort_spec fun L => ?_
  unfold t_epoch_Turn_sort
  obtain ⟨u1, u2⟩ := rp.un hs
  have efj : j.fj = [] := List.eq_nil_of_length_eq_zero (by rw [← rp.fl, hf]; rfl)
  have e0 : m.upto 0 = m := by cases m; simp only at hf hd; subst hf; subst hd; rfl
  unfold Tn.bl at ok ⊢
  repeat (first
  | refine wp_nil.2 ?_
  | refine w_ld 0 hA ok rfl rfl rfl ?_
  | refine w_ld 1 hA ok rfl rfl rfl ?_
  | refine w_ld 2 hA ok rfl rfl rfl ?_
  | refine w_ld 3 hA ok rfl rfl rfl ?_
  | refine w_ld 4 hA ok rfl rfl rfl ?_
  | refine w_ld 5 hA ok rfl rfl rfl ?_
  | refine w_ld 6 hA ok rfl rfl rfl ?_
  | refine w_ld 7 hA ok rfl rfl rfl ?_
  | refine w_st 0 hA ok rfl rfl rfl rfl ?_
  | refine w_st 1 hA ok rfl rfl rfl rfl ?_
  | refine w_st 2 hA ok rfl rfl rfl rfl ?_
  | refine w_st 3 hA ok rfl rfl rfl rfl ?_
  | refine w_st 4 hA ok rfl rfl rfl rfl ?_
  | refine w_st 5 hA ok rfl rfl rfl rfl ?_
  | refine w_st 6 hA ok rfl rfl rfl rfl ?_
  | refine w_st 7 hA ok rfl rfl rfl rfl ?_
  | refine w_ldA 0 hA ok rfl rfl rfl ?_
  | refine w_ldA 1 hA ok rfl rfl rfl ?_
  | refine w_ldA 2 hA ok rfl rfl rfl ?_
  | refine w_ldA 3 hA ok rfl rfl rfl ?_
  | refine w_ldA 4 hA ok rfl rfl rfl ?_
  | refine w_ldA 5 hA ok rfl rfl rfl ?_
  | refine w_ldA 6 hA ok rfl rfl rfl ?_
  | refine w_ldA 7 hA ok rfl rfl rfl ?_
  | refine w_stA 0 hA ok rfl rfl rfl rfl ?_
  | refine w_stA 1 hA ok rfl rfl rfl rfl ?_
  | refine w_stA 2 hA ok rfl rfl rfl rfl ?_
  | refine w_stA 3 hA ok rfl rfl rfl rfl ?_
  | refine w_stA 4 hA ok rfl rfl rfl rfl ?_
  | refine w_stA 5 hA ok rfl rfl rfl rfl ?_
  | refine w_stA 6 hA ok rfl rfl rfl rfl ?_
  | refine w_stA 7 hA ok rfl rfl rfl rfl ?_
  | (refine w_Raw hA ?_; intro hA)
  | (refine w_SetRaw hA ?_; intro hA)
  | (refine w_SwapRaw hA ?_; intro hA)
  | (refine w_AddRaw hA ?_; intro hA)
  | (refine w_Load hA ?_; intro hA)
  | (refine w_Store hA ?_; intro hA)
  | (refine w_Retire hA ?_; intro hA)
  | (refine w_Died hA ?_; intro hA)
  | (refine w_Born hA ?_; intro hA)
  | refine w_State hA ?_
  | refine w_Uses hA ?_
  | refine w_Fault hA ?_
  | refine w_Words hA ?_
  | refine w_Count hA ?_
  | refine wq_Size ?_
  | refine wq_Open ?_
  | refine wq_Pack ?_
  | refine wq_head ?_
  | refine w_ck 0 hA ok rfl rfl rfl ?_
  | refine w_ck 1 hA ok rfl rfl rfl ?_
  | refine w_ck 2 hA ok rfl rfl rfl ?_
  | refine w_ck 3 hA ok rfl rfl rfl ?_
  | refine w_ck 4 hA ok rfl rfl rfl ?_
  | refine w_ck 5 hA ok rfl rfl rfl ?_
  | refine w_ck 6 hA ok rfl rfl rfl ?_
  | refine w_ck 7 hA ok rfl rfl rfl ?_
  | refine w_ckn rfl ?_
  | refine w_Base 0 1 hA ok rfl rfl ?_
  | refine w_Base 1 2 hA ok rfl rfl ?_
  | refine w_Base 2 3 hA ok rfl rfl ?_
  | refine w_Base 3 4 hA ok rfl rfl ?_
  | refine w_Base 4 5 hA ok rfl rfl ?_
  | refine w_Base 5 6 hA ok rfl rfl ?_
  | (refine w_PopStep 0 1 hA ok rfl rfl ?_; intro hA)
  | (refine w_PopStep 1 2 hA ok rfl rfl ?_; intro hA)
  | (refine w_PopStep 2 3 hA ok rfl rfl ?_; intro hA)
  | (refine w_PopStep 3 4 hA ok rfl rfl ?_; intro hA)
  | (refine w_PopStep 4 5 hA ok rfl rfl ?_; intro hA)
  | (refine w_PopStep 5 6 hA ok rfl rfl ?_; intro hA)
  | (refine w_PushStep 0 1 hA ok rfl rfl ?_; intro hA)
  | (refine w_PushStep 1 2 hA ok rfl rfl ?_; intro hA)
  | (refine w_PushStep 2 3 hA ok rfl rfl ?_; intro hA)
  | (refine w_PushStep 3 4 hA ok rfl rfl ?_; intro hA)
  | (refine w_PushStep 4 5 hA ok rfl rfl ?_; intro hA)
  | (refine w_PushStep 5 6 hA ok rfl rfl ?_; intro hA)
  | refine wp_true (by assumption) ?_
  | refine wp_false (by assumption) ?_)
  refine wl_i (fun i H => ∃ j', TSrt I G A m j.q j.ls i H j') (fun i => (m.l.length - i).toNat) 0 ⟨j, Int.le_refl 0, by omega, by rw [show (0 : Int).toNat = 0 from rfl, e0]; rfl, by rw [show (0 : Int).toNat = 0 from rfl, e0]; exact ok, rfl, rfl, rp.ls, ?_, by rw [show (0 : Int).toNat = 0 from rfl, e0]; exact rp.ds, by rw [show (0 : Int).toNat = 0 from rfl, e0]; exact rp.fl⟩ ?_
  · rw [u1, efj]; exact .inl ⟨rfl, rfl⟩
  rintro i H ⟨j1, hS⟩
  obtain ⟨i0, i1, eH, ok1, eq, eL, hls, hfs, hds, hfl⟩ := hS
  subst eH
  have hlen := hls.len
  unfold Tn.bl at ok1 ⊢
  have ok := ok1
  rw [t_epoch_Turn_sort_L1, ← eL, ← eq]
  by_cases hi : i < m.l.length
  · refine wp_true (decide_eq_true (by show i < ((j1.ls.len : Nat) : Int); rw [hlen]; exact hi)) ?_
    refine w_rdL hA ok (hls.mono fun p hp => ?_) i0 hi ?_
    · exact List.mem_cons_of_mem _ (List.mem_append_right _ (List.mem_append_left _ hp))
    refine w_newP hA ok fun x3 ok => ?_
    repeat (first
  | refine wp_nil.2 ?_
  | refine w_ld 0 hA ok rfl rfl rfl ?_
  | refine w_ld 1 hA ok rfl rfl rfl ?_
  | refine w_ld 2 hA ok rfl rfl rfl ?_
  | refine w_ld 3 hA ok rfl rfl rfl ?_
  | refine w_ld 4 hA ok rfl rfl rfl ?_
  | refine w_ld 5 hA ok rfl rfl rfl ?_
  | refine w_ld 6 hA ok rfl rfl rfl ?_
  | refine w_ld 7 hA ok rfl rfl rfl ?_
  | refine w_st 0 hA ok rfl rfl rfl rfl ?_
  | refine w_st 1 hA ok rfl rfl rfl rfl ?_
  | refine w_st 2 hA ok rfl rfl rfl rfl ?_
  | refine w_st 3 hA ok rfl rfl rfl rfl ?_
  | refine w_st 4 hA ok rfl rfl rfl rfl ?_
  | refine w_st 5 hA ok rfl rfl rfl rfl ?_
  | refine w_st 6 hA ok rfl rfl rfl rfl ?_
  | refine w_st 7 hA ok rfl rfl rfl rfl ?_
  | refine w_ldA 0 hA ok rfl rfl rfl ?_
  | refine w_ldA 1 hA ok rfl rfl rfl ?_
  | refine w_ldA 2 hA ok rfl rfl rfl ?_
  | refine w_ldA 3 hA ok rfl rfl rfl ?_
  | refine w_ldA 4 hA ok rfl rfl rfl ?_
  | refine w_ldA 5 hA ok rfl rfl rfl ?_
  | refine w_ldA 6 hA ok rfl rfl rfl ?_
  | refine w_ldA 7 hA ok rfl rfl rfl ?_
  | refine w_stA 0 hA ok rfl rfl rfl rfl ?_
  | refine w_stA 1 hA ok rfl rfl rfl rfl ?_
  | refine w_stA 2 hA ok rfl rfl rfl rfl ?_
  | refine w_stA 3 hA ok rfl rfl rfl rfl ?_
  | refine w_stA 4 hA ok rfl rfl rfl rfl ?_
  | refine w_stA 5 hA ok rfl rfl rfl rfl ?_
  | refine w_stA 6 hA ok rfl rfl rfl rfl ?_
  | refine w_stA 7 hA ok rfl rfl rfl rfl ?_
  | (refine w_Raw hA ?_; intro hA)
  | (refine w_SetRaw hA ?_; intro hA)
  | (refine w_SwapRaw hA ?_; intro hA)
  | (refine w_AddRaw hA ?_; intro hA)
  | (refine w_Load hA ?_; intro hA)
  | (refine w_Store hA ?_; intro hA)
  | (refine w_Retire hA ?_; intro hA)
  | (refine w_Died hA ?_; intro hA)
  | (refine w_Born hA ?_; intro hA)
  | refine w_State hA ?_
  | refine w_Uses hA ?_
  | refine w_Fault hA ?_
  | refine w_Words hA ?_
  | refine w_Count hA ?_
  | refine wq_Size ?_
  | refine wq_Open ?_
  | refine wq_Pack ?_
  | refine wq_head ?_
  | refine w_ck 0 hA ok rfl rfl rfl ?_
  | refine w_ck 1 hA ok rfl rfl rfl ?_
  | refine w_ck 2 hA ok rfl rfl rfl ?_
  | refine w_ck 3 hA ok rfl rfl rfl ?_
  | refine w_ck 4 hA ok rfl rfl rfl ?_
  | refine w_ck 5 hA ok rfl rfl rfl ?_
  | refine w_ck 6 hA ok rfl rfl rfl ?_
  | refine w_ck 7 hA ok rfl rfl rfl ?_
  | refine w_ckn rfl ?_
  | refine w_Base 0 1 hA ok rfl rfl ?_
  | refine w_Base 1 2 hA ok rfl rfl ?_
  | refine w_Base 2 3 hA ok rfl rfl ?_
  | refine w_Base 3 4 hA ok rfl rfl ?_
  | refine w_Base 4 5 hA ok rfl rfl ?_
  | refine w_Base 5 6 hA ok rfl rfl ?_
  | (refine w_PopStep 0 1 hA ok rfl rfl ?_; intro hA)
  | (refine w_PopStep 1 2 hA ok rfl rfl ?_; intro hA)
  | (refine w_PopStep 2 3 hA ok rfl rfl ?_; intro hA)
  | (refine w_PopStep 3 4 hA ok rfl rfl ?_; intro hA)
  | (refine w_PopStep 4 5 hA ok rfl rfl ?_; intro hA)
  | (refine w_PopStep 5 6 hA ok rfl rfl ?_; intro hA)
  | (refine w_PushStep 0 1 hA ok rfl rfl ?_; intro hA)
  | (refine w_PushStep 1 2 hA ok rfl rfl ?_; intro hA)
  | (refine w_PushStep 2 3 hA ok rfl rfl ?_; intro hA)
  | (refine w_PushStep 3 4 hA ok rfl rfl ?_; intro hA)
  | (refine w_PushStep 4 5 hA ok rfl rfl ?_; intro hA)
  | (refine w_PushStep 5 6 hA ok rfl rfl ?_; intro hA)
  | refine wp_true (by assumption) ?_
  | refine wp_false (by assumption) ?_)
    have ht : i.toNat < m.l.length := by omega
    have e1 : w64 (i + 1) = i + 1 := w64_in (by omega) (by omega)
    have e2 : (i + 1).toNat = i.toNat + 1 := by omega
    have fl : (m.upto (i.toNat + 1)).left = (m.upto i.toNat).left ++ if due m.e (m.l.getD i.toNat (0, 0)) then [] else [m.l.getD i.toNat (0, 0)] := by
      show ((m.l.take (i.toNat + 1)).filter fun x => !due m.e x) = ((m.l.take i.toNat).filter fun x => !due m.e x) ++ _
      rw [take_filterP ht]
      cases due m.e (m.l.getD i.toNat (0, 0)) <;> rfl
    have ff : (m.upto (i.toNat + 1)).frees = (m.upto i.toNat).frees ++ if due m.e (m.l.getD i.toNat (0, 0)) then [newFe m.pl m.work (m.l.getD i.toNat (0, 0)).1] else [] := by
      show ((m.l.take (i.toNat + 1)).filter (due m.e)).map (fun x => newFe m.pl m.work x.1) = ((m.l.take i.toNat).filter (due m.e)).map (fun x => newFe m.pl m.work x.1) ++ _
      rw [take_filterP ht, List.map_append]
      cases due m.e (m.l.getD i.toNat (0, 0)) <;> rfl
    have hll : (m.upto i.toNat).left.length ≤ 1000 := Nat.le_trans (List.length_filter_le _ _) (by rw [List.length_take]; omega)
    have hlf : (m.upto i.toNat).frees.length ≤ 1000 := by
      show (((m.l.take i.toNat).filter (due m.e)).map fun x => newFe m.pl m.work x.1).length ≤ 1000
      rw [List.length_map]
      exact Nat.le_trans (List.length_filter_le _ _) (by rw [List.length_take]; omega)
    dsimp only at ok ⊢
    rw [e1]
    obtain ⟨y, hy⟩ : ∃ y, y = m.l.getD i.toNat (0, 0) := ⟨_, rfl⟩
    rw [← hy] at fl ff ⊢
    have ok : Ok I G (keys ((x3, oc ty_epoch_Limbo [.int .i64 y.1, .int .i64 y.2]) :: (j1.q, oc ty_epoch_Turn ((m.upto i.toNat).cells j1)) :: (fbl (m.upto i.toNat).frees j1.fj ++ (j1.tls ++ (j1.tfs ++ j1.tds))))) := ok
    show wp Try.prog _ _ (own A ((x3, oc ty_epoch_Limbo [.int .i64 y.1, .int .i64 y.2]) :: (j1.q, oc ty_epoch_Turn ((m.upto i.toNat).cells j1)) :: (fbl (m.upto i.toNat).frees j1.fj ++ (j1.tls ++ (j1.tfs ++ j1.tds)))) G) _
    by_cases hin : due m.e y = true
    · rw [if_pos hin] at fl ff
      refine wp_true hin ?_
      repeat (first
  | refine wp_nil.2 ?_
  | refine w_ld 0 hA ok rfl rfl rfl ?_
  | refine w_ld 1 hA ok rfl rfl rfl ?_
  | refine w_ld 2 hA ok rfl rfl rfl ?_
  | refine w_ld 3 hA ok rfl rfl rfl ?_
  | refine w_ld 4 hA ok rfl rfl rfl ?_
  | refine w_ld 5 hA ok rfl rfl rfl ?_
  | refine w_ld 6 hA ok rfl rfl rfl ?_
  | refine w_ld 7 hA ok rfl rfl rfl ?_
  | refine w_st 0 hA ok rfl rfl rfl rfl ?_
  | refine w_st 1 hA ok rfl rfl rfl rfl ?_
  | refine w_st 2 hA ok rfl rfl rfl rfl ?_
  | refine w_st 3 hA ok rfl rfl rfl rfl ?_
  | refine w_st 4 hA ok rfl rfl rfl rfl ?_
  | refine w_st 5 hA ok rfl rfl rfl rfl ?_
  | refine w_st 6 hA ok rfl rfl rfl rfl ?_
  | refine w_st 7 hA ok rfl rfl rfl rfl ?_
  | refine w_ldA 0 hA ok rfl rfl rfl ?_
  | refine w_ldA 1 hA ok rfl rfl rfl ?_
  | refine w_ldA 2 hA ok rfl rfl rfl ?_
  | refine w_ldA 3 hA ok rfl rfl rfl ?_
  | refine w_ldA 4 hA ok rfl rfl rfl ?_
  | refine w_ldA 5 hA ok rfl rfl rfl ?_
  | refine w_ldA 6 hA ok rfl rfl rfl ?_
  | refine w_ldA 7 hA ok rfl rfl rfl ?_
  | refine w_stA 0 hA ok rfl rfl rfl rfl ?_
  | refine w_stA 1 hA ok rfl rfl rfl rfl ?_
  | refine w_stA 2 hA ok rfl rfl rfl rfl ?_
  | refine w_stA 3 hA ok rfl rfl rfl rfl ?_
  | refine w_stA 4 hA ok rfl rfl rfl rfl ?_
  | refine w_stA 5 hA ok rfl rfl rfl rfl ?_
  | refine w_stA 6 hA ok rfl rfl rfl rfl ?_
  | refine w_stA 7 hA ok rfl rfl rfl rfl ?_
  | (refine w_Raw hA ?_; intro hA)
  | (refine w_SetRaw hA ?_; intro hA)
  | (refine w_SwapRaw hA ?_; intro hA)
  | (refine w_AddRaw hA ?_; intro hA)
  | (refine w_Load hA ?_; intro hA)
  | (refine w_Store hA ?_; intro hA)
  | (refine w_Retire hA ?_; intro hA)
  | (refine w_Died hA ?_; intro hA)
  | (refine w_Born hA ?_; intro hA)
  | refine w_State hA ?_
  | refine w_Uses hA ?_
  | refine w_Fault hA ?_
  | refine w_Words hA ?_
  | refine w_Count hA ?_
  | refine wq_Size ?_
  | refine wq_Open ?_
  | refine wq_Pack ?_
  | refine wq_head ?_
  | refine w_ck 0 hA ok rfl rfl rfl ?_
  | refine w_ck 1 hA ok rfl rfl rfl ?_
  | refine w_ck 2 hA ok rfl rfl rfl ?_
  | refine w_ck 3 hA ok rfl rfl rfl ?_
  | refine w_ck 4 hA ok rfl rfl rfl ?_
  | refine w_ck 5 hA ok rfl rfl rfl ?_
  | refine w_ck 6 hA ok rfl rfl rfl ?_
  | refine w_ck 7 hA ok rfl rfl rfl ?_
  | refine w_ckn rfl ?_
  | refine w_Base 0 1 hA ok rfl rfl ?_
  | refine w_Base 1 2 hA ok rfl rfl ?_
  | refine w_Base 2 3 hA ok rfl rfl ?_
  | refine w_Base 3 4 hA ok rfl rfl ?_
  | refine w_Base 4 5 hA ok rfl rfl ?_
  | refine w_Base 5 6 hA ok rfl rfl ?_
  | (refine w_PopStep 0 1 hA ok rfl rfl ?_; intro hA)
  | (refine w_PopStep 1 2 hA ok rfl rfl ?_; intro hA)
  | (refine w_PopStep 2 3 hA ok rfl rfl ?_; intro hA)
  | (refine w_PopStep 3 4 hA ok rfl rfl ?_; intro hA)
  | (refine w_PopStep 4 5 hA ok rfl rfl ?_; intro hA)
  | (refine w_PopStep 5 6 hA ok rfl rfl ?_; intro hA)
  | (refine w_PushStep 0 1 hA ok rfl rfl ?_; intro hA)
  | (refine w_PushStep 1 2 hA ok rfl rfl ?_; intro hA)
  | (refine w_PushStep 2 3 hA ok rfl rfl ?_; intro hA)
  | (refine w_PushStep 3 4 hA ok rfl rfl ?_; intro hA)
  | (refine w_PushStep 4 5 hA ok rfl rfl ?_; intro hA)
  | (refine w_PushStep 5 6 hA ok rfl rfl ?_; intro hA)
  | refine wp_true (by assumption) ?_
  | refine wp_false (by assumption) ?_)
      refine w_NewFree (p := m.pl) (w := m.work) hA ok fun jf ok => ?_
      repeat (first
  | refine wp_nil.2 ?_
  | refine w_ld 0 hA ok rfl rfl rfl ?_
  | refine w_ld 1 hA ok rfl rfl rfl ?_
  | refine w_ld 2 hA ok rfl rfl rfl ?_
  | refine w_ld 3 hA ok rfl rfl rfl ?_
  | refine w_ld 4 hA ok rfl rfl rfl ?_
  | refine w_ld 5 hA ok rfl rfl rfl ?_
  | refine w_ld 6 hA ok rfl rfl rfl ?_
  | refine w_ld 7 hA ok rfl rfl rfl ?_
  | refine w_st 0 hA ok rfl rfl rfl rfl ?_
  | refine w_st 1 hA ok rfl rfl rfl rfl ?_
  | refine w_st 2 hA ok rfl rfl rfl rfl ?_
  | refine w_st 3 hA ok rfl rfl rfl rfl ?_
  | refine w_st 4 hA ok rfl rfl rfl rfl ?_
  | refine w_st 5 hA ok rfl rfl rfl rfl ?_
  | refine w_st 6 hA ok rfl rfl rfl rfl ?_
  | refine w_st 7 hA ok rfl rfl rfl rfl ?_
  | refine w_ldA 0 hA ok rfl rfl rfl ?_
  | refine w_ldA 1 hA ok rfl rfl rfl ?_
  | refine w_ldA 2 hA ok rfl rfl rfl ?_
  | refine w_ldA 3 hA ok rfl rfl rfl ?_
  | refine w_ldA 4 hA ok rfl rfl rfl ?_
  | refine w_ldA 5 hA ok rfl rfl rfl ?_
  | refine w_ldA 6 hA ok rfl rfl rfl ?_
  | refine w_ldA 7 hA ok rfl rfl rfl ?_
  | refine w_stA 0 hA ok rfl rfl rfl rfl ?_
  | refine w_stA 1 hA ok rfl rfl rfl rfl ?_
  | refine w_stA 2 hA ok rfl rfl rfl rfl ?_
  | refine w_stA 3 hA ok rfl rfl rfl rfl ?_
  | refine w_stA 4 hA ok rfl rfl rfl rfl ?_
  | refine w_stA 5 hA ok rfl rfl rfl rfl ?_
  | refine w_stA 6 hA ok rfl rfl rfl rfl ?_
  | refine w_stA 7 hA ok rfl rfl rfl rfl ?_
  | (refine w_Raw hA ?_; intro hA)
  | (refine w_SetRaw hA ?_; intro hA)
  | (refine w_SwapRaw hA ?_; intro hA)
  | (refine w_AddRaw hA ?_; intro hA)
  | (refine w_Load hA ?_; intro hA)
  | (refine w_Store hA ?_; intro hA)
  | (refine w_Retire hA ?_; intro hA)
  | (refine w_Died hA ?_; intro hA)
  | (refine w_Born hA ?_; intro hA)
  | refine w_State hA ?_
  | refine w_Uses hA ?_
  | refine w_Fault hA ?_
  | refine w_Words hA ?_
  | refine w_Count hA ?_
  | refine wq_Size ?_
  | refine wq_Open ?_
  | refine wq_Pack ?_
  | refine wq_head ?_
  | refine w_ck 0 hA ok rfl rfl rfl ?_
  | refine w_ck 1 hA ok rfl rfl rfl ?_
  | refine w_ck 2 hA ok rfl rfl rfl ?_
  | refine w_ck 3 hA ok rfl rfl rfl ?_
  | refine w_ck 4 hA ok rfl rfl rfl ?_
  | refine w_ck 5 hA ok rfl rfl rfl ?_
  | refine w_ck 6 hA ok rfl rfl rfl ?_
  | refine w_ck 7 hA ok rfl rfl rfl ?_
  | refine w_ckn rfl ?_
  | refine w_Base 0 1 hA ok rfl rfl ?_
  | refine w_Base 1 2 hA ok rfl rfl ?_
  | refine w_Base 2 3 hA ok rfl rfl ?_
  | refine w_Base 3 4 hA ok rfl rfl ?_
  | refine w_Base 4 5 hA ok rfl rfl ?_
  | refine w_Base 5 6 hA ok rfl rfl ?_
  | (refine w_PopStep 0 1 hA ok rfl rfl ?_; intro hA)
  | (refine w_PopStep 1 2 hA ok rfl rfl ?_; intro hA)
  | (refine w_PopStep 2 3 hA ok rfl rfl ?_; intro hA)
  | (refine w_PopStep 3 4 hA ok rfl rfl ?_; intro hA)
  | (refine w_PopStep 4 5 hA ok rfl rfl ?_; intro hA)
  | (refine w_PopStep 5 6 hA ok rfl rfl ?_; intro hA)
  | (refine w_PushStep 0 1 hA ok rfl rfl ?_; intro hA)
  | (refine w_PushStep 1 2 hA ok rfl rfl ?_; intro hA)
  | (refine w_PushStep 2 3 hA ok rfl rfl ?_; intro hA)
  | (refine w_PushStep 3 4 hA ok rfl rfl ?_; intro hA)
  | (refine w_PushStep 4 5 hA ok rfl rfl ?_; intro hA)
  | (refine w_PushStep 5 6 hA ok rfl rfl ?_; intro hA)
  | refine wp_true (by assumption) ?_
  | refine wp_false (by assumption) ?_)
      refine w_newS hA ok fun g ok => ?_
      repeat (first
  | refine wp_nil.2 ?_
  | refine w_ld 0 hA ok rfl rfl rfl ?_
  | refine w_ld 1 hA ok rfl rfl rfl ?_
  | refine w_ld 2 hA ok rfl rfl rfl ?_
  | refine w_ld 3 hA ok rfl rfl rfl ?_
  | refine w_ld 4 hA ok rfl rfl rfl ?_
  | refine w_ld 5 hA ok rfl rfl rfl ?_
  | refine w_ld 6 hA ok rfl rfl rfl ?_
  | refine w_ld 7 hA ok rfl rfl rfl ?_
  | refine w_st 0 hA ok rfl rfl rfl rfl ?_
  | refine w_st 1 hA ok rfl rfl rfl rfl ?_
  | refine w_st 2 hA ok rfl rfl rfl rfl ?_
  | refine w_st 3 hA ok rfl rfl rfl rfl ?_
  | refine w_st 4 hA ok rfl rfl rfl rfl ?_
  | refine w_st 5 hA ok rfl rfl rfl rfl ?_
  | refine w_st 6 hA ok rfl rfl rfl rfl ?_
  | refine w_st 7 hA ok rfl rfl rfl rfl ?_
  | refine w_ldA 0 hA ok rfl rfl rfl ?_
  | refine w_ldA 1 hA ok rfl rfl rfl ?_
  | refine w_ldA 2 hA ok rfl rfl rfl ?_
  | refine w_ldA 3 hA ok rfl rfl rfl ?_
  | refine w_ldA 4 hA ok rfl rfl rfl ?_
  | refine w_ldA 5 hA ok rfl rfl rfl ?_
  | refine w_ldA 6 hA ok rfl rfl rfl ?_
  | refine w_ldA 7 hA ok rfl rfl rfl ?_
  | refine w_stA 0 hA ok rfl rfl rfl rfl ?_
  | refine w_stA 1 hA ok rfl rfl rfl rfl ?_
  | refine w_stA 2 hA ok rfl rfl rfl rfl ?_
  | refine w_stA 3 hA ok rfl rfl rfl rfl ?_
  | refine w_stA 4 hA ok rfl rfl rfl rfl ?_
  | refine w_stA 5 hA ok rfl rfl rfl rfl ?_
  | refine w_stA 6 hA ok rfl rfl rfl rfl ?_
  | refine w_stA 7 hA ok rfl rfl rfl rfl ?_
  | (refine w_Raw hA ?_; intro hA)
  | (refine w_SetRaw hA ?_; intro hA)
  | (refine w_SwapRaw hA ?_; intro hA)
  | (refine w_AddRaw hA ?_; intro hA)
  | (refine w_Load hA ?_; intro hA)
  | (refine w_Store hA ?_; intro hA)
  | (refine w_Retire hA ?_; intro hA)
  | (refine w_Died hA ?_; intro hA)
  | (refine w_Born hA ?_; intro hA)
  | refine w_State hA ?_
  | refine w_Uses hA ?_
  | refine w_Fault hA ?_
  | refine w_Words hA ?_
  | refine w_Count hA ?_
  | refine wq_Size ?_
  | refine wq_Open ?_
  | refine wq_Pack ?_
  | refine wq_head ?_
  | refine w_ck 0 hA ok rfl rfl rfl ?_
  | refine w_ck 1 hA ok rfl rfl rfl ?_
  | refine w_ck 2 hA ok rfl rfl rfl ?_
  | refine w_ck 3 hA ok rfl rfl rfl ?_
  | refine w_ck 4 hA ok rfl rfl rfl ?_
  | refine w_ck 5 hA ok rfl rfl rfl ?_
  | refine w_ck 6 hA ok rfl rfl rfl ?_
  | refine w_ck 7 hA ok rfl rfl rfl ?_
  | refine w_ckn rfl ?_
  | refine w_Base 0 1 hA ok rfl rfl ?_
  | refine w_Base 1 2 hA ok rfl rfl ?_
  | refine w_Base 2 3 hA ok rfl rfl ?_
  | refine w_Base 3 4 hA ok rfl rfl ?_
  | refine w_Base 4 5 hA ok rfl rfl ?_
  | refine w_Base 5 6 hA ok rfl rfl ?_
  | (refine w_PopStep 0 1 hA ok rfl rfl ?_; intro hA)
  | (refine w_PopStep 1 2 hA ok rfl rfl ?_; intro hA)
  | (refine w_PopStep 2 3 hA ok rfl rfl ?_; intro hA)
  | (refine w_PopStep 3 4 hA ok rfl rfl ?_; intro hA)
  | (refine w_PopStep 4 5 hA ok rfl rfl ?_; intro hA)
  | (refine w_PopStep 5 6 hA ok rfl rfl ?_; intro hA)
  | (refine w_PushStep 0 1 hA ok rfl rfl ?_; intro hA)
  | (refine w_PushStep 1 2 hA ok rfl rfl ?_; intro hA)
  | (refine w_PushStep 2 3 hA ok rfl rfl ?_; intro hA)
  | (refine w_PushStep 3 4 hA ok rfl rfl ?_; intro hA)
  | (refine w_PushStep 4 5 hA ok rfl rfl ?_; intro hA)
  | (refine w_PushStep 5 6 hA ok rfl rfl ?_; intro hA)
  | refine wp_true (by assumption) ?_
  | refine wp_false (by assumption) ?_)
      obtain ⟨p1, ok2⟩ := own_perm (A := A) (l' := (j1.q, oc ty_epoch_Turn ((m.upto i.toNat).cells j1)) :: (fbl (m.upto i.toNat).frees j1.fj ++ ((newFe m.pl m.work y.1).bl jf ++ j1.tls)) ++ (((g, oc ty_p_slab_Free [.pointer (some ⟨jf.1, 0, none⟩)]) :: j1.tfs) ++ ((x3, oc ty_epoch_Limbo [.int .i64 y.1, .int .i64 y.2]) :: j1.tds))) ok (perm_by fun c d c0 cd ca => by simp only [cd, ca, c0]; omega)
      rw [p1]
      have ok := ok2
      refine w_appM (E := eP) elF _ (xs := j1.fj.map (·.1)) (ys := [jf.1]) (t := ⟨some ⟨g, 0, none⟩, 1, 1⟩) hA ok (hfs.mono fun p hp => List.mem_cons_of_mem _ hp) ?_ rfl (by simp only [List.length_cons, List.length_nil, List.length_map]; omega) fun s' mid' hs' ok => ?_
      · exact cell_row (c := [.pointer (some ⟨jf.1, 0, none⟩)]) hA ok (List.mem_append_right _ (List.mem_append_left _ List.mem_cons_self)) 0 rfl
      repeat (first
  | refine wp_nil.2 ?_
  | refine w_ld 0 hA ok rfl rfl rfl ?_
  | refine w_ld 1 hA ok rfl rfl rfl ?_
  | refine w_ld 2 hA ok rfl rfl rfl ?_
  | refine w_ld 3 hA ok rfl rfl rfl ?_
  | refine w_ld 4 hA ok rfl rfl rfl ?_
  | refine w_ld 5 hA ok rfl rfl rfl ?_
  | refine w_ld 6 hA ok rfl rfl rfl ?_
  | refine w_ld 7 hA ok rfl rfl rfl ?_
  | refine w_st 0 hA ok rfl rfl rfl rfl ?_
  | refine w_st 1 hA ok rfl rfl rfl rfl ?_
  | refine w_st 2 hA ok rfl rfl rfl rfl ?_
  | refine w_st 3 hA ok rfl rfl rfl rfl ?_
  | refine w_st 4 hA ok rfl rfl rfl rfl ?_
  | refine w_st 5 hA ok rfl rfl rfl rfl ?_
  | refine w_st 6 hA ok rfl rfl rfl rfl ?_
  | refine w_st 7 hA ok rfl rfl rfl rfl ?_
  | refine w_ldA 0 hA ok rfl rfl rfl ?_
  | refine w_ldA 1 hA ok rfl rfl rfl ?_
  | refine w_ldA 2 hA ok rfl rfl rfl ?_
  | refine w_ldA 3 hA ok rfl rfl rfl ?_
  | refine w_ldA 4 hA ok rfl rfl rfl ?_
  | refine w_ldA 5 hA ok rfl rfl rfl ?_
  | refine w_ldA 6 hA ok rfl rfl rfl ?_
  | refine w_ldA 7 hA ok rfl rfl rfl ?_
  | refine w_stA 0 hA ok rfl rfl rfl rfl ?_
  | refine w_stA 1 hA ok rfl rfl rfl rfl ?_
  | refine w_stA 2 hA ok rfl rfl rfl rfl ?_
  | refine w_stA 3 hA ok rfl rfl rfl rfl ?_
  | refine w_stA 4 hA ok rfl rfl rfl rfl ?_
  | refine w_stA 5 hA ok rfl rfl rfl rfl ?_
  | refine w_stA 6 hA ok rfl rfl rfl rfl ?_
  | refine w_stA 7 hA ok rfl rfl rfl rfl ?_
  | (refine w_Raw hA ?_; intro hA)
  | (refine w_SetRaw hA ?_; intro hA)
  | (refine w_SwapRaw hA ?_; intro hA)
  | (refine w_AddRaw hA ?_; intro hA)
  | (refine w_Load hA ?_; intro hA)
  | (refine w_Store hA ?_; intro hA)
  | (refine w_Retire hA ?_; intro hA)
  | (refine w_Died hA ?_; intro hA)
  | (refine w_Born hA ?_; intro hA)
  | refine w_State hA ?_
  | refine w_Uses hA ?_
  | refine w_Fault hA ?_
  | refine w_Words hA ?_
  | refine w_Count hA ?_
  | refine wq_Size ?_
  | refine wq_Open ?_
  | refine wq_Pack ?_
  | refine wq_head ?_
  | refine w_ck 0 hA ok rfl rfl rfl ?_
  | refine w_ck 1 hA ok rfl rfl rfl ?_
  | refine w_ck 2 hA ok rfl rfl rfl ?_
  | refine w_ck 3 hA ok rfl rfl rfl ?_
  | refine w_ck 4 hA ok rfl rfl rfl ?_
  | refine w_ck 5 hA ok rfl rfl rfl ?_
  | refine w_ck 6 hA ok rfl rfl rfl ?_
  | refine w_ck 7 hA ok rfl rfl rfl ?_
  | refine w_ckn rfl ?_
  | refine w_Base 0 1 hA ok rfl rfl ?_
  | refine w_Base 1 2 hA ok rfl rfl ?_
  | refine w_Base 2 3 hA ok rfl rfl ?_
  | refine w_Base 3 4 hA ok rfl rfl ?_
  | refine w_Base 4 5 hA ok rfl rfl ?_
  | refine w_Base 5 6 hA ok rfl rfl ?_
  | (refine w_PopStep 0 1 hA ok rfl rfl ?_; intro hA)
  | (refine w_PopStep 1 2 hA ok rfl rfl ?_; intro hA)
  | (refine w_PopStep 2 3 hA ok rfl rfl ?_; intro hA)
  | (refine w_PopStep 3 4 hA ok rfl rfl ?_; intro hA)
  | (refine w_PopStep 4 5 hA ok rfl rfl ?_; intro hA)
  | (refine w_PopStep 5 6 hA ok rfl rfl ?_; intro hA)
  | (refine w_PushStep 0 1 hA ok rfl rfl ?_; intro hA)
  | (refine w_PushStep 1 2 hA ok rfl rfl ?_; intro hA)
  | (refine w_PushStep 2 3 hA ok rfl rfl ?_; intro hA)
  | (refine w_PushStep 3 4 hA ok rfl rfl ?_; intro hA)
  | (refine w_PushStep 4 5 hA ok rfl rfl ?_; intro hA)
  | (refine w_PushStep 5 6 hA ok rfl rfl ?_; intro hA)
  | refine wp_true (by assumption) ?_
  | refine wp_false (by assumption) ?_)
      have hp : ((j1.q, oc ty_epoch_Turn ((m.upto (i.toNat + 1)).cells { j1 with fs := s', tfs := mid', fj := j1.fj ++ [jf], tds := (x3, oc ty_epoch_Limbo [.int .i64 y.1, .int .i64 y.2]) :: j1.tds })) :: (fbl (m.upto i.toNat).frees j1.fj ++ ((newFe m.pl m.work y.1).bl jf ++ j1.tls)) ++ (mid' ++ ((x3, oc ty_epoch_Limbo [.int .i64 y.1, .int .i64 y.2]) :: j1.tds))).Perm ((m.upto (i.toNat + 1)).bl { j1 with fs := s', tfs := mid', fj := j1.fj ++ [jf], tds := (x3, oc ty_epoch_Limbo [.int .i64 y.1, .int .i64 y.2]) :: j1.tds }) := by
        unfold Tn.bl
        rw [ff]
        dsimp only
        rw [fbl_snoc hfl]
        exact (perm_by fun c d c0 cd ca => by simp only [cd, ca, c0]; omega)
      refine wp_again ⟨i + 1, rfl, ⟨{ j1 with fs := s', tfs := mid', fj := j1.fj ++ [jf], tds := (x3, oc ty_epoch_Limbo [.int .i64 y.1, .int .i64 y.2]) :: j1.tds }, by omega, by omega, ?_, ?_, rfl, rfl, hls, ?_, ?_, ?_⟩, by omega⟩
      · rw [e2]; exact (own_perm2 (A := A) hp ok).1
      · rw [e2]; exact (own_perm2 (A := A) hp ok).2
      · rw [List.map_append]; exact hs'
      · rw [e2, fl, List.append_nil]; exact hds.mono fun p hp => List.mem_cons_of_mem _ hp
      · rw [e2, ff, List.length_append, List.length_append, hfl]; rfl
    · rw [if_neg hin] at fl ff
      refine wp_false (show due m.e y = false by simpa using hin) ?_
      repeat (first
  | refine wp_nil.2 ?_
  | refine w_ld 0 hA ok rfl rfl rfl ?_
  | refine w_ld 1 hA ok rfl rfl rfl ?_
  | refine w_ld 2 hA ok rfl rfl rfl ?_
  | refine w_ld 3 hA ok rfl rfl rfl ?_
  | refine w_ld 4 hA ok rfl rfl rfl ?_
  | refine w_ld 5 hA ok rfl rfl rfl ?_
  | refine w_ld 6 hA ok rfl rfl rfl ?_
  | refine w_ld 7 hA ok rfl rfl rfl ?_
  | refine w_st 0 hA ok rfl rfl rfl rfl ?_
  | refine w_st 1 hA ok rfl rfl rfl rfl ?_
  | refine w_st 2 hA ok rfl rfl rfl rfl ?_
  | refine w_st 3 hA ok rfl rfl rfl rfl ?_
  | refine w_st 4 hA ok rfl rfl rfl rfl ?_
  | refine w_st 5 hA ok rfl rfl rfl rfl ?_
  | refine w_st 6 hA ok rfl rfl rfl rfl ?_
  | refine w_st 7 hA ok rfl rfl rfl rfl ?_
  | refine w_ldA 0 hA ok rfl rfl rfl ?_
  | refine w_ldA 1 hA ok rfl rfl rfl ?_
  | refine w_ldA 2 hA ok rfl rfl rfl ?_
  | refine w_ldA 3 hA ok rfl rfl rfl ?_
  | refine w_ldA 4 hA ok rfl rfl rfl ?_
  | refine w_ldA 5 hA ok rfl rfl rfl ?_
  | refine w_ldA 6 hA ok rfl rfl rfl ?_
  | refine w_ldA 7 hA ok rfl rfl rfl ?_
  | refine w_stA 0 hA ok rfl rfl rfl rfl ?_
  | refine w_stA 1 hA ok rfl rfl rfl rfl ?_
  | refine w_stA 2 hA ok rfl rfl rfl rfl ?_
  | refine w_stA 3 hA ok rfl rfl rfl rfl ?_
  | refine w_stA 4 hA ok rfl rfl rfl rfl ?_
  | refine w_stA 5 hA ok rfl rfl rfl rfl ?_
  | refine w_stA 6 hA ok rfl rfl rfl rfl ?_
  | refine w_stA 7 hA ok rfl rfl rfl rfl ?_
  | (refine w_Raw hA ?_; intro hA)
  | (refine w_SetRaw hA ?_; intro hA)
  | (refine w_SwapRaw hA ?_; intro hA)
  | (refine w_AddRaw hA ?_; intro hA)
  | (refine w_Load hA ?_; intro hA)
  | (refine w_Store hA ?_; intro hA)
  | (refine w_Retire hA ?_; intro hA)
  | (refine w_Died hA ?_; intro hA)
  | (refine w_Born hA ?_; intro hA)
  | refine w_State hA ?_
  | refine w_Uses hA ?_
  | refine w_Fault hA ?_
  | refine w_Words hA ?_
  | refine w_Count hA ?_
  | refine wq_Size ?_
  | refine wq_Open ?_
  | refine wq_Pack ?_
  | refine wq_head ?_
  | refine w_ck 0 hA ok rfl rfl rfl ?_
  | refine w_ck 1 hA ok rfl rfl rfl ?_
  | refine w_ck 2 hA ok rfl rfl rfl ?_
  | refine w_ck 3 hA ok rfl rfl rfl ?_
  | refine w_ck 4 hA ok rfl rfl rfl ?_
  | refine w_ck 5 hA ok rfl rfl rfl ?_
  | refine w_ck 6 hA ok rfl rfl rfl ?_
  | refine w_ck 7 hA ok rfl rfl rfl ?_
  | refine w_ckn rfl ?_
  | refine w_Base 0 1 hA ok rfl rfl ?_
  | refine w_Base 1 2 hA ok rfl rfl ?_
  | refine w_Base 2 3 hA ok rfl rfl ?_
  | refine w_Base 3 4 hA ok rfl rfl ?_
  | refine w_Base 4 5 hA ok rfl rfl ?_
  | refine w_Base 5 6 hA ok rfl rfl ?_
  | (refine w_PopStep 0 1 hA ok rfl rfl ?_; intro hA)
  | (refine w_PopStep 1 2 hA ok rfl rfl ?_; intro hA)
  | (refine w_PopStep 2 3 hA ok rfl rfl ?_; intro hA)
  | (refine w_PopStep 3 4 hA ok rfl rfl ?_; intro hA)
  | (refine w_PopStep 4 5 hA ok rfl rfl ?_; intro hA)
  | (refine w_PopStep 5 6 hA ok rfl rfl ?_; intro hA)
  | (refine w_PushStep 0 1 hA ok rfl rfl ?_; intro hA)
  | (refine w_PushStep 1 2 hA ok rfl rfl ?_; intro hA)
  | (refine w_PushStep 2 3 hA ok rfl rfl ?_; intro hA)
  | (refine w_PushStep 3 4 hA ok rfl rfl ?_; intro hA)
  | (refine w_PushStep 4 5 hA ok rfl rfl ?_; intro hA)
  | (refine w_PushStep 5 6 hA ok rfl rfl ?_; intro hA)
  | refine wp_true (by assumption) ?_
  | refine wp_false (by assumption) ?_)
      refine w_newS hA ok fun g ok => ?_
      repeat (first
  | refine wp_nil.2 ?_
  | refine w_ld 0 hA ok rfl rfl rfl ?_
  | refine w_ld 1 hA ok rfl rfl rfl ?_
  | refine w_ld 2 hA ok rfl rfl rfl ?_
  | refine w_ld 3 hA ok rfl rfl rfl ?_
  | refine w_ld 4 hA ok rfl rfl rfl ?_
  | refine w_ld 5 hA ok rfl rfl rfl ?_
  | refine w_ld 6 hA ok rfl rfl rfl ?_
  | refine w_ld 7 hA ok rfl rfl rfl ?_
  | refine w_st 0 hA ok rfl rfl rfl rfl ?_
  | refine w_st 1 hA ok rfl rfl rfl rfl ?_
  | refine w_st 2 hA ok rfl rfl rfl rfl ?_
  | refine w_st 3 hA ok rfl rfl rfl rfl ?_
  | refine w_st 4 hA ok rfl rfl rfl rfl ?_
  | refine w_st 5 hA ok rfl rfl rfl rfl ?_
  | refine w_st 6 hA ok rfl rfl rfl rfl ?_
  | refine w_st 7 hA ok rfl rfl rfl rfl ?_
  | refine w_ldA 0 hA ok rfl rfl rfl ?_
  | refine w_ldA 1 hA ok rfl rfl rfl ?_
  | refine w_ldA 2 hA ok rfl rfl rfl ?_
  | refine w_ldA 3 hA ok rfl rfl rfl ?_
  | refine w_ldA 4 hA ok rfl rfl rfl ?_
  | refine w_ldA 5 hA ok rfl rfl rfl ?_
  | refine w_ldA 6 hA ok rfl rfl rfl ?_
  | refine w_ldA 7 hA ok rfl rfl rfl ?_
  | refine w_stA 0 hA ok rfl rfl rfl rfl ?_
  | refine w_stA 1 hA ok rfl rfl rfl rfl ?_
  | refine w_stA 2 hA ok rfl rfl rfl rfl ?_
  | refine w_stA 3 hA ok rfl rfl rfl rfl ?_
  | refine w_stA 4 hA ok rfl rfl rfl rfl ?_
  | refine w_stA 5 hA ok rfl rfl rfl rfl ?_
  | refine w_stA 6 hA ok rfl rfl rfl rfl ?_
  | refine w_stA 7 hA ok rfl rfl rfl rfl ?_
  | (refine w_Raw hA ?_; intro hA)
  | (refine w_SetRaw hA ?_; intro hA)
  | (refine w_SwapRaw hA ?_; intro hA)
  | (refine w_AddRaw hA ?_; intro hA)
  | (refine w_Load hA ?_; intro hA)
  | (refine w_Store hA ?_; intro hA)
  | (refine w_Retire hA ?_; intro hA)
  | (refine w_Died hA ?_; intro hA)
  | (refine w_Born hA ?_; intro hA)
  | refine w_State hA ?_
  | refine w_Uses hA ?_
  | refine w_Fault hA ?_
  | refine w_Words hA ?_
  | refine w_Count hA ?_
  | refine wq_Size ?_
  | refine wq_Open ?_
  | refine wq_Pack ?_
  | refine wq_head ?_
  | refine w_ck 0 hA ok rfl rfl rfl ?_
  | refine w_ck 1 hA ok rfl rfl rfl ?_
  | refine w_ck 2 hA ok rfl rfl rfl ?_
  | refine w_ck 3 hA ok rfl rfl rfl ?_
  | refine w_ck 4 hA ok rfl rfl rfl ?_
  | refine w_ck 5 hA ok rfl rfl rfl ?_
  | refine w_ck 6 hA ok rfl rfl rfl ?_
  | refine w_ck 7 hA ok rfl rfl rfl ?_
  | refine w_ckn rfl ?_
  | refine w_Base 0 1 hA ok rfl rfl ?_
  | refine w_Base 1 2 hA ok rfl rfl ?_
  | refine w_Base 2 3 hA ok rfl rfl ?_
  | refine w_Base 3 4 hA ok rfl rfl ?_
  | refine w_Base 4 5 hA ok rfl rfl ?_
  | refine w_Base 5 6 hA ok rfl rfl ?_
  | (refine w_PopStep 0 1 hA ok rfl rfl ?_; intro hA)
  | (refine w_PopStep 1 2 hA ok rfl rfl ?_; intro hA)
  | (refine w_PopStep 2 3 hA ok rfl rfl ?_; intro hA)
  | (refine w_PopStep 3 4 hA ok rfl rfl ?_; intro hA)
  | (refine w_PopStep 4 5 hA ok rfl rfl ?_; intro hA)
  | (refine w_PopStep 5 6 hA ok rfl rfl ?_; intro hA)
  | (refine w_PushStep 0 1 hA ok rfl rfl ?_; intro hA)
  | (refine w_PushStep 1 2 hA ok rfl rfl ?_; intro hA)
  | (refine w_PushStep 2 3 hA ok rfl rfl ?_; intro hA)
  | (refine w_PushStep 3 4 hA ok rfl rfl ?_; intro hA)
  | (refine w_PushStep 4 5 hA ok rfl rfl ?_; intro hA)
  | (refine w_PushStep 5 6 hA ok rfl rfl ?_; intro hA)
  | refine wp_true (by assumption) ?_
  | refine wp_false (by assumption) ?_)
      obtain ⟨p1, ok2⟩ := own_perm (A := A) (l' := (j1.q, oc ty_epoch_Turn ((m.upto i.toNat).cells j1)) :: (fbl (m.upto i.toNat).frees j1.fj ++ (j1.tls ++ j1.tfs)) ++ (((g, oc ty_epoch_Limbo [.int .i64 y.1, .int .i64 y.2]) :: (x3, oc ty_epoch_Limbo [.int .i64 y.1, .int .i64 y.2]) :: j1.tds) ++ [])) ok (perm_by fun c d c0 cd ca => by simp only [cd, ca, c0]; omega)
      rw [p1]
      have ok := ok2
      refine w_appM (E := Proofs.Ytcjhakdopnamoaa.eL) elL _ (xs := (m.upto i.toNat).left) (ys := [y]) (t := ⟨some ⟨g, 0, none⟩, 1, 1⟩) hA ok (hds.mono fun p hp => List.mem_cons_of_mem _ (List.mem_cons_of_mem _ hp)) ?_ rfl (by simp only [List.length_cons, List.length_nil]; omega) fun s' mid' hs' ok => ?_
      · exact cell_row (c := [.int .i64 y.1, .int .i64 y.2]) hA ok (List.mem_append_right _ (List.mem_append_left _ List.mem_cons_self)) 0 rfl
      repeat (first
  | refine wp_nil.2 ?_
  | refine w_ld 0 hA ok rfl rfl rfl ?_
  | refine w_ld 1 hA ok rfl rfl rfl ?_
  | refine w_ld 2 hA ok rfl rfl rfl ?_
  | refine w_ld 3 hA ok rfl rfl rfl ?_
  | refine w_ld 4 hA ok rfl rfl rfl ?_
  | refine w_ld 5 hA ok rfl rfl rfl ?_
  | refine w_ld 6 hA ok rfl rfl rfl ?_
  | refine w_ld 7 hA ok rfl rfl rfl ?_
  | refine w_st 0 hA ok rfl rfl rfl rfl ?_
  | refine w_st 1 hA ok rfl rfl rfl rfl ?_
  | refine w_st 2 hA ok rfl rfl rfl rfl ?_
  | refine w_st 3 hA ok rfl rfl rfl rfl ?_
  | refine w_st 4 hA ok rfl rfl rfl rfl ?_
  | refine w_st 5 hA ok rfl rfl rfl rfl ?_
  | refine w_st 6 hA ok rfl rfl rfl rfl ?_
  | refine w_st 7 hA ok rfl rfl rfl rfl ?_
  | refine w_ldA 0 hA ok rfl rfl rfl ?_
  | refine w_ldA 1 hA ok rfl rfl rfl ?_
  | refine w_ldA 2 hA ok rfl rfl rfl ?_
  | refine w_ldA 3 hA ok rfl rfl rfl ?_
  | refine w_ldA 4 hA ok rfl rfl rfl ?_
  | refine w_ldA 5 hA ok rfl rfl rfl ?_
  | refine w_ldA 6 hA ok rfl rfl rfl ?_
  | refine w_ldA 7 hA ok rfl rfl rfl ?_
  | refine w_stA 0 hA ok rfl rfl rfl rfl ?_
  | refine w_stA 1 hA ok rfl rfl rfl rfl ?_
  | refine w_stA 2 hA ok rfl rfl rfl rfl ?_
  | refine w_stA 3 hA ok rfl rfl rfl rfl ?_
  | refine w_stA 4 hA ok rfl rfl rfl rfl ?_
  | refine w_stA 5 hA ok rfl rfl rfl rfl ?_
  | refine w_stA 6 hA ok rfl rfl rfl rfl ?_
  | refine w_stA 7 hA ok rfl rfl rfl rfl ?_
  | (refine w_Raw hA ?_; intro hA)
  | (refine w_SetRaw hA ?_; intro hA)
  | (refine w_SwapRaw hA ?_; intro hA)
  | (refine w_AddRaw hA ?_; intro hA)
  | (refine w_Load hA ?_; intro hA)
  | (refine w_Store hA ?_; intro hA)
  | (refine w_Retire hA ?_; intro hA)
  | (refine w_Died hA ?_; intro hA)
  | (refine w_Born hA ?_; intro hA)
  | refine w_State hA ?_
  | refine w_Uses hA ?_
  | refine w_Fault hA ?_
  | refine w_Words hA ?_
  | refine w_Count hA ?_
  | refine wq_Size ?_
  | refine wq_Open ?_
  | refine wq_Pack ?_
  | refine wq_head ?_
  | refine w_ck 0 hA ok rfl rfl rfl ?_
  | refine w_ck 1 hA ok rfl rfl rfl ?_
  | refine w_ck 2 hA ok rfl rfl rfl ?_
  | refine w_ck 3 hA ok rfl rfl rfl ?_
  | refine w_ck 4 hA ok rfl rfl rfl ?_
  | refine w_ck 5 hA ok rfl rfl rfl ?_
  | refine w_ck 6 hA ok rfl rfl rfl ?_
  | refine w_ck 7 hA ok rfl rfl rfl ?_
  | refine w_ckn rfl ?_
  | refine w_Base 0 1 hA ok rfl rfl ?_
  | refine w_Base 1 2 hA ok rfl rfl ?_
  | refine w_Base 2 3 hA ok rfl rfl ?_
  | refine w_Base 3 4 hA ok rfl rfl ?_
  | refine w_Base 4 5 hA ok rfl rfl ?_
  | refine w_Base 5 6 hA ok rfl rfl ?_
  | (refine w_PopStep 0 1 hA ok rfl rfl ?_; intro hA)
  | (refine w_PopStep 1 2 hA ok rfl rfl ?_; intro hA)
  | (refine w_PopStep 2 3 hA ok rfl rfl ?_; intro hA)
  | (refine w_PopStep 3 4 hA ok rfl rfl ?_; intro hA)
  | (refine w_PopStep 4 5 hA ok rfl rfl ?_; intro hA)
  | (refine w_PopStep 5 6 hA ok rfl rfl ?_; intro hA)
  | (refine w_PushStep 0 1 hA ok rfl rfl ?_; intro hA)
  | (refine w_PushStep 1 2 hA ok rfl rfl ?_; intro hA)
  | (refine w_PushStep 2 3 hA ok rfl rfl ?_; intro hA)
  | (refine w_PushStep 3 4 hA ok rfl rfl ?_; intro hA)
  | (refine w_PushStep 4 5 hA ok rfl rfl ?_; intro hA)
  | (refine w_PushStep 5 6 hA ok rfl rfl ?_; intro hA)
  | refine wp_true (by assumption) ?_
  | refine wp_false (by assumption) ?_)
      rw [List.append_nil] at ff
      have hp : ((j1.q, oc ty_epoch_Turn ((m.upto (i.toNat + 1)).cells { j1 with ds := s', tds := mid' })) :: (fbl (m.upto i.toNat).frees j1.fj ++ (j1.tls ++ j1.tfs)) ++ (mid' ++ [])).Perm ((m.upto (i.toNat + 1)).bl { j1 with ds := s', tds := mid' }) := by
        unfold Tn.bl
        rw [ff]
        dsimp only
        exact (perm_by fun c d c0 cd ca => by simp only [cd, ca, c0]; omega)
      refine wp_again ⟨i + 1, rfl, ⟨{ j1 with ds := s', tds := mid' }, by omega, by omega, ?_, ?_, rfl, rfl, hls, hfs, ?_, ?_⟩, by omega⟩
      · rw [e2]; exact (own_perm2 (A := A) hp ok).1
      · rw [e2]; exact (own_perm2 (A := A) hp ok).2
      · rw [e2, fl]; exact hs'
      · rw [e2, ff]; exact hfl
  · refine wp_false (decide_eq_false (by show ¬ i < ((j1.ls.len : Nat) : Int); rw [hlen]; exact hi)) ?_
    have ei : i.toNat = m.l.length := by omega
    rw [ei] at hds hfl ok ⊢
    repeat (first
  | refine wp_nil.2 ?_
  | refine w_ld 0 hA ok rfl rfl rfl ?_
  | refine w_ld 1 hA ok rfl rfl rfl ?_
  | refine w_ld 2 hA ok rfl rfl rfl ?_
  | refine w_ld 3 hA ok rfl rfl rfl ?_
  | refine w_ld 4 hA ok rfl rfl rfl ?_
  | refine w_ld 5 hA ok rfl rfl rfl ?_
  | refine w_ld 6 hA ok rfl rfl rfl ?_
  | refine w_ld 7 hA ok rfl rfl rfl ?_
  | refine w_st 0 hA ok rfl rfl rfl rfl ?_
  | refine w_st 1 hA ok rfl rfl rfl rfl ?_
  | refine w_st 2 hA ok rfl rfl rfl rfl ?_
  | refine w_st 3 hA ok rfl rfl rfl rfl ?_
  | refine w_st 4 hA ok rfl rfl rfl rfl ?_
  | refine w_st 5 hA ok rfl rfl rfl rfl ?_
  | refine w_st 6 hA ok rfl rfl rfl rfl ?_
  | refine w_st 7 hA ok rfl rfl rfl rfl ?_
  | refine w_ldA 0 hA ok rfl rfl rfl ?_
  | refine w_ldA 1 hA ok rfl rfl rfl ?_
  | refine w_ldA 2 hA ok rfl rfl rfl ?_
  | refine w_ldA 3 hA ok rfl rfl rfl ?_
  | refine w_ldA 4 hA ok rfl rfl rfl ?_
  | refine w_ldA 5 hA ok rfl rfl rfl ?_
  | refine w_ldA 6 hA ok rfl rfl rfl ?_
  | refine w_ldA 7 hA ok rfl rfl rfl ?_
  | refine w_stA 0 hA ok rfl rfl rfl rfl ?_
  | refine w_stA 1 hA ok rfl rfl rfl rfl ?_
  | refine w_stA 2 hA ok rfl rfl rfl rfl ?_
  | refine w_stA 3 hA ok rfl rfl rfl rfl ?_
  | refine w_stA 4 hA ok rfl rfl rfl rfl ?_
  | refine w_stA 5 hA ok rfl rfl rfl rfl ?_
  | refine w_stA 6 hA ok rfl rfl rfl rfl ?_
  | refine w_stA 7 hA ok rfl rfl rfl rfl ?_
  | (refine w_Raw hA ?_; intro hA)
  | (refine w_SetRaw hA ?_; intro hA)
  | (refine w_SwapRaw hA ?_; intro hA)
  | (refine w_AddRaw hA ?_; intro hA)
  | (refine w_Load hA ?_; intro hA)
  | (refine w_Store hA ?_; intro hA)
  | (refine w_Retire hA ?_; intro hA)
  | (refine w_Died hA ?_; intro hA)
  | (refine w_Born hA ?_; intro hA)
  | refine w_State hA ?_
  | refine w_Uses hA ?_
  | refine w_Fault hA ?_
  | refine w_Words hA ?_
  | refine w_Count hA ?_
  | refine wq_Size ?_
  | refine wq_Open ?_
  | refine wq_Pack ?_
  | refine wq_head ?_
  | refine w_ck 0 hA ok rfl rfl rfl ?_
  | refine w_ck 1 hA ok rfl rfl rfl ?_
  | refine w_ck 2 hA ok rfl rfl rfl ?_
  | refine w_ck 3 hA ok rfl rfl rfl ?_
  | refine w_ck 4 hA ok rfl rfl rfl ?_
  | refine w_ck 5 hA ok rfl rfl rfl ?_
  | refine w_ck 6 hA ok rfl rfl rfl ?_
  | refine w_ck 7 hA ok rfl rfl rfl ?_
  | refine w_ckn rfl ?_
  | refine w_Base 0 1 hA ok rfl rfl ?_
  | refine w_Base 1 2 hA ok rfl rfl ?_
  | refine w_Base 2 3 hA ok rfl rfl ?_
  | refine w_Base 3 4 hA ok rfl rfl ?_
  | refine w_Base 4 5 hA ok rfl rfl ?_
  | refine w_Base 5 6 hA ok rfl rfl ?_
  | (refine w_PopStep 0 1 hA ok rfl rfl ?_; intro hA)
  | (refine w_PopStep 1 2 hA ok rfl rfl ?_; intro hA)
  | (refine w_PopStep 2 3 hA ok rfl rfl ?_; intro hA)
  | (refine w_PopStep 3 4 hA ok rfl rfl ?_; intro hA)
  | (refine w_PopStep 4 5 hA ok rfl rfl ?_; intro hA)
  | (refine w_PopStep 5 6 hA ok rfl rfl ?_; intro hA)
  | (refine w_PushStep 0 1 hA ok rfl rfl ?_; intro hA)
  | (refine w_PushStep 1 2 hA ok rfl rfl ?_; intro hA)
  | (refine w_PushStep 2 3 hA ok rfl rfl ?_; intro hA)
  | (refine w_PushStep 3 4 hA ok rfl rfl ?_; intro hA)
  | (refine w_PushStep 4 5 hA ok rfl rfl ?_; intro hA)
  | (refine w_PushStep 5 6 hA ok rfl rfl ?_; intro hA)
  | refine wp_true (by assumption) ?_
  | refine wp_false (by assumption) ?_)
    have hfl2 := hfs.len
    rw [List.length_map, ← hfl] at hfl2
    by_cases hz : (m.upto m.l.length).frees = []
    · refine wp_true (ibeq (by show ((j1.fs.len : Nat) : Int) = 0; rw [hfl2, hz]; rfl)) ?_
      repeat (first
  | refine wp_nil.2 ?_
  | refine w_ld 0 hA ok rfl rfl rfl ?_
  | refine w_ld 1 hA ok rfl rfl rfl ?_
  | refine w_ld 2 hA ok rfl rfl rfl ?_
  | refine w_ld 3 hA ok rfl rfl rfl ?_
  | refine w_ld 4 hA ok rfl rfl rfl ?_
  | refine w_ld 5 hA ok rfl rfl rfl ?_
  | refine w_ld 6 hA ok rfl rfl rfl ?_
  | refine w_ld 7 hA ok rfl rfl rfl ?_
  | refine w_st 0 hA ok rfl rfl rfl rfl ?_
  | refine w_st 1 hA ok rfl rfl rfl rfl ?_
  | refine w_st 2 hA ok rfl rfl rfl rfl ?_
  | refine w_st 3 hA ok rfl rfl rfl rfl ?_
  | refine w_st 4 hA ok rfl rfl rfl rfl ?_
  | refine w_st 5 hA ok rfl rfl rfl rfl ?_
  | refine w_st 6 hA ok rfl rfl rfl rfl ?_
  | refine w_st 7 hA ok rfl rfl rfl rfl ?_
  | refine w_ldA 0 hA ok rfl rfl rfl ?_
  | refine w_ldA 1 hA ok rfl rfl rfl ?_
  | refine w_ldA 2 hA ok rfl rfl rfl ?_
  | refine w_ldA 3 hA ok rfl rfl rfl ?_
  | refine w_ldA 4 hA ok rfl rfl rfl ?_
  | refine w_ldA 5 hA ok rfl rfl rfl ?_
  | refine w_ldA 6 hA ok rfl rfl rfl ?_
  | refine w_ldA 7 hA ok rfl rfl rfl ?_
  | refine w_stA 0 hA ok rfl rfl rfl rfl ?_
  | refine w_stA 1 hA ok rfl rfl rfl rfl ?_
  | refine w_stA 2 hA ok rfl rfl rfl rfl ?_
  | refine w_stA 3 hA ok rfl rfl rfl rfl ?_
  | refine w_stA 4 hA ok rfl rfl rfl rfl ?_
  | refine w_stA 5 hA ok rfl rfl rfl rfl ?_
  | refine w_stA 6 hA ok rfl rfl rfl rfl ?_
  | refine w_stA 7 hA ok rfl rfl rfl rfl ?_
  | (refine w_Raw hA ?_; intro hA)
  | (refine w_SetRaw hA ?_; intro hA)
  | (refine w_SwapRaw hA ?_; intro hA)
  | (refine w_AddRaw hA ?_; intro hA)
  | (refine w_Load hA ?_; intro hA)
  | (refine w_Store hA ?_; intro hA)
  | (refine w_Retire hA ?_; intro hA)
  | (refine w_Died hA ?_; intro hA)
  | (refine w_Born hA ?_; intro hA)
  | refine w_State hA ?_
  | refine w_Uses hA ?_
  | refine w_Fault hA ?_
  | refine w_Words hA ?_
  | refine w_Count hA ?_
  | refine wq_Size ?_
  | refine wq_Open ?_
  | refine wq_Pack ?_
  | refine wq_head ?_
  | refine w_ck 0 hA ok rfl rfl rfl ?_
  | refine w_ck 1 hA ok rfl rfl rfl ?_
  | refine w_ck 2 hA ok rfl rfl rfl ?_
  | refine w_ck 3 hA ok rfl rfl rfl ?_
  | refine w_ck 4 hA ok rfl rfl rfl ?_
  | refine w_ck 5 hA ok rfl rfl rfl ?_
  | refine w_ck 6 hA ok rfl rfl rfl ?_
  | refine w_ck 7 hA ok rfl rfl rfl ?_
  | refine w_ckn rfl ?_
  | refine w_Base 0 1 hA ok rfl rfl ?_
  | refine w_Base 1 2 hA ok rfl rfl ?_
  | refine w_Base 2 3 hA ok rfl rfl ?_
  | refine w_Base 3 4 hA ok rfl rfl ?_
  | refine w_Base 4 5 hA ok rfl rfl ?_
  | refine w_Base 5 6 hA ok rfl rfl ?_
  | (refine w_PopStep 0 1 hA ok rfl rfl ?_; intro hA)
  | (refine w_PopStep 1 2 hA ok rfl rfl ?_; intro hA)
  | (refine w_PopStep 2 3 hA ok rfl rfl ?_; intro hA)
  | (refine w_PopStep 3 4 hA ok rfl rfl ?_; intro hA)
  | (refine w_PopStep 4 5 hA ok rfl rfl ?_; intro hA)
  | (refine w_PopStep 5 6 hA ok rfl rfl ?_; intro hA)
  | (refine w_PushStep 0 1 hA ok rfl rfl ?_; intro hA)
  | (refine w_PushStep 1 2 hA ok rfl rfl ?_; intro hA)
  | (refine w_PushStep 2 3 hA ok rfl rfl ?_; intro hA)
  | (refine w_PushStep 3 4 hA ok rfl rfl ?_; intro hA)
  | (refine w_PushStep 4 5 hA ok rfl rfl ?_; intro hA)
  | (refine w_PushStep 5 6 hA ok rfl rfl ?_; intro hA)
  | refine wp_true (by assumption) ?_
  | refine wp_false (by assumption) ?_)
      have ep : m.sort.ph = 4 := if_pos hz
      refine wp_ret_of ⟨j1, rfl, ?_, rfl, ok, ⟨hls, hfs.at', hds, hfl, fun h => by rw [ep] at h; omega⟩⟩
      have key : m.sort.cells j1 = tnC m.tw m.ta m.pl m.work m.e m.word j1.ls j1.fs j1.ds (tnNext j1.q 4) := by unfold Tn.cells; rw [ep]; rfl
      rw [key]; rfl
    · refine wp_false (ibef (by show ((j1.fs.len : Nat) : Int) ≠ 0; rw [hfl2]; have := List.length_pos_iff.2 hz; omega)) ?_
      have ep : m.sort.ph = 3 := if_neg hz
      refine wp_ret_of ⟨j1, rfl, ?_, rfl, ok, ⟨hls, hfs.at', hds, hfl, fun h => by rw [ep] at h; omega⟩⟩
      have key : m.sort.cells j1 = tnC m.tw m.ta m.pl m.work m.e m.word j1.ls j1.fs j1.ds (tnNext j1.q 3) := by unfold Tn.cells; rw [ep]; rfl
      rw [key]; rfl
end
end Go.Proofs.Ytcjhakdopnamoaa

