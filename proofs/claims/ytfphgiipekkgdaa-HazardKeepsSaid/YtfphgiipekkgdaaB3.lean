/- Texts of this claim, one behind the other. -/
import Derived.Test.YtfphgiipekkgdaaB2
set_option linter.unusedSimpArgs false
set_option linter.unusedVariables false
set_option linter.unusedVariables false
set_option maxRecDepth 20000
namespace Go.Proofs.Ytfphgiipekkgdaa
open Go Go.Fw

/-! ### hazard.Scan -/

/-- A scan's state. -/
structure Sc where
  tw : Int
  ta : Int
  pl : Pl
  work : Int
  word : Int
  l : List Int
  seen : List (Int × Bool)
  sorted : Bool
  frees : List Fe
  left : List Int
  ended : Bool

abbrev Tri := Nat × Nat × Nat
structure ScJ where
  q : Nat
  mq : Nat
  ls : Sl
  fs : Sl
  ds : Sl
  fj : List Tri
  tls : Bl
  tfs : Bl
  tds : Bl

def fbl : List Fe → List Tri → Bl
  | x :: xs, j :: js => x.bl j ++ fbl xs js
  | _, _ => []
theorem fbl_snoc {x : Fe} {j : Tri} : ∀ {xs : List Fe} {js : List Tri}, xs.length = js.length → fbl (xs ++ [x]) (js ++ [j]) = fbl xs js ++ x.bl j
  | [], [], _ => by simp [fbl]
  | y :: xs, k :: js, h => by
    have := fbl_snoc (x := x) (j := j) (xs := xs) (js := js) (by simpa using h)
    simp only [List.cons_append, fbl, this, List.append_assoc]
  | [], _ :: _, h => by simp at h
  | _ :: _, [], h => by simp at h

def scC (tw ta : Int) (p : Pl) (work word : Int) (ls : Sl) (mq : Nat) (fs ds : Sl) (ended : Bool) : List Value :=
  [.int .i64 tw, .int .i64 ta, .int .i64 p.work, .int .i64 p.heads, .int .i64 p.links, .int .i64 p.gens, .int .i64 p.carved, .int .i64 work, .int .i64 word, .slice ls.a ls.len ls.cap, .map (some mq), .slice fs.a fs.len fs.cap, .slice ds.a ds.len ds.cap, .bool ended]
def Sc.cells (m : Sc) (j : ScJ) : List Value := scC m.tw m.ta m.pl m.work m.word j.ls j.mq j.fs j.ds m.ended
def Sc.map (m : Sc) (j : ScJ) : Bl := if m.sorted then [] else [(j.mq, mapObj Value.bool m.seen)]
def Sc.bl (m : Sc) (j : ScJ) : Bl := [(j.q, oc ty_hazard_Scan (m.cells j))] ++ (m.map j ++ (fbl m.frees j.fj ++ (j.tls ++ (j.tfs ++ j.tds))))

structure Sc.rep (m : Sc) (j : ScJ) : Prop where
  ls : SlOf j.tls ty_int eI j.ls m.l
  fs : SlAt j.tfs ty_p_slab_Free eP j.fs (j.fj.map (·.1))
  ds : SlOf j.tds ty_int eI j.ds m.left
  fl : m.frees.length = j.fj.length
  un : m.sorted = false → j.fs = ⟨none, 0, 0⟩ ∧ j.ds = ⟨none, 0, 0⟩ ∧ j.tfs = [] ∧ j.tds = []

theorem elF : ElOk ty_s_p_slab_Free ty_p_slab_Free 1 := ⟨⟨_, _, rfl, rfl, rfl, by decide, by decide, rfl, rfl⟩⟩

def inS (seen : List (Int × Bool)) (h : Int) : Bool := (alGet seen h).getD false
def Sc.upto (m : Sc) (n : Nat) : Sc := { m with frees := ((m.l.take n).filter fun h => !inS m.seen h).map (newFe m.pl m.work), left := (m.l.take n).filter (inS m.seen) }
def Sc.sort (m : Sc) : Sc := { m.upto m.l.length with sorted := true, ended := decide ((m.upto m.l.length).frees = []) }

theorem take_filter {p : Int → Bool} {l : List Int} {n : Nat} (h : n < l.length) : (l.take (n + 1)).filter p = (l.take n).filter p ++ if p (l.getD n 0) then [l.getD n 0] else [] := by
  have e : l.take (n + 1) = l.take n ++ [l.getD n 0] := by
    rw [List.take_add_one, List.getD_eq_getElem?_getD, List.getElem?_eq_getElem h]; rfl
  rw [e, List.filter_append]
  congr 1
  unfold List.filter
  cases p (l.getD n 0) <;> rfl
theorem Sc.bl_u {m : Sc} (j : ScJ) (h : m.sorted = false) : m.bl j = (j.q, oc ty_hazard_Scan (m.cells j)) :: (j.mq, mapObj Value.bool m.seen) :: (fbl m.frees j.fj ++ (j.tls ++ (j.tfs ++ j.tds))) := by
  unfold Sc.bl Sc.map; rw [h]; rfl
theorem Sc.bl_s {m : Sc} (j : ScJ) (h : m.sorted = true) : m.bl j = (j.q, oc ty_hazard_Scan (m.cells j)) :: (fbl m.frees j.fj ++ (j.tls ++ (j.tfs ++ j.tds))) := by
  unfold Sc.bl Sc.map; rw [h]; rfl

section
variable {L : Hands} {R : Value → Heap → Prop} {A : Ar} {I : List Nat} {G : Heap}

/-- While it sorts. -/
structure Srt (I : List Nat) (G : Heap) (A : Ar) (m : Sc) (q mq : Nat) (ls : Sl) (i : Int) (H : Heap) (j : ScJ) : Prop where
  i0 : 0 ≤ i
  i1 : i ≤ m.l.length
  eH : H = own A ((m.upto i.toNat).bl j) G
  ok : Ok I G (keys ((m.upto i.toNat).bl j))
  eq : j.q = q
  eM : j.mq = mq
  eL : j.ls = ls
  ls : SlOf j.tls ty_int eI j.ls m.l
  fs : SlOf j.tfs ty_p_slab_Free eP j.fs (j.fj.map (·.1))
  ds : SlOf j.tds ty_int eI j.ds (m.upto i.toNat).left
  fl : (m.upto i.toNat).frees.length = j.fj.length

set_option maxHeartbeats 1000000 in
theorem sort_spec (m : Sc) (j : ScJ) (hA : Aw I A) (ok : Ok I G (keys (m.bl j))) (rp : m.rep j) (hs : m.sorted = false) (hf : m.frees = []) (hd : m.left = []) (hl : m.l.length ≤ 1000) :
    SpecF Try.prog f_hazard_Scan_sort #[.pointer (some ⟨j.q, 0, none⟩)] (own A (m.bl j) G) fun v K => ∃ j', v = .tuple #[] ∧ K = own A (m.sort.bl j') G ∧ j'.q = j.q ∧ Ok I G (keys (m.sort.bl j')) ∧ m.sort.rep j' := by
  refine t_hazard_Scan_sort_spec fun L => ?_
  unfold t_hazard_Scan_sort
  obtain ⟨u1, u2, u3, u4⟩ := rp.un hs
  have efj : j.fj = [] := List.eq_nil_of_length_eq_zero (by rw [← rp.fl, hf]; rfl)
  have e0 : m.upto 0 = m := by cases m; simp only at hf hd; subst hf; subst hd; rfl
  repeat (first
  | refine wp_nil.2 ?_
  | refine w_ld 0 hA ok rfl rfl rfl ?_
  | refine w_ld 1 hA ok rfl rfl rfl ?_
  | refine w_ld 2 hA ok rfl rfl rfl ?_
  | refine w_ld 3 hA ok rfl rfl rfl ?_
  | refine w_ld 4 hA ok rfl rfl rfl ?_
  | refine w_ld 5 hA ok rfl rfl rfl ?_
  | refine w_ld 6 hA ok rfl rfl rfl ?_
  | refine w_ld 7 hA ok rfl rfl rfl ?_
  | refine w_st 0 hA ok rfl rfl rfl rfl ?_
  | refine w_st 1 hA ok rfl rfl rfl rfl ?_
  | refine w_st 2 hA ok rfl rfl rfl rfl ?_
  | refine w_st 3 hA ok rfl rfl rfl rfl ?_
  | refine w_st 4 hA ok rfl rfl rfl rfl ?_
  | refine w_st 5 hA ok rfl rfl rfl rfl ?_
  | refine w_st 6 hA ok rfl rfl rfl rfl ?_
  | refine w_st 7 hA ok rfl rfl rfl rfl ?_
  | refine w_ldA 0 hA ok rfl rfl rfl ?_
  | refine w_ldA 1 hA ok rfl rfl rfl ?_
  | refine w_ldA 2 hA ok rfl rfl rfl ?_
  | refine w_ldA 3 hA ok rfl rfl rfl ?_
  | refine w_ldA 4 hA ok rfl rfl rfl ?_
  | refine w_ldA 5 hA ok rfl rfl rfl ?_
  | refine w_ldA 6 hA ok rfl rfl rfl ?_
  | refine w_ldA 7 hA ok rfl rfl rfl ?_
  | refine w_stA 0 hA ok rfl rfl rfl rfl ?_
  | refine w_stA 1 hA ok rfl rfl rfl rfl ?_
  | refine w_stA 2 hA ok rfl rfl rfl rfl ?_
  | refine w_stA 3 hA ok rfl rfl rfl rfl ?_
  | refine w_stA 4 hA ok rfl rfl rfl rfl ?_
  | refine w_stA 5 hA ok rfl rfl rfl rfl ?_
  | refine w_stA 6 hA ok rfl rfl rfl rfl ?_
  | refine w_stA 7 hA ok rfl rfl rfl rfl ?_
  | (refine w_Raw hA ?_; intro hA)
  | (refine w_SetRaw hA ?_; intro hA)
  | (refine w_SwapRaw hA ?_; intro hA)
  | (refine w_AddRaw hA ?_; intro hA)
  | (refine w_Load hA ?_; intro hA)
  | (refine w_Store hA ?_; intro hA)
  | (refine w_Retire hA ?_; intro hA)
  | (refine w_Died hA ?_; intro hA)
  | (refine w_Born hA ?_; intro hA)
  | refine w_State hA ?_
  | refine w_Uses hA ?_
  | refine w_Fault hA ?_
  | refine w_Words hA ?_
  | refine w_Count hA ?_
  | refine wq_Size ?_
  | refine wq_Open ?_
  | refine wq_Pack ?_
  | refine wq_head ?_
  | refine w_ck 0 hA ok rfl rfl rfl ?_
  | refine w_ck 1 hA ok rfl rfl rfl ?_
  | refine w_ck 2 hA ok rfl rfl rfl ?_
  | refine w_ck 3 hA ok rfl rfl rfl ?_
  | refine w_ck 4 hA ok rfl rfl rfl ?_
  | refine w_ck 5 hA ok rfl rfl rfl ?_
  | refine w_ck 6 hA ok rfl rfl rfl ?_
  | refine w_ck 7 hA ok rfl rfl rfl ?_
  | refine w_ckn rfl ?_
  | refine w_Base 0 1 hA ok rfl rfl ?_
  | refine w_Base 1 2 hA ok rfl rfl ?_
  | refine w_Base 2 3 hA ok rfl rfl ?_
  | refine w_Base 3 4 hA ok rfl rfl ?_
  | refine w_Base 4 5 hA ok rfl rfl ?_
  | refine w_Base 5 6 hA ok rfl rfl ?_
  | (refine w_PopStep 0 1 hA ok rfl rfl ?_; intro hA)
  | (refine w_PopStep 1 2 hA ok rfl rfl ?_; intro hA)
  | (refine w_PopStep 2 3 hA ok rfl rfl ?_; intro hA)
  | (refine w_PopStep 3 4 hA ok rfl rfl ?_; intro hA)
  | (refine w_PopStep 4 5 hA ok rfl rfl ?_; intro hA)
  | (refine w_PopStep 5 6 hA ok rfl rfl ?_; intro hA)
  | (refine w_PushStep 0 1 hA ok rfl rfl ?_; intro hA)
  | (refine w_PushStep 1 2 hA ok rfl rfl ?_; intro hA)
  | (refine w_PushStep 2 3 hA ok rfl rfl ?_; intro hA)
  | (refine w_PushStep 3 4 hA ok rfl rfl ?_; intro hA)
  | (refine w_PushStep 4 5 hA ok rfl rfl ?_; intro hA)
  | (refine w_PushStep 5 6 hA ok rfl rfl ?_; intro hA)
  | refine wp_true (by assumption) ?_
  | refine wp_false (by assumption) ?_)
  refine wl_i (fun i H => ∃ j', Srt I G A m j.q j.mq j.ls i H j') (fun i => (m.l.length - i).toNat) 0 ⟨j, Int.le_refl 0, by omega, by rw [show (0 : Int).toNat = 0 from rfl, e0], by rw [show (0 : Int).toNat = 0 from rfl, e0]; exact ok, rfl, rfl, rfl, rp.ls, ?_, by rw [show (0 : Int).toNat = 0 from rfl, e0]; exact rp.ds, by rw [show (0 : Int).toNat = 0 from rfl, e0]; exact rp.fl⟩ ?_
  · rw [u1, u3, efj]; exact .inl ⟨rfl, rfl⟩
  rintro i H ⟨j1, hS⟩
  obtain ⟨i0, i1, eH, ok1, eq, eM, eL, hls, hfs, hds, hfl⟩ := hS
  subst eH
  have hsu : (m.upto i.toNat).sorted = false := hs
  have hlen := hls.len
  rw [Sc.bl_u j1 hsu] at ok1 ⊢
  have ok := ok1
  rw [t_hazard_Scan_sort_L1, ← eL, ← eq]
  by_cases hi : i < m.l.length
  · refine wp_true (decide_eq_true (by show i < ((j1.ls.len : Nat) : Int); rw [hlen]; exact hi)) ?_
    refine w_rdI hA ok (hls.mono fun p hp => ?_) i0 hi ?_
    · exact List.mem_cons_of_mem _ (List.mem_cons_of_mem _ (List.mem_append_right _ (List.mem_append_left _ hp)))
    repeat (first
  | refine wp_nil.2 ?_
  | refine w_ld 0 hA ok rfl rfl rfl ?_
  | refine w_ld 1 hA ok rfl rfl rfl ?_
  | refine w_ld 2 hA ok rfl rfl rfl ?_
  | refine w_ld 3 hA ok rfl rfl rfl ?_
  | refine w_ld 4 hA ok rfl rfl rfl ?_
  | refine w_ld 5 hA ok rfl rfl rfl ?_
  | refine w_ld 6 hA ok rfl rfl rfl ?_
  | refine w_ld 7 hA ok rfl rfl rfl ?_
  | refine w_st 0 hA ok rfl rfl rfl rfl ?_
  | refine w_st 1 hA ok rfl rfl rfl rfl ?_
  | refine w_st 2 hA ok rfl rfl rfl rfl ?_
  | refine w_st 3 hA ok rfl rfl rfl rfl ?_
  | refine w_st 4 hA ok rfl rfl rfl rfl ?_
  | refine w_st 5 hA ok rfl rfl rfl rfl ?_
  | refine w_st 6 hA ok rfl rfl rfl rfl ?_
  | refine w_st 7 hA ok rfl rfl rfl rfl ?_
  | refine w_ldA 0 hA ok rfl rfl rfl ?_
  | refine w_ldA 1 hA ok rfl rfl rfl ?_
  | refine w_ldA 2 hA ok rfl rfl rfl ?_
  | refine w_ldA 3 hA ok rfl rfl rfl ?_
  | refine w_ldA 4 hA ok rfl rfl rfl ?_
  | refine w_ldA 5 hA ok rfl rfl rfl ?_
  | refine w_ldA 6 hA ok rfl rfl rfl ?_
  | refine w_ldA 7 hA ok rfl rfl rfl ?_
  | refine w_stA 0 hA ok rfl rfl rfl rfl ?_
  | refine w_stA 1 hA ok rfl rfl rfl rfl ?_
  | refine w_stA 2 hA ok rfl rfl rfl rfl ?_
  | refine w_stA 3 hA ok rfl rfl rfl rfl ?_
  | refine w_stA 4 hA ok rfl rfl rfl rfl ?_
  | refine w_stA 5 hA ok rfl rfl rfl rfl ?_
  | refine w_stA 6 hA ok rfl rfl rfl rfl ?_
  | refine w_stA 7 hA ok rfl rfl rfl rfl ?_
  | (refine w_Raw hA ?_; intro hA)
  | (refine w_SetRaw hA ?_; intro hA)
  | (refine w_SwapRaw hA ?_; intro hA)
  | (refine w_AddRaw hA ?_; intro hA)
  | (refine w_Load hA ?_; intro hA)
  | (refine w_Store hA ?_; intro hA)
  | (refine w_Retire hA ?_; intro hA)
  | (refine w_Died hA ?_; intro hA)
  | (refine w_Born hA ?_; intro hA)
  | refine w_State hA ?_
  | refine w_Uses hA ?_
  | refine w_Fault hA ?_
  | refine w_Words hA ?_
  | refine w_Count hA ?_
  | refine wq_Size ?_
  | refine wq_Open ?_
  | refine wq_Pack ?_
  | refine wq_head ?_
  | refine w_ck 0 hA ok rfl rfl rfl ?_
  | refine w_ck 1 hA ok rfl rfl rfl ?_
  | refine w_ck 2 hA ok rfl rfl rfl ?_
  | refine w_ck 3 hA ok rfl rfl rfl ?_
  | refine w_ck 4 hA ok rfl rfl rfl ?_
  | refine w_ck 5 hA ok rfl rfl rfl ?_
  | refine w_ck 6 hA ok rfl rfl rfl ?_
  | refine w_ck 7 hA ok rfl rfl rfl ?_
  | refine w_ckn rfl ?_
  | refine w_Base 0 1 hA ok rfl rfl ?_
  | refine w_Base 1 2 hA ok rfl rfl ?_
  | refine w_Base 2 3 hA ok rfl rfl ?_
  | refine w_Base 3 4 hA ok rfl rfl ?_
  | refine w_Base 4 5 hA ok rfl rfl ?_
  | refine w_Base 5 6 hA ok rfl rfl ?_
  | (refine w_PopStep 0 1 hA ok rfl rfl ?_; intro hA)
  | (refine w_PopStep 1 2 hA ok rfl rfl ?_; intro hA)
  | (refine w_PopStep 2 3 hA ok rfl rfl ?_; intro hA)
  | (refine w_PopStep 3 4 hA ok rfl rfl ?_; intro hA)
  | (refine w_PopStep 4 5 hA ok rfl rfl ?_; intro hA)
  | (refine w_PopStep 5 6 hA ok rfl rfl ?_; intro hA)
  | (refine w_PushStep 0 1 hA ok rfl rfl ?_; intro hA)
  | (refine w_PushStep 1 2 hA ok rfl rfl ?_; intro hA)
  | (refine w_PushStep 2 3 hA ok rfl rfl ?_; intro hA)
  | (refine w_PushStep 3 4 hA ok rfl rfl ?_; intro hA)
  | (refine w_PushStep 4 5 hA ok rfl rfl ?_; intro hA)
  | (refine w_PushStep 5 6 hA ok rfl rfl ?_; intro hA)
  | refine wp_true (by assumption) ?_
  | refine wp_false (by assumption) ?_)
    refine w_lookup 1 (y := inS m.seen (m.l.getD i.toNat 0)) hA ok rfl rfl rfl rfl rfl ?_ ?_
    · unfold inS
      have e : alGet (m.upto i.toNat).seen (m.l.getD (Int.toNat (i, ()).fst) 0) = alGet m.seen (m.l.getD i.toNat 0) := rfl
      rw [e]
      cases alGet m.seen (m.l.getD i.toNat 0) <;> rfl
    have ht : i.toNat < m.l.length := by omega
    have e1 : w64 (i + 1) = i + 1 := w64_in (by omega) (by omega)
    have e2 : (i + 1).toNat = i.toNat + 1 := by omega
    have fl : (m.upto (i.toNat + 1)).left = (m.upto i.toNat).left ++ if inS m.seen (m.l.getD i.toNat 0) then [m.l.getD i.toNat 0] else [] := take_filter ht
    have ff : (m.upto (i.toNat + 1)).frees = (m.upto i.toNat).frees ++ if inS m.seen (m.l.getD i.toNat 0) then [] else [newFe m.pl m.work (m.l.getD i.toNat 0)] := by
      show ((m.l.take (i.toNat + 1)).filter fun h => !inS m.seen h).map (newFe m.pl m.work) = ((m.l.take i.toNat).filter fun h => !inS m.seen h).map (newFe m.pl m.work) ++ _
      rw [take_filter ht, List.map_append]
      cases inS m.seen (m.l.getD i.toNat 0) <;> rfl
    have hll : (m.upto i.toNat).left.length ≤ 1000 := Nat.le_trans (List.length_filter_le _ _) (by rw [List.length_take]; omega)
    have hlf : (m.upto i.toNat).frees.length ≤ 1000 := by
      show (((m.l.take i.toNat).filter fun h => !inS m.seen h).map (newFe m.pl m.work)).length ≤ 1000
      rw [List.length_map]
      exact Nat.le_trans (List.length_filter_le _ _) (by rw [List.length_take]; omega)
    generalize hh : m.l.getD i.toNat 0 = h at fl ff ⊢
    by_cases hin : inS m.seen h = true
    · rw [if_pos hin] at fl ff
      refine wp_true hin ?_
      repeat (first
  | refine wp_nil.2 ?_
  | refine w_ld 0 hA ok rfl rfl rfl ?_
  | refine w_ld 1 hA ok rfl rfl rfl ?_
  | refine w_ld 2 hA ok rfl rfl rfl ?_
  | refine w_ld 3 hA ok rfl rfl rfl ?_
  | refine w_ld 4 hA ok rfl rfl rfl ?_
  | refine w_ld 5 hA ok rfl rfl rfl ?_
  | refine w_ld 6 hA ok rfl rfl rfl ?_
  | refine w_ld 7 hA ok rfl rfl rfl ?_
  | refine w_st 0 hA ok rfl rfl rfl rfl ?_
  | refine w_st 1 hA ok rfl rfl rfl rfl ?_
  | refine w_st 2 hA ok rfl rfl rfl rfl ?_
  | refine w_st 3 hA ok rfl rfl rfl rfl ?_
  | refine w_st 4 hA ok rfl rfl rfl rfl ?_
  | refine w_st 5 hA ok rfl rfl rfl rfl ?_
  | refine w_st 6 hA ok rfl rfl rfl rfl ?_
  | refine w_st 7 hA ok rfl rfl rfl rfl ?_
  | refine w_ldA 0 hA ok rfl rfl rfl ?_
  | refine w_ldA 1 hA ok rfl rfl rfl ?_
  | refine w_ldA 2 hA ok rfl rfl rfl ?_
  | refine w_ldA 3 hA ok rfl rfl rfl ?_
  | refine w_ldA 4 hA ok rfl rfl rfl ?_
  | refine w_ldA 5 hA ok rfl rfl rfl ?_
  | refine w_ldA 6 hA ok rfl rfl rfl ?_
  | refine w_ldA 7 hA ok rfl rfl rfl ?_
  | refine w_stA 0 hA ok rfl rfl rfl rfl ?_
  | refine w_stA 1 hA ok rfl rfl rfl rfl ?_
  | refine w_stA 2 hA ok rfl rfl rfl rfl ?_
  | refine w_stA 3 hA ok rfl rfl rfl rfl ?_
  | refine w_stA 4 hA ok rfl rfl rfl rfl ?_
  | refine w_stA 5 hA ok rfl rfl rfl rfl ?_
  | refine w_stA 6 hA ok rfl rfl rfl rfl ?_
  | refine w_stA 7 hA ok rfl rfl rfl rfl ?_
  | (refine w_Raw hA ?_; intro hA)
  | (refine w_SetRaw hA ?_; intro hA)
  | (refine w_SwapRaw hA ?_; intro hA)
  | (refine w_AddRaw hA ?_; intro hA)
  | (refine w_Load hA ?_; intro hA)
  | (refine w_Store hA ?_; intro hA)
  | (refine w_Retire hA ?_; intro hA)
  | (refine w_Died hA ?_; intro hA)
  | (refine w_Born hA ?_; intro hA)
  | refine w_State hA ?_
  | refine w_Uses hA ?_
  | refine w_Fault hA ?_
  | refine w_Words hA ?_
  | refine w_Count hA ?_
  | refine wq_Size ?_
  | refine wq_Open ?_
  | refine wq_Pack ?_
  | refine wq_head ?_
  | refine w_ck 0 hA ok rfl rfl rfl ?_
  | refine w_ck 1 hA ok rfl rfl rfl ?_
  | refine w_ck 2 hA ok rfl rfl rfl ?_
  | refine w_ck 3 hA ok rfl rfl rfl ?_
  | refine w_ck 4 hA ok rfl rfl rfl ?_
  | refine w_ck 5 hA ok rfl rfl rfl ?_
  | refine w_ck 6 hA ok rfl rfl rfl ?_
  | refine w_ck 7 hA ok rfl rfl rfl ?_
  | refine w_ckn rfl ?_
  | refine w_Base 0 1 hA ok rfl rfl ?_
  | refine w_Base 1 2 hA ok rfl rfl ?_
  | refine w_Base 2 3 hA ok rfl rfl ?_
  | refine w_Base 3 4 hA ok rfl rfl ?_
  | refine w_Base 4 5 hA ok rfl rfl ?_
  | refine w_Base 5 6 hA ok rfl rfl ?_
  | (refine w_PopStep 0 1 hA ok rfl rfl ?_; intro hA)
  | (refine w_PopStep 1 2 hA ok rfl rfl ?_; intro hA)
  | (refine w_PopStep 2 3 hA ok rfl rfl ?_; intro hA)
  | (refine w_PopStep 3 4 hA ok rfl rfl ?_; intro hA)
  | (refine w_PopStep 4 5 hA ok rfl rfl ?_; intro hA)
  | (refine w_PopStep 5 6 hA ok rfl rfl ?_; intro hA)
  | (refine w_PushStep 0 1 hA ok rfl rfl ?_; intro hA)
  | (refine w_PushStep 1 2 hA ok rfl rfl ?_; intro hA)
  | (refine w_PushStep 2 3 hA ok rfl rfl ?_; intro hA)
  | (refine w_PushStep 3 4 hA ok rfl rfl ?_; intro hA)
  | (refine w_PushStep 4 5 hA ok rfl rfl ?_; intro hA)
  | (refine w_PushStep 5 6 hA ok rfl rfl ?_; intro hA)
  | refine wp_true (by assumption) ?_
  | refine wp_false (by assumption) ?_)
      refine w_newS hA ok fun g ok => ?_
      obtain ⟨p1, ok2⟩ := own_perm (A := A) (l' := (j1.q, oc ty_hazard_Scan ((m.upto i.toNat).cells j1)) :: (j1.mq, mapObj Value.bool (m.upto i.toNat).seen) :: (fbl (m.upto i.toNat).frees j1.fj ++ (j1.tls ++ j1.tfs)) ++ (((g, oc ty_int [.int .i64 h]) :: j1.tds) ++ [])) ok (perm_by fun c d c0 cd ca => by simp only [cd, ca, c0]; omega)
      rw [p1]
      have ok := ok2
      refine w_appM (E := eI) elI _ (xs := (m.upto i.toNat).left) (ys := [h]) (t := ⟨some ⟨g, 0, none⟩, 1, 1⟩) hA ok (hds.mono fun p hp => List.mem_cons_of_mem _ hp) ?_ rfl (by simp only [List.length_cons, List.length_nil]; omega) fun s' mid' hs' ok => ?_
      · exact cell_row (c := [.int .i64 h]) hA ok (List.mem_append_right _ (List.mem_append_left _ List.mem_cons_self)) 0 rfl
      repeat (first
  | refine wp_nil.2 ?_
  | refine w_ld 0 hA ok rfl rfl rfl ?_
  | refine w_ld 1 hA ok rfl rfl rfl ?_
  | refine w_ld 2 hA ok rfl rfl rfl ?_
  | refine w_ld 3 hA ok rfl rfl rfl ?_
  | refine w_ld 4 hA ok rfl rfl rfl ?_
  | refine w_ld 5 hA ok rfl rfl rfl ?_
  | refine w_ld 6 hA ok rfl rfl rfl ?_
  | refine w_ld 7 hA ok rfl rfl rfl ?_
  | refine w_st 0 hA ok rfl rfl rfl rfl ?_
  | refine w_st 1 hA ok rfl rfl rfl rfl ?_
  | refine w_st 2 hA ok rfl rfl rfl rfl ?_
  | refine w_st 3 hA ok rfl rfl rfl rfl ?_
  | refine w_st 4 hA ok rfl rfl rfl rfl ?_
  | refine w_st 5 hA ok rfl rfl rfl rfl ?_
  | refine w_st 6 hA ok rfl rfl rfl rfl ?_
  | refine w_st 7 hA ok rfl rfl rfl rfl ?_
  | refine w_ldA 0 hA ok rfl rfl rfl ?_
  | refine w_ldA 1 hA ok rfl rfl rfl ?_
  | refine w_ldA 2 hA ok rfl rfl rfl ?_
  | refine w_ldA 3 hA ok rfl rfl rfl ?_
  | refine w_ldA 4 hA ok rfl rfl rfl ?_
  | refine w_ldA 5 hA ok rfl rfl rfl ?_
  | refine w_ldA 6 hA ok rfl rfl rfl ?_
  | refine w_ldA 7 hA ok rfl rfl rfl ?_
  | refine w_stA 0 hA ok rfl rfl rfl rfl ?_
  | refine w_stA 1 hA ok rfl rfl rfl rfl ?_
  | refine w_stA 2 hA ok rfl rfl rfl rfl ?_
  | refine w_stA 3 hA ok rfl rfl rfl rfl ?_
  | refine w_stA 4 hA ok rfl rfl rfl rfl ?_
  | refine w_stA 5 hA ok rfl rfl rfl rfl ?_
  | refine w_stA 6 hA ok rfl rfl rfl rfl ?_
  | refine w_stA 7 hA ok rfl rfl rfl rfl ?_
  | (refine w_Raw hA ?_; intro hA)
  | (refine w_SetRaw hA ?_; intro hA)
  | (refine w_SwapRaw hA ?_; intro hA)
  | (refine w_AddRaw hA ?_; intro hA)
  | (refine w_Load hA ?_; intro hA)
  | (refine w_Store hA ?_; intro hA)
  | (refine w_Retire hA ?_; intro hA)
  | (refine w_Died hA ?_; intro hA)
  | (refine w_Born hA ?_; intro hA)
  | refine w_State hA ?_
  | refine w_Uses hA ?_
  | refine w_Fault hA ?_
  | refine w_Words hA ?_
  | refine w_Count hA ?_
  | refine wq_Size ?_
  | refine wq_Open ?_
  | refine wq_Pack ?_
  | refine wq_head ?_
  | refine w_ck 0 hA ok rfl rfl rfl ?_
  | refine w_ck 1 hA ok rfl rfl rfl ?_
  | refine w_ck 2 hA ok rfl rfl rfl ?_
  | refine w_ck 3 hA ok rfl rfl rfl ?_
  | refine w_ck 4 hA ok rfl rfl rfl ?_
  | refine w_ck 5 hA ok rfl rfl rfl ?_
  | refine w_ck 6 hA ok rfl rfl rfl ?_
  | refine w_ck 7 hA ok rfl rfl rfl ?_
  | refine w_ckn rfl ?_
  | refine w_Base 0 1 hA ok rfl rfl ?_
  | refine w_Base 1 2 hA ok rfl rfl ?_
  | refine w_Base 2 3 hA ok rfl rfl ?_
  | refine w_Base 3 4 hA ok rfl rfl ?_
  | refine w_Base 4 5 hA ok rfl rfl ?_
  | refine w_Base 5 6 hA ok rfl rfl ?_
  | (refine w_PopStep 0 1 hA ok rfl rfl ?_; intro hA)
  | (refine w_PopStep 1 2 hA ok rfl rfl ?_; intro hA)
  | (refine w_PopStep 2 3 hA ok rfl rfl ?_; intro hA)
  | (refine w_PopStep 3 4 hA ok rfl rfl ?_; intro hA)
  | (refine w_PopStep 4 5 hA ok rfl rfl ?_; intro hA)
  | (refine w_PopStep 5 6 hA ok rfl rfl ?_; intro hA)
  | (refine w_PushStep 0 1 hA ok rfl rfl ?_; intro hA)
  | (refine w_PushStep 1 2 hA ok rfl rfl ?_; intro hA)
  | (refine w_PushStep 2 3 hA ok rfl rfl ?_; intro hA)
  | (refine w_PushStep 3 4 hA ok rfl rfl ?_; intro hA)
  | (refine w_PushStep 4 5 hA ok rfl rfl ?_; intro hA)
  | (refine w_PushStep 5 6 hA ok rfl rfl ?_; intro hA)
  | refine wp_true (by assumption) ?_
  | refine wp_false (by assumption) ?_)
      rw [List.append_nil] at ff
      have hp : ((j1.q, oc ty_hazard_Scan ((m.upto (i.toNat + 1)).cells { j1 with ds := s', tds := mid' })) :: (j1.mq, mapObj Value.bool (m.upto (i.toNat + 1)).seen) :: (fbl (m.upto i.toNat).frees j1.fj ++ (j1.tls ++ j1.tfs)) ++ (mid' ++ [])).Perm ((m.upto (i.toNat + 1)).bl { j1 with ds := s', tds := mid' }) := by
        rw [Sc.bl_u (m := m.upto (i.toNat + 1)) _ hs, ff]
        dsimp only
        exact (perm_by fun c d c0 cd ca => by simp only [cd, ca, c0]; omega)
      refine wp_again ⟨i + 1, by rw [e1], ⟨{ j1 with ds := s', tds := mid' }, by omega, by omega, ?_, ?_, rfl, eM, rfl, hls, hfs, ?_, ?_⟩, by omega⟩
      · rw [e2]; exact (own_perm2 (A := A) hp ok).1
      · rw [e2]; exact (own_perm2 (A := A) hp ok).2
      · rw [e2, fl]; exact hs'
      · rw [e2, ff]; exact hfl
    · rw [if_neg hin] at fl ff
      rw [List.append_nil] at fl
      refine wp_false (by simpa using hin) ?_
      repeat (first
  | refine wp_nil.2 ?_
  | refine w_ld 0 hA ok rfl rfl rfl ?_
  | refine w_ld 1 hA ok rfl rfl rfl ?_
  | refine w_ld 2 hA ok rfl rfl rfl ?_
  | refine w_ld 3 hA ok rfl rfl rfl ?_
  | refine w_ld 4 hA ok rfl rfl rfl ?_
  | refine w_ld 5 hA ok rfl rfl rfl ?_
  | refine w_ld 6 hA ok rfl rfl rfl ?_
  | refine w_ld 7 hA ok rfl rfl rfl ?_
  | refine w_st 0 hA ok rfl rfl rfl rfl ?_
  | refine w_st 1 hA ok rfl rfl rfl rfl ?_
  | refine w_st 2 hA ok rfl rfl rfl rfl ?_
  | refine w_st 3 hA ok rfl rfl rfl rfl ?_
  | refine w_st 4 hA ok rfl rfl rfl rfl ?_
  | refine w_st 5 hA ok rfl rfl rfl rfl ?_
  | refine w_st 6 hA ok rfl rfl rfl rfl ?_
  | refine w_st 7 hA ok rfl rfl rfl rfl ?_
  | refine w_ldA 0 hA ok rfl rfl rfl ?_
  | refine w_ldA 1 hA ok rfl rfl rfl ?_
  | refine w_ldA 2 hA ok rfl rfl rfl ?_
  | refine w_ldA 3 hA ok rfl rfl rfl ?_
  | refine w_ldA 4 hA ok rfl rfl rfl ?_
  | refine w_ldA 5 hA ok rfl rfl rfl ?_
  | refine w_ldA 6 hA ok rfl rfl rfl ?_
  | refine w_ldA 7 hA ok rfl rfl rfl ?_
  | refine w_stA 0 hA ok rfl rfl rfl rfl ?_
  | refine w_stA 1 hA ok rfl rfl rfl rfl ?_
  | refine w_stA 2 hA ok rfl rfl rfl rfl ?_
  | refine w_stA 3 hA ok rfl rfl rfl rfl ?_
  | refine w_stA 4 hA ok rfl rfl rfl rfl ?_
  | refine w_stA 5 hA ok rfl rfl rfl rfl ?_
  | refine w_stA 6 hA ok rfl rfl rfl rfl ?_
  | refine w_stA 7 hA ok rfl rfl rfl rfl ?_
  | (refine w_Raw hA ?_; intro hA)
  | (refine w_SetRaw hA ?_; intro hA)
  | (refine w_SwapRaw hA ?_; intro hA)
  | (refine w_AddRaw hA ?_; intro hA)
  | (refine w_Load hA ?_; intro hA)
  | (refine w_Store hA ?_; intro hA)
  | (refine w_Retire hA ?_; intro hA)
  | (refine w_Died hA ?_; intro hA)
  | (refine w_Born hA ?_; intro hA)
  | refine w_State hA ?_
  | refine w_Uses hA ?_
  | refine w_Fault hA ?_
  | refine w_Words hA ?_
  | refine w_Count hA ?_
  | refine wq_Size ?_
  | refine wq_Open ?_
  | refine wq_Pack ?_
  | refine wq_head ?_
  | refine w_ck 0 hA ok rfl rfl rfl ?_
  | refine w_ck 1 hA ok rfl rfl rfl ?_
  | refine w_ck 2 hA ok rfl rfl rfl ?_
  | refine w_ck 3 hA ok rfl rfl rfl ?_
  | refine w_ck 4 hA ok rfl rfl rfl ?_
  | refine w_ck 5 hA ok rfl rfl rfl ?_
  | refine w_ck 6 hA ok rfl rfl rfl ?_
  | refine w_ck 7 hA ok rfl rfl rfl ?_
  | refine w_ckn rfl ?_
  | refine w_Base 0 1 hA ok rfl rfl ?_
  | refine w_Base 1 2 hA ok rfl rfl ?_
  | refine w_Base 2 3 hA ok rfl rfl ?_
  | refine w_Base 3 4 hA ok rfl rfl ?_
  | refine w_Base 4 5 hA ok rfl rfl ?_
  | refine w_Base 5 6 hA ok rfl rfl ?_
  | (refine w_PopStep 0 1 hA ok rfl rfl ?_; intro hA)
  | (refine w_PopStep 1 2 hA ok rfl rfl ?_; intro hA)
  | (refine w_PopStep 2 3 hA ok rfl rfl ?_; intro hA)
  | (refine w_PopStep 3 4 hA ok rfl rfl ?_; intro hA)
  | (refine w_PopStep 4 5 hA ok rfl rfl ?_; intro hA)
  | (refine w_PopStep 5 6 hA ok rfl rfl ?_; intro hA)
  | (refine w_PushStep 0 1 hA ok rfl rfl ?_; intro hA)
  | (refine w_PushStep 1 2 hA ok rfl rfl ?_; intro hA)
  | (refine w_PushStep 2 3 hA ok rfl rfl ?_; intro hA)
  | (refine w_PushStep 3 4 hA ok rfl rfl ?_; intro hA)
  | (refine w_PushStep 4 5 hA ok rfl rfl ?_; intro hA)
  | (refine w_PushStep 5 6 hA ok rfl rfl ?_; intro hA)
  | refine wp_true (by assumption) ?_
  | refine wp_false (by assumption) ?_)
      refine w_NewFree (p := m.pl) (w := m.work) hA ok fun jf ok => ?_
      repeat (first
  | refine wp_nil.2 ?_
  | refine w_ld 0 hA ok rfl rfl rfl ?_
  | refine w_ld 1 hA ok rfl rfl rfl ?_
  | refine w_ld 2 hA ok rfl rfl rfl ?_
  | refine w_ld 3 hA ok rfl rfl rfl ?_
  | refine w_ld 4 hA ok rfl rfl rfl ?_
  | refine w_ld 5 hA ok rfl rfl rfl ?_
  | refine w_ld 6 hA ok rfl rfl rfl ?_
  | refine w_ld 7 hA ok rfl rfl rfl ?_
  | refine w_st 0 hA ok rfl rfl rfl rfl ?_
  | refine w_st 1 hA ok rfl rfl rfl rfl ?_
  | refine w_st 2 hA ok rfl rfl rfl rfl ?_
  | refine w_st 3 hA ok rfl rfl rfl rfl ?_
  | refine w_st 4 hA ok rfl rfl rfl rfl ?_
  | refine w_st 5 hA ok rfl rfl rfl rfl ?_
  | refine w_st 6 hA ok rfl rfl rfl rfl ?_
  | refine w_st 7 hA ok rfl rfl rfl rfl ?_
  | refine w_ldA 0 hA ok rfl rfl rfl ?_
  | refine w_ldA 1 hA ok rfl rfl rfl ?_
  | refine w_ldA 2 hA ok rfl rfl rfl ?_
  | refine w_ldA 3 hA ok rfl rfl rfl ?_
  | refine w_ldA 4 hA ok rfl rfl rfl ?_
  | refine w_ldA 5 hA ok rfl rfl rfl ?_
  | refine w_ldA 6 hA ok rfl rfl rfl ?_
  | refine w_ldA 7 hA ok rfl rfl rfl ?_
  | refine w_stA 0 hA ok rfl rfl rfl rfl ?_
  | refine w_stA 1 hA ok rfl rfl rfl rfl ?_
  | refine w_stA 2 hA ok rfl rfl rfl rfl ?_
  | refine w_stA 3 hA ok rfl rfl rfl rfl ?_
  | refine w_stA 4 hA ok rfl rfl rfl rfl ?_
  | refine w_stA 5 hA ok rfl rfl rfl rfl ?_
  | refine w_stA 6 hA ok rfl rfl rfl rfl ?_
  | refine w_stA 7 hA ok rfl rfl rfl rfl ?_
  | (refine w_Raw hA ?_; intro hA)
  | (refine w_SetRaw hA ?_; intro hA)
  | (refine w_SwapRaw hA ?_; intro hA)
  | (refine w_AddRaw hA ?_; intro hA)
  | (refine w_Load hA ?_; intro hA)
  | (refine w_Store hA ?_; intro hA)
  | (refine w_Retire hA ?_; intro hA)
  | (refine w_Died hA ?_; intro hA)
  | (refine w_Born hA ?_; intro hA)
  | refine w_State hA ?_
  | refine w_Uses hA ?_
  | refine w_Fault hA ?_
  | refine w_Words hA ?_
  | refine w_Count hA ?_
  | refine wq_Size ?_
  | refine wq_Open ?_
  | refine wq_Pack ?_
  | refine wq_head ?_
  | refine w_ck 0 hA ok rfl rfl rfl ?_
  | refine w_ck 1 hA ok rfl rfl rfl ?_
  | refine w_ck 2 hA ok rfl rfl rfl ?_
  | refine w_ck 3 hA ok rfl rfl rfl ?_
  | refine w_ck 4 hA ok rfl rfl rfl ?_
  | refine w_ck 5 hA ok rfl rfl rfl ?_
  | refine w_ck 6 hA ok rfl rfl rfl ?_
  | refine w_ck 7 hA ok rfl rfl rfl ?_
  | refine w_ckn rfl ?_
  | refine w_Base 0 1 hA ok rfl rfl ?_
  | refine w_Base 1 2 hA ok rfl rfl ?_
  | refine w_Base 2 3 hA ok rfl rfl ?_
  | refine w_Base 3 4 hA ok rfl rfl ?_
  | refine w_Base 4 5 hA ok rfl rfl ?_
  | refine w_Base 5 6 hA ok rfl rfl ?_
  | (refine w_PopStep 0 1 hA ok rfl rfl ?_; intro hA)
  | (refine w_PopStep 1 2 hA ok rfl rfl ?_; intro hA)
  | (refine w_PopStep 2 3 hA ok rfl rfl ?_; intro hA)
  | (refine w_PopStep 3 4 hA ok rfl rfl ?_; intro hA)
  | (refine w_PopStep 4 5 hA ok rfl rfl ?_; intro hA)
  | (refine w_PopStep 5 6 hA ok rfl rfl ?_; intro hA)
  | (refine w_PushStep 0 1 hA ok rfl rfl ?_; intro hA)
  | (refine w_PushStep 1 2 hA ok rfl rfl ?_; intro hA)
  | (refine w_PushStep 2 3 hA ok rfl rfl ?_; intro hA)
  | (refine w_PushStep 3 4 hA ok rfl rfl ?_; intro hA)
  | (refine w_PushStep 4 5 hA ok rfl rfl ?_; intro hA)
  | (refine w_PushStep 5 6 hA ok rfl rfl ?_; intro hA)
  | refine wp_true (by assumption) ?_
  | refine wp_false (by assumption) ?_)
      refine w_newS hA ok fun g ok => ?_
      repeat (first
  | refine wp_nil.2 ?_
  | refine w_ld 0 hA ok rfl rfl rfl ?_
  | refine w_ld 1 hA ok rfl rfl rfl ?_
  | refine w_ld 2 hA ok rfl rfl rfl ?_
  | refine w_ld 3 hA ok rfl rfl rfl ?_
  | refine w_ld 4 hA ok rfl rfl rfl ?_
  | refine w_ld 5 hA ok rfl rfl rfl ?_
  | refine w_ld 6 hA ok rfl rfl rfl ?_
  | refine w_ld 7 hA ok rfl rfl rfl ?_
  | refine w_st 0 hA ok rfl rfl rfl rfl ?_
  | refine w_st 1 hA ok rfl rfl rfl rfl ?_
  | refine w_st 2 hA ok rfl rfl rfl rfl ?_
  | refine w_st 3 hA ok rfl rfl rfl rfl ?_
  | refine w_st 4 hA ok rfl rfl rfl rfl ?_
  | refine w_st 5 hA ok rfl rfl rfl rfl ?_
  | refine w_st 6 hA ok rfl rfl rfl rfl ?_
  | refine w_st 7 hA ok rfl rfl rfl rfl ?_
  | refine w_ldA 0 hA ok rfl rfl rfl ?_
  | refine w_ldA 1 hA ok rfl rfl rfl ?_
  | refine w_ldA 2 hA ok rfl rfl rfl ?_
  | refine w_ldA 3 hA ok rfl rfl rfl ?_
  | refine w_ldA 4 hA ok rfl rfl rfl ?_
  | refine w_ldA 5 hA ok rfl rfl rfl ?_
  | refine w_ldA 6 hA ok rfl rfl rfl ?_
  | refine w_ldA 7 hA ok rfl rfl rfl ?_
  | refine w_stA 0 hA ok rfl rfl rfl rfl ?_
  | refine w_stA 1 hA ok rfl rfl rfl rfl ?_
  | refine w_stA 2 hA ok rfl rfl rfl rfl ?_
  | refine w_stA 3 hA ok rfl rfl rfl rfl ?_
  | refine w_stA 4 hA ok rfl rfl rfl rfl ?_
  | refine w_stA 5 hA ok rfl rfl rfl rfl ?_
  | refine w_stA 6 hA ok rfl rfl rfl rfl ?_
  | refine w_stA 7 hA ok rfl rfl rfl rfl ?_
  | (refine w_Raw hA ?_; intro hA)
  | (refine w_SetRaw hA ?_; intro hA)
  | (refine w_SwapRaw hA ?_; intro hA)
  | (refine w_AddRaw hA ?_; intro hA)
  | (refine w_Load hA ?_; intro hA)
  | (refine w_Store hA ?_; intro hA)
  | (refine w_Retire hA ?_; intro hA)
  | (refine w_Died hA ?_; intro hA)
  | (refine w_Born hA ?_; intro hA)
  | refine w_State hA ?_
  | refine w_Uses hA ?_
  | refine w_Fault hA ?_
  | refine w_Words hA ?_
  | refine w_Count hA ?_
  | refine wq_Size ?_
  | refine wq_Open ?_
  | refine wq_Pack ?_
  | refine wq_head ?_
  | refine w_ck 0 hA ok rfl rfl rfl ?_
  | refine w_ck 1 hA ok rfl rfl rfl ?_
  | refine w_ck 2 hA ok rfl rfl rfl ?_
  | refine w_ck 3 hA ok rfl rfl rfl ?_
  | refine w_ck 4 hA ok rfl rfl rfl ?_
  | refine w_ck 5 hA ok rfl rfl rfl ?_
  | refine w_ck 6 hA ok rfl rfl rfl ?_
  | refine w_ck 7 hA ok rfl rfl rfl ?_
  | refine w_ckn rfl ?_
  | refine w_Base 0 1 hA ok rfl rfl ?_
  | refine w_Base 1 2 hA ok rfl rfl ?_
  | refine w_Base 2 3 hA ok rfl rfl ?_
  | refine w_Base 3 4 hA ok rfl rfl ?_
  | refine w_Base 4 5 hA ok rfl rfl ?_
  | refine w_Base 5 6 hA ok rfl rfl ?_
  | (refine w_PopStep 0 1 hA ok rfl rfl ?_; intro hA)
  | (refine w_PopStep 1 2 hA ok rfl rfl ?_; intro hA)
  | (refine w_PopStep 2 3 hA ok rfl rfl ?_; intro hA)
  | (refine w_PopStep 3 4 hA ok rfl rfl ?_; intro hA)
  | (refine w_PopStep 4 5 hA ok rfl rfl ?_; intro hA)
  | (refine w_PopStep 5 6 hA ok rfl rfl ?_; intro hA)
  | (refine w_PushStep 0 1 hA ok rfl rfl ?_; intro hA)
  | (refine w_PushStep 1 2 hA ok rfl rfl ?_; intro hA)
  | (refine w_PushStep 2 3 hA ok rfl rfl ?_; intro hA)
  | (refine w_PushStep 3 4 hA ok rfl rfl ?_; intro hA)
  | (refine w_PushStep 4 5 hA ok rfl rfl ?_; intro hA)
  | (refine w_PushStep 5 6 hA ok rfl rfl ?_; intro hA)
  | refine wp_true (by assumption) ?_
  | refine wp_false (by assumption) ?_)
      obtain ⟨p1, ok2⟩ := own_perm (A := A) (l' := (j1.q, oc ty_hazard_Scan ((m.upto i.toNat).cells j1)) :: (j1.mq, mapObj Value.bool (m.upto i.toNat).seen) :: (fbl (m.upto i.toNat).frees j1.fj ++ ((newFe m.pl m.work h).bl jf ++ j1.tls)) ++ (((g, oc ty_p_slab_Free [.pointer (some ⟨jf.1, 0, none⟩)]) :: j1.tfs) ++ j1.tds)) ok (perm_by fun c d c0 cd ca => by simp only [cd, ca, c0]; omega)
      rw [p1]
      have ok := ok2
      refine w_appM (E := eP) elF _ (xs := j1.fj.map (·.1)) (ys := [jf.1]) (t := ⟨some ⟨g, 0, none⟩, 1, 1⟩) hA ok (hfs.mono fun p hp => List.mem_cons_of_mem _ hp) ?_ rfl (by simp only [List.length_cons, List.length_nil, List.length_map]; omega) fun s' mid' hs' ok => ?_
      · exact cell_row (c := [.pointer (some ⟨jf.1, 0, none⟩)]) hA ok (List.mem_append_right _ (List.mem_append_left _ List.mem_cons_self)) 0 rfl
      repeat (first
  | refine wp_nil.2 ?_
  | refine w_ld 0 hA ok rfl rfl rfl ?_
  | refine w_ld 1 hA ok rfl rfl rfl ?_
  | refine w_ld 2 hA ok rfl rfl rfl ?_
  | refine w_ld 3 hA ok rfl rfl rfl ?_
  | refine w_ld 4 hA ok rfl rfl rfl ?_
  | refine w_ld 5 hA ok rfl rfl rfl ?_
  | refine w_ld 6 hA ok rfl rfl rfl ?_
  | refine w_ld 7 hA ok rfl rfl rfl ?_
  | refine w_st 0 hA ok rfl rfl rfl rfl ?_
  | refine w_st 1 hA ok rfl rfl rfl rfl ?_
  | refine w_st 2 hA ok rfl rfl rfl rfl ?_
  | refine w_st 3 hA ok rfl rfl rfl rfl ?_
  | refine w_st 4 hA ok rfl rfl rfl rfl ?_
  | refine w_st 5 hA ok rfl rfl rfl rfl ?_
  | refine w_st 6 hA ok rfl rfl rfl rfl ?_
  | refine w_st 7 hA ok rfl rfl rfl rfl ?_
  | refine w_ldA 0 hA ok rfl rfl rfl ?_
  | refine w_ldA 1 hA ok rfl rfl rfl ?_
  | refine w_ldA 2 hA ok rfl rfl rfl ?_
  | refine w_ldA 3 hA ok rfl rfl rfl ?_
  | refine w_ldA 4 hA ok rfl rfl rfl ?_
  | refine w_ldA 5 hA ok rfl rfl rfl ?_
  | refine w_ldA 6 hA ok rfl rfl rfl ?_
  | refine w_ldA 7 hA ok rfl rfl rfl ?_
  | refine w_stA 0 hA ok rfl rfl rfl rfl ?_
  | refine w_stA 1 hA ok rfl rfl rfl rfl ?_
  | refine w_stA 2 hA ok rfl rfl rfl rfl ?_
  | refine w_stA 3 hA ok rfl rfl rfl rfl ?_
  | refine w_stA 4 hA ok rfl rfl rfl rfl ?_
  | refine w_stA 5 hA ok rfl rfl rfl rfl ?_
  | refine w_stA 6 hA ok rfl rfl rfl rfl ?_
  | refine w_stA 7 hA ok rfl rfl rfl rfl ?_
  | (refine w_Raw hA ?_; intro hA)
  | (refine w_SetRaw hA ?_; intro hA)
  | (refine w_SwapRaw hA ?_; intro hA)
  | (refine w_AddRaw hA ?_; intro hA)
  | (refine w_Load hA ?_; intro hA)
  | (refine w_Store hA ?_; intro hA)
  | (refine w_Retire hA ?_; intro hA)
  | (refine w_Died hA ?_; intro hA)
  | (refine w_Born hA ?_; intro hA)
  | refine w_State hA ?_
  | refine w_Uses hA ?_
  | refine w_Fault hA ?_
  | refine w_Words hA ?_
  | refine w_Count hA ?_
  | refine wq_Size ?_
  | refine wq_Open ?_
  | refine wq_Pack ?_
  | refine wq_head ?_
  | refine w_ck 0 hA ok rfl rfl rfl ?_
  | refine w_ck 1 hA ok rfl rfl rfl ?_
  | refine w_ck 2 hA ok rfl rfl rfl ?_
  | refine w_ck 3 hA ok rfl rfl rfl ?_
  | refine w_ck 4 hA ok rfl rfl rfl ?_
  | refine w_ck 5 hA ok rfl rfl rfl ?_
  | refine w_ck 6 hA ok rfl rfl rfl ?_
  | refine w_ck 7 hA ok rfl rfl rfl ?_
  | refine w_ckn rfl ?_
  | refine w_Base 0 1 hA ok rfl rfl ?_
  | refine w_Base 1 2 hA ok rfl rfl ?_
  | refine w_Base 2 3 hA ok rfl rfl ?_
  | refine w_Base 3 4 hA ok rfl rfl ?_
  | refine w_Base 4 5 hA ok rfl rfl ?_
  | refine w_Base 5 6 hA ok rfl rfl ?_
  | (refine w_PopStep 0 1 hA ok rfl rfl ?_; intro hA)
  | (refine w_PopStep 1 2 hA ok rfl rfl ?_; intro hA)
  | (refine w_PopStep 2 3 hA ok rfl rfl ?_; intro hA)
  | (refine w_PopStep 3 4 hA ok rfl rfl ?_; intro hA)
  | (refine w_PopStep 4 5 hA ok rfl rfl ?_; intro hA)
  | (refine w_PopStep 5 6 hA ok rfl rfl ?_; intro hA)
  | (refine w_PushStep 0 1 hA ok rfl rfl ?_; intro hA)
  | (refine w_PushStep 1 2 hA ok rfl rfl ?_; intro hA)
  | (refine w_PushStep 2 3 hA ok rfl rfl ?_; intro hA)
  | (refine w_PushStep 3 4 hA ok rfl rfl ?_; intro hA)
  | (refine w_PushStep 4 5 hA ok rfl rfl ?_; intro hA)
  | (refine w_PushStep 5 6 hA ok rfl rfl ?_; intro hA)
  | refine wp_true (by assumption) ?_
  | refine wp_false (by assumption) ?_)
      have hp : ((j1.q, oc ty_hazard_Scan ((m.upto (i.toNat + 1)).cells { j1 with fs := s', tfs := mid', fj := j1.fj ++ [jf] })) :: (j1.mq, mapObj Value.bool (m.upto (i.toNat + 1)).seen) :: (fbl (m.upto i.toNat).frees j1.fj ++ ((newFe m.pl m.work h).bl jf ++ j1.tls)) ++ (mid' ++ j1.tds)).Perm ((m.upto (i.toNat + 1)).bl { j1 with fs := s', tfs := mid', fj := j1.fj ++ [jf] }) := by
        rw [Sc.bl_u (m := m.upto (i.toNat + 1)) _ hs, ff]
        dsimp only
        rw [fbl_snoc hfl]
        exact (perm_by fun c d c0 cd ca => by simp only [cd, ca, c0]; omega)
      refine wp_again ⟨i + 1, by rw [e1], ⟨{ j1 with fs := s', tfs := mid', fj := j1.fj ++ [jf] }, by omega, by omega, ?_, ?_, rfl, eM, rfl, hls, ?_, ?_, ?_⟩, by omega⟩
      · rw [e2]; exact (own_perm2 (A := A) hp ok).1
      · rw [e2]; exact (own_perm2 (A := A) hp ok).2
      · rw [List.map_append]; exact hs'
      · rw [e2, fl]; exact hds
      · rw [e2, ff, List.length_append, List.length_append, hfl]; rfl
  · refine wp_false (decide_eq_false (by show ¬ i < ((j1.ls.len : Nat) : Int); rw [hlen]; exact hi)) ?_
    have ei : i.toNat = m.l.length := by omega
    rw [ei] at hds hfl ok ⊢
    repeat (first
  | refine wp_nil.2 ?_
  | refine w_ld 0 hA ok rfl rfl rfl ?_
  | refine w_ld 1 hA ok rfl rfl rfl ?_
  | refine w_ld 2 hA ok rfl rfl rfl ?_
  | refine w_ld 3 hA ok rfl rfl rfl ?_
  | refine w_ld 4 hA ok rfl rfl rfl ?_
  | refine w_ld 5 hA ok rfl rfl rfl ?_
  | refine w_ld 6 hA ok rfl rfl rfl ?_
  | refine w_ld 7 hA ok rfl rfl rfl ?_
  | refine w_st 0 hA ok rfl rfl rfl rfl ?_
  | refine w_st 1 hA ok rfl rfl rfl rfl ?_
  | refine w_st 2 hA ok rfl rfl rfl rfl ?_
  | refine w_st 3 hA ok rfl rfl rfl rfl ?_
  | refine w_st 4 hA ok rfl rfl rfl rfl ?_
  | refine w_st 5 hA ok rfl rfl rfl rfl ?_
  | refine w_st 6 hA ok rfl rfl rfl rfl ?_
  | refine w_st 7 hA ok rfl rfl rfl rfl ?_
  | refine w_ldA 0 hA ok rfl rfl rfl ?_
  | refine w_ldA 1 hA ok rfl rfl rfl ?_
  | refine w_ldA 2 hA ok rfl rfl rfl ?_
  | refine w_ldA 3 hA ok rfl rfl rfl ?_
  | refine w_ldA 4 hA ok rfl rfl rfl ?_
  | refine w_ldA 5 hA ok rfl rfl rfl ?_
  | refine w_ldA 6 hA ok rfl rfl rfl ?_
  | refine w_ldA 7 hA ok rfl rfl rfl ?_
  | refine w_stA 0 hA ok rfl rfl rfl rfl ?_
  | refine w_stA 1 hA ok rfl rfl rfl rfl ?_
  | refine w_stA 2 hA ok rfl rfl rfl rfl ?_
  | refine w_stA 3 hA ok rfl rfl rfl rfl ?_
  | refine w_stA 4 hA ok rfl rfl rfl rfl ?_
  | refine w_stA 5 hA ok rfl rfl rfl rfl ?_
  | refine w_stA 6 hA ok rfl rfl rfl rfl ?_
  | refine w_stA 7 hA ok rfl rfl rfl rfl ?_
  | (refine w_Raw hA ?_; intro hA)
  | (refine w_SetRaw hA ?_; intro hA)
  | (refine w_SwapRaw hA ?_; intro hA)
  | (refine w_AddRaw hA ?_; intro hA)
  | (refine w_Load hA ?_; intro hA)
  | (refine w_Store hA ?_; intro hA)
  | (refine w_Retire hA ?_; intro hA)
  | (refine w_Died hA ?_; intro hA)
  | (refine w_Born hA ?_; intro hA)
  | refine w_State hA ?_
  | refine w_Uses hA ?_
  | refine w_Fault hA ?_
  | refine w_Words hA ?_
  | refine w_Count hA ?_
  | refine wq_Size ?_
  | refine wq_Open ?_
  | refine wq_Pack ?_
  | refine wq_head ?_
  | refine w_ck 0 hA ok rfl rfl rfl ?_
  | refine w_ck 1 hA ok rfl rfl rfl ?_
  | refine w_ck 2 hA ok rfl rfl rfl ?_
  | refine w_ck 3 hA ok rfl rfl rfl ?_
  | refine w_ck 4 hA ok rfl rfl rfl ?_
  | refine w_ck 5 hA ok rfl rfl rfl ?_
  | refine w_ck 6 hA ok rfl rfl rfl ?_
  | refine w_ck 7 hA ok rfl rfl rfl ?_
  | refine w_ckn rfl ?_
  | refine w_Base 0 1 hA ok rfl rfl ?_
  | refine w_Base 1 2 hA ok rfl rfl ?_
  | refine w_Base 2 3 hA ok rfl rfl ?_
  | refine w_Base 3 4 hA ok rfl rfl ?_
  | refine w_Base 4 5 hA ok rfl rfl ?_
  | refine w_Base 5 6 hA ok rfl rfl ?_
  | (refine w_PopStep 0 1 hA ok rfl rfl ?_; intro hA)
  | (refine w_PopStep 1 2 hA ok rfl rfl ?_; intro hA)
  | (refine w_PopStep 2 3 hA ok rfl rfl ?_; intro hA)
  | (refine w_PopStep 3 4 hA ok rfl rfl ?_; intro hA)
  | (refine w_PopStep 4 5 hA ok rfl rfl ?_; intro hA)
  | (refine w_PopStep 5 6 hA ok rfl rfl ?_; intro hA)
  | (refine w_PushStep 0 1 hA ok rfl rfl ?_; intro hA)
  | (refine w_PushStep 1 2 hA ok rfl rfl ?_; intro hA)
  | (refine w_PushStep 2 3 hA ok rfl rfl ?_; intro hA)
  | (refine w_PushStep 3 4 hA ok rfl rfl ?_; intro hA)
  | (refine w_PushStep 4 5 hA ok rfl rfl ?_; intro hA)
  | (refine w_PushStep 5 6 hA ok rfl rfl ?_; intro hA)
  | refine wp_true (by assumption) ?_
  | refine wp_false (by assumption) ?_)
    refine w_clear 1 (es := (mapEs Value.bool m.seen 0).toArray) hA ok rfl rfl ?_
    repeat (first
  | refine wp_nil.2 ?_
  | refine w_ld 0 hA ok rfl rfl rfl ?_
  | refine w_ld 1 hA ok rfl rfl rfl ?_
  | refine w_ld 2 hA ok rfl rfl rfl ?_
  | refine w_ld 3 hA ok rfl rfl rfl ?_
  | refine w_ld 4 hA ok rfl rfl rfl ?_
  | refine w_ld 5 hA ok rfl rfl rfl ?_
  | refine w_ld 6 hA ok rfl rfl rfl ?_
  | refine w_ld 7 hA ok rfl rfl rfl ?_
  | refine w_st 0 hA ok rfl rfl rfl rfl ?_
  | refine w_st 1 hA ok rfl rfl rfl rfl ?_
  | refine w_st 2 hA ok rfl rfl rfl rfl ?_
  | refine w_st 3 hA ok rfl rfl rfl rfl ?_
  | refine w_st 4 hA ok rfl rfl rfl rfl ?_
  | refine w_st 5 hA ok rfl rfl rfl rfl ?_
  | refine w_st 6 hA ok rfl rfl rfl rfl ?_
  | refine w_st 7 hA ok rfl rfl rfl rfl ?_
  | refine w_ldA 0 hA ok rfl rfl rfl ?_
  | refine w_ldA 1 hA ok rfl rfl rfl ?_
  | refine w_ldA 2 hA ok rfl rfl rfl ?_
  | refine w_ldA 3 hA ok rfl rfl rfl ?_
  | refine w_ldA 4 hA ok rfl rfl rfl ?_
  | refine w_ldA 5 hA ok rfl rfl rfl ?_
  | refine w_ldA 6 hA ok rfl rfl rfl ?_
  | refine w_ldA 7 hA ok rfl rfl rfl ?_
  | refine w_stA 0 hA ok rfl rfl rfl rfl ?_
  | refine w_stA 1 hA ok rfl rfl rfl rfl ?_
  | refine w_stA 2 hA ok rfl rfl rfl rfl ?_
  | refine w_stA 3 hA ok rfl rfl rfl rfl ?_
  | refine w_stA 4 hA ok rfl rfl rfl rfl ?_
  | refine w_stA 5 hA ok rfl rfl rfl rfl ?_
  | refine w_stA 6 hA ok rfl rfl rfl rfl ?_
  | refine w_stA 7 hA ok rfl rfl rfl rfl ?_
  | (refine w_Raw hA ?_; intro hA)
  | (refine w_SetRaw hA ?_; intro hA)
  | (refine w_SwapRaw hA ?_; intro hA)
  | (refine w_AddRaw hA ?_; intro hA)
  | (refine w_Load hA ?_; intro hA)
  | (refine w_Store hA ?_; intro hA)
  | (refine w_Retire hA ?_; intro hA)
  | (refine w_Died hA ?_; intro hA)
  | (refine w_Born hA ?_; intro hA)
  | refine w_State hA ?_
  | refine w_Uses hA ?_
  | refine w_Fault hA ?_
  | refine w_Words hA ?_
  | refine w_Count hA ?_
  | refine wq_Size ?_
  | refine wq_Open ?_
  | refine wq_Pack ?_
  | refine wq_head ?_
  | refine w_ck 0 hA ok rfl rfl rfl ?_
  | refine w_ck 1 hA ok rfl rfl rfl ?_
  | refine w_ck 2 hA ok rfl rfl rfl ?_
  | refine w_ck 3 hA ok rfl rfl rfl ?_
  | refine w_ck 4 hA ok rfl rfl rfl ?_
  | refine w_ck 5 hA ok rfl rfl rfl ?_
  | refine w_ck 6 hA ok rfl rfl rfl ?_
  | refine w_ck 7 hA ok rfl rfl rfl ?_
  | refine w_ckn rfl ?_
  | refine w_Base 0 1 hA ok rfl rfl ?_
  | refine w_Base 1 2 hA ok rfl rfl ?_
  | refine w_Base 2 3 hA ok rfl rfl ?_
  | refine w_Base 3 4 hA ok rfl rfl ?_
  | refine w_Base 4 5 hA ok rfl rfl ?_
  | refine w_Base 5 6 hA ok rfl rfl ?_
  | (refine w_PopStep 0 1 hA ok rfl rfl ?_; intro hA)
  | (refine w_PopStep 1 2 hA ok rfl rfl ?_; intro hA)
  | (refine w_PopStep 2 3 hA ok rfl rfl ?_; intro hA)
  | (refine w_PopStep 3 4 hA ok rfl rfl ?_; intro hA)
  | (refine w_PopStep 4 5 hA ok rfl rfl ?_; intro hA)
  | (refine w_PopStep 5 6 hA ok rfl rfl ?_; intro hA)
  | (refine w_PushStep 0 1 hA ok rfl rfl ?_; intro hA)
  | (refine w_PushStep 1 2 hA ok rfl rfl ?_; intro hA)
  | (refine w_PushStep 2 3 hA ok rfl rfl ?_; intro hA)
  | (refine w_PushStep 3 4 hA ok rfl rfl ?_; intro hA)
  | (refine w_PushStep 4 5 hA ok rfl rfl ?_; intro hA)
  | (refine w_PushStep 5 6 hA ok rfl rfl ?_; intro hA)
  | refine wp_true (by assumption) ?_
  | refine wp_false (by assumption) ?_)
    have hfl2 := hfs.len
    rw [List.length_map, ← hfl] at hfl2
    have hE : scC m.tw m.ta m.pl m.work m.word j1.ls j1.mq j1.fs j1.ds (((j1.fs.len : Nat) : Int) == 0) = m.sort.cells j1 := by
      show _ = scC m.tw m.ta m.pl m.work m.word j1.ls j1.mq j1.fs j1.ds (decide ((m.upto m.l.length).frees = []))
      congr 1
      rw [hfl2]
      cases (m.upto m.l.length).frees <;> simp
      omega
    have key : ∀ L, wp Try.prog (.ret (.tuple #[])) L (own A ((j1.q, oc ty_hazard_Scan (m.sort.cells j1)) :: (j1.mq, .map #[] m.seen.length) :: (fbl m.sort.frees j1.fj ++ (j1.tls ++ (j1.tfs ++ j1.tds)))) G) fun v K => ∃ j', v = .tuple #[] ∧ K = own A (m.sort.bl j') G ∧ j'.q = j1.q ∧ Ok I G (keys (m.sort.bl j')) ∧ m.sort.rep j' := by
      intro L
      have ok3 : Ok I G (keys ((j1.q, oc ty_hazard_Scan (m.sort.cells j1)) :: (j1.mq, .map #[] m.seen.length) :: (fbl m.sort.frees j1.fj ++ (j1.tls ++ (j1.tfs ++ j1.tds))))) := ok
      have nd := ok3.nd
      have e3 : m.sort.bl j1 = (j1.q, oc ty_hazard_Scan (m.sort.cells j1)) :: (fbl m.sort.frees j1.fj ++ (j1.tls ++ (j1.tfs ++ j1.tds))) := Sc.bl_s j1 rfl
      have ok4 : Ok I G (keys (m.sort.bl j1)) := by
        rw [e3]
        refine ok3.sub ?_ fun b hb => ?_
        · simp only [keys, List.map_cons, List.nodup_cons, List.mem_cons, not_or] at nd ⊢
          exact ⟨nd.1.2, nd.2.2⟩
        · simp only [keys, List.map_cons, List.mem_cons] at hb ⊢
          rcases hb with h | h
          · exact .inl h
          · exact .inr (.inr h)
      refine ⟨own A (m.sort.bl j1) G, own_sub ok3 ok4.nd fun p hp => ?_, j1, rfl, rfl, rfl, ok4, ⟨hls, hfs.at', hds, hfl, fun h => by cases h⟩⟩
      rw [e3] at hp
      rcases List.mem_cons.1 hp with h | h
      · rw [h]; exact List.mem_cons_self
      · exact List.mem_cons_of_mem _ (List.mem_cons_of_mem _ h)
    rw [← hE] at key
    exact key _
end
end Go.Proofs.Ytfphgiipekkgdaa

set_option linter.unusedVariables false
set_option maxRecDepth 20000
namespace Go.Proofs.Ytfphgiipekkgdaa
open Go Go.Fw

def Sc.word1 (m : Sc) (A : Ar) : Sc := { m with seen := alPut m.seen (A.rawF (w64 (m.ta + m.word))) true, word := m.word + 1 }
def Sc.step (m : Sc) (A : Ar) : Sc × Ar :=
  if m.ended = true then (m, A)
  else if m.word < 2 * m.tw then (if m.word + 1 = 2 * m.tw then (m.word1 A).sort else m.word1 A, A.touchR (w64 (m.ta + m.word)))
  else match m.frees with
    | [] => (m, A)
    | f :: fs => if (f.step A).1.done = true then ({ m with frees := fs, ended := decide (fs = []) }, (f.step A).2) else ({ m with frees := (f.step A).1 :: fs }, (f.step A).2)
structure Sc.inv (m : Sc) (A : Ar) : Prop where
  tw : 1 ≤ m.tw ∧ m.tw ≤ 1000
  wd : 0 ≤ m.word
  ll : m.l.length ≤ 1000
  fr : m.ended = false → (m.word < 2 * m.tw ∧ m.sorted = false ∧ m.frees = [] ∧ m.left = []) ∨ (2 * m.tw ≤ m.word ∧ m.sorted = true ∧ m.frees ≠ [])
def mSc : MchR Sc ScJ where
  f := f_hazard_Scan_Step
  addr := ScJ.q
  bl := Sc.bl
  rep := Sc.rep
  inv := Sc.inv
  step := Sc.step
  fin := fun m => m.ended
theorem mSc_inv : mSc.inv' ty_p_hazard_Scan := fun q p => by
  show opS _ _ _ _ = .pure (.enter f_hazard_Scan_Step [.pointer (some ⟨q, 0, none⟩), .pointer p].toArray)
  kernel_rfl

theorem opS_lo1 {t u : TypeId} (x : Value) (n : Int) : opS Try.prog (.slice t (.tmp 0) (some (.const (.int .i64 n))) none none) u [x] = opS Try.prog (.slice t (.tmp 0) (some (.tmp 1)) none none) u [x, .int .i64 n] := by kernel_rfl

theorem opS_ix0 {t u : TypeId} (x : Value) (n : Int) : opS Try.prog (.indexAddr t (.tmp 0) (.const (.int .i64 n))) u [x] = opS Try.prog (.indexAddr t (.tmp 0) (.tmp 1)) u [x, .int .i64 n] := by kernel_rfl
theorem rdP0 {L : Hands} {R : Value → Heap → Prop} {A : Ar} {I : List Nat} {l : Bl} {G : Heap} {x : Nat} {xs : List Nat} {s : Sl} {u : TypeId} {k : Option Addr → Tree} (hA : Aw I A) (ok : Ok I G (keys l)) (hs : SlAt l ty_p_slab_Free eP s (x :: xs)) (h : wp Try.prog (k (some ⟨x, 0, none⟩)) L (own A l G) R) :
    wp Try.prog (.look (opS Try.prog (.indexAddr ty_s_p_slab_Free (.tmp 0) (.const (.int .i64 0))) u [(.slice s.a s.len s.cap)]) (.one (.leaf .addr)) fun y => .ld y .ptr k) L (own A l G) R := by
  rw [opS_ix0]
  rcases hs with ⟨_, h⟩ | ⟨b, pre, rest, r, rfl, h2, h3⟩
  · cases h
  · refine w_ixS (e := ty_p_slab_Free) rfl rfl rfl (Int.le_refl 0) (by show (0 : Int) < (((x :: xs).length : Nat) : Int); simp only [List.length_cons]; omega) ?_
    refine w_ldm (x := some ⟨x, 0, none⟩) hA ok rfl h3 ?_ h
    have : (pre ++ eP.all (x :: xs) ++ rest)[pre.length + (0 : Int).toNat]? = some (.pointer (some ⟨x, 0, none⟩)) := by
      rw [List.append_assoc, List.getElem?_append_right (by simp)]
      simp [Enc.all, eP]
    rw [this]; rfl

theorem own_conv {L : Hands} {R : Value → Heap → Prop} {A : Ar} {l l' : Bl} {G : Heap} {t : Tree} (h : l' = l) (hw : wp Try.prog t L (own A l' G) R) : wp Try.prog t L (own A l G) R := h ▸ hw

set_option maxHeartbeats 1000000 in
theorem mSc_ok : mSc.ok := by
  rintro I A G m j hA ok rp ⟨⟨t0, t1⟩, w0, ll, fr⟩
  have ok : Ok I G (keys (m.bl j)) := ok
  have rp : m.rep j := rp
  show SpecF Try.prog f_hazard_Scan_Step #[.pointer (some ⟨j.q, 0, none⟩), .pointer (aI I)] (own A (m.bl j) G) fun v K => ∃ j' : ScJ, v = .bool (m.step A).1.ended ∧ K = own (m.step A).2 ((m.step A).1.bl j') G ∧ j'.q = j.q ∧ Ok I G (keys ((m.step A).1.bl j')) ∧ (m.step A).1.rep j' ∧ Aw I (m.step A).2
  refine t_hazard_Scan_Step_spec fun L => ?_
  unfold t_hazard_Scan_Step Sc.step
  have e2 : w64 (2 * imax m.tw 0) = 2 * m.tw := by
    rw [show imax m.tw 0 = m.tw by unfold imax; rw [if_neg (by omega)]]
    exact w64_in (by omega) (by omega)
  repeat (first
  | refine wp_nil.2 ?_
  | refine w_ld 0 hA ok rfl rfl rfl ?_
  | refine w_ld 1 hA ok rfl rfl rfl ?_
  | refine w_ld 2 hA ok rfl rfl rfl ?_
  | refine w_ld 3 hA ok rfl rfl rfl ?_
  | refine w_ld 4 hA ok rfl rfl rfl ?_
  | refine w_ld 5 hA ok rfl rfl rfl ?_
  | refine w_ld 6 hA ok rfl rfl rfl ?_
  | refine w_ld 7 hA ok rfl rfl rfl ?_
  | refine w_st 0 hA ok rfl rfl rfl rfl ?_
  | refine w_st 1 hA ok rfl rfl rfl rfl ?_
  | refine w_st 2 hA ok rfl rfl rfl rfl ?_
  | refine w_st 3 hA ok rfl rfl rfl rfl ?_
  | refine w_st 4 hA ok rfl rfl rfl rfl ?_
  | refine w_st 5 hA ok rfl rfl rfl rfl ?_
  | refine w_st 6 hA ok rfl rfl rfl rfl ?_
  | refine w_st 7 hA ok rfl rfl rfl rfl ?_
  | refine w_ldA 0 hA ok rfl rfl rfl ?_
  | refine w_ldA 1 hA ok rfl rfl rfl ?_
  | refine w_ldA 2 hA ok rfl rfl rfl ?_
  | refine w_ldA 3 hA ok rfl rfl rfl ?_
  | refine w_ldA 4 hA ok rfl rfl rfl ?_
  | refine w_ldA 5 hA ok rfl rfl rfl ?_
  | refine w_ldA 6 hA ok rfl rfl rfl ?_
  | refine w_ldA 7 hA ok rfl rfl rfl ?_
  | refine w_stA 0 hA ok rfl rfl rfl rfl ?_
  | refine w_stA 1 hA ok rfl rfl rfl rfl ?_
  | refine w_stA 2 hA ok rfl rfl rfl rfl ?_
  | refine w_stA 3 hA ok rfl rfl rfl rfl ?_
  | refine w_stA 4 hA ok rfl rfl rfl rfl ?_
  | refine w_stA 5 hA ok rfl rfl rfl rfl ?_
  | refine w_stA 6 hA ok rfl rfl rfl rfl ?_
  | refine w_stA 7 hA ok rfl rfl rfl rfl ?_
  | (refine w_Raw hA ?_; intro hA)
  | (refine w_SetRaw hA ?_; intro hA)
  | (refine w_SwapRaw hA ?_; intro hA)
  | (refine w_AddRaw hA ?_; intro hA)
  | (refine w_Load hA ?_; intro hA)
  | (refine w_Store hA ?_; intro hA)
  | (refine w_Retire hA ?_; intro hA)
  | (refine w_Died hA ?_; intro hA)
  | (refine w_Born hA ?_; intro hA)
  | refine w_State hA ?_
  | refine w_Uses hA ?_
  | refine w_Fault hA ?_
  | refine w_Words hA ?_
  | refine w_Count hA ?_
  | refine wq_Size ?_
  | refine wq_Open ?_
  | refine wq_Pack ?_
  | refine wq_head ?_
  | refine w_ck 0 hA ok rfl rfl rfl ?_
  | refine w_ck 1 hA ok rfl rfl rfl ?_
  | refine w_ck 2 hA ok rfl rfl rfl ?_
  | refine w_ck 3 hA ok rfl rfl rfl ?_
  | refine w_ck 4 hA ok rfl rfl rfl ?_
  | refine w_ck 5 hA ok rfl rfl rfl ?_
  | refine w_ck 6 hA ok rfl rfl rfl ?_
  | refine w_ck 7 hA ok rfl rfl rfl ?_
  | refine w_ckn rfl ?_
  | refine w_Base 0 1 hA ok rfl rfl ?_
  | refine w_Base 1 2 hA ok rfl rfl ?_
  | refine w_Base 2 3 hA ok rfl rfl ?_
  | refine w_Base 3 4 hA ok rfl rfl ?_
  | refine w_Base 4 5 hA ok rfl rfl ?_
  | refine w_Base 5 6 hA ok rfl rfl ?_
  | (refine w_PopStep 0 1 hA ok rfl rfl ?_; intro hA)
  | (refine w_PopStep 1 2 hA ok rfl rfl ?_; intro hA)
  | (refine w_PopStep 2 3 hA ok rfl rfl ?_; intro hA)
  | (refine w_PopStep 3 4 hA ok rfl rfl ?_; intro hA)
  | (refine w_PopStep 4 5 hA ok rfl rfl ?_; intro hA)
  | (refine w_PopStep 5 6 hA ok rfl rfl ?_; intro hA)
  | (refine w_PushStep 0 1 hA ok rfl rfl ?_; intro hA)
  | (refine w_PushStep 1 2 hA ok rfl rfl ?_; intro hA)
  | (refine w_PushStep 2 3 hA ok rfl rfl ?_; intro hA)
  | (refine w_PushStep 3 4 hA ok rfl rfl ?_; intro hA)
  | (refine w_PushStep 4 5 hA ok rfl rfl ?_; intro hA)
  | (refine w_PushStep 5 6 hA ok rfl rfl ?_; intro hA)
  | refine wp_true (by assumption) ?_
  | refine wp_false (by assumption) ?_)
  rw [e2]
  rcases Bool.eq_false_or_eq_true m.ended with he | he
  · rw [if_pos he]
    refine wp_true he ?_
    repeat (first
  | refine wp_nil.2 ?_
  | refine w_ld 0 hA ok rfl rfl rfl ?_
  | refine w_ld 1 hA ok rfl rfl rfl ?_
  | refine w_ld 2 hA ok rfl rfl rfl ?_
  | refine w_ld 3 hA ok rfl rfl rfl ?_
  | refine w_ld 4 hA ok rfl rfl rfl ?_
  | refine w_ld 5 hA ok rfl rfl rfl ?_
  | refine w_ld 6 hA ok rfl rfl rfl ?_
  | refine w_ld 7 hA ok rfl rfl rfl ?_
  | refine w_st 0 hA ok rfl rfl rfl rfl ?_
  | refine w_st 1 hA ok rfl rfl rfl rfl ?_
  | refine w_st 2 hA ok rfl rfl rfl rfl ?_
  | refine w_st 3 hA ok rfl rfl rfl rfl ?_
  | refine w_st 4 hA ok rfl rfl rfl rfl ?_
  | refine w_st 5 hA ok rfl rfl rfl rfl ?_
  | refine w_st 6 hA ok rfl rfl rfl rfl ?_
  | refine w_st 7 hA ok rfl rfl rfl rfl ?_
  | refine w_ldA 0 hA ok rfl rfl rfl ?_
  | refine w_ldA 1 hA ok rfl rfl rfl ?_
  | refine w_ldA 2 hA ok rfl rfl rfl ?_
  | refine w_ldA 3 hA ok rfl rfl rfl ?_
  | refine w_ldA 4 hA ok rfl rfl rfl ?_
  | refine w_ldA 5 hA ok rfl rfl rfl ?_
  | refine w_ldA 6 hA ok rfl rfl rfl ?_
  | refine w_ldA 7 hA ok rfl rfl rfl ?_
  | refine w_stA 0 hA ok rfl rfl rfl rfl ?_
  | refine w_stA 1 hA ok rfl rfl rfl rfl ?_
  | refine w_stA 2 hA ok rfl rfl rfl rfl ?_
  | refine w_stA 3 hA ok rfl rfl rfl rfl ?_
  | refine w_stA 4 hA ok rfl rfl rfl rfl ?_
  | refine w_stA 5 hA ok rfl rfl rfl rfl ?_
  | refine w_stA 6 hA ok rfl rfl rfl rfl ?_
  | refine w_stA 7 hA ok rfl rfl rfl rfl ?_
  | (refine w_Raw hA ?_; intro hA)
  | (refine w_SetRaw hA ?_; intro hA)
  | (refine w_SwapRaw hA ?_; intro hA)
  | (refine w_AddRaw hA ?_; intro hA)
  | (refine w_Load hA ?_; intro hA)
  | (refine w_Store hA ?_; intro hA)
  | (refine w_Retire hA ?_; intro hA)
  | (refine w_Died hA ?_; intro hA)
  | (refine w_Born hA ?_; intro hA)
  | refine w_State hA ?_
  | refine w_Uses hA ?_
  | refine w_Fault hA ?_
  | refine w_Words hA ?_
  | refine w_Count hA ?_
  | refine wq_Size ?_
  | refine wq_Open ?_
  | refine wq_Pack ?_
  | refine wq_head ?_
  | refine w_ck 0 hA ok rfl rfl rfl ?_
  | refine w_ck 1 hA ok rfl rfl rfl ?_
  | refine w_ck 2 hA ok rfl rfl rfl ?_
  | refine w_ck 3 hA ok rfl rfl rfl ?_
  | refine w_ck 4 hA ok rfl rfl rfl ?_
  | refine w_ck 5 hA ok rfl rfl rfl ?_
  | refine w_ck 6 hA ok rfl rfl rfl ?_
  | refine w_ck 7 hA ok rfl rfl rfl ?_
  | refine w_ckn rfl ?_
  | refine w_Base 0 1 hA ok rfl rfl ?_
  | refine w_Base 1 2 hA ok rfl rfl ?_
  | refine w_Base 2 3 hA ok rfl rfl ?_
  | refine w_Base 3 4 hA ok rfl rfl ?_
  | refine w_Base 4 5 hA ok rfl rfl ?_
  | refine w_Base 5 6 hA ok rfl rfl ?_
  | (refine w_PopStep 0 1 hA ok rfl rfl ?_; intro hA)
  | (refine w_PopStep 1 2 hA ok rfl rfl ?_; intro hA)
  | (refine w_PopStep 2 3 hA ok rfl rfl ?_; intro hA)
  | (refine w_PopStep 3 4 hA ok rfl rfl ?_; intro hA)
  | (refine w_PopStep 4 5 hA ok rfl rfl ?_; intro hA)
  | (refine w_PopStep 5 6 hA ok rfl rfl ?_; intro hA)
  | (refine w_PushStep 0 1 hA ok rfl rfl ?_; intro hA)
  | (refine w_PushStep 1 2 hA ok rfl rfl ?_; intro hA)
  | (refine w_PushStep 2 3 hA ok rfl rfl ?_; intro hA)
  | (refine w_PushStep 3 4 hA ok rfl rfl ?_; intro hA)
  | (refine w_PushStep 4 5 hA ok rfl rfl ?_; intro hA)
  | (refine w_PushStep 5 6 hA ok rfl rfl ?_; intro hA)
  | refine wp_true (by assumption) ?_
  | refine wp_false (by assumption) ?_)
    exact wp_ret_of ⟨j, rfl, rfl, rfl, ok, rp, hA⟩
  · rw [if_neg (by rw [he]; simp)]
    refine wp_false he ?_
    repeat (first
  | refine wp_nil.2 ?_
  | refine w_ld 0 hA ok rfl rfl rfl ?_
  | refine w_ld 1 hA ok rfl rfl rfl ?_
  | refine w_ld 2 hA ok rfl rfl rfl ?_
  | refine w_ld 3 hA ok rfl rfl rfl ?_
  | refine w_ld 4 hA ok rfl rfl rfl ?_
  | refine w_ld 5 hA ok rfl rfl rfl ?_
  | refine w_ld 6 hA ok rfl rfl rfl ?_
  | refine w_ld 7 hA ok rfl rfl rfl ?_
  | refine w_st 0 hA ok rfl rfl rfl rfl ?_
  | refine w_st 1 hA ok rfl rfl rfl rfl ?_
  | refine w_st 2 hA ok rfl rfl rfl rfl ?_
  | refine w_st 3 hA ok rfl rfl rfl rfl ?_
  | refine w_st 4 hA ok rfl rfl rfl rfl ?_
  | refine w_st 5 hA ok rfl rfl rfl rfl ?_
  | refine w_st 6 hA ok rfl rfl rfl rfl ?_
  | refine w_st 7 hA ok rfl rfl rfl rfl ?_
  | refine w_ldA 0 hA ok rfl rfl rfl ?_
  | refine w_ldA 1 hA ok rfl rfl rfl ?_
  | refine w_ldA 2 hA ok rfl rfl rfl ?_
  | refine w_ldA 3 hA ok rfl rfl rfl ?_
  | refine w_ldA 4 hA ok rfl rfl rfl ?_
  | refine w_ldA 5 hA ok rfl rfl rfl ?_
  | refine w_ldA 6 hA ok rfl rfl rfl ?_
  | refine w_ldA 7 hA ok rfl rfl rfl ?_
  | refine w_stA 0 hA ok rfl rfl rfl rfl ?_
  | refine w_stA 1 hA ok rfl rfl rfl rfl ?_
  | refine w_stA 2 hA ok rfl rfl rfl rfl ?_
  | refine w_stA 3 hA ok rfl rfl rfl rfl ?_
  | refine w_stA 4 hA ok rfl rfl rfl rfl ?_
  | refine w_stA 5 hA ok rfl rfl rfl rfl ?_
  | refine w_stA 6 hA ok rfl rfl rfl rfl ?_
  | refine w_stA 7 hA ok rfl rfl rfl rfl ?_
  | (refine w_Raw hA ?_; intro hA)
  | (refine w_SetRaw hA ?_; intro hA)
  | (refine w_SwapRaw hA ?_; intro hA)
  | (refine w_AddRaw hA ?_; intro hA)
  | (refine w_Load hA ?_; intro hA)
  | (refine w_Store hA ?_; intro hA)
  | (refine w_Retire hA ?_; intro hA)
  | (refine w_Died hA ?_; intro hA)
  | (refine w_Born hA ?_; intro hA)
  | refine w_State hA ?_
  | refine w_Uses hA ?_
  | refine w_Fault hA ?_
  | refine w_Words hA ?_
  | refine w_Count hA ?_
  | refine wq_Size ?_
  | refine wq_Open ?_
  | refine wq_Pack ?_
  | refine wq_head ?_
  | refine w_ck 0 hA ok rfl rfl rfl ?_
  | refine w_ck 1 hA ok rfl rfl rfl ?_
  | refine w_ck 2 hA ok rfl rfl rfl ?_
  | refine w_ck 3 hA ok rfl rfl rfl ?_
  | refine w_ck 4 hA ok rfl rfl rfl ?_
  | refine w_ck 5 hA ok rfl rfl rfl ?_
  | refine w_ck 6 hA ok rfl rfl rfl ?_
  | refine w_ck 7 hA ok rfl rfl rfl ?_
  | refine w_ckn rfl ?_
  | refine w_Base 0 1 hA ok rfl rfl ?_
  | refine w_Base 1 2 hA ok rfl rfl ?_
  | refine w_Base 2 3 hA ok rfl rfl ?_
  | refine w_Base 3 4 hA ok rfl rfl ?_
  | refine w_Base 4 5 hA ok rfl rfl ?_
  | refine w_Base 5 6 hA ok rfl rfl ?_
  | (refine w_PopStep 0 1 hA ok rfl rfl ?_; intro hA)
  | (refine w_PopStep 1 2 hA ok rfl rfl ?_; intro hA)
  | (refine w_PopStep 2 3 hA ok rfl rfl ?_; intro hA)
  | (refine w_PopStep 3 4 hA ok rfl rfl ?_; intro hA)
  | (refine w_PopStep 4 5 hA ok rfl rfl ?_; intro hA)
  | (refine w_PopStep 5 6 hA ok rfl rfl ?_; intro hA)
  | (refine w_PushStep 0 1 hA ok rfl rfl ?_; intro hA)
  | (refine w_PushStep 1 2 hA ok rfl rfl ?_; intro hA)
  | (refine w_PushStep 2 3 hA ok rfl rfl ?_; intro hA)
  | (refine w_PushStep 3 4 hA ok rfl rfl ?_; intro hA)
  | (refine w_PushStep 4 5 hA ok rfl rfl ?_; intro hA)
  | (refine w_PushStep 5 6 hA ok rfl rfl ?_; intro hA)
  | refine wp_true (by assumption) ?_
  | refine wp_false (by assumption) ?_)
    rcases fr he with ⟨f1, f2, f3, f4⟩ | ⟨f1, f2, f3⟩
    · rw [if_pos f1]
      refine wp_true (decide_eq_true f1) ?_
      rw [Sc.bl_u j f2] at ok ⊢
      repeat (first
  | refine wp_nil.2 ?_
  | refine w_ld 0 hA ok rfl rfl rfl ?_
  | refine w_ld 1 hA ok rfl rfl rfl ?_
  | refine w_ld 2 hA ok rfl rfl rfl ?_
  | refine w_ld 3 hA ok rfl rfl rfl ?_
  | refine w_ld 4 hA ok rfl rfl rfl ?_
  | refine w_ld 5 hA ok rfl rfl rfl ?_
  | refine w_ld 6 hA ok rfl rfl rfl ?_
  | refine w_ld 7 hA ok rfl rfl rfl ?_
  | refine w_st 0 hA ok rfl rfl rfl rfl ?_
  | refine w_st 1 hA ok rfl rfl rfl rfl ?_
  | refine w_st 2 hA ok rfl rfl rfl rfl ?_
  | refine w_st 3 hA ok rfl rfl rfl rfl ?_
  | refine w_st 4 hA ok rfl rfl rfl rfl ?_
  | refine w_st 5 hA ok rfl rfl rfl rfl ?_
  | refine w_st 6 hA ok rfl rfl rfl rfl ?_
  | refine w_st 7 hA ok rfl rfl rfl rfl ?_
  | refine w_ldA 0 hA ok rfl rfl rfl ?_
  | refine w_ldA 1 hA ok rfl rfl rfl ?_
  | refine w_ldA 2 hA ok rfl rfl rfl ?_
  | refine w_ldA 3 hA ok rfl rfl rfl ?_
  | refine w_ldA 4 hA ok rfl rfl rfl ?_
  | refine w_ldA 5 hA ok rfl rfl rfl ?_
  | refine w_ldA 6 hA ok rfl rfl rfl ?_
  | refine w_ldA 7 hA ok rfl rfl rfl ?_
  | refine w_stA 0 hA ok rfl rfl rfl rfl ?_
  | refine w_stA 1 hA ok rfl rfl rfl rfl ?_
  | refine w_stA 2 hA ok rfl rfl rfl rfl ?_
  | refine w_stA 3 hA ok rfl rfl rfl rfl ?_
  | refine w_stA 4 hA ok rfl rfl rfl rfl ?_
  | refine w_stA 5 hA ok rfl rfl rfl rfl ?_
  | refine w_stA 6 hA ok rfl rfl rfl rfl ?_
  | refine w_stA 7 hA ok rfl rfl rfl rfl ?_
  | (refine w_Raw hA ?_; intro hA)
  | (refine w_SetRaw hA ?_; intro hA)
  | (refine w_SwapRaw hA ?_; intro hA)
  | (refine w_AddRaw hA ?_; intro hA)
  | (refine w_Load hA ?_; intro hA)
  | (refine w_Store hA ?_; intro hA)
  | (refine w_Retire hA ?_; intro hA)
  | (refine w_Died hA ?_; intro hA)
  | (refine w_Born hA ?_; intro hA)
  | refine w_State hA ?_
  | refine w_Uses hA ?_
  | refine w_Fault hA ?_
  | refine w_Words hA ?_
  | refine w_Count hA ?_
  | refine wq_Size ?_
  | refine wq_Open ?_
  | refine wq_Pack ?_
  | refine wq_head ?_
  | refine w_ck 0 hA ok rfl rfl rfl ?_
  | refine w_ck 1 hA ok rfl rfl rfl ?_
  | refine w_ck 2 hA ok rfl rfl rfl ?_
  | refine w_ck 3 hA ok rfl rfl rfl ?_
  | refine w_ck 4 hA ok rfl rfl rfl ?_
  | refine w_ck 5 hA ok rfl rfl rfl ?_
  | refine w_ck 6 hA ok rfl rfl rfl ?_
  | refine w_ck 7 hA ok rfl rfl rfl ?_
  | refine w_ckn rfl ?_
  | refine w_Base 0 1 hA ok rfl rfl ?_
  | refine w_Base 1 2 hA ok rfl rfl ?_
  | refine w_Base 2 3 hA ok rfl rfl ?_
  | refine w_Base 3 4 hA ok rfl rfl ?_
  | refine w_Base 4 5 hA ok rfl rfl ?_
  | refine w_Base 5 6 hA ok rfl rfl ?_
  | (refine w_PopStep 0 1 hA ok rfl rfl ?_; intro hA)
  | (refine w_PopStep 1 2 hA ok rfl rfl ?_; intro hA)
  | (refine w_PopStep 2 3 hA ok rfl rfl ?_; intro hA)
  | (refine w_PopStep 3 4 hA ok rfl rfl ?_; intro hA)
  | (refine w_PopStep 4 5 hA ok rfl rfl ?_; intro hA)
  | (refine w_PopStep 5 6 hA ok rfl rfl ?_; intro hA)
  | (refine w_PushStep 0 1 hA ok rfl rfl ?_; intro hA)
  | (refine w_PushStep 1 2 hA ok rfl rfl ?_; intro hA)
  | (refine w_PushStep 2 3 hA ok rfl rfl ?_; intro hA)
  | (refine w_PushStep 3 4 hA ok rfl rfl ?_; intro hA)
  | (refine w_PushStep 4 5 hA ok rfl rfl ?_; intro hA)
  | (refine w_PushStep 5 6 hA ok rfl rfl ?_; intro hA)
  | refine wp_true (by assumption) ?_
  | refine wp_false (by assumption) ?_)
      rw [opS_mapTrue]
      refine w_mapPut 1 (enc := Value.bool) (v := true) hA ok rfl rfl rfl ?_
      repeat (first
  | refine wp_nil.2 ?_
  | refine w_ld 0 hA ok rfl rfl rfl ?_
  | refine w_ld 1 hA ok rfl rfl rfl ?_
  | refine w_ld 2 hA ok rfl rfl rfl ?_
  | refine w_ld 3 hA ok rfl rfl rfl ?_
  | refine w_ld 4 hA ok rfl rfl rfl ?_
  | refine w_ld 5 hA ok rfl rfl rfl ?_
  | refine w_ld 6 hA ok rfl rfl rfl ?_
  | refine w_ld 7 hA ok rfl rfl rfl ?_
  | refine w_st 0 hA ok rfl rfl rfl rfl ?_
  | refine w_st 1 hA ok rfl rfl rfl rfl ?_
  | refine w_st 2 hA ok rfl rfl rfl rfl ?_
  | refine w_st 3 hA ok rfl rfl rfl rfl ?_
  | refine w_st 4 hA ok rfl rfl rfl rfl ?_
  | refine w_st 5 hA ok rfl rfl rfl rfl ?_
  | refine w_st 6 hA ok rfl rfl rfl rfl ?_
  | refine w_st 7 hA ok rfl rfl rfl rfl ?_
  | refine w_ldA 0 hA ok rfl rfl rfl ?_
  | refine w_ldA 1 hA ok rfl rfl rfl ?_
  | refine w_ldA 2 hA ok rfl rfl rfl ?_
  | refine w_ldA 3 hA ok rfl rfl rfl ?_
  | refine w_ldA 4 hA ok rfl rfl rfl ?_
  | refine w_ldA 5 hA ok rfl rfl rfl ?_
  | refine w_ldA 6 hA ok rfl rfl rfl ?_
  | refine w_ldA 7 hA ok rfl rfl rfl ?_
  | refine w_stA 0 hA ok rfl rfl rfl rfl ?_
  | refine w_stA 1 hA ok rfl rfl rfl rfl ?_
  | refine w_stA 2 hA ok rfl rfl rfl rfl ?_
  | refine w_stA 3 hA ok rfl rfl rfl rfl ?_
  | refine w_stA 4 hA ok rfl rfl rfl rfl ?_
  | refine w_stA 5 hA ok rfl rfl rfl rfl ?_
  | refine w_stA 6 hA ok rfl rfl rfl rfl ?_
  | refine w_stA 7 hA ok rfl rfl rfl rfl ?_
  | (refine w_Raw hA ?_; intro hA)
  | (refine w_SetRaw hA ?_; intro hA)
  | (refine w_SwapRaw hA ?_; intro hA)
  | (refine w_AddRaw hA ?_; intro hA)
  | (refine w_Load hA ?_; intro hA)
  | (refine w_Store hA ?_; intro hA)
  | (refine w_Retire hA ?_; intro hA)
  | (refine w_Died hA ?_; intro hA)
  | (refine w_Born hA ?_; intro hA)
  | refine w_State hA ?_
  | refine w_Uses hA ?_
  | refine w_Fault hA ?_
  | refine w_Words hA ?_
  | refine w_Count hA ?_
  | refine wq_Size ?_
  | refine wq_Open ?_
  | refine wq_Pack ?_
  | refine wq_head ?_
  | refine w_ck 0 hA ok rfl rfl rfl ?_
  | refine w_ck 1 hA ok rfl rfl rfl ?_
  | refine w_ck 2 hA ok rfl rfl rfl ?_
  | refine w_ck 3 hA ok rfl rfl rfl ?_
  | refine w_ck 4 hA ok rfl rfl rfl ?_
  | refine w_ck 5 hA ok rfl rfl rfl ?_
  | refine w_ck 6 hA ok rfl rfl rfl ?_
  | refine w_ck 7 hA ok rfl rfl rfl ?_
  | refine w_ckn rfl ?_
  | refine w_Base 0 1 hA ok rfl rfl ?_
  | refine w_Base 1 2 hA ok rfl rfl ?_
  | refine w_Base 2 3 hA ok rfl rfl ?_
  | refine w_Base 3 4 hA ok rfl rfl ?_
  | refine w_Base 4 5 hA ok rfl rfl ?_
  | refine w_Base 5 6 hA ok rfl rfl ?_
  | (refine w_PopStep 0 1 hA ok rfl rfl ?_; intro hA)
  | (refine w_PopStep 1 2 hA ok rfl rfl ?_; intro hA)
  | (refine w_PopStep 2 3 hA ok rfl rfl ?_; intro hA)
  | (refine w_PopStep 3 4 hA ok rfl rfl ?_; intro hA)
  | (refine w_PopStep 4 5 hA ok rfl rfl ?_; intro hA)
  | (refine w_PopStep 5 6 hA ok rfl rfl ?_; intro hA)
  | (refine w_PushStep 0 1 hA ok rfl rfl ?_; intro hA)
  | (refine w_PushStep 1 2 hA ok rfl rfl ?_; intro hA)
  | (refine w_PushStep 2 3 hA ok rfl rfl ?_; intro hA)
  | (refine w_PushStep 3 4 hA ok rfl rfl ?_; intro hA)
  | (refine w_PushStep 4 5 hA ok rfl rfl ?_; intro hA)
  | (refine w_PushStep 5 6 hA ok rfl rfl ?_; intro hA)
  | refine wp_true (by assumption) ?_
  | refine wp_false (by assumption) ?_)
      have e3 : w64 (m.word + 1) = m.word + 1 := w64_in (by omega) (by omega)
      rw [e3]
      have eb : (m.word1 A).bl j = (j.q, oc ty_hazard_Scan ((m.word1 A).cells j)) :: (j.mq, mapObj Value.bool (m.word1 A).seen) :: (fbl m.frees j.fj ++ (j.tls ++ (j.tfs ++ j.tds))) := Sc.bl_u (m := m.word1 A) j f2
      have ok1 : Ok I G (keys ((m.word1 A).bl j)) := by rw [eb]; exact ok
      have rp1 : (m.word1 A).rep j := ⟨rp.ls, rp.fs, rp.ds, rp.fl, rp.un⟩
      by_cases hw : m.word + 1 = 2 * m.tw
      · rw [if_pos hw]
        refine wp_true (ibeq hw) (own_conv eb ?_)
        refine wp_call_of (sort_spec (m.word1 A) j hA ok1 rp1 f2 f3 f4 ll) ?_
        rintro v K ⟨j', rfl, rfl, eq, ok, rp'⟩
        refine ⟨(), rfl, ?_⟩
        rw [← eq]
        repeat (first
  | refine wp_nil.2 ?_
  | refine w_ld 0 hA ok rfl rfl rfl ?_
  | refine w_ld 1 hA ok rfl rfl rfl ?_
  | refine w_ld 2 hA ok rfl rfl rfl ?_
  | refine w_ld 3 hA ok rfl rfl rfl ?_
  | refine w_ld 4 hA ok rfl rfl rfl ?_
  | refine w_ld 5 hA ok rfl rfl rfl ?_
  | refine w_ld 6 hA ok rfl rfl rfl ?_
  | refine w_ld 7 hA ok rfl rfl rfl ?_
  | refine w_st 0 hA ok rfl rfl rfl rfl ?_
  | refine w_st 1 hA ok rfl rfl rfl rfl ?_
  | refine w_st 2 hA ok rfl rfl rfl rfl ?_
  | refine w_st 3 hA ok rfl rfl rfl rfl ?_
  | refine w_st 4 hA ok rfl rfl rfl rfl ?_
  | refine w_st 5 hA ok rfl rfl rfl rfl ?_
  | refine w_st 6 hA ok rfl rfl rfl rfl ?_
  | refine w_st 7 hA ok rfl rfl rfl rfl ?_
  | refine w_ldA 0 hA ok rfl rfl rfl ?_
  | refine w_ldA 1 hA ok rfl rfl rfl ?_
  | refine w_ldA 2 hA ok rfl rfl rfl ?_
  | refine w_ldA 3 hA ok rfl rfl rfl ?_
  | refine w_ldA 4 hA ok rfl rfl rfl ?_
  | refine w_ldA 5 hA ok rfl rfl rfl ?_
  | refine w_ldA 6 hA ok rfl rfl rfl ?_
  | refine w_ldA 7 hA ok rfl rfl rfl ?_
  | refine w_stA 0 hA ok rfl rfl rfl rfl ?_
  | refine w_stA 1 hA ok rfl rfl rfl rfl ?_
  | refine w_stA 2 hA ok rfl rfl rfl rfl ?_
  | refine w_stA 3 hA ok rfl rfl rfl rfl ?_
  | refine w_stA 4 hA ok rfl rfl rfl rfl ?_
  | refine w_stA 5 hA ok rfl rfl rfl rfl ?_
  | refine w_stA 6 hA ok rfl rfl rfl rfl ?_
  | refine w_stA 7 hA ok rfl rfl rfl rfl ?_
  | (refine w_Raw hA ?_; intro hA)
  | (refine w_SetRaw hA ?_; intro hA)
  | (refine w_SwapRaw hA ?_; intro hA)
  | (refine w_AddRaw hA ?_; intro hA)
  | (refine w_Load hA ?_; intro hA)
  | (refine w_Store hA ?_; intro hA)
  | (refine w_Retire hA ?_; intro hA)
  | (refine w_Died hA ?_; intro hA)
  | (refine w_Born hA ?_; intro hA)
  | refine w_State hA ?_
  | refine w_Uses hA ?_
  | refine w_Fault hA ?_
  | refine w_Words hA ?_
  | refine w_Count hA ?_
  | refine wq_Size ?_
  | refine wq_Open ?_
  | refine wq_Pack ?_
  | refine wq_head ?_
  | refine w_ck 0 hA ok rfl rfl rfl ?_
  | refine w_ck 1 hA ok rfl rfl rfl ?_
  | refine w_ck 2 hA ok rfl rfl rfl ?_
  | refine w_ck 3 hA ok rfl rfl rfl ?_
  | refine w_ck 4 hA ok rfl rfl rfl ?_
  | refine w_ck 5 hA ok rfl rfl rfl ?_
  | refine w_ck 6 hA ok rfl rfl rfl ?_
  | refine w_ck 7 hA ok rfl rfl rfl ?_
  | refine w_ckn rfl ?_
  | refine w_Base 0 1 hA ok rfl rfl ?_
  | refine w_Base 1 2 hA ok rfl rfl ?_
  | refine w_Base 2 3 hA ok rfl rfl ?_
  | refine w_Base 3 4 hA ok rfl rfl ?_
  | refine w_Base 4 5 hA ok rfl rfl ?_
  | refine w_Base 5 6 hA ok rfl rfl ?_
  | (refine w_PopStep 0 1 hA ok rfl rfl ?_; intro hA)
  | (refine w_PopStep 1 2 hA ok rfl rfl ?_; intro hA)
  | (refine w_PopStep 2 3 hA ok rfl rfl ?_; intro hA)
  | (refine w_PopStep 3 4 hA ok rfl rfl ?_; intro hA)
  | (refine w_PopStep 4 5 hA ok rfl rfl ?_; intro hA)
  | (refine w_PopStep 5 6 hA ok rfl rfl ?_; intro hA)
  | (refine w_PushStep 0 1 hA ok rfl rfl ?_; intro hA)
  | (refine w_PushStep 1 2 hA ok rfl rfl ?_; intro hA)
  | (refine w_PushStep 2 3 hA ok rfl rfl ?_; intro hA)
  | (refine w_PushStep 3 4 hA ok rfl rfl ?_; intro hA)
  | (refine w_PushStep 4 5 hA ok rfl rfl ?_; intro hA)
  | (refine w_PushStep 5 6 hA ok rfl rfl ?_; intro hA)
  | refine wp_true (by assumption) ?_
  | refine wp_false (by assumption) ?_)
        exact wp_ret_of ⟨j', rfl, rfl, rfl, ok, rp', hA⟩
      · rw [if_neg hw]
        refine wp_false (ibef hw) ?_
        repeat (first
  | refine wp_nil.2 ?_
  | refine w_ld 0 hA ok rfl rfl rfl ?_
  | refine w_ld 1 hA ok rfl rfl rfl ?_
  | refine w_ld 2 hA ok rfl rfl rfl ?_
  | refine w_ld 3 hA ok rfl rfl rfl ?_
  | refine w_ld 4 hA ok rfl rfl rfl ?_
  | refine w_ld 5 hA ok rfl rfl rfl ?_
  | refine w_ld 6 hA ok rfl rfl rfl ?_
  | refine w_ld 7 hA ok rfl rfl rfl ?_
  | refine w_st 0 hA ok rfl rfl rfl rfl ?_
  | refine w_st 1 hA ok rfl rfl rfl rfl ?_
  | refine w_st 2 hA ok rfl rfl rfl rfl ?_
  | refine w_st 3 hA ok rfl rfl rfl rfl ?_
  | refine w_st 4 hA ok rfl rfl rfl rfl ?_
  | refine w_st 5 hA ok rfl rfl rfl rfl ?_
  | refine w_st 6 hA ok rfl rfl rfl rfl ?_
  | refine w_st 7 hA ok rfl rfl rfl rfl ?_
  | refine w_ldA 0 hA ok rfl rfl rfl ?_
  | refine w_ldA 1 hA ok rfl rfl rfl ?_
  | refine w_ldA 2 hA ok rfl rfl rfl ?_
  | refine w_ldA 3 hA ok rfl rfl rfl ?_
  | refine w_ldA 4 hA ok rfl rfl rfl ?_
  | refine w_ldA 5 hA ok rfl rfl rfl ?_
  | refine w_ldA 6 hA ok rfl rfl rfl ?_
  | refine w_ldA 7 hA ok rfl rfl rfl ?_
  | refine w_stA 0 hA ok rfl rfl rfl rfl ?_
  | refine w_stA 1 hA ok rfl rfl rfl rfl ?_
  | refine w_stA 2 hA ok rfl rfl rfl rfl ?_
  | refine w_stA 3 hA ok rfl rfl rfl rfl ?_
  | refine w_stA 4 hA ok rfl rfl rfl rfl ?_
  | refine w_stA 5 hA ok rfl rfl rfl rfl ?_
  | refine w_stA 6 hA ok rfl rfl rfl rfl ?_
  | refine w_stA 7 hA ok rfl rfl rfl rfl ?_
  | (refine w_Raw hA ?_; intro hA)
  | (refine w_SetRaw hA ?_; intro hA)
  | (refine w_SwapRaw hA ?_; intro hA)
  | (refine w_AddRaw hA ?_; intro hA)
  | (refine w_Load hA ?_; intro hA)
  | (refine w_Store hA ?_; intro hA)
  | (refine w_Retire hA ?_; intro hA)
  | (refine w_Died hA ?_; intro hA)
  | (refine w_Born hA ?_; intro hA)
  | refine w_State hA ?_
  | refine w_Uses hA ?_
  | refine w_Fault hA ?_
  | refine w_Words hA ?_
  | refine w_Count hA ?_
  | refine wq_Size ?_
  | refine wq_Open ?_
  | refine wq_Pack ?_
  | refine wq_head ?_
  | refine w_ck 0 hA ok rfl rfl rfl ?_
  | refine w_ck 1 hA ok rfl rfl rfl ?_
  | refine w_ck 2 hA ok rfl rfl rfl ?_
  | refine w_ck 3 hA ok rfl rfl rfl ?_
  | refine w_ck 4 hA ok rfl rfl rfl ?_
  | refine w_ck 5 hA ok rfl rfl rfl ?_
  | refine w_ck 6 hA ok rfl rfl rfl ?_
  | refine w_ck 7 hA ok rfl rfl rfl ?_
  | refine w_ckn rfl ?_
  | refine w_Base 0 1 hA ok rfl rfl ?_
  | refine w_Base 1 2 hA ok rfl rfl ?_
  | refine w_Base 2 3 hA ok rfl rfl ?_
  | refine w_Base 3 4 hA ok rfl rfl ?_
  | refine w_Base 4 5 hA ok rfl rfl ?_
  | refine w_Base 5 6 hA ok rfl rfl ?_
  | (refine w_PopStep 0 1 hA ok rfl rfl ?_; intro hA)
  | (refine w_PopStep 1 2 hA ok rfl rfl ?_; intro hA)
  | (refine w_PopStep 2 3 hA ok rfl rfl ?_; intro hA)
  | (refine w_PopStep 3 4 hA ok rfl rfl ?_; intro hA)
  | (refine w_PopStep 4 5 hA ok rfl rfl ?_; intro hA)
  | (refine w_PopStep 5 6 hA ok rfl rfl ?_; intro hA)
  | (refine w_PushStep 0 1 hA ok rfl rfl ?_; intro hA)
  | (refine w_PushStep 1 2 hA ok rfl rfl ?_; intro hA)
  | (refine w_PushStep 2 3 hA ok rfl rfl ?_; intro hA)
  | (refine w_PushStep 3 4 hA ok rfl rfl ?_; intro hA)
  | (refine w_PushStep 4 5 hA ok rfl rfl ?_; intro hA)
  | (refine w_PushStep 5 6 hA ok rfl rfl ?_; intro hA)
  | refine wp_true (by assumption) ?_
  | refine wp_false (by assumption) ?_)
        refine own_conv eb ?_
        refine wp_ret_of ⟨j, ?_, rfl, rfl, ok1, rp1, hA⟩
        first | rfl | (rw [show (m.word1 A).ended = m.ended from rfl, he])
    · rw [if_neg (by omega)]
      refine wp_false (decide_eq_false (by show ¬ m.word < 2 * m.tw; omega)) (wp_false (ibef (by omega)) ?_)
      obtain ⟨f, fs, efs⟩ : ∃ f fs, m.frees = f :: fs := by
        cases h : m.frees with
        | nil => exact (f3 h).elim
        | cons f fs => exact ⟨f, fs, rfl⟩
      obtain ⟨jf, js, ejs⟩ : ∃ jf js, j.fj = jf :: js := by
        have := rp.fl
        cases h : j.fj with
        | nil => rw [efs, h] at this; cases this
        | cons f fs => exact ⟨f, fs, rfl⟩
      have rfs := rp.fs
      rw [ejs] at rfs
      have hl0 : (0 : Int) < (j.fs.len : Int) := by have := rfs.len; simp at this; omega
      rw [efs]
      dsimp only
      have sb := Sc.bl_s j f2
      rw [efs, ejs] at sb
      simp only [fbl] at sb
      rw [sb] at ok ⊢
      repeat (first
  | refine wp_nil.2 ?_
  | refine w_ld 0 hA ok rfl rfl rfl ?_
  | refine w_ld 1 hA ok rfl rfl rfl ?_
  | refine w_ld 2 hA ok rfl rfl rfl ?_
  | refine w_ld 3 hA ok rfl rfl rfl ?_
  | refine w_ld 4 hA ok rfl rfl rfl ?_
  | refine w_ld 5 hA ok rfl rfl rfl ?_
  | refine w_ld 6 hA ok rfl rfl rfl ?_
  | refine w_ld 7 hA ok rfl rfl rfl ?_
  | refine w_st 0 hA ok rfl rfl rfl rfl ?_
  | refine w_st 1 hA ok rfl rfl rfl rfl ?_
  | refine w_st 2 hA ok rfl rfl rfl rfl ?_
  | refine w_st 3 hA ok rfl rfl rfl rfl ?_
  | refine w_st 4 hA ok rfl rfl rfl rfl ?_
  | refine w_st 5 hA ok rfl rfl rfl rfl ?_
  | refine w_st 6 hA ok rfl rfl rfl rfl ?_
  | refine w_st 7 hA ok rfl rfl rfl rfl ?_
  | refine w_ldA 0 hA ok rfl rfl rfl ?_
  | refine w_ldA 1 hA ok rfl rfl rfl ?_
  | refine w_ldA 2 hA ok rfl rfl rfl ?_
  | refine w_ldA 3 hA ok rfl rfl rfl ?_
  | refine w_ldA 4 hA ok rfl rfl rfl ?_
  | refine w_ldA 5 hA ok rfl rfl rfl ?_
  | refine w_ldA 6 hA ok rfl rfl rfl ?_
  | refine w_ldA 7 hA ok rfl rfl rfl ?_
  | refine w_stA 0 hA ok rfl rfl rfl rfl ?_
  | refine w_stA 1 hA ok rfl rfl rfl rfl ?_
  | refine w_stA 2 hA ok rfl rfl rfl rfl ?_
  | refine w_stA 3 hA ok rfl rfl rfl rfl ?_
  | refine w_stA 4 hA ok rfl rfl rfl rfl ?_
  | refine w_stA 5 hA ok rfl rfl rfl rfl ?_
  | refine w_stA 6 hA ok rfl rfl rfl rfl ?_
  | refine w_stA 7 hA ok rfl rfl rfl rfl ?_
  | (refine w_Raw hA ?_; intro hA)
  | (refine w_SetRaw hA ?_; intro hA)
  | (refine w_SwapRaw hA ?_; intro hA)
  | (refine w_AddRaw hA ?_; intro hA)
  | (refine w_Load hA ?_; intro hA)
  | (refine w_Store hA ?_; intro hA)
  | (refine w_Retire hA ?_; intro hA)
  | (refine w_Died hA ?_; intro hA)
  | (refine w_Born hA ?_; intro hA)
  | refine w_State hA ?_
  | refine w_Uses hA ?_
  | refine w_Fault hA ?_
  | refine w_Words hA ?_
  | refine w_Count hA ?_
  | refine wq_Size ?_
  | refine wq_Open ?_
  | refine wq_Pack ?_
  | refine wq_head ?_
  | refine w_ck 0 hA ok rfl rfl rfl ?_
  | refine w_ck 1 hA ok rfl rfl rfl ?_
  | refine w_ck 2 hA ok rfl rfl rfl ?_
  | refine w_ck 3 hA ok rfl rfl rfl ?_
  | refine w_ck 4 hA ok rfl rfl rfl ?_
  | refine w_ck 5 hA ok rfl rfl rfl ?_
  | refine w_ck 6 hA ok rfl rfl rfl ?_
  | refine w_ck 7 hA ok rfl rfl rfl ?_
  | refine w_ckn rfl ?_
  | refine w_Base 0 1 hA ok rfl rfl ?_
  | refine w_Base 1 2 hA ok rfl rfl ?_
  | refine w_Base 2 3 hA ok rfl rfl ?_
  | refine w_Base 3 4 hA ok rfl rfl ?_
  | refine w_Base 4 5 hA ok rfl rfl ?_
  | refine w_Base 5 6 hA ok rfl rfl ?_
  | (refine w_PopStep 0 1 hA ok rfl rfl ?_; intro hA)
  | (refine w_PopStep 1 2 hA ok rfl rfl ?_; intro hA)
  | (refine w_PopStep 2 3 hA ok rfl rfl ?_; intro hA)
  | (refine w_PopStep 3 4 hA ok rfl rfl ?_; intro hA)
  | (refine w_PopStep 4 5 hA ok rfl rfl ?_; intro hA)
  | (refine w_PopStep 5 6 hA ok rfl rfl ?_; intro hA)
  | (refine w_PushStep 0 1 hA ok rfl rfl ?_; intro hA)
  | (refine w_PushStep 1 2 hA ok rfl rfl ?_; intro hA)
  | (refine w_PushStep 2 3 hA ok rfl rfl ?_; intro hA)
  | (refine w_PushStep 3 4 hA ok rfl rfl ?_; intro hA)
  | (refine w_PushStep 4 5 hA ok rfl rfl ?_; intro hA)
  | (refine w_PushStep 5 6 hA ok rfl rfl ?_; intro hA)
  | refine wp_true (by assumption) ?_
  | refine wp_false (by assumption) ?_)
      refine rdP0 hA ok (rfs.mono fun p hp => List.mem_cons_of_mem _ (List.mem_append_right _ (List.mem_append_right _ (List.mem_append_left _ hp)))) ?_
      obtain ⟨p1, ok2⟩ := own_perm (A := A) (l' := f.bl jf ++ ((j.q, oc ty_hazard_Scan (m.cells j)) :: (fbl fs js ++ (j.tls ++ (j.tfs ++ j.tds))))) ok (perm_by fun c d c0 cd ca => by simp only [cd, ca, c0]; omega)
      rw [p1]
      have ok3 : Ok I G (keys (f.bl jf) ++ keys ((j.q, oc ty_hazard_Scan (m.cells j)) :: (fbl fs js ++ (j.tls ++ (j.tfs ++ j.tds))))) := by rw [← keys_append]; exact ok2
      obtain ⟨o1, o2⟩ := ok3.split
      refine w_sub (mFe_ok I A _ f jf hA o1 trivial) ?_
      rintro v K ⟨jf', rfl, rfl, ej, o3, hA'⟩
      refine ⟨(f.step A).1.done, rfl, ?_⟩
      have hA := hA'
      show wp Try.prog _ L (own (f.step A).2 ((f.step A).1.bl jf') (putL _ G)) _
      rw [← own_append]
      have o4 : Ok I G (keys ((f.step A).1.bl jf' ++ ((j.q, oc ty_hazard_Scan (m.cells j)) :: (fbl fs js ++ (j.tls ++ (j.tfs ++ j.tds)))))) := by rw [keys_append]; exact o3.join o2
      obtain ⟨p2, ok5⟩ := own_perm (A := (f.step A).2) (l' := (j.q, oc ty_hazard_Scan (m.cells j)) :: (((f.step A).1.bl jf' ++ fbl fs js) ++ (j.tls ++ (j.tfs ++ j.tds)))) o4 (perm_by fun c d c0 cd ca => by simp only [cd, ca, c0]; omega)
      have ok := ok5
      have p3 : own (f.step A).2 (Fe.bl (f.step A).1 jf' ++ ((j.q, oc ty_hazard_Scan (m.cells j)) :: (fbl fs js ++ (j.tls ++ (j.tfs ++ j.tds))))) G = _ := p2
      rw [p3]
      by_cases hd : (f.step A).1.done = true
      · rw [if_pos hd]
        refine wp_true hd ?_
        repeat (first
  | refine wp_nil.2 ?_
  | refine w_ld 0 hA ok rfl rfl rfl ?_
  | refine w_ld 1 hA ok rfl rfl rfl ?_
  | refine w_ld 2 hA ok rfl rfl rfl ?_
  | refine w_ld 3 hA ok rfl rfl rfl ?_
  | refine w_ld 4 hA ok rfl rfl rfl ?_
  | refine w_ld 5 hA ok rfl rfl rfl ?_
  | refine w_ld 6 hA ok rfl rfl rfl ?_
  | refine w_ld 7 hA ok rfl rfl rfl ?_
  | refine w_st 0 hA ok rfl rfl rfl rfl ?_
  | refine w_st 1 hA ok rfl rfl rfl rfl ?_
  | refine w_st 2 hA ok rfl rfl rfl rfl ?_
  | refine w_st 3 hA ok rfl rfl rfl rfl ?_
  | refine w_st 4 hA ok rfl rfl rfl rfl ?_
  | refine w_st 5 hA ok rfl rfl rfl rfl ?_
  | refine w_st 6 hA ok rfl rfl rfl rfl ?_
  | refine w_st 7 hA ok rfl rfl rfl rfl ?_
  | refine w_ldA 0 hA ok rfl rfl rfl ?_
  | refine w_ldA 1 hA ok rfl rfl rfl ?_
  | refine w_ldA 2 hA ok rfl rfl rfl ?_
  | refine w_ldA 3 hA ok rfl rfl rfl ?_
  | refine w_ldA 4 hA ok rfl rfl rfl ?_
  | refine w_ldA 5 hA ok rfl rfl rfl ?_
  | refine w_ldA 6 hA ok rfl rfl rfl ?_
  | refine w_ldA 7 hA ok rfl rfl rfl ?_
  | refine w_stA 0 hA ok rfl rfl rfl rfl ?_
  | refine w_stA 1 hA ok rfl rfl rfl rfl ?_
  | refine w_stA 2 hA ok rfl rfl rfl rfl ?_
  | refine w_stA 3 hA ok rfl rfl rfl rfl ?_
  | refine w_stA 4 hA ok rfl rfl rfl rfl ?_
  | refine w_stA 5 hA ok rfl rfl rfl rfl ?_
  | refine w_stA 6 hA ok rfl rfl rfl rfl ?_
  | refine w_stA 7 hA ok rfl rfl rfl rfl ?_
  | (refine w_Raw hA ?_; intro hA)
  | (refine w_SetRaw hA ?_; intro hA)
  | (refine w_SwapRaw hA ?_; intro hA)
  | (refine w_AddRaw hA ?_; intro hA)
  | (refine w_Load hA ?_; intro hA)
  | (refine w_Store hA ?_; intro hA)
  | (refine w_Retire hA ?_; intro hA)
  | (refine w_Died hA ?_; intro hA)
  | (refine w_Born hA ?_; intro hA)
  | refine w_State hA ?_
  | refine w_Uses hA ?_
  | refine w_Fault hA ?_
  | refine w_Words hA ?_
  | refine w_Count hA ?_
  | refine wq_Size ?_
  | refine wq_Open ?_
  | refine wq_Pack ?_
  | refine wq_head ?_
  | refine w_ck 0 hA ok rfl rfl rfl ?_
  | refine w_ck 1 hA ok rfl rfl rfl ?_
  | refine w_ck 2 hA ok rfl rfl rfl ?_
  | refine w_ck 3 hA ok rfl rfl rfl ?_
  | refine w_ck 4 hA ok rfl rfl rfl ?_
  | refine w_ck 5 hA ok rfl rfl rfl ?_
  | refine w_ck 6 hA ok rfl rfl rfl ?_
  | refine w_ck 7 hA ok rfl rfl rfl ?_
  | refine w_ckn rfl ?_
  | refine w_Base 0 1 hA ok rfl rfl ?_
  | refine w_Base 1 2 hA ok rfl rfl ?_
  | refine w_Base 2 3 hA ok rfl rfl ?_
  | refine w_Base 3 4 hA ok rfl rfl ?_
  | refine w_Base 4 5 hA ok rfl rfl ?_
  | refine w_Base 5 6 hA ok rfl rfl ?_
  | (refine w_PopStep 0 1 hA ok rfl rfl ?_; intro hA)
  | (refine w_PopStep 1 2 hA ok rfl rfl ?_; intro hA)
  | (refine w_PopStep 2 3 hA ok rfl rfl ?_; intro hA)
  | (refine w_PopStep 3 4 hA ok rfl rfl ?_; intro hA)
  | (refine w_PopStep 4 5 hA ok rfl rfl ?_; intro hA)
  | (refine w_PopStep 5 6 hA ok rfl rfl ?_; intro hA)
  | (refine w_PushStep 0 1 hA ok rfl rfl ?_; intro hA)
  | (refine w_PushStep 1 2 hA ok rfl rfl ?_; intro hA)
  | (refine w_PushStep 2 3 hA ok rfl rfl ?_; intro hA)
  | (refine w_PushStep 3 4 hA ok rfl rfl ?_; intro hA)
  | (refine w_PushStep 4 5 hA ok rfl rfl ?_; intro hA)
  | (refine w_PushStep 5 6 hA ok rfl rfl ?_; intro hA)
  | refine wp_true (by assumption) ?_
  | refine wp_false (by assumption) ?_)
        obtain ⟨tl1, tl2⟩ := rfs.tail
        rw [opS_lo1]
        refine look_val (x := loSl j.fs 1) (opS_sliceLo (e := ty_p_slab_Free) rfl rfl rfl (by omega) tl2) ?_
        repeat (first
  | refine wp_nil.2 ?_
  | refine w_ld 0 hA ok rfl rfl rfl ?_
  | refine w_ld 1 hA ok rfl rfl rfl ?_
  | refine w_ld 2 hA ok rfl rfl rfl ?_
  | refine w_ld 3 hA ok rfl rfl rfl ?_
  | refine w_ld 4 hA ok rfl rfl rfl ?_
  | refine w_ld 5 hA ok rfl rfl rfl ?_
  | refine w_ld 6 hA ok rfl rfl rfl ?_
  | refine w_ld 7 hA ok rfl rfl rfl ?_
  | refine w_st 0 hA ok rfl rfl rfl rfl ?_
  | refine w_st 1 hA ok rfl rfl rfl rfl ?_
  | refine w_st 2 hA ok rfl rfl rfl rfl ?_
  | refine w_st 3 hA ok rfl rfl rfl rfl ?_
  | refine w_st 4 hA ok rfl rfl rfl rfl ?_
  | refine w_st 5 hA ok rfl rfl rfl rfl ?_
  | refine w_st 6 hA ok rfl rfl rfl rfl ?_
  | refine w_st 7 hA ok rfl rfl rfl rfl ?_
  | refine w_ldA 0 hA ok rfl rfl rfl ?_
  | refine w_ldA 1 hA ok rfl rfl rfl ?_
  | refine w_ldA 2 hA ok rfl rfl rfl ?_
  | refine w_ldA 3 hA ok rfl rfl rfl ?_
  | refine w_ldA 4 hA ok rfl rfl rfl ?_
  | refine w_ldA 5 hA ok rfl rfl rfl ?_
  | refine w_ldA 6 hA ok rfl rfl rfl ?_
  | refine w_ldA 7 hA ok rfl rfl rfl ?_
  | refine w_stA 0 hA ok rfl rfl rfl rfl ?_
  | refine w_stA 1 hA ok rfl rfl rfl rfl ?_
  | refine w_stA 2 hA ok rfl rfl rfl rfl ?_
  | refine w_stA 3 hA ok rfl rfl rfl rfl ?_
  | refine w_stA 4 hA ok rfl rfl rfl rfl ?_
  | refine w_stA 5 hA ok rfl rfl rfl rfl ?_
  | refine w_stA 6 hA ok rfl rfl rfl rfl ?_
  | refine w_stA 7 hA ok rfl rfl rfl rfl ?_
  | (refine w_Raw hA ?_; intro hA)
  | (refine w_SetRaw hA ?_; intro hA)
  | (refine w_SwapRaw hA ?_; intro hA)
  | (refine w_AddRaw hA ?_; intro hA)
  | (refine w_Load hA ?_; intro hA)
  | (refine w_Store hA ?_; intro hA)
  | (refine w_Retire hA ?_; intro hA)
  | (refine w_Died hA ?_; intro hA)
  | (refine w_Born hA ?_; intro hA)
  | refine w_State hA ?_
  | refine w_Uses hA ?_
  | refine w_Fault hA ?_
  | refine w_Words hA ?_
  | refine w_Count hA ?_
  | refine wq_Size ?_
  | refine wq_Open ?_
  | refine wq_Pack ?_
  | refine wq_head ?_
  | refine w_ck 0 hA ok rfl rfl rfl ?_
  | refine w_ck 1 hA ok rfl rfl rfl ?_
  | refine w_ck 2 hA ok rfl rfl rfl ?_
  | refine w_ck 3 hA ok rfl rfl rfl ?_
  | refine w_ck 4 hA ok rfl rfl rfl ?_
  | refine w_ck 5 hA ok rfl rfl rfl ?_
  | refine w_ck 6 hA ok rfl rfl rfl ?_
  | refine w_ck 7 hA ok rfl rfl rfl ?_
  | refine w_ckn rfl ?_
  | refine w_Base 0 1 hA ok rfl rfl ?_
  | refine w_Base 1 2 hA ok rfl rfl ?_
  | refine w_Base 2 3 hA ok rfl rfl ?_
  | refine w_Base 3 4 hA ok rfl rfl ?_
  | refine w_Base 4 5 hA ok rfl rfl ?_
  | refine w_Base 5 6 hA ok rfl rfl ?_
  | (refine w_PopStep 0 1 hA ok rfl rfl ?_; intro hA)
  | (refine w_PopStep 1 2 hA ok rfl rfl ?_; intro hA)
  | (refine w_PopStep 2 3 hA ok rfl rfl ?_; intro hA)
  | (refine w_PopStep 3 4 hA ok rfl rfl ?_; intro hA)
  | (refine w_PopStep 4 5 hA ok rfl rfl ?_; intro hA)
  | (refine w_PopStep 5 6 hA ok rfl rfl ?_; intro hA)
  | (refine w_PushStep 0 1 hA ok rfl rfl ?_; intro hA)
  | (refine w_PushStep 1 2 hA ok rfl rfl ?_; intro hA)
  | (refine w_PushStep 2 3 hA ok rfl rfl ?_; intro hA)
  | (refine w_PushStep 3 4 hA ok rfl rfl ?_; intro hA)
  | (refine w_PushStep 4 5 hA ok rfl rfl ?_; intro hA)
  | (refine w_PushStep 5 6 hA ok rfl rfl ?_; intro hA)
  | refine wp_true (by assumption) ?_
  | refine wp_false (by assumption) ?_)
        have hle := tl1.len
        rw [List.length_map] at hle
        have hfl : fs.length = js.length := by have := rp.fl; rw [efs, ejs] at this; simpa using this
        have hE : scC m.tw m.ta m.pl m.work m.word j.ls j.mq (loSl j.fs 1) j.ds ((((loSl j.fs 1).len : Nat) : Int) == 0) = ({ m with frees := fs, ended := decide (fs = []) } : Sc).cells { j with fs := loSl j.fs 1, fj := js } := by
          show _ = scC m.tw m.ta m.pl m.work m.word j.ls j.mq (loSl j.fs 1) j.ds (decide (fs = []))
          congr 1
          rw [hle, ← hfl]
          cases fs <;> simp
          omega
        have hb : ({ m with frees := fs, ended := decide (fs = []) } : Sc).bl { j with fs := loSl j.fs 1, fj := js } = (j.q, oc ty_hazard_Scan (scC m.tw m.ta m.pl m.work m.word j.ls j.mq (loSl j.fs 1) j.ds ((((loSl j.fs 1).len : Nat) : Int) == 0))) :: (fbl fs js ++ (j.tls ++ (j.tfs ++ j.tds))) := by
          rw [hE]; exact Sc.bl_s (m := { m with frees := fs, ended := decide (fs = []) }) { j with fs := loSl j.fs 1, fj := js } f2
        have ok3 : Ok I G (keys ((j.q, oc ty_hazard_Scan (scC m.tw m.ta m.pl m.work m.word j.ls j.mq (loSl j.fs 1) j.ds ((((loSl j.fs 1).len : Nat) : Int) == 0))) :: (((f.step A).1.bl jf' ++ fbl fs js) ++ (j.tls ++ (j.tfs ++ j.tds))))) := ok
        have sl : ((j.q, oc ty_hazard_Scan (scC m.tw m.ta m.pl m.work m.word j.ls j.mq (loSl j.fs 1) j.ds ((((loSl j.fs 1).len : Nat) : Int) == 0))) :: (fbl fs js ++ (j.tls ++ (j.tfs ++ j.tds)))).Sublist ((j.q, oc ty_hazard_Scan (scC m.tw m.ta m.pl m.work m.word j.ls j.mq (loSl j.fs 1) j.ds ((((loSl j.fs 1).len : Nat) : Int) == 0))) :: (((f.step A).1.bl jf' ++ fbl fs js) ++ (j.tls ++ (j.tfs ++ j.tds)))) := by
          refine .cons_cons _ (List.Sublist.append ?_ (List.Sublist.refl _))
          exact List.sublist_append_right _ _
        have ok4 : Ok I G (keys ((j.q, oc ty_hazard_Scan (scC m.tw m.ta m.pl m.work m.word j.ls j.mq (loSl j.fs 1) j.ds ((((loSl j.fs 1).len : Nat) : Int) == 0))) :: (fbl fs js ++ (j.tls ++ (j.tfs ++ j.tds))))) :=
          ok3.sub ((sl.map Prod.fst).nodup ok3.nd) fun b hb => (sl.map Prod.fst).subset hb
        have key : ∀ (L : Hands) (v : Value), v = .bool (decide (fs = [])) → wp Try.prog (.ret v) L (own (f.step A).2 ((j.q, oc ty_hazard_Scan (scC m.tw m.ta m.pl m.work m.word j.ls j.mq (loSl j.fs 1) j.ds ((((loSl j.fs 1).len : Nat) : Int) == 0))) :: (((f.step A).1.bl jf' ++ fbl fs js) ++ (j.tls ++ (j.tfs ++ j.tds)))) G) fun v K => ∃ j' : ScJ, v = .bool (decide (fs = [])) ∧ K = own (f.step A).2 (({ m with frees := fs, ended := decide (fs = []) } : Sc).bl j') G ∧ j'.q = j.q ∧ Ok I G (keys (({ m with frees := fs, ended := decide (fs = []) } : Sc).bl j')) ∧ ({ m with frees := fs, ended := decide (fs = []) } : Sc).rep j' ∧ Aw I (f.step A).2 := by
          rintro L v rfl
          refine ⟨own (f.step A).2 (({ m with frees := fs, ended := decide (fs = []) } : Sc).bl { j with fs := loSl j.fs 1, fj := js }) G, ?_, { j with fs := loSl j.fs 1, fj := js }, rfl, rfl, rfl, by rw [hb]; exact ok4, ⟨rp.ls, tl1, rp.ds, hfl, fun h => ?_⟩, hA⟩
          · rw [hb]; exact own_sub ok3 ok4.nd fun p hp => sl.subset hp
          · rw [show ({ m with frees := fs, ended := decide (fs = []) } : Sc).sorted = m.sorted from rfl, f2] at h; cases h
        refine key _ _ ?_
        show Value.bool ((((loSl j.fs 1).len : Nat) : Int) == 0) = _
        rw [hle, ← hfl]
        cases fs <;> simp
        omega
      · rw [if_neg hd]
        refine wp_false (by simpa using hd) ?_
        repeat (first
  | refine wp_nil.2 ?_
  | refine w_ld 0 hA ok rfl rfl rfl ?_
  | refine w_ld 1 hA ok rfl rfl rfl ?_
  | refine w_ld 2 hA ok rfl rfl rfl ?_
  | refine w_ld 3 hA ok rfl rfl rfl ?_
  | refine w_ld 4 hA ok rfl rfl rfl ?_
  | refine w_ld 5 hA ok rfl rfl rfl ?_
  | refine w_ld 6 hA ok rfl rfl rfl ?_
  | refine w_ld 7 hA ok rfl rfl rfl ?_
  | refine w_st 0 hA ok rfl rfl rfl rfl ?_
  | refine w_st 1 hA ok rfl rfl rfl rfl ?_
  | refine w_st 2 hA ok rfl rfl rfl rfl ?_
  | refine w_st 3 hA ok rfl rfl rfl rfl ?_
  | refine w_st 4 hA ok rfl rfl rfl rfl ?_
  | refine w_st 5 hA ok rfl rfl rfl rfl ?_
  | refine w_st 6 hA ok rfl rfl rfl rfl ?_
  | refine w_st 7 hA ok rfl rfl rfl rfl ?_
  | refine w_ldA 0 hA ok rfl rfl rfl ?_
  | refine w_ldA 1 hA ok rfl rfl rfl ?_
  | refine w_ldA 2 hA ok rfl rfl rfl ?_
  | refine w_ldA 3 hA ok rfl rfl rfl ?_
  | refine w_ldA 4 hA ok rfl rfl rfl ?_
  | refine w_ldA 5 hA ok rfl rfl rfl ?_
  | refine w_ldA 6 hA ok rfl rfl rfl ?_
  | refine w_ldA 7 hA ok rfl rfl rfl ?_
  | refine w_stA 0 hA ok rfl rfl rfl rfl ?_
  | refine w_stA 1 hA ok rfl rfl rfl rfl ?_
  | refine w_stA 2 hA ok rfl rfl rfl rfl ?_
  | refine w_stA 3 hA ok rfl rfl rfl rfl ?_
  | refine w_stA 4 hA ok rfl rfl rfl rfl ?_
  | refine w_stA 5 hA ok rfl rfl rfl rfl ?_
  | refine w_stA 6 hA ok rfl rfl rfl rfl ?_
  | refine w_stA 7 hA ok rfl rfl rfl rfl ?_
  | (refine w_Raw hA ?_; intro hA)
  | (refine w_SetRaw hA ?_; intro hA)
  | (refine w_SwapRaw hA ?_; intro hA)
  | (refine w_AddRaw hA ?_; intro hA)
  | (refine w_Load hA ?_; intro hA)
  | (refine w_Store hA ?_; intro hA)
  | (refine w_Retire hA ?_; intro hA)
  | (refine w_Died hA ?_; intro hA)
  | (refine w_Born hA ?_; intro hA)
  | refine w_State hA ?_
  | refine w_Uses hA ?_
  | refine w_Fault hA ?_
  | refine w_Words hA ?_
  | refine w_Count hA ?_
  | refine wq_Size ?_
  | refine wq_Open ?_
  | refine wq_Pack ?_
  | refine wq_head ?_
  | refine w_ck 0 hA ok rfl rfl rfl ?_
  | refine w_ck 1 hA ok rfl rfl rfl ?_
  | refine w_ck 2 hA ok rfl rfl rfl ?_
  | refine w_ck 3 hA ok rfl rfl rfl ?_
  | refine w_ck 4 hA ok rfl rfl rfl ?_
  | refine w_ck 5 hA ok rfl rfl rfl ?_
  | refine w_ck 6 hA ok rfl rfl rfl ?_
  | refine w_ck 7 hA ok rfl rfl rfl ?_
  | refine w_ckn rfl ?_
  | refine w_Base 0 1 hA ok rfl rfl ?_
  | refine w_Base 1 2 hA ok rfl rfl ?_
  | refine w_Base 2 3 hA ok rfl rfl ?_
  | refine w_Base 3 4 hA ok rfl rfl ?_
  | refine w_Base 4 5 hA ok rfl rfl ?_
  | refine w_Base 5 6 hA ok rfl rfl ?_
  | (refine w_PopStep 0 1 hA ok rfl rfl ?_; intro hA)
  | (refine w_PopStep 1 2 hA ok rfl rfl ?_; intro hA)
  | (refine w_PopStep 2 3 hA ok rfl rfl ?_; intro hA)
  | (refine w_PopStep 3 4 hA ok rfl rfl ?_; intro hA)
  | (refine w_PopStep 4 5 hA ok rfl rfl ?_; intro hA)
  | (refine w_PopStep 5 6 hA ok rfl rfl ?_; intro hA)
  | (refine w_PushStep 0 1 hA ok rfl rfl ?_; intro hA)
  | (refine w_PushStep 1 2 hA ok rfl rfl ?_; intro hA)
  | (refine w_PushStep 2 3 hA ok rfl rfl ?_; intro hA)
  | (refine w_PushStep 3 4 hA ok rfl rfl ?_; intro hA)
  | (refine w_PushStep 4 5 hA ok rfl rfl ?_; intro hA)
  | (refine w_PushStep 5 6 hA ok rfl rfl ?_; intro hA)
  | refine wp_true (by assumption) ?_
  | refine wp_false (by assumption) ?_)
        have hb : ({ m with frees := (f.step A).1 :: fs } : Sc).bl { j with fj := jf' :: js } = (j.q, oc ty_hazard_Scan (m.cells j)) :: (((f.step A).1.bl jf' ++ fbl fs js) ++ (j.tls ++ (j.tfs ++ j.tds))) := Sc.bl_s (m := { m with frees := (f.step A).1 :: fs }) { j with fj := jf' :: js } f2
        refine own_conv hb ?_
        refine wp_ret_of ⟨{ j with fj := jf' :: js }, ?_, rfl, rfl, by rw [hb]; exact ok, ⟨rp.ls, ?_, rp.ds, ?_, fun h => ?_⟩, hA⟩
        · first | rfl | rw [he]
        · show SlAt j.tfs ty_p_slab_Free eP j.fs (jf'.1 :: js.map (·.1))
          rw [show jf'.1 = jf.1 from ej]; exact rfs
        · have := rp.fl; rw [efs, ejs] at this; exact this
        · rw [show ({ m with frees := (f.step A).1 :: fs } : Sc).sorted = m.sorted from rfl, f2] at h; cases h
end Go.Proofs.Ytfphgiipekkgdaa

set_option linter.unusedVariables false
set_option maxRecDepth 20000
namespace Go.Proofs.Ytfphgiipekkgdaa
open Go Go.Fw

def newSc (tw ta : Int) (p : Pl) (work : Int) (xs : List Int) : Sc := ⟨tw, ta, p, work, 0, xs, [], false, [], [], false⟩

section
variable {L : Hands} {R : Value → Heap → Prop} {A : Ar} {I : List Nat} {l : Bl} {G : Heap}

set_option maxHeartbeats 1000000 in
theorem w_NewScan {tw ta work : Int} {p : Pl} {xs : List Int} {s : Sl} {k : Option Addr → Tree} (hA : Aw I A) (ok : Ok I G (keys l)) (hs : Row (own A l G) s.a (eI.all xs)) (hl : s.len = xs.length) (hm : xs.length ≤ 1000)
    (h : ∀ j : ScJ, Ok I G (keys ((newSc tw ta p work xs).bl j ++ l)) → (newSc tw ta p work xs).rep j → wp Try.prog (k (some ⟨j.q, 0, none⟩)) L (own A ((newSc tw ta p work xs).bl j ++ l) G) R) :
    wp Try.prog (.call f_hazard_NewScan [.agg #[.int .i64 tw, .int .i64 ta], p.val, .int .i64 work, .slice s.a s.len s.cap] (.one (.leaf .ptr)) k) L (own A l G) R := by
  refine wp_call_of (R0 := fun v K => ∃ j : ScJ, v = .pointer (some ⟨j.q, 0, none⟩) ∧ K = own A ((newSc tw ta p work xs).bl j ++ l) G ∧ Ok I G (keys ((newSc tw ta p work xs).bl j ++ l)) ∧ (newSc tw ta p work xs).rep j) ?_ ?_
  · refine t_hazard_NewScan_spec (p0_0 := tw) (p0_1 := ta) (p1_0 := p.work) (p1_1 := p.heads) (p1_2 := p.links) (p1_3 := p.gens) (p1_4 := p.carved) (p2 := work) (p3 := s) fun L => ?_
    unfold t_hazard_NewScan
    have ok0 := ok
    refine w_newP hA ok fun e1 ok => ?_
    refine w_newP hA ok fun e2 ok => ?_
    repeat (first
  | refine wp_nil.2 ?_
  | refine w_ld 0 hA ok rfl rfl rfl ?_
  | refine w_ld 1 hA ok rfl rfl rfl ?_
  | refine w_ld 2 hA ok rfl rfl rfl ?_
  | refine w_ld 3 hA ok rfl rfl rfl ?_
  | refine w_ld 4 hA ok rfl rfl rfl ?_
  | refine w_ld 5 hA ok rfl rfl rfl ?_
  | refine w_ld 6 hA ok rfl rfl rfl ?_
  | refine w_ld 7 hA ok rfl rfl rfl ?_
  | refine w_st 0 hA ok rfl rfl rfl rfl ?_
  | refine w_st 1 hA ok rfl rfl rfl rfl ?_
  | refine w_st 2 hA ok rfl rfl rfl rfl ?_
  | refine w_st 3 hA ok rfl rfl rfl rfl ?_
  | refine w_st 4 hA ok rfl rfl rfl rfl ?_
  | refine w_st 5 hA ok rfl rfl rfl rfl ?_
  | refine w_st 6 hA ok rfl rfl rfl rfl ?_
  | refine w_st 7 hA ok rfl rfl rfl rfl ?_
  | refine w_ldA 0 hA ok rfl rfl rfl ?_
  | refine w_ldA 1 hA ok rfl rfl rfl ?_
  | refine w_ldA 2 hA ok rfl rfl rfl ?_
  | refine w_ldA 3 hA ok rfl rfl rfl ?_
  | refine w_ldA 4 hA ok rfl rfl rfl ?_
  | refine w_ldA 5 hA ok rfl rfl rfl ?_
  | refine w_ldA 6 hA ok rfl rfl rfl ?_
  | refine w_ldA 7 hA ok rfl rfl rfl ?_
  | refine w_stA 0 hA ok rfl rfl rfl rfl ?_
  | refine w_stA 1 hA ok rfl rfl rfl rfl ?_
  | refine w_stA 2 hA ok rfl rfl rfl rfl ?_
  | refine w_stA 3 hA ok rfl rfl rfl rfl ?_
  | refine w_stA 4 hA ok rfl rfl rfl rfl ?_
  | refine w_stA 5 hA ok rfl rfl rfl rfl ?_
  | refine w_stA 6 hA ok rfl rfl rfl rfl ?_
  | refine w_stA 7 hA ok rfl rfl rfl rfl ?_
  | (refine w_Raw hA ?_; intro hA)
  | (refine w_SetRaw hA ?_; intro hA)
  | (refine w_SwapRaw hA ?_; intro hA)
  | (refine w_AddRaw hA ?_; intro hA)
  | (refine w_Load hA ?_; intro hA)
  | (refine w_Store hA ?_; intro hA)
  | (refine w_Retire hA ?_; intro hA)
  | (refine w_Died hA ?_; intro hA)
  | (refine w_Born hA ?_; intro hA)
  | refine w_State hA ?_
  | refine w_Uses hA ?_
  | refine w_Fault hA ?_
  | refine w_Words hA ?_
  | refine w_Count hA ?_
  | refine wq_Size ?_
  | refine wq_Open ?_
  | refine wq_Pack ?_
  | refine wq_head ?_
  | refine w_ck 0 hA ok rfl rfl rfl ?_
  | refine w_ck 1 hA ok rfl rfl rfl ?_
  | refine w_ck 2 hA ok rfl rfl rfl ?_
  | refine w_ck 3 hA ok rfl rfl rfl ?_
  | refine w_ck 4 hA ok rfl rfl rfl ?_
  | refine w_ck 5 hA ok rfl rfl rfl ?_
  | refine w_ck 6 hA ok rfl rfl rfl ?_
  | refine w_ck 7 hA ok rfl rfl rfl ?_
  | refine w_ckn rfl ?_
  | refine w_Base 0 1 hA ok rfl rfl ?_
  | refine w_Base 1 2 hA ok rfl rfl ?_
  | refine w_Base 2 3 hA ok rfl rfl ?_
  | refine w_Base 3 4 hA ok rfl rfl ?_
  | refine w_Base 4 5 hA ok rfl rfl ?_
  | refine w_Base 5 6 hA ok rfl rfl ?_
  | (refine w_PopStep 0 1 hA ok rfl rfl ?_; intro hA)
  | (refine w_PopStep 1 2 hA ok rfl rfl ?_; intro hA)
  | (refine w_PopStep 2 3 hA ok rfl rfl ?_; intro hA)
  | (refine w_PopStep 3 4 hA ok rfl rfl ?_; intro hA)
  | (refine w_PopStep 4 5 hA ok rfl rfl ?_; intro hA)
  | (refine w_PopStep 5 6 hA ok rfl rfl ?_; intro hA)
  | (refine w_PushStep 0 1 hA ok rfl rfl ?_; intro hA)
  | (refine w_PushStep 1 2 hA ok rfl rfl ?_; intro hA)
  | (refine w_PushStep 2 3 hA ok rfl rfl ?_; intro hA)
  | (refine w_PushStep 3 4 hA ok rfl rfl ?_; intro hA)
  | (refine w_PushStep 4 5 hA ok rfl rfl ?_; intro hA)
  | (refine w_PushStep 5 6 hA ok rfl rfl ?_; intro hA)
  | refine wp_true (by assumption) ?_
  | refine wp_false (by assumption) ?_)
    refine w_newM hA ok fun mq ok => ?_
    refine w_newP hA ok fun q ok => ?_
    repeat (first
  | refine wp_nil.2 ?_
  | refine w_ld 0 hA ok rfl rfl rfl ?_
  | refine w_ld 1 hA ok rfl rfl rfl ?_
  | refine w_ld 2 hA ok rfl rfl rfl ?_
  | refine w_ld 3 hA ok rfl rfl rfl ?_
  | refine w_ld 4 hA ok rfl rfl rfl ?_
  | refine w_ld 5 hA ok rfl rfl rfl ?_
  | refine w_ld 6 hA ok rfl rfl rfl ?_
  | refine w_ld 7 hA ok rfl rfl rfl ?_
  | refine w_st 0 hA ok rfl rfl rfl rfl ?_
  | refine w_st 1 hA ok rfl rfl rfl rfl ?_
  | refine w_st 2 hA ok rfl rfl rfl rfl ?_
  | refine w_st 3 hA ok rfl rfl rfl rfl ?_
  | refine w_st 4 hA ok rfl rfl rfl rfl ?_
  | refine w_st 5 hA ok rfl rfl rfl rfl ?_
  | refine w_st 6 hA ok rfl rfl rfl rfl ?_
  | refine w_st 7 hA ok rfl rfl rfl rfl ?_
  | refine w_ldA 0 hA ok rfl rfl rfl ?_
  | refine w_ldA 1 hA ok rfl rfl rfl ?_
  | refine w_ldA 2 hA ok rfl rfl rfl ?_
  | refine w_ldA 3 hA ok rfl rfl rfl ?_
  | refine w_ldA 4 hA ok rfl rfl rfl ?_
  | refine w_ldA 5 hA ok rfl rfl rfl ?_
  | refine w_ldA 6 hA ok rfl rfl rfl ?_
  | refine w_ldA 7 hA ok rfl rfl rfl ?_
  | refine w_stA 0 hA ok rfl rfl rfl rfl ?_
  | refine w_stA 1 hA ok rfl rfl rfl rfl ?_
  | refine w_stA 2 hA ok rfl rfl rfl rfl ?_
  | refine w_stA 3 hA ok rfl rfl rfl rfl ?_
  | refine w_stA 4 hA ok rfl rfl rfl rfl ?_
  | refine w_stA 5 hA ok rfl rfl rfl rfl ?_
  | refine w_stA 6 hA ok rfl rfl rfl rfl ?_
  | refine w_stA 7 hA ok rfl rfl rfl rfl ?_
  | (refine w_Raw hA ?_; intro hA)
  | (refine w_SetRaw hA ?_; intro hA)
  | (refine w_SwapRaw hA ?_; intro hA)
  | (refine w_AddRaw hA ?_; intro hA)
  | (refine w_Load hA ?_; intro hA)
  | (refine w_Store hA ?_; intro hA)
  | (refine w_Retire hA ?_; intro hA)
  | (refine w_Died hA ?_; intro hA)
  | (refine w_Born hA ?_; intro hA)
  | refine w_State hA ?_
  | refine w_Uses hA ?_
  | refine w_Fault hA ?_
  | refine w_Words hA ?_
  | refine w_Count hA ?_
  | refine wq_Size ?_
  | refine wq_Open ?_
  | refine wq_Pack ?_
  | refine wq_head ?_
  | refine w_ck 0 hA ok rfl rfl rfl ?_
  | refine w_ck 1 hA ok rfl rfl rfl ?_
  | refine w_ck 2 hA ok rfl rfl rfl ?_
  | refine w_ck 3 hA ok rfl rfl rfl ?_
  | refine w_ck 4 hA ok rfl rfl rfl ?_
  | refine w_ck 5 hA ok rfl rfl rfl ?_
  | refine w_ck 6 hA ok rfl rfl rfl ?_
  | refine w_ck 7 hA ok rfl rfl rfl ?_
  | refine w_ckn rfl ?_
  | refine w_Base 0 1 hA ok rfl rfl ?_
  | refine w_Base 1 2 hA ok rfl rfl ?_
  | refine w_Base 2 3 hA ok rfl rfl ?_
  | refine w_Base 3 4 hA ok rfl rfl ?_
  | refine w_Base 4 5 hA ok rfl rfl ?_
  | refine w_Base 5 6 hA ok rfl rfl ?_
  | (refine w_PopStep 0 1 hA ok rfl rfl ?_; intro hA)
  | (refine w_PopStep 1 2 hA ok rfl rfl ?_; intro hA)
  | (refine w_PopStep 2 3 hA ok rfl rfl ?_; intro hA)
  | (refine w_PopStep 3 4 hA ok rfl rfl ?_; intro hA)
  | (refine w_PopStep 4 5 hA ok rfl rfl ?_; intro hA)
  | (refine w_PopStep 5 6 hA ok rfl rfl ?_; intro hA)
  | (refine w_PushStep 0 1 hA ok rfl rfl ?_; intro hA)
  | (refine w_PushStep 1 2 hA ok rfl rfl ?_; intro hA)
  | (refine w_PushStep 2 3 hA ok rfl rfl ?_; intro hA)
  | (refine w_PushStep 3 4 hA ok rfl rfl ?_; intro hA)
  | (refine w_PushStep 4 5 hA ok rfl rfl ?_; intro hA)
  | (refine w_PushStep 5 6 hA ok rfl rfl ?_; intro hA)
  | refine wp_true (by assumption) ?_
  | refine wp_false (by assumption) ?_)
    refine w_appM (E := eI) elI (xs := []) (ys := xs) (s := sl0) (mid := []) (post := l) [(q, _), (mq, _), (e2, _), (e1, _)] hA ok (.inl ⟨rfl, rfl⟩) (row_le hs ?_) hl (by simp; omega) fun s' mid' hs' ok => ?_
    · refine own_sub ok ok0.nd fun p hp => ?_
      exact List.mem_cons_of_mem _ (List.mem_cons_of_mem _ (List.mem_cons_of_mem _ (List.mem_cons_of_mem _ hp)))
    repeat (first
  | refine wp_nil.2 ?_
  | refine w_ld 0 hA ok rfl rfl rfl ?_
  | refine w_ld 1 hA ok rfl rfl rfl ?_
  | refine w_ld 2 hA ok rfl rfl rfl ?_
  | refine w_ld 3 hA ok rfl rfl rfl ?_
  | refine w_ld 4 hA ok rfl rfl rfl ?_
  | refine w_ld 5 hA ok rfl rfl rfl ?_
  | refine w_ld 6 hA ok rfl rfl rfl ?_
  | refine w_ld 7 hA ok rfl rfl rfl ?_
  | refine w_st 0 hA ok rfl rfl rfl rfl ?_
  | refine w_st 1 hA ok rfl rfl rfl rfl ?_
  | refine w_st 2 hA ok rfl rfl rfl rfl ?_
  | refine w_st 3 hA ok rfl rfl rfl rfl ?_
  | refine w_st 4 hA ok rfl rfl rfl rfl ?_
  | refine w_st 5 hA ok rfl rfl rfl rfl ?_
  | refine w_st 6 hA ok rfl rfl rfl rfl ?_
  | refine w_st 7 hA ok rfl rfl rfl rfl ?_
  | refine w_ldA 0 hA ok rfl rfl rfl ?_
  | refine w_ldA 1 hA ok rfl rfl rfl ?_
  | refine w_ldA 2 hA ok rfl rfl rfl ?_
  | refine w_ldA 3 hA ok rfl rfl rfl ?_
  | refine w_ldA 4 hA ok rfl rfl rfl ?_
  | refine w_ldA 5 hA ok rfl rfl rfl ?_
  | refine w_ldA 6 hA ok rfl rfl rfl ?_
  | refine w_ldA 7 hA ok rfl rfl rfl ?_
  | refine w_stA 0 hA ok rfl rfl rfl rfl ?_
  | refine w_stA 1 hA ok rfl rfl rfl rfl ?_
  | refine w_stA 2 hA ok rfl rfl rfl rfl ?_
  | refine w_stA 3 hA ok rfl rfl rfl rfl ?_
  | refine w_stA 4 hA ok rfl rfl rfl rfl ?_
  | refine w_stA 5 hA ok rfl rfl rfl rfl ?_
  | refine w_stA 6 hA ok rfl rfl rfl rfl ?_
  | refine w_stA 7 hA ok rfl rfl rfl rfl ?_
  | (refine w_Raw hA ?_; intro hA)
  | (refine w_SetRaw hA ?_; intro hA)
  | (refine w_SwapRaw hA ?_; intro hA)
  | (refine w_AddRaw hA ?_; intro hA)
  | (refine w_Load hA ?_; intro hA)
  | (refine w_Store hA ?_; intro hA)
  | (refine w_Retire hA ?_; intro hA)
  | (refine w_Died hA ?_; intro hA)
  | (refine w_Born hA ?_; intro hA)
  | refine w_State hA ?_
  | refine w_Uses hA ?_
  | refine w_Fault hA ?_
  | refine w_Words hA ?_
  | refine w_Count hA ?_
  | refine wq_Size ?_
  | refine wq_Open ?_
  | refine wq_Pack ?_
  | refine wq_head ?_
  | refine w_ck 0 hA ok rfl rfl rfl ?_
  | refine w_ck 1 hA ok rfl rfl rfl ?_
  | refine w_ck 2 hA ok rfl rfl rfl ?_
  | refine w_ck 3 hA ok rfl rfl rfl ?_
  | refine w_ck 4 hA ok rfl rfl rfl ?_
  | refine w_ck 5 hA ok rfl rfl rfl ?_
  | refine w_ck 6 hA ok rfl rfl rfl ?_
  | refine w_ck 7 hA ok rfl rfl rfl ?_
  | refine w_ckn rfl ?_
  | refine w_Base 0 1 hA ok rfl rfl ?_
  | refine w_Base 1 2 hA ok rfl rfl ?_
  | refine w_Base 2 3 hA ok rfl rfl ?_
  | refine w_Base 3 4 hA ok rfl rfl ?_
  | refine w_Base 4 5 hA ok rfl rfl ?_
  | refine w_Base 5 6 hA ok rfl rfl ?_
  | (refine w_PopStep 0 1 hA ok rfl rfl ?_; intro hA)
  | (refine w_PopStep 1 2 hA ok rfl rfl ?_; intro hA)
  | (refine w_PopStep 2 3 hA ok rfl rfl ?_; intro hA)
  | (refine w_PopStep 3 4 hA ok rfl rfl ?_; intro hA)
  | (refine w_PopStep 4 5 hA ok rfl rfl ?_; intro hA)
  | (refine w_PopStep 5 6 hA ok rfl rfl ?_; intro hA)
  | (refine w_PushStep 0 1 hA ok rfl rfl ?_; intro hA)
  | (refine w_PushStep 1 2 hA ok rfl rfl ?_; intro hA)
  | (refine w_PushStep 2 3 hA ok rfl rfl ?_; intro hA)
  | (refine w_PushStep 3 4 hA ok rfl rfl ?_; intro hA)
  | (refine w_PushStep 4 5 hA ok rfl rfl ?_; intro hA)
  | (refine w_PushStep 5 6 hA ok rfl rfl ?_; intro hA)
  | refine wp_true (by assumption) ?_
  | refine wp_false (by assumption) ?_)
    rw [List.nil_append] at hs'
    have eb : (newSc tw ta p work xs).bl ⟨q, mq, s', sl0, sl0, [], mid', [], []⟩ ++ l = (q, oc ty_hazard_Scan ((newSc tw ta p work xs).cells ⟨q, mq, s', sl0, sl0, [], mid', [], []⟩)) :: (mq, mapObj Value.bool []) :: (mid' ++ l) := by
      rw [Sc.bl_u (m := newSc tw ta p work xs) _ rfl]
      simp [fbl, newSc]
    have ok1 : Ok I G (keys ((newSc tw ta p work xs).bl ⟨q, mq, s', sl0, sl0, [], mid', [], []⟩ ++ l)) := by
      rw [eb]
      have nd := ok.nd
      refine ok.sub ?_ fun b hb => ?_
      · have sl : (q :: mq :: keys (mid' ++ l)).Sublist (q :: mq :: e2 :: e1 :: keys (mid' ++ l)) := .cons_cons _ (.cons_cons _ (.cons _ (.cons _ (List.Sublist.refl _))))
        exact sl.nodup nd
      · have hb : b ∈ q :: mq :: keys (mid' ++ l) := hb
        show b ∈ q :: mq :: e2 :: e1 :: keys (mid' ++ l)
        simp only [List.mem_cons] at hb ⊢
        rcases hb with h | h | h
        · exact .inl h
        · exact .inr (.inl h)
        · exact .inr (.inr (.inr (.inr h)))
    refine ⟨own A ((newSc tw ta p work xs).bl ⟨q, mq, s', sl0, sl0, [], mid', [], []⟩ ++ l) G, own_sub ok ok1.nd fun b hb => ?_, ⟨q, mq, s', sl0, sl0, [], mid', [], []⟩, rfl, rfl, ok1, ⟨hs', .inl ⟨rfl, rfl⟩, .inl ⟨rfl, rfl⟩, rfl, fun _ => ⟨rfl, rfl, rfl, rfl⟩⟩⟩
    rw [eb] at hb
    rcases List.mem_cons.1 hb with h | hb
    · rw [h]; exact List.mem_cons_self
    · rcases List.mem_cons.1 hb with h | hb
      · rw [h]; exact List.mem_cons_of_mem _ List.mem_cons_self
      · exact List.mem_cons_of_mem _ (List.mem_cons_of_mem _ (List.mem_cons_of_mem _ (List.mem_cons_of_mem _ hb)))
  · rintro v K ⟨j, rfl, rfl, o, r⟩
    exact ⟨_, rfl, h j o r⟩

/-- What is left. -/
theorem w_Left {m : Sc} {j : ScJ} {rest : Bl} {k : Sl → Tree} (hA : Aw I A) (ok : Ok I G (keys (m.bl j ++ rest))) (rp : m.rep j) (he : m.ended = true) (hm : m.left.length ≤ 1000)
    (h : ∀ s' tl', SlOf tl' ty_int eI s' m.left → Ok I G (keys (m.bl j ++ (tl' ++ rest))) → wp Try.prog (k s') L (own A (m.bl j ++ (tl' ++ rest)) G) R) :
    wp Try.prog (.call f_hazard_Scan_Left [.pointer (some ⟨j.q, 0, none⟩)] (.one (.leaf .slice)) k) L (own A (m.bl j ++ rest) G) R := by
  refine wp_call_of (R0 := fun v K => ∃ s' tl', v = .slice s'.a s'.len s'.cap ∧ K = own A (m.bl j ++ (tl' ++ rest)) G ∧ SlOf tl' ty_int eI s' m.left ∧ Ok I G (keys (m.bl j ++ (tl' ++ rest)))) ?_ ?_
  · refine t_hazard_Scan_Left_spec fun L => ?_
    unfold t_hazard_Scan_Left
    repeat (first
  | refine wp_nil.2 ?_
  | refine w_ld 0 hA ok rfl rfl rfl ?_
  | refine w_ld 1 hA ok rfl rfl rfl ?_
  | refine w_ld 2 hA ok rfl rfl rfl ?_
  | refine w_ld 3 hA ok rfl rfl rfl ?_
  | refine w_ld 4 hA ok rfl rfl rfl ?_
  | refine w_ld 5 hA ok rfl rfl rfl ?_
  | refine w_ld 6 hA ok rfl rfl rfl ?_
  | refine w_ld 7 hA ok rfl rfl rfl ?_
  | refine w_st 0 hA ok rfl rfl rfl rfl ?_
  | refine w_st 1 hA ok rfl rfl rfl rfl ?_
  | refine w_st 2 hA ok rfl rfl rfl rfl ?_
  | refine w_st 3 hA ok rfl rfl rfl rfl ?_
  | refine w_st 4 hA ok rfl rfl rfl rfl ?_
  | refine w_st 5 hA ok rfl rfl rfl rfl ?_
  | refine w_st 6 hA ok rfl rfl rfl rfl ?_
  | refine w_st 7 hA ok rfl rfl rfl rfl ?_
  | refine w_ldA 0 hA ok rfl rfl rfl ?_
  | refine w_ldA 1 hA ok rfl rfl rfl ?_
  | refine w_ldA 2 hA ok rfl rfl rfl ?_
  | refine w_ldA 3 hA ok rfl rfl rfl ?_
  | refine w_ldA 4 hA ok rfl rfl rfl ?_
  | refine w_ldA 5 hA ok rfl rfl rfl ?_
  | refine w_ldA 6 hA ok rfl rfl rfl ?_
  | refine w_ldA 7 hA ok rfl rfl rfl ?_
  | refine w_stA 0 hA ok rfl rfl rfl rfl ?_
  | refine w_stA 1 hA ok rfl rfl rfl rfl ?_
  | refine w_stA 2 hA ok rfl rfl rfl rfl ?_
  | refine w_stA 3 hA ok rfl rfl rfl rfl ?_
  | refine w_stA 4 hA ok rfl rfl rfl rfl ?_
  | refine w_stA 5 hA ok rfl rfl rfl rfl ?_
  | refine w_stA 6 hA ok rfl rfl rfl rfl ?_
  | refine w_stA 7 hA ok rfl rfl rfl rfl ?_
  | (refine w_Raw hA ?_; intro hA)
  | (refine w_SetRaw hA ?_; intro hA)
  | (refine w_SwapRaw hA ?_; intro hA)
  | (refine w_AddRaw hA ?_; intro hA)
  | (refine w_Load hA ?_; intro hA)
  | (refine w_Store hA ?_; intro hA)
  | (refine w_Retire hA ?_; intro hA)
  | (refine w_Died hA ?_; intro hA)
  | (refine w_Born hA ?_; intro hA)
  | refine w_State hA ?_
  | refine w_Uses hA ?_
  | refine w_Fault hA ?_
  | refine w_Words hA ?_
  | refine w_Count hA ?_
  | refine wq_Size ?_
  | refine wq_Open ?_
  | refine wq_Pack ?_
  | refine wq_head ?_
  | refine w_ck 0 hA ok rfl rfl rfl ?_
  | refine w_ck 1 hA ok rfl rfl rfl ?_
  | refine w_ck 2 hA ok rfl rfl rfl ?_
  | refine w_ck 3 hA ok rfl rfl rfl ?_
  | refine w_ck 4 hA ok rfl rfl rfl ?_
  | refine w_ck 5 hA ok rfl rfl rfl ?_
  | refine w_ck 6 hA ok rfl rfl rfl ?_
  | refine w_ck 7 hA ok rfl rfl rfl ?_
  | refine w_ckn rfl ?_
  | refine w_Base 0 1 hA ok rfl rfl ?_
  | refine w_Base 1 2 hA ok rfl rfl ?_
  | refine w_Base 2 3 hA ok rfl rfl ?_
  | refine w_Base 3 4 hA ok rfl rfl ?_
  | refine w_Base 4 5 hA ok rfl rfl ?_
  | refine w_Base 5 6 hA ok rfl rfl ?_
  | (refine w_PopStep 0 1 hA ok rfl rfl ?_; intro hA)
  | (refine w_PopStep 1 2 hA ok rfl rfl ?_; intro hA)
  | (refine w_PopStep 2 3 hA ok rfl rfl ?_; intro hA)
  | (refine w_PopStep 3 4 hA ok rfl rfl ?_; intro hA)
  | (refine w_PopStep 4 5 hA ok rfl rfl ?_; intro hA)
  | (refine w_PopStep 5 6 hA ok rfl rfl ?_; intro hA)
  | (refine w_PushStep 0 1 hA ok rfl rfl ?_; intro hA)
  | (refine w_PushStep 1 2 hA ok rfl rfl ?_; intro hA)
  | (refine w_PushStep 2 3 hA ok rfl rfl ?_; intro hA)
  | (refine w_PushStep 3 4 hA ok rfl rfl ?_; intro hA)
  | (refine w_PushStep 4 5 hA ok rfl rfl ?_; intro hA)
  | (refine w_PushStep 5 6 hA ok rfl rfl ?_; intro hA)
  | refine wp_true (by assumption) ?_
  | refine wp_false (by assumption) ?_)
    refine wp_false (by rw [he]; rfl) ?_
    repeat (first
  | refine wp_nil.2 ?_
  | refine w_ld 0 hA ok rfl rfl rfl ?_
  | refine w_ld 1 hA ok rfl rfl rfl ?_
  | refine w_ld 2 hA ok rfl rfl rfl ?_
  | refine w_ld 3 hA ok rfl rfl rfl ?_
  | refine w_ld 4 hA ok rfl rfl rfl ?_
  | refine w_ld 5 hA ok rfl rfl rfl ?_
  | refine w_ld 6 hA ok rfl rfl rfl ?_
  | refine w_ld 7 hA ok rfl rfl rfl ?_
  | refine w_st 0 hA ok rfl rfl rfl rfl ?_
  | refine w_st 1 hA ok rfl rfl rfl rfl ?_
  | refine w_st 2 hA ok rfl rfl rfl rfl ?_
  | refine w_st 3 hA ok rfl rfl rfl rfl ?_
  | refine w_st 4 hA ok rfl rfl rfl rfl ?_
  | refine w_st 5 hA ok rfl rfl rfl rfl ?_
  | refine w_st 6 hA ok rfl rfl rfl rfl ?_
  | refine w_st 7 hA ok rfl rfl rfl rfl ?_
  | refine w_ldA 0 hA ok rfl rfl rfl ?_
  | refine w_ldA 1 hA ok rfl rfl rfl ?_
  | refine w_ldA 2 hA ok rfl rfl rfl ?_
  | refine w_ldA 3 hA ok rfl rfl rfl ?_
  | refine w_ldA 4 hA ok rfl rfl rfl ?_
  | refine w_ldA 5 hA ok rfl rfl rfl ?_
  | refine w_ldA 6 hA ok rfl rfl rfl ?_
  | refine w_ldA 7 hA ok rfl rfl rfl ?_
  | refine w_stA 0 hA ok rfl rfl rfl rfl ?_
  | refine w_stA 1 hA ok rfl rfl rfl rfl ?_
  | refine w_stA 2 hA ok rfl rfl rfl rfl ?_
  | refine w_stA 3 hA ok rfl rfl rfl rfl ?_
  | refine w_stA 4 hA ok rfl rfl rfl rfl ?_
  | refine w_stA 5 hA ok rfl rfl rfl rfl ?_
  | refine w_stA 6 hA ok rfl rfl rfl rfl ?_
  | refine w_stA 7 hA ok rfl rfl rfl rfl ?_
  | (refine w_Raw hA ?_; intro hA)
  | (refine w_SetRaw hA ?_; intro hA)
  | (refine w_SwapRaw hA ?_; intro hA)
  | (refine w_AddRaw hA ?_; intro hA)
  | (refine w_Load hA ?_; intro hA)
  | (refine w_Store hA ?_; intro hA)
  | (refine w_Retire hA ?_; intro hA)
  | (refine w_Died hA ?_; intro hA)
  | (refine w_Born hA ?_; intro hA)
  | refine w_State hA ?_
  | refine w_Uses hA ?_
  | refine w_Fault hA ?_
  | refine w_Words hA ?_
  | refine w_Count hA ?_
  | refine wq_Size ?_
  | refine wq_Open ?_
  | refine wq_Pack ?_
  | refine wq_head ?_
  | refine w_ck 0 hA ok rfl rfl rfl ?_
  | refine w_ck 1 hA ok rfl rfl rfl ?_
  | refine w_ck 2 hA ok rfl rfl rfl ?_
  | refine w_ck 3 hA ok rfl rfl rfl ?_
  | refine w_ck 4 hA ok rfl rfl rfl ?_
  | refine w_ck 5 hA ok rfl rfl rfl ?_
  | refine w_ck 6 hA ok rfl rfl rfl ?_
  | refine w_ck 7 hA ok rfl rfl rfl ?_
  | refine w_ckn rfl ?_
  | refine w_Base 0 1 hA ok rfl rfl ?_
  | refine w_Base 1 2 hA ok rfl rfl ?_
  | refine w_Base 2 3 hA ok rfl rfl ?_
  | refine w_Base 3 4 hA ok rfl rfl ?_
  | refine w_Base 4 5 hA ok rfl rfl ?_
  | refine w_Base 5 6 hA ok rfl rfl ?_
  | (refine w_PopStep 0 1 hA ok rfl rfl ?_; intro hA)
  | (refine w_PopStep 1 2 hA ok rfl rfl ?_; intro hA)
  | (refine w_PopStep 2 3 hA ok rfl rfl ?_; intro hA)
  | (refine w_PopStep 3 4 hA ok rfl rfl ?_; intro hA)
  | (refine w_PopStep 4 5 hA ok rfl rfl ?_; intro hA)
  | (refine w_PopStep 5 6 hA ok rfl rfl ?_; intro hA)
  | (refine w_PushStep 0 1 hA ok rfl rfl ?_; intro hA)
  | (refine w_PushStep 1 2 hA ok rfl rfl ?_; intro hA)
  | (refine w_PushStep 2 3 hA ok rfl rfl ?_; intro hA)
  | (refine w_PushStep 3 4 hA ok rfl rfl ?_; intro hA)
  | (refine w_PushStep 4 5 hA ok rfl rfl ?_; intro hA)
  | (refine w_PushStep 5 6 hA ok rfl rfl ?_; intro hA)
  | refine wp_true (by assumption) ?_
  | refine wp_false (by assumption) ?_)
    rw [opS_nilapp]
    refine w_appM (E := eI) elI (xs := []) (ys := m.left) (s := sl0) (mid := []) (post := rest) (m.bl j) hA ok (.inl ⟨rfl, rfl⟩) ?_ rp.ds.len (by simp; omega) fun s' mid' hs' ok => ?_
    · refine SlOf.row hA ok (rp.ds.mono fun p hp => List.mem_append_left _ ?_)
      exact List.mem_append_right _ (List.mem_append_right _ (List.mem_append_right _ (List.mem_append_right _ (List.mem_append_right _ hp))))
    exact wp_ret_of ⟨s', mid', rfl, rfl, hs', ok⟩
  · rintro v K ⟨s', tl', rfl, rfl, hs', o⟩
    exact ⟨_, rfl, h s' tl' hs' o⟩

/-- Raw, Word. -/
theorem HRaw_det {w n : Int} (b1 : 0 ≤ w ∧ w ≤ 100000) (H : Heap) : Det Try.prog f_hazard_Raw [.int .i64 w, .int .i64 n] H (.tuple #[.agg #[.int .i64 w, .int .i64 n], .int .i64 (2 * w)]) H := by
  refine t_hazard_Raw_spec fun L => ?_
  unfold t_hazard_Raw
  have e : w64 (2 * imax w 0) = 2 * w := by
    rw [show imax w 0 = w by unfold imax; rw [if_neg (by omega)]]
    exact w64_in (by omega) (by omega)
  rw [e]
  refine wp_newP fun b hb => ?_
  refine wp_stA_of (Heap.set_same _ _ _) (by exact Nat.le_refl 2) (singles _ rfl) ?_
  rw [Heap.set_set]
  have c1 : putAll #[.int .i64 0, .int .i64 0] 0 [.int .i64 w, .int .i64 n] = #[.int .i64 w, .int .i64 n] := rfl
  rw [c1]
  exact ⟨((w, n, ()), 2 * w, ()), ldK_still (Heap.set_same _ _ _) 2 0 #[] (by simp) rfl, H, Heap.le_set_new _ hb, rfl, rfl⟩
theorem w_HRaw {H : Heap} {w n : Int} {k : HL Sh1.T [(.agg [(.int .i64), (.int .i64)]), (.leaf (.int .i64))] → Tree} (b1 : 0 ≤ w ∧ w ≤ 100000) (h : wp Try.prog (k ((w, n, ()), 2 * w, ())) L H R) :
    wp Try.prog (.call f_hazard_Raw [.int .i64 w, .int .i64 n] (.tup [(.agg [(.int .i64), (.int .i64)]), (.leaf (.int .i64))]) k) L H R := wp_call_det (x := ((w, n, ()), 2 * w, ())) (HRaw_det b1 H) h
theorem wq_HRaw {H : Heap} {w n : Int} {k : HL Sh1.T [(.agg [(.int .i64), (.int .i64)]), (.leaf (.int .i64))] → Tree} (b1 : 0 ≤ w ∧ w ≤ 100000) (h : wp Try.prog (k ((w, n, ()), 2 * w, ())) L H R) :
    wp Try.prog (.qcall f_hazard_Raw [.int .i64 w, .int .i64 n] (.tup [(.agg [(.int .i64), (.int .i64)]), (.leaf (.int .i64))]) k) L H R := wp_qcall_det (x := ((w, n, ()), 2 * w, ())) (HRaw_det b1 H) h
theorem Word_det (tw ta w n : Int) (H : Heap) : Det Try.prog f_hazard_Table_Word [.agg #[.int .i64 tw, .int .i64 ta], .int .i64 w, .int .i64 n] H (.int .i64 (w64 (w64 (ta + w64 (2 * w)) + n))) H := by
  refine t_hazard_Table_Word_spec (p0_0 := tw) (p0_1 := ta) fun L => ?_
  unfold t_hazard_Table_Word
  refine wp_newP fun b hb => wp_ld_of (x := ta) (by rw [Addr.add_mk, Heap.cell_set]; rfl) ?_
  exact ⟨H, Heap.le_set_new _ hb, rfl, rfl⟩
theorem wq_Word {H : Heap} {tw ta w n : Int} {k : Int → Tree} (b : 0 ≤ ta ∧ ta ≤ 1000000 ∧ 0 ≤ w ∧ w ≤ 1000 ∧ 0 ≤ n ∧ n ≤ 1000) (h : wp Try.prog (k (ta + 2 * w + n)) L H R) :
    wp Try.prog (.qcall f_hazard_Table_Word [.agg #[.int .i64 tw, .int .i64 ta], .int .i64 w, .int .i64 n] (.one (.leaf (.int .i64))) k) L H R := by
  have e : w64 (w64 (ta + w64 (2 * w)) + n) = ta + 2 * w + n := by
    rw [w64_in (x := 2 * w) (by omega) (by omega), w64_in (x := ta + 2 * w) (by omega) (by omega), w64_in (by omega) (by omega)]
  have := Word_det tw ta w n H
  rw [e] at this
  exact wp_qcall_det (x := ta + 2 * w + n) this h
end
end Go.Proofs.Ytfphgiipekkgdaa

set_option linter.unusedVariables false
set_option linter.unusedSimpArgs false
set_option maxRecDepth 20000
namespace Go.Proofs.Ytfphgiipekkgdaa
open Go Go.Fw

/-! ### A scan alone, to its end -/

theorem MchR.Path.step {M J : Type} {X : MchR M J} {n : Nat} {m m1 m' : M} {A A1 A' : Ar} (h1 : X.inv m A) (h2 : X.step m A = (m1, A1)) (h3 : A1.uses ≤ w64 (A.uses + 1)) (h4 : X.fin m1 = false) (h5 : X.Path n m1 A1 m' A') : X.Path (n + 1) m A m' A' := .cons h1 h2 h3 h4 h5

/-- One that sorted, with these to free. -/
structure Sc.base (m : Sc) : Prop where
  tw : 1 ≤ m.tw ∧ m.tw ≤ 1000
  wd : m.word = 2 * m.tw
  ll : m.l.length ≤ 1000
  so : m.sorted = true
abbrev Sc.on (m : Sc) (fs : List Fe) : Sc := { m with frees := fs, ended := decide (fs = []) }

theorem sc_free {m : Sc} (hm : m.base) {fs : List Fe} : ∀ {n : Nat} {f f' : Fe} {A A' : Ar}, mFe.Runs n f A f' A' → f.done = false →
    (fs ≠ [] → mSc.Path n (m.on (f :: fs)) A (m.on fs) A') ∧ (fs = [] → mSc.Runs n (m.on [f]) A (m.on []) A') := by
  intro n f f' A A' h
  have iv : ∀ (f : Fe) (A : Ar), mSc.inv (m.on (f :: fs)) A := fun f A => ⟨hm.tw, by show 0 ≤ m.word; have := hm.wd; have := hm.tw; omega, hm.ll, fun _ => .inr ⟨by show 2 * m.tw ≤ m.word; have := hm.wd; omega, hm.so, by simp⟩⟩
  have nw : ¬ m.word < 2 * m.tw := by have := hm.wd; omega
  have st1 : ∀ {f : Fe} {A : Ar}, (f.step A).1.done = true → mSc.step (m.on (f :: fs)) A = (m.on fs, (f.step A).2) := fun {f A} hd => by
    show Sc.step (m.on (f :: fs)) A = _
    unfold Sc.step
    rw [if_neg (by simp), if_neg nw]
    dsimp only
    rw [if_pos hd]
  have st2 : ∀ {f : Fe} {A : Ar}, (f.step A).1.done = false → mSc.step (m.on (f :: fs)) A = (m.on ((f.step A).1 :: fs), (f.step A).2) := fun {f A} hd => by
    show Sc.step (m.on (f :: fs)) A = _
    unfold Sc.step
    rw [if_neg (by simp), if_neg nw]
    dsimp only
    rw [if_neg (by rw [hd]; simp)]
    simp
  induction h with
  | @one f A h1 h2 h3 =>
    intro hf
    have h3 : (f.step A).1.done = true := h3
    refine ⟨fun hn => .cons (iv f A) (st1 h3) h2 ?_ .nil, fun hn => ?_⟩
    · show decide (fs = []) = false; simpa using hn
    · subst hn
      exact .one (iv f A) (st1 h3) h2 rfl
  | @more n f A f' A' h1 h2 h3 h4 ih =>
    intro hf
    have h3 : (f.step A).1.done = false := h3
    obtain ⟨i1, i2⟩ := ih h3
    refine ⟨fun hn => .cons (iv f A) (st2 h3) h2 rfl (i1 hn), fun hn => ?_⟩
    have := i2 hn
    subst hn
    exact .more (iv f A) (st2 h3) h2 rfl this

/-- These were freed. -/
structure Swept (A : Ar) (p : Pl) (w m : Int) (S : Sg) (who : Int) (hs : List Int) (A' : Ar) (S' : Sg) : Prop where
  off : Off p.carved (3 * hs.length) A A'
  sl : SL A' p w m S'
  st : ∀ k, A'.stF k = if k ∈ hs then 0 else A.stF k
  nL : A'.nL = A.nL
  nR : A'.nR = A.nR - 8 * hs.length
  ch : S'.ch (4 * who) = (hs.map opB).reverse ++ S.ch (4 * who)
  nc : S'.nc = S.nc

theorem sweep {m : Sc} (hm : m.base) {p : Pl} {w mm who : Int} (wh : 0 ≤ who ∧ who < w) : ∀ (hs : List Int) (A : Ar) (S : Sg), hs ≠ [] → hs.Nodup → SL A p w mm S → A.wf → A.uses + 3 * hs.length ≤ 1000000 → 8 * hs.length ≤ A.nR → (∀ h ∈ hs, A.stF h = 2 ∧ opC h = 0) →
    ∃ A' S', mSc.Runs (3 * hs.length) (m.on (hs.map (newFe p who))) A (m.on []) A' ∧ Swept A p w mm S who hs A' S'
  | [], _, _, h, _, _, _, _, _, _ => (h rfl).elim
  | h :: hs, A, S, _, hnd, X, hwf, hu, hr, hh => by
    obtain ⟨n1, n2⟩ := List.nodup_cons.1 hnd
    obtain ⟨h1, h2⟩ := hh h List.mem_cons_self
    simp only [List.length_cons] at hu hr
    have us := X.F.us
    obtain ⟨x', A1, Z⟩ := free_solo X hwf (by omega) wh h1 (by rw [h2, show sizeF 0 = 8 from rfl]; omega)
    obtain ⟨f1, f2⟩ := sc_free hm (fs := hs.map (newFe p who)) Z.run rfl
    have z1 := Z.off.us
    have z2 := Z.nR
    rw [h2, show sizeF 0 = 8 from rfl] at z2
    have chz : upd S.ch (4 * who + opC h) (opB h :: S.ch (4 * who + opC h)) (4 * who) = opB h :: S.ch (4 * who) := by
      rw [h2, Int.add_zero]; unfold upd; rw [if_pos rfl]
    by_cases he : hs = []
    · subst he
      refine ⟨A1, _, f2 rfl, Z.off, Z.sl, fun k => ?_, Z.nL, ?_, chz, rfl⟩
      · rw [Z.st k]; simp
      · rw [z2]; simp
    · obtain ⟨A2, S2, r2, W⟩ := sweep hm wh hs A1 _ he n2 Z.sl Z.off.wf (by omega) (by omega) fun k hk => by
        have := hh k (List.mem_cons_of_mem _ hk)
        refine ⟨?_, this.2⟩
        rw [Z.st k, if_neg (fun e : k = h => n1 (by rw [← e]; exact hk))]; exact this.1
      refine ⟨A2, S2, ?_, ?_, W.sl, fun k => ?_, W.nL.trans Z.nL, ?_, ?_, W.nc⟩
      · have := (f1 (by simpa using he)).run r2
        rw [List.length_cons, show 3 * (hs.length + 1) = 3 + 3 * hs.length by omega]
        exact this
      · have := Z.off.trans W.off
        rw [List.length_cons]
        rw [show (3 * ((hs.length + 1 : Nat) : Int)) = 3 + 3 * (hs.length : Int) by omega]
        exact this
      · rw [W.st k, Z.st k]
        by_cases e1 : k ∈ hs
        · rw [if_pos e1, if_pos (List.mem_cons_of_mem _ e1)]
        · rw [if_neg e1]
          by_cases e2 : k = h
          · rw [if_pos e2, if_pos (by rw [e2]; exact List.mem_cons_self)]
          · rw [if_neg e2, if_neg (by simp [e1, e2])]
      · rw [W.nR, z2, List.length_cons]; omega
      · rw [W.ch]
        show _ ++ upd S.ch (4 * who + opC h) (opB h :: S.ch (4 * who + opC h)) (4 * who) = _
        rw [chz]; simp
end Go.Proofs.Ytfphgiipekkgdaa

set_option linter.unusedVariables false
set_option linter.unusedSimpArgs false
set_option maxRecDepth 20000
namespace Go.Proofs.Ytfphgiipekkgdaa
open Go Go.Fw

def seenN (A : Ar) (ta : Int) : Nat → List (Int × Bool)
  | 0 => []
  | n + 1 => alPut (seenN A ta n) (A.rawF (ta + n)) true

theorem seenN_in (A : Ar) (ta h : Int) : ∀ n, inS (seenN A ta n) h = true ↔ ∃ i : Nat, i < n ∧ A.rawF (ta + i) = h
  | 0 => by constructor
            · intro h; cases h
            · rintro ⟨i, h, _⟩; omega
  | n + 1 => by
    have ih := seenN_in A ta h n
    unfold inS at ih ⊢
    unfold seenN
    rw [alGet_put]
    by_cases e : h = A.rawF (ta + n)
    · rw [if_pos e]
      refine ⟨fun _ => ⟨n, by omega, e.symm⟩, fun _ => rfl⟩
    · rw [if_neg e, ih]
      constructor
      · rintro ⟨i, h1, h2⟩; exact ⟨i, by omega, h2⟩
      · rintro ⟨i, h1, h2⟩
        by_cases e2 : i = n
        · subst e2; exact (e h2.symm).elim
        · exact ⟨i, by omega, h2⟩

section
variable {A : Ar} {p : Pl} {w m : Int} {S : Sg}

def scN (A : Ar) (tw ta : Int) (p : Pl) (who : Int) (xs : List Int) (n : Nat) : Sc := { newSc tw ta p who xs with seen := seenN A ta n, word := n }

theorem tick_later {A : Ar} {i : Int} (h : A.rawOk i) (h0 : 0 ≤ A.uses) (h1 : A.uses ≤ 1000000000) : A.touchR i = A.later 1 := by
  rw [touchR_yes h]
  unfold Ar.tick Ar.later
  rw [w64_in (by omega) (by omega)]
theorem later_add (A : Ar) (a b : Int) : (A.later a).later b = A.later (a + b) := by unfold Ar.later; dsimp only; rw [Int.add_assoc]

theorem words_path {tw ta who : Int} {xs : List Int} (tb : 1 ≤ tw ∧ tw ≤ 1000) (ll : xs.length ≤ 1000) (h0 : 0 ≤ ta) (h1 : ta + 2 * tw ≤ A.raw.length) (h2 : (A.raw.length : Int) ≤ 1000000) (u0 : 0 ≤ A.uses) (u1 : A.uses ≤ 1000000) :
    ∀ n : Nat, (n : Int) < 2 * tw → mSc.Path n (newSc tw ta p who xs) A (scN A tw ta p who xs n) (A.later n)
  | 0, _ => by rw [show ((0 : Nat) : Int) = 0 from rfl, later0]; exact .nil
  | n + 1, hn => by
    have e : w64 (ta + n) = ta + n := w64_in (by omega) (by omega)
    have e2 : w64 (A.uses + n + 1) = A.uses + n + 1 := w64_in (by omega) (by omega)
    refine (words_path tb ll h0 h1 h2 u0 u1 n (by omega)).trans (.cons (x1 := scN A tw ta p who xs (n + 1)) (D1 := A.later ((n + 1 : Nat) : Int)) ⟨tb, by show (0 : Int) ≤ n; omega, ll, fun _ => .inl ⟨by show (n : Int) < 2 * tw; omega, rfl, rfl, rfl⟩⟩ ?_ ?_ rfl .nil)
    · show Sc.step (scN A tw ta p who xs n) (A.later n) = _
      unfold Sc.step
      rw [if_neg (show ¬ (scN A tw ta p who xs n).ended = true by intro h; cases h)]
      have en : (scN A tw ta p who xs n).word = n := rfl
      have et : (scN A tw ta p who xs n).ta = ta := rfl
      have ew : (scN A tw ta p who xs n).tw = tw := rfl
      rw [en, et, ew, if_pos (show (n : Int) < 2 * tw by omega), if_neg (by omega), e, tick_later (A := A.later n) (i := ta + n) ⟨by omega, by show ta + n < (A.raw.length : Int); omega⟩ (by show 0 ≤ A.uses + n; omega) (by show A.uses + n ≤ _; omega), later_add]
      unfold Sc.word1
      rw [en, et, e]
      rfl
    · show A.uses + ((n + 1 : Nat) : Int) ≤ w64 (A.uses + n + 1)
      rw [e2]; omega

def gone (A : Ar) (tw ta : Int) (xs : List Int) : List Int := xs.filter fun h => !inS (seenN A ta (2 * tw).toNat) h
def lft (A : Ar) (tw ta : Int) (xs : List Int) : List Int := xs.filter (inS (seenN A ta (2 * tw).toNat))

theorem Swept.refl {who : Int} (X : SL A p w m S) (h : A.wf) : Swept A p w m S who [] A S := ⟨.refl h, X, fun k => by rw [if_neg (by simp)], rfl, by simp, by simp, rfl⟩

theorem scan_solo {tw ta who : Int} {xs : List Int} (X : SL A p w m S) (hwf : A.wf) (tb : 1 ≤ tw ∧ tw ≤ 1000) (ll : xs.length ≤ 1000) (h0 : 0 ≤ ta) (h1 : ta + 2 * tw ≤ A.raw.length) (h2 : (A.raw.length : Int) ≤ 1000000) (u1 : A.uses ≤ 900000)
    (wh : 0 ≤ who ∧ who < w) (nd : xs.Nodup) (nr : 8 * xs.length ≤ A.nR) (hh : ∀ h ∈ xs, A.stF h = 2 ∧ opC h = 0) :
    ∃ A' S' m', mSc.Runs (1 + 3 * (gone A tw ta xs).length) (scN A tw ta p who xs ((2 * tw).toNat - 1)) (A.later (2 * tw - 1)) m' A' ∧ m'.left = lft A tw ta xs ∧ m'.ended = true ∧ Swept (A.later (2 * tw)) p w m S who (gone A tw ta xs) A' S' := by
  have u0 := X.F.us
  have e : w64 (ta + (2 * tw - 1)) = ta + (2 * tw - 1) := w64_in (by omega) (by omega)
  have e2 : w64 (A.uses + (2 * tw - 1) + 1) = A.uses + (2 * tw - 1) + 1 := w64_in (by omega) (by omega)
  obtain ⟨n, hn⟩ : ∃ n : Nat, (2 * tw).toNat = n + 1 := ⟨(2 * tw).toNat - 1, by omega⟩
  have hn1 : (n : Int) = 2 * tw - 1 := by omega
  rw [hn, Nat.add_sub_cancel, ← hn1]
  rw [← hn1] at e e2
  let B : Sc := ⟨tw, ta, p, who, n + 1, xs, seenN A ta (n + 1), true, [], lft A tw ta xs, false⟩
  have hgo : xs.filter (fun h => !inS (seenN A ta (n + 1)) h) = gone A tw ta xs := by unfold gone; rw [hn]
  have hlf : xs.filter (inS (seenN A ta (n + 1))) = lft A tw ta xs := by unfold lft; rw [hn]
  have hB : B.base := ⟨tb, by show ((n : Int) + 1) = 2 * tw; omega, ll, rfl⟩
  have hst : mSc.step (scN A tw ta p who xs n) (A.later n) = (B.on ((gone A tw ta xs).map (newFe p who)), A.later (2 * tw)) := by
    show Sc.step (scN A tw ta p who xs n) (A.later n) = _
    unfold Sc.step
    rw [if_neg (show ¬ (scN A tw ta p who xs n).ended = true by intro h; cases h)]
    have en : (scN A tw ta p who xs n).word = n := rfl
    have et : (scN A tw ta p who xs n).ta = ta := rfl
    have ew : (scN A tw ta p who xs n).tw = tw := rfl
    rw [en, et, ew, if_pos (show (n : Int) < 2 * tw by omega), if_pos (by omega), e, tick_later (A := A.later n) (i := ta + n) ⟨by omega, by show ta + n < (A.raw.length : Int); omega⟩ (by show 0 ≤ A.uses + n; omega) (by show A.uses + n ≤ _; omega), later_add, show (n : Int) + 1 = 2 * tw by omega]
    refine Prod.ext ?_ rfl
    have hs : (scN A tw ta p who xs n).word1 (A.later n) = ⟨tw, ta, p, who, n + 1, xs, seenN A ta (n + 1), false, [], [], false⟩ := by
      unfold Sc.word1
      rw [en, et, e]; rfl
    dsimp only
    rw [hs]
    show Sc.mk tw ta p who (n + 1) xs (seenN A ta (n + 1)) true (((xs.take xs.length).filter fun h => !inS (seenN A ta (n + 1)) h).map (newFe p who)) ((xs.take xs.length).filter (inS (seenN A ta (n + 1)))) (decide ((((xs.take xs.length).filter fun h => !inS (seenN A ta (n + 1)) h).map (newFe p who)) = [])) = _
    rw [List.take_length, hgo, hlf]
  have iv : mSc.inv (scN A tw ta p who xs n) (A.later n) := ⟨tb, by show (0 : Int) ≤ n; omega, ll, fun _ => .inl ⟨by show (n : Int) < 2 * tw; omega, rfl, rfl, rfl⟩⟩
  have hu : (A.later (2 * tw)).uses ≤ w64 ((A.later n).uses + 1) := by
    show A.uses + 2 * tw ≤ w64 (A.uses + n + 1)
    rw [e2]; omega
  have hle : (gone A tw ta xs).length ≤ xs.length := List.length_filter_le _ _
  by_cases hg : gone A tw ta xs = []
  · refine ⟨A.later (2 * tw), S, B.on [], ?_, rfl, rfl, ?_⟩
    · rw [hg] at hst ⊢
      exact .one iv hst hu rfl
    · rw [hg]; exact .refl (X.later (by omega)) (later_wf hwf _)
  · obtain ⟨A', S', r, W⟩ := sweep hB (p := p) (w := w) (mm := m) wh (gone A tw ta xs) (A.later (2 * tw)) S hg (nd.filter _) (X.later (by omega)) (later_wf hwf _) (by show A.uses + 2 * tw + _ ≤ _; omega) (by show _ ≤ A.nR; omega) fun h hm => by
      have := hh h (List.mem_filter.1 hm).1
      exact ⟨this.1, this.2⟩
    refine ⟨A', S', B.on [], ?_, rfl, rfl, W⟩
    rw [Nat.add_comm]
    refine .more iv hst hu ?_ r
    show decide ((gone A tw ta xs).map (newFe p who) = []) = false
    simpa using hg
end
end Go.Proofs.Ytfphgiipekkgdaa

set_option linter.unusedVariables false
set_option linter.unusedSimpArgs false
set_option maxRecDepth 20000
namespace Go.Proofs.Ytfphgiipekkgdaa
open Go Go.Fw

section
variable {A B : Ar} {p : Pl} {w m : Int} {S : Sg} {I : List Nat} {L : Hands} {R : Value → Heap → Prop} {G : Heap} {l : Bl}

/-- A word stored that is no part of the slab. -/
structure OutS (A : Ar) (p : Pl) (w m : Int) (S : Sg) (i v : Int) (B : Ar) : Prop where
  sl : SL B p w m S
  st : ∀ h, B.stF h = A.stF h
  nR : B.nR = A.nR
  nL : B.nL = A.nL
  fa : B.fault = A.fault
  us : B.uses = A.uses + 1
  rl : B.raw.length = A.raw.length
  rf : ∀ j, B.rawF j = if j = i then v else A.rawF j
theorem outS (X : SL A p w m S) {i v : Int} (h : p.carved < i ∧ i < A.raw.length) (hu : A.uses ≤ 1000000000) : OutS A p w m S i v (A.storeR i v) := by
  obtain ⟨p1, p2, p3, p4, p5⟩ := X.places
  have wb := X.wb
  have mb := X.mb
  have us := X.F.us
  have ok : A.rawOk i := ⟨by omega, h.2⟩
  have e : A.storeR i v = (A.later 1).setR i.toNat v := by
    unfold Ar.storeR
    rw [if_pos ok]
    have : A.tick = A.later 1 := by unfold Ar.tick Ar.later; rw [w64_in (by omega) (by omega)]
    rw [this]
  rw [e]
  have rf : ∀ j, ((A.later 1).setR i.toNat v).rawF j = if j = i then v else A.rawF j := fun j => rawF_setR (A := A.later 1) ok
  refine ⟨X.congr (fun j h0 h1 => by rw [rf, if_neg (by omega)]) (by show (A.raw.set _ _).length = _; rw [List.length_set]) (by show A.uses ≤ A.uses + 1; omega) rfl (fun h => stF_slots rfl h) rfl rfl rfl rfl rfl rfl rfl rfl, fun h => stF_slots rfl h, rfl, rfl, rfl, rfl, by show (A.raw.set _ _).length = _; rw [List.length_set], rf⟩

theorem stF_ne0 {h : Int} (hs : A.stF h ≠ 0) : h ≠ 0 := fun e => by
  have := stF_ok hs
  rw [e] at this; revert this; decide

/-- A whole scan. -/
theorem scan_all {tw ta who : Int} {xs : List Int} (X : SL A p w m S) (hwf : A.wf) (tb : 1 ≤ tw ∧ tw ≤ 1000) (ll : xs.length ≤ 1000) (h0 : 0 ≤ ta) (h1 : ta + 2 * tw ≤ A.raw.length) (h2 : (A.raw.length : Int) ≤ 1000000) (u1 : A.uses ≤ 900000)
    (wh : 0 ≤ who ∧ who < w) (nd : xs.Nodup) (nr : 8 * xs.length ≤ A.nR) (hh : ∀ h ∈ xs, A.stF h = 2 ∧ opC h = 0) :
    ∃ A' S' m' n, mSc.Runs n (newSc tw ta p who xs) A m' A' ∧ n = 2 * tw.toNat + 3 * (gone A tw ta xs).length ∧ m'.left = lft A tw ta xs ∧ m'.ended = true ∧ Swept (A.later (2 * tw)) p w m S who (gone A tw ta xs) A' S' := by
  obtain ⟨A', S', m', r, q1, q2, q3⟩ := scan_solo X hwf tb ll h0 h1 h2 u1 wh nd nr hh
  have pth := words_path (p := p) (who := who) (xs := xs) tb ll h0 h1 h2 X.F.us (by omega) ((2 * tw).toNat - 1) (by omega)
  have e : (((2 * tw).toNat - 1 : Nat) : Int) = 2 * tw - 1 := by omega
  rw [e] at pth
  exact ⟨A', S', m', _, pth.run r, by omega, q1, q2, q3⟩
end
end Go.Proofs.Ytfphgiipekkgdaa

set_option linter.unusedVariables false
set_option linter.unusedSimpArgs false
set_option maxRecDepth 20000
namespace Go.Proofs.Ytfphgiipekkgdaa
open Go Go.Fw

def plCells (p : Pl) : List Value := [.int .i64 p.work, .int .i64 p.heads, .int .i64 p.links, .int .i64 p.gens, .int .i64 p.carved]
theorem ea_some (a : Addr) : opS Try.prog (.binOp .eql ty_p_slab_Alloc (.tmp 0) (.const (.pointer none)) ty_p_slab_Alloc) ty_bool [(.pointer (some a))] = .pure (.value (.bool false)) := by kernel_rfl
theorem bne0 {x : Int} (h : x ≠ 0) : ((x : Int) != 0) = true := bne_iff_ne.2 h

section
variable {L : Hands} {R : Value → Heap → Prop} {H : Heap}

/-- Places, and an arena for them. -/
theorem w_places {w m : Int} {k : Option Addr → Addr → Tree} (wb : 1 ≤ w ∧ w ≤ 100) (mb : 0 ≤ m ∧ m ≤ 60000)
    (h : ∀ (A : Ar) (b : Nat), Aw A.ids A → (∀ x ∈ A.ids, H x = none) → Ok A.ids H (keys [(b, oc ty_free_Place (plCells (plOf w m)))]) → SL A (plOf w m) w m ⟨fun _ => [], 0, fun _ => 0, fun _ => -1, 0⟩ → A.fault = false → A.uses = 0 → A.nL = 0 → A.nR = 0 →
      wp Try.prog (k (aI A.ids) ⟨b, 0, none⟩) L (own A [(b, oc ty_free_Place (plCells (plOf w m)))] H) R) :
    wp Try.prog (.call f_free_Raw [(.int .i64 w), (.int .i64 m)] (.tup [(.agg [(.int .i64), (.int .i64), (.int .i64), (.int .i64), (.int .i64)]), (.leaf (.int .i64))]) fun x12 =>
      .newP (.cells #[(.int .i64 0), (.int .i64 0), (.int .i64 0), (.int .i64 0), (.int .i64 0)] ty_free_Place) fun x1 =>
      .stA x1 [(.int .i64 x12.1.1), (.int .i64 x12.1.2.1), (.int .i64 x12.1.2.2.1), (.int .i64 x12.1.2.2.2.1), (.int .i64 x12.1.2.2.2.2.1)] <|
      .call f_arena_New [(.int .i64 x12.2.1), (.int .i64 m), (.bool false)] (.one (.leaf .ptr)) fun x16 => k x16 x1) L H R := by
  refine w_Raw5 ⟨by omega, by omega⟩ ⟨by omega, by omega⟩ ?_
  have ok0 : Ok0 H (keys []) := ⟨.nil, fun b h => (by cases h)⟩
  refine p_newP (l := []) ok0 fun b ok0 => ?_
  refine p_stA 0 ok0 rfl rfl rfl rfl ?_
  dsimp only
  refine w_New (l := [(b, oc ty_free_Place (plCells (plOf w m)))]) ok0 ⟨by omega, by omega⟩ ⟨by omega, by omega⟩ fun A hm hA hI ok => ?_
  refine h A b hA hI ok (SL.made hm ?_ wb mb) hm.fault hm.uses hm.nL hm.nR
  show 4 * w + 2 * ((m + 7) / 8) < _
  omega

theorem nnA (a : Addr) : opS Try.prog (.binOp .neq ty_p_arena_Arena (.tmp 0) (.const (.pointer none)) ty_p_arena_Arena) ty_bool [(.pointer (some a))] = .pure (.value (.bool true)) := by kernel_rfl
theorem w_ckA (i : Nat) {A : Ar} {I : List Nat} {l : Bl} {G : Heap} {a : Addr} {b n : Nat} {T : TypeId} {c : List Value} {v : Value} {t : Tree} (hA : Aw I A) (ok : Ok I G (keys l)) (ha : a = ⟨b, 0, none⟩) (hi : l[i]? = some (b, oc T c)) (hn : n = c.length) (hv : v = .agg c.toArray) (h : wp Try.prog t L (own A l G) R) :
    wp Try.prog (.check (ldAS a n 0 #[]) v t) L (own A l G) R := by
  subst ha; subst hn; subst hv
  refine ⟨?_, h⟩
  rw [ldAS_eq]
  refine ldK_still (own_get hA ok hi) _ 0 #[] (by simp) ?_
  show (Value.agg (#[] ++ c.toArray.extract 0 (0 + 0 + c.length)) : Value) = _
  simp
def tbC (w n : Int) : List Value := [.int .i64 w, .int .i64 n]

end
end Go.Proofs.Ytfphgiipekkgdaa

set_option linter.unusedVariables false
set_option maxRecDepth 10000
namespace Go.Proofs.Ytfphgiipekkgdaa
open Go Go.Fw
/- magpie/magpielaw11.SlabFull -/
noncomputable def t_magpielaw11_SlabFull_J0 (y1 : HL Sh1.T [(.leaf .bool), (.leaf (.int .i64)), (.leaf (.int .i64))]) (x48 : Int) (x63 : HL Sh1.T [(.leaf (.int .i64)), (.leaf .bool)]) : Tree :=
  bif x63.2.1 then (
    .qcall f_handle_Size [(.int .i64 x48)] (.one (.leaf (.int .i64))) fun x100 =>
    .again 512 [(.bool y1.1), (.int .i64 (w64 (y1.2.1 + x100))), (.int .i64 (w64 (y1.2.2.1 + 1)))])
  else (
    .again 512 [(.bool y1.1), (.int .i64 y1.2.1), (.int .i64 (w64 (y1.2.2.1 + 1)))])

noncomputable def t_magpielaw11_SlabFull_J7 (x31 : Option Addr) (y1 : HL Sh1.T [(.leaf .bool), (.leaf (.int .i64)), (.leaf (.int .i64))]) (x103 : Option Addr) : Tree :=
  .look (opS Try.prog (.binOp .eql ty_p_slab_Alloc (.tmp 0) (.const (.pointer none)) ty_p_slab_Alloc) ty_bool [(.pointer x103)]) (.one (.leaf .bool)) fun x105 =>
  bif x105 then (
    .ret (.bool false))
  else (
    .call f_magpielaw11_run [(.pointer x31), (.iface ty_p_slab_Alloc (.pointer x103))] (.one (.leaf .bool)) fun x110 =>
    bif (!x110) then (
      .ret (.bool false))
    else (
      .call f_slab_Alloc_Handle [(.pointer x103)] (.tup [(.leaf (.int .i64)), (.leaf .bool)]) fun x115 =>
      bif (!x115.2.1) then (
        .call f_arena_Arena_Count [(.pointer x31)] (.one (.agg [(.int .i64), (.int .i64), (.int .i64), (.int .i64)])) fun x122 =>
        bif ((x122.2.1 : Int) == y1.2.1) then (
          .call f_arena_Arena_Count [(.pointer x31)] (.one (.agg [(.int .i64), (.int .i64), (.int .i64), (.int .i64)])) fun x129 =>
          bif ((x129.1 : Int) == y1.2.1) then (
            .call f_magpielaw11_awake [] (.one (.leaf .bool)) fun x135 =>
            .ret (.bool x135))
          else (
            .ret (.bool false)))
        else (
          .ret (.bool false)))
      else (
        .ret (.bool false))))

@[reducible] def t_magpielaw11_SlabFull_L1_sh : List Sh1 := [(.leaf .bool), (.leaf (.int .i64)), (.leaf (.int .i64))]
noncomputable def t_magpielaw11_SlabFull_L1 (p1 : Sl) (x23 : Int) (x6 : Addr) (x31 : Option Addr) (y1 : HL Sh1.T t_magpielaw11_SlabFull_L1_sh) : Tree :=
  bif (decide ((y1.2.2.1 : Int) < ((p1.len : Nat) : Int))) then (
    bif (decide ((y1.2.2.1 : Int) < 60)) then (
      .look (opS Try.prog (.indexAddr ty_s_int (.tmp 0) (.tmp 1)) ty_unit [(.slice p1.a p1.len p1.cap), (.int .i64 y1.2.2.1)]) (.one (.leaf .addr)) fun x46 =>
      .ld x46 (.int .i64) fun x47 =>
      .qcall f_magpielaw00_Place [(.int .i64 x47), (.int .i64 4)] (.one (.leaf (.int .i64))) fun x48 =>
      .ldA x6 [(.int .i64), (.int .i64), (.int .i64), (.int .i64), (.int .i64)] fun x49 =>
      .call f_slab_NewAlloc [(.agg #[(.int .i64 x49.1), (.int .i64 x49.2.1), (.int .i64 x49.2.2.1), (.int .i64 x49.2.2.2.1), (.int .i64 x49.2.2.2.2.1)]), (.int .i64 0), (.int .i64 x48)] (.one (.leaf .ptr)) fun x51 =>
      .look (opS Try.prog (.binOp .eql ty_p_slab_Alloc (.tmp 0) (.const (.pointer none)) ty_p_slab_Alloc) ty_bool [(.pointer x51)]) (.one (.leaf .bool)) fun x53 =>
      bif x53 then (
        .ret (.bool false))
      else (
        .call f_magpielaw11_run [(.pointer x31), (.iface ty_p_slab_Alloc (.pointer x51))] (.one (.leaf .bool)) fun x58 =>
        bif (!x58) then (
          .ret (.bool false))
        else (
          .call f_slab_Alloc_Handle [(.pointer x51)] (.tup [(.leaf (.int .i64)), (.leaf .bool)]) fun x63 =>
          .qcall f_handle_Open [(.int .i64 x63.1)] (.tup [(.leaf (.int .i64)), (.leaf (.int .i64)), (.leaf (.int .i64)), (.leaf .bool)]) fun x68 =>
          .qcall f_handle_Size [(.int .i64 x48)] (.one (.leaf (.int .i64))) fun x76 =>
          bif (!(x63.2.1 == (decide (((w64 (y1.2.1 + x76)) : Int) ≤ x23)))) then (
            .ret (.bool false))
          else (
            bif x63.2.1 then (
              bif ((x68.1 : Int) != y1.2.1) then (
                .ret (.bool false))
              else (
                bif (!x63.2.1) then (
                  bif ((x63.1 : Int) != 0) then (
                    .ret (.bool false))
                  else (
                    t_magpielaw11_SlabFull_J0 y1 x48 x63))
                else (
                  t_magpielaw11_SlabFull_J0 y1 x48 x63)))
            else (
              bif (!x63.2.1) then (
                bif ((x63.1 : Int) != 0) then (
                  .ret (.bool false))
                else (
                  t_magpielaw11_SlabFull_J0 y1 x48 x63))
              else (
                t_magpielaw11_SlabFull_J0 y1 x48 x63))))))
    else (
      .ldA x6 [(.int .i64), (.int .i64), (.int .i64), (.int .i64), (.int .i64)] fun x102 =>
      .call f_slab_NewAlloc [(.agg #[(.int .i64 x102.1), (.int .i64 x102.2.1), (.int .i64 x102.2.2.1), (.int .i64 x102.2.2.2.1), (.int .i64 x102.2.2.2.2.1)]), (.int .i64 0), (.int .i64 7)] (.one (.leaf .ptr)) fun x103 =>
      t_magpielaw11_SlabFull_J7 x31 y1 x103))
  else (
    .ldA x6 [(.int .i64), (.int .i64), (.int .i64), (.int .i64), (.int .i64)] fun x102 =>
    .call f_slab_NewAlloc [(.agg #[(.int .i64 x102.1), (.int .i64 x102.2.1), (.int .i64 x102.2.2.1), (.int .i64 x102.2.2.2.1), (.int .i64 x102.2.2.2.2.1)]), (.int .i64 0), (.int .i64 7)] (.one (.leaf .ptr)) fun x103 =>
    t_magpielaw11_SlabFull_J7 x31 y1 x103)
noncomputable def t_magpielaw11_SlabFull (p0 : Int) (p1 : Sl) : Tree :=
  .qcall f_magpielaw00_Place [(.int .i64 p0), (.int .i64 400)] (.one (.leaf (.int .i64))) fun x23 =>
  .call f_free_Raw [(.int .i64 1), (.int .i64 x23)] (.tup [(.agg [(.int .i64), (.int .i64), (.int .i64), (.int .i64), (.int .i64)]), (.leaf (.int .i64))]) fun x26 =>
  .newP (.cells #[(.int .i64 0), (.int .i64 0), (.int .i64 0), (.int .i64 0), (.int .i64 0)] ty_free_Place) fun x6 =>
  .stA x6 [(.int .i64 x26.1.1), (.int .i64 x26.1.2.1), (.int .i64 x26.1.2.2.1), (.int .i64 x26.1.2.2.2.1), (.int .i64 x26.1.2.2.2.2.1)] <|
  .call f_arena_New [(.int .i64 x26.2.1), (.int .i64 x23), (.bool false)] (.one (.leaf .ptr)) fun x31 =>
  .look (opS Try.prog (.binOp .eql ty_p_arena_Arena (.tmp 0) (.const (.pointer none)) ty_p_arena_Arena) ty_bool [(.pointer x31)]) (.one (.leaf .bool)) fun x33 =>
  bif x33 then (
    .ret (.bool false))
  else (
    .loop 512 t_magpielaw11_SlabFull_L1_sh [(.bool false), (.int .i64 0), (.int .i64 0)] (t_magpielaw11_SlabFull_L1 p1 x23 x6 x31))
theorem t_magpielaw11_SlabFull_eq (p0 : Int) (p1 : Sl) : funcTree Try.prog { quiet := [16, 22, 23, 34, 35, 48, 49, 53, 57, 58, 59, 62, 105], quietTmp := true, fncs := [], ifcs := [] } Try.f3 [(.int .i64 p0), (.slice p1.a p1.len p1.cap)] = t_magpielaw11_SlabFull p0 p1 := by kernel_rfl
theorem t_magpielaw11_SlabFull_spec {p0 : Int} {p1 : Sl} {H : Heap} {R : Value → Heap → Prop} (h : ∀ L, wp Try.prog (t_magpielaw11_SlabFull p0 p1) L H R) : SpecF Try.prog f_magpielaw11_SlabFull #[(.int .i64 p0), (.slice p1.a p1.len p1.cap)] H R :=
  spec_of_tree (cfg := { quiet := [16, 22, 23, 34, 35, 48, 49, 53, 57, 58, 59, 62, 105], quietTmp := true, fncs := [], ifcs := [] }) Try.func3 fun L => (t_magpielaw11_SlabFull_eq p0 p1).symm ▸ h L

/- magpie/magpielaw11.SlabOne -/
noncomputable def t_magpielaw11_SlabOne_J3 (y1 : HL Sh1.T [(.leaf .bool), (.leaf .slice), (.leaf (.int .i64)), (.leaf (.int .i64))]) (x61 : Int) (y2 : HL Sh1.T [(.leaf .bool), (.leaf (.int .i64))]) (x155 : HL Sh1.T [(.leaf (.int .i64)), (.leaf .bool)]) : Tree :=
  bif (!y2.1) then (
    .qcall f_handle_Size [(.int .i64 (Int.tmod (w64 (Int.tdiv x61 8)) 3))] (.one (.leaf (.int .i64))) fun x218 =>
    .newS (.cells #[(.int .i64 x155.1)] ty_int) 1 fun x222 =>
    .act (opS Try.prog (.call { callee := .builtin .append, args := #[(.tmp 0), (.tmp 1)], argTypes := #[ty_s_int, ty_s_int] }) ty_s_int [(.slice y1.2.1.a y1.2.1.len y1.2.1.cap), (.slice x222.a x222.len x222.cap)]) (.one (.leaf .slice)) fun x223 =>
    .again 577 [(.bool y1.1), (.slice x223.a x223.len x223.cap), (.int .i64 (w64 (y1.2.2.1 + x218))), (.int .i64 (w64 (y1.2.2.2.1 + 1)))])
  else (
    .newS (.cells #[(.int .i64 x155.1)] ty_int) 1 fun x222 =>
    .act (opS Try.prog (.call { callee := .builtin .append, args := #[(.tmp 0), (.tmp 1)], argTypes := #[ty_s_int, ty_s_int] }) ty_s_int [(.slice y1.2.1.a y1.2.1.len y1.2.1.cap), (.slice x222.a x222.len x222.cap)]) (.one (.leaf .slice)) fun x223 =>
    .again 577 [(.bool y1.1), (.slice x223.a x223.len x223.cap), (.int .i64 y1.2.2.1), (.int .i64 (w64 (y1.2.2.2.1 + 1)))])

noncomputable def t_magpielaw11_SlabOne_J5 (x44 : Option Addr) (y1 : HL Sh1.T [(.leaf .bool), (.leaf .slice), (.leaf (.int .i64)), (.leaf (.int .i64))]) (x61 : Int) (y2 : HL Sh1.T [(.leaf .bool), (.leaf (.int .i64))]) (x139 : Sl) (x155 : HL Sh1.T [(.leaf (.int .i64)), (.leaf .bool)]) (x160 : HL Sh1.T [(.leaf (.int .i64)), (.leaf (.int .i64)), (.leaf (.int .i64)), (.leaf .bool)]) : Tree :=
  bif (!x155.2.1) then (
    .again 577 [(.bool y1.1), (.slice y1.2.1.a y1.2.1.len y1.2.1.cap), (.int .i64 y1.2.2.1), (.int .i64 (w64 (y1.2.2.2.1 + 1)))])
  else (
    bif ((x160.2.2.1 : Int) != (Int.tmod (w64 (Int.tdiv x61 8)) 3)) then (
      .ret (.bool false))
    else (
      .call f_arena_Arena_State [(.pointer x44), (.int .i64 x155.1)] (.one (.leaf (.int .i64))) fun x190 =>
      bif ((x190 : Int) != 1) then (
        .ret (.bool false))
      else (
        bif (decide ((((x139.len : Nat) : Int) : Int) > 0)) then (
          .look (opS Try.prog (.indexAddr ty_s_int (.tmp 0) (.const (.int .i64 0))) ty_unit [(.slice x139.a x139.len x139.cap)]) (.one (.leaf .addr)) fun x200 =>
          .ld x200 (.int .i64) fun x201 =>
          bif ((x160.1 : Int) != x201) then (
            .ret (.bool false))
          else (
            bif (!y2.1) then (
              bif ((x160.1 : Int) != y1.2.2.1) then (
                .ret (.bool false))
              else (
                t_magpielaw11_SlabOne_J3 y1 x61 y2 x155))
            else (
              t_magpielaw11_SlabOne_J3 y1 x61 y2 x155)))
        else (
          bif (!y2.1) then (
            bif ((x160.1 : Int) != y1.2.2.1) then (
              .ret (.bool false))
            else (
              t_magpielaw11_SlabOne_J3 y1 x61 y2 x155))
          else (
            t_magpielaw11_SlabOne_J3 y1 x61 y2 x155)))))

@[reducible] def t_magpielaw11_SlabOne_L2_sh : List Sh1 := [(.leaf .bool), (.leaf (.int .i64))]
noncomputable def t_magpielaw11_SlabOne_L2 (x31 : Int) (x34 : Int) (x9 : Addr) (x44 : Option Addr) (y1 : HL Sh1.T [(.leaf .bool), (.leaf .slice), (.leaf (.int .i64)), (.leaf (.int .i64))]) (x61 : Int) (x65 : Int) (y2 : HL Sh1.T t_magpielaw11_SlabOne_L2_sh) : Tree :=
  bif (decide ((y2.2.1 : Int) < (w64 (1 + x31)))) then (
    bif y2.1 then (
      .again 1280 [(.bool true), (.int .i64 (w64 (y2.2.1 + 1)))])
    else (
      .ldA x9 [(.int .i64), (.int .i64), (.int .i64), (.int .i64), (.int .i64)] fun x128 =>
      .call f_free_List [(.pointer x44), (.agg #[(.int .i64 x128.1), (.int .i64 x128.2.1), (.int .i64 x128.2.2.1), (.int .i64 x128.2.2.2.1), (.int .i64 x128.2.2.2.2.1)]), (.int .i64 y2.2.1), (.int .i64 (Int.tmod (w64 (Int.tdiv x61 8)) 3))] (.one (.leaf .slice)) fun x131 =>
      .again 1280 [(.bool (decide ((((x131.len : Nat) : Int) : Int) > 0))), (.int .i64 (w64 (y2.2.1 + 1)))]))
  else (
    .ldA x9 [(.int .i64), (.int .i64), (.int .i64), (.int .i64), (.int .i64)] fun x136 =>
    .call f_free_List [(.pointer x44), (.agg #[(.int .i64 x136.1), (.int .i64 x136.2.1), (.int .i64 x136.2.2.1), (.int .i64 x136.2.2.2.1), (.int .i64 x136.2.2.2.2.1)]), (.int .i64 x65), (.int .i64 (Int.tmod (w64 (Int.tdiv x61 8)) 3))] (.one (.leaf .slice)) fun x139 =>
    .ldA x9 [(.int .i64), (.int .i64), (.int .i64), (.int .i64), (.int .i64)] fun x140 =>
    .call f_slab_NewAlloc [(.agg #[(.int .i64 x140.1), (.int .i64 x140.2.1), (.int .i64 x140.2.2.1), (.int .i64 x140.2.2.2.1), (.int .i64 x140.2.2.2.2.1)]), (.int .i64 x65), (.int .i64 (Int.tmod (w64 (Int.tdiv x61 8)) 3))] (.one (.leaf .ptr)) fun x143 =>
    .look (opS Try.prog (.binOp .eql ty_p_slab_Alloc (.tmp 0) (.const (.pointer none)) ty_p_slab_Alloc) ty_bool [(.pointer x143)]) (.one (.leaf .bool)) fun x145 =>
    bif x145 then (
      .ret (.bool false))
    else (
      .call f_magpielaw11_run [(.pointer x44), (.iface ty_p_slab_Alloc (.pointer x143))] (.one (.leaf .bool)) fun x150 =>
      bif (!x150) then (
        .ret (.bool false))
      else (
        .call f_slab_Alloc_Handle [(.pointer x143)] (.tup [(.leaf (.int .i64)), (.leaf .bool)]) fun x155 =>
        .qcall f_handle_Open [(.int .i64 x155.1)] (.tup [(.leaf (.int .i64)), (.leaf (.int .i64)), (.leaf (.int .i64)), (.leaf .bool)]) fun x160 =>
        .qcall f_handle_Size [(.int .i64 (Int.tmod (w64 (Int.tdiv x61 8)) 3))] (.one (.leaf (.int .i64))) fun x167 =>
        bif y2.1 then (
          bif (!(x155.2.1 == true)) then (
            .ret (.bool false))
          else (
            bif (!(x155.2.1 == x160.2.2.2.1)) then (
              .ret (.bool false))
            else (
              t_magpielaw11_SlabOne_J5 x44 y1 x61 y2 x139 x155 x160)))
        else (
          bif (!(x155.2.1 == (decide (((w64 (y1.2.2.1 + x167)) : Int) ≤ (w64 (8 * x34)))))) then (
            .ret (.bool false))
          else (
            bif (!(x155.2.1 == x160.2.2.2.1)) then (
              .ret (.bool false))
            else (
              t_magpielaw11_SlabOne_J5 x44 y1 x61 y2 x139 x155 x160))))))

noncomputable def t_magpielaw11_SlabOne_J13 (x9 : Addr) (x44 : Option Addr) (y1 : HL Sh1.T [(.leaf .bool), (.leaf .slice), (.leaf (.int .i64)), (.leaf (.int .i64))]) : Tree :=
  .call f_arena_Arena_Fault [(.pointer x44)] (.one (.leaf .bool)) fun x225 =>
  bif (!x225) then (
    .ld (x9.add 4) (.int .i64) fun x230 =>
    .call f_arena_Arena_Raw [(.pointer x44), (.int .i64 x230)] (.one (.leaf (.int .i64))) fun x231 =>
    bif ((x231 : Int) == y1.2.2.1) then (
      .call f_magpielaw11_awake [] (.one (.leaf .bool)) fun x236 =>
      .ret (.bool x236))
    else (
      .ret (.bool false)))
  else (
    .ret (.bool false))

@[reducible] def t_magpielaw11_SlabOne_L1_sh : List Sh1 := [(.leaf .bool), (.leaf .slice), (.leaf (.int .i64)), (.leaf (.int .i64))]
noncomputable def t_magpielaw11_SlabOne_L1 (p2 : Sl) (x31 : Int) (x34 : Int) (x9 : Addr) (x44 : Option Addr) (y1 : HL Sh1.T t_magpielaw11_SlabOne_L1_sh) : Tree :=
  bif (decide ((y1.2.2.2.1 : Int) < ((p2.len : Nat) : Int))) then (
    bif (decide ((y1.2.2.2.1 : Int) < 60)) then (
      .look (opS Try.prog (.indexAddr ty_s_int (.tmp 0) (.tmp 1)) ty_unit [(.slice p2.a p2.len p2.cap), (.int .i64 y1.2.2.2.1)]) (.one (.leaf .addr)) fun x59 =>
      .ld x59 (.int .i64) fun x60 =>
      .qcall f_magpielaw00_Place [(.int .i64 x60), (.int .i64 1048576)] (.one (.leaf (.int .i64))) fun x61 =>
      .look (opS Try.prog (.binOp .rem ty_int (.tmp 0) (.tmp 1) ty_int) ty_int [(.int .i64 (w64 (Int.tdiv x61 2))), (.int .i64 (w64 (1 + x31)))]) (.one (.leaf (.int .i64))) fun x65 =>
      bif (((Int.tmod x61 2) : Int) == 1) then (
        bif (decide ((((y1.2.1.len : Nat) : Int) : Int) > 0)) then (
          .look (opS Try.prog (.binOp .rem ty_int (.tmp 0) (.tmp 1) ty_int) ty_int [(.int .i64 (w64 (Int.tdiv x61 24))), (.int .i64 ((y1.2.1.len : Nat) : Int))]) (.one (.leaf (.int .i64))) fun x81 =>
          .look (opS Try.prog (.indexAddr ty_s_int (.tmp 0) (.tmp 1)) ty_unit [(.slice y1.2.1.a y1.2.1.len y1.2.1.cap), (.int .i64 x81)]) (.one (.leaf .addr)) fun x85 =>
          .ld x85 (.int .i64) fun x86 =>
          .call f_arena_Arena_Retire [(.pointer x44), (.int .i64 x86)] (.one (.leaf .bool)) fun x87 =>
          bif (!x87) then (
            .ret (.bool false))
          else (
            .ldA x9 [(.int .i64), (.int .i64), (.int .i64), (.int .i64), (.int .i64)] fun x91 =>
            .look (opS Try.prog (.indexAddr ty_s_int (.tmp 0) (.tmp 1)) ty_unit [(.slice y1.2.1.a y1.2.1.len y1.2.1.cap), (.int .i64 x81)]) (.one (.leaf .addr)) fun x95 =>
            .ld x95 (.int .i64) fun x96 =>
            .call f_slab_NewFree [(.agg #[(.int .i64 x91.1), (.int .i64 x91.2.1), (.int .i64 x91.2.2.1), (.int .i64 x91.2.2.2.1), (.int .i64 x91.2.2.2.2.1)]), (.int .i64 x65), (.int .i64 x96)] (.one (.leaf .ptr)) fun x97 =>
            .call f_magpielaw11_run [(.pointer x44), (.iface ty_p_slab_Free (.pointer x97))] (.one (.leaf .bool)) fun x99 =>
            bif (!x99) then (
              .ret (.bool false))
            else (
              .look (opS Try.prog (.indexAddr ty_s_int (.tmp 0) (.tmp 1)) ty_unit [(.slice y1.2.1.a y1.2.1.len y1.2.1.cap), (.int .i64 x81)]) (.one (.leaf .addr)) fun x106 =>
              .ld x106 (.int .i64) fun x107 =>
              .call f_arena_Arena_State [(.pointer x44), (.int .i64 x107)] (.one (.leaf (.int .i64))) fun x108 =>
              bif ((x108 : Int) != 0) then (
                .ret (.bool false))
              else (
                .look (opS Try.prog (.slice ty_s_int (.tmp 0) none (some (.tmp 1)) none) ty_s_int [(.slice y1.2.1.a y1.2.1.len y1.2.1.cap), (.int .i64 x81)]) (.one (.leaf .slice)) fun x113 =>
                .look (opS Try.prog (.slice ty_s_int (.tmp 0) (some (.tmp 1)) none none) ty_s_int [(.slice y1.2.1.a y1.2.1.len y1.2.1.cap), (.int .i64 (w64 (x81 + 1)))]) (.one (.leaf .slice)) fun x118 =>
                .act (opS Try.prog (.call { callee := .builtin .append, args := #[(.const (.slice none 0 0)), (.tmp 0)], argTypes := #[ty_s_int, ty_s_int] }) ty_s_int [(.slice x113.a x113.len x113.cap)]) (.one (.leaf .slice)) fun x114 =>
                .check (opS Try.prog (.slice ty_s_int (.tmp 0) (some (.tmp 1)) none none) ty_s_int [(.slice y1.2.1.a y1.2.1.len y1.2.1.cap), (.int .i64 (w64 (x81 + 1)))]) (.slice x118.a x118.len x118.cap) <|
                .act (opS Try.prog (.call { callee := .builtin .append, args := #[(.tmp 0), (.tmp 1)], argTypes := #[ty_s_int, ty_s_int] }) ty_s_int [(.slice x114.a x114.len x114.cap), (.slice x118.a x118.len x118.cap)]) (.one (.leaf .slice)) fun x119 =>
                .again 577 [(.bool y1.1), (.slice x119.a x119.len x119.cap), (.int .i64 y1.2.2.1), (.int .i64 (w64 (y1.2.2.2.1 + 1)))]))))
        else (
          .loop 1280 t_magpielaw11_SlabOne_L2_sh [(.bool false), (.int .i64 0)] (t_magpielaw11_SlabOne_L2 x31 x34 x9 x44 y1 x61 x65)))
      else (
        .loop 1280 t_magpielaw11_SlabOne_L2_sh [(.bool false), (.int .i64 0)] (t_magpielaw11_SlabOne_L2 x31 x34 x9 x44 y1 x61 x65)))
    else (
      t_magpielaw11_SlabOne_J13 x9 x44 y1))
  else (
    t_magpielaw11_SlabOne_J13 x9 x44 y1)
noncomputable def t_magpielaw11_SlabOne (p0 : Int) (p1 : Int) (p2 : Sl) : Tree :=
  .qcall f_magpielaw00_Place [(.int .i64 p0), (.int .i64 4)] (.one (.leaf (.int .i64))) fun x31 =>
  .qcall f_magpielaw00_Place [(.int .i64 p1), (.int .i64 40)] (.one (.leaf (.int .i64))) fun x34 =>
  .call f_free_Raw [(.int .i64 (w64 (1 + x31))), (.int .i64 (w64 (8 * x34)))] (.tup [(.agg [(.int .i64), (.int .i64), (.int .i64), (.int .i64), (.int .i64)]), (.leaf (.int .i64))]) fun x39 =>
  .newP (.cells #[(.int .i64 0), (.int .i64 0), (.int .i64 0), (.int .i64 0), (.int .i64 0)] ty_free_Place) fun x9 =>
  .stA x9 [(.int .i64 x39.1.1), (.int .i64 x39.1.2.1), (.int .i64 x39.1.2.2.1), (.int .i64 x39.1.2.2.2.1), (.int .i64 x39.1.2.2.2.2.1)] <|
  .call f_arena_New [(.int .i64 x39.2.1), (.int .i64 (w64 (8 * x34))), (.bool false)] (.one (.leaf .ptr)) fun x44 =>
  .look (opS Try.prog (.binOp .eql ty_p_arena_Arena (.tmp 0) (.const (.pointer none)) ty_p_arena_Arena) ty_bool [(.pointer x44)]) (.one (.leaf .bool)) fun x46 =>
  bif x46 then (
    .ret (.bool false))
  else (
    .loop 577 t_magpielaw11_SlabOne_L1_sh [(.bool false), (.slice none 0 0), (.int .i64 0), (.int .i64 0)] (t_magpielaw11_SlabOne_L1 p2 x31 x34 x9 x44))
theorem t_magpielaw11_SlabOne_eq (p0 : Int) (p1 : Int) (p2 : Sl) : funcTree Try.prog { quiet := [16, 22, 23, 34, 35, 48, 49, 53, 57, 58, 59, 62, 105], quietTmp := true, fncs := [], ifcs := [] } Try.f4 [(.int .i64 p0), (.int .i64 p1), (.slice p2.a p2.len p2.cap)] = t_magpielaw11_SlabOne p0 p1 p2 := by kernel_rfl
theorem t_magpielaw11_SlabOne_spec {p0 : Int} {p1 : Int} {p2 : Sl} {H : Heap} {R : Value → Heap → Prop} (h : ∀ L, wp Try.prog (t_magpielaw11_SlabOne p0 p1 p2) L H R) : SpecF Try.prog f_magpielaw11_SlabOne #[(.int .i64 p0), (.int .i64 p1), (.slice p2.a p2.len p2.cap)] H R :=
  spec_of_tree (cfg := { quiet := [16, 22, 23, 34, 35, 48, 49, 53, 57, 58, 59, 62, 105], quietTmp := true, fncs := [], ifcs := [] }) Try.func4 fun L => (t_magpielaw11_SlabOne_eq p0 p1 p2).symm ▸ h L

/- magpie/magpielaw11.SlabAgain -/
@[reducible] def t_magpielaw11_SlabAgain_L1_sh : List Sh1 := [(.leaf .bool), (.leaf (.int .i64))]
noncomputable def t_magpielaw11_SlabAgain_L1 (p2 : Int) (p4 : Int) (x26 : Int) (x29 : Int) (x13 : Addr) (x36 : Option Addr) (x41 : Int) (y1 : HL Sh1.T t_magpielaw11_SlabAgain_L1_sh) : Tree :=
  .qcall f_magpielaw00_Place [(.int .i64 p4), (.int .i64 10)] (.one (.leaf (.int .i64))) fun x44 =>
  bif (decide ((y1.2.1 : Int) ≤ (w64 (1 + x44)))) then (
    .ldA x13 [(.int .i64), (.int .i64), (.int .i64), (.int .i64), (.int .i64)] fun x49 =>
    .qcall f_magpielaw00_Place [(.int .i64 p2), (.int .i64 (w64 (2 + x26)))] (.one (.leaf (.int .i64))) fun x54 =>
    .look (opS Try.prog (.binOp .rem ty_int (.tmp 0) (.tmp 1) ty_int) ty_int [(.int .i64 (w64 (x41 + (w64 (y1.2.1 * (w64 (1 + x54))))))), (.int .i64 (w64 (2 + x26)))]) (.one (.leaf (.int .i64))) fun x59 =>
    .call f_slab_NewAlloc [(.agg #[(.int .i64 x49.1), (.int .i64 x49.2.1), (.int .i64 x49.2.2.1), (.int .i64 x49.2.2.2.1), (.int .i64 x49.2.2.2.2.1)]), (.int .i64 x59), (.int .i64 x29)] (.one (.leaf .ptr)) fun x61 =>
    .look (opS Try.prog (.binOp .eql ty_p_slab_Alloc (.tmp 0) (.const (.pointer none)) ty_p_slab_Alloc) ty_bool [(.pointer x61)]) (.one (.leaf .bool)) fun x63 =>
    bif x63 then (
      .ret (.bool false))
    else (
      .call f_magpielaw11_run [(.pointer x36), (.iface ty_p_slab_Alloc (.pointer x61))] (.one (.leaf .bool)) fun x68 =>
      bif (!x68) then (
        .ret (.bool false))
      else (
        .call f_slab_Alloc_Handle [(.pointer x61)] (.tup [(.leaf (.int .i64)), (.leaf .bool)]) fun x73 =>
        .qcall f_handle_Open [(.int .i64 x73.1)] (.tup [(.leaf (.int .i64)), (.leaf (.int .i64)), (.leaf (.int .i64)), (.leaf .bool)]) fun x78 =>
        bif (!x73.2.1) then (
          .ret (.bool false))
        else (
          bif (!x78.2.2.2.1) then (
            .ret (.bool false))
          else (
            bif ((x78.1 : Int) != 0) then (
              .ret (.bool false))
            else (
              bif ((x78.2.1 : Int) != y1.2.1) then (
                .ret (.bool false))
              else (
                bif ((x78.2.2.1 : Int) != x29) then (
                  .ret (.bool false))
                else (
                  .call f_arena_Arena_Retire [(.pointer x36), (.int .i64 x73.1)] (.one (.leaf .bool)) fun x106 =>
                  bif (!x106) then (
                    .ret (.bool false))
                  else (
                    .ldA x13 [(.int .i64), (.int .i64), (.int .i64), (.int .i64), (.int .i64)] fun x111 =>
                    .call f_slab_NewFree [(.agg #[(.int .i64 x111.1), (.int .i64 x111.2.1), (.int .i64 x111.2.2.1), (.int .i64 x111.2.2.2.1), (.int .i64 x111.2.2.2.2.1)]), (.int .i64 x41), (.int .i64 x73.1)] (.one (.leaf .ptr)) fun x114 =>
                    .call f_magpielaw11_run [(.pointer x36), (.iface ty_p_slab_Free (.pointer x114))] (.one (.leaf .bool)) fun x116 =>
                    bif (!x116) then (
                      .ret (.bool false))
                    else (
                      .again 576 [(.bool y1.1), (.int .i64 (w64 (y1.2.1 + 1)))]))))))))))
  else (
    .ld (x13.add 4) (.int .i64) fun x121 =>
    .call f_arena_Arena_Raw [(.pointer x36), (.int .i64 x121)] (.one (.leaf (.int .i64))) fun x122 =>
    .qcall f_handle_Size [(.int .i64 x29)] (.one (.leaf (.int .i64))) fun x124 =>
    bif ((x122 : Int) == x124) then (
      .call f_arena_Arena_Fault [(.pointer x36)] (.one (.leaf .bool)) fun x128 =>
      bif (!x128) then (
        .ldA x13 [(.int .i64), (.int .i64), (.int .i64), (.int .i64), (.int .i64)] fun x133 =>
        .call f_free_List [(.pointer x36), (.agg #[(.int .i64 x133.1), (.int .i64 x133.2.1), (.int .i64 x133.2.2.1), (.int .i64 x133.2.2.2.1), (.int .i64 x133.2.2.2.2.1)]), (.int .i64 x41), (.int .i64 x29)] (.one (.leaf .slice)) fun x136 =>
        bif ((((x136.len : Nat) : Int) : Int) == 1) then (
          .call f_magpielaw11_awake [] (.one (.leaf .bool)) fun x141 =>
          .ret (.bool x141))
        else (
          .ret (.bool false)))
      else (
        .ret (.bool false)))
    else (
      .ret (.bool false)))
noncomputable def t_magpielaw11_SlabAgain (p0 : Int) (p1 : Int) (p2 : Int) (p3 : Int) (p4 : Int) : Tree :=
  .qcall f_magpielaw00_Place [(.int .i64 p0), (.int .i64 4)] (.one (.leaf (.int .i64))) fun x26 =>
  .qcall f_magpielaw00_Place [(.int .i64 p3), (.int .i64 4)] (.one (.leaf (.int .i64))) fun x29 =>
  .call f_free_Raw [(.int .i64 (w64 (2 + x26))), (.int .i64 64)] (.tup [(.agg [(.int .i64), (.int .i64), (.int .i64), (.int .i64), (.int .i64)]), (.leaf (.int .i64))]) fun x32 =>
  .newP (.cells #[(.int .i64 0), (.int .i64 0), (.int .i64 0), (.int .i64 0), (.int .i64 0)] ty_free_Place) fun x13 =>
  .stA x13 [(.int .i64 x32.1.1), (.int .i64 x32.1.2.1), (.int .i64 x32.1.2.2.1), (.int .i64 x32.1.2.2.2.1), (.int .i64 x32.1.2.2.2.2.1)] <|
  .call f_arena_New [(.int .i64 x32.2.1), (.int .i64 64), (.bool false)] (.one (.leaf .ptr)) fun x36 =>
  .look (opS Try.prog (.binOp .eql ty_p_arena_Arena (.tmp 0) (.const (.pointer none)) ty_p_arena_Arena) ty_bool [(.pointer x36)]) (.one (.leaf .bool)) fun x38 =>
  bif x38 then (
    .ret (.bool false))
  else (
    .qcall f_magpielaw00_Place [(.int .i64 p1), (.int .i64 (w64 (2 + x26)))] (.one (.leaf (.int .i64))) fun x41 =>
    .loop 576 t_magpielaw11_SlabAgain_L1_sh [(.bool false), (.int .i64 1)] (t_magpielaw11_SlabAgain_L1 p2 p4 x26 x29 x13 x36 x41))
theorem t_magpielaw11_SlabAgain_eq (p0 : Int) (p1 : Int) (p2 : Int) (p3 : Int) (p4 : Int) : funcTree Try.prog { quiet := [16, 22, 23, 34, 35, 48, 49, 53, 57, 58, 59, 62, 105], quietTmp := true, fncs := [], ifcs := [] } Try.f5 [(.int .i64 p0), (.int .i64 p1), (.int .i64 p2), (.int .i64 p3), (.int .i64 p4)] = t_magpielaw11_SlabAgain p0 p1 p2 p3 p4 := by kernel_rfl
theorem t_magpielaw11_SlabAgain_spec {p0 : Int} {p1 : Int} {p2 : Int} {p3 : Int} {p4 : Int} {H : Heap} {R : Value → Heap → Prop} (h : ∀ L, wp Try.prog (t_magpielaw11_SlabAgain p0 p1 p2 p3 p4) L H R) : SpecF Try.prog f_magpielaw11_SlabAgain #[(.int .i64 p0), (.int .i64 p1), (.int .i64 p2), (.int .i64 p3), (.int .i64 p4)] H R :=
  spec_of_tree (cfg := { quiet := [16, 22, 23, 34, 35, 48, 49, 53, 57, 58, 59, 62, 105], quietTmp := true, fncs := [], ifcs := [] }) Try.func5 fun L => (t_magpielaw11_SlabAgain_eq p0 p1 p2 p3 p4).symm ▸ h L

/- magpie/magpielaw11.SlabMixes -/
@[reducible] def t_magpielaw11_SlabMixes_L3_sh : List Sh1 := [(.leaf .bool), (.leaf (.int .i64)), (.leaf (.int .i64))]
noncomputable def t_magpielaw11_SlabMixes_L3 (x46 : Option Addr) (y2 : HL Sh1.T [(.leaf .bool), (.leaf (.int .i64)), (.leaf (.int .i64))]) (x202 : Sl) (y3 : HL Sh1.T t_magpielaw11_SlabMixes_L3_sh) : Tree :=
  bif (decide ((y3.2.2.1 : Int) < ((x202.len : Nat) : Int))) then (
    .look (opS Try.prog (.indexAddr ty_s_int (.tmp 0) (.tmp 1)) ty_unit [(.slice x202.a x202.len x202.cap), (.int .i64 y3.2.2.1)]) (.one (.leaf .addr)) fun x206 =>
    .ld x206 (.int .i64) fun x207 =>
    .qcall f_handle_Open [(.int .i64 x207)] (.tup [(.leaf (.int .i64)), (.leaf (.int .i64)), (.leaf (.int .i64)), (.leaf .bool)]) fun x210 =>
    bif (!x210.2.2.2.1) then (
      .ret (.bool false))
    else (
      .call f_arena_Arena_State [(.pointer x46), (.int .i64 x207)] (.one (.leaf (.int .i64))) fun x220 =>
      bif ((x220 : Int) != 1) then (
        .ret (.bool false))
      else (
        .qcall f_handle_Size [(.int .i64 x210.2.2.1)] (.one (.leaf (.int .i64))) fun x225 =>
        .again 2624 [(.bool y3.1), (.int .i64 (w64 (y3.2.1 + x225))), (.int .i64 (w64 (y3.2.2.1 + 1)))])))
  else (
    .again 2433 [(.bool y3.1), (.int .i64 y3.2.1), (.int .i64 (w64 (y2.2.2.1 + 1)))])

@[reducible] def t_magpielaw11_SlabMixes_L2_sh : List Sh1 := [(.leaf .bool), (.leaf (.int .i64)), (.leaf (.int .i64))]
noncomputable def t_magpielaw11_SlabMixes_L2 (x33 : Int) (x46 : Option Addr) (x12 : Addr) (y2 : HL Sh1.T t_magpielaw11_SlabMixes_L2_sh) : Tree :=
  bif (decide ((y2.2.2.1 : Int) < (w64 (1 + x33)))) then (
    .look (opS Try.prog (.indexAddr ty_a5_s_int (.tmp 0) (.tmp 1)) ty_unit [(.pointer (some x12)), (.int .i64 y2.2.2.1)]) (.one (.leaf .addr)) fun x201 =>
    .ld x201 .slice fun x202 =>
    .loop 2624 t_magpielaw11_SlabMixes_L3_sh [(.bool y2.1), (.int .i64 y2.2.1), (.int .i64 0)] (t_magpielaw11_SlabMixes_L3 x46 y2 x202))
  else (
    .call f_arena_Arena_Fault [(.pointer x46)] (.one (.leaf .bool)) fun x229 =>
    bif (!x229) then (
      .call f_arena_Arena_Count [(.pointer x46)] (.one (.agg [(.int .i64), (.int .i64), (.int .i64), (.int .i64)])) fun x234 =>
      bif (decide ((y2.2.1 : Int) ≤ x234.2.1)) then (
        bif (decide ((y2.2.1 : Int) ≤ 65536)) then (
          .call f_magpielaw11_awake [] (.one (.leaf .bool)) fun x243 =>
          .ret (.bool x243))
        else (
          .ret (.bool false)))
      else (
        .ret (.bool false)))
    else (
      .ret (.bool false)))

noncomputable def t_magpielaw11_SlabMixes_J3 (x36 : Int) (x9 : Addr) (x46 : Option Addr) (y1 : HL Sh1.T [(.leaf .bool), (.leaf (.int .i64))]) (x68 : Int) : Tree :=
  .call f_arena_Arena_Uses [(.pointer x46)] (.one (.leaf (.int .i64))) fun x164 =>
  bif (decide ((x164 : Int) > (w64 (x68 + 2)))) then (
    .ret (.bool false))
  else (
    .ld (x9.add 4) (.int .i64) fun x171 =>
    .call f_arena_Arena_Raw [(.pointer x46), (.int .i64 x171)] (.one (.leaf (.int .i64))) fun x172 =>
    bif (decide ((x172 : Int) > (w64 (8 * x36)))) then (
      .ret (.bool false))
    else (
      .call f_arena_Arena_Count [(.pointer x46)] (.one (.agg [(.int .i64), (.int .i64), (.int .i64), (.int .i64)])) fun x177 =>
      .newP (.cells #[(.int .i64 0), (.int .i64 0), (.int .i64 0), (.int .i64 0)] ty_api_Count) fun x23 =>
      .stA x23 [(.int .i64 x177.1), (.int .i64 x177.2.1), (.int .i64 x177.2.2.1), (.int .i64 x177.2.2.2.1)] <|
      .ld x23 (.int .i64) fun x179 =>
      bif (decide ((x179 : Int) > (w64 (8 * x36)))) then (
        .ret (.bool false))
      else (
        .ld (x23.add 1) (.int .i64) fun x184 =>
        .ld (x23.add 2) (.int .i64) fun x186 =>
        .ld (x23.add 3) (.int .i64) fun x189 =>
        .ld x23 (.int .i64) fun x192 =>
        bif (((w64 ((w64 (x184 + x186)) + x189)) : Int) != x192) then (
          .ret (.bool false))
        else (
          .again 640 [(.bool y1.1), (.int .i64 (w64 (y1.2.1 + 1)))]))))

noncomputable def t_magpielaw11_SlabMixes_J4 (x36 : Int) (x9 : Addr) (x46 : Option Addr) (x13 : Addr) (x14 : Addr) (y1 : HL Sh1.T [(.leaf .bool), (.leaf (.int .i64))]) (x66 : Int) (x68 : Int) : Tree :=
  .look (opS Try.prog (.indexAddr ty_a5_magpielaw11_mach (.tmp 0) (.tmp 1)) ty_unit [(.pointer (some x13)), (.int .i64 x66)]) (.one (.leaf .addr)) fun x126 =>
  .st x126 .nilIface <|
  .look (opS Try.prog (.indexAddr ty_a5_p_slab_Alloc (.tmp 0) (.tmp 1)) ty_unit [(.pointer (some x14)), (.int .i64 x66)]) (.one (.leaf .addr)) fun x127 =>
  .st x127 (.pointer none) <|
  t_magpielaw11_SlabMixes_J3 x36 x9 x46 y1 x68

noncomputable def t_magpielaw11_SlabMixes_J11 (x36 : Int) (x9 : Addr) (x46 : Option Addr) (x13 : Addr) (x14 : Addr) (y1 : HL Sh1.T [(.leaf .bool), (.leaf (.int .i64))]) (x66 : Int) (x68 : Int) (x76 : Option Addr) : Tree :=
  .look (opS Try.prog (.indexAddr ty_a5_magpielaw11_mach (.tmp 0) (.tmp 1)) ty_unit [(.pointer (some x13)), (.int .i64 x66)]) (.one (.leaf .addr)) fun x82 =>
  .st x82 (.iface ty_p_slab_Alloc (.pointer x76)) <|
  .look (opS Try.prog (.indexAddr ty_a5_p_slab_Alloc (.tmp 0) (.tmp 1)) ty_unit [(.pointer (some x14)), (.int .i64 x66)]) (.one (.leaf .addr)) fun x83 =>
  .st x83 (.pointer x76) <|
  t_magpielaw11_SlabMixes_J3 x36 x9 x46 y1 x68

@[reducible] def t_magpielaw11_SlabMixes_L1_sh : List Sh1 := [(.leaf .bool), (.leaf (.int .i64))]
noncomputable def t_magpielaw11_SlabMixes_L1 (p2 : Sl) (x33 : Int) (x36 : Int) (x9 : Addr) (x46 : Option Addr) (x12 : Addr) (x13 : Addr) (x14 : Addr) (y1 : HL Sh1.T t_magpielaw11_SlabMixes_L1_sh) : Tree :=
  bif (decide ((y1.2.1 : Int) < ((p2.len : Nat) : Int))) then (
    bif (decide ((y1.2.1 : Int) < 500)) then (
      .look (opS Try.prog (.indexAddr ty_s_int (.tmp 0) (.tmp 1)) ty_unit [(.slice p2.a p2.len p2.cap), (.int .i64 y1.2.1)]) (.one (.leaf .addr)) fun x61 =>
      .ld x61 (.int .i64) fun x62 =>
      .qcall f_magpielaw00_Place [(.int .i64 x62), (.int .i64 1048576)] (.one (.leaf (.int .i64))) fun x63 =>
      .look (opS Try.prog (.binOp .rem ty_int (.tmp 0) (.tmp 1) ty_int) ty_int [(.int .i64 x63), (.int .i64 (w64 (1 + x33)))]) (.one (.leaf (.int .i64))) fun x66 =>
      .call f_arena_Arena_Uses [(.pointer x46)] (.one (.leaf (.int .i64))) fun x68 =>
      .look (opS Try.prog (.indexAddr ty_a5_magpielaw11_mach (.tmp 0) (.tmp 1)) ty_unit [(.pointer (some x13)), (.int .i64 x66)]) (.one (.leaf .addr)) fun x86 =>
      .ld x86 .val fun x87 =>
      .look (opS Try.prog (.binOp .neq ty_magpielaw11_mach (.tmp 0) (.const .nilIface) ty_magpielaw11_mach) ty_bool [x87]) (.one (.leaf .bool)) fun x88 =>
      bif x88 then (
        .look (opS Try.prog (.indexAddr ty_a5_magpielaw11_mach (.tmp 0) (.tmp 1)) ty_unit [(.pointer (some x13)), (.int .i64 x66)]) (.one (.leaf .addr)) fun x90 =>
        .ld x90 .val fun x91 =>
        .act (opS Try.prog (.call { callee := .invoke (.tmp 0) "Step", args := #[(.tmp 1)], argTypes := #[ty_p_arena_Arena] }) ty_bool [x91, (.pointer x46)]) (.one (.leaf .bool)) fun x93 =>
        bif x93 then (
          .look (opS Try.prog (.indexAddr ty_a5_p_slab_Alloc (.tmp 0) (.tmp 1)) ty_unit [(.pointer (some x14)), (.int .i64 x66)]) (.one (.leaf .addr)) fun x95 =>
          .ld x95 .ptr fun x96 =>
          .look (opS Try.prog (.binOp .neq ty_p_slab_Alloc (.tmp 0) (.const (.pointer none)) ty_p_slab_Alloc) ty_bool [(.pointer x96)]) (.one (.leaf .bool)) fun x97 =>
          bif x97 then (
            .look (opS Try.prog (.indexAddr ty_a5_p_slab_Alloc (.tmp 0) (.tmp 1)) ty_unit [(.pointer (some x14)), (.int .i64 x66)]) (.one (.leaf .addr)) fun x100 =>
            .ld x100 .ptr fun x101 =>
            .call f_slab_Alloc_Handle [(.pointer x101)] (.tup [(.leaf (.int .i64)), (.leaf .bool)]) fun x102 =>
            bif x102.2.1 then (
              .look (opS Try.prog (.indexAddr ty_a5_s_int (.tmp 0) (.tmp 1)) ty_unit [(.pointer (some x12)), (.int .i64 x66)]) (.one (.leaf .addr)) fun x108 =>
              .ld x108 .slice fun x109 =>
              .newS (.cells #[(.int .i64 x102.1)] ty_int) 1 fun x111 =>
              .act (opS Try.prog (.call { callee := .builtin .append, args := #[(.tmp 0), (.tmp 1)], argTypes := #[ty_s_int, ty_s_int] }) ty_s_int [(.slice x109.a x109.len x109.cap), (.slice x111.a x111.len x111.cap)]) (.one (.leaf .slice)) fun x112 =>
              .look (opS Try.prog (.indexAddr ty_a5_s_int (.tmp 0) (.tmp 1)) ty_unit [(.pointer (some x12)), (.int .i64 x66)]) (.one (.leaf .addr)) fun x113 =>
              .st x113 (.slice x112.a x112.len x112.cap) <|
              .look (opS Try.prog (.indexAddr ty_a5_s_int (.tmp 0) (.tmp 1)) ty_unit [(.pointer (some x12)), (.int .i64 x66)]) (.one (.leaf .addr)) fun x119 =>
              .ld x119 .slice fun x120 =>
              .call f_arena_Arena_Store [(.pointer x46), (.int .i64 x102.1), (.int .i64 7), (.int .i64 (w64 ((w64 (1000 * x66)) + ((x120.len : Nat) : Int))))] .unit fun _ =>
              t_magpielaw11_SlabMixes_J4 x36 x9 x46 x13 x14 y1 x66 x68)
            else (
              t_magpielaw11_SlabMixes_J4 x36 x9 x46 x13 x14 y1 x66 x68))
          else (
            t_magpielaw11_SlabMixes_J4 x36 x9 x46 x13 x14 y1 x66 x68))
        else (
          t_magpielaw11_SlabMixes_J3 x36 x9 x46 y1 x68))
      else (
        .look (opS Try.prog (.binOp .quo ty_int (.tmp 0) (.tmp 1) ty_int) ty_int [(.int .i64 x63), (.int .i64 (w64 (1 + x33)))]) (.one (.leaf (.int .i64))) fun x131 =>
        bif (((Int.tmod x131 3) : Int) == 0) then (
          .look (opS Try.prog (.indexAddr ty_a5_s_int (.tmp 0) (.tmp 1)) ty_unit [(.pointer (some x12)), (.int .i64 x66)]) (.one (.leaf .addr)) fun x136 =>
          .ld x136 .slice fun x137 =>
          bif (decide ((((x137.len : Nat) : Int) : Int) > 0)) then (
            .look (opS Try.prog (.indexAddr ty_a5_s_int (.tmp 0) (.tmp 1)) ty_unit [(.pointer (some x12)), (.int .i64 x66)]) (.one (.leaf .addr)) fun x142 =>
            .ld x142 .slice fun x143 =>
            .look (opS Try.prog (.indexAddr ty_s_int (.tmp 0) (.const (.int .i64 0))) ty_unit [(.slice x143.a x143.len x143.cap)]) (.one (.leaf .addr)) fun x144 =>
            .ld x144 (.int .i64) fun x145 =>
            .look (opS Try.prog (.indexAddr ty_a5_s_int (.tmp 0) (.tmp 1)) ty_unit [(.pointer (some x12)), (.int .i64 x66)]) (.one (.leaf .addr)) fun x148 =>
            .ld x148 .slice fun x149 =>
            .look (opS Try.prog (.slice ty_s_int (.tmp 0) (some (.const (.int .i64 1))) none none) ty_s_int [(.slice x149.a x149.len x149.cap)]) (.one (.leaf .slice)) fun x150 =>
            .look (opS Try.prog (.indexAddr ty_a5_s_int (.tmp 0) (.tmp 1)) ty_unit [(.pointer (some x12)), (.int .i64 x66)]) (.one (.leaf .addr)) fun x151 =>
            .st x151 (.slice x150.a x150.len x150.cap) <|
            .call f_arena_Arena_Retire [(.pointer x46), (.int .i64 x145)] (.one (.leaf .bool)) fun x154 =>
            bif (!x154) then (
              .ret (.bool false))
            else (
              .ldA x9 [(.int .i64), (.int .i64), (.int .i64), (.int .i64), (.int .i64)] fun x157 =>
              .call f_slab_NewFree [(.agg #[(.int .i64 x157.1), (.int .i64 x157.2.1), (.int .i64 x157.2.2.1), (.int .i64 x157.2.2.2.1), (.int .i64 x157.2.2.2.2.1)]), (.int .i64 x66), (.int .i64 x145)] (.one (.leaf .ptr)) fun x160 =>
              .look (opS Try.prog (.indexAddr ty_a5_magpielaw11_mach (.tmp 0) (.tmp 1)) ty_unit [(.pointer (some x13)), (.int .i64 x66)]) (.one (.leaf .addr)) fun x162 =>
              .st x162 (.iface ty_p_slab_Free (.pointer x160)) <|
              t_magpielaw11_SlabMixes_J3 x36 x9 x46 y1 x68))
          else (
            .ldA x9 [(.int .i64), (.int .i64), (.int .i64), (.int .i64), (.int .i64)] fun x69 =>
            .look (opS Try.prog (.binOp .quo ty_int (.tmp 0) (.tmp 1) ty_int) ty_int [(.int .i64 x63), (.int .i64 (w64 (1 + x33)))]) (.one (.leaf (.int .i64))) fun x73 =>
            .call f_slab_NewAlloc [(.agg #[(.int .i64 x69.1), (.int .i64 x69.2.1), (.int .i64 x69.2.2.1), (.int .i64 x69.2.2.2.1), (.int .i64 x69.2.2.2.2.1)]), (.int .i64 x66), (.int .i64 (Int.tmod (w64 (Int.tdiv x73 3)) 3))] (.one (.leaf .ptr)) fun x76 =>
            t_magpielaw11_SlabMixes_J11 x36 x9 x46 x13 x14 y1 x66 x68 x76))
        else (
          .ldA x9 [(.int .i64), (.int .i64), (.int .i64), (.int .i64), (.int .i64)] fun x69 =>
          .look (opS Try.prog (.binOp .quo ty_int (.tmp 0) (.tmp 1) ty_int) ty_int [(.int .i64 x63), (.int .i64 (w64 (1 + x33)))]) (.one (.leaf (.int .i64))) fun x73 =>
          .call f_slab_NewAlloc [(.agg #[(.int .i64 x69.1), (.int .i64 x69.2.1), (.int .i64 x69.2.2.1), (.int .i64 x69.2.2.2.1), (.int .i64 x69.2.2.2.2.1)]), (.int .i64 x66), (.int .i64 (Int.tmod (w64 (Int.tdiv x73 3)) 3))] (.one (.leaf .ptr)) fun x76 =>
          t_magpielaw11_SlabMixes_J11 x36 x9 x46 x13 x14 y1 x66 x68 x76)))
    else (
      .loop 2433 t_magpielaw11_SlabMixes_L2_sh [(.bool y1.1), (.int .i64 0), (.int .i64 0)] (t_magpielaw11_SlabMixes_L2 x33 x46 x12)))
  else (
    .loop 2433 t_magpielaw11_SlabMixes_L2_sh [(.bool y1.1), (.int .i64 0), (.int .i64 0)] (t_magpielaw11_SlabMixes_L2 x33 x46 x12))
noncomputable def t_magpielaw11_SlabMixes (p0 : Int) (p1 : Int) (p2 : Sl) : Tree :=
  .qcall f_magpielaw00_Place [(.int .i64 p0), (.int .i64 5)] (.one (.leaf (.int .i64))) fun x33 =>
  .qcall f_magpielaw00_Place [(.int .i64 p1), (.int .i64 30)] (.one (.leaf (.int .i64))) fun x36 =>
  .call f_free_Raw [(.int .i64 (w64 (1 + x33))), (.int .i64 (w64 (8 * x36)))] (.tup [(.agg [(.int .i64), (.int .i64), (.int .i64), (.int .i64), (.int .i64)]), (.leaf (.int .i64))]) fun x41 =>
  .newP (.cells #[(.int .i64 0), (.int .i64 0), (.int .i64 0), (.int .i64 0), (.int .i64 0)] ty_free_Place) fun x9 =>
  .stA x9 [(.int .i64 x41.1.1), (.int .i64 x41.1.2.1), (.int .i64 x41.1.2.2.1), (.int .i64 x41.1.2.2.2.1), (.int .i64 x41.1.2.2.2.2.1)] <|
  .call f_arena_New [(.int .i64 x41.2.1), (.int .i64 (w64 (8 * x36))), (.bool false)] (.one (.leaf .ptr)) fun x46 =>
  .look (opS Try.prog (.binOp .eql ty_p_arena_Arena (.tmp 0) (.const (.pointer none)) ty_p_arena_Arena) ty_bool [(.pointer x46)]) (.one (.leaf .bool)) fun x48 =>
  bif x48 then (
    .ret (.bool false))
  else (
    .newP (.cells #[(.slice none 0 0), (.slice none 0 0), (.slice none 0 0), (.slice none 0 0), (.slice none 0 0)] ty_a5_s_int) fun x12 =>
    .newP (.cells #[.nilIface, .nilIface, .nilIface, .nilIface, .nilIface] ty_a5_magpielaw11_mach) fun x13 =>
    .newP (.cells #[(.pointer none), (.pointer none), (.pointer none), (.pointer none), (.pointer none)] ty_a5_p_slab_Alloc) fun x14 =>
    .loop 640 t_magpielaw11_SlabMixes_L1_sh [(.bool false), (.int .i64 0)] (t_magpielaw11_SlabMixes_L1 p2 x33 x36 x9 x46 x12 x13 x14))
theorem t_magpielaw11_SlabMixes_eq (p0 : Int) (p1 : Int) (p2 : Sl) : funcTree Try.prog { quiet := [16, 22, 23, 34, 35, 48, 49, 53, 57, 58, 59, 62, 105], quietTmp := true, fncs := [], ifcs := [] } Try.f6 [(.int .i64 p0), (.int .i64 p1), (.slice p2.a p2.len p2.cap)] = t_magpielaw11_SlabMixes p0 p1 p2 := by kernel_rfl
theorem t_magpielaw11_SlabMixes_spec {p0 : Int} {p1 : Int} {p2 : Sl} {H : Heap} {R : Value → Heap → Prop} (h : ∀ L, wp Try.prog (t_magpielaw11_SlabMixes p0 p1 p2) L H R) : SpecF Try.prog f_magpielaw11_SlabMixes #[(.int .i64 p0), (.int .i64 p1), (.slice p2.a p2.len p2.cap)] H R :=
  spec_of_tree (cfg := { quiet := [16, 22, 23, 34, 35, 48, 49, 53, 57, 58, 59, 62, 105], quietTmp := true, fncs := [], ifcs := [] }) Try.func6 fun L => (t_magpielaw11_SlabMixes_eq p0 p1 p2).symm ▸ h L

end Go.Proofs.Ytfphgiipekkgdaa

set_option linter.unusedVariables false
set_option linter.unusedSimpArgs false
set_option maxRecDepth 20000
namespace Go.Proofs.Ytfphgiipekkgdaa
open Go Go.Fw

section
variable {L : Hands} {R : Value → Heap → Prop} {H : Heap}
theorem awake11_det (H : Heap) : Det Try.prog f_magpielaw11_awake [] H (.bool true) H := by
  refine t_magpielaw11_awake_spec fun L => ?_
  unfold t_magpielaw11_awake
  refine w_places (w := 1) (m := 64) (by decide) (by decide) fun A b hA hI ok X fa us nl nr => ?_
  refine w_ldA 0 hA ok rfl rfl rfl ?_
  refine w_NewAlloc (p := plOf 1 64) hA ok (by decide) fun j okj => ?_
  refine look_val (x := false) (np_some _) (wp_false rfl ?_)
  refine look_val (x := false) (ea_some _) (wp_false rfl ?_)
  obtain ⟨n, x', A', S', Z⟩ := alloc_solo X hA.wf (by rw [us]; decide) (who := 0) (c := 0) (by decide) (by decide)
  have nn := Z.nn
  refine w_run11 mAl_ok mAl_inv Z.run (by omega) (j := j) hA okj fun j' ha hA' ok' => ?_
  refine wp_false rfl ?_
  obtain ⟨q, q0, q1⟩ := j'
  have ha : q = j.1 := ha
  subst ha
  refine w_Handle 0 (x := x') hA' ok' rfl ?_
  refine wq_Open ?_
  obtain ⟨k, b', l, h1, _⟩ | ⟨h1, h2, h3, h4⟩ | ⟨h1, h2, _⟩ := Z.gives.or
  · cases h1
  · obtain ⟨o1, o2, o3, o4, o5⟩ := carve_name X (c := 0) (by decide) h2
    dsimp only at h4 o1 o2 o3 o4 o5
    rw [← h4] at o1 o2 o3 o4 o5
    rw [bne0 o5, o1, o2, o3, o4]
    refine wp_true rfl (wp_true rfl (wp_true rfl (wp_true rfl (wp_true rfl ?_))))
    refine w_State hA' ?_
    have st := Z.st x'.h
    rw [if_pos ⟨o5, rfl⟩] at st
    rw [st]
    refine wp_true rfl ?_
    refine w_ld 3 hA' ok' rfl rfl rfl ?_
    refine w_Raw hA' fun hA2 => ?_
    have cv := Z.sl.cvr
    rw [h3] at cv
    rw [cv]
    exact ⟨H, own_end hA2 ok' hI, rfl, rfl⟩
  · exact (h2 (by decide)).elim
end
end Go.Proofs.Ytfphgiipekkgdaa

set_option linter.unusedVariables false
set_option maxRecDepth 10000
namespace Go.Proofs.Ytfphgiipekkgdaa
open Go Go.Fw
/- magpie/magpielaw12.run -/
@[reducible] def t_magpielaw12_run_L1_sh : List Sh1 := [(.leaf .bool), (.leaf (.int .i64))]
noncomputable def t_magpielaw12_run_L1 (p0 : Option Addr) (p1 : Value) (y1 : HL Sh1.T t_magpielaw12_run_L1_sh) : Tree :=
  bif (decide ((y1.2.1 : Int) < 2000)) then (
    .call f_arena_Arena_Uses [(.pointer p0)] (.one (.leaf (.int .i64))) fun x13 =>
    .act (opS Try.prog (.call { callee := .invoke (.tmp 0) "Step", args := #[(.tmp 1)], argTypes := #[ty_p_arena_Arena] }) ty_bool [p1, (.pointer p0)]) (.one (.leaf .bool)) fun x16 =>
    .call f_arena_Arena_Uses [(.pointer p0)] (.one (.leaf (.int .i64))) fun x18 =>
    bif (decide ((x18 : Int) > (w64 (x13 + 1)))) then (
      .ret (.bool false))
    else (
      bif x16 then (
        .ret (.bool true))
      else (
        .again 128 [(.bool y1.1), (.int .i64 (w64 (y1.2.1 + 1)))])))
  else (
    .ret (.bool false))
noncomputable def t_magpielaw12_run (p0 : Option Addr) (p1 : Value) : Tree :=
  .loop 128 t_magpielaw12_run_L1_sh [(.bool false), (.int .i64 0)] (t_magpielaw12_run_L1 p0 p1)
theorem t_magpielaw12_run_eq (p0 : Option Addr) (p1 : Value) : funcTree Try.prog { quiet := [16, 22, 23, 34, 35, 48, 49, 53, 57, 58, 59, 62, 105], quietTmp := true, fncs := [], ifcs := [] } Try.f40 [(.pointer p0), p1] = t_magpielaw12_run p0 p1 := by kernel_rfl
theorem t_magpielaw12_run_spec {p0 : Option Addr} {p1 : Value} {H : Heap} {R : Value → Heap → Prop} (h : ∀ L, wp Try.prog (t_magpielaw12_run p0 p1) L H R) : SpecF Try.prog f_magpielaw12_run #[(.pointer p0), p1] H R :=
  spec_of_tree (cfg := { quiet := [16, 22, 23, 34, 35, 48, 49, 53, 57, 58, 59, 62, 105], quietTmp := true, fncs := [], ifcs := [] }) Try.func40 fun L => (t_magpielaw12_run_eq p0 p1).symm ▸ h L

/- magpie/magpielaw12.make1 -/
@[reducible] def t_magpielaw12_make1_L1_sh : List Sh1 := [(.leaf .ptr), (.leaf .slice), (.leaf .slice), (.leaf (.int .i64))]
noncomputable def t_magpielaw12_make1_L1 (p1 : Int) (x5 : Addr) (x6 : Addr) (x8 : Addr) (x10 : Addr) (x36 : Option Addr) (y1 : HL Sh1.T t_magpielaw12_make1_L1_sh) : Tree :=
  bif (decide ((y1.2.2.2.1 : Int) < p1)) then (
    .look (opS Try.prog (.binOp .neq ty_p_arena_Arena (.tmp 0) (.const (.pointer none)) ty_p_arena_Arena) ty_bool [(.pointer x36)]) (.one (.leaf .bool)) fun x42 =>
    bif x42 then (
      .ldA x8 [(.int .i64), (.int .i64), (.int .i64), (.int .i64), (.int .i64)] fun x46 =>
      .call f_slab_NewAlloc [(.agg #[(.int .i64 x46.1), (.int .i64 x46.2.1), (.int .i64 x46.2.2.1), (.int .i64 x46.2.2.2.1), (.int .i64 x46.2.2.2.2.1)]), (.int .i64 0), (.int .i64 0)] (.one (.leaf .ptr)) fun x47 =>
      .look (opS Try.prog (.binOp .eql ty_p_slab_Alloc (.tmp 0) (.const (.pointer none)) ty_p_slab_Alloc) ty_bool [(.pointer x47)]) (.one (.leaf .bool)) fun x49 =>
      bif x49 then (
        .ldA x8 [(.int .i64), (.int .i64), (.int .i64), (.int .i64), (.int .i64)] fun x57 =>
        .ldA x10 [(.int .i64), (.int .i64)] fun x58 =>
        .stA x5 [(.int .i64 x57.1), (.int .i64 x57.2.1), (.int .i64 x57.2.2.1), (.int .i64 x57.2.2.2.1), (.int .i64 x57.2.2.2.2.1)] <|
        .check (ldAS x10 2 0 #[]) (.agg #[(.int .i64 x58.1), (.int .i64 x58.2.1)]) <|
        .stA x6 [(.int .i64 x58.1), (.int .i64 x58.2.1)] <|
        .look (ldK x5 5 0 #[] fun r1 => ldK x6 2 0 #[] fun r2 => .pure (.value (.tuple #[(.pointer none), (.agg r1), (.agg r2), (.slice none 0 0)]))) (.tup [(.leaf .ptr), (.agg [(.int .i64), (.int .i64), (.int .i64), (.int .i64), (.int .i64)]), (.agg [(.int .i64), (.int .i64)]), (.leaf .slice)]) fun r => .ret (Sh.toVal (.tup [(.leaf .ptr), (.agg [(.int .i64), (.int .i64), (.int .i64), (.int .i64), (.int .i64)]), (.agg [(.int .i64), (.int .i64)]), (.leaf .slice)]) r))
      else (
        .call f_magpielaw12_run [(.pointer x36), (.iface ty_p_slab_Alloc (.pointer x47))] (.one (.leaf .bool)) fun x54 =>
        bif (!x54) then (
          .ldA x8 [(.int .i64), (.int .i64), (.int .i64), (.int .i64), (.int .i64)] fun x57 =>
          .ldA x10 [(.int .i64), (.int .i64)] fun x58 =>
          .stA x5 [(.int .i64 x57.1), (.int .i64 x57.2.1), (.int .i64 x57.2.2.1), (.int .i64 x57.2.2.2.1), (.int .i64 x57.2.2.2.2.1)] <|
          .check (ldAS x10 2 0 #[]) (.agg #[(.int .i64 x58.1), (.int .i64 x58.2.1)]) <|
          .stA x6 [(.int .i64 x58.1), (.int .i64 x58.2.1)] <|
          .look (ldK x5 5 0 #[] fun r1 => ldK x6 2 0 #[] fun r2 => .pure (.value (.tuple #[(.pointer none), (.agg r1), (.agg r2), (.slice none 0 0)]))) (.tup [(.leaf .ptr), (.agg [(.int .i64), (.int .i64), (.int .i64), (.int .i64), (.int .i64)]), (.agg [(.int .i64), (.int .i64)]), (.leaf .slice)]) fun r => .ret (Sh.toVal (.tup [(.leaf .ptr), (.agg [(.int .i64), (.int .i64), (.int .i64), (.int .i64), (.int .i64)]), (.agg [(.int .i64), (.int .i64)]), (.leaf .slice)]) r))
        else (
          .call f_slab_Alloc_Handle [(.pointer x47)] (.tup [(.leaf (.int .i64)), (.leaf .bool)]) fun x61 =>
          .call f_arena_Arena_Retire [(.pointer x36), (.int .i64 x61.1)] (.one (.leaf .bool)) fun x66 =>
          bif (!x66) then (
            .ldA x8 [(.int .i64), (.int .i64), (.int .i64), (.int .i64), (.int .i64)] fun x68 =>
            .ldA x10 [(.int .i64), (.int .i64)] fun x69 =>
            .stA x5 [(.int .i64 x68.1), (.int .i64 x68.2.1), (.int .i64 x68.2.2.1), (.int .i64 x68.2.2.2.1), (.int .i64 x68.2.2.2.2.1)] <|
            .check (ldAS x10 2 0 #[]) (.agg #[(.int .i64 x69.1), (.int .i64 x69.2.1)]) <|
            .stA x6 [(.int .i64 x69.1), (.int .i64 x69.2.1)] <|
            .look (ldK x5 5 0 #[] fun r1 => ldK x6 2 0 #[] fun r2 => .pure (.value (.tuple #[(.pointer none), (.agg r1), (.agg r2), (.slice none 0 0)]))) (.tup [(.leaf .ptr), (.agg [(.int .i64), (.int .i64), (.int .i64), (.int .i64), (.int .i64)]), (.agg [(.int .i64), (.int .i64)]), (.leaf .slice)]) fun r => .ret (Sh.toVal (.tup [(.leaf .ptr), (.agg [(.int .i64), (.int .i64), (.int .i64), (.int .i64), (.int .i64)]), (.agg [(.int .i64), (.int .i64)]), (.leaf .slice)]) r))
          else (
            .newS (.cells #[(.int .i64 x61.1)] ty_int) 1 fun x72 =>
            .act (opS Try.prog (.call { callee := .builtin .append, args := #[(.tmp 0), (.tmp 1)], argTypes := #[ty_s_int, ty_s_int] }) ty_s_int [(.slice y1.2.2.1.a y1.2.2.1.len y1.2.2.1.cap), (.slice x72.a x72.len x72.cap)]) (.one (.leaf .slice)) fun x73 =>
            .again 384 [(.pointer y1.1), (.slice y1.2.1.a y1.2.1.len y1.2.1.cap), (.slice x73.a x73.len x73.cap), (.int .i64 (w64 (y1.2.2.2.1 + 1)))]))))
    else (
      .ldA x8 [(.int .i64), (.int .i64), (.int .i64), (.int .i64), (.int .i64)] fun x75 =>
      .ldA x10 [(.int .i64), (.int .i64)] fun x76 =>
      .stA x5 [(.int .i64 x75.1), (.int .i64 x75.2.1), (.int .i64 x75.2.2.1), (.int .i64 x75.2.2.2.1), (.int .i64 x75.2.2.2.2.1)] <|
      .check (ldAS x10 2 0 #[]) (.agg #[(.int .i64 x76.1), (.int .i64 x76.2.1)]) <|
      .stA x6 [(.int .i64 x76.1), (.int .i64 x76.2.1)] <|
      .look (ldK x5 5 0 #[] fun r1 => ldK x6 2 0 #[] fun r2 => .pure (.value (.tuple #[(.pointer x36), (.agg r1), (.agg r2), (.slice y1.2.2.1.a y1.2.2.1.len y1.2.2.1.cap)]))) (.tup [(.leaf .ptr), (.agg [(.int .i64), (.int .i64), (.int .i64), (.int .i64), (.int .i64)]), (.agg [(.int .i64), (.int .i64)]), (.leaf .slice)]) fun r => .ret (Sh.toVal (.tup [(.leaf .ptr), (.agg [(.int .i64), (.int .i64), (.int .i64), (.int .i64), (.int .i64)]), (.agg [(.int .i64), (.int .i64)]), (.leaf .slice)]) r)))
  else (
    .ldA x8 [(.int .i64), (.int .i64), (.int .i64), (.int .i64), (.int .i64)] fun x75 =>
    .ldA x10 [(.int .i64), (.int .i64)] fun x76 =>
    .stA x5 [(.int .i64 x75.1), (.int .i64 x75.2.1), (.int .i64 x75.2.2.1), (.int .i64 x75.2.2.2.1), (.int .i64 x75.2.2.2.2.1)] <|
    .check (ldAS x10 2 0 #[]) (.agg #[(.int .i64 x76.1), (.int .i64 x76.2.1)]) <|
    .stA x6 [(.int .i64 x76.1), (.int .i64 x76.2.1)] <|
    .look (ldK x5 5 0 #[] fun r1 => ldK x6 2 0 #[] fun r2 => .pure (.value (.tuple #[(.pointer x36), (.agg r1), (.agg r2), (.slice y1.2.2.1.a y1.2.2.1.len y1.2.2.1.cap)]))) (.tup [(.leaf .ptr), (.agg [(.int .i64), (.int .i64), (.int .i64), (.int .i64), (.int .i64)]), (.agg [(.int .i64), (.int .i64)]), (.leaf .slice)]) fun r => .ret (Sh.toVal (.tup [(.leaf .ptr), (.agg [(.int .i64), (.int .i64), (.int .i64), (.int .i64), (.int .i64)]), (.agg [(.int .i64), (.int .i64)]), (.leaf .slice)]) r))
noncomputable def t_magpielaw12_make1 (p0 : Int) (p1 : Int) : Tree :=
  .newP (.cells #[(.int .i64 0), (.int .i64 0), (.int .i64 0), (.int .i64 0), (.int .i64 0)] ty_free_Place) fun x5 =>
  .newP (.cells #[(.int .i64 0), (.int .i64 0)] ty_hazard_Table) fun x6 =>
  .call f_free_Raw [(.int .i64 p0), (.int .i64 (w64 (8 * p1)))] (.tup [(.agg [(.int .i64), (.int .i64), (.int .i64), (.int .i64), (.int .i64)]), (.leaf (.int .i64))]) fun x22 =>
  .newP (.cells #[(.int .i64 0), (.int .i64 0), (.int .i64 0), (.int .i64 0), (.int .i64 0)] ty_free_Place) fun x8 =>
  .stA x8 [(.int .i64 x22.1.1), (.int .i64 x22.1.2.1), (.int .i64 x22.1.2.2.1), (.int .i64 x22.1.2.2.2.1), (.int .i64 x22.1.2.2.2.2.1)] <|
  .qcall f_hazard_Raw [(.int .i64 p0), (.int .i64 x22.2.1)] (.tup [(.agg [(.int .i64), (.int .i64)]), (.leaf (.int .i64))]) fun x28 =>
  .newP (.cells #[(.int .i64 0), (.int .i64 0)] ty_hazard_Table) fun x10 =>
  .stA x10 [(.int .i64 x28.1.1), (.int .i64 x28.1.2.1)] <|
  .call f_arena_New [(.int .i64 (w64 (x22.2.1 + x28.2.1))), (.int .i64 (w64 (8 * p1))), (.bool false)] (.one (.leaf .ptr)) fun x36 =>
  .loop 384 t_magpielaw12_make1_L1_sh [(.pointer none), (.slice none 0 0), (.slice none 0 0), (.int .i64 0)] (t_magpielaw12_make1_L1 p1 x5 x6 x8 x10 x36)
theorem t_magpielaw12_make1_eq (p0 : Int) (p1 : Int) : funcTree Try.prog { quiet := [16, 22, 23, 34, 35, 48, 49, 53, 57, 58, 59, 62, 105], quietTmp := true, fncs := [], ifcs := [] } Try.f37 [(.int .i64 p0), (.int .i64 p1)] = t_magpielaw12_make1 p0 p1 := by kernel_rfl
theorem t_magpielaw12_make1_spec {p0 : Int} {p1 : Int} {H : Heap} {R : Value → Heap → Prop} (h : ∀ L, wp Try.prog (t_magpielaw12_make1 p0 p1) L H R) : SpecF Try.prog f_magpielaw12_make1 #[(.int .i64 p0), (.int .i64 p1)] H R :=
  spec_of_tree (cfg := { quiet := [16, 22, 23, 34, 35, 48, 49, 53, 57, 58, 59, 62, 105], quietTmp := true, fncs := [], ifcs := [] }) Try.func37 fun L => (t_magpielaw12_make1_eq p0 p1).symm ▸ h L

/- magpie/magpielaw12.awake -/
noncomputable def t_magpielaw12_awake : Tree :=
  .call f_magpielaw12_make1 [(.int .i64 2), (.int .i64 2)] (.tup [(.leaf .ptr), (.agg [(.int .i64), (.int .i64), (.int .i64), (.int .i64), (.int .i64)]), (.agg [(.int .i64), (.int .i64)]), (.leaf .slice)]) fun x7 =>
  .newP (.cells #[(.int .i64 0), (.int .i64 0), (.int .i64 0), (.int .i64 0), (.int .i64 0)] ty_free_Place) fun x2 =>
  .newP (.cells #[(.int .i64 0), (.int .i64 0)] ty_hazard_Table) fun x3 =>
  .stA x2 [(.int .i64 x7.2.1.1), (.int .i64 x7.2.1.2.1), (.int .i64 x7.2.1.2.2.1), (.int .i64 x7.2.1.2.2.2.1), (.int .i64 x7.2.1.2.2.2.2.1)] <|
  .stA x3 [(.int .i64 x7.2.2.1.1), (.int .i64 x7.2.2.1.2.1)] <|
  .look (opS Try.prog (.binOp .eql ty_p_arena_Arena (.tmp 0) (.const (.pointer none)) ty_p_arena_Arena) ty_bool [(.pointer x7.1)]) (.one (.leaf .bool)) fun x13 =>
  bif x13 then (
    .ret (.bool false))
  else (
    bif ((((x7.2.2.2.1.len : Nat) : Int) : Int) != 2) then (
      .ret (.bool false))
    else (
      .ldA x3 [(.int .i64), (.int .i64)] fun x20 =>
      .qcall f_hazard_Table_Word [(.agg #[(.int .i64 x20.1), (.int .i64 x20.2.1)]), (.int .i64 1), (.int .i64 0)] (.one (.leaf (.int .i64))) fun x21 =>
      .look (opS Try.prog (.indexAddr ty_s_int (.tmp 0) (.const (.int .i64 0))) ty_unit [(.slice x7.2.2.2.1.a x7.2.2.2.1.len x7.2.2.2.1.cap)]) (.one (.leaf .addr)) fun x23 =>
      .ld x23 (.int .i64) fun x24 =>
      .call f_arena_Arena_SetRaw [(.pointer x7.1), (.int .i64 x21), (.int .i64 x24)] .unit fun _ =>
      .ldA x3 [(.int .i64), (.int .i64)] fun x26 =>
      .ldA x2 [(.int .i64), (.int .i64), (.int .i64), (.int .i64), (.int .i64)] fun x27 =>
      .call f_hazard_NewScan [(.agg #[(.int .i64 x26.1), (.int .i64 x26.2.1)]), (.agg #[(.int .i64 x27.1), (.int .i64 x27.2.1), (.int .i64 x27.2.2.1), (.int .i64 x27.2.2.2.1), (.int .i64 x27.2.2.2.2.1)]), (.int .i64 0), (.slice x7.2.2.2.1.a x7.2.2.2.1.len x7.2.2.2.1.cap)] (.one (.leaf .ptr)) fun x29 =>
      .look (opS Try.prog (.binOp .neq ty_p_hazard_Scan (.tmp 0) (.const (.pointer none)) ty_p_hazard_Scan) ty_bool [(.pointer x29)]) (.one (.leaf .bool)) fun x31 =>
      bif x31 then (
        .call f_magpielaw12_run [(.pointer x7.1), (.iface ty_p_hazard_Scan (.pointer x29))] (.one (.leaf .bool)) fun x36 =>
        bif x36 then (
          .call f_hazard_Scan_Left [(.pointer x29)] (.one (.leaf .slice)) fun x40 =>
          bif ((((x40.len : Nat) : Int) : Int) == 1) then (
            .look (opS Try.prog (.indexAddr ty_s_int (.tmp 0) (.const (.int .i64 0))) ty_unit [(.slice x7.2.2.2.1.a x7.2.2.2.1.len x7.2.2.2.1.cap)]) (.one (.leaf .addr)) fun x50 =>
            .ld x50 (.int .i64) fun x51 =>
            .call f_hazard_Scan_Left [(.pointer x29)] (.one (.leaf .slice)) fun x46 =>
            .check (ldS x50) (.int .i64 x51) <|
            .check (opS Try.prog (.indexAddr ty_s_int (.tmp 0) (.const (.int .i64 0))) ty_unit [(.slice x7.2.2.2.1.a x7.2.2.2.1.len x7.2.2.2.1.cap)]) (.pointer (some x50)) <|
            .look (opS Try.prog (.indexAddr ty_s_int (.tmp 0) (.const (.int .i64 0))) ty_unit [(.slice x46.a x46.len x46.cap)]) (.one (.leaf .addr)) fun x47 =>
            .ld x47 (.int .i64) fun x48 =>
            bif ((x48 : Int) == x51) then (
              .look (opS Try.prog (.indexAddr ty_s_int (.tmp 0) (.const (.int .i64 1))) ty_unit [(.slice x7.2.2.2.1.a x7.2.2.2.1.len x7.2.2.2.1.cap)]) (.one (.leaf .addr)) fun x57 =>
              .ld x57 (.int .i64) fun x58 =>
              .call f_arena_Arena_State [(.pointer x7.1), (.int .i64 x58)] (.one (.leaf (.int .i64))) fun x59 =>
              bif ((x59 : Int) == 0) then (
                .look (opS Try.prog (.indexAddr ty_s_int (.tmp 0) (.const (.int .i64 0))) ty_unit [(.slice x7.2.2.2.1.a x7.2.2.2.1.len x7.2.2.2.1.cap)]) (.one (.leaf .addr)) fun x65 =>
                .ld x65 (.int .i64) fun x66 =>
                .call f_arena_Arena_State [(.pointer x7.1), (.int .i64 x66)] (.one (.leaf (.int .i64))) fun x67 =>
                .ret (.bool ((x67 : Int) == 2)))
              else (
                .ret (.bool false)))
            else (
              .ret (.bool false)))
          else (
            .ret (.bool false)))
        else (
          .ret (.bool false)))
      else (
        .ret (.bool false))))
theorem t_magpielaw12_awake_eq : funcTree Try.prog { quiet := [16, 22, 23, 34, 35, 48, 49, 53, 57, 58, 59, 62, 105], quietTmp := true, fncs := [], ifcs := [] } Try.f36 [] = t_magpielaw12_awake  := by kernel_rfl
theorem t_magpielaw12_awake_spec {H : Heap} {R : Value → Heap → Prop} (h : ∀ L, wp Try.prog (t_magpielaw12_awake ) L H R) : SpecF Try.prog f_magpielaw12_awake #[] H R :=
  spec_of_tree (cfg := { quiet := [16, 22, 23, 34, 35, 48, 49, 53, 57, 58, 59, 62, 105], quietTmp := true, fncs := [], ifcs := [] }) Try.func36 fun L => (t_magpielaw12_awake_eq ).symm ▸ h L

end Go.Proofs.Ytfphgiipekkgdaa

set_option linter.unusedVariables false
set_option maxRecDepth 20000
namespace Go.Proofs.Ytfphgiipekkgdaa
open Go Go.Fw

theorem run12_go {M J : Type} {X : Mch M J} (hX : X.ok) {t : TypeId} (hinv : X.inv' t) {I : List Nat} {G : Heap} {n : Nat} {m m' : M} {A A' : Ar} (h : X.Runs n m A m' A') {L : Hands} :
    ∀ {i : Int} {b : Bool} {j : J} {R : Value → Heap → Prop}, (∀ j', Ok I G (keys (X.bl m' j')) → Aw I A' → X.addr j' = X.addr j → R (.bool true) (own A' (X.bl m' j') G)) → Aw I A → Ok I G (keys (X.bl m j)) → 0 ≤ i → i + n ≤ 2000 →
      wp Try.prog (.loop 128 t_magpielaw12_run_L1_sh [(.bool b), (.int .i64 i)] (t_magpielaw12_run_L1 (aI I) (.iface t (.pointer (some ⟨X.addr j, 0, none⟩))))) L (own A (X.bl m j) G) R := by
  induction h with
  | @one m A hi hu hf =>
    intro i b j R hR hA ok h0 h1
    refine wp_loop_unroll (b, i, ()) rfl ?_
    rw [t_magpielaw12_run_L1]
    refine wp_true (ilt (by show i < 2000; omega)) ?_
    refine w_Uses hA ?_
    refine act_enter (hinv _ _) ?_
    refine wp_call_of (hX I A G m j hA ok hi) ?_
    rintro v K ⟨j', rfl, rfl, ha, ok', hA'⟩
    refine ⟨true, by rw [hf], ?_⟩
    refine w_Uses hA' ?_
    refine wp_false (inlt hu) ?_
    exact wp_true rfl (wp_ret_of (hR j' ok' hA' ha))
  | @more n m A m' A' hi hu hf hr ih =>
    intro i b j R hR hA ok h0 h1
    refine wp_loop_unroll (b, i, ()) rfl ?_
    rw [t_magpielaw12_run_L1]
    refine wp_true (ilt (by show i < 2000; omega)) ?_
    refine w_Uses hA ?_
    refine act_enter (hinv _ _) ?_
    refine wp_call_of (hX I A G m j hA ok hi) ?_
    rintro v K ⟨j', rfl, rfl, ha, ok', hA'⟩
    refine ⟨false, by rw [hf], ?_⟩
    refine w_Uses hA' ?_
    refine wp_false (inlt hu) (wp_false rfl (wp_again ?_))
    have e : w64 (i + 1) = i + 1 := w64_in (by omega) (by omega)
    rw [e, ← ha]
    exact ih (fun j2 k1 k2 k3 => hR j2 k1 k2 (k3.trans ha)) hA' ok' (by omega) (by omega)

theorem run12 {M J : Type} {X : Mch M J} (hX : X.ok) {t : TypeId} (hinv : X.inv' t) {I : List Nat} {G : Heap} {n : Nat} {m m' : M} {A A' : Ar} (h : X.Runs n m A m' A') (hn : n ≤ 2000) {j : J} (hA : Aw I A) (ok : Ok I G (keys (X.bl m j))) :
    SpecF Try.prog f_magpielaw12_run #[.pointer (aI I), .iface t (.pointer (some ⟨X.addr j, 0, none⟩))] (own A (X.bl m j) G) fun v K => ∃ j', v = .bool true ∧ K = own A' (X.bl m' j') G ∧ Ok I G (keys (X.bl m' j')) ∧ Aw I A' ∧ X.addr j' = X.addr j := by
  refine t_magpielaw12_run_spec fun L => ?_
  unfold t_magpielaw12_run
  exact run12_go hX hinv h (fun j' a b c => ⟨j', rfl, rfl, a, b, c⟩) hA ok (Int.le_refl 0) (by omega)

theorem w_run12 {M J : Type} {X : Mch M J} (hX : X.ok) {t : TypeId} (hinv : X.inv' t) {I : List Nat} {G : Heap} {n : Nat} {m m' : M} {A A' : Ar} (h : X.Runs n m A m' A') (hn : n ≤ 2000) {j : J} {rest : Bl} (hA : Aw I A) (ok : Ok I G (keys (X.bl m j ++ rest)))
    {L : Hands} {R : Value → Heap → Prop} {k : Bool → Tree} (hk : ∀ j', X.addr j' = X.addr j → Aw I A' → Ok I G (keys (X.bl m' j' ++ rest)) → wp Try.prog (k true) L (own A' (X.bl m' j' ++ rest) G) R) :
    wp Try.prog (.call f_magpielaw12_run [.pointer (aI I), .iface t (.pointer (some ⟨X.addr j, 0, none⟩))] (.one (.leaf .bool)) k) L (own A (X.bl m j ++ rest) G) R := by
  rw [keys_append] at ok
  obtain ⟨o1, o2⟩ := ok.split
  refine w_sub (run12 hX hinv h hn hA o1) ?_
  rintro v K ⟨j', rfl, rfl, ok', hA', ha⟩
  refine ⟨true, rfl, ?_⟩
  rw [← own_append]
  exact hk j' ha hA' (by rw [keys_append]; exact ok'.join o2)
end Go.Proofs.Ytfphgiipekkgdaa

set_option linter.unusedVariables false
set_option maxRecDepth 20000
namespace Go.Proofs.Ytfphgiipekkgdaa
open Go Go.Fw

theorem runR12_go {M J : Type} {X : MchR M J} (hX : X.ok) {t : TypeId} (hinv : X.inv' t) {I : List Nat} {G : Heap} {n : Nat} {m m' : M} {A A' : Ar} (h : X.Runs n m A m' A') {L : Hands} :
    ∀ {i : Int} {b : Bool} {j : J} {R : Value → Heap → Prop}, (∀ j', Ok I G (keys (X.bl m' j')) → X.rep m' j' → Aw I A' → X.addr j' = X.addr j → R (.bool true) (own A' (X.bl m' j') G)) → Aw I A → Ok I G (keys (X.bl m j)) → X.rep m j → 0 ≤ i → i + n ≤ 2000 →
      wp Try.prog (.loop 128 t_magpielaw12_run_L1_sh [(.bool b), (.int .i64 i)] (t_magpielaw12_run_L1 (aI I) (.iface t (.pointer (some ⟨X.addr j, 0, none⟩))))) L (own A (X.bl m j) G) R := by
  induction h with
  | @one m A m1 A1 hi hst hu hf =>
    intro i b j R hR hA ok rp h0 h1
    refine wp_loop_unroll (b, i, ()) rfl ?_
    rw [t_magpielaw12_run_L1]
    refine wp_true (ilt (by show i < 2000; omega)) ?_
    refine w_Uses hA ?_
    refine act_enter (hinv _ _) ?_
    refine wp_call_of (hX I A G m j hA ok rp hi) ?_
    rintro v K ⟨j', rfl, rfl, ha, ok', rp', hA'⟩
    rw [hst] at ok' rp' hA' ⊢
    refine ⟨true, by rw [hf], ?_⟩
    refine w_Uses hA' ?_
    refine wp_false (inlt hu) ?_
    exact wp_true rfl (wp_ret_of (hR j' ok' rp' hA' ha))
  | @more n m A m1 A1 m' A' hi hst hu hf hr ih =>
    intro i b j R hR hA ok rp h0 h1
    refine wp_loop_unroll (b, i, ()) rfl ?_
    rw [t_magpielaw12_run_L1]
    refine wp_true (ilt (by show i < 2000; omega)) ?_
    refine w_Uses hA ?_
    refine act_enter (hinv _ _) ?_
    refine wp_call_of (hX I A G m j hA ok rp hi) ?_
    rintro v K ⟨j', rfl, rfl, ha, ok', rp', hA'⟩
    rw [hst] at ok' rp' hA' ⊢
    refine ⟨false, by rw [hf], ?_⟩
    refine w_Uses hA' ?_
    refine wp_false (inlt hu) (wp_false rfl (wp_again ?_))
    have e : w64 (i + 1) = i + 1 := w64_in (by omega) (by omega)
    rw [e, ← ha]
    exact ih (fun j2 k1 k2 k3 k4 => hR j2 k1 k2 k3 (k4.trans ha)) hA' ok' rp' (by omega) (by omega)

theorem w_runR12 {M J : Type} {X : MchR M J} (hX : X.ok) {t : TypeId} (hinv : X.inv' t) {I : List Nat} {G : Heap} {n : Nat} {m m' : M} {A A' : Ar} (h : X.Runs n m A m' A') (hn : n ≤ 2000) {j : J} {rest : Bl} (hA : Aw I A) (ok : Ok I G (keys (X.bl m j ++ rest))) (rp : X.rep m j)
    {L : Hands} {R : Value → Heap → Prop} {k : Bool → Tree} (hk : ∀ j', X.addr j' = X.addr j → Aw I A' → Ok I G (keys (X.bl m' j' ++ rest)) → X.rep m' j' → wp Try.prog (k true) L (own A' (X.bl m' j' ++ rest) G) R) :
    wp Try.prog (.call f_magpielaw12_run [.pointer (aI I), .iface t (.pointer (some ⟨X.addr j, 0, none⟩))] (.one (.leaf .bool)) k) L (own A (X.bl m j ++ rest) G) R := by
  rw [keys_append] at ok
  obtain ⟨o1, o2⟩ := ok.split
  refine w_sub (R0 := fun v K => ∃ j', v = .bool true ∧ K = own A' (X.bl m' j') (putL rest G) ∧ Ok I (putL rest G) (keys (X.bl m' j')) ∧ X.rep m' j' ∧ Aw I A' ∧ X.addr j' = X.addr j) ?_ ?_
  · refine t_magpielaw12_run_spec fun L => ?_
    unfold t_magpielaw12_run
    exact runR12_go hX hinv h (fun j' a b c d => ⟨j', rfl, rfl, a, b, c, d⟩) hA o1 rp (Int.le_refl 0) (by omega)
  · rintro v K ⟨j', rfl, rfl, ok', rp', hA', ha⟩
    refine ⟨true, rfl, ?_⟩
    rw [← own_append]
    exact hk j' ha hA' (by rw [keys_append]; exact ok'.join o2) rp'
end Go.Proofs.Ytfphgiipekkgdaa

set_option linter.unusedVariables false
set_option linter.unusedSimpArgs false
set_option maxRecDepth 20000
namespace Go.Proofs.Ytfphgiipekkgdaa
open Go Go.Fw

theorem Mch.Runs.pos {M J : Type} {X : Mch M J} {n : Nat} {m m' : M} {A A' : Ar} (h : X.Runs n m A m' A') : 1 ≤ n := by
  cases h <;> omega

/-- Slots that were made and retired. -/
structure MK (I : List Nat) (A : Ar) (w s n : Int) (S : Sg) (hs : List Int) (z : Sl) (tl : Bl) : Prop where
  aw : Aw I A
  sl : SL A (plOf w (8 * s)) w (8 * s) S
  fa : A.fault = false
  ch : ∀ k, S.ch k = []
  cv : S.cv = 8 * n
  nR : A.nR = 8 * n
  us : n ≤ A.uses ∧ A.uses ≤ 20 * n
  ln : (hs.length : Int) = n
  hl : SlOf tl ty_int eI z hs
  st : ∀ h ∈ hs, A.stF h = 2 ∧ opC h = 0 ∧ opB h < 8 * n
  nd : (hs.map opB).Nodup
  rw : ∀ i, 4 * w + 2 * s < i → A.rawF i = 0
  rl : (A.raw.length : Int) = 4 * w + 2 * s + 1 + 2 * w
  nL : A.nL = 0
  nc : S.nc = 8 * n

section
variable {L : Hands} {R : Value → Heap → Prop} {H : Heap}
theorem make1_spec (w s : Int) (wb : 1 ≤ w ∧ w ≤ 9) (sb : 0 ≤ s ∧ s ≤ 20) (H : Heap) : SpecF Try.prog f_magpielaw12_make1 #[.int .i64 w, .int .i64 s] H fun v K => ∃ A S hs z tl, v = .tuple #[.pointer (aI A.ids), (plOf w (8 * s)).val, .agg #[.int .i64 w, .int .i64 (4 * w + 2 * s + 1)],   .slice z.a z.len z.cap] ∧
    K = own A tl H ∧ (∀ x ∈ A.ids, H x = none) ∧ Ok A.ids H (keys tl) ∧ MK A.ids A w s s S hs z tl := by
  refine t_magpielaw12_make1_spec fun L => ?_
  unfold t_magpielaw12_make1
  have e8 : w64 (8 * s) = 8 * s := w64_in (by omega) (by omega)
  have ed : (8 * s + 7) / 8 = s := by omega
  rw [e8]
  have ok0 : Ok0 H (keys []) := ⟨.nil, fun b h => (by cases h)⟩
  refine p_newP (l := []) ok0 fun x5 ok0 => ?_
  refine p_newP ok0 fun x6 ok0 => ?_
  refine w_Raw5 ⟨by omega, by omega⟩ ⟨by omega, by omega⟩ ?_
  rw [ed]
  refine p_newP ok0 fun x8 ok0 => ?_
  refine p_stA 0 ok0 rfl rfl rfl rfl ?_
  refine wq_HRaw ⟨by omega, by omega⟩ ?_
  refine p_newP ok0 fun x10 ok0 => ?_
  refine p_stA 0 ok0 rfl rfl rfl rfl ?_
  dsimp only
  have en : w64 (4 * w + 2 * s + 1 + 2 * w) = 4 * w + 2 * s + 1 + 2 * w := w64_in (by omega) (by omega)
  rw [en]
  refine w_New (l := [(x10, oc ty_hazard_Table (tbC w (4 * w + 2 * s + 1))), (x8, oc ty_free_Place (plCells (plOf w (8 * s)))), (x6, oc ty_hazard_Table (tbC 0 0)), (x5, oc ty_free_Place (plCells ⟨0, 0, 0, 0, 0⟩))]) ok0 ⟨by omega, by omega⟩ ⟨by omega, by omega⟩ fun A hm hA hI ok => ?_
  let B4 : Bl := [(x10, oc ty_hazard_Table (tbC w (4 * w + 2 * s + 1))), (x8, oc ty_free_Place (plCells (plOf w (8 * s)))), (x6, oc ty_hazard_Table (tbC 0 0)), (x5, oc ty_free_Place (plCells ⟨0, 0, 0, 0, 0⟩))]
  have car : (plOf w (8 * s)).carved = 4 * w + 2 * s := by show 4 * w + 2 * ((8 * s + 7) / 8) = _; omega
  have fin : ∀ {L : Hands} {A' : Ar} {S' : Sg} {hs : List Int} {z : Sl} {tl : Bl}, MK A.ids A' w s s S' hs z tl → Ok A.ids H (keys (B4 ++ tl)) → wp Try.prog (
      .ldA ⟨x8, 0, none⟩ [(.int .i64), (.int .i64), (.int .i64), (.int .i64), (.int .i64)] fun x75 =>
      .ldA ⟨x10, 0, none⟩ [(.int .i64), (.int .i64)] fun x76 =>
      .stA ⟨x5, 0, none⟩ [(.int .i64 x75.1), (.int .i64 x75.2.1), (.int .i64 x75.2.2.1), (.int .i64 x75.2.2.2.1), (.int .i64 x75.2.2.2.2.1)] <|
      .check (ldAS ⟨x10, 0, none⟩ 2 0 #[]) (.agg #[(.int .i64 x76.1), (.int .i64 x76.2.1)]) <|
      .stA ⟨x6, 0, none⟩ [(.int .i64 x76.1), (.int .i64 x76.2.1)] <|
      .look (ldK ⟨x5, 0, none⟩ 5 0 #[] fun r1 => ldK ⟨x6, 0, none⟩ 2 0 #[] fun r2 => .pure (.value (.tuple #[(.pointer (aI A.ids)), (.agg r1), (.agg r2), (.slice z.a z.len z.cap)]))) (.tup [(.leaf .ptr), (.agg [(.int .i64), (.int .i64), (.int .i64), (.int .i64), (.int .i64)]), (.agg [(.int .i64), (.int .i64)]), (.leaf .slice)]) fun r => .ret (Sh.toVal (.tup [(.leaf .ptr), (.agg [(.int .i64), (.int .i64), (.int .i64), (.int .i64), (.int .i64)]), (.agg [(.int .i64), (.int .i64)]), (.leaf .slice)]) r)) L (own A' (B4 ++ tl) H)
      (fun v K => ∃ A S hs z tl, v = .tuple #[.pointer (aI A.ids), (plOf w (8 * s)).val, .agg #[.int .i64 w, .int .i64 (4 * w + 2 * s + 1)], .slice z.a z.len z.cap] ∧ K = own A tl H ∧ (∀ x ∈ A.ids, H x = none) ∧ Ok A.ids H (keys tl) ∧ MK A.ids A w s s S hs z tl) := by
    intro L A' S' hs z tl M ok
    have hA := M.aw
    refine w_ldA 1 hA ok rfl rfl rfl ?_
    refine w_ldA 0 hA ok rfl rfl rfl ?_
    refine w_stA 3 hA ok rfl rfl rfl rfl ?_
    refine w_ckA 0 hA ok rfl rfl rfl rfl ?_
    refine w_stA 2 hA ok rfl rfl rfl rfl ?_
    refine ⟨(aI A.ids, (w, 0, 4 * w, 4 * w + (8 * s + 7) / 8, 4 * w + 2 * ((8 * s + 7) / 8), ()), (w, 4 * w + 2 * s + 1, ()), z, ()), ?_, ?_⟩
    · refine ldK_still (own_get (i := 3) hA (by exact ok) rfl) 5 0 #[] (by exact Nat.le_refl 5) ?_
      refine ldK_still (own_get (i := 2) hA (by exact ok) rfl) 2 0 #[] (by exact Nat.le_refl 2) ?_
      rfl
    have e : A'.ids = A.ids := hA.ids
    have okt : Ok A.ids H (keys tl) := by
      have : Ok A.ids H (keys B4 ++ keys tl) := by rw [← keys_append]; exact ok
      exact this.split.2
    refine ⟨own A' tl H, own_sub (l := _ :: _ :: _ :: _ :: tl) ok okt.nd fun p hp => ?_, A', S', hs, z, tl, by rw [e]; rfl, rfl, by rw [e]; exact hI, by rw [e]; exact okt, by rw [e]; exact M⟩
    exact List.mem_cons_of_mem _ (List.mem_cons_of_mem _ (List.mem_cons_of_mem _ (List.mem_cons_of_mem _ hp)))
  refine wl_pssi (fun _ _ z i K => 0 ≤ i ∧ i ≤ s ∧ ∃ A' S' hs tl, MK A.ids A' w s i S' hs z tl ∧ Ok A.ids H (keys (B4 ++ tl)) ∧ K = own A' (B4 ++ tl) H) (fun _ _ _ i => (s - i).toNat) none sl0 sl0 0 ⟨by omega, by omega, A, ⟨fun _ => [], 0, fun _ => 0, fun _ => -1, 0⟩, [], [], ⟨hA, ?_, hm.fault, fun _ => rfl, rfl, hm.nR, by rw [hm.uses]; omega, rfl, .inl ⟨rfl, rfl⟩, fun h hh => by (cases hh), .nil, ?_, ?_, hm.nL, rfl⟩, ok, rfl⟩ ?_
  · exact SL.made hm (by omega) ⟨wb.1, by omega⟩ ⟨by omega, by omega⟩
  · intro i hi
    unfold Ar.rawF
    split
    · rename_i h; rw [hm.raw, List.getD_eq_getElem?_getD, List.getElem?_replicate]; split <;> rfl
    · rfl
  · rw [hm.raw, List.length_replicate]; omega
  rintro q0 q1 z i K ⟨i0, i1, A', S0, hs, tl, M, ok, rfl⟩
  rw [t_magpielaw12_make1_L1]
  have hA := M.aw
  by_cases c1 : i < s
  case neg =>
    have : i = s := by omega
    subst this
    exact wp_false (decide_eq_false c1) (fin M ok)
  refine wp_true (decide_eq_true c1) ?_
  refine look_val (x := true) (nnA _) (wp_true rfl ?_)
  refine w_ldA 1 hA ok rfl rfl rfl ?_
  refine w_NewAlloc (p := plOf w (8 * s)) hA ok (by decide) fun j okj => ?_
  refine look_val (x := false) (ea_some _) (wp_false rfl ?_)
  have us := M.us
  obtain ⟨n, x', A2, S', Z⟩ := alloc_solo M.sl hA.wf (by omega) (who := 0) (c := 0) ⟨by omega, by omega⟩ (by decide)
  have nn := Z.nn
  have n1 := Z.run.pos
  refine w_run12 mAl_ok mAl_inv Z.run (by omega) (j := j) hA okj fun j' ha hA2 ok2 => ?_
  refine wp_false rfl ?_
  obtain ⟨q, j0, j1⟩ := j'
  have ha : q = j.1 := ha
  subst ha
  refine w_Handle 0 (x := x') hA2 ok2 rfl ?_
  have off := Z.off.us
  obtain ⟨k, b', l, h1, h2, _⟩ | ⟨h1, h2, h3, h4⟩ | ⟨h1, h2, _⟩ := Z.gives.or
  · rw [ask_nil M.ch] at h1; cases h1
  rotate_left
  · exfalso; apply h2; rw [M.cv]; show 8 * i + 8 ≤ 8 * s; omega
  obtain ⟨o1, o2, o3, o4, o5⟩ := carve_name M.sl (by decide) h2
  rw [← h4] at o1 o2 o3 o4 o5
  have hst := Z.st x'.h
  rw [if_pos ⟨o5, rfl⟩] at hst
  have nL := Z.nL
  rw [if_pos o5, show sizeF 0 = 8 from rfl] at nL
  have nR := Z.nR
  have mnR := M.nR
  have cnb := M.sl.cnb
  obtain ⟨Y, yst, yL, yR⟩ := Z.sl.retire (by omega) hst ⟨by rw [o3, show sizeF 0 = 8 from rfl]; have := Z.sl.cnb; omega, by rw [o3, show sizeF 0 = 8 from rfl]; omega⟩
  rw [o3, show sizeF 0 = 8 from rfl] at yR
  refine w_Retire hA2 fun hA3 => ?_
  have tb : A2.turnB x'.h 1 = true := decide_eq_true hst
  rw [tb]
  refine wp_false rfl ?_
  have ro := Off.retireF (c := (plOf w (8 * s)).carved) hA2.wf x'.h
  have ru := ro.us
  have ok := ok2
  refine w_newS hA3 ok fun g ok => ?_
  have ok : Ok A.ids H (keys ((g, oc ty_int [.int .i64 x'.h]) :: (mAl.bl x' (j.1, j0, j1) ++ (B4 ++ tl)))) := ok
  obtain ⟨p1, ok3⟩ := own_perm (A := A2.retireF x'.h) (l' := B4 ++ (((g, oc ty_int [.int .i64 x'.h]) :: (mAl.bl x' (j.1, j0, j1) ++ tl)) ++ [])) ok (perm_by fun c d c0 cd ca => by simp only [cd, ca, c0]; omega)
  show wp Try.prog _ _ (own (A2.retireF x'.h) ((g, oc ty_int [.int .i64 x'.h]) :: (mAl.bl x' (j.1, j0, j1) ++ (B4 ++ tl))) H) _
  rw [p1]
  have ok := ok3
  have mln := M.ln
  refine w_appM (E := eI) elI B4 (xs := hs) (ys := [x'.h]) (t := ⟨some ⟨g, 0, none⟩, 1, 1⟩) hA3 ok (M.hl.mono fun p hp => List.mem_cons_of_mem _ (List.mem_append_right _ hp)) ?_ rfl (by simp only [List.length_cons, List.length_nil]; omega) fun s' mid' hs' ok => ?_
  · exact cell_row (c := [.int .i64 x'.h]) hA3 ok (List.mem_append_right _ (List.mem_append_left _ List.mem_cons_self)) 0 rfl
  have en1 : w64 (i + 1) = i + 1 := w64_in (by omega) (by omega)
  have eb : opB x'.h = 8 * i := by rw [o1, M.cv]
  rw [List.append_nil] at ok ⊢
  refine wp_again ⟨q0, q1, s', i + 1, by show [_, _, _, Value.int .i64 (w64 (i + 1))] = _; rw [en1], ⟨by omega, by omega, A2.retireF x'.h, S', hs ++ [x'.h], mid', ⟨hA3, Y, by rw [ro.fa, Z.off.fa, M.fa], by rw [h3]; exact M.ch, by rw [h3]; show S0.cv + 8 = _; have := M.cv; omega, by rw [yR, nR, mnR]; omega, by omega, by rw [List.length_append]; show ((hs.length + 1 : Nat) : Int) = _; omega, hs', ?_, ?_, ?_, ?_, ?_, ?_⟩, ok, rfl⟩, by omega⟩
  · intro h hh
    rw [yst h]
    rcases List.mem_append.1 hh with hh | hh
    · obtain ⟨a1, a2, a3⟩ := M.st h hh
      have hne : h ≠ x'.h := fun e => by rw [e] at a3; omega
      rw [if_neg hne, Z.st h, if_neg (fun e => hne e.2)]
      exact ⟨a1, a2, by omega⟩
    · have : h = x'.h := by simpa using hh
      subst this
      rw [if_pos rfl]
      exact ⟨rfl, o3, by omega⟩
  · rw [List.map_append]
    refine List.nodup_append.2 ⟨M.nd, by simp, fun a ha b hb e => ?_⟩
    obtain ⟨h, hh, rfl⟩ := List.mem_map.1 ha
    have : b = opB x'.h := by simpa using hb
    have := (M.st h hh).2.2
    omega
  · intro k hk
    rw [ro.rw k (by omega), Z.off.rw k (by omega)]
    exact M.rw k hk
  · rw [ro.rl, Z.off.rl]; exact M.rl
  · rw [yL, o3, show sizeF 0 = 8 from rfl, nL, M.nL]; rfl
  · rw [h3]; show S0.nc + 8 = _; have := M.nc; omega
end
end Go.Proofs.Ytfphgiipekkgdaa

set_option linter.unusedVariables false
set_option linter.unusedSimpArgs false
set_option maxRecDepth 20000
namespace Go.Proofs.Ytfphgiipekkgdaa
open Go Go.Fw

section
variable {A B : Ar} {p : Pl} {w m : Int} {S : Sg} {I : List Nat} {L : Hands} {R : Value → Heap → Prop} {G : Heap} {l : Bl}

theorem nnS (a : Addr) : opS Try.prog (.binOp .neq ty_p_hazard_Scan (.tmp 0) (.const (.pointer none)) ty_p_hazard_Scan) ty_bool [(.pointer (some a))] = .pure (.value (.bool true)) := by kernel_rfl

/-- An element by a number. -/
theorem rdC {xs : List Int} {s : Sl} {k : Int → Tree} {n : Int} {u : TypeId} (hA : Aw I A) (ok : Ok I G (keys l)) (hs : SlOf l ty_int eI s xs) (h0 : 0 ≤ n) (h1 : n < xs.length) (h : wp Try.prog (k (xs.getD n.toNat 0)) L (own A l G) R) :
    wp Try.prog (.look (opS Try.prog (.indexAddr ty_s_int (.tmp 0) (.const (.int .i64 n))) u [(.slice s.a s.len s.cap)]) (.one (.leaf .addr)) fun x => .ld x (.int .i64) k) L (own A l G) R := by
  rw [opS_ix0]; exact w_rdI hA ok hs h0 h1 h

/-- The same, where the place is used again. -/
theorem rdC2 {xs : List Int} {s : Sl} {k : Addr → Int → Tree} {n : Int} {u : TypeId} (hA : Aw I A) (ok : Ok I G (keys l)) (hs : SlOf l ty_int eI s xs) (h0 : 0 ≤ n) (h1 : n < xs.length)
    (h : ∀ (b : Nat) (rest : List Value) (r : Nat), s = ⟨some ⟨b, 0, none⟩, xs.length, xs.length + r⟩ → (b, oc ty_int (eI.all xs ++ rest)) ∈ l → wp Try.prog (k ⟨b, 0 + n.toNat, none⟩ (xs.getD n.toNat 0)) L (own A l G) R) :
    wp Try.prog (.look (opS Try.prog (.indexAddr ty_s_int (.tmp 0) (.const (.int .i64 n))) u [(.slice s.a s.len s.cap)]) (.one (.leaf .addr)) fun x => .ld x (.int .i64) (k x)) L (own A l G) R := by
  rw [opS_ix0]
  rcases hs with ⟨rfl, rfl⟩ | ⟨b, rest, r, rfl, h2, h3⟩
  · have : (([] : List Int).length : Int) = 0 := rfl
    omega
  · refine w_ixS (e := ty_int) rfl rfl rfl h0 h1 ?_
    refine w_ldm (x := xs.getD n.toNat 0) hA ok rfl h3 ?_ (h b rest r rfl h3)
    have hl : n.toNat < xs.length := by omega
    rw [Nat.zero_add, eI_all, List.getElem?_append_left (by simpa using hl), List.getElem?_map, List.getElem?_eq_getElem hl]
    show some _ = _
    rw [List.getD_eq_getElem?_getD, List.getElem?_eq_getElem hl]; rfl
theorem ckC {xs : List Int} {rest : List Value} {b : Nat} {n : Int} {t : Tree} (hA : Aw I A) (ok : Ok I G (keys l)) (hm : (b, oc ty_int (eI.all xs ++ rest)) ∈ l) (h0 : 0 ≤ n) (h1 : n < xs.length) (h : wp Try.prog t L (own A l G) R) :
    wp Try.prog (.check (ldS ⟨b, 0 + n.toNat, none⟩) (.int .i64 (xs.getD n.toNat 0)) t) L (own A l G) R := by
  refine chk_cell ?_ h
  have hl : n.toNat < xs.length := by omega
  rw [Heap.cell_of (own_mem hA ok hm), List.getElem?_toArray, Nat.zero_add, eI_all, List.getElem?_append_left (by simpa using hl), List.getElem?_map, List.getElem?_eq_getElem hl, List.getD_eq_getElem?_getD, List.getElem?_eq_getElem hl]; rfl
theorem ckI {b len cap : Nat} {n : Int} {u : TypeId} {t : Tree} {H : Heap} (h0 : 0 ≤ n) (h1 : n < (len : Int)) (h : wp Try.prog t L H R) :
    wp Try.prog (.check (opS Try.prog (.indexAddr ty_s_int (.tmp 0) (.const (.int .i64 n))) u [(.slice (some ⟨b, 0, none⟩) len cap)]) (.pointer (some ⟨b, 0 + n.toNat, none⟩)) t) L H R := by
  rw [opS_ix0]
  refine check_val ?_ h
  rw [opS_idxS (e := ty_int) rfl rfl h0 h1, Addr.add_mk]
  show Sem.pure (Next.value (Value.pointer (some ⟨b, 0 + n.toNat * 1, none⟩))) = _
  rw [Nat.mul_one]

theorem awake12_det (H : Heap) : Det Try.prog f_magpielaw12_awake [] H (.bool true) H := by
  refine t_magpielaw12_awake_spec fun L => ?_
  unfold t_magpielaw12_awake
  refine wp_call_of (make1_spec 2 2 (by decide) (by decide) H) ?_
  rintro v K ⟨A, S, hs, z, tl, rfl, rfl, hI, ok, M⟩
  refine ⟨(aI A.ids, (2, 0, 4 * 2, 4 * 2 + (8 * 2 + 7) / 8, 4 * 2 + 2 * ((8 * 2 + 7) / 8), ()), (2, 4 * 2 + 2 * 2 + 1, ()), z, ()), rfl, ?_⟩
  have hA := M.aw
  obtain ⟨h0, h1, rfl⟩ : ∃ h0 h1, hs = [h0, h1] := by
    have := M.ln
    match hs, this with
    | [a, b], _ => exact ⟨a, b, rfl⟩
    | [], h => cases h
    | [_], h => cases h
    | _ :: _ :: _ :: _, h => simp at h; omega
  obtain ⟨st0, c0, b0⟩ := M.st h0 (by simp)
  obtain ⟨st1, c1, b1⟩ := M.st h1 (by simp)
  have ne : h0 ≠ h1 := fun e => by have := M.nd; rw [e] at this; simp at this
  have n1 : h1 ≠ 0 := stF_ne0 (by rw [st1]; decide)
  refine w_newP hA ok fun x2 ok => ?_
  refine w_newP hA ok fun x3 ok => ?_
  refine w_stA 1 hA ok rfl rfl rfl rfl ?_
  refine w_stA 0 hA ok rfl rfl rfl rfl ?_
  refine look_val (x := false) (np_some _) (wp_false rfl ?_)
  have zl := M.hl.len
  refine wp_false (ibnf (by show ((z.len : Nat) : Int) = 2; rw [zl]; rfl)) ?_
  refine w_ldA 0 hA ok rfl rfl rfl ?_
  refine wq_Word (tw := 2) (ta := 13) (by decide) ?_
  refine rdC hA ok (M.hl.mono fun p hp => List.mem_cons_of_mem _ (List.mem_cons_of_mem _ hp)) (by decide) (by show (0 : Int) < 2; decide) ?_
  refine w_SetRaw hA fun hA1 => ?_
  have rlA := M.rl
  have usA := M.us
  have O := outS M.sl (i := 15) (v := h0) ⟨by decide, by omega⟩ (by omega)
  have hA1 : Aw A.ids (A.storeR 15 h0) := hA1
  show wp Try.prog _ _ (own (A.storeR 15 h0) _ _) _
  generalize A.storeR 15 h0 = A1 at *
  refine w_ldA 0 hA1 ok rfl rfl rfl ?_
  refine w_ldA 1 hA1 ok rfl rfl rfl ?_
  have zr : SlOf ((x3, oc ty_hazard_Table (tbC 2 13)) :: (x2, oc ty_free_Place (plCells (plOf 2 16))) :: tl) ty_int eI z [h0, h1] := M.hl.mono fun p hp => List.mem_cons_of_mem _ (List.mem_cons_of_mem _ hp)
  have ok : Ok A.ids H (keys ((x3, oc ty_hazard_Table (tbC 2 13)) :: (x2, oc ty_free_Place (plCells (plOf 2 16))) :: tl)) := ok
  show wp Try.prog _ _ (own A1 ((x3, oc ty_hazard_Table (tbC 2 13)) :: (x2, oc ty_free_Place (plCells (plOf 2 16))) :: tl) H) _
  refine w_NewScan (tw := 2) (ta := 13) (work := 0) (p := plOf 2 16) (xs := [h0, h1]) hA1 ok (zr.row hA1 ok) zl (by show 2 ≤ 1000; decide) fun j okj rpj => ?_
  refine look_val (x := true) (nnS _) (wp_true rfl ?_)
  have w13 : ∀ i, i ≠ 15 → 12 < i → A1.rawF i = 0 := fun i h h' => by rw [O.rf, if_neg h]; exact M.rw i (by omega)
  have in0 : inS (seenN A1 13 (2 * (2 : Int)).toNat) h0 = true := (seenN_in A1 13 h0 _).2 ⟨2, by decide, by rw [O.rf]; exact if_pos rfl⟩
  have in1 : inS (seenN A1 13 (2 * (2 : Int)).toNat) h1 = false := by
    cases h : inS (seenN A1 13 (2 * (2 : Int)).toNat) h1 with
    | false => rfl
    | true =>
      exfalso
      obtain ⟨i, i1, i2⟩ := (seenN_in A1 13 h1 _).1 h
      have i1 : i < 4 := i1
      by_cases e : i = 2
      · subst e; rw [O.rf, if_pos (by decide)] at i2; exact ne i2
      · rw [w13 _ (by omega) (by omega)] at i2; exact n1 i2.symm
  have eg : gone A1 2 13 [h0, h1] = [h1] := by unfold gone; simp only [List.filter_cons, in0, in1]; rfl
  have el : lft A1 2 13 [h0, h1] = [h0] := by unfold lft; simp only [List.filter_cons, in0, in1]; rfl
  obtain ⟨A', S', m', n, run, en, ml, me, W⟩ := scan_all (tw := 2) (ta := 13) (who := 0) (xs := [h0, h1]) O.sl hA1.wf (by decide) (by show 2 ≤ 1000; decide) (by decide) (by rw [O.rl]; omega) (by rw [O.rl]; omega) (by rw [O.us]; omega) (by decide) (by simp [ne]) (by rw [O.nR, M.nR]; show (8 : Int) * 2 ≤ 8 * 2; decide) fun h hh => by
    rw [O.st]
    have := M.st h hh
    exact ⟨this.1, this.2.1⟩
  rw [eg] at en W
  rw [el] at ml
  refine w_runR12 mSc_ok mSc_inv run (by rw [en]; show 2 * 2 + 3 * 1 ≤ 2000; decide) (j := j) hA1 okj rpj fun j' ha hA2 ok2 rp2 => ?_
  refine wp_true rfl ?_
  have ha : j'.q = j.q := ha
  rw [← ha]
  refine w_Left hA2 ok2 rp2 me (by rw [ml]; show 1 ≤ 1000; decide) fun s1 tl1 hs1 ok3 => ?_
  rw [ml] at hs1
  refine wp_true (ibeq (by show ((s1.len : Nat) : Int) = 1; rw [hs1.len]; rfl)) ?_
  have zr3 : SlOf (m'.bl j' ++ (tl1 ++ ((x3, oc ty_hazard_Table (tbC 2 13)) :: (x2, oc ty_free_Place (plCells (plOf 2 16))) :: tl))) ty_int eI z [h0, h1] := zr.mono fun p hp => List.mem_append_right _ (List.mem_append_right _ hp)
  refine rdC2 hA2 ok3 zr3 (by decide) (by show (0 : Int) < 2; decide) fun b rest r ez hb => ?_
  subst ez
  refine w_Left hA2 ok3 rp2 me (by rw [ml]; show 1 ≤ 1000; decide) fun s2 tl2 hs2 ok4 => ?_
  rw [ml] at hs2
  have zr4 : SlOf (m'.bl j' ++ (tl2 ++ (tl1 ++ ((x3, oc ty_hazard_Table (tbC 2 13)) :: (x2, oc ty_free_Place (plCells (plOf 2 16))) :: tl)))) ty_int eI _ [h0, h1] := zr.mono fun p hp => List.mem_append_right _ (List.mem_append_right _ (List.mem_append_right _ hp))
  have hb4 : (b, oc ty_int (eI.all [h0, h1] ++ rest)) ∈ m'.bl j' ++ (tl2 ++ (tl1 ++ ((x3, oc ty_hazard_Table (tbC 2 13)) :: (x2, oc ty_free_Place (plCells (plOf 2 16))) :: tl))) := by
    rcases List.mem_append.1 hb with h | h
    · exact List.mem_append_left _ h
    · exact List.mem_append_right _ (List.mem_append_right _ h)
  refine ckC (xs := [h0, h1]) (n := 0) hA2 ok4 hb4 (by decide) (by show (0 : Int) < 2; decide) ?_
  refine ckI (n := 0) (by decide) (by show (0 : Int) < 2; decide) ?_
  refine rdC hA2 ok4 (hs2.mono fun p hp => List.mem_append_right _ (List.mem_append_left _ hp)) (by decide) (by show (0 : Int) < 1; decide) ?_
  refine wp_true (ibeq rfl) ?_
  refine rdC hA2 ok4 zr4 (by decide) (by show (1 : Int) < 2; decide) ?_
  refine w_State hA2 ?_
  have s1 : A'.stF h1 = 0 := by rw [W.st, if_pos (by simp)]
  have s0 : A'.stF h0 = 2 := by
    rw [W.st, if_neg (by simp [ne])]
    show A1.stF h0 = 2
    rw [O.st]; exact st0
  refine wp_true (ibeq s1) ?_
  refine rdC hA2 ok4 zr4 (by decide) (by show (0 : Int) < 2; decide) ?_
  refine w_State hA2 ?_
  refine ⟨H, own_end hA2 ok4 hI, ?_, rfl⟩
  show Value.bool (A'.stF h0 == 2) = _
  rw [s0]; rfl
end
end Go.Proofs.Ytfphgiipekkgdaa

