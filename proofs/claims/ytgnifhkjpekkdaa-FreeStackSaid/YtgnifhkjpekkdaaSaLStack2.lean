import Derived.Test.YtgnifhkjpekkdaaSaLStack
import Derived.Test.YtgnifhkjpekkdaaSaCFam
import Derived.Test.YtgnifhkjpekkdaaSaCRunF
set_option linter.unusedVariables false
set_option linter.unusedSimpArgs false
set_option maxRecDepth 20000
namespace Go.Proofs.Ytgnifhkjpekkdaa
open Go Go.Fw

def plList (p : Pl) : List Value := [.int .i64 p.work, .int .i64 p.heads, .int .i64 p.links, .int .i64 p.gens, .int .i64 p.carved]

@[reducible] def stPre (b3 b6 b7 : Nat) (sl : Nat → Sl) (inn : Nat → Bool) : Bl := [(b7, oc ty_a32_bool (arrC 32 fun j => .bool (inn j))), (b6, oc ty_a12_s_int (arrC 12 fun j => slV (sl j))), (b3, oc ty_free_Place (plList (plOf 3 256)))]

structure StI (I : List Nat) (H : Heap) (b3 b6 b7 : Nat) (n : Int) (A : Ar) (xs : Nat → List Int) (inn : Nat → Bool) (sl : Nat → Sl) (tl : Bl) : Prop where
  aw : Aw I A
  ok : Ok I H (keys (stPre b3 b6 b7 sl inn ++ tl))
  fs : FS A xs inn n
  fam : Fam tl sl xs
  ln : ∀ k, (xs k).length ≤ n

theorem dec_sl (s : Sl) : Lf.dec .slice (slV s) = some s := rfl
theorem arr_ld {n : Nat} {f : Nat → Value} {i : Nat} {l : Leaf} {x : l.T} (hi : i < n) (hx : Lf.dec l (f i) = some x) : ((arrC n f)[i]?).bind (Lf.dec l) = some x := by rw [arrC_get hi]; exact hx
theorem arr_ld' {n : Nat} {f : Nat → Value} {i o : Nat} {l : Leaf} {x : l.T} (ho : o = 0) (hi : i < n) (hx : Lf.dec l (f i) = some x) : ((arrC n f)[o + i]?).bind (Lf.dec l) = some x := by subst ho; rw [Nat.zero_add]; exact arr_ld hi hx

/-- What each round sees of the number. -/
theorem stNum {v : Int} (v0 : 0 ≤ v) (v1 : v < 1048576) : w64 (Int.tdiv v 2) = v / 2 ∧ w64 (Int.tdiv v 6) = v / 6 ∧ w64 (Int.tdiv v 24) = v / 24 ∧ Int.tmod v 2 = v % 2 ∧ Int.tmod (v / 2) 3 = v / 2 % 3 ∧ Int.tmod (v / 6) 4 = v / 6 % 4 ∧ Int.tmod (v / 24) 32 = v / 24 % 32 ∧
    w64 (4 * (v / 2 % 3)) = 4 * (v / 2 % 3) ∧ w64 (4 * (v / 2 % 3) + v / 6 % 4) = 4 * (v / 2 % 3) + v / 6 % 4 ∧ w64 (8 * (v / 24 % 32)) = 8 * (v / 24 % 32) := by
  refine ⟨?_, ?_, ?_, ?_, ?_, ?_, ?_, ?_, ?_, ?_⟩
  · rw [Int.tdiv_eq_ediv_of_nonneg v0, w64_in (by omega) (by omega)]
  · rw [Int.tdiv_eq_ediv_of_nonneg v0, w64_in (by omega) (by omega)]
  · rw [Int.tdiv_eq_ediv_of_nonneg v0, w64_in (by omega) (by omega)]
  · exact Int.tmod_eq_emod_of_nonneg v0
  · exact Int.tmod_eq_emod_of_nonneg (by omega)
  · exact Int.tmod_eq_emod_of_nonneg (by omega)
  · exact Int.tmod_eq_emod_of_nonneg (by omega)
  · exact w64_in (by omega) (by omega)
  · exact w64_in (by omega) (by omega)
  · exact w64_in (by omega) (by omega)

section
variable {L : Hands} {H : Heap} {I : List Nat} {A : Ar} {xs : Nat → List Int} {inn : Nat → Bool} {sl : Nat → Sl} {tl : Bl} {b3 b6 b7 : Nat} {n : Int}

/-- The list, looked at, is the stack. -/
theorem st_J2 {R : Value → Heap → Prop} {v : Int} {q : Bool} (v0 : 0 ≤ v) (v1 : v < 1048576) (S : StI I H b3 b6 b7 (n + 1) A xs inn sl tl) (us : A.uses ≤ 100 * n + 10) (n0 : 0 ≤ n) (n1 : n < 60)
    (hR : ∀ A' tl' p, StI I H b3 b6 b7 (n + 1) A' xs inn sl tl' → wp Try.prog (.again 513 [.bool p, .int .i64 (n + 1)]) L (own A' (stPre b3 b6 b7 sl inn ++ tl') H) R) :
    wp Try.prog (t_magpielaw10_FreeStack_J2 ⟨b3, 0, none⟩ (aI I) ⟨b6, 0, none⟩ (q, n, ()) v) L (own A (stPre b3 b6 b7 sl inn ++ tl) H) R := by
  obtain ⟨hA, ok, fs, fam, ln⟩ := S
  unfold t_magpielaw10_FreeStack_J2
  obtain ⟨e1, e2, e3, e4, e5, e6, e7, e8, e9, e10⟩ := stNum v0 v1
  simp only [e1, e2, e3, e4, e5, e6, e7, e8, e9, e10]
  have w0 := Int.emod_nonneg (v / 2) (b := 3) (by omega)
  have w1 := Int.emod_lt_of_pos (v / 2) (b := 3) (by omega)
  have c0 := Int.emod_nonneg (v / 6) (b := 4) (by omega)
  have c1 := Int.emod_lt_of_pos (v / 6) (b := 4) (by omega)
  generalize hw : v / 2 % 3 = w at *
  generalize hc : v / 6 % 4 = c at *
  refine w_ldA 2 hA ok rfl rfl rfl ?_
  have us0 := fs.F.us
  have hh : headF (plOf 3 256) w c = 4 * w + c := by
    unfold headF plOf; simp only [Int.zero_add]; rw [w64_in (x := 4 * w) (by omega) (by omega), w64_in (x := 4 * w) (by omega) (by omega), w64_in (by omega) (by omega)]
  have hk : (4 * w + c).toNat < 12 := by omega
  have hkx : chS xs (4 * w + c) = (xs (4 * w + c).toNat).reverse := chS_get (by omega) (by omega)
  have hch := fs.F.chn (4 * w + c) (by omega) (by omega)
  rw [hkx] at hch
  have hlk := ln (4 * w + c).toNat
  refine w_List (p := plOf 3 256) (xs := (xs (4 * w + c).toNat).reverse) hA ok hh (fs.F.hdOk (by omega) (by omega)) (by rw [mask17]; exact hch) (by rw [List.length_reverse]; omega) (by decide) (by omega) fun s tl2 hs ok2 hA2 => ?_
  rw [List.append_assoc] at ok2 ⊢
  have hlen : s.len = (xs (4 * w + c).toNat).length := by rw [hs.len, List.length_reverse]
  have hsl := (fam.of (4 * w + c).toNat).len
  refine w_ix (A := A) (e := ty_s_int) (n := 12) rfl rfl rfl (by omega) (by omega) ?_
  refine w_ld 1 (x := sl (4 * w + c).toNat) hA2 ok2 rfl rfl (arr_ld' rfl hk (dec_sl _)) ?_
  refine wp_false (ibnf (by omega)) ?_
  have fs2 : FS (A.later (1 + ((xs (4 * w + c).toNat).reverse.length : Int))) xs inn (n + 1) := by
    refine ⟨fs.F.congr (fun _ _ _ => rfl) rfl ?_, fs.fa, ?_, fs.inn⟩
    · show A.uses ≤ A.uses + _; omega
    · show A.uses + (1 + ((xs (4 * w + c).toNat).reverse.length : Int)) ≤ _; rw [List.length_reverse]; omega
  refine wp_loop_bi (b := q) (fun j K => 0 ≤ j ∧ K = own (A.later (1 + ((xs (4 * w + c).toNat).reverse.length : Int))) (stPre b3 b6 b7 sl inn ++ (tl ++ tl2)) H) (fun j => ((xs (4 * w + c).toNat).length - j).toNat) 0 ⟨Int.le_refl 0, rfl⟩ ?_
  rintro j q2 K ⟨j0, rfl⟩
  rw [t_magpielaw10_FreeStack_L2]
  simp only [e1, e2, e3, e4, e5, e6, e7, e8, e9, e10, hw, hc]
  by_cases hj : j < ((s.len : Nat) : Int)
  · refine wp_true (decide_eq_true hj) ?_
    refine w_rdI hA2 ok2 (hs.mono fun p hp => List.mem_append_right _ (List.mem_append_right _ hp)) j0 (by rw [List.length_reverse]; omega) ?_
    refine w_ix (A := A) (e := ty_s_int) (n := 12) rfl rfl rfl (by omega) (by omega) ?_
    refine w_ld 1 (x := sl (4 * w + c).toNat) hA2 ok2 rfl rfl (arr_ld' rfl hk (dec_sl _)) ?_
    have ei : w64 (w64 (((s.len : Nat) : Int) - 1) - j) = ((s.len : Nat) : Int) - 1 - j := by rw [w64_in (x := ((s.len : Nat) : Int) - 1) (by omega) (by omega), w64_in (by omega) (by omega)]
    rw [ei]
    refine w_rdI hA2 ok2 ((fam.of (4 * w + c).toNat).mono fun p hp => List.mem_append_right _ (List.mem_append_left _ hp)) (by omega) (by omega) ?_
    have ev : (xs (4 * w + c).toNat).reverse.getD j.toNat 0 = (xs (4 * w + c).toNat).getD (((s.len : Nat) : Int) - 1 - j).toNat 0 := by
      rw [List.getD_eq_getElem?_getD, List.getD_eq_getElem?_getD, List.getElem?_reverse (by omega)]
      congr 2; omega
    refine wp_false (ibnf ev) ?_
    have e1 : w64 (j + 1) = j + 1 := w64_in (by omega) (by omega)
    exact wp_again ⟨q2, j + 1, by rw [e1], ⟨by omega, rfl⟩, by omega⟩
  · refine wp_false (decide_eq_false hj) (wp_again_up (by decide) ?_)
    have e1 : w64 (n + 1) = n + 1 := w64_in (by omega) (by omega)
    show wp Try.prog (.again 513 [.bool q2, .int .i64 (w64 (n + 1))]) _ _ _
    rw [e1]
    exact hR _ (tl ++ tl2) q2 ⟨hA2, ok2, fs2, fam.mono fun p hp => List.mem_append_left _ hp, ln⟩

/-- Behind a pop. -/
theorem st_J7 {R : Value → Heap → Prop} {v : Int} {q : Bool} {l : List Int} {b : Int} {ok' : Bool} (v0 : 0 ≤ v) (v1 : v < 1048576) (hA : Aw I A) (ok : Ok I H (keys (stPre b3 b6 b7 sl inn ++ tl))) (fam : Fam tl sl xs)
    (ll : l.length ≤ 1000) (hx : ok' = true → xs (4 * (v / 2 % 3) + v / 6 % 4).toNat = l ++ [b] ∧ 0 ≤ b ∧ b / 8 < 32)
    (h : (ok' = true → wp Try.prog (t_magpielaw10_FreeStack_J2 ⟨b3, 0, none⟩ (aI I) ⟨b6, 0, none⟩ (q, n, ()) v) L (own A (stPre b3 b6 b7 (updS sl (4 * (v / 2 % 3) + v / 6 % 4).toNat ⟨(sl (4 * (v / 2 % 3) + v / 6 % 4).toNat).a, l.length, (sl (4 * (v / 2 % 3) + v / 6 % 4).toNat).cap⟩) (updS inn (b / 8).toNat false) ++ tl) H) R) ∧
      (ok' = false → wp Try.prog (t_magpielaw10_FreeStack_J2 ⟨b3, 0, none⟩ (aI I) ⟨b6, 0, none⟩ (q, n, ()) v) L (own A (stPre b3 b6 b7 sl inn ++ tl) H) R)) :
    wp Try.prog (t_magpielaw10_FreeStack_J7 ⟨b3, 0, none⟩ (aI I) ⟨b6, 0, none⟩ ⟨b7, 0, none⟩ (q, n, ()) v (b, ok', ())) L (own A (stPre b3 b6 b7 sl inn ++ tl) H) R := by
  unfold t_magpielaw10_FreeStack_J7
  cases ok' with
  | false => exact wp_false rfl (h.2 rfl)
  | true =>
    obtain ⟨hx, hb0, hb1⟩ := hx rfl
    refine wp_true rfl ?_
    obtain ⟨e1, e2, e3, e4, e5, e6, e7, e8, e9, e10⟩ := stNum v0 v1
    simp only [e1, e2, e3, e4, e5, e6, e7, e8, e9, e10]
    have w0 := Int.emod_nonneg (v / 2) (b := 3) (by omega)
    have w1 := Int.emod_lt_of_pos (v / 2) (b := 3) (by omega)
    have c0 := Int.emod_nonneg (v / 6) (b := 4) (by omega)
    have c1 := Int.emod_lt_of_pos (v / 6) (b := 4) (by omega)
    have h1 := h.1 rfl
    generalize hw : v / 2 % 3 = w at *
    generalize hc : v / 6 % 4 = c at *
    have hk : (4 * w + c).toNat < 12 := by omega
    have eb : w64 (Int.tdiv b 8) = b / 8 := by rw [Int.tdiv_eq_ediv_of_nonneg hb0, w64_in (by omega) (by omega)]
    rw [eb]
    have hsl := (fam.of (4 * w + c).toNat).len
    have hsl2 : (sl (4 * w + c).toNat).len = l.length + 1 := by rw [hsl, hx]; simp
    have hcap : l.length ≤ (sl (4 * w + c).toNat).cap := by
      rcases fam.of (4 * w + c).toNat with ⟨h, _⟩ | ⟨c, rest, r, h, _, _⟩
      · rw [h] at hsl2; cases hsl2
      · rw [h] at hsl2 ⊢; simp only at hsl2 ⊢; omega
    refine w_ix (A := A) (e := ty_bool) (n := 32) rfl rfl rfl (by omega) (by omega) ?_
    refine w_st 0 hA ok rfl rfl rfl (by rw [arrC_len]; exact decide_eq_true (by omega)) ?_
    refine w_ix (A := A) (e := ty_s_int) (n := 12) rfl rfl rfl (by omega) (by omega) ?_
    refine w_ld 1 (x := sl (4 * w + c).toNat) hA ok rfl rfl (arr_ld' rfl hk (dec_sl _)) ?_
    refine w_ix (A := A) (e := ty_s_int) (n := 12) rfl rfl rfl (by omega) (by omega) ?_
    refine w_ld 1 (x := sl (4 * w + c).toNat) hA ok rfl rfl (arr_ld' rfl hk (dec_sl _)) ?_
    have en : w64 ((((sl (4 * w + c).toNat).len : Nat) : Int) - 1) = (l.length : Int) := by rw [w64_in (by omega) (by omega)]; omega
    rw [en]
    refine w_cut (by omega) (by omega) ?_
    refine w_ix (A := A) (e := ty_s_int) (n := 12) rfl rfl rfl (by omega) (by omega) ?_
    refine w_st 1 hA ok rfl rfl rfl (by rw [arrC_len]; exact decide_eq_true (by omega)) ?_
    have ez : ∀ t : Nat, 0 + t = t := Nat.zero_add
    have s1 : (arrC 32 fun j => Value.bool (inn j)).set (0 + (b / 8).toNat) (.bool false) = arrC 32 fun j => .bool (updS inn (b / 8).toNat false j) := by
      rw [ez, arrC_set]; congr 1; funext j; unfold updS; split <;> rfl
    have s2 : (arrC 12 fun j => slV (sl j)).set (0 + (4 * w + c).toNat) (.slice (sl (4 * w + c).toNat).a ((l.length : Int)).toNat (sl (4 * w + c).toNat).cap) = arrC 12 fun j => slV (updS sl (4 * w + c).toNat ⟨(sl (4 * w + c).toNat).a, l.length, (sl (4 * w + c).toNat).cap⟩ j) := by
      rw [ez, arrC_set]; congr 1; funext j; unfold updS; split <;> rfl
    show wp Try.prog _ L (own A ((b7, oc ty_a32_bool ((arrC 32 fun j => Value.bool (inn j)).set (0 + (b / 8).toNat) (.bool false))) :: (b6, oc ty_a12_s_int ((arrC 12 fun j => slV (sl j)).set (0 + (4 * w + c).toNat) (.slice (sl (4 * w + c).toNat).a ((l.length : Int)).toNat (sl (4 * w + c).toNat).cap))) :: (b3, oc ty_free_Place (plList (plOf 3 256))) :: tl) H) R
    rw [s1, s2]
    exact h1

theorem st_J28 {R : Value → Heap → Prop} (hI : ∀ x ∈ I, H x = none) (S : StI I H b3 b6 b7 n A xs inn sl tl) (hR : R (.bool true) H) :
    wp Try.prog (t_magpielaw10_FreeStack_J28 (aI I)) L (own A (stPre b3 b6 b7 sl inn ++ tl) H) R := by
  obtain ⟨hA, ok, fs, fam, ln⟩ := S
  unfold t_magpielaw10_FreeStack_J28
  refine w_Fault hA ?_
  rw [fs.fa]
  refine wp_true rfl ?_
  refine wp_call_det (awake10_det _) ?_
  exact ⟨H, own_end hA ok hI, hR⟩

theorem eh_some' (a : Option Addr) (h : a.isSome = true) : opS Try.prog (.binOp .eql ty_p_free_Pop (.tmp 0) (.const (.pointer none)) ty_p_free_Pop) ty_bool [(.pointer a)] = .pure (.value (.bool false)) := by
  cases a with
  | none => cases h
  | some a => exact eo_some a

theorem FreeStack_det (s : Sl) (zs : List Int) (H : Heap) (hz : RowOf H s.a s.len zs) : Det Try.prog f_magpielaw10_FreeStack [.slice s.a s.len s.cap] H (.bool true) H := by
  refine t_magpielaw10_FreeStack_spec (p0 := s) fun L => ?_
  unfold t_magpielaw10_FreeStack
  refine w_Raw5 ⟨by omega, by omega⟩ ⟨by omega, by omega⟩ ?_
  have ok0 : Ok0 H (keys []) := ⟨.nil, fun b h => (by cases h)⟩
  refine p_newP (l := []) ok0 fun b3 ok0 => ?_
  refine p_stA 0 ok0 rfl rfl rfl rfl ?_
  have e77 : (4 * 3 + 2 * ((256 + 7) / 8) + 1 : Int) = 77 := rfl
  dsimp only
  rw [e77]
  refine w_New (l := [(b3, oc ty_free_Place (plList (plOf 3 256)))]) ok0 ⟨by omega, by omega⟩ ⟨by omega, by omega⟩ fun A hm hA hI ok => ?_
  refine look_val (x := false) (np_some _) (wp_false rfl ?_)
  refine w_newP hA ok fun b6 ok => ?_
  refine w_newP hA ok fun b7 ok => ?_
  have F0 : FL A (plOf 3 256) 3 32 (chS fun _ => []) := by
    have hz : ∀ i, A.rawF i = 0 := fun i => by
      unfold Ar.rawF; split
      · rw [hm.raw, List.getD_eq_getElem?_getD, List.getElem?_replicate]; split <;> rfl
      · rfl
    have hc : ∀ k, chS (fun _ => []) k = [] := fun k => by unfold chS; split <;> rfl
    refine ⟨rfl, rfl, by omega, by omega, by rw [hm.raw, List.length_replicate]; decide, by rw [hm.uses]; omega, fun k _ _ => ?_, fun k _ _ => ?_, fun k b h => ?_, fun k => ?_, fun k j b h => ?_, fun k h => ?_⟩
    · rw [hz, hm.uses]; decide
    · rw [hz, hc]; rfl
    · rw [hc] at h; cases h
    · rw [hc]; exact .nil
    · rw [hc] at h; cases h
    · rw [hc] at h; exact (h rfl).elim
  refine wp_loop_bi (b := false) (fun n K => 0 ≤ n ∧ n ≤ 60 ∧ ∃ A' xs inn sl tl, StI A.ids H b3 b6 b7 n A' xs inn sl tl ∧ K = own A' (stPre b3 b6 b7 sl inn ++ tl) H) (fun n => (60 - n).toNat) 0
    ⟨by omega, by omega, A, fun _ => [], fun _ => false, fun _ => sl0, [], ⟨hA, ok, ⟨F0, hm.fault, by rw [hm.uses]; omega, fun b k _ _ h => (by cases h)⟩, Fam.nil _, fun k => by simp⟩, rfl⟩ ?_
  rintro n q K ⟨n0, n1, A', xs, inn, sl, tl, S, rfl⟩
  rw [t_magpielaw10_FreeStack_L1]
  by_cases c1 : n < ((s.len : Nat) : Int)
  case neg => exact wp_false (decide_eq_false c1) (st_J28 hI S ⟨rfl, rfl⟩)
  refine wp_true (decide_eq_true c1) ?_
  by_cases c2 : n < 60
  case neg => exact wp_false (decide_eq_false c2) (st_J28 hI S ⟨rfl, rfl⟩)
  refine wp_true (decide_eq_true c2) ?_
  refine wp_row hz (own_end S.aw S.ok hI) n0 c1 ?_
  refine w_Place (by omega) (by omega) ?_
  have v0 := Int.emod_nonneg (zs.getD n.toNat 0) (b := 1048576) (by omega)
  have v1 := Int.emod_lt_of_pos (zs.getD n.toNat 0) (b := 1048576) (by omega)
  generalize zs.getD n.toNat 0 % 1048576 = v at *
  have again : ∀ {R : Value → Heap → Prop} A2 xs2 inn2 sl2 tl2 p, StI A.ids H b3 b6 b7 (n + 1) A2 xs2 inn2 sl2 tl2 → wp Try.prog (.again 513 [.bool p, .int .i64 (n + 1)]) (L.set 513 fun vals H'' => ∃ c j, vals = [.bool c, .int .i64 j] ∧ (0 ≤ j ∧ j ≤ 60 ∧ ∃ A' xs inn sl tl, StI A.ids H b3 b6 b7 j A' xs inn sl tl ∧ H'' = own A' (stPre b3 b6 b7 sl inn ++ tl) H) ∧ (60 - j).toNat < (60 - n).toNat) (own A2 (stPre b3 b6 b7 sl2 inn2 ++ tl2) H) R := fun A2 xs2 inn2 sl2 tl2 p S2 =>
    wp_again ⟨p, n + 1, rfl, ⟨by omega, by omega, A2, xs2, inn2, sl2, tl2, S2, rfl⟩, by omega⟩
  obtain ⟨e1, e2, e3, e4, e5, e6, e7, e8, e9, e10⟩ := stNum v0 v1
  simp only [e1, e2, e3, e4, e5, e6, e7, e8, e9, e10]
  have w0 := Int.emod_nonneg (v / 2) (b := 3) (by omega)
  have w1 := Int.emod_lt_of_pos (v / 2) (b := 3) (by omega)
  have c0 := Int.emod_nonneg (v / 6) (b := 4) (by omega)
  have c4 := Int.emod_lt_of_pos (v / 6) (b := 4) (by omega)
  have d0 := Int.emod_nonneg (v / 24) (b := 32) (by omega)
  have d1 := Int.emod_lt_of_pos (v / 24) (b := 32) (by omega)
  have ek : (((4 * (v / 2 % 3) + v / 6 % 4).toNat : Nat) : Int) = 4 * (v / 2 % 3) + v / 6 % 4 := by omega
  have eb : (((v / 24 % 32).toNat : Nat) : Int) = v / 24 % 32 := by omega
  have hk : (4 * (v / 2 % 3) + v / 6 % 4).toNat < 12 := by omega
  have hb : (v / 24 % 32).toNat < 32 := by omega
  have hh : headF (plOf 3 256) (v / 2 % 3) (v / 6 % 4) = 4 * (v / 2 % 3) + v / 6 % 4 := by
    unfold headF plOf; simp only [Int.zero_add]; rw [w64_in (x := 4 * (v / 2 % 3)) (by omega) (by omega), w64_in (x := 4 * (v / 2 % 3)) (by omega) (by omega), w64_in (by omega) (by omega)]
  -- a pop
  have pops : ∀ {R : Value → Heap → Prop}, R (.bool true) H → wp Try.prog (.ldA ⟨b3, 0, none⟩ [(.int .i64), (.int .i64), (.int .i64), (.int .i64), (.int .i64)] fun x85 =>
        .call f_free_NewPop [(.agg #[(.int .i64 x85.1), (.int .i64 x85.2.1), (.int .i64 x85.2.2.1), (.int .i64 x85.2.2.2.1), (.int .i64 x85.2.2.2.2.1)]), (.int .i64 (v / 2 % 3)), (.int .i64 (v / 6 % 4))] (.one (.leaf .ptr)) fun x88 =>
        t_magpielaw10_FreeStack_J16 ⟨b3, 0, none⟩ (aI A.ids) ⟨b6, 0, none⟩ ⟨b7, 0, none⟩ (q, n, ()) v x88)
      (L.set 513 fun vals H'' => ∃ c j, vals = [.bool c, .int .i64 j] ∧ (0 ≤ j ∧ j ≤ 60 ∧ ∃ A' xs inn sl tl, StI A.ids H b3 b6 b7 j A' xs inn sl tl ∧ H'' = own A' (stPre b3 b6 b7 sl inn ++ tl) H) ∧ (60 - j).toNat < (60 - n).toNat) (own A' (stPre b3 b6 b7 sl inn ++ tl) H) R := by
    intro R hR
    obtain ⟨hA', ok', fs, fam, ln⟩ := S
    refine w_ldA 2 hA' ok' rfl rfl rfl ?_
    refine w_NewPop (p := plOf 3 256) hA' ok' fun q0 q1 okq => ?_
    rw [hh]
    unfold t_magpielaw10_FreeStack_J16
    refine look_val (x := false) (eo_some _) (wp_false rfl ?_)
    generalize hgk : (4 * (v / 2 % 3) + v / 6 % 4).toNat = k at *
    have hsl := (fam.of k).len
    have lnk := ln k
    rcases List.eq_nil_or_concat (xs k) with hx | ⟨l, b, hx⟩
    · obtain ⟨fs2, y, y1, y2, hr⟩ := fs.none n0 (by omega) hk hx
      rw [ek] at hr
      refine w_run10 mPo_ok mPo_inv hr (by omega) (j := (q0, q1)) hA' okq fun j' ha hA2 ok2 => ?_
      refine wp_false rfl ?_
      obtain ⟨r0, r1⟩ := j'
      have ha : r0 = q0 := ha
      subst ha
      refine w_Base (x := y) 0 1 hA2 ok2 rfl rfl ?_
      rw [y1, y2]
      simp only [e1, e2, e3, e4, e5, e6, e7, e8, e9, e10]
      refine w_ix (A := A) (e := ty_s_int) (n := 12) rfl rfl rfl (by omega) (by omega) ?_
      refine w_ld 3 (x := sl k) hA2 ok2 rfl rfl (arr_ld' rfl (by omega) (by rw [hgk]; exact dec_sl _)) ?_
      have hl0 : ¬ (((sl k).len : Nat) : Int) > 0 := by rw [hsl, hx]; simp
      rw [decide_eq_false hl0]
      refine wp_false rfl (wp_false rfl (wp_true rfl (wp_false rfl ?_)))
      obtain ⟨m1, m2⟩ := own_rot (A := A'.later 1) (a := mPo.bl y (r0, r1)) (b := stPre b3 b6 b7 sl inn) (c := tl) ok2
      show wp Try.prog _ _ (own (A'.later 1) (mPo.bl y (r0, r1) ++ (stPre b3 b6 b7 sl inn ++ tl)) H) R
      rw [m1]
      have fam2 : Fam (mPo.bl y (r0, r1) ++ tl) sl xs := fam.mono fun p hp => List.mem_append_right _ hp
      refine st_J7 (l := []) v0 v1 hA2 m2 fam2 (by decide) (fun h => by cases h) ⟨(fun h => by cases h), fun _ => ?_⟩
      refine st_J2 v0 v1 ⟨hA2, m2, fs2, fam2, fun k => by have := ln k; omega⟩ ?_ n0 c2 fun A3 tl3 p S3 => again A3 xs inn sl tl3 p S3
      have := fs.us
      show A'.uses + 1 ≤ _; omega
    · rw [List.concat_eq_append] at hx
      obtain ⟨b1, b2, b3', fs2, y, y1, y2, hr⟩ := fs.some n0 (by omega) hk hx
      rw [ek] at hr
      refine w_run10 mPo_ok mPo_inv hr (by omega) (j := (q0, q1)) hA' okq fun j' ha hA2 ok2 => ?_
      refine wp_false rfl ?_
      obtain ⟨r0, r1⟩ := j'
      have ha : r0 = q0 := ha
      subst ha
      refine w_Base (x := y) 0 1 hA2 ok2 rfl rfl ?_
      rw [y1, y2]
      simp only [e1, e2, e3, e4, e5, e6, e7, e8, e9, e10]
      have hxl : (xs k).length = l.length + 1 := by rw [hx]; simp
      refine w_ix (A := A) (e := ty_s_int) (n := 12) rfl rfl rfl (by omega) (by omega) ?_
      refine w_ld 3 (x := sl k) hA2 ok2 rfl rfl (arr_ld' rfl (by omega) (by rw [hgk]; exact dec_sl _)) ?_
      have hl0 : (((sl k).len : Nat) : Int) > 0 := by rw [hsl, hxl]; omega
      rw [decide_eq_true hl0]
      refine wp_false rfl (wp_true rfl ?_)
      refine w_ix (A := A) (e := ty_s_int) (n := 12) rfl rfl rfl (by omega) (by omega) ?_
      refine w_ld 3 (x := sl k) hA2 ok2 rfl rfl (arr_ld' rfl (by omega) (by rw [hgk]; exact dec_sl _)) ?_
      refine w_ix (A := A) (e := ty_s_int) (n := 12) rfl rfl rfl (by omega) (by omega) ?_
      refine w_ld 3 (x := sl k) hA2 ok2 rfl rfl (arr_ld' rfl (by omega) (by rw [hgk]; exact dec_sl _)) ?_
      have en : w64 ((((sl k).len : Nat) : Int) - 1) = (l.length : Int) := by rw [w64_in (by omega) (by omega)]; omega
      rw [en]
      obtain ⟨m1, m2⟩ := own_rot (A := A'.popped k (12 + b / 8)) (a := mPo.bl y (r0, r1)) (b := stPre b3 b6 b7 sl inn) (c := tl) ok2
      have m1 : own (A'.popped (4 * (v / 2 % 3) + v / 6 % 4) (12 + b / 8)) (mPo.bl y (r0, r1) ++ (stPre b3 b6 b7 sl inn ++ tl)) H = own (A'.popped (4 * (v / 2 % 3) + v / 6 % 4) (12 + b / 8)) (stPre b3 b6 b7 sl inn ++ (mPo.bl y (r0, r1) ++ tl)) H := by rw [← ek]; exact m1
      show wp Try.prog _ _ (own (A'.popped (4 * (v / 2 % 3) + v / 6 % 4) (12 + b / 8)) (mPo.bl y (r0, r1) ++ (stPre b3 b6 b7 sl inn ++ tl)) H) R
      rw [m1]
      have fam2 : Fam (mPo.bl y (r0, r1) ++ tl) sl xs := fam.mono fun p hp => List.mem_append_right _ hp
      refine w_rdI hA2 m2 ((fam2.of k).mono fun p hp => List.mem_append_right _ hp) (by omega) (by omega) ?_
      have ev : b = (xs k).getD ((l.length : Int)).toNat 0 := by
        have : ((l.length : Int)).toNat = l.length := by omega
        rw [this, hx]; simp
      refine wp_false (ibnf ev) (wp_false rfl ?_)
      refine st_J7 (l := l) v0 v1 hA2 m2 fam2 (by omega) (fun _ => by rw [hgk]; exact ⟨hx, b1, b3'⟩) ⟨fun _ => ?_, (fun h => by cases h)⟩
      rw [hgk]
      have fam3 := fam2.take k (n := l.length) (by omega)
      have et : updS xs k ((xs k).take l.length) = fun j => if j = k then l else xs j := by
        funext j; unfold updS; split
        · rw [hx]; simp
        · rfl
      rw [et] at fam3
      rw [ek] at fs2
      refine st_J2 v0 v1 ⟨hA2, m2, fs2, fam3, fun j => ?_⟩ ?_ n0 c2 fun A3 tl3 p S3 => again A3 _ _ _ tl3 p S3
      · have := ln j
        split
        · omega
        · omega
      · have := fs.us
        show A'.uses + 3 ≤ _; omega
  by_cases hp : v % 2 = 0
  · refine wp_true (ibeq hp) ?_
    refine w_ix (A := A) (e := ty_bool) (n := 32) rfl rfl rfl (by omega) (by omega) ?_
    refine w_ld 0 (x := inn (v / 24 % 32).toNat) S.aw S.ok rfl rfl (arr_ld' rfl hb rfl) ?_
    cases hi : inn (v / 24 % 32).toNat with
    | true => exact wp_false rfl (pops ⟨rfl, rfl⟩)
    | false =>
      refine wp_true rfl ?_
      obtain ⟨hA', ok', fs, fam, ln⟩ := S
      refine w_ldA 2 hA' ok' rfl rfl rfl ?_
      refine w_NewPush (p := plOf 3 256) hA' ok' fun q0 q1 okq => ?_
      rw [hh]
      generalize hgk : (4 * (v / 2 % 3) + v / 6 % 4).toNat = k at *
      generalize hgb : (v / 24 % 32).toNat = b at *
      obtain ⟨fs2, y, hr⟩ := fs.push n0 (by omega) hk hb hi
      have lnk := ln k
      rw [ek, eb] at hr
      refine w_run10 mPu_ok mPu_inv hr (by omega) (j := (q0, q1)) hA' okq fun j' ha hA2 ok2 => ?_
      refine wp_false rfl ?_
      obtain ⟨r0, r1⟩ := j'
      refine w_ix (A := A) (e := ty_s_int) (n := 12) rfl rfl rfl (by omega) (by omega) ?_
      refine w_ld 3 (x := sl k) hA2 ok2 rfl rfl (arr_ld' rfl (by omega) (by rw [hgk]; exact dec_sl _)) ?_
      obtain ⟨m1, m2⟩ := own_rot (A := A'.pushed (4 * (v / 2 % 3) + v / 6 % 4) (12 + v / 24 % 32) (8 * (v / 24 % 32))) (a := mPu.bl y (r0, r1)) (b := stPre b3 b6 b7 sl inn) (c := tl) ok2
      show wp Try.prog _ _ (own (A'.pushed (4 * (v / 2 % 3) + v / 6 % 4) (12 + v / 24 % 32) (8 * (v / 24 % 32))) (mPu.bl y (r0, r1) ++ (stPre b3 b6 b7 sl inn ++ tl)) H) _
      rw [m1]
      have fam2 : Fam (mPu.bl y (r0, r1) ++ tl) sl xs := fam.mono fun p hp => List.mem_append_right _ hp
      refine w_app1 hA2 m2 (fam2.of k) (by omega) fun s' tl' hs' ok3 ap => ?_
      refine w_ix (A := A) (e := ty_s_int) (n := 12) rfl rfl rfl (by omega) (by omega) ?_
      refine w_st 1 hA2 ok3 rfl rfl rfl (by rw [arrC_len]; exact decide_eq_true (by omega)) ?_
      refine w_ix (A := A) (e := ty_bool) (n := 32) rfl rfl rfl (by omega) (by omega) ?_
      refine w_st 0 hA2 ok3 rfl rfl rfl (by rw [arrC_len]; exact decide_eq_true (by omega)) ?_
      have ez : ∀ t : Nat, 0 + t = t := Nat.zero_add
      have s1 : (arrC 32 fun j => Value.bool (inn j)).set (0 + (v / 24 % 32).toNat) (.bool true) = arrC 32 fun j => .bool (if j = b then true else inn j) := by
        rw [ez, hgb, arrC_set]; congr 1; funext j; split <;> rfl
      have s2 : (arrC 12 fun j => slV (sl j)).set (0 + (4 * (v / 2 % 3) + v / 6 % 4).toNat) (.slice s'.a s'.len s'.cap) = arrC 12 fun j => slV (updS sl k s' j) := by
        rw [ez, hgk, arrC_set]; congr 1; funext j; unfold updS; split <;> rfl
      show wp Try.prog _ _ (own (A'.pushed (4 * (v / 2 % 3) + v / 6 % 4) (12 + v / 24 % 32) (8 * (v / 24 % 32))) ((b7, oc ty_a32_bool ((arrC 32 fun j => Value.bool (inn j)).set (0 + (v / 24 % 32).toNat) (.bool true))) :: (b6, oc ty_a12_s_int ((arrC 12 fun j => slV (sl j)).set (0 + (4 * (v / 2 % 3) + v / 6 % 4).toNat) (.slice s'.a s'.len s'.cap))) :: (b3, oc ty_free_Place (plList (plOf 3 256))) :: tl') H) _
      rw [s1, s2]
      have fam3 := fam2.app (i := k) hs' ap
      rw [ek, eb] at fs2
      refine st_J2 v0 v1 ⟨hA2, ok3, fs2, fam3, fun j => ?_⟩ ?_ n0 c2 fun A3 tl3 p S3 => again A3 _ _ _ tl3 p S3
      · have := ln j
        split
        · rw [List.length_append]; simp only [List.length_singleton]; omega
        · omega
      · have := fs.us
        show A'.uses + 3 ≤ _; omega
  · exact wp_false (ibef hp) (pops ⟨rfl, rfl⟩)
end
end Go.Proofs.Ytgnifhkjpekkdaa
