/- Texts of this claim, one behind the other. -/
import Derived.Test.YtfphgiipekkgdaaCWHazardKeeps0
set_option linter.unusedSimpArgs false
set_option linter.unusedVariables false
set_option linter.unusedVariables false
set_option linter.unusedSimpArgs false
set_option maxRecDepth 20000
namespace Go.Proofs.Ytfphgiipekkgdaa
open Go Go.Fw

set_option maxHeartbeats 4000000 in
theorem HazardKeeps_det (p0 : Int) (p1 : Sl) (zs : List Int) (H : Heap) (hz : RowOf H p1.a p1.len zs) : Det Try.prog f_magpielaw12_HazardKeeps [.int .i64 p0, .slice p1.a p1.len p1.cap] H (.bool true) H := by
  refine t_magpielaw12_HazardKeeps_spec (p0 := p0) (p1 := p1) fun L => ?_
  unfold t_magpielaw12_HazardKeeps
  refine w_Place (by omega) (by omega) ?_
  have a0 := Int.emod_nonneg p0 (b := 5) (by omega)
  have a1 := Int.emod_lt_of_pos p0 (b := 5) (by omega)
  generalize p0 % 5 = x24 at *
  obtain ⟨w, ew⟩ : ∃ w, w = 2 + x24 := ⟨_, rfl⟩
  have e1 : w64 (2 + x24) = w := by rw [ew]; exact w64_in (by omega) (by omega)
  rw [e1]
  refine w_Raw5 (w := w) (m := 400) ⟨by omega, by omega⟩ ⟨by omega, by omega⟩ ?_
  have ok0 : Ok0 H (keys []) := ⟨.nil, fun b h => (by cases h)⟩
  refine p_newP (l := []) ok0 fun x6 ok0 => ?_
  refine p_stA 0 ok0 rfl rfl rfl rfl ?_
  have e101 : 4 * w + 2 * ((400 + 7) / 8) + 1 = 4 * w + 101 := by omega
  rw [e101]
  dsimp only
  refine wq_HRaw (w := w) (n := 4 * w + 101) ⟨by omega, by omega⟩ ?_
  refine p_newP ok0 fun x8 ok0 => ?_
  refine p_stA 0 ok0 rfl rfl rfl rfl ?_
  dsimp only
  have e3 : w64 (w64 (4 * w + 101 + 2 * w) + 1) = 4 * w + 101 + 2 * w + 1 := by rw [w64_in (x := 4 * w + 101 + 2 * w) (by omega) (by omega), w64_in (by omega) (by omega)]
  rw [e3]
  refine w_New (l := [(x8, oc ty_hazard_Table (tbC w (4 * w + 101))), (x6, oc ty_free_Place (plCells (plOf w 400)))]) ok0 ⟨by omega, by omega⟩ (by decide) fun A hm hA hI ok => ?_
  refine look_val (x := false) (eqA12 _) (wp_false rfl ?_)
  refine w_newP (c := arrC 7 fun _ => .int .i64 0) hA ok fun x12 ok => ?_
  refine w_stA 0 hA ok rfl rfl rfl rfl ?_
  refine w_newP (c := arrC 7 fun _ => .int .i64 0) hA (by exact ok) fun x13 ok => ?_
  refine w_stA 0 hA ok rfl rfl rfl rfl ?_
  have ok : Ok A.ids H (keys (kpB x6 x8 x12 x13 w (fun _ => 0) (fun _ => 0) none none [])) := ok
  show wp Try.prog _ L (own A (kpB x6 x8 x12 x13 w (fun _ => 0) (fun _ => 0) none none []) H) _
  have rz : ∀ i, A.rawF i = 0 := fun i => by
    unfold Ar.rawF; split
    · rw [hm.raw, List.getD_eq_getElem?_getD, List.getElem?_replicate]; split <;> rfl
    · rfl
  have rl : (A.raw.length : Int) = 4 * w + 101 + 2 * w + 1 := by rw [hm.raw, List.length_replicate]; omega
  have X : SL A (plOf w 400) w 400 _ := SL.made (r := (4 * w + 101 + 2 * w + 1).toNat) (w := w) (m := 400) (by exact hm) (by show 4 * w + 2 * ((400 + 7) / 8) < _; omega) ⟨by omega, by omega⟩ ⟨by omega, by omega⟩
  have u0 := hm.uses
  have n1 := hm.nL
  have n2 := hm.nR
  have sz : ∀ h, A.stF h = 0 := fun h => by unfold Ar.stF; rw [hm.slots]; rfl
  have K0 : HK A.ids A w _ none none [] (fun _ => 0) (fun _ => 0) 0 :=
    ⟨⟨by omega, by omega⟩, hA, X, hm.fault, rl, by omega, by omega, by omega, .inl (rz _), fun h hh => (hh (sz h)).elim, .inl rfl, fun _ _ h => (by cases h), fun _ _ h => (by cases h), fun _ => ⟨.nil, fun h hh => (by cases hh), by decide⟩, by decide, fun r r0 r1 => ⟨⟨by omega, by omega⟩, fun h => by omega, fun h => by omega⟩⟩
  refine wl_bppsi (fun _ pa ps s n K => 0 ≤ n ∧ n ≤ 600 ∧ ∃ B S al sc rs ph hd tl, HK A.ids B w S al sc rs ph hd n ∧ SlOf tl ty_int eI s rs ∧ pa = alP al ∧ ps = scP sc ∧ Ok A.ids H (keys (kpB x6 x8 x12 x13 w ph hd al sc tl)) ∧ K = own B (kpB x6 x8 x12 x13 w ph hd al sc tl) H) (fun _ _ _ _ n => (600 - n).toNat) false none none ⟨none, 0, 0⟩ 0
    ⟨by omega, by omega, A, _, none, none, [], fun _ => 0, fun _ => 0, [], K0, .inl ⟨rfl, rfl⟩, rfl, rfl, ok, rfl⟩ ?_
  rintro q pa ps s n K' ⟨m0, m1, B, S, al, sc, rs, ph, hd, tl, K, hs, rfl, rfl, ok, rfl⟩
  have hB := K.aw
  have sl := hs.len
  have rsl := K.rsl
  rw [t_magpielaw12_HazardKeeps_L1, e1]
  have fin : ∀ L', wp Try.prog (t_magpielaw12_HazardKeeps_J32 (q, alP al, scP sc, s, n, ())) L' (own B (kpB x6 x8 x12 x13 w ph hd al sc tl) H) (fun u K => u = .bool true ∧ K = H) := fun L' => by
    unfold t_magpielaw12_HazardKeeps_J32
    refine wp_true (decide_eq_true (by show ((s.len : Nat) : Int) < 50; omega)) ?_
    refine wp_call_det (x := true) (awake12_det _) ?_
    exact ⟨H, own_end hB ok hI, rfl, rfl⟩
  by_cases d1 : n < ((p1.len : Nat) : Int)
  case neg => exact wp_false (decide_eq_false d1) (fin _)
  refine wp_true (decide_eq_true d1) ?_
  by_cases d2 : n < 600
  case neg => exact wp_false (decide_eq_false d2) (fin _)
  refine wp_true (decide_eq_true d2) ?_
  refine wp_row hz (own_end hB ok hI) m0 d1 ?_
  refine w_Place (by omega) (by omega) ?_
  have v0 := Int.emod_nonneg (zs.getD n.toNat 0) (b := 1048576) (by omega)
  generalize zs.getD n.toNat 0 % 1048576 = v at *
  refine look_val (x := Int.tmod v w) (opS_rem (by omega)) ?_
  rw [Int.tmod_eq_emod_of_nonneg v0]
  have k0 := Int.emod_nonneg v (b := w) (by omega)
  have k1 := Int.emod_lt_of_pos v (b := w) (by omega)
  have hC : ∀ (L0 : Hands), KpC A.ids H (L0.set 896 fun vals H'' => ∃ (y0 : Bool) (y1 y2 : Option Addr) (y3 : Sl) (y4 : Int), vals = [.bool y0, .pointer y1, .pointer y2, .slice y3.a y3.len y3.cap, .int .i64 y4] ∧ (0 ≤ y4 ∧ y4 ≤ 600 ∧ ∃ B S al sc rs ph hd tl, HK A.ids B w S al sc rs ph hd y4 ∧ SlOf tl ty_int eI y3 rs ∧ y1 = alP al ∧ y2 = scP sc ∧ Ok A.ids H (keys (kpB x6 x8 x12 x13 w ph hd al sc tl)) ∧ H'' = own B (kpB x6 x8 x12 x13 w ph hd al sc tl) H) ∧ (600 - y4).toNat < (600 - n).toNat) (fun u K => u = .bool true ∧ K = H) x6 x8 x12 x13 w n q := fun L0 B S al sc rs ph hd s tl K hs ok =>
    wp_again ⟨q, alP al, scP sc, s, n + 1, rfl, ⟨by omega, by omega, B, S, al, sc, rs, ph, hd, tl, K, hs, rfl, rfl, ok, rfl⟩, by omega⟩
  obtain ⟨r, er⟩ : ∃ r : Nat, v % w = (r : Int) := ⟨(v % w).toNat, by omega⟩
  rw [er] at k0 k1 ⊢
  dsimp only
  by_cases r0 : (r : Int) = 0
  case neg =>
    refine wp_false (ibef r0) (wp_false (ibef r0) ?_)
    exact kp_read (al := al) (sc := sc) rfl rfl (by omega) k1 K hs ⟨m0, d2⟩ ok (hC _)
  refine wp_true (ibeq r0) ?_
  cases sc with
  | some z =>
    obtain ⟨x, j⟩ := z
    have an : al = none := by
      rcases K.one with h | h
      · exact h
      · cases h
    subst an
    refine look_val (x := true) (nnS _) (wp_true rfl ?_)
    exact kp_scan K hs ⟨m0, d2⟩ ok (hC _)
  | none =>
    refine look_val (x := false) nnS_none (wp_false rfl (wp_true (ibeq r0) ?_))
    cases al with
    | none =>
      refine look_val (x := true) ea_none ?_
      unfold t_magpielaw12_HazardKeeps_J27
      refine wp_true rfl ?_
      refine w_ldA 3 hB ok rfl rfl rfl ?_
      refine w_NewAlloc (p := plOf w 400) hB ok (by decide) fun j ok1 => ?_
      have K1 := (K.newAl (j := j)).up
      obtain ⟨p2, ok2⟩ := own_perm (A := B) (l' := kpB x6 x8 x12 x13 w ph hd (some (newAl (plOf w 400) 0 0, j)) none tl) ok1 (perm_by fun c d c0 cd ca => by simp only [kpB, alB, scB, cd, ca, c0]; omega)
      rw [p2]
      refine w_Fault K1.aw ?_
      refine wp_false K1.fa ?_
      dsimp only
      rw [w64_in (x := n + 1) (by omega) (by omega)]
      exact hC _ _ _ (some (newAl (plOf w 400) 0 0, j)) none _ _ _ s _ K1 hs ok2
    | some z =>
      obtain ⟨x, j⟩ := z
      refine look_val (x := false) (ea_some _) ?_
      unfold t_magpielaw12_HazardKeeps_J27
      refine wp_false rfl ?_
      rw [r0]
      exact kp_alloc rfl rfl K hs ⟨m0, d2⟩ ok (hC _)
end Go.Proofs.Ytfphgiipekkgdaa

