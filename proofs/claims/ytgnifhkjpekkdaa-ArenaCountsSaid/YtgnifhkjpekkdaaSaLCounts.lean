import Derived.Test.YtgnifhkjpekkdaaSaPCounts
import Derived.Test.YtgnifhkjpekkdaaSaCRow
import Derived.Test.YtgnifhkjpekkdaaSaTrArena9
set_option linter.unusedVariables false
set_option maxRecDepth 20000
namespace Go.Proofs.Ytgnifhkjpekkdaa
open Go Go.Fw

theorem wp_loop_4 {L : Hands} {H : Heap} {R : Value → Heap → Prop} {n : Nat} {init : List Value} {body : HL Sh1.T [.leaf (.int .i64), .leaf (.int .i64), .leaf (.int .i64), .leaf (.int .i64)] → Tree} (I : Int → Int → Int → Int → Heap → Prop) (m : Int → Nat) (a0 b0 c0 d0 : Int) (hi : I a0 b0 c0 d0 H)
    (hstep : ∀ (a b c d : Int) H', I a b c d H' → wp Try.prog (body (a, b, c, d, ())) (L.set n fun vals H'' => ∃ (a' b' c' d' : Int), vals = [.int .i64 a', .int .i64 b', .int .i64 c', .int .i64 d'] ∧ I a' b' c' d' H'' ∧ m d' < m d) H' R) (h0 : init = [.int .i64 a0, .int .i64 b0, .int .i64 c0, .int .i64 d0] := by rfl) :
    wp Try.prog (.loop n [.leaf (.int .i64), .leaf (.int .i64), .leaf (.int .i64), .leaf (.int .i64)] init body) L H R := by
  refine wp_loop_inv (fun x K => I x.1 x.2.1 x.2.2.1 x.2.2.2.1 K) (fun x _ => m x.2.2.2.1) (a0, b0, c0, d0, ()) h0 hi ?_
  rintro ⟨a, b, c, d, u⟩ K hI
  refine Go.Fw.wp_mono _ (hstep a b c d K hI) (fun k vals H'' hk => ?_) (fun _ _ h => h)
  unfold Hands.set at *
  split at hk
  · rename_i e; rw [if_pos e]; obtain ⟨a, b, c, d, h1, h2, h3⟩ := hk; exact ⟨(a, b, c, d, ()), h1, h2, h3⟩
  · rename_i e; rw [if_neg e]; exact hk

theorem wp_again_ne {L : Hands} {H : Heap} {R : Value → Heap → Prop} {n m : Nat} {vals : List Value} {C : List Value → Heap → Prop} (hn : n ≠ m) (h : wp Try.prog (.again n vals) L H R) : wp Try.prog (.again n vals) (L.set m C) H R := by
  show (L.set m C) n vals H
  unfold Hands.set; rw [if_neg hn]; exact h

theorem idx8i {b o : Nat} {i : Int} (h0 : 0 ≤ i) (h1 : i < 8) : opS Try.prog (.indexAddr ty_a8_int (.tmp 0) (.tmp 1)) ty_unit [.pointer (some ⟨b, o, none⟩), .int .i64 i] = .pure (.value (.pointer (some ⟨b, o + i.toNat, none⟩))) :=
  idxA (e := ty_int) (n := 8) rfl rfl rfl h0 h1
theorem idx8b {b o : Nat} {i : Int} (h0 : 0 ≤ i) (h1 : i < 8) : opS Try.prog (.indexAddr ty_a8_bool (.tmp 0) (.tmp 1)) ty_unit [.pointer (some ⟨b, o, none⟩), .int .i64 i] = .pure (.value (.pointer (some ⟨b, o + i.toNat, none⟩))) :=
  idxA (e := ty_bool) (n := 8) rfl rfl rfl h0 h1

theorem in_cell {A : Ar} {G : Heap} {q : Nat} {c : Array Value} {T : TypeId} {n : Nat} {v : Value} (hq : q ∉ A.ids) (hg : G q = some (.cells c T (0, 0))) (hv : c[n]? = some v) : (A.put G).cell? ⟨q, 0 + n, none⟩ = some v := by
  rw [Nat.zero_add]; exact (Heap.cell_of (by rw [Ar.put_out hq]; exact hg) _).trans hv
theorem in_set {L : Hands} {R : Value → Heap → Prop} {A : Ar} {G : Heap} {q : Nat} {c c' : Array Value} {T : TypeId} {n : Nat} {u v : Value} {k : Tree} (hq : q ∉ A.ids) (hg : G q = some (.cells c T (0, 0))) (hu : c[n]? = some u) (hc : c.setIfInBounds n v = c')
    (h : wp Try.prog k L (A.put (G.set q (.cells c' T (0, 0)))) R) (hs : Value.single v = true := by rfl) : wp Try.prog (.st ⟨q, 0 + n, none⟩ v k) L (A.put G) R := by
  rw [Nat.zero_add]
  refine wp_st_of (by rw [Ar.put_out hq]; exact hg) hu hs ?_
  rw [Ar.put_set _ hq, hc]; exact h

theorem Count_at {A : Ar} {p : Value} (hp : p = pA A) (H : Heap) : Det Try.prog f_arena_Arena_Count [p] (A.put H) (.agg #[.int .i64 A.nC, .int .i64 A.nL, .int .i64 A.nR, .int .i64 A.nF]) (A.put H) := by rw [hp]; exact Count_det H

/-- Three arrays on the heap. -/
structure G3 (H G : Heap) (q8 q9 q10 : Nat) (st gn : List Int) (ws : List Bool) : Prop where
  le : H.le G
  e8 : G q8 = some (.cells (ints st) ty_a8_int (0, 0))
  e9 : G q9 = some (.cells (ints gn) ty_a8_int (0, 0))
  e10 : G q10 = some (.cells (bools ws) ty_a8_bool (0, 0))

theorem ArenaCounts_det (a0 : Int) (s : Sl) (zs : List Int) (H : Heap) (hz : RowOf H s.a s.len zs) : Det Try.prog f_magpielaw09_ArenaCounts [.int .i64 a0, .slice s.a s.len s.cap] H (.bool true) H := by
  refine t_magpielaw09_ArenaCounts_spec (p1 := s) fun L => ?_
  unfold t_magpielaw09_ArenaCounts
  refine wp_qcall_det (Place_det _ _ (by omega) (by omega) _) ?_
  have c1 := Int.emod_nonneg a0 (b := 4) (by omega)
  have c2 := Int.emod_lt_of_pos a0 (b := 4) (by omega)
  generalize a0 % 4 = c at *
  refine wp_qcall_det (Size_det _ _) ?_
  have hn : sizeF c = 8 ∨ sizeF c = 16 ∨ sizeF c = 32 ∨ sizeF c = 64 := by have := sizeF_cases c1 c2; omega
  generalize hs : sizeF c = n at *
  refine wp_call_of (New_spec 0 512 false H (by omega) (by omega)) ?_
  rintro u K ⟨A, hm, hi, rfl, rfl⟩
  refine ⟨some ⟨A.a, 0, none⟩, rfl, ?_⟩
  have hA := made_wf hm (by exact Nat.le_of_ble_eq_true rfl) (by exact Nat.le_of_ble_eq_true rfl)
  refine look_val (x := false) (np_some _) (wp_false rfl ?_)
  refine wp_false (inlt (by omega)) ?_
  refine wp_newP fun q8 h8 => wp_newP fun q9 h9 => wp_newP fun q10 h10 => ?_
  obtain ⟨n1, h9⟩ := set_none h9
  obtain ⟨n2, h10⟩ := set_none h10
  obtain ⟨n3, h10⟩ := set_none h10
  obtain ⟨i8, h8⟩ := Ar.put_none h8
  obtain ⟨i9, h9⟩ := Ar.put_none h9
  obtain ⟨i10, h10⟩ := Ar.put_none h10
  refine wp_heap (K := A.put (((H.set q8 (.cells (ints (List.replicate 8 0)) ty_a8_int (0, 0))).set q9 (.cells (ints (List.replicate 8 0)) ty_a8_int (0, 0))).set q10 (.cells (bools (List.replicate 8 false)) ty_a8_bool (0, 0)))) (by
    rw [← Ar.put_set _ i10, ← Ar.put_set _ i9, ← Ar.put_set _ i8]; rfl) ?_
  have hle : ∀ (X : Ar) (G : Heap), Ar.Alike A X → H.le G → H.le (X.put G) := fun X G hX hG => Heap.le_trans (put_new (Alike_ids hX hi)) (Ar.put_le hG)
  have r0 : ∀ (j : Nat) (v : Int), (List.replicate 8 v).getD j 0 = v ∨ (List.replicate 8 v).getD j 0 = 0 := fun j v => by
    rw [List.getD_eq_getElem?_getD, List.getElem?_replicate]; split
    · exact .inl rfl
    · exact .inr rfl
  have z0 : ∀ j : Nat, (List.replicate 8 (0 : Int)).getD j 0 = 0 := fun j => by have := r0 j 0; omega
  have zb : ∀ (m j : Nat), (List.replicate m false).getD j false = false := fun m j => by rw [List.getD_eq_getElem?_getD, List.getElem?_replicate]; split <;> rfl
  have s0 : ∀ f : Nat → Int, (∀ j, f j = 0) → ∀ m, sumTo f m = 0 := fun f hf m => by
    induction m with
    | zero => rfl
    | succ m ih => simp only [sumTo, ih, hf]; rfl
  have C0 : Cn c n 0 A (List.replicate 8 0) (List.replicate 8 0) (List.replicate 8 false) := by
    refine ⟨hA, by rw [hm.words]; exact List.length_replicate, hm.fault, hm.uses, List.length_replicate, List.length_replicate, List.length_replicate, fun k => by rw [z0]; omega, fun k _ => z0 k, fun k _ => by rw [zb, z0]; rfl, fun k _ => by rw [hm.gens, z0]; rfl,
      fun k _ g g0 _ => ?_, fun k _ i _ => by rw [hm.busy, zb, z0]; rfl, fun k _ i _ => by rw [hm.carved, zb, zb], ?_, ?_, ?_, ?_⟩
    · have : A.stF (packF (n * k) g c) = 0 := by unfold Ar.stF; rw [hm.slots]; rfl
      rw [this, z0]; split <;> rfl
    · rw [hm.nC, s0 _ (fun j => by unfold cF; rw [zb]; rfl)]
    · rw [hm.nL, s0 _ (fun j => by unfold sF; rw [z0]; rfl)]
    · rw [hm.nR, s0 _ (fun j => by unfold sF; rw [z0]; rfl)]
    · rw [hm.nF, hm.nC, hm.nL, hm.nR]; rfl
  have tail : ∀ L (X : Ar) (G : Heap), Ar.Alike A X → H.le G → X.fault = false → X.uses = 0 → wp Try.prog (t_magpielaw09_ArenaCounts_J60 (some ⟨A.a, 0, none⟩)) L (X.put G) (fun u K => u = .bool true ∧ K = H) := by
    intro L X G lX hG fX uX
    unfold t_magpielaw09_ArenaCounts_J60
    refine wp_call_det (x := false) (Fault_at (pA_alike lX).symm fX _) (wp_true rfl ?_)
    refine wp_call_det (x := (0 : Int)) (Uses_at (pA_alike lX).symm uX _) (wp_true rfl ?_)
    refine wp_call_det (awake09_det _) ?_
    exact ⟨H, hle X G lX hG, rfl, rfl⟩
  refine wp_loop_bi (b := false) (fun t K => 0 ≤ t ∧ t ≤ 60 ∧ ∃ (X : Ar) (G : Heap) (st gn : List Int) (ws : List Bool), Ar.Alike A X ∧ Cn c n t X st gn ws ∧ G3 H G q8 q9 q10 st gn ws ∧ K = X.put G) (fun t => (60 - t).toNat) 0
    ⟨by omega, by omega, A, _, _, _, _, .refl A, C0, ⟨?_, ?_, ?_, ?_⟩, rfl⟩ ?_
  · exact Heap.le_trans (Heap.le_set_new _ h8) (Heap.le_trans (Heap.le_set_new _ (by rw [Heap.set_ne _ _ n1]; exact h9)) (Heap.le_set_new _ (by rw [Heap.set_ne _ _ n2, Heap.set_ne _ _ n3]; exact h10)))
  · rw [Heap.set_ne _ _ (Ne.symm n3), Heap.set_ne _ _ (Ne.symm n1), Heap.set_same]
  · rw [Heap.set_ne _ _ (Ne.symm n2), Heap.set_same]
  · exact Heap.set_same _ _ _
  rintro t b K ⟨t0, t1, X, G, st, gn, ws, lX, hC, hG, rfl⟩
  rw [t_magpielaw09_ArenaCounts_L1]
  by_cases b1 : t < ((s.len : Nat) : Int)
  case neg => exact wp_false (decide_eq_false b1) (tail _ X G lX hG.le hC.fa hC.us)
  refine wp_true (decide_eq_true b1) ?_
  by_cases b2 : t < 60
  case neg => exact wp_false (decide_eq_false b2) (tail _ X G lX hG.le hC.fa hC.us)
  refine wp_true (decide_eq_true b2) ?_
  refine wp_row hz (hle X G lX hG.le) t0 b1 ?_
  refine wp_qcall_det (Place_det _ _ (by omega) (by omega) _) ?_
  have v1 := Int.emod_nonneg (zs.getD t.toNat 0) (b := 1048576) (by omega)
  have v2 := Int.emod_lt_of_pos (zs.getD t.toNat 0) (b := 1048576) (by omega)
  generalize zs.getD t.toNat 0 % 1048576 = v at *
  have e1 : w64 (Int.tdiv v 3) = v / 3 := by rw [Int.tdiv_eq_ediv_of_nonneg v1, w64_in (by omega) (by omega)]
  have e2 : Int.tmod (v / 3) 8 = v / 3 % 8 := Int.tmod_eq_emod_of_nonneg (by omega)
  have e3 : Int.tmod v 3 = v % 3 := Int.tmod_eq_emod_of_nonneg v1
  rw [e1, e2, e3]
  have k0 := Int.emod_nonneg (v / 3) (b := 8) (by omega)
  have k1 := Int.emod_lt_of_pos (v / 3) (b := 8) (by omega)
  obtain ⟨k, hk⟩ := Int.eq_ofNat_of_zero_le k0
  rw [hk] at k0 k1 ⊢
  have k8 : k < 8 := by omega
  have kt : ((k : Int)).toNat = k := by omega
  have iX : ∀ {q}, q ∉ A.ids → q ∉ X.ids := fun h => by rw [lX.ids]; exact h
  have gk := hC.gb k
  have ew : w64 (n * (k : Int)) = n * k := w64_in (by rcases hn with rfl | rfl | rfl | rfl <;> omega) (by rcases hn with rfl | rfl | rfl | rfl <;> omega)
  have pa : (.pointer (some ⟨A.a, 0, none⟩) : Value) = pA X := (pA_alike lX).symm
  have lg : (ints gn)[k]? = some (.int .i64 (gn.getD k 0)) := ints_getD (by rw [hC.gl]; exact k8)
  have ls : (ints st)[k]? = some (.int .i64 (st.getD k 0)) := ints_getD (by rw [hC.sl]; exact k8)
  have lw : (bools ws)[k]? = some (.bool (ws.getD k false)) := bools_getD (by rw [hC.vl]; exact k8)
  have ld8 : ∀ (Y : Ar), Ar.Alike X Y → (Y.put G).cell? ⟨q8, 0 + ((k : Int)).toNat, none⟩ = some (.int .i64 (st.getD k 0)) := fun Y hY => by rw [kt]; exact in_cell (by rw [hY.ids]; exact iX i8) hG.e8 ls
  have ld9 : ∀ (Y : Ar), Ar.Alike X Y → (Y.put G).cell? ⟨q9, 0 + ((k : Int)).toNat, none⟩ = some (.int .i64 (gn.getD k 0)) := fun Y hY => by rw [kt]; exact in_cell (by rw [hY.ids]; exact iX i9) hG.e9 lg
  -- the tail of a round
  have fin : ∀ (L : Hands) (Y : Ar) (G' : Heap) (st' gn' : List Int) (ws' : List Bool), Ar.Alike A Y → Cn c n (t + 1) Y st' gn' ws' → G3 H G' q8 q9 q10 st' gn' ws' → 
      wp Try.prog (t_magpielaw09_ArenaCounts_J8 n (some ⟨A.a, 0, none⟩) ⟨q8, 0, none⟩ ⟨q10, 0, none⟩ (b, t, ()))
      (L.set 577 fun vals H'' => ∃ (c' : Bool) (j : Int), vals = [.bool c', .int .i64 j] ∧ (0 ≤ j ∧ j ≤ 60 ∧ ∃ (X : Ar) (G : Heap) (st gn : List Int) (ws : List Bool), Ar.Alike A X ∧ Cn c n j X st gn ws ∧ G3 H G q8 q9 q10 st gn ws ∧ H'' = X.put G) ∧ (60 - j).toNat < (60 - t).toNat)
      (Y.put G') (fun u K => u = .bool true ∧ K = H) := by
    intro L Y G' st' gn' ws' lY hY hG'
    unfold t_magpielaw09_ArenaCounts_J8
    refine wp_call_det (x := (Y.nC, Y.nL, Y.nR, Y.nF, ())) (Count_at (pA_alike lY).symm _) ?_
    refine wp_newP fun q hq => ?_
    obtain ⟨iq, hq⟩ := Ar.put_none hq
    refine wp_stA_of (Heap.set_same _ _ _) (by exact Nat.le_refl 4) (List.all_eq_true.1 (by rfl)) ?_
    rw [Heap.set_set]
    refine wp_heap (K := Y.put (G'.set q (.cells #[.int .i64 Y.nC, .int .i64 Y.nL, .int .i64 Y.nR, .int .i64 Y.nF] ty_api_Count (0, 0)))) (by rw [Ar.put_set _ iq]; rfl) ?_
    have lq := Heap.le_set_new (.cells #[.int .i64 Y.nC, .int .i64 Y.nL, .int .i64 Y.nR, .int .i64 Y.nF] ty_api_Count (0, 0)) hq
    have hG2 : G3 H (G'.set q (.cells #[.int .i64 Y.nC, .int .i64 Y.nL, .int .i64 Y.nR, .int .i64 Y.nF] ty_api_Count (0, 0))) q8 q9 q10 st' gn' ws' := ⟨Heap.le_trans hG'.le lq, lq _ _ hG'.e8, lq _ _ hG'.e9, lq _ _ hG'.e10⟩
    have hqc : (Y.put (G'.set q (.cells #[.int .i64 Y.nC, .int .i64 Y.nL, .int .i64 Y.nR, .int .i64 Y.nF] ty_api_Count (0, 0)))) q = some (.cells #[.int .i64 Y.nC, .int .i64 Y.nL, .int .i64 Y.nR, .int .i64 Y.nF] ty_api_Count (0, 0)) := by rw [Ar.put_out iq, Heap.set_same]
    generalize G'.set q (.cells #[.int .i64 Y.nC, .int .i64 Y.nL, .int .i64 Y.nR, .int .i64 Y.nF] ty_api_Count (0, 0)) = G2 at *
    obtain ⟨B1, B2⟩ := bounds hn
    refine wp_loop_4 (fun x y z d K => 0 ≤ d ∧ d ≤ 8 ∧ x = sumTo (cF ws' n) d.toNat ∧ y = sumTo (sF st' 1 n) d.toNat ∧ z = sumTo (sF st' 2 n) d.toNat ∧ K = Y.put G2) (fun d => (8 - d).toNat) 0 0 0 0 ⟨by omega, by omega, rfl, rfl, rfl, rfl⟩ ?_
    rintro x y z d K ⟨d0, d1, hx, hy, hz', rfl⟩
    rw [t_magpielaw09_ArenaCounts_L2]
    have bx := B1 ws' d.toNat
    have by' := B2 st' 1 d.toNat
    have bz := B2 st' 2 d.toNat
    rw [← hx] at bx
    rw [← hy] at by'
    rw [← hz'] at bz
    by_cases hd : d < 8
    · refine wp_true (ilt hd) ?_
      have ed : w64 (d + 1) = d + 1 := w64_in (by omega) (by omega)
      have ex : w64 (x + n) = x + n := w64_in (by omega) (by omega)
      have ey : w64 (y + n) = y + n := w64_in (by omega) (by omega)
      have ez : w64 (z + n) = z + n := w64_in (by omega) (by omega)
      have dt : (d + 1).toNat = d.toNat + 1 := by omega
      have sx : sumTo (cF ws' n) (d + 1).toNat = x + cF ws' n d.toNat := by rw [dt, hx]; rfl
      have sy : sumTo (sF st' 1 n) (d + 1).toNat = y + sF st' 1 n d.toNat := by rw [dt, hy]; rfl
      have sz : sumTo (sF st' 2 n) (d + 1).toNat = z + sF st' 2 n d.toNat := by rw [dt, hz']; rfl
      refine look_val (x := ⟨q10, 0 + d.toNat, none⟩) (idx8b d0 hd) (wp_ld_of (x := ws'.getD d.toNat false) (in_cell (by rw [lY.ids]; exact i10) hG2.e10 (bools_getD (by rw [hY.vl]; omega))) ?_)
      have ls' : (Y.put G2).cell? ⟨q8, 0 + d.toNat, none⟩ = some (.int .i64 (st'.getD d.toNat 0)) := in_cell (by rw [lY.ids]; exact i8) hG2.e8 (ints_getD (by rw [hY.sl]; omega))
      have fx : cF ws' n d.toNat = if ws'.getD d.toNat false then n else 0 := rfl
      have fy : sF st' 1 n d.toNat = if st'.getD d.toNat 0 = 1 then n else 0 := rfl
      have fz : sF st' 2 n d.toNat = if st'.getD d.toNat 0 = 2 then n else 0 := rfl
      rw [fx] at sx
      rw [fy] at sy
      rw [fz] at sz
      cases hw : ws'.getD d.toNat false with
      | true =>
        rw [hw, if_pos rfl] at sx
        refine wp_true rfl ?_
        refine look_val (x := ⟨q8, 0 + d.toNat, none⟩) (idx8i d0 hd) (wp_ld_of (x := st'.getD d.toNat 0) ls' ?_)
        by_cases f1 : st'.getD d.toNat 0 = 1
        · rw [if_pos f1] at sy; rw [if_neg (by omega)] at sz
          refine wp_true (ibeq f1) (wp_again ⟨x + n, y + n, z, d + 1, by rw [ex, ey, ed], ⟨by omega, by omega, sx.symm, sy.symm, by omega, rfl⟩, by omega⟩)
        refine wp_false (ibef f1) ?_
        rw [if_neg f1] at sy
        by_cases f2 : st'.getD d.toNat 0 = 2
        · rw [if_pos f2] at sz
          refine wp_true (ibeq f2) (wp_again ⟨x + n, y, z + n, d + 1, by rw [ex, ez, ed], ⟨by omega, by omega, sx.symm, by omega, sz.symm, rfl⟩, by omega⟩)
        rw [if_neg f2] at sz
        refine wp_false (ibef f2) (wp_again ⟨x + n, y, z, d + 1, by rw [ex, ed], ⟨by omega, by omega, sx.symm, by omega, by omega, rfl⟩, by omega⟩)
      | false =>
        rw [hw, if_neg (by decide)] at sx
        refine wp_false rfl ?_
        refine look_val (x := ⟨q8, 0 + d.toNat, none⟩) (idx8i d0 hd) (wp_ld_of (x := st'.getD d.toNat 0) ls' ?_)
        by_cases f1 : st'.getD d.toNat 0 = 1
        · rw [if_pos f1] at sy; rw [if_neg (by omega)] at sz
          refine wp_true (ibeq f1) (wp_again ⟨x, y + n, z, d + 1, by rw [ey, ed], ⟨by omega, by omega, by omega, sy.symm, by omega, rfl⟩, by omega⟩)
        refine wp_false (ibef f1) ?_
        rw [if_neg f1] at sy
        by_cases f2 : st'.getD d.toNat 0 = 2
        · rw [if_pos f2] at sz
          refine wp_true (ibeq f2) (wp_again ⟨x, y, z + n, d + 1, by rw [ez, ed], ⟨by omega, by omega, by omega, by omega, sz.symm, rfl⟩, by omega⟩)
        rw [if_neg f2] at sz
        refine wp_false (ibef f2) (wp_again ⟨x, y, z, d + 1, by rw [ed], ⟨by omega, by omega, by omega, by omega, by omega, rfl⟩, by omega⟩)
    have d8 : d.toNat = 8 := by omega
    rw [d8] at hx hy hz' bx by' bz
    rw [← hY.nC] at hx
    rw [← hY.nL] at hy
    rw [← hY.nR] at hz'
    refine wp_false (inlt (by show (8 : Int) ≤ d; omega)) ?_
    refine wp_ld_of (x := Y.nC) ((Heap.cell_of hqc 0).trans rfl) (wp_false (ibnf hx.symm) ?_)
    refine wp_ld_of (x := Y.nL) ((Heap.cell_of hqc 1).trans rfl) (wp_false (ibnf hy.symm) ?_)
    refine wp_ld_of (x := Y.nR) ((Heap.cell_of hqc 2).trans rfl) (wp_false (ibnf hz'.symm) ?_)
    have ef : Y.nF = w64 (w64 (x - y) - z) := by rw [hY.nF, hx, hy, hz', w64_in (x := Y.nC - Y.nL) (by omega) (by omega), w64_in (by omega) (by omega)]
    refine wp_ld_of (x := Y.nF) ((Heap.cell_of hqc 3).trans rfl) (wp_false (ibnf ef) ?_)
    have et : w64 (t + 1) = t + 1 := w64_in (by omega) (by omega)
    exact wp_again_ne (by decide) (wp_again ⟨b, t + 1, by rw [et], ⟨by omega, by omega, Y, G2, st', gn', ws', lY, hY, hG2, rfl⟩, by omega⟩)
  refine look_val (x := ⟨q9, 0 + ((k : Int)).toNat, none⟩) (idx8i k0 k1) (wp_ld_of (x := gn.getD k 0) (ld9 X (.refl X)) ?_)
  rw [ew]
  refine wp_qcall_det (Pack_det _ _ _ _) ?_
  by_cases m0 : v % 3 = 0
  · refine wp_true (ibeq m0) ?_
    refine look_val (x := ⟨q9, 0 + ((k : Int)).toNat, none⟩) (idx8i k0 k1) (wp_ld_of (x := gn.getD k 0) (ld9 X (.refl X)) ?_)
    have eg : w64 (gn.getD k 0 + 1) = gn.getD k 0 + 1 := w64_in (by omega) (by omega)
    rw [eg]
    refine wp_qcall_det (Pack_det _ _ _ _) ?_
    obtain ⟨bo, bc⟩ := hC.born hn ⟨c1, c2⟩ hs (by omega) k8
    refine look_val (x := ⟨q8, 0 + ((k : Int)).toNat, none⟩) (idx8i k0 k1) (wp_ld_of (x := st.getD k 0) (ld8 X (.refl X)) ?_)
    by_cases h0 : st.getD k 0 = 0
    · have lb := bornF_alike X (packF (n * k) (gn.getD k 0 + 1) c)
      have hY := bc h0
      refine wp_call_det (x := true) (Born_yes hC.wf (bo.2 h0) pa _) ?_
      refine chk_cell (ld8 _ lb) (check_val (idx8i k0 k1) ?_)
      refine wp_false (by rw [ibeq h0]; rfl) ?_
      refine look_val (x := ⟨q8, 0 + ((k : Int)).toNat, none⟩) (idx8i k0 k1) (wp_ld_of (x := st.getD k 0) (ld8 _ lb) ?_)
      refine wp_true (ibeq h0) ?_
      refine look_val (x := ⟨q9, 0 + ((k : Int)).toNat, none⟩) (idx8i k0 k1) (wp_ld_of (x := gn.getD k 0) (ld9 _ lb) ?_)
      refine look_val (x := ⟨q8, 0 + ((k : Int)).toNat, none⟩) (idx8i k0 k1) ?_
      have lA := lX.trans lb
      generalize X.bornF (packF (n * k) (gn.getD k 0 + 1) c) = Y at *
      have iY : ∀ {q}, q ∉ A.ids → q ∉ Y.ids := fun h => by rw [lA.ids]; exact h
      rw [kt]
      refine in_set (iY i8) hG.e8 ls (ints_set _ _ _) ?_
      have f9 : (G.set q8 (.cells (ints (st.set k 1)) ty_a8_int (0, 0))) q9 = some (.cells (ints gn) ty_a8_int (0, 0)) := by rw [Heap.set_ne _ _ n1]; exact hG.e9
      refine chk_cell (in_cell (iY i9) f9 lg) (check_val (by have := idx8i (b := q9) (o := 0) k0 k1; rw [kt] at this; exact this) ?_)
      refine look_val (x := ⟨q9, 0 + k, none⟩) (by have := idx8i (b := q9) (o := 0) k0 k1; rw [kt] at this; exact this) ?_
      refine in_set (c' := ints (gn.set k (gn.getD k 0 + 1))) (iY i9) f9 lg (by rw [eg, ints_set]) ?_
      refine look_val (x := ⟨q10, 0 + k, none⟩) (by have := idx8b (b := q10) (o := 0) k0 k1; rw [kt] at this; exact this) ?_
      refine in_set (iY i10) (by rw [Heap.set_ne _ _ n2, Heap.set_ne _ _ n3]; exact hG.e10) lw (bools_set _ _ _) ?_
      refine fin _ Y _ _ _ _ lA hY ⟨?_, ?_, ?_, ?_⟩
      · refine fun x o hx => ?_
        rw [Heap.set_ne _ _ (fun e => by rw [e, h10] at hx; cases hx), Heap.set_ne _ _ (fun e => by rw [e, h9] at hx; cases hx), Heap.set_ne _ _ (fun e => by rw [e, h8] at hx; cases hx)]
        exact hG.le _ _ hx
      · rw [Heap.set_ne _ _ (Ne.symm n3), Heap.set_ne _ _ (Ne.symm n1), Heap.set_same]
      · rw [Heap.set_ne _ _ (Ne.symm n2), Heap.set_same]
      · exact Heap.set_same _ _ _
    · refine wp_call_det (x := false) (Born_no hC.wf (fun e => h0 (bo.1 e)) pa _) ?_
      refine chk_cell (ld8 _ (.refl X)) (check_val (idx8i k0 k1) ?_)
      refine wp_false (by rw [ibef h0]; rfl) ?_
      refine look_val (x := ⟨q8, 0 + ((k : Int)).toNat, none⟩) (idx8i k0 k1) (wp_ld_of (x := st.getD k 0) (ld8 _ (.refl X)) ?_)
      exact wp_false (ibef h0) (fin _ X G st gn ws lX (hC.mono (by omega)) hG)
  refine wp_false (ibef m0) ?_
  have hst := hC.state k8 (by omega)
  have set8 : ∀ (Y : Ar) (x : Int), Ar.Alike A Y → Cn c n t Y (st.set k x) gn ws → ∀ (L : Hands), wp Try.prog (.st ⟨q8, 0 + ((k : Int)).toNat, none⟩ (.int .i64 x) (t_magpielaw09_ArenaCounts_J8 n (some ⟨A.a, 0, none⟩) ⟨q8, 0, none⟩ ⟨q10, 0, none⟩ (b, t, ())))
      (L.set 577 fun vals H'' => ∃ (c' : Bool) (j : Int), vals = [.bool c', .int .i64 j] ∧ (0 ≤ j ∧ j ≤ 60 ∧ ∃ (X : Ar) (G : Heap) (st gn : List Int) (ws : List Bool), Ar.Alike A X ∧ Cn c n j X st gn ws ∧ G3 H G q8 q9 q10 st gn ws ∧ H'' = X.put G) ∧ (60 - j).toNat < (60 - t).toNat)
      (Y.put G) (fun u K => u = .bool true ∧ K = H) := by
    intro Y x lY hY L
    rw [kt]
    refine in_set (by rw [lY.ids]; exact i8) hG.e8 ls (ints_set _ _ _) ?_
    refine fin _ Y _ _ _ _ lY (hY.mono (by omega)) ⟨?_, Heap.set_same _ _ _, by rw [Heap.set_ne _ _ n1]; exact hG.e9, by rw [Heap.set_ne _ _ n3]; exact hG.e10⟩
    refine fun x o hx => ?_
    rw [Heap.set_ne _ _ (fun e => by rw [e, h8] at hx; cases hx)]
    exact hG.le _ _ hx
  by_cases m1 : v % 3 = 1
  · refine wp_true (ibeq m1) ?_
    refine look_val (x := ⟨q8, 0 + ((k : Int)).toNat, none⟩) (idx8i k0 k1) (wp_ld_of (x := st.getD k 0) (ld8 X (.refl X)) ?_)
    have lb := retireF_alike X (packF (n * k) (imax (gn.getD k 0) 1) c)
    by_cases h1 : st.getD k 0 = 1
    · have hY := hC.retire hn ⟨c1, c2⟩ hs (by omega) k8 h1
      refine wp_call_det (x := true) (Retire_at hC.wf pa (decide_eq_true (by rw [hst, h1])) _) ?_
      refine chk_cell (ld8 _ lb) (check_val (idx8i k0 k1) ?_)
      refine wp_false (by rw [ibeq h1]; rfl) ?_
      refine look_val (x := ⟨q8, 0 + ((k : Int)).toNat, none⟩) (idx8i k0 k1) (wp_ld_of (x := st.getD k 0) (ld8 _ lb) ?_)
      refine wp_true (ibeq h1) ?_
      refine look_val (x := ⟨q8, 0 + ((k : Int)).toNat, none⟩) (idx8i k0 k1) ?_
      exact set8 _ 2 (lX.trans lb) hY _
    · have es := stay_retire hC.wf (h := packF (n * k) (imax (gn.getD k 0) 1) c) (by rw [hst]; exact h1)
      refine wp_call_det (x := false) (by have := Retire_at (h := packF (n * k) (imax (gn.getD k 0) 1) c) (x := false) hC.wf pa (decide_eq_false (by rw [hst]; exact h1)) G; rw [es] at this; exact this) ?_
      refine chk_cell (ld8 _ (.refl X)) (check_val (idx8i k0 k1) ?_)
      refine wp_false (by rw [ibef h1]; rfl) ?_
      refine look_val (x := ⟨q8, 0 + ((k : Int)).toNat, none⟩) (idx8i k0 k1) (wp_ld_of (x := st.getD k 0) (ld8 _ (.refl X)) ?_)
      exact wp_false (ibef h1) (fin _ X G st gn ws lX (hC.mono (by omega)) hG)
  refine wp_false (ibef m1) ?_
  refine look_val (x := ⟨q8, 0 + ((k : Int)).toNat, none⟩) (idx8i k0 k1) (wp_ld_of (x := st.getD k 0) (ld8 X (.refl X)) ?_)
  have lb := diedF_alike X (packF (n * k) (imax (gn.getD k 0) 1) c)
  by_cases h1 : st.getD k 0 = 2
  · have hY := hC.died hn ⟨c1, c2⟩ hs (by omega) k8 h1
    refine wp_call_det (x := true) (Died_at hC.wf pa (decide_eq_true (by rw [hst, h1])) _) ?_
    refine chk_cell (ld8 _ lb) (check_val (idx8i k0 k1) ?_)
    refine wp_false (by rw [ibeq h1]; rfl) ?_
    refine look_val (x := ⟨q8, 0 + ((k : Int)).toNat, none⟩) (idx8i k0 k1) (wp_ld_of (x := st.getD k 0) (ld8 _ lb) ?_)
    refine wp_true (ibeq h1) ?_
    refine look_val (x := ⟨q8, 0 + ((k : Int)).toNat, none⟩) (idx8i k0 k1) ?_
    exact set8 _ 0 (lX.trans lb) hY _
  · have es := stay_died hC.wf (h := packF (n * k) (imax (gn.getD k 0) 1) c) (by rw [hst]; exact h1)
    refine wp_call_det (x := false) (by have := Died_at (h := packF (n * k) (imax (gn.getD k 0) 1) c) (x := false) hC.wf pa (decide_eq_false (by rw [hst]; exact h1)) G; rw [es] at this; exact this) ?_
    refine chk_cell (ld8 _ (.refl X)) (check_val (idx8i k0 k1) ?_)
    refine wp_false (by rw [ibef h1]; rfl) ?_
    refine look_val (x := ⟨q8, 0 + ((k : Int)).toNat, none⟩) (idx8i k0 k1) (wp_ld_of (x := st.getD k 0) (ld8 _ (.refl X)) ?_)
    exact wp_false (ibef h1) (fin _ X G st gn ws lX (hC.mono (by omega)) hG)
end Go.Proofs.Ytgnifhkjpekkdaa
