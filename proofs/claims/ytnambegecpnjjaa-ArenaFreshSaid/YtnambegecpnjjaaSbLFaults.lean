import Derived.Test.YtnambegecpnjjaaSbCArenaX
import Derived.Test.YtnambegecpnjjaaSbTrArena9
set_option linter.unusedVariables false
set_option maxRecDepth 20000
namespace Go.Proofs.Ytnambegecpnjjaa
open Go Go.Fw

theorem Add_at {A : Ar} (hA : A.wf) {h off v x : Int} {p : Value} (hp : p = pA A) (hx : A.loadF h off = x) (H : Heap) : Det Try.prog f_arena_Arena_Add [p, .int .i64 h, .int .i64 off, .int .i64 v] (A.put H) (.int .i64 x) ((A.storeF h off (w64 (x + v))).put H) := by
  rw [hp, ← hx]; exact Add_det hA h off v H
theorem Swap_at {A : Ar} (hA : A.wf) {h off v w : Int} {b : Bool} {p : Value} (hp : p = pA A) (hx : A.swapFb h off v = b) (H : Heap) : Det Try.prog f_arena_Arena_Swap [p, .int .i64 h, .int .i64 off, .int .i64 v, .int .i64 w] (A.put H) (.bool b) ((A.swapF h off v w).put H) := by
  rw [hp, ← hx]; exact Swap_det hA h off v w H
theorem Raw_at' {A : Ar} (hA : A.wf) {i x : Int} {p : Value} (hp : p = pA A) (hx : A.rawF i = x) (H : Heap) : Det Try.prog f_arena_Arena_Raw [p, .int .i64 i] (A.put H) (.int .i64 x) ((A.touchR i).put H) := by
  rw [hp, ← hx]; exact Raw_det hA i H

theorem ArenaFaults_det (how off v : Int) (H : Heap) : Det Try.prog f_magpielaw09_ArenaFaults [.int .i64 how, .int .i64 off, .int .i64 v] H (.bool true) H := by
  refine t_magpielaw09_ArenaFaults_spec fun L => ?_
  unfold t_magpielaw09_ArenaFaults
  refine wp_call_of (New_spec 2 64 false H (by omega) (by omega)) ?_
  rintro u K ⟨A, hm, hi, rfl, rfl⟩
  refine ⟨some ⟨A.a, 0, none⟩, rfl, ?_⟩
  have hA := made_wf hm (by exact Nat.le_of_ble_eq_true rfl) (by exact Nat.le_of_ble_eq_true rfl)
  have hwl : A.words.length = 64 := by rw [hm.words]; exact List.length_replicate
  have hrl : A.raw.length = 2 := by rw [hm.raw]; exact List.length_replicate
  have vh : validN 16 2 0 := ⟨by omega, by omega, by omega, by omega, by omega, by omega⟩
  have vg : validN 16 3 0 := ⟨by omega, by omega, by omega, by omega, by omega, by omega⟩
  have ve : validN 16 1 0 := ⟨by omega, by omega, by omega, by omega, by omega, by omega⟩
  have vp : validN 8 9 1 := ⟨by omega, by omega, by omega, by omega, by omega, by omega⟩
  have vq : validN 8 9 0 := ⟨by omega, by omega, by omega, by omega, by omega, by omega⟩
  obtain ⟨h1, h2, h3, h4⟩ := opB_pack vh
  obtain ⟨g1, g2, g3, g4⟩ := opB_pack vg
  obtain ⟨e1, e2, e3, e4⟩ := opB_pack ve
  obtain ⟨p1, p2, p3, p4⟩ := opB_pack vp
  obtain ⟨q1, q2, q3, q4⟩ := opB_pack vq
  have neg : packF 16 2 0 ≠ packF 16 3 0 := fun e => by have := congrArg opG e; omega
  have nee : packF 16 2 0 ≠ packF 16 1 0 := fun e => by have := congrArg opG e; omega
  refine wp_qcall_det (Pack_det _ _ _ _) (wp_qcall_det (Pack_det _ _ _ _) ?_)
  have eq2 : packF 16 2 0 = packF 16 2 0 := rfl
  generalize hh : packF 16 2 0 = h at *
  generalize packF 16 3 0 = g at *
  refine look_val (x := false) (np_some _) (wp_false rfl ?_)
  have s0 : sizeF 0 = 8 := rfl
  have s1 : sizeF 1 = 16 := rfl
  have o1 : A.bornOk h := bornOk_first hm h4 (by rw [h1, h3, s0]; omega)
  refine wp_call_det (x := true) (Born_yes hA o1 rfl H) (wp_false rfl ?_)
  have w1 := bornF_wf hA h o1.2.1
  have l1 := bornF_alike A h
  have st : ∀ k, (A.bornF h).stF k = if opB k = 16 then (if openOk k = true ∧ h = k then 1 else 0) else 0 := fun k => by
    rw [stF_bornF, h1]
    have : A.stF k = 0 := by unfold Ar.stF; rw [hm.slots]; rfl
    rw [this]
  refine wp_qcall_det (Place_det _ _ (by omega) (by omega) _) ?_
  have k1 := Int.emod_nonneg off (b := 8) (by omega)
  have k2 := Int.emod_lt_of_pos off (b := 8) (by omega)
  generalize off % 8 = k at *
  have sth : (A.bornF h).stF h = 1 := by rw [st, if_pos h1, if_pos ⟨h4, rfl⟩]
  have i1 : (A.bornF h).inOk h k := ⟨by rw [sth]; decide, k1, by rw [h3, s0]; exact k2⟩
  refine wp_call_det (x := ()) (Store_at w1 (pA_alike l1).symm H) ?_
  have w2 := storeF_wf w1 h k v
  have l2 := l1.trans (storeF_alike (A.bornF h) h k v)
  have st2 : ∀ j, ((A.bornF h).storeF h k v).stF j = (A.bornF h).stF j := stF_storeF _ _ _ _
  have i2 : ((A.bornF h).storeF h k v).inOk h k := (inOk_st st2).2 i1
  have ld2 : ((A.bornF h).storeF h k v).loadF h k = v := by rw [loadF_storeF w1 i1 i1, if_pos rfl]
  have us2 : ((A.bornF h).storeF h k v).uses = 1 := by
    rw [storeF_yes i1]; show w64 ((A.bornF h).uses + 1) = 1; rw [bornF_uses, hm.uses]; rfl
  have gn2 : ((A.bornF h).storeF h k v).gens = [(16, 2)] := by
    rw [storeF_yes i1]; show (A.bornF h).gens = _; rw [bornF_gens, hm.gens, h1]
    show [((16 : Int), opG h)] = _; rw [h2]
  have bs2 : ((A.bornF h).storeF h k v).busy = setN (List.replicate 64 false) 16 true 8 := by
    rw [storeF_yes i1]; show (A.bornF h).busy = _; rw [bornF_busy, hm.busy, h1, h3]; rfl
  have wl2 : ((A.bornF h).storeF h k v).words.length = 64 := by
    rw [storeF_yes i1]; show ((A.bornF h).words.set _ _).length = 64; rw [List.length_set, bornF_wl, hwl]
  have rl2 : ((A.bornF h).storeF h k v).raw.length = 2 := by
    rw [storeF_yes i1]; show (A.bornF h).raw.length = 2; rw [bornF_raw, hrl]
  generalize (A.bornF h).storeF h k v = B at *
  have pa : (.pointer (some ⟨A.a, 0, none⟩) : Value) = pA B := (pA_alike l2).symm
  have nog : ∀ j o, h ≠ j → opB j = 16 → ¬ B.inOk j o := fun j o hj hb hi => by
    have := hi.1
    rw [st2, st, if_pos hb, if_neg (fun e => hj e.2)] at this
    exact this rfl
  have tail : ∀ L, wp Try.prog (t_magpielaw09_ArenaFaults_J0 v (some ⟨A.a, 0, none⟩) h k) L (B.tick.bad.put H) (fun u K => u = .bool true ∧ K = H) := by
    intro L
    unfold t_magpielaw09_ArenaFaults_J0
    have w3 : B.tick.bad.wf := bad_wf (tick_wf w2)
    have i3 : B.tick.bad.inOk h k := i2
    refine wp_call_det (x := true) (Fault_at (A := B.tick.bad) pa rfl H) (wp_true rfl ?_)
    refine wp_call_det (x := v) (Load_at (A := B.tick.bad) w3 pa ld2 H) (wp_true (ibeq rfl) ?_)
    rw [touch_yes i3]
    refine wp_call_det (x := true) (Fault_at (A := B.tick.bad.tick) pa rfl H) (wp_true rfl ?_)
    have u3 : B.tick.bad.tick.uses = 3 := by
      show w64 (w64 (B.uses + 1) + 1) = 3; rw [us2]; rfl
    refine wp_call_det (x := (3 : Int)) (Uses_at (A := B.tick.bad.tick) pa u3 H) (wp_true rfl ?_)
    have w4 : B.tick.bad.tick.wf := tick_wf w3
    refine wp_qcall_det (Pack_det _ _ _ _) ?_
    rw [hh]
    have n1 : ¬ B.tick.bad.tick.bornOk h := fun e => by
      have := e.2.2.1
      have gg : B.tick.bad.tick.gens = [(16, 2)] := gn2
      rw [gg, h1, h2] at this
      exact absurd this (by decide)
    refine wp_call_det (x := false) (Born_no w4 n1 pa H) (wp_true rfl ?_)
    refine wp_qcall_det (Pack_det _ _ _ _) ?_
    have gb : B.tick.bad.tick.busy = setN (List.replicate 64 false) 16 true 8 := bs2
    have n2 : ¬ B.tick.bad.tick.bornOk (packF 8 9 1) := fun e => by
      have := e.2.2.2 8 (by rw [p3, s1]; decide)
      rw [p1, gb] at this
      exact absurd this (by decide)
    refine wp_call_det (x := false) (Born_no w4 n2 pa H) (wp_true rfl ?_)
    refine wp_qcall_det (Pack_det _ _ _ _) ?_
    have y3 : B.tick.bad.tick.bornOk (packF 8 9 0) := by
      refine ⟨q4, ?_, ?_, ?_⟩
      · show _ ≤ ((B.words.length : Nat) : Int); rw [q1, q3, s0, wl2]; decide
      · have gg : B.tick.bad.tick.gens = [(16, 2)] := gn2
        rw [gg, q1, q2]; decide
      · intro i hi
        rw [q3, s0] at hi
        have hi : i < 8 := hi
        rw [q1, gb, List.getD_eq_getElem?_getD, setN_get, if_neg (by omega), List.getElem?_replicate]
        split <;> rfl
    refine wp_call_det (x := true) (Born_yes w4 y3 pa H) (wp_true rfl ?_)
    refine wp_call_det (awake09_det _) ?_
    have l4 : Ar.Alike A B.tick.bad.tick := l2.trans ⟨rfl, rfl, rfl, rfl, rfl, rfl, rfl⟩
    have l5 : Ar.Alike A (B.tick.bad.tick.bornF (packF 8 9 0)) := l4.trans (bornF_alike _ _)
    exact ⟨H, put_new (Alike_ids l5 hi), rfl, rfl⟩
  refine wp_qcall_det (Place_det _ _ (by omega) (by omega) _) ?_
  have m1 := Int.emod_nonneg how (b := 6) (by omega)
  have m2 := Int.emod_lt_of_pos how (b := 6) (by omega)
  generalize how % 6 = m at *
  have bs : ∀ j o x, ¬ B.inOk j o → B.storeF j o x = B.tick.bad := fun j o x hn => by unfold Ar.storeF; rw [if_neg hn]
  have bt : ∀ j o, ¬ B.inOk j o → B.touch j o = B.tick.bad := fun j o hn => by unfold Ar.touch; rw [if_neg hn]
  have bl : ∀ j o, ¬ B.inOk j o → B.loadF j o = 0 := fun j o hn => by unfold Ar.loadF; rw [if_neg hn]
  by_cases c0 : m = 0
  · refine wp_true (ibeq c0) ?_
    refine wp_call_det (x := ()) (Store_at w2 pa H) ?_
    rw [bs _ _ _ (nog g k neg g1)]; exact tail _
  refine wp_false (ibef c0) ?_
  by_cases c1 : m = 1
  · refine wp_true (ibeq c1) ?_
    have hn : ¬ B.inOk h (w64 (8 + k)) := fun e => by
      have := e.2.2; rw [h3, s0, w64_in (by omega) (by omega)] at this; omega
    refine wp_call_det (Load_at w2 pa (bl _ _ hn) H) ?_
    rw [bt _ _ hn]; exact tail _
  refine wp_false (ibef c1) ?_
  by_cases c2 : m = 2
  · refine wp_true (ibeq c2) ?_
    refine wp_qcall_det (Pack_det _ _ _ _) ?_
    have hn := nog (packF 16 1 0) k nee e1
    refine wp_call_det (Add_at w2 pa (bl _ _ hn) H) ?_
    rw [bs _ _ _ hn]; exact tail _
  refine wp_false (ibef c2) ?_
  by_cases c3 : m = 3
  · refine wp_true (ibeq c3) ?_
    have hn : ¬ B.rawOk (w64 (2 + k)) := fun e => by
      have := e.2; rw [rl2, w64_in (by omega) (by omega)] at this; omega
    refine wp_call_det (x := (0 : Int)) (Raw_at' w2 pa (by unfold Ar.rawF; rw [if_neg hn]) H) ?_
    have : B.touchR (w64 (2 + k)) = B.tick.bad := by unfold Ar.touchR; rw [if_neg hn]
    rw [this]; exact tail _
  refine wp_false (ibef c3) ?_
  by_cases c4 : m = 4
  · refine wp_true (ibeq c4) ?_
    have hn : ¬ B.inOk 0 k := fun e => by
      have := stF_ok e.1
      rw [open_neg (by omega)] at this; cases this
    refine wp_call_det (x := false) (Swap_at w2 pa (by unfold Ar.swapFb; rw [decide_eq_false (fun e => hn e.1)]) H) ?_
    have : B.swapF 0 k v 1 = B.tick.bad := by unfold Ar.swapF; rw [if_neg hn]
    rw [this]; exact tail _
  refine wp_false (ibef c4) ?_
  have hn : ¬ B.inOk h (w64 (-1 - k)) := fun e => by
    have := e.2.1; rw [w64_in (by omega) (by omega)] at this; omega
  refine wp_call_det (Load_at w2 pa (bl _ _ hn) H) ?_
  rw [bt _ _ hn]; exact tail _
end Go.Proofs.Ytnambegecpnjjaa
