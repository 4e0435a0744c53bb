import Derived.Test.YtnambegecpnjjaaSbLRaws
import Derived.Test.YtnambegecpnjjaaSbLFaults
set_option linter.unusedVariables false
set_option maxRecDepth 20000
namespace Go.Proofs.Ytnambegecpnjjaa
open Go Go.Fw

theorem put_in {A : Ar} {x : Nat} (h : x ∈ A.ids) (H K : Heap) : A.put H x = A.put K x := by
  unfold Ar.ids at h
  simp only [List.mem_cons, List.not_mem_nil, or_false] at h
  unfold Ar.put
  by_cases h1 : x = A.a
  · rw [if_pos h1, if_pos h1]
  rw [if_neg h1, if_neg h1]
  by_cases h2 : x = A.r
  · rw [if_pos h2, if_pos h2]
  rw [if_neg h2, if_neg h2]
  by_cases h3 : x = A.w
  · rw [if_pos h3, if_pos h3]
  rw [if_neg h3, if_neg h3]
  by_cases h4 : x = A.s
  · rw [if_pos h4, if_pos h4]
  rw [if_neg h4, if_neg h4]
  by_cases h5 : x = A.b
  · rw [if_pos h5, if_pos h5]
  rw [if_neg h5, if_neg h5]
  by_cases h6 : x = A.c
  · rw [if_pos h6, if_pos h6]
  rw [if_neg h6, if_neg h6]
  by_cases h7 : x = A.g
  · rw [if_pos h7, if_pos h7]
  rcases h with h | h | h | h | h | h | h
  · exact (h1 h).elim
  · exact (h2 h).elim
  · exact (h3 h).elim
  · exact (h4 h).elim
  · exact (h5 h).elim
  · exact (h6 h).elim
  · exact (h7 h).elim

theorem put_comm {A B : Ar} (hd : ∀ x, x ∈ A.ids → x ∉ B.ids) (H : Heap) : A.put (B.put H) = B.put (A.put H) := by
  funext x
  by_cases ha : x ∈ A.ids
  · rw [Ar.put_out (A := B) (hd x ha)]; exact put_in ha _ _
  · rw [Ar.put_out (A := A) ha]
    by_cases hb : x ∈ B.ids
    · exact put_in hb _ _
    · rw [Ar.put_out hb, Ar.put_out hb, Ar.put_out ha]

theorem det_second {f : FuncId} {args : List Value} {v : Value} {A B B' : Ar} {H : Heap} {q : Nat} {o : Obj} (hd : ∀ x, x ∈ A.ids → x ∉ B.ids) (al : Ar.Alike B B') (hq : q ∉ B.ids) (h : ∀ K, Det Try.prog f args (B.put K) v (B'.put K)) :
    Det Try.prog f args (A.put ((B.put H).set q o)) v (A.put ((B'.put H).set q o)) := by
  rw [Ar.put_set _ hq, Ar.put_set (A := B') _ (by rw [al.ids]; exact hq), put_comm hd, put_comm (B := B') (by rw [al.ids]; exact hd)]
  exact h _

/-- What stays while words are stored and loaded. -/
structure Still (X0 X : Ar) : Prop where
  wf : X.wf
  al : Ar.Alike X0 X
  st : ∀ k, X.stF k = X0.stF k
  fa : X.fault = X0.fault
  bz : X.busy = X0.busy
  cv : X.carved = X0.carved
  ge : X.gens = X0.gens
  nC : X.nC = X0.nC
  fr : X.fresh = X0.fresh
  wl : X.words.length = X0.words.length

theorem Still.refl {X : Ar} (h : X.wf) : Still X X := ⟨h, .refl X, fun _ => rfl, rfl, rfl, rfl, rfl, rfl, rfl, rfl⟩
theorem Still.trans {X Y Z : Ar} (h : Still X Y) (k : Still Y Z) : Still X Z :=
  ⟨k.wf, h.al.trans k.al, fun j => (k.st j).trans (h.st j), k.fa.trans h.fa, k.bz.trans h.bz, k.cv.trans h.cv, k.ge.trans h.ge, k.nC.trans h.nC, k.fr.trans h.fr, k.wl.trans h.wl⟩
theorem still_store {X : Ar} (hX : X.wf) {h off : Int} (hi : X.inOk h off) (v : Int) : Still X (X.storeF h off v) := by
  have w := storeF_wf hX h off v
  have a := storeF_alike X h off v
  have s := stF_storeF X h off v
  rw [storeF_yes hi] at *
  exact ⟨w, a, s, rfl, rfl, rfl, rfl, rfl, rfl, List.length_set ..⟩
theorem still_touch {X : Ar} (hX : X.wf) {h off : Int} (hi : X.inOk h off) : Still X (X.touch h off) := by
  have w := touch_wf hX h off
  have a := touch_alike X h off
  have s := stF_touch X h off
  rw [touch_yes hi] at *
  exact ⟨w, a, s, rfl, rfl, rfl, rfl, rfl, rfl, rfl⟩
theorem swapF_yes {X : Ar} {h off v w : Int} (hi : X.inOk h off) (hv : X.loadF h off = v) : X.swapF h off v w = X.storeF h off w ∧ X.swapFb h off v = true := by
  have hv' : X.words.getD (pos h off) 0 = v := by unfold Ar.loadF at hv; rw [if_pos hi] at hv; exact hv
  unfold Ar.swapF Ar.swapFb
  rw [if_pos hi, if_pos hv', storeF_yes hi, decide_eq_true ⟨hi, hv'⟩]
  exact ⟨rfl, rfl⟩

theorem turnF_parts (Z : Ar) (h s t : Int) : (Z.turnF h s t).busy = Z.busy ∧ (Z.turnF h s t).gens = Z.gens ∧ (Z.turnF h s t).fault = Z.fault ∧ (Z.turnF h s t).words = Z.words := by unfold Ar.turnF; split <;> exact ⟨rfl, rfl, rfl, rfl⟩
theorem retireF_parts (Z : Ar) (h : Int) : (Z.retireF h).busy = Z.busy ∧ (Z.retireF h).gens = Z.gens ∧ (Z.retireF h).fault = Z.fault ∧ (Z.retireF h).words = Z.words := turnF_parts Z h 1 2
theorem diedF_parts (Z : Ar) (h : Int) : (Z.diedF h).busy = setN Z.busy (opB h).toNat false (Z.turnN h 2).toNat ∧ (Z.diedF h).gens = Z.gens ∧ (Z.diedF h).fault = Z.fault ∧ (Z.diedF h).words = Z.words := by
  obtain ⟨h1, h2, h3, h4⟩ := turnF_parts Z h 2 0
  refine ⟨?_, h2, h3, h4⟩
  rw [← h1]; rfl

theorem wp_again_ne {L : Hands} {H : Heap} {R : Value → Heap → Prop} {n m : Nat} {vals : List Value} {C : List Value → Heap → Prop} (hn : n ≠ m) (h : wp Try.prog (.again n vals) L H R) : wp Try.prog (.again n vals) (L.set m C) H R := by
  show (L.set m C) n vals H
  unfold Hands.set; rw [if_neg hn]; exact h

/-- An arena in which all that was is dead. -/
structure Rest (X : Ar) (gn : List Int) : Prop where
  wf : X.wf
  wl : X.words.length = 128
  fa : X.fault = false
  bz : ∀ p, X.busy.getD p false = false
  ge : ∀ k : Nat, k < 16 → (alGet X.gens (8 * k)).getD 0 = gn.getD k 0

theorem born_round {X : Ar} {gn : List Int} (hX : Rest X gn) {k g : Int} (k0 : 0 ≤ k) (k1 : k < 16) (hg : g = gn.getD k.toNat 0 + 1) (g0 : 1 ≤ g) (g1 : g ≤ 1000) :
    X.bornOk (packF (8 * k) g 0) ∧ Still (X.bornF (packF (8 * k) g 0)) (X.bornF (packF (8 * k) g 0)) ∧ (X.bornF (packF (8 * k) g 0)).stF (packF (8 * k) g 0) = 1 := by
  obtain ⟨p1, p2, p3, p4⟩ := opB_pack (b := 8 * k) (g := g) (c := 0) ⟨by omega, by omega, by omega, by omega, by omega, by omega⟩
  have s0 : sizeF 0 = 8 := rfl
  have hb : X.bornOk (packF (8 * k) g 0) := by
    refine ⟨p4, by rw [p1, p3, s0, hX.wl]; omega, ?_, fun i _ => hX.bz _⟩
    have := hX.ge k.toNat (by omega)
    rw [p1, p2]
    rw [show (8 : Int) * (k.toNat : Int) = 8 * k by omega] at this
    rw [this]; omega
  exact ⟨hb, .refl (bornF_wf hX.wf _ hb.2.1), by rw [stF_bornF, if_pos rfl, if_pos ⟨p4, rfl⟩]⟩

/-- Retired, looked at, dead: at rest again. -/
theorem died_round {X Y : Ar} {gn : List Int} (hX : Rest X gn) {k g : Int} (k0 : 0 ≤ k) (k1 : k < 16) (hgl : gn.length = 16) (hg : g = gn.getD k.toNat 0 + 1) (g0 : 1 ≤ g) (g1 : g ≤ 1000) (hY : Still (X.bornF (packF (8 * k) g 0)) Y)
    {off : Int} (o0 : 0 ≤ off) (o1 : off < 8) :
    Y.turnB (packF (8 * k) g 0) 1 = true ∧ (Y.retireF (packF (8 * k) g 0)).inOk (packF (8 * k) g 0) off ∧ ((Y.retireF (packF (8 * k) g 0)).touch (packF (8 * k) g 0) off).turnB (packF (8 * k) g 0) 2 = true ∧
    Rest (((Y.retireF (packF (8 * k) g 0)).touch (packF (8 * k) g 0) off).diedF (packF (8 * k) g 0)) (gn.set k.toNat g) := by
  obtain ⟨p1, p2, p3, p4⟩ := opB_pack (b := 8 * k) (g := g) (c := 0) ⟨by omega, by omega, by omega, by omega, by omega, by omega⟩
  have s0 : sizeF 0 = 8 := rfl
  have st1 : Y.stF (packF (8 * k) g 0) = 1 := by rw [hY.st, stF_bornF, if_pos rfl, if_pos ⟨p4, rfl⟩]
  have wlY : Y.words.length = 128 := by rw [hY.wl, bornF_wl, hX.wl]
  have bzY : Y.busy = setN X.busy (8 * k).toNat true 8 := by rw [hY.bz, bornF_busy, p1, p3]; rfl
  have geY : Y.gens = alPut X.gens (8 * k) g := by rw [hY.ge, bornF_gens, p1, p2]
  have faY : Y.fault = false := by rw [hY.fa, bornF_fault, hX.fa]
  generalize packF (8 * k) g 0 = h at *
  have st2 : (Y.retireF h).stF h = 2 := by rw [stF_retireF, if_pos ⟨st1, rfl⟩, if_pos ⟨p4, rfl⟩]
  have i2 : (Y.retireF h).inOk h off := ⟨by rw [st2]; decide, o0, by rw [p3, s0]; exact o1⟩
  have r1 := retireF_parts Y h
  have w2 := retireF_wf hY.wf h
  refine ⟨decide_eq_true st1, i2, ?_, ?_⟩
  · unfold Ar.turnB; rw [stF_touch, st2]; rfl
  · have st3 : ((Y.retireF h).touch h off).stF h = 2 := by rw [stF_touch, st2]
    have w3 := touch_wf w2 h off
    have w4 := diedF_wf w3 h
    have e3 : (Y.retireF h).touch h off = (Y.retireF h).tick := touch_yes i2
    rw [e3] at st3 w3 w4 ⊢
    have n2 : (Y.retireF h).tick.turnN h 2 = 8 := by unfold Ar.turnN; rw [if_pos st3, p3]; rfl
    obtain ⟨bd, gd, fd, wd⟩ := diedF_parts (Y.retireF h).tick h
    have tp : (Y.retireF h).tick.busy = (Y.retireF h).busy ∧ (Y.retireF h).tick.gens = (Y.retireF h).gens ∧ (Y.retireF h).tick.fault = (Y.retireF h).fault ∧ (Y.retireF h).tick.words = (Y.retireF h).words := ⟨rfl, rfl, rfl, rfl⟩
    rw [n2, tp.1, r1.1] at bd
    rw [tp.2.1, r1.2.1] at gd
    rw [tp.2.2.1, r1.2.2.1] at fd
    rw [tp.2.2.2, r1.2.2.2] at wd
    have t8 : Int.toNat 8 = 8 := rfl
    rw [t8] at bd
    refine ⟨w4, by rw [wd, wlY], by rw [fd, faY], fun p => ?_, fun j hj => ?_⟩
    · rw [bd, bzY, p1, List.getD_eq_getElem?_getD, setN_get, setN_get]
      have := hX.bz p
      rw [List.getD_eq_getElem?_getD] at this
      split
      · rfl
      · split
        · rename_i a b; exfalso; rw [setN_length] at a; omega
        · exact this
    · rw [gd, geY, alGet_put]
      have := hX.ge j hj
      rw [List.getD_eq_getElem?_getD] at this ⊢
      rw [List.getElem?_set]
      by_cases c : (8 : Int) * (j : Int) = 8 * k
      · rw [if_pos c, if_pos (by omega), if_pos (by omega)]
      · rw [if_neg c, if_neg (by omega)]; exact this

theorem idx16 {b o : Nat} {i : Int} (h0 : 0 ≤ i) (h1 : i < 16) : opS Try.prog (.indexAddr ty_a16_int (.tmp 0) (.tmp 1)) ty_unit [.pointer (some ⟨b, o, none⟩), .int .i64 i] = .pure (.value (.pointer (some ⟨b, o + i.toNat, none⟩))) :=
  idxA (e := ty_int) (n := 16) rfl rfl rfl h0 h1

theorem Count_at {A : Ar} {p : Value} (hp : p = pA A) (H : Heap) : Det Try.prog f_arena_Arena_Count [p] (A.put H) (.agg #[.int .i64 A.nC, .int .i64 A.nL, .int .i64 A.nR, .int .i64 A.nF]) (A.put H) := by rw [hp]; exact Count_det H

/-- What a round leaves of the count of carved words. -/
theorem carved_round {X Y : Ar} {h off : Int} (hX : X.wf) (hY : Still (X.bornF h) Y) (i : (Y.retireF h).inOk h off) :
    (((Y.retireF h).touch h off).diedF h).carved = setN X.carved (opB h).toNat true (sizeF (opC h)).toNat ∧ (((Y.retireF h).touch h off).diedF h).nC = w64 (X.nC + newsN X.carved (opB h).toNat (sizeF (opC h)).toNat) := by
  have e3 : (Y.retireF h).touch h off = (Y.retireF h).tick := touch_yes i
  have tf : ∀ (Z : Ar) s t, (Z.turnF h s t).carved = Z.carved ∧ (Z.turnF h s t).nC = Z.nC := fun Z s t => by unfold Ar.turnF; split <;> exact ⟨rfl, rfl⟩
  have d : ∀ Z : Ar, (Z.diedF h).carved = Z.carved ∧ (Z.diedF h).nC = Z.nC := fun Z => tf Z 2 0
  have r : ∀ Z : Ar, (Z.retireF h).carved = Z.carved ∧ (Z.retireF h).nC = Z.nC := fun Z => tf Z 1 2
  rw [e3, (d _).1, (d _).2]
  have c1 : (Y.retireF h).tick.carved = (Y.retireF h).carved := rfl
  have c2 : (Y.retireF h).tick.nC = (Y.retireF h).nC := rfl
  rw [c1, c2, (r _).1, (r _).2, hY.cv, hY.nC, bornF_carved]
  refine ⟨rfl, ?_⟩
  have e := (bornN_counts X hX.wC hX.wF (opB h).toNat (sizeF (opC h)).toNat).1
  unfold Ar.bornF
  generalize X.bornN (opB h).toNat (sizeF (opC h)).toNat = B at *
  exact e

theorem ArenaFresh_det (s : Sl) (zs : List Int) (H : Heap) (hz : RowOf H s.a s.len zs) : Det Try.prog f_magpielaw09_ArenaFresh [.slice s.a s.len s.cap] H (.bool true) H := by
  refine t_magpielaw09_ArenaFresh_spec (p0 := s) fun L => ?_
  unfold t_magpielaw09_ArenaFresh
  refine wp_call_of (New_spec 0 128 false H (by omega) (by omega)) ?_
  rintro u K ⟨A, hmA, hiA, rfl, rfl⟩
  refine ⟨some ⟨A.a, 0, none⟩, rfl, ?_⟩
  refine wp_call_of (New_spec 0 128 true _ (by omega) (by omega)) ?_
  rintro u K ⟨B, hmB, hiB, rfl, rfl⟩
  refine ⟨some ⟨B.a, 0, none⟩, rfl, ?_⟩
  have hA := made_wf hmA (by exact Nat.le_of_ble_eq_true rfl) (by exact Nat.le_of_ble_eq_true rfl)
  have hB := made_wf hmB (by exact Nat.le_of_ble_eq_true rfl) (by exact Nat.le_of_ble_eq_true rfl)
  have hd : ∀ x, x ∈ A.ids → x ∉ B.ids := fun x hx hb => (Ar.put_none (hiB x hb)).1 hx
  have hiB' : ∀ x ∈ B.ids, H x = none := fun x hx => (Ar.put_none (hiB x hx)).2
  refine wp_heap (put_comm hd H).symm ?_
  refine look_val (x := false) (np_some _) (wp_false rfl ?_)
  refine look_val (x := false) (np_some _) (wp_false rfl ?_)
  refine wp_newP fun q hq => ?_
  obtain ⟨qA, hq⟩ := Ar.put_none hq
  obtain ⟨qB, qH⟩ := Ar.put_none hq
  refine wp_heap (Ar.put_set _ qA) ?_
  have mk : ∀ {X : Ar} {fr : Bool}, X.made (Int.toNat 0) (Int.toNat 128) fr → X.wf → Rest X (List.replicate 16 0) := fun {X fr} hm hw => ⟨hw, by rw [hm.words]; exact List.length_replicate, hm.fault, fun p => by
      rw [hm.busy, List.getD_eq_getElem?_getD, List.getElem?_replicate]; split <;> rfl, fun k hk => by
      rw [hm.gens, List.getD_eq_getElem?_getD, List.getElem?_replicate, if_pos hk]; rfl⟩
  have hle : ∀ (X Y : Ar) (o : Obj), Ar.Alike A X → Ar.Alike B Y → H.le (X.put ((Y.put H).set q o)) := fun X Y o hX hY => by
    have h1 : H.le (Y.put H) := put_new (Alike_ids hY hiB')
    have h2 : (Y.put H).le ((Y.put H).set q o) := Heap.le_set_new _ (by rw [Ar.put_out (by rw [hY.ids]; exact qB)]; exact qH)
    have h3 : H.le (X.put H) := put_new (Alike_ids hX hiA)
    exact Heap.le_trans h3 (Ar.put_le (Heap.le_trans h1 h2))
  have dis : ∀ (X Y : Ar), Ar.Alike A X → Ar.Alike B Y → ∀ x, x ∈ X.ids → x ∉ Y.ids := fun X Y hX hY x hx => by rw [hY.ids]; exact hd x (hX.ids ▸ hx)
  -- what the second arena does, beside the first one
  have snd : ∀ {f : FuncId} {args : List Value} {v : Value} {X Y Y' : Ar} {o : Obj}, Ar.Alike A X → Ar.Alike B Y → Ar.Alike Y Y' → (∀ K, Det Try.prog f args (Y.put K) v (Y'.put K)) →
      Det Try.prog f args (X.put ((Y.put H).set q o)) v (X.put ((Y'.put H).set q o)) := fun {f args v X Y Y' o} hX hY hY' h => det_second (dis _ _ hX hY) hY' (by rw [hY.ids]; exact qB) h
  have tail : ∀ L (X Y : Ar) o, Ar.Alike A X → Ar.Alike B Y → X.fault = false → Y.fault = false → X.nC = Y.nC → wp Try.prog (t_magpielaw09_ArenaFresh_J8 (some ⟨A.a, 0, none⟩) (some ⟨B.a, 0, none⟩)) L (X.put ((Y.put H).set q o)) (fun u K => u = .bool true ∧ K = H) := by
    intro L X Y o lX lY fX fY hn
    unfold t_magpielaw09_ArenaFresh_J8
    refine wp_call_det (x := false) (Fault_at (pA_alike lX).symm fX _) (wp_true rfl ?_)
    refine wp_call_det (x := false) (snd lX lY (.refl Y) fun K => Fault_at (pA_alike lY).symm fY K) (wp_true rfl ?_)
    refine wp_call_det (x := (X.nC, X.nL, X.nR, X.nF, ())) (Count_at (pA_alike lX).symm _) ?_
    refine wp_call_det (x := (Y.nC, Y.nL, Y.nR, Y.nF, ())) (snd lX lY (.refl Y) fun K => Count_at (pA_alike lY).symm K) (wp_true (ibeq hn) ?_)
    refine wp_call_det (awake09_det _) ?_
    exact ⟨H, hle X Y o lX lY, rfl, rfl⟩
  refine wp_loop_bi (b := false) (fun n K => 0 ≤ n ∧ n ≤ 60 ∧ ∃ (X Y : Ar) (gn : List Int), Ar.Alike A X ∧ Ar.Alike B Y ∧ Rest X gn ∧ Rest Y gn ∧ X.carved = Y.carved ∧ X.nC = Y.nC ∧ gn.length = 16 ∧ (∀ k, 0 ≤ gn.getD k 0 ∧ gn.getD k 0 ≤ n) ∧
    K = X.put ((Y.put H).set q (.cells (ints gn) ty_a16_int (0, 0)))) (fun n => (60 - n).toNat) 0 ⟨by omega, by omega, A, B, List.replicate 16 0, .refl A, .refl B, mk hmA hA, mk hmB hB, by rw [hmA.carved, hmB.carved], by rw [hmA.nC, hmB.nC], List.length_replicate, fun k => by
      rw [List.getD_eq_getElem?_getD, List.getElem?_replicate]; split <;> exact ⟨Int.le_refl 0, Int.le_refl 0⟩, rfl⟩ ?_
  rintro n b K ⟨n0, n1, X, Y, gn, lX, lY, rX, rY, ecv, enC, gl, gb, rfl⟩
  rw [t_magpielaw09_ArenaFresh_L1]
  by_cases c1 : n < ((s.len : Nat) : Int)
  case neg => exact wp_false (decide_eq_false c1) (tail _ X Y _ lX lY rX.fa rY.fa enC)
  refine wp_true (decide_eq_true c1) ?_
  by_cases c2 : n < 60
  case neg => exact wp_false (decide_eq_false c2) (tail _ X Y _ lX lY rX.fa rY.fa enC)
  refine wp_true (decide_eq_true c2) ?_
  refine wp_row hz (hle X Y _ lX lY) n0 c1 ?_
  refine wp_qcall_det (Place_det _ _ (by omega) (by omega) _) ?_
  have v1 := Int.emod_nonneg (zs.getD n.toNat 0) (b := 1048576) (by omega)
  have v2 := Int.emod_lt_of_pos (zs.getD n.toNat 0) (b := 1048576) (by omega)
  generalize zs.getD n.toNat 0 % 1048576 = v at *
  have e1 : Int.tmod v 16 = v % 16 := Int.tmod_eq_emod_of_nonneg v1
  rw [e1]
  have k0 := Int.emod_nonneg v (b := 16) (by omega)
  have k1 := Int.emod_lt_of_pos v (b := 16) (by omega)
  generalize v % 16 = k at *
  have qX : q ∉ X.ids := by rw [lX.ids]; exact qA
  have hkl : k.toNat < gn.length := by rw [gl]; omega
  have z0 : ∀ t : Nat, 0 + t = t := Nat.zero_add
  have gk := gb k.toNat
  generalize hg : gn.getD k.toNat 0 = g0 at *
  have e2 : w64 (g0 + 1) = g0 + 1 := w64_in (by omega) (by omega)
  refine look_val (x := ⟨q, 0 + k.toNat, none⟩) (idx16 k0 k1) (bl_fld (n := k.toNat) (x := g0) qX ?_ (by rw [z0]) ((ints_getD hkl).trans (by rw [hg])))
  refine look_val (x := ⟨q, 0 + k.toNat, none⟩) (idx16 k0 k1) (bl_set (n := k.toNat) (u := .int .i64 g0) qX (ints (gn.set k.toNat (g0 + 1))) ?_ (by rw [z0]) ((ints_getD hkl).trans (by rw [hg])) (by rw [e2, ints_set]))
  have hkl2 : k.toNat < (gn.set k.toNat (g0 + 1)).length := by rw [List.length_set]; exact hkl
  have hg2 : (gn.set k.toNat (g0 + 1)).getD k.toNat 0 = g0 + 1 := by rw [List.getD_eq_getElem?_getD, List.getElem?_set, if_pos rfl, if_pos hkl]; rfl
  refine look_val (x := ⟨q, 0 + k.toNat, none⟩) (idx16 k0 k1) (bl_fld (n := k.toNat) (x := g0 + 1) qX ?_ (by rw [z0]) ((ints_getD hkl2).trans (by rw [hg2])))
  rw [w64_in (x := 8 * k) (by omega) (by omega)]
  refine wp_qcall_det (Pack_det _ _ _ _) ?_
  obtain ⟨bX, sX, stX⟩ := born_round rX k0 k1 (g := g0 + 1) (by rw [hg]) (by omega) (by omega)
  obtain ⟨bY, sY, stY⟩ := born_round rY k0 k1 (g := g0 + 1) (by rw [hg]) (by omega) (by omega)
  have lX1 := lX.trans (bornF_alike X (packF (8 * k) (g0 + 1) 0))
  have lY1 := lY.trans (bornF_alike Y (packF (8 * k) (g0 + 1) 0))
  refine wp_call_det (x := true) (Born_yes rX.wf bX (pA_alike lX).symm _) (wp_false rfl ?_)
  refine wp_call_det (x := true) (snd lX1 lY (bornF_alike _ _) fun K => Born_yes rY.wf bY (pA_alike lY).symm K) (wp_false rfl ?_)
  generalize hO : (Obj.cells (ints (gn.set k.toNat (g0 + 1))) ty_a16_int (0, 0)) = o at *
  have hC : opC (packF (8 * k) (g0 + 1) 0) = 0 := (opB_pack (b := 8 * k) (g := g0 + 1) (c := 0) ⟨by omega, by omega, by omega, by omega, by omega, by omega⟩).2.2.1
  generalize hh : packF (8 * k) (g0 + 1) 0 = h at *
  have s8 : sizeF (opC h) = 8 := by rw [hC]; rfl
  have okX : ∀ Z, Still (X.bornF h) Z → ∀ j, 0 ≤ j → j < 8 → Z.inOk h j := fun Z hZ j j0 j1 => ⟨by rw [hZ.st, stX]; decide, j0, by rw [s8]; exact j1⟩
  have okY : ∀ Z, Still (Y.bornF h) Z → ∀ j, 0 ≤ j → j < 8 → Z.inOk h j := fun Z hZ j j0 j1 => ⟨by rw [hZ.st, stY]; decide, j0, by rw [s8]; exact j1⟩
  have pne : ∀ i j : Int, 0 ≤ i → 0 ≤ j → i ≠ j → pos h i ≠ pos h j := fun i j i0 j0 hn e => by unfold pos at e; omega
  refine wp_loop_int (fun j K => 0 ≤ j ∧ j ≤ 8 ∧ ∃ P Q, Still (X.bornF h) P ∧ Still (Y.bornF h) Q ∧ (∀ i, 0 ≤ i → i < j → P.loadF h i = v + i) ∧ (∀ i, 0 ≤ i → i < j → Q.loadF h i = v + i) ∧ K = P.put ((Q.put H).set q o)) (fun j => (8 - j).toNat) 0
    ⟨by omega, by omega, X.bornF h, Y.bornF h, sX, sY, fun i a c => by omega, fun i a c => by omega, rfl⟩ ?_
  rintro j K ⟨j0, j1, P, Q, sP, sQ, ldP, ldQ, rfl⟩
  rw [t_magpielaw09_ArenaFresh_L2]
  have lP := lX1.trans sP.al
  have lQ := lY1.trans sQ.al
  by_cases hj : j < 8
  · refine wp_true (ilt hj) ?_
    have e3 : w64 (v + j) = v + j := w64_in (by omega) (by omega)
    have e4 : w64 (j + 1) = j + 1 := w64_in (by omega) (by omega)
    have iP := okX P sP j j0 hj
    have iQ := okY Q sQ j j0 hj
    rw [e3]
    refine wp_call_det (x := ()) (Store_at sP.wf (pA_alike lP).symm _) ?_
    refine wp_call_det (x := ()) (snd (lP.trans (storeF_alike P h j (v + j))) lQ (storeF_alike Q h j (v + j)) fun K => Store_at sQ.wf (pA_alike lQ).symm K) ?_
    refine wp_again ⟨j + 1, by rw [e4], ⟨by omega, by omega, _, _, sP.trans (still_store sP.wf iP _), sQ.trans (still_store sQ.wf iQ _), fun i i0 i1 => ?_, fun i i0 i1 => ?_, rfl⟩, by omega⟩
    · rw [loadF_storeF sP.wf iP (okX P sP i i0 (by omega))]
      by_cases c : i = j
      · rw [c, if_pos rfl]
      · rw [if_neg (pne i j i0 j0 c)]; exact ldP i i0 (by omega)
    · rw [loadF_storeF sQ.wf iQ (okY Q sQ i i0 (by omega))]
      by_cases c : i = j
      · rw [c, if_pos rfl]
      · rw [if_neg (pne i j i0 j0 c)]; exact ldQ i i0 (by omega)
  have hj8 : j = 8 := by omega
  rw [hj8] at ldP ldQ
  refine wp_false (inlt (by show (8 : Int) ≤ j; omega)) ?_
  refine wp_loop_bi (b := b) (fun j K => 0 ≤ j ∧ j ≤ 8 ∧ ∃ P Q, Still (X.bornF h) P ∧ Still (Y.bornF h) Q ∧ (∀ i, 0 ≤ i → i < 8 → P.loadF h i = if i < j then n else v + i) ∧ (∀ i, 0 ≤ i → i < 8 → Q.loadF h i = if i < j then n else v + i) ∧ K = P.put ((Q.put H).set q o)) (fun j => (8 - j).toNat) 0
    ⟨by omega, by omega, P, Q, sP, sQ, fun i a c => by rw [if_neg (by omega)]; exact ldP i a c, fun i a c => by rw [if_neg (by omega)]; exact ldQ i a c, rfl⟩ ?_
  clear sP sQ ldP ldQ lP lQ hj8 hj j0 j1
  rintro j b' K ⟨j0, j1, P, Q, sP, sQ, ldP, ldQ, rfl⟩
  rw [t_magpielaw09_ArenaFresh_L3]
  have lP := lX1.trans sP.al
  have lQ := lY1.trans sQ.al
  by_cases hj : j < 8
  · refine wp_true (ilt hj) ?_
    have e3 : w64 (v + j) = v + j := w64_in (by omega) (by omega)
    have e4 : w64 (j + 1) = j + 1 := w64_in (by omega) (by omega)
    have e5 : w64 (v + j + 1) = v + j + 1 := w64_in (by omega) (by omega)
    rw [e3, e5]
    -- loads
    have iP := okX P sP j j0 hj
    have iQ := okY Q sQ j j0 hj
    have vP : P.loadF h j = v + j := by rw [ldP j j0 hj, if_neg (by omega)]
    have vQ : Q.loadF h j = v + j := by rw [ldQ j j0 hj, if_neg (by omega)]
    refine wp_call_det (x := v + j) (Load_at sP.wf (pA_alike lP).symm vP _) (wp_false (ibnf rfl) ?_)
    have sP1 := sP.trans (still_touch sP.wf iP)
    have l1 : ∀ a c, (P.touch h j).loadF a c = P.loadF a c := loadF_touch P h j
    generalize P.touch h j = P1 at *
    have lP1 := lX1.trans sP1.al
    refine wp_call_det (x := v + j) (snd lP1 lQ (touch_alike Q h j) fun K => Load_at sQ.wf (pA_alike lQ).symm vQ K) (wp_false (ibnf rfl) ?_)
    have sQ1 := sQ.trans (still_touch sQ.wf iQ)
    have m1 : ∀ a c, (Q.touch h j).loadF a c = Q.loadF a c := loadF_touch Q h j
    generalize Q.touch h j = Q1 at *
    have lQ1 := lY1.trans sQ1.al
    -- adds
    have iP1 := okX P1 sP1 j j0 hj
    have iQ1 := okY Q1 sQ1 j j0 hj
    refine wp_call_det (x := v + j) (Add_at sP1.wf (pA_alike lP1).symm (by rw [l1]; exact vP) _) ?_
    refine wp_call_det (x := v + j) (snd (lP1.trans (storeF_alike P1 h j (w64 (v + j + 1)))) lQ1 (storeF_alike Q1 h j (w64 (v + j + 1))) fun K => Add_at sQ1.wf (pA_alike lQ1).symm (by rw [m1]; exact vQ) K) (wp_false (ibnf rfl) ?_)
    rw [e5]
    have sP2 := sP1.trans (still_store sP1.wf iP1 (v + j + 1))
    have sQ2 := sQ1.trans (still_store sQ1.wf iQ1 (v + j + 1))
    have l2 : ∀ i, 0 ≤ i → i < 8 → (P1.storeF h j (v + j + 1)).loadF h i = if pos h i = pos h j then v + j + 1 else P.loadF h i := fun i i0 i1 => by rw [loadF_storeF sP1.wf iP1 (okX P1 sP1 i i0 i1), l1]
    have m2 : ∀ i, 0 ≤ i → i < 8 → (Q1.storeF h j (v + j + 1)).loadF h i = if pos h i = pos h j then v + j + 1 else Q.loadF h i := fun i i0 i1 => by rw [loadF_storeF sQ1.wf iQ1 (okY Q1 sQ1 i i0 i1), m1]
    generalize P1.storeF h j (v + j + 1) = P2 at *
    generalize Q1.storeF h j (v + j + 1) = Q2 at *
    have lP2 := lX1.trans sP2.al
    have lQ2 := lY1.trans sQ2.al
    -- swaps
    have iP2 := okX P2 sP2 j j0 hj
    have iQ2 := okY Q2 sQ2 j j0 hj
    have wP := swapF_yes (w := n) iP2 (l2 j j0 hj) 
    have wQ := swapF_yes (w := n) iQ2 (m2 j j0 hj)
    rw [if_pos rfl] at wP wQ
    have dP := Swap_at sP2.wf (w := n) (pA_alike lP2).symm wP.2 ((Q2.put H).set q o)
    rw [wP.1] at dP
    refine wp_call_det (x := true) dP ?_
    have dQ : ∀ K, Det Try.prog f_arena_Arena_Swap [.pointer (some ⟨B.a, 0, none⟩), .int .i64 h, .int .i64 j, .int .i64 (v + j + 1), .int .i64 n] (Q2.put K) (.bool true) ((Q2.storeF h j n).put K) := fun K => by
      have := Swap_at sQ2.wf (w := n) (pA_alike lQ2).symm wQ.2 K
      rw [wQ.1] at this; exact this
    refine wp_call_det (x := true) (snd (lP2.trans (storeF_alike P2 h j n)) lQ2 (storeF_alike Q2 h j n) dQ) (wp_false rfl ?_)
    have sP3 := sP2.trans (still_store sP2.wf iP2 n)
    have sQ3 := sQ2.trans (still_store sQ2.wf iQ2 n)
    have l3 : ∀ i, 0 ≤ i → i < 8 → (P2.storeF h j n).loadF h i = if pos h i = pos h j then n else P.loadF h i := fun i i0 i1 => by
      rw [loadF_storeF sP2.wf iP2 (okX P2 sP2 i i0 i1), l2 i i0 i1]; split <;> rfl
    have m3 : ∀ i, 0 ≤ i → i < 8 → (Q2.storeF h j n).loadF h i = if pos h i = pos h j then n else Q.loadF h i := fun i i0 i1 => by
      rw [loadF_storeF sQ2.wf iQ2 (okY Q2 sQ2 i i0 i1), m2 i i0 i1]; split <;> rfl
    generalize P2.storeF h j n = P3 at *
    generalize Q2.storeF h j n = Q3 at *
    have lP3 := lX1.trans sP3.al
    have lQ3 := lY1.trans sQ3.al
    have iP3 := okX P3 sP3 j j0 hj
    refine wp_call_det (x := n) (Load_at sP3.wf (pA_alike lP3).symm (by rw [l3 j j0 hj, if_pos rfl]) _) (wp_false (ibnf rfl) ?_)
    refine wp_again ⟨b', j + 1, by rw [e4], ⟨by omega, by omega, _, Q3, sP3.trans (still_touch sP3.wf iP3), sQ3, fun i i0 i1 => ?_, fun i i0 i1 => ?_, rfl⟩, by omega⟩
    · rw [loadF_touch, l3 i i0 i1]
      by_cases c : i = j
      · rw [c, if_pos rfl, if_pos (by omega)]
      · rw [if_neg (pne i j i0 j0 c), ldP i i0 i1]
        by_cases c' : i < j
        · rw [if_pos c', if_pos (by omega)]
        · rw [if_neg c', if_neg (by omega)]
    · rw [m3 i i0 i1]
      by_cases c : i = j
      · rw [c, if_pos rfl, if_pos (by omega)]
      · rw [if_neg (pne i j i0 j0 c), ldQ i i0 i1]
        by_cases c' : i < j
        · rw [if_pos c', if_pos (by omega)]
        · rw [if_neg c', if_neg (by omega)]
  have hj8 : j = 8 := by omega
  rw [hj8] at ldP ldQ
  refine wp_false (inlt (by show (8 : Int) ≤ j; omega)) ?_
  subst hh
  obtain ⟨tP, iP, uP, RP⟩ := died_round rX k0 k1 gl (g := g0 + 1) (by rw [hg]) (by omega) (by omega) sP (off := 3) (by omega) (by omega)
  obtain ⟨tQ, iQ, uQ, RQ⟩ := died_round rY k0 k1 gl (g := g0 + 1) (by rw [hg]) (by omega) (by omega) sQ (off := 3) (by omega) (by omega)
  have cP := carved_round rX.wf sP iP
  have cQ := carved_round rY.wf sQ iQ
  generalize packF (8 * k) (g0 + 1) 0 = h at *
  have ldr : ∀ Z : Ar, (Z.retireF h).words = Z.words := fun Z => by unfold Ar.retireF Ar.turnF; split <;> rfl
  have v3P : (P.retireF h).loadF h 3 = n := by
    have h1 := ldP 3 (by omega) (by omega)
    rw [if_pos (by omega)] at h1
    unfold Ar.loadF at h1 ⊢
    rw [if_pos iP, ldr]
    rw [if_pos (okX P sP 3 (by omega) (by omega))] at h1; exact h1
  have v3Q : (Q.retireF h).loadF h 3 = n := by
    have h1 := ldQ 3 (by omega) (by omega)
    rw [if_pos (by omega)] at h1
    unfold Ar.loadF at h1 ⊢
    rw [if_pos iQ, ldr]
    rw [if_pos (okY Q sQ 3 (by omega) (by omega))] at h1; exact h1
  have lP1 := lP.trans (retireF_alike P h)
  have lQ1 := lQ.trans (retireF_alike Q h)
  have wP1 := retireF_wf sP.wf h
  have wQ1 := retireF_wf sQ.wf h
  refine wp_call_det (x := true) (Retire_at sP.wf (pA_alike lP).symm tP _) (wp_false rfl ?_)
  refine wp_call_det (x := true) (snd lP1 lQ (retireF_alike Q h) fun K => Retire_at sQ.wf (pA_alike lQ).symm tQ K) (wp_false rfl ?_)
  refine wp_call_det (x := n) (Load_at wP1 (pA_alike lP1).symm v3P _) ?_
  have lP2 := lP1.trans (touch_alike (P.retireF h) h 3)
  have lQ2 := lQ1.trans (touch_alike (Q.retireF h) h 3)
  have wP2 := touch_wf wP1 h 3
  have wQ2 := touch_wf wQ1 h 3
  refine wp_call_det (x := n) (snd lP2 lQ1 (touch_alike (Q.retireF h) h 3) fun K => Load_at wQ1 (pA_alike lQ1).symm v3Q K) (wp_false (ibnf rfl) ?_)
  refine wp_call_det (x := true) (Died_at wP2 (pA_alike lP2).symm uP _) (wp_false rfl ?_)
  have lP3 := lP2.trans (diedF_alike ((P.retireF h).touch h 3) h)
  have lQ3 := lQ2.trans (diedF_alike ((Q.retireF h).touch h 3) h)
  refine wp_call_det (x := true) (snd lP3 lQ2 (diedF_alike ((Q.retireF h).touch h 3) h) fun K => Died_at wQ2 (pA_alike lQ2).symm uQ K) (wp_false rfl ?_)
  have e6 : w64 (n + 1) = n + 1 := w64_in (by omega) (by omega)
  refine wp_again_ne (by decide) (wp_again_ne (by decide) (wp_again ⟨b', n + 1, by rw [e6], ⟨by omega, by omega, _, _, gn.set k.toNat (g0 + 1), lP3, lQ3, RP, RQ, by rw [cP.1, cQ.1, ecv], by rw [cP.2, cQ.2, ecv, enC], by rw [List.length_set]; exact gl, fun i => ?_, by rw [hO]⟩, by omega⟩))
  rw [List.getD_eq_getElem?_getD, List.getElem?_set]
  have := gb i
  rw [List.getD_eq_getElem?_getD] at this
  by_cases c : k.toNat = i
  · rw [if_pos c, if_pos hkl]; exact ⟨by show 0 ≤ g0 + 1; omega, by show g0 + 1 ≤ n + 1; omega⟩
  · rw [if_neg c]; omega
end Go.Proofs.Ytnambegecpnjjaa
