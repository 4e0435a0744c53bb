import Derived.Test.YtgnifhkjpekkdaaSaLCopy
set_option linter.unusedVariables false
set_option maxRecDepth 20000
namespace Go.Proofs.Ytgnifhkjpekkdaa
open Go Go.Fw

def sumTo (f : Nat → Int) : Nat → Int
  | 0 => 0
  | n + 1 => sumTo f n + f n
theorem sumTo_upd {f g : Nat → Int} {k : Nat} (h : ∀ j, j ≠ k → g j = f j) : ∀ n, sumTo g n = sumTo f n + (if k < n then g k - f k else 0)
  | 0 => by simp [sumTo]
  | n + 1 => by
    have ih := sumTo_upd h n
    simp only [sumTo, ih]
    by_cases c : n = k
    · subst c; rw [if_neg (Nat.lt_irrefl _), if_pos (Nat.lt_succ_self _)]; omega
    · rw [h n c]
      by_cases d : k < n
      · rw [if_pos d, if_pos (by omega)]; omega
      · rw [if_neg d, if_neg (by omega)]; omega
theorem sumTo_le {f : Nat → Int} {m : Int} (h : ∀ j, 0 ≤ f j ∧ f j ≤ m) : ∀ n : Nat, 0 ≤ sumTo f n ∧ sumTo f n ≤ m * n
  | 0 => by simp [sumTo]
  | n + 1 => by
    have ih := sumTo_le h n
    have := h n
    simp only [sumTo]
    have e : m * ((n + 1 : Nat) : Int) = m * n + m := by rw [Int.natCast_add, Int.mul_add]; simp
    omega

theorem newsN_const {l : List Bool} {b : Nat} {v : Bool} : ∀ {n : Nat}, (∀ i, i < n → l.getD (b + i) false = v) → newsN l b n = if v then 0 else n
  | 0, _ => by cases v <;> rfl
  | n + 1, h => by
    have ih := newsN_const (n := n) fun i hi => h i (by omega)
    unfold newsN
    rw [ih, h n (Nat.lt_succ_self _)]
    cases v <;> rfl

def cF (ws : List Bool) (n : Int) (j : Nat) : Int := if ws.getD j false then n else 0
def sF (st : List Int) (s n : Int) (j : Nat) : Int := if st.getD j 0 = s then n else 0

/-- An arena with eight slots side by side. -/
structure Cn (c n t : Int) (X : Ar) (st gn : List Int) (ws : List Bool) : Prop where
  wf : X.wf
  wl : X.words.length = 512
  fa : X.fault = false
  us : X.uses = 0
  sl : st.length = 8
  gl : gn.length = 8
  vl : ws.length = 8
  gb : ∀ k, 0 ≤ gn.getD k 0 ∧ gn.getD k 0 ≤ t
  g0 : ∀ k, gn.getD k 0 = 0 → st.getD k 0 = 0
  wg : ∀ k, k < 8 → ws.getD k false = decide (gn.getD k 0 ≠ 0)
  ge : ∀ k : Nat, k < 8 → (alGet X.gens (n * k)).getD 0 = gn.getD k 0
  so : ∀ k : Nat, k < 8 → ∀ g, 1 ≤ g → g ≤ 1000 → X.stF (packF (n * k) g c) = if gn.getD k 0 = g then st.getD k 0 else 0
  bz : ∀ k : Nat, k < 8 → ∀ i : Nat, (i : Int) < n → X.busy.getD ((n * k).toNat + i) false = decide (st.getD k 0 ≠ 0)
  cv : ∀ k : Nat, k < 8 → ∀ i : Nat, (i : Int) < n → X.carved.getD ((n * k).toNat + i) false = ws.getD k false
  nC : X.nC = sumTo (cF ws n) 8
  nL : X.nL = sumTo (sF st 1 n) 8
  nR : X.nR = sumTo (sF st 2 n) 8
  nF : X.nF = X.nC - X.nL - X.nR

theorem getD_set {α : Type} (l : List α) (k j : Nat) (v d : α) : (l.set k v).getD j d = if k = j ∧ k < l.length then v else l.getD j d := by
  rw [List.getD_eq_getElem?_getD, List.getD_eq_getElem?_getD, List.getElem?_set]
  by_cases h : k = j
  · by_cases h2 : k < l.length
    · rw [if_pos h, if_pos h2, if_pos ⟨h, h2⟩]; rfl
    · rw [if_pos h, if_neg h2, if_neg (fun e => h2 e.2), ← h, List.getElem?_eq_none (by omega)]
  · rw [if_neg h, if_neg (fun e => h e.1)]

theorem cF_set (ws : List Bool) (n : Int) (k j : Nat) (v : Bool) : cF (ws.set k v) n j = if k = j ∧ k < ws.length then (if v then n else 0) else cF ws n j := by
  unfold cF; rw [getD_set]
  by_cases h : k = j ∧ k < ws.length
  · rw [if_pos h, if_pos h]
  · rw [if_neg h, if_neg h]
theorem sF_set (st : List Int) (s n : Int) (k j : Nat) (v : Int) : sF (st.set k v) s n j = if k = j ∧ k < st.length then (if v = s then n else 0) else sF st s n j := by
  unfold sF; rw [getD_set]
  by_cases h : k = j ∧ k < st.length
  · rw [if_pos h, if_pos h]
  · rw [if_neg h, if_neg h]
/-- A count, when one slot's state is turned. -/
theorem sF_turn {st : List Int} (s n : Int) {k : Nat} (hk : k < 8) (hl : st.length = 8) (v : Int) : sumTo (sF (st.set k v) s n) 8 = sumTo (sF st s n) 8 + ((if v = s then n else 0) - (if st.getD k 0 = s then n else 0)) := by
  rw [sumTo_upd (f := sF st s n) (k := k) (fun j hj => by rw [sF_set, if_neg (fun e => hj e.1.symm)]), if_pos hk, sF_set, if_pos ⟨rfl, by omega⟩]
  rfl

theorem setN_getD {α : Type} (l : List α) (b : Nat) (v d : α) (n i : Nat) : (setN l b v n).getD i d = if b ≤ i ∧ i < b + n ∧ i < l.length then v else l.getD i d := by
  rw [List.getD_eq_getElem?_getD, List.getD_eq_getElem?_getD, setN_get]
  split <;> rfl

section
variable {c n t : Int} {X : Ar} {st gn : List Int} {ws : List Bool}

theorem Cn.pk (hn : n = 8 ∨ n = 16 ∨ n = 32 ∨ n = 64) (hc : 0 ≤ c ∧ c < 4) {k : Nat} (hk : k < 8) {g : Int} (g0 : 1 ≤ g) (g1 : g ≤ 1000) : validN (n * k) g c := by
  refine ⟨?_, ?_, g0, by omega, hc.1, hc.2⟩ <;> rcases hn with rfl | rfl | rfl | rfl <;> omega

theorem bounds (hn : n = 8 ∨ n = 16 ∨ n = 32 ∨ n = 64) : (∀ (ws : List Bool) m, 0 ≤ sumTo (cF ws n) m ∧ sumTo (cF ws n) m ≤ 64 * m) ∧ ∀ (st : List Int) s m, 0 ≤ sumTo (sF st s n) m ∧ sumTo (sF st s n) m ≤ 64 * m := by
  constructor
  · intro ws m; exact sumTo_le (fun j => by unfold cF; split <;> omega) m
  · intro st s m; exact sumTo_le (fun j => by unfold sF; split <;> omega) m

theorem Cn.mono (h : Cn c n t X st gn ws) {t' : Int} (ht : t ≤ t') : Cn c n t' X st gn ws :=
  ⟨h.wf, h.wl, h.fa, h.us, h.sl, h.gl, h.vl, fun k => by have := h.gb k; omega, h.g0, h.wg, h.ge, h.so, h.bz, h.cv, h.nC, h.nL, h.nR, h.nF⟩

theorem Cn.born (h : Cn c n t X st gn ws) (hn : n = 8 ∨ n = 16 ∨ n = 32 ∨ n = 64) (hc : 0 ≤ c ∧ c < 4) (hs : sizeF c = n) (ht : t ≤ 100) {k : Nat} (hk : k < 8) :
    (X.bornOk (packF (n * k) (gn.getD k 0 + 1) c) ↔ st.getD k 0 = 0) ∧
    (st.getD k 0 = 0 → Cn c n (t + 1) (X.bornF (packF (n * k) (gn.getD k 0 + 1) c)) (st.set k 1) (gn.set k (gn.getD k 0 + 1)) (ws.set k true)) := by
  have gk := h.gb k
  obtain ⟨p1, p2, p3, p4⟩ := opB_pack (Cn.pk hn hc hk (g := gn.getD k 0 + 1) (by omega) (by omega))
  have hnk : 0 ≤ n * (k : Int) ∧ n * (k : Int) + n ≤ 512 := by rcases hn with rfl | rfl | rfl | rfl <;> omega
  have ok : X.bornOk (packF (n * k) (gn.getD k 0 + 1) c) ↔ st.getD k 0 = 0 := by
    constructor
    · intro hb
      have := hb.2.2.2 0 (by rw [p3, hs]; omega)
      have e := h.bz k hk 0 (by show (0 : Int) < n; omega)
      rw [p1, e] at this
      have := of_decide_eq_false this
      omega
    · intro h0
      refine ⟨p4, by rw [p1, p3, hs, h.wl]; omega, by rw [p1, p2, h.ge k hk]; omega, fun i hi => ?_⟩
      rw [p3, hs] at hi
      rw [p1, h.bz k hk i (by omega), h0]; rfl
  refine ⟨ok, fun h0 => ?_⟩
  have hb := ok.2 h0
  have hm : (k : Int) * n = n * k := Int.mul_comm _ _
  have apart : ∀ j : Nat, j < 8 → j ≠ k → ∀ i : Nat, (i : Int) < n → ¬ ((n * k).toNat ≤ (n * j).toNat + i ∧ (n * j).toNat + i < (n * k).toNat + n.toNat) := by
    intro j hj hjk i hi
    rcases hn with rfl | rfl | rfl | rfl <;> omega
  have bX := (bornN_counts X h.wf.wC h.wf.wF (n * k).toNat n.toNat)
  have nw : newsN X.carved (n * k).toNat n.toNat = if ws.getD k false then 0 else n.toNat := newsN_const fun i hi => h.cv k hk i (by omega)
  have rs := bornN_rest X (n * k).toNat n.toNat
  have eC : (X.bornF (packF (n * k) (gn.getD k 0 + 1) c)).nC = w64 (X.nC + newsN X.carved (n * k).toNat n.toNat) ∧
      (X.bornF (packF (n * k) (gn.getD k 0 + 1) c)).nF = w64 (w64 (X.nF + newsN X.carved (n * k).toNat n.toNat) - n) ∧
      (X.bornF (packF (n * k) (gn.getD k 0 + 1) c)).nL = w64 (X.nL + n) ∧ (X.bornF (packF (n * k) (gn.getD k 0 + 1) c)).nR = X.nR := by
    unfold Ar.bornF
    rw [p1, p3, hs]
    rw [← bX.1, ← bX.2, ← rs.1, ← rs.2]
    generalize X.bornN (n * k).toNat n.toNat = B
    exact ⟨rfl, rfl, rfl, rfl⟩
  obtain ⟨b1, b2⟩ := bounds hn
  have bC := b1 ws 8
  have bL := b2 st 1 8
  have bR := b2 st 2 8
  have dC : sumTo (cF (ws.set k true) n) 8 = sumTo (cF ws n) 8 + (if ws.getD k false then 0 else n) := by
    rw [sumTo_upd (f := cF ws n) (k := k) (fun j hj => by rw [cF_set, if_neg (fun e => hj e.1.symm)]), if_pos hk, cF_set, if_pos ⟨rfl, by rw [h.vl]; exact hk⟩]
    unfold cF
    cases ws.getD k false <;> simp
  have dL : sumTo (sF (st.set k 1) 1 n) 8 = sumTo (sF st 1 n) 8 + n := by
    rw [sF_turn 1 n hk h.sl, h0, if_pos (show (1 : Int) = 1 from rfl), if_neg (show ¬ (0 : Int) = 1 by decide)]; omega
  have dR : sumTo (sF (st.set k 1) 2 n) 8 = sumTo (sF st 2 n) 8 := by
    rw [sF_turn 2 n hk h.sl, h0, if_neg (show ¬ (1 : Int) = 2 by decide), if_neg (show ¬ (0 : Int) = 2 by decide)]; omega
  have hC := h.nC
  have hL := h.nL
  have hR := h.nR
  have hF := h.nF
  have nwI : ((newsN X.carved (n * k).toNat n.toNat : Nat) : Int) = if ws.getD k false then 0 else n := by rw [nw]; split <;> omega
  have hnw : (if ws.getD k false = true then (0 : Int) else n) = 0 ∨ (if ws.getD k false = true then (0 : Int) else n) = n := by split <;> simp
  rw [nwI] at eC
  generalize (if ws.getD k false = true then (0 : Int) else n) = z at *
  refine ⟨bornF_wf h.wf _ hb.2.1, by rw [bornF_wl, h.wl], by rw [bornF_fault, h.fa], by rw [bornF_uses, h.us], by rw [List.length_set, h.sl], by rw [List.length_set, h.gl], by rw [List.length_set, h.vl],
    fun j => ?_, fun j hj => ?_, fun j hj => ?_, fun j hj => ?_, fun j hj g g0 g1 => ?_, fun j hj i hi => ?_, fun j hj i hi => ?_, ?_, ?_, ?_, ?_⟩
  · rw [getD_set]; have := h.gb j; split <;> omega
  · rw [getD_set] at hj ⊢
    rw [h.gl] at hj
    rw [h.sl]
    by_cases e : k = j ∧ k < 8
    · rw [if_pos e] at hj; omega
    · rw [if_neg e] at hj ⊢; exact h.g0 j hj
  · rw [getD_set, getD_set, h.gl, h.vl]
    by_cases e : k = j ∧ k < 8
    · rw [if_pos e, if_pos e, decide_eq_true (by omega)]
    · rw [if_neg e, if_neg e]; exact h.wg j hj
  · rw [bornF_gens, alGet_put, p1, p2, getD_set, h.gl]
    by_cases e : k = j
    · rw [if_pos (by rw [e]), if_pos ⟨e, hk⟩]; rfl
    · rw [if_neg (by intro e2; rcases hn with rfl | rfl | rfl | rfl <;> omega), if_neg (fun e2 => e e2.1)]; exact h.ge j hj
  · obtain ⟨q1, q2, q3, q4⟩ := opB_pack (Cn.pk hn hc hj g0 g1)
    rw [stF_bornF, q1, p1, getD_set, getD_set, h.gl, h.sl]
    by_cases e : k = j
    · subst e
      rw [if_pos (show n * (k : Int) = n * (k : Int) from rfl), if_pos (show k = k ∧ k < 8 from ⟨rfl, hk⟩), if_pos (show k = k ∧ k < 8 from ⟨rfl, hk⟩)]
      by_cases eg : gn.getD k 0 + 1 = g
      · rw [if_pos ⟨q4, by rw [eg]⟩, if_pos eg]
      · rw [if_neg (fun e2 => eg (by have := congrArg opG e2.2; rw [p2, q2] at this; exact this)), if_neg eg]
    · rw [if_neg (by intro e2; rcases hn with rfl | rfl | rfl | rfl <;> omega), if_neg (show ¬ (k = j ∧ k < 8) from fun e2 => e e2.1), if_neg (show ¬ (k = j ∧ k < 8) from fun e2 => e e2.1)]; exact h.so j hj g g0 g1
  · rw [bornF_busy, p1, p3, hs, setN_getD, getD_set, h.sl, h.wf.busy, h.wl]
    by_cases e : k = j
    · subst e
      rw [if_pos (by omega), if_pos ⟨rfl, hk⟩]; rfl
    · rw [if_neg (fun e2 => apart j hj (fun e3 => e e3.symm) i hi ⟨e2.1, e2.2.1⟩), if_neg (fun e2 => e e2.1)]; exact h.bz j hj i hi
  · rw [bornF_carved, p1, p3, hs, setN_getD, getD_set, h.vl, h.wf.carved, h.wl]
    by_cases e : k = j
    · subst e
      rw [if_pos (by omega), if_pos ⟨rfl, hk⟩]
    · rw [if_neg (fun e2 => apart j hj (fun e3 => e e3.symm) i hi ⟨e2.1, e2.2.1⟩), if_neg (fun e2 => e e2.1)]; exact h.cv j hj i hi
  · rw [eC.1, dC, w64_in (by omega) (by omega), hC]
  · rw [eC.2.2.1, dL, w64_in (by omega) (by omega), hL]
  · rw [eC.2.2.2, dR, hR]
  · rw [eC.1, eC.2.1, eC.2.2.1, eC.2.2.2, w64_in (x := X.nF + z) (by omega) (by omega), w64_in (x := X.nF + z - n) (by omega) (by omega), w64_in (x := X.nC + z) (by omega) (by omega), w64_in (x := X.nL + n) (by omega) (by omega)]
    omega

theorem turnF_keeps (Z : Ar) (h s t : Int) : (Z.turnF h s t).nC = Z.nC ∧ (Z.turnF h s t).nL = Z.nL ∧ (Z.turnF h s t).nR = Z.nR ∧ (Z.turnF h s t).nF = Z.nF ∧ (Z.turnF h s t).gens = Z.gens ∧ (Z.turnF h s t).busy = Z.busy ∧ (Z.turnF h s t).carved = Z.carved ∧
    (Z.turnF h s t).words = Z.words ∧ (Z.turnF h s t).fault = Z.fault ∧ (Z.turnF h s t).uses = Z.uses := by unfold Ar.turnF; split <;> exact ⟨rfl, rfl, rfl, rfl, rfl, rfl, rfl, rfl, rfl, rfl⟩

theorem Cn.state (h : Cn c n t X st gn ws) {k : Nat} (hk : k < 8) (ht : t ≤ 100) : X.stF (packF (n * k) (imax (gn.getD k 0) 1) c) = st.getD k 0 := by
  have gk := h.gb k
  have e : imax (gn.getD k 0) 1 = if gn.getD k 0 = 0 then 1 else gn.getD k 0 := by unfold imax; split <;> split <;> omega
  rw [e]
  by_cases c0 : gn.getD k 0 = 0
  · rw [if_pos c0, h.so k hk 1 (by omega) (by omega), if_neg (by omega), h.g0 k c0]
  · rw [if_neg c0, h.so k hk _ (by omega) (by omega), if_pos rfl]

theorem stay_retire (hX : X.wf) {h : Int} (hs : X.stF h ≠ 1) : X.retireF h = X := by
  have e1 : X.turnF h 1 2 = X := by unfold Ar.turnF; rw [if_neg hs]
  have e2 : X.turnN h 1 = 0 := by unfold Ar.turnN; rw [if_neg hs]
  unfold Ar.retireF
  rw [e1, e2]
  unfold Ar.addR Ar.subL
  simp only [Int.sub_zero, Int.add_zero, hX.wL, hX.wR]
theorem stay_died (hX : X.wf) {h : Int} (hs : X.stF h ≠ 2) : X.diedF h = X := by
  have e1 : X.turnF h 2 0 = X := by unfold Ar.turnF; rw [if_neg hs]
  have e2 : X.turnN h 2 = 0 := by unfold Ar.turnN; rw [if_neg hs]
  unfold Ar.diedF
  rw [e1, e2]
  unfold Ar.addF Ar.subR Ar.busyN
  simp only [Int.sub_zero, Int.add_zero, hX.wF, hX.wR]
  rfl

theorem Cn.retire (h : Cn c n t X st gn ws) (hn : n = 8 ∨ n = 16 ∨ n = 32 ∨ n = 64) (hc : 0 ≤ c ∧ c < 4) (hs : sizeF c = n) (ht : t ≤ 100) {k : Nat} (hk : k < 8) (h1 : st.getD k 0 = 1) :
    Cn c n t (X.retireF (packF (n * k) (imax (gn.getD k 0) 1) c)) (st.set k 2) gn ws := by
  have gk := h.gb k
  have g1 : gn.getD k 0 ≠ 0 := fun e => by have := h.g0 k e; omega
  have em : imax (gn.getD k 0) 1 = gn.getD k 0 := by unfold imax; split <;> omega
  have hst := h.state hk ht
  rw [em] at hst ⊢
  rw [h1] at hst
  obtain ⟨p1, p2, p3, p4⟩ := opB_pack (Cn.pk hn hc hk (g := gn.getD k 0) (by omega) (by omega))
  have w := retireF_wf h.wf (packF (n * k) (gn.getD k 0) c)
  have tn : X.turnN (packF (n * k) (gn.getD k 0) c) 1 = n := by unfold Ar.turnN; rw [if_pos hst, p3, hs]
  have sr := stF_retireF X (packF (n * k) (gn.getD k 0) c)
  obtain ⟨k1, k2, k3, k4, k5, k6, k7, k8, k9, k10⟩ := turnF_keeps X (packF (n * k) (gn.getD k 0) c) 1 2
  obtain ⟨b1, b2⟩ := bounds hn
  have bL := b2 st 1 8
  have bR := b2 st 2 8
  have dL := sF_turn 1 n hk h.sl 2
  have dR := sF_turn 2 n hk h.sl 2
  rw [h1] at dL dR
  rw [if_neg (show ¬ (2 : Int) = 1 by decide), if_pos (show (1 : Int) = 1 from rfl)] at dL
  rw [if_pos (show (2 : Int) = 2 from rfl), if_neg (show ¬ (1 : Int) = 2 by decide)] at dR
  have hC := h.nC
  have hL := h.nL
  have hR := h.nR
  have hF := h.nF
  have eL : (X.retireF (packF (n * k) (gn.getD k 0) c)).nL = w64 (X.nL - n) := by
    have r : (X.retireF (packF (n * k) (gn.getD k 0) c)).nL = w64 ((X.turnF (packF (n * k) (gn.getD k 0) c) 1 2).nL - X.turnN (packF (n * k) (gn.getD k 0) c) 1) := rfl
    rw [r, k2, tn]
  have eR : (X.retireF (packF (n * k) (gn.getD k 0) c)).nR = w64 (X.nR + n) := by
    have r : (X.retireF (packF (n * k) (gn.getD k 0) c)).nR = w64 ((X.turnF (packF (n * k) (gn.getD k 0) c) 1 2).nR + X.turnN (packF (n * k) (gn.getD k 0) c) 1) := rfl
    rw [r, k3, tn]
  refine ⟨w, by rw [← h.wl, ← k8]; rfl, by rw [← h.fa, ← k9]; rfl, k10.trans h.us, by rw [List.length_set, h.sl], h.gl, h.vl, h.gb, fun j hj => ?_, h.wg, fun j hj => ?_, fun j hj g g0 g1 => ?_, fun j hj i hi => ?_, fun j hj i hi => ?_, ?_, ?_, ?_, ?_⟩
  · rw [getD_set]
    by_cases e : k = j ∧ k < st.length
    · rw [← e.1] at hj; exact (g1 hj).elim
    · rw [if_neg e]; exact h.g0 j hj
  · rw [← h.ge j hj, ← k5]; rfl
  · obtain ⟨q1, q2, q3, q4⟩ := opB_pack (Cn.pk hn hc hj g0 g1)
    rw [sr, q1, p1, getD_set, h.sl]
    by_cases e : k = j
    · subst e
      rw [if_pos (show X.stF _ = 1 ∧ n * (k : Int) = n * (k : Int) from ⟨hst, rfl⟩), if_pos (show k = k ∧ k < 8 from ⟨rfl, hk⟩)]
      by_cases eg : gn.getD k 0 = g
      · rw [if_pos ⟨q4, by rw [eg]⟩, if_pos eg]
      · rw [if_neg (fun e2 => eg (by have := congrArg opG e2.2; rw [p2, q2] at this; exact this)), if_neg eg]
    · rw [if_neg (show ¬ (X.stF _ = 1 ∧ n * (j : Int) = n * (k : Int)) from fun e2 => by have := e2.2; rcases hn with rfl | rfl | rfl | rfl <;> omega), if_neg (show ¬ (k = j ∧ k < 8) from fun e2 => e e2.1)]; exact h.so j hj g g0 g1
  · have := h.bz j hj i hi
    rw [← k6] at this
    rw [getD_set, h.sl]
    refine Eq.trans (b := decide (st.getD j 0 ≠ 0)) this ?_
    by_cases e : k = j
    · rw [if_pos ⟨e, hk⟩, ← e, h1]; rfl
    · rw [if_neg (fun e2 => e e2.1)]
  · have := h.cv j hj i hi
    rw [← k7] at this; exact this
  · rw [← h.nC, ← k1]; rfl
  · rw [eL, w64_in (by omega) (by omega)]; omega
  · rw [eR, w64_in (by omega) (by omega)]; omega
  · have e4 : (X.retireF (packF (n * k) (gn.getD k 0) c)).nF = X.nF := by rw [← k4]; rfl
    have e5 : (X.retireF (packF (n * k) (gn.getD k 0) c)).nC = X.nC := by rw [← k1]; rfl
    rw [e4, e5, eL, eR, w64_in (x := X.nL - n) (by omega) (by omega), w64_in (x := X.nR + n) (by omega) (by omega)]; omega

theorem Cn.died (h : Cn c n t X st gn ws) (hn : n = 8 ∨ n = 16 ∨ n = 32 ∨ n = 64) (hc : 0 ≤ c ∧ c < 4) (hs : sizeF c = n) (ht : t ≤ 100) {k : Nat} (hk : k < 8) (h1 : st.getD k 0 = 2) :
    Cn c n t (X.diedF (packF (n * k) (imax (gn.getD k 0) 1) c)) (st.set k 0) gn ws := by
  have gk := h.gb k
  have g1 : gn.getD k 0 ≠ 0 := fun e => by have := h.g0 k e; omega
  have em : imax (gn.getD k 0) 1 = gn.getD k 0 := by unfold imax; split <;> omega
  have hst := h.state hk ht
  rw [em] at hst ⊢
  rw [h1] at hst
  obtain ⟨p1, p2, p3, p4⟩ := opB_pack (Cn.pk hn hc hk (g := gn.getD k 0) (by omega) (by omega))
  have w := diedF_wf h.wf (packF (n * k) (gn.getD k 0) c)
  have tn : X.turnN (packF (n * k) (gn.getD k 0) c) 2 = n := by unfold Ar.turnN; rw [if_pos hst, p3, hs]
  have sr := stF_diedF X (packF (n * k) (gn.getD k 0) c)
  obtain ⟨k1, k2, k3, k4, k5, k6, k7, k8, k9, k10⟩ := turnF_keeps X (packF (n * k) (gn.getD k 0) c) 2 0
  have hnk : 0 ≤ n * (k : Int) ∧ n * (k : Int) + n ≤ 512 := by rcases hn with rfl | rfl | rfl | rfl <;> omega
  obtain ⟨b1, b2⟩ := bounds hn
  have bC := b1 ws 8
  have bL := b2 st 1 8
  have bR := b2 st 2 8
  have dL := sF_turn 1 n hk h.sl 0
  have dR := sF_turn 2 n hk h.sl 0
  rw [h1] at dL dR
  rw [if_neg (show ¬ (0 : Int) = 1 by decide), if_neg (show ¬ (2 : Int) = 1 by decide)] at dL
  rw [if_neg (show ¬ (0 : Int) = 2 by decide), if_pos (show (2 : Int) = 2 from rfl)] at dR
  have hC := h.nC
  have hL := h.nL
  have hR := h.nR
  have hF := h.nF
  have eR : (X.diedF (packF (n * k) (gn.getD k 0) c)).nR = w64 (X.nR - n) := by
    have r : (X.diedF (packF (n * k) (gn.getD k 0) c)).nR = w64 ((X.turnF (packF (n * k) (gn.getD k 0) c) 2 0).nR - X.turnN (packF (n * k) (gn.getD k 0) c) 2) := rfl
    rw [r, k3, tn]
  have eF : (X.diedF (packF (n * k) (gn.getD k 0) c)).nF = w64 (X.nF + n) := by
    have r : (X.diedF (packF (n * k) (gn.getD k 0) c)).nF = w64 ((X.turnF (packF (n * k) (gn.getD k 0) c) 2 0).nF + X.turnN (packF (n * k) (gn.getD k 0) c) 2) := rfl
    rw [r, k4, tn]
  have eB : (X.diedF (packF (n * k) (gn.getD k 0) c)).busy = setN X.busy (n * k).toNat false n.toNat := by
    have r : (X.diedF (packF (n * k) (gn.getD k 0) c)).busy = setN (X.turnF (packF (n * k) (gn.getD k 0) c) 2 0).busy (opB (packF (n * k) (gn.getD k 0) c)).toNat false (X.turnN (packF (n * k) (gn.getD k 0) c) 2).toNat := rfl
    rw [r, k6, tn, p1]
  refine ⟨w, by rw [← h.wl, ← k8]; rfl, by rw [← h.fa, ← k9]; rfl, k10.trans h.us, by rw [List.length_set, h.sl], h.gl, h.vl, h.gb, fun j hj => ?_, h.wg, fun j hj => ?_, fun j hj g g0 g1 => ?_, fun j hj i hi => ?_, fun j hj i hi => ?_, ?_, ?_, ?_, ?_⟩
  · rw [getD_set]
    by_cases e : k = j ∧ k < st.length
    · rw [if_pos e]
    · rw [if_neg e]; exact h.g0 j hj
  · rw [← h.ge j hj, ← k5]; rfl
  · obtain ⟨q1, q2, q3, q4⟩ := opB_pack (Cn.pk hn hc hj g0 g1)
    rw [sr, q1, p1, getD_set, h.sl]
    by_cases e : k = j
    · subst e
      rw [if_pos (show X.stF _ = 2 ∧ n * (k : Int) = n * (k : Int) from ⟨hst, rfl⟩), if_pos (show k = k ∧ k < 8 from ⟨rfl, hk⟩)]
      simp
    · rw [if_neg (show ¬ (X.stF _ = 2 ∧ n * (j : Int) = n * (k : Int)) from fun e2 => by have := e2.2; rcases hn with rfl | rfl | rfl | rfl <;> omega), if_neg (show ¬ (k = j ∧ k < 8) from fun e2 => e e2.1)]; exact h.so j hj g g0 g1
  · rw [eB, setN_getD, getD_set, h.sl, h.wf.busy, h.wl]
    by_cases e : k = j
    · subst e
      rw [if_pos (by omega), if_pos ⟨rfl, hk⟩]; rfl
    · rw [if_neg (by rcases hn with rfl | rfl | rfl | rfl <;> omega), if_neg (fun e2 => e e2.1)]; exact h.bz j hj i hi
  · have := h.cv j hj i hi
    rw [← k7] at this; exact this
  · rw [← h.nC, ← k1]; rfl
  · have r : (X.diedF (packF (n * k) (gn.getD k 0) c)).nL = (X.turnF (packF (n * k) (gn.getD k 0) c) 2 0).nL := rfl
    rw [r, k2]; omega
  · rw [eR, w64_in (by omega) (by omega)]; omega
  · have e4 : (X.diedF (packF (n * k) (gn.getD k 0) c)).nL = X.nL := by rw [← k2]; rfl
    have e5 : (X.diedF (packF (n * k) (gn.getD k 0) c)).nC = X.nC := by rw [← k1]; rfl
    rw [e4, e5, eF, eR, w64_in (x := X.nF + n) (by omega) (by omega), w64_in (x := X.nR - n) (by omega) (by omega)]; omega
end
end Go.Proofs.Ytgnifhkjpekkdaa
