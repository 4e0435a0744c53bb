/- Texts of this claim, one behind the other. -/
import Derived.Test.YtjnacjniiogjcaaGreatCWThiefLast1
set_option linter.unusedSimpArgs false
set_option linter.unusedVariables false
set_option maxRecDepth 20000
namespace Go.Proofs.YtjnacjniiogjcaaGreat
open Go Go.Fw
section
variable {A B : Ar} {p : Pl} {w m : Int} {S : Sg}
theorem newsN_all {l : List Bool} {b : Nat} (v : Bool) : ∀ (n : Nat), (∀ i, b ≤ i → i < b + n → l.getD i false = v) → newsN l b n = if v then 0 else n
  | 0, _ => by cases v <;> rfl
  | n + 1, h => by
    unfold newsN
    rw [newsN_all v n (fun i h0 h1 => h i h0 (by omega)), h (b + n) (by omega) (by omega)]
    cases v <;> simp
theorem setN_getD {l : List Bool} {b n i : Nat} {v : Bool} (hi : i < l.length) : (setN l b v n).getD i false = if b ≤ i ∧ i < b + n then v else l.getD i false := by
  rw [List.getD_eq_getElem?_getD, setN_get, List.getD_eq_getElem?_getD]
  by_cases h : b ≤ i ∧ i < b + n
  · rw [if_pos h, if_pos ⟨h.1, h.2, hi⟩]; rfl
  · rw [if_neg h, if_neg (fun h' => h ⟨h'.1, h'.2.1⟩)]
theorem setN_getD_out {l : List Bool} {b n i : Nat} {v : Bool} (hi : l.length ≤ i) : (setN l b v n).getD i false = false := by
  rw [List.getD_eq_getElem?_getD, List.getElem?_eq_none (by rw [setN_length]; exact hi)]; rfl
theorem bornF_counts (A : Ar) (hw : A.wf) (h : Int) : (A.bornF h).nC = w64 (A.nC + newsN A.carved (opB h).toNat (sizeF (opC h)).toNat) ∧
    (A.bornF h).nF = w64 (w64 (A.nF + newsN A.carved (opB h).toNat (sizeF (opC h)).toNat) - sizeF (opC h)) ∧ (A.bornF h).nL = w64 (A.nL + sizeF (opC h)) ∧ (A.bornF h).nR = A.nR := by
  obtain ⟨c1, c2⟩ := bornN_counts A hw.wC hw.wF (opB h).toNat (sizeF (opC h)).toNat
  obtain ⟨d1, d2⟩ := bornN_rest A (opB h).toNat (sizeF (opC h)).toNat
  unfold Ar.bornF
  generalize A.bornN (opB h).toNat (sizeF (opC h)).toNat = B at *
  rw [← c1, ← c2, ← d1, ← d2]
  exact ⟨rfl, rfl, rfl, rfl⟩
theorem stF_one {A : Ar} {h k : Int} (hs : A.stF h ≠ 0) (hb : opB k = opB h) (hn : k ≠ h) : A.stF k = 0 := by
  unfold Ar.stF at hs ⊢
  rw [hb]
  cases hg : alGet A.slots (opB h) with
  | none => rfl
  | some v =>
    obtain ⟨h', s⟩ := v
    rw [hg] at hs
    dsimp only at hs ⊢
    rw [if_neg]
    rintro ⟨_, e3⟩
    by_cases e4 : openOk h = true ∧ h' = h
    · exact hn (e3.symm.trans e4.2)
    · rw [if_neg e4] at hs; exact hs rfl
theorem SL.like (X : SL A p w m S) (hr : B.raw = A.raw) (hu : B.uses = A.uses) (hw : B.words.length = A.words.length) (hs : ∀ h, B.stF h ≠ 0 ↔ A.stF h ≠ 0)
    (hb : B.busy = A.busy) (hc : B.carved = A.carved) (hg : B.gens = A.gens) (hf : B.fresh = A.fresh) (cnt : B.nC = S.nc ∧ B.nF = S.nc - B.nL - B.nR)
    (cnb : -(64 * (A.uses + 1)) ≤ B.nL ∧ B.nL ≤ 64 * (A.uses + 1) ∧ -(64 * (A.uses + 1)) ≤ B.nR ∧ B.nR ≤ 64 * (A.uses + 1)) : SL B p w m S := by
  refine ⟨X.F.congr (fun i _ _ => rawF_congr hr i) (by rw [hr]) (by omega), X.pl, X.wb, X.mb, by rw [hr]; exact X.rl, by rw [hw]; exact X.wl, by rw [hf]; exact X.fr, ?_, X.cvb, ?_, ?_, X.gnz, X.blk, X.dis, X.chc, ?_, ?_, ?_, ?_, cnt, ?_, by rw [hu]; exact cnb⟩
  · rw [rawF_congr hr]; exact X.cvr
  · intro b h0 h1 h2; rw [rawF_congr hr, hg]; exact X.gnr b h0 h1 h2
  · intro b; rw [hu]; exact X.gnb b
  · intro h hh; exact X.act h ((hs h).1 hh)
  · intro i hi; rw [hb] at hi; obtain ⟨h, h1, h2, h3⟩ := X.bz i hi; exact ⟨h, (hs h).2 h1, h2, h3⟩
  · intro i hi; rw [hc]; exact X.cr1 i hi
  · intro b hb i h0 h1; rw [hc]; exact X.cr2 b hb i h0 h1
  · rw [hu]; exact X.ncb
theorem SL.bear (X : SL A p w m S) (hwf : A.wf) (hu : A.uses ≤ 1000000000) {b c : Int} (hc : S.cl b = c) (hc1 : c ≠ -1) (hch : ∀ k, b ∉ S.ch k) (hact : ∀ h, A.stF h ≠ 0 → opB h ≠ b) :
    validN b (S.gn b + 1) c ∧ (opB (packF b (S.gn b + 1) c) = b ∧ opG (packF b (S.gn b + 1) c) = S.gn b + 1 ∧ opC (packF b (S.gn b + 1) c) = c ∧ openOk (packF b (S.gn b + 1) c) = true) ∧
    ((A.later 1).setR (p.gens + b / 8).toNat (S.gn b + 1)).bornOk (packF b (S.gn b + 1) c) ∧
    SL (((A.later 1).setR (p.gens + b / 8).toNat (S.gn b + 1)).bornF (packF b (S.gn b + 1) c)) p w m { S with gn := updI S.gn b (S.gn b + 1), nc := S.nc + (if S.gn b = 0 then sizeF c else 0) } ∧
    (∀ h, (((A.later 1).setR (p.gens + b / 8).toNat (S.gn b + 1)).bornF (packF b (S.gn b + 1) c)).stF h = if h = packF b (S.gn b + 1) c then 1 else A.stF h) ∧
    (((A.later 1).setR (p.gens + b / 8).toNat (S.gn b + 1)).bornF (packF b (S.gn b + 1) c)).nL = A.nL + sizeF c := by
  obtain ⟨p1, p2, p3, p4, p5⟩ := X.places
  have wb := X.wb
  have mb := X.mb
  have us := X.F.us
  have gb := X.gnb b
  have hb := X.blk b (by rw [hc]; exact hc1)
  rw [hc] at hb
  obtain ⟨b1, b2, b3, b4, b5⟩ := hb
  have sz := sz_pos b1 b2
  have cvb := X.cvb
  have hv : validN b (S.gn b + 1) c := ⟨b3, by omega, by omega, by omega, b1, b2⟩
  obtain ⟨o1, o2, o3, o4⟩ := opB_pack hv
  generalize hh : packF b (S.gn b + 1) c = h at *
  have ok : (A.later 1).rawOk (p.gens + b / 8) := ⟨by omega, by show _ < (A.raw.length : Int); have := X.rl; omega⟩
  have hr : ∀ i, ((A.later 1).setR (p.gens + b / 8).toNat (S.gn b + 1)).rawF i = if i = p.gens + b / 8 then S.gn b + 1 else A.rawF i := fun i => rawF_setR ok
  generalize hD : (A.later 1).setR (p.gens + b / 8).toNat (S.gn b + 1) = D at *
  have dst : ∀ k, D.stF k = A.stF k := fun k => by rw [← hD]; exact stF_slots rfl k
  have dwf : D.wf := by rw [← hD]; exact setR_wf (later_wf hwf 1) _ _
  have dbz : D.busy = A.busy := by rw [← hD]; rfl
  have dcr : D.carved = A.carved := by rw [← hD]; rfl
  have dge : D.gens = A.gens := by rw [← hD]; rfl
  have dwl : D.words.length = A.words.length := by rw [← hD]; rfl
  have dus : D.uses = A.uses + 1 := by rw [← hD]; rfl
  have dfr : D.fresh = A.fresh := by rw [← hD]; rfl
  have drl : D.raw.length = A.raw.length := by rw [← hD]; show (A.raw.set _ _).length = _; rw [List.length_set]
  have dnC : D.nC = A.nC ∧ D.nF = A.nF ∧ D.nL = A.nL ∧ D.nR = A.nR := by rw [← hD]; exact ⟨rfl, rfl, rfl, rfl⟩
  clear hD
  have hwl := X.wl
  have bl := hwf.busy
  have cl := hwf.carved
  -- no word of it is busy
  have free : ∀ i : Nat, b ≤ i → (i : Int) < b + sizeF c → A.busy.getD i false = false := fun i i0 i1 => by
    cases hbz : A.busy.getD i false with
    | false => rfl
    | true =>
      exfalso
      obtain ⟨k, k1, k2, k3⟩ := X.bz i hbz
      obtain ⟨a1, a2⟩ := X.act k k1
      have hne := hact k k1
      have c1 : S.cl (opB k) ≠ -1 := by rw [a1]; have := (opC_nat k).1; omega
      rcases Int.lt_trichotomy (opB k) b with e | e | e
      · have := X.dis (opB k) b c1 (by rw [hc]; exact hc1) e; rw [a1] at this; omega
      · exact hne e
      · have := X.dis b (opB k) (by rw [hc]; exact hc1) c1 e; rw [hc] at this; omega
  have gnr := X.gnr b b3 (by omega) b4
  have bok : D.bornOk h := by
    refine ⟨o4, by rw [o1, o3, dwl]; omega, ?_, fun i hi => ?_⟩
    · rw [o1, o2, dge]; omega
    · rw [dbz, o1]; rw [o3] at hi
      exact free _ (by omega) (by omega)
  have hst : ∀ k, (D.bornF h).stF k = if k = h then 1 else A.stF k := fun k => by
    rw [stF_bornF, o1]
    by_cases e : k = h
    · subst e; rw [if_pos o1, if_pos ⟨o4, rfl⟩, if_pos rfl]
    · rw [if_neg e]
      by_cases e1 : opB k = b
      · rw [if_pos e1, if_neg (fun x => e x.2.symm)]
        by_cases z : A.stF k = 0
        · exact z.symm
        · exact (hact k z e1).elim
      · rw [if_neg e1, dst]
  have hcr : ∀ i : Nat, b ≤ i → (i : Int) < b + sizeF c → A.carved.getD i false = decide (1 ≤ S.gn b) := fun i i0 i1 => X.cr2 b (by rw [hc]; exact hc1) i i0 (by rw [hc]; exact i1)
  have hnews : newsN D.carved (opB h).toNat (sizeF (opC h)).toNat = if S.gn b = 0 then (sizeF c).toNat else 0 := by
    rw [dcr, o1, o3, newsN_all (decide (1 ≤ S.gn b)) _ (fun i i0 i1 => hcr i (by omega) (by omega))]
    by_cases z : S.gn b = 0
    · rw [if_pos z, decide_eq_false (by omega)]; rfl
    · rw [if_neg z, decide_eq_true (by omega)]; rfl
  obtain ⟨n1, n2, n3, n4⟩ := bornF_counts D dwf h
  rw [hnews] at n1 n2
  rw [o3] at n2 n3
  obtain ⟨d1, d2, d3, d4⟩ := dnC
  have cnt := X.cnt
  have ncb := X.ncb
  have cnb := X.cnb
  have enw : (((if S.gn b = 0 then (sizeF c).toNat else 0 : Nat)) : Int) = if S.gn b = 0 then sizeF c else 0 := by split <;> omega
  rw [enw] at n1 n2
  have n1' : (D.bornF h).nC = S.nc + (if S.gn b = 0 then sizeF c else 0) := by rw [n1, d1, cnt.1, w64_in (by split <;> omega) (by split <;> omega)]
  have n3' : (D.bornF h).nL = A.nL + sizeF c := by rw [n3, d3, w64_in (by omega) (by omega)]
  have n4' : (D.bornF h).nR = A.nR := by rw [n4, d4]
  have n2' : (D.bornF h).nF = S.nc + (if S.gn b = 0 then sizeF c else 0) - (A.nL + sizeF c) - A.nR := by
    rw [n2, d2, cnt.2, w64_in (x := S.nc - A.nL - A.nR + _) (by split <;> omega) (by split <;> omega), w64_in (by split <;> omega) (by split <;> omega)]
    split <;> omega
  have bus : (D.bornF h).uses = A.uses + 1 := by rw [bornF_uses, dus]
  have braw : ∀ i, (D.bornF h).rawF i = D.rawF i := fun i => rawF_congr (bornF_raw D h) i
  refine ⟨hv, ⟨o1, o2, o3, o4⟩, bok, ?_, hst, n3'⟩
  refine ⟨X.F.congr (fun i i0 i1 => by rw [braw, hr, if_neg (by omega)]) (by rw [bornF_raw, drl]) (by rw [bus]; omega), X.pl, X.wb, X.mb, by rw [bornF_raw, drl]; exact X.rl, by rw [bornF_wl, dwl]; exact X.wl, by rw [bornF_fresh, dfr]; exact X.fr, ?_, X.cvb, ?_, ?_, ?_, X.blk, X.dis, X.chc, ?_, ?_, ?_, ?_, ?_, ?_, ?_⟩
  · rw [braw, hr, if_neg (by omega)]; exact X.cvr
  · intro d d0 d1' d2'
    rw [braw, hr, bornF_gens, dge, alGet_put, o1, o2]
    show (if _ then _ else _) = updI S.gn b (S.gn b + 1) d ∧ _ ≤ updI S.gn b (S.gn b + 1) d
    unfold updI
    by_cases e : d = b
    · subst e; rw [if_pos rfl, if_pos rfl, if_pos rfl]; exact ⟨rfl, Int.le_refl _⟩
    · rw [if_neg e, if_neg e, if_neg (by omega)]; exact X.gnr d d0 d1' d2'
  · intro d
    show 0 ≤ updI S.gn b (S.gn b + 1) d ∧ updI S.gn b (S.gn b + 1) d ≤ _
    have := X.gnb d
    rw [bus]; unfold updI; split <;> omega
  · intro d hd
    have hd : S.cv ≤ d := hd
    show updI S.gn b (S.gn b + 1) d = 0
    unfold updI; rw [if_neg (by omega)]; exact X.gnz d hd
  · intro k hk
    rw [hst] at hk
    by_cases e : k = h
    · subst e; rw [o1, o3]; exact ⟨hc, hch⟩
    · rw [if_neg e] at hk; exact X.act k hk
  · intro i hi
    rw [bornF_busy, dbz, o1, o3] at hi
    by_cases hil : i < A.busy.length
    · rw [setN_getD hil] at hi
      by_cases e : b.toNat ≤ i ∧ i < b.toNat + (sizeF c).toNat
      · exact ⟨h, by rw [hst, if_pos rfl]; decide, by rw [o1]; omega, by rw [o1, o3]; omega⟩
      · rw [if_neg e] at hi
        obtain ⟨k, k1, k2, k3⟩ := X.bz i hi
        refine ⟨k, ?_, k2, k3⟩
        rw [hst]; split
        · decide
        · exact k1
    · rw [setN_getD_out (by omega)] at hi; cases hi
  · intro i hi
    rw [bornF_carved, dcr, o1, o3]
    have hi : S.cv ≤ (i : Int) := hi
    by_cases hil : i < A.carved.length
    · rw [setN_getD hil, if_neg (by omega)]; exact X.cr1 i hi
    · exact setN_getD_out (by omega)
  · intro d hd i i0 i1
    have hd : S.cl d ≠ -1 := hd
    have i1 : (i : Int) < d + sizeF (S.cl d) := i1
    have hdb := X.blk d hd
    rw [bornF_carved, dcr, o1, o3, setN_getD (by omega)]
    show _ = decide (1 ≤ updI S.gn b (S.gn b + 1) d)
    unfold updI
    by_cases e : d = b
    · subst e
      rw [if_pos rfl, if_pos (by rw [hc] at i1; omega), decide_eq_true (by omega)]
    · rw [if_neg e, if_neg]
      · exact X.cr2 d hd i i0 i1
      · intro hx
        rcases Int.lt_or_gt_of_ne e with e2 | e2
        · have := X.dis d b hd (by rw [hc]; exact hc1) e2; omega
        · have := X.dis b d (by rw [hc]; exact hc1) hd e2; rw [hc] at this; omega
  · refine ⟨n1', ?_⟩
    rw [n2', n3', n4']
  · show 0 ≤ S.nc + _ ∧ S.nc + _ ≤ _
    rw [bus]; split <;> omega
  · rw [n3', n4', bus]; omega
theorem SL.retire (X : SL A p w m S) (hu : A.uses ≤ 1000000000) {h : Int} (hs : A.stF h = 1) (cn : -(64 * (A.uses + 1)) ≤ A.nL - sizeF (opC h) ∧ A.nR + sizeF (opC h) ≤ 64 * (A.uses + 1)) :
    SL (A.retireF h) p w m S ∧ (∀ k, (A.retireF h).stF k = if k = h then 2 else A.stF k) ∧ (A.retireF h).nL = A.nL - sizeF (opC h) ∧ (A.retireF h).nR = A.nR + sizeF (opC h) := by
  have ho := stF_ok (A := A) (h := h) (by rw [hs]; decide)
  have us := X.F.us
  have cnb := X.cnb
  have ncb := X.ncb
  have cnt := X.cnt
  have sz := size_opC h
  have tn : A.turnN h 1 = sizeF (opC h) := by unfold Ar.turnN; rw [if_pos hs]
  have hst : ∀ k, (A.retireF h).stF k = if k = h then 2 else A.stF k := fun k => by
    rw [stF_retireF]
    by_cases e : k = h
    · subst e; rw [if_pos ⟨hs, rfl⟩, if_pos ⟨ho, rfl⟩, if_pos rfl]
    · rw [if_neg e]
      by_cases e1 : A.stF h = 1 ∧ opB k = opB h
      · rw [if_pos e1, if_neg (fun x => e x.2.symm)]
        exact (stF_one (by rw [hs]; decide) e1.2 e).symm
      · rw [if_neg e1]
  have parts : (A.retireF h).raw = A.raw ∧ (A.retireF h).words = A.words ∧ (A.retireF h).busy = A.busy ∧ (A.retireF h).carved = A.carved ∧ (A.retireF h).gens = A.gens ∧ (A.retireF h).fresh = A.fresh ∧ (A.retireF h).uses = A.uses ∧ (A.retireF h).nC = A.nC ∧ (A.retireF h).nF = A.nF := by
    unfold Ar.retireF Ar.turnF
    rw [if_pos hs]
    exact ⟨rfl, rfl, rfl, rfl, rfl, rfl, rfl, rfl, rfl⟩
  obtain ⟨q1, q2, q3, q4, q5, q6, q7, q8, q9⟩ := parts
  have nL : (A.retireF h).nL = A.nL - sizeF (opC h) := by
    have : (A.retireF h).nL = w64 (A.nL - A.turnN h 1) := by unfold Ar.retireF Ar.turnF; rw [if_pos hs]; rfl
    rw [this, tn, w64_in (by omega) (by omega)]
  have nR : (A.retireF h).nR = A.nR + sizeF (opC h) := by
    have : (A.retireF h).nR = w64 (A.nR + A.turnN h 1) := by unfold Ar.retireF Ar.turnF; rw [if_pos hs]; rfl
    rw [this, tn, w64_in (by omega) (by omega)]
  refine ⟨X.like q1 q7 (by rw [q2]) (fun k => ?_) q3 q4 q5 q6 ⟨by rw [q8]; exact cnt.1, by rw [q9, nL, nR]; omega⟩ (by rw [nL, nR]; omega), hst, nL, nR⟩
  rw [hst]
  by_cases e : k = h
  · rw [if_pos e, e, hs]; decide
  · rw [if_neg e]
end
section
variable {A B : Ar} {p : Pl} {w m : Int} {S : Sg}
theorem SL.die (X : SL A p w m S) (hwf : A.wf) (hu : A.uses ≤ 1000000000) {h : Int} (hs : A.stF h = 2) (cn : -(64 * (A.uses + 1)) ≤ A.nR - sizeF (opC h)) :
    SL (A.diedF h) p w m S ∧ (∀ k, (A.diedF h).stF k = if k = h then 0 else A.stF k) ∧ (A.diedF h).nL = A.nL ∧ (A.diedF h).nR = A.nR - sizeF (opC h) := by
  have ho := stF_ok (A := A) (h := h) (by rw [hs]; decide)
  have us := X.F.us
  have cnb := X.cnb
  have ncb := X.ncb
  have cnt := X.cnt
  have sz := size_opC h
  have hB := opB_nat h
  have tn : A.turnN h 2 = sizeF (opC h) := by unfold Ar.turnN; rw [if_pos hs]
  have hst : ∀ k, (A.diedF h).stF k = if k = h then 0 else A.stF k := fun k => by
    rw [stF_diedF]
    by_cases e : k = h
    · subst e; rw [if_pos ⟨hs, rfl⟩, if_pos ⟨ho, rfl⟩, if_pos rfl]
    · rw [if_neg e]
      by_cases e1 : A.stF h = 2 ∧ opB k = opB h
      · rw [if_pos e1, if_neg (fun x => e x.2.symm)]
        exact (stF_one (by rw [hs]; decide) e1.2 e).symm
      · rw [if_neg e1]
  have parts : (A.diedF h).raw = A.raw ∧ (A.diedF h).words = A.words ∧ (A.diedF h).busy = setN A.busy (opB h).toNat false (A.turnN h 2).toNat ∧ (A.diedF h).carved = A.carved ∧ (A.diedF h).gens = A.gens ∧ (A.diedF h).fresh = A.fresh ∧ (A.diedF h).uses = A.uses ∧ (A.diedF h).nC = A.nC ∧ (A.diedF h).nL = A.nL := by
    unfold Ar.diedF Ar.turnF
    rw [if_pos hs]
    exact ⟨rfl, rfl, rfl, rfl, rfl, rfl, rfl, rfl, rfl⟩
  obtain ⟨q1, q2, q3, q4, q5, q6, q7, q8, q9⟩ := parts
  have nR : (A.diedF h).nR = A.nR - sizeF (opC h) := by
    have : (A.diedF h).nR = w64 (A.nR - A.turnN h 2) := by unfold Ar.diedF Ar.turnF; rw [if_pos hs]; rfl
    rw [this, tn, w64_in (by omega) (by omega)]
  have nF : (A.diedF h).nF = A.nF + sizeF (opC h) := by
    have : (A.diedF h).nF = w64 (A.nF + A.turnN h 2) := by unfold Ar.diedF Ar.turnF; rw [if_pos hs]; rfl
    rw [this, tn, cnt.2, w64_in (by omega) (by omega)]
  rw [tn] at q3
  refine ⟨?_, hst, q9, nR⟩
  refine ⟨X.F.congr (fun i _ _ => rawF_congr q1 i) (by rw [q1]) (by omega), X.pl, X.wb, X.mb, by rw [q1]; exact X.rl, by rw [q2]; exact X.wl, by rw [q6]; exact X.fr, ?_, X.cvb, ?_, ?_, X.gnz, X.blk, X.dis, X.chc, ?_, ?_, ?_, ?_, ?_, ?_, ?_⟩
  · rw [rawF_congr q1]; exact X.cvr
  · intro b h0 h1 h2; rw [rawF_congr q1, q5]; exact X.gnr b h0 h1 h2
  · intro b; rw [q7]; exact X.gnb b
  · intro k hk
    rw [hst] at hk
    split at hk
    · exact (hk rfl).elim
    · exact X.act k hk
  · intro i hi
    rw [q3] at hi
    by_cases hil : i < A.busy.length
    · rw [setN_getD hil] at hi
      split at hi
      · cases hi
      · rename_i hne
        obtain ⟨k, k1, k2, k3⟩ := X.bz i hi
        refine ⟨k, ?_, k2, k3⟩
        rw [hst, if_neg]
        · exact k1
        · intro e; subst e; exact hne ⟨by omega, by omega⟩
    · rw [setN_getD_out (by omega)] at hi; cases hi
  · intro i hi; rw [q4]; exact X.cr1 i hi
  · intro b hb i h0 h1; rw [q4]; exact X.cr2 b hb i h0 h1
  · rw [q8, nF, q9, nR]; exact ⟨cnt.1, by omega⟩
  · rw [q7]; exact ncb
  · rw [q7, q9, nR]; omega
theorem SL.push (X : SL A p w m S) (hu : A.uses ≤ 1000000000) {k b : Int} (k0 : 0 ≤ k) (k1 : k < 4 * w) (hc : S.cl b = k % 4) (hn : ∀ j, b ∉ S.ch j) (ha : ∀ h, A.stF h ≠ 0 → opB h ≠ b) :
    SL (A.pushed k (4 * w + b / 8) b) p w m { S with ch := upd S.ch k (b :: S.ch k) } := by
  obtain ⟨p1, p2, p3, p4, p5⟩ := X.places
  have wb := X.wb
  have mb := X.mb
  obtain ⟨b1, b2, b3, b4, b5⟩ := X.blk b (by omega)
  have cvb := X.cvb
  have sz := sz_pos b1 b2
  have hb : 0 ≤ b ∧ b % 8 = 0 ∧ b / 8 < (m + 7) / 8 := ⟨b3, b4, by omega⟩
  have F := X.F.push hu k0 k1 hb hn
  have ho : ∀ i, 4 * w + (m + 7) / 8 ≤ i → (A.pushed k (4 * w + b / 8) b).rawF i = A.rawF i := fun i hi => X.F.push_other k0 k1 hb hi
  have us : (A.pushed k (4 * w + b / 8) b).uses = A.uses + 3 := rfl
  have est : ∀ h, (A.pushed k (4 * w + b / 8) b).stF h = A.stF h := fun h => stF_slots (A := A) (B := A.pushed k (4 * w + b / 8) b) rfl h
  refine ⟨F, X.pl, X.wb, X.mb, by unfold Ar.pushed; simp only [List.length_set]; exact X.rl, X.wl, X.fr, ?_, X.cvb, ?_, ?_, X.gnz, X.blk, X.dis, ?_, ?_, ?_, X.cr1, X.cr2, X.cnt, ?_, ?_⟩
  · rw [ho _ (by omega)]; exact X.cvr
  · intro c h0 h1 h2; rw [ho _ (by omega)]; exact X.gnr c h0 h1 h2
  · intro c; have := X.gnb c; rw [us]; show 0 ≤ S.gn c ∧ S.gn c ≤ _; omega
  · intro j x hx
    have hx : x ∈ upd S.ch k (b :: S.ch k) j := hx
    unfold upd at hx
    split at hx
    · rename_i e
      rcases List.mem_cons.1 hx with rfl | hx
      · rw [e]; exact hc
      · rw [e]; exact X.chc k x hx
    · exact X.chc j x hx
  · intro h hh
    rw [est] at hh
    obtain ⟨a1, a2⟩ := X.act h hh
    refine ⟨a1, fun j hx => ?_⟩
    have hx : opB h ∈ upd S.ch k (b :: S.ch k) j := hx
    unfold upd at hx
    split at hx
    · rcases List.mem_cons.1 hx with e | hx
      · exact ha h hh e
      · exact a2 k hx
    · exact a2 j hx
  · intro i hi
    obtain ⟨h, h1, h2, h3⟩ := X.bz i hi
    exact ⟨h, by rw [est]; exact h1, h2, h3⟩
  · have := X.ncb; rw [us]; show 0 ≤ S.nc ∧ S.nc ≤ _; omega
  · have := X.cnb; rw [us]; show _ ≤ A.nL ∧ A.nL ≤ _ ∧ _ ≤ A.nR ∧ A.nR ≤ _; omega
theorem pushed_died (A : Ar) (k lk b h : Int) : (A.pushed k lk b).diedF h = (A.diedF h).pushed k lk b := by
  have e : (A.pushed k lk b).stF h = A.stF h := stF_slots (A := A) (B := A.pushed k lk b) rfl h
  unfold Ar.diedF Ar.turnF Ar.turnN
  rw [e]
  by_cases hs : A.stF h = 2
  · simp only [if_pos hs]; rfl
  · simp only [if_neg hs]; rfl
theorem SL.give (X : SL A p w m S) (hwf : A.wf) (hu : A.uses ≤ 1000000000) {h who : Int} (hs : A.stF h = 2) (w0 : 0 ≤ who) (w1 : who < w) (cn : -(64 * (A.uses + 1)) ≤ A.nR - sizeF (opC h)) :
    SL ((A.pushed (4 * who + opC h) (4 * w + opB h / 8) (opB h)).diedF h) p w m { S with ch := upd S.ch (4 * who + opC h) (opB h :: S.ch (4 * who + opC h)) } ∧
    (∀ k, ((A.pushed (4 * who + opC h) (4 * w + opB h / 8) (opB h)).diedF h).stF k = if k = h then 0 else A.stF k) ∧
    ((A.pushed (4 * who + opC h) (4 * w + opB h / 8) (opB h)).diedF h).nL = A.nL ∧ ((A.pushed (4 * who + opC h) (4 * w + opB h / 8) (opB h)).diedF h).nR = A.nR - sizeF (opC h) := by
  obtain ⟨a1, a2⟩ := X.act h (by rw [hs]; decide)
  have hC := opC_nat h
  obtain ⟨Y, y1, y2, y3⟩ := X.die hwf hu hs cn
  rw [pushed_died]
  have us : (A.diedF h).uses = A.uses := by unfold Ar.diedF Ar.turnF; rw [if_pos hs]; rfl
  have Z := Y.push (k := 4 * who + opC h) (b := opB h) (by rw [us]; exact hu) (by omega) (by omega) (by rw [a1]; omega) a2 (fun k hk e => by
    rw [y1] at hk
    split at hk
    · exact hk rfl
    · rename_i hne
      exact hk (stF_one (by rw [hs]; decide) e hne))
  refine ⟨Z, fun k => ?_, y2, y3⟩
  rw [← y1 k]; exact stF_slots (A := A.diedF h) rfl k
theorem SL.made {r : Nat} (hm : A.made r m.toNat false) (hr : (plOf w m).carved < r) (wb : 1 ≤ w ∧ w ≤ 100) (mb : 0 ≤ m ∧ m ≤ 60000) : SL A (plOf w m) w m ⟨fun _ => [], 0, fun _ => 0, fun _ => -1, 0⟩ := by
  have hz : ∀ i, A.rawF i = 0 := fun i => by
    unfold Ar.rawF; split
    · rw [hm.raw, List.getD_eq_getElem?_getD, List.getElem?_replicate]; split <;> rfl
    · rfl
  have hs : ∀ h, A.stF h = 0 := fun h => by unfold Ar.stF; rw [hm.slots]; rfl
  have hrl : (A.raw.length : Int) = r := by rw [hm.raw, List.length_replicate]
  have pc : (plOf w m).carved = 4 * w + 2 * ((m + 7) / 8) := rfl
  have hbz : ∀ i : Nat, A.busy.getD i false = false := fun i => by rw [hm.busy, List.getD_eq_getElem?_getD, List.getElem?_replicate]; split <;> rfl
  have hcr : ∀ i : Nat, A.carved.getD i false = false := fun i => by rw [hm.carved, List.getD_eq_getElem?_getD, List.getElem?_replicate]; split <;> rfl
  refine ⟨⟨rfl, rfl, by omega, by omega, by omega, by rw [hm.uses]; omega, fun k _ _ => by rw [hz, hm.uses]; decide, fun k _ _ => by rw [hz]; rfl, fun k b h => (by cases h), fun k => .nil, fun k j b h => (by cases h), fun k h => (h rfl).elim⟩, rfl, wb, mb, by rw [hrl]; exact hr, ?_, hm.fresh, hz _, ⟨Int.le_refl 0, mb.1, rfl⟩, fun b _ _ _ => ⟨hz _, ?_⟩, fun b => ?_, fun b _ => rfl, fun b h => (h rfl).elim, fun b c h => (h rfl).elim, fun k b h => (by cases h), fun h hh => (hh (hs h)).elim, fun i hi => ?_, fun i _ => hcr i, fun b h => (h rfl).elim, ?_, ?_, ?_⟩
  · rw [hm.words, List.length_replicate]; omega
  · rw [hm.gens]; exact Int.le_refl 0
  · rw [hm.uses]; exact ⟨Int.le_refl 0, Int.le_refl 0⟩
  · rw [hbz] at hi; cases hi
  · rw [hm.nC, hm.nF, hm.nL, hm.nR]; exact ⟨rfl, rfl⟩
  · rw [hm.uses]; decide
  · rw [hm.uses, hm.nL, hm.nR]; decide
end
structure Off (c n : Int) (A A' : Ar) : Prop where
  wf : A'.wf
  al : Ar.Alike A A'
  wd : A'.words = A.words
  fa : A'.fault = A.fault
  fr : A'.fresh = A.fresh
  rl : A'.raw.length = A.raw.length
  rw : ∀ i, c < i → A'.rawF i = A.rawF i
  us : A'.uses = A.uses + n
section
variable {A B C : Ar} {p : Pl} {w m : Int} {S : Sg} {c : Int}
theorem Off.refl (h : A.wf) : Off c 0 A A := ⟨h, .refl A, rfl, rfl, rfl, rfl, fun _ _ => rfl, (Int.add_zero _).symm⟩
theorem Off.trans {k n : Int} (h : Off c k A B) (g : Off c n B C) : Off c (k + n) A C :=
  ⟨g.wf, h.al.trans g.al, g.wd.trans h.wd, g.fa.trans h.fa, g.fr.trans h.fr, g.rl.trans h.rl, fun i hi => (g.rw i hi).trans (h.rw i hi), by rw [g.us, h.us]; omega⟩
theorem Off.later (h : A.wf) (n : Int) : Off c n A (A.later n) := ⟨later_wf h n, later_alike A n, rfl, rfl, rfl, rfl, fun _ _ => rfl, rfl⟩
theorem Off.popped (h : A.wf) {k lk : Int} (o : A.rawOk k) (hk : k ≤ c) : Off c 3 A (A.popped k lk) :=
  ⟨popped_wf h k lk, popped_alike A k lk, rfl, rfl, rfl, by unfold Ar.popped; simp, fun i hi => by
    by_cases io : A.rawOk i
    · rw [rawF_popped o io, if_neg (by omega)]
    · unfold Ar.rawF; rw [if_neg io, if_neg (fun h => io (popped_ok.1 h))], rfl⟩
theorem Off.pushed (h : A.wf) {k lk b : Int} (o : A.rawOk k) (o2 : A.rawOk lk) (hk : k ≤ c) (hl : lk ≤ c) : Off c 3 A (A.pushed k lk b) :=
  ⟨pushed_wf h k lk b, pushed_alike A k lk b, rfl, rfl, rfl, by unfold Ar.pushed; simp, fun i hi => by
    by_cases io : A.rawOk i
    · rw [rawF_pushed o o2 io, if_neg (by omega), if_neg (by omega)]
    · unfold Ar.rawF; rw [if_neg io, if_neg (fun h => io (pushed_ok.1 h))], rfl⟩
theorem Off.setR (h : A.wf) {i v : Int} (o : A.rawOk i) (hi : i ≤ c) : Off c 0 A (A.setR i.toNat v) :=
  ⟨setR_wf h _ _, ⟨rfl, rfl, rfl, rfl, rfl, rfl, rfl⟩, rfl, rfl, rfl, by show (A.raw.set _ _).length = _; rw [List.length_set], fun j hj => by rw [rawF_setR o, if_neg (by omega)], (Int.add_zero _).symm⟩
theorem Off.bornF (h : A.wf) (hf : A.fresh = false) {k : Int} (hk : opB k + sizeF (opC k) ≤ A.words.length) : Off c 0 A (A.bornF k) :=
  ⟨bornF_wf h k hk, bornF_alike A k, by rw [bornF_words, hf]; rfl, bornF_fault A k, bornF_fresh A k, by rw [bornF_raw], fun i _ => rawF_congr (bornF_raw A k) i, by rw [bornF_uses, Int.add_zero]⟩
theorem Off.diedF (h : A.wf) (k : Int) : Off c 0 A (A.diedF k) := by
  have parts : (A.diedF k).raw = A.raw ∧ (A.diedF k).words = A.words ∧ (A.diedF k).fault = A.fault ∧ (A.diedF k).fresh = A.fresh ∧ (A.diedF k).uses = A.uses := by
    unfold Ar.diedF Ar.turnF; split <;> exact ⟨rfl, rfl, rfl, rfl, rfl⟩
  obtain ⟨q1, q2, q3, q4, q5⟩ := parts
  exact ⟨diedF_wf h k, diedF_alike A k, q2, q3, q4, by rw [q1], fun i _ => rawF_congr q1 i, by rw [q5, Int.add_zero]⟩
theorem Off.retireF (h : A.wf) (k : Int) : Off c 0 A (A.retireF k) := by
  have parts : (A.retireF k).raw = A.raw ∧ (A.retireF k).words = A.words ∧ (A.retireF k).fault = A.fault ∧ (A.retireF k).fresh = A.fresh ∧ (A.retireF k).uses = A.uses := by
    unfold Ar.retireF Ar.turnF; split <;> exact ⟨rfl, rfl, rfl, rfl, rfl⟩
  obtain ⟨q1, q2, q3, q4, q5⟩ := parts
  exact ⟨retireF_wf h k, retireF_alike A k, q2, q3, q4, by rw [q1], fun i _ => rawF_congr q1 i, by rw [q5, Int.add_zero]⟩
inductive Mch.Path {M J : Type} (X : Mch M J) : Nat → M → Ar → M → Ar → Prop
  | nil {x : M} {D : Ar} : Path X 0 x D x D
  | cons {n : Nat} {x : M} {D : Ar} {x1 : M} {D1 : Ar} {x' : M} {D' : Ar} : X.inv x D → X.step x D = (x1, D1) → D1.uses ≤ w64 (D.uses + 1) → X.fin x1 = false → Path X n x1 D1 x' D' → Path X (n + 1) x D x' D'
theorem Mch.Path.trans {M J : Type} {X : Mch M J} {k n : Nat} {m m1 m2 : M} {A A1 A2 : Ar} (h : X.Path k m A m1 A1) (g : X.Path n m1 A1 m2 A2) : X.Path (k + n) m A m2 A2 := by
  induction h with
  | nil => rw [Nat.zero_add]; exact g
  | @cons k m A m1 A1 m' A' h1 h2 h3 h4 _ ih =>
    have := ih g
    rw [show k + 1 + n = k + n + 1 by omega]
    exact .cons h1 h2 h3 h4 this
theorem Mch.Path.run {M J : Type} {X : Mch M J} {k n : Nat} {m m1 m2 : M} {A A1 A2 : Ar} (h : X.Path k m A m1 A1) (g : X.Runs n m1 A1 m2 A2) : X.Runs (k + n) m A m2 A2 := by
  induction h with
  | nil => rw [Nat.zero_add]; exact g
  | @cons k m A m1 A1 m' A' h1 h2 h3 h4 _ ih =>
    have := ih g
    rw [show k + 1 + n = k + n + 1 by omega]
    refine .more h1 (by rw [h2]; exact h3) (by rw [h2]; exact h4) ?_
    rw [h2]; exact this
theorem Mch.Runs.last {M J : Type} {X : Mch M J} {m m1 : M} {A A1 : Ar} (h1 : X.inv m A) (h2 : X.step m A = (m1, A1)) (h3 : A1.uses ≤ w64 (A.uses + 1)) (h4 : X.fin m1 = true) : X.Runs 1 m A m1 A1 := by
  have := Mch.Runs.one (X := X) h1 (by rw [h2]; exact h3) (by rw [h2]; exact h4)
  rw [h2] at this; exact this
theorem headF_eq {p : Pl} {w c : Int} (hp : p.heads = 0) (w0 : 0 ≤ w ∧ w ≤ 1000) (c0 : 0 ≤ c ∧ c < 4) : headF p w c = 4 * w + c := by
  unfold headF; rw [hp, Int.zero_add, w64_in (x := 4 * w) (by omega) (by omega), w64_in (x := 4 * w) (by omega) (by omega), w64_in (by omega) (by omega)]
def askAl (p : Pl) (w who c j : Int) : Al := ⟨p, who, c, j, 0, 0, 0, newPo p ((who + j) % w) c⟩
def bearAl (p : Pl) (who c j b : Int) (po : Po) : Al := ⟨p, who, c, j, 3, b, 0, po⟩
theorem ask_none (X : SL A p w m S) (hu : A.uses ≤ 1000000000) {who c j : Int} (wh : 0 ≤ who ∧ who < w) (hc : 0 ≤ c ∧ c < 4) (hj : 0 ≤ j ∧ j < w) (he : S.ch (4 * ((who + j) % w) + c) = []) :
    ∃ y, y.at' = 3 ∧ (if j + 1 < w then mAl.Path 1 (askAl p w who c j) A (askAl p w who c (j + 1)) (A.later 1) else mAl.Path 1 (askAl p w who c j) A ⟨p, who, c, j + 1, 1, 0, 0, y⟩ (A.later 1)) := by
  obtain ⟨p1, p2, p3, p4, p5⟩ := X.places
  have wb := X.wb
  have us := X.F.us
  have q0 := Int.emod_nonneg (who + j) (b := w) (by omega)
  have q1 := Int.emod_lt_of_pos (who + j) (b := w) (by omega)
  have hh := headF_eq (p := p) (w := (who + j) % w) (c := c) p1 ⟨q0, by omega⟩ hc
  have ok : A.rawOk (4 * ((who + j) % w) + c) := X.F.hdOk (by omega) (by omega)
  generalize hk : 4 * ((who + j) % w) + c = k at *
  have np : newPo p ((who + j) % w) c = ⟨p, k, 0, 0, 0, 0, false⟩ := by unfold newPo; rw [hh]
  have e1 := Po.s0 (A := A) (x := ⟨p, k, 0, 0, 0, 0, false⟩) rfl ok
  have fz : A.rawF k % 131072 = 0 := X.F.first_nil (by omega) (by omega) he
  simp only [if_pos fz] at e1
  have b1 : (Po.mk p k 0 0 0 0 false).stepB A = true := by rw [← Po.fin, (Prod.mk.inj e1).1]; rfl
  have ej : w64 (j + 1) = j + 1 := w64_in (by omega) (by omega)
  have hx : imax p.work 1 = w := by rw [p5]; unfold imax; rw [if_neg (by omega)]
  have et : A.tick = A.later 1 := tick_uses us (by omega)
  have u1 : (A.later 1).uses ≤ w64 (A.uses + 1) := by show A.uses + 1 ≤ _; rw [w64_in (by omega) (by omega)]; exact Int.le_refl _
  have iv : 0 ≤ j ∧ j ≤ 1000000 := ⟨hj.1, by omega⟩
  have s1 : Al.step (askAl p w who c j) A = (Al.popd ⟨p, who, c, j, 0, 0, 0, ⟨p, k, A.rawF k, 3, 0, 0, false⟩⟩, A.later 1) := by
    unfold Al.step askAl
    rw [np]
    simp only [b1, if_true]
    rw [(Prod.mk.inj e1).1, (Prod.mk.inj e1).2, et]
  refine ⟨⟨p, k, A.rawF k, 3, 0, 0, false⟩, rfl, ?_⟩
  by_cases hl : j + 1 < w
  · rw [if_pos hl]
    refine .cons iv (x1 := askAl p w who c (j + 1)) ?_ u1 rfl .nil
    refine Eq.trans s1 ?_
    unfold Al.popd
    have n1 : ¬ j + 1 ≥ w := by omega
    simp only [Bool.false_eq_true, if_false, ej, hx, if_neg n1]
    show (Al.mk p who c (j + 1) 0 0 0 (newPo p (Int.tmod (w64 (who + (j + 1))) p.work) c), _) = (Al.mk p who c (j + 1) 0 0 0 (newPo p ((who + (j + 1)) % w) c), _)
    rw [w64_in (x := who + (j + 1)) (by omega) (by omega), p5, Int.tmod_eq_emod_of_nonneg (by omega)]
  · rw [if_neg hl]
    refine .cons iv ?_ u1 rfl .nil
    refine Eq.trans s1 ?_
    unfold Al.popd
    have n1 : j + 1 ≥ w := by omega
    simp only [Bool.false_eq_true, if_false, ej, hx, if_pos n1]
theorem ask_some (X : SL A p w m S) (hwf : A.wf) (hu : A.uses ≤ 1000000000) {who c j b : Int} {l : List Int} (wh : 0 ≤ who ∧ who < w) (hc : 0 ≤ c ∧ c < 4) (hj : 0 ≤ j ∧ j < w) (he : S.ch (4 * ((who + j) % w) + c) = b :: l) :
    ∃ y, mAl.Path 3 (askAl p w who c j) A (bearAl p who c (j + 1) b y) (A.popped (4 * ((who + j) % w) + c) (4 * w + b / 8)) := by
  obtain ⟨p1, p2, p3, p4, p5⟩ := X.places
  have wb := X.wb
  have mb := X.mb
  have us := X.F.us
  have q0 := Int.emod_nonneg (who + j) (b := w) (by omega)
  have q1 := Int.emod_lt_of_pos (who + j) (b := w) (by omega)
  have hh := headF_eq (p := p) (w := (who + j) % w) (c := c) p1 ⟨q0, by omega⟩ hc
  generalize hk : 4 * ((who + j) % w) + c = k at *
  have o1 : A.rawOk k := X.F.hdOk (by omega) (by omega)
  have hm := X.F.mem k b (by rw [he]; simp)
  have o2 := X.F.lkOk hm.1 hm.2.2
  have hf := X.F.first_cons (k := k) (by omega) (by omega) he
  have nb := X.F.nb
  have el : w64 (w64 (p.links + A.rawF k % 131072) - 1) = 4 * w + b / 8 := by rw [hf, p2, w64_in (x := 4 * w + (b / 8 + 1)) (by omega) (by omega), w64_in (by omega) (by omega)]; omega
  have eb : w64 (w64 (A.rawF k % 131072 - 1) * 8) = b := by rw [hf, w64_in (x := b / 8 + 1 - 1) (by omega) (by omega), w64_in (by omega) (by omega)]; omega
  have t1 : w64 (A.uses + 1) = A.uses + 1 := w64_in (by omega) (by omega)
  have t2 : w64 (A.uses + 1 + 1) = A.uses + 1 + 1 := w64_in (by omega) (by omega)
  have t3 : w64 (A.uses + 1 + 1 + 1) = A.uses + 1 + 1 + 1 := w64_in (by omega) (by omega)
  have ef : A.tick.tick.tick.setR k.toNat (nextF (A.rawF k) (A.rawF (4 * w + b / 8))) = A.popped k (4 * w + b / 8) := by
    unfold Ar.popped Ar.setR Ar.tick
    simp only [t1, t2, t3, Ar.mk.injEq, true_and]
    omega
  have e1 := Po.s0 (A := A) (x := ⟨p, k, 0, 0, 0, 0, false⟩) rfl o1
  have n0 : ¬ A.rawF k % 131072 = 0 := by omega
  simp only [if_neg n0] at e1
  have e2 := Po.s1 (A := A.tick) (x := ⟨p, k, A.rawF k, 1, 0, 0, false⟩) rfl el o2
  have e3 := Po.s2y (A := A.tick.tick) (x := ⟨p, k, A.rawF k, 2, A.rawF (4 * w + b / 8), 0, false⟩) rfl o1 rfl
  have b1 : (Po.mk p k 0 0 0 0 false).stepB A = false := by rw [← Po.fin, (Prod.mk.inj e1).1]; rfl
  have b2 : (Po.mk p k (A.rawF k) 1 0 0 false).stepB A.tick = false := by rw [← Po.fin, (Prod.mk.inj e2).1]; rfl
  have b3 : (Po.mk p k (A.rawF k) 2 (A.rawF (4 * w + b / 8)) 0 false).stepB A.tick.tick = true := by rw [← Po.fin, (Prod.mk.inj e3).1]; rfl
  have np : newPo p ((who + j) % w) c = ⟨p, k, 0, 0, 0, 0, false⟩ := by unfold newPo; rw [hh]
  have ej : w64 (j + 1) = j + 1 := w64_in (by omega) (by omega)
  have s1 : Al.step (askAl p w who c j) A = (⟨p, who, c, j, 0, 0, 0, ⟨p, k, A.rawF k, 1, 0, 0, false⟩⟩, A.tick) := by
    unfold Al.step askAl
    rw [np]
    simp only [b1, if_true, if_false, Bool.false_eq_true]
    rw [(Prod.mk.inj e1).1, (Prod.mk.inj e1).2]
  have s2 : Al.step ⟨p, who, c, j, 0, 0, 0, ⟨p, k, A.rawF k, 1, 0, 0, false⟩⟩ A.tick = (⟨p, who, c, j, 0, 0, 0, ⟨p, k, A.rawF k, 2, A.rawF (4 * w + b / 8), 0, false⟩⟩, A.tick.tick) := by
    unfold Al.step
    simp only [b2, if_true, if_false, Bool.false_eq_true]
    rw [(Prod.mk.inj e2).1, (Prod.mk.inj e2).2]; rfl
  have s3 : Al.step ⟨p, who, c, j, 0, 0, 0, ⟨p, k, A.rawF k, 2, A.rawF (4 * w + b / 8), 0, false⟩⟩ A.tick.tick = (bearAl p who c (j + 1) b ⟨p, k, A.rawF k, 3, A.rawF (4 * w + b / 8), b, true⟩, A.popped k (4 * w + b / 8)) := by
    unfold Al.step
    simp only [b3, if_true]
    rw [(Prod.mk.inj e3).1, (Prod.mk.inj e3).2]
    unfold Al.popd
    simp only [if_true]
    rw [ef, ej, eb]; rfl
  have iv : 0 ≤ j ∧ j ≤ 1000000 := ⟨hj.1, by omega⟩
  refine ⟨⟨p, k, A.rawF k, 3, A.rawF (4 * w + b / 8), b, true⟩, .cons iv s1 (Int.le_refl _) rfl (.cons iv s2 (Int.le_refl _) rfl (.cons iv s3 ?_ rfl .nil))⟩
  show A.uses + 3 ≤ w64 (w64 (w64 (A.uses + 1) + 1) + 1)
  rw [t1, t2, t3]; omega
end
section
variable {A B C : Ar} {p : Pl} {w m : Int} {S : Sg} {c : Int}
theorem carve_no (X : SL A p w m S) (hu : A.uses ≤ 1000000000) {who j : Int} {y : Po} (hc : 0 ≤ c ∧ c < 4) (hj : 0 ≤ j ∧ j ≤ 1000000) (hf : ¬ S.cv + sizeF c ≤ m) :
    mAl.Runs 1 ⟨p, who, c, j, 1, 0, 0, y⟩ A ⟨p, who, c, j, 4, S.cv, 0, y⟩ (A.later 1) := by
  obtain ⟨p1, p2, p3, p4, p5⟩ := X.places
  have us := X.F.us
  have mb := X.mb
  have wb := X.wb
  have sz := sz_pos hc.1 hc.2
  have ok : A.rawOk p.carved := ⟨by omega, X.rl⟩
  have gt : A.rawF p.carved > w64 (A.words.length - sizeF c) := by rw [X.cvr, X.wl, w64_in (by omega) (by omega)]; omega
  refine Mch.Runs.last (X := mAl) (m := ⟨p, who, c, j, 1, 0, 0, y⟩) (A := A) (A1 := A.later 1) (m1 := ⟨p, who, c, j, 4, S.cv, 0, y⟩) ⟨hj.1, hj.2⟩ ?_ (by show A.uses + 1 ≤ _; rw [w64_in (by omega) (by omega)]; exact Int.le_refl _) rfl
  rw [show mAl.step = Al.step from rfl]
  unfold Al.step
  have n0 : ¬ (1 : Int) = 0 := by decide
  simp only [if_neg n0, if_true, if_pos gt]
  rw [touchR_yes ok, tick_uses us (by omega), X.cvr]
theorem carve_yes (X : SL A p w m S) (hu : A.uses ≤ 1000000000) {who j : Int} {y : Po} (hc : 0 ≤ c ∧ c < 4) (hj : 0 ≤ j ∧ j ≤ 1000000) (hf : S.cv + sizeF c ≤ m) :
    mAl.Path 2 ⟨p, who, c, j, 1, 0, 0, y⟩ A ⟨p, who, c, j, 3, S.cv, 0, y⟩ (((A.later 1).later 1).setR p.carved.toNat (S.cv + sizeF c)) := by
  obtain ⟨p1, p2, p3, p4, p5⟩ := X.places
  have us := X.F.us
  have mb := X.mb
  have wb := X.wb
  have cvb := X.cvb
  have sz := sz_pos hc.1 hc.2
  have ok : A.rawOk p.carved := ⟨by omega, X.rl⟩
  have ok' : (A.later 1).rawOk p.carved := ok
  have ng : ¬ A.rawF p.carved > w64 (A.words.length - sizeF c) := by rw [X.cvr, X.wl, w64_in (by omega) (by omega)]; omega
  have t1 : A.tick = A.later 1 := tick_uses us (by omega)
  have t2 : (A.later 1).tick = (A.later 1).later 1 := tick_uses (by show 0 ≤ A.uses + 1; omega) (by show A.uses + 1 ≤ _; omega)
  have s1 : Al.step ⟨p, who, c, j, 1, 0, 0, y⟩ A = (⟨p, who, c, j, 2, S.cv, 0, y⟩, A.later 1) := by
    unfold Al.step
    have n0 : ¬ (1 : Int) = 0 := by decide
    simp only [if_neg n0, if_true, if_neg ng]
    rw [touchR_yes ok, t1, X.cvr]
  have hraw : (A.later 1).raw.getD p.carved.toNat 0 = S.cv := by rw [getD_rawF ok']; exact X.cvr
  have sb : (A.later 1).swapRb p.carved S.cv = true := decide_eq_true ⟨ok', hraw⟩
  have s2 : Al.step ⟨p, who, c, j, 2, S.cv, 0, y⟩ (A.later 1) = (⟨p, who, c, j, 3, S.cv, 0, y⟩, ((A.later 1).later 1).setR p.carved.toNat (S.cv + sizeF c)) := by
    unfold Al.step
    have n0 : ¬ (2 : Int) = 0 := by decide
    have n1 : ¬ (2 : Int) = 1 := by decide
    simp only [if_neg n0, if_neg n1, if_true, sb]
    unfold Ar.swapR
    rw [if_pos ok', if_pos hraw, t2, w64_in (by omega) (by omega)]
  refine .cons ⟨hj.1, hj.2⟩ s1 (by show A.uses + 1 ≤ _; rw [w64_in (by omega) (by omega)]; exact Int.le_refl _) rfl (.cons ⟨hj.1, hj.2⟩ s2 ?_ rfl .nil)
  show A.uses + 1 + 1 ≤ w64 (A.uses + 1 + 1)
  rw [w64_in (by omega) (by omega)]; exact Int.le_refl _
theorem bear_last (X : SL A p w m S) (hu : A.uses ≤ 1000000000) {who j b : Int} {y : Po} (hj : 0 ≤ j ∧ j ≤ 1000000) (hc : S.cl b = c) (hc1 : c ≠ -1) (hb : ((A.later 1).setR (p.gens + b / 8).toNat (S.gn b + 1)).bornOk (packF b (S.gn b + 1) c)) :
    mAl.Runs 1 ⟨p, who, c, j, 3, b, 0, y⟩ A ⟨p, who, c, j, 4, b, packF b (S.gn b + 1) c, y⟩ (((A.later 1).setR (p.gens + b / 8).toNat (S.gn b + 1)).bornF (packF b (S.gn b + 1) c)) := by
  obtain ⟨p1, p2, p3, p4, p5⟩ := X.places
  have us := X.F.us
  have mb := X.mb
  have wb := X.wb
  have cvb := X.cvb
  have gb := X.gnb b
  obtain ⟨b1, b2, b3, b4, b5⟩ := X.blk b (by rw [hc]; exact hc1)
  have sz := sz_pos b1 b2
  have ok : A.rawOk (p.gens + b / 8) := ⟨by omega, by have := X.rl; omega⟩
  have ei : w64 (p.gens + w64 (Int.tdiv b 8)) = p.gens + b / 8 := by rw [Int.tdiv_eq_ediv_of_nonneg b3, w64_in (x := b / 8) (by omega) (by omega), w64_in (by omega) (by omega)]
  have eg : A.rawF (p.gens + b / 8) = S.gn b := (X.gnr b b3 (by omega) b4).1
  refine Mch.Runs.last (X := mAl) (m := ⟨p, who, c, j, 3, b, 0, y⟩) (A := A) (A1 := ((A.later 1).setR (p.gens + b / 8).toNat (S.gn b + 1)).bornF (packF b (S.gn b + 1) c)) (m1 := ⟨p, who, c, j, 4, b, packF b (S.gn b + 1) c, y⟩) ⟨hj.1, hj.2⟩ ?_ ?_ rfl
  · rw [show mAl.step = Al.step from rfl]
    unfold Al.step
    have n0 : ¬ (3 : Int) = 0 := by decide
    have n1 : ¬ (3 : Int) = 1 := by decide
    have n2 : ¬ (3 : Int) = 2 := by decide
    simp only [if_neg n0, if_neg n1, if_neg n2, if_true, ei, eg]
    rw [w64_in (x := S.gn b + 1) (by omega) (by omega)]
    unfold Ar.storeR
    rw [if_pos ok, tick_uses us (by omega)]
    unfold Ar.bornX
    rw [if_pos hb]
  · rw [bornF_uses]
    show A.uses + 1 ≤ _
    rw [w64_in (by omega) (by omega)]; exact Int.le_refl _
def Sg.ask (S : Sg) (w who c : Int) : Nat → Int → Option Int
  | 0, _ => none
  | f + 1, j => if S.ch (4 * ((who + j) % w) + c) = [] then S.ask w who c f (j + 1) else some (4 * ((who + j) % w) + c)
inductive Gives (S : Sg) (w m who c : Int) : Sg → Int → Prop
  | list {k b : Int} {l : List Int} : S.ask w who c w.toNat 0 = some k → S.ch k = b :: l → 0 ≤ k → k < 4 * w → k % 4 = c →
      Gives S w m who c { S with ch := upd S.ch k l, gn := updI S.gn b (S.gn b + 1), nc := S.nc + (if S.gn b = 0 then sizeF c else 0) } (packF b (S.gn b + 1) c)
  | carve : S.ask w who c w.toNat 0 = none → S.cv + sizeF c ≤ m →
      Gives S w m who c { S with cv := S.cv + sizeF c, cl := updI S.cl S.cv c, gn := updI S.gn S.cv 1, nc := S.nc + sizeF c } (packF S.cv 1 c)
  | none : S.ask w who c w.toNat 0 = none → ¬ S.cv + sizeF c ≤ m → Gives S w m who c S 0
structure Alloced (A : Ar) (p : Pl) (w m : Int) (S : Sg) (who c : Int) (n : Nat) (x' : Al) (A' : Ar) (S' : Sg) : Prop where
  run : mAl.Runs n (newAl p who c) A x' A'
  gives : Gives S w m who c S' x'.h
  off : Off p.carved n A A'
  sl : SL A' p w m S'
  st : ∀ k, A'.stF k = if x'.h ≠ 0 ∧ k = x'.h then 1 else A.stF k
  nL : A'.nL = A.nL + (if x'.h ≠ 0 then sizeF c else 0)
  nR : A'.nR = A.nR
  nn : (n : Int) ≤ w + 5
  hd : x'.h ≠ 0 → opC x'.h = c ∧ openOk x'.h = true ∧ A.stF x'.h = 0
  nx : S'.cv ≠ S.cv → (n : Int) = w + 3
theorem ask_path (X : SL A p w m S) (hwf : A.wf) (hu : A.uses ≤ 1000000) {who : Int} (wh : 0 ≤ who ∧ who < w) (hc : 0 ≤ c ∧ c < 4) : ∀ (f : Nat) (j : Int), 0 ≤ j → j + f = w → ∀ (D : Ar), D = A.later j → 1 ≤ f →
    (∃ y, S.ask w who c f j = none ∧ mAl.Path f (askAl p w who c j) D ⟨p, who, c, w, 1, 0, 0, y⟩ (A.later w)) ∨
    (∃ k b l y, ∃ i : Nat, S.ask w who c f j = some k ∧ S.ch k = b :: l ∧ 0 ≤ k ∧ k < 4 * w ∧ k % 4 = c ∧ j ≤ i ∧ (i : Int) < w ∧ ∃ n : Nat, (n : Int) = i - j + 3 ∧ mAl.Path n (askAl p w who c j) D (bearAl p who c (i + 1) b y) ((A.later i).popped k (4 * w + b / 8)))
  | 0, j, h0, h1, D, hD, hf => by omega
  | f + 1, j, h0, h1, D, hD, hf => by
    have wb := X.wb
    have q0 := Int.emod_nonneg (who + j) (b := w) (by omega)
    have q1 := Int.emod_lt_of_pos (who + j) (b := w) (by omega)
    have Y : SL D p w m S := by rw [hD]; exact X.later h0
    have du : D.uses ≤ 1000000000 := by rw [hD]; show A.uses + j ≤ _; omega
    have dwf : D.wf := by rw [hD]; exact later_wf hwf j
    unfold Sg.ask
    by_cases he : S.ch (4 * ((who + j) % w) + c) = []
    · rw [if_pos he]
      obtain ⟨y, y3, hp⟩ := ask_none Y du wh hc ⟨h0, by omega⟩ he
      have e1 : D.later 1 = A.later (j + 1) := by rw [hD]; unfold Ar.later; simp only [Ar.mk.injEq, true_and]; omega
      by_cases hl : j + 1 < w
      · rw [if_pos hl] at hp
        rcases ask_path X hwf hu wh hc f (j + 1) (by omega) (by omega) (D.later 1) e1 (by omega) with ⟨y2, a1, a2⟩ | ⟨k, b, l, y2, i, a1, a2, a3, a4, a5, a6, a7, n, a8, a9⟩
        · exact .inl ⟨y2, a1, by have := hp.trans a2; rw [Nat.add_comm] at this; exact this⟩
        · exact .inr ⟨k, b, l, y2, i, a1, a2, a3, a4, a5, by omega, a7, 1 + n, by omega, hp.trans a9⟩
      · rw [if_neg hl] at hp
        have f0 : f = 0 := by omega
        subst f0
        have ew : j + 1 = w := by omega
        refine .inl ⟨y, rfl, ?_⟩
        rw [← ew, ← e1]; rw [← ew] at hp; exact hp
    · rw [if_neg he]
      obtain ⟨b, l, hbl⟩ := List.exists_cons_of_ne_nil he
      obtain ⟨y, hp⟩ := ask_some Y dwf du wh hc ⟨h0, by omega⟩ hbl
      refine .inr ⟨_, b, l, y, j.toNat, rfl, hbl, by omega, by omega, by omega, by omega, by omega, 3, by omega, ?_⟩
      have ej : ((j.toNat : Nat) : Int) = j := by omega
      rw [ej, ← hD]; exact hp
theorem later0 (A : Ar) : A.later 0 = A := by unfold Ar.later; rw [Int.add_zero]
theorem alloc_solo (X : SL A p w m S) (hwf : A.wf) (hu : A.uses ≤ 1000000) {who : Int} (wh : 0 ≤ who ∧ who < w) (hc : 0 ≤ c ∧ c < 4) : ∃ n x' A' S', Alloced A p w m S who c n x' A' S' := by
  obtain ⟨p1, p2, p3, p4, p5⟩ := X.places
  have wb := X.wb
  have mb := X.mb
  have us := X.F.us
  have cvb := X.cvb
  have sz := sz_pos hc.1 hc.2
  have e0 : newAl p who c = askAl p w who c 0 := by
    unfold newAl askAl; rw [Int.add_zero, Int.emod_eq_of_lt wh.1 wh.2]
  rcases ask_path X hwf hu wh hc w.toNat 0 (Int.le_refl 0) (by omega) A (later0 A).symm (by omega) with ⟨y, a1, a2⟩ | ⟨k, b, l, y, i, a1, a2, a3, a4, a5, a6, a7, n, a8, a9⟩
  · have Y : SL (A.later w) p w m S := X.later (by omega)
    have yu : (A.later w).uses ≤ 1000000000 := by show A.uses + w ≤ _; omega
    by_cases hf : S.cv + sizeF c ≤ m
    · -- new words
      have cp := carve_yes Y yu (who := who) (j := w) (y := y) hc ⟨by omega, by omega⟩ hf
      have Z := (Y.later (n := 1) (by omega)).carve (by show A.uses + w + 1 ≤ _; omega) hc.1 hc.2 hf
      generalize hD : (((A.later w).later 1).later 1).setR p.carved.toNat (S.cv + sizeF c) = D at *
      have okc : (((A.later w).later 1).later 1).rawOk p.carved := ⟨by omega, X.rl⟩
      have du : D.uses = A.uses + w + 1 + 1 := by rw [← hD]; rfl
      have dwf : D.wf := by rw [← hD]; exact setR_wf (later_wf (later_wf (later_wf hwf _) _) _) _ _
      have hcl : S.cl S.cv = -1 := by
        by_cases h : S.cl S.cv = -1
        · exact h
        · have := X.blk _ h; have := sz_pos this.1 this.2.1; omega
      have gz : S.gn S.cv = 0 := X.gnz _ (Int.le_refl _)
      have ecl : updI S.cl S.cv c S.cv = c := if_pos rfl
      have dst : ∀ h, D.stF h = A.stF h := fun h => by rw [← hD]; exact stF_slots rfl h
      obtain ⟨v1, ⟨o1, o2, o3, o4⟩, v2, v3, v4, v5⟩ := Z.bear dwf (by omega) (b := S.cv) (c := c) ecl (by omega) (fun k hk => by
        have := X.chc k _ hk; have := X.F.rg k (by intro e; rw [e] at hk; cases hk); omega) (fun h hh e => by
        rw [dst] at hh
        have := (X.act h hh).1; rw [e, hcl] at this; have := (opC_nat h).1; omega)
      have bl := bear_last Z (by omega) (who := who) (j := w) (y := y) (b := S.cv) (c := c) ⟨by omega, by omega⟩ ecl (by omega) v2
      dsimp only at v1 v2 v3 v4 v5 bl o1 o2 o3 o4
      rw [gz] at v1 v2 v3 v4 v5 bl o1 o2 o3 o4
      rw [if_pos rfl] at v3
      have e1 : (0 : Int) + 1 = 1 := rfl
      rw [e1] at v1 v2 v3 v4 v5 bl o1 o2 o3 o4
      have hn0 : packF S.cv 1 c ≠ 0 := fun e => by rw [e] at o2; revert o2; decide
      have okg : (D.later 1).rawOk (p.gens + S.cv / 8) := by
        refine ⟨by omega, ?_⟩
        have hl : (D.raw.length : Int) = A.raw.length := by rw [← hD]; show ((A.raw.set _ _).length : Int) = _; rw [List.length_set]
        show _ < (D.raw.length : Int); rw [hl]; have := X.rl; omega
      have off1 : Off p.carved (w + 1 + 1 + 0) A D := by
        rw [← hD]
        exact (((Off.later hwf w).trans (Off.later (later_wf hwf _) 1)).trans (Off.later (later_wf (later_wf hwf _) _) 1)).trans (Off.setR (later_wf (later_wf (later_wf hwf _) _) _) okc (Int.le_refl _))
      have off2 := (off1.trans (Off.later dwf 1)).trans (Off.setR (c := p.carved) (v := 1) (later_wf dwf 1) okg (by omega))
      have off3 := off2.trans (Off.bornF (c := p.carved) off2.wf (by rw [off2.fr]; exact X.fr) (k := packF S.cv 1 c) v2.2.1)
      have run := (a2.trans cp).run bl
      rw [← e0] at run
      refine ⟨_, _, _, _, ⟨run, ?_, ?_, v3, fun k => ?_, ?_, ?_, by omega, fun _ => ⟨o3, o4, ?_⟩, fun _ => by omega⟩⟩
      · exact Gives.carve a1 hf
      · have en : ((w.toNat + 2 + 1 : Nat) : Int) = w + 1 + 1 + 0 + 1 + 0 + 0 := by omega
        rw [en]; exact off3
      · dsimp only
        rw [v4]
        by_cases e : k = packF S.cv 1 c
        · rw [if_pos e, if_pos ⟨hn0, e⟩]
        · rw [if_neg e, if_neg (fun h => e h.2)]; exact dst k
      · dsimp only
        rw [v5, if_pos hn0]
        have : D.nL = A.nL := by rw [← hD]; rfl
        rw [this]
      · have h1 := (bornF_counts ((D.later 1).setR (p.gens + S.cv / 8).toNat 1) off2.wf (packF S.cv 1 c)).2.2.2
        rw [h1]
        show D.nR = _
        rw [← hD]; rfl
      · dsimp only
        by_cases z : A.stF (packF S.cv 1 c) = 0
        · exact z
        · have := (X.act _ z).1
          rw [o1, hcl, o3] at this; omega
    · have cn := carve_no Y yu (who := who) (j := w) (y := y) hc ⟨by omega, by omega⟩ hf
      have run := a2.run cn
      rw [← e0] at run
      have ew : (A.later w).later 1 = A.later (w + 1) := by unfold Ar.later; simp only [Ar.mk.injEq, true_and]; omega
      rw [ew] at run
      refine ⟨_, _, _, S, ⟨run, .none a1 hf, ?_, X.later (by omega), fun k => ?_, ?_, rfl, by omega, fun h => (h rfl).elim, fun h => (h rfl).elim⟩⟩
      · have en : ((w.toNat + 1 : Nat) : Int) = w + 1 := by omega
        rw [en]; exact Off.later hwf _
      · rw [if_neg (fun h => h.1 rfl)]; exact stF_slots rfl k
      · rw [if_neg (fun h => h rfl), Int.add_zero]; rfl
  · -- out of a list
    have Y : SL (A.later i) p w m S := X.later (by omega)
    have yu : (A.later i).uses ≤ 1000000000 := by show A.uses + i ≤ _; omega
    have Z := Y.pop yu a2
    have o1k := X.F.hdOk a3 a4
    have dwf := popped_wf (later_wf hwf i) k (4 * w + b / 8)
    have dus : ((A.later i).popped k (4 * w + b / 8)).uses = A.uses + i + 3 := rfl
    have dst : ∀ h, ((A.later i).popped k (4 * w + b / 8)).stF h = A.stF h := fun h => stF_slots rfl h
    have dnl : ((A.later i).popped k (4 * w + b / 8)).nL = A.nL := rfl
    have dnr : ((A.later i).popped k (4 * w + b / 8)).nR = A.nR := rfl
    have drl : (((A.later i).popped k (4 * w + b / 8)).raw.length : Int) = A.raw.length := by unfold Ar.popped Ar.later; simp
    have off1 : Off p.carved (i + 3) A ((A.later i).popped k (4 * w + b / 8)) := (Off.later hwf i).trans (Off.popped (later_wf hwf i) (show (A.later i).rawOk k from o1k) (by omega))
    generalize hD : (A.later i).popped k (4 * w + b / 8) = D at *
    have hcb : S.cl b = c := by have := X.chc k b (by rw [a2]; simp); omega
    have hch : ∀ j, b ∉ upd S.ch k l j := fun j hj => by
      unfold upd at hj
      split at hj
      · have := X.F.nd k; rw [a2] at this; exact (List.nodup_cons.1 this).1 hj
      · rename_i hne
        exact hne (X.F.dj j k b hj (by rw [a2]; simp))
    have hact : ∀ h, D.stF h ≠ 0 → opB h ≠ b := fun h hh e => by
      rw [dst] at hh
      exact (X.act h hh).2 k (by rw [e, a2]; simp)
    obtain ⟨v1, ⟨o1, o2, o3, o4⟩, v2, v3, v4, v5⟩ := Z.bear dwf (by omega) (b := b) (c := c) hcb (by omega) hch hact
    have bl := bear_last Z (by omega) (who := who) (j := i + 1) (y := y) (b := b) (c := c) ⟨by omega, by omega⟩ hcb (by omega) v2
    dsimp only at v1 v2 v3 v4 v5 bl o1 o2 o3 o4
    have gb := X.gnb b
    have hn0 : packF b (S.gn b + 1) c ≠ 0 := fun e => by
      rw [e] at o2
      have z : opG 0 = 0 := by decide
      rw [z] at o2; omega
    have blk := X.blk b (by rw [hcb]; omega)
    rw [hcb] at blk
    have okg : (D.later 1).rawOk (p.gens + b / 8) := by
      refine ⟨by omega, ?_⟩
      show _ < (D.raw.length : Int); rw [drl]; have := X.rl; omega
    have off2 := (off1.trans (Off.later dwf 1)).trans (Off.setR (c := p.carved) (v := S.gn b + 1) (later_wf dwf 1) okg (by omega))
    have off3 := off2.trans (Off.bornF (c := p.carved) off2.wf (by rw [off2.fr]; exact X.fr) (k := packF b (S.gn b + 1) c) v2.2.1)
    have run := a9.run bl
    rw [← e0] at run
    refine ⟨_, _, _, _, ⟨run, ?_, ?_, v3, fun j => ?_, ?_, ?_, by omega, fun _ => ⟨o3, o4, ?_⟩, fun h => (h rfl).elim⟩⟩
    · exact Gives.list a1 a2 a3 a4 a5
    · have en : ((n + 1 : Nat) : Int) = i + 3 + 1 + 0 + 0 := by omega
      rw [en]; exact off3
    · dsimp only
      rw [v4]
      by_cases e : j = packF b (S.gn b + 1) c
      · rw [if_pos e, if_pos ⟨hn0, e⟩]
      · rw [if_neg e, if_neg (fun h => e h.2)]; exact dst j
    · dsimp only
      rw [v5, if_pos hn0, dnl]
    · have h1 := (bornF_counts ((D.later 1).setR (p.gens + b / 8).toNat (S.gn b + 1)) off2.wf (packF b (S.gn b + 1) c)).2.2.2
      rw [h1]
      show D.nR = _
      rw [dnr]
    · dsimp only
      by_cases z : A.stF (packF b (S.gn b + 1) c) = 0
      · exact z
      · exact ((X.act _ z).2 k (by rw [o1, a2]; simp)).elim
end
section
variable {A B C : Ar} {p : Pl} {w m : Int} {S : Sg} {c : Int}
theorem Gives.or {who h : Int} {S' : Sg} (g : Gives S w m who c S' h) :
    (∃ k b l, S.ask w who c w.toNat 0 = some k ∧ S.ch k = b :: l ∧ 0 ≤ k ∧ k < 4 * w ∧ k % 4 = c ∧ S' = { S with ch := upd S.ch k l, gn := updI S.gn b (S.gn b + 1), nc := S.nc + (if S.gn b = 0 then sizeF c else 0) } ∧ h = packF b (S.gn b + 1) c) ∨
    (S.ask w who c w.toNat 0 = Option.none ∧ S.cv + sizeF c ≤ m ∧ S' = { S with cv := S.cv + sizeF c, cl := updI S.cl S.cv c, gn := updI S.gn S.cv 1, nc := S.nc + sizeF c } ∧ h = packF S.cv 1 c) ∨
    (S.ask w who c w.toNat 0 = Option.none ∧ ¬ S.cv + sizeF c ≤ m ∧ S' = S ∧ h = 0) := by
  cases g with
  | list h1 h2 h3 h4 h5 => exact .inl ⟨_, _, _, h1, h2, h3, h4, h5, rfl, rfl⟩
  | carve h1 h2 => exact .inr (.inl ⟨h1, h2, rfl, rfl⟩)
  | none h1 h2 => exact .inr (.inr ⟨h1, h2, rfl, rfl⟩)
theorem carve_name (X : SL A p w m S) (hc : 0 ≤ c ∧ c < 4) (hf : S.cv + sizeF c ≤ m) : opB (packF S.cv 1 c) = S.cv ∧ opG (packF S.cv 1 c) = 1 ∧ opC (packF S.cv 1 c) = c ∧ openOk (packF S.cv 1 c) = true ∧ packF S.cv 1 c ≠ 0 := by
  have sz := sz_pos hc.1 hc.2
  have cvb := X.cvb
  have mb := X.mb
  obtain ⟨o1, o2, o3, o4⟩ := opB_pack (b := S.cv) (g := 1) (c := c) ⟨by omega, by omega, by omega, by omega, by omega, by omega⟩
  refine ⟨o1, o2, o3, o4, fun e => ?_⟩
  rw [e] at o2; revert o2; decide
theorem list_name (X : SL A p w m S) (hu : A.uses ≤ 1000000000) {k b : Int} {l : List Int} (hk : S.ch k = b :: l) (hc : k % 4 = c) : opB (packF b (S.gn b + 1) c) = b ∧ opG (packF b (S.gn b + 1) c) = S.gn b + 1 ∧ opC (packF b (S.gn b + 1) c) = c ∧ openOk (packF b (S.gn b + 1) c) = true ∧ packF b (S.gn b + 1) c ≠ 0 := by
  have gb := X.gnb b
  have hcb := X.chc k b (by rw [hk]; simp)
  have blk := X.blk b (by omega)
  have cvb := X.cvb
  have mb := X.mb
  have sz := sz_pos blk.1 blk.2.1
  obtain ⟨o1, o2, o3, o4⟩ := opB_pack (b := b) (g := S.gn b + 1) (c := c) ⟨by omega, by omega, by omega, by omega, by omega, by omega⟩
  refine ⟨o1, o2, o3, o4, fun e => ?_⟩
  rw [e] at o2
  have z : opG 0 = 0 := by decide
  rw [z] at o2; omega
structure Freed (A : Ar) (p : Pl) (w m : Int) (S : Sg) (who h : Int) (x' : Fe) (A' : Ar) : Prop where
  run : mFe.Runs 3 (newFe p who h) A x' A'
  off : Off p.carved 3 A A'
  sl : SL A' p w m { S with ch := upd S.ch (4 * who + opC h) (opB h :: S.ch (4 * who + opC h)) }
  st : ∀ k, A'.stF k = if k = h then 0 else A.stF k
  nL : A'.nL = A.nL
  nR : A'.nR = A.nR - sizeF (opC h)
theorem free_solo (X : SL A p w m S) (hwf : A.wf) (hu : A.uses ≤ 1000000) {who h : Int} (wh : 0 ≤ who ∧ who < w) (hs : A.stF h = 2) (cn : -(64 * (A.uses + 1)) ≤ A.nR - sizeF (opC h)) : ∃ x' A', Freed A p w m S who h x' A' := by
  obtain ⟨p1, p2, p3, p4, p5⟩ := X.places
  have wb := X.wb
  have mb := X.mb
  have us := X.F.us
  have cvb := X.cvb
  have hC := opC_nat h
  obtain ⟨a1, a2⟩ := X.act h (by rw [hs]; decide)
  obtain ⟨b1, b2, b3, b4, b5⟩ := X.blk (opB h) (by omega)
  have sz := sz_pos b1 b2
  have hh := headF_eq (p := p) (w := who) (c := opC h) p1 ⟨wh.1, by omega⟩ hC
  have hb : 0 ≤ opB h ∧ opB h % 8 = 0 ∧ opB h / 8 < (m + 7) / 8 := ⟨b3, b4, by omega⟩
  generalize hk : 4 * who + opC h = k at *
  have k0 : 0 ≤ k := by omega
  have k1 : k < 4 * w := by omega
  have o1 : A.rawOk k := X.F.hdOk k0 k1
  have o2 := X.F.lkOk hb.1 hb.2.2
  have nb := X.F.nb
  have td : Int.tdiv (opB h) 8 = opB h / 8 := Int.tdiv_eq_ediv_of_nonneg hb.1
  have el : w64 (p.links + w64 (Int.tdiv (opB h) 8)) = 4 * w + opB h / 8 := by rw [td, p2, w64_in (x := opB h / 8) (by omega) (by omega), w64_in (by omega) (by omega)]
  have t1 : w64 (A.uses + 1) = A.uses + 1 := w64_in (by omega) (by omega)
  have t2 : w64 (A.uses + 1 + 1) = A.uses + 1 + 1 := w64_in (by omega) (by omega)
  have t3 : w64 (A.uses + 1 + 1 + 1) = A.uses + 1 + 1 + 1 := w64_in (by omega) (by omega)
  have e1 := Pu.s0 (A := A) (x := ⟨p, k, 0, 0, opB h⟩) rfl o1
  have e2 := Pu.s1 (A := A.tick) (x := ⟨p, k, A.rawF k, 1, opB h⟩) rfl el o2
  have o3 : (A.tick.tick.setR (4 * w + opB h / 8).toNat (iand (A.rawF k) 131071)).rawOk k := by
    unfold Ar.rawOk at *; show 0 ≤ k ∧ k < ((A.raw.set _ _).length : Int); rw [List.length_set]; exact o1
  have hhd : (A.tick.tick.setR (4 * w + opB h / 8).toNat (iand (A.rawF k) 131071)).rawF k = A.rawF k := by
    rw [rawF_setR (A := A.tick.tick) o2, if_neg (by omega)]; rfl
  have e3 := Pu.s2y (A := A.tick.tick.setR (4 * w + opB h / 8).toNat (iand (A.rawF k) 131071)) (x := ⟨p, k, A.rawF k, 2, opB h⟩) rfl o3 hhd
  have ef : (A.tick.tick.setR (4 * w + opB h / 8).toNat (iand (A.rawF k) 131071)).tick.setR k.toNat (nextF (A.rawF k) (w64 (w64 (Int.tdiv (opB h) 8) + 1))) = A.pushed k (4 * w + opB h / 8) (opB h) := by
    unfold Ar.pushed Ar.setR Ar.tick
    simp only [t1, t2, t3, Ar.mk.injEq, true_and]
    omega
  have c1 : (Pu.mk p k 0 0 (opB h)).stepB A = false := by rw [← Pu.fin, (Prod.mk.inj e1).1]; rfl
  have c2 : (Pu.mk p k (A.rawF k) 1 (opB h)).stepB A.tick = false := by rw [← Pu.fin, (Prod.mk.inj e2).1]; rfl
  have c3 : (Pu.mk p k (A.rawF k) 2 (opB h)).stepB (A.tick.tick.setR (4 * w + opB h / 8).toNat (iand (A.rawF k) 131071)) = true := by rw [← Pu.fin, (Prod.mk.inj e3).1]; rfl
  have ne : newFe p who h = ⟨h, false, ⟨p, k, 0, 0, opB h⟩⟩ := by unfold newFe; rw [hh]
  have s1 : Fe.step ⟨h, false, ⟨p, k, 0, 0, opB h⟩⟩ A = (⟨h, false, ⟨p, k, A.rawF k, 1, opB h⟩⟩, A.tick) := by
    unfold Fe.step
    simp only [c1, Bool.false_eq_true, if_false]
    rw [(Prod.mk.inj e1).1, (Prod.mk.inj e1).2]
  have s2 : Fe.step ⟨h, false, ⟨p, k, A.rawF k, 1, opB h⟩⟩ A.tick = (⟨h, false, ⟨p, k, A.rawF k, 2, opB h⟩⟩, A.tick.tick.setR (4 * w + opB h / 8).toNat (iand (A.rawF k) 131071)) := by
    unfold Fe.step
    simp only [c2, Bool.false_eq_true, if_false]
    rw [(Prod.mk.inj e2).1, (Prod.mk.inj e2).2]
  have s3 : Fe.step ⟨h, false, ⟨p, k, A.rawF k, 2, opB h⟩⟩ (A.tick.tick.setR (4 * w + opB h / 8).toNat (iand (A.rawF k) 131071)) = (⟨h, true, ⟨p, k, A.rawF k, 3, opB h⟩⟩, (A.pushed k (4 * w + opB h / 8) (opB h)).diedF h) := by
    unfold Fe.step
    simp only [c3, Bool.false_eq_true, if_false, if_true]
    rw [(Prod.mk.inj e3).1, (Prod.mk.inj e3).2, ef]
  obtain ⟨g1, g2, g3, g4⟩ := X.give hwf (by omega) hs wh.1 wh.2 cn
  rw [hk] at g1 g2 g3 g4
  have off : Off p.carved 3 A ((A.pushed k (4 * w + opB h / 8) (opB h)).diedF h) := by
    have := (Off.pushed (c := p.carved) (b := opB h) hwf o1 o2 (by omega) (by omega)).trans (Off.diedF (c := p.carved) (pushed_wf hwf k (4 * w + opB h / 8) (opB h)) h)
    exact this
  have r : mFe.Runs (2 + 1) ⟨h, false, ⟨p, k, 0, 0, opB h⟩⟩ A ⟨h, true, ⟨p, k, A.rawF k, 3, opB h⟩⟩ ((A.pushed k (4 * w + opB h / 8) (opB h)).diedF h) := by
    refine Mch.Path.run (X := mFe) (k := 2) (n := 1) (.cons trivial s1 (Int.le_refl _) rfl (.cons trivial s2 (Int.le_refl _) rfl .nil)) (Mch.Runs.last trivial s3 ?_ rfl)
    rw [off.us]
    show A.uses + 3 ≤ w64 (w64 (w64 (A.uses + 1) + 1) + 1)
    rw [t1, t2, t3]; omega
  rw [← ne] at r
  exact ⟨_, _, ⟨r, off, by rw [hk]; exact g1, g2, g3, g4⟩⟩
end
theorem MchR.Path.step {M J : Type} {X : MchR M J} {n : Nat} {m m1 m' : M} {A A1 A' : Ar} (h1 : X.inv m A) (h2 : X.step m A = (m1, A1)) (h3 : A1.uses ≤ w64 (A.uses + 1)) (h4 : X.fin m1 = false) (h5 : X.Path n m1 A1 m' A') : X.Path (n + 1) m A m' A' := .cons h1 h2 h3 h4 h5
structure Sc.base (m : Sc) : Prop where
  tw : 1 ≤ m.tw ∧ m.tw ≤ 1000
  wd : m.word = 2 * m.tw
  ll : m.l.length ≤ 1000
  so : m.sorted = true
abbrev Sc.on (m : Sc) (fs : List Fe) : Sc := { m with frees := fs, ended := decide (fs = []) }
theorem sc_free {m : Sc} (hm : m.base) {fs : List Fe} : ∀ {n : Nat} {f f' : Fe} {A A' : Ar}, mFe.Runs n f A f' A' → f.done = false →
    (fs ≠ [] → mSc.Path n (m.on (f :: fs)) A (m.on fs) A') ∧ (fs = [] → mSc.Runs n (m.on [f]) A (m.on []) A') := by
  intro n f f' A A' h
  have iv : ∀ (f : Fe) (A : Ar), mSc.inv (m.on (f :: fs)) A := fun f A => ⟨hm.tw, by show 0 ≤ m.word; have := hm.wd; have := hm.tw; omega, hm.ll, fun _ => .inr ⟨by show 2 * m.tw ≤ m.word; have := hm.wd; omega, hm.so, by simp⟩⟩
  have nw : ¬ m.word < 2 * m.tw := by have := hm.wd; omega
  have st1 : ∀ {f : Fe} {A : Ar}, (f.step A).1.done = true → mSc.step (m.on (f :: fs)) A = (m.on fs, (f.step A).2) := fun {f A} hd => by
    show Sc.step (m.on (f :: fs)) A = _
    unfold Sc.step
    rw [if_neg (by simp), if_neg nw]
    dsimp only
    rw [if_pos hd]
  have st2 : ∀ {f : Fe} {A : Ar}, (f.step A).1.done = false → mSc.step (m.on (f :: fs)) A = (m.on ((f.step A).1 :: fs), (f.step A).2) := fun {f A} hd => by
    show Sc.step (m.on (f :: fs)) A = _
    unfold Sc.step
    rw [if_neg (by simp), if_neg nw]
    dsimp only
    rw [if_neg (by rw [hd]; simp)]
    simp
  induction h with
  | @one f A h1 h2 h3 =>
    intro hf
    have h3 : (f.step A).1.done = true := h3
    refine ⟨fun hn => .cons (iv f A) (st1 h3) h2 ?_ .nil, fun hn => ?_⟩
    · show decide (fs = []) = false; simpa using hn
    · subst hn
      exact .one (iv f A) (st1 h3) h2 rfl
  | @more n f A f' A' h1 h2 h3 h4 ih =>
    intro hf
    have h3 : (f.step A).1.done = false := h3
    obtain ⟨i1, i2⟩ := ih h3
    refine ⟨fun hn => .cons (iv f A) (st2 h3) h2 rfl (i1 hn), fun hn => ?_⟩
    have := i2 hn
    subst hn
    exact .more (iv f A) (st2 h3) h2 rfl this
structure Swept (A : Ar) (p : Pl) (w m : Int) (S : Sg) (who : Int) (hs : List Int) (A' : Ar) (S' : Sg) : Prop where
  off : Off p.carved (3 * hs.length) A A'
  sl : SL A' p w m S'
  st : ∀ k, A'.stF k = if k ∈ hs then 0 else A.stF k
  nL : A'.nL = A.nL
  nR : A'.nR = A.nR - 8 * hs.length
  ch : S'.ch (4 * who) = (hs.map opB).reverse ++ S.ch (4 * who)
  nc : S'.nc = S.nc
def seenN (A : Ar) (ta : Int) : Nat → List (Int × Bool)
  | 0 => []
  | n + 1 => alPut (seenN A ta n) (A.rawF (ta + n)) true
theorem seenN_in (A : Ar) (ta h : Int) : ∀ n, inS (seenN A ta n) h = true ↔ ∃ i : Nat, i < n ∧ A.rawF (ta + i) = h
  | 0 => by constructor
            · intro h; cases h
            · rintro ⟨i, h, _⟩; omega
  | n + 1 => by
    have ih := seenN_in A ta h n
    unfold inS at ih ⊢
    unfold seenN
    rw [alGet_put]
    by_cases e : h = A.rawF (ta + n)
    · rw [if_pos e]
      refine ⟨fun _ => ⟨n, by omega, e.symm⟩, fun _ => rfl⟩
    · rw [if_neg e, ih]
      constructor
      · rintro ⟨i, h1, h2⟩; exact ⟨i, by omega, h2⟩
      · rintro ⟨i, h1, h2⟩
        by_cases e2 : i = n
        · subst e2; exact (e h2.symm).elim
        · exact ⟨i, by omega, h2⟩
section
variable {A : Ar} {p : Pl} {w m : Int} {S : Sg}
def scN (A : Ar) (tw ta : Int) (p : Pl) (who : Int) (xs : List Int) (n : Nat) : Sc := { newSc tw ta p who xs with seen := seenN A ta n, word := n }
theorem tick_later {A : Ar} {i : Int} (h : A.rawOk i) (h0 : 0 ≤ A.uses) (h1 : A.uses ≤ 1000000000) : A.touchR i = A.later 1 := by
  rw [touchR_yes h]
  unfold Ar.tick Ar.later
  rw [w64_in (by omega) (by omega)]
theorem later_add (A : Ar) (a b : Int) : (A.later a).later b = A.later (a + b) := by unfold Ar.later; dsimp only; rw [Int.add_assoc]
theorem words_path {tw ta who : Int} {xs : List Int} (tb : 1 ≤ tw ∧ tw ≤ 1000) (ll : xs.length ≤ 1000) (h0 : 0 ≤ ta) (h1 : ta + 2 * tw ≤ A.raw.length) (h2 : (A.raw.length : Int) ≤ 1000000) (u0 : 0 ≤ A.uses) (u1 : A.uses ≤ 1000000) :
    ∀ n : Nat, (n : Int) < 2 * tw → mSc.Path n (newSc tw ta p who xs) A (scN A tw ta p who xs n) (A.later n)
  | 0, _ => by rw [show ((0 : Nat) : Int) = 0 from rfl, later0]; exact .nil
  | n + 1, hn => by
    have e : w64 (ta + n) = ta + n := w64_in (by omega) (by omega)
    have e2 : w64 (A.uses + n + 1) = A.uses + n + 1 := w64_in (by omega) (by omega)
    refine (words_path tb ll h0 h1 h2 u0 u1 n (by omega)).trans (.cons (x1 := scN A tw ta p who xs (n + 1)) (D1 := A.later ((n + 1 : Nat) : Int)) ⟨tb, by show (0 : Int) ≤ n; omega, ll, fun _ => .inl ⟨by show (n : Int) < 2 * tw; omega, rfl, rfl, rfl⟩⟩ ?_ ?_ rfl .nil)
    · show Sc.step (scN A tw ta p who xs n) (A.later n) = _
      unfold Sc.step
      rw [if_neg (show ¬ (scN A tw ta p who xs n).ended = true by intro h; cases h)]
      have en : (scN A tw ta p who xs n).word = n := rfl
      have et : (scN A tw ta p who xs n).ta = ta := rfl
      have ew : (scN A tw ta p who xs n).tw = tw := rfl
      rw [en, et, ew, if_pos (show (n : Int) < 2 * tw by omega), if_neg (by omega), e, tick_later (A := A.later n) (i := ta + n) ⟨by omega, by show ta + n < (A.raw.length : Int); omega⟩ (by show 0 ≤ A.uses + n; omega) (by show A.uses + n ≤ _; omega), later_add]
      unfold Sc.word1
      rw [en, et, e]
      rfl
    · show A.uses + ((n + 1 : Nat) : Int) ≤ w64 (A.uses + n + 1)
      rw [e2]; omega
def gone (A : Ar) (tw ta : Int) (xs : List Int) : List Int := xs.filter fun h => !inS (seenN A ta (2 * tw).toNat) h
def lft (A : Ar) (tw ta : Int) (xs : List Int) : List Int := xs.filter (inS (seenN A ta (2 * tw).toNat))
theorem Swept.refl {who : Int} (X : SL A p w m S) (h : A.wf) : Swept A p w m S who [] A S := ⟨.refl h, X, fun k => by rw [if_neg (by simp)], rfl, by simp, by simp, rfl⟩
end
section
variable {A B : Ar} {p : Pl} {w m : Int} {S : Sg} {I : List Nat} {L : Hands} {R : Value → Heap → Prop} {G : Heap} {l : Bl}
structure OutS (A : Ar) (p : Pl) (w m : Int) (S : Sg) (i v : Int) (B : Ar) : Prop where
  sl : SL B p w m S
  st : ∀ h, B.stF h = A.stF h
  nR : B.nR = A.nR
  nL : B.nL = A.nL
  fa : B.fault = A.fault
  us : B.uses = A.uses + 1
  rl : B.raw.length = A.raw.length
  rf : ∀ j, B.rawF j = if j = i then v else A.rawF j
theorem outS (X : SL A p w m S) {i v : Int} (h : p.carved < i ∧ i < A.raw.length) (hu : A.uses ≤ 1000000000) : OutS A p w m S i v (A.storeR i v) := by
  obtain ⟨p1, p2, p3, p4, p5⟩ := X.places
  have wb := X.wb
  have mb := X.mb
  have us := X.F.us
  have ok : A.rawOk i := ⟨by omega, h.2⟩
  have e : A.storeR i v = (A.later 1).setR i.toNat v := by
    unfold Ar.storeR
    rw [if_pos ok]
    have : A.tick = A.later 1 := by unfold Ar.tick Ar.later; rw [w64_in (by omega) (by omega)]
    rw [this]
  rw [e]
  have rf : ∀ j, ((A.later 1).setR i.toNat v).rawF j = if j = i then v else A.rawF j := fun j => rawF_setR (A := A.later 1) ok
  refine ⟨X.congr (fun j h0 h1 => by rw [rf, if_neg (by omega)]) (by show (A.raw.set _ _).length = _; rw [List.length_set]) (by show A.uses ≤ A.uses + 1; omega) rfl (fun h => stF_slots rfl h) rfl rfl rfl rfl rfl rfl rfl rfl, fun h => stF_slots rfl h, rfl, rfl, rfl, rfl, by show (A.raw.set _ _).length = _; rw [List.length_set], rf⟩
end
abbrev Tn.on (m : Tn) (fs : List Fe) : Tn := { m with frees := fs, ph := if fs = [] then 4 else 3 }
theorem tn_free {m : Tn} (ll : m.l.length ≤ 1000) {fs : List Fe} : ∀ {n : Nat} {f f' : Fe} {A A' : Ar}, mFe.Runs n f A f' A' → f.done = false →
    (fs ≠ [] → mTn.Path n (m.on (f :: fs)) A (m.on fs) A') ∧ (fs = [] → mTn.Runs n (m.on [f]) A (m.on []) A') := by
  intro n f f' A A' h
  have p3 : ∀ (f : Fe), (m.on (f :: fs)).ph = 3 := fun f => by
    show (if (f :: fs) = [] then 4 else 3) = 3
    rw [if_neg (List.cons_ne_nil _ _)]
  have iv : ∀ (f : Fe) (A : Ar), mTn.inv (m.on (f :: fs)) A := fun f A => ⟨ll, fun h => by rw [p3] at h; omega, fun _ => by simp⟩
  have st : ∀ (f : Fe) (A : Ar), mTn.step (m.on (f :: fs)) A = if (f.step A).1.done = true then (m.on fs, (f.step A).2) else (m.on ((f.step A).1 :: fs), (f.step A).2) := fun f A => by
    show Tn.step (m.on (f :: fs)) A = _
    unfold Tn.step
    rw [if_neg (by rw [p3]; decide), if_neg (by rw [p3]; decide), if_neg (by rw [p3]; decide), if_pos (p3 f)]
    dsimp only
    split
    · rfl
    · simp
  induction h with
  | @one f A h1 h2 h3 =>
    intro hf
    have h3 : (f.step A).1.done = true := h3
    have st1 := st f A
    rw [if_pos h3] at st1
    refine ⟨fun hn => .cons (iv f A) st1 h2 ?_ .nil, fun hn => ?_⟩
    · show decide (4 ≤ (m.on fs).ph) = false
      rw [show (m.on fs).ph = 3 from if_neg hn]; rfl
    · subst hn
      exact .one (iv f A) st1 h2 rfl
  | @more n f A f' A' h1 h2 h3 h4 ih =>
    intro hf
    have h3 : (f.step A).1.done = false := h3
    obtain ⟨i1, i2⟩ := ih h3
    have st1 := st f A
    rw [if_neg (by rw [h3]; simp)] at st1
    have hf2 : mTn.fin (m.on ((f.step A).1 :: fs)) = false := by
      show decide (4 ≤ (m.on ((f.step A).1 :: fs)).ph) = false
      rw [p3]; rfl
    refine ⟨fun hn => .cons (iv f A) st1 h2 hf2 (i1 hn), fun hn => ?_⟩
    have := i2 hn
    subst hn
    exact .more (iv f A) st1 h2 hf2 this
def tgone (e : Int) (xs : List (Int × Int)) : List Int := (xs.filter (due e)).map Prod.fst
def tleft (e : Int) (xs : List (Int × Int)) : List (Int × Int) := xs.filter fun x => !due e x
section
variable {A : Ar} {p : Pl} {w m : Int} {S : Sg}
theorem tn_sorted (t : Tn) : t.sort = Tn.on { t with left := tleft t.e t.l } ((tgone t.e t.l).map (newFe t.pl t.work)) := by
  show Tn.mk _ _ _ _ _ _ _ (((t.l.take t.l.length).filter (due t.e)).map fun x => newFe t.pl t.work x.1) ((t.l.take t.l.length).filter fun x => !due t.e x) (if (((t.l.take t.l.length).filter (due t.e)).map fun x => newFe t.pl t.work x.1) = [] then 4 else 3) = _
  rw [List.take_length]
  have : ((t.l.filter (due t.e)).map fun x => newFe t.pl t.work x.1) = (tgone t.e t.l).map (newFe t.pl t.work) := by
    unfold tgone; rw [List.map_map]; rfl
  rw [this]; rfl
def tnN (tw ta : Int) (p : Pl) (who : Int) (xs : List (Int × Int)) (e : Int) (n : Nat) : Tn := ⟨tw, ta, p, who, e, n, xs, [], [], if (n : Int) = tw then 2 else 1⟩
theorem looks_path {tw ta who e : Int} {xs : List (Int × Int)} (tb : 1 ≤ tw ∧ tw ≤ 1000) (ll : xs.length ≤ 1000) (h0 : 0 ≤ ta) (h1 : ta + 1 + tw ≤ A.raw.length) (h2 : (A.raw.length : Int) ≤ 1000000) (u0 : 0 ≤ A.uses) (u1 : A.uses ≤ 1000000)
    (he : A.rawF ta = e) (eb : 0 ≤ e ∧ e ≤ 1000000) :
    ∀ n : Nat, (n : Int) ≤ tw → (∀ i : Nat, i < n → A.rawF (ta + 1 + i) = 0 ∨ A.rawF (ta + 1 + i) = e + 1) → mTn.Path (1 + n) (newTn tw ta p who xs) A (tnN tw ta p who xs e n) (A.later (1 + n))
  | 0, _, _ => by
    have e2 : w64 (A.uses + 1) = A.uses + 1 := w64_in (by omega) (by omega)
    refine .cons (x1 := tnN tw ta p who xs e 0) (D1 := A.later (1 + (0 : Nat))) ⟨ll, fun _ => ⟨rfl, rfl⟩, fun h => by cases h⟩ ?_ ?_ ?_ .nil
    · show Tn.step (newTn tw ta p who xs) A = _
      unfold Tn.step
      rw [if_pos (show (newTn tw ta p who xs).ph = 0 from rfl)]
      have et : (newTn tw ta p who xs).ta = ta := rfl
      have ew : (newTn tw ta p who xs).tw = tw := rfl
      rw [et, ew, he, tick_later ⟨by omega, by omega⟩ u0 (by omega), if_neg (by omega)]
      unfold tnN
      rw [if_neg (by omega)]; rfl
    · show A.uses + (1 + 0) ≤ _; rw [e2]; omega
    · show decide (4 ≤ (tnN tw ta p who xs e 0).ph) = false
      unfold tnN; rw [if_neg (by omega)]; rfl
  | n + 1, hn, hw => by
    have ih := looks_path (who := who) (xs := xs) tb ll h0 h1 h2 u0 u1 he eb n (by omega) fun i hi => hw i (by omega)
    have hv := hw n (by omega)
    have ew : ewd ta n = ta + 1 + n := ewd_eq ⟨by omega, by omega, by omega, by omega⟩
    have e1 : w64 ((n : Int) + 1) = n + 1 := w64_in (by omega) (by omega)
    have e2 : w64 (A.uses + (1 + n) + 1) = A.uses + (1 + n) + 1 := w64_in (by omega) (by omega)
    have e3 : w64 (e + 1) = e + 1 := w64_in (by omega) (by omega)
    have p1 : (tnN tw ta p who xs e n).ph = 1 := if_neg (by omega)
    rw [show 1 + (n + 1) = (1 + n) + 1 by omega]
    refine ih.trans (.cons (x1 := tnN tw ta p who xs e (n + 1)) (D1 := A.later (1 + ((n + 1 : Nat) : Int))) ⟨ll, fun _ => ⟨rfl, rfl⟩, fun h => by rw [p1] at h; omega⟩ ?_ ?_ ?_ .nil)
    · show Tn.step (tnN tw ta p who xs e n) (A.later (1 + n)) = _
      unfold Tn.step
      have et : (tnN tw ta p who xs e n).ta = ta := rfl
      have en : (tnN tw ta p who xs e n).word = n := rfl
      have etw : (tnN tw ta p who xs e n).tw = tw := rfl
      have ee : (tnN tw ta p who xs e n).e = e := rfl
      rw [if_neg (by rw [p1]; decide), if_pos p1, et, en, etw, ee, ew, e1, e3]
      have er : (A.later (1 + n)).rawF (ta + 1 + n) = A.rawF (ta + 1 + n) := rfl
      rw [er, if_neg (fun h => by rcases hv with h' | h'; exact h.1 h'; exact h.2 h'), tick_later (A := A.later (1 + n)) ⟨by omega, by show ta + 1 + (n : Int) < (A.raw.length : Int); omega⟩ (by show 0 ≤ A.uses + _; omega) (by show A.uses + _ ≤ _; omega), later_add]
      refine Prod.ext rfl ?_
      show A.later (1 + (n : Int) + 1) = A.later (1 + ((n + 1 : Nat) : Int))
      rw [show 1 + (n : Int) + 1 = 1 + ((n + 1 : Nat) : Int) by omega]
    · show A.uses + (1 + ((n + 1 : Nat) : Int)) ≤ w64 (A.uses + (1 + n) + 1)
      rw [e2]; omega
    · show decide (4 ≤ (tnN tw ta p who xs e (n + 1)).ph) = false
      unfold tnN
      dsimp only
      split <;> rfl
theorem swapR_yes {i v x : Int} (o : A.rawOk i) (h : A.rawF i = v) : A.swapRb i v = true ∧ A.swapR i v x = A.storeR i x := by
  have h' : A.raw.getD i.toNat 0 = v := by rw [getD_rawF o]; exact h
  refine ⟨decide_eq_true ⟨o, h'⟩, ?_⟩
  unfold Ar.swapR Ar.storeR
  rw [if_pos o, if_pos h', if_pos o]
theorem pin_solo {tw ta who e : Int} (h0 : 0 ≤ ta) (b : 0 ≤ who ∧ who ≤ 1000) (h1 : ta + 1 + who < A.raw.length) (h2 : (A.raw.length : Int) ≤ 1000000) (u0 : 0 ≤ A.uses) (u1 : A.uses ≤ 900000) (he : A.rawF ta = e) (eb : 0 ≤ e ∧ e ≤ 1000000) :
    ∃ m', mPn.Runs 3 (newPn tw ta who) A m' (((A.later 1).storeR (ta + 1 + who) (e + 1)).later 1) := by
  have ew : ewd ta who = ta + 1 + who := ewd_eq ⟨by omega, by omega, by omega, by omega⟩
  have e3 : w64 (e + 1) = e + 1 := w64_in (by omega) (by omega)
  have okT : A.rawOk ta := ⟨h0, by omega⟩
  have okW : (A.later 1).rawOk (ta + 1 + who) := ⟨by omega, h1⟩
  have s0 : mPn.step (newPn tw ta who) A = (⟨tw, ta, who, e, 1⟩, A.later 1) := by
    show Pn.step (newPn tw ta who) A = _
    unfold Pn.step
    rw [if_pos (show (newPn tw ta who).ph = 0 from rfl), show (newPn tw ta who).ta = ta from rfl, he, tick_later okT u0 (by omega)]; rfl
  obtain ⟨B, hB⟩ : ∃ B, B = (A.later 1).storeR (ta + 1 + who) (e + 1) := ⟨_, rfl⟩
  have bs : B = (A.later 2).setR (ta + 1 + who).toNat (e + 1) := by
    rw [hB]; unfold Ar.storeR
    rw [if_pos okW]
    have : (A.later 1).tick = A.later 2 := by unfold Ar.tick Ar.later; dsimp only; rw [w64_in (by omega) (by omega), Int.add_assoc]; rfl
    rw [this]
  have bu : B.uses = A.uses + 2 := by rw [bs]; rfl
  have bl : B.raw.length = A.raw.length := by rw [bs]; show (A.raw.set _ _).length = _; rw [List.length_set]
  have be : B.rawF ta = e := by
    rw [bs, rawF_setR (A := A.later 2) (i := ta + 1 + who) okW, if_neg (by omega)]; exact he
  have s1 : mPn.step ⟨tw, ta, who, e, 1⟩ (A.later 1) = (⟨tw, ta, who, e, 2⟩, B) := by
    show Pn.step ⟨tw, ta, who, e, 1⟩ (A.later 1) = _
    unfold Pn.step
    rw [if_neg (show ¬ 1 = 0 by decide), if_pos rfl]
    dsimp only
    rw [ew, e3, ← hB]
  have s2 : mPn.step ⟨tw, ta, who, e, 2⟩ B = (⟨tw, ta, who, e, 3⟩, B.later 1) := by
    show Pn.step ⟨tw, ta, who, e, 2⟩ B = _
    unfold Pn.step
    rw [if_neg (show ¬ 2 = 0 by decide), if_neg (show ¬ 2 = 1 by decide), if_pos rfl]
    dsimp only
    rw [be, if_pos rfl, tick_later ⟨h0, by rw [bl]; omega⟩ (by omega) (by omega)]
  refine ⟨⟨tw, ta, who, e, 3⟩, ?_⟩
  rw [← hB]
  have r2 : mPn.Runs 1 ⟨tw, ta, who, e, 2⟩ B ⟨tw, ta, who, e, 3⟩ (B.later 1) := Mch.Runs.last (by show 2 ≤ 3; omega) s2 (by show B.uses + 1 ≤ _; rw [bu, w64_in (by omega) (by omega)]; omega) rfl
  have p1 : mPn.Path 2 (newPn tw ta who) A ⟨tw, ta, who, e, 2⟩ B := .cons (by show 0 ≤ 3; omega) s0 (by show A.uses + 1 ≤ _; rw [w64_in (by omega) (by omega)]; omega) rfl
    (.cons (by show 1 ≤ 3; omega) s1 (by rw [bu]; show A.uses + 2 ≤ w64 (A.uses + 1 + 1); rw [w64_in (by omega) (by omega)]; omega) rfl .nil)
  exact p1.run r2
end
def plCells (p : Pl) : List Value := [.int .i64 p.work, .int .i64 p.heads, .int .i64 p.links, .int .i64 p.gens, .int .i64 p.carved]
theorem ea_some (a : Addr) : opS Tryz.prog (.binOp .eql ty_p_slab_Alloc (.tmp 0) (.const (.pointer none)) ty_p_slab_Alloc) ty_bool [(.pointer (some a))] = .pure (.value (.bool false)) := by kernel_rfl
section
variable {L : Hands} {R : Value → Heap → Prop} {H : Heap}
end
def updF {α : Type} (f : Nat → α) (w : Nat) (a : α) : Nat → α := fun j => if j = w then a else f j
theorem updF_same {α : Type} (f : Nat → α) (w : Nat) (a : α) : updF f w a w = a := if_pos rfl
theorem updF_ne {α : Type} (f : Nat → α) {w j : Nat} (a : α) (h : j ≠ w) : updF f w a j = f j := if_neg h
def famB {β : Type} (f : Nat → List β) : Nat → List β
  | 0 => []
  | n + 1 => famB f n ++ f n
def famR {β : Type} (f : Nat → List β) (w : Nat) : Nat → List β
  | 0 => []
  | n + 1 => famR f w n ++ (if n = w then [] else f n)
theorem famR_le {β : Type} (f : Nat → List β) (w : Nat) : ∀ n, n ≤ w → famR f w n = famB f n
  | 0, _ => rfl
  | n + 1, h => by show famR f w n ++ _ = famB f n ++ _; rw [famR_le f w n (by omega), if_neg (by omega)]
theorem famB_c {β : Type} {c : List β → Nat} (c0 : c [] = 0) (ca : ∀ a b, c (a ++ b) = c a + c b) (f : Nat → List β) {w : Nat} : ∀ {n : Nat}, w < n → c (famB f n) = c (f w) + c (famR f w n)
  | 0, h => by omega
  | n + 1, h => by
    show c (famB f n ++ f n) = _ + c (famR f w n ++ _)
    rw [ca, ca]
    by_cases e : n = w
    · rw [if_pos e, c0, ← e, famR_le f n n (Nat.le_refl _)]; omega
    · rw [if_neg e, famB_c c0 ca f (w := w) (n := n) (by omega)]; omega
theorem famR_of {β : Type} {f g : Nat → List β} {w : Nat} (h : ∀ j, j ≠ w → f j = g j) : ∀ n, famR f w n = famR g w n
  | 0 => rfl
  | n + 1 => by
    show famR f w n ++ _ = famR g w n ++ _
    rw [famR_of h n]
    by_cases e : n = w
    · rw [if_pos e, if_pos e]
    · rw [if_neg e, if_neg e, h n e]
theorem famR_upd {α β : Type} (b : α → List β) (f : Nat → α) (w : Nat) (a : α) (n : Nat) : famR (fun j => b (updF f w a j)) w n = famR (fun j => b (f j)) w n :=
  famR_of (fun j h => by rw [updF_ne f a h]) n
theorem famB_upd_c {α β : Type} {c : List β → Nat} (c0 : c [] = 0) (ca : ∀ a b, c (a ++ b) = c a + c b) (b : α → List β) (f : Nat → α) {w n : Nat} (a : α) (h : w < n) : c (famB (fun j => b (updF f w a j)) n) = c (b a) + c (famR (fun j => b (f j)) w n) := by
  rw [famB_c c0 ca _ h, famR_upd, updF_same]
theorem famB_mem {β : Type} {f : Nat → List β} {x : β} : ∀ {n : Nat}, x ∈ famB f n ↔ ∃ i, i < n ∧ x ∈ f i
  | 0 => by constructor
            · intro h; cases h
            · rintro ⟨i, h, _⟩; omega
  | n + 1 => by
    show x ∈ famB f n ++ f n ↔ _
    rw [List.mem_append, famB_mem (n := n)]
    constructor
    · rintro (⟨i, h1, h2⟩ | h1)
      · exact ⟨i, by omega, h2⟩
      · exact ⟨n, by omega, h1⟩
    · rintro ⟨i, h1, h2⟩
      by_cases e : i = n
      · subst e; exact .inr h2
      · exact .inl ⟨i, by omega, h2⟩
noncomputable def t_guard_of (p0 : Int) (p1 : Int) (p2 : Bool) : Tree :=
 bif p2 then (
 .qcall f_guard_epochTable [(.int .i64 p0), (.int .i64 p1)] (.one (.agg [(.int .i64), (.int .i64)])) fun x12 =>
 .ret (.iface ty_guard_epochs (.agg #[(.int .i64 x12.1), (.int .i64 x12.2.1)])))
 else (
 .qcall f_hazard_Raw [(.int .i64 p0), (.int .i64 p1)] (.tup [(.agg [(.int .i64), (.int .i64)]), (.leaf (.int .i64))]) fun x18 =>
 .newP (.cells #[(.int .i64 0), (.int .i64 0)] ty_hazard_Table) fun x7 =>
 .stA x7 [(.int .i64 x18.1.1), (.int .i64 x18.1.2.1)] <|
 .ldA x7 [(.int .i64), (.int .i64)] fun x21 =>
 .ret (.iface ty_guard_hazards (.agg #[(.int .i64 x21.1), (.int .i64 x21.2.1)])))
theorem t_guard_of_spec {p0 : Int} {p1 : Int} {p2 : Bool} : SpT f_guard_of #[(.int .i64 p0), (.int .i64 p1), (.bool p2)] (t_guard_of p0 p1 p2) := spT tcfg0 Tryz.func73 (by kernel_rfl)
noncomputable def t_guard_epochTable (p0 : Int) (p1 : Int) : Tree :=
 .newP (.cells #[(.int .i64 0), (.int .i64 0)] ty_epoch_Table) fun x4 =>
 .qcall f_epoch_Raw [(.int .i64 p0), (.int .i64 p1)] (.tup [(.agg [(.int .i64), (.int .i64)]), (.leaf (.int .i64))]) fun x10 =>
 .newP (.cells #[(.int .i64 0), (.int .i64 0)] ty_epoch_Table) fun x5 =>
 .stA x5 [(.int .i64 x10.1.1), (.int .i64 x10.1.2.1)] <|
 .ldA x5 [(.int .i64), (.int .i64)] fun x13 =>
 .stA x4 [(.int .i64 x13.1), (.int .i64 x13.2.1)] <|
 .look (ldK x4 2 0 #[] fun r0 => .pure (.value (.agg r0))) (.one (.agg [(.int .i64), (.int .i64)])) fun r => .ret (Sh.toVal (.one (.agg [(.int .i64), (.int .i64)])) r)
theorem t_guard_epochTable_spec {p0 : Int} {p1 : Int} : SpT f_guard_epochTable #[(.int .i64 p0), (.int .i64 p1)] (t_guard_epochTable p0 p1) := spT tcfg0 Tryz.func106 (by kernel_rfl)
noncomputable def t_guard_Raw (p0 : Int) (p1 : Int) (p2 : Bool) : Tree :=
 .call f_guard_of [(.int .i64 p0), (.int .i64 p1), (.bool p2)] (.one (.leaf .val)) fun x10 =>
 .act (opS Tryz.prog (.call { callee := .invoke (.tmp 0) "magpie/guard.words", args := #[], argTypes := #[] }) ty_int [x10]) (.one (.leaf (.int .i64))) fun x11 =>
 .ret (.int .i64 x11)
theorem t_guard_Raw_spec {p0 : Int} {p1 : Int} {p2 : Bool} : SpT f_guard_Raw #[(.int .i64 p0), (.int .i64 p1), (.bool p2)] (t_guard_Raw p0 p1 p2) := spT tcfg0 Tryz.func35 (by kernel_rfl)
noncomputable def t_guard_New (p0 : Int) (p1 : Int) (p2 : Bool) (p3 : Int) (p4_0 : Int) (p4_1 : Int) (p4_2 : Int) (p4_3 : Int) (p4_4 : Int) : Tree :=
 .newP (.cells #[(.int .i64 p4_0), (.int .i64 p4_1), (.int .i64 p4_2), (.int .i64 p4_3), (.int .i64 p4_4)] ty_free_Place) fun x9 =>
 .ldA x9 [(.int .i64), (.int .i64), (.int .i64), (.int .i64), (.int .i64)] fun x15 =>
 .both (
 .call f_guard_of [(.int .i64 p0), (.int .i64 p1), (.bool p2)] (.one (.leaf .ifc)) fun x14 =>
 .check (ldAS x9 5 0 #[]) (.agg #[(.int .i64 x15.1), (.int .i64 x15.2.1), (.int .i64 x15.2.2.1), (.int .i64 x15.2.2.2.1), (.int .i64 x15.2.2.2.2.1)]) <|
 .newM fun x19 =>
 .check (ldAS x9 5 0 #[]) (.agg #[(.int .i64 x15.1), (.int .i64 x15.2.1), (.int .i64 x15.2.2.1), (.int .i64 x15.2.2.2.1), (.int .i64 x15.2.2.2.2.1)]) <|
 .newP (.cells #[(.iface x14.t x14.v), (.int .i64 x15.1), (.int .i64 x15.2.1), (.int .i64 x15.2.2.1), (.int .i64 x15.2.2.2.1), (.int .i64 x15.2.2.2.2.1), (.int .i64 (imax 1 (imin p3 64))), (.map x19)] ty_guard_Guard) fun x21 =>
 .ret (.pointer (some x21))) (
 .newM fun x19 =>
 .check (ldAS x9 5 0 #[]) (.agg #[(.int .i64 x15.1), (.int .i64 x15.2.1), (.int .i64 x15.2.2.1), (.int .i64 x15.2.2.2.1), (.int .i64 x15.2.2.2.2.1)]) <|
 .call f_guard_of [(.int .i64 p0), (.int .i64 p1), (.bool p2)] (.one (.leaf .ifc)) fun x14 =>
 .check (ldAS x9 5 0 #[]) (.agg #[(.int .i64 x15.1), (.int .i64 x15.2.1), (.int .i64 x15.2.2.1), (.int .i64 x15.2.2.2.1), (.int .i64 x15.2.2.2.2.1)]) <|
 .newP (.cells #[(.iface x14.t x14.v), (.int .i64 x15.1), (.int .i64 x15.2.1), (.int .i64 x15.2.2.1), (.int .i64 x15.2.2.2.1), (.int .i64 x15.2.2.2.2.1), (.int .i64 (imax 1 (imin p3 64))), (.map x19)] ty_guard_Guard) fun x21 =>
 .ret (.pointer (some x21)))
theorem t_guard_New_eq (p0 : Int) (p1 : Int) (p2 : Bool) (p3 : Int) (p4_0 : Int) (p4_1 : Int) (p4_2 : Int) (p4_3 : Int) (p4_4 : Int) : funcTree Tryz.prog { quiet := [10, 32, 38, 59, 70, 74, 96, 104, 105, 106, 107, 108, 111, 112, 121, 124, 153, 158, 160], quietTmp := false, fncs := [], ifcs := [14] } Tryz.f36 [(.int .i64 p0), (.int .i64 p1), (.bool p2), (.int .i64 p3), (.agg #[(.int .i64 p4_0), (.int .i64 p4_1), (.int .i64 p4_2), (.int .i64 p4_3), (.int .i64 p4_4)])] = t_guard_New p0 p1 p2 p3 p4_0 p4_1 p4_2 p4_3 p4_4 := by kernel_rfl
theorem t_guard_New_spec {p0 : Int} {p1 : Int} {p2 : Bool} {p3 : Int} {p4_0 : Int} {p4_1 : Int} {p4_2 : Int} {p4_3 : Int} {p4_4 : Int} {H : Heap} {R : Value → Heap → Prop} (h : ∀ L, wp Tryz.prog (t_guard_New p0 p1 p2 p3 p4_0 p4_1 p4_2 p4_3 p4_4) L H R) : SpecF Tryz.prog f_guard_New #[(.int .i64 p0), (.int .i64 p1), (.bool p2), (.int .i64 p3), (.agg #[(.int .i64 p4_0), (.int .i64 p4_1), (.int .i64 p4_2), (.int .i64 p4_3), (.int .i64 p4_4)])] H R :=
 spec_of_tree (cfg := { quiet := [10, 32, 38, 59, 70, 74, 96, 104, 105, 106, 107, 108, 111, 112, 121, 124, 153, 158, 160], quietTmp := false, fncs := [], ifcs := [14] }) Tryz.func36 fun L => (t_guard_New_eq p0 p1 p2 p3 p4_0 p4_1 p4_2 p4_3 p4_4).symm ▸ h L
noncomputable def t_guard_hazards_words (p0_0 : Int) (p0_1 : Int) : Tree :=
 .newP (.cells #[(.int .i64 p0_0), (.int .i64 p0_1)] ty_guard_hazards) fun x1 =>
 .ld x1 (.int .i64) fun x5 =>
 .ret (.int .i64 (w64 (2 * (imax x5 0))))
theorem t_guard_hazards_words_spec {p0_0 : Int} {p0_1 : Int} : SpT f_guard_hazards_words #[(.agg #[(.int .i64 p0_0), (.int .i64 p0_1)])] (t_guard_hazards_words p0_0 p0_1) := spT tcfg0 Tryz.func158 (by kernel_rfl)
noncomputable def t_guard_epochs_words (p0_0 : Int) (p0_1 : Int) : Tree :=
 .newP (.cells #[(.int .i64 p0_0), (.int .i64 p0_1)] ty_guard_epochs) fun x1 =>
 .ld x1 (.int .i64) fun x5 =>
 .ret (.int .i64 (w64 (1 + (imax x5 0))))
theorem t_guard_epochs_words_spec {p0_0 : Int} {p0_1 : Int} : SpT f_guard_epochs_words #[(.agg #[(.int .i64 p0_0), (.int .i64 p0_1)])] (t_guard_epochs_words p0_0 p0_1) := spT tcfg0 Tryz.func153 (by kernel_rfl)
@[reducible] def t_guard_handles_L1_sh : List Sh1 := [(.leaf .slice), (.leaf (.int .i64))]
noncomputable def t_guard_handles_L1 (p0 : Sl) (y1 : HL Sh1.T t_guard_handles_L1_sh) : Tree :=
 bif (decide ((y1.2.1 : Int) < ((p0.len : Nat) : Int))) then (
 .look (opS Tryz.prog (.indexAddr ty_s_epoch_Limbo (.tmp 0) (.tmp 1)) ty_unit [(.slice p0.a p0.len p0.cap), (.int .i64 y1.2.1)]) (.one (.leaf .addr)) fun x10 =>
 .ldA x10 [(.int .i64), (.int .i64)] fun x11 =>
 .newP (.cells #[(.int .i64 0), (.int .i64 0)] ty_epoch_Limbo) fun x5 =>
 .stA x5 [(.int .i64 x11.1), (.int .i64 x11.2.1)] <|
 .ld x5 (.int .i64) fun x14 =>
 .newS (.cells #[(.int .i64 x14)] ty_int) 1 fun x15 =>
 .act (opS Tryz.prog (.call { callee := .builtin .append, args := #[(.tmp 0), (.tmp 1)], argTypes := #[ty_s_int, ty_s_int] }) ty_s_int [(.slice y1.1.a y1.1.len y1.1.cap), (.slice x15.a x15.len x15.cap)]) (.one (.leaf .slice)) fun x16 =>
 .again 192 [(.slice x16.a x16.len x16.cap), (.int .i64 (w64 (y1.2.1 + 1)))])
 else (
 .ret (.slice y1.1.a y1.1.len y1.1.cap))
noncomputable def t_guard_handles (p0 : Sl) : Tree :=
 .loop 192 t_guard_handles_L1_sh [(.slice none 0 0), (.int .i64 0)] (t_guard_handles_L1 p0)
theorem t_guard_handles_spec {p0 : Sl} : SpT f_guard_handles #[(.slice p0.a p0.len p0.cap)] (t_guard_handles p0) := spT tcfg0 Tryz.func118 (by kernel_rfl)
noncomputable def t_guard_sets_Step (p0 : Option Addr) (p1 : Option Addr) : Tree :=
 lkN p0 fun x6 =>
 .ld x6 .slice fun x8 =>
 bif (decide ((((x8.len : Nat) : Int) : Int) > 0)) then (
 lkN p0 fun x13 =>
 .ld x13 .slice fun x15 =>
 .look (opS Tryz.prog (.indexAddr ty_s_int (.tmp 0) (.const (.int .i64 0))) ty_unit [(.slice x15.a x15.len x15.cap)]) (.one (.leaf .addr)) fun x16 =>
 .ld x16 (.int .i64) fun x17 =>
 lkN p0 fun x19 =>
 .ld (x19.add 1) (.int .i64) fun x21 =>
 .call f_arena_Arena_SetRaw [(.pointer p1), (.int .i64 x17), (.int .i64 x21)] .unit fun _ =>
 lkN p0 fun x25 =>
 .ld x25 .slice fun x27 =>
 .look (opS Tryz.prog (.slice ty_s_int (.tmp 0) (some (.const (.int .i64 1))) none none) ty_s_int [(.slice x27.a x27.len x27.cap)]) (.one (.leaf .slice)) fun x28 =>
 lkN p0 fun x29 =>
 .st x29 (.slice x28.a x28.len x28.cap) <|
 lkN p0 fun x32 =>
 .ld x32 .slice fun x34 =>
 .ret (.bool ((((x34.len : Nat) : Int) : Int) == 0)))
 else (
 lkN p0 fun x32 =>
 .ld x32 .slice fun x34 =>
 .ret (.bool ((((x34.len : Nat) : Int) : Int) == 0)))
theorem t_guard_sets_Step_spec {p0 : Option Addr} {p1 : Option Addr} : SpT f_guard_sets_Step #[(.pointer p0), (.pointer p1)] (t_guard_sets_Step p0 p1) := spT tcfg0 Tryz.func162 (by kernel_rfl)
noncomputable def t_guard_look_begin (p0 : Option Addr) : Tree :=
 lkN p0 fun x5 =>
 .ld x5 .ptr fun x7 =>
 lkN x7 fun x8 =>
 .ld x8 .val fun x10 =>
 .look (opS Tryz.prog (.typeAssert (.tmp 0) ty_guard_mode ty_guard_epochs true) ty_unit [x10]) (.tup [(.agg [(.int .i64), (.int .i64)]), (.leaf .bool)]) fun x11 =>
 bif x11.2.1 then (
 .newP (.cells #[(.int .i64 0), (.int .i64 0)] ty_guard_epochs) fun x2 =>
 .stA x2 [(.int .i64 x11.1.1), (.int .i64 x11.1.2.1)] <|
 .ldA x2 [(.int .i64), (.int .i64)] fun x16 =>
 lkN p0 fun x18 =>
 .ld x18 .ptr fun x20 =>
 lkN x20 fun x21 =>
 .ldA (x21.add 1) [(.int .i64), (.int .i64), (.int .i64), (.int .i64), (.int .i64)] fun x23 =>
 lkN p0 fun x25 =>
 .ld (x25.add 1) (.int .i64) fun x27 =>
 lkN p0 fun x29 =>
 .ld x29 .ptr fun x31 =>
 lkN x31 fun x32 =>
 .ld (x32.add 7) .map fun x34 =>
 lkN p0 fun x36 =>
 .ld (x36.add 1) (.int .i64) fun x38 =>
 .look (opS Tryz.prog (.lookup ty_m_int_s_epoch_Limbo (.tmp 0) (.tmp 1) false) ty_s_epoch_Limbo [(.map x34), (.int .i64 x38)]) (.one (.leaf .slice)) fun x39 =>
 .call f_epoch_NewTurn [(.agg #[(.int .i64 x16.1), (.int .i64 x16.2.1)]), (.agg #[(.int .i64 x23.1), (.int .i64 x23.2.1), (.int .i64 x23.2.2.1), (.int .i64 x23.2.2.2.1), (.int .i64 x23.2.2.2.2.1)]), (.int .i64 x27), (.slice x39.a x39.len x39.cap)] (.one (.leaf .ptr)) fun x40 =>
 lkN p0 fun x42 =>
 .st (x42.add 4) (.iface ty_p_epoch_Turn (.pointer x40)) <|
 lkN p0 fun x79 =>
 .ld (x79.add 3) (.int .i64) fun x81 =>
 lkN p0 fun x83 =>
 .st (x83.add 3) (.int .i64 (w64 (x81 - 1))) <|
 .ret (.tuple #[]))
 else (
 .look (opS Tryz.prog (.typeAssert (.tmp 0) ty_guard_mode ty_guard_hazards true) ty_unit [x10]) (.tup [(.agg [(.int .i64), (.int .i64)]), (.leaf .bool)]) fun x44 =>
 bif x44.2.1 then (
 .newP (.cells #[(.int .i64 0), (.int .i64 0)] ty_guard_hazards) fun x3 =>
 .stA x3 [(.int .i64 x44.1.1), (.int .i64 x44.1.2.1)] <|
 .ldA x3 [(.int .i64), (.int .i64)] fun x49 =>
 lkN p0 fun x51 =>
 .ld x51 .ptr fun x53 =>
 lkN x53 fun x54 =>
 .ldA (x54.add 1) [(.int .i64), (.int .i64), (.int .i64), (.int .i64), (.int .i64)] fun x56 =>
 lkN p0 fun x58 =>
 .ld (x58.add 1) (.int .i64) fun x60 =>
 lkN p0 fun x62 =>
 .ld x62 .ptr fun x64 =>
 lkN x64 fun x65 =>
 .ld (x65.add 7) .map fun x67 =>
 lkN p0 fun x69 =>
 .ld (x69.add 1) (.int .i64) fun x71 =>
 .look (opS Tryz.prog (.lookup ty_m_int_s_epoch_Limbo (.tmp 0) (.tmp 1) false) ty_s_epoch_Limbo [(.map x67), (.int .i64 x71)]) (.one (.leaf .slice)) fun x72 =>
 .call f_guard_handles [(.slice x72.a x72.len x72.cap)] (.one (.leaf .slice)) fun x73 =>
 .check (ldS (x58.add 1)) (.int .i64 x60) <|
 .check (nck p0) (.pointer (some x58)) <|
 .check (ldAS (x54.add 1) 5 0 #[]) (.agg #[(.int .i64 x56.1), (.int .i64 x56.2.1), (.int .i64 x56.2.2.1), (.int .i64 x56.2.2.2.1), (.int .i64 x56.2.2.2.2.1)]) <|
 .check (nck x53) (.pointer (some x54)) <|
 .check (ldS x51) (.pointer x53) <|
 .check (nck p0) (.pointer (some x51)) <|
 .check (ldAS x3 2 0 #[]) (.agg #[(.int .i64 x49.1), (.int .i64 x49.2.1)]) <|
 .call f_hazard_NewScan [(.agg #[(.int .i64 x49.1), (.int .i64 x49.2.1)]), (.agg #[(.int .i64 x56.1), (.int .i64 x56.2.1), (.int .i64 x56.2.2.1), (.int .i64 x56.2.2.2.1), (.int .i64 x56.2.2.2.2.1)]), (.int .i64 x60), (.slice x73.a x73.len x73.cap)] (.one (.leaf .ptr)) fun x74 =>
 lkN p0 fun x76 =>
 .st (x76.add 4) (.iface ty_p_hazard_Scan (.pointer x74)) <|
 lkN p0 fun x79 =>
 .ld (x79.add 3) (.int .i64) fun x81 =>
 lkN p0 fun x83 =>
 .st (x83.add 3) (.int .i64 (w64 (x81 - 1))) <|
 .ret (.tuple #[]))
 else (
 lkN p0 fun x79 =>
 .ld (x79.add 3) (.int .i64) fun x81 =>
 lkN p0 fun x83 =>
 .st (x83.add 3) (.int .i64 (w64 (x81 - 1))) <|
 .ret (.tuple #[])))
theorem t_guard_look_begin_spec {p0 : Option Addr} : SpT f_guard_look_begin #[(.pointer p0)] (t_guard_look_begin p0) := spT tcfg0 Tryz.func100 (by kernel_rfl)
@[reducible] def t_guard_look_end_L1_sh : List Sh1 := [(.leaf .slice), (.leaf (.int .i64))]
noncomputable def t_guard_look_end_L1 (p0 : Option Addr) (x31 : Sl) (y1 : HL Sh1.T t_guard_look_end_L1_sh) : Tree :=
 bif (decide ((y1.2.1 : Int) < ((x31.len : Nat) : Int))) then (
 .look (opS Tryz.prog (.indexAddr ty_s_int (.tmp 0) (.tmp 1)) ty_unit [(.slice x31.a x31.len x31.cap), (.int .i64 y1.2.1)]) (.one (.leaf .addr)) fun x35 =>
 .ld x35 (.int .i64) fun x36 =>
 .newS (.cells #[(.int .i64 x36), (.int .i64 0)] ty_epoch_Limbo) 1 fun x40 =>
 .act (opS Tryz.prog (.call { callee := .builtin .append, args := #[(.tmp 0), (.tmp 1)], argTypes := #[ty_s_epoch_Limbo, ty_s_epoch_Limbo] }) ty_s_epoch_Limbo [(.slice y1.1.a y1.1.len y1.1.cap), (.slice x40.a x40.len x40.cap)]) (.one (.leaf .slice)) fun x41 =>
 .again 512 [(.slice x41.a x41.len x41.cap), (.int .i64 (w64 (y1.2.1 + 1)))])
 else (
 lkN p0 fun x44 =>
 .ld x44 .ptr fun x46 =>
 lkN x46 fun x47 =>
 .ld (x47.add 7) .map fun x49 =>
 lkN p0 fun x51 =>
 .ld (x51.add 1) (.int .i64) fun x53 =>
 .act (opS Tryz.prog (.mapUpdate ty_m_int_s_epoch_Limbo (.tmp 0) (.tmp 1) (.tmp 2)) ty_unit [(.map x49), (.int .i64 x53), (.slice y1.1.a y1.1.len y1.1.cap)]) .unit fun _ =>
 lkN p0 fun x56 =>
 .st (x56.add 4) .nilIface <|
 .ret (.tuple #[]))
noncomputable def t_guard_look_end (p0 : Option Addr) : Tree :=
 lkN p0 fun x8 =>
 .ld (x8.add 4) .val fun x10 =>
 .look (opS Tryz.prog (.typeAssert (.tmp 0) ty_guard_Machine ty_p_epoch_Turn true) ty_unit [x10]) (.tup [(.leaf .ptr), (.leaf .bool)]) fun x11 =>
 bif x11.2.1 then (
 lkN p0 fun x15 =>
 .ld x15 .ptr fun x17 =>
 lkN x17 fun x18 =>
 .ld (x18.add 7) .map fun x20 =>
 lkN p0 fun x22 =>
 .ld (x22.add 1) (.int .i64) fun x24 =>
 .call f_epoch_Turn_Left [(.pointer x11.1)] (.one (.leaf .slice)) fun x26 =>
 .check (ldS (x22.add 1)) (.int .i64 x24) <|
 .check (nck p0) (.pointer (some x22)) <|
 .check (ldS (x18.add 7)) (.map x20) <|
 .check (nck x17) (.pointer (some x18)) <|
 .check (ldS x15) (.pointer x17) <|
 .check (nck p0) (.pointer (some x15)) <|
 .act (opS Tryz.prog (.mapUpdate ty_m_int_s_epoch_Limbo (.tmp 0) (.tmp 1) (.tmp 2)) ty_unit [(.map x20), (.int .i64 x24), (.slice x26.a x26.len x26.cap)]) .unit fun _ =>
 lkN p0 fun x56 =>
 .st (x56.add 4) .nilIface <|
 .ret (.tuple #[]))
 else (
 .look (opS Tryz.prog (.typeAssert (.tmp 0) ty_guard_Machine ty_p_hazard_Scan true) ty_unit [x10]) (.tup [(.leaf .ptr), (.leaf .bool)]) fun x27 =>
 bif x27.2.1 then (
 .call f_hazard_Scan_Left [(.pointer x27.1)] (.one (.leaf .slice)) fun x31 =>
 .loop 512 t_guard_look_end_L1_sh [(.slice none 0 0), (.int .i64 0)] (t_guard_look_end_L1 p0 x31))
 else (
 lkN p0 fun x56 =>
 .st (x56.add 4) .nilIface <|
 .ret (.tuple #[])))
theorem t_guard_look_end_spec {p0 : Option Addr} : SpT f_guard_look_end #[(.pointer p0)] (t_guard_look_end p0) := spT tcfg0 Tryz.func155 (by kernel_rfl)
noncomputable def t_guard_look_Step (p0 : Option Addr) (p1 : Option Addr) : Tree :=
 lkN p0 fun x7 =>
 .ld (x7.add 2) .bool fun x9 =>
 bif x9 then (
 lkN p0 fun x11 =>
 .st (x11.add 2) (.bool false) <|
 lkN p0 fun x14 =>
 .ld x14 .ptr fun x16 =>
 lkN x16 fun x17 =>
 .ld (x17.add 7) .map fun x19 =>
 lkN p0 fun x21 =>
 .ld (x21.add 1) (.int .i64) fun x23 =>
 .look (opS Tryz.prog (.lookup ty_m_int_s_epoch_Limbo (.tmp 0) (.tmp 1) false) ty_s_epoch_Limbo [(.map x19), (.int .i64 x23)]) (.one (.leaf .slice)) fun x24 =>
 lkN p0 fun x31 =>
 .ld x31 .ptr fun x33 =>
 lkN x33 fun x34 =>
 .ld x34 .val fun x36 =>
 .look (opS Tryz.prog (.typeAssert (.tmp 0) ty_guard_mode ty_guard_epochs false) ty_guard_epochs [x36]) (.one (.agg [(.int .i64), (.int .i64)])) fun x37 =>
 .qcall f_epoch_Table_Global [(.agg #[(.int .i64 x37.1), (.int .i64 x37.2.1)])] (.one (.leaf (.int .i64))) fun x39 =>
 .call f_arena_Arena_Raw [(.pointer p1), (.int .i64 x39)] (.one (.leaf (.int .i64))) fun x40 =>
 .look (opS Tryz.prog (.indexAddr ty_s_epoch_Limbo (.tmp 0) (.tmp 1)) ty_unit [(.slice x24.a x24.len x24.cap), (.int .i64 (w64 (((x24.len : Nat) : Int) - 1)))]) (.one (.leaf .addr)) fun x41 =>
 .st (x41.add 1) (.int .i64 x40) <|
 lkN p0 fun x44 =>
 .ld (x44.add 3) (.int .i64) fun x46 =>
 .ret (.bool ((x46 : Int) == 0)))
 else (
 lkN p0 fun x49 =>
 .ld (x49.add 4) .val fun x51 =>
 .look (opS Tryz.prog (.binOp .eql ty_guard_Machine (.tmp 0) (.const .nilIface) ty_guard_Machine) ty_bool [x51]) (.one (.leaf .bool)) fun x52 =>
 bif x52 then (
 lkN p0 fun x55 =>
 .ld (x55.add 3) (.int .i64) fun x57 =>
 bif (decide ((x57 : Int) > 0)) then (
 .call f_guard_look_begin [(.pointer p0)] .unit fun _ =>
 lkN p0 fun x63 =>
 .ld (x63.add 4) .val fun x65 =>
 .look (opS Tryz.prog (.binOp .neq ty_guard_Machine (.tmp 0) (.const .nilIface) ty_guard_Machine) ty_bool [x65]) (.one (.leaf .bool)) fun x66 =>
 bif x66 then (
 lkN p0 fun x69 =>
 .ld (x69.add 4) .val fun x71 =>
 .act (opS Tryz.prog (.call { callee := .invoke (.tmp 0) "Step", args := #[(.tmp 1)], argTypes := #[ty_p_arena_Arena] }) ty_bool [x71, (.pointer p1)]) (.one (.leaf .bool)) fun x73 =>
 bif x73 then (
 .call f_guard_look_end [(.pointer p0)] .unit fun _ =>
 lkN p0 fun x78 =>
 .ld (x78.add 4) .val fun x80 =>
 .look (opS Tryz.prog (.binOp .eql ty_guard_Machine (.tmp 0) (.const .nilIface) ty_guard_Machine) ty_bool [x80]) (.one (.leaf .bool)) fun x81 =>
 bif x81 then (
 lkN p0 fun x84 =>
 .ld (x84.add 3) (.int .i64) fun x86 =>
 .ret (.bool ((x86 : Int) == 0)))
 else (
 .ret (.bool false)))
 else (
 lkN p0 fun x78 =>
 .ld (x78.add 4) .val fun x80 =>
 .look (opS Tryz.prog (.binOp .eql ty_guard_Machine (.tmp 0) (.const .nilIface) ty_guard_Machine) ty_bool [x80]) (.one (.leaf .bool)) fun x81 =>
 bif x81 then (
 lkN p0 fun x84 =>
 .ld (x84.add 3) (.int .i64) fun x86 =>
 .ret (.bool ((x86 : Int) == 0)))
 else (
 .ret (.bool false))))
 else (
 lkN p0 fun x78 =>
 .ld (x78.add 4) .val fun x80 =>
 .look (opS Tryz.prog (.binOp .eql ty_guard_Machine (.tmp 0) (.const .nilIface) ty_guard_Machine) ty_bool [x80]) (.one (.leaf .bool)) fun x81 =>
 bif x81 then (
 lkN p0 fun x84 =>
 .ld (x84.add 3) (.int .i64) fun x86 =>
 .ret (.bool ((x86 : Int) == 0)))
 else (
 .ret (.bool false))))
 else (
 lkN p0 fun x63 =>
 .ld (x63.add 4) .val fun x65 =>
 .look (opS Tryz.prog (.binOp .neq ty_guard_Machine (.tmp 0) (.const .nilIface) ty_guard_Machine) ty_bool [x65]) (.one (.leaf .bool)) fun x66 =>
 bif x66 then (
 lkN p0 fun x69 =>
 .ld (x69.add 4) .val fun x71 =>
 .act (opS Tryz.prog (.call { callee := .invoke (.tmp 0) "Step", args := #[(.tmp 1)], argTypes := #[ty_p_arena_Arena] }) ty_bool [x71, (.pointer p1)]) (.one (.leaf .bool)) fun x73 =>
 bif x73 then (
 .call f_guard_look_end [(.pointer p0)] .unit fun _ =>
 lkN p0 fun x78 =>
 .ld (x78.add 4) .val fun x80 =>
 .look (opS Tryz.prog (.binOp .eql ty_guard_Machine (.tmp 0) (.const .nilIface) ty_guard_Machine) ty_bool [x80]) (.one (.leaf .bool)) fun x81 =>
 bif x81 then (
 lkN p0 fun x84 =>
 .ld (x84.add 3) (.int .i64) fun x86 =>
 .ret (.bool ((x86 : Int) == 0)))
 else (
 .ret (.bool false)))
 else (
 lkN p0 fun x78 =>
 .ld (x78.add 4) .val fun x80 =>
 .look (opS Tryz.prog (.binOp .eql ty_guard_Machine (.tmp 0) (.const .nilIface) ty_guard_Machine) ty_bool [x80]) (.one (.leaf .bool)) fun x81 =>
 bif x81 then (
 lkN p0 fun x84 =>
 .ld (x84.add 3) (.int .i64) fun x86 =>
 .ret (.bool ((x86 : Int) == 0)))
 else (
 .ret (.bool false))))
 else (
 lkN p0 fun x78 =>
 .ld (x78.add 4) .val fun x80 =>
 .look (opS Tryz.prog (.binOp .eql ty_guard_Machine (.tmp 0) (.const .nilIface) ty_guard_Machine) ty_bool [x80]) (.one (.leaf .bool)) fun x81 =>
 bif x81 then (
 lkN p0 fun x84 =>
 .ld (x84.add 3) (.int .i64) fun x86 =>
 .ret (.bool ((x86 : Int) == 0)))
 else (
 .ret (.bool false)))))
 else (
 lkN p0 fun x63 =>
 .ld (x63.add 4) .val fun x65 =>
 .look (opS Tryz.prog (.binOp .neq ty_guard_Machine (.tmp 0) (.const .nilIface) ty_guard_Machine) ty_bool [x65]) (.one (.leaf .bool)) fun x66 =>
 bif x66 then (
 lkN p0 fun x69 =>
 .ld (x69.add 4) .val fun x71 =>
 .act (opS Tryz.prog (.call { callee := .invoke (.tmp 0) "Step", args := #[(.tmp 1)], argTypes := #[ty_p_arena_Arena] }) ty_bool [x71, (.pointer p1)]) (.one (.leaf .bool)) fun x73 =>
 bif x73 then (
 .call f_guard_look_end [(.pointer p0)] .unit fun _ =>
 lkN p0 fun x78 =>
 .ld (x78.add 4) .val fun x80 =>
 .look (opS Tryz.prog (.binOp .eql ty_guard_Machine (.tmp 0) (.const .nilIface) ty_guard_Machine) ty_bool [x80]) (.one (.leaf .bool)) fun x81 =>
 bif x81 then (
 lkN p0 fun x84 =>
 .ld (x84.add 3) (.int .i64) fun x86 =>
 .ret (.bool ((x86 : Int) == 0)))
 else (
 .ret (.bool false)))
 else (
 lkN p0 fun x78 =>
 .ld (x78.add 4) .val fun x80 =>
 .look (opS Tryz.prog (.binOp .eql ty_guard_Machine (.tmp 0) (.const .nilIface) ty_guard_Machine) ty_bool [x80]) (.one (.leaf .bool)) fun x81 =>
 bif x81 then (
 lkN p0 fun x84 =>
 .ld (x84.add 3) (.int .i64) fun x86 =>
 .ret (.bool ((x86 : Int) == 0)))
 else (
 .ret (.bool false))))
 else (
 lkN p0 fun x78 =>
 .ld (x78.add 4) .val fun x80 =>
 .look (opS Tryz.prog (.binOp .eql ty_guard_Machine (.tmp 0) (.const .nilIface) ty_guard_Machine) ty_bool [x80]) (.one (.leaf .bool)) fun x81 =>
 bif x81 then (
 lkN p0 fun x84 =>
 .ld (x84.add 3) (.int .i64) fun x86 =>
 .ret (.bool ((x86 : Int) == 0)))
 else (
 .ret (.bool false)))))
theorem t_guard_look_Step_spec {p0 : Option Addr} {p1 : Option Addr} : SpT f_guard_look_Step #[(.pointer p0), (.pointer p1)] (t_guard_look_Step p0 p1) := spT tcfg0 Tryz.func154 (by kernel_rfl)
noncomputable def t_guard_Guard_Enter (p0 : Option Addr) (p1 : Int) : Tree :=
 lkN p0 fun x7 =>
 .ld x7 .val fun x9 =>
 .look (opS Tryz.prog (.typeAssert (.tmp 0) ty_guard_mode ty_guard_epochs true) ty_unit [x9]) (.tup [(.agg [(.int .i64), (.int .i64)]), (.leaf .bool)]) fun x10 =>
 bif x10.2.1 then (
 .newP (.cells #[(.int .i64 0), (.int .i64 0)] ty_guard_epochs) fun x5 =>
 .stA x5 [(.int .i64 x10.1.1), (.int .i64 x10.1.2.1)] <|
 .ldA x5 [(.int .i64), (.int .i64)] fun x14 =>
 .call f_epoch_NewPin [(.agg #[(.int .i64 x14.1), (.int .i64 x14.2.1)]), (.int .i64 p1)] (.one (.leaf .ptr)) fun x16 =>
 .ret (.iface ty_p_epoch_Pin (.pointer x16)))
 else (
 .ret .nilIface)
theorem t_guard_Guard_Enter_spec {p0 : Option Addr} {p1 : Int} : SpT f_guard_Guard_Enter #[(.pointer p0), (.int .i64 p1)] (t_guard_Guard_Enter p0 p1) := spT tcfg0 Tryz.func79 (by kernel_rfl)
noncomputable def t_guard_Guard_Protect (p0 : Option Addr) (p1 : Int) (p2 : Int) (p3 : Int) : Tree :=
 lkN p0 fun x13 =>
 .ld x13 .val fun x15 =>
 .look (opS Tryz.prog (.typeAssert (.tmp 0) ty_guard_mode ty_guard_epochs true) ty_guard_epochs_bool [x15]) (.tup [(.agg [(.int .i64), (.int .i64)]), (.leaf .bool)]) fun x16 =>
 .newP (.cells #[(.int .i64 0), (.int .i64 0)] ty_guard_epochs) fun x9 =>
 .stA x9 [(.int .i64 x16.1.1), (.int .i64 x16.1.2.1)] <|
 bif x16.2.1 then (
 .ret .nilIface)
 else (
 lkN p0 fun x21 =>
 .ld x21 .val fun x23 =>
 .look (opS Tryz.prog (.typeAssert (.tmp 0) ty_guard_mode ty_guard_hazards false) ty_guard_hazards [x23]) (.one (.agg [(.int .i64), (.int .i64)])) fun x24 =>
 .qcall f_hazard_Table_Word [(.agg #[(.int .i64 x24.1), (.int .i64 x24.2.1)]), (.int .i64 p1), (.int .i64 p2)] (.one (.leaf (.int .i64))) fun x28 =>
 .newS (.cells #[(.int .i64 x28)] ty_int) 1 fun x29 =>
 .newP (.cells #[(.slice x29.a x29.len x29.cap), (.int .i64 p3)] ty_guard_sets) fun x32 =>
 .ret (.iface ty_p_guard_sets (.pointer (some x32))))
theorem t_guard_Guard_Protect_spec {p0 : Option Addr} {p1 : Int} {p2 : Int} {p3 : Int} : SpT f_guard_Guard_Protect #[(.pointer p0), (.int .i64 p1), (.int .i64 p2), (.int .i64 p3)] (t_guard_Guard_Protect p0 p1 p2 p3) := spT tcfg0 Tryz.func110 (by kernel_rfl)
@[reducible] def t_guard_Guard_Leave_L1_sh : List Sh1 := [(.leaf .slice), (.leaf (.int .i64))]
noncomputable def t_guard_Guard_Leave_L1 (p1 : Int) (x7 : Addr) (y1 : HL Sh1.T t_guard_Guard_Leave_L1_sh) : Tree :=
 bif (decide ((y1.2.1 : Int) < 2)) then (
 .ldA x7 [(.int .i64), (.int .i64)] fun x37 =>
 .qcall f_hazard_Table_Word [(.agg #[(.int .i64 x37.1), (.int .i64 x37.2.1)]), (.int .i64 p1), (.int .i64 y1.2.1)] (.one (.leaf (.int .i64))) fun x40 =>
 .newS (.cells #[(.int .i64 x40)] ty_int) 1 fun x41 =>
 .act (opS Tryz.prog (.call { callee := .builtin .append, args := #[(.tmp 0), (.tmp 1)], argTypes := #[ty_s_int, ty_s_int] }) ty_s_int [(.slice y1.1.a y1.1.len y1.1.cap), (.slice x41.a x41.len x41.cap)]) (.one (.leaf .slice)) fun x42 =>
 .again 448 [(.slice x42.a x42.len x42.cap), (.int .i64 (w64 (y1.2.1 + 1)))])
 else (
 .newP (.cells #[(.slice y1.1.a y1.1.len y1.1.cap), (.int .i64 0)] ty_guard_sets) fun x46 =>
 .ret (.iface ty_p_guard_sets (.pointer (some x46))))
noncomputable def t_guard_Guard_Leave (p0 : Option Addr) (p1 : Int) : Tree :=
 lkN p0 fun x12 =>
 .ld x12 .val fun x14 =>
 .look (opS Tryz.prog (.typeAssert (.tmp 0) ty_guard_mode ty_guard_epochs true) ty_guard_epochs_bool [x14]) (.tup [(.agg [(.int .i64), (.int .i64)]), (.leaf .bool)]) fun x15 =>
 .newP (.cells #[(.int .i64 0), (.int .i64 0)] ty_guard_epochs) fun x5 =>
 .stA x5 [(.int .i64 x15.1.1), (.int .i64 x15.1.2.1)] <|
 bif x15.2.1 then (
 .ldA x5 [(.int .i64), (.int .i64)] fun x20 =>
 .qcall f_epoch_Table_Word [(.agg #[(.int .i64 x20.1), (.int .i64 x20.2.1)]), (.int .i64 p1)] (.one (.leaf (.int .i64))) fun x22 =>
 .newS (.cells #[(.int .i64 x22)] ty_int) 1 fun x23 =>
 .newP (.cells #[(.slice x23.a x23.len x23.cap), (.int .i64 0)] ty_guard_sets) fun x25 =>
 .ret (.iface ty_p_guard_sets (.pointer (some x25))))
 else (
 lkN p0 fun x28 =>
 .ld x28 .val fun x30 =>
 .look (opS Tryz.prog (.typeAssert (.tmp 0) ty_guard_mode ty_guard_hazards false) ty_guard_hazards [x30]) (.one (.agg [(.int .i64), (.int .i64)])) fun x31 =>
 .newP (.cells #[(.int .i64 0), (.int .i64 0)] ty_guard_hazards) fun x7 =>
 .stA x7 [(.int .i64 x31.1), (.int .i64 x31.2.1)] <|
 .loop 448 t_guard_Guard_Leave_L1_sh [(.slice none 0 0), (.int .i64 0)] (t_guard_Guard_Leave_L1 p1 x7))
theorem t_guard_Guard_Leave_spec {p0 : Option Addr} {p1 : Int} : SpT f_guard_Guard_Leave #[(.pointer p0), (.int .i64 p1)] (t_guard_Guard_Leave p0 p1) := spT tcfg0 Tryz.func91 (by kernel_rfl)
noncomputable def t_guard_Guard_Retire (p0 : Option Addr) (p1 : Option Addr) (p2 : Int) (p3 : Int) : Tree :=
 .call f_arena_Arena_Retire [(.pointer p1), (.int .i64 p3)] (.one (.leaf .bool)) fun x14 =>
 lkN p0 fun x16 =>
 .ld (x16.add 7) .map fun x18 =>
 lkN p0 fun x21 =>
 .ld (x21.add 7) .map fun x23 =>
 .look (opS Tryz.prog (.lookup ty_m_int_s_epoch_Limbo (.tmp 0) (.tmp 1) false) ty_s_epoch_Limbo [(.map x23), (.int .i64 p2)]) (.one (.leaf .slice)) fun x25 =>
 .newS (.cells #[(.int .i64 p3), (.int .i64 0)] ty_epoch_Limbo) 1 fun x28 =>
 .check (opS Tryz.prog (.lookup ty_m_int_s_epoch_Limbo (.tmp 0) (.tmp 1) false) ty_s_epoch_Limbo [(.map x23), (.int .i64 p2)]) (.slice x25.a x25.len x25.cap) <|
 .check (ldS (x21.add 7)) (.map x23) <|
 .check (nck p0) (.pointer (some x21)) <|
 .check (ldS (x16.add 7)) (.map x18) <|
 .check (nck p0) (.pointer (some x16)) <|
 .act (opS Tryz.prog (.call { callee := .builtin .append, args := #[(.tmp 0), (.tmp 1)], argTypes := #[ty_s_epoch_Limbo, ty_s_epoch_Limbo] }) ty_s_epoch_Limbo [(.slice x25.a x25.len x25.cap), (.slice x28.a x28.len x28.cap)]) (.one (.leaf .slice)) fun x29 =>
 .check (ldS (x16.add 7)) (.map x18) <|
 .check (nck p0) (.pointer (some x16)) <|
 .act (opS Tryz.prog (.mapUpdate ty_m_int_s_epoch_Limbo (.tmp 0) (.tmp 1) (.tmp 2)) ty_unit [(.map x18), (.int .i64 p2), (.slice x29.a x29.len x29.cap)]) .unit fun _ =>
 lkN p0 fun x32 =>
 .ld x32 .val fun x34 =>
 .look (opS Tryz.prog (.typeAssert (.tmp 0) ty_guard_mode ty_guard_epochs true) ty_guard_epochs_bool [x34]) (.tup [(.agg [(.int .i64), (.int .i64)]), (.leaf .bool)]) fun x35 =>
 .newP (.cells #[(.int .i64 0), (.int .i64 0)] ty_guard_epochs) fun x9 =>
 .stA x9 [(.int .i64 x35.1.1), (.int .i64 x35.1.2.1)] <|
 .newP (.cells #[(.pointer p0), (.int .i64 p2), (.bool x35.2.1), (.int .i64 0), .nilIface] ty_guard_look) fun x42 =>
 lkN p0 fun x44 =>
 .ld (x44.add 7) .map fun x46 =>
 .look (opS Tryz.prog (.lookup ty_m_int_s_epoch_Limbo (.tmp 0) (.tmp 1) false) ty_s_epoch_Limbo [(.map x46), (.int .i64 p2)]) (.one (.leaf .slice)) fun x48 =>
 lkN p0 fun x51 =>
 .ld (x51.add 6) (.int .i64) fun x53 =>
 bif (decide ((((x48.len : Nat) : Int) : Int) ≥ x53)) then (
 lkN (some x42) fun x56 =>
 .st (x56.add 3) (.int .i64 1) <|
 bif (!x35.2.1) then (
 lkN (some x42) fun x62 =>
 .ld (x62.add 3) (.int .i64) fun x64 =>
 bif ((x64 : Int) == 0) then (
 .ret .nilIface)
 else (
 bif (!x35.2.1) then (
 .call f_guard_look_begin [(.pointer (some x42))] .unit fun _ =>
 .ret (.iface ty_p_guard_look (.pointer (some x42))))
 else (
 .ret (.iface ty_p_guard_look (.pointer (some x42))))))
 else (
 bif (!x35.2.1) then (
 .call f_guard_look_begin [(.pointer (some x42))] .unit fun _ =>
 .ret (.iface ty_p_guard_look (.pointer (some x42))))
 else (
 .ret (.iface ty_p_guard_look (.pointer (some x42))))))
 else (
 bif (!x35.2.1) then (
 lkN (some x42) fun x62 =>
 .ld (x62.add 3) (.int .i64) fun x64 =>
 bif ((x64 : Int) == 0) then (
 .ret .nilIface)
 else (
 bif (!x35.2.1) then (
 .call f_guard_look_begin [(.pointer (some x42))] .unit fun _ =>
 .ret (.iface ty_p_guard_look (.pointer (some x42))))
 else (
 .ret (.iface ty_p_guard_look (.pointer (some x42))))))
 else (
 bif (!x35.2.1) then (
 .call f_guard_look_begin [(.pointer (some x42))] .unit fun _ =>
 .ret (.iface ty_p_guard_look (.pointer (some x42))))
 else (
 .ret (.iface ty_p_guard_look (.pointer (some x42))))))
theorem t_guard_Guard_Retire_spec {p0 : Option Addr} {p1 : Option Addr} {p2 : Int} {p3 : Int} : SpT f_guard_Guard_Retire #[(.pointer p0), (.pointer p1), (.int .i64 p2), (.int .i64 p3)] (t_guard_Guard_Retire p0 p1 p2 p3) := spT tcfg0 Tryz.func65 (by kernel_rfl)
structure Gd where
  ep : Bool
  w : Int
  ta : Int
  pl : Pl
  th : Int
def gmode (ep : Bool) (w ta : Int) : Value := .iface (bif ep then ty_guard_epochs else ty_guard_hazards) (.agg #[.int .i64 w, .int .i64 ta])
def Gd.cells (g : Gd) (mq : Nat) : List Value := [gmode g.ep g.w g.ta, .int .i64 g.pl.work, .int .i64 g.pl.heads, .int .i64 g.pl.links, .int .i64 g.pl.gens, .int .i64 g.pl.carved, .int .i64 g.th, .map (some mq)]
structure LE where
  k : Int
  s : Sl
  xs : List (Int × Int)
  hb : Bl
def leC (e : List LE) : List (Int × Sl) := e.map fun x => (x.k, x.s)
def leB : List LE → Bl
  | [] => []
  | x :: e => x.hb ++ leB e
def leGet : List LE → Int → LE
  | [], k => ⟨k, sl0, [], []⟩
  | x :: e, k => if k = x.k then x else leGet e k
def leRest : List LE → Int → Bl
  | [], _ => []
  | x :: e, k => if k = x.k then leB e else x.hb ++ leRest e k
def lePut : List LE → LE → List LE
  | [], y => [y]
  | x :: e, y => if y.k = x.k then y :: e else x :: lePut e y
theorem leC_get : ∀ (e : List LE) (k : Int), (match alGet (leC e) k with | some v => slV v | none => slV sl0) = slV (leGet e k).s
  | [], k => rfl
  | x :: e, k => by
    show (match (if k = x.k then some x.s else alGet (leC e) k) with | some v => slV v | none => slV sl0) = slV (if k = x.k then x else leGet e k).s
    by_cases h : k = x.k
    · rw [if_pos h, if_pos h]
    · rw [if_neg h, if_neg h]; exact leC_get e k
theorem leC_put : ∀ (e : List LE) (y : LE), leC (lePut e y) = alPut (leC e) y.k y.s
  | [], y => rfl
  | x :: e, y => by
    show leC (if y.k = x.k then y :: e else x :: lePut e y) = if y.k = x.k then (x.k, y.s) :: leC e else (x.k, x.s) :: alPut (leC e) y.k y.s
    by_cases h : y.k = x.k
    · rw [if_pos h, if_pos h, ← h]; rfl
    · rw [if_neg h, if_neg h, ← leC_put e y]; rfl
theorem leGet_put : ∀ (e : List LE) (y : LE) (k : Int), leGet (lePut e y) k = if k = y.k then y else leGet e k
  | [], y, k => rfl
  | x :: e, y, k => by
    show leGet (if y.k = x.k then y :: e else x :: lePut e y) k = if k = y.k then y else if k = x.k then x else leGet e k
    by_cases h : y.k = x.k
    · rw [if_pos h]
      show (if k = y.k then y else leGet e k) = _
      by_cases h2 : k = y.k
      · rw [if_pos h2, if_pos h2]
      · rw [if_neg h2, if_neg h2, if_neg (by rw [← h]; exact h2)]
    · rw [if_neg h]
      show (if k = x.k then x else leGet (lePut e y) k) = _
      by_cases h2 : k = x.k
      · rw [if_pos h2, if_pos h2, if_neg (by rw [h2]; exact fun e => h e.symm)]
      · rw [if_neg h2, if_neg h2]; exact leGet_put e y k
theorem leB_c {c : Bl → Nat} (c0 : c [] = 0) (ca : ∀ a b, c (a ++ b) = c a + c b) : ∀ (e : List LE) (k : Int), c (leB e) = c (leGet e k).hb + c (leRest e k)
  | [], k => by show c [] = c [] + c []; omega
  | x :: e, k => by
    show c (x.hb ++ leB e) = c (if k = x.k then x else leGet e k).hb + c (if k = x.k then leB e else x.hb ++ leRest e k)
    by_cases h : k = x.k
    · rw [if_pos h, if_pos h, ca]
    · rw [if_neg h, if_neg h, ca, ca, leB_c c0 ca e k]; omega
theorem leB_put_c {c : Bl → Nat} (c0 : c [] = 0) (ca : ∀ a b, c (a ++ b) = c a + c b) : ∀ (e : List LE) (y : LE), c (leB (lePut e y)) = c y.hb + c (leRest e y.k)
  | [], y => ca _ _
  | x :: e, y => by
    show c (leB (if y.k = x.k then y :: e else x :: lePut e y)) = c y.hb + c (if y.k = x.k then leB e else x.hb ++ leRest e y.k)
    by_cases h : y.k = x.k
    · rw [if_pos h, if_pos h]; exact ca _ _
    · rw [if_neg h, if_neg h, ca]
      show c (x.hb ++ leB (lePut e y)) = _
      rw [ca, leB_put_c c0 ca e y]; omega
def Gd.bl (g : Gd) (q mq : Nat) (e : List LE) : Bl := (q, oc ty_guard_Guard (g.cells mq)) :: (mq, mapObj slV (leC e)) :: leB e
def leOk (e : List LE) : Prop := ∀ k, SlOf (leGet e k).hb ty_epoch_Limbo eL (leGet e k).s (leGet e k).xs
theorem leOk.put {e : List LE} (h : leOk e) {y : LE} (hy : SlOf y.hb ty_epoch_Limbo eL y.s y.xs) : leOk (lePut e y) := fun k => by
  rw [leGet_put]
  split
  · exact hy
  · exact h k
theorem ta_epT (w ta : Int) (u : TypeId) : opS Tryz.prog (.typeAssert (.tmp 0) ty_guard_mode ty_guard_epochs true) u [gmode true w ta] = .pure (.value (.tuple #[.agg #[.int .i64 w, .int .i64 ta], .bool true])) := by kernel_rfl
theorem ta_epF (w ta : Int) (u : TypeId) : opS Tryz.prog (.typeAssert (.tmp 0) ty_guard_mode ty_guard_epochs true) u [gmode false w ta] = .pure (.value (.tuple #[.agg #[.int .i64 0, .int .i64 0], .bool false])) := by kernel_rfl
theorem ta_haT (w ta : Int) (u : TypeId) : opS Tryz.prog (.typeAssert (.tmp 0) ty_guard_mode ty_guard_hazards true) u [gmode false w ta] = .pure (.value (.tuple #[.agg #[.int .i64 w, .int .i64 ta], .bool true])) := by kernel_rfl
theorem ta_ha (w ta : Int) (u : TypeId) : opS Tryz.prog (.typeAssert (.tmp 0) ty_guard_mode ty_guard_hazards false) u [gmode false w ta] = .pure (.value (.agg #[.int .i64 w, .int .i64 ta])) := by kernel_rfl
theorem ta_ep (w ta : Int) (u : TypeId) : opS Tryz.prog (.typeAssert (.tmp 0) ty_guard_mode ty_guard_epochs false) u [gmode true w ta] = .pure (.value (.agg #[.int .i64 w, .int .i64 ta])) := by kernel_rfl
section
variable {L : Hands} {R : Value → Heap → Prop} {G : Heap} {l rest : Bl} {A : Ar} {I : List Nat}
theorem gp_end (ok : Ok0 G (keys l)) : G.le (putL l G) := by
  intro b o hb
  rw [putL_out]
  · exact hb
  · intro h; rw [ok.no b h] at hb; cases hb
theorem epochTable_det {w n : Int} (b : 0 ≤ w ∧ w ≤ 100000) (H : Heap) : Det Tryz.prog f_guard_epochTable [.int .i64 w, .int .i64 n] H (.agg #[.int .i64 w, .int .i64 n]) H := by
  refine t_guard_epochTable_spec fun L => ?_
  unfold t_guard_epochTable
  have ok0 : Ok0 H (keys []) := ⟨.nil, fun b h => (by cases h)⟩
  refine p_newP (l := []) ok0 fun x4 ok0 => ?_
  refine wq_ERaw (w := w) (n := n) b ?_
  refine p_newP ok0 fun x5 ok0 => ?_
  refine p_stA 0 ok0 rfl rfl rfl rfl ?_
  have ok1 : Ok0 H (keys [(x5, oc ty_epoch_Table [.int .i64 w, .int .i64 n]), (x4, oc ty_epoch_Table [.int .i64 0, .int .i64 0])]) := ok0
  show wp Tryz.prog _ L (putL [(x5, oc ty_epoch_Table [.int .i64 w, .int .i64 n]), (x4, oc ty_epoch_Table [.int .i64 0, .int .i64 0])] H) _
  refine p_ldA (l := [(x5, oc ty_epoch_Table [.int .i64 w, .int .i64 n]), (x4, oc ty_epoch_Table [.int .i64 0, .int .i64 0])]) 0 ok1 rfl rfl rfl ?_
  refine p_stA 1 ok1 rfl rfl rfl rfl ?_
  refine ⟨(w, n, ()), ?_, H, gp_end (by exact ok1), rfl, rfl⟩
  refine ldK_still (putL_get (i := 1) H (by exact ok1.nd) rfl) 2 0 #[] (by exact Nat.le_refl 2) ?_
  rfl
theorem of_det {w n : Int} (ep : Bool) (b : 0 ≤ w ∧ w ≤ 100000) (H : Heap) : Det Tryz.prog f_guard_of [.int .i64 w, .int .i64 n, .bool ep] H (gmode ep w n) H := by
  refine t_guard_of_spec fun L => ?_
  unfold t_guard_of
  have ok0 : Ok0 H (keys []) := ⟨.nil, fun b h => (by cases h)⟩
  cases ep with
  | true =>
    refine wp_true rfl ?_
    refine wp_qcall_det (x := (w, n, ())) (epochTable_det b H) ?_
    exact wp_ret_of ⟨rfl, rfl⟩
  | false =>
    refine wp_false rfl ?_
    refine wq_HRaw (w := w) (n := n) b ?_
    refine p_newP (l := []) ok0 fun x7 ok0 => ?_
    refine p_stA 0 ok0 rfl rfl rfl rfl ?_
    have ok1 : Ok0 H (keys [(x7, oc ty_hazard_Table [.int .i64 w, .int .i64 n])]) := ok0
    show wp Tryz.prog _ L (putL [(x7, oc ty_hazard_Table [.int .i64 w, .int .i64 n])] H) _
    refine p_ldA (l := [(x7, oc ty_hazard_Table [.int .i64 w, .int .i64 n])]) 0 ok1 rfl rfl rfl ?_
    exact ⟨H, gp_end ok1, rfl, rfl⟩
theorem gwords_ep (w n : Int) : opS Tryz.prog (.call { callee := .invoke (.tmp 0) "magpie/guard.words", args := #[], argTypes := #[] }) ty_int [gmode true w n] = .pure (.enter f_guard_epochs_words [.agg #[.int .i64 w, .int .i64 n]].toArray) := by kernel_rfl
theorem gwords_ha (w n : Int) : opS Tryz.prog (.call { callee := .invoke (.tmp 0) "magpie/guard.words", args := #[], argTypes := #[] }) ty_int [gmode false w n] = .pure (.enter f_guard_hazards_words [.agg #[.int .i64 w, .int .i64 n]].toArray) := by kernel_rfl
theorem GRaw_det {w n : Int} (ep : Bool) (b : 0 ≤ w ∧ w ≤ 100000) (H : Heap) : Det Tryz.prog f_guard_Raw [.int .i64 w, .int .i64 n, .bool ep] H (.int .i64 (bif ep then 1 + w else 2 * w)) H := by
  refine t_guard_Raw_spec fun L => ?_
  unfold t_guard_Raw
  refine wp_call_det (x := gmode ep w n) (of_det ep b H) ?_
  have e1 : imax w 0 = w := by unfold imax; rw [if_neg (by omega)]
  cases ep with
  | true =>
    refine act_enter (gwords_ep w n) ?_
    refine wp_call_det (x := 1 + w) ?_ (wp_ret_of ⟨rfl, rfl⟩)
    refine t_guard_epochs_words_spec (p0_0 := w) (p0_1 := n) fun L => ?_
    unfold t_guard_epochs_words
    refine wp_newP fun b hb => ?_
    refine wp_ld_of (x := w) (by rw [Heap.cell_set]; rfl) ?_
    rw [e1, w64_in (by omega) (by omega)]
    exact ⟨H, Heap.le_set_new _ hb, rfl, rfl⟩
  | false =>
    refine act_enter (gwords_ha w n) ?_
    refine wp_call_det (x := 2 * w) ?_ (wp_ret_of ⟨rfl, rfl⟩)
    refine t_guard_hazards_words_spec (p0_0 := w) (p0_1 := n) fun L => ?_
    unfold t_guard_hazards_words
    refine wp_newP fun b hb => ?_
    refine wp_ld_of (x := w) (by rw [Heap.cell_set]; rfl) ?_
    rw [e1, w64_in (by omega) (by omega)]
    exact ⟨H, Heap.le_set_new _ hb, rfl, rfl⟩
end
section
variable {L : Hands} {R : Value → Heap → Prop} {A : Ar} {I : List Nat} {l l' : Bl} {G : Heap}
theorem SlAt.row {α : Type} {E : Enc α} {e : TypeId} {s : Sl} {xs : List α} (hA : Aw I A) (ok : Ok I G (keys l)) (h : SlAt l e E s xs) : Row (own A l G) s.a (E.all xs) := by
  rcases h with ⟨rfl, rfl⟩ | ⟨b, pre, rest, r, rfl, h2, h3⟩
  · intro i hi; simp [Enc.all] at hi
  · refine cell_row hA ok h3 pre.length ?_
    rw [List.append_assoc, List.drop_left, List.take_left]
theorem SlAt.nil (l : Bl) {α : Type} (e : TypeId) (E : Enc α) : SlAt l e E ⟨none, 0, 0⟩ [] := .inl ⟨rfl, rfl⟩
theorem rdA {s : Sl} {xs : List Int} {i : Int} {u : TypeId} {k : Int → Tree} (hA : Aw I A) (ok : Ok I G (keys l)) (hs : SlAt l ty_int eI s xs) (h0 : 0 ≤ i) (h1 : i < xs.length) (h : wp Tryz.prog (k (xs.getD i.toNat 0)) L (own A l G) R) :
    wp Tryz.prog (.look (opS Tryz.prog (.indexAddr ty_s_int (.tmp 0) (.tmp 1)) u [.slice s.a s.len s.cap, .int .i64 i]) (.one (.leaf .addr)) fun x => .ld x (.int .i64) k) L (own A l G) R := by
  rcases hs with ⟨rfl, rfl⟩ | ⟨b, pre, rest, r, rfl, h2, h3⟩
  · have : (([] : List Int).length : Int) = 0 := rfl
    omega
  · refine w_ixS (e := ty_int) rfl rfl rfl h0 h1 ?_
    refine w_ldm (x := xs.getD i.toNat 0) hA ok rfl h3 ?_ h
    have hl : i.toNat < xs.length := by omega
    rw [List.append_assoc, List.getElem?_append_right (by omega), eI_all, show pre.length + i.toNat - pre.length = i.toNat by omega, List.getElem?_append_left (by simpa using hl), List.getElem?_map, List.getElem?_eq_getElem hl]
    show some _ = _
    rw [List.getD_eq_getElem?_getD, List.getElem?_eq_getElem hl]; rfl
theorem SlAt.tailI {e : TypeId} {s : Sl} {x : Int} {xs : List Int} (h : SlAt l e eI s (x :: xs)) : SlAt l e eI (loSl s 1) xs ∧ (1 : Int) ≤ (s.len : Int) := by
  rcases h with ⟨_, h⟩ | ⟨b, pre, rest, r, rfl, h2, h3⟩
  · cases h
  · refine ⟨?_, by show (1 : Int) ≤ ((xs.length + 1 : Nat) : Int); omega⟩
    unfold loSl
    dsimp only
    by_cases e : (x :: xs).length + r = 1
    · rw [if_pos e]
      have hx : xs = [] := by simp only [List.length_cons] at e; exact List.eq_nil_of_length_eq_zero (by omega)
      have hr : r = 0 := by simp only [List.length_cons] at e; omega
      subst hx; subst hr
      exact .inr ⟨b, pre, eI.all [x] ++ rest, 0, rfl, by omega, by rw [show eI.all ([] : List Int) = [] from rfl, List.append_nil, ← List.append_assoc]; exact h3⟩
    · rw [if_neg e]
      refine .inr ⟨b, pre ++ [.int .i64 x], rest, r, ?_, h2, ?_⟩
      · show Sl.mk (some ((Addr.mk b pre.length none).add 1)) _ _ = _
        rw [Addr.add_mk, List.length_append]
        simp only [List.length_cons, List.length_nil, Sl.mk.injEq, true_and]
        omega
      · have : eI.all (x :: xs) = [.int .i64 x] ++ eI.all xs := rfl
        rw [this] at h3
        simpa using h3
end
structure Se where
  ws : List Int
  v : Int
structure SeJ where
  q : Nat
  s : Sl
  hb : Bl
def Se.bl (x : Se) (j : SeJ) : Bl := (j.q, oc ty_guard_sets [slV j.s, .int .i64 x.v]) :: j.hb
def Se.step (x : Se) (A : Ar) : Se × Ar :=
  match x.ws with
  | [] => (x, A)
  | w :: ws => ({ x with ws := ws }, A.storeR w x.v)
def mSe : MchR Se SeJ where
  f := f_guard_sets_Step
  addr := SeJ.q
  bl := Se.bl
  rep := fun x j => SlAt j.hb ty_int eI j.s x.ws
  inv := fun _ _ => True
  step := Se.step
  fin := fun x => decide (x.ws = [])
theorem mSe_inv : mSe.inv' ty_p_guard_sets := fun q p => by
  show opS _ _ _ _ = .pure (.enter f_guard_sets_Step [.pointer (some ⟨q, 0, none⟩), .pointer p].toArray)
  kernel_rfl
theorem SlAt.len0 {l : Bl} {s : Sl} (h : SlAt l ty_int eI s []) : s.len = 0 := by have := h.len; simpa using this
set_option maxHeartbeats 1000000 in
theorem mSe_ok : mSe.ok := by
  rintro I A G ⟨ws, v⟩ ⟨q, s, hb⟩ hA ok rp _
  have rp : SlAt hb ty_int eI s ws := rp
  have ok : Ok I G (keys ((q, oc ty_guard_sets [slV s, .int .i64 v]) :: hb)) := ok
  refine t_guard_sets_Step_spec fun L => ?_
  unfold t_guard_sets_Step
  show wp Tryz.prog _ L (own A ((q, oc ty_guard_sets [slV s, .int .i64 v]) :: hb) G) _
  have hl := rp.len
  refine wp_nil.2 (w_ld 0 (x := s) hA ok rfl rfl rfl ?_)
  cases ws with
  | nil =>
    have h0 : s.len = 0 := rp.len0
    refine wp_false (decide_eq_false (by omega)) ?_
    refine wp_nil.2 (w_ld 0 (x := s) hA ok rfl rfl rfl ?_)
    exact wp_ret_of ⟨⟨q, s, hb⟩, by rw [h0]; rfl, rfl, rfl, ok, rp, hA⟩
  | cons w ws =>
    obtain ⟨t1, t2⟩ := rp.tailI
    refine wp_true (decide_eq_true (by omega)) ?_
    refine wp_nil.2 (w_ld 0 (x := s) hA ok rfl rfl rfl ?_)
    rw [opS_ix0]
    refine rdA (xs := w :: ws) hA ok (rp.mono fun p hp => List.mem_cons_of_mem _ hp) (Int.le_refl 0) (by simp) ?_
    refine wp_nil.2 (w_ld 0 (x := v) hA ok rfl rfl rfl ?_)
    refine w_SetRaw hA fun hB => ?_
    refine wp_nil.2 (w_ld 0 (x := s) hB ok rfl rfl rfl ?_)
    rw [opS_lo1]
    refine w_cutLo (by omega) t2 ?_
    refine wp_nil.2 (w_st 0 hB ok rfl rfl rfl rfl ?_)
    have ok1 : Ok I G (keys ((q, oc ty_guard_sets [slV (loSl s 1), .int .i64 v]) :: hb)) := ok
    show wp Tryz.prog _ L (own (A.storeR w v) ((q, oc ty_guard_sets [slV (loSl s 1), .int .i64 v]) :: hb) G) _
    refine wp_nil.2 (w_ld 0 (x := loSl s 1) hB ok1 rfl rfl rfl ?_)
    refine wp_ret_of ⟨⟨q, loSl s 1, hb⟩, ?_, rfl, rfl, ok1, t1, hB⟩
    have hl1 := t1.len
    show Value.bool (((((loSl s 1).len : Nat) : Int)) == 0) = .bool (decide (ws = []))
    rw [hl1]
    cases ws with
    | nil => rfl
    | cons a b => simp; omega
section
variable {L : Hands} {R : Value → Heap → Prop} {G : Heap} {l rest : Bl} {A : Ar} {I : List Nat}
end
section
variable {L : Hands} {R : Value → Heap → Prop} {G : Heap} {l rest : Bl} {A : Ar} {I : List Nat} {g : Gd} {e : List LE} {q mq : Nat}
theorem w_GEnter {k : Int} {K : Value → Tree} (hA : Aw I A) (ok : Ok I G (keys (g.bl q mq e ++ rest)))
    (h1 : g.ep = true → ∀ z : Nat, Ok I G (keys (g.bl q mq e ++ ((newPn g.w g.ta k).bl z ++ rest))) → wp Tryz.prog (K (.iface ty_p_epoch_Pin (.pointer (some ⟨z, 0, none⟩)))) L (own A (g.bl q mq e ++ ((newPn g.w g.ta k).bl z ++ rest)) G) R)
    (h2 : g.ep = false → wp Tryz.prog (K .nilIface) L (own A (g.bl q mq e ++ rest) G) R) :
    wp Tryz.prog (.call f_guard_Guard_Enter [.pointer (some ⟨q, 0, none⟩), .int .i64 k] (.one (.leaf .val)) K) L (own A (g.bl q mq e ++ rest) G) R := by
  cases hp : g.ep with
  | true =>
    refine wp_call_of (R0 := fun v H => ∃ z, v = .iface ty_p_epoch_Pin (.pointer (some ⟨z, 0, none⟩)) ∧ H = own A (g.bl q mq e ++ ((newPn g.w g.ta k).bl z ++ rest)) G ∧ Ok I G (keys (g.bl q mq e ++ ((newPn g.w g.ta k).bl z ++ rest)))) ?_ ?_
    · refine t_guard_Guard_Enter_spec fun L => ?_
      unfold t_guard_Guard_Enter
      refine wp_nil.2 (w_ld 0 (x := gmode g.ep g.w g.ta) hA ok rfl rfl rfl ?_)
      rw [hp]
      refine look_val (x := ((g.w, g.ta, ()), true, ())) (ta_epT _ _ _) (wp_true rfl ?_)
      refine w_newP (c := [.int .i64 0, .int .i64 0]) hA ok fun x5 ok1 => ?_
      refine w_stA 0 hA ok1 rfl rfl rfl rfl ?_
      have ok1 : Ok I G (keys ((x5, oc ty_guard_epochs [.int .i64 g.w, .int .i64 g.ta]) :: (g.bl q mq e ++ rest))) := ok1
      show wp Tryz.prog _ L (own A ((x5, oc ty_guard_epochs [.int .i64 g.w, .int .i64 g.ta]) :: (g.bl q mq e ++ rest)) G) _
      refine w_ldA 0 hA ok1 rfl rfl rfl ?_
      refine w_NewPin (tw := g.w) (ta := g.ta) (work := k) hA ok1 fun z ok2 => ?_
      obtain ⟨p1, ok3⟩ := own_perm (A := A) (l' := (x5, oc ty_guard_epochs [.int .i64 g.w, .int .i64 g.ta]) :: (g.bl q mq e ++ ((newPn g.w g.ta k).bl z ++ rest))) ok2 (perm_by fun c d c0 cd ca => by simp only [cd, ca]; omega)
      rw [p1]
      exact ⟨_, own_sub ok3 ((List.nodup_cons.1 ok3.nd).2) (fun p hp => List.mem_cons_of_mem _ hp), z, rfl, rfl, ok3.sub ((List.nodup_cons.1 ok3.nd).2) fun b hb => List.mem_cons_of_mem _ hb⟩
    · rintro v H ⟨z, rfl, rfl, o⟩
      exact ⟨_, rfl, h1 hp z o⟩
  | false =>
    refine wp_call_det (x := .nilIface) (H' := own A (g.bl q mq e ++ rest) G) ?_ (h2 hp)
    refine t_guard_Guard_Enter_spec fun L => ?_
    unfold t_guard_Guard_Enter
    refine wp_nil.2 (w_ld 0 (x := gmode g.ep g.w g.ta) hA ok rfl rfl rfl ?_)
    rw [hp]
    refine look_val (x := ((0, 0, ()), false, ())) (ta_epF _ _ _) (wp_false rfl ?_)
    exact wp_ret_of ⟨rfl, rfl⟩
theorem w_GProtect {k n v : Int} {K : Value → Tree} (b : 0 ≤ g.ta ∧ g.ta ≤ 1000000 ∧ 0 ≤ k ∧ k ≤ 1000 ∧ 0 ≤ n ∧ n ≤ 1000) (hA : Aw I A) (ok : Ok I G (keys (g.bl q mq e ++ rest)))
    (h1 : g.ep = false → ∀ j : SeJ, Ok I G (keys (g.bl q mq e ++ (Se.bl ⟨[g.ta + 2 * k + n], v⟩ j ++ rest))) → mSe.rep ⟨[g.ta + 2 * k + n], v⟩ j → wp Tryz.prog (K (.iface ty_p_guard_sets (.pointer (some ⟨j.q, 0, none⟩)))) L (own A (g.bl q mq e ++ (Se.bl ⟨[g.ta + 2 * k + n], v⟩ j ++ rest)) G) R)
    (h2 : g.ep = true → wp Tryz.prog (K .nilIface) L (own A (g.bl q mq e ++ rest) G) R) :
    wp Tryz.prog (.call f_guard_Guard_Protect [.pointer (some ⟨q, 0, none⟩), .int .i64 k, .int .i64 n, .int .i64 v] (.one (.leaf .val)) K) L (own A (g.bl q mq e ++ rest) G) R := by
  cases hp : g.ep with
  | false =>
    refine wp_call_of (R0 := fun u H => ∃ j : SeJ, u = .iface ty_p_guard_sets (.pointer (some ⟨j.q, 0, none⟩)) ∧ H = own A (g.bl q mq e ++ (Se.bl ⟨[g.ta + 2 * k + n], v⟩ j ++ rest)) G ∧ Ok I G (keys (g.bl q mq e ++ (Se.bl ⟨[g.ta + 2 * k + n], v⟩ j ++ rest))) ∧ mSe.rep ⟨[g.ta + 2 * k + n], v⟩ j) ?_ ?_
    · refine t_guard_Guard_Protect_spec fun L => ?_
      unfold t_guard_Guard_Protect
      refine wp_nil.2 (w_ld 0 (x := gmode g.ep g.w g.ta) hA ok rfl rfl rfl ?_)
      rw [hp]
      refine look_val (x := ((0, 0, ()), false, ())) (ta_epF _ _ _) ?_
      refine w_newP (c := [.int .i64 0, .int .i64 0]) hA ok fun x9 ok1 => ?_
      refine w_stA 0 hA ok1 rfl rfl rfl rfl (wp_false rfl ?_)
      have ok1 : Ok I G (keys ((x9, oc ty_guard_epochs [.int .i64 0, .int .i64 0]) :: (g.bl q mq e ++ rest))) := ok1
      show wp Tryz.prog _ L (own A ((x9, oc ty_guard_epochs [.int .i64 0, .int .i64 0]) :: (g.bl q mq e ++ rest)) G) _
      refine wp_nil.2 (w_ld 1 (x := gmode g.ep g.w g.ta) hA ok1 rfl rfl rfl ?_)
      rw [hp]
      refine look_val (x := (g.w, g.ta, ())) (ta_ha _ _ _) ?_
      refine wq_Word (tw := g.w) (ta := g.ta) b ?_
      refine w_newS (c := [.int .i64 (g.ta + 2 * k + n)]) hA ok1 fun x29 ok2 => ?_
      refine w_newP (c := [slV ⟨some ⟨x29, 0, none⟩, 1, 1⟩, .int .i64 v]) hA ok2 fun x32 ok3 => ?_
      obtain ⟨p1, ok4⟩ := own_perm (A := A) (l' := (x9, oc ty_guard_epochs [.int .i64 0, .int .i64 0]) :: (g.bl q mq e ++ (Se.bl ⟨[g.ta + 2 * k + n], v⟩ ⟨x32, ⟨some ⟨x29, 0, none⟩, 1, 1⟩, [(x29, oc ty_int [.int .i64 (g.ta + 2 * k + n)])]⟩ ++ rest))) ok3 (perm_by fun c d c0 cd ca => by simp only [Se.bl, cd, ca, c0]; omega)
      rw [p1]
      exact ⟨_, own_sub ok4 ((List.nodup_cons.1 ok4.nd).2) (fun p hp => List.mem_cons_of_mem _ hp), ⟨x32, ⟨some ⟨x29, 0, none⟩, 1, 1⟩, [(x29, oc ty_int [.int .i64 (g.ta + 2 * k + n)])]⟩, rfl, rfl, ok4.sub ((List.nodup_cons.1 ok4.nd).2) fun b hb => List.mem_cons_of_mem _ hb, .inr ⟨x29, [], [], 0, rfl, (by show 0 * 1 ≤ 0; decide), List.mem_cons_self⟩⟩
    · rintro u H ⟨j, rfl, rfl, o, rp⟩
      exact ⟨_, rfl, h1 hp j o rp⟩
  | true =>
    refine wp_call_of (R0 := fun u H => u = .nilIface ∧ H = own A (g.bl q mq e ++ rest) G) ?_ ?_
    · refine t_guard_Guard_Protect_spec fun L => ?_
      unfold t_guard_Guard_Protect
      refine wp_nil.2 (w_ld 0 (x := gmode g.ep g.w g.ta) hA ok rfl rfl rfl ?_)
      rw [hp]
      refine look_val (x := ((g.w, g.ta, ()), true, ())) (ta_epT _ _ _) ?_
      refine w_newP (c := [.int .i64 0, .int .i64 0]) hA ok fun x9 ok1 => ?_
      refine w_stA 0 hA ok1 rfl rfl rfl rfl (wp_true rfl ?_)
      have ok1 : Ok I G (keys ((x9, oc ty_guard_epochs [.int .i64 g.w, .int .i64 g.ta]) :: (g.bl q mq e ++ rest))) := ok1
      show wp Tryz.prog _ L (own A ((x9, oc ty_guard_epochs [.int .i64 g.w, .int .i64 g.ta]) :: (g.bl q mq e ++ rest)) G) _
      exact ⟨_, own_sub ok1 ok.nd (fun p hp => List.mem_cons_of_mem _ hp), rfl, rfl⟩
    · rintro u H ⟨rfl, rfl⟩
      exact ⟨_, rfl, h2 hp⟩
def leaveW (g : Gd) (k : Int) : List Int := bif g.ep then [ewd g.ta k] else [g.ta + 2 * k, g.ta + 2 * k + 1]
set_option maxHeartbeats 1000000 in
theorem w_GLeave {k : Int} {K : Value → Tree} (b : 0 ≤ g.ta ∧ g.ta ≤ 1000000 ∧ 0 ≤ k ∧ k ≤ 1000) (hA : Aw I A) (ok : Ok I G (keys (g.bl q mq e ++ rest)))
    (h : ∀ (j : SeJ) (z : Bl), Ok I G (keys (g.bl q mq e ++ (Se.bl ⟨leaveW g k, 0⟩ j ++ (z ++ rest)))) → mSe.rep ⟨leaveW g k, 0⟩ j → wp Tryz.prog (K (.iface ty_p_guard_sets (.pointer (some ⟨j.q, 0, none⟩)))) L (own A (g.bl q mq e ++ (Se.bl ⟨leaveW g k, 0⟩ j ++ (z ++ rest))) G) R) :
    wp Tryz.prog (.call f_guard_Guard_Leave [.pointer (some ⟨q, 0, none⟩), .int .i64 k] (.one (.leaf .val)) K) L (own A (g.bl q mq e ++ rest) G) R := by
  refine wp_call_of (R0 := fun u H => ∃ (j : SeJ) (z : Bl), u = .iface ty_p_guard_sets (.pointer (some ⟨j.q, 0, none⟩)) ∧ H = own A (g.bl q mq e ++ (Se.bl ⟨leaveW g k, 0⟩ j ++ (z ++ rest))) G ∧ Ok I G (keys (g.bl q mq e ++ (Se.bl ⟨leaveW g k, 0⟩ j ++ (z ++ rest)))) ∧ mSe.rep ⟨leaveW g k, 0⟩ j) ?_ ?_
  · refine t_guard_Guard_Leave_spec fun L => ?_
    unfold t_guard_Guard_Leave
    refine wp_nil.2 (w_ld 0 (x := gmode g.ep g.w g.ta) hA ok rfl rfl rfl ?_)
    unfold leaveW
    cases hp : g.ep with
    | true =>
      refine look_val (x := ((g.w, g.ta, ()), true, ())) (ta_epT _ _ _) ?_
      refine w_newP (c := [.int .i64 0, .int .i64 0]) hA ok fun x5 ok1 => ?_
      refine w_stA 0 hA ok1 rfl rfl rfl rfl (wp_true rfl ?_)
      have ok1 : Ok I G (keys ((x5, oc ty_guard_epochs [.int .i64 g.w, .int .i64 g.ta]) :: (g.bl q mq e ++ rest))) := ok1
      show wp Tryz.prog _ L (own A ((x5, oc ty_guard_epochs [.int .i64 g.w, .int .i64 g.ta]) :: (g.bl q mq e ++ rest)) G) _
      refine w_ldA 0 hA ok1 rfl rfl rfl ?_
      refine wq_EWord (tw := g.w) (ta := g.ta) ?_
      refine w_newS (c := [.int .i64 (ewd g.ta k)]) hA ok1 fun x23 ok2 => ?_
      refine w_newP (c := [slV ⟨some ⟨x23, 0, none⟩, 1, 1⟩, .int .i64 0]) hA ok2 fun x25 ok3 => ?_
      obtain ⟨p1, ok4⟩ := own_perm (A := A) (l' := g.bl q mq e ++ (Se.bl ⟨[ewd g.ta k], 0⟩ ⟨x25, ⟨some ⟨x23, 0, none⟩, 1, 1⟩, [(x23, oc ty_int [.int .i64 (ewd g.ta k)])]⟩ ++ ([(x5, oc ty_guard_epochs [.int .i64 g.w, .int .i64 g.ta])] ++ rest))) ok3 (perm_by fun c d c0 cd ca => by simp only [Se.bl, cd, ca, c0]; omega)
      rw [p1]
      exact wp_ret_of ⟨⟨x25, ⟨some ⟨x23, 0, none⟩, 1, 1⟩, [(x23, oc ty_int [.int .i64 (ewd g.ta k)])]⟩, _, rfl, rfl, ok4, .inr ⟨x23, [], [], 0, rfl, (by show 0 * 1 ≤ 0; decide), List.mem_cons_self⟩⟩
    | false =>
      refine look_val (x := ((0, 0, ()), false, ())) (ta_epF _ _ _) ?_
      refine w_newP (c := [.int .i64 0, .int .i64 0]) hA ok fun x5 ok1 => ?_
      refine w_stA 0 hA ok1 rfl rfl rfl rfl (wp_false rfl ?_)
      have ok1 : Ok I G (keys ((x5, oc ty_guard_epochs [.int .i64 0, .int .i64 0]) :: (g.bl q mq e ++ rest))) := ok1
      show wp Tryz.prog _ L (own A ((x5, oc ty_guard_epochs [.int .i64 0, .int .i64 0]) :: (g.bl q mq e ++ rest)) G) _
      refine wp_nil.2 (w_ld 1 (x := gmode g.ep g.w g.ta) hA ok1 rfl rfl rfl ?_)
      rw [hp]
      refine look_val (x := (g.w, g.ta, ())) (ta_ha _ _ _) ?_
      refine w_newP (c := [.int .i64 0, .int .i64 0]) hA ok1 fun x7 ok2 => ?_
      refine w_stA 0 hA ok2 rfl rfl rfl rfl ?_
      obtain ⟨pre, hpre⟩ : ∃ pre : Bl, pre = (x7, oc ty_guard_hazards [.int .i64 g.w, .int .i64 g.ta]) :: (x5, oc ty_guard_epochs [.int .i64 0, .int .i64 0]) :: (g.bl q mq e ++ rest) := ⟨_, rfl⟩
      have ok3 : Ok I G (keys (pre ++ [])) := by rw [List.append_nil, hpre]; exact ok2
      have es : own A ((x7, oc ty_guard_hazards [.int .i64 g.w, .int .i64 g.ta]) :: (x5, oc ty_guard_epochs [.int .i64 0, .int .i64 0]) :: (g.bl q mq e ++ rest)) G = own A (pre ++ []) G := by rw [List.append_nil, hpre]
      show wp Tryz.prog _ L (own A ((x7, oc ty_guard_hazards [.int .i64 g.w, .int .i64 g.ta]) :: (x5, oc ty_guard_epochs [.int .i64 0, .int .i64 0]) :: (g.bl q mq e ++ rest)) G) _
      rw [es]
      refine wl_si (fun s i K => 0 ≤ i ∧ i ≤ 2 ∧ ∃ tl, SlOf tl ty_int eI s ([g.ta + 2 * k, g.ta + 2 * k + 1].take i.toNat) ∧ Ok I G (keys (pre ++ tl)) ∧ K = own A (pre ++ tl) G) (fun _ i => (2 - i).toNat) ⟨none, 0, 0⟩ 0 ⟨by omega, by omega, [], .inl ⟨rfl, rfl⟩, ok3, rfl⟩ ?_
      rintro s i K ⟨i0, i1, tl, hs, ok4, rfl⟩
      rw [t_guard_Guard_Leave_L1]
      by_cases d : i < 2
      · refine wp_true (decide_eq_true d) ?_
        have hi0 : (pre ++ tl)[0]? = some (x7, oc ty_guard_hazards [.int .i64 g.w, .int .i64 g.ta]) := by rw [hpre]; rfl
        refine w_ldA 0 hA ok4 rfl hi0 rfl ?_
        refine wq_Word (tw := g.w) (ta := g.ta) ⟨b.1, b.2.1, b.2.2.1, b.2.2.2, i0, (by show i ≤ 1000; omega)⟩ ?_
        refine w_app1 hA ok4 hs (by rw [List.length_take]; simp; omega) fun s' tl' hs' ok5 _ => ?_
        rw [w64_in (x := i + 1) (by omega) (by omega)]
        refine wp_again ⟨s', i + 1, rfl, ⟨by omega, by omega, tl', ?_, ok5, rfl⟩, by omega⟩
        have : i = 0 ∨ i = 1 := by omega
        rcases this with rfl | rfl
        · have e0 : g.ta + 2 * k + 0 = g.ta + 2 * k := Int.add_zero _
          rw [e0] at hs'; exact hs'
        · exact hs'
      · have hi : i = 2 := by omega
        subst hi
        refine wp_false (decide_eq_false d) ?_
        refine w_newP (c := [slV s, .int .i64 0]) hA ok4 fun x46 ok5 => ?_
        obtain ⟨p1, ok6⟩ := own_perm (A := A) (l' := g.bl q mq e ++ (Se.bl ⟨[g.ta + 2 * k, g.ta + 2 * k + 1], 0⟩ ⟨x46, s, tl⟩ ++ ([(x7, oc ty_guard_hazards [.int .i64 g.w, .int .i64 g.ta]), (x5, oc ty_guard_epochs [.int .i64 0, .int .i64 0])] ++ rest))) ok5 (perm_by fun c d c0 cd ca => by rw [hpre]; simp only [Se.bl, cd, ca, c0]; omega)
        rw [p1]
        exact wp_ret_of ⟨⟨x46, s, tl⟩, _, rfl, rfl, ok6, (by
          have hs : SlOf tl ty_int eI s [g.ta + 2 * k, g.ta + 2 * k + 1] := hs
          show SlAt tl ty_int eI s [g.ta + 2 * k, g.ta + 2 * k + 1]
          rcases hs with h | ⟨b, rest, r, rfl, h2, h3⟩
          · exact .inl h
          · exact .inr ⟨b, [], rest, r, rfl, by omega, h3⟩)⟩
  · rintro u H ⟨j, z, rfl, rfl, o, rp⟩
    exact ⟨_, rfl, h j z o rp⟩
end
theorem take_fst {xs : List (Int × Int)} {n : Nat} (h : n < xs.length) : (xs.map Prod.fst).take (n + 1) = (xs.map Prod.fst).take n ++ [(xs.getD n (0, 0)).1] := by
  rw [List.take_succ_eq_append_getElem (by simpa using h)]
  simp [List.getD, List.getElem?_eq_getElem h]
section
variable {L : Hands} {R : Value → Heap → Prop} {G : Heap} {l rest : Bl} {A : Ar} {I : List Nat}
theorem w_handles {s : Sl} {xs : List (Int × Int)} {K : Sl → Tree} (hA : Aw I A) (ok : Ok I G (keys l)) (hs : SlOf l ty_epoch_Limbo eL s xs) (hm : xs.length ≤ 1000)
    (h : ∀ s' tl, SlOf tl ty_int eI s' (xs.map Prod.fst) → Ok I G (keys (l ++ tl)) → wp Tryz.prog (K s') L (own A (l ++ tl) G) R) :
    wp Tryz.prog (.call f_guard_handles [.slice s.a s.len s.cap] (.one (.leaf .slice)) K) L (own A l G) R := by
  refine wp_call_of (R0 := fun v H => ∃ s' tl, v = .slice s'.a s'.len s'.cap ∧ H = own A (l ++ tl) G ∧ SlOf tl ty_int eI s' (xs.map Prod.fst) ∧ Ok I G (keys (l ++ tl))) ?_ ?_
  · refine t_guard_handles_spec (p0 := s) fun L => ?_
    unfold t_guard_handles
    have hl := hs.len
    have es : own A l G = own A (l ++ []) G := by rw [List.append_nil]
    rw [es]
    refine wl_si (fun s' i H => 0 ≤ i ∧ i ≤ xs.length ∧ ∃ tl, SlOf tl ty_int eI s' ((xs.map Prod.fst).take i.toNat) ∧ Ok I G (keys (l ++ tl)) ∧ H = own A (l ++ tl) G) (fun _ i => (xs.length - i).toNat) ⟨none, 0, 0⟩ 0 ⟨by omega, by omega, [], .inl ⟨rfl, rfl⟩, by rw [List.append_nil]; exact ok, rfl⟩ ?_
    rintro s' i K ⟨i0, i1, tl, hs', ok4, rfl⟩
    rw [t_guard_handles_L1]
    by_cases d : i < xs.length
    · refine wp_true (decide_eq_true (by show i < ((s.len : Nat) : Int); rw [hl]; exact d)) ?_
      refine w_rdL hA ok4 (hs.mono fun p hp => List.mem_append_left _ hp) i0 d ?_
      refine w_newP (c := [.int .i64 0, .int .i64 0]) hA ok4 fun x5 ok5 => ?_
      refine w_stA 0 hA ok5 rfl rfl rfl rfl ?_
      obtain ⟨y, hy⟩ : ∃ y : Nat × Obj, y = (x5, oc ty_epoch_Limbo [.int .i64 (xs.getD i.toNat (0, 0)).1, .int .i64 (xs.getD i.toNat (0, 0)).2]) := ⟨_, rfl⟩
      have ok5 : Ok I G (keys ((y :: l) ++ tl)) := by rw [hy]; exact ok5
      have ee : ((x5, oc ty_epoch_Limbo [.int .i64 (xs.getD i.toNat (0, 0)).1, .int .i64 (xs.getD i.toNat (0, 0)).2]) :: l) ++ tl = (y :: l) ++ tl := by rw [hy]
      show wp Tryz.prog _ _ (own A (((x5, oc ty_epoch_Limbo [.int .i64 (xs.getD i.toNat (0, 0)).1, .int .i64 (xs.getD i.toNat (0, 0)).2]) :: l) ++ tl) G) _
      rw [ee]
      refine w_ld 0 (x := (xs.getD i.toNat (0, 0)).1) hA ok5 rfl (by rw [hy]; rfl) rfl ?_
      refine w_app1 hA ok5 hs' (by simp; omega) fun s2 tl2 hs2 ok6 _ => ?_
      obtain ⟨p1, ok7⟩ := own_perm (A := A) (l' := l ++ (y :: tl2)) ok6 (perm_by fun c d c0 cd ca => by simp only [List.cons_append, cd, ca]; omega)
      rw [w64_in (x := i + 1) (by omega) (by omega), p1]
      refine wp_again ⟨s2, i + 1, rfl, ⟨by omega, by omega, y :: tl2, ?_, ok7, rfl⟩, by omega⟩
      rw [show (i + 1).toNat = i.toNat + 1 by omega, take_fst (by omega)]
      exact hs2.mono fun p hp => List.mem_cons_of_mem _ hp
    · have hi : i = xs.length := by omega
      refine wp_false (decide_eq_false (by show ¬ i < ((s.len : Nat) : Int); rw [hl]; exact d)) ?_
      refine wp_ret_of ⟨s', tl, rfl, rfl, ?_, ok4⟩
      have e1 : (xs.map Prod.fst).take i.toNat = xs.map Prod.fst := List.take_of_length_le (by rw [List.length_map]; omega)
      rw [e1] at hs'; exact hs'
  · rintro v H ⟨s', tl, rfl, rfl, a, b⟩
    exact ⟨_, rfl, h s' tl a b⟩
end
inductive In where
  | no
  | tn (m : Tn)
  | sc (m : Sc)
def In.bl : In → TnJ → ScJ → Bl
  | .no, _, _ => []
  | .tn m, t, _ => m.bl t
  | .sc m, _, s => m.bl s
def In.val : In → TnJ → ScJ → Value
  | .no, _, _ => .nilIface
  | .tn m, t, _ => .iface ty_p_epoch_Turn (.pointer (some ⟨t.q, 0, none⟩))
  | .sc m, _, s => .iface ty_p_hazard_Scan (.pointer (some ⟨s.q, 0, none⟩))
def In.rep : In → TnJ → ScJ → Prop
  | .no, _, _ => True
  | .tn m, t, _ => m.rep t
  | .sc m, _, s => m.rep s
structure Lk where
  g : Gd
  ls : Int → List (Int × Int)
  work : Int
  first : Bool
  times : Int
  m : In
structure LkJ where
  q : Nat
  gq : Nat
  mq : Nat
  e : List LE
  tj : TnJ
  sj : ScJ
  gar : Bl
def lkC (gq : Nat) (work : Int) (first : Bool) (times : Int) (v : Value) : List Value := [.pointer (some ⟨gq, 0, none⟩), .int .i64 work, .bool first, .int .i64 times, v]
def Lk.bl (x : Lk) (j : LkJ) : Bl := (j.q, oc ty_guard_look (lkC j.gq x.work x.first x.times (x.m.val j.tj j.sj))) :: (x.g.bl j.gq j.mq j.e ++ (x.m.bl j.tj j.sj ++ j.gar))
structure Lk.rep (x : Lk) (j : LkJ) : Prop where
  le : leOk j.e
  ls : ∀ k, (leGet j.e k).xs = x.ls k
  m : x.m.rep j.tj j.sj
def Lk.begin (x : Lk) : Lk := { x with times := w64 (x.times - 1), m := if x.g.ep = true then .tn (newTn x.g.w x.g.ta x.g.pl x.work (x.ls x.work)) else .sc (newSc x.g.w x.g.ta x.g.pl x.work ((x.ls x.work).map Prod.fst)) }
theorem leB_mem : ∀ {e : List LE} {k : Int} {p : Nat × Obj}, p ∈ (leGet e k).hb → p ∈ leB e
  | [], k, p, h => by cases h
  | x :: e, k, p, h => by
    show p ∈ x.hb ++ leB e
    unfold leGet at h
    split at h
    · exact List.mem_append_left _ h
    · exact List.mem_append_right _ (leB_mem h)
section
variable {L : Hands} {R : Value → Heap → Prop} {G : Heap} {l rest : Bl} {A : Ar} {I : List Nat}
theorem w_lk {e : List LE} {k : Int} {mq : Nat} {K : Sl → Tree} (ix : Nat) (hA : Aw I A) (ok : Ok I G (keys l)) (hi : l[ix]? = some (mq, mapObj slV (leC e)))
    (h : wp Tryz.prog (K (leGet e k).s) L (own A l G) R) :
    wp Tryz.prog (.look (opS Tryz.prog (.lookup ty_m_int_s_epoch_Limbo (.tmp 0) (.tmp 1) false) ty_s_epoch_Limbo [(.map (some mq)), (.int .i64 k)]) (.one (.leaf .slice)) K) L (own A l G) R :=
  w_lookup ix (enc := slV) (c := leC e) (y := (leGet e k).s) hA ok hi rfl rfl rfl rfl (by have h := leC_get e k; revert h; cases alGet (leC e) k <;> exact fun h => h) h
end
section
variable {L : Hands} {R : Value → Heap → Prop} {G : Heap} {l rest : Bl} {A : Ar} {I : List Nat}
theorem w_ckAo (i : Nat) {a : Addr} {b n m : Nat} {T : TypeId} {c : List Value} {v : Value} {t : Tree} (hA : Aw I A) (ok : Ok I G (keys l)) (ha : a = ⟨b, n, none⟩) (hi : l[i]? = some (b, oc T c)) (hn : n + m ≤ c.length) (hv : v = .agg (c.toArray.extract n (n + m))) (h : wp Tryz.prog t L (own A l G) R) :
    wp Tryz.prog (.check (ldAS a m 0 #[]) v t) L (own A l G) R := by
  subst ha; subst hv
  refine ⟨?_, h⟩
  rw [ldAS_eq]
  refine ldK_still (own_get hA ok hi) _ 0 #[] (by simpa using hn) ?_
  show (Value.agg (#[] ++ c.toArray.extract (n + 0) (n + 0 + m)) : Value) = _
  simp
def LkB (x : Lk) (j : LkJ) (Q : Lk) (A : Ar) (I : List Nat) (G : Heap) : Value → Heap → Prop := fun v K => ∃ j' : LkJ, v = .tuple #[] ∧ K = own A (Q.bl j') G ∧ j'.q = j.q ∧ j'.gq = j.gq ∧ j'.mq = j.mq ∧ Ok I G (keys (Q.bl j')) ∧ Q.rep j'
set_option maxHeartbeats 1000000 in
theorem begin_spec (x : Lk) (j : LkJ) (hA : Aw I A) (ok : Ok I G (keys (x.bl j))) (rp : x.rep j) (hn : x.m = .no) (hl : (x.ls x.work).length ≤ 1000) :
    SpecF Tryz.prog f_guard_look_begin #[.pointer (some ⟨j.q, 0, none⟩)] (own A (x.bl j) G) (LkB x j x.begin A I G) := by
  refine t_guard_look_begin_spec fun L => ?_
  unfold t_guard_look_begin
  obtain ⟨g, ls, work, first, times, m⟩ := x
  have hn : m = .no := hn
  subst hn
  obtain ⟨q, gq, mq, e, tj, sj, gar⟩ := j
  have hl : (ls work).length ≤ 1000 := hl
  have ok : Ok I G (keys ((q, oc ty_guard_look (lkC gq work first times .nilIface)) :: (gq, oc ty_guard_Guard (g.cells mq)) :: (mq, mapObj slV (leC e)) :: (leB e ++ gar))) := ok
  show wp Tryz.prog _ L (own A ((q, oc ty_guard_look (lkC gq work first times .nilIface)) :: (gq, oc ty_guard_Guard (g.cells mq)) :: (mq, mapObj slV (leC e)) :: (leB e ++ gar)) G) _
  have hs0 : SlOf (leGet e work).hb ty_epoch_Limbo eL (leGet e work).s (leGet e work).xs := rp.le work
  rw [rp.ls work] at hs0
  have hs0 : SlOf (leGet e work).hb ty_epoch_Limbo eL (leGet e work).s (ls work) := hs0
  refine wp_nil.2 (w_ld 0 (x := some ⟨gq, 0, none⟩) hA ok rfl rfl rfl ?_)
  refine wp_nil.2 (w_ld 1 (x := gmode g.ep g.w g.ta) hA ok rfl rfl rfl ?_)
  cases hp : g.ep with
  | true =>
    have hb : Lk.begin ⟨g, ls, work, first, times, .no⟩ = ⟨g, ls, work, first, w64 (times - 1), .tn (newTn g.w g.ta g.pl work (ls work))⟩ := by unfold Lk.begin; rw [if_pos hp]
    rw [hb]
    refine look_val (x := ((g.w, g.ta, ()), true, ())) (ta_epT _ _ _) (wp_true rfl ?_)
    refine w_newP (c := [.int .i64 0, .int .i64 0]) hA ok fun x2 ok1 => ?_
    refine w_stA 0 hA ok1 rfl rfl rfl rfl ?_
    have ok1 : Ok I G (keys ((x2, oc ty_guard_epochs [.int .i64 g.w, .int .i64 g.ta]) :: (q, oc ty_guard_look (lkC gq work first times .nilIface)) :: (gq, oc ty_guard_Guard (g.cells mq)) :: (mq, mapObj slV (leC e)) :: (leB e ++ gar))) := ok1
    show wp Tryz.prog _ L (own A ((x2, oc ty_guard_epochs [.int .i64 g.w, .int .i64 g.ta]) :: (q, oc ty_guard_look (lkC gq work first times .nilIface)) :: (gq, oc ty_guard_Guard (g.cells mq)) :: (mq, mapObj slV (leC e)) :: (leB e ++ gar)) G) _
    refine w_ldA 0 hA ok1 rfl rfl rfl ?_
    refine wp_nil.2 (w_ld 1 (x := some ⟨gq, 0, none⟩) hA ok1 rfl rfl rfl ?_)
    refine wp_nil.2 (w_ldA 2 hA ok1 rfl rfl rfl ?_)
    refine wp_nil.2 (w_ld 1 (x := work) hA ok1 rfl rfl rfl ?_)
    refine wp_nil.2 (w_ld 1 (x := some ⟨gq, 0, none⟩) hA ok1 rfl rfl rfl ?_)
    refine wp_nil.2 (w_ld 2 (x := some mq) hA ok1 rfl rfl rfl ?_)
    refine wp_nil.2 (w_ld 1 (x := work) hA ok1 rfl rfl rfl ?_)
    refine w_lk 3 hA ok1 rfl ?_
    refine w_NewTurn (tw := g.w) (ta := g.ta) (p := g.pl) (work := work) (xs := ls work) hA ok1 (hs0.mono fun p hp => List.mem_cons_of_mem _ (List.mem_cons_of_mem _ (List.mem_cons_of_mem _ (List.mem_cons_of_mem _ (List.mem_append_left _ (leB_mem hp)))))) hl fun t ok2 rt => ?_
    obtain ⟨p1, ok3⟩ := own_perm (A := A) (l' := (q, oc ty_guard_look (lkC gq work first times .nilIface)) :: (gq, oc ty_guard_Guard (g.cells mq)) :: (mq, mapObj slV (leC e)) :: (leB e ++ ((newTn g.w g.ta g.pl work (ls work)).bl t ++ ((x2, oc ty_guard_epochs [.int .i64 g.w, .int .i64 g.ta]) :: gar)))) ok2 (perm_by fun c d c0 cd ca => by simp only [cd, ca]; omega)
    rw [p1]
    refine wp_nil.2 (w_st 0 hA ok3 rfl rfl rfl rfl ?_)
    refine wp_nil.2 (w_ld 0 (x := times) hA (by exact ok3) rfl rfl rfl ?_)
    refine wp_nil.2 (w_st 0 hA (by exact ok3) rfl rfl rfl rfl ?_)
    exact wp_ret_of ⟨⟨q, gq, mq, e, t, sj, (x2, oc ty_guard_epochs [.int .i64 g.w, .int .i64 g.ta]) :: gar⟩, rfl, rfl, rfl, rfl, rfl, ok3, ⟨rp.le, rp.ls, rt⟩⟩
  | false =>
    have hb : Lk.begin ⟨g, ls, work, first, times, .no⟩ = ⟨g, ls, work, first, w64 (times - 1), .sc (newSc g.w g.ta g.pl work ((ls work).map Prod.fst))⟩ := by unfold Lk.begin; rw [if_neg (by rw [hp]; decide)]
    rw [hb]
    refine look_val (x := ((0, 0, ()), false, ())) (ta_epF _ _ _) (wp_false rfl ?_)
    refine look_val (x := ((g.w, g.ta, ()), true, ())) (ta_haT _ _ _) (wp_true rfl ?_)
    refine w_newP (c := [.int .i64 0, .int .i64 0]) hA ok fun x2 ok1 => ?_
    refine w_stA 0 hA ok1 rfl rfl rfl rfl ?_
    have ok1 : Ok I G (keys ((x2, oc ty_guard_hazards [.int .i64 g.w, .int .i64 g.ta]) :: (q, oc ty_guard_look (lkC gq work first times .nilIface)) :: (gq, oc ty_guard_Guard (g.cells mq)) :: (mq, mapObj slV (leC e)) :: (leB e ++ gar))) := ok1
    show wp Tryz.prog _ L (own A ((x2, oc ty_guard_hazards [.int .i64 g.w, .int .i64 g.ta]) :: (q, oc ty_guard_look (lkC gq work first times .nilIface)) :: (gq, oc ty_guard_Guard (g.cells mq)) :: (mq, mapObj slV (leC e)) :: (leB e ++ gar)) G) _
    refine w_ldA 0 hA ok1 rfl rfl rfl ?_
    refine wp_nil.2 (w_ld 1 (x := some ⟨gq, 0, none⟩) hA ok1 rfl rfl rfl ?_)
    refine wp_nil.2 (w_ldA 2 hA ok1 rfl rfl rfl ?_)
    refine wp_nil.2 (w_ld 1 (x := work) hA ok1 rfl rfl rfl ?_)
    refine wp_nil.2 (w_ld 1 (x := some ⟨gq, 0, none⟩) hA ok1 rfl rfl rfl ?_)
    refine wp_nil.2 (w_ld 2 (x := some mq) hA ok1 rfl rfl rfl ?_)
    refine wp_nil.2 (w_ld 1 (x := work) hA ok1 rfl rfl rfl ?_)
    refine w_lk 3 hA ok1 rfl ?_
    refine w_handles hA ok1 (hs0.mono fun p hp => List.mem_cons_of_mem _ (List.mem_cons_of_mem _ (List.mem_cons_of_mem _ (List.mem_cons_of_mem _ (List.mem_append_left _ (leB_mem hp)))))) hl fun s' tl hs' ok1 => ?_
    refine w_ck 1 hA ok1 rfl rfl rfl ?_
    refine w_ckn rfl ?_
    refine w_ckAo 2 hA ok1 rfl rfl (by show 1 + 5 ≤ 8; decide) rfl ?_
    refine w_ckn rfl ?_
    refine w_ck 1 hA ok1 rfl rfl rfl ?_
    refine w_ckn rfl ?_
    refine w_ckAo 0 hA ok1 rfl rfl (by show 0 + 2 ≤ 2; decide) rfl ?_
    refine w_NewScan (tw := g.w) (ta := g.ta) (p := g.pl) (work := work) (xs := (ls work).map Prod.fst) hA ok1 (SlOf.row hA ok1 (hs'.mono fun p hp => List.mem_append_right _ hp)) hs'.len (by rw [List.length_map]; exact hl) fun t ok2 rt => ?_
    obtain ⟨p1, ok3⟩ := own_perm (A := A) (l' := (q, oc ty_guard_look (lkC gq work first times .nilIface)) :: (gq, oc ty_guard_Guard (g.cells mq)) :: (mq, mapObj slV (leC e)) :: (leB e ++ ((newSc g.w g.ta g.pl work ((ls work).map Prod.fst)).bl t ++ ((x2, oc ty_guard_hazards [.int .i64 g.w, .int .i64 g.ta]) :: (tl ++ gar))))) ok2 (perm_by fun c d c0 cd ca => by simp only [List.cons_append, List.append_assoc, cd, ca]; omega)
    rw [p1]
    refine wp_nil.2 (w_st 0 hA ok3 rfl rfl rfl rfl ?_)
    refine wp_nil.2 (w_ld 0 (x := times) hA (by exact ok3) rfl rfl rfl ?_)
    refine wp_nil.2 (w_st 0 hA (by exact ok3) rfl rfl rfl rfl ?_)
    exact wp_ret_of ⟨⟨q, gq, mq, e, tj, t, (x2, oc ty_guard_hazards [.int .i64 g.w, .int .i64 g.ta]) :: (tl ++ gar)⟩, rfl, rfl, rfl, rfl, rfl, ok3, ⟨rp.le, rp.ls, rt⟩⟩
end
def setL (f : Int → List (Int × Int)) (k : Int) (xs : List (Int × Int)) : Int → List (Int × Int) := fun i => if i = k then xs else f i
theorem setL_same (f : Int → List (Int × Int)) (k : Int) (xs : List (Int × Int)) : setL f k xs k = xs := if_pos rfl
theorem setL_ne (f : Int → List (Int × Int)) {k i : Int} (xs : List (Int × Int)) (h : i ≠ k) : setL f k xs i = f i := if_neg h
def In.gone : In → List (Int × Int)
  | .no => []
  | .tn m => m.left
  | .sc m => m.left.map fun h => (h, 0)
def In.fin : In → Bool
  | .no => false
  | .tn m => decide (4 ≤ m.ph)
  | .sc m => m.ended
def Lk.end_ (x : Lk) : Lk := { x with m := .no, ls := setL x.ls x.work x.m.gone }
theorem ta_mTT (q : Option Addr) (u : TypeId) : opS Tryz.prog (.typeAssert (.tmp 0) ty_guard_Machine ty_p_epoch_Turn true) u [.iface ty_p_epoch_Turn (.pointer q)] = .pure (.value (.tuple #[.pointer q, .bool true])) := by kernel_rfl
theorem ta_mTF (q : Option Addr) (u : TypeId) : opS Tryz.prog (.typeAssert (.tmp 0) ty_guard_Machine ty_p_epoch_Turn true) u [.iface ty_p_hazard_Scan (.pointer q)] = .pure (.value (.tuple #[.pointer none, .bool false])) := by kernel_rfl
theorem ta_mST (q : Option Addr) (u : TypeId) : opS Tryz.prog (.typeAssert (.tmp 0) ty_guard_Machine ty_p_hazard_Scan true) u [.iface ty_p_hazard_Scan (.pointer q)] = .pure (.value (.tuple #[.pointer q, .bool true])) := by kernel_rfl
theorem lsPut {e : List LE} {ls : Int → List (Int × Int)} (h : ∀ k, (leGet e k).xs = ls k) (y : LE) : ∀ k, (leGet (lePut e y) k).xs = setL ls y.k y.xs k := fun k => by
  rw [leGet_put]
  unfold setL
  by_cases c : k = y.k
  · rw [if_pos c, if_pos c]
  · rw [if_neg c, if_neg c]; exact h k
section
variable {L : Hands} {R : Value → Heap → Prop} {G : Heap} {l rest : Bl} {A : Ar} {I : List Nat}
theorem w_app1L {s : Sl} {xs : List (Int × Int)} {v w : Int} {k : Sl → Tree} {pre tl : Bl} (hA : Aw I A) (ok : Ok I G (keys (pre ++ tl))) (hs : SlOf tl ty_epoch_Limbo eL s xs) (hm : xs.length ≤ 1000000)
    (h : ∀ s' tl', SlOf tl' ty_epoch_Limbo eL s' (xs ++ [(v, w)]) → Ok I G (keys (pre ++ tl')) → wp Tryz.prog (k s') L (own A (pre ++ tl') G) R) :
    wp Tryz.prog (.newS (.cells #[.int .i64 v, .int .i64 w] ty_epoch_Limbo) 1 fun x => .act (opS Tryz.prog (.call { callee := .builtin .append, args := #[(.tmp 0), (.tmp 1)], argTypes := #[ty_s_epoch_Limbo, ty_s_epoch_Limbo] }) ty_s_epoch_Limbo [(.slice s.a s.len s.cap), (.slice x.a x.len x.cap)]) (.one (.leaf .slice)) k) L (own A (pre ++ tl) G) R := by
  refine w_newS (c := [.int .i64 v, .int .i64 w]) hA ok fun q ok1 => ?_
  have ok' : Ok I G (keys (((q, oc ty_epoch_Limbo [.int .i64 v, .int .i64 w]) :: pre) ++ tl)) := ok1
  show wp Tryz.prog _ L (own A (((q, oc ty_epoch_Limbo [.int .i64 v, .int .i64 w]) :: pre) ++ tl) G) R
  refine w_appT (E := eL) elL (ys := [(v, w)]) (t := ⟨some ⟨q, 0, none⟩, 1, 1⟩) hA ok' hs ?_ rfl (by simp; omega) fun s' tl' hs' ok2 ap => ?_
  · exact cell_row hA ok' List.mem_cons_self 0 rfl
  · obtain ⟨m3, m4⟩ := own_mid (A := A) ok2
    show wp Tryz.prog _ L (own A ((q, oc ty_epoch_Limbo [.int .i64 v, .int .i64 w]) :: (pre ++ tl')) G) R
    rw [m3]
    exact h s' _ (hs'.mono fun p hp => List.mem_cons_of_mem _ hp) m4
theorem w_mapS {e : List LE} {k : Int} {mq : Nat} {s : Sl} {u : TypeId} {K : Unit → Tree} (ix : Nat) (hA : Aw I A) (ok : Ok I G (keys l)) (hi : l[ix]? = some (mq, mapObj slV (leC e)))
    (h : wp Tryz.prog (K ()) L (own A (l.set ix (mq, mapObj slV (alPut (leC e) k s))) G) R) :
    wp Tryz.prog (.act (opS Tryz.prog (.mapUpdate ty_m_int_s_epoch_Limbo (.tmp 0) (.tmp 1) (.tmp 2)) u [(.map (some mq)), (.int .i64 k), (.slice s.a s.len s.cap)]) .unit K) L (own A l G) R :=
  w_mapPut ix (enc := slV) (c := leC e) (v := s) hA ok hi rfl rfl h
set_option maxHeartbeats 1000000 in
theorem keep_end {g : Gd} {e : List LE} {ls : Int → List (Int × Int)} {q gq mq : Nat} {work times : Int} {first : Bool} {v : Value} {gar : Bl} {s : Sl} {xs : List (Int × Int)} {tl : Bl} {j : LkJ} {x : Lk} (tj : TnJ) (sj : ScJ) (hx : x.end_ = ⟨g, setL ls work xs, work, first, times, .no⟩) (hj : j.q = q ∧ j.gq = gq ∧ j.mq = mq)
    (le : leOk e) (hls : ∀ k, (leGet e k).xs = ls k) (hs : SlOf tl ty_epoch_Limbo eL s xs) (hA : Aw I A)
    (ok : Ok I G (keys ((q, oc ty_guard_look (lkC gq work first times v)) :: (gq, oc ty_guard_Guard (g.cells mq)) :: (mq, mapObj slV (leC e)) :: (leB e ++ (tl ++ gar))))) :
    wp Tryz.prog (.act (opS Tryz.prog (.mapUpdate ty_m_int_s_epoch_Limbo (.tmp 0) (.tmp 1) (.tmp 2)) ty_unit [(.map (some mq)), (.int .i64 work), (.slice s.a s.len s.cap)]) .unit fun _ =>
    .look (opS Tryz.prog (.nilCheck (.tmp 0)) ty_unit [(.pointer (some ⟨q, 0, none⟩))]) (.one (.leaf .addr)) fun x56 =>
    .st (x56.add 4) .nilIface <|
    .ret (.tuple #[])) L (own A ((q, oc ty_guard_look (lkC gq work first times v)) :: (gq, oc ty_guard_Guard (g.cells mq)) :: (mq, mapObj slV (leC e)) :: (leB e ++ (tl ++ gar))) G) (LkB x j x.end_ A I G) := by
  obtain ⟨y, hy⟩ : ∃ y : LE, y = ⟨work, s, xs, tl⟩ := ⟨_, rfl⟩
  have eput : alPut (leC e) work s = leC (lePut e y) := by rw [leC_put, hy]
  refine w_mapS 2 hA ok rfl ?_
  rw [eput]
  have ok1 : Ok I G (keys ((q, oc ty_guard_look (lkC gq work first times v)) :: (gq, oc ty_guard_Guard (g.cells mq)) :: (mq, mapObj slV (leC (lePut e y))) :: (leB e ++ (tl ++ gar)))) := ok
  show wp Tryz.prog _ L (own A ((q, oc ty_guard_look (lkC gq work first times v)) :: (gq, oc ty_guard_Guard (g.cells mq)) :: (mq, mapObj slV (leC (lePut e y))) :: (leB e ++ (tl ++ gar))) G) _
  refine wp_nil.2 (w_st 0 hA ok1 rfl rfl rfl rfl ?_)
  have ok2 : Ok I G (keys ((q, oc ty_guard_look (lkC gq work first times .nilIface)) :: (gq, oc ty_guard_Guard (g.cells mq)) :: (mq, mapObj slV (leC (lePut e y))) :: (leB e ++ (tl ++ gar)))) := ok1
  show wp Tryz.prog _ L (own A ((q, oc ty_guard_look (lkC gq work first times .nilIface)) :: (gq, oc ty_guard_Guard (g.cells mq)) :: (mq, mapObj slV (leC (lePut e y))) :: (leB e ++ (tl ++ gar))) G) _
  obtain ⟨p1, ok3⟩ := own_perm (A := A) (l' := (q, oc ty_guard_look (lkC gq work first times .nilIface)) :: (gq, oc ty_guard_Guard (g.cells mq)) :: (mq, mapObj slV (leC (lePut e y))) :: (leB (lePut e y) ++ ((leGet e work).hb ++ gar))) ok2 (perm_by fun c d c0 cd ca => by
    have h1 := leB_c c0 ca e work
    have h2 := leB_put_c c0 ca e y
    have h3 : c y.hb = c tl := by rw [hy]
    have h4 : c (leRest e y.k) = c (leRest e work) := by rw [hy]
    simp only [cd, ca]; omega)
  rw [p1, hx]
  obtain ⟨j1, j2, j3⟩ := hj
  refine wp_ret_of ⟨⟨q, gq, mq, lePut e y, tj, sj, (leGet e work).hb ++ gar⟩, rfl, rfl, j1.symm, j2.symm, j3.symm, ok3, ⟨le.put (by rw [hy]; exact hs), ?_, trivial⟩⟩
  have := lsPut hls y
  rw [hy] at this ⊢
  exact this
set_option maxHeartbeats 1000000 in
theorem end_spec (x : Lk) (j : LkJ) (hA : Aw I A) (ok : Ok I G (keys (x.bl j))) (rp : x.rep j) (hf : x.m.fin = true) (hl : x.m.gone.length ≤ 1000) :
    SpecF Tryz.prog f_guard_look_end #[.pointer (some ⟨j.q, 0, none⟩)] (own A (x.bl j) G) (LkB x j x.end_ A I G) := by
  refine t_guard_look_end_spec fun L => ?_
  unfold t_guard_look_end
  obtain ⟨g, ls, work, first, times, m⟩ := x
  obtain ⟨q, gq, mq, e, tj, sj, gar⟩ := j
  cases m with
  | no => cases hf
  | tn m =>
    have hl : m.left.length ≤ 1000 := hl
    have hm : m.rep tj := rp.m
    have hf : 4 ≤ m.ph := of_decide_eq_true hf
    have ok : Ok I G (keys ((q, oc ty_guard_look (lkC gq work first times (.iface ty_p_epoch_Turn (.pointer (some ⟨tj.q, 0, none⟩))))) :: (gq, oc ty_guard_Guard (g.cells mq)) :: (mq, mapObj slV (leC e)) :: (leB e ++ (m.bl tj ++ gar)))) := ok
    show wp Tryz.prog _ L (own A ((q, oc ty_guard_look (lkC gq work first times (.iface ty_p_epoch_Turn (.pointer (some ⟨tj.q, 0, none⟩))))) :: (gq, oc ty_guard_Guard (g.cells mq)) :: (mq, mapObj slV (leC e)) :: (leB e ++ (m.bl tj ++ gar))) G) _
    refine wp_nil.2 (w_ld 0 (x := .iface ty_p_epoch_Turn (.pointer (some ⟨tj.q, 0, none⟩))) hA ok rfl rfl rfl ?_)
    refine look_val (x := (some ⟨tj.q, 0, none⟩, true, ())) (ta_mTT _ _) (wp_true rfl ?_)
    refine wp_nil.2 (w_ld 0 (x := some ⟨gq, 0, none⟩) hA ok rfl rfl rfl ?_)
    refine wp_nil.2 (w_ld 1 (x := some mq) hA ok rfl rfl rfl ?_)
    refine wp_nil.2 (w_ld 0 (x := work) hA ok rfl rfl rfl ?_)
    obtain ⟨p1, ok1⟩ := own_perm (A := A) (l' := m.bl tj ++ ((q, oc ty_guard_look (lkC gq work first times (.iface ty_p_epoch_Turn (.pointer (some ⟨tj.q, 0, none⟩))))) :: (gq, oc ty_guard_Guard (g.cells mq)) :: (mq, mapObj slV (leC e)) :: (leB e ++ gar))) ok (perm_by fun c d c0 cd ca => by simp only [cd, ca]; omega)
    rw [p1]
    refine w_TLeft hA ok1 hm hf hl fun s tl hs ok2 => ?_
    obtain ⟨p2, ok3⟩ := own_perm (A := A) (l' := (q, oc ty_guard_look (lkC gq work first times (.iface ty_p_epoch_Turn (.pointer (some ⟨tj.q, 0, none⟩))))) :: (gq, oc ty_guard_Guard (g.cells mq)) :: (mq, mapObj slV (leC e)) :: (leB e ++ (tl ++ (m.bl tj ++ gar)))) ok2 (perm_by fun c d c0 cd ca => by simp only [cd, ca]; omega)
    rw [p2]
    refine w_ck 0 hA ok3 rfl rfl rfl ?_
    refine w_ckn rfl ?_
    refine w_ck 1 hA ok3 rfl rfl rfl ?_
    refine w_ckn rfl ?_
    refine w_ck 0 hA ok3 rfl rfl rfl ?_
    refine w_ckn rfl ?_
    exact keep_end tj sj rfl ⟨rfl, rfl, rfl⟩ rp.le rp.ls hs hA ok3
  | sc m =>
    have hl : m.left.length ≤ 1000 := by have : (m.left.map fun h => (h, (0 : Int))).length ≤ 1000 := hl; rwa [List.length_map] at this
    have hm : m.rep sj := rp.m
    have hf : m.ended = true := hf
    have ok : Ok I G (keys ((q, oc ty_guard_look (lkC gq work first times (.iface ty_p_hazard_Scan (.pointer (some ⟨sj.q, 0, none⟩))))) :: (gq, oc ty_guard_Guard (g.cells mq)) :: (mq, mapObj slV (leC e)) :: (leB e ++ (m.bl sj ++ gar)))) := ok
    show wp Tryz.prog _ L (own A ((q, oc ty_guard_look (lkC gq work first times (.iface ty_p_hazard_Scan (.pointer (some ⟨sj.q, 0, none⟩))))) :: (gq, oc ty_guard_Guard (g.cells mq)) :: (mq, mapObj slV (leC e)) :: (leB e ++ (m.bl sj ++ gar))) G) _
    refine wp_nil.2 (w_ld 0 (x := .iface ty_p_hazard_Scan (.pointer (some ⟨sj.q, 0, none⟩))) hA ok rfl rfl rfl ?_)
    refine look_val (x := (none, false, ())) (ta_mTF _ _) (wp_false rfl ?_)
    refine look_val (x := (some ⟨sj.q, 0, none⟩, true, ())) (ta_mST _ _) (wp_true rfl ?_)
    obtain ⟨p1, ok1⟩ := own_perm (A := A) (l' := m.bl sj ++ ((q, oc ty_guard_look (lkC gq work first times (.iface ty_p_hazard_Scan (.pointer (some ⟨sj.q, 0, none⟩))))) :: (gq, oc ty_guard_Guard (g.cells mq)) :: (mq, mapObj slV (leC e)) :: (leB e ++ gar))) ok (perm_by fun c d c0 cd ca => by simp only [cd, ca]; omega)
    rw [p1]
    refine w_Left hA ok1 hm hf hl fun s tl hs ok2 => ?_
    have hsl := hs.len
    obtain ⟨pre, hpre⟩ : ∃ pre : Bl, pre = (q, oc ty_guard_look (lkC gq work first times (.iface ty_p_hazard_Scan (.pointer (some ⟨sj.q, 0, none⟩))))) :: (gq, oc ty_guard_Guard (g.cells mq)) :: (mq, mapObj slV (leC e)) :: (leB e ++ (tl ++ (m.bl sj ++ gar))) := ⟨_, rfl⟩
    obtain ⟨p2, ok3⟩ := own_perm (A := A) (l' := pre ++ []) ok2 (perm_by fun c d c0 cd ca => by rw [hpre]; simp only [List.append_nil, cd, ca]; omega)
    rw [p2]
    have hspre : SlOf pre ty_int eI s m.left := hs.mono fun p hp => by rw [hpre]; exact List.mem_cons_of_mem _ (List.mem_cons_of_mem _ (List.mem_cons_of_mem _ (List.mem_append_right _ (List.mem_append_left _ hp))))
    refine wl_si (fun s' i H => 0 ≤ i ∧ i ≤ m.left.length ∧ ∃ tl, SlOf tl ty_epoch_Limbo eL s' ((m.left.take i.toNat).map fun h => (h, 0)) ∧ Ok I G (keys (pre ++ tl)) ∧ H = own A (pre ++ tl) G) (fun _ i => (m.left.length - i).toNat) ⟨none, 0, 0⟩ 0 ⟨by omega, by omega, [], .inl ⟨rfl, rfl⟩, ok3, rfl⟩ ?_
    rintro s' i K ⟨i0, i1, tl', hs', ok4, rfl⟩
    rw [t_guard_look_end_L1]
    by_cases d : i < m.left.length
    · refine wp_true (decide_eq_true (by show i < ((s.len : Nat) : Int); rw [hsl]; exact d)) ?_
      refine rdA hA ok4 (hspre.mono fun p hp => List.mem_append_left _ hp).at' i0 d ?_
      refine w_app1L hA ok4 hs' (by simp; omega) fun s2 tl2 hs2 ok6 => ?_
      rw [w64_in (x := i + 1) (by omega) (by omega)]
      refine wp_again ⟨s2, i + 1, rfl, ⟨by omega, by omega, tl2, ?_, ok6, rfl⟩, by omega⟩
      rw [show (i + 1).toNat = i.toNat + 1 by omega]
      have e1 : (m.left.take (i.toNat + 1)).map (fun h => (h, (0 : Int))) = (m.left.take i.toNat).map (fun h => (h, (0 : Int))) ++ [(m.left.getD i.toNat 0, 0)] := by
        have hi : i.toNat < m.left.length := by omega
        rw [List.take_succ_eq_append_getElem hi, List.map_append]
        simp only [List.map_cons, List.map_nil, List.getD, List.getElem?_eq_getElem hi, Option.getD_some]
      rw [e1]; exact hs2
    · refine wp_false (decide_eq_false (by show ¬ i < ((s.len : Nat) : Int); rw [hsl]; exact d)) ?_
      have e1 : m.left.take i.toNat = m.left := List.take_of_length_le (by omega)
      rw [e1] at hs'
      have ok5 := ok4
      rw [hpre] at ok5 ⊢
      obtain ⟨p3, ok6⟩ := own_perm (A := A) (l' := (q, oc ty_guard_look (lkC gq work first times (.iface ty_p_hazard_Scan (.pointer (some ⟨sj.q, 0, none⟩))))) :: (gq, oc ty_guard_Guard (g.cells mq)) :: (mq, mapObj slV (leC e)) :: (leB e ++ (tl' ++ (tl ++ (m.bl sj ++ gar))))) ok5 (perm_by fun c d c0 cd ca => by simp only [List.cons_append, List.append_assoc, cd, ca]; omega)
      rw [p3]
      refine wp_nil.2 (w_ld 0 (x := some ⟨gq, 0, none⟩) hA ok6 rfl rfl rfl ?_)
      refine wp_nil.2 (w_ld 1 (x := some mq) hA ok6 rfl rfl rfl ?_)
      refine wp_nil.2 (w_ld 0 (x := work) hA ok6 rfl rfl rfl ?_)
      exact keep_end tj sj rfl ⟨rfl, rfl, rfl⟩ rp.le rp.ls hs' hA ok6
end
theorem neqMc (t : TypeId) (q : Nat) (u : TypeId) : opS Tryz.prog (.binOp .neq ty_guard_Machine (.tmp 0) (.const .nilIface) ty_guard_Machine) u [.iface t (.pointer (some ⟨q, 0, none⟩))] = .pure (.value (.bool true)) := by kernel_rfl
theorem neqMc0 (u : TypeId) : opS Tryz.prog (.binOp .neq ty_guard_Machine (.tmp 0) (.const .nilIface) ty_guard_Machine) u [.nilIface] = .pure (.value (.bool false)) := by kernel_rfl
theorem eqlMc0 (u : TypeId) : opS Tryz.prog (.binOp .eql ty_guard_Machine (.tmp 0) (.const .nilIface) ty_guard_Machine) u [.nilIface] = .pure (.value (.bool true)) := by kernel_rfl
theorem eqlMc (t : TypeId) (q : Nat) (u : TypeId) : opS Tryz.prog (.binOp .eql ty_guard_Machine (.tmp 0) (.const .nilIface) ty_guard_Machine) u [.iface t (.pointer (some ⟨q, 0, none⟩))] = .pure (.value (.bool false)) := by kernel_rfl
noncomputable def lkT2 (q : Nat) : Tree :=
  .look (opS Tryz.prog (.nilCheck (.tmp 0)) ty_unit [(.pointer (some ⟨q, 0, none⟩))]) (.one (.leaf .addr)) fun x78 =>
  .ld (x78.add 4) .val fun x80 =>
  .look (opS Tryz.prog (.binOp .eql ty_guard_Machine (.tmp 0) (.const .nilIface) ty_guard_Machine) ty_bool [x80]) (.one (.leaf .bool)) fun x81 =>
  bif x81 then (
    .look (opS Tryz.prog (.nilCheck (.tmp 0)) ty_unit [(.pointer (some ⟨q, 0, none⟩))]) (.one (.leaf .addr)) fun x84 =>
    .ld (x84.add 3) (.int .i64) fun x86 =>
    .ret (.bool ((x86 : Int) == 0)))
  else (
    .ret (.bool false))
noncomputable def lkT (q : Nat) (p1 : Option Addr) : Tree :=
  .look (opS Tryz.prog (.nilCheck (.tmp 0)) ty_unit [(.pointer (some ⟨q, 0, none⟩))]) (.one (.leaf .addr)) fun x63 =>
  .ld (x63.add 4) .val fun x65 =>
  .look (opS Tryz.prog (.binOp .neq ty_guard_Machine (.tmp 0) (.const .nilIface) ty_guard_Machine) ty_bool [x65]) (.one (.leaf .bool)) fun x66 =>
  bif x66 then (
    .look (opS Tryz.prog (.nilCheck (.tmp 0)) ty_unit [(.pointer (some ⟨q, 0, none⟩))]) (.one (.leaf .addr)) fun x69 =>
    .ld (x69.add 4) .val fun x71 =>
    .act (opS Tryz.prog (.call { callee := .invoke (.tmp 0) "Step", args := #[(.tmp 1)], argTypes := #[ty_p_arena_Arena] }) ty_bool [x71, (.pointer p1)]) (.one (.leaf .bool)) fun x73 =>
    bif x73 then (
      .call f_guard_look_end [(.pointer (some ⟨q, 0, none⟩))] .unit fun _ => lkT2 q)
    else (lkT2 q))
  else (lkT2 q)
def Lk.fin (x : Lk) : Bool := match x.m with
  | .no => x.times == 0
  | _ => false
def Lk.go (x : Lk) : Lk := match x.m with
  | .no => if 0 < x.times then x.begin else x
  | _ => x
def In.step : In → Ar → In × Ar
  | .no, A => (.no, A)
  | .tn m, A => (.tn (m.step A).1, (m.step A).2)
  | .sc m, A => (.sc (m.step A).1, (m.step A).2)
def In.inv : In → Ar → Prop
  | .no, _ => True
  | .tn m, A => m.inv A ∧ m.left.length ≤ 1000
  | .sc m, A => m.inv A ∧ m.left.length ≤ 1000
def setLast (xs : List (Int × Int)) (v : Int) : List (Int × Int) := xs.set (xs.length - 1) ((xs.getD (xs.length - 1) (0, 0)).1, v)
def Lk.mid (y : Lk) (A : Ar) : Lk × Ar := (if (y.m.step A).1.fin = true then Lk.end_ { y with m := (y.m.step A).1 } else { y with m := (y.m.step A).1 }, (y.m.step A).2)
def Lk.step (x : Lk) (A : Ar) : Lk × Ar :=
  if x.first = true then ({ x with first := false, ls := setL x.ls x.work (setLast (x.ls x.work) (A.rawF x.g.ta)) }, A.touchR x.g.ta)
  else x.go.mid A
theorem Tn.left_step (m : Tn) (A : Ar) (h : m.l.length ≤ 1000) (h2 : m.left.length ≤ 1000) : (m.step A).1.left.length ≤ 1000 := by
  have hs : ∀ m : Tn, m.l.length ≤ 1000 → m.sort.left.length ≤ 1000 := fun m h => by
    show ((m.l.take m.l.length).filter _).length ≤ 1000
    exact Nat.le_trans (List.length_filter_le _ _) (by rw [List.take_length]; exact h)
  unfold Tn.step
  split
  · exact h2
  · split
    · show (if _ then Tn.sort _ else _ : Tn).left.length ≤ 1000
      split
      · exact hs _ h
      · exact h2
    · split
      · show (if _ then Tn.sort _ else _ : Tn).left.length ≤ 1000
        split
        · exact hs _ h
        · exact hs _ h
      · split
        · cases m.frees with
          | nil => exact h2
          | cons f fs => dsimp only; split <;> exact h2
        · exact h2
theorem Sc.left_step (m : Sc) (A : Ar) (h : m.l.length ≤ 1000) (h2 : m.left.length ≤ 1000) : (m.step A).1.left.length ≤ 1000 := by
  have hs : ∀ m : Sc, m.l.length ≤ 1000 → m.sort.left.length ≤ 1000 := fun m h => by
    show ((m.l.take m.l.length).filter _).length ≤ 1000
    exact Nat.le_trans (List.length_filter_le _ _) (by rw [List.take_length]; exact h)
  unfold Sc.step
  split
  · exact h2
  · split
    · show (if _ then Sc.sort _ else _ : Sc).left.length ≤ 1000
      split
      · exact hs _ h
      · exact h2
    · cases m.frees with
      | nil => exact h2
      | cons f fs => dsimp only; split <;> exact h2
theorem In.gone_step (i : In) (A : Ar) (h : i.inv A) : (i.step A).1.gone.length ≤ 1000 := by
  cases i with
  | no => exact Nat.zero_le _
  | tn m => exact Tn.left_step m A h.1.ll h.2
  | sc m =>
    show ((m.step A).1.left.map fun h => (h, (0 : Int))).length ≤ 1000
    rw [List.length_map]; exact Sc.left_step m A h.1.ll h.2
section
variable {L : Hands} {R : Value → Heap → Prop} {G : Heap} {l rest : Bl} {A : Ar} {I : List Nat}
def LkP (z : Lk × Ar) (j : LkJ) (I : List Nat) (G : Heap) : Value → Heap → Prop := fun v K => ∃ j' : LkJ, v = .bool z.1.fin ∧ K = own z.2 (z.1.bl j') G ∧ (j'.q = j.q ∧ j'.gq = j.gq ∧ j'.mq = j.mq) ∧ Ok I G (keys (z.1.bl j')) ∧ z.1.rep j' ∧ Aw I z.2
theorem lkT2_wp {x : Lk} {j j0 : LkJ} (hj : j.q = j0.q ∧ j.gq = j0.gq ∧ j.mq = j0.mq) (hA : Aw I A) (ok : Ok I G (keys (x.bl j))) (rp : x.rep j) : wp Tryz.prog (lkT2 j.q) L (own A (x.bl j) G) (LkP (x, A) j0 I G) := by
  unfold lkT2
  have ok0 := ok
  obtain ⟨g, ls, work, first, times, m⟩ := x
  unfold Lk.bl at ok
  cases m with
  | no =>
    refine wp_nil.2 (w_ld 0 (x := .nilIface) hA ok rfl rfl rfl ?_)
    refine look_val (x := true) (eqlMc0 _) (wp_true rfl ?_)
    refine wp_nil.2 (w_ld 0 (x := times) hA ok rfl rfl rfl ?_)
    exact wp_ret_of ⟨j, rfl, rfl, hj, ok0, rp, hA⟩
  | tn m =>
    refine wp_nil.2 (w_ld 0 (x := .iface ty_p_epoch_Turn (.pointer (some ⟨j.tj.q, 0, none⟩))) hA ok rfl rfl rfl ?_)
    refine look_val (x := false) (eqlMc _ _ _) (wp_false rfl ?_)
    exact wp_ret_of ⟨j, rfl, rfl, hj, ok0, rp, hA⟩
  | sc m =>
    refine wp_nil.2 (w_ld 0 (x := .iface ty_p_hazard_Scan (.pointer (some ⟨j.sj.q, 0, none⟩))) hA ok rfl rfl rfl ?_)
    refine look_val (x := false) (eqlMc _ _ _) (wp_false rfl ?_)
    exact wp_ret_of ⟨j, rfl, rfl, hj, ok0, rp, hA⟩
theorem lkT_fin {x : Lk} {j j0 : LkJ} {b : Bool} (hb : b = x.m.fin) (hj : j.q = j0.q ∧ j.gq = j0.gq ∧ j.mq = j0.mq) (hA : Aw I A) (ok : Ok I G (keys (x.bl j))) (rp : x.rep j) (hl : x.m.gone.length ≤ 1000) :
    wp Tryz.prog (bif b then (.call f_guard_look_end [(.pointer (some ⟨j.q, 0, none⟩))] .unit fun _ => lkT2 j.q) else (lkT2 j.q)) L (own A (x.bl j) G) (LkP (if x.m.fin = true then x.end_ else x, A) j0 I G) := by
  subst hb
  by_cases hf : x.m.fin = true
  · rw [if_pos hf]
    refine wp_true hf ?_
    refine wp_call_of (end_spec x j hA ok rp hf hl) ?_
    rintro v K ⟨j', rfl, rfl, e1, e2, e3, ok', rp'⟩
    refine ⟨(), rfl, ?_⟩
    rw [← e1]
    exact lkT2_wp ⟨e1.trans hj.1, e2.trans hj.2.1, e3.trans hj.2.2⟩ hA ok' rp'
  · rw [if_neg hf]
    refine wp_false (by simpa using hf) ?_
    exact lkT2_wp hj hA ok rp
set_option maxHeartbeats 1000000 in
theorem lkT_wp {x : Lk} {j j0 : LkJ} (hj : j.q = j0.q ∧ j.gq = j0.gq ∧ j.mq = j0.mq) (hA : Aw I A) (ok : Ok I G (keys (x.bl j))) (rp : x.rep j) (hi : x.m.inv A) : wp Tryz.prog (lkT j.q (aI I)) L (own A (x.bl j) G) (LkP (x.mid A) j0 I G) := by
  have hg := x.m.gone_step A hi
  unfold lkT Lk.mid
  have ok0 := ok
  obtain ⟨g, ls, work, first, times, m⟩ := x
  obtain ⟨q, gq, mq, e, tj, sj, gar⟩ := j
  cases m with
  | no =>
    unfold Lk.bl at ok
    refine wp_nil.2 (w_ld 0 (x := .nilIface) hA ok rfl rfl rfl ?_)
    refine look_val (x := false) (neqMc0 _) (wp_false rfl ?_)
    exact lkT2_wp hj hA ok0 rp
  | tn m =>
    have ok : Ok I G (keys ((q, oc ty_guard_look (lkC gq work first times (.iface ty_p_epoch_Turn (.pointer (some ⟨tj.q, 0, none⟩))))) :: (g.bl gq mq e ++ (m.bl tj ++ gar)))) := ok
    show wp Tryz.prog _ L (own A ((q, oc ty_guard_look (lkC gq work first times (.iface ty_p_epoch_Turn (.pointer (some ⟨tj.q, 0, none⟩))))) :: (g.bl gq mq e ++ (m.bl tj ++ gar))) G) _
    refine wp_nil.2 (w_ld 0 (x := .iface ty_p_epoch_Turn (.pointer (some ⟨tj.q, 0, none⟩))) hA ok rfl rfl rfl ?_)
    refine look_val (x := true) (neqMc _ _ _) (wp_true rfl ?_)
    refine wp_nil.2 (w_ld 0 (x := .iface ty_p_epoch_Turn (.pointer (some ⟨tj.q, 0, none⟩))) hA ok rfl rfl rfl ?_)
    refine act_enter (mTn_inv _ _) ?_
    obtain ⟨p1, ok1⟩ := own_perm (A := A) (l' := m.bl tj ++ ((q, oc ty_guard_look (lkC gq work first times (.iface ty_p_epoch_Turn (.pointer (some ⟨tj.q, 0, none⟩))))) :: (g.bl gq mq e ++ gar))) ok (perm_by fun c d c0 cd ca => by simp only [cd, ca]; omega)
    rw [p1]
    rw [keys_append] at ok1
    obtain ⟨o1, o2⟩ := ok1.split
    refine w_sub (mTn_ok I A _ m tj hA o1 rp.m hi.1) ?_
    rintro v K ⟨tj', rfl, rfl, ea, o3, rt, hA'⟩
    have ea : tj'.q = tj.q := ea
    refine ⟨_, rfl, ?_⟩
    have o4 : Ok I G (keys ((m.step A).1.bl tj' ++ ((q, oc ty_guard_look (lkC gq work first times (.iface ty_p_epoch_Turn (.pointer (some ⟨tj.q, 0, none⟩))))) :: (g.bl gq mq e ++ gar)))) := by rw [keys_append]; exact o3.join o2
    show wp Tryz.prog _ L (own (m.step A).2 ((m.step A).1.bl tj') (putL _ G)) _
    rw [← own_append]
    rw [← ea] at o4 ⊢
    obtain ⟨p2, o5⟩ := own_perm (A := (m.step A).2) (l' := Lk.bl ⟨g, ls, work, first, times, .tn (m.step A).1⟩ ⟨q, gq, mq, e, tj', sj, gar⟩) o4 (perm_by fun c d c0 cd ca => by
      show _ = c ((q, oc ty_guard_look (lkC gq work first times (.iface ty_p_epoch_Turn (.pointer (some ⟨tj'.q, 0, none⟩))))) :: (g.bl gq mq e ++ ((m.step A).1.bl tj' ++ gar)))
      simp only [cd, ca]; omega)
    rw [p2]
    exact lkT_fin (x := ⟨g, ls, work, first, times, .tn (m.step A).1⟩) (j := ⟨q, gq, mq, e, tj', sj, gar⟩) rfl hj hA' o5 ⟨rp.le, rp.ls, rt⟩ hg
  | sc m =>
    have ok : Ok I G (keys ((q, oc ty_guard_look (lkC gq work first times (.iface ty_p_hazard_Scan (.pointer (some ⟨sj.q, 0, none⟩))))) :: (g.bl gq mq e ++ (m.bl sj ++ gar)))) := ok
    show wp Tryz.prog _ L (own A ((q, oc ty_guard_look (lkC gq work first times (.iface ty_p_hazard_Scan (.pointer (some ⟨sj.q, 0, none⟩))))) :: (g.bl gq mq e ++ (m.bl sj ++ gar))) G) _
    refine wp_nil.2 (w_ld 0 (x := .iface ty_p_hazard_Scan (.pointer (some ⟨sj.q, 0, none⟩))) hA ok rfl rfl rfl ?_)
    refine look_val (x := true) (neqMc _ _ _) (wp_true rfl ?_)
    refine wp_nil.2 (w_ld 0 (x := .iface ty_p_hazard_Scan (.pointer (some ⟨sj.q, 0, none⟩))) hA ok rfl rfl rfl ?_)
    refine act_enter (mSc_inv _ _) ?_
    obtain ⟨p1, ok1⟩ := own_perm (A := A) (l' := m.bl sj ++ ((q, oc ty_guard_look (lkC gq work first times (.iface ty_p_hazard_Scan (.pointer (some ⟨sj.q, 0, none⟩))))) :: (g.bl gq mq e ++ gar))) ok (perm_by fun c d c0 cd ca => by simp only [cd, ca]; omega)
    rw [p1]
    rw [keys_append] at ok1
    obtain ⟨o1, o2⟩ := ok1.split
    refine w_sub (mSc_ok I A _ m sj hA o1 rp.m hi.1) ?_
    rintro v K ⟨sj', rfl, rfl, ea, o3, rt, hA'⟩
    have ea : sj'.q = sj.q := ea
    refine ⟨_, rfl, ?_⟩
    have o4 : Ok I G (keys ((m.step A).1.bl sj' ++ ((q, oc ty_guard_look (lkC gq work first times (.iface ty_p_hazard_Scan (.pointer (some ⟨sj.q, 0, none⟩))))) :: (g.bl gq mq e ++ gar)))) := by rw [keys_append]; exact o3.join o2
    show wp Tryz.prog _ L (own (m.step A).2 ((m.step A).1.bl sj') (putL _ G)) _
    rw [← own_append]
    rw [← ea] at o4 ⊢
    obtain ⟨p2, o5⟩ := own_perm (A := (m.step A).2) (l' := Lk.bl ⟨g, ls, work, first, times, .sc (m.step A).1⟩ ⟨q, gq, mq, e, tj, sj', gar⟩) o4 (perm_by fun c d c0 cd ca => by
      show _ = c ((q, oc ty_guard_look (lkC gq work first times (.iface ty_p_hazard_Scan (.pointer (some ⟨sj'.q, 0, none⟩))))) :: (g.bl gq mq e ++ ((m.step A).1.bl sj' ++ gar)))
      simp only [cd, ca]; omega)
    rw [p2]
    exact lkT_fin (x := ⟨g, ls, work, first, times, .sc (m.step A).1⟩) (j := ⟨q, gq, mq, e, tj, sj', gar⟩) rfl hj hA' o5 ⟨rp.le, rp.ls, rt⟩ hg
end
theorem eL_set (rest : List Value) (v : Int) : ∀ (xs : List (Int × Int)) (n : Nat), n < xs.length → (eL.all xs ++ rest).set (n * 2 + 1) (.int .i64 v) = eL.all (xs.set n ((xs.getD n (0, 0)).1, v)) ++ rest
  | [], n, h => by simp at h
  | x :: xs, 0, _ => rfl
  | x :: xs, n + 1, h => by
    have ih := eL_set rest v xs n (by simpa using h)
    show (Value.int .i64 x.1 :: .int .i64 x.2 :: (eL.all xs ++ rest)).set ((n + 1) * 2 + 1) _ = .int .i64 x.1 :: .int .i64 x.2 :: (eL.all (xs.set n ((xs.getD n (0, 0)).1, v)) ++ rest)
    rw [← ih, show (n + 1) * 2 + 1 = (n * 2 + 1) + 1 + 1 by omega]
    rfl
theorem leC_same : ∀ {e : List LE} {y : LE}, (leGet e y.k).xs ≠ [] → y.s = (leGet e y.k).s → leC (lePut e y) = leC e
  | [], y, h, _ => (h rfl).elim
  | x :: e, y, h, hs => by
    unfold leGet at h hs
    show leC (if y.k = x.k then y :: e else x :: lePut e y) = leC (x :: e)
    by_cases c : y.k = x.k
    · rw [if_pos c] at h hs ⊢
      show (y.k, y.s) :: leC e = (x.k, x.s) :: leC e
      rw [c, hs]
    · rw [if_neg c] at h hs ⊢
      show (x.k, x.s) :: leC (lePut e y) = (x.k, x.s) :: leC e
      rw [leC_same h hs]
structure Lk.inv (x : Lk) (A : Ar) : Prop where
  ll : (x.ls x.work).length ≤ 1000
  fs : x.first = true → x.g.ep = true ∧ x.ls x.work ≠ [] ∧ x.m = .no
  wb : 1 ≤ x.g.w ∧ x.g.w ≤ 1000
  mi : x.m.inv A
theorem begin_inv {x : Lk} {A : Ar} (ll : (x.ls x.work).length ≤ 1000) (wb : 1 ≤ x.g.w ∧ x.g.w ≤ 1000) : x.begin.m.inv A := by
  unfold Lk.begin
  dsimp only
  split
  · exact ⟨⟨ll, fun _ => ⟨rfl, rfl⟩, fun h => by cases h⟩, Nat.zero_le _⟩
  · exact ⟨⟨wb, Int.le_refl 0, by show ((x.ls x.work).map Prod.fst).length ≤ 1000; rw [List.length_map]; exact ll, fun _ => .inl ⟨by show (0 : Int) < 2 * x.g.w; omega, rfl, rfl, rfl⟩⟩, Nat.zero_le _⟩
def mLk (gq mq : Nat) : MchR Lk LkJ where
  f := f_guard_look_Step
  addr := LkJ.q
  bl := Lk.bl
  rep := fun x j => x.rep j ∧ j.gq = gq ∧ j.mq = mq
  inv := Lk.inv
  step := Lk.step
  fin := Lk.fin
theorem mLk_inv (gq mq : Nat) : (mLk gq mq).inv' ty_p_guard_look := fun q p => by
  show opS _ _ _ _ = .pure (.enter f_guard_look_Step [.pointer (some ⟨q, 0, none⟩), .pointer p].toArray)
  kernel_rfl
section
variable {L : Hands} {R : Value → Heap → Prop} {G : Heap} {l rest : Bl} {A : Ar} {I : List Nat}
set_option maxHeartbeats 1000000 in
theorem look_first (x : Lk) (j : LkJ) (hA : Aw I A) (ok : Ok I G (keys (x.bl j))) (rp : x.rep j) (hf : x.first = true) (hi : x.inv A) :
    wp Tryz.prog (t_guard_look_Step (some ⟨j.q, 0, none⟩) (aI I)) L (own A (x.bl j) G) (LkP (x.step A) j I G) := by
  obtain ⟨h1, h2, h3⟩ := hi.fs hf
  have hlen := hi.ll
  unfold Lk.step
  rw [if_pos hf]
  obtain ⟨g, ls, work, first, times, m⟩ := x
  obtain ⟨q, gq, mq, e, tj, sj, gar⟩ := j
  have h1 : g.ep = true := h1
  have h2 : ls work ≠ [] := h2
  have h3 : m = .no := h3
  have hf : first = true := hf
  have hlen : (ls work).length ≤ 1000 := hlen
  subst h3 hf
  unfold t_guard_look_Step
  have ok : Ok I G (keys ((q, oc ty_guard_look (lkC gq work true times .nilIface)) :: (gq, oc ty_guard_Guard (g.cells mq)) :: (mq, mapObj slV (leC e)) :: (leB e ++ gar))) := ok
  show wp Tryz.prog _ L (own A ((q, oc ty_guard_look (lkC gq work true times .nilIface)) :: (gq, oc ty_guard_Guard (g.cells mq)) :: (mq, mapObj slV (leC e)) :: (leB e ++ gar)) G) _
  refine wp_nil.2 (w_ld 0 (x := true) hA ok rfl rfl rfl (wp_true rfl ?_))
  refine wp_nil.2 (w_st 0 hA ok rfl rfl rfl rfl ?_)
  have ok1 : Ok I G (keys ((q, oc ty_guard_look (lkC gq work false times .nilIface)) :: (gq, oc ty_guard_Guard (g.cells mq)) :: (mq, mapObj slV (leC e)) :: (leB e ++ gar))) := ok
  show wp Tryz.prog _ L (own A ((q, oc ty_guard_look (lkC gq work false times .nilIface)) :: (gq, oc ty_guard_Guard (g.cells mq)) :: (mq, mapObj slV (leC e)) :: (leB e ++ gar)) G) _
  refine wp_nil.2 (w_ld 0 (x := some ⟨gq, 0, none⟩) hA ok1 rfl rfl rfl ?_)
  refine wp_nil.2 (w_ld 1 (x := some mq) hA ok1 rfl rfl rfl ?_)
  refine wp_nil.2 (w_ld 0 (x := work) hA ok1 rfl rfl rfl ?_)
  refine w_lk 2 hA ok1 rfl ?_
  refine wp_nil.2 (w_ld 0 (x := some ⟨gq, 0, none⟩) hA ok1 rfl rfl rfl ?_)
  refine wp_nil.2 (w_ld 1 (x := gmode g.ep g.w g.ta) hA ok1 rfl rfl rfl ?_)
  rw [h1]
  refine look_val (x := (g.w, g.ta, ())) (ta_ep _ _ _) ?_
  refine wq_Global (tw := g.w) (ta := g.ta) ?_
  refine w_Raw hA fun hA => ?_
  have hs : SlOf (leGet e work).hb ty_epoch_Limbo eL (leGet e work).s (leGet e work).xs := rp.le work
  have hxs : (leGet e work).xs = ls work := rp.ls work
  rcases hs with ⟨_, h0⟩ | ⟨b, rest, r, hsl, hr, hm⟩
  · exact (h2 (hxs.symm.trans h0)).elim
  · have hpos : 0 < (ls work).length := List.length_pos_iff.2 h2
    rw [hxs] at hsl hm
    obtain ⟨s1, s2, hsp⟩ := List.mem_iff_append.1 hm
    rw [hsl]
    have e64 : w64 ((((ls work).length : Nat) : Int) - 1) = (((ls work).length - 1 : Nat) : Int) := by rw [w64_in (by omega) (by omega)]; omega
    show wp Tryz.prog (.look (opS Tryz.prog (.indexAddr ty_s_epoch_Limbo (.tmp 0) (.tmp 1)) ty_unit [(.slice (some ⟨b, 0, none⟩) (ls work).length ((ls work).length + r)), (.int .i64 (w64 ((((ls work).length : Nat) : Int) - 1)))]) (.one (.leaf .addr)) _) L _ _
    rw [e64]
    refine look_val (x := ⟨b, ((ls work).length - 1) * 2, none⟩) ?_ ?_
    · rw [opS_idxS (e := ty_epoch_Limbo) rfl rfl (by omega) (by omega), Addr.add_mk, Nat.zero_add]; rfl
    obtain ⟨y, hy⟩ : ∃ y : LE, y = ⟨work, (leGet e work).s, setLast (ls work) (A.rawF g.ta), s1 ++ (b, oc ty_epoch_Limbo (eL.all (setLast (ls work) (A.rawF g.ta)) ++ rest)) :: s2⟩ := ⟨_, rfl⟩
    obtain ⟨p1, ok2⟩ := own_perm (A := A.touchR g.ta) (l' := (b, oc ty_epoch_Limbo (eL.all (ls work) ++ rest)) :: (q, oc ty_guard_look (lkC gq work false times .nilIface)) :: (gq, oc ty_guard_Guard (g.cells mq)) :: (mq, mapObj slV (leC e)) :: ((s1 ++ s2) ++ (leRest e work ++ gar))) ok1 (perm_by fun c d c0 cd ca => by
      have h1 := leB_c c0 ca e work
      have h2 : c (leGet e work).hb = c s1 + c ((b, oc ty_epoch_Limbo (eL.all (ls work) ++ rest)) :: s2) := by rw [hsp, ca]
      simp only [cd, ca] at h2 ⊢; omega)
    rw [p1]
    refine w_st 0 hA ok2 rfl rfl rfl (decide_eq_true (by rw [List.length_append, eL.all_len]; show ((ls work).length - 1) * 2 + 1 < (ls work).length * 2 + _; omega)) ?_
    have eset : (eL.all (ls work) ++ rest).set (((ls work).length - 1) * 2 + 1) (.int .i64 (A.rawF g.ta)) = eL.all (setLast (ls work) (A.rawF g.ta)) ++ rest := eL_set rest _ (ls work) _ (by omega)
    have ok3 : Ok I G (keys ((b, oc ty_epoch_Limbo (eL.all (setLast (ls work) (A.rawF g.ta)) ++ rest)) :: (q, oc ty_guard_look (lkC gq work false times .nilIface)) :: (gq, oc ty_guard_Guard (g.cells mq)) :: (mq, mapObj slV (leC e)) :: ((s1 ++ s2) ++ (leRest e work ++ gar)))) := ok2
    show wp Tryz.prog _ L (own (A.touchR g.ta) ((b, oc ty_epoch_Limbo ((eL.all (ls work) ++ rest).set (((ls work).length - 1) * 2 + 1) (.int .i64 (A.rawF g.ta)))) :: (q, oc ty_guard_look (lkC gq work false times .nilIface)) :: (gq, oc ty_guard_Guard (g.cells mq)) :: (mq, mapObj slV (leC e)) :: ((s1 ++ s2) ++ (leRest e work ++ gar))) G) _
    rw [eset]
    have hl2 : (setLast (ls work) (A.rawF g.ta)).length = (ls work).length := by unfold setLast; rw [List.length_set]
    have hsY : SlOf y.hb ty_epoch_Limbo eL y.s y.xs := by
      rw [hy]
      exact .inr ⟨b, rest, r, by rw [hl2]; exact hsl, hr, List.mem_append_right _ List.mem_cons_self⟩
    have hyk : y.k = work := by rw [hy]
    have eC : leC (lePut e y) = leC e := leC_same (by rw [hyk, hxs]; exact h2) (by rw [hyk]; rw [hy])
    obtain ⟨p2, ok4⟩ := own_perm (A := A.touchR g.ta) (l' := (q, oc ty_guard_look (lkC gq work false times .nilIface)) :: (gq, oc ty_guard_Guard (g.cells mq)) :: (mq, mapObj slV (leC (lePut e y))) :: (leB (lePut e y) ++ gar)) ok3 (perm_by fun c d c0 cd ca => by
      have h1 := leB_put_c c0 ca e y
      have h2 : c y.hb = c s1 + c ((b, oc ty_epoch_Limbo (eL.all (setLast (ls work) (A.rawF g.ta)) ++ rest)) :: s2) := by rw [hy]; exact ca _ _
      rw [eC]
      rw [hyk] at h1
      simp only [cd, ca] at h2 ⊢; omega)
    rw [p2]
    refine wp_nil.2 (w_ld 0 (x := times) hA ok4 rfl rfl rfl ?_)
    refine wp_ret_of ⟨⟨q, gq, mq, lePut e y, tj, sj, gar⟩, rfl, rfl, ⟨rfl, rfl, rfl⟩, ok4, ⟨rp.le.put hsY, ?_, trivial⟩, hA⟩
    have := lsPut rp.ls y
    rw [hy] at this ⊢
    exact this
theorem look_rest (x : Lk) (j : LkJ) (hA : Aw I A) (ok : Ok I G (keys (x.bl j))) (rp : x.rep j) (hf : x.first = false) (hi : x.inv A) :
    wp Tryz.prog (t_guard_look_Step (some ⟨j.q, 0, none⟩) (aI I)) L (own A (x.bl j) G) (LkP (x.step A) j I G) := by
  have hlen := hi.ll
  have hwb := hi.wb
  have hmi := hi.mi
  unfold Lk.step
  rw [if_neg (by rw [hf]; decide)]
  unfold Lk.go t_guard_look_Step
  have ok0 := ok
  obtain ⟨g, ls, work, first, times, m⟩ := x
  have hf : first = false := hf
  subst hf
  cases m with
  | no =>
    have bs := begin_spec ⟨g, ls, work, false, times, .no⟩ j hA ok rp rfl hlen
    unfold Lk.bl at ok
    refine wp_nil.2 (w_ld 0 (x := false) hA ok rfl rfl rfl (wp_false rfl ?_))
    refine wp_nil.2 (w_ld 0 (x := .nilIface) hA ok rfl rfl rfl ?_)
    refine look_val (x := true) (eqlMc0 _) (wp_true rfl ?_)
    refine wp_nil.2 (w_ld 0 (x := times) hA ok rfl rfl rfl ?_)
    by_cases ht : 0 < times
    · refine wp_true (decide_eq_true ht) ?_
      refine wp_call_of bs ?_
      rintro v K ⟨j', rfl, rfl, e1, e2, e3, ok', rp'⟩
      refine ⟨(), rfl, ?_⟩
      show wp Tryz.prog _ L _ (LkP ((if 0 < times then Lk.begin ⟨g, ls, work, false, times, .no⟩ else ⟨g, ls, work, false, times, .no⟩).mid A) j I G)
      rw [if_pos ht, ← e1]
      exact lkT_wp ⟨e1, e2, e3⟩ hA ok' rp' (begin_inv hlen hwb)
    · refine wp_false (decide_eq_false ht) ?_
      show wp Tryz.prog _ L _ (LkP ((if 0 < times then Lk.begin ⟨g, ls, work, false, times, .no⟩ else ⟨g, ls, work, false, times, .no⟩).mid A) j I G)
      rw [if_neg ht]
      exact lkT_wp (x := ⟨g, ls, work, false, times, .no⟩) ⟨rfl, rfl, rfl⟩ hA ok0 rp hmi
  | tn m =>
    unfold Lk.bl at ok
    refine wp_nil.2 (w_ld 0 (x := false) hA ok rfl rfl rfl (wp_false rfl ?_))
    refine wp_nil.2 (w_ld 0 (x := .iface ty_p_epoch_Turn (.pointer (some ⟨j.tj.q, 0, none⟩))) hA ok rfl rfl rfl ?_)
    refine look_val (x := false) (eqlMc _ _ _) (wp_false rfl ?_)
    exact lkT_wp (x := ⟨g, ls, work, false, times, .tn m⟩) ⟨rfl, rfl, rfl⟩ hA ok0 rp hmi
  | sc m =>
    unfold Lk.bl at ok
    refine wp_nil.2 (w_ld 0 (x := false) hA ok rfl rfl rfl (wp_false rfl ?_))
    refine wp_nil.2 (w_ld 0 (x := .iface ty_p_hazard_Scan (.pointer (some ⟨j.sj.q, 0, none⟩))) hA ok rfl rfl rfl ?_)
    refine look_val (x := false) (eqlMc _ _ _) (wp_false rfl ?_)
    exact lkT_wp (x := ⟨g, ls, work, false, times, .sc m⟩) ⟨rfl, rfl, rfl⟩ hA ok0 rp hmi
end
theorem mLk_ok (gq mq : Nat) : (mLk gq mq).ok := by
  rintro I A G x j hA ok ⟨rp, e1, e2⟩ hi
  refine t_guard_look_Step_spec fun L => ?_
  refine Go.Fw.wp_mono _ (R := LkP (x.step A) j I G) ?_ (fun _ _ _ h => h) ?_
  · by_cases hf : x.first = true
    · exact look_first x j hA ok rp hf hi
    · exact look_rest x j hA ok rp (by simpa using hf) hi
  · rintro v K ⟨j', rfl, rfl, ⟨a, b, c⟩, ok', rp', hA'⟩
    exact ⟨j', rfl, rfl, a, ok', ⟨rp', b.trans e1, c.trans e2⟩, hA'⟩
def retLk (g : Gd) (ls : Int → List (Int × Int)) (k h : Int) : Lk := ⟨g, setL ls k (ls k ++ [(h, 0)]), k, g.ep, if g.th ≤ ((ls k).length : Int) + 1 then 1 else 0, .no⟩
def retM (g : Gd) (ls : Int → List (Int × Int)) (k h : Int) : Option Lk :=
  if g.ep = true then some (retLk g ls k h) else if g.th ≤ ((ls k).length : Int) + 1 then some (retLk g ls k h).begin else none
structure GdS (e : List LE) (ls : Int → List (Int × Int)) : Prop where
  le : leOk e
  ls : ∀ k, (leGet e k).xs = ls k
def GPost (o : Option Lk) (g : Gd) (ls : Int → List (Int × Int)) (q mq : Nat) (A : Ar) (I : List Nat) (G : Heap) : Value → Heap → Prop := fun v K => match o with
  | none => ∃ e gar, v = .nilIface ∧ K = own A (g.bl q mq e ++ gar) G ∧ Ok I G (keys (g.bl q mq e ++ gar)) ∧ GdS e ls
  | some x => ∃ j : LkJ, v = .iface ty_p_guard_look (.pointer (some ⟨j.q, 0, none⟩)) ∧ K = own A (x.bl j) G ∧ Ok I G (keys (x.bl j)) ∧ (mLk q mq).rep x j
section
variable {L : Hands} {R : Value → Heap → Prop} {G : Heap} {l rest : Bl} {A : Ar} {I : List Nat}
theorem w_ckLk {e : List LE} {k : Int} {mq : Nat} {s : Sl} {t : Tree} (ix : Nat) (hA : Aw I A) (ok : Ok I G (keys l)) (hi : l[ix]? = some (mq, mapObj slV (leC e))) (hs : s = (leGet e k).s)
    (h : wp Tryz.prog t L (own A l G) R) :
    wp Tryz.prog (.check (opS Tryz.prog (.lookup ty_m_int_s_epoch_Limbo (.tmp 0) (.tmp 1) false) ty_s_epoch_Limbo [(.map (some mq)), (.int .i64 k)]) (.slice s.a s.len s.cap) t) L (own A l G) R := by
  subst hs
  refine ⟨?_, h⟩
  have hy : (match alGet (leC e) k with | some v => slV v | none => slV sl0) = slV (leGet e k).s := leC_get e k
  have h3 := still_lookup (P := Tryz.prog) (t := ty_m_int_s_epoch_Limbo) (u := ty_s_epoch_Limbo) (kt := ty_int) (et := ty_s_epoch_Limbo) (x := k) (z := slV sl0) (own_get hA ok hi) rfl rfl rfl rfl
  have h4 : ∀ v : Value, v = slV (leGet e k).s → astill Tryz.prog (opS Tryz.prog (.lookup ty_m_int_s_epoch_Limbo (.tmp 0) (.tmp 1) false) ty_s_epoch_Limbo [(.map (some mq)), (.int .i64 k)]) (own A l G) (fun n => nextL Tryz.prog n (own A l G) v) → astill Tryz.prog (opS Tryz.prog (.lookup ty_m_int_s_epoch_Limbo (.tmp 0) (.tmp 1) false) ty_s_epoch_Limbo [(.map (some mq)), (.int .i64 k)]) (own A l G) (fun n => nextL Tryz.prog n (own A l G) (slV (leGet e k).s)) := fun v hv h => hv ▸ h
  revert hy h3
  cases alGet (leC e) k with
  | some v => exact fun hy h3 => h4 _ hy h3
  | none => exact fun hy h3 => h4 _ hy h3
end
def tj0 : TnJ := ⟨0, sl0, sl0, sl0, [], [], [], []⟩
def sj0 : ScJ := ⟨0, 0, sl0, sl0, sl0, [], [], [], []⟩
section
variable {L : Hands} {R : Value → Heap → Prop} {G : Heap} {l rest : Bl} {A : Ar} {I : List Nat}
theorem GdS.put {e : List LE} {ls : Int → List (Int × Int)} (gs : GdS e ls) {y : LE} (hy : SlOf y.hb ty_epoch_Limbo eL y.s y.xs) : GdS (lePut e y) (setL ls y.k y.xs) := ⟨gs.le.put hy, lsPut gs.ls y⟩
set_option maxHeartbeats 2000000 in
theorem retire_spec {g : Gd} {e : List LE} {ls : Int → List (Int × Int)} {q mq : Nat} {k h : Int} (hA : Aw I A) (ok : Ok I G (keys (g.bl q mq e))) (gs : GdS e ls) (hl : (ls k).length < 1000) :
    SpecF Tryz.prog f_guard_Guard_Retire #[.pointer (some ⟨q, 0, none⟩), .pointer (aI I), .int .i64 k, .int .i64 h] (own A (g.bl q mq e) G) (GPost (retM g ls k h) g (setL ls k (ls k ++ [(h, 0)])) q mq (A.retireF h) I G) := by
  refine t_guard_Guard_Retire_spec fun L => ?_
  unfold t_guard_Guard_Retire
  have hs0 : SlOf (leGet e k).hb ty_epoch_Limbo eL (leGet e k).s (leGet e k).xs := gs.le k
  rw [gs.ls k] at hs0
  refine w_Retire hA fun hA => ?_
  refine wp_nil.2 (w_ld 0 (x := some mq) hA ok rfl rfl rfl ?_)
  refine wp_nil.2 (w_ld 0 (x := some mq) hA ok rfl rfl rfl ?_)
  refine w_lk 1 hA ok rfl ?_
  refine w_newS (c := [.int .i64 h, .int .i64 0]) hA ok fun z ok1 => ?_
  refine w_ckLk 2 hA ok1 rfl rfl ?_
  refine w_ck 1 hA ok1 rfl rfl rfl ?_
  refine w_ckn rfl ?_
  refine w_ck 1 hA ok1 rfl rfl rfl ?_
  refine w_ckn rfl ?_
  obtain ⟨p1, ok2⟩ := own_perm (A := A.retireF h) (l' := ((z, oc ty_epoch_Limbo [.int .i64 h, .int .i64 0]) :: (q, oc ty_guard_Guard (g.cells mq)) :: (mq, mapObj slV (leC e)) :: leRest e k) ++ (leGet e k).hb) ok1 (perm_by fun c d c0 cd ca => by
    have h1 := leB_c c0 ca e k
    simp only [Gd.bl, List.cons_append, cd, ca]; omega)
  rw [p1]
  refine w_appT (E := eL) elL (ys := [(h, 0)]) (t := ⟨some ⟨z, 0, none⟩, 1, 1⟩) hA ok2 hs0 ?_ rfl (by simp; omega) fun s' tl' hs' ok3 ap => ?_
  · exact cell_row hA ok2 (List.mem_append_left _ List.mem_cons_self) 0 rfl
  refine w_ck 1 hA ok3 rfl rfl rfl ?_
  refine w_ckn rfl ?_
  obtain ⟨y, hy⟩ : ∃ y : LE, y = ⟨k, s', ls k ++ [(h, 0)], tl'⟩ := ⟨_, rfl⟩
  have eput : alPut (leC e) k s' = leC (lePut e y) := by rw [leC_put, hy]
  refine w_mapS 2 hA ok3 rfl ?_
  rw [eput]
  have gs' : GdS (lePut e y) (setL ls k (ls k ++ [(h, 0)])) := by
    have := gs.put (y := y) (by rw [hy]; exact hs')
    rw [hy] at this ⊢; exact this
  have ok4 : Ok I G (keys (((z, oc ty_epoch_Limbo [.int .i64 h, .int .i64 0]) :: (q, oc ty_guard_Guard (g.cells mq)) :: (mq, mapObj slV (leC (lePut e y))) :: leRest e k) ++ tl')) := ok3
  show wp Tryz.prog _ L (own (A.retireF h) (((z, oc ty_epoch_Limbo [.int .i64 h, .int .i64 0]) :: (q, oc ty_guard_Guard (g.cells mq)) :: (mq, mapObj slV (leC (lePut e y))) :: leRest e k) ++ tl') G) _
  obtain ⟨p2, ok5⟩ := own_perm (A := A.retireF h) (l' := g.bl q mq (lePut e y) ++ [(z, oc ty_epoch_Limbo [.int .i64 h, .int .i64 0])]) ok4 (perm_by fun c d c0 cd ca => by
    have h1 := leB_put_c c0 ca e y
    have h3 : c y.hb = c tl' := by rw [hy]
    have h4 : c (leRest e y.k) = c (leRest e k) := by rw [hy]
    simp only [Gd.bl, List.cons_append, cd, ca, c0]; omega)
  rw [p2]
  obtain ⟨c1, hc1⟩ : ∃ c1 : Nat × Obj, c1 = (z, oc ty_epoch_Limbo [.int .i64 h, .int .i64 0]) := ⟨_, rfl⟩
  rw [← hc1] at ok5 ⊢
  generalize lePut e y = e1 at *
  clear p1 p2 hc1 ok4 ok3 ok2 ok1 hs0 hs' eput hy
  have hsl : (leGet e1 k).s.len = (ls k).length + 1 := by rw [(gs'.le k).len, gs'.ls k, setL_same, List.length_append]; rfl
  refine wp_nil.2 (w_ld 0 (x := gmode g.ep g.w g.ta) hA ok5 rfl rfl rfl ?_)
  have hret : ∀ (L : Hands) (t : Int) (x42 : Nat) (c2 : Nat × Obj) (E : Bool), (if g.th ≤ ((ls k).length : Int) + 1 then (1 : Int) else 0) = t → g.ep = E → Ok I G (keys ((x42, oc ty_guard_look (lkC q k E t .nilIface)) :: c2 :: (g.bl q mq e1 ++ [c1]))) →
      own (A.retireF h) ((x42, oc ty_guard_look (lkC q k E t .nilIface)) :: c2 :: (g.bl q mq e1 ++ [c1])) G = own (A.retireF h) ((retLk g ls k h).bl ⟨x42, q, mq, e1, tj0, sj0, [c2, c1]⟩) G ∧ Ok I G (keys ((retLk g ls k h).bl ⟨x42, q, mq, e1, tj0, sj0, [c2, c1]⟩)) := fun L t x42 c2 E ht hE ok => by
    subst ht hE
    exact own_perm (A := A.retireF h) ok (perm_by fun c d c0 cd ca => by
      show _ = c ((x42, oc ty_guard_look (lkC q k g.ep (if g.th ≤ ((ls k).length : Int) + 1 then (1 : Int) else 0) .nilIface)) :: (g.bl q mq e1 ++ ([] ++ [c2, c1])))
      simp only [cd, ca, c0]; omega)
  have rpR : ∀ (x42 : Nat) (c2 : Nat × Obj), (retLk g ls k h).rep ⟨x42, q, mq, e1, tj0, sj0, [c2, c1]⟩ := fun x42 c2 => ⟨gs'.le, gs'.ls, trivial⟩
  unfold retM
  cases hp : g.ep with
  | true =>
    rw [if_pos rfl]
    refine look_val (x := ((g.w, g.ta, ()), true, ())) (ta_epT _ _ _) ?_
    refine w_newP (c := [.int .i64 0, .int .i64 0]) hA ok5 fun x9 ok6 => ?_
    refine w_stA 0 hA ok6 rfl rfl rfl rfl ?_
    refine w_newP (c := [.pointer (some ⟨q, 0, none⟩), .int .i64 k, .bool true, .int .i64 0, .nilIface]) hA (by exact ok6) fun x42 ok7 => ?_
    refine wp_nil.2 (w_ld 2 (x := some mq) hA (by exact ok7) rfl rfl rfl ?_)
    refine w_lk (e := e1) 3 hA (by exact ok7) rfl ?_
    refine wp_nil.2 (w_ld 2 (x := g.th) hA (by exact ok7) rfl rfl rfl ?_)
    by_cases ht : g.th ≤ ((ls k).length : Int) + 1
    · refine wp_true (decide_eq_true (by show g.th ≤ (((leGet e1 k).s.len : Nat) : Int); rw [hsl]; omega)) ?_
      refine wp_nil.2 (w_st 0 hA (by exact ok7) rfl rfl rfl rfl ?_)
      refine wp_false rfl (wp_false rfl ?_)
      obtain ⟨p3, ok8⟩ := hret L 1 x42 _ true (if_pos ht) hp ok7
      exact wp_ret_of ⟨_, rfl, p3, ok8, rpR x42 _, rfl, rfl⟩
    · refine wp_false (decide_eq_false (by show ¬ g.th ≤ (((leGet e1 k).s.len : Nat) : Int); rw [hsl]; omega)) ?_
      refine wp_false rfl (wp_false rfl ?_)
      obtain ⟨p3, ok8⟩ := hret L 0 x42 _ true (if_neg ht) hp ok7
      exact wp_ret_of ⟨_, rfl, p3, ok8, rpR x42 _, rfl, rfl⟩
  | false =>
    rw [if_neg (by decide)]
    refine look_val (x := ((0, 0, ()), false, ())) (ta_epF _ _ _) ?_
    refine w_newP (c := [.int .i64 0, .int .i64 0]) hA ok5 fun x9 ok6 => ?_
    refine w_stA 0 hA ok6 rfl rfl rfl rfl ?_
    refine w_newP (c := [.pointer (some ⟨q, 0, none⟩), .int .i64 k, .bool false, .int .i64 0, .nilIface]) hA (by exact ok6) fun x42 ok7 => ?_
    refine wp_nil.2 (w_ld 2 (x := some mq) hA (by exact ok7) rfl rfl rfl ?_)
    refine w_lk (e := e1) 3 hA (by exact ok7) rfl ?_
    refine wp_nil.2 (w_ld 2 (x := g.th) hA (by exact ok7) rfl rfl rfl ?_)
    by_cases ht : g.th ≤ ((ls k).length : Int) + 1
    · rw [if_pos ht]
      refine wp_true (decide_eq_true (by show g.th ≤ (((leGet e1 k).s.len : Nat) : Int); rw [hsl]; omega)) ?_
      refine wp_nil.2 (w_st 0 hA (by exact ok7) rfl rfl rfl rfl ?_)
      refine wp_true rfl ?_
      refine wp_nil.2 (w_ld 0 (x := 1) hA (by exact ok7) rfl rfl rfl ?_)
      refine wp_false rfl (wp_true rfl ?_)
      obtain ⟨p3, ok8⟩ := hret L 1 x42 _ false (if_pos ht) hp ok7
      refine wp_call_of (p3 ▸ begin_spec (retLk g ls k h) ⟨x42, q, mq, e1, tj0, sj0, [_, c1]⟩ hA ok8 (rpR x42 _) rfl (by show (setL ls k (ls k ++ [(h, 0)]) k).length ≤ 1000; rw [setL_same, List.length_append]; show (ls k).length + 1 ≤ 1000; omega)) ?_
      rintro v K ⟨j', rfl, rfl, e1, e2, e3, ok', rp'⟩
      refine ⟨(), rfl, wp_ret_of ⟨j', ?_, rfl, ok', rp', e2, e3⟩⟩
      have e1 : j'.q = x42 := e1
      rw [e1]
    · rw [if_neg ht]
      refine wp_false (decide_eq_false (by show ¬ g.th ≤ (((leGet e1 k).s.len : Nat) : Int); rw [hsl]; omega)) ?_
      refine wp_true rfl ?_
      refine wp_nil.2 (w_ld 0 (x := 0) hA (by exact ok7) rfl rfl rfl ?_)
      refine wp_true rfl ?_
      obtain ⟨c3, hc3⟩ : ∃ c3 : Nat × Obj, c3 = (x42, oc ty_guard_look (lkC q k false 0 .nilIface)) := ⟨_, rfl⟩
      obtain ⟨c2, hc2⟩ : ∃ c2 : Nat × Obj, c2 = (x9, oc ty_guard_epochs [.int .i64 0, .int .i64 0]) := ⟨_, rfl⟩
      have ok7 : Ok I G (keys ((x42, oc ty_guard_look (lkC q k false 0 .nilIface)) :: (x9, oc ty_guard_epochs [.int .i64 0, .int .i64 0]) :: (g.bl q mq e1 ++ [c1]))) := ok7
      show wp Tryz.prog _ L (own (A.retireF h) ((x42, oc ty_guard_look (lkC q k false 0 .nilIface)) :: (x9, oc ty_guard_epochs [.int .i64 0, .int .i64 0]) :: (g.bl q mq e1 ++ [c1])) G) _
      rw [← hc3, ← hc2] at ok7 ⊢
      obtain ⟨p4, ok8⟩ := own_perm (A := A.retireF h) (l' := g.bl q mq e1 ++ [c3, c2, c1]) ok7 (perm_by fun c d c0 cd ca => by simp only [cd, ca, c0]; omega)
      rw [p4]
      exact wp_ret_of ⟨e1, [c3, c2, c1], rfl, rfl, ok8, gs'⟩
end
def szs : List Int → Int
  | [] => 0
  | h :: t => sizeF (opC h) + szs t
theorem sz_op (h : Int) : 8 ≤ sizeF (opC h) ∧ sizeF (opC h) ≤ 64 ∧ sizeF (opC h) % 8 = 0 := sz_pos (opC_nat h).1 (opC_nat h).2
theorem szs_nn : ∀ xs : List Int, 0 ≤ szs xs
  | [] => Int.le_refl 0
  | h :: t => by have := sz_op h; have := szs_nn t; show 0 ≤ sizeF (opC h) + szs t; omega
theorem szs_append : ∀ xs ys : List Int, szs (xs ++ ys) = szs xs + szs ys
  | [], ys => by show szs ys = 0 + szs ys; omega
  | h :: t, ys => by show sizeF (opC h) + szs (t ++ ys) = sizeF (opC h) + szs t + szs ys; rw [szs_append t ys]; omega
theorem szs_filter (q : Int → Bool) : ∀ xs : List Int, szs (xs.filter q) + szs (xs.filter fun x => !q x) = szs xs
  | [] => rfl
  | h :: t => by
    have ih := szs_filter q t
    cases hq : q h with
    | true =>
      simp only [List.filter_cons, hq, if_true, Bool.not_true, Bool.false_eq_true, if_false]
      show sizeF (opC h) + _ + _ = sizeF (opC h) + szs t; omega
    | false =>
      simp only [List.filter_cons, hq, if_true, Bool.not_false, Bool.false_eq_true, if_false]
      show _ + (sizeF (opC h) + _) = sizeF (opC h) + szs t; omega
theorem szs_perm {xs ys : List Int} (h : xs.Perm ys) : szs xs = szs ys := by
  induction h with
  | nil => rfl
  | cons x _ ih => show sizeF (opC x) + _ = sizeF (opC x) + _; rw [ih]
  | swap x y l => show sizeF (opC y) + (sizeF (opC x) + szs l) = sizeF (opC x) + (sizeF (opC y) + szs l); omega
  | trans _ _ a b => exact a.trans b
def frS (who : Int) : Sg → List Int → Sg
  | S, [] => S
  | S, h :: hs => frS who { S with ch := upd S.ch (4 * who + opC h) (opB h :: S.ch (4 * who + opC h)) } hs
theorem frS_append (who : Int) : ∀ (hs ks : List Int) (S : Sg), frS who S (hs ++ ks) = frS who (frS who S hs) ks
  | [], ks, S => rfl
  | h :: hs, ks, S => frS_append who hs ks _
theorem frS_cv (who : Int) : ∀ (hs : List Int) (S : Sg), (frS who S hs).cv = S.cv ∧ (frS who S hs).nc = S.nc ∧ (frS who S hs).gn = S.gn ∧ (frS who S hs).cl = S.cl
  | [], S => ⟨rfl, rfl, rfl, rfl⟩
  | h :: hs, S => frS_cv who hs _
structure SweptG (A : Ar) (p : Pl) (w m : Int) (S : Sg) (who : Int) (hs : List Int) (A' : Ar) : Prop where
  off : Off p.carved (3 * hs.length) A A'
  sl : SL A' p w m (frS who S hs)
  st : ∀ k, A'.stF k = if k ∈ hs then 0 else A.stF k
  nL : A'.nL = A.nL
  nR : A'.nR = A.nR - szs hs
section
variable {A : Ar} {p : Pl} {w m : Int} {S : Sg}
theorem SweptG.refl {who : Int} (X : SL A p w m S) (h : A.wf) : SweptG A p w m S who [] A := ⟨.refl h, X, fun k => by rw [if_neg (by simp)], rfl, by show _ = _ - (0 : Int); omega⟩
theorem SweptG.trans {who : Int} {hs ks : List Int} {B C : Ar} (h : SweptG A p w m S who hs B) (g : SweptG B p w m (frS who S hs) who ks C) : SweptG A p w m S who (hs ++ ks) C := by
  refine ⟨?_, by rw [frS_append]; exact g.sl, fun k => ?_, g.nL.trans h.nL, by rw [g.nR, h.nR, szs_append]; omega⟩
  · have := h.off.trans g.off
    rw [List.length_append]
    rw [show (3 * ((hs.length + ks.length : Nat) : Int)) = 3 * (hs.length : Int) + 3 * (ks.length : Int) by omega]
    exact this
  · rw [g.st, h.st]
    by_cases e1 : k ∈ ks
    · rw [if_pos e1, if_pos (List.mem_append_right _ e1)]
    · rw [if_neg e1]
      by_cases e2 : k ∈ hs
      · rw [if_pos e2, if_pos (List.mem_append_left _ e2)]
      · rw [if_neg e2, if_neg (fun h => (List.mem_append.1 h).elim e2 e1)]
theorem sweepG {M J : Type} {X : MchR M J} {on : List Fe → M} (hl : ∀ (fs : List Fe) {n : Nat} {f f' : Fe} {A A' : Ar}, mFe.Runs n f A f' A' → f.done = false → (fs ≠ [] → X.Path n (on (f :: fs)) A (on fs) A') ∧ (fs = [] → X.Runs n (on [f]) A (on []) A'))
    {p : Pl} {w mm who : Int} (wh : 0 ≤ who ∧ who < w) : ∀ (hs : List Int) (A : Ar) (S : Sg), hs ≠ [] → hs.Nodup → SL A p w mm S → A.wf → A.uses + 3 * hs.length ≤ 1000000 → szs hs ≤ A.nR → (∀ h ∈ hs, A.stF h = 2) →
    ∃ A', X.Runs (3 * hs.length) (on (hs.map (newFe p who))) A (on []) A' ∧ SweptG A p w mm S who hs A'
  | [], _, _, h, _, _, _, _, _, _ => (h rfl).elim
  | h :: hs, A, S, _, hnd, X, hwf, hu, hr, hh => by
    obtain ⟨n1, n2⟩ := List.nodup_cons.1 hnd
    have h1 := hh h List.mem_cons_self
    have hr : sizeF (opC h) + szs hs ≤ A.nR := hr
    have sz := sz_op h
    have sn := szs_nn hs
    simp only [List.length_cons] at hu
    have us := X.F.us
    obtain ⟨x', A1, Z⟩ := free_solo X hwf (by omega) wh h1 (by omega)
    obtain ⟨f1, f2⟩ := hl (hs.map (newFe p who)) Z.run rfl
    have z1 := Z.off.us
    have z2 := Z.nR
    have W1 : SweptG A p w mm S who [h] A1 := ⟨Z.off, Z.sl, fun k => by rw [Z.st k]; simp, Z.nL, by rw [z2]; show _ = A.nR - (sizeF (opC h) + 0); omega⟩
    by_cases he : hs = []
    · subst he
      exact ⟨A1, f2 rfl, W1⟩
    · obtain ⟨A2, r2, W⟩ := sweepG hl wh hs A1 _ he n2 Z.sl Z.off.wf (by omega) (by omega) fun k hk => by
        have := hh k (List.mem_cons_of_mem _ hk)
        rw [Z.st k, if_neg (fun e : k = h => n1 (by rw [← e]; exact hk))]; exact this
      refine ⟨A2, ?_, W1.trans W⟩
      have := (f1 (by simpa using he)).run r2
      rw [List.length_cons, show 3 * (hs.length + 1) = 3 + 3 * hs.length by omega]
      exact this
theorem scanG {tw ta who : Int} {xs : List Int} (X : SL A p w m S) (hwf : A.wf) (tb : 1 ≤ tw ∧ tw ≤ 1000) (ll : xs.length ≤ 1000) (h0 : 0 ≤ ta) (h1 : ta + 2 * tw ≤ A.raw.length) (h2 : (A.raw.length : Int) ≤ 1000000) (u1 : A.uses ≤ 900000)
    (wh : 0 ≤ who ∧ who < w) (nd : xs.Nodup) (nr : szs xs ≤ A.nR) (hh : ∀ h ∈ xs, A.stF h = 2) :
    ∃ A' m' n, mSc.Runs n (newSc tw ta p who xs) A m' A' ∧ n = 2 * tw.toNat + 3 * (gone A tw ta xs).length ∧ m'.left = lft A tw ta xs ∧ m'.ended = true ∧ SweptG (A.later (2 * tw)) p w m S who (gone A tw ta xs) A' := by
  have u0 := X.F.us
  have pth := words_path (p := p) (who := who) (xs := xs) tb ll h0 h1 h2 u0 (by omega) ((2 * tw).toNat - 1) (by omega)
  have epp : (((2 * tw).toNat - 1 : Nat) : Int) = 2 * tw - 1 := by omega
  rw [epp] at pth
  suffices hs : ∃ A' m', mSc.Runs (1 + 3 * (gone A tw ta xs).length) (scN A tw ta p who xs ((2 * tw).toNat - 1)) (A.later (2 * tw - 1)) m' A' ∧ m'.left = lft A tw ta xs ∧ m'.ended = true ∧ SweptG (A.later (2 * tw)) p w m S who (gone A tw ta xs) A' by
    obtain ⟨A', m', r, q1, q2, q3⟩ := hs
    exact ⟨A', m', _, pth.run r, by omega, q1, q2, q3⟩
  have e : w64 (ta + (2 * tw - 1)) = ta + (2 * tw - 1) := w64_in (by omega) (by omega)
  have e2 : w64 (A.uses + (2 * tw - 1) + 1) = A.uses + (2 * tw - 1) + 1 := w64_in (by omega) (by omega)
  obtain ⟨n, hn⟩ : ∃ n : Nat, (2 * tw).toNat = n + 1 := ⟨(2 * tw).toNat - 1, by omega⟩
  have hn1 : (n : Int) = 2 * tw - 1 := by omega
  rw [hn, Nat.add_sub_cancel, ← hn1]
  rw [← hn1] at e e2
  let B : Sc := ⟨tw, ta, p, who, n + 1, xs, seenN A ta (n + 1), true, [], lft A tw ta xs, false⟩
  have hgo : xs.filter (fun h => !inS (seenN A ta (n + 1)) h) = gone A tw ta xs := by unfold gone; rw [hn]
  have hlf : xs.filter (inS (seenN A ta (n + 1))) = lft A tw ta xs := by unfold lft; rw [hn]
  have hB : B.base := ⟨tb, by show ((n : Int) + 1) = 2 * tw; omega, ll, rfl⟩
  have hst : mSc.step (scN A tw ta p who xs n) (A.later n) = (B.on ((gone A tw ta xs).map (newFe p who)), A.later (2 * tw)) := by
    show Sc.step (scN A tw ta p who xs n) (A.later n) = _
    unfold Sc.step
    rw [if_neg (show ¬ (scN A tw ta p who xs n).ended = true by intro h; cases h)]
    have en : (scN A tw ta p who xs n).word = n := rfl
    have et : (scN A tw ta p who xs n).ta = ta := rfl
    have ew : (scN A tw ta p who xs n).tw = tw := rfl
    rw [en, et, ew, if_pos (show (n : Int) < 2 * tw by omega), if_pos (by omega), e, tick_later (A := A.later n) (i := ta + n) ⟨by omega, by show ta + n < (A.raw.length : Int); omega⟩ (by show 0 ≤ A.uses + n; omega) (by show A.uses + n ≤ _; omega), later_add, show (n : Int) + 1 = 2 * tw by omega]
    refine Prod.ext ?_ rfl
    have hs : (scN A tw ta p who xs n).word1 (A.later n) = ⟨tw, ta, p, who, n + 1, xs, seenN A ta (n + 1), false, [], [], false⟩ := by
      unfold Sc.word1
      rw [en, et, e]; rfl
    dsimp only
    rw [hs]
    show Sc.mk tw ta p who (n + 1) xs (seenN A ta (n + 1)) true (((xs.take xs.length).filter fun h => !inS (seenN A ta (n + 1)) h).map (newFe p who)) ((xs.take xs.length).filter (inS (seenN A ta (n + 1)))) (decide ((((xs.take xs.length).filter fun h => !inS (seenN A ta (n + 1)) h).map (newFe p who)) = [])) = _
    rw [List.take_length, hgo, hlf]
  have iv : mSc.inv (scN A tw ta p who xs n) (A.later n) := ⟨tb, by show (0 : Int) ≤ n; omega, ll, fun _ => .inl ⟨by show (n : Int) < 2 * tw; omega, rfl, rfl, rfl⟩⟩
  have hu : (A.later (2 * tw)).uses ≤ w64 ((A.later n).uses + 1) := by
    show A.uses + 2 * tw ≤ w64 (A.uses + n + 1)
    rw [e2]; omega
  have hle : (gone A tw ta xs).length ≤ xs.length := List.length_filter_le _ _
  have hsz : szs (gone A tw ta xs) ≤ szs xs := by
    have h1 := szs_filter (inS (seenN A ta (2 * tw).toNat)) xs
    have h2 := szs_nn (xs.filter (inS (seenN A ta (2 * tw).toNat)))
    show szs (xs.filter fun h => !inS (seenN A ta (2 * tw).toNat) h) ≤ _; omega
  by_cases hg : gone A tw ta xs = []
  · refine ⟨A.later (2 * tw), B.on [], ?_, rfl, rfl, ?_⟩
    · rw [hg] at hst ⊢
      exact .one iv hst hu rfl
    · rw [hg]; exact .refl (X.later (by omega)) (later_wf hwf _)
  · obtain ⟨A', r, W⟩ := sweepG (X := mSc) (on := B.on) (fun fs {n f f' A A'} h hf => sc_free hB h hf) (p := p) (w := w) (mm := m) wh (gone A tw ta xs) (A.later (2 * tw)) S hg (nd.filter _) (X.later (by omega)) (later_wf hwf _) (by show A.uses + 2 * tw + _ ≤ _; omega) (by show _ ≤ A.nR; omega) fun h hm => hh h (List.mem_filter.1 hm).1
    refine ⟨A', B.on [], ?_, rfl, rfl, W⟩
    rw [Nat.add_comm]
    refine .more iv hst hu ?_ r
    show decide ((gone A tw ta xs).map (newFe p who) = []) = false
    simpa using hg
theorem turnG_end {who : Int} {B D : Ar} {mm t : Tn} (X : SL B p w m S) (hwf : B.wf) (wh : 0 ≤ who ∧ who < w) (tp : t.pl = p) (tw : t.work = who) (ll : t.l.length ≤ 1000) (u1 : B.uses ≤ 900000)
    (nd : (t.l.map Prod.fst).Nodup) (nr : szs (t.l.map Prod.fst) ≤ B.nR) (hh : ∀ x ∈ t.l, B.stF x.1 = 2) (iv : mTn.inv mm D) (hst : mTn.step mm D = (t.sort, B)) (hu : B.uses ≤ w64 (D.uses + 1)) :
    ∃ A' m', mTn.Runs (1 + 3 * (tgone t.e t.l).length) mm D m' A' ∧ m'.left = tleft t.e t.l ∧ 4 ≤ m'.ph ∧ SweptG B p w m S who (tgone t.e t.l) A' := by
  subst tp; subst tw
  rw [tn_sorted] at hst
  have hle : (tgone t.e t.l).length ≤ t.l.length := by unfold tgone; rw [List.length_map]; exact List.length_filter_le _ _
  have hsz : szs (tgone t.e t.l) ≤ szs (t.l.map Prod.fst) := by
    have : ∀ l : List (Int × Int), szs ((l.filter (due t.e)).map Prod.fst) ≤ szs (l.map Prod.fst) := fun l => by
      induction l with
      | nil => exact Int.le_refl 0
      | cons x l ih =>
        have sx := sz_op x.1
        rw [List.filter_cons]
        split
        · show sizeF (opC x.1) + _ ≤ sizeF (opC x.1) + _; omega
        · show _ ≤ sizeF (opC x.1) + _; omega
    exact this _
  by_cases hg : tgone t.e t.l = []
  · refine ⟨B, Tn.on { t with left := tleft t.e t.l } [], ?_, rfl, Nat.le_refl 4, ?_⟩
    · rw [hg] at hst ⊢
      exact .one iv hst hu rfl
    · rw [hg]; exact .refl X hwf
  · obtain ⟨A', r, W⟩ := sweepG (X := mTn) (on := Tn.on { t with left := tleft t.e t.l }) (fun fs {n f f' A A'} h hf => tn_free (m := { t with left := tleft t.e t.l }) ll h hf) (p := t.pl) (w := w) (mm := m) wh (tgone t.e t.l) B S hg (((List.filter_sublist (l := t.l) (p := due t.e)).map Prod.fst).nodup nd) X hwf (by omega) (by omega) fun h hm => by
      obtain ⟨x, hx, rfl⟩ := List.mem_map.1 hm
      exact hh x (List.mem_filter.1 hx).1
    refine ⟨A', Tn.on { t with left := tleft t.e t.l } [], ?_, rfl, Nat.le_refl 4, W⟩
    rw [Nat.add_comm]
    refine .more iv hst hu ?_ r
    have : (tgone t.e t.l).map (newFe t.pl t.work) ≠ [] := by simpa using hg
    show decide (4 ≤ (Tn.on { t with left := tleft t.e t.l } ((tgone t.e t.l).map (newFe t.pl t.work))).ph) = false
    rw [show (Tn.on { t with left := tleft t.e t.l } ((tgone t.e t.l).map (newFe t.pl t.work))).ph = 3 from if_neg this]; rfl
structure TurnB (A : Ar) (p : Pl) (w m : Int) (S : Sg) (tw ta e e1 : Int) (B : Ar) : Prop where
  sl : SL B p w m S
  wf : B.wf
  al : Ar.Alike A B
  wd : B.words = A.words
  fa : B.fault = A.fault
  fr : B.fresh = A.fresh
  rl : B.raw.length = A.raw.length
  rw : ∀ i, B.rawF i = if i = ta then e1 else A.rawF i
  us : A.uses + 1 ≤ B.uses ∧ B.uses ≤ A.uses + 2 + tw
  st : ∀ h, B.stF h = A.stF h
  nL : B.nL = A.nL
  nR : B.nR = A.nR
  ei : e1 = e ∨ e1 = e + 1
  up : (∀ i : Nat, (i : Int) < tw → A.rawF (ta + 1 + i) = 0 ∨ A.rawF (ta + 1 + i) = e + 1) → e1 = e + 1
  dn : e1 = e + 1 → ∀ i : Nat, (i : Int) < tw → A.rawF (ta + 1 + i) = 0 ∨ A.rawF (ta + 1 + i) = e + 1
theorem turnG {tw ta who e : Int} {xs : List (Int × Int)} (X : SL A p w m S) (hwf : A.wf) (tb : 1 ≤ tw ∧ tw ≤ 1000) (ll : xs.length ≤ 1000) (h0 : p.carved < ta) (h1 : ta + 1 + tw ≤ A.raw.length) (h2 : (A.raw.length : Int) ≤ 1000000) (u1 : A.uses ≤ 800000)
    (he : A.rawF ta = e) (eb : 0 ≤ e ∧ e ≤ 1000000) (wh : 0 ≤ who ∧ who < w) (nd : (xs.map Prod.fst).Nodup) (nr : szs (xs.map Prod.fst) ≤ A.nR) (hh : ∀ x ∈ xs, A.stF x.1 = 2) :
    ∃ e1 B A' m' n, mTn.Runs n (newTn tw ta p who xs) A m' A' ∧ (n : Int) ≤ 2 + tw + 3 * xs.length ∧ m'.left = tleft e1 xs ∧ 4 ≤ m'.ph ∧ TurnB A p w m S tw ta e e1 B ∧ SweptG B p w m S who (tgone e1 xs) A' := by
  have u0 := X.F.us
  obtain ⟨p1, p2, p3, p4, p5⟩ := X.places
  have wb := X.wb
  have mb := X.mb
  have t0 : 0 ≤ ta := by omega
  have hlen : ∀ e, ((tgone e xs).length : Int) ≤ xs.length := fun e => by
    have : (tgone e xs).length ≤ xs.length := by unfold tgone; rw [List.length_map]; exact List.length_filter_le _ _
    omega
  have e3 : w64 (e + 1) = e + 1 := w64_in (by omega) (by omega)
  by_cases hw : ∀ i : Nat, (i : Int) < tw → A.rawF (ta + 1 + i) = 0 ∨ A.rawF (ta + 1 + i) = e + 1
  · have pth := looks_path (p := p) (who := who) (xs := xs) tb ll t0 h1 h2 u0 (by omega) he eb tw.toNat (by omega) fun i hi => hw i (by omega)
    have O := outS (X.later (n := 1 + tw) (by omega)) (i := ta) (v := e + 1) ⟨h0, by show ta < (A.raw.length : Int); omega⟩ (by show A.uses + _ ≤ _; omega)
    obtain ⟨B, hB⟩ : ∃ B, B = (A.later (1 + tw)).storeR ta (e + 1) := ⟨_, rfl⟩
    rw [← hB] at O
    have hBw : B.wf := by rw [hB]; exact storeR_wf (later_wf hwf _) _ _
    have okB : (A.later (1 + tw)).rawOk ta := ⟨by omega, by show ta < (A.raw.length : Int); omega⟩
    have hBs : B = ((A.later (1 + tw)).tick).setR ta.toNat (e + 1) := by rw [hB]; unfold Ar.storeR; rw [if_pos okB]
    have us := O.us
    have us1 : (A.later (1 + tw)).uses = A.uses + (1 + tw) := rfl
    have etn : ((tw.toNat : Nat) : Int) = tw := by omega
    have ph2 : (tnN tw ta p who xs e tw.toNat).ph = 2 := if_pos etn
    rw [etn] at pth
    obtain ⟨A', m', r, q1, q2, q3⟩ := turnG_end (t := { tnN tw ta p who xs e tw.toNat with e := e + 1 }) (mm := tnN tw ta p who xs e tw.toNat) (D := A.later (1 + tw)) O.sl hBw wh rfl rfl ll (by omega) nd (by rw [O.nR]; exact nr) (fun x hx => by rw [O.st]; exact hh x hx) ⟨ll, fun _ => ⟨rfl, rfl⟩, fun h => by rw [ph2] at h; omega⟩ (by
        show Tn.step (tnN tw ta p who xs e tw.toNat) (A.later (1 + tw)) = _
        unfold Tn.step
        have et : (tnN tw ta p who xs e tw.toNat).ta = ta := rfl
        have ee : (tnN tw ta p who xs e tw.toNat).e = e := rfl
        obtain ⟨s1, s2⟩ := swapR_yes (A := A.later (1 + tw)) (i := ta) (v := e) (x := e + 1) ⟨by omega, by show ta < (A.raw.length : Int); omega⟩ he
        rw [if_neg (by rw [ph2]; decide), if_neg (by rw [ph2]; decide), if_pos ph2, et, ee, e3, s2, if_pos s1, hB]; rfl) (by
        rw [us, us1, w64_in (by omega) (by omega)]; omega)
    refine ⟨e + 1, B, A', m', _, pth.run r, ?_, q1, q2, ?_, q3⟩
    · have := hlen (e + 1)
      show ((1 + tw.toNat + (1 + 3 * (tgone (e + 1) xs).length) : Nat) : Int) ≤ _; omega
    · refine ⟨O.sl, hBw, ?_, by rw [hBs]; rfl, by rw [hBs]; rfl, by rw [hBs]; rfl, O.rl, fun i => by rw [O.rf]; rfl, ⟨by omega, by omega⟩, O.st, O.nL, O.nR, .inr rfl, fun _ => rfl, fun _ => hw⟩
      rw [hBs]; exact ⟨rfl, rfl, rfl, rfl, rfl, rfl, rfl⟩
  · obtain ⟨k, hk, hk0, hn⟩ : ∃ k : Nat, (k : Int) < tw ∧ (∀ i : Nat, i < k → A.rawF (ta + 1 + i) = 0 ∨ A.rawF (ta + 1 + i) = e + 1) ∧ (A.rawF (ta + 1 + k) ≠ 0 ∧ A.rawF (ta + 1 + k) ≠ e + 1) := by
      have key : ∀ n : Nat, (∀ i : Nat, i < n → A.rawF (ta + 1 + i) = 0 ∨ A.rawF (ta + 1 + i) = e + 1) ∨ ∃ k : Nat, k < n ∧ (∀ i : Nat, i < k → A.rawF (ta + 1 + i) = 0 ∨ A.rawF (ta + 1 + i) = e + 1) ∧ (A.rawF (ta + 1 + k) ≠ 0 ∧ A.rawF (ta + 1 + k) ≠ e + 1) := fun n => by
        induction n with
        | zero => exact .inl fun i hi => by omega
        | succ n ih =>
          rcases ih with h | ⟨k, a, b, c⟩
          · by_cases hz : A.rawF (ta + 1 + n) = 0 ∨ A.rawF (ta + 1 + n) = e + 1
            · refine .inl fun i hi => ?_
              by_cases en : i = n
              · rw [en]; exact hz
              · exact h i (by omega)
            · exact .inr ⟨n, by omega, h, fun e => hz (.inl e), fun e => hz (.inr e)⟩
          · exact .inr ⟨k, by omega, b, c⟩
      rcases key tw.toNat with h | ⟨k, a, b, c⟩
      · exact (hw fun i hi => h i (by omega)).elim
      · exact ⟨k, by omega, b, c⟩
    have pth := looks_path (p := p) (who := who) (xs := xs) tb ll t0 h1 h2 u0 (by omega) he eb k (by omega) hk0
    have e1 : w64 ((k : Int) + 1) = k + 1 := w64_in (by omega) (by omega)
    have ew : ewd ta k = ta + 1 + k := ewd_eq ⟨by omega, by omega, by omega, by omega⟩
    have ph1 : (tnN tw ta p who xs e k).ph = 1 := if_neg (by omega)
    obtain ⟨A', m', r, q1, q2, q3⟩ := turnG_end (t := { tnN tw ta p who xs e k with word := (k : Int) + 1 }) (mm := tnN tw ta p who xs e k) (D := A.later (1 + k)) (B := A.later (2 + k)) (X.later (by omega)) (later_wf hwf _) wh rfl rfl ll (by show A.uses + _ ≤ _; omega) nd nr hh ⟨ll, fun _ => ⟨rfl, rfl⟩, fun h => by rw [ph1] at h; omega⟩ (by
        show Tn.step (tnN tw ta p who xs e k) (A.later (1 + k)) = _
        unfold Tn.step
        have et : (tnN tw ta p who xs e k).ta = ta := rfl
        have ee : (tnN tw ta p who xs e k).e = e := rfl
        have en : (tnN tw ta p who xs e k).word = k := rfl
        have er : (A.later (1 + k)).rawF (ta + 1 + k) = A.rawF (ta + 1 + k) := rfl
        rw [if_neg (by rw [ph1]; decide), if_pos ph1, et, ee, en, ew, e1, e3, er, if_pos hn, tick_later (A := A.later (1 + k)) ⟨by omega, by show ta + 1 + (k : Int) < (A.raw.length : Int); omega⟩ (by show 0 ≤ A.uses + _; omega) (by show A.uses + _ ≤ _; omega), later_add, show 1 + (k : Int) + 1 = 2 + k by omega]; rfl) (by
        show A.uses + (2 + k) ≤ w64 (A.uses + (1 + k) + 1)
        rw [w64_in (by omega) (by omega)]; omega)
    refine ⟨e, A.later (2 + k), A', m', _, pth.run r, ?_, q1, q2, ?_, q3⟩
    · have := hlen e
      show ((1 + k + (1 + 3 * (tgone e xs).length) : Nat) : Int) ≤ _; omega
    · refine ⟨X.later (by omega), later_wf hwf _, later_alike A _, rfl, rfl, rfl, rfl, fun i => ?_, ⟨by show A.uses + 1 ≤ A.uses + (2 + k); omega, by show A.uses + (2 + k) ≤ _; omega⟩, fun h => stF_slots rfl h, rfl, rfl, .inl rfl, fun h => ?_, fun h => by omega⟩
      · split
        · rename_i h; rw [h]; exact he
        · rfl
      · have := h k hk; rcases this with h' | h'
        · exact (hn.1 h').elim
        · exact (hn.2 h').elim
end
end Go.Proofs.YtjnacjniiogjcaaGreat
