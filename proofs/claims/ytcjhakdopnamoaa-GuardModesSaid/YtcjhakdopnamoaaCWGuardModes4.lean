/- Texts of this claim, one behind the other. -/
import Derived.Test.YtcjhakdopnamoaaCWGuardModes3
set_option linter.unusedSimpArgs false
set_option linter.unusedVariables false
set_option linter.unusedVariables false
set_option linter.unusedSimpArgs false
set_option maxRecDepth 20000
namespace Go.Proofs.Ytcjhakdopnamoaa
open Go Go.Fw

section
variable {A B C : Ar} {p : Pl} {w m : Int} {S : Sg} {c : Int}

theorem carve_no (X : SL A p w m S) (hu : A.uses ≤ 1000000000) {who j : Int} {y : Po} (hc : 0 ≤ c ∧ c < 4) (hj : 0 ≤ j ∧ j ≤ 1000000) (hf : ¬ S.cv + sizeF c ≤ m) :
    mAl.Runs 1 ⟨p, who, c, j, 1, 0, 0, y⟩ A ⟨p, who, c, j, 4, S.cv, 0, y⟩ (A.later 1) := by
  obtain ⟨p1, p2, p3, p4, p5⟩ := X.places
  have us := X.F.us
  have mb := X.mb
  have wb := X.wb
  have sz := sz_pos hc.1 hc.2
  have ok : A.rawOk p.carved := ⟨by omega, X.rl⟩
  have gt : A.rawF p.carved > w64 (A.words.length - sizeF c) := by rw [X.cvr, X.wl, w64_in (by omega) (by omega)]; omega
  refine Mch.Runs.last (X := mAl) (m := ⟨p, who, c, j, 1, 0, 0, y⟩) (A := A) (A1 := A.later 1) (m1 := ⟨p, who, c, j, 4, S.cv, 0, y⟩) ⟨hj.1, hj.2⟩ ?_ (by show A.uses + 1 ≤ _; rw [w64_in (by omega) (by omega)]; exact Int.le_refl _) rfl
  rw [show mAl.step = Al.step from rfl]
  unfold Al.step
  have n0 : ¬ (1 : Int) = 0 := by decide
  simp only [if_neg n0, if_true, if_pos gt]
  rw [touchR_yes ok, tick_uses us (by omega), X.cvr]

theorem carve_yes (X : SL A p w m S) (hu : A.uses ≤ 1000000000) {who j : Int} {y : Po} (hc : 0 ≤ c ∧ c < 4) (hj : 0 ≤ j ∧ j ≤ 1000000) (hf : S.cv + sizeF c ≤ m) :
    mAl.Path 2 ⟨p, who, c, j, 1, 0, 0, y⟩ A ⟨p, who, c, j, 3, S.cv, 0, y⟩ (((A.later 1).later 1).setR p.carved.toNat (S.cv + sizeF c)) := by
  obtain ⟨p1, p2, p3, p4, p5⟩ := X.places
  have us := X.F.us
  have mb := X.mb
  have wb := X.wb
  have cvb := X.cvb
  have sz := sz_pos hc.1 hc.2
  have ok : A.rawOk p.carved := ⟨by omega, X.rl⟩
  have ok' : (A.later 1).rawOk p.carved := ok
  have ng : ¬ A.rawF p.carved > w64 (A.words.length - sizeF c) := by rw [X.cvr, X.wl, w64_in (by omega) (by omega)]; omega
  have t1 : A.tick = A.later 1 := tick_uses us (by omega)
  have t2 : (A.later 1).tick = (A.later 1).later 1 := tick_uses (by show 0 ≤ A.uses + 1; omega) (by show A.uses + 1 ≤ _; omega)
  have s1 : Al.step ⟨p, who, c, j, 1, 0, 0, y⟩ A = (⟨p, who, c, j, 2, S.cv, 0, y⟩, A.later 1) := by
    unfold Al.step
    have n0 : ¬ (1 : Int) = 0 := by decide
    simp only [if_neg n0, if_true, if_neg ng]
    rw [touchR_yes ok, t1, X.cvr]
  have hraw : (A.later 1).raw.getD p.carved.toNat 0 = S.cv := by rw [getD_rawF ok']; exact X.cvr
  have sb : (A.later 1).swapRb p.carved S.cv = true := decide_eq_true ⟨ok', hraw⟩
  have s2 : Al.step ⟨p, who, c, j, 2, S.cv, 0, y⟩ (A.later 1) = (⟨p, who, c, j, 3, S.cv, 0, y⟩, ((A.later 1).later 1).setR p.carved.toNat (S.cv + sizeF c)) := by
    unfold Al.step
    have n0 : ¬ (2 : Int) = 0 := by decide
    have n1 : ¬ (2 : Int) = 1 := by decide
    simp only [if_neg n0, if_neg n1, if_true, sb]
    unfold Ar.swapR
    rw [if_pos ok', if_pos hraw, t2, w64_in (by omega) (by omega)]
  refine .cons ⟨hj.1, hj.2⟩ s1 (by show A.uses + 1 ≤ _; rw [w64_in (by omega) (by omega)]; exact Int.le_refl _) rfl (.cons ⟨hj.1, hj.2⟩ s2 ?_ rfl .nil)
  show A.uses + 1 + 1 ≤ w64 (A.uses + 1 + 1)
  rw [w64_in (by omega) (by omega)]; exact Int.le_refl _

theorem bear_last (X : SL A p w m S) (hu : A.uses ≤ 1000000000) {who j b : Int} {y : Po} (hj : 0 ≤ j ∧ j ≤ 1000000) (hc : S.cl b = c) (hc1 : c ≠ -1) (hb : ((A.later 1).setR (p.gens + b / 8).toNat (S.gn b + 1)).bornOk (packF b (S.gn b + 1) c)) :
    mAl.Runs 1 ⟨p, who, c, j, 3, b, 0, y⟩ A ⟨p, who, c, j, 4, b, packF b (S.gn b + 1) c, y⟩ (((A.later 1).setR (p.gens + b / 8).toNat (S.gn b + 1)).bornF (packF b (S.gn b + 1) c)) := by
  obtain ⟨p1, p2, p3, p4, p5⟩ := X.places
  have us := X.F.us
  have mb := X.mb
  have wb := X.wb
  have cvb := X.cvb
  have gb := X.gnb b
  obtain ⟨b1, b2, b3, b4, b5⟩ := X.blk b (by rw [hc]; exact hc1)
  have sz := sz_pos b1 b2
  have ok : A.rawOk (p.gens + b / 8) := ⟨by omega, by have := X.rl; omega⟩
  have ei : w64 (p.gens + w64 (Int.tdiv b 8)) = p.gens + b / 8 := by rw [Int.tdiv_eq_ediv_of_nonneg b3, w64_in (x := b / 8) (by omega) (by omega), w64_in (by omega) (by omega)]
  have eg : A.rawF (p.gens + b / 8) = S.gn b := (X.gnr b b3 (by omega) b4).1
  refine Mch.Runs.last (X := mAl) (m := ⟨p, who, c, j, 3, b, 0, y⟩) (A := A) (A1 := ((A.later 1).setR (p.gens + b / 8).toNat (S.gn b + 1)).bornF (packF b (S.gn b + 1) c)) (m1 := ⟨p, who, c, j, 4, b, packF b (S.gn b + 1) c, y⟩) ⟨hj.1, hj.2⟩ ?_ ?_ rfl
  · rw [show mAl.step = Al.step from rfl]
    unfold Al.step
    have n0 : ¬ (3 : Int) = 0 := by decide
    have n1 : ¬ (3 : Int) = 1 := by decide
    have n2 : ¬ (3 : Int) = 2 := by decide
    simp only [if_neg n0, if_neg n1, if_neg n2, if_true, ei, eg]
    rw [w64_in (x := S.gn b + 1) (by omega) (by omega)]
    unfold Ar.storeR
    rw [if_pos ok, tick_uses us (by omega)]
    unfold Ar.bornX
    rw [if_pos hb]
  · rw [bornF_uses]
    show A.uses + 1 ≤ _
    rw [w64_in (by omega) (by omega)]; exact Int.le_refl _

/-! ### An alloc alone, to its end -/

/-- The first list that has something. -/
def Sg.ask (S : Sg) (w who c : Int) : Nat → Int → Option Int
  | 0, _ => none
  | f + 1, j => if S.ch (4 * ((who + j) % w) + c) = [] then S.ask w who c f (j + 1) else some (4 * ((who + j) % w) + c)

/-- What a slab gives. -/
inductive Gives (S : Sg) (w m who c : Int) : Sg → Int → Prop
  | list {k b : Int} {l : List Int} : S.ask w who c w.toNat 0 = some k → S.ch k = b :: l → 0 ≤ k → k < 4 * w → k % 4 = c →
      Gives S w m who c { S with ch := upd S.ch k l, gn := updI S.gn b (S.gn b + 1), nc := S.nc + (if S.gn b = 0 then sizeF c else 0) } (packF b (S.gn b + 1) c)
  | carve : S.ask w who c w.toNat 0 = none → S.cv + sizeF c ≤ m →
      Gives S w m who c { S with cv := S.cv + sizeF c, cl := updI S.cl S.cv c, gn := updI S.gn S.cv 1, nc := S.nc + sizeF c } (packF S.cv 1 c)
  | none : S.ask w who c w.toNat 0 = none → ¬ S.cv + sizeF c ≤ m → Gives S w m who c S 0

structure Alloced (A : Ar) (p : Pl) (w m : Int) (S : Sg) (who c : Int) (n : Nat) (x' : Al) (A' : Ar) (S' : Sg) : Prop where
  run : mAl.Runs n (newAl p who c) A x' A'
  gives : Gives S w m who c S' x'.h
  off : Off p.carved n A A'
  sl : SL A' p w m S'
  st : ∀ k, A'.stF k = if x'.h ≠ 0 ∧ k = x'.h then 1 else A.stF k
  nL : A'.nL = A.nL + (if x'.h ≠ 0 then sizeF c else 0)
  nR : A'.nR = A.nR
  nn : (n : Int) ≤ w + 5
  hd : x'.h ≠ 0 → opC x'.h = c ∧ openOk x'.h = true ∧ A.stF x'.h = 0

theorem ask_path (X : SL A p w m S) (hwf : A.wf) (hu : A.uses ≤ 1000000) {who : Int} (wh : 0 ≤ who ∧ who < w) (hc : 0 ≤ c ∧ c < 4) : ∀ (f : Nat) (j : Int), 0 ≤ j → j + f = w → ∀ (D : Ar), D = A.later j → 1 ≤ f →
    (∃ y, S.ask w who c f j = none ∧ mAl.Path f (askAl p w who c j) D ⟨p, who, c, w, 1, 0, 0, y⟩ (A.later w)) ∨
    (∃ k b l y, ∃ i : Nat, S.ask w who c f j = some k ∧ S.ch k = b :: l ∧ 0 ≤ k ∧ k < 4 * w ∧ k % 4 = c ∧ j ≤ i ∧ (i : Int) < w ∧ ∃ n : Nat, (n : Int) = i - j + 3 ∧ mAl.Path n (askAl p w who c j) D (bearAl p who c (i + 1) b y) ((A.later i).popped k (4 * w + b / 8)))
  | 0, j, h0, h1, D, hD, hf => by omega
  | f + 1, j, h0, h1, D, hD, hf => by
    have wb := X.wb
    have q0 := Int.emod_nonneg (who + j) (b := w) (by omega)
    have q1 := Int.emod_lt_of_pos (who + j) (b := w) (by omega)
    have Y : SL D p w m S := by rw [hD]; exact X.later h0
    have du : D.uses ≤ 1000000000 := by rw [hD]; show A.uses + j ≤ _; omega
    have dwf : D.wf := by rw [hD]; exact later_wf hwf j
    unfold Sg.ask
    by_cases he : S.ch (4 * ((who + j) % w) + c) = []
    · rw [if_pos he]
      obtain ⟨y, y3, hp⟩ := ask_none Y du wh hc ⟨h0, by omega⟩ he
      have e1 : D.later 1 = A.later (j + 1) := by rw [hD]; unfold Ar.later; simp only [Ar.mk.injEq, true_and]; omega
      by_cases hl : j + 1 < w
      · rw [if_pos hl] at hp
        rcases ask_path X hwf hu wh hc f (j + 1) (by omega) (by omega) (D.later 1) e1 (by omega) with ⟨y2, a1, a2⟩ | ⟨k, b, l, y2, i, a1, a2, a3, a4, a5, a6, a7, n, a8, a9⟩
        · exact .inl ⟨y2, a1, by have := hp.trans a2; rw [Nat.add_comm] at this; exact this⟩
        · exact .inr ⟨k, b, l, y2, i, a1, a2, a3, a4, a5, by omega, a7, 1 + n, by omega, hp.trans a9⟩
      · rw [if_neg hl] at hp
        have f0 : f = 0 := by omega
        subst f0
        have ew : j + 1 = w := by omega
        refine .inl ⟨y, rfl, ?_⟩
        rw [← ew, ← e1]; rw [← ew] at hp; exact hp
    · rw [if_neg he]
      obtain ⟨b, l, hbl⟩ := List.exists_cons_of_ne_nil he
      obtain ⟨y, hp⟩ := ask_some Y dwf du wh hc ⟨h0, by omega⟩ hbl
      refine .inr ⟨_, b, l, y, j.toNat, rfl, hbl, by omega, by omega, by omega, by omega, by omega, 3, by omega, ?_⟩
      have ej : ((j.toNat : Nat) : Int) = j := by omega
      rw [ej, ← hD]; exact hp

theorem later0 (A : Ar) : A.later 0 = A := by unfold Ar.later; rw [Int.add_zero]

theorem alloc_solo (X : SL A p w m S) (hwf : A.wf) (hu : A.uses ≤ 1000000) {who : Int} (wh : 0 ≤ who ∧ who < w) (hc : 0 ≤ c ∧ c < 4) : ∃ n x' A' S', Alloced A p w m S who c n x' A' S' := by
  obtain ⟨p1, p2, p3, p4, p5⟩ := X.places
  have wb := X.wb
  have mb := X.mb
  have us := X.F.us
  have cvb := X.cvb
  have sz := sz_pos hc.1 hc.2
  have e0 : newAl p who c = askAl p w who c 0 := by
    unfold newAl askAl; rw [Int.add_zero, Int.emod_eq_of_lt wh.1 wh.2]
  rcases ask_path X hwf hu wh hc w.toNat 0 (Int.le_refl 0) (by omega) A (later0 A).symm (by omega) with ⟨y, a1, a2⟩ | ⟨k, b, l, y, i, a1, a2, a3, a4, a5, a6, a7, n, a8, a9⟩
  · have Y : SL (A.later w) p w m S := X.later (by omega)
    have yu : (A.later w).uses ≤ 1000000000 := by show A.uses + w ≤ _; omega
    by_cases hf : S.cv + sizeF c ≤ m
    · -- new words
      have cp := carve_yes Y yu (who := who) (j := w) (y := y) hc ⟨by omega, by omega⟩ hf
      have Z := (Y.later (n := 1) (by omega)).carve (by show A.uses + w + 1 ≤ _; omega) hc.1 hc.2 hf
      generalize hD : (((A.later w).later 1).later 1).setR p.carved.toNat (S.cv + sizeF c) = D at *
      have okc : (((A.later w).later 1).later 1).rawOk p.carved := ⟨by omega, X.rl⟩
      have du : D.uses = A.uses + w + 1 + 1 := by rw [← hD]; rfl
      have dwf : D.wf := by rw [← hD]; exact setR_wf (later_wf (later_wf (later_wf hwf _) _) _) _ _
      have hcl : S.cl S.cv = -1 := by
        by_cases h : S.cl S.cv = -1
        · exact h
        · have := X.blk _ h; have := sz_pos this.1 this.2.1; omega
      have gz : S.gn S.cv = 0 := X.gnz _ (Int.le_refl _)
      have ecl : updI S.cl S.cv c S.cv = c := if_pos rfl
      have dst : ∀ h, D.stF h = A.stF h := fun h => by rw [← hD]; exact stF_slots rfl h
      obtain ⟨v1, ⟨o1, o2, o3, o4⟩, v2, v3, v4, v5⟩ := Z.bear dwf (by omega) (b := S.cv) (c := c) ecl (by omega) (fun k hk => by
        have := X.chc k _ hk; have := X.F.rg k (by intro e; rw [e] at hk; cases hk); omega) (fun h hh e => by
        rw [dst] at hh
        have := (X.act h hh).1; rw [e, hcl] at this; have := (opC_nat h).1; omega)
      have bl := bear_last Z (by omega) (who := who) (j := w) (y := y) (b := S.cv) (c := c) ⟨by omega, by omega⟩ ecl (by omega) v2
      dsimp only at v1 v2 v3 v4 v5 bl o1 o2 o3 o4
      rw [gz] at v1 v2 v3 v4 v5 bl o1 o2 o3 o4
      rw [if_pos rfl] at v3
      have e1 : (0 : Int) + 1 = 1 := rfl
      rw [e1] at v1 v2 v3 v4 v5 bl o1 o2 o3 o4
      have hn0 : packF S.cv 1 c ≠ 0 := fun e => by rw [e] at o2; revert o2; decide
      have okg : (D.later 1).rawOk (p.gens + S.cv / 8) := by
        refine ⟨by omega, ?_⟩
        have hl : (D.raw.length : Int) = A.raw.length := by rw [← hD]; show ((A.raw.set _ _).length : Int) = _; rw [List.length_set]
        show _ < (D.raw.length : Int); rw [hl]; have := X.rl; omega
      have off1 : Off p.carved (w + 1 + 1 + 0) A D := by
        rw [← hD]
        exact (((Off.later hwf w).trans (Off.later (later_wf hwf _) 1)).trans (Off.later (later_wf (later_wf hwf _) _) 1)).trans (Off.setR (later_wf (later_wf (later_wf hwf _) _) _) okc (Int.le_refl _))
      have off2 := (off1.trans (Off.later dwf 1)).trans (Off.setR (c := p.carved) (v := 1) (later_wf dwf 1) okg (by omega))
      have off3 := off2.trans (Off.bornF (c := p.carved) off2.wf (by rw [off2.fr]; exact X.fr) (k := packF S.cv 1 c) v2.2.1)
      have run := (a2.trans cp).run bl
      rw [← e0] at run
      refine ⟨_, _, _, _, ⟨run, ?_, ?_, v3, fun k => ?_, ?_, ?_, by omega, fun _ => ⟨o3, o4, ?_⟩⟩⟩
      · exact Gives.carve a1 hf
      · have en : ((w.toNat + 2 + 1 : Nat) : Int) = w + 1 + 1 + 0 + 1 + 0 + 0 := by omega
        rw [en]; exact off3
      · dsimp only
        rw [v4]
        by_cases e : k = packF S.cv 1 c
        · rw [if_pos e, if_pos ⟨hn0, e⟩]
        · rw [if_neg e, if_neg (fun h => e h.2)]; exact dst k
      · dsimp only
        rw [v5, if_pos hn0]
        have : D.nL = A.nL := by rw [← hD]; rfl
        rw [this]
      · have h1 := (bornF_counts ((D.later 1).setR (p.gens + S.cv / 8).toNat 1) off2.wf (packF S.cv 1 c)).2.2.2
        rw [h1]
        show D.nR = _
        rw [← hD]; rfl
      · dsimp only
        by_cases z : A.stF (packF S.cv 1 c) = 0
        · exact z
        · have := (X.act _ z).1
          rw [o1, hcl, o3] at this; omega
    · have cn := carve_no Y yu (who := who) (j := w) (y := y) hc ⟨by omega, by omega⟩ hf
      have run := a2.run cn
      rw [← e0] at run
      have ew : (A.later w).later 1 = A.later (w + 1) := by unfold Ar.later; simp only [Ar.mk.injEq, true_and]; omega
      rw [ew] at run
      refine ⟨_, _, _, S, ⟨run, .none a1 hf, ?_, X.later (by omega), fun k => ?_, ?_, rfl, by omega, fun h => (h rfl).elim⟩⟩
      · have en : ((w.toNat + 1 : Nat) : Int) = w + 1 := by omega
        rw [en]; exact Off.later hwf _
      · rw [if_neg (fun h => h.1 rfl)]; exact stF_slots rfl k
      · rw [if_neg (fun h => h rfl), Int.add_zero]; rfl
  · -- out of a list
    have Y : SL (A.later i) p w m S := X.later (by omega)
    have yu : (A.later i).uses ≤ 1000000000 := by show A.uses + i ≤ _; omega
    have Z := Y.pop yu a2
    have o1k := X.F.hdOk a3 a4
    have dwf := popped_wf (later_wf hwf i) k (4 * w + b / 8)
    have dus : ((A.later i).popped k (4 * w + b / 8)).uses = A.uses + i + 3 := rfl
    have dst : ∀ h, ((A.later i).popped k (4 * w + b / 8)).stF h = A.stF h := fun h => stF_slots rfl h
    have dnl : ((A.later i).popped k (4 * w + b / 8)).nL = A.nL := rfl
    have dnr : ((A.later i).popped k (4 * w + b / 8)).nR = A.nR := rfl
    have drl : (((A.later i).popped k (4 * w + b / 8)).raw.length : Int) = A.raw.length := by unfold Ar.popped Ar.later; simp
    have off1 : Off p.carved (i + 3) A ((A.later i).popped k (4 * w + b / 8)) := (Off.later hwf i).trans (Off.popped (later_wf hwf i) (show (A.later i).rawOk k from o1k) (by omega))
    generalize hD : (A.later i).popped k (4 * w + b / 8) = D at *
    have hcb : S.cl b = c := by have := X.chc k b (by rw [a2]; simp); omega
    have hch : ∀ j, b ∉ upd S.ch k l j := fun j hj => by
      unfold upd at hj
      split at hj
      · have := X.F.nd k; rw [a2] at this; exact (List.nodup_cons.1 this).1 hj
      · rename_i hne
        exact hne (X.F.dj j k b hj (by rw [a2]; simp))
    have hact : ∀ h, D.stF h ≠ 0 → opB h ≠ b := fun h hh e => by
      rw [dst] at hh
      exact (X.act h hh).2 k (by rw [e, a2]; simp)
    obtain ⟨v1, ⟨o1, o2, o3, o4⟩, v2, v3, v4, v5⟩ := Z.bear dwf (by omega) (b := b) (c := c) hcb (by omega) hch hact
    have bl := bear_last Z (by omega) (who := who) (j := i + 1) (y := y) (b := b) (c := c) ⟨by omega, by omega⟩ hcb (by omega) v2
    dsimp only at v1 v2 v3 v4 v5 bl o1 o2 o3 o4
    have gb := X.gnb b
    have hn0 : packF b (S.gn b + 1) c ≠ 0 := fun e => by
      rw [e] at o2
      have z : opG 0 = 0 := by decide
      rw [z] at o2; omega
    have blk := X.blk b (by rw [hcb]; omega)
    rw [hcb] at blk
    have okg : (D.later 1).rawOk (p.gens + b / 8) := by
      refine ⟨by omega, ?_⟩
      show _ < (D.raw.length : Int); rw [drl]; have := X.rl; omega
    have off2 := (off1.trans (Off.later dwf 1)).trans (Off.setR (c := p.carved) (v := S.gn b + 1) (later_wf dwf 1) okg (by omega))
    have off3 := off2.trans (Off.bornF (c := p.carved) off2.wf (by rw [off2.fr]; exact X.fr) (k := packF b (S.gn b + 1) c) v2.2.1)
    have run := a9.run bl
    rw [← e0] at run
    refine ⟨_, _, _, _, ⟨run, ?_, ?_, v3, fun j => ?_, ?_, ?_, by omega, fun _ => ⟨o3, o4, ?_⟩⟩⟩
    · exact Gives.list a1 a2 a3 a4 a5
    · have en : ((n + 1 : Nat) : Int) = i + 3 + 1 + 0 + 0 := by omega
      rw [en]; exact off3
    · dsimp only
      rw [v4]
      by_cases e : j = packF b (S.gn b + 1) c
      · rw [if_pos e, if_pos ⟨hn0, e⟩]
      · rw [if_neg e, if_neg (fun h => e h.2)]; exact dst j
    · dsimp only
      rw [v5, if_pos hn0, dnl]
    · have h1 := (bornF_counts ((D.later 1).setR (p.gens + b / 8).toNat (S.gn b + 1)) off2.wf (packF b (S.gn b + 1) c)).2.2.2
      rw [h1]
      show D.nR = _
      rw [dnr]
    · dsimp only
      by_cases z : A.stF (packF b (S.gn b + 1) c) = 0
      · exact z
      · exact ((X.act _ z).2 k (by rw [o1, a2]; simp)).elim
end
end Go.Proofs.Ytcjhakdopnamoaa

set_option linter.unusedVariables false
set_option linter.unusedSimpArgs false
set_option maxRecDepth 20000
namespace Go.Proofs.Ytcjhakdopnamoaa
open Go Go.Fw

section
variable {A B C : Ar} {p : Pl} {w m : Int} {S : Sg} {c : Int}

theorem Gives.or {who h : Int} {S' : Sg} (g : Gives S w m who c S' h) :
    (∃ k b l, S.ask w who c w.toNat 0 = some k ∧ S.ch k = b :: l ∧ 0 ≤ k ∧ k < 4 * w ∧ k % 4 = c ∧ S' = { S with ch := upd S.ch k l, gn := updI S.gn b (S.gn b + 1), nc := S.nc + (if S.gn b = 0 then sizeF c else 0) } ∧ h = packF b (S.gn b + 1) c) ∨
    (S.ask w who c w.toNat 0 = Option.none ∧ S.cv + sizeF c ≤ m ∧ S' = { S with cv := S.cv + sizeF c, cl := updI S.cl S.cv c, gn := updI S.gn S.cv 1, nc := S.nc + sizeF c } ∧ h = packF S.cv 1 c) ∨
    (S.ask w who c w.toNat 0 = Option.none ∧ ¬ S.cv + sizeF c ≤ m ∧ S' = S ∧ h = 0) := by
  cases g with
  | list h1 h2 h3 h4 h5 => exact .inl ⟨_, _, _, h1, h2, h3, h4, h5, rfl, rfl⟩
  | carve h1 h2 => exact .inr (.inl ⟨h1, h2, rfl, rfl⟩)
  | none h1 h2 => exact .inr (.inr ⟨h1, h2, rfl, rfl⟩)

/-- What is known of what was carved. -/
theorem carve_name (X : SL A p w m S) (hc : 0 ≤ c ∧ c < 4) (hf : S.cv + sizeF c ≤ m) : opB (packF S.cv 1 c) = S.cv ∧ opG (packF S.cv 1 c) = 1 ∧ opC (packF S.cv 1 c) = c ∧ openOk (packF S.cv 1 c) = true ∧ packF S.cv 1 c ≠ 0 := by
  have sz := sz_pos hc.1 hc.2
  have cvb := X.cvb
  have mb := X.mb
  obtain ⟨o1, o2, o3, o4⟩ := opB_pack (b := S.cv) (g := 1) (c := c) ⟨by omega, by omega, by omega, by omega, by omega, by omega⟩
  refine ⟨o1, o2, o3, o4, fun e => ?_⟩
  rw [e] at o2; revert o2; decide
theorem ask_nil {who : Int} (h : ∀ k, S.ch k = []) : ∀ (f : Nat) (j : Int), S.ask w who c f j = Option.none
  | 0, _ => rfl
  | f + 1, j => by unfold Sg.ask; rw [if_pos (h _)]; exact ask_nil h f (j + 1)

/-! ### A free alone, to its end -/

structure Freed (A : Ar) (p : Pl) (w m : Int) (S : Sg) (who h : Int) (x' : Fe) (A' : Ar) : Prop where
  run : mFe.Runs 3 (newFe p who h) A x' A'
  off : Off p.carved 3 A A'
  sl : SL A' p w m { S with ch := upd S.ch (4 * who + opC h) (opB h :: S.ch (4 * who + opC h)) }
  st : ∀ k, A'.stF k = if k = h then 0 else A.stF k
  nL : A'.nL = A.nL
  nR : A'.nR = A.nR - sizeF (opC h)

theorem free_solo (X : SL A p w m S) (hwf : A.wf) (hu : A.uses ≤ 1000000) {who h : Int} (wh : 0 ≤ who ∧ who < w) (hs : A.stF h = 2) (cn : -(64 * (A.uses + 1)) ≤ A.nR - sizeF (opC h)) : ∃ x' A', Freed A p w m S who h x' A' := by
  obtain ⟨p1, p2, p3, p4, p5⟩ := X.places
  have wb := X.wb
  have mb := X.mb
  have us := X.F.us
  have cvb := X.cvb
  have hC := opC_nat h
  obtain ⟨a1, a2⟩ := X.act h (by rw [hs]; decide)
  obtain ⟨b1, b2, b3, b4, b5⟩ := X.blk (opB h) (by omega)
  have sz := sz_pos b1 b2
  have hh := headF_eq (p := p) (w := who) (c := opC h) p1 ⟨wh.1, by omega⟩ hC
  have hb : 0 ≤ opB h ∧ opB h % 8 = 0 ∧ opB h / 8 < (m + 7) / 8 := ⟨b3, b4, by omega⟩
  generalize hk : 4 * who + opC h = k at *
  have k0 : 0 ≤ k := by omega
  have k1 : k < 4 * w := by omega
  have o1 : A.rawOk k := X.F.hdOk k0 k1
  have o2 := X.F.lkOk hb.1 hb.2.2
  have nb := X.F.nb
  have td : Int.tdiv (opB h) 8 = opB h / 8 := Int.tdiv_eq_ediv_of_nonneg hb.1
  have el : w64 (p.links + w64 (Int.tdiv (opB h) 8)) = 4 * w + opB h / 8 := by rw [td, p2, w64_in (x := opB h / 8) (by omega) (by omega), w64_in (by omega) (by omega)]
  have t1 : w64 (A.uses + 1) = A.uses + 1 := w64_in (by omega) (by omega)
  have t2 : w64 (A.uses + 1 + 1) = A.uses + 1 + 1 := w64_in (by omega) (by omega)
  have t3 : w64 (A.uses + 1 + 1 + 1) = A.uses + 1 + 1 + 1 := w64_in (by omega) (by omega)
  have e1 := Pu.s0 (A := A) (x := ⟨p, k, 0, 0, opB h⟩) rfl o1
  have e2 := Pu.s1 (A := A.tick) (x := ⟨p, k, A.rawF k, 1, opB h⟩) rfl el o2
  have o3 : (A.tick.tick.setR (4 * w + opB h / 8).toNat (iand (A.rawF k) 131071)).rawOk k := by
    unfold Ar.rawOk at *; show 0 ≤ k ∧ k < ((A.raw.set _ _).length : Int); rw [List.length_set]; exact o1
  have hhd : (A.tick.tick.setR (4 * w + opB h / 8).toNat (iand (A.rawF k) 131071)).rawF k = A.rawF k := by
    rw [rawF_setR (A := A.tick.tick) o2, if_neg (by omega)]; rfl
  have e3 := Pu.s2y (A := A.tick.tick.setR (4 * w + opB h / 8).toNat (iand (A.rawF k) 131071)) (x := ⟨p, k, A.rawF k, 2, opB h⟩) rfl o3 hhd
  have ef : (A.tick.tick.setR (4 * w + opB h / 8).toNat (iand (A.rawF k) 131071)).tick.setR k.toNat (nextF (A.rawF k) (w64 (w64 (Int.tdiv (opB h) 8) + 1))) = A.pushed k (4 * w + opB h / 8) (opB h) := by
    unfold Ar.pushed Ar.setR Ar.tick
    simp only [t1, t2, t3, Ar.mk.injEq, true_and]
    omega
  have c1 : (Pu.mk p k 0 0 (opB h)).stepB A = false := by rw [← Pu.fin, (Prod.mk.inj e1).1]; rfl
  have c2 : (Pu.mk p k (A.rawF k) 1 (opB h)).stepB A.tick = false := by rw [← Pu.fin, (Prod.mk.inj e2).1]; rfl
  have c3 : (Pu.mk p k (A.rawF k) 2 (opB h)).stepB (A.tick.tick.setR (4 * w + opB h / 8).toNat (iand (A.rawF k) 131071)) = true := by rw [← Pu.fin, (Prod.mk.inj e3).1]; rfl
  have ne : newFe p who h = ⟨h, false, ⟨p, k, 0, 0, opB h⟩⟩ := by unfold newFe; rw [hh]
  have s1 : Fe.step ⟨h, false, ⟨p, k, 0, 0, opB h⟩⟩ A = (⟨h, false, ⟨p, k, A.rawF k, 1, opB h⟩⟩, A.tick) := by
    unfold Fe.step
    simp only [c1, Bool.false_eq_true, if_false]
    rw [(Prod.mk.inj e1).1, (Prod.mk.inj e1).2]
  have s2 : Fe.step ⟨h, false, ⟨p, k, A.rawF k, 1, opB h⟩⟩ A.tick = (⟨h, false, ⟨p, k, A.rawF k, 2, opB h⟩⟩, A.tick.tick.setR (4 * w + opB h / 8).toNat (iand (A.rawF k) 131071)) := by
    unfold Fe.step
    simp only [c2, Bool.false_eq_true, if_false]
    rw [(Prod.mk.inj e2).1, (Prod.mk.inj e2).2]
  have s3 : Fe.step ⟨h, false, ⟨p, k, A.rawF k, 2, opB h⟩⟩ (A.tick.tick.setR (4 * w + opB h / 8).toNat (iand (A.rawF k) 131071)) = (⟨h, true, ⟨p, k, A.rawF k, 3, opB h⟩⟩, (A.pushed k (4 * w + opB h / 8) (opB h)).diedF h) := by
    unfold Fe.step
    simp only [c3, Bool.false_eq_true, if_false, if_true]
    rw [(Prod.mk.inj e3).1, (Prod.mk.inj e3).2, ef]
  obtain ⟨g1, g2, g3, g4⟩ := X.give hwf (by omega) hs wh.1 wh.2 cn
  rw [hk] at g1 g2 g3 g4
  have off : Off p.carved 3 A ((A.pushed k (4 * w + opB h / 8) (opB h)).diedF h) := by
    have := (Off.pushed (c := p.carved) (b := opB h) hwf o1 o2 (by omega) (by omega)).trans (Off.diedF (c := p.carved) (pushed_wf hwf k (4 * w + opB h / 8) (opB h)) h)
    exact this
  have r : mFe.Runs (2 + 1) ⟨h, false, ⟨p, k, 0, 0, opB h⟩⟩ A ⟨h, true, ⟨p, k, A.rawF k, 3, opB h⟩⟩ ((A.pushed k (4 * w + opB h / 8) (opB h)).diedF h) := by
    refine Mch.Path.run (X := mFe) (k := 2) (n := 1) (.cons trivial s1 (Int.le_refl _) rfl (.cons trivial s2 (Int.le_refl _) rfl .nil)) (Mch.Runs.last trivial s3 ?_ rfl)
    rw [off.us]
    show A.uses + 3 ≤ w64 (w64 (w64 (A.uses + 1) + 1) + 1)
    rw [t1, t2, t3]; omega
  rw [← ne] at r
  exact ⟨_, _, ⟨r, off, by rw [hk]; exact g1, g2, g3, g4⟩⟩
end
end Go.Proofs.Ytcjhakdopnamoaa

set_option linter.unusedVariables false
set_option linter.unusedSimpArgs false
set_option maxRecDepth 20000
namespace Go.Proofs.Ytcjhakdopnamoaa
open Go Go.Fw

def plCells (p : Pl) : List Value := [.int .i64 p.work, .int .i64 p.heads, .int .i64 p.links, .int .i64 p.gens, .int .i64 p.carved]
section
variable {L : Hands} {R : Value → Heap → Prop} {H : Heap}

theorem w_ckA (i : Nat) {A : Ar} {I : List Nat} {l : Bl} {G : Heap} {a : Addr} {b n : Nat} {T : TypeId} {c : List Value} {v : Value} {t : Tree} (hA : Aw I A) (ok : Ok I G (keys l)) (ha : a = ⟨b, 0, none⟩) (hi : l[i]? = some (b, oc T c)) (hn : n = c.length) (hv : v = .agg c.toArray) (h : wp Try.prog t L (own A l G) R) :
    wp Try.prog (.check (ldAS a n 0 #[]) v t) L (own A l G) R := by
  subst ha; subst hn; subst hv
  refine ⟨?_, h⟩
  rw [ldAS_eq]
  refine ldK_still (own_get hA ok hi) _ 0 #[] (by simp) ?_
  show (Value.agg (#[] ++ c.toArray.extract 0 (0 + 0 + c.length)) : Value) = _
  simp
end
end Go.Proofs.Ytcjhakdopnamoaa

set_option linter.unusedVariables false
namespace Go.Proofs.Ytcjhakdopnamoaa
open Go Go.Fw

/-! ### Blocks of so many -/

end Go.Proofs.Ytcjhakdopnamoaa

set_option linter.unusedVariables false
set_option maxRecDepth 10000
namespace Go.Proofs.Ytcjhakdopnamoaa
open Go Go.Fw
/- magpie/guard.of -/
noncomputable def t_guard_of (p0 : Int) (p1 : Int) (p2 : Bool) : Tree :=
  bif p2 then (
    .qcall f_guard_epochTable [(.int .i64 p0), (.int .i64 p1)] (.one (.agg [(.int .i64), (.int .i64)])) fun x12 =>
    .ret (.iface ty_guard_epochs (.agg #[(.int .i64 x12.1), (.int .i64 x12.2.1)])))
  else (
    .qcall f_hazard_Raw [(.int .i64 p0), (.int .i64 p1)] (.tup [(.agg [(.int .i64), (.int .i64)]), (.leaf (.int .i64))]) fun x18 =>
    .newP (.cells #[(.int .i64 0), (.int .i64 0)] ty_hazard_Table) fun x7 =>
    .stA x7 [(.int .i64 x18.1.1), (.int .i64 x18.1.2.1)] <|
    .ldA x7 [(.int .i64), (.int .i64)] fun x21 =>
    .ret (.iface ty_guard_hazards (.agg #[(.int .i64 x21.1), (.int .i64 x21.2.1)])))
theorem t_guard_of_eq (p0 : Int) (p1 : Int) (p2 : Bool) : funcTree Try.prog { quiet := [16, 34, 36, 40, 41, 66, 67, 75, 76, 77, 97, 98, 103, 108, 110, 139, 146, 149, 161], quietTmp := false, fncs := [], ifcs := [] } Try.f68 [(.int .i64 p0), (.int .i64 p1), (.bool p2)] = t_guard_of p0 p1 p2 := by kernel_rfl
theorem t_guard_of_spec {p0 : Int} {p1 : Int} {p2 : Bool} {H : Heap} {R : Value → Heap → Prop} (h : ∀ L, wp Try.prog (t_guard_of p0 p1 p2) L H R) : SpecF Try.prog f_guard_of #[(.int .i64 p0), (.int .i64 p1), (.bool p2)] H R :=
  spec_of_tree (cfg := { quiet := [16, 34, 36, 40, 41, 66, 67, 75, 76, 77, 97, 98, 103, 108, 110, 139, 146, 149, 161], quietTmp := false, fncs := [], ifcs := [] }) Try.func68 fun L => (t_guard_of_eq p0 p1 p2).symm ▸ h L

/- magpie/guard.epochTable -/
noncomputable def t_guard_epochTable (p0 : Int) (p1 : Int) : Tree :=
  .newP (.cells #[(.int .i64 0), (.int .i64 0)] ty_epoch_Table) fun x4 =>
  .qcall f_epoch_Raw [(.int .i64 p0), (.int .i64 p1)] (.tup [(.agg [(.int .i64), (.int .i64)]), (.leaf (.int .i64))]) fun x10 =>
  .newP (.cells #[(.int .i64 0), (.int .i64 0)] ty_epoch_Table) fun x5 =>
  .stA x5 [(.int .i64 x10.1.1), (.int .i64 x10.1.2.1)] <|
  .ldA x5 [(.int .i64), (.int .i64)] fun x13 =>
  .stA x4 [(.int .i64 x13.1), (.int .i64 x13.2.1)] <|
  .look (ldK x4 2 0 #[] fun r0 => .pure (.value (.agg r0))) (.one (.agg [(.int .i64), (.int .i64)])) fun r => .ret (Sh.toVal (.one (.agg [(.int .i64), (.int .i64)])) r)
theorem t_guard_epochTable_eq (p0 : Int) (p1 : Int) : funcTree Try.prog { quiet := [16, 34, 36, 40, 41, 66, 67, 75, 76, 77, 97, 98, 103, 108, 110, 139, 146, 149, 161], quietTmp := false, fncs := [], ifcs := [] } Try.f97 [(.int .i64 p0), (.int .i64 p1)] = t_guard_epochTable p0 p1 := by kernel_rfl
theorem t_guard_epochTable_spec {p0 : Int} {p1 : Int} {H : Heap} {R : Value → Heap → Prop} (h : ∀ L, wp Try.prog (t_guard_epochTable p0 p1) L H R) : SpecF Try.prog f_guard_epochTable #[(.int .i64 p0), (.int .i64 p1)] H R :=
  spec_of_tree (cfg := { quiet := [16, 34, 36, 40, 41, 66, 67, 75, 76, 77, 97, 98, 103, 108, 110, 139, 146, 149, 161], quietTmp := false, fncs := [], ifcs := [] }) Try.func97 fun L => (t_guard_epochTable_eq p0 p1).symm ▸ h L

/- magpie/guard.Raw -/
noncomputable def t_guard_Raw (p0 : Int) (p1 : Int) (p2 : Bool) : Tree :=
  .call f_guard_of [(.int .i64 p0), (.int .i64 p1), (.bool p2)] (.one (.leaf .val)) fun x10 =>
  .act (opS Try.prog (.call { callee := .invoke (.tmp 0) "magpie/guard.words", args := #[], argTypes := #[] }) ty_int [x10]) (.one (.leaf (.int .i64))) fun x11 =>
  .ret (.int .i64 x11)
theorem t_guard_Raw_eq (p0 : Int) (p1 : Int) (p2 : Bool) : funcTree Try.prog { quiet := [16, 34, 36, 40, 41, 66, 67, 75, 76, 77, 97, 98, 103, 108, 110, 139, 146, 149, 161], quietTmp := false, fncs := [], ifcs := [] } Try.f31 [(.int .i64 p0), (.int .i64 p1), (.bool p2)] = t_guard_Raw p0 p1 p2 := by kernel_rfl
theorem t_guard_Raw_spec {p0 : Int} {p1 : Int} {p2 : Bool} {H : Heap} {R : Value → Heap → Prop} (h : ∀ L, wp Try.prog (t_guard_Raw p0 p1 p2) L H R) : SpecF Try.prog f_guard_Raw #[(.int .i64 p0), (.int .i64 p1), (.bool p2)] H R :=
  spec_of_tree (cfg := { quiet := [16, 34, 36, 40, 41, 66, 67, 75, 76, 77, 97, 98, 103, 108, 110, 139, 146, 149, 161], quietTmp := false, fncs := [], ifcs := [] }) Try.func31 fun L => (t_guard_Raw_eq p0 p1 p2).symm ▸ h L

/- magpie/guard.New -/
noncomputable def t_guard_New (p0 : Int) (p1 : Int) (p2 : Bool) (p3 : Int) (p4_0 : Int) (p4_1 : Int) (p4_2 : Int) (p4_3 : Int) (p4_4 : Int) : Tree :=
  .newP (.cells #[(.int .i64 p4_0), (.int .i64 p4_1), (.int .i64 p4_2), (.int .i64 p4_3), (.int .i64 p4_4)] ty_free_Place) fun x9 =>
  .ldA x9 [(.int .i64), (.int .i64), (.int .i64), (.int .i64), (.int .i64)] fun x15 =>
  .both (
    .call f_guard_of [(.int .i64 p0), (.int .i64 p1), (.bool p2)] (.one (.leaf .ifc)) fun x14 =>
    .check (ldAS x9 5 0 #[]) (.agg #[(.int .i64 x15.1), (.int .i64 x15.2.1), (.int .i64 x15.2.2.1), (.int .i64 x15.2.2.2.1), (.int .i64 x15.2.2.2.2.1)]) <|
    .newM fun x19 =>
    .check (ldAS x9 5 0 #[]) (.agg #[(.int .i64 x15.1), (.int .i64 x15.2.1), (.int .i64 x15.2.2.1), (.int .i64 x15.2.2.2.1), (.int .i64 x15.2.2.2.2.1)]) <|
    .newP (.cells #[(.iface x14.t x14.v), (.int .i64 x15.1), (.int .i64 x15.2.1), (.int .i64 x15.2.2.1), (.int .i64 x15.2.2.2.1), (.int .i64 x15.2.2.2.2.1), (.int .i64 (imax 1 (imin p3 64))), (.map x19)] ty_guard_Guard) fun x21 =>
    .ret (.pointer (some x21))) (
    .newM fun x19 =>
    .check (ldAS x9 5 0 #[]) (.agg #[(.int .i64 x15.1), (.int .i64 x15.2.1), (.int .i64 x15.2.2.1), (.int .i64 x15.2.2.2.1), (.int .i64 x15.2.2.2.2.1)]) <|
    .call f_guard_of [(.int .i64 p0), (.int .i64 p1), (.bool p2)] (.one (.leaf .ifc)) fun x14 =>
    .check (ldAS x9 5 0 #[]) (.agg #[(.int .i64 x15.1), (.int .i64 x15.2.1), (.int .i64 x15.2.2.1), (.int .i64 x15.2.2.2.1), (.int .i64 x15.2.2.2.2.1)]) <|
    .newP (.cells #[(.iface x14.t x14.v), (.int .i64 x15.1), (.int .i64 x15.2.1), (.int .i64 x15.2.2.1), (.int .i64 x15.2.2.2.1), (.int .i64 x15.2.2.2.2.1), (.int .i64 (imax 1 (imin p3 64))), (.map x19)] ty_guard_Guard) fun x21 =>
    .ret (.pointer (some x21)))
theorem t_guard_New_eq (p0 : Int) (p1 : Int) (p2 : Bool) (p3 : Int) (p4_0 : Int) (p4_1 : Int) (p4_2 : Int) (p4_3 : Int) (p4_4 : Int) : funcTree Try.prog { quiet := [16, 34, 36, 40, 41, 66, 67, 75, 76, 77, 97, 98, 103, 108, 110, 139, 146, 149, 161], quietTmp := false, fncs := [], ifcs := [14] } Try.f59 [(.int .i64 p0), (.int .i64 p1), (.bool p2), (.int .i64 p3), (.agg #[(.int .i64 p4_0), (.int .i64 p4_1), (.int .i64 p4_2), (.int .i64 p4_3), (.int .i64 p4_4)])] = t_guard_New p0 p1 p2 p3 p4_0 p4_1 p4_2 p4_3 p4_4 := by kernel_rfl
theorem t_guard_New_spec {p0 : Int} {p1 : Int} {p2 : Bool} {p3 : Int} {p4_0 : Int} {p4_1 : Int} {p4_2 : Int} {p4_3 : Int} {p4_4 : Int} {H : Heap} {R : Value → Heap → Prop} (h : ∀ L, wp Try.prog (t_guard_New p0 p1 p2 p3 p4_0 p4_1 p4_2 p4_3 p4_4) L H R) : SpecF Try.prog f_guard_New #[(.int .i64 p0), (.int .i64 p1), (.bool p2), (.int .i64 p3), (.agg #[(.int .i64 p4_0), (.int .i64 p4_1), (.int .i64 p4_2), (.int .i64 p4_3), (.int .i64 p4_4)])] H R :=
  spec_of_tree (cfg := { quiet := [16, 34, 36, 40, 41, 66, 67, 75, 76, 77, 97, 98, 103, 108, 110, 139, 146, 149, 161], quietTmp := false, fncs := [], ifcs := [14] }) Try.func59 fun L => (t_guard_New_eq p0 p1 p2 p3 p4_0 p4_1 p4_2 p4_3 p4_4).symm ▸ h L

/- (magpie/guard.hazards).words -/
noncomputable def t_guard_hazards_words (p0_0 : Int) (p0_1 : Int) : Tree :=
  .newP (.cells #[(.int .i64 p0_0), (.int .i64 p0_1)] ty_guard_hazards) fun x1 =>
  .ld x1 (.int .i64) fun x5 =>
  .ret (.int .i64 (w64 (2 * (imax x5 0))))
theorem t_guard_hazards_words_eq (p0_0 : Int) (p0_1 : Int) : funcTree Try.prog { quiet := [16, 34, 36, 40, 41, 66, 67, 75, 76, 77, 97, 98, 103, 108, 110, 139, 146, 149, 161], quietTmp := false, fncs := [], ifcs := [] } Try.f146 [(.agg #[(.int .i64 p0_0), (.int .i64 p0_1)])] = t_guard_hazards_words p0_0 p0_1 := by kernel_rfl
theorem t_guard_hazards_words_spec {p0_0 : Int} {p0_1 : Int} {H : Heap} {R : Value → Heap → Prop} (h : ∀ L, wp Try.prog (t_guard_hazards_words p0_0 p0_1) L H R) : SpecF Try.prog f_guard_hazards_words #[(.agg #[(.int .i64 p0_0), (.int .i64 p0_1)])] H R :=
  spec_of_tree (cfg := { quiet := [16, 34, 36, 40, 41, 66, 67, 75, 76, 77, 97, 98, 103, 108, 110, 139, 146, 149, 161], quietTmp := false, fncs := [], ifcs := [] }) Try.func146 fun L => (t_guard_hazards_words_eq p0_0 p0_1).symm ▸ h L

/- (magpie/guard.epochs).words -/
noncomputable def t_guard_epochs_words (p0_0 : Int) (p0_1 : Int) : Tree :=
  .newP (.cells #[(.int .i64 p0_0), (.int .i64 p0_1)] ty_guard_epochs) fun x1 =>
  .ld x1 (.int .i64) fun x5 =>
  .ret (.int .i64 (w64 (1 + (imax x5 0))))
theorem t_guard_epochs_words_eq (p0_0 : Int) (p0_1 : Int) : funcTree Try.prog { quiet := [16, 34, 36, 40, 41, 66, 67, 75, 76, 77, 97, 98, 103, 108, 110, 139, 146, 149, 161], quietTmp := false, fncs := [], ifcs := [] } Try.f139 [(.agg #[(.int .i64 p0_0), (.int .i64 p0_1)])] = t_guard_epochs_words p0_0 p0_1 := by kernel_rfl
theorem t_guard_epochs_words_spec {p0_0 : Int} {p0_1 : Int} {H : Heap} {R : Value → Heap → Prop} (h : ∀ L, wp Try.prog (t_guard_epochs_words p0_0 p0_1) L H R) : SpecF Try.prog f_guard_epochs_words #[(.agg #[(.int .i64 p0_0), (.int .i64 p0_1)])] H R :=
  spec_of_tree (cfg := { quiet := [16, 34, 36, 40, 41, 66, 67, 75, 76, 77, 97, 98, 103, 108, 110, 139, 146, 149, 161], quietTmp := false, fncs := [], ifcs := [] }) Try.func139 fun L => (t_guard_epochs_words_eq p0_0 p0_1).symm ▸ h L

/- magpie/guard.handles -/
@[reducible] def t_guard_handles_L1_sh : List Sh1 := [(.leaf .slice), (.leaf (.int .i64))]
noncomputable def t_guard_handles_L1 (p0 : Sl) (y1 : HL Sh1.T t_guard_handles_L1_sh) : Tree :=
  bif (decide ((y1.2.1 : Int) < ((p0.len : Nat) : Int))) then (
    .look (opS Try.prog (.indexAddr ty_s_epoch_Limbo (.tmp 0) (.tmp 1)) ty_unit [(.slice p0.a p0.len p0.cap), (.int .i64 y1.2.1)]) (.one (.leaf .addr)) fun x10 =>
    .ldA x10 [(.int .i64), (.int .i64)] fun x11 =>
    .newP (.cells #[(.int .i64 0), (.int .i64 0)] ty_epoch_Limbo) fun x5 =>
    .stA x5 [(.int .i64 x11.1), (.int .i64 x11.2.1)] <|
    .ld x5 (.int .i64) fun x14 =>
    .newS (.cells #[(.int .i64 x14)] ty_int) 1 fun x15 =>
    .act (opS Try.prog (.call { callee := .builtin .append, args := #[(.tmp 0), (.tmp 1)], argTypes := #[ty_s_int, ty_s_int] }) ty_s_int [(.slice y1.1.a y1.1.len y1.1.cap), (.slice x15.a x15.len x15.cap)]) (.one (.leaf .slice)) fun x16 =>
    .again 192 [(.slice x16.a x16.len x16.cap), (.int .i64 (w64 (y1.2.1 + 1)))])
  else (
    .ret (.slice y1.1.a y1.1.len y1.1.cap))
noncomputable def t_guard_handles (p0 : Sl) : Tree :=
  .loop 192 t_guard_handles_L1_sh [(.slice none 0 0), (.int .i64 0)] (t_guard_handles_L1 p0)
theorem t_guard_handles_eq (p0 : Sl) : funcTree Try.prog { quiet := [16, 34, 36, 40, 41, 66, 67, 75, 76, 77, 97, 98, 103, 108, 110, 139, 146, 149, 161], quietTmp := false, fncs := [], ifcs := [] } Try.f95 [(.slice p0.a p0.len p0.cap)] = t_guard_handles p0 := by kernel_rfl
theorem t_guard_handles_spec {p0 : Sl} {H : Heap} {R : Value → Heap → Prop} (h : ∀ L, wp Try.prog (t_guard_handles p0) L H R) : SpecF Try.prog f_guard_handles #[(.slice p0.a p0.len p0.cap)] H R :=
  spec_of_tree (cfg := { quiet := [16, 34, 36, 40, 41, 66, 67, 75, 76, 77, 97, 98, 103, 108, 110, 139, 146, 149, 161], quietTmp := false, fncs := [], ifcs := [] }) Try.func95 fun L => (t_guard_handles_eq p0).symm ▸ h L

/- (*magpie/guard.sets).Step -/
noncomputable def t_guard_sets_Step (p0 : Option Addr) (p1 : Option Addr) : Tree :=
  .look (opS Try.prog (.nilCheck (.tmp 0)) ty_unit [(.pointer p0)]) (.one (.leaf .addr)) fun x6 =>
  .ld x6 .slice fun x8 =>
  bif (decide ((((x8.len : Nat) : Int) : Int) > 0)) then (
    .look (opS Try.prog (.nilCheck (.tmp 0)) ty_unit [(.pointer p0)]) (.one (.leaf .addr)) fun x13 =>
    .ld x13 .slice fun x15 =>
    .look (opS Try.prog (.indexAddr ty_s_int (.tmp 0) (.const (.int .i64 0))) ty_unit [(.slice x15.a x15.len x15.cap)]) (.one (.leaf .addr)) fun x16 =>
    .ld x16 (.int .i64) fun x17 =>
    .look (opS Try.prog (.nilCheck (.tmp 0)) ty_unit [(.pointer p0)]) (.one (.leaf .addr)) fun x19 =>
    .ld (x19.add 1) (.int .i64) fun x21 =>
    .call f_arena_Arena_SetRaw [(.pointer p1), (.int .i64 x17), (.int .i64 x21)] .unit fun _ =>
    .look (opS Try.prog (.nilCheck (.tmp 0)) ty_unit [(.pointer p0)]) (.one (.leaf .addr)) fun x25 =>
    .ld x25 .slice fun x27 =>
    .look (opS Try.prog (.slice ty_s_int (.tmp 0) (some (.const (.int .i64 1))) none none) ty_s_int [(.slice x27.a x27.len x27.cap)]) (.one (.leaf .slice)) fun x28 =>
    .look (opS Try.prog (.nilCheck (.tmp 0)) ty_unit [(.pointer p0)]) (.one (.leaf .addr)) fun x29 =>
    .st x29 (.slice x28.a x28.len x28.cap) <|
    .look (opS Try.prog (.nilCheck (.tmp 0)) ty_unit [(.pointer p0)]) (.one (.leaf .addr)) fun x32 =>
    .ld x32 .slice fun x34 =>
    .ret (.bool ((((x34.len : Nat) : Int) : Int) == 0)))
  else (
    .look (opS Try.prog (.nilCheck (.tmp 0)) ty_unit [(.pointer p0)]) (.one (.leaf .addr)) fun x32 =>
    .ld x32 .slice fun x34 =>
    .ret (.bool ((((x34.len : Nat) : Int) : Int) == 0)))
theorem t_guard_sets_Step_eq (p0 : Option Addr) (p1 : Option Addr) : funcTree Try.prog { quiet := [16, 34, 36, 40, 41, 66, 67, 75, 76, 77, 97, 98, 103, 108, 110, 139, 146, 149, 161], quietTmp := false, fncs := [], ifcs := [] } Try.f145 [(.pointer p0), (.pointer p1)] = t_guard_sets_Step p0 p1 := by kernel_rfl
theorem t_guard_sets_Step_spec {p0 : Option Addr} {p1 : Option Addr} {H : Heap} {R : Value → Heap → Prop} (h : ∀ L, wp Try.prog (t_guard_sets_Step p0 p1) L H R) : SpecF Try.prog f_guard_sets_Step #[(.pointer p0), (.pointer p1)] H R :=
  spec_of_tree (cfg := { quiet := [16, 34, 36, 40, 41, 66, 67, 75, 76, 77, 97, 98, 103, 108, 110, 139, 146, 149, 161], quietTmp := false, fncs := [], ifcs := [] }) Try.func145 fun L => (t_guard_sets_Step_eq p0 p1).symm ▸ h L

/- (*magpie/guard.look).begin -/
noncomputable def t_guard_look_begin (p0 : Option Addr) : Tree :=
  .look (opS Try.prog (.nilCheck (.tmp 0)) ty_unit [(.pointer p0)]) (.one (.leaf .addr)) fun x5 =>
  .ld x5 .ptr fun x7 =>
  .look (opS Try.prog (.nilCheck (.tmp 0)) ty_unit [(.pointer x7)]) (.one (.leaf .addr)) fun x8 =>
  .ld x8 .val fun x10 =>
  .look (opS Try.prog (.typeAssert (.tmp 0) ty_guard_mode ty_guard_epochs true) ty_unit [x10]) (.tup [(.agg [(.int .i64), (.int .i64)]), (.leaf .bool)]) fun x11 =>
  bif x11.2.1 then (
    .newP (.cells #[(.int .i64 0), (.int .i64 0)] ty_guard_epochs) fun x2 =>
    .stA x2 [(.int .i64 x11.1.1), (.int .i64 x11.1.2.1)] <|
    .ldA x2 [(.int .i64), (.int .i64)] fun x16 =>
    .look (opS Try.prog (.nilCheck (.tmp 0)) ty_unit [(.pointer p0)]) (.one (.leaf .addr)) fun x18 =>
    .ld x18 .ptr fun x20 =>
    .look (opS Try.prog (.nilCheck (.tmp 0)) ty_unit [(.pointer x20)]) (.one (.leaf .addr)) fun x21 =>
    .ldA (x21.add 1) [(.int .i64), (.int .i64), (.int .i64), (.int .i64), (.int .i64)] fun x23 =>
    .look (opS Try.prog (.nilCheck (.tmp 0)) ty_unit [(.pointer p0)]) (.one (.leaf .addr)) fun x25 =>
    .ld (x25.add 1) (.int .i64) fun x27 =>
    .look (opS Try.prog (.nilCheck (.tmp 0)) ty_unit [(.pointer p0)]) (.one (.leaf .addr)) fun x29 =>
    .ld x29 .ptr fun x31 =>
    .look (opS Try.prog (.nilCheck (.tmp 0)) ty_unit [(.pointer x31)]) (.one (.leaf .addr)) fun x32 =>
    .ld (x32.add 7) .map fun x34 =>
    .look (opS Try.prog (.nilCheck (.tmp 0)) ty_unit [(.pointer p0)]) (.one (.leaf .addr)) fun x36 =>
    .ld (x36.add 1) (.int .i64) fun x38 =>
    .look (opS Try.prog (.lookup ty_m_int_s_epoch_Limbo (.tmp 0) (.tmp 1) false) ty_s_epoch_Limbo [(.map x34), (.int .i64 x38)]) (.one (.leaf .slice)) fun x39 =>
    .call f_epoch_NewTurn [(.agg #[(.int .i64 x16.1), (.int .i64 x16.2.1)]), (.agg #[(.int .i64 x23.1), (.int .i64 x23.2.1), (.int .i64 x23.2.2.1), (.int .i64 x23.2.2.2.1), (.int .i64 x23.2.2.2.2.1)]), (.int .i64 x27), (.slice x39.a x39.len x39.cap)] (.one (.leaf .ptr)) fun x40 =>
    .look (opS Try.prog (.nilCheck (.tmp 0)) ty_unit [(.pointer p0)]) (.one (.leaf .addr)) fun x42 =>
    .st (x42.add 4) (.iface ty_p_epoch_Turn (.pointer x40)) <|
    .look (opS Try.prog (.nilCheck (.tmp 0)) ty_unit [(.pointer p0)]) (.one (.leaf .addr)) fun x79 =>
    .ld (x79.add 3) (.int .i64) fun x81 =>
    .look (opS Try.prog (.nilCheck (.tmp 0)) ty_unit [(.pointer p0)]) (.one (.leaf .addr)) fun x83 =>
    .st (x83.add 3) (.int .i64 (w64 (x81 - 1))) <|
    .ret (.tuple #[]))
  else (
    .look (opS Try.prog (.typeAssert (.tmp 0) ty_guard_mode ty_guard_hazards true) ty_unit [x10]) (.tup [(.agg [(.int .i64), (.int .i64)]), (.leaf .bool)]) fun x44 =>
    bif x44.2.1 then (
      .newP (.cells #[(.int .i64 0), (.int .i64 0)] ty_guard_hazards) fun x3 =>
      .stA x3 [(.int .i64 x44.1.1), (.int .i64 x44.1.2.1)] <|
      .ldA x3 [(.int .i64), (.int .i64)] fun x49 =>
      .look (opS Try.prog (.nilCheck (.tmp 0)) ty_unit [(.pointer p0)]) (.one (.leaf .addr)) fun x51 =>
      .ld x51 .ptr fun x53 =>
      .look (opS Try.prog (.nilCheck (.tmp 0)) ty_unit [(.pointer x53)]) (.one (.leaf .addr)) fun x54 =>
      .ldA (x54.add 1) [(.int .i64), (.int .i64), (.int .i64), (.int .i64), (.int .i64)] fun x56 =>
      .look (opS Try.prog (.nilCheck (.tmp 0)) ty_unit [(.pointer p0)]) (.one (.leaf .addr)) fun x58 =>
      .ld (x58.add 1) (.int .i64) fun x60 =>
      .look (opS Try.prog (.nilCheck (.tmp 0)) ty_unit [(.pointer p0)]) (.one (.leaf .addr)) fun x62 =>
      .ld x62 .ptr fun x64 =>
      .look (opS Try.prog (.nilCheck (.tmp 0)) ty_unit [(.pointer x64)]) (.one (.leaf .addr)) fun x65 =>
      .ld (x65.add 7) .map fun x67 =>
      .look (opS Try.prog (.nilCheck (.tmp 0)) ty_unit [(.pointer p0)]) (.one (.leaf .addr)) fun x69 =>
      .ld (x69.add 1) (.int .i64) fun x71 =>
      .look (opS Try.prog (.lookup ty_m_int_s_epoch_Limbo (.tmp 0) (.tmp 1) false) ty_s_epoch_Limbo [(.map x67), (.int .i64 x71)]) (.one (.leaf .slice)) fun x72 =>
      .call f_guard_handles [(.slice x72.a x72.len x72.cap)] (.one (.leaf .slice)) fun x73 =>
      .check (ldS (x58.add 1)) (.int .i64 x60) <|
      .check (opS Try.prog (.nilCheck (.tmp 0)) ty_unit [(.pointer p0)]) (.pointer (some x58)) <|
      .check (ldAS (x54.add 1) 5 0 #[]) (.agg #[(.int .i64 x56.1), (.int .i64 x56.2.1), (.int .i64 x56.2.2.1), (.int .i64 x56.2.2.2.1), (.int .i64 x56.2.2.2.2.1)]) <|
      .check (opS Try.prog (.nilCheck (.tmp 0)) ty_unit [(.pointer x53)]) (.pointer (some x54)) <|
      .check (ldS x51) (.pointer x53) <|
      .check (opS Try.prog (.nilCheck (.tmp 0)) ty_unit [(.pointer p0)]) (.pointer (some x51)) <|
      .check (ldAS x3 2 0 #[]) (.agg #[(.int .i64 x49.1), (.int .i64 x49.2.1)]) <|
      .call f_hazard_NewScan [(.agg #[(.int .i64 x49.1), (.int .i64 x49.2.1)]), (.agg #[(.int .i64 x56.1), (.int .i64 x56.2.1), (.int .i64 x56.2.2.1), (.int .i64 x56.2.2.2.1), (.int .i64 x56.2.2.2.2.1)]), (.int .i64 x60), (.slice x73.a x73.len x73.cap)] (.one (.leaf .ptr)) fun x74 =>
      .look (opS Try.prog (.nilCheck (.tmp 0)) ty_unit [(.pointer p0)]) (.one (.leaf .addr)) fun x76 =>
      .st (x76.add 4) (.iface ty_p_hazard_Scan (.pointer x74)) <|
      .look (opS Try.prog (.nilCheck (.tmp 0)) ty_unit [(.pointer p0)]) (.one (.leaf .addr)) fun x79 =>
      .ld (x79.add 3) (.int .i64) fun x81 =>
      .look (opS Try.prog (.nilCheck (.tmp 0)) ty_unit [(.pointer p0)]) (.one (.leaf .addr)) fun x83 =>
      .st (x83.add 3) (.int .i64 (w64 (x81 - 1))) <|
      .ret (.tuple #[]))
    else (
      .look (opS Try.prog (.nilCheck (.tmp 0)) ty_unit [(.pointer p0)]) (.one (.leaf .addr)) fun x79 =>
      .ld (x79.add 3) (.int .i64) fun x81 =>
      .look (opS Try.prog (.nilCheck (.tmp 0)) ty_unit [(.pointer p0)]) (.one (.leaf .addr)) fun x83 =>
      .st (x83.add 3) (.int .i64 (w64 (x81 - 1))) <|
      .ret (.tuple #[])))
theorem t_guard_look_begin_eq (p0 : Option Addr) : funcTree Try.prog { quiet := [16, 34, 36, 40, 41, 66, 67, 75, 76, 77, 97, 98, 103, 108, 110, 139, 146, 149, 161], quietTmp := false, fncs := [], ifcs := [] } Try.f64 [(.pointer p0)] = t_guard_look_begin p0 := by kernel_rfl
theorem t_guard_look_begin_spec {p0 : Option Addr} {H : Heap} {R : Value → Heap → Prop} (h : ∀ L, wp Try.prog (t_guard_look_begin p0) L H R) : SpecF Try.prog f_guard_look_begin #[(.pointer p0)] H R :=
  spec_of_tree (cfg := { quiet := [16, 34, 36, 40, 41, 66, 67, 75, 76, 77, 97, 98, 103, 108, 110, 139, 146, 149, 161], quietTmp := false, fncs := [], ifcs := [] }) Try.func64 fun L => (t_guard_look_begin_eq p0).symm ▸ h L

/- (*magpie/guard.look).end -/
@[reducible] def t_guard_look_end_L1_sh : List Sh1 := [(.leaf .slice), (.leaf (.int .i64))]
noncomputable def t_guard_look_end_L1 (p0 : Option Addr) (x31 : Sl) (y1 : HL Sh1.T t_guard_look_end_L1_sh) : Tree :=
  bif (decide ((y1.2.1 : Int) < ((x31.len : Nat) : Int))) then (
    .look (opS Try.prog (.indexAddr ty_s_int (.tmp 0) (.tmp 1)) ty_unit [(.slice x31.a x31.len x31.cap), (.int .i64 y1.2.1)]) (.one (.leaf .addr)) fun x35 =>
    .ld x35 (.int .i64) fun x36 =>
    .newS (.cells #[(.int .i64 x36), (.int .i64 0)] ty_epoch_Limbo) 1 fun x40 =>
    .act (opS Try.prog (.call { callee := .builtin .append, args := #[(.tmp 0), (.tmp 1)], argTypes := #[ty_s_epoch_Limbo, ty_s_epoch_Limbo] }) ty_s_epoch_Limbo [(.slice y1.1.a y1.1.len y1.1.cap), (.slice x40.a x40.len x40.cap)]) (.one (.leaf .slice)) fun x41 =>
    .again 512 [(.slice x41.a x41.len x41.cap), (.int .i64 (w64 (y1.2.1 + 1)))])
  else (
    .look (opS Try.prog (.nilCheck (.tmp 0)) ty_unit [(.pointer p0)]) (.one (.leaf .addr)) fun x44 =>
    .ld x44 .ptr fun x46 =>
    .look (opS Try.prog (.nilCheck (.tmp 0)) ty_unit [(.pointer x46)]) (.one (.leaf .addr)) fun x47 =>
    .ld (x47.add 7) .map fun x49 =>
    .look (opS Try.prog (.nilCheck (.tmp 0)) ty_unit [(.pointer p0)]) (.one (.leaf .addr)) fun x51 =>
    .ld (x51.add 1) (.int .i64) fun x53 =>
    .act (opS Try.prog (.mapUpdate ty_m_int_s_epoch_Limbo (.tmp 0) (.tmp 1) (.tmp 2)) ty_unit [(.map x49), (.int .i64 x53), (.slice y1.1.a y1.1.len y1.1.cap)]) .unit fun _ =>
    .look (opS Try.prog (.nilCheck (.tmp 0)) ty_unit [(.pointer p0)]) (.one (.leaf .addr)) fun x56 =>
    .st (x56.add 4) .nilIface <|
    .ret (.tuple #[]))
noncomputable def t_guard_look_end (p0 : Option Addr) : Tree :=
  .look (opS Try.prog (.nilCheck (.tmp 0)) ty_unit [(.pointer p0)]) (.one (.leaf .addr)) fun x8 =>
  .ld (x8.add 4) .val fun x10 =>
  .look (opS Try.prog (.typeAssert (.tmp 0) ty_guard_Machine ty_p_epoch_Turn true) ty_unit [x10]) (.tup [(.leaf .ptr), (.leaf .bool)]) fun x11 =>
  bif x11.2.1 then (
    .look (opS Try.prog (.nilCheck (.tmp 0)) ty_unit [(.pointer p0)]) (.one (.leaf .addr)) fun x15 =>
    .ld x15 .ptr fun x17 =>
    .look (opS Try.prog (.nilCheck (.tmp 0)) ty_unit [(.pointer x17)]) (.one (.leaf .addr)) fun x18 =>
    .ld (x18.add 7) .map fun x20 =>
    .look (opS Try.prog (.nilCheck (.tmp 0)) ty_unit [(.pointer p0)]) (.one (.leaf .addr)) fun x22 =>
    .ld (x22.add 1) (.int .i64) fun x24 =>
    .call f_epoch_Turn_Left [(.pointer x11.1)] (.one (.leaf .slice)) fun x26 =>
    .check (ldS (x22.add 1)) (.int .i64 x24) <|
    .check (opS Try.prog (.nilCheck (.tmp 0)) ty_unit [(.pointer p0)]) (.pointer (some x22)) <|
    .check (ldS (x18.add 7)) (.map x20) <|
    .check (opS Try.prog (.nilCheck (.tmp 0)) ty_unit [(.pointer x17)]) (.pointer (some x18)) <|
    .check (ldS x15) (.pointer x17) <|
    .check (opS Try.prog (.nilCheck (.tmp 0)) ty_unit [(.pointer p0)]) (.pointer (some x15)) <|
    .act (opS Try.prog (.mapUpdate ty_m_int_s_epoch_Limbo (.tmp 0) (.tmp 1) (.tmp 2)) ty_unit [(.map x20), (.int .i64 x24), (.slice x26.a x26.len x26.cap)]) .unit fun _ =>
    .look (opS Try.prog (.nilCheck (.tmp 0)) ty_unit [(.pointer p0)]) (.one (.leaf .addr)) fun x56 =>
    .st (x56.add 4) .nilIface <|
    .ret (.tuple #[]))
  else (
    .look (opS Try.prog (.typeAssert (.tmp 0) ty_guard_Machine ty_p_hazard_Scan true) ty_unit [x10]) (.tup [(.leaf .ptr), (.leaf .bool)]) fun x27 =>
    bif x27.2.1 then (
      .call f_hazard_Scan_Left [(.pointer x27.1)] (.one (.leaf .slice)) fun x31 =>
      .loop 512 t_guard_look_end_L1_sh [(.slice none 0 0), (.int .i64 0)] (t_guard_look_end_L1 p0 x31))
    else (
      .look (opS Try.prog (.nilCheck (.tmp 0)) ty_unit [(.pointer p0)]) (.one (.leaf .addr)) fun x56 =>
      .st (x56.add 4) .nilIface <|
      .ret (.tuple #[])))
theorem t_guard_look_end_eq (p0 : Option Addr) : funcTree Try.prog { quiet := [16, 34, 36, 40, 41, 66, 67, 75, 76, 77, 97, 98, 103, 108, 110, 139, 146, 149, 161], quietTmp := false, fncs := [], ifcs := [] } Try.f141 [(.pointer p0)] = t_guard_look_end p0 := by kernel_rfl
theorem t_guard_look_end_spec {p0 : Option Addr} {H : Heap} {R : Value → Heap → Prop} (h : ∀ L, wp Try.prog (t_guard_look_end p0) L H R) : SpecF Try.prog f_guard_look_end #[(.pointer p0)] H R :=
  spec_of_tree (cfg := { quiet := [16, 34, 36, 40, 41, 66, 67, 75, 76, 77, 97, 98, 103, 108, 110, 139, 146, 149, 161], quietTmp := false, fncs := [], ifcs := [] }) Try.func141 fun L => (t_guard_look_end_eq p0).symm ▸ h L

/- (*magpie/guard.look).Step -/
noncomputable def t_guard_look_Step (p0 : Option Addr) (p1 : Option Addr) : Tree :=
  .look (opS Try.prog (.nilCheck (.tmp 0)) ty_unit [(.pointer p0)]) (.one (.leaf .addr)) fun x7 =>
  .ld (x7.add 2) .bool fun x9 =>
  bif x9 then (
    .look (opS Try.prog (.nilCheck (.tmp 0)) ty_unit [(.pointer p0)]) (.one (.leaf .addr)) fun x11 =>
    .st (x11.add 2) (.bool false) <|
    .look (opS Try.prog (.nilCheck (.tmp 0)) ty_unit [(.pointer p0)]) (.one (.leaf .addr)) fun x14 =>
    .ld x14 .ptr fun x16 =>
    .look (opS Try.prog (.nilCheck (.tmp 0)) ty_unit [(.pointer x16)]) (.one (.leaf .addr)) fun x17 =>
    .ld (x17.add 7) .map fun x19 =>
    .look (opS Try.prog (.nilCheck (.tmp 0)) ty_unit [(.pointer p0)]) (.one (.leaf .addr)) fun x21 =>
    .ld (x21.add 1) (.int .i64) fun x23 =>
    .look (opS Try.prog (.lookup ty_m_int_s_epoch_Limbo (.tmp 0) (.tmp 1) false) ty_s_epoch_Limbo [(.map x19), (.int .i64 x23)]) (.one (.leaf .slice)) fun x24 =>
    .look (opS Try.prog (.nilCheck (.tmp 0)) ty_unit [(.pointer p0)]) (.one (.leaf .addr)) fun x31 =>
    .ld x31 .ptr fun x33 =>
    .look (opS Try.prog (.nilCheck (.tmp 0)) ty_unit [(.pointer x33)]) (.one (.leaf .addr)) fun x34 =>
    .ld x34 .val fun x36 =>
    .look (opS Try.prog (.typeAssert (.tmp 0) ty_guard_mode ty_guard_epochs false) ty_guard_epochs [x36]) (.one (.agg [(.int .i64), (.int .i64)])) fun x37 =>
    .qcall f_epoch_Table_Global [(.agg #[(.int .i64 x37.1), (.int .i64 x37.2.1)])] (.one (.leaf (.int .i64))) fun x39 =>
    .call f_arena_Arena_Raw [(.pointer p1), (.int .i64 x39)] (.one (.leaf (.int .i64))) fun x40 =>
    .look (opS Try.prog (.indexAddr ty_s_epoch_Limbo (.tmp 0) (.tmp 1)) ty_unit [(.slice x24.a x24.len x24.cap), (.int .i64 (w64 (((x24.len : Nat) : Int) - 1)))]) (.one (.leaf .addr)) fun x41 =>
    .st (x41.add 1) (.int .i64 x40) <|
    .look (opS Try.prog (.nilCheck (.tmp 0)) ty_unit [(.pointer p0)]) (.one (.leaf .addr)) fun x44 =>
    .ld (x44.add 3) (.int .i64) fun x46 =>
    .ret (.bool ((x46 : Int) == 0)))
  else (
    .look (opS Try.prog (.nilCheck (.tmp 0)) ty_unit [(.pointer p0)]) (.one (.leaf .addr)) fun x49 =>
    .ld (x49.add 4) .val fun x51 =>
    .look (opS Try.prog (.binOp .eql ty_guard_Machine (.tmp 0) (.const .nilIface) ty_guard_Machine) ty_bool [x51]) (.one (.leaf .bool)) fun x52 =>
    bif x52 then (
      .look (opS Try.prog (.nilCheck (.tmp 0)) ty_unit [(.pointer p0)]) (.one (.leaf .addr)) fun x55 =>
      .ld (x55.add 3) (.int .i64) fun x57 =>
      bif (decide ((x57 : Int) > 0)) then (
        .call f_guard_look_begin [(.pointer p0)] .unit fun _ =>
        .look (opS Try.prog (.nilCheck (.tmp 0)) ty_unit [(.pointer p0)]) (.one (.leaf .addr)) fun x63 =>
        .ld (x63.add 4) .val fun x65 =>
        .look (opS Try.prog (.binOp .neq ty_guard_Machine (.tmp 0) (.const .nilIface) ty_guard_Machine) ty_bool [x65]) (.one (.leaf .bool)) fun x66 =>
        bif x66 then (
          .look (opS Try.prog (.nilCheck (.tmp 0)) ty_unit [(.pointer p0)]) (.one (.leaf .addr)) fun x69 =>
          .ld (x69.add 4) .val fun x71 =>
          .act (opS Try.prog (.call { callee := .invoke (.tmp 0) "Step", args := #[(.tmp 1)], argTypes := #[ty_p_arena_Arena] }) ty_bool [x71, (.pointer p1)]) (.one (.leaf .bool)) fun x73 =>
          bif x73 then (
            .call f_guard_look_end [(.pointer p0)] .unit fun _ =>
            .look (opS Try.prog (.nilCheck (.tmp 0)) ty_unit [(.pointer p0)]) (.one (.leaf .addr)) fun x78 =>
            .ld (x78.add 4) .val fun x80 =>
            .look (opS Try.prog (.binOp .eql ty_guard_Machine (.tmp 0) (.const .nilIface) ty_guard_Machine) ty_bool [x80]) (.one (.leaf .bool)) fun x81 =>
            bif x81 then (
              .look (opS Try.prog (.nilCheck (.tmp 0)) ty_unit [(.pointer p0)]) (.one (.leaf .addr)) fun x84 =>
              .ld (x84.add 3) (.int .i64) fun x86 =>
              .ret (.bool ((x86 : Int) == 0)))
            else (
              .ret (.bool false)))
          else (
            .look (opS Try.prog (.nilCheck (.tmp 0)) ty_unit [(.pointer p0)]) (.one (.leaf .addr)) fun x78 =>
            .ld (x78.add 4) .val fun x80 =>
            .look (opS Try.prog (.binOp .eql ty_guard_Machine (.tmp 0) (.const .nilIface) ty_guard_Machine) ty_bool [x80]) (.one (.leaf .bool)) fun x81 =>
            bif x81 then (
              .look (opS Try.prog (.nilCheck (.tmp 0)) ty_unit [(.pointer p0)]) (.one (.leaf .addr)) fun x84 =>
              .ld (x84.add 3) (.int .i64) fun x86 =>
              .ret (.bool ((x86 : Int) == 0)))
            else (
              .ret (.bool false))))
        else (
          .look (opS Try.prog (.nilCheck (.tmp 0)) ty_unit [(.pointer p0)]) (.one (.leaf .addr)) fun x78 =>
          .ld (x78.add 4) .val fun x80 =>
          .look (opS Try.prog (.binOp .eql ty_guard_Machine (.tmp 0) (.const .nilIface) ty_guard_Machine) ty_bool [x80]) (.one (.leaf .bool)) fun x81 =>
          bif x81 then (
            .look (opS Try.prog (.nilCheck (.tmp 0)) ty_unit [(.pointer p0)]) (.one (.leaf .addr)) fun x84 =>
            .ld (x84.add 3) (.int .i64) fun x86 =>
            .ret (.bool ((x86 : Int) == 0)))
          else (
            .ret (.bool false))))
      else (
        .look (opS Try.prog (.nilCheck (.tmp 0)) ty_unit [(.pointer p0)]) (.one (.leaf .addr)) fun x63 =>
        .ld (x63.add 4) .val fun x65 =>
        .look (opS Try.prog (.binOp .neq ty_guard_Machine (.tmp 0) (.const .nilIface) ty_guard_Machine) ty_bool [x65]) (.one (.leaf .bool)) fun x66 =>
        bif x66 then (
          .look (opS Try.prog (.nilCheck (.tmp 0)) ty_unit [(.pointer p0)]) (.one (.leaf .addr)) fun x69 =>
          .ld (x69.add 4) .val fun x71 =>
          .act (opS Try.prog (.call { callee := .invoke (.tmp 0) "Step", args := #[(.tmp 1)], argTypes := #[ty_p_arena_Arena] }) ty_bool [x71, (.pointer p1)]) (.one (.leaf .bool)) fun x73 =>
          bif x73 then (
            .call f_guard_look_end [(.pointer p0)] .unit fun _ =>
            .look (opS Try.prog (.nilCheck (.tmp 0)) ty_unit [(.pointer p0)]) (.one (.leaf .addr)) fun x78 =>
            .ld (x78.add 4) .val fun x80 =>
            .look (opS Try.prog (.binOp .eql ty_guard_Machine (.tmp 0) (.const .nilIface) ty_guard_Machine) ty_bool [x80]) (.one (.leaf .bool)) fun x81 =>
            bif x81 then (
              .look (opS Try.prog (.nilCheck (.tmp 0)) ty_unit [(.pointer p0)]) (.one (.leaf .addr)) fun x84 =>
              .ld (x84.add 3) (.int .i64) fun x86 =>
              .ret (.bool ((x86 : Int) == 0)))
            else (
              .ret (.bool false)))
          else (
            .look (opS Try.prog (.nilCheck (.tmp 0)) ty_unit [(.pointer p0)]) (.one (.leaf .addr)) fun x78 =>
            .ld (x78.add 4) .val fun x80 =>
            .look (opS Try.prog (.binOp .eql ty_guard_Machine (.tmp 0) (.const .nilIface) ty_guard_Machine) ty_bool [x80]) (.one (.leaf .bool)) fun x81 =>
            bif x81 then (
              .look (opS Try.prog (.nilCheck (.tmp 0)) ty_unit [(.pointer p0)]) (.one (.leaf .addr)) fun x84 =>
              .ld (x84.add 3) (.int .i64) fun x86 =>
              .ret (.bool ((x86 : Int) == 0)))
            else (
              .ret (.bool false))))
        else (
          .look (opS Try.prog (.nilCheck (.tmp 0)) ty_unit [(.pointer p0)]) (.one (.leaf .addr)) fun x78 =>
          .ld (x78.add 4) .val fun x80 =>
          .look (opS Try.prog (.binOp .eql ty_guard_Machine (.tmp 0) (.const .nilIface) ty_guard_Machine) ty_bool [x80]) (.one (.leaf .bool)) fun x81 =>
          bif x81 then (
            .look (opS Try.prog (.nilCheck (.tmp 0)) ty_unit [(.pointer p0)]) (.one (.leaf .addr)) fun x84 =>
            .ld (x84.add 3) (.int .i64) fun x86 =>
            .ret (.bool ((x86 : Int) == 0)))
          else (
            .ret (.bool false)))))
    else (
      .look (opS Try.prog (.nilCheck (.tmp 0)) ty_unit [(.pointer p0)]) (.one (.leaf .addr)) fun x63 =>
      .ld (x63.add 4) .val fun x65 =>
      .look (opS Try.prog (.binOp .neq ty_guard_Machine (.tmp 0) (.const .nilIface) ty_guard_Machine) ty_bool [x65]) (.one (.leaf .bool)) fun x66 =>
      bif x66 then (
        .look (opS Try.prog (.nilCheck (.tmp 0)) ty_unit [(.pointer p0)]) (.one (.leaf .addr)) fun x69 =>
        .ld (x69.add 4) .val fun x71 =>
        .act (opS Try.prog (.call { callee := .invoke (.tmp 0) "Step", args := #[(.tmp 1)], argTypes := #[ty_p_arena_Arena] }) ty_bool [x71, (.pointer p1)]) (.one (.leaf .bool)) fun x73 =>
        bif x73 then (
          .call f_guard_look_end [(.pointer p0)] .unit fun _ =>
          .look (opS Try.prog (.nilCheck (.tmp 0)) ty_unit [(.pointer p0)]) (.one (.leaf .addr)) fun x78 =>
          .ld (x78.add 4) .val fun x80 =>
          .look (opS Try.prog (.binOp .eql ty_guard_Machine (.tmp 0) (.const .nilIface) ty_guard_Machine) ty_bool [x80]) (.one (.leaf .bool)) fun x81 =>
          bif x81 then (
            .look (opS Try.prog (.nilCheck (.tmp 0)) ty_unit [(.pointer p0)]) (.one (.leaf .addr)) fun x84 =>
            .ld (x84.add 3) (.int .i64) fun x86 =>
            .ret (.bool ((x86 : Int) == 0)))
          else (
            .ret (.bool false)))
        else (
          .look (opS Try.prog (.nilCheck (.tmp 0)) ty_unit [(.pointer p0)]) (.one (.leaf .addr)) fun x78 =>
          .ld (x78.add 4) .val fun x80 =>
          .look (opS Try.prog (.binOp .eql ty_guard_Machine (.tmp 0) (.const .nilIface) ty_guard_Machine) ty_bool [x80]) (.one (.leaf .bool)) fun x81 =>
          bif x81 then (
            .look (opS Try.prog (.nilCheck (.tmp 0)) ty_unit [(.pointer p0)]) (.one (.leaf .addr)) fun x84 =>
            .ld (x84.add 3) (.int .i64) fun x86 =>
            .ret (.bool ((x86 : Int) == 0)))
          else (
            .ret (.bool false))))
      else (
        .look (opS Try.prog (.nilCheck (.tmp 0)) ty_unit [(.pointer p0)]) (.one (.leaf .addr)) fun x78 =>
        .ld (x78.add 4) .val fun x80 =>
        .look (opS Try.prog (.binOp .eql ty_guard_Machine (.tmp 0) (.const .nilIface) ty_guard_Machine) ty_bool [x80]) (.one (.leaf .bool)) fun x81 =>
        bif x81 then (
          .look (opS Try.prog (.nilCheck (.tmp 0)) ty_unit [(.pointer p0)]) (.one (.leaf .addr)) fun x84 =>
          .ld (x84.add 3) (.int .i64) fun x86 =>
          .ret (.bool ((x86 : Int) == 0)))
        else (
          .ret (.bool false)))))
theorem t_guard_look_Step_eq (p0 : Option Addr) (p1 : Option Addr) : funcTree Try.prog { quiet := [16, 34, 36, 40, 41, 66, 67, 75, 76, 77, 97, 98, 103, 108, 110, 139, 146, 149, 161], quietTmp := false, fncs := [], ifcs := [] } Try.f140 [(.pointer p0), (.pointer p1)] = t_guard_look_Step p0 p1 := by kernel_rfl
theorem t_guard_look_Step_spec {p0 : Option Addr} {p1 : Option Addr} {H : Heap} {R : Value → Heap → Prop} (h : ∀ L, wp Try.prog (t_guard_look_Step p0 p1) L H R) : SpecF Try.prog f_guard_look_Step #[(.pointer p0), (.pointer p1)] H R :=
  spec_of_tree (cfg := { quiet := [16, 34, 36, 40, 41, 66, 67, 75, 76, 77, 97, 98, 103, 108, 110, 139, 146, 149, 161], quietTmp := false, fncs := [], ifcs := [] }) Try.func140 fun L => (t_guard_look_Step_eq p0 p1).symm ▸ h L

/- (*magpie/guard.Guard).Enter -/
noncomputable def t_guard_Guard_Enter (p0 : Option Addr) (p1 : Int) : Tree :=
  .look (opS Try.prog (.nilCheck (.tmp 0)) ty_unit [(.pointer p0)]) (.one (.leaf .addr)) fun x7 =>
  .ld x7 .val fun x9 =>
  .look (opS Try.prog (.typeAssert (.tmp 0) ty_guard_mode ty_guard_epochs true) ty_unit [x9]) (.tup [(.agg [(.int .i64), (.int .i64)]), (.leaf .bool)]) fun x10 =>
  bif x10.2.1 then (
    .newP (.cells #[(.int .i64 0), (.int .i64 0)] ty_guard_epochs) fun x5 =>
    .stA x5 [(.int .i64 x10.1.1), (.int .i64 x10.1.2.1)] <|
    .ldA x5 [(.int .i64), (.int .i64)] fun x14 =>
    .call f_epoch_NewPin [(.agg #[(.int .i64 x14.1), (.int .i64 x14.2.1)]), (.int .i64 p1)] (.one (.leaf .ptr)) fun x16 =>
    .ret (.iface ty_p_epoch_Pin (.pointer x16)))
  else (
    .ret .nilIface)
theorem t_guard_Guard_Enter_eq (p0 : Option Addr) (p1 : Int) : funcTree Try.prog { quiet := [16, 34, 36, 40, 41, 66, 67, 75, 76, 77, 97, 98, 103, 108, 110, 139, 146, 149, 161], quietTmp := false, fncs := [], ifcs := [] } Try.f28 [(.pointer p0), (.int .i64 p1)] = t_guard_Guard_Enter p0 p1 := by kernel_rfl
theorem t_guard_Guard_Enter_spec {p0 : Option Addr} {p1 : Int} {H : Heap} {R : Value → Heap → Prop} (h : ∀ L, wp Try.prog (t_guard_Guard_Enter p0 p1) L H R) : SpecF Try.prog f_guard_Guard_Enter #[(.pointer p0), (.int .i64 p1)] H R :=
  spec_of_tree (cfg := { quiet := [16, 34, 36, 40, 41, 66, 67, 75, 76, 77, 97, 98, 103, 108, 110, 139, 146, 149, 161], quietTmp := false, fncs := [], ifcs := [] }) Try.func28 fun L => (t_guard_Guard_Enter_eq p0 p1).symm ▸ h L

/- (*magpie/guard.Guard).Protect -/
noncomputable def t_guard_Guard_Protect (p0 : Option Addr) (p1 : Int) (p2 : Int) (p3 : Int) : Tree :=
  .look (opS Try.prog (.nilCheck (.tmp 0)) ty_unit [(.pointer p0)]) (.one (.leaf .addr)) fun x13 =>
  .ld x13 .val fun x15 =>
  .look (opS Try.prog (.typeAssert (.tmp 0) ty_guard_mode ty_guard_epochs true) ty_guard_epochs_bool [x15]) (.tup [(.agg [(.int .i64), (.int .i64)]), (.leaf .bool)]) fun x16 =>
  .newP (.cells #[(.int .i64 0), (.int .i64 0)] ty_guard_epochs) fun x9 =>
  .stA x9 [(.int .i64 x16.1.1), (.int .i64 x16.1.2.1)] <|
  bif x16.2.1 then (
    .ret .nilIface)
  else (
    .look (opS Try.prog (.nilCheck (.tmp 0)) ty_unit [(.pointer p0)]) (.one (.leaf .addr)) fun x21 =>
    .ld x21 .val fun x23 =>
    .look (opS Try.prog (.typeAssert (.tmp 0) ty_guard_mode ty_guard_hazards false) ty_guard_hazards [x23]) (.one (.agg [(.int .i64), (.int .i64)])) fun x24 =>
    .qcall f_hazard_Table_Word [(.agg #[(.int .i64 x24.1), (.int .i64 x24.2.1)]), (.int .i64 p1), (.int .i64 p2)] (.one (.leaf (.int .i64))) fun x28 =>
    .newS (.cells #[(.int .i64 x28)] ty_int) 1 fun x29 =>
    .newP (.cells #[(.slice x29.a x29.len x29.cap), (.int .i64 p3)] ty_guard_sets) fun x32 =>
    .ret (.iface ty_p_guard_sets (.pointer (some x32))))
theorem t_guard_Guard_Protect_eq (p0 : Option Addr) (p1 : Int) (p2 : Int) (p3 : Int) : funcTree Try.prog { quiet := [16, 34, 36, 40, 41, 66, 67, 75, 76, 77, 97, 98, 103, 108, 110, 139, 146, 149, 161], quietTmp := false, fncs := [], ifcs := [] } Try.f29 [(.pointer p0), (.int .i64 p1), (.int .i64 p2), (.int .i64 p3)] = t_guard_Guard_Protect p0 p1 p2 p3 := by kernel_rfl
theorem t_guard_Guard_Protect_spec {p0 : Option Addr} {p1 : Int} {p2 : Int} {p3 : Int} {H : Heap} {R : Value → Heap → Prop} (h : ∀ L, wp Try.prog (t_guard_Guard_Protect p0 p1 p2 p3) L H R) : SpecF Try.prog f_guard_Guard_Protect #[(.pointer p0), (.int .i64 p1), (.int .i64 p2), (.int .i64 p3)] H R :=
  spec_of_tree (cfg := { quiet := [16, 34, 36, 40, 41, 66, 67, 75, 76, 77, 97, 98, 103, 108, 110, 139, 146, 149, 161], quietTmp := false, fncs := [], ifcs := [] }) Try.func29 fun L => (t_guard_Guard_Protect_eq p0 p1 p2 p3).symm ▸ h L

/- (*magpie/guard.Guard).Leave -/
@[reducible] def t_guard_Guard_Leave_L1_sh : List Sh1 := [(.leaf .slice), (.leaf (.int .i64))]
noncomputable def t_guard_Guard_Leave_L1 (p1 : Int) (x7 : Addr) (y1 : HL Sh1.T t_guard_Guard_Leave_L1_sh) : Tree :=
  bif (decide ((y1.2.1 : Int) < 2)) then (
    .ldA x7 [(.int .i64), (.int .i64)] fun x37 =>
    .qcall f_hazard_Table_Word [(.agg #[(.int .i64 x37.1), (.int .i64 x37.2.1)]), (.int .i64 p1), (.int .i64 y1.2.1)] (.one (.leaf (.int .i64))) fun x40 =>
    .newS (.cells #[(.int .i64 x40)] ty_int) 1 fun x41 =>
    .act (opS Try.prog (.call { callee := .builtin .append, args := #[(.tmp 0), (.tmp 1)], argTypes := #[ty_s_int, ty_s_int] }) ty_s_int [(.slice y1.1.a y1.1.len y1.1.cap), (.slice x41.a x41.len x41.cap)]) (.one (.leaf .slice)) fun x42 =>
    .again 448 [(.slice x42.a x42.len x42.cap), (.int .i64 (w64 (y1.2.1 + 1)))])
  else (
    .newP (.cells #[(.slice y1.1.a y1.1.len y1.1.cap), (.int .i64 0)] ty_guard_sets) fun x46 =>
    .ret (.iface ty_p_guard_sets (.pointer (some x46))))
noncomputable def t_guard_Guard_Leave (p0 : Option Addr) (p1 : Int) : Tree :=
  .look (opS Try.prog (.nilCheck (.tmp 0)) ty_unit [(.pointer p0)]) (.one (.leaf .addr)) fun x12 =>
  .ld x12 .val fun x14 =>
  .look (opS Try.prog (.typeAssert (.tmp 0) ty_guard_mode ty_guard_epochs true) ty_guard_epochs_bool [x14]) (.tup [(.agg [(.int .i64), (.int .i64)]), (.leaf .bool)]) fun x15 =>
  .newP (.cells #[(.int .i64 0), (.int .i64 0)] ty_guard_epochs) fun x5 =>
  .stA x5 [(.int .i64 x15.1.1), (.int .i64 x15.1.2.1)] <|
  bif x15.2.1 then (
    .ldA x5 [(.int .i64), (.int .i64)] fun x20 =>
    .qcall f_epoch_Table_Word [(.agg #[(.int .i64 x20.1), (.int .i64 x20.2.1)]), (.int .i64 p1)] (.one (.leaf (.int .i64))) fun x22 =>
    .newS (.cells #[(.int .i64 x22)] ty_int) 1 fun x23 =>
    .newP (.cells #[(.slice x23.a x23.len x23.cap), (.int .i64 0)] ty_guard_sets) fun x25 =>
    .ret (.iface ty_p_guard_sets (.pointer (some x25))))
  else (
    .look (opS Try.prog (.nilCheck (.tmp 0)) ty_unit [(.pointer p0)]) (.one (.leaf .addr)) fun x28 =>
    .ld x28 .val fun x30 =>
    .look (opS Try.prog (.typeAssert (.tmp 0) ty_guard_mode ty_guard_hazards false) ty_guard_hazards [x30]) (.one (.agg [(.int .i64), (.int .i64)])) fun x31 =>
    .newP (.cells #[(.int .i64 0), (.int .i64 0)] ty_guard_hazards) fun x7 =>
    .stA x7 [(.int .i64 x31.1), (.int .i64 x31.2.1)] <|
    .loop 448 t_guard_Guard_Leave_L1_sh [(.slice none 0 0), (.int .i64 0)] (t_guard_Guard_Leave_L1 p1 x7))
theorem t_guard_Guard_Leave_eq (p0 : Option Addr) (p1 : Int) : funcTree Try.prog { quiet := [16, 34, 36, 40, 41, 66, 67, 75, 76, 77, 97, 98, 103, 108, 110, 139, 146, 149, 161], quietTmp := false, fncs := [], ifcs := [] } Try.f30 [(.pointer p0), (.int .i64 p1)] = t_guard_Guard_Leave p0 p1 := by kernel_rfl
theorem t_guard_Guard_Leave_spec {p0 : Option Addr} {p1 : Int} {H : Heap} {R : Value → Heap → Prop} (h : ∀ L, wp Try.prog (t_guard_Guard_Leave p0 p1) L H R) : SpecF Try.prog f_guard_Guard_Leave #[(.pointer p0), (.int .i64 p1)] H R :=
  spec_of_tree (cfg := { quiet := [16, 34, 36, 40, 41, 66, 67, 75, 76, 77, 97, 98, 103, 108, 110, 139, 146, 149, 161], quietTmp := false, fncs := [], ifcs := [] }) Try.func30 fun L => (t_guard_Guard_Leave_eq p0 p1).symm ▸ h L

/- (*magpie/guard.Guard).Retire -/
noncomputable def t_guard_Guard_Retire (p0 : Option Addr) (p1 : Option Addr) (p2 : Int) (p3 : Int) : Tree :=
  .call f_arena_Arena_Retire [(.pointer p1), (.int .i64 p3)] (.one (.leaf .bool)) fun x14 =>
  .look (opS Try.prog (.nilCheck (.tmp 0)) ty_unit [(.pointer p0)]) (.one (.leaf .addr)) fun x16 =>
  .ld (x16.add 7) .map fun x18 =>
  .look (opS Try.prog (.nilCheck (.tmp 0)) ty_unit [(.pointer p0)]) (.one (.leaf .addr)) fun x21 =>
  .ld (x21.add 7) .map fun x23 =>
  .look (opS Try.prog (.lookup ty_m_int_s_epoch_Limbo (.tmp 0) (.tmp 1) false) ty_s_epoch_Limbo [(.map x23), (.int .i64 p2)]) (.one (.leaf .slice)) fun x25 =>
  .newS (.cells #[(.int .i64 p3), (.int .i64 0)] ty_epoch_Limbo) 1 fun x28 =>
  .check (opS Try.prog (.lookup ty_m_int_s_epoch_Limbo (.tmp 0) (.tmp 1) false) ty_s_epoch_Limbo [(.map x23), (.int .i64 p2)]) (.slice x25.a x25.len x25.cap) <|
  .check (ldS (x21.add 7)) (.map x23) <|
  .check (opS Try.prog (.nilCheck (.tmp 0)) ty_unit [(.pointer p0)]) (.pointer (some x21)) <|
  .check (ldS (x16.add 7)) (.map x18) <|
  .check (opS Try.prog (.nilCheck (.tmp 0)) ty_unit [(.pointer p0)]) (.pointer (some x16)) <|
  .act (opS Try.prog (.call { callee := .builtin .append, args := #[(.tmp 0), (.tmp 1)], argTypes := #[ty_s_epoch_Limbo, ty_s_epoch_Limbo] }) ty_s_epoch_Limbo [(.slice x25.a x25.len x25.cap), (.slice x28.a x28.len x28.cap)]) (.one (.leaf .slice)) fun x29 =>
  .check (ldS (x16.add 7)) (.map x18) <|
  .check (opS Try.prog (.nilCheck (.tmp 0)) ty_unit [(.pointer p0)]) (.pointer (some x16)) <|
  .act (opS Try.prog (.mapUpdate ty_m_int_s_epoch_Limbo (.tmp 0) (.tmp 1) (.tmp 2)) ty_unit [(.map x18), (.int .i64 p2), (.slice x29.a x29.len x29.cap)]) .unit fun _ =>
  .look (opS Try.prog (.nilCheck (.tmp 0)) ty_unit [(.pointer p0)]) (.one (.leaf .addr)) fun x32 =>
  .ld x32 .val fun x34 =>
  .look (opS Try.prog (.typeAssert (.tmp 0) ty_guard_mode ty_guard_epochs true) ty_guard_epochs_bool [x34]) (.tup [(.agg [(.int .i64), (.int .i64)]), (.leaf .bool)]) fun x35 =>
  .newP (.cells #[(.int .i64 0), (.int .i64 0)] ty_guard_epochs) fun x9 =>
  .stA x9 [(.int .i64 x35.1.1), (.int .i64 x35.1.2.1)] <|
  .newP (.cells #[(.pointer p0), (.int .i64 p2), (.bool x35.2.1), (.int .i64 0), .nilIface] ty_guard_look) fun x42 =>
  .look (opS Try.prog (.nilCheck (.tmp 0)) ty_unit [(.pointer p0)]) (.one (.leaf .addr)) fun x44 =>
  .ld (x44.add 7) .map fun x46 =>
  .look (opS Try.prog (.lookup ty_m_int_s_epoch_Limbo (.tmp 0) (.tmp 1) false) ty_s_epoch_Limbo [(.map x46), (.int .i64 p2)]) (.one (.leaf .slice)) fun x48 =>
  .look (opS Try.prog (.nilCheck (.tmp 0)) ty_unit [(.pointer p0)]) (.one (.leaf .addr)) fun x51 =>
  .ld (x51.add 6) (.int .i64) fun x53 =>
  bif (decide ((((x48.len : Nat) : Int) : Int) ≥ x53)) then (
    .look (opS Try.prog (.nilCheck (.tmp 0)) ty_unit [(.pointer (some x42))]) (.one (.leaf .addr)) fun x56 =>
    .st (x56.add 3) (.int .i64 1) <|
    bif (!x35.2.1) then (
      .look (opS Try.prog (.nilCheck (.tmp 0)) ty_unit [(.pointer (some x42))]) (.one (.leaf .addr)) fun x62 =>
      .ld (x62.add 3) (.int .i64) fun x64 =>
      bif ((x64 : Int) == 0) then (
        .ret .nilIface)
      else (
        bif (!x35.2.1) then (
          .call f_guard_look_begin [(.pointer (some x42))] .unit fun _ =>
          .ret (.iface ty_p_guard_look (.pointer (some x42))))
        else (
          .ret (.iface ty_p_guard_look (.pointer (some x42))))))
    else (
      bif (!x35.2.1) then (
        .call f_guard_look_begin [(.pointer (some x42))] .unit fun _ =>
        .ret (.iface ty_p_guard_look (.pointer (some x42))))
      else (
        .ret (.iface ty_p_guard_look (.pointer (some x42))))))
  else (
    bif (!x35.2.1) then (
      .look (opS Try.prog (.nilCheck (.tmp 0)) ty_unit [(.pointer (some x42))]) (.one (.leaf .addr)) fun x62 =>
      .ld (x62.add 3) (.int .i64) fun x64 =>
      bif ((x64 : Int) == 0) then (
        .ret .nilIface)
      else (
        bif (!x35.2.1) then (
          .call f_guard_look_begin [(.pointer (some x42))] .unit fun _ =>
          .ret (.iface ty_p_guard_look (.pointer (some x42))))
        else (
          .ret (.iface ty_p_guard_look (.pointer (some x42))))))
    else (
      bif (!x35.2.1) then (
        .call f_guard_look_begin [(.pointer (some x42))] .unit fun _ =>
        .ret (.iface ty_p_guard_look (.pointer (some x42))))
      else (
        .ret (.iface ty_p_guard_look (.pointer (some x42))))))
theorem t_guard_Guard_Retire_eq (p0 : Option Addr) (p1 : Option Addr) (p2 : Int) (p3 : Int) : funcTree Try.prog { quiet := [16, 34, 36, 40, 41, 66, 67, 75, 76, 77, 97, 98, 103, 108, 110, 139, 146, 149, 161], quietTmp := false, fncs := [], ifcs := [] } Try.f20 [(.pointer p0), (.pointer p1), (.int .i64 p2), (.int .i64 p3)] = t_guard_Guard_Retire p0 p1 p2 p3 := by kernel_rfl
theorem t_guard_Guard_Retire_spec {p0 : Option Addr} {p1 : Option Addr} {p2 : Int} {p3 : Int} {H : Heap} {R : Value → Heap → Prop} (h : ∀ L, wp Try.prog (t_guard_Guard_Retire p0 p1 p2 p3) L H R) : SpecF Try.prog f_guard_Guard_Retire #[(.pointer p0), (.pointer p1), (.int .i64 p2), (.int .i64 p3)] H R :=
  spec_of_tree (cfg := { quiet := [16, 34, 36, 40, 41, 66, 67, 75, 76, 77, 97, 98, 103, 108, 110, 139, 146, 149, 161], quietTmp := false, fncs := [], ifcs := [] }) Try.func20 fun L => (t_guard_Guard_Retire_eq p0 p1 p2 p3).symm ▸ h L

/- (*magpie/guard.Guard).Left -/
noncomputable def t_guard_Guard_Left (p0 : Option Addr) (p1 : Int) : Tree :=
  .look (opS Try.prog (.nilCheck (.tmp 0)) ty_unit [(.pointer p0)]) (.one (.leaf .addr)) fun x6 =>
  .ld (x6.add 7) .map fun x8 =>
  .look (opS Try.prog (.lookup ty_m_int_s_epoch_Limbo (.tmp 0) (.tmp 1) false) ty_s_epoch_Limbo [(.map x8), (.int .i64 p1)]) (.one (.leaf .slice)) fun x10 =>
  .ret (.int .i64 ((x10.len : Nat) : Int))
theorem t_guard_Guard_Left_eq (p0 : Option Addr) (p1 : Int) : funcTree Try.prog { quiet := [16, 34, 36, 40, 41, 66, 67, 75, 76, 77, 97, 98, 103, 108, 110, 139, 146, 149, 161], quietTmp := false, fncs := [], ifcs := [] } Try.f21 [(.pointer p0), (.int .i64 p1)] = t_guard_Guard_Left p0 p1 := by kernel_rfl
theorem t_guard_Guard_Left_spec {p0 : Option Addr} {p1 : Int} {H : Heap} {R : Value → Heap → Prop} (h : ∀ L, wp Try.prog (t_guard_Guard_Left p0 p1) L H R) : SpecF Try.prog f_guard_Guard_Left #[(.pointer p0), (.int .i64 p1)] H R :=
  spec_of_tree (cfg := { quiet := [16, 34, 36, 40, 41, 66, 67, 75, 76, 77, 97, 98, 103, 108, 110, 139, 146, 149, 161], quietTmp := false, fncs := [], ifcs := [] }) Try.func21 fun L => (t_guard_Guard_Left_eq p0 p1).symm ▸ h L

end Go.Proofs.Ytcjhakdopnamoaa

set_option linter.unusedVariables false
set_option linter.unusedSimpArgs false
set_option maxRecDepth 20000
namespace Go.Proofs.Ytcjhakdopnamoaa
open Go Go.Fw

/-! ### guard.Guard -/

structure Gd where
  ep : Bool
  w : Int
  ta : Int
  pl : Pl
  th : Int
def gmode (ep : Bool) (w ta : Int) : Value := .iface (bif ep then ty_guard_epochs else ty_guard_hazards) (.agg #[.int .i64 w, .int .i64 ta])
def Gd.cells (g : Gd) (mq : Nat) : List Value := [gmode g.ep g.w g.ta, .int .i64 g.pl.work, .int .i64 g.pl.heads, .int .i64 g.pl.links, .int .i64 g.pl.gens, .int .i64 g.pl.carved, .int .i64 g.th, .map (some mq)]

/-- What each worker has retired: a slice, what it has, its blocks. -/
structure LE where
  k : Int
  s : Sl
  xs : List (Int × Int)
  hb : Bl
def leC (e : List LE) : List (Int × Sl) := e.map fun x => (x.k, x.s)
def leB : List LE → Bl
  | [] => []
  | x :: e => x.hb ++ leB e
def leGet : List LE → Int → LE
  | [], k => ⟨k, sl0, [], []⟩
  | x :: e, k => if k = x.k then x else leGet e k
def leRest : List LE → Int → Bl
  | [], _ => []
  | x :: e, k => if k = x.k then leB e else x.hb ++ leRest e k
def lePut : List LE → LE → List LE
  | [], y => [y]
  | x :: e, y => if y.k = x.k then y :: e else x :: lePut e y
theorem leC_get : ∀ (e : List LE) (k : Int), (match alGet (leC e) k with | some v => slV v | none => slV sl0) = slV (leGet e k).s
  | [], k => rfl
  | x :: e, k => by
    show (match (if k = x.k then some x.s else alGet (leC e) k) with | some v => slV v | none => slV sl0) = slV (if k = x.k then x else leGet e k).s
    by_cases h : k = x.k
    · rw [if_pos h, if_pos h]
    · rw [if_neg h, if_neg h]; exact leC_get e k
theorem leC_put : ∀ (e : List LE) (y : LE), leC (lePut e y) = alPut (leC e) y.k y.s
  | [], y => rfl
  | x :: e, y => by
    show leC (if y.k = x.k then y :: e else x :: lePut e y) = if y.k = x.k then (x.k, y.s) :: leC e else (x.k, x.s) :: alPut (leC e) y.k y.s
    by_cases h : y.k = x.k
    · rw [if_pos h, if_pos h, ← h]; rfl
    · rw [if_neg h, if_neg h, ← leC_put e y]; rfl
theorem leGet_put : ∀ (e : List LE) (y : LE) (k : Int), leGet (lePut e y) k = if k = y.k then y else leGet e k
  | [], y, k => rfl
  | x :: e, y, k => by
    show leGet (if y.k = x.k then y :: e else x :: lePut e y) k = if k = y.k then y else if k = x.k then x else leGet e k
    by_cases h : y.k = x.k
    · rw [if_pos h]
      show (if k = y.k then y else leGet e k) = _
      by_cases h2 : k = y.k
      · rw [if_pos h2, if_pos h2]
      · rw [if_neg h2, if_neg h2, if_neg (by rw [← h]; exact h2)]
    · rw [if_neg h]
      show (if k = x.k then x else leGet (lePut e y) k) = _
      by_cases h2 : k = x.k
      · rw [if_pos h2, if_pos h2, if_neg (by rw [h2]; exact fun e => h e.symm)]
      · rw [if_neg h2, if_neg h2]; exact leGet_put e y k
theorem leB_c {c : Bl → Nat} (c0 : c [] = 0) (ca : ∀ a b, c (a ++ b) = c a + c b) : ∀ (e : List LE) (k : Int), c (leB e) = c (leGet e k).hb + c (leRest e k)
  | [], k => by show c [] = c [] + c []; omega
  | x :: e, k => by
    show c (x.hb ++ leB e) = c (if k = x.k then x else leGet e k).hb + c (if k = x.k then leB e else x.hb ++ leRest e k)
    by_cases h : k = x.k
    · rw [if_pos h, if_pos h, ca]
    · rw [if_neg h, if_neg h, ca, ca, leB_c c0 ca e k]; omega
theorem leB_put_c {c : Bl → Nat} (c0 : c [] = 0) (ca : ∀ a b, c (a ++ b) = c a + c b) : ∀ (e : List LE) (y : LE), c (leB (lePut e y)) = c y.hb + c (leRest e y.k)
  | [], y => ca _ _
  | x :: e, y => by
    show c (leB (if y.k = x.k then y :: e else x :: lePut e y)) = c y.hb + c (if y.k = x.k then leB e else x.hb ++ leRest e y.k)
    by_cases h : y.k = x.k
    · rw [if_pos h, if_pos h]; exact ca _ _
    · rw [if_neg h, if_neg h, ca]
      show c (x.hb ++ leB (lePut e y)) = _
      rw [ca, leB_put_c c0 ca e y]; omega

/-- A guard's blocks. -/
def Gd.bl (g : Gd) (q mq : Nat) (e : List LE) : Bl := (q, oc ty_guard_Guard (g.cells mq)) :: (mq, mapObj slV (leC e)) :: leB e
/-- Its lists are what they say. -/
def leOk (e : List LE) : Prop := ∀ k, SlOf (leGet e k).hb ty_epoch_Limbo eL (leGet e k).s (leGet e k).xs
theorem leOk.put {e : List LE} (h : leOk e) {y : LE} (hy : SlOf y.hb ty_epoch_Limbo eL y.s y.xs) : leOk (lePut e y) := fun k => by
  rw [leGet_put]
  split
  · exact hy
  · exact h k

theorem ta_epT (w ta : Int) (u : TypeId) : opS Try.prog (.typeAssert (.tmp 0) ty_guard_mode ty_guard_epochs true) u [gmode true w ta] = .pure (.value (.tuple #[.agg #[.int .i64 w, .int .i64 ta], .bool true])) := by kernel_rfl
theorem ta_epF (w ta : Int) (u : TypeId) : opS Try.prog (.typeAssert (.tmp 0) ty_guard_mode ty_guard_epochs true) u [gmode false w ta] = .pure (.value (.tuple #[.agg #[.int .i64 0, .int .i64 0], .bool false])) := by kernel_rfl
theorem ta_haT (w ta : Int) (u : TypeId) : opS Try.prog (.typeAssert (.tmp 0) ty_guard_mode ty_guard_hazards true) u [gmode false w ta] = .pure (.value (.tuple #[.agg #[.int .i64 w, .int .i64 ta], .bool true])) := by kernel_rfl
theorem ta_ha (w ta : Int) (u : TypeId) : opS Try.prog (.typeAssert (.tmp 0) ty_guard_mode ty_guard_hazards false) u [gmode false w ta] = .pure (.value (.agg #[.int .i64 w, .int .i64 ta])) := by kernel_rfl
theorem ta_ep (w ta : Int) (u : TypeId) : opS Try.prog (.typeAssert (.tmp 0) ty_guard_mode ty_guard_epochs false) u [gmode true w ta] = .pure (.value (.agg #[.int .i64 w, .int .i64 ta])) := by kernel_rfl
end Go.Proofs.Ytcjhakdopnamoaa

set_option linter.unusedVariables false
set_option linter.unusedSimpArgs false
set_option maxRecDepth 20000
namespace Go.Proofs.Ytcjhakdopnamoaa
open Go Go.Fw

section
variable {L : Hands} {R : Value → Heap → Prop} {G : Heap} {l rest : Bl} {A : Ar} {I : List Nat}

theorem gp_end (ok : Ok0 G (keys l)) : G.le (putL l G) := by
  intro b o hb
  rw [putL_out]
  · exact hb
  · intro h; rw [ok.no b h] at hb; cases hb

theorem epochTable_det {w n : Int} (b : 0 ≤ w ∧ w ≤ 100000) (H : Heap) : Det Try.prog f_guard_epochTable [.int .i64 w, .int .i64 n] H (.agg #[.int .i64 w, .int .i64 n]) H := by
  refine t_guard_epochTable_spec fun L => ?_
  unfold t_guard_epochTable
  have ok0 : Ok0 H (keys []) := ⟨.nil, fun b h => (by cases h)⟩
  refine p_newP (l := []) ok0 fun x4 ok0 => ?_
  refine wq_ERaw (w := w) (n := n) b ?_
  refine p_newP ok0 fun x5 ok0 => ?_
  refine p_stA 0 ok0 rfl rfl rfl rfl ?_
  have ok1 : Ok0 H (keys [(x5, oc ty_epoch_Table [.int .i64 w, .int .i64 n]), (x4, oc ty_epoch_Table [.int .i64 0, .int .i64 0])]) := ok0
  show wp Try.prog _ L (putL [(x5, oc ty_epoch_Table [.int .i64 w, .int .i64 n]), (x4, oc ty_epoch_Table [.int .i64 0, .int .i64 0])] H) _
  refine p_ldA (l := [(x5, oc ty_epoch_Table [.int .i64 w, .int .i64 n]), (x4, oc ty_epoch_Table [.int .i64 0, .int .i64 0])]) 0 ok1 rfl rfl rfl ?_
  refine p_stA 1 ok1 rfl rfl rfl rfl ?_
  refine ⟨(w, n, ()), ?_, H, gp_end (by exact ok1), rfl, rfl⟩
  refine ldK_still (putL_get (i := 1) H (by exact ok1.nd) rfl) 2 0 #[] (by exact Nat.le_refl 2) ?_
  rfl
theorem of_det {w n : Int} (ep : Bool) (b : 0 ≤ w ∧ w ≤ 100000) (H : Heap) : Det Try.prog f_guard_of [.int .i64 w, .int .i64 n, .bool ep] H (gmode ep w n) H := by
  refine t_guard_of_spec fun L => ?_
  unfold t_guard_of
  have ok0 : Ok0 H (keys []) := ⟨.nil, fun b h => (by cases h)⟩
  cases ep with
  | true =>
    refine wp_true rfl ?_
    refine wp_qcall_det (x := (w, n, ())) (epochTable_det b H) ?_
    exact wp_ret_of ⟨rfl, rfl⟩
  | false =>
    refine wp_false rfl ?_
    refine wq_HRaw (w := w) (n := n) b ?_
    refine p_newP (l := []) ok0 fun x7 ok0 => ?_
    refine p_stA 0 ok0 rfl rfl rfl rfl ?_
    have ok1 : Ok0 H (keys [(x7, oc ty_hazard_Table [.int .i64 w, .int .i64 n])]) := ok0
    show wp Try.prog _ L (putL [(x7, oc ty_hazard_Table [.int .i64 w, .int .i64 n])] H) _
    refine p_ldA (l := [(x7, oc ty_hazard_Table [.int .i64 w, .int .i64 n])]) 0 ok1 rfl rfl rfl ?_
    exact ⟨H, gp_end ok1, rfl, rfl⟩
theorem gwords_ep (w n : Int) : opS Try.prog (.call { callee := .invoke (.tmp 0) "magpie/guard.words", args := #[], argTypes := #[] }) ty_int [gmode true w n] = .pure (.enter f_guard_epochs_words [.agg #[.int .i64 w, .int .i64 n]].toArray) := by kernel_rfl
theorem gwords_ha (w n : Int) : opS Try.prog (.call { callee := .invoke (.tmp 0) "magpie/guard.words", args := #[], argTypes := #[] }) ty_int [gmode false w n] = .pure (.enter f_guard_hazards_words [.agg #[.int .i64 w, .int .i64 n]].toArray) := by kernel_rfl
theorem GRaw_det {w n : Int} (ep : Bool) (b : 0 ≤ w ∧ w ≤ 100000) (H : Heap) : Det Try.prog f_guard_Raw [.int .i64 w, .int .i64 n, .bool ep] H (.int .i64 (bif ep then 1 + w else 2 * w)) H := by
  refine t_guard_Raw_spec fun L => ?_
  unfold t_guard_Raw
  refine wp_call_det (x := gmode ep w n) (of_det ep b H) ?_
  have e1 : imax w 0 = w := by unfold imax; rw [if_neg (by omega)]
  cases ep with
  | true =>
    refine act_enter (gwords_ep w n) ?_
    refine wp_call_det (x := 1 + w) ?_ (wp_ret_of ⟨rfl, rfl⟩)
    refine t_guard_epochs_words_spec (p0_0 := w) (p0_1 := n) fun L => ?_
    unfold t_guard_epochs_words
    refine wp_newP fun b hb => ?_
    refine wp_ld_of (x := w) (by rw [Heap.cell_set]; rfl) ?_
    rw [e1, w64_in (by omega) (by omega)]
    exact ⟨H, Heap.le_set_new _ hb, rfl, rfl⟩
  | false =>
    refine act_enter (gwords_ha w n) ?_
    refine wp_call_det (x := 2 * w) ?_ (wp_ret_of ⟨rfl, rfl⟩)
    refine t_guard_hazards_words_spec (p0_0 := w) (p0_1 := n) fun L => ?_
    unfold t_guard_hazards_words
    refine wp_newP fun b hb => ?_
    refine wp_ld_of (x := w) (by rw [Heap.cell_set]; rfl) ?_
    rw [e1, w64_in (by omega) (by omega)]
    exact ⟨H, Heap.le_set_new _ hb, rfl, rfl⟩

/-- What a worker has retired, told. -/
theorem w_GLeft {g : Gd} {e : List LE} {q mq : Nat} {k : Int} {K : Int → Tree} (hA : Aw I A) (ok : Ok I G (keys (g.bl q mq e ++ rest))) (h : wp Try.prog (K (((leGet e k).s.len : Nat) : Int)) L (own A (g.bl q mq e ++ rest) G) R) :
    wp Try.prog (.call f_guard_Guard_Left [.pointer (some ⟨q, 0, none⟩), .int .i64 k] (.one (.leaf (.int .i64))) K) L (own A (g.bl q mq e ++ rest) G) R := by
  refine wp_call_det (x := (((leGet e k).s.len : Nat) : Int)) (H' := own A (g.bl q mq e ++ rest) G) ?_ h
  refine t_guard_Guard_Left_spec fun L => ?_
  unfold t_guard_Guard_Left
  refine wp_nil.2 ?_
  refine w_ld 0 (x := some mq) hA ok rfl rfl rfl ?_
  refine w_lookup 1 (enc := slV) (c := leC e) (y := (leGet e k).s) hA ok rfl rfl rfl rfl rfl (by have h := leC_get e k; revert h; cases alGet (leC e) k <;> exact fun h => h) ?_
  exact wp_ret_of ⟨rfl, rfl⟩
end
end Go.Proofs.Ytcjhakdopnamoaa

set_option linter.unusedVariables false
set_option maxRecDepth 20000
namespace Go.Proofs.Ytcjhakdopnamoaa
open Go Go.Fw

section
variable {L : Hands} {R : Value → Heap → Prop} {A : Ar} {I : List Nat} {l l' : Bl} {G : Heap}

theorem SlAt.row {α : Type} {E : Enc α} {e : TypeId} {s : Sl} {xs : List α} (hA : Aw I A) (ok : Ok I G (keys l)) (h : SlAt l e E s xs) : Row (own A l G) s.a (E.all xs) := by
  rcases h with ⟨rfl, rfl⟩ | ⟨b, pre, rest, r, rfl, h2, h3⟩
  · intro i hi; simp [Enc.all] at hi
  · refine cell_row hA ok h3 pre.length ?_
    rw [List.append_assoc, List.drop_left, List.take_left]
theorem SlAt.nil (l : Bl) {α : Type} (e : TypeId) (E : Enc α) : SlAt l e E ⟨none, 0, 0⟩ [] := .inl ⟨rfl, rfl⟩

/-- An element of a slice of numbers. -/
theorem rdA {s : Sl} {xs : List Int} {i : Int} {u : TypeId} {k : Int → Tree} (hA : Aw I A) (ok : Ok I G (keys l)) (hs : SlAt l ty_int eI s xs) (h0 : 0 ≤ i) (h1 : i < xs.length) (h : wp Try.prog (k (xs.getD i.toNat 0)) L (own A l G) R) :
    wp Try.prog (.look (opS Try.prog (.indexAddr ty_s_int (.tmp 0) (.tmp 1)) u [.slice s.a s.len s.cap, .int .i64 i]) (.one (.leaf .addr)) fun x => .ld x (.int .i64) k) L (own A l G) R := by
  rcases hs with ⟨rfl, rfl⟩ | ⟨b, pre, rest, r, rfl, h2, h3⟩
  · have : (([] : List Int).length : Int) = 0 := rfl
    omega
  · refine w_ixS (e := ty_int) rfl rfl rfl h0 h1 ?_
    refine w_ldm (x := xs.getD i.toNat 0) hA ok rfl h3 ?_ h
    have hl : i.toNat < xs.length := by omega
    rw [List.append_assoc, List.getElem?_append_right (by omega), eI_all, show pre.length + i.toNat - pre.length = i.toNat by omega, List.getElem?_append_left (by simpa using hl), List.getElem?_map, List.getElem?_eq_getElem hl]
    show some _ = _
    rw [List.getD_eq_getElem?_getD, List.getElem?_eq_getElem hl]; rfl

/-- The rest of a slice, behind its first element. -/
theorem SlAt.tailI {e : TypeId} {s : Sl} {x : Int} {xs : List Int} (h : SlAt l e eI s (x :: xs)) : SlAt l e eI (loSl s 1) xs ∧ (1 : Int) ≤ (s.len : Int) := by
  rcases h with ⟨_, h⟩ | ⟨b, pre, rest, r, rfl, h2, h3⟩
  · cases h
  · refine ⟨?_, by show (1 : Int) ≤ ((xs.length + 1 : Nat) : Int); omega⟩
    unfold loSl
    dsimp only
    by_cases e : (x :: xs).length + r = 1
    · rw [if_pos e]
      have hx : xs = [] := by simp only [List.length_cons] at e; exact List.eq_nil_of_length_eq_zero (by omega)
      have hr : r = 0 := by simp only [List.length_cons] at e; omega
      subst hx; subst hr
      exact .inr ⟨b, pre, eI.all [x] ++ rest, 0, rfl, by omega, by rw [show eI.all ([] : List Int) = [] from rfl, List.append_nil, ← List.append_assoc]; exact h3⟩
    · rw [if_neg e]
      refine .inr ⟨b, pre ++ [.int .i64 x], rest, r, ?_, h2, ?_⟩
      · show Sl.mk (some ((Addr.mk b pre.length none).add 1)) _ _ = _
        rw [Addr.add_mk, List.length_append]
        simp only [List.length_cons, List.length_nil, Sl.mk.injEq, true_and]
        omega
      · have : eI.all (x :: xs) = [.int .i64 x] ++ eI.all xs := rfl
        rw [this] at h3
        simpa using h3
end
end Go.Proofs.Ytcjhakdopnamoaa

set_option linter.unusedVariables false
set_option linter.unusedSimpArgs false
set_option maxRecDepth 20000
namespace Go.Proofs.Ytcjhakdopnamoaa
open Go Go.Fw

/-- Words set, one by one. -/
structure Se where
  ws : List Int
  v : Int
structure SeJ where
  q : Nat
  s : Sl
  hb : Bl
def Se.bl (x : Se) (j : SeJ) : Bl := (j.q, oc ty_guard_sets [slV j.s, .int .i64 x.v]) :: j.hb
def Se.step (x : Se) (A : Ar) : Se × Ar :=
  match x.ws with
  | [] => (x, A)
  | w :: ws => ({ x with ws := ws }, A.storeR w x.v)
def mSe : MchR Se SeJ where
  f := f_guard_sets_Step
  addr := SeJ.q
  bl := Se.bl
  rep := fun x j => SlAt j.hb ty_int eI j.s x.ws
  inv := fun _ _ => True
  step := Se.step
  fin := fun x => decide (x.ws = [])
theorem mSe_inv : mSe.inv' ty_p_guard_sets := fun q p => by
  show opS _ _ _ _ = .pure (.enter f_guard_sets_Step [.pointer (some ⟨q, 0, none⟩), .pointer p].toArray)
  kernel_rfl

theorem SlAt.len0 {l : Bl} {s : Sl} (h : SlAt l ty_int eI s []) : s.len = 0 := by have := h.len; simpa using this

set_option maxHeartbeats 1000000 in
theorem mSe_ok : mSe.ok := by
  rintro I A G ⟨ws, v⟩ ⟨q, s, hb⟩ hA ok rp _
  have rp : SlAt hb ty_int eI s ws := rp
  have ok : Ok I G (keys ((q, oc ty_guard_sets [slV s, .int .i64 v]) :: hb)) := ok
  refine t_guard_sets_Step_spec fun L => ?_
  unfold t_guard_sets_Step
  show wp Try.prog _ L (own A ((q, oc ty_guard_sets [slV s, .int .i64 v]) :: hb) G) _
  have hl := rp.len
  refine wp_nil.2 (w_ld 0 (x := s) hA ok rfl rfl rfl ?_)
  cases ws with
  | nil =>
    have h0 : s.len = 0 := rp.len0
    refine wp_false (decide_eq_false (by omega)) ?_
    refine wp_nil.2 (w_ld 0 (x := s) hA ok rfl rfl rfl ?_)
    exact wp_ret_of ⟨⟨q, s, hb⟩, by rw [h0]; rfl, rfl, rfl, ok, rp, hA⟩
  | cons w ws =>
    obtain ⟨t1, t2⟩ := rp.tailI
    refine wp_true (decide_eq_true (by omega)) ?_
    refine wp_nil.2 (w_ld 0 (x := s) hA ok rfl rfl rfl ?_)
    rw [opS_ix0]
    refine rdA (xs := w :: ws) hA ok (rp.mono fun p hp => List.mem_cons_of_mem _ hp) (Int.le_refl 0) (by simp) ?_
    refine wp_nil.2 (w_ld 0 (x := v) hA ok rfl rfl rfl ?_)
    refine w_SetRaw hA fun hB => ?_
    refine wp_nil.2 (w_ld 0 (x := s) hB ok rfl rfl rfl ?_)
    rw [opS_lo1]
    refine w_cutLo (by omega) t2 ?_
    refine wp_nil.2 (w_st 0 hB ok rfl rfl rfl rfl ?_)
    have ok1 : Ok I G (keys ((q, oc ty_guard_sets [slV (loSl s 1), .int .i64 v]) :: hb)) := ok
    show wp Try.prog _ L (own (A.storeR w v) ((q, oc ty_guard_sets [slV (loSl s 1), .int .i64 v]) :: hb) G) _
    refine wp_nil.2 (w_ld 0 (x := loSl s 1) hB ok1 rfl rfl rfl ?_)
    refine wp_ret_of ⟨⟨q, loSl s 1, hb⟩, ?_, rfl, rfl, ok1, t1, hB⟩
    have hl1 := t1.len
    show Value.bool (((((loSl s 1).len : Nat) : Int)) == 0) = .bool (decide (ws = []))
    rw [hl1]
    cases ws with
    | nil => rfl
    | cons a b => simp; omega

section
variable {L : Hands} {R : Value → Heap → Prop} {G : Heap} {l rest : Bl} {A : Ar} {I : List Nat}

/-- A guard is made. -/
theorem w_GNew {w n th : Int} {ep : Bool} {p : Pl} {K : Option Addr → Tree} (b : 0 ≤ w ∧ w ≤ 100000) (hA : Aw I A) (ok : Ok I G (keys l))
    (h : ∀ q mq, Ok I G (keys (Gd.bl ⟨ep, w, n, p, imax 1 (imin th 64)⟩ q mq [] ++ l)) → wp Try.prog (K (some ⟨q, 0, none⟩)) L (own A (Gd.bl ⟨ep, w, n, p, imax 1 (imin th 64)⟩ q mq [] ++ l) G) R) :
    wp Try.prog (.call f_guard_New [.int .i64 w, .int .i64 n, .bool ep, .int .i64 th, p.val] (.one (.leaf .ptr)) K) L (own A l G) R := by
  refine wp_call_of (R0 := fun v H => ∃ q mq, v = .pointer (some ⟨q, 0, none⟩) ∧ H = own A (Gd.bl ⟨ep, w, n, p, imax 1 (imin th 64)⟩ q mq [] ++ l) G ∧ Ok I G (keys (Gd.bl ⟨ep, w, n, p, imax 1 (imin th 64)⟩ q mq [] ++ l))) ?_ ?_
  · refine t_guard_New_spec (p0 := w) (p1 := n) (p2 := ep) (p3 := th) (p4_0 := p.work) (p4_1 := p.heads) (p4_2 := p.links) (p4_3 := p.gens) (p4_4 := p.carved) fun L => ?_
    unfold t_guard_New
    refine w_newP (c := plCells p) hA ok fun x9 ok1 => ?_
    refine w_ldA 0 hA ok1 rfl rfl rfl ?_
    have fin : ∀ {x9 x19 x21 : Nat} {rest : Bl} {l' : Bl}, Ok I G (keys l') → l'.Perm (Gd.bl ⟨ep, w, n, p, imax 1 (imin th 64)⟩ x21 x19 [] ++ (x9, oc ty_free_Place (plCells p)) :: l) → wp Try.prog (.ret (.pointer (some ⟨x21, 0, none⟩))) L (own A l' G) fun v H => ∃ q mq, v = .pointer (some ⟨q, 0, none⟩) ∧ H = own A (Gd.bl ⟨ep, w, n, p, imax 1 (imin th 64)⟩ q mq [] ++ l) G ∧ Ok I G (keys (Gd.bl ⟨ep, w, n, p, imax 1 (imin th 64)⟩ q mq [] ++ l)) := fun {x9 x19 x21 rest l'} ok hp => by
      obtain ⟨e1, ok2⟩ := own_perm (A := A) ok hp
      have nd : (keys (Gd.bl ⟨ep, w, n, p, imax 1 (imin th 64)⟩ x21 x19 [] ++ l)).Nodup := by
        have := ok2.nd
        exact (show (keys (Gd.bl ⟨ep, w, n, p, imax 1 (imin th 64)⟩ x21 x19 [] ++ l)).Sublist (keys (Gd.bl ⟨ep, w, n, p, imax 1 (imin th 64)⟩ x21 x19 [] ++ (x9, oc ty_free_Place (plCells p)) :: l)) from ((List.Sublist.refl _).append (List.sublist_cons_self _ _)).map _).nodup this
      have hm : ∀ q ∈ Gd.bl ⟨ep, w, n, p, imax 1 (imin th 64)⟩ x21 x19 [] ++ l, q ∈ Gd.bl ⟨ep, w, n, p, imax 1 (imin th 64)⟩ x21 x19 [] ++ (x9, oc ty_free_Place (plCells p)) :: l := fun q hq => by
        rcases List.mem_append.1 hq with h | h
        · exact List.mem_append_left _ h
        · exact List.mem_append_right _ (List.mem_cons_of_mem _ h)
      rw [e1]
      exact ⟨own A (Gd.bl ⟨ep, w, n, p, imax 1 (imin th 64)⟩ x21 x19 [] ++ l) G, own_sub ok2 nd hm, x21, x19, rfl, rfl, ok2.sub nd fun b hb => by
        obtain ⟨q, hq, e⟩ := List.mem_map.1 hb
        exact List.mem_map.2 ⟨q, hm q hq, e⟩⟩
    refine ⟨?_, ?_⟩
    · refine wp_call_det (x := (⟨bif ep then ty_guard_epochs else ty_guard_hazards, .agg #[.int .i64 w, .int .i64 n]⟩ : Ifv)) (of_det ep b _) ?_
      refine w_ckA 0 hA ok1 rfl rfl rfl rfl ?_
      refine w_newM hA ok1 fun x19 ok2 => ?_
      refine w_ckA 1 hA ok2 rfl rfl rfl rfl ?_
      refine w_newP (c := Gd.cells ⟨ep, w, n, p, imax 1 (imin th 64)⟩ x19) hA ok2 fun x21 ok3 => ?_
      exact fin (x9 := x9) (x19 := x19) (rest := []) ok3 (.refl _)
    · refine w_newM hA ok1 fun x19 ok2 => ?_
      refine w_ckA 1 hA ok2 rfl rfl rfl rfl ?_
      refine wp_call_det (x := (⟨bif ep then ty_guard_epochs else ty_guard_hazards, .agg #[.int .i64 w, .int .i64 n]⟩ : Ifv)) (of_det ep b _) ?_
      refine w_ckA 1 hA ok2 rfl rfl rfl rfl ?_
      refine w_newP (c := Gd.cells ⟨ep, w, n, p, imax 1 (imin th 64)⟩ x19) hA ok2 fun x21 ok3 => ?_
      exact fin (x9 := x9) (x19 := x19) (rest := []) ok3 (.refl _)
  · rintro v H ⟨q, mq, rfl, rfl, o⟩
    exact ⟨_, rfl, h q mq o⟩
end
end Go.Proofs.Ytcjhakdopnamoaa

set_option linter.unusedVariables false
set_option linter.unusedSimpArgs false
set_option maxRecDepth 20000
namespace Go.Proofs.Ytcjhakdopnamoaa
open Go Go.Fw

section
variable {L : Hands} {R : Value → Heap → Prop} {G : Heap} {l rest : Bl} {A : Ar} {I : List Nat} {g : Gd} {e : List LE} {q mq : Nat}

/-- Enter: a pin, or nothing. -/
theorem w_GEnter {k : Int} {K : Value → Tree} (hA : Aw I A) (ok : Ok I G (keys (g.bl q mq e ++ rest)))
    (h1 : g.ep = true → ∀ z : Nat, Ok I G (keys (g.bl q mq e ++ ((newPn g.w g.ta k).bl z ++ rest))) → wp Try.prog (K (.iface ty_p_epoch_Pin (.pointer (some ⟨z, 0, none⟩)))) L (own A (g.bl q mq e ++ ((newPn g.w g.ta k).bl z ++ rest)) G) R)
    (h2 : g.ep = false → wp Try.prog (K .nilIface) L (own A (g.bl q mq e ++ rest) G) R) :
    wp Try.prog (.call f_guard_Guard_Enter [.pointer (some ⟨q, 0, none⟩), .int .i64 k] (.one (.leaf .val)) K) L (own A (g.bl q mq e ++ rest) G) R := by
  cases hp : g.ep with
  | true =>
    refine wp_call_of (R0 := fun v H => ∃ z, v = .iface ty_p_epoch_Pin (.pointer (some ⟨z, 0, none⟩)) ∧ H = own A (g.bl q mq e ++ ((newPn g.w g.ta k).bl z ++ rest)) G ∧ Ok I G (keys (g.bl q mq e ++ ((newPn g.w g.ta k).bl z ++ rest)))) ?_ ?_
    · refine t_guard_Guard_Enter_spec fun L => ?_
      unfold t_guard_Guard_Enter
      refine wp_nil.2 (w_ld 0 (x := gmode g.ep g.w g.ta) hA ok rfl rfl rfl ?_)
      rw [hp]
      refine look_val (x := ((g.w, g.ta, ()), true, ())) (ta_epT _ _ _) (wp_true rfl ?_)
      refine w_newP (c := [.int .i64 0, .int .i64 0]) hA ok fun x5 ok1 => ?_
      refine w_stA 0 hA ok1 rfl rfl rfl rfl ?_
      have ok1 : Ok I G (keys ((x5, oc ty_guard_epochs [.int .i64 g.w, .int .i64 g.ta]) :: (g.bl q mq e ++ rest))) := ok1
      show wp Try.prog _ L (own A ((x5, oc ty_guard_epochs [.int .i64 g.w, .int .i64 g.ta]) :: (g.bl q mq e ++ rest)) G) _
      refine w_ldA 0 hA ok1 rfl rfl rfl ?_
      refine w_NewPin (tw := g.w) (ta := g.ta) (work := k) hA ok1 fun z ok2 => ?_
      obtain ⟨p1, ok3⟩ := own_perm (A := A) (l' := (x5, oc ty_guard_epochs [.int .i64 g.w, .int .i64 g.ta]) :: (g.bl q mq e ++ ((newPn g.w g.ta k).bl z ++ rest))) ok2 (perm_by fun c d c0 cd ca => by simp only [cd, ca]; omega)
      rw [p1]
      exact ⟨_, own_sub ok3 ((List.nodup_cons.1 ok3.nd).2) (fun p hp => List.mem_cons_of_mem _ hp), z, rfl, rfl, ok3.sub ((List.nodup_cons.1 ok3.nd).2) fun b hb => List.mem_cons_of_mem _ hb⟩
    · rintro v H ⟨z, rfl, rfl, o⟩
      exact ⟨_, rfl, h1 hp z o⟩
  | false =>
    refine wp_call_det (x := .nilIface) (H' := own A (g.bl q mq e ++ rest) G) ?_ (h2 hp)
    refine t_guard_Guard_Enter_spec fun L => ?_
    unfold t_guard_Guard_Enter
    refine wp_nil.2 (w_ld 0 (x := gmode g.ep g.w g.ta) hA ok rfl rfl rfl ?_)
    rw [hp]
    refine look_val (x := ((0, 0, ()), false, ())) (ta_epF _ _ _) (wp_false rfl ?_)
    exact wp_ret_of ⟨rfl, rfl⟩

/-- Protect: a word set, or nothing. -/
theorem w_GProtect {k n v : Int} {K : Value → Tree} (b : 0 ≤ g.ta ∧ g.ta ≤ 1000000 ∧ 0 ≤ k ∧ k ≤ 1000 ∧ 0 ≤ n ∧ n ≤ 1000) (hA : Aw I A) (ok : Ok I G (keys (g.bl q mq e ++ rest)))
    (h1 : g.ep = false → ∀ j : SeJ, Ok I G (keys (g.bl q mq e ++ (Se.bl ⟨[g.ta + 2 * k + n], v⟩ j ++ rest))) → mSe.rep ⟨[g.ta + 2 * k + n], v⟩ j → wp Try.prog (K (.iface ty_p_guard_sets (.pointer (some ⟨j.q, 0, none⟩)))) L (own A (g.bl q mq e ++ (Se.bl ⟨[g.ta + 2 * k + n], v⟩ j ++ rest)) G) R)
    (h2 : g.ep = true → wp Try.prog (K .nilIface) L (own A (g.bl q mq e ++ rest) G) R) :
    wp Try.prog (.call f_guard_Guard_Protect [.pointer (some ⟨q, 0, none⟩), .int .i64 k, .int .i64 n, .int .i64 v] (.one (.leaf .val)) K) L (own A (g.bl q mq e ++ rest) G) R := by
  cases hp : g.ep with
  | false =>
    refine wp_call_of (R0 := fun u H => ∃ j : SeJ, u = .iface ty_p_guard_sets (.pointer (some ⟨j.q, 0, none⟩)) ∧ H = own A (g.bl q mq e ++ (Se.bl ⟨[g.ta + 2 * k + n], v⟩ j ++ rest)) G ∧ Ok I G (keys (g.bl q mq e ++ (Se.bl ⟨[g.ta + 2 * k + n], v⟩ j ++ rest))) ∧ mSe.rep ⟨[g.ta + 2 * k + n], v⟩ j) ?_ ?_
    · refine t_guard_Guard_Protect_spec fun L => ?_
      unfold t_guard_Guard_Protect
      refine wp_nil.2 (w_ld 0 (x := gmode g.ep g.w g.ta) hA ok rfl rfl rfl ?_)
      rw [hp]
      refine look_val (x := ((0, 0, ()), false, ())) (ta_epF _ _ _) ?_
      refine w_newP (c := [.int .i64 0, .int .i64 0]) hA ok fun x9 ok1 => ?_
      refine w_stA 0 hA ok1 rfl rfl rfl rfl (wp_false rfl ?_)
      have ok1 : Ok I G (keys ((x9, oc ty_guard_epochs [.int .i64 0, .int .i64 0]) :: (g.bl q mq e ++ rest))) := ok1
      show wp Try.prog _ L (own A ((x9, oc ty_guard_epochs [.int .i64 0, .int .i64 0]) :: (g.bl q mq e ++ rest)) G) _
      refine wp_nil.2 (w_ld 1 (x := gmode g.ep g.w g.ta) hA ok1 rfl rfl rfl ?_)
      rw [hp]
      refine look_val (x := (g.w, g.ta, ())) (ta_ha _ _ _) ?_
      refine wq_Word (tw := g.w) (ta := g.ta) b ?_
      refine w_newS (c := [.int .i64 (g.ta + 2 * k + n)]) hA ok1 fun x29 ok2 => ?_
      refine w_newP (c := [slV ⟨some ⟨x29, 0, none⟩, 1, 1⟩, .int .i64 v]) hA ok2 fun x32 ok3 => ?_
      obtain ⟨p1, ok4⟩ := own_perm (A := A) (l' := (x9, oc ty_guard_epochs [.int .i64 0, .int .i64 0]) :: (g.bl q mq e ++ (Se.bl ⟨[g.ta + 2 * k + n], v⟩ ⟨x32, ⟨some ⟨x29, 0, none⟩, 1, 1⟩, [(x29, oc ty_int [.int .i64 (g.ta + 2 * k + n)])]⟩ ++ rest))) ok3 (perm_by fun c d c0 cd ca => by simp only [Se.bl, cd, ca, c0]; omega)
      rw [p1]
      exact ⟨_, own_sub ok4 ((List.nodup_cons.1 ok4.nd).2) (fun p hp => List.mem_cons_of_mem _ hp), ⟨x32, ⟨some ⟨x29, 0, none⟩, 1, 1⟩, [(x29, oc ty_int [.int .i64 (g.ta + 2 * k + n)])]⟩, rfl, rfl, ok4.sub ((List.nodup_cons.1 ok4.nd).2) fun b hb => List.mem_cons_of_mem _ hb, .inr ⟨x29, [], [], 0, rfl, (by show 0 * 1 ≤ 0; decide), List.mem_cons_self⟩⟩
    · rintro u H ⟨j, rfl, rfl, o, rp⟩
      exact ⟨_, rfl, h1 hp j o rp⟩
  | true =>
    refine wp_call_of (R0 := fun u H => u = .nilIface ∧ H = own A (g.bl q mq e ++ rest) G) ?_ ?_
    · refine t_guard_Guard_Protect_spec fun L => ?_
      unfold t_guard_Guard_Protect
      refine wp_nil.2 (w_ld 0 (x := gmode g.ep g.w g.ta) hA ok rfl rfl rfl ?_)
      rw [hp]
      refine look_val (x := ((g.w, g.ta, ()), true, ())) (ta_epT _ _ _) ?_
      refine w_newP (c := [.int .i64 0, .int .i64 0]) hA ok fun x9 ok1 => ?_
      refine w_stA 0 hA ok1 rfl rfl rfl rfl (wp_true rfl ?_)
      have ok1 : Ok I G (keys ((x9, oc ty_guard_epochs [.int .i64 g.w, .int .i64 g.ta]) :: (g.bl q mq e ++ rest))) := ok1
      show wp Try.prog _ L (own A ((x9, oc ty_guard_epochs [.int .i64 g.w, .int .i64 g.ta]) :: (g.bl q mq e ++ rest)) G) _
      exact ⟨_, own_sub ok1 ok.nd (fun p hp => List.mem_cons_of_mem _ hp), rfl, rfl⟩
    · rintro u H ⟨rfl, rfl⟩
      exact ⟨_, rfl, h2 hp⟩

/-- Leave: words cleared. -/
def leaveW (g : Gd) (k : Int) : List Int := bif g.ep then [ewd g.ta k] else [g.ta + 2 * k, g.ta + 2 * k + 1]
set_option maxHeartbeats 1000000 in
theorem w_GLeave {k : Int} {K : Value → Tree} (b : 0 ≤ g.ta ∧ g.ta ≤ 1000000 ∧ 0 ≤ k ∧ k ≤ 1000) (hA : Aw I A) (ok : Ok I G (keys (g.bl q mq e ++ rest)))
    (h : ∀ (j : SeJ) (z : Bl), Ok I G (keys (g.bl q mq e ++ (Se.bl ⟨leaveW g k, 0⟩ j ++ (z ++ rest)))) → mSe.rep ⟨leaveW g k, 0⟩ j → wp Try.prog (K (.iface ty_p_guard_sets (.pointer (some ⟨j.q, 0, none⟩)))) L (own A (g.bl q mq e ++ (Se.bl ⟨leaveW g k, 0⟩ j ++ (z ++ rest))) G) R) :
    wp Try.prog (.call f_guard_Guard_Leave [.pointer (some ⟨q, 0, none⟩), .int .i64 k] (.one (.leaf .val)) K) L (own A (g.bl q mq e ++ rest) G) R := by
  refine wp_call_of (R0 := fun u H => ∃ (j : SeJ) (z : Bl), u = .iface ty_p_guard_sets (.pointer (some ⟨j.q, 0, none⟩)) ∧ H = own A (g.bl q mq e ++ (Se.bl ⟨leaveW g k, 0⟩ j ++ (z ++ rest))) G ∧ Ok I G (keys (g.bl q mq e ++ (Se.bl ⟨leaveW g k, 0⟩ j ++ (z ++ rest)))) ∧ mSe.rep ⟨leaveW g k, 0⟩ j) ?_ ?_
  · refine t_guard_Guard_Leave_spec fun L => ?_
    unfold t_guard_Guard_Leave
    refine wp_nil.2 (w_ld 0 (x := gmode g.ep g.w g.ta) hA ok rfl rfl rfl ?_)
    unfold leaveW
    cases hp : g.ep with
    | true =>
      refine look_val (x := ((g.w, g.ta, ()), true, ())) (ta_epT _ _ _) ?_
      refine w_newP (c := [.int .i64 0, .int .i64 0]) hA ok fun x5 ok1 => ?_
      refine w_stA 0 hA ok1 rfl rfl rfl rfl (wp_true rfl ?_)
      have ok1 : Ok I G (keys ((x5, oc ty_guard_epochs [.int .i64 g.w, .int .i64 g.ta]) :: (g.bl q mq e ++ rest))) := ok1
      show wp Try.prog _ L (own A ((x5, oc ty_guard_epochs [.int .i64 g.w, .int .i64 g.ta]) :: (g.bl q mq e ++ rest)) G) _
      refine w_ldA 0 hA ok1 rfl rfl rfl ?_
      refine wq_EWord (tw := g.w) (ta := g.ta) ?_
      refine w_newS (c := [.int .i64 (ewd g.ta k)]) hA ok1 fun x23 ok2 => ?_
      refine w_newP (c := [slV ⟨some ⟨x23, 0, none⟩, 1, 1⟩, .int .i64 0]) hA ok2 fun x25 ok3 => ?_
      obtain ⟨p1, ok4⟩ := own_perm (A := A) (l' := g.bl q mq e ++ (Se.bl ⟨[ewd g.ta k], 0⟩ ⟨x25, ⟨some ⟨x23, 0, none⟩, 1, 1⟩, [(x23, oc ty_int [.int .i64 (ewd g.ta k)])]⟩ ++ ([(x5, oc ty_guard_epochs [.int .i64 g.w, .int .i64 g.ta])] ++ rest))) ok3 (perm_by fun c d c0 cd ca => by simp only [Se.bl, cd, ca, c0]; omega)
      rw [p1]
      exact wp_ret_of ⟨⟨x25, ⟨some ⟨x23, 0, none⟩, 1, 1⟩, [(x23, oc ty_int [.int .i64 (ewd g.ta k)])]⟩, _, rfl, rfl, ok4, .inr ⟨x23, [], [], 0, rfl, (by show 0 * 1 ≤ 0; decide), List.mem_cons_self⟩⟩
    | false =>
      refine look_val (x := ((0, 0, ()), false, ())) (ta_epF _ _ _) ?_
      refine w_newP (c := [.int .i64 0, .int .i64 0]) hA ok fun x5 ok1 => ?_
      refine w_stA 0 hA ok1 rfl rfl rfl rfl (wp_false rfl ?_)
      have ok1 : Ok I G (keys ((x5, oc ty_guard_epochs [.int .i64 0, .int .i64 0]) :: (g.bl q mq e ++ rest))) := ok1
      show wp Try.prog _ L (own A ((x5, oc ty_guard_epochs [.int .i64 0, .int .i64 0]) :: (g.bl q mq e ++ rest)) G) _
      refine wp_nil.2 (w_ld 1 (x := gmode g.ep g.w g.ta) hA ok1 rfl rfl rfl ?_)
      rw [hp]
      refine look_val (x := (g.w, g.ta, ())) (ta_ha _ _ _) ?_
      refine w_newP (c := [.int .i64 0, .int .i64 0]) hA ok1 fun x7 ok2 => ?_
      refine w_stA 0 hA ok2 rfl rfl rfl rfl ?_
      obtain ⟨pre, hpre⟩ : ∃ pre : Bl, pre = (x7, oc ty_guard_hazards [.int .i64 g.w, .int .i64 g.ta]) :: (x5, oc ty_guard_epochs [.int .i64 0, .int .i64 0]) :: (g.bl q mq e ++ rest) := ⟨_, rfl⟩
      have ok3 : Ok I G (keys (pre ++ [])) := by rw [List.append_nil, hpre]; exact ok2
      have es : own A ((x7, oc ty_guard_hazards [.int .i64 g.w, .int .i64 g.ta]) :: (x5, oc ty_guard_epochs [.int .i64 0, .int .i64 0]) :: (g.bl q mq e ++ rest)) G = own A (pre ++ []) G := by rw [List.append_nil, hpre]
      show wp Try.prog _ L (own A ((x7, oc ty_guard_hazards [.int .i64 g.w, .int .i64 g.ta]) :: (x5, oc ty_guard_epochs [.int .i64 0, .int .i64 0]) :: (g.bl q mq e ++ rest)) G) _
      rw [es]
      refine wl_si (fun s i K => 0 ≤ i ∧ i ≤ 2 ∧ ∃ tl, SlOf tl ty_int eI s ([g.ta + 2 * k, g.ta + 2 * k + 1].take i.toNat) ∧ Ok I G (keys (pre ++ tl)) ∧ K = own A (pre ++ tl) G) (fun _ i => (2 - i).toNat) ⟨none, 0, 0⟩ 0 ⟨by omega, by omega, [], .inl ⟨rfl, rfl⟩, ok3, rfl⟩ ?_
      rintro s i K ⟨i0, i1, tl, hs, ok4, rfl⟩
      rw [t_guard_Guard_Leave_L1]
      by_cases d : i < 2
      · refine wp_true (decide_eq_true d) ?_
        have hi0 : (pre ++ tl)[0]? = some (x7, oc ty_guard_hazards [.int .i64 g.w, .int .i64 g.ta]) := by rw [hpre]; rfl
        refine w_ldA 0 hA ok4 rfl hi0 rfl ?_
        refine wq_Word (tw := g.w) (ta := g.ta) ⟨b.1, b.2.1, b.2.2.1, b.2.2.2, i0, (by show i ≤ 1000; omega)⟩ ?_
        refine w_app1 hA ok4 hs (by rw [List.length_take]; simp; omega) fun s' tl' hs' ok5 _ => ?_
        rw [w64_in (x := i + 1) (by omega) (by omega)]
        refine wp_again ⟨s', i + 1, rfl, ⟨by omega, by omega, tl', ?_, ok5, rfl⟩, by omega⟩
        have : i = 0 ∨ i = 1 := by omega
        rcases this with rfl | rfl
        · have e0 : g.ta + 2 * k + 0 = g.ta + 2 * k := Int.add_zero _
          rw [e0] at hs'; exact hs'
        · exact hs'
      · have hi : i = 2 := by omega
        subst hi
        refine wp_false (decide_eq_false d) ?_
        refine w_newP (c := [slV s, .int .i64 0]) hA ok4 fun x46 ok5 => ?_
        obtain ⟨p1, ok6⟩ := own_perm (A := A) (l' := g.bl q mq e ++ (Se.bl ⟨[g.ta + 2 * k, g.ta + 2 * k + 1], 0⟩ ⟨x46, s, tl⟩ ++ ([(x7, oc ty_guard_hazards [.int .i64 g.w, .int .i64 g.ta]), (x5, oc ty_guard_epochs [.int .i64 0, .int .i64 0])] ++ rest))) ok5 (perm_by fun c d c0 cd ca => by rw [hpre]; simp only [Se.bl, cd, ca, c0]; omega)
        rw [p1]
        exact wp_ret_of ⟨⟨x46, s, tl⟩, _, rfl, rfl, ok6, (by
          have hs : SlOf tl ty_int eI s [g.ta + 2 * k, g.ta + 2 * k + 1] := hs
          show SlAt tl ty_int eI s [g.ta + 2 * k, g.ta + 2 * k + 1]
          rcases hs with h | ⟨b, rest, r, rfl, h2, h3⟩
          · exact .inl h
          · exact .inr ⟨b, [], rest, r, rfl, by omega, h3⟩)⟩
  · rintro u H ⟨j, z, rfl, rfl, o, rp⟩
    exact ⟨_, rfl, h j z o rp⟩
end
end Go.Proofs.Ytcjhakdopnamoaa

set_option linter.unusedVariables false
set_option linter.unusedSimpArgs false
set_option maxRecDepth 20000
namespace Go.Proofs.Ytcjhakdopnamoaa
open Go Go.Fw

theorem take_fst {xs : List (Int × Int)} {n : Nat} (h : n < xs.length) : (xs.map Prod.fst).take (n + 1) = (xs.map Prod.fst).take n ++ [(xs.getD n (0, 0)).1] := by
  rw [List.take_succ_eq_append_getElem (by simpa using h)]
  simp [List.getD, List.getElem?_eq_getElem h]

section
variable {L : Hands} {R : Value → Heap → Prop} {G : Heap} {l rest : Bl} {A : Ar} {I : List Nat}

/-- The handles of a list. -/
theorem w_handles {s : Sl} {xs : List (Int × Int)} {K : Sl → Tree} (hA : Aw I A) (ok : Ok I G (keys l)) (hs : SlOf l ty_epoch_Limbo eL s xs) (hm : xs.length ≤ 1000)
    (h : ∀ s' tl, SlOf tl ty_int eI s' (xs.map Prod.fst) → Ok I G (keys (l ++ tl)) → wp Try.prog (K s') L (own A (l ++ tl) G) R) :
    wp Try.prog (.call f_guard_handles [.slice s.a s.len s.cap] (.one (.leaf .slice)) K) L (own A l G) R := by
  refine wp_call_of (R0 := fun v H => ∃ s' tl, v = .slice s'.a s'.len s'.cap ∧ H = own A (l ++ tl) G ∧ SlOf tl ty_int eI s' (xs.map Prod.fst) ∧ Ok I G (keys (l ++ tl))) ?_ ?_
  · refine t_guard_handles_spec (p0 := s) fun L => ?_
    unfold t_guard_handles
    have hl := hs.len
    have es : own A l G = own A (l ++ []) G := by rw [List.append_nil]
    rw [es]
    refine wl_si (fun s' i H => 0 ≤ i ∧ i ≤ xs.length ∧ ∃ tl, SlOf tl ty_int eI s' ((xs.map Prod.fst).take i.toNat) ∧ Ok I G (keys (l ++ tl)) ∧ H = own A (l ++ tl) G) (fun _ i => (xs.length - i).toNat) ⟨none, 0, 0⟩ 0 ⟨by omega, by omega, [], .inl ⟨rfl, rfl⟩, by rw [List.append_nil]; exact ok, rfl⟩ ?_
    rintro s' i K ⟨i0, i1, tl, hs', ok4, rfl⟩
    rw [t_guard_handles_L1]
    by_cases d : i < xs.length
    · refine wp_true (decide_eq_true (by show i < ((s.len : Nat) : Int); rw [hl]; exact d)) ?_
      refine w_rdL hA ok4 (hs.mono fun p hp => List.mem_append_left _ hp) i0 d ?_
      refine w_newP (c := [.int .i64 0, .int .i64 0]) hA ok4 fun x5 ok5 => ?_
      refine w_stA 0 hA ok5 rfl rfl rfl rfl ?_
      obtain ⟨y, hy⟩ : ∃ y : Nat × Obj, y = (x5, oc ty_epoch_Limbo [.int .i64 (xs.getD i.toNat (0, 0)).1, .int .i64 (xs.getD i.toNat (0, 0)).2]) := ⟨_, rfl⟩
      have ok5 : Ok I G (keys ((y :: l) ++ tl)) := by rw [hy]; exact ok5
      have ee : ((x5, oc ty_epoch_Limbo [.int .i64 (xs.getD i.toNat (0, 0)).1, .int .i64 (xs.getD i.toNat (0, 0)).2]) :: l) ++ tl = (y :: l) ++ tl := by rw [hy]
      show wp Try.prog _ _ (own A (((x5, oc ty_epoch_Limbo [.int .i64 (xs.getD i.toNat (0, 0)).1, .int .i64 (xs.getD i.toNat (0, 0)).2]) :: l) ++ tl) G) _
      rw [ee]
      refine w_ld 0 (x := (xs.getD i.toNat (0, 0)).1) hA ok5 rfl (by rw [hy]; rfl) rfl ?_
      refine w_app1 hA ok5 hs' (by simp; omega) fun s2 tl2 hs2 ok6 _ => ?_
      obtain ⟨p1, ok7⟩ := own_perm (A := A) (l' := l ++ (y :: tl2)) ok6 (perm_by fun c d c0 cd ca => by simp only [List.cons_append, cd, ca]; omega)
      rw [w64_in (x := i + 1) (by omega) (by omega), p1]
      refine wp_again ⟨s2, i + 1, rfl, ⟨by omega, by omega, y :: tl2, ?_, ok7, rfl⟩, by omega⟩
      rw [show (i + 1).toNat = i.toNat + 1 by omega, take_fst (by omega)]
      exact hs2.mono fun p hp => List.mem_cons_of_mem _ hp
    · have hi : i = xs.length := by omega
      refine wp_false (decide_eq_false (by show ¬ i < ((s.len : Nat) : Int); rw [hl]; exact d)) ?_
      refine wp_ret_of ⟨s', tl, rfl, rfl, ?_, ok4⟩
      have e1 : (xs.map Prod.fst).take i.toNat = xs.map Prod.fst := List.take_of_length_le (by rw [List.length_map]; omega)
      rw [e1] at hs'; exact hs'
  · rintro v H ⟨s', tl, rfl, rfl, a, b⟩
    exact ⟨_, rfl, h s' tl a b⟩
end

/-! ### guard.look -/
inductive In where
  | no
  | tn (m : Tn)
  | sc (m : Sc)
def In.bl : In → TnJ → ScJ → Bl
  | .no, _, _ => []
  | .tn m, t, _ => m.bl t
  | .sc m, _, s => m.bl s
def In.val : In → TnJ → ScJ → Value
  | .no, _, _ => .nilIface
  | .tn m, t, _ => .iface ty_p_epoch_Turn (.pointer (some ⟨t.q, 0, none⟩))
  | .sc m, _, s => .iface ty_p_hazard_Scan (.pointer (some ⟨s.q, 0, none⟩))
def In.rep : In → TnJ → ScJ → Prop
  | .no, _, _ => True
  | .tn m, t, _ => m.rep t
  | .sc m, _, s => m.rep s

structure Lk where
  g : Gd
  ls : Int → List (Int × Int)
  work : Int
  first : Bool
  times : Int
  m : In
structure LkJ where
  q : Nat
  gq : Nat
  mq : Nat
  e : List LE
  tj : TnJ
  sj : ScJ
  gar : Bl
def lkC (gq : Nat) (work : Int) (first : Bool) (times : Int) (v : Value) : List Value := [.pointer (some ⟨gq, 0, none⟩), .int .i64 work, .bool first, .int .i64 times, v]
def Lk.bl (x : Lk) (j : LkJ) : Bl := (j.q, oc ty_guard_look (lkC j.gq x.work x.first x.times (x.m.val j.tj j.sj))) :: (x.g.bl j.gq j.mq j.e ++ (x.m.bl j.tj j.sj ++ j.gar))
structure Lk.rep (x : Lk) (j : LkJ) : Prop where
  le : leOk j.e
  ls : ∀ k, (leGet j.e k).xs = x.ls k
  m : x.m.rep j.tj j.sj
def Lk.begin (x : Lk) : Lk := { x with times := w64 (x.times - 1), m := if x.g.ep = true then .tn (newTn x.g.w x.g.ta x.g.pl x.work (x.ls x.work)) else .sc (newSc x.g.w x.g.ta x.g.pl x.work ((x.ls x.work).map Prod.fst)) }

theorem leB_mem : ∀ {e : List LE} {k : Int} {p : Nat × Obj}, p ∈ (leGet e k).hb → p ∈ leB e
  | [], k, p, h => by cases h
  | x :: e, k, p, h => by
    show p ∈ x.hb ++ leB e
    unfold leGet at h
    split at h
    · exact List.mem_append_left _ h
    · exact List.mem_append_right _ (leB_mem h)

section
variable {L : Hands} {R : Value → Heap → Prop} {G : Heap} {l rest : Bl} {A : Ar} {I : List Nat}

theorem w_lk {e : List LE} {k : Int} {mq : Nat} {K : Sl → Tree} (ix : Nat) (hA : Aw I A) (ok : Ok I G (keys l)) (hi : l[ix]? = some (mq, mapObj slV (leC e)))
    (h : wp Try.prog (K (leGet e k).s) L (own A l G) R) :
    wp Try.prog (.look (opS Try.prog (.lookup ty_m_int_s_epoch_Limbo (.tmp 0) (.tmp 1) false) ty_s_epoch_Limbo [(.map (some mq)), (.int .i64 k)]) (.one (.leaf .slice)) K) L (own A l G) R :=
  w_lookup ix (enc := slV) (c := leC e) (y := (leGet e k).s) hA ok hi rfl rfl rfl rfl (by have h := leC_get e k; revert h; cases alGet (leC e) k <;> exact fun h => h) h
end
end Go.Proofs.Ytcjhakdopnamoaa

set_option linter.unusedVariables false
set_option linter.unusedSimpArgs false
set_option maxRecDepth 20000
namespace Go.Proofs.Ytcjhakdopnamoaa
open Go Go.Fw

section
variable {L : Hands} {R : Value → Heap → Prop} {G : Heap} {l rest : Bl} {A : Ar} {I : List Nat}

theorem w_ckAo (i : Nat) {a : Addr} {b n m : Nat} {T : TypeId} {c : List Value} {v : Value} {t : Tree} (hA : Aw I A) (ok : Ok I G (keys l)) (ha : a = ⟨b, n, none⟩) (hi : l[i]? = some (b, oc T c)) (hn : n + m ≤ c.length) (hv : v = .agg (c.toArray.extract n (n + m))) (h : wp Try.prog t L (own A l G) R) :
    wp Try.prog (.check (ldAS a m 0 #[]) v t) L (own A l G) R := by
  subst ha; subst hv
  refine ⟨?_, h⟩
  rw [ldAS_eq]
  refine ldK_still (own_get hA ok hi) _ 0 #[] (by simpa using hn) ?_
  show (Value.agg (#[] ++ c.toArray.extract (n + 0) (n + 0 + m)) : Value) = _
  simp

def LkB (x : Lk) (j : LkJ) (Q : Lk) (A : Ar) (I : List Nat) (G : Heap) : Value → Heap → Prop := fun v K => ∃ j' : LkJ, v = .tuple #[] ∧ K = own A (Q.bl j') G ∧ j'.q = j.q ∧ j'.gq = j.gq ∧ j'.mq = j.mq ∧ Ok I G (keys (Q.bl j')) ∧ Q.rep j'

set_option maxHeartbeats 1000000 in
theorem begin_spec (x : Lk) (j : LkJ) (hA : Aw I A) (ok : Ok I G (keys (x.bl j))) (rp : x.rep j) (hn : x.m = .no) (hl : (x.ls x.work).length ≤ 1000) :
    SpecF Try.prog f_guard_look_begin #[.pointer (some ⟨j.q, 0, none⟩)] (own A (x.bl j) G) (LkB x j x.begin A I G) := by
  refine t_guard_look_begin_spec fun L => ?_
  unfold t_guard_look_begin
  obtain ⟨g, ls, work, first, times, m⟩ := x
  have hn : m = .no := hn
  subst hn
  obtain ⟨q, gq, mq, e, tj, sj, gar⟩ := j
  have hl : (ls work).length ≤ 1000 := hl
  have ok : Ok I G (keys ((q, oc ty_guard_look (lkC gq work first times .nilIface)) :: (gq, oc ty_guard_Guard (g.cells mq)) :: (mq, mapObj slV (leC e)) :: (leB e ++ gar))) := ok
  show wp Try.prog _ L (own A ((q, oc ty_guard_look (lkC gq work first times .nilIface)) :: (gq, oc ty_guard_Guard (g.cells mq)) :: (mq, mapObj slV (leC e)) :: (leB e ++ gar)) G) _
  have hs0 : SlOf (leGet e work).hb ty_epoch_Limbo eL (leGet e work).s (leGet e work).xs := rp.le work
  rw [rp.ls work] at hs0
  have hs0 : SlOf (leGet e work).hb ty_epoch_Limbo eL (leGet e work).s (ls work) := hs0
  refine wp_nil.2 (w_ld 0 (x := some ⟨gq, 0, none⟩) hA ok rfl rfl rfl ?_)
  refine wp_nil.2 (w_ld 1 (x := gmode g.ep g.w g.ta) hA ok rfl rfl rfl ?_)
  cases hp : g.ep with
  | true =>
    have hb : Lk.begin ⟨g, ls, work, first, times, .no⟩ = ⟨g, ls, work, first, w64 (times - 1), .tn (newTn g.w g.ta g.pl work (ls work))⟩ := by unfold Lk.begin; rw [if_pos hp]
    rw [hb]
    refine look_val (x := ((g.w, g.ta, ()), true, ())) (ta_epT _ _ _) (wp_true rfl ?_)
    refine w_newP (c := [.int .i64 0, .int .i64 0]) hA ok fun x2 ok1 => ?_
    refine w_stA 0 hA ok1 rfl rfl rfl rfl ?_
    have ok1 : Ok I G (keys ((x2, oc ty_guard_epochs [.int .i64 g.w, .int .i64 g.ta]) :: (q, oc ty_guard_look (lkC gq work first times .nilIface)) :: (gq, oc ty_guard_Guard (g.cells mq)) :: (mq, mapObj slV (leC e)) :: (leB e ++ gar))) := ok1
    show wp Try.prog _ L (own A ((x2, oc ty_guard_epochs [.int .i64 g.w, .int .i64 g.ta]) :: (q, oc ty_guard_look (lkC gq work first times .nilIface)) :: (gq, oc ty_guard_Guard (g.cells mq)) :: (mq, mapObj slV (leC e)) :: (leB e ++ gar)) G) _
    refine w_ldA 0 hA ok1 rfl rfl rfl ?_
    refine wp_nil.2 (w_ld 1 (x := some ⟨gq, 0, none⟩) hA ok1 rfl rfl rfl ?_)
    refine wp_nil.2 (w_ldA 2 hA ok1 rfl rfl rfl ?_)
    refine wp_nil.2 (w_ld 1 (x := work) hA ok1 rfl rfl rfl ?_)
    refine wp_nil.2 (w_ld 1 (x := some ⟨gq, 0, none⟩) hA ok1 rfl rfl rfl ?_)
    refine wp_nil.2 (w_ld 2 (x := some mq) hA ok1 rfl rfl rfl ?_)
    refine wp_nil.2 (w_ld 1 (x := work) hA ok1 rfl rfl rfl ?_)
    refine w_lk 3 hA ok1 rfl ?_
    refine w_NewTurn (tw := g.w) (ta := g.ta) (p := g.pl) (work := work) (xs := ls work) hA ok1 (hs0.mono fun p hp => List.mem_cons_of_mem _ (List.mem_cons_of_mem _ (List.mem_cons_of_mem _ (List.mem_cons_of_mem _ (List.mem_append_left _ (leB_mem hp)))))) hl fun t ok2 rt => ?_
    obtain ⟨p1, ok3⟩ := own_perm (A := A) (l' := (q, oc ty_guard_look (lkC gq work first times .nilIface)) :: (gq, oc ty_guard_Guard (g.cells mq)) :: (mq, mapObj slV (leC e)) :: (leB e ++ ((newTn g.w g.ta g.pl work (ls work)).bl t ++ ((x2, oc ty_guard_epochs [.int .i64 g.w, .int .i64 g.ta]) :: gar)))) ok2 (perm_by fun c d c0 cd ca => by simp only [cd, ca]; omega)
    rw [p1]
    refine wp_nil.2 (w_st 0 hA ok3 rfl rfl rfl rfl ?_)
    refine wp_nil.2 (w_ld 0 (x := times) hA (by exact ok3) rfl rfl rfl ?_)
    refine wp_nil.2 (w_st 0 hA (by exact ok3) rfl rfl rfl rfl ?_)
    exact wp_ret_of ⟨⟨q, gq, mq, e, t, sj, (x2, oc ty_guard_epochs [.int .i64 g.w, .int .i64 g.ta]) :: gar⟩, rfl, rfl, rfl, rfl, rfl, ok3, ⟨rp.le, rp.ls, rt⟩⟩
  | false =>
    have hb : Lk.begin ⟨g, ls, work, first, times, .no⟩ = ⟨g, ls, work, first, w64 (times - 1), .sc (newSc g.w g.ta g.pl work ((ls work).map Prod.fst))⟩ := by unfold Lk.begin; rw [if_neg (by rw [hp]; decide)]
    rw [hb]
    refine look_val (x := ((0, 0, ()), false, ())) (ta_epF _ _ _) (wp_false rfl ?_)
    refine look_val (x := ((g.w, g.ta, ()), true, ())) (ta_haT _ _ _) (wp_true rfl ?_)
    refine w_newP (c := [.int .i64 0, .int .i64 0]) hA ok fun x2 ok1 => ?_
    refine w_stA 0 hA ok1 rfl rfl rfl rfl ?_
    have ok1 : Ok I G (keys ((x2, oc ty_guard_hazards [.int .i64 g.w, .int .i64 g.ta]) :: (q, oc ty_guard_look (lkC gq work first times .nilIface)) :: (gq, oc ty_guard_Guard (g.cells mq)) :: (mq, mapObj slV (leC e)) :: (leB e ++ gar))) := ok1
    show wp Try.prog _ L (own A ((x2, oc ty_guard_hazards [.int .i64 g.w, .int .i64 g.ta]) :: (q, oc ty_guard_look (lkC gq work first times .nilIface)) :: (gq, oc ty_guard_Guard (g.cells mq)) :: (mq, mapObj slV (leC e)) :: (leB e ++ gar)) G) _
    refine w_ldA 0 hA ok1 rfl rfl rfl ?_
    refine wp_nil.2 (w_ld 1 (x := some ⟨gq, 0, none⟩) hA ok1 rfl rfl rfl ?_)
    refine wp_nil.2 (w_ldA 2 hA ok1 rfl rfl rfl ?_)
    refine wp_nil.2 (w_ld 1 (x := work) hA ok1 rfl rfl rfl ?_)
    refine wp_nil.2 (w_ld 1 (x := some ⟨gq, 0, none⟩) hA ok1 rfl rfl rfl ?_)
    refine wp_nil.2 (w_ld 2 (x := some mq) hA ok1 rfl rfl rfl ?_)
    refine wp_nil.2 (w_ld 1 (x := work) hA ok1 rfl rfl rfl ?_)
    refine w_lk 3 hA ok1 rfl ?_
    refine w_handles hA ok1 (hs0.mono fun p hp => List.mem_cons_of_mem _ (List.mem_cons_of_mem _ (List.mem_cons_of_mem _ (List.mem_cons_of_mem _ (List.mem_append_left _ (leB_mem hp)))))) hl fun s' tl hs' ok1 => ?_
    refine w_ck 1 hA ok1 rfl rfl rfl ?_
    refine w_ckn rfl ?_
    refine w_ckAo 2 hA ok1 rfl rfl (by show 1 + 5 ≤ 8; decide) rfl ?_
    refine w_ckn rfl ?_
    refine w_ck 1 hA ok1 rfl rfl rfl ?_
    refine w_ckn rfl ?_
    refine w_ckAo 0 hA ok1 rfl rfl (by show 0 + 2 ≤ 2; decide) rfl ?_
    refine w_NewScan (tw := g.w) (ta := g.ta) (p := g.pl) (work := work) (xs := (ls work).map Prod.fst) hA ok1 (SlOf.row hA ok1 (hs'.mono fun p hp => List.mem_append_right _ hp)) hs'.len (by rw [List.length_map]; exact hl) fun t ok2 rt => ?_
    obtain ⟨p1, ok3⟩ := own_perm (A := A) (l' := (q, oc ty_guard_look (lkC gq work first times .nilIface)) :: (gq, oc ty_guard_Guard (g.cells mq)) :: (mq, mapObj slV (leC e)) :: (leB e ++ ((newSc g.w g.ta g.pl work ((ls work).map Prod.fst)).bl t ++ ((x2, oc ty_guard_hazards [.int .i64 g.w, .int .i64 g.ta]) :: (tl ++ gar))))) ok2 (perm_by fun c d c0 cd ca => by simp only [List.cons_append, List.append_assoc, cd, ca]; omega)
    rw [p1]
    refine wp_nil.2 (w_st 0 hA ok3 rfl rfl rfl rfl ?_)
    refine wp_nil.2 (w_ld 0 (x := times) hA (by exact ok3) rfl rfl rfl ?_)
    refine wp_nil.2 (w_st 0 hA (by exact ok3) rfl rfl rfl rfl ?_)
    exact wp_ret_of ⟨⟨q, gq, mq, e, tj, t, (x2, oc ty_guard_hazards [.int .i64 g.w, .int .i64 g.ta]) :: (tl ++ gar)⟩, rfl, rfl, rfl, rfl, rfl, ok3, ⟨rp.le, rp.ls, rt⟩⟩
end
end Go.Proofs.Ytcjhakdopnamoaa

set_option linter.unusedVariables false
set_option linter.unusedSimpArgs false
set_option maxRecDepth 20000
namespace Go.Proofs.Ytcjhakdopnamoaa
open Go Go.Fw

def setL (f : Int → List (Int × Int)) (k : Int) (xs : List (Int × Int)) : Int → List (Int × Int) := fun i => if i = k then xs else f i
theorem setL_same (f : Int → List (Int × Int)) (k : Int) (xs : List (Int × Int)) : setL f k xs k = xs := if_pos rfl
def In.gone : In → List (Int × Int)
  | .no => []
  | .tn m => m.left
  | .sc m => m.left.map fun h => (h, 0)
def In.fin : In → Bool
  | .no => false
  | .tn m => decide (4 ≤ m.ph)
  | .sc m => m.ended
def Lk.end_ (x : Lk) : Lk := { x with m := .no, ls := setL x.ls x.work x.m.gone }

theorem ta_mTT (q : Option Addr) (u : TypeId) : opS Try.prog (.typeAssert (.tmp 0) ty_guard_Machine ty_p_epoch_Turn true) u [.iface ty_p_epoch_Turn (.pointer q)] = .pure (.value (.tuple #[.pointer q, .bool true])) := by kernel_rfl
theorem ta_mTF (q : Option Addr) (u : TypeId) : opS Try.prog (.typeAssert (.tmp 0) ty_guard_Machine ty_p_epoch_Turn true) u [.iface ty_p_hazard_Scan (.pointer q)] = .pure (.value (.tuple #[.pointer none, .bool false])) := by kernel_rfl
theorem ta_mST (q : Option Addr) (u : TypeId) : opS Try.prog (.typeAssert (.tmp 0) ty_guard_Machine ty_p_hazard_Scan true) u [.iface ty_p_hazard_Scan (.pointer q)] = .pure (.value (.tuple #[.pointer q, .bool true])) := by kernel_rfl

theorem lsPut {e : List LE} {ls : Int → List (Int × Int)} (h : ∀ k, (leGet e k).xs = ls k) (y : LE) : ∀ k, (leGet (lePut e y) k).xs = setL ls y.k y.xs k := fun k => by
  rw [leGet_put]
  unfold setL
  by_cases c : k = y.k
  · rw [if_pos c, if_pos c]
  · rw [if_neg c, if_neg c]; exact h k

section
variable {L : Hands} {R : Value → Heap → Prop} {G : Heap} {l rest : Bl} {A : Ar} {I : List Nat}

theorem w_app1L {s : Sl} {xs : List (Int × Int)} {v w : Int} {k : Sl → Tree} {pre tl : Bl} (hA : Aw I A) (ok : Ok I G (keys (pre ++ tl))) (hs : SlOf tl ty_epoch_Limbo eL s xs) (hm : xs.length ≤ 1000000)
    (h : ∀ s' tl', SlOf tl' ty_epoch_Limbo eL s' (xs ++ [(v, w)]) → Ok I G (keys (pre ++ tl')) → wp Try.prog (k s') L (own A (pre ++ tl') G) R) :
    wp Try.prog (.newS (.cells #[.int .i64 v, .int .i64 w] ty_epoch_Limbo) 1 fun x => .act (opS Try.prog (.call { callee := .builtin .append, args := #[(.tmp 0), (.tmp 1)], argTypes := #[ty_s_epoch_Limbo, ty_s_epoch_Limbo] }) ty_s_epoch_Limbo [(.slice s.a s.len s.cap), (.slice x.a x.len x.cap)]) (.one (.leaf .slice)) k) L (own A (pre ++ tl) G) R := by
  refine w_newS (c := [.int .i64 v, .int .i64 w]) hA ok fun q ok1 => ?_
  have ok' : Ok I G (keys (((q, oc ty_epoch_Limbo [.int .i64 v, .int .i64 w]) :: pre) ++ tl)) := ok1
  show wp Try.prog _ L (own A (((q, oc ty_epoch_Limbo [.int .i64 v, .int .i64 w]) :: pre) ++ tl) G) R
  refine w_appT (E := eL) elL (ys := [(v, w)]) (t := ⟨some ⟨q, 0, none⟩, 1, 1⟩) hA ok' hs ?_ rfl (by simp; omega) fun s' tl' hs' ok2 ap => ?_
  · exact cell_row hA ok' List.mem_cons_self 0 rfl
  · obtain ⟨m3, m4⟩ := own_mid (A := A) ok2
    show wp Try.prog _ L (own A ((q, oc ty_epoch_Limbo [.int .i64 v, .int .i64 w]) :: (pre ++ tl')) G) R
    rw [m3]
    exact h s' _ (hs'.mono fun p hp => List.mem_cons_of_mem _ hp) m4

theorem w_mapS {e : List LE} {k : Int} {mq : Nat} {s : Sl} {u : TypeId} {K : Unit → Tree} (ix : Nat) (hA : Aw I A) (ok : Ok I G (keys l)) (hi : l[ix]? = some (mq, mapObj slV (leC e)))
    (h : wp Try.prog (K ()) L (own A (l.set ix (mq, mapObj slV (alPut (leC e) k s))) G) R) :
    wp Try.prog (.act (opS Try.prog (.mapUpdate ty_m_int_s_epoch_Limbo (.tmp 0) (.tmp 1) (.tmp 2)) u [(.map (some mq)), (.int .i64 k), (.slice s.a s.len s.cap)]) .unit K) L (own A l G) R :=
  w_mapPut ix (enc := slV) (c := leC e) (v := s) hA ok hi rfl rfl h

set_option maxHeartbeats 1000000 in
/-- The new list is kept. -/
theorem keep_end {g : Gd} {e : List LE} {ls : Int → List (Int × Int)} {q gq mq : Nat} {work times : Int} {first : Bool} {v : Value} {gar : Bl} {s : Sl} {xs : List (Int × Int)} {tl : Bl} {j : LkJ} {x : Lk} (tj : TnJ) (sj : ScJ) (hx : x.end_ = ⟨g, setL ls work xs, work, first, times, .no⟩) (hj : j.q = q ∧ j.gq = gq ∧ j.mq = mq)
    (le : leOk e) (hls : ∀ k, (leGet e k).xs = ls k) (hs : SlOf tl ty_epoch_Limbo eL s xs) (hA : Aw I A)
    (ok : Ok I G (keys ((q, oc ty_guard_look (lkC gq work first times v)) :: (gq, oc ty_guard_Guard (g.cells mq)) :: (mq, mapObj slV (leC e)) :: (leB e ++ (tl ++ gar))))) :
    wp Try.prog (.act (opS Try.prog (.mapUpdate ty_m_int_s_epoch_Limbo (.tmp 0) (.tmp 1) (.tmp 2)) ty_unit [(.map (some mq)), (.int .i64 work), (.slice s.a s.len s.cap)]) .unit fun _ =>
    .look (opS Try.prog (.nilCheck (.tmp 0)) ty_unit [(.pointer (some ⟨q, 0, none⟩))]) (.one (.leaf .addr)) fun x56 =>
    .st (x56.add 4) .nilIface <|
    .ret (.tuple #[])) L (own A ((q, oc ty_guard_look (lkC gq work first times v)) :: (gq, oc ty_guard_Guard (g.cells mq)) :: (mq, mapObj slV (leC e)) :: (leB e ++ (tl ++ gar))) G) (LkB x j x.end_ A I G) := by
  obtain ⟨y, hy⟩ : ∃ y : LE, y = ⟨work, s, xs, tl⟩ := ⟨_, rfl⟩
  have eput : alPut (leC e) work s = leC (lePut e y) := by rw [leC_put, hy]
  refine w_mapS 2 hA ok rfl ?_
  rw [eput]
  have ok1 : Ok I G (keys ((q, oc ty_guard_look (lkC gq work first times v)) :: (gq, oc ty_guard_Guard (g.cells mq)) :: (mq, mapObj slV (leC (lePut e y))) :: (leB e ++ (tl ++ gar)))) := ok
  show wp Try.prog _ L (own A ((q, oc ty_guard_look (lkC gq work first times v)) :: (gq, oc ty_guard_Guard (g.cells mq)) :: (mq, mapObj slV (leC (lePut e y))) :: (leB e ++ (tl ++ gar))) G) _
  refine wp_nil.2 (w_st 0 hA ok1 rfl rfl rfl rfl ?_)
  have ok2 : Ok I G (keys ((q, oc ty_guard_look (lkC gq work first times .nilIface)) :: (gq, oc ty_guard_Guard (g.cells mq)) :: (mq, mapObj slV (leC (lePut e y))) :: (leB e ++ (tl ++ gar)))) := ok1
  show wp Try.prog _ L (own A ((q, oc ty_guard_look (lkC gq work first times .nilIface)) :: (gq, oc ty_guard_Guard (g.cells mq)) :: (mq, mapObj slV (leC (lePut e y))) :: (leB e ++ (tl ++ gar))) G) _
  obtain ⟨p1, ok3⟩ := own_perm (A := A) (l' := (q, oc ty_guard_look (lkC gq work first times .nilIface)) :: (gq, oc ty_guard_Guard (g.cells mq)) :: (mq, mapObj slV (leC (lePut e y))) :: (leB (lePut e y) ++ ((leGet e work).hb ++ gar))) ok2 (perm_by fun c d c0 cd ca => by
    have h1 := leB_c c0 ca e work
    have h2 := leB_put_c c0 ca e y
    have h3 : c y.hb = c tl := by rw [hy]
    have h4 : c (leRest e y.k) = c (leRest e work) := by rw [hy]
    simp only [cd, ca]; omega)
  rw [p1, hx]
  obtain ⟨j1, j2, j3⟩ := hj
  refine wp_ret_of ⟨⟨q, gq, mq, lePut e y, tj, sj, (leGet e work).hb ++ gar⟩, rfl, rfl, j1.symm, j2.symm, j3.symm, ok3, ⟨le.put (by rw [hy]; exact hs), ?_, trivial⟩⟩
  have := lsPut hls y
  rw [hy] at this ⊢
  exact this

set_option maxHeartbeats 1000000 in
theorem end_spec (x : Lk) (j : LkJ) (hA : Aw I A) (ok : Ok I G (keys (x.bl j))) (rp : x.rep j) (hf : x.m.fin = true) (hl : x.m.gone.length ≤ 1000) :
    SpecF Try.prog f_guard_look_end #[.pointer (some ⟨j.q, 0, none⟩)] (own A (x.bl j) G) (LkB x j x.end_ A I G) := by
  refine t_guard_look_end_spec fun L => ?_
  unfold t_guard_look_end
  obtain ⟨g, ls, work, first, times, m⟩ := x
  obtain ⟨q, gq, mq, e, tj, sj, gar⟩ := j
  cases m with
  | no => cases hf
  | tn m =>
    have hl : m.left.length ≤ 1000 := hl
    have hm : m.rep tj := rp.m
    have hf : 4 ≤ m.ph := of_decide_eq_true hf
    have ok : Ok I G (keys ((q, oc ty_guard_look (lkC gq work first times (.iface ty_p_epoch_Turn (.pointer (some ⟨tj.q, 0, none⟩))))) :: (gq, oc ty_guard_Guard (g.cells mq)) :: (mq, mapObj slV (leC e)) :: (leB e ++ (m.bl tj ++ gar)))) := ok
    show wp Try.prog _ L (own A ((q, oc ty_guard_look (lkC gq work first times (.iface ty_p_epoch_Turn (.pointer (some ⟨tj.q, 0, none⟩))))) :: (gq, oc ty_guard_Guard (g.cells mq)) :: (mq, mapObj slV (leC e)) :: (leB e ++ (m.bl tj ++ gar))) G) _
    refine wp_nil.2 (w_ld 0 (x := .iface ty_p_epoch_Turn (.pointer (some ⟨tj.q, 0, none⟩))) hA ok rfl rfl rfl ?_)
    refine look_val (x := (some ⟨tj.q, 0, none⟩, true, ())) (ta_mTT _ _) (wp_true rfl ?_)
    refine wp_nil.2 (w_ld 0 (x := some ⟨gq, 0, none⟩) hA ok rfl rfl rfl ?_)
    refine wp_nil.2 (w_ld 1 (x := some mq) hA ok rfl rfl rfl ?_)
    refine wp_nil.2 (w_ld 0 (x := work) hA ok rfl rfl rfl ?_)
    obtain ⟨p1, ok1⟩ := own_perm (A := A) (l' := m.bl tj ++ ((q, oc ty_guard_look (lkC gq work first times (.iface ty_p_epoch_Turn (.pointer (some ⟨tj.q, 0, none⟩))))) :: (gq, oc ty_guard_Guard (g.cells mq)) :: (mq, mapObj slV (leC e)) :: (leB e ++ gar))) ok (perm_by fun c d c0 cd ca => by simp only [cd, ca]; omega)
    rw [p1]
    refine w_TLeft hA ok1 hm hf hl fun s tl hs ok2 => ?_
    obtain ⟨p2, ok3⟩ := own_perm (A := A) (l' := (q, oc ty_guard_look (lkC gq work first times (.iface ty_p_epoch_Turn (.pointer (some ⟨tj.q, 0, none⟩))))) :: (gq, oc ty_guard_Guard (g.cells mq)) :: (mq, mapObj slV (leC e)) :: (leB e ++ (tl ++ (m.bl tj ++ gar)))) ok2 (perm_by fun c d c0 cd ca => by simp only [cd, ca]; omega)
    rw [p2]
    refine w_ck 0 hA ok3 rfl rfl rfl ?_
    refine w_ckn rfl ?_
    refine w_ck 1 hA ok3 rfl rfl rfl ?_
    refine w_ckn rfl ?_
    refine w_ck 0 hA ok3 rfl rfl rfl ?_
    refine w_ckn rfl ?_
    exact keep_end tj sj rfl ⟨rfl, rfl, rfl⟩ rp.le rp.ls hs hA ok3
  | sc m =>
    have hl : m.left.length ≤ 1000 := by have : (m.left.map fun h => (h, (0 : Int))).length ≤ 1000 := hl; rwa [List.length_map] at this
    have hm : m.rep sj := rp.m
    have hf : m.ended = true := hf
    have ok : Ok I G (keys ((q, oc ty_guard_look (lkC gq work first times (.iface ty_p_hazard_Scan (.pointer (some ⟨sj.q, 0, none⟩))))) :: (gq, oc ty_guard_Guard (g.cells mq)) :: (mq, mapObj slV (leC e)) :: (leB e ++ (m.bl sj ++ gar)))) := ok
    show wp Try.prog _ L (own A ((q, oc ty_guard_look (lkC gq work first times (.iface ty_p_hazard_Scan (.pointer (some ⟨sj.q, 0, none⟩))))) :: (gq, oc ty_guard_Guard (g.cells mq)) :: (mq, mapObj slV (leC e)) :: (leB e ++ (m.bl sj ++ gar))) G) _
    refine wp_nil.2 (w_ld 0 (x := .iface ty_p_hazard_Scan (.pointer (some ⟨sj.q, 0, none⟩))) hA ok rfl rfl rfl ?_)
    refine look_val (x := (none, false, ())) (ta_mTF _ _) (wp_false rfl ?_)
    refine look_val (x := (some ⟨sj.q, 0, none⟩, true, ())) (ta_mST _ _) (wp_true rfl ?_)
    obtain ⟨p1, ok1⟩ := own_perm (A := A) (l' := m.bl sj ++ ((q, oc ty_guard_look (lkC gq work first times (.iface ty_p_hazard_Scan (.pointer (some ⟨sj.q, 0, none⟩))))) :: (gq, oc ty_guard_Guard (g.cells mq)) :: (mq, mapObj slV (leC e)) :: (leB e ++ gar))) ok (perm_by fun c d c0 cd ca => by simp only [cd, ca]; omega)
    rw [p1]
    refine w_Left hA ok1 hm hf hl fun s tl hs ok2 => ?_
    have hsl := hs.len
    obtain ⟨pre, hpre⟩ : ∃ pre : Bl, pre = (q, oc ty_guard_look (lkC gq work first times (.iface ty_p_hazard_Scan (.pointer (some ⟨sj.q, 0, none⟩))))) :: (gq, oc ty_guard_Guard (g.cells mq)) :: (mq, mapObj slV (leC e)) :: (leB e ++ (tl ++ (m.bl sj ++ gar))) := ⟨_, rfl⟩
    obtain ⟨p2, ok3⟩ := own_perm (A := A) (l' := pre ++ []) ok2 (perm_by fun c d c0 cd ca => by rw [hpre]; simp only [List.append_nil, cd, ca]; omega)
    rw [p2]
    have hspre : SlOf pre ty_int eI s m.left := hs.mono fun p hp => by rw [hpre]; exact List.mem_cons_of_mem _ (List.mem_cons_of_mem _ (List.mem_cons_of_mem _ (List.mem_append_right _ (List.mem_append_left _ hp))))
    refine wl_si (fun s' i H => 0 ≤ i ∧ i ≤ m.left.length ∧ ∃ tl, SlOf tl ty_epoch_Limbo eL s' ((m.left.take i.toNat).map fun h => (h, 0)) ∧ Ok I G (keys (pre ++ tl)) ∧ H = own A (pre ++ tl) G) (fun _ i => (m.left.length - i).toNat) ⟨none, 0, 0⟩ 0 ⟨by omega, by omega, [], .inl ⟨rfl, rfl⟩, ok3, rfl⟩ ?_
    rintro s' i K ⟨i0, i1, tl', hs', ok4, rfl⟩
    rw [t_guard_look_end_L1]
    by_cases d : i < m.left.length
    · refine wp_true (decide_eq_true (by show i < ((s.len : Nat) : Int); rw [hsl]; exact d)) ?_
      refine rdA hA ok4 (hspre.mono fun p hp => List.mem_append_left _ hp).at' i0 d ?_
      refine w_app1L hA ok4 hs' (by simp; omega) fun s2 tl2 hs2 ok6 => ?_
      rw [w64_in (x := i + 1) (by omega) (by omega)]
      refine wp_again ⟨s2, i + 1, rfl, ⟨by omega, by omega, tl2, ?_, ok6, rfl⟩, by omega⟩
      rw [show (i + 1).toNat = i.toNat + 1 by omega]
      have e1 : (m.left.take (i.toNat + 1)).map (fun h => (h, (0 : Int))) = (m.left.take i.toNat).map (fun h => (h, (0 : Int))) ++ [(m.left.getD i.toNat 0, 0)] := by
        have hi : i.toNat < m.left.length := by omega
        rw [List.take_succ_eq_append_getElem hi, List.map_append]
        simp only [List.map_cons, List.map_nil, List.getD, List.getElem?_eq_getElem hi, Option.getD_some]
      rw [e1]; exact hs2
    · refine wp_false (decide_eq_false (by show ¬ i < ((s.len : Nat) : Int); rw [hsl]; exact d)) ?_
      have e1 : m.left.take i.toNat = m.left := List.take_of_length_le (by omega)
      rw [e1] at hs'
      have ok5 := ok4
      rw [hpre] at ok5 ⊢
      obtain ⟨p3, ok6⟩ := own_perm (A := A) (l' := (q, oc ty_guard_look (lkC gq work first times (.iface ty_p_hazard_Scan (.pointer (some ⟨sj.q, 0, none⟩))))) :: (gq, oc ty_guard_Guard (g.cells mq)) :: (mq, mapObj slV (leC e)) :: (leB e ++ (tl' ++ (tl ++ (m.bl sj ++ gar))))) ok5 (perm_by fun c d c0 cd ca => by simp only [List.cons_append, List.append_assoc, cd, ca]; omega)
      rw [p3]
      refine wp_nil.2 (w_ld 0 (x := some ⟨gq, 0, none⟩) hA ok6 rfl rfl rfl ?_)
      refine wp_nil.2 (w_ld 1 (x := some mq) hA ok6 rfl rfl rfl ?_)
      refine wp_nil.2 (w_ld 0 (x := work) hA ok6 rfl rfl rfl ?_)
      exact keep_end tj sj rfl ⟨rfl, rfl, rfl⟩ rp.le rp.ls hs' hA ok6
end
end Go.Proofs.Ytcjhakdopnamoaa

set_option linter.unusedVariables false
set_option maxRecDepth 10000
namespace Go.Proofs.Ytcjhakdopnamoaa
open Go Go.Fw
/- magpie/magpielaw14.run -/
@[reducible] def t_magpielaw14_run_L1_sh : List Sh1 := [(.leaf .bool), (.leaf (.int .i64))]
noncomputable def t_magpielaw14_run_L1 (p0 : Option Addr) (p1 : Value) (y1 : HL Sh1.T t_magpielaw14_run_L1_sh) : Tree :=
  bif (decide ((y1.2.1 : Int) < 3000)) then (
    .look (opS Try.prog (.binOp .neq ty_guard_Machine (.tmp 0) (.const .nilIface) ty_guard_Machine) ty_bool [p1]) (.one (.leaf .bool)) fun x12 =>
    bif x12 then (
      .call f_arena_Arena_Uses [(.pointer p0)] (.one (.leaf (.int .i64))) fun x17 =>
      .act (opS Try.prog (.call { callee := .invoke (.tmp 0) "Step", args := #[(.tmp 1)], argTypes := #[ty_p_arena_Arena] }) ty_bool [p1, (.pointer p0)]) (.one (.leaf .bool)) fun x20 =>
      .call f_arena_Arena_Uses [(.pointer p0)] (.one (.leaf (.int .i64))) fun x22 =>
      bif (decide ((x22 : Int) > (w64 (x17 + 1)))) then (
        .ret (.bool false))
      else (
        bif x20 then (
          .ret (.bool true))
        else (
          .again 128 [(.bool y1.1), (.int .i64 (w64 (y1.2.1 + 1)))])))
    else (
      .look (opS Try.prog (.binOp .eql ty_guard_Machine (.tmp 0) (.const .nilIface) ty_guard_Machine) ty_bool [p1]) (.one (.leaf .bool)) fun x28 =>
      .ret (.bool x28)))
  else (
    .look (opS Try.prog (.binOp .eql ty_guard_Machine (.tmp 0) (.const .nilIface) ty_guard_Machine) ty_bool [p1]) (.one (.leaf .bool)) fun x28 =>
    .ret (.bool x28))
noncomputable def t_magpielaw14_run (p0 : Option Addr) (p1 : Value) : Tree :=
  .loop 128 t_magpielaw14_run_L1_sh [(.bool false), (.int .i64 0)] (t_magpielaw14_run_L1 p0 p1)
theorem t_magpielaw14_run_eq (p0 : Option Addr) (p1 : Value) : funcTree Try.prog { quiet := [16, 34, 36, 40, 41, 66, 67, 75, 76, 77, 97, 98, 103, 108, 110, 139, 146, 149, 161], quietTmp := true, fncs := [], ifcs := [] } Try.f19 [(.pointer p0), p1] = t_magpielaw14_run p0 p1 := by kernel_rfl
theorem t_magpielaw14_run_spec {p0 : Option Addr} {p1 : Value} {H : Heap} {R : Value → Heap → Prop} (h : ∀ L, wp Try.prog (t_magpielaw14_run p0 p1) L H R) : SpecF Try.prog f_magpielaw14_run #[(.pointer p0), p1] H R :=
  spec_of_tree (cfg := { quiet := [16, 34, 36, 40, 41, 66, 67, 75, 76, 77, 97, 98, 103, 108, 110, 139, 146, 149, 161], quietTmp := true, fncs := [], ifcs := [] }) Try.func19 fun L => (t_magpielaw14_run_eq p0 p1).symm ▸ h L

/- magpie/magpielaw14.make1 -/
noncomputable def t_magpielaw14_make1 (p0 : Int) (p1 : Int) (p2 : Bool) (p3 : Int) : Tree :=
  .newP (.cells #[(.int .i64 0), (.int .i64 0), (.int .i64 0), (.int .i64 0), (.int .i64 0)] ty_free_Place) fun x9 =>
  .call f_free_Raw [(.int .i64 p0), (.int .i64 (w64 (8 * p1)))] (.tup [(.agg [(.int .i64), (.int .i64), (.int .i64), (.int .i64), (.int .i64)]), (.leaf (.int .i64))]) fun x18 =>
  .newP (.cells #[(.int .i64 0), (.int .i64 0), (.int .i64 0), (.int .i64 0), (.int .i64 0)] ty_free_Place) fun x11 =>
  .stA x11 [(.int .i64 x18.1.1), (.int .i64 x18.1.2.1), (.int .i64 x18.1.2.2.1), (.int .i64 x18.1.2.2.2.1), (.int .i64 x18.1.2.2.2.2.1)] <|
  .call f_guard_Raw [(.int .i64 p0), (.int .i64 x18.2.1), (.bool p2)] (.one (.leaf (.int .i64))) fun x24 =>
  .ldA x11 [(.int .i64), (.int .i64), (.int .i64), (.int .i64), (.int .i64)] fun x31 =>
  .ldA x11 [(.int .i64), (.int .i64), (.int .i64), (.int .i64), (.int .i64)] fun x36 =>
  .call f_arena_New [(.int .i64 (w64 (x18.2.1 + x24))), (.int .i64 (w64 (8 * p1))), (.bool false)] (.one (.leaf .ptr)) fun x30 =>
  .check (ldAS x11 5 0 #[]) (.agg #[(.int .i64 x36.1), (.int .i64 x36.2.1), (.int .i64 x36.2.2.1), (.int .i64 x36.2.2.2.1), (.int .i64 x36.2.2.2.2.1)]) <|
  .check (ldAS x11 5 0 #[]) (.agg #[(.int .i64 x31.1), (.int .i64 x31.2.1), (.int .i64 x31.2.2.1), (.int .i64 x31.2.2.2.1), (.int .i64 x31.2.2.2.2.1)]) <|
  .call f_guard_New [(.int .i64 p0), (.int .i64 x18.2.1), (.bool p2), (.int .i64 p3), (.agg #[(.int .i64 x36.1), (.int .i64 x36.2.1), (.int .i64 x36.2.2.1), (.int .i64 x36.2.2.2.1), (.int .i64 x36.2.2.2.2.1)])] (.one (.leaf .ptr)) fun x37 =>
  .check (ldAS x11 5 0 #[]) (.agg #[(.int .i64 x31.1), (.int .i64 x31.2.1), (.int .i64 x31.2.2.1), (.int .i64 x31.2.2.2.1), (.int .i64 x31.2.2.2.2.1)]) <|
  .stA x9 [(.int .i64 x31.1), (.int .i64 x31.2.1), (.int .i64 x31.2.2.1), (.int .i64 x31.2.2.2.1), (.int .i64 x31.2.2.2.2.1)] <|
  .look (ldK x9 5 0 #[] fun r1 => .pure (.value (.tuple #[(.pointer x30), (.agg r1), (.pointer x37)]))) (.tup [(.leaf .ptr), (.agg [(.int .i64), (.int .i64), (.int .i64), (.int .i64), (.int .i64)]), (.leaf .ptr)]) fun r => .ret (Sh.toVal (.tup [(.leaf .ptr), (.agg [(.int .i64), (.int .i64), (.int .i64), (.int .i64), (.int .i64)]), (.leaf .ptr)]) r)
theorem t_magpielaw14_make1_eq (p0 : Int) (p1 : Int) (p2 : Bool) (p3 : Int) : funcTree Try.prog { quiet := [16, 34, 36, 40, 41, 66, 67, 75, 76, 77, 97, 98, 103, 108, 110, 139, 146, 149, 161], quietTmp := true, fncs := [], ifcs := [] } Try.f17 [(.int .i64 p0), (.int .i64 p1), (.bool p2), (.int .i64 p3)] = t_magpielaw14_make1 p0 p1 p2 p3 := by kernel_rfl
theorem t_magpielaw14_make1_spec {p0 : Int} {p1 : Int} {p2 : Bool} {p3 : Int} {H : Heap} {R : Value → Heap → Prop} (h : ∀ L, wp Try.prog (t_magpielaw14_make1 p0 p1 p2 p3) L H R) : SpecF Try.prog f_magpielaw14_make1 #[(.int .i64 p0), (.int .i64 p1), (.bool p2), (.int .i64 p3)] H R :=
  spec_of_tree (cfg := { quiet := [16, 34, 36, 40, 41, 66, 67, 75, 76, 77, 97, 98, 103, 108, 110, 139, 146, 149, 161], quietTmp := true, fncs := [], ifcs := [] }) Try.func17 fun L => (t_magpielaw14_make1_eq p0 p1 p2 p3).symm ▸ h L

/- magpie/magpielaw14.one -/
@[reducible] def t_magpielaw14_one_L1_sh : List Sh1 := [(.leaf (.int .i64)), (.leaf (.int .i64))]
noncomputable def t_magpielaw14_one_L1 (p0 : Option Addr) (x13 : Option Addr) (y1 : HL Sh1.T t_magpielaw14_one_L1_sh) : Tree :=
  bif (decide ((y1.2.1 : Int) < 100)) then (
    .look (opS Try.prog (.binOp .neq ty_p_slab_Alloc (.tmp 0) (.const (.pointer none)) ty_p_slab_Alloc) ty_bool [(.pointer x13)]) (.one (.leaf .bool)) fun x18 =>
    bif x18 then (
      .call f_slab_Alloc_Step [(.pointer x13), (.pointer p0)] (.one (.leaf .bool)) fun x24 =>
      bif x24 then (
        .call f_slab_Alloc_Handle [(.pointer x13)] (.tup [(.leaf (.int .i64)), (.leaf .bool)]) fun x27 =>
        .ret (.int .i64 x27.1))
      else (
        .again 192 [(.int .i64 y1.1), (.int .i64 (w64 (y1.2.1 + 1)))]))
    else (
      .ret (.int .i64 0)))
  else (
    .ret (.int .i64 0))
noncomputable def t_magpielaw14_one (p0 : Option Addr) (p1_0 : Int) (p1_1 : Int) (p1_2 : Int) (p1_3 : Int) (p1_4 : Int) (p2 : Int) : Tree :=
  .newP (.cells #[(.int .i64 p1_0), (.int .i64 p1_1), (.int .i64 p1_2), (.int .i64 p1_3), (.int .i64 p1_4)] ty_free_Place) fun x4 =>
  .ldA x4 [(.int .i64), (.int .i64), (.int .i64), (.int .i64), (.int .i64)] fun x11 =>
  .call f_slab_NewAlloc [(.agg #[(.int .i64 x11.1), (.int .i64 x11.2.1), (.int .i64 x11.2.2.1), (.int .i64 x11.2.2.2.1), (.int .i64 x11.2.2.2.2.1)]), (.int .i64 p2), (.int .i64 0)] (.one (.leaf .ptr)) fun x13 =>
  .loop 192 t_magpielaw14_one_L1_sh [(.int .i64 0), (.int .i64 0)] (t_magpielaw14_one_L1 p0 x13)
theorem t_magpielaw14_one_eq (p0 : Option Addr) (p1_0 : Int) (p1_1 : Int) (p1_2 : Int) (p1_3 : Int) (p1_4 : Int) (p2 : Int) : funcTree Try.prog { quiet := [16, 34, 36, 40, 41, 66, 67, 75, 76, 77, 97, 98, 103, 108, 110, 139, 146, 149, 161], quietTmp := true, fncs := [], ifcs := [] } Try.f18 [(.pointer p0), (.agg #[(.int .i64 p1_0), (.int .i64 p1_1), (.int .i64 p1_2), (.int .i64 p1_3), (.int .i64 p1_4)]), (.int .i64 p2)] = t_magpielaw14_one p0 p1_0 p1_1 p1_2 p1_3 p1_4 p2 := by kernel_rfl
theorem t_magpielaw14_one_spec {p0 : Option Addr} {p1_0 : Int} {p1_1 : Int} {p1_2 : Int} {p1_3 : Int} {p1_4 : Int} {p2 : Int} {H : Heap} {R : Value → Heap → Prop} (h : ∀ L, wp Try.prog (t_magpielaw14_one p0 p1_0 p1_1 p1_2 p1_3 p1_4 p2) L H R) : SpecF Try.prog f_magpielaw14_one #[(.pointer p0), (.agg #[(.int .i64 p1_0), (.int .i64 p1_1), (.int .i64 p1_2), (.int .i64 p1_3), (.int .i64 p1_4)]), (.int .i64 p2)] H R :=
  spec_of_tree (cfg := { quiet := [16, 34, 36, 40, 41, 66, 67, 75, 76, 77, 97, 98, 103, 108, 110, 139, 146, 149, 161], quietTmp := true, fncs := [], ifcs := [] }) Try.func18 fun L => (t_magpielaw14_one_eq p0 p1_0 p1_1 p1_2 p1_3 p1_4 p2).symm ▸ h L

/- magpie/magpielaw14.awake -/
noncomputable def t_magpielaw14_awake : Tree :=
  .call f_magpielaw14_make1 [(.int .i64 2), (.int .i64 4), (.bool false), (.int .i64 1)] (.tup [(.leaf .ptr), (.agg [(.int .i64), (.int .i64), (.int .i64), (.int .i64), (.int .i64)]), (.leaf .ptr)]) fun x6 =>
  .newP (.cells #[(.int .i64 0), (.int .i64 0), (.int .i64 0), (.int .i64 0), (.int .i64 0)] ty_free_Place) fun x2 =>
  .stA x2 [(.int .i64 x6.2.1.1), (.int .i64 x6.2.1.2.1), (.int .i64 x6.2.1.2.2.1), (.int .i64 x6.2.1.2.2.2.1), (.int .i64 x6.2.1.2.2.2.2.1)] <|
  .look (opS Try.prog (.binOp .eql ty_p_arena_Arena (.tmp 0) (.const (.pointer none)) ty_p_arena_Arena) ty_bool [(.pointer x6.1)]) (.one (.leaf .bool)) fun x11 =>
  bif x11 then (
    .ret (.bool false))
  else (
    .look (opS Try.prog (.binOp .eql ty_p_guard_Guard (.tmp 0) (.const (.pointer none)) ty_p_guard_Guard) ty_bool [(.pointer x6.2.2.1)]) (.one (.leaf .bool)) fun x14 =>
    bif x14 then (
      .ret (.bool false))
    else (
      .call f_guard_Guard_Enter [(.pointer x6.2.2.1), (.int .i64 1)] (.one (.leaf .val)) fun x18 =>
      .look (opS Try.prog (.binOp .neq ty_guard_Machine (.tmp 0) (.const .nilIface) ty_guard_Machine) ty_bool [x18]) (.one (.leaf .bool)) fun x19 =>
      bif x19 then (
        .ret (.bool false))
      else (
        .ldA x2 [(.int .i64), (.int .i64), (.int .i64), (.int .i64), (.int .i64)] fun x22 =>
        .call f_magpielaw14_one [(.pointer x6.1), (.agg #[(.int .i64 x22.1), (.int .i64 x22.2.1), (.int .i64 x22.2.2.1), (.int .i64 x22.2.2.2.1), (.int .i64 x22.2.2.2.2.1)]), (.int .i64 0)] (.one (.leaf (.int .i64))) fun x23 =>
        bif ((x23 : Int) != 0) then (
          .call f_guard_Guard_Retire [(.pointer x6.2.2.1), (.pointer x6.1), (.int .i64 0), (.int .i64 x23)] (.one (.leaf .val)) fun x31 =>
          .call f_magpielaw14_run [(.pointer x6.1), x31] (.one (.leaf .bool)) fun x32 =>
          bif x32 then (
            .call f_arena_Arena_State [(.pointer x6.1), (.int .i64 x23)] (.one (.leaf (.int .i64))) fun x37 =>
            bif ((x37 : Int) == 0) then (
              .call f_guard_Guard_Left [(.pointer x6.2.2.1), (.int .i64 0)] (.one (.leaf (.int .i64))) fun x42 =>
              .ret (.bool ((x42 : Int) == 0)))
            else (
              .ret (.bool false)))
          else (
            .ret (.bool false)))
        else (
          .ret (.bool false)))))
theorem t_magpielaw14_awake_eq : funcTree Try.prog { quiet := [16, 34, 36, 40, 41, 66, 67, 75, 76, 77, 97, 98, 103, 108, 110, 139, 146, 149, 161], quietTmp := true, fncs := [], ifcs := [] } Try.f25 [] = t_magpielaw14_awake  := by kernel_rfl
theorem t_magpielaw14_awake_spec {H : Heap} {R : Value → Heap → Prop} (h : ∀ L, wp Try.prog (t_magpielaw14_awake ) L H R) : SpecF Try.prog f_magpielaw14_awake #[] H R :=
  spec_of_tree (cfg := { quiet := [16, 34, 36, 40, 41, 66, 67, 75, 76, 77, 97, 98, 103, 108, 110, 139, 146, 149, 161], quietTmp := true, fncs := [], ifcs := [] }) Try.func25 fun L => (t_magpielaw14_awake_eq ).symm ▸ h L

end Go.Proofs.Ytcjhakdopnamoaa

set_option linter.unusedVariables false
set_option maxRecDepth 20000
namespace Go.Proofs.Ytcjhakdopnamoaa
open Go Go.Fw

theorem neqMc (t : TypeId) (q : Nat) (u : TypeId) : opS Try.prog (.binOp .neq ty_guard_Machine (.tmp 0) (.const .nilIface) ty_guard_Machine) u [.iface t (.pointer (some ⟨q, 0, none⟩))] = .pure (.value (.bool true)) := by kernel_rfl
theorem neqMc0 (u : TypeId) : opS Try.prog (.binOp .neq ty_guard_Machine (.tmp 0) (.const .nilIface) ty_guard_Machine) u [.nilIface] = .pure (.value (.bool false)) := by kernel_rfl
theorem eqlMc0 (u : TypeId) : opS Try.prog (.binOp .eql ty_guard_Machine (.tmp 0) (.const .nilIface) ty_guard_Machine) u [.nilIface] = .pure (.value (.bool true)) := by kernel_rfl

theorem runR14_go {M J : Type} {X : MchR M J} (hX : X.ok) {t : TypeId} (hinv : X.inv' t) {I : List Nat} {G : Heap} {n : Nat} {m m' : M} {A A' : Ar} (h : X.Runs n m A m' A') {L : Hands} :
    ∀ {i : Int} {b : Bool} {j : J} {R : Value → Heap → Prop}, (∀ j', Ok I G (keys (X.bl m' j')) → X.rep m' j' → Aw I A' → X.addr j' = X.addr j → R (.bool true) (own A' (X.bl m' j') G)) → Aw I A → Ok I G (keys (X.bl m j)) → X.rep m j → 0 ≤ i → i + n ≤ 3000 →
      wp Try.prog (.loop 128 t_magpielaw14_run_L1_sh [(.bool b), (.int .i64 i)] (t_magpielaw14_run_L1 (aI I) (.iface t (.pointer (some ⟨X.addr j, 0, none⟩))))) L (own A (X.bl m j) G) R := by
  induction h with
  | @one m A m1 A1 hi hst hu hf =>
    intro i b j R hR hA ok rp h0 h1
    refine wp_loop_unroll (b, i, ()) rfl ?_
    rw [t_magpielaw14_run_L1]
    refine wp_true (ilt (by show i < 3000; omega)) ?_
    refine look_val (x := true) (neqMc _ _ _) (wp_true rfl ?_)
    refine w_Uses hA ?_
    refine act_enter (hinv _ _) ?_
    refine wp_call_of (hX I A G m j hA ok rp hi) ?_
    rintro v K ⟨j', rfl, rfl, ha, ok', rp', hA'⟩
    rw [hst] at ok' rp' hA' ⊢
    refine ⟨true, by rw [hf], ?_⟩
    refine w_Uses hA' ?_
    refine wp_false (inlt hu) ?_
    exact wp_true rfl (wp_ret_of (hR j' ok' rp' hA' ha))
  | @more n m A m1 A1 m' A' hi hst hu hf hr ih =>
    intro i b j R hR hA ok rp h0 h1
    refine wp_loop_unroll (b, i, ()) rfl ?_
    rw [t_magpielaw14_run_L1]
    refine wp_true (ilt (by show i < 3000; omega)) ?_
    refine look_val (x := true) (neqMc _ _ _) (wp_true rfl ?_)
    refine w_Uses hA ?_
    refine act_enter (hinv _ _) ?_
    refine wp_call_of (hX I A G m j hA ok rp hi) ?_
    rintro v K ⟨j', rfl, rfl, ha, ok', rp', hA'⟩
    rw [hst] at ok' rp' hA' ⊢
    refine ⟨false, by rw [hf], ?_⟩
    refine w_Uses hA' ?_
    refine wp_false (inlt hu) (wp_false rfl (wp_again ?_))
    have e : w64 (i + 1) = i + 1 := w64_in (by omega) (by omega)
    rw [e, ← ha]
    exact ih (fun j2 k1 k2 k3 k4 => hR j2 k1 k2 k3 (k4.trans ha)) hA' ok' rp' (by omega) (by omega)

theorem w_runR14 {M J : Type} {X : MchR M J} (hX : X.ok) {t : TypeId} (hinv : X.inv' t) {I : List Nat} {G : Heap} {n : Nat} {m m' : M} {A A' : Ar} (h : X.Runs n m A m' A') (hn : n ≤ 3000) {j : J} {rest : Bl} (hA : Aw I A) (ok : Ok I G (keys (X.bl m j ++ rest))) (rp : X.rep m j)
    {L : Hands} {R : Value → Heap → Prop} {k : Bool → Tree} (hk : ∀ j', X.addr j' = X.addr j → Aw I A' → Ok I G (keys (X.bl m' j' ++ rest)) → X.rep m' j' → wp Try.prog (k true) L (own A' (X.bl m' j' ++ rest) G) R) :
    wp Try.prog (.call f_magpielaw14_run [.pointer (aI I), .iface t (.pointer (some ⟨X.addr j, 0, none⟩))] (.one (.leaf .bool)) k) L (own A (X.bl m j ++ rest) G) R := by
  rw [keys_append] at ok
  obtain ⟨o1, o2⟩ := ok.split
  refine w_sub (R0 := fun v K => ∃ j', v = .bool true ∧ K = own A' (X.bl m' j') (putL rest G) ∧ Ok I (putL rest G) (keys (X.bl m' j')) ∧ X.rep m' j' ∧ Aw I A' ∧ X.addr j' = X.addr j) ?_ ?_
  · refine t_magpielaw14_run_spec fun L => ?_
    unfold t_magpielaw14_run
    exact runR14_go hX hinv h (fun j' a b c d => ⟨j', rfl, rfl, a, b, c, d⟩) hA o1 rp (Int.le_refl 0) (by omega)
  · rintro v K ⟨j', rfl, rfl, ok', rp', hA', ha⟩
    refine ⟨true, rfl, ?_⟩
    rw [← own_append]
    exact hk j' ha hA' (by rw [keys_append]; exact ok'.join o2) rp'

/-- Nothing to do. -/
theorem w_run14_nil {I : List Nat} {K : Heap} {L : Hands} {R : Value → Heap → Prop} {k : Bool → Tree} (hk : wp Try.prog (k true) L K R) : wp Try.prog (.call f_magpielaw14_run [.pointer (aI I), .nilIface] (.one (.leaf .bool)) k) L K R := by
  refine wp_call_of (R0 := fun v H => v = .bool true ∧ H = K) ?_ ?_
  · refine t_magpielaw14_run_spec fun L => ?_
    unfold t_magpielaw14_run
    refine wp_loop_unroll (false, 0, ()) rfl ?_
    rw [t_magpielaw14_run_L1]
    refine wp_true (ilt (by show (0 : Int) < 3000; decide)) ?_
    refine look_val (x := false) (neqMc0 _) (wp_false rfl ?_)
    refine look_val (x := true) (eqlMc0 _) ?_
    exact wp_ret_of ⟨rfl, rfl⟩
  · rintro v H ⟨rfl, rfl⟩
    exact ⟨true, rfl, hk⟩
end Go.Proofs.Ytcjhakdopnamoaa

set_option linter.unusedVariables false
set_option linter.unusedSimpArgs false
set_option maxRecDepth 20000
namespace Go.Proofs.Ytcjhakdopnamoaa
open Go Go.Fw

theorem eqlMc (t : TypeId) (q : Nat) (u : TypeId) : opS Try.prog (.binOp .eql ty_guard_Machine (.tmp 0) (.const .nilIface) ty_guard_Machine) u [.iface t (.pointer (some ⟨q, 0, none⟩))] = .pure (.value (.bool false)) := by kernel_rfl

noncomputable def lkT2 (q : Nat) : Tree :=
  .look (opS Try.prog (.nilCheck (.tmp 0)) ty_unit [(.pointer (some ⟨q, 0, none⟩))]) (.one (.leaf .addr)) fun x78 =>
  .ld (x78.add 4) .val fun x80 =>
  .look (opS Try.prog (.binOp .eql ty_guard_Machine (.tmp 0) (.const .nilIface) ty_guard_Machine) ty_bool [x80]) (.one (.leaf .bool)) fun x81 =>
  bif x81 then (
    .look (opS Try.prog (.nilCheck (.tmp 0)) ty_unit [(.pointer (some ⟨q, 0, none⟩))]) (.one (.leaf .addr)) fun x84 =>
    .ld (x84.add 3) (.int .i64) fun x86 =>
    .ret (.bool ((x86 : Int) == 0)))
  else (
    .ret (.bool false))
noncomputable def lkT (q : Nat) (p1 : Option Addr) : Tree :=
  .look (opS Try.prog (.nilCheck (.tmp 0)) ty_unit [(.pointer (some ⟨q, 0, none⟩))]) (.one (.leaf .addr)) fun x63 =>
  .ld (x63.add 4) .val fun x65 =>
  .look (opS Try.prog (.binOp .neq ty_guard_Machine (.tmp 0) (.const .nilIface) ty_guard_Machine) ty_bool [x65]) (.one (.leaf .bool)) fun x66 =>
  bif x66 then (
    .look (opS Try.prog (.nilCheck (.tmp 0)) ty_unit [(.pointer (some ⟨q, 0, none⟩))]) (.one (.leaf .addr)) fun x69 =>
    .ld (x69.add 4) .val fun x71 =>
    .act (opS Try.prog (.call { callee := .invoke (.tmp 0) "Step", args := #[(.tmp 1)], argTypes := #[ty_p_arena_Arena] }) ty_bool [x71, (.pointer p1)]) (.one (.leaf .bool)) fun x73 =>
    bif x73 then (
      .call f_guard_look_end [(.pointer (some ⟨q, 0, none⟩))] .unit fun _ => lkT2 q)
    else (lkT2 q))
  else (lkT2 q)

def Lk.fin (x : Lk) : Bool := match x.m with
  | .no => x.times == 0
  | _ => false
def Lk.go (x : Lk) : Lk := match x.m with
  | .no => if 0 < x.times then x.begin else x
  | _ => x
def In.step : In → Ar → In × Ar
  | .no, A => (.no, A)
  | .tn m, A => (.tn (m.step A).1, (m.step A).2)
  | .sc m, A => (.sc (m.step A).1, (m.step A).2)
def In.inv : In → Ar → Prop
  | .no, _ => True
  | .tn m, A => m.inv A ∧ m.left.length ≤ 1000
  | .sc m, A => m.inv A ∧ m.left.length ≤ 1000
def setLast (xs : List (Int × Int)) (v : Int) : List (Int × Int) := xs.set (xs.length - 1) ((xs.getD (xs.length - 1) (0, 0)).1, v)
def Lk.mid (y : Lk) (A : Ar) : Lk × Ar := (if (y.m.step A).1.fin = true then Lk.end_ { y with m := (y.m.step A).1 } else { y with m := (y.m.step A).1 }, (y.m.step A).2)
def Lk.step (x : Lk) (A : Ar) : Lk × Ar :=
  if x.first = true then ({ x with first := false, ls := setL x.ls x.work (setLast (x.ls x.work) (A.rawF x.g.ta)) }, A.touchR x.g.ta)
  else x.go.mid A

theorem Tn.left_step (m : Tn) (A : Ar) (h : m.l.length ≤ 1000) (h2 : m.left.length ≤ 1000) : (m.step A).1.left.length ≤ 1000 := by
  have hs : ∀ m : Tn, m.l.length ≤ 1000 → m.sort.left.length ≤ 1000 := fun m h => by
    show ((m.l.take m.l.length).filter _).length ≤ 1000
    exact Nat.le_trans (List.length_filter_le _ _) (by rw [List.take_length]; exact h)
  unfold Tn.step
  split
  · exact h2
  · split
    · show (if _ then Tn.sort _ else _ : Tn).left.length ≤ 1000
      split
      · exact hs _ h
      · exact h2
    · split
      · show (if _ then Tn.sort _ else _ : Tn).left.length ≤ 1000
        split
        · exact hs _ h
        · exact hs _ h
      · split
        · cases m.frees with
          | nil => exact h2
          | cons f fs => dsimp only; split <;> exact h2
        · exact h2
theorem Sc.left_step (m : Sc) (A : Ar) (h : m.l.length ≤ 1000) (h2 : m.left.length ≤ 1000) : (m.step A).1.left.length ≤ 1000 := by
  have hs : ∀ m : Sc, m.l.length ≤ 1000 → m.sort.left.length ≤ 1000 := fun m h => by
    show ((m.l.take m.l.length).filter _).length ≤ 1000
    exact Nat.le_trans (List.length_filter_le _ _) (by rw [List.take_length]; exact h)
  unfold Sc.step
  split
  · exact h2
  · split
    · show (if _ then Sc.sort _ else _ : Sc).left.length ≤ 1000
      split
      · exact hs _ h
      · exact h2
    · cases m.frees with
      | nil => exact h2
      | cons f fs => dsimp only; split <;> exact h2
theorem In.gone_step (i : In) (A : Ar) (h : i.inv A) : (i.step A).1.gone.length ≤ 1000 := by
  cases i with
  | no => exact Nat.zero_le _
  | tn m => exact Tn.left_step m A h.1.ll h.2
  | sc m =>
    show ((m.step A).1.left.map fun h => (h, (0 : Int))).length ≤ 1000
    rw [List.length_map]; exact Sc.left_step m A h.1.ll h.2

section
variable {L : Hands} {R : Value → Heap → Prop} {G : Heap} {l rest : Bl} {A : Ar} {I : List Nat}

def LkP (z : Lk × Ar) (j : LkJ) (I : List Nat) (G : Heap) : Value → Heap → Prop := fun v K => ∃ j' : LkJ, v = .bool z.1.fin ∧ K = own z.2 (z.1.bl j') G ∧ (j'.q = j.q ∧ j'.gq = j.gq ∧ j'.mq = j.mq) ∧ Ok I G (keys (z.1.bl j')) ∧ z.1.rep j' ∧ Aw I z.2

theorem lkT2_wp {x : Lk} {j j0 : LkJ} (hj : j.q = j0.q ∧ j.gq = j0.gq ∧ j.mq = j0.mq) (hA : Aw I A) (ok : Ok I G (keys (x.bl j))) (rp : x.rep j) : wp Try.prog (lkT2 j.q) L (own A (x.bl j) G) (LkP (x, A) j0 I G) := by
  unfold lkT2
  have ok0 := ok
  obtain ⟨g, ls, work, first, times, m⟩ := x
  unfold Lk.bl at ok
  cases m with
  | no =>
    refine wp_nil.2 (w_ld 0 (x := .nilIface) hA ok rfl rfl rfl ?_)
    refine look_val (x := true) (eqlMc0 _) (wp_true rfl ?_)
    refine wp_nil.2 (w_ld 0 (x := times) hA ok rfl rfl rfl ?_)
    exact wp_ret_of ⟨j, rfl, rfl, hj, ok0, rp, hA⟩
  | tn m =>
    refine wp_nil.2 (w_ld 0 (x := .iface ty_p_epoch_Turn (.pointer (some ⟨j.tj.q, 0, none⟩))) hA ok rfl rfl rfl ?_)
    refine look_val (x := false) (eqlMc _ _ _) (wp_false rfl ?_)
    exact wp_ret_of ⟨j, rfl, rfl, hj, ok0, rp, hA⟩
  | sc m =>
    refine wp_nil.2 (w_ld 0 (x := .iface ty_p_hazard_Scan (.pointer (some ⟨j.sj.q, 0, none⟩))) hA ok rfl rfl rfl ?_)
    refine look_val (x := false) (eqlMc _ _ _) (wp_false rfl ?_)
    exact wp_ret_of ⟨j, rfl, rfl, hj, ok0, rp, hA⟩

theorem lkT_fin {x : Lk} {j j0 : LkJ} {b : Bool} (hb : b = x.m.fin) (hj : j.q = j0.q ∧ j.gq = j0.gq ∧ j.mq = j0.mq) (hA : Aw I A) (ok : Ok I G (keys (x.bl j))) (rp : x.rep j) (hl : x.m.gone.length ≤ 1000) :
    wp Try.prog (bif b then (.call f_guard_look_end [(.pointer (some ⟨j.q, 0, none⟩))] .unit fun _ => lkT2 j.q) else (lkT2 j.q)) L (own A (x.bl j) G) (LkP (if x.m.fin = true then x.end_ else x, A) j0 I G) := by
  subst hb
  by_cases hf : x.m.fin = true
  · rw [if_pos hf]
    refine wp_true hf ?_
    refine wp_call_of (end_spec x j hA ok rp hf hl) ?_
    rintro v K ⟨j', rfl, rfl, e1, e2, e3, ok', rp'⟩
    refine ⟨(), rfl, ?_⟩
    rw [← e1]
    exact lkT2_wp ⟨e1.trans hj.1, e2.trans hj.2.1, e3.trans hj.2.2⟩ hA ok' rp'
  · rw [if_neg hf]
    refine wp_false (by simpa using hf) ?_
    exact lkT2_wp hj hA ok rp

set_option maxHeartbeats 1000000 in
theorem lkT_wp {x : Lk} {j j0 : LkJ} (hj : j.q = j0.q ∧ j.gq = j0.gq ∧ j.mq = j0.mq) (hA : Aw I A) (ok : Ok I G (keys (x.bl j))) (rp : x.rep j) (hi : x.m.inv A) : wp Try.prog (lkT j.q (aI I)) L (own A (x.bl j) G) (LkP (x.mid A) j0 I G) := by
  have hg := x.m.gone_step A hi
  unfold lkT Lk.mid
  have ok0 := ok
  obtain ⟨g, ls, work, first, times, m⟩ := x
  obtain ⟨q, gq, mq, e, tj, sj, gar⟩ := j
  cases m with
  | no =>
    unfold Lk.bl at ok
    refine wp_nil.2 (w_ld 0 (x := .nilIface) hA ok rfl rfl rfl ?_)
    refine look_val (x := false) (neqMc0 _) (wp_false rfl ?_)
    exact lkT2_wp hj hA ok0 rp
  | tn m =>
    have ok : Ok I G (keys ((q, oc ty_guard_look (lkC gq work first times (.iface ty_p_epoch_Turn (.pointer (some ⟨tj.q, 0, none⟩))))) :: (g.bl gq mq e ++ (m.bl tj ++ gar)))) := ok
    show wp Try.prog _ L (own A ((q, oc ty_guard_look (lkC gq work first times (.iface ty_p_epoch_Turn (.pointer (some ⟨tj.q, 0, none⟩))))) :: (g.bl gq mq e ++ (m.bl tj ++ gar))) G) _
    refine wp_nil.2 (w_ld 0 (x := .iface ty_p_epoch_Turn (.pointer (some ⟨tj.q, 0, none⟩))) hA ok rfl rfl rfl ?_)
    refine look_val (x := true) (neqMc _ _ _) (wp_true rfl ?_)
    refine wp_nil.2 (w_ld 0 (x := .iface ty_p_epoch_Turn (.pointer (some ⟨tj.q, 0, none⟩))) hA ok rfl rfl rfl ?_)
    refine act_enter (mTn_inv _ _) ?_
    obtain ⟨p1, ok1⟩ := own_perm (A := A) (l' := m.bl tj ++ ((q, oc ty_guard_look (lkC gq work first times (.iface ty_p_epoch_Turn (.pointer (some ⟨tj.q, 0, none⟩))))) :: (g.bl gq mq e ++ gar))) ok (perm_by fun c d c0 cd ca => by simp only [cd, ca]; omega)
    rw [p1]
    rw [keys_append] at ok1
    obtain ⟨o1, o2⟩ := ok1.split
    refine w_sub (mTn_ok I A _ m tj hA o1 rp.m hi.1) ?_
    rintro v K ⟨tj', rfl, rfl, ea, o3, rt, hA'⟩
    have ea : tj'.q = tj.q := ea
    refine ⟨_, rfl, ?_⟩
    have o4 : Ok I G (keys ((m.step A).1.bl tj' ++ ((q, oc ty_guard_look (lkC gq work first times (.iface ty_p_epoch_Turn (.pointer (some ⟨tj.q, 0, none⟩))))) :: (g.bl gq mq e ++ gar)))) := by rw [keys_append]; exact o3.join o2
    show wp Try.prog _ L (own (m.step A).2 ((m.step A).1.bl tj') (putL _ G)) _
    rw [← own_append]
    rw [← ea] at o4 ⊢
    obtain ⟨p2, o5⟩ := own_perm (A := (m.step A).2) (l' := Lk.bl ⟨g, ls, work, first, times, .tn (m.step A).1⟩ ⟨q, gq, mq, e, tj', sj, gar⟩) o4 (perm_by fun c d c0 cd ca => by
      show _ = c ((q, oc ty_guard_look (lkC gq work first times (.iface ty_p_epoch_Turn (.pointer (some ⟨tj'.q, 0, none⟩))))) :: (g.bl gq mq e ++ ((m.step A).1.bl tj' ++ gar)))
      simp only [cd, ca]; omega)
    rw [p2]
    exact lkT_fin (x := ⟨g, ls, work, first, times, .tn (m.step A).1⟩) (j := ⟨q, gq, mq, e, tj', sj, gar⟩) rfl hj hA' o5 ⟨rp.le, rp.ls, rt⟩ hg
  | sc m =>
    have ok : Ok I G (keys ((q, oc ty_guard_look (lkC gq work first times (.iface ty_p_hazard_Scan (.pointer (some ⟨sj.q, 0, none⟩))))) :: (g.bl gq mq e ++ (m.bl sj ++ gar)))) := ok
    show wp Try.prog _ L (own A ((q, oc ty_guard_look (lkC gq work first times (.iface ty_p_hazard_Scan (.pointer (some ⟨sj.q, 0, none⟩))))) :: (g.bl gq mq e ++ (m.bl sj ++ gar))) G) _
    refine wp_nil.2 (w_ld 0 (x := .iface ty_p_hazard_Scan (.pointer (some ⟨sj.q, 0, none⟩))) hA ok rfl rfl rfl ?_)
    refine look_val (x := true) (neqMc _ _ _) (wp_true rfl ?_)
    refine wp_nil.2 (w_ld 0 (x := .iface ty_p_hazard_Scan (.pointer (some ⟨sj.q, 0, none⟩))) hA ok rfl rfl rfl ?_)
    refine act_enter (mSc_inv _ _) ?_
    obtain ⟨p1, ok1⟩ := own_perm (A := A) (l' := m.bl sj ++ ((q, oc ty_guard_look (lkC gq work first times (.iface ty_p_hazard_Scan (.pointer (some ⟨sj.q, 0, none⟩))))) :: (g.bl gq mq e ++ gar))) ok (perm_by fun c d c0 cd ca => by simp only [cd, ca]; omega)
    rw [p1]
    rw [keys_append] at ok1
    obtain ⟨o1, o2⟩ := ok1.split
    refine w_sub (mSc_ok I A _ m sj hA o1 rp.m hi.1) ?_
    rintro v K ⟨sj', rfl, rfl, ea, o3, rt, hA'⟩
    have ea : sj'.q = sj.q := ea
    refine ⟨_, rfl, ?_⟩
    have o4 : Ok I G (keys ((m.step A).1.bl sj' ++ ((q, oc ty_guard_look (lkC gq work first times (.iface ty_p_hazard_Scan (.pointer (some ⟨sj.q, 0, none⟩))))) :: (g.bl gq mq e ++ gar)))) := by rw [keys_append]; exact o3.join o2
    show wp Try.prog _ L (own (m.step A).2 ((m.step A).1.bl sj') (putL _ G)) _
    rw [← own_append]
    rw [← ea] at o4 ⊢
    obtain ⟨p2, o5⟩ := own_perm (A := (m.step A).2) (l' := Lk.bl ⟨g, ls, work, first, times, .sc (m.step A).1⟩ ⟨q, gq, mq, e, tj, sj', gar⟩) o4 (perm_by fun c d c0 cd ca => by
      show _ = c ((q, oc ty_guard_look (lkC gq work first times (.iface ty_p_hazard_Scan (.pointer (some ⟨sj'.q, 0, none⟩))))) :: (g.bl gq mq e ++ ((m.step A).1.bl sj' ++ gar)))
      simp only [cd, ca]; omega)
    rw [p2]
    exact lkT_fin (x := ⟨g, ls, work, first, times, .sc (m.step A).1⟩) (j := ⟨q, gq, mq, e, tj, sj', gar⟩) rfl hj hA' o5 ⟨rp.le, rp.ls, rt⟩ hg
end
end Go.Proofs.Ytcjhakdopnamoaa

set_option linter.unusedVariables false
set_option linter.unusedSimpArgs false
set_option maxRecDepth 20000
namespace Go.Proofs.Ytcjhakdopnamoaa
open Go Go.Fw

theorem eL_set (rest : List Value) (v : Int) : ∀ (xs : List (Int × Int)) (n : Nat), n < xs.length → (eL.all xs ++ rest).set (n * 2 + 1) (.int .i64 v) = eL.all (xs.set n ((xs.getD n (0, 0)).1, v)) ++ rest
  | [], n, h => by simp at h
  | x :: xs, 0, _ => rfl
  | x :: xs, n + 1, h => by
    have ih := eL_set rest v xs n (by simpa using h)
    show (Value.int .i64 x.1 :: .int .i64 x.2 :: (eL.all xs ++ rest)).set ((n + 1) * 2 + 1) _ = .int .i64 x.1 :: .int .i64 x.2 :: (eL.all (xs.set n ((xs.getD n (0, 0)).1, v)) ++ rest)
    rw [← ih, show (n + 1) * 2 + 1 = (n * 2 + 1) + 1 + 1 by omega]
    rfl
theorem leC_same : ∀ {e : List LE} {y : LE}, (leGet e y.k).xs ≠ [] → y.s = (leGet e y.k).s → leC (lePut e y) = leC e
  | [], y, h, _ => (h rfl).elim
  | x :: e, y, h, hs => by
    unfold leGet at h hs
    show leC (if y.k = x.k then y :: e else x :: lePut e y) = leC (x :: e)
    by_cases c : y.k = x.k
    · rw [if_pos c] at h hs ⊢
      show (y.k, y.s) :: leC e = (x.k, x.s) :: leC e
      rw [c, hs]
    · rw [if_neg c] at h hs ⊢
      show (x.k, x.s) :: leC (lePut e y) = (x.k, x.s) :: leC e
      rw [leC_same h hs]

structure Lk.inv (x : Lk) (A : Ar) : Prop where
  ll : (x.ls x.work).length ≤ 1000
  fs : x.first = true → x.g.ep = true ∧ x.ls x.work ≠ [] ∧ x.m = .no
  wb : 1 ≤ x.g.w ∧ x.g.w ≤ 1000
  mi : x.m.inv A
theorem begin_inv {x : Lk} {A : Ar} (ll : (x.ls x.work).length ≤ 1000) (wb : 1 ≤ x.g.w ∧ x.g.w ≤ 1000) : x.begin.m.inv A := by
  unfold Lk.begin
  dsimp only
  split
  · exact ⟨⟨ll, fun _ => ⟨rfl, rfl⟩, fun h => by cases h⟩, Nat.zero_le _⟩
  · exact ⟨⟨wb, Int.le_refl 0, by show ((x.ls x.work).map Prod.fst).length ≤ 1000; rw [List.length_map]; exact ll, fun _ => .inl ⟨by show (0 : Int) < 2 * x.g.w; omega, rfl, rfl, rfl⟩⟩, Nat.zero_le _⟩
def mLk (gq mq : Nat) : MchR Lk LkJ where
  f := f_guard_look_Step
  addr := LkJ.q
  bl := Lk.bl
  rep := fun x j => x.rep j ∧ j.gq = gq ∧ j.mq = mq
  inv := Lk.inv
  step := Lk.step
  fin := Lk.fin
theorem mLk_inv (gq mq : Nat) : (mLk gq mq).inv' ty_p_guard_look := fun q p => by
  show opS _ _ _ _ = .pure (.enter f_guard_look_Step [.pointer (some ⟨q, 0, none⟩), .pointer p].toArray)
  kernel_rfl

section
variable {L : Hands} {R : Value → Heap → Prop} {G : Heap} {l rest : Bl} {A : Ar} {I : List Nat}

set_option maxHeartbeats 1000000 in
theorem look_first (x : Lk) (j : LkJ) (hA : Aw I A) (ok : Ok I G (keys (x.bl j))) (rp : x.rep j) (hf : x.first = true) (hi : x.inv A) :
    wp Try.prog (t_guard_look_Step (some ⟨j.q, 0, none⟩) (aI I)) L (own A (x.bl j) G) (LkP (x.step A) j I G) := by
  obtain ⟨h1, h2, h3⟩ := hi.fs hf
  have hlen := hi.ll
  unfold Lk.step
  rw [if_pos hf]
  obtain ⟨g, ls, work, first, times, m⟩ := x
  obtain ⟨q, gq, mq, e, tj, sj, gar⟩ := j
  have h1 : g.ep = true := h1
  have h2 : ls work ≠ [] := h2
  have h3 : m = .no := h3
  have hf : first = true := hf
  have hlen : (ls work).length ≤ 1000 := hlen
  subst h3 hf
  unfold t_guard_look_Step
  have ok : Ok I G (keys ((q, oc ty_guard_look (lkC gq work true times .nilIface)) :: (gq, oc ty_guard_Guard (g.cells mq)) :: (mq, mapObj slV (leC e)) :: (leB e ++ gar))) := ok
  show wp Try.prog _ L (own A ((q, oc ty_guard_look (lkC gq work true times .nilIface)) :: (gq, oc ty_guard_Guard (g.cells mq)) :: (mq, mapObj slV (leC e)) :: (leB e ++ gar)) G) _
  refine wp_nil.2 (w_ld 0 (x := true) hA ok rfl rfl rfl (wp_true rfl ?_))
  refine wp_nil.2 (w_st 0 hA ok rfl rfl rfl rfl ?_)
  have ok1 : Ok I G (keys ((q, oc ty_guard_look (lkC gq work false times .nilIface)) :: (gq, oc ty_guard_Guard (g.cells mq)) :: (mq, mapObj slV (leC e)) :: (leB e ++ gar))) := ok
  show wp Try.prog _ L (own A ((q, oc ty_guard_look (lkC gq work false times .nilIface)) :: (gq, oc ty_guard_Guard (g.cells mq)) :: (mq, mapObj slV (leC e)) :: (leB e ++ gar)) G) _
  refine wp_nil.2 (w_ld 0 (x := some ⟨gq, 0, none⟩) hA ok1 rfl rfl rfl ?_)
  refine wp_nil.2 (w_ld 1 (x := some mq) hA ok1 rfl rfl rfl ?_)
  refine wp_nil.2 (w_ld 0 (x := work) hA ok1 rfl rfl rfl ?_)
  refine w_lk 2 hA ok1 rfl ?_
  refine wp_nil.2 (w_ld 0 (x := some ⟨gq, 0, none⟩) hA ok1 rfl rfl rfl ?_)
  refine wp_nil.2 (w_ld 1 (x := gmode g.ep g.w g.ta) hA ok1 rfl rfl rfl ?_)
  rw [h1]
  refine look_val (x := (g.w, g.ta, ())) (ta_ep _ _ _) ?_
  refine wq_Global (tw := g.w) (ta := g.ta) ?_
  refine w_Raw hA fun hA => ?_
  have hs : SlOf (leGet e work).hb ty_epoch_Limbo eL (leGet e work).s (leGet e work).xs := rp.le work
  have hxs : (leGet e work).xs = ls work := rp.ls work
  rcases hs with ⟨_, h0⟩ | ⟨b, rest, r, hsl, hr, hm⟩
  · exact (h2 (hxs.symm.trans h0)).elim
  · have hpos : 0 < (ls work).length := List.length_pos_iff.2 h2
    rw [hxs] at hsl hm
    obtain ⟨s1, s2, hsp⟩ := List.mem_iff_append.1 hm
    rw [hsl]
    have e64 : w64 ((((ls work).length : Nat) : Int) - 1) = (((ls work).length - 1 : Nat) : Int) := by rw [w64_in (by omega) (by omega)]; omega
    show wp Try.prog (.look (opS Try.prog (.indexAddr ty_s_epoch_Limbo (.tmp 0) (.tmp 1)) ty_unit [(.slice (some ⟨b, 0, none⟩) (ls work).length ((ls work).length + r)), (.int .i64 (w64 ((((ls work).length : Nat) : Int) - 1)))]) (.one (.leaf .addr)) _) L _ _
    rw [e64]
    refine look_val (x := ⟨b, ((ls work).length - 1) * 2, none⟩) ?_ ?_
    · rw [opS_idxS (e := ty_epoch_Limbo) rfl rfl (by omega) (by omega), Addr.add_mk, Nat.zero_add]; rfl
    obtain ⟨y, hy⟩ : ∃ y : LE, y = ⟨work, (leGet e work).s, setLast (ls work) (A.rawF g.ta), s1 ++ (b, oc ty_epoch_Limbo (eL.all (setLast (ls work) (A.rawF g.ta)) ++ rest)) :: s2⟩ := ⟨_, rfl⟩
    obtain ⟨p1, ok2⟩ := own_perm (A := A.touchR g.ta) (l' := (b, oc ty_epoch_Limbo (eL.all (ls work) ++ rest)) :: (q, oc ty_guard_look (lkC gq work false times .nilIface)) :: (gq, oc ty_guard_Guard (g.cells mq)) :: (mq, mapObj slV (leC e)) :: ((s1 ++ s2) ++ (leRest e work ++ gar))) ok1 (perm_by fun c d c0 cd ca => by
      have h1 := leB_c c0 ca e work
      have h2 : c (leGet e work).hb = c s1 + c ((b, oc ty_epoch_Limbo (eL.all (ls work) ++ rest)) :: s2) := by rw [hsp, ca]
      simp only [cd, ca] at h2 ⊢; omega)
    rw [p1]
    refine w_st 0 hA ok2 rfl rfl rfl (decide_eq_true (by rw [List.length_append, eL.all_len]; show ((ls work).length - 1) * 2 + 1 < (ls work).length * 2 + _; omega)) ?_
    have eset : (eL.all (ls work) ++ rest).set (((ls work).length - 1) * 2 + 1) (.int .i64 (A.rawF g.ta)) = eL.all (setLast (ls work) (A.rawF g.ta)) ++ rest := eL_set rest _ (ls work) _ (by omega)
    have ok3 : Ok I G (keys ((b, oc ty_epoch_Limbo (eL.all (setLast (ls work) (A.rawF g.ta)) ++ rest)) :: (q, oc ty_guard_look (lkC gq work false times .nilIface)) :: (gq, oc ty_guard_Guard (g.cells mq)) :: (mq, mapObj slV (leC e)) :: ((s1 ++ s2) ++ (leRest e work ++ gar)))) := ok2
    show wp Try.prog _ L (own (A.touchR g.ta) ((b, oc ty_epoch_Limbo ((eL.all (ls work) ++ rest).set (((ls work).length - 1) * 2 + 1) (.int .i64 (A.rawF g.ta)))) :: (q, oc ty_guard_look (lkC gq work false times .nilIface)) :: (gq, oc ty_guard_Guard (g.cells mq)) :: (mq, mapObj slV (leC e)) :: ((s1 ++ s2) ++ (leRest e work ++ gar))) G) _
    rw [eset]
    have hl2 : (setLast (ls work) (A.rawF g.ta)).length = (ls work).length := by unfold setLast; rw [List.length_set]
    have hsY : SlOf y.hb ty_epoch_Limbo eL y.s y.xs := by
      rw [hy]
      exact .inr ⟨b, rest, r, by rw [hl2]; exact hsl, hr, List.mem_append_right _ List.mem_cons_self⟩
    have hyk : y.k = work := by rw [hy]
    have eC : leC (lePut e y) = leC e := leC_same (by rw [hyk, hxs]; exact h2) (by rw [hyk]; rw [hy])
    obtain ⟨p2, ok4⟩ := own_perm (A := A.touchR g.ta) (l' := (q, oc ty_guard_look (lkC gq work false times .nilIface)) :: (gq, oc ty_guard_Guard (g.cells mq)) :: (mq, mapObj slV (leC (lePut e y))) :: (leB (lePut e y) ++ gar)) ok3 (perm_by fun c d c0 cd ca => by
      have h1 := leB_put_c c0 ca e y
      have h2 : c y.hb = c s1 + c ((b, oc ty_epoch_Limbo (eL.all (setLast (ls work) (A.rawF g.ta)) ++ rest)) :: s2) := by rw [hy]; exact ca _ _
      rw [eC]
      rw [hyk] at h1
      simp only [cd, ca] at h2 ⊢; omega)
    rw [p2]
    refine wp_nil.2 (w_ld 0 (x := times) hA ok4 rfl rfl rfl ?_)
    refine wp_ret_of ⟨⟨q, gq, mq, lePut e y, tj, sj, gar⟩, rfl, rfl, ⟨rfl, rfl, rfl⟩, ok4, ⟨rp.le.put hsY, ?_, trivial⟩, hA⟩
    have := lsPut rp.ls y
    rw [hy] at this ⊢
    exact this

theorem look_rest (x : Lk) (j : LkJ) (hA : Aw I A) (ok : Ok I G (keys (x.bl j))) (rp : x.rep j) (hf : x.first = false) (hi : x.inv A) :
    wp Try.prog (t_guard_look_Step (some ⟨j.q, 0, none⟩) (aI I)) L (own A (x.bl j) G) (LkP (x.step A) j I G) := by
  have hlen := hi.ll
  have hwb := hi.wb
  have hmi := hi.mi
  unfold Lk.step
  rw [if_neg (by rw [hf]; decide)]
  unfold Lk.go t_guard_look_Step
  have ok0 := ok
  obtain ⟨g, ls, work, first, times, m⟩ := x
  have hf : first = false := hf
  subst hf
  cases m with
  | no =>
    have bs := begin_spec ⟨g, ls, work, false, times, .no⟩ j hA ok rp rfl hlen
    unfold Lk.bl at ok
    refine wp_nil.2 (w_ld 0 (x := false) hA ok rfl rfl rfl (wp_false rfl ?_))
    refine wp_nil.2 (w_ld 0 (x := .nilIface) hA ok rfl rfl rfl ?_)
    refine look_val (x := true) (eqlMc0 _) (wp_true rfl ?_)
    refine wp_nil.2 (w_ld 0 (x := times) hA ok rfl rfl rfl ?_)
    by_cases ht : 0 < times
    · refine wp_true (decide_eq_true ht) ?_
      refine wp_call_of bs ?_
      rintro v K ⟨j', rfl, rfl, e1, e2, e3, ok', rp'⟩
      refine ⟨(), rfl, ?_⟩
      show wp Try.prog _ L _ (LkP ((if 0 < times then Lk.begin ⟨g, ls, work, false, times, .no⟩ else ⟨g, ls, work, false, times, .no⟩).mid A) j I G)
      rw [if_pos ht, ← e1]
      exact lkT_wp ⟨e1, e2, e3⟩ hA ok' rp' (begin_inv hlen hwb)
    · refine wp_false (decide_eq_false ht) ?_
      show wp Try.prog _ L _ (LkP ((if 0 < times then Lk.begin ⟨g, ls, work, false, times, .no⟩ else ⟨g, ls, work, false, times, .no⟩).mid A) j I G)
      rw [if_neg ht]
      exact lkT_wp (x := ⟨g, ls, work, false, times, .no⟩) ⟨rfl, rfl, rfl⟩ hA ok0 rp hmi
  | tn m =>
    unfold Lk.bl at ok
    refine wp_nil.2 (w_ld 0 (x := false) hA ok rfl rfl rfl (wp_false rfl ?_))
    refine wp_nil.2 (w_ld 0 (x := .iface ty_p_epoch_Turn (.pointer (some ⟨j.tj.q, 0, none⟩))) hA ok rfl rfl rfl ?_)
    refine look_val (x := false) (eqlMc _ _ _) (wp_false rfl ?_)
    exact lkT_wp (x := ⟨g, ls, work, false, times, .tn m⟩) ⟨rfl, rfl, rfl⟩ hA ok0 rp hmi
  | sc m =>
    unfold Lk.bl at ok
    refine wp_nil.2 (w_ld 0 (x := false) hA ok rfl rfl rfl (wp_false rfl ?_))
    refine wp_nil.2 (w_ld 0 (x := .iface ty_p_hazard_Scan (.pointer (some ⟨j.sj.q, 0, none⟩))) hA ok rfl rfl rfl ?_)
    refine look_val (x := false) (eqlMc _ _ _) (wp_false rfl ?_)
    exact lkT_wp (x := ⟨g, ls, work, false, times, .sc m⟩) ⟨rfl, rfl, rfl⟩ hA ok0 rp hmi
end

theorem mLk_ok (gq mq : Nat) : (mLk gq mq).ok := by
  rintro I A G x j hA ok ⟨rp, e1, e2⟩ hi
  refine t_guard_look_Step_spec fun L => ?_
  refine Go.Fw.wp_mono _ (R := LkP (x.step A) j I G) ?_ (fun _ _ _ h => h) ?_
  · by_cases hf : x.first = true
    · exact look_first x j hA ok rp hf hi
    · exact look_rest x j hA ok rp (by simpa using hf) hi
  · rintro v K ⟨j', rfl, rfl, ⟨a, b, c⟩, ok', rp', hA'⟩
    exact ⟨j', rfl, rfl, a, ok', ⟨rp', b.trans e1, c.trans e2⟩, hA'⟩
end Go.Proofs.Ytcjhakdopnamoaa

set_option linter.unusedVariables false
set_option linter.unusedSimpArgs false
set_option maxRecDepth 20000
namespace Go.Proofs.Ytcjhakdopnamoaa
open Go Go.Fw

def retLk (g : Gd) (ls : Int → List (Int × Int)) (k h : Int) : Lk := ⟨g, setL ls k (ls k ++ [(h, 0)]), k, g.ep, if g.th ≤ ((ls k).length : Int) + 1 then 1 else 0, .no⟩
def retM (g : Gd) (ls : Int → List (Int × Int)) (k h : Int) : Option Lk :=
  if g.ep = true then some (retLk g ls k h) else if g.th ≤ ((ls k).length : Int) + 1 then some (retLk g ls k h).begin else none
/-- A guard's lists in memory. -/
structure GdS (e : List LE) (ls : Int → List (Int × Int)) : Prop where
  le : leOk e
  ls : ∀ k, (leGet e k).xs = ls k

def GPost (o : Option Lk) (g : Gd) (ls : Int → List (Int × Int)) (q mq : Nat) (A : Ar) (I : List Nat) (G : Heap) : Value → Heap → Prop := fun v K => match o with
  | none => ∃ e gar, v = .nilIface ∧ K = own A (g.bl q mq e ++ gar) G ∧ Ok I G (keys (g.bl q mq e ++ gar)) ∧ GdS e ls
  | some x => ∃ j : LkJ, v = .iface ty_p_guard_look (.pointer (some ⟨j.q, 0, none⟩)) ∧ K = own A (x.bl j) G ∧ Ok I G (keys (x.bl j)) ∧ (mLk q mq).rep x j

section
variable {L : Hands} {R : Value → Heap → Prop} {G : Heap} {l rest : Bl} {A : Ar} {I : List Nat}

theorem w_ckLk {e : List LE} {k : Int} {mq : Nat} {s : Sl} {t : Tree} (ix : Nat) (hA : Aw I A) (ok : Ok I G (keys l)) (hi : l[ix]? = some (mq, mapObj slV (leC e))) (hs : s = (leGet e k).s)
    (h : wp Try.prog t L (own A l G) R) :
    wp Try.prog (.check (opS Try.prog (.lookup ty_m_int_s_epoch_Limbo (.tmp 0) (.tmp 1) false) ty_s_epoch_Limbo [(.map (some mq)), (.int .i64 k)]) (.slice s.a s.len s.cap) t) L (own A l G) R := by
  subst hs
  refine ⟨?_, h⟩
  have hy : (match alGet (leC e) k with | some v => slV v | none => slV sl0) = slV (leGet e k).s := leC_get e k
  have h3 := still_lookup (P := Try.prog) (t := ty_m_int_s_epoch_Limbo) (u := ty_s_epoch_Limbo) (kt := ty_int) (et := ty_s_epoch_Limbo) (x := k) (z := slV sl0) (own_get hA ok hi) rfl rfl rfl rfl
  have h4 : ∀ v : Value, v = slV (leGet e k).s → astill Try.prog (opS Try.prog (.lookup ty_m_int_s_epoch_Limbo (.tmp 0) (.tmp 1) false) ty_s_epoch_Limbo [(.map (some mq)), (.int .i64 k)]) (own A l G) (fun n => nextL Try.prog n (own A l G) v) → astill Try.prog (opS Try.prog (.lookup ty_m_int_s_epoch_Limbo (.tmp 0) (.tmp 1) false) ty_s_epoch_Limbo [(.map (some mq)), (.int .i64 k)]) (own A l G) (fun n => nextL Try.prog n (own A l G) (slV (leGet e k).s)) := fun v hv h => hv ▸ h
  revert hy h3
  cases alGet (leC e) k with
  | some v => exact fun hy h3 => h4 _ hy h3
  | none => exact fun hy h3 => h4 _ hy h3

end
end Go.Proofs.Ytcjhakdopnamoaa

set_option linter.unusedVariables false
set_option linter.unusedSimpArgs false
set_option maxRecDepth 20000
namespace Go.Proofs.Ytcjhakdopnamoaa
open Go Go.Fw

def tj0 : TnJ := ⟨0, sl0, sl0, sl0, [], [], [], []⟩
def sj0 : ScJ := ⟨0, 0, sl0, sl0, sl0, [], [], [], []⟩

section
variable {L : Hands} {R : Value → Heap → Prop} {G : Heap} {l rest : Bl} {A : Ar} {I : List Nat}

theorem GdS.put {e : List LE} {ls : Int → List (Int × Int)} (gs : GdS e ls) {y : LE} (hy : SlOf y.hb ty_epoch_Limbo eL y.s y.xs) : GdS (lePut e y) (setL ls y.k y.xs) := ⟨gs.le.put hy, lsPut gs.ls y⟩

set_option maxHeartbeats 2000000 in
theorem retire_spec {g : Gd} {e : List LE} {ls : Int → List (Int × Int)} {q mq : Nat} {k h : Int} (hA : Aw I A) (ok : Ok I G (keys (g.bl q mq e))) (gs : GdS e ls) (hl : (ls k).length < 1000) :
    SpecF Try.prog f_guard_Guard_Retire #[.pointer (some ⟨q, 0, none⟩), .pointer (aI I), .int .i64 k, .int .i64 h] (own A (g.bl q mq e) G) (GPost (retM g ls k h) g (setL ls k (ls k ++ [(h, 0)])) q mq (A.retireF h) I G) := by
  refine t_guard_Guard_Retire_spec fun L => ?_
  unfold t_guard_Guard_Retire
  have hs0 : SlOf (leGet e k).hb ty_epoch_Limbo eL (leGet e k).s (leGet e k).xs := gs.le k
  rw [gs.ls k] at hs0
  refine w_Retire hA fun hA => ?_
  refine wp_nil.2 (w_ld 0 (x := some mq) hA ok rfl rfl rfl ?_)
  refine wp_nil.2 (w_ld 0 (x := some mq) hA ok rfl rfl rfl ?_)
  refine w_lk 1 hA ok rfl ?_
  refine w_newS (c := [.int .i64 h, .int .i64 0]) hA ok fun z ok1 => ?_
  refine w_ckLk 2 hA ok1 rfl rfl ?_
  refine w_ck 1 hA ok1 rfl rfl rfl ?_
  refine w_ckn rfl ?_
  refine w_ck 1 hA ok1 rfl rfl rfl ?_
  refine w_ckn rfl ?_
  obtain ⟨p1, ok2⟩ := own_perm (A := A.retireF h) (l' := ((z, oc ty_epoch_Limbo [.int .i64 h, .int .i64 0]) :: (q, oc ty_guard_Guard (g.cells mq)) :: (mq, mapObj slV (leC e)) :: leRest e k) ++ (leGet e k).hb) ok1 (perm_by fun c d c0 cd ca => by
    have h1 := leB_c c0 ca e k
    simp only [Gd.bl, List.cons_append, cd, ca]; omega)
  rw [p1]
  refine w_appT (E := eL) elL (ys := [(h, 0)]) (t := ⟨some ⟨z, 0, none⟩, 1, 1⟩) hA ok2 hs0 ?_ rfl (by simp; omega) fun s' tl' hs' ok3 ap => ?_
  · exact cell_row hA ok2 (List.mem_append_left _ List.mem_cons_self) 0 rfl
  refine w_ck 1 hA ok3 rfl rfl rfl ?_
  refine w_ckn rfl ?_
  obtain ⟨y, hy⟩ : ∃ y : LE, y = ⟨k, s', ls k ++ [(h, 0)], tl'⟩ := ⟨_, rfl⟩
  have eput : alPut (leC e) k s' = leC (lePut e y) := by rw [leC_put, hy]
  refine w_mapS 2 hA ok3 rfl ?_
  rw [eput]
  have gs' : GdS (lePut e y) (setL ls k (ls k ++ [(h, 0)])) := by
    have := gs.put (y := y) (by rw [hy]; exact hs')
    rw [hy] at this ⊢; exact this
  have ok4 : Ok I G (keys (((z, oc ty_epoch_Limbo [.int .i64 h, .int .i64 0]) :: (q, oc ty_guard_Guard (g.cells mq)) :: (mq, mapObj slV (leC (lePut e y))) :: leRest e k) ++ tl')) := ok3
  show wp Try.prog _ L (own (A.retireF h) (((z, oc ty_epoch_Limbo [.int .i64 h, .int .i64 0]) :: (q, oc ty_guard_Guard (g.cells mq)) :: (mq, mapObj slV (leC (lePut e y))) :: leRest e k) ++ tl') G) _
  obtain ⟨p2, ok5⟩ := own_perm (A := A.retireF h) (l' := g.bl q mq (lePut e y) ++ [(z, oc ty_epoch_Limbo [.int .i64 h, .int .i64 0])]) ok4 (perm_by fun c d c0 cd ca => by
    have h1 := leB_put_c c0 ca e y
    have h3 : c y.hb = c tl' := by rw [hy]
    have h4 : c (leRest e y.k) = c (leRest e k) := by rw [hy]
    simp only [Gd.bl, List.cons_append, cd, ca, c0]; omega)
  rw [p2]
  obtain ⟨c1, hc1⟩ : ∃ c1 : Nat × Obj, c1 = (z, oc ty_epoch_Limbo [.int .i64 h, .int .i64 0]) := ⟨_, rfl⟩
  rw [← hc1] at ok5 ⊢
  generalize lePut e y = e1 at *
  clear p1 p2 hc1 ok4 ok3 ok2 ok1 hs0 hs' eput hy
  have hsl : (leGet e1 k).s.len = (ls k).length + 1 := by rw [(gs'.le k).len, gs'.ls k, setL_same, List.length_append]; rfl
  refine wp_nil.2 (w_ld 0 (x := gmode g.ep g.w g.ta) hA ok5 rfl rfl rfl ?_)
  have hret : ∀ (L : Hands) (t : Int) (x42 : Nat) (c2 : Nat × Obj) (E : Bool), (if g.th ≤ ((ls k).length : Int) + 1 then (1 : Int) else 0) = t → g.ep = E → Ok I G (keys ((x42, oc ty_guard_look (lkC q k E t .nilIface)) :: c2 :: (g.bl q mq e1 ++ [c1]))) →
      own (A.retireF h) ((x42, oc ty_guard_look (lkC q k E t .nilIface)) :: c2 :: (g.bl q mq e1 ++ [c1])) G = own (A.retireF h) ((retLk g ls k h).bl ⟨x42, q, mq, e1, tj0, sj0, [c2, c1]⟩) G ∧ Ok I G (keys ((retLk g ls k h).bl ⟨x42, q, mq, e1, tj0, sj0, [c2, c1]⟩)) := fun L t x42 c2 E ht hE ok => by
    subst ht hE
    exact own_perm (A := A.retireF h) ok (perm_by fun c d c0 cd ca => by
      show _ = c ((x42, oc ty_guard_look (lkC q k g.ep (if g.th ≤ ((ls k).length : Int) + 1 then (1 : Int) else 0) .nilIface)) :: (g.bl q mq e1 ++ ([] ++ [c2, c1])))
      simp only [cd, ca, c0]; omega)
  have rpR : ∀ (x42 : Nat) (c2 : Nat × Obj), (retLk g ls k h).rep ⟨x42, q, mq, e1, tj0, sj0, [c2, c1]⟩ := fun x42 c2 => ⟨gs'.le, gs'.ls, trivial⟩
  unfold retM
  cases hp : g.ep with
  | true =>
    rw [if_pos rfl]
    refine look_val (x := ((g.w, g.ta, ()), true, ())) (ta_epT _ _ _) ?_
    refine w_newP (c := [.int .i64 0, .int .i64 0]) hA ok5 fun x9 ok6 => ?_
    refine w_stA 0 hA ok6 rfl rfl rfl rfl ?_
    refine w_newP (c := [.pointer (some ⟨q, 0, none⟩), .int .i64 k, .bool true, .int .i64 0, .nilIface]) hA (by exact ok6) fun x42 ok7 => ?_
    refine wp_nil.2 (w_ld 2 (x := some mq) hA (by exact ok7) rfl rfl rfl ?_)
    refine w_lk (e := e1) 3 hA (by exact ok7) rfl ?_
    refine wp_nil.2 (w_ld 2 (x := g.th) hA (by exact ok7) rfl rfl rfl ?_)
    by_cases ht : g.th ≤ ((ls k).length : Int) + 1
    · refine wp_true (decide_eq_true (by show g.th ≤ (((leGet e1 k).s.len : Nat) : Int); rw [hsl]; omega)) ?_
      refine wp_nil.2 (w_st 0 hA (by exact ok7) rfl rfl rfl rfl ?_)
      refine wp_false rfl (wp_false rfl ?_)
      obtain ⟨p3, ok8⟩ := hret L 1 x42 _ true (if_pos ht) hp ok7
      exact wp_ret_of ⟨_, rfl, p3, ok8, rpR x42 _, rfl, rfl⟩
    · refine wp_false (decide_eq_false (by show ¬ g.th ≤ (((leGet e1 k).s.len : Nat) : Int); rw [hsl]; omega)) ?_
      refine wp_false rfl (wp_false rfl ?_)
      obtain ⟨p3, ok8⟩ := hret L 0 x42 _ true (if_neg ht) hp ok7
      exact wp_ret_of ⟨_, rfl, p3, ok8, rpR x42 _, rfl, rfl⟩
  | false =>
    rw [if_neg (by decide)]
    refine look_val (x := ((0, 0, ()), false, ())) (ta_epF _ _ _) ?_
    refine w_newP (c := [.int .i64 0, .int .i64 0]) hA ok5 fun x9 ok6 => ?_
    refine w_stA 0 hA ok6 rfl rfl rfl rfl ?_
    refine w_newP (c := [.pointer (some ⟨q, 0, none⟩), .int .i64 k, .bool false, .int .i64 0, .nilIface]) hA (by exact ok6) fun x42 ok7 => ?_
    refine wp_nil.2 (w_ld 2 (x := some mq) hA (by exact ok7) rfl rfl rfl ?_)
    refine w_lk (e := e1) 3 hA (by exact ok7) rfl ?_
    refine wp_nil.2 (w_ld 2 (x := g.th) hA (by exact ok7) rfl rfl rfl ?_)
    by_cases ht : g.th ≤ ((ls k).length : Int) + 1
    · rw [if_pos ht]
      refine wp_true (decide_eq_true (by show g.th ≤ (((leGet e1 k).s.len : Nat) : Int); rw [hsl]; omega)) ?_
      refine wp_nil.2 (w_st 0 hA (by exact ok7) rfl rfl rfl rfl ?_)
      refine wp_true rfl ?_
      refine wp_nil.2 (w_ld 0 (x := 1) hA (by exact ok7) rfl rfl rfl ?_)
      refine wp_false rfl (wp_true rfl ?_)
      obtain ⟨p3, ok8⟩ := hret L 1 x42 _ false (if_pos ht) hp ok7
      refine wp_call_of (p3 ▸ begin_spec (retLk g ls k h) ⟨x42, q, mq, e1, tj0, sj0, [_, c1]⟩ hA ok8 (rpR x42 _) rfl (by show (setL ls k (ls k ++ [(h, 0)]) k).length ≤ 1000; rw [setL_same, List.length_append]; show (ls k).length + 1 ≤ 1000; omega)) ?_
      rintro v K ⟨j', rfl, rfl, e1, e2, e3, ok', rp'⟩
      refine ⟨(), rfl, wp_ret_of ⟨j', ?_, rfl, ok', rp', e2, e3⟩⟩
      have e1 : j'.q = x42 := e1
      rw [e1]
    · rw [if_neg ht]
      refine wp_false (decide_eq_false (by show ¬ g.th ≤ (((leGet e1 k).s.len : Nat) : Int); rw [hsl]; omega)) ?_
      refine wp_true rfl ?_
      refine wp_nil.2 (w_ld 0 (x := 0) hA (by exact ok7) rfl rfl rfl ?_)
      refine wp_true rfl ?_
      obtain ⟨c3, hc3⟩ : ∃ c3 : Nat × Obj, c3 = (x42, oc ty_guard_look (lkC q k false 0 .nilIface)) := ⟨_, rfl⟩
      obtain ⟨c2, hc2⟩ : ∃ c2 : Nat × Obj, c2 = (x9, oc ty_guard_epochs [.int .i64 0, .int .i64 0]) := ⟨_, rfl⟩
      have ok7 : Ok I G (keys ((x42, oc ty_guard_look (lkC q k false 0 .nilIface)) :: (x9, oc ty_guard_epochs [.int .i64 0, .int .i64 0]) :: (g.bl q mq e1 ++ [c1]))) := ok7
      show wp Try.prog _ L (own (A.retireF h) ((x42, oc ty_guard_look (lkC q k false 0 .nilIface)) :: (x9, oc ty_guard_epochs [.int .i64 0, .int .i64 0]) :: (g.bl q mq e1 ++ [c1])) G) _
      rw [← hc3, ← hc2] at ok7 ⊢
      obtain ⟨p4, ok8⟩ := own_perm (A := A.retireF h) (l' := g.bl q mq e1 ++ [c3, c2, c1]) ok7 (perm_by fun c d c0 cd ca => by simp only [cd, ca, c0]; omega)
      rw [p4]
      exact wp_ret_of ⟨e1, [c3, c2, c1], rfl, rfl, ok8, gs'⟩
end
end Go.Proofs.Ytcjhakdopnamoaa

set_option linter.unusedVariables false
set_option linter.unusedSimpArgs false
set_option maxRecDepth 20000
namespace Go.Proofs.Ytcjhakdopnamoaa
open Go Go.Fw

/-! ### A scan alone, to its end -/

theorem MchR.Path.step {M J : Type} {X : MchR M J} {n : Nat} {m m1 m' : M} {A A1 A' : Ar} (h1 : X.inv m A) (h2 : X.step m A = (m1, A1)) (h3 : A1.uses ≤ w64 (A.uses + 1)) (h4 : X.fin m1 = false) (h5 : X.Path n m1 A1 m' A') : X.Path (n + 1) m A m' A' := .cons h1 h2 h3 h4 h5

/-- One that sorted, with these to free. -/
structure Sc.base (m : Sc) : Prop where
  tw : 1 ≤ m.tw ∧ m.tw ≤ 1000
  wd : m.word = 2 * m.tw
  ll : m.l.length ≤ 1000
  so : m.sorted = true
abbrev Sc.on (m : Sc) (fs : List Fe) : Sc := { m with frees := fs, ended := decide (fs = []) }

theorem sc_free {m : Sc} (hm : m.base) {fs : List Fe} : ∀ {n : Nat} {f f' : Fe} {A A' : Ar}, mFe.Runs n f A f' A' → f.done = false →
    (fs ≠ [] → mSc.Path n (m.on (f :: fs)) A (m.on fs) A') ∧ (fs = [] → mSc.Runs n (m.on [f]) A (m.on []) A') := by
  intro n f f' A A' h
  have iv : ∀ (f : Fe) (A : Ar), mSc.inv (m.on (f :: fs)) A := fun f A => ⟨hm.tw, by show 0 ≤ m.word; have := hm.wd; have := hm.tw; omega, hm.ll, fun _ => .inr ⟨by show 2 * m.tw ≤ m.word; have := hm.wd; omega, hm.so, by simp⟩⟩
  have nw : ¬ m.word < 2 * m.tw := by have := hm.wd; omega
  have st1 : ∀ {f : Fe} {A : Ar}, (f.step A).1.done = true → mSc.step (m.on (f :: fs)) A = (m.on fs, (f.step A).2) := fun {f A} hd => by
    show Sc.step (m.on (f :: fs)) A = _
    unfold Sc.step
    rw [if_neg (by simp), if_neg nw]
    dsimp only
    rw [if_pos hd]
  have st2 : ∀ {f : Fe} {A : Ar}, (f.step A).1.done = false → mSc.step (m.on (f :: fs)) A = (m.on ((f.step A).1 :: fs), (f.step A).2) := fun {f A} hd => by
    show Sc.step (m.on (f :: fs)) A = _
    unfold Sc.step
    rw [if_neg (by simp), if_neg nw]
    dsimp only
    rw [if_neg (by rw [hd]; simp)]
    simp
  induction h with
  | @one f A h1 h2 h3 =>
    intro hf
    have h3 : (f.step A).1.done = true := h3
    refine ⟨fun hn => .cons (iv f A) (st1 h3) h2 ?_ .nil, fun hn => ?_⟩
    · show decide (fs = []) = false; simpa using hn
    · subst hn
      exact .one (iv f A) (st1 h3) h2 rfl
  | @more n f A f' A' h1 h2 h3 h4 ih =>
    intro hf
    have h3 : (f.step A).1.done = false := h3
    obtain ⟨i1, i2⟩ := ih h3
    refine ⟨fun hn => .cons (iv f A) (st2 h3) h2 rfl (i1 hn), fun hn => ?_⟩
    have := i2 hn
    subst hn
    exact .more (iv f A) (st2 h3) h2 rfl this

/-- These were freed. -/
structure Swept (A : Ar) (p : Pl) (w m : Int) (S : Sg) (who : Int) (hs : List Int) (A' : Ar) (S' : Sg) : Prop where
  off : Off p.carved (3 * hs.length) A A'
  sl : SL A' p w m S'
  st : ∀ k, A'.stF k = if k ∈ hs then 0 else A.stF k
  nL : A'.nL = A.nL
  nR : A'.nR = A.nR - 8 * hs.length
  ch : S'.ch (4 * who) = (hs.map opB).reverse ++ S.ch (4 * who)
  nc : S'.nc = S.nc

theorem sweep {m : Sc} (hm : m.base) {p : Pl} {w mm who : Int} (wh : 0 ≤ who ∧ who < w) : ∀ (hs : List Int) (A : Ar) (S : Sg), hs ≠ [] → hs.Nodup → SL A p w mm S → A.wf → A.uses + 3 * hs.length ≤ 1000000 → 8 * hs.length ≤ A.nR → (∀ h ∈ hs, A.stF h = 2 ∧ opC h = 0) →
    ∃ A' S', mSc.Runs (3 * hs.length) (m.on (hs.map (newFe p who))) A (m.on []) A' ∧ Swept A p w mm S who hs A' S'
  | [], _, _, h, _, _, _, _, _, _ => (h rfl).elim
  | h :: hs, A, S, _, hnd, X, hwf, hu, hr, hh => by
    obtain ⟨n1, n2⟩ := List.nodup_cons.1 hnd
    obtain ⟨h1, h2⟩ := hh h List.mem_cons_self
    simp only [List.length_cons] at hu hr
    have us := X.F.us
    obtain ⟨x', A1, Z⟩ := free_solo X hwf (by omega) wh h1 (by rw [h2, show sizeF 0 = 8 from rfl]; omega)
    obtain ⟨f1, f2⟩ := sc_free hm (fs := hs.map (newFe p who)) Z.run rfl
    have z1 := Z.off.us
    have z2 := Z.nR
    rw [h2, show sizeF 0 = 8 from rfl] at z2
    have chz : upd S.ch (4 * who + opC h) (opB h :: S.ch (4 * who + opC h)) (4 * who) = opB h :: S.ch (4 * who) := by
      rw [h2, Int.add_zero]; unfold upd; rw [if_pos rfl]
    by_cases he : hs = []
    · subst he
      refine ⟨A1, _, f2 rfl, Z.off, Z.sl, fun k => ?_, Z.nL, ?_, chz, rfl⟩
      · rw [Z.st k]; simp
      · rw [z2]; simp
    · obtain ⟨A2, S2, r2, W⟩ := sweep hm wh hs A1 _ he n2 Z.sl Z.off.wf (by omega) (by omega) fun k hk => by
        have := hh k (List.mem_cons_of_mem _ hk)
        refine ⟨?_, this.2⟩
        rw [Z.st k, if_neg (fun e : k = h => n1 (by rw [← e]; exact hk))]; exact this.1
      refine ⟨A2, S2, ?_, ?_, W.sl, fun k => ?_, W.nL.trans Z.nL, ?_, ?_, W.nc⟩
      · have := (f1 (by simpa using he)).run r2
        rw [List.length_cons, show 3 * (hs.length + 1) = 3 + 3 * hs.length by omega]
        exact this
      · have := Z.off.trans W.off
        rw [List.length_cons]
        rw [show (3 * ((hs.length + 1 : Nat) : Int)) = 3 + 3 * (hs.length : Int) by omega]
        exact this
      · rw [W.st k, Z.st k]
        by_cases e1 : k ∈ hs
        · rw [if_pos e1, if_pos (List.mem_cons_of_mem _ e1)]
        · rw [if_neg e1]
          by_cases e2 : k = h
          · rw [if_pos e2, if_pos (by rw [e2]; exact List.mem_cons_self)]
          · rw [if_neg e2, if_neg (by simp [e1, e2])]
      · rw [W.nR, z2, List.length_cons]; omega
      · rw [W.ch]
        show _ ++ upd S.ch (4 * who + opC h) (opB h :: S.ch (4 * who + opC h)) (4 * who) = _
        rw [chz]; simp
end Go.Proofs.Ytcjhakdopnamoaa

set_option linter.unusedVariables false
set_option linter.unusedSimpArgs false
set_option maxRecDepth 20000
namespace Go.Proofs.Ytcjhakdopnamoaa
open Go Go.Fw

def seenN (A : Ar) (ta : Int) : Nat → List (Int × Bool)
  | 0 => []
  | n + 1 => alPut (seenN A ta n) (A.rawF (ta + n)) true

theorem seenN_in (A : Ar) (ta h : Int) : ∀ n, inS (seenN A ta n) h = true ↔ ∃ i : Nat, i < n ∧ A.rawF (ta + i) = h
  | 0 => by constructor
            · intro h; cases h
            · rintro ⟨i, h, _⟩; omega
  | n + 1 => by
    have ih := seenN_in A ta h n
    unfold inS at ih ⊢
    unfold seenN
    rw [alGet_put]
    by_cases e : h = A.rawF (ta + n)
    · rw [if_pos e]
      refine ⟨fun _ => ⟨n, by omega, e.symm⟩, fun _ => rfl⟩
    · rw [if_neg e, ih]
      constructor
      · rintro ⟨i, h1, h2⟩; exact ⟨i, by omega, h2⟩
      · rintro ⟨i, h1, h2⟩
        by_cases e2 : i = n
        · subst e2; exact (e h2.symm).elim
        · exact ⟨i, by omega, h2⟩

section
variable {A : Ar} {p : Pl} {w m : Int} {S : Sg}

def scN (A : Ar) (tw ta : Int) (p : Pl) (who : Int) (xs : List Int) (n : Nat) : Sc := { newSc tw ta p who xs with seen := seenN A ta n, word := n }

theorem tick_later {A : Ar} {i : Int} (h : A.rawOk i) (h0 : 0 ≤ A.uses) (h1 : A.uses ≤ 1000000000) : A.touchR i = A.later 1 := by
  rw [touchR_yes h]
  unfold Ar.tick Ar.later
  rw [w64_in (by omega) (by omega)]
theorem later_add (A : Ar) (a b : Int) : (A.later a).later b = A.later (a + b) := by unfold Ar.later; dsimp only; rw [Int.add_assoc]

theorem words_path {tw ta who : Int} {xs : List Int} (tb : 1 ≤ tw ∧ tw ≤ 1000) (ll : xs.length ≤ 1000) (h0 : 0 ≤ ta) (h1 : ta + 2 * tw ≤ A.raw.length) (h2 : (A.raw.length : Int) ≤ 1000000) (u0 : 0 ≤ A.uses) (u1 : A.uses ≤ 1000000) :
    ∀ n : Nat, (n : Int) < 2 * tw → mSc.Path n (newSc tw ta p who xs) A (scN A tw ta p who xs n) (A.later n)
  | 0, _ => by rw [show ((0 : Nat) : Int) = 0 from rfl, later0]; exact .nil
  | n + 1, hn => by
    have e : w64 (ta + n) = ta + n := w64_in (by omega) (by omega)
    have e2 : w64 (A.uses + n + 1) = A.uses + n + 1 := w64_in (by omega) (by omega)
    refine (words_path tb ll h0 h1 h2 u0 u1 n (by omega)).trans (.cons (x1 := scN A tw ta p who xs (n + 1)) (D1 := A.later ((n + 1 : Nat) : Int)) ⟨tb, by show (0 : Int) ≤ n; omega, ll, fun _ => .inl ⟨by show (n : Int) < 2 * tw; omega, rfl, rfl, rfl⟩⟩ ?_ ?_ rfl .nil)
    · show Sc.step (scN A tw ta p who xs n) (A.later n) = _
      unfold Sc.step
      rw [if_neg (show ¬ (scN A tw ta p who xs n).ended = true by intro h; cases h)]
      have en : (scN A tw ta p who xs n).word = n := rfl
      have et : (scN A tw ta p who xs n).ta = ta := rfl
      have ew : (scN A tw ta p who xs n).tw = tw := rfl
      rw [en, et, ew, if_pos (show (n : Int) < 2 * tw by omega), if_neg (by omega), e, tick_later (A := A.later n) (i := ta + n) ⟨by omega, by show ta + n < (A.raw.length : Int); omega⟩ (by show 0 ≤ A.uses + n; omega) (by show A.uses + n ≤ _; omega), later_add]
      unfold Sc.word1
      rw [en, et, e]
      rfl
    · show A.uses + ((n + 1 : Nat) : Int) ≤ w64 (A.uses + n + 1)
      rw [e2]; omega

def gone (A : Ar) (tw ta : Int) (xs : List Int) : List Int := xs.filter fun h => !inS (seenN A ta (2 * tw).toNat) h
def lft (A : Ar) (tw ta : Int) (xs : List Int) : List Int := xs.filter (inS (seenN A ta (2 * tw).toNat))

theorem Swept.refl {who : Int} (X : SL A p w m S) (h : A.wf) : Swept A p w m S who [] A S := ⟨.refl h, X, fun k => by rw [if_neg (by simp)], rfl, by simp, by simp, rfl⟩

theorem scan_solo {tw ta who : Int} {xs : List Int} (X : SL A p w m S) (hwf : A.wf) (tb : 1 ≤ tw ∧ tw ≤ 1000) (ll : xs.length ≤ 1000) (h0 : 0 ≤ ta) (h1 : ta + 2 * tw ≤ A.raw.length) (h2 : (A.raw.length : Int) ≤ 1000000) (u1 : A.uses ≤ 900000)
    (wh : 0 ≤ who ∧ who < w) (nd : xs.Nodup) (nr : 8 * xs.length ≤ A.nR) (hh : ∀ h ∈ xs, A.stF h = 2 ∧ opC h = 0) :
    ∃ A' S' m', mSc.Runs (1 + 3 * (gone A tw ta xs).length) (scN A tw ta p who xs ((2 * tw).toNat - 1)) (A.later (2 * tw - 1)) m' A' ∧ m'.left = lft A tw ta xs ∧ m'.ended = true ∧ Swept (A.later (2 * tw)) p w m S who (gone A tw ta xs) A' S' := by
  have u0 := X.F.us
  have e : w64 (ta + (2 * tw - 1)) = ta + (2 * tw - 1) := w64_in (by omega) (by omega)
  have e2 : w64 (A.uses + (2 * tw - 1) + 1) = A.uses + (2 * tw - 1) + 1 := w64_in (by omega) (by omega)
  obtain ⟨n, hn⟩ : ∃ n : Nat, (2 * tw).toNat = n + 1 := ⟨(2 * tw).toNat - 1, by omega⟩
  have hn1 : (n : Int) = 2 * tw - 1 := by omega
  rw [hn, Nat.add_sub_cancel, ← hn1]
  rw [← hn1] at e e2
  let B : Sc := ⟨tw, ta, p, who, n + 1, xs, seenN A ta (n + 1), true, [], lft A tw ta xs, false⟩
  have hgo : xs.filter (fun h => !inS (seenN A ta (n + 1)) h) = gone A tw ta xs := by unfold gone; rw [hn]
  have hlf : xs.filter (inS (seenN A ta (n + 1))) = lft A tw ta xs := by unfold lft; rw [hn]
  have hB : B.base := ⟨tb, by show ((n : Int) + 1) = 2 * tw; omega, ll, rfl⟩
  have hst : mSc.step (scN A tw ta p who xs n) (A.later n) = (B.on ((gone A tw ta xs).map (newFe p who)), A.later (2 * tw)) := by
    show Sc.step (scN A tw ta p who xs n) (A.later n) = _
    unfold Sc.step
    rw [if_neg (show ¬ (scN A tw ta p who xs n).ended = true by intro h; cases h)]
    have en : (scN A tw ta p who xs n).word = n := rfl
    have et : (scN A tw ta p who xs n).ta = ta := rfl
    have ew : (scN A tw ta p who xs n).tw = tw := rfl
    rw [en, et, ew, if_pos (show (n : Int) < 2 * tw by omega), if_pos (by omega), e, tick_later (A := A.later n) (i := ta + n) ⟨by omega, by show ta + n < (A.raw.length : Int); omega⟩ (by show 0 ≤ A.uses + n; omega) (by show A.uses + n ≤ _; omega), later_add, show (n : Int) + 1 = 2 * tw by omega]
    refine Prod.ext ?_ rfl
    have hs : (scN A tw ta p who xs n).word1 (A.later n) = ⟨tw, ta, p, who, n + 1, xs, seenN A ta (n + 1), false, [], [], false⟩ := by
      unfold Sc.word1
      rw [en, et, e]; rfl
    dsimp only
    rw [hs]
    show Sc.mk tw ta p who (n + 1) xs (seenN A ta (n + 1)) true (((xs.take xs.length).filter fun h => !inS (seenN A ta (n + 1)) h).map (newFe p who)) ((xs.take xs.length).filter (inS (seenN A ta (n + 1)))) (decide ((((xs.take xs.length).filter fun h => !inS (seenN A ta (n + 1)) h).map (newFe p who)) = [])) = _
    rw [List.take_length, hgo, hlf]
  have iv : mSc.inv (scN A tw ta p who xs n) (A.later n) := ⟨tb, by show (0 : Int) ≤ n; omega, ll, fun _ => .inl ⟨by show (n : Int) < 2 * tw; omega, rfl, rfl, rfl⟩⟩
  have hu : (A.later (2 * tw)).uses ≤ w64 ((A.later n).uses + 1) := by
    show A.uses + 2 * tw ≤ w64 (A.uses + n + 1)
    rw [e2]; omega
  have hle : (gone A tw ta xs).length ≤ xs.length := List.length_filter_le _ _
  by_cases hg : gone A tw ta xs = []
  · refine ⟨A.later (2 * tw), S, B.on [], ?_, rfl, rfl, ?_⟩
    · rw [hg] at hst ⊢
      exact .one iv hst hu rfl
    · rw [hg]; exact .refl (X.later (by omega)) (later_wf hwf _)
  · obtain ⟨A', S', r, W⟩ := sweep hB (p := p) (w := w) (mm := m) wh (gone A tw ta xs) (A.later (2 * tw)) S hg (nd.filter _) (X.later (by omega)) (later_wf hwf _) (by show A.uses + 2 * tw + _ ≤ _; omega) (by show _ ≤ A.nR; omega) fun h hm => by
      have := hh h (List.mem_filter.1 hm).1
      exact ⟨this.1, this.2⟩
    refine ⟨A', S', B.on [], ?_, rfl, rfl, W⟩
    rw [Nat.add_comm]
    refine .more iv hst hu ?_ r
    show decide ((gone A tw ta xs).map (newFe p who) = []) = false
    simpa using hg
end
end Go.Proofs.Ytcjhakdopnamoaa

set_option linter.unusedVariables false
set_option linter.unusedSimpArgs false
set_option maxRecDepth 20000
namespace Go.Proofs.Ytcjhakdopnamoaa
open Go Go.Fw

section
variable {A B : Ar} {p : Pl} {w m : Int} {S : Sg} {I : List Nat} {L : Hands} {R : Value → Heap → Prop} {G : Heap} {l : Bl}

/-- A word stored that is no part of the slab. -/
structure OutS (A : Ar) (p : Pl) (w m : Int) (S : Sg) (i v : Int) (B : Ar) : Prop where
  sl : SL B p w m S
  st : ∀ h, B.stF h = A.stF h
  nR : B.nR = A.nR
  nL : B.nL = A.nL
  fa : B.fault = A.fault
  us : B.uses = A.uses + 1
  rl : B.raw.length = A.raw.length
  rf : ∀ j, B.rawF j = if j = i then v else A.rawF j
theorem outS (X : SL A p w m S) {i v : Int} (h : p.carved < i ∧ i < A.raw.length) (hu : A.uses ≤ 1000000000) : OutS A p w m S i v (A.storeR i v) := by
  obtain ⟨p1, p2, p3, p4, p5⟩ := X.places
  have wb := X.wb
  have mb := X.mb
  have us := X.F.us
  have ok : A.rawOk i := ⟨by omega, h.2⟩
  have e : A.storeR i v = (A.later 1).setR i.toNat v := by
    unfold Ar.storeR
    rw [if_pos ok]
    have : A.tick = A.later 1 := by unfold Ar.tick Ar.later; rw [w64_in (by omega) (by omega)]
    rw [this]
  rw [e]
  have rf : ∀ j, ((A.later 1).setR i.toNat v).rawF j = if j = i then v else A.rawF j := fun j => rawF_setR (A := A.later 1) ok
  refine ⟨X.congr (fun j h0 h1 => by rw [rf, if_neg (by omega)]) (by show (A.raw.set _ _).length = _; rw [List.length_set]) (by show A.uses ≤ A.uses + 1; omega) rfl (fun h => stF_slots rfl h) rfl rfl rfl rfl rfl rfl rfl rfl, fun h => stF_slots rfl h, rfl, rfl, rfl, rfl, by show (A.raw.set _ _).length = _; rw [List.length_set], rf⟩

/-- A whole scan. -/
theorem scan_all {tw ta who : Int} {xs : List Int} (X : SL A p w m S) (hwf : A.wf) (tb : 1 ≤ tw ∧ tw ≤ 1000) (ll : xs.length ≤ 1000) (h0 : 0 ≤ ta) (h1 : ta + 2 * tw ≤ A.raw.length) (h2 : (A.raw.length : Int) ≤ 1000000) (u1 : A.uses ≤ 900000)
    (wh : 0 ≤ who ∧ who < w) (nd : xs.Nodup) (nr : 8 * xs.length ≤ A.nR) (hh : ∀ h ∈ xs, A.stF h = 2 ∧ opC h = 0) :
    ∃ A' S' m' n, mSc.Runs n (newSc tw ta p who xs) A m' A' ∧ n = 2 * tw.toNat + 3 * (gone A tw ta xs).length ∧ m'.left = lft A tw ta xs ∧ m'.ended = true ∧ Swept (A.later (2 * tw)) p w m S who (gone A tw ta xs) A' S' := by
  obtain ⟨A', S', m', r, q1, q2, q3⟩ := scan_solo X hwf tb ll h0 h1 h2 u1 wh nd nr hh
  have pth := words_path (p := p) (who := who) (xs := xs) tb ll h0 h1 h2 X.F.us (by omega) ((2 * tw).toNat - 1) (by omega)
  have e : (((2 * tw).toNat - 1 : Nat) : Int) = 2 * tw - 1 := by omega
  rw [e] at pth
  exact ⟨A', S', m', _, pth.run r, by omega, q1, q2, q3⟩
end
end Go.Proofs.Ytcjhakdopnamoaa

set_option linter.unusedVariables false
set_option linter.unusedSimpArgs false
set_option maxRecDepth 20000
namespace Go.Proofs.Ytcjhakdopnamoaa
open Go Go.Fw

/-! ### A turn alone, to its end -/

abbrev Tn.on (m : Tn) (fs : List Fe) : Tn := { m with frees := fs, ph := if fs = [] then 4 else 3 }

section
variable {A : Ar} {p : Pl} {w m : Int} {S : Sg}

/-- A pin alone. -/
theorem pin_solo {tw ta who e : Int} (h0 : 0 ≤ ta) (b : 0 ≤ who ∧ who ≤ 1000) (h1 : ta + 1 + who < A.raw.length) (h2 : (A.raw.length : Int) ≤ 1000000) (u0 : 0 ≤ A.uses) (u1 : A.uses ≤ 900000) (he : A.rawF ta = e) (eb : 0 ≤ e ∧ e ≤ 1000000) :
    ∃ m', mPn.Runs 3 (newPn tw ta who) A m' (((A.later 1).storeR (ta + 1 + who) (e + 1)).later 1) := by
  have ew : ewd ta who = ta + 1 + who := ewd_eq ⟨by omega, by omega, by omega, by omega⟩
  have e3 : w64 (e + 1) = e + 1 := w64_in (by omega) (by omega)
  have okT : A.rawOk ta := ⟨h0, by omega⟩
  have okW : (A.later 1).rawOk (ta + 1 + who) := ⟨by omega, h1⟩
  have s0 : mPn.step (newPn tw ta who) A = (⟨tw, ta, who, e, 1⟩, A.later 1) := by
    show Pn.step (newPn tw ta who) A = _
    unfold Pn.step
    rw [if_pos (show (newPn tw ta who).ph = 0 from rfl), show (newPn tw ta who).ta = ta from rfl, he, tick_later okT u0 (by omega)]; rfl
  obtain ⟨B, hB⟩ : ∃ B, B = (A.later 1).storeR (ta + 1 + who) (e + 1) := ⟨_, rfl⟩
  have bs : B = (A.later 2).setR (ta + 1 + who).toNat (e + 1) := by
    rw [hB]; unfold Ar.storeR
    rw [if_pos okW]
    have : (A.later 1).tick = A.later 2 := by unfold Ar.tick Ar.later; dsimp only; rw [w64_in (by omega) (by omega), Int.add_assoc]; rfl
    rw [this]
  have bu : B.uses = A.uses + 2 := by rw [bs]; rfl
  have bl : B.raw.length = A.raw.length := by rw [bs]; show (A.raw.set _ _).length = _; rw [List.length_set]
  have be : B.rawF ta = e := by
    rw [bs, rawF_setR (A := A.later 2) (i := ta + 1 + who) okW, if_neg (by omega)]; exact he
  have s1 : mPn.step ⟨tw, ta, who, e, 1⟩ (A.later 1) = (⟨tw, ta, who, e, 2⟩, B) := by
    show Pn.step ⟨tw, ta, who, e, 1⟩ (A.later 1) = _
    unfold Pn.step
    rw [if_neg (show ¬ 1 = 0 by decide), if_pos rfl]
    dsimp only
    rw [ew, e3, ← hB]
  have s2 : mPn.step ⟨tw, ta, who, e, 2⟩ B = (⟨tw, ta, who, e, 3⟩, B.later 1) := by
    show Pn.step ⟨tw, ta, who, e, 2⟩ B = _
    unfold Pn.step
    rw [if_neg (show ¬ 2 = 0 by decide), if_neg (show ¬ 2 = 1 by decide), if_pos rfl]
    dsimp only
    rw [be, if_pos rfl, tick_later ⟨h0, by rw [bl]; omega⟩ (by omega) (by omega)]
  refine ⟨⟨tw, ta, who, e, 3⟩, ?_⟩
  rw [← hB]
  have r2 : mPn.Runs 1 ⟨tw, ta, who, e, 2⟩ B ⟨tw, ta, who, e, 3⟩ (B.later 1) := Mch.Runs.last (by show 2 ≤ 3; omega) s2 (by show B.uses + 1 ≤ _; rw [bu, w64_in (by omega) (by omega)]; omega) rfl
  have p1 : mPn.Path 2 (newPn tw ta who) A ⟨tw, ta, who, e, 2⟩ B := .cons (by show 0 ≤ 3; omega) s0 (by show A.uses + 1 ≤ _; rw [w64_in (by omega) (by omega)]; omega) rfl
    (.cons (by show 1 ≤ 3; omega) s1 (by rw [bu]; show A.uses + 2 ≤ w64 (A.uses + 1 + 1); rw [w64_in (by omega) (by omega)]; omega) rfl .nil)
  exact p1.run r2
end
end Go.Proofs.Ytcjhakdopnamoaa

set_option linter.unusedVariables false
set_option linter.unusedSimpArgs false
set_option maxRecDepth 20000
namespace Go.Proofs.Ytcjhakdopnamoaa
open Go Go.Fw

def gwords (ep : Bool) (w : Int) : Int := bif ep then 1 + w else 2 * w
def gdOf (ep : Bool) (w s th : Int) : Gd := ⟨ep, w, 4 * w + 2 * s + 1, plOf w (8 * s), imax 1 (imin th 64)⟩
/-- An arena with a guard's words behind the slab's. -/
structure GZ (I : List Nat) (A : Ar) (ep : Bool) (w s : Int) (S : Sg) : Prop where
  aw : Aw I A
  sl : SL A (plOf w (8 * s)) w (8 * s) S
  fa : A.fault = false
  rl : (A.raw.length : Int) = 4 * w + 2 * s + 1 + gwords ep w
  wb : 1 ≤ w ∧ w ≤ 9
  sb : 0 ≤ s ∧ s ≤ 120

section
variable {A B : Ar} {w s : Int} {S S' : Sg} {I : List Nat} {L : Hands} {R : Value → Heap → Prop} {G : Heap} {l : Bl} {ep : Bool}

theorem GZ.later (E : GZ I A ep w s S) {n : Int} (hn : 0 ≤ n) : GZ I (A.later n) ep w s S := ⟨later_aw E.aw n, E.sl.later hn, E.fa, E.rl, E.wb, E.sb⟩
theorem GZ.out (E : GZ I A ep w s S) {i v : Int} (hA : Aw I B) (O : OutS A (plOf w (8 * s)) w (8 * s) S i v B) : GZ I B ep w s S := ⟨hA, O.sl, O.fa.trans E.fa, by rw [O.rl]; exact E.rl, E.wb, E.sb⟩
theorem gmake_spec (ep : Bool) (w s th : Int) (wb : 1 ≤ w ∧ w ≤ 9) (sb : 0 ≤ s ∧ s ≤ 120) (H : Heap) : SpecF Try.prog f_magpielaw14_make1 #[.int .i64 w, .int .i64 s, .bool ep, .int .i64 th] H fun v K => ∃ (A : Ar) (q mq : Nat), v = .tuple #[.pointer (aI A.ids), (plOf w (8 * s)).val, .pointer (some ⟨q, 0, none⟩)] ∧
    K = own A ((gdOf ep w s th).bl q mq []) H ∧ (∀ x ∈ A.ids, H x = none) ∧ Ok A.ids H (keys ((gdOf ep w s th).bl q mq [])) ∧ GZ A.ids A ep w s ⟨fun _ => [], 0, fun _ => 0, fun _ => -1, 0⟩ ∧ (∀ i, A.rawF i = 0) ∧ A.uses = 0 ∧ A.nL = 0 ∧ A.nR = 0 := by
  refine t_magpielaw14_make1_spec fun L => ?_
  unfold t_magpielaw14_make1
  have e8 : w64 (8 * s) = 8 * s := w64_in (by omega) (by omega)
  have ed : (8 * s + 7) / 8 = s := by omega
  rw [e8]
  have ok0 : Ok0 H (keys []) := ⟨.nil, fun b h => (by cases h)⟩
  refine p_newP (l := []) ok0 fun x9 ok0 => ?_
  refine w_Raw5 ⟨by omega, by omega⟩ ⟨by omega, by omega⟩ ?_
  rw [ed]
  refine p_newP ok0 fun x11 ok0 => ?_
  refine p_stA 0 ok0 rfl rfl rfl rfl ?_
  dsimp only
  refine wp_call_det (x := gwords ep w) (GRaw_det ep ⟨by omega, by omega⟩ _) ?_
  have gw : 0 ≤ gwords ep w ∧ gwords ep w ≤ 100 := by unfold gwords; cases ep <;> simp <;> omega
  have en : w64 (4 * w + 2 * s + 1 + gwords ep w) = 4 * w + 2 * s + 1 + gwords ep w := w64_in (by omega) (by omega)
  have ok0 : Ok0 H (keys [(x11, oc ty_free_Place (plCells (plOf w (8 * s)))), (x9, oc ty_free_Place (plCells ⟨0, 0, 0, 0, 0⟩))]) := ok0
  refine p_ldA (l := [(x11, oc ty_free_Place (plCells (plOf w (8 * s)))), (x9, oc ty_free_Place (plCells ⟨0, 0, 0, 0, 0⟩))]) 0 ok0 rfl rfl rfl ?_
  refine p_ldA (l := [(x11, oc ty_free_Place (plCells (plOf w (8 * s)))), (x9, oc ty_free_Place (plCells ⟨0, 0, 0, 0, 0⟩))]) 0 ok0 rfl rfl rfl ?_
  rw [en]
  refine w_New ok0 ⟨by omega, by omega⟩ ⟨by omega, by omega⟩ fun A hm hA hI ok => ?_
  refine w_ckA 0 hA ok rfl rfl rfl rfl ?_
  refine w_ckA 0 hA ok rfl rfl rfl rfl ?_
  refine w_GNew (w := w) (n := 4 * w + 2 * s + 1) (th := th) (ep := ep) (p := plOf w (8 * s)) ⟨by omega, by omega⟩ hA ok fun q mq ok1 => ?_
  obtain ⟨p1, ok2⟩ := own_perm (A := A) (l' := (x11, oc ty_free_Place (plCells (plOf w (8 * s)))) :: (x9, oc ty_free_Place (plCells ⟨0, 0, 0, 0, 0⟩)) :: (gdOf ep w s th).bl q mq []) ok1 (perm_by fun c d c0 cd ca => by
    show c ((gdOf ep w s th).bl q mq [] ++ _) = _
    simp only [cd, ca, c0]; omega)
  rw [p1]
  refine w_ckA 0 hA ok2 rfl rfl rfl rfl ?_
  refine w_stA 1 hA ok2 rfl rfl rfl rfl ?_
  refine ⟨(aI A.ids, (w, 0, 4 * w, 4 * w + (8 * s + 7) / 8, 4 * w + 2 * ((8 * s + 7) / 8), ()), some ⟨q, 0, none⟩, ()), ?_, ?_⟩
  · refine ldK_still (own_get (i := 1) hA (by exact ok2) rfl) 5 0 #[] (by exact Nat.le_refl 5) ?_
    rfl
  have ok2 : Ok A.ids H (x11 :: x9 :: keys ((gdOf ep w s th).bl q mq [])) := ok2
  have nd : (keys ((gdOf ep w s th).bl q mq [])).Nodup := (List.nodup_cons.1 (List.nodup_cons.1 ok2.nd).2).2
  have ok' : Ok A.ids H (keys ((gdOf ep w s th).bl q mq [])) := ok2.sub nd fun b hb => List.mem_cons_of_mem _ (List.mem_cons_of_mem _ hb)
  refine ⟨own A ((gdOf ep w s th).bl q mq []) H, own_sub (by exact ok2) ok'.nd fun p hp => List.mem_cons_of_mem _ (List.mem_cons_of_mem _ hp), A, q, mq, rfl, rfl, hI, ok', ⟨hA, SL.made hm ?_ ⟨wb.1, by omega⟩ ⟨by omega, by omega⟩, hm.fault, ?_, wb, sb⟩, fun i => ?_, hm.uses, hm.nL, hm.nR⟩
  · show 4 * w + 2 * ((8 * s + 7) / 8) < _; omega
  · rw [hm.raw, List.length_replicate]; omega
  · unfold Ar.rawF
    split
    · rename_i h; rw [hm.raw, List.getD_eq_getElem?_getD, List.getElem?_replicate]; split <;> rfl
    · rfl
end
end Go.Proofs.Ytcjhakdopnamoaa

set_option linter.unusedVariables false
set_option maxRecDepth 10000
namespace Go.Proofs.Ytcjhakdopnamoaa
open Go Go.Fw
/- magpie/magpielaw14.GuardModes -/
noncomputable def t_magpielaw14_GuardModes (p0 : Int) (p1 : Int) (p2 : Int) (p3 : Bool) : Tree :=
  .qcall f_magpielaw00_Place [(.int .i64 p0), (.int .i64 8)] (.one (.leaf (.int .i64))) fun x22 =>
  .call f_magpielaw14_make1 [(.int .i64 (w64 (1 + x22))), (.int .i64 8), (.bool p3), (.int .i64 4)] (.tup [(.leaf .ptr), (.agg [(.int .i64), (.int .i64), (.int .i64), (.int .i64), (.int .i64)]), (.leaf .ptr)]) fun x27 =>
  .newP (.cells #[(.int .i64 0), (.int .i64 0), (.int .i64 0), (.int .i64 0), (.int .i64 0)] ty_free_Place) fun x11 =>
  .stA x11 [(.int .i64 x27.2.1.1), (.int .i64 x27.2.1.2.1), (.int .i64 x27.2.1.2.2.1), (.int .i64 x27.2.1.2.2.2.1), (.int .i64 x27.2.1.2.2.2.2.1)] <|
  .look (opS Try.prog (.binOp .eql ty_p_arena_Arena (.tmp 0) (.const (.pointer none)) ty_p_arena_Arena) ty_bool [(.pointer x27.1)]) (.one (.leaf .bool)) fun x32 =>
  bif x32 then (
    .ret (.bool false))
  else (
    .look (opS Try.prog (.binOp .eql ty_p_guard_Guard (.tmp 0) (.const (.pointer none)) ty_p_guard_Guard) ty_bool [(.pointer x27.2.2.1)]) (.one (.leaf .bool)) fun x35 =>
    bif x35 then (
      .ret (.bool false))
    else (
      .qcall f_magpielaw00_Place [(.int .i64 p1), (.int .i64 (w64 (1 + x22)))] (.one (.leaf (.int .i64))) fun x39 =>
      .qcall f_magpielaw00_Place [(.int .i64 p2), (.int .i64 2)] (.one (.leaf (.int .i64))) fun x41 =>
      .ldA x11 [(.int .i64), (.int .i64), (.int .i64), (.int .i64), (.int .i64)] fun x43 =>
      .call f_magpielaw14_one [(.pointer x27.1), (.agg #[(.int .i64 x43.1), (.int .i64 x43.2.1), (.int .i64 x43.2.2.1), (.int .i64 x43.2.2.2.1), (.int .i64 x43.2.2.2.2.1)]), (.int .i64 x39)] (.one (.leaf (.int .i64))) fun x45 =>
      .call f_arena_Arena_Uses [(.pointer x27.1)] (.one (.leaf (.int .i64))) fun x47 =>
      bif ((x45 : Int) == 0) then (
        .ret (.bool false))
      else (
        .call f_guard_Guard_Enter [(.pointer x27.2.2.1), (.int .i64 x39)] (.one (.leaf .val)) fun x54 =>
        .call f_magpielaw14_run [(.pointer x27.1), x54] (.one (.leaf .bool)) fun x55 =>
        bif (!x55) then (
          .ret (.bool false))
        else (
          .call f_arena_Arena_Uses [(.pointer x27.1)] (.one (.leaf (.int .i64))) fun x59 =>
          .call f_guard_Guard_Protect [(.pointer x27.2.2.1), (.int .i64 x39), (.int .i64 x41), (.int .i64 x45)] (.one (.leaf .val)) fun x66 =>
          .call f_magpielaw14_run [(.pointer x27.1), x66] (.one (.leaf .bool)) fun x69 =>
          bif (!x69) then (
            .ret (.bool false))
          else (
            .call f_arena_Arena_Uses [(.pointer x27.1)] (.one (.leaf (.int .i64))) fun x72 =>
            .call f_guard_Guard_Leave [(.pointer x27.2.2.1), (.int .i64 x39)] (.one (.leaf .val)) fun x80 =>
            .call f_magpielaw14_run [(.pointer x27.1), x80] (.one (.leaf .bool)) fun x81 =>
            bif (!x81) then (
              .ret (.bool false))
            else (
              .call f_arena_Arena_Uses [(.pointer x27.1)] (.one (.leaf (.int .i64))) fun x84 =>
              bif p3 then (
                bif (((w64 (x59 - x47)) : Int) == 3) then (
                  .look (opS Try.prog (.binOp .eql ty_guard_Machine (.tmp 0) (.const .nilIface) ty_guard_Machine) ty_bool [x66]) (.one (.leaf .bool)) fun x96 =>
                  bif x96 then (
                    bif (((w64 ((w64 (x72 - x47)) - (w64 (x59 - x47)))) : Int) == 0) then (
                      bif (((w64 ((w64 ((w64 (x84 - x47)) - (w64 (x59 - x47)))) - (w64 ((w64 (x72 - x47)) - (w64 (x59 - x47)))))) : Int) == 1) then (
                        .call f_guard_Raw [(.int .i64 (w64 (1 + x22))), (.int .i64 5), (.bool true)] (.one (.leaf (.int .i64))) fun x108 =>
                        bif ((x108 : Int) == (w64 ((w64 (1 + x22)) + 1))) then (
                          .call f_magpielaw14_awake [] (.one (.leaf .bool)) fun x114 =>
                          .ret (.bool x114))
                        else (
                          .ret (.bool false)))
                      else (
                        .ret (.bool false)))
                    else (
                      .ret (.bool false)))
                  else (
                    .ret (.bool false)))
                else (
                  .ret (.bool false)))
              else (
                bif (((w64 (x59 - x47)) : Int) == 0) then (
                  .look (opS Try.prog (.binOp .neq ty_guard_Machine (.tmp 0) (.const .nilIface) ty_guard_Machine) ty_bool [x66]) (.one (.leaf .bool)) fun x120 =>
                  bif x120 then (
                    bif (((w64 ((w64 (x72 - x47)) - (w64 (x59 - x47)))) : Int) == 1) then (
                      bif (((w64 ((w64 ((w64 (x84 - x47)) - (w64 (x59 - x47)))) - (w64 ((w64 (x72 - x47)) - (w64 (x59 - x47)))))) : Int) == 2) then (
                        .call f_guard_Raw [(.int .i64 (w64 (1 + x22))), (.int .i64 5), (.bool false)] (.one (.leaf (.int .i64))) fun x132 =>
                        bif ((x132 : Int) == (w64 ((w64 (1 + x22)) * 2))) then (
                          .call f_magpielaw14_awake [] (.one (.leaf .bool)) fun x138 =>
                          .ret (.bool x138))
                        else (
                          .ret (.bool false)))
                      else (
                        .ret (.bool false)))
                    else (
                      .ret (.bool false)))
                  else (
                    .ret (.bool false)))
                else (
                  .ret (.bool false)))))))))
theorem t_magpielaw14_GuardModes_eq (p0 : Int) (p1 : Int) (p2 : Int) (p3 : Bool) : funcTree Try.prog { quiet := [16, 34, 36, 40, 41, 66, 67, 75, 76, 77, 97, 98, 103, 108, 110, 139, 146, 149, 161], quietTmp := true, fncs := [], ifcs := [] } Try.f5 [(.int .i64 p0), (.int .i64 p1), (.int .i64 p2), (.bool p3)] = t_magpielaw14_GuardModes p0 p1 p2 p3 := by kernel_rfl
theorem t_magpielaw14_GuardModes_spec {p0 : Int} {p1 : Int} {p2 : Int} {p3 : Bool} {H : Heap} {R : Value → Heap → Prop} (h : ∀ L, wp Try.prog (t_magpielaw14_GuardModes p0 p1 p2 p3) L H R) : SpecF Try.prog f_magpielaw14_GuardModes #[(.int .i64 p0), (.int .i64 p1), (.int .i64 p2), (.bool p3)] H R :=
  spec_of_tree (cfg := { quiet := [16, 34, 36, 40, 41, 66, 67, 75, 76, 77, 97, 98, 103, 108, 110, 139, 146, 149, 161], quietTmp := true, fncs := [], ifcs := [] }) Try.func5 fun L => (t_magpielaw14_GuardModes_eq p0 p1 p2 p3).symm ▸ h L

end Go.Proofs.Ytcjhakdopnamoaa

set_option linter.unusedVariables false
set_option linter.unusedSimpArgs false
set_option maxRecDepth 20000
namespace Go.Proofs.Ytcjhakdopnamoaa
open Go Go.Fw

theorem nnAl (a : Addr) : opS Try.prog (.binOp .neq ty_p_slab_Alloc (.tmp 0) (.const (.pointer none)) ty_p_slab_Alloc) ty_bool [(.pointer (some a))] = .pure (.value (.bool true)) := by kernel_rfl

section
variable {L : Hands} {R : Value → Heap → Prop} {G : Heap} {l rest : Bl} {A A' : Ar} {I : List Nat}

theorem one14_go {n : Nat} {x x' : Al} (h : mAl.Runs n x A x' A') :
    ∀ {i b : Int} {j : Nat × Nat × Nat} {L : Hands} {R : Value → Heap → Prop}, (∀ j' : Nat × Nat × Nat, Ok I G (keys (x'.bl j')) → Aw I A' → R (.int .i64 x'.h) (own A' (x'.bl j') G)) → Aw I A → Ok I G (keys (x.bl j)) → 0 ≤ i → i + n ≤ 100 →
      wp Try.prog (.loop 192 t_magpielaw14_one_L1_sh [(.int .i64 b), (.int .i64 i)] (t_magpielaw14_one_L1 (aI I) (some ⟨j.1, 0, none⟩))) L (own A (x.bl j) G) R := by
  induction h with
  | @one m A hi hu hf =>
    intro i b j L R hR hA ok h0 h1
    refine wp_loop_unroll (b, i, ()) rfl ?_
    rw [t_magpielaw14_one_L1]
    refine wp_true (ilt (by show i < 100; omega)) ?_
    refine look_val (x := true) (nnAl _) (wp_true rfl ?_)
    refine wp_call_of (mAl_ok I A G m j hA ok hi) ?_
    rintro v K ⟨j', rfl, rfl, ha, ok', hA'⟩
    refine ⟨true, by rw [hf], ?_⟩
    refine wp_true rfl ?_
    obtain ⟨q, q0, q1⟩ := j'
    have ha : q = j.1 := ha
    subst ha
    refine w_Handle 0 hA' ok' rfl ?_
    exact wp_ret_of (hR _ ok' hA')
  | @more n m A m' A' hi hu hf hr ih =>
    intro i b j L R hR hA ok h0 h1
    refine wp_loop_unroll (b, i, ()) rfl ?_
    rw [t_magpielaw14_one_L1]
    refine wp_true (ilt (by show i < 100; omega)) ?_
    refine look_val (x := true) (nnAl _) (wp_true rfl ?_)
    refine wp_call_of (mAl_ok I A G m j hA ok hi) ?_
    rintro v K ⟨j', rfl, rfl, ha, ok', hA'⟩
    refine ⟨false, by rw [hf], ?_⟩
    refine wp_false rfl (wp_again ?_)
    have e : w64 (i + 1) = i + 1 := w64_in (by omega) (by omega)
    have ha : j'.1 = j.1 := ha
    rw [e, ← ha]
    exact ih hR hA' ok' (by omega) (by omega)

/-- A slot is made. -/
theorem w_one14 {n : Nat} {x' : Al} {p : Pl} {w : Int} {k : Int → Tree} (h : mAl.Runs n (newAl p w 0) A x' A') (hn : n ≤ 100) (hA : Aw I A) (ok : Ok I G (keys l))
    (hk : ∀ gar, Ok I G (keys (l ++ gar)) → Aw I A' → wp Try.prog (k x'.h) L (own A' (l ++ gar) G) R) :
    wp Try.prog (.call f_magpielaw14_one [.pointer (aI I), p.val, .int .i64 w] (.one (.leaf (.int .i64))) k) L (own A l G) R := by
  refine wp_call_of (R0 := fun v K => ∃ gar, v = .int .i64 x'.h ∧ K = own A' (l ++ gar) G ∧ Ok I G (keys (l ++ gar)) ∧ Aw I A') ?_ ?_
  · refine t_magpielaw14_one_spec (p1_0 := p.work) (p1_1 := p.heads) (p1_2 := p.links) (p1_3 := p.gens) (p1_4 := p.carved) fun L => ?_
    unfold t_magpielaw14_one
    refine w_newP (c := plCells p) hA ok fun x4 ok1 => ?_
    refine w_ldA 0 hA ok1 rfl rfl rfl ?_
    refine w_NewAlloc (p := p) (w := w) (c := 0) hA ok1 (by decide) fun j ok2 => ?_
    have ok3 := ok2
    rw [keys_append] at ok3
    obtain ⟨o1, o2⟩ := ok3.split
    rw [own_append]
    refine one14_go h (fun j' o3 hA' => ?_) hA o1 (Int.le_refl 0) (by omega)
    have o4 : Ok I G (keys (x'.bl j' ++ ((x4, oc ty_free_Place (plCells p)) :: l))) := by rw [keys_append]; exact o3.join o2
    obtain ⟨p1, ok5⟩ := own_perm (A := A') (l' := l ++ (x'.bl j' ++ [(x4, oc ty_free_Place (plCells p))])) o4 (perm_by fun c d c0 cd ca => by simp only [cd, ca, c0]; omega)
    refine ⟨_, rfl, ?_, ok5, hA'⟩
    rw [← p1, own_append]
  · rintro v K ⟨gar, rfl, rfl, o, hA'⟩
    exact ⟨_, rfl, hk gar o hA'⟩

theorem sc_lift {gq mq n : Nat} {m m' : Sc} {g : Gd} {ls : Int → List (Int × Int)} {work : Int} (hl : (ls work).length ≤ 1000) (wb : 1 ≤ g.w ∧ g.w ≤ 1000) (h : mSc.Runs n m A m' A') (hm : m.left.length ≤ 1000) :
    (mLk gq mq).Runs n ⟨g, ls, work, false, 0, .sc m⟩ A (Lk.end_ ⟨g, ls, work, false, 0, .sc m'⟩) A' := by
  have st : ∀ (m : Sc) (A : Ar) (m1 : Sc) (A1 : Ar), mSc.step m A = (m1, A1) → Lk.step ⟨g, ls, work, false, 0, .sc m⟩ A = (if m1.ended = true then Lk.end_ ⟨g, ls, work, false, 0, .sc m1⟩ else ⟨g, ls, work, false, 0, .sc m1⟩, A1) := fun m A m1 A1 h => by
    have h : m.step A = (m1, A1) := h
    show (if (m.step A).1.ended = true then Lk.end_ ⟨g, ls, work, false, 0, .sc (m.step A).1⟩ else ⟨g, ls, work, false, 0, .sc (m.step A).1⟩, (m.step A).2) = _
    rw [h]
  induction h with
  | @one m A m1 A1 hi hst hu hf =>
    have hf : m1.ended = true := hf
    refine .one ⟨hl, fun h => (by cases h), wb, ⟨hi, hm⟩⟩ ?_ hu rfl
    exact (st m A m1 A1 hst).trans (by rw [if_pos hf])
  | @more n m A m1 A1 m' A' hi hst hu hf hr ih =>
    have hf : m1.ended = false := hf
    have hl1 : m1.left.length ≤ 1000 := by
      have := m.left_step A hi.ll hm
      have h : m.step A = (m1, A1) := hst
      rwa [h] at this
    refine .more (x1 := ⟨g, ls, work, false, 0, .sc m1⟩) ⟨hl, fun h => (by cases h), wb, ⟨hi, hm⟩⟩ ?_ hu rfl (ih hl1)
    exact (st m A m1 A1 hst).trans (by rw [if_neg (by rw [hf]; decide)])
end
end Go.Proofs.Ytcjhakdopnamoaa

