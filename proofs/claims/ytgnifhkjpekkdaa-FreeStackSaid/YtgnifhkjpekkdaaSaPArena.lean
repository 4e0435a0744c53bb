import Derived.Test.YtgnifhkjpekkdaaSaLArena
set_option linter.unusedVariables false
set_option maxRecDepth 20000
namespace Go.Proofs.Ytgnifhkjpekkdaa
open Go Go.Fw

theorem stF_slots {A B : Ar} (h : B.slots = A.slots) (k : Int) : B.stF k = A.stF k := by unfold Ar.stF; rw [h]

theorem bornN_busy (A : Ar) (b n : Nat) : (A.bornN b n).busy = setN A.busy b true n := by
  induction n with
  | zero => rfl
  | succ n ih =>
    have h1 : ∀ (B : Ar) m, (B.new1 m).busy = B.busy := fun B m => by unfold Ar.new1; split <;> rfl
    have h2 : ∀ (B : Ar) m, (B.new2 m).busy = B.busy.set m true := fun B m => by unfold Ar.new2; simp only; split <;> rfl
    show ((((A.bornN b n).new1 (b + n)).new2 (b + n))).busy = (setN A.busy b true n).set (b + n) true
    rw [h2, h1, ih]
theorem bornN_carved (A : Ar) (b n : Nat) : (A.bornN b n).carved = setN A.carved b true n := by
  induction n with
  | zero => rfl
  | succ n ih =>
    have h1 : ∀ (B : Ar) m, (B.new1 m).carved = B.carved := fun B m => by unfold Ar.new1; split <;> rfl
    have h2 : ∀ (B : Ar) m, (B.new2 m).carved = B.carved.set m true := fun B m => by unfold Ar.new2; simp only; split <;> rfl
    show ((((A.bornN b n).new1 (b + n)).new2 (b + n))).carved = (setN A.carved b true n).set (b + n) true
    rw [h2, h1, ih]
theorem bornN_words (A : Ar) (b n : Nat) : (A.bornN b n).words = if A.fresh then setN A.words b 0 n else A.words := by
  induction n with
  | zero => cases A.fresh <;> rfl
  | succ n ih =>
    have h1 : ∀ (B : Ar) m, (B.new1 m).words = B.words := fun B m => by unfold Ar.new1; split <;> rfl
    have h2 : ∀ (B : Ar) m, (B.new2 m).words = if B.fresh then B.words.set m 0 else B.words := fun B m => by unfold Ar.new2; simp only; split <;> rfl
    have h3 : ∀ (B : Ar) m, (B.new1 m).fresh = B.fresh := fun B m => by unfold Ar.new1; split <;> rfl
    show ((((A.bornN b n).new1 (b + n)).new2 (b + n))).words = _
    rw [h2, h1, h3, (bornN_like A b n).fr, ih]
    cases A.fresh <;> rfl
/-- How many words of a piece were not yet part of a slot. -/
def newsN (l : List Bool) (b : Nat) : Nat → Nat
  | 0 => 0
  | n + 1 => newsN l b n + (if l.getD (b + n) false then 0 else 1)
theorem w64_add (x y : Int) : w64 (w64 x + y) = w64 (x + y) := by unfold w64; simp only [IntKind.wrap_i64]; omega
theorem w64_sub (x y : Int) : w64 (w64 x - y) = w64 (x - y) := by unfold w64; simp only [IntKind.wrap_i64]; omega
theorem bornN_rest (A : Ar) (b n : Nat) : (A.bornN b n).nL = A.nL ∧ (A.bornN b n).nR = A.nR := by
  induction n with
  | zero => exact ⟨rfl, rfl⟩
  | succ n ih =>
    have h1 : ∀ (B : Ar) m, (B.new1 m).nL = B.nL ∧ (B.new1 m).nR = B.nR := fun B m => by unfold Ar.new1; split <;> exact ⟨rfl, rfl⟩
    have h2 : ∀ (B : Ar) m, (B.new2 m).nL = B.nL ∧ (B.new2 m).nR = B.nR := fun B m => by unfold Ar.new2; simp only; split <;> exact ⟨rfl, rfl⟩
    show ((((A.bornN b n).new1 (b + n)).new2 (b + n))).nL = _ ∧ ((((A.bornN b n).new1 (b + n)).new2 (b + n))).nR = _
    rw [(h2 _ _).1, (h1 _ _).1, (h2 _ _).2, (h1 _ _).2]; exact ih
theorem bornN_counts (A : Ar) (hC : w64 A.nC = A.nC) (hF : w64 A.nF = A.nF) (b n : Nat) : (A.bornN b n).nC = w64 (A.nC + newsN A.carved b n) ∧ (A.bornN b n).nF = w64 (A.nF + newsN A.carved b n) := by
  induction n with
  | zero => exact ⟨by show A.nC = w64 (A.nC + ((0 : Nat) : Int)); rw [Int.natCast_zero, Int.add_zero, hC], by show A.nF = w64 (A.nF + ((0 : Nat) : Int)); rw [Int.natCast_zero, Int.add_zero, hF]⟩
  | succ n ih =>
    have h2 : ∀ (B : Ar) m, (B.new2 m).nC = B.nC ∧ (B.new2 m).nF = B.nF := fun B m => by unfold Ar.new2; simp only; split <;> exact ⟨rfl, rfl⟩
    show ((((A.bornN b n).new1 (b + n)).new2 (b + n))).nC = _ ∧ ((((A.bornN b n).new1 (b + n)).new2 (b + n))).nF = _
    rw [(h2 _ _).1, (h2 _ _).2]
    have hg : (A.bornN b n).carved.getD (b + n) false = A.carved.getD (b + n) false := by
      rw [bornN_carved, List.getD_eq_getElem?_getD, List.getD_eq_getElem?_getD, setN_get, if_neg (by omega)]
    unfold Ar.new1 newsN
    rw [hg]
    cases A.carved.getD (b + n) false with
    | true => simpa using ih
    | false =>
      simp only [if_false, Bool.false_eq_true]
      refine ⟨?_, ?_⟩
      · show w64 ((A.bornN b n).nC + 1) = _
        rw [ih.1, w64_add]; congr 1; omega
      · show w64 ((A.bornN b n).nF + 1) = _
        rw [ih.2, w64_add]; congr 1; omega

theorem bornF_slots (A : Ar) (h : Int) : (A.bornF h).slots = alPut A.slots (opB h) (h, 1) := by
  have e := (bornN_like A (opB h).toNat (sizeF (opC h)).toNat).sl
  unfold Ar.bornF
  generalize A.bornN (opB h).toNat (sizeF (opC h)).toNat = B at *
  rw [← e]; rfl
theorem bornF_gens (A : Ar) (h : Int) : (A.bornF h).gens = alPut A.gens (opB h) (opG h) := by
  have e := (bornN_like A (opB h).toNat (sizeF (opC h)).toNat).gs
  unfold Ar.bornF
  generalize A.bornN (opB h).toNat (sizeF (opC h)).toNat = B at *
  rw [← e]; rfl
theorem bornF_busy (A : Ar) (h : Int) : (A.bornF h).busy = setN A.busy (opB h).toNat true (sizeF (opC h)).toNat := by
  have e := bornN_busy A (opB h).toNat (sizeF (opC h)).toNat
  unfold Ar.bornF
  generalize A.bornN (opB h).toNat (sizeF (opC h)).toNat = B at *
  exact e
theorem bornF_carved (A : Ar) (h : Int) : (A.bornF h).carved = setN A.carved (opB h).toNat true (sizeF (opC h)).toNat := by
  have e := bornN_carved A (opB h).toNat (sizeF (opC h)).toNat
  unfold Ar.bornF
  generalize A.bornN (opB h).toNat (sizeF (opC h)).toNat = B at *
  exact e
theorem bornF_words (A : Ar) (h : Int) : (A.bornF h).words = if A.fresh then setN A.words (opB h).toNat 0 (sizeF (opC h)).toNat else A.words := by
  have e := bornN_words A (opB h).toNat (sizeF (opC h)).toNat
  unfold Ar.bornF
  generalize A.bornN (opB h).toNat (sizeF (opC h)).toNat = B at *
  exact e
theorem bornF_raw (A : Ar) (h : Int) : (A.bornF h).raw = A.raw := by
  have e := (bornN_like A (opB h).toNat (sizeF (opC h)).toNat).rw
  unfold Ar.bornF
  generalize A.bornN (opB h).toNat (sizeF (opC h)).toNat = B at *
  exact e
theorem bornF_fresh (A : Ar) (h : Int) : (A.bornF h).fresh = A.fresh := by
  have e := (bornN_like A (opB h).toNat (sizeF (opC h)).toNat).fr
  unfold Ar.bornF
  generalize A.bornN (opB h).toNat (sizeF (opC h)).toNat = B at *
  exact e
theorem bornF_fault (A : Ar) (h : Int) : (A.bornF h).fault = A.fault := by
  have e := (bornN_like A (opB h).toNat (sizeF (opC h)).toNat).fa
  unfold Ar.bornF
  generalize A.bornN (opB h).toNat (sizeF (opC h)).toNat = B at *
  exact e
theorem bornF_uses (A : Ar) (h : Int) : (A.bornF h).uses = A.uses := by
  have e := (bornN_like A (opB h).toNat (sizeF (opC h)).toNat).us
  unfold Ar.bornF
  generalize A.bornN (opB h).toNat (sizeF (opC h)).toNat = B at *
  exact e
theorem bornF_wl (A : Ar) (h : Int) : (A.bornF h).words.length = A.words.length := by
  have e := (bornN_like A (opB h).toNat (sizeF (opC h)).toNat).wl
  unfold Ar.bornF
  generalize A.bornN (opB h).toNat (sizeF (opC h)).toNat = B at *
  exact e

theorem stF_bornF (A : Ar) (h k : Int) : (A.bornF h).stF k = if opB k = opB h then (if openOk k = true ∧ h = k then 1 else 0) else A.stF k := by
  rw [← stF_withS]; exact stF_slots (bornF_slots A h) k
theorem stF_turnF (A : Ar) (h s t k : Int) : (A.turnF h s t).stF k = if A.stF h = s ∧ opB k = opB h then (if openOk k = true ∧ h = k then t else 0) else A.stF k := by
  unfold Ar.turnF
  by_cases e : A.stF h = s
  · rw [if_pos e, stF_withS]
    by_cases e2 : opB k = opB h
    · rw [if_pos e2, if_pos (⟨e, e2⟩ : A.stF h = s ∧ opB k = opB h)]
    · rw [if_neg e2, if_neg (fun h => e2 h.2)]
  · rw [if_neg e, if_neg (fun h => e h.1)]
theorem stF_retireF (A : Ar) (h k : Int) : (A.retireF h).stF k = if A.stF h = 1 ∧ opB k = opB h then (if openOk k = true ∧ h = k then 2 else 0) else A.stF k := by
  rw [← stF_turnF]; exact stF_slots rfl k
theorem stF_diedF (A : Ar) (h k : Int) : (A.diedF h).stF k = if A.stF h = 2 ∧ opB k = opB h then (if openOk k = true ∧ h = k then 0 else 0) else A.stF k := by
  rw [← stF_turnF]; exact stF_slots rfl k
theorem stF_storeF (A : Ar) (h off v k : Int) : (A.storeF h off v).stF k = A.stF k := by unfold Ar.storeF; split <;> exact stF_slots rfl k
theorem stF_touch (A : Ar) (h off k : Int) : (A.touch h off).stF k = A.stF k := by unfold Ar.touch; split <;> exact stF_slots rfl k

theorem touch_yes {A : Ar} {h off : Int} (hi : A.inOk h off) : A.touch h off = A.tick := by unfold Ar.touch; rw [if_pos hi]
theorem touch_words (A : Ar) (h off : Int) : (A.touch h off).words = A.words := by unfold Ar.touch; split <;> rfl
theorem storeF_yes {A : Ar} {h off : Int} (hi : A.inOk h off) (v : Int) : A.storeF h off v = A.tick.setW (pos h off) v := by unfold Ar.storeF; rw [if_pos hi]

theorem inOk_st {A B : Ar} (e : ∀ k, B.stF k = A.stF k) {h off : Int} : B.inOk h off ↔ A.inOk h off := by unfold Ar.inOk; rw [e]
theorem loadF_of {A B : Ar} (e : ∀ k, B.stF k = A.stF k) (w : B.words = A.words) (h off : Int) : B.loadF h off = A.loadF h off := by
  unfold Ar.loadF
  by_cases hi : A.inOk h off
  · rw [if_pos hi, if_pos ((inOk_st e).2 hi), w]
  · rw [if_neg hi, if_neg (fun h => hi ((inOk_st e).1 h))]
theorem loadF_touch (A : Ar) (h off k j : Int) : (A.touch h off).loadF k j = A.loadF k j := loadF_of (stF_touch A h off) (touch_words A h off) k j

/-- Behind a store. -/
theorem loadF_storeF {A : Ar} (hA : A.wf) {h off v k j : Int} (hi : A.inOk h off) (hk : A.inOk k j) : (A.storeF h off v).loadF k j = if pos k j = pos h off then v else A.loadF k j := by
  have hl := pos_lt hA hi
  have hk' : (A.storeF h off v).inOk k j := (inOk_st (stF_storeF A h off v)).2 hk
  unfold Ar.loadF
  rw [if_pos hk', if_pos hk, storeF_yes hi]
  show (A.words.set (pos h off) v).getD (pos k j) 0 = _
  rw [List.getD_eq_getElem?_getD, List.getD_eq_getElem?_getD, List.getElem?_set]
  by_cases e : pos k j = pos h off
  · rw [if_pos e, if_pos e.symm, if_pos hl]; rfl
  · rw [if_neg e, if_neg (fun h => e h.symm)]

theorem opB_pack {b g c : Int} (h : validN b g c) : opB (packF b g c) = b ∧ opG (packF b g c) = g ∧ opC (packF b g c) = c ∧ openOk (packF b g c) = true := by
  have hp : packF b g c = packN b g c := by unfold packF; rw [if_pos h]
  obtain ⟨h1, h2, h3, h4⟩ := open_pack h
  unfold opB opG opC
  rw [hp, h4]
  exact ⟨h1, h2, h3, rfl⟩
end Go.Proofs.Ytgnifhkjpekkdaa
