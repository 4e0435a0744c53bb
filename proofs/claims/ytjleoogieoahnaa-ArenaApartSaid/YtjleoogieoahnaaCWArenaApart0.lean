/- Texts of this claim, one behind the other. -/
import Derived.Test.YtjleoogieoahnaaB2
set_option linter.unusedSimpArgs false
set_option linter.unusedVariables false
set_option linter.unusedVariables false
set_option maxRecDepth 20000
namespace Go.Proofs.Ytjleoogieoahnaa
open Go Go.Fw

/-! ### Slots that have no word in common -/

theorem apSet {α : Type} (l : List α) (b : Nat) (v d : α) (n i : Nat) : (setN l b v n).getD i d = if b ≤ i ∧ i < b + n ∧ i < l.length then v else l.getD i d := by
  rw [List.getD_eq_getElem?_getD, List.getD_eq_getElem?_getD, setN_get]
  split <;> rfl
theorem apTurn (Z : Ar) (h s t : Int) : (Z.turnF h s t).busy = Z.busy ∧ (Z.turnF h s t).fault = Z.fault ∧ (Z.turnF h s t).words = Z.words ∧ (Z.turnF h s t).fresh = Z.fresh := by
  unfold Ar.turnF; split <;> exact ⟨rfl, rfl, rfl, rfl⟩
theorem apRetire (Z : Ar) (h : Int) : (Z.retireF h).busy = Z.busy ∧ (Z.retireF h).fault = Z.fault ∧ (Z.retireF h).words = Z.words ∧ (Z.retireF h).fresh = Z.fresh := apTurn Z h 1 2
theorem apDied (Z : Ar) (h : Int) : (Z.diedF h).busy = setN Z.busy (opB h).toNat false (Z.turnN h 2).toNat ∧ (Z.diedF h).fault = Z.fault ∧ (Z.diedF h).words = Z.words ∧ (Z.diedF h).fresh = Z.fresh := by
  obtain ⟨h1, h2, h3, h4⟩ := apTurn Z h 2 0
  refine ⟨?_, h2, h3, h4⟩
  rw [← h1]; rfl

theorem getD_rm (xs : List Int) (n j : Nat) (h : n < xs.length) : (xs.take n ++ xs.drop (n + 1)).getD j 0 = xs.getD (if j < n then j else j + 1) 0 := by
  rw [List.getD_eq_getElem?_getD, List.getD_eq_getElem?_getD, List.getElem?_append, List.length_take, List.getElem?_take, List.getElem?_drop]
  by_cases e : j < n
  · rw [if_pos (by omega), if_pos e, if_pos e]
  · rw [if_neg (by omega), if_neg e]; congr 2; omega
theorem len_rm (xs : List Int) (n : Nat) (h : n < xs.length) : (xs.take n ++ xs.drop (n + 1)).length = xs.length - 1 := by
  rw [List.length_append, List.length_take, List.length_drop]; omega
theorem getD_app1 (xs : List Int) (v : Int) (j : Nat) : (xs ++ [v]).getD j 0 = if j < xs.length then xs.getD j 0 else if j = xs.length then v else 0 := by
  rw [List.getD_eq_getElem?_getD, List.getD_eq_getElem?_getD, List.getElem?_append]
  by_cases e : j < xs.length
  · rw [if_pos e, if_pos e]
  · rw [if_neg e, if_neg e]
    by_cases e2 : j = xs.length
    · rw [if_pos e2, e2, Nat.sub_self]; rfl
    · rw [if_neg e2, List.getElem?_eq_none (by simp; omega)]; rfl

def apart (x y : Int) : Prop := opB x + sizeF (opC x) ≤ opB y ∨ opB y + sizeF (opC y) ≤ opB x

structure AP (A : Ar) (xs ks : List Int) (n : Int) (fr : Bool) : Prop where
  ln : ks.length = xs.length
  le : (xs.length : Int) ≤ n
  st : ∀ i, i < xs.length → A.stF (xs.getD i 0) = 1
  kb : ∀ i, i < xs.length → 0 ≤ ks.getD i 0 ∧ ks.getD i 0 < n
  wd : ∀ i, i < xs.length → ∀ o : Int, 0 ≤ o → o < sizeF (opC (xs.getD i 0)) → A.words.getD (pos (xs.getD i 0) o) 0 = 100 * ks.getD i 0 + o
  bz : ∀ i, i < xs.length → ∀ o : Int, 0 ≤ o → o < sizeF (opC (xs.getD i 0)) → A.busy.getD (pos (xs.getD i 0) o) false = true
  dj : ∀ i j, i < xs.length → j < xs.length → i ≠ j → apart (xs.getD i 0) (xs.getD j 0)
  fa : A.fault = false
  fr : A.fresh = fr

variable {A : Ar} {xs ks : List Int} {n : Int} {fr : Bool}

theorem AP.of {B : Ar} (P : AP A xs ks n fr) (h1 : ∀ k, B.stF k = A.stF k) (h2 : B.words = A.words) (h3 : B.busy = A.busy) (h4 : B.fault = A.fault) (h5 : B.fresh = A.fresh) : AP B xs ks n fr :=
  ⟨P.ln, P.le, fun i hi => by rw [h1]; exact P.st i hi, P.kb, fun i hi o o0 o1 => by rw [h2]; exact P.wd i hi o o0 o1, fun i hi o o0 o1 => by rw [h3]; exact P.bz i hi o o0 o1, P.dj, h4.trans P.fa, h5.trans P.fr⟩
theorem AP.more (P : AP A xs ks n fr) : AP A xs ks (n + 1) fr :=
  ⟨P.ln, by have := P.le; omega, P.st, fun i hi => by have := P.kb i hi; omega, P.wd, P.bz, P.dj, P.fa, P.fr⟩
theorem AP.inOk (P : AP A xs ks n fr) {i : Nat} (hi : i < xs.length) {o : Int} (o0 : 0 ≤ o) (o1 : o < sizeF (opC (xs.getD i 0))) : A.inOk (xs.getD i 0) o := ⟨by rw [P.st i hi]; decide, o0, o1⟩
theorem AP.touch (P : AP A xs ks n fr) {h o : Int} (hi : A.inOk h o) : AP (A.touch h o) xs ks n fr := by
  rw [touch_yes hi]; exact P.of (fun k => stF_slots rfl k) rfl rfl rfl rfl
theorem apart_ne {x y : Int} (h : apart x y) : opB x ≠ opB y := by
  have := size_opC x; have := size_opC y
  unfold apart at h; omega
theorem pos_eq (h o : Int) (o0 : 0 ≤ o) : (pos h o : Int) = opB h + o := by
  have := opB_nat h; unfold pos; omega

/-- One dies. -/
theorem AP.die (P : AP A xs ks n fr) (hw : A.wf) {i : Nat} (hi : i < xs.length) :
    A.turnB (xs.getD i 0) 1 = true ∧ (A.retireF (xs.getD i 0)).turnB (xs.getD i 0) 2 = true ∧ ((A.retireF (xs.getD i 0)).diedF (xs.getD i 0)).stF (xs.getD i 0) = 0 ∧
      AP ((A.retireF (xs.getD i 0)).diedF (xs.getD i 0)) (xs.take i ++ xs.drop (i + 1)) (ks.take i ++ ks.drop (i + 1)) n fr := by
  have s1 := P.st i hi
  have ho := stF_ok (A := A) (h := xs.getD i 0) (by rw [s1]; decide)
  have s2 : (A.retireF (xs.getD i 0)).stF (xs.getD i 0) = 2 := by rw [stF_retireF, if_pos ⟨s1, rfl⟩, if_pos ⟨ho, rfl⟩]
  have s3 : ((A.retireF (xs.getD i 0)).diedF (xs.getD i 0)).stF (xs.getD i 0) = 0 := by rw [stF_diedF, if_pos ⟨s2, rfl⟩]; split <;> rfl
  refine ⟨decide_eq_true s1, decide_eq_true s2, s3, ?_⟩
  obtain ⟨r1, r2, r3, r4⟩ := apRetire A (xs.getD i 0)
  obtain ⟨d1, d2, d3, d4⟩ := apDied (A.retireF (xs.getD i 0)) (xs.getD i 0)
  have tn : (A.retireF (xs.getD i 0)).turnN (xs.getD i 0) 2 = sizeF (opC (xs.getD i 0)) := by unfold Ar.turnN; rw [if_pos s2]
  rw [tn, r1] at d1
  have hk : i < ks.length := by rw [P.ln]; exact hi
  have ix : ∀ j, j < xs.length - 1 → (if j < i then j else j + 1) < xs.length ∧ (if j < i then j else j + 1) ≠ i := fun j hj => by split <;> omega
  have st : ∀ j, j < xs.length → j ≠ i → ((A.retireF (xs.getD i 0)).diedF (xs.getD i 0)).stF (xs.getD j 0) = 1 := fun j hj hne => by
    have := apart_ne (P.dj j i hj hi hne)
    rw [stF_diedF, if_neg (by omega), stF_retireF, if_neg (by omega)]; exact P.st j hj
  refine ⟨by rw [len_rm _ _ hk, len_rm _ _ hi, P.ln], by rw [len_rm _ _ hi]; have := P.le; omega, fun j hj => ?_, fun j hj => ?_, fun j hj o o0 o1 => ?_, fun j hj o o0 o1 => ?_, fun j k hj hk2 hne => ?_, d2.trans (r2.trans P.fa), d4.trans (r4.trans P.fr)⟩
  · rw [len_rm _ _ hi] at hj
    obtain ⟨a1, a2⟩ := ix j hj
    rw [getD_rm _ _ _ hi]; exact st _ a1 a2
  · rw [len_rm _ _ hi] at hj
    obtain ⟨a1, a2⟩ := ix j hj
    rw [getD_rm _ _ _ hk]; exact P.kb _ a1
  · rw [len_rm _ _ hi] at hj
    obtain ⟨a1, a2⟩ := ix j hj
    rw [getD_rm _ _ _ hi] at o1 ⊢
    rw [getD_rm _ _ _ hk, d3, r3]; exact P.wd _ a1 o o0 o1
  · rw [len_rm _ _ hi] at hj
    obtain ⟨a1, a2⟩ := ix j hj
    rw [getD_rm _ _ _ hi] at o1 ⊢
    have dd := P.dj _ i a1 hi a2
    have p1 := pos_eq (xs.getD (if j < i then j else j + 1) 0) o o0
    have := opB_nat (xs.getD i 0)
    have := size_opC (xs.getD i 0)
    unfold apart at dd
    rw [d1, apSet, if_neg (by omega)]; exact P.bz _ a1 o o0 o1
  · rw [len_rm _ _ hi] at hj hk2
    obtain ⟨a1, a2⟩ := ix j hj
    obtain ⟨b1, b2⟩ := ix k hk2
    rw [getD_rm _ _ _ hi, getD_rm _ _ _ hi]
    exact P.dj _ _ a1 b1 (by split <;> split <;> omega)

/-- One more, its words not all written. -/
structure AN (A : Ar) (xs : List Int) (h n j : Int) (fr : Bool) : Prop where
  st : A.stF h = 1
  bz : ∀ o : Int, 0 ≤ o → o < sizeF (opC h) → A.busy.getD (pos h o) false = true
  dj : ∀ i, i < xs.length → apart (xs.getD i 0) h
  wd : ∀ o : Int, 0 ≤ o → o < j → A.words.getD (pos h o) 0 = 100 * n + o
  zr : fr = true → ∀ o : Int, j ≤ o → o < sizeF (opC h) → A.words.getD (pos h o) 0 = 0

theorem AP.born (P : AP A xs ks n fr) (hw : A.wf) {h : Int} (hb : A.bornOk h) : AP (A.bornF h) xs ks n fr ∧ AN (A.bornF h) xs h n 0 fr := by
  obtain ⟨b1, b2, b3, b4⟩ := hb
  have hn := opB_nat h
  have hs := size_opC h
  have dj : ∀ i, i < xs.length → apart (xs.getD i 0) h := fun i hi => by
    refine Classical.byContradiction fun hc => ?_
    have hx := opB_nat (xs.getD i 0)
    have hz := size_opC (xs.getD i 0)
    have hc : ¬ (opB (xs.getD i 0) + sizeF (opC (xs.getD i 0)) ≤ opB h ∨ opB h + sizeF (opC h) ≤ opB (xs.getD i 0)) := hc
    by_cases e : opB h ≤ opB (xs.getD i 0)
    · have := P.bz i hi 0 (by omega) (by omega)
      have f := b4 (opB (xs.getD i 0) - opB h).toNat (by omega)
      have p1 := pos_eq (xs.getD i 0) 0 (by omega)
      rw [show (opB h).toNat + (opB (xs.getD i 0) - opB h).toNat = pos (xs.getD i 0) 0 by omega, this] at f
      cases f
    · have := P.bz i hi (opB h - opB (xs.getD i 0)) (by omega) (by omega)
      have f := b4 0 (by omega)
      have p1 := pos_eq (xs.getD i 0) (opB h - opB (xs.getD i 0)) (by omega)
      rw [show (opB h).toNat + 0 = pos (xs.getD i 0) (opB h - opB (xs.getD i 0)) by omega, this] at f
      cases f
  have wl := hw.busy
  have wo : ∀ i, i < xs.length → ∀ o : Int, 0 ≤ o → o < sizeF (opC (xs.getD i 0)) → ¬ ((opB h).toNat ≤ pos (xs.getD i 0) o ∧ pos (xs.getD i 0) o < (opB h).toNat + (sizeF (opC h)).toNat) := fun i hi o o0 o1 => by
    have := dj i hi
    have p1 := pos_eq (xs.getD i 0) o o0
    unfold apart at this
    omega
  refine ⟨⟨P.ln, P.le, fun i hi => ?_, P.kb, fun i hi o o0 o1 => ?_, fun i hi o o0 o1 => ?_, P.dj, (bornF_fault A h).trans P.fa, (bornF_fresh A h).trans P.fr⟩, ⟨?_, fun o o0 o1 => ?_, dj, fun o o0 o1 => by omega, fun hf o o0 o1 => ?_⟩⟩
  · rw [stF_bornF, if_neg (apart_ne (dj i hi))]; exact P.st i hi
  · rw [bornF_words]
    split
    · rw [apSet, if_neg (by have := wo i hi o o0 o1; omega)]; exact P.wd i hi o o0 o1
    · exact P.wd i hi o o0 o1
  · rw [bornF_busy, apSet, if_neg (by have := wo i hi o o0 o1; omega)]; exact P.bz i hi o o0 o1
  · rw [stF_bornF, if_pos rfl, if_pos ⟨b1, rfl⟩]
  · have p1 := pos_eq h o o0
    rw [bornF_busy, apSet, if_pos (by omega)]
  · have p1 := pos_eq h o o0
    rw [bornF_words, if_pos (by rw [P.fr]; exact hf), apSet, if_pos (by omega)]

theorem AN.inOk {h j : Int} {o : Int} (N : AN A xs h n j fr) (o0 : 0 ≤ o) (o1 : o < sizeF (opC h)) : A.inOk h o := ⟨by rw [N.st]; decide, o0, o1⟩
theorem AN.touch {h j k o : Int} (N : AN A xs h n j fr) (hi : A.inOk k o) : AN (A.touch k o) xs h n j fr := by
  rw [touch_yes hi]
  exact ⟨(stF_slots rfl h).trans N.st, N.bz, N.dj, N.wd, N.zr⟩

/-- A word of it is written. -/
theorem AP.store (P : AP A xs ks n fr) (hw : A.wf) {h j : Int} (N : AN A xs h n j fr) (j0 : 0 ≤ j) (j1 : j < sizeF (opC h)) : AP (A.storeF h j (100 * n + j)) xs ks n fr ∧ AN (A.storeF h j (100 * n + j)) xs h n (j + 1) fr := by
  have hi := N.inOk j0 j1
  have pl := pos_lt hw hi
  have pj := pos_eq h j j0
  rw [storeF_yes hi]
  have gw : ∀ m, ((A.tick.setW (pos h j) (100 * n + j)).words).getD m 0 = if m = pos h j then 100 * n + j else A.words.getD m 0 := fun m => by
    show (A.words.set _ _).getD m 0 = _
    rw [List.getD_eq_getElem?_getD, List.getD_eq_getElem?_getD, List.getElem?_set]
    by_cases e : m = pos h j
    · rw [if_pos e.symm, if_pos e, if_pos (by omega)]; rfl
    · rw [if_neg (fun h => e h.symm), if_neg e]
  refine ⟨⟨P.ln, P.le, fun i hi => (stF_slots rfl _).trans (P.st i hi), P.kb, fun i hi o o0 o1 => ?_, P.bz, P.dj, P.fa, P.fr⟩, ⟨(stF_slots rfl h).trans N.st, N.bz, N.dj, fun o o0 o1 => ?_, fun hf o o0 o1 => ?_⟩⟩
  · have := N.dj i hi
    have p1 := pos_eq (xs.getD i 0) o o0
    unfold apart at this
    rw [gw, if_neg (by omega)]; exact P.wd i hi o o0 o1
  · have p1 := pos_eq h o o0
    rw [gw]
    by_cases e : o = j
    · rw [e, if_pos rfl]
    · rw [if_neg (by omega)]; exact N.wd o o0 (by omega)
  · have p1 := pos_eq h o (by omega)
    rw [gw, if_neg (by omega)]; exact N.zr hf o (by omega) o1

/-- All are written. -/
theorem AP.add (P : AP A xs ks n fr) (n0 : 0 ≤ n) {h j : Int} (N : AN A xs h n j fr) (hj : sizeF (opC h) ≤ j) : AP A (xs ++ [h]) (ks ++ [n]) (n + 1) fr := by
  have lx : (xs ++ [h]).length = xs.length + 1 := by simp
  have gx : ∀ i, i < xs.length → (xs ++ [h]).getD i 0 = xs.getD i 0 := fun i hi => by rw [getD_app1, if_pos hi]
  have gh : (xs ++ [h]).getD xs.length 0 = h := by rw [getD_app1, if_neg (by omega), if_pos rfl]
  have gk : ∀ i, i < xs.length → (ks ++ [n]).getD i 0 = ks.getD i 0 := fun i hi => by rw [getD_app1, if_pos (by rw [P.ln]; exact hi)]
  have gn : (ks ++ [n]).getD xs.length 0 = n := by rw [getD_app1, if_neg (by rw [P.ln]; omega), if_pos P.ln.symm]
  have sp : ∀ i, i < (xs ++ [h]).length → i < xs.length ∨ i = xs.length := fun i hi => by omega
  have sy : ∀ {x y}, apart x y → apart y x := fun h => by unfold apart at *; omega
  refine ⟨by simp [P.ln], by rw [lx]; have := P.le; omega, fun i hi => ?_, fun i hi => ?_, fun i hi o o0 o1 => ?_, fun i hi o o0 o1 => ?_, fun i j hi hj hne => ?_, P.fa, P.fr⟩
  · rcases sp i hi with e | e
    · rw [gx i e]; exact P.st i e
    · subst e; rw [gh]; exact N.st
  · rcases sp i hi with e | e
    · rw [gk i e]; have := P.kb i e; omega
    · subst e; rw [gn]; omega
  · rcases sp i hi with e | e
    · rw [gx i e] at o1 ⊢; rw [gk i e]; exact P.wd i e o o0 o1
    · subst e; rw [gh] at o1 ⊢; rw [gn]; exact N.wd o o0 (by omega)
  · rcases sp i hi with e | e
    · rw [gx i e] at o1 ⊢; exact P.bz i e o o0 o1
    · subst e; rw [gh] at o1 ⊢; exact N.bz o o0 o1
  · rcases sp i hi with e | e
    · rcases sp j hj with e2 | e2
      · rw [gx i e, gx j e2]; exact P.dj i j e e2 hne
      · subst e2; rw [gx i e, gh]; exact N.dj i e
    · rcases sp j hj with e2 | e2
      · subst e; rw [gx j e2, gh]; exact sy (N.dj j e2)
      · omega
end Go.Proofs.Ytjleoogieoahnaa

set_option linter.unusedVariables false
set_option maxRecDepth 20000
namespace Go.Proofs.Ytjleoogieoahnaa
open Go Go.Fw

theorem awake09_det (H : Heap) : Det Try.prog f_magpielaw09_awake [] H (.bool true) H := by
  refine t_magpielaw09_awake_spec fun L => ?_
  unfold t_magpielaw09_awake
  refine wp_call_of (New_spec 4 64 false H (by omega) (by omega)) ?_
  rintro v K ⟨A, hm, hi, rfl, rfl⟩
  refine ⟨some ⟨A.a, 0, none⟩, rfl, ?_⟩
  have hw := made_wf hm (by exact Nat.le_of_ble_eq_true rfl) (by exact Nat.le_of_ble_eq_true rfl)
  have hA : A = awA A.a A.r A.w A.s A.b A.c A.g := made_eq hm
  have h0 : packF 8 1 0 = 1125934266580996 := rfl
  refine wp_qcall_det (Pack_at _ h0) ?_
  refine look_val (x := false) (np_some _) (wp_false rfl ?_)
  generalize A.a = a, A.r = r, A.w = w, A.s = s, A.b = b, A.c = c, A.g = g at *
  subst hA
  have o1 := of_decide_eq_true (ae0 a r w s b c g)
  have w1 : (aw1 a r w s b c g).wf := bornF_wf hw 1125934266580996 o1.2.1
  have l1 : Ar.Alike (awA a r w s b c g) (aw1 a r w s b c g) := bornF_alike _ _
  have w2 : (aw2 a r w s b c g).wf := storeF_wf w1 _ _ _
  have l2 : Ar.Alike (awA a r w s b c g) (aw2 a r w s b c g) := l1.trans (storeF_alike _ _ _ _)
  have w3 : (aw3 a r w s b c g).wf := touch_wf w2 _ _
  have l3 : Ar.Alike (awA a r w s b c g) (aw3 a r w s b c g) := l2.trans (touch_alike _ _ _)
  have w4 : (aw4 a r w s b c g).wf := retireF_wf w3 _
  have l4 : Ar.Alike (awA a r w s b c g) (aw4 a r w s b c g) := l3.trans (retireF_alike _ _)
  have w5 : (aw5 a r w s b c g).wf := diedF_wf w4 _
  have l5 : Ar.Alike (awA a r w s b c g) (aw5 a r w s b c g) := l4.trans (diedF_alike _ _)
  have l6 : Ar.Alike (awA a r w s b c g) (aw6 a r w s b c g) := l5.trans (touch_alike _ _ _)
  refine wp_call_det (x := true) (Born_yes hw o1 rfl H) (wp_false rfl ?_)
  refine wp_call_det (x := false) (Born_no w1 (of_decide_eq_false (ae1 a r w s b c g)) (pA_alike l1).symm H) (wp_false rfl ?_)
  refine wp_call_det (x := ()) (Store_at w1 (pA_alike l1).symm H) ?_
  refine wp_call_det (x := (77 : Int)) (Load_at w2 (pA_alike l2).symm (ae2 a r w s b c g) H) (wp_false rfl ?_)
  refine wp_call_det (x := false) (Fault_at (A := aw3 a r w s b c g) (pA_alike l3).symm (ae3 a r w s b c g) H) (wp_false rfl ?_)
  refine wp_call_det (x := true) (Retire_at w3 (pA_alike l3).symm (ae4 a r w s b c g) H) (wp_false rfl ?_)
  refine wp_call_det (x := true) (Died_at w4 (pA_alike l4).symm (ae5 a r w s b c g) H) (wp_false rfl ?_)
  refine wp_call_det (x := (0 : Int)) (Load_at w5 (pA_alike l5).symm (ae6 a r w s b c g) H) (wp_true rfl ?_)
  refine wp_call_det (x := true) (Fault_at (A := aw6 a r w s b c g) (pA_alike l6).symm (ae7 a r w s b c g) H) (wp_true rfl ?_)
  refine wp_call_det (x := (3 : Int)) (Uses_at (A := aw6 a r w s b c g) (pA_alike l6).symm (ae8 a r w s b c g) H) ?_
  exact ⟨H, put_new (Alike_ids l6 hi), rfl, rfl⟩
end Go.Proofs.Ytjleoogieoahnaa

set_option linter.unusedVariables false
set_option maxRecDepth 10000
namespace Go.Proofs.Ytjleoogieoahnaa
open Go Go.Fw
/- magpie/magpielaw09.ArenaApart -/
@[reducible] def t_magpielaw09_ArenaApart_L4_sh : List Sh1 := [(.leaf .bool), (.leaf (.int .i64))]
noncomputable def t_magpielaw09_ArenaApart_L4 (x24 : Option Addr) (x144 : Sl) (x148 : Sl) (y3 : HL Sh1.T [(.leaf .bool), (.leaf (.int .i64))]) (x160 : HL Sh1.T [(.leaf (.int .i64)), (.leaf (.int .i64)), (.leaf (.int .i64)), (.leaf .bool)]) (y4 : HL Sh1.T t_magpielaw09_ArenaApart_L4_sh) : Tree :=
  .qcall f_handle_Size [(.int .i64 x160.2.2.1)] (.one (.leaf (.int .i64))) fun x167 =>
  bif (decide ((y4.2.1 : Int) < x167)) then (
    .look (opS Try.prog (.indexAddr ty_s_int (.tmp 0) (.tmp 1)) ty_unit [(.slice x144.a x144.len x144.cap), (.int .i64 y3.2.1)]) (.one (.leaf .addr)) fun x174 =>
    .ld x174 (.int .i64) fun x175 =>
    .look (opS Try.prog (.indexAddr ty_s_int (.tmp 0) (.tmp 1)) ty_unit [(.slice x148.a x148.len x148.cap), (.int .i64 y3.2.1)]) (.one (.leaf .addr)) fun x180 =>
    .ld x180 (.int .i64) fun x181 =>
    .call f_arena_Arena_Load [(.pointer x24), (.int .i64 x175), (.int .i64 y4.2.1)] (.one (.leaf (.int .i64))) fun x177 =>
    .check (ldS x180) (.int .i64 x181) <|
    .check (opS Try.prog (.indexAddr ty_s_int (.tmp 0) (.tmp 1)) ty_unit [(.slice x148.a x148.len x148.cap), (.int .i64 y3.2.1)]) (.pointer (some x180)) <|
    bif ((x177 : Int) != (w64 ((w64 (100 * x181)) + y4.2.1))) then (
      .ret (.bool false))
    else (
      .look (opS Try.prog (.indexAddr ty_s_int (.tmp 0) (.tmp 1)) ty_unit [(.slice x144.a x144.len x144.cap), (.int .i64 y3.2.1)]) (.one (.leaf .addr)) fun x190 =>
      .ld x190 (.int .i64) fun x191 =>
      .call f_arena_Arena_State [(.pointer x24), (.int .i64 x191)] (.one (.leaf (.int .i64))) fun x192 =>
      bif ((x192 : Int) != 1) then (
        .ret (.bool false))
      else (
        .again 1856 [(.bool y4.1), (.int .i64 (w64 (y4.2.1 + 1)))])))
  else (
    .again 1601 [(.bool y4.1), (.int .i64 (w64 (y3.2.1 + 1)))])

@[reducible] def t_magpielaw09_ArenaApart_L3_sh : List Sh1 := [(.leaf .bool), (.leaf (.int .i64))]
noncomputable def t_magpielaw09_ArenaApart_L3 (x24 : Option Addr) (y1 : HL Sh1.T [(.leaf .bool), (.leaf .slice), (.leaf .slice), (.leaf (.int .i64))]) (x144 : Sl) (x148 : Sl) (y3 : HL Sh1.T t_magpielaw09_ArenaApart_L3_sh) : Tree :=
  bif (decide ((y3.2.1 : Int) < ((x144.len : Nat) : Int))) then (
    .look (opS Try.prog (.indexAddr ty_s_int (.tmp 0) (.tmp 1)) ty_unit [(.slice x144.a x144.len x144.cap), (.int .i64 y3.2.1)]) (.one (.leaf .addr)) fun x158 =>
    .ld x158 (.int .i64) fun x159 =>
    .qcall f_handle_Open [(.int .i64 x159)] (.tup [(.leaf (.int .i64)), (.leaf (.int .i64)), (.leaf (.int .i64)), (.leaf .bool)]) fun x160 =>
    .loop 1856 t_magpielaw09_ArenaApart_L4_sh [(.bool y3.1), (.int .i64 0)] (t_magpielaw09_ArenaApart_L4 x24 x144 x148 y3 x160))
  else (
    .again 386 [(.bool y3.1), (.slice x144.a x144.len x144.cap), (.slice x148.a x148.len x148.cap), (.int .i64 (w64 (y1.2.2.2.1 + 1)))])

@[reducible] def t_magpielaw09_ArenaApart_L2_sh : List Sh1 := [(.leaf .bool), (.leaf (.int .i64))]
noncomputable def t_magpielaw09_ArenaApart_L2 (p1 : Bool) (x24 : Option Addr) (y1 : HL Sh1.T [(.leaf .bool), (.leaf .slice), (.leaf .slice), (.leaf (.int .i64))]) (x107 : Int) (x114 : HL Sh1.T [(.leaf (.int .i64)), (.leaf (.int .i64)), (.leaf (.int .i64)), (.leaf .bool)]) (y2 : HL Sh1.T t_magpielaw09_ArenaApart_L2_sh) : Tree :=
  .qcall f_handle_Size [(.int .i64 x114.2.2.1)] (.one (.leaf (.int .i64))) fun x121 =>
  bif (decide ((y2.2.1 : Int) < x121)) then (
    bif p1 then (
      .call f_arena_Arena_Load [(.pointer x24), (.int .i64 x107), (.int .i64 y2.2.1)] (.one (.leaf (.int .i64))) fun x130 =>
      bif ((x130 : Int) != 0) then (
        .ret (.bool false))
      else (
        .call f_arena_Arena_Store [(.pointer x24), (.int .i64 x107), (.int .i64 y2.2.1), (.int .i64 (w64 ((w64 (100 * y1.2.2.2.1)) + y2.2.1)))] .unit fun _ =>
        .again 1152 [(.bool y2.1), (.int .i64 (w64 (y2.2.1 + 1)))]))
    else (
      .call f_arena_Arena_Store [(.pointer x24), (.int .i64 x107), (.int .i64 y2.2.1), (.int .i64 (w64 ((w64 (100 * y1.2.2.2.1)) + y2.2.1)))] .unit fun _ =>
      .again 1152 [(.bool y2.1), (.int .i64 (w64 (y2.2.1 + 1)))]))
  else (
    .newS (.cells #[(.int .i64 x107)] ty_int) 1 fun x143 =>
    .act (opS Try.prog (.call { callee := .builtin .append, args := #[(.tmp 0), (.tmp 1)], argTypes := #[ty_s_int, ty_s_int] }) ty_s_int [(.slice y1.2.1.a y1.2.1.len y1.2.1.cap), (.slice x143.a x143.len x143.cap)]) (.one (.leaf .slice)) fun x144 =>
    .newS (.cells #[(.int .i64 y1.2.2.2.1)] ty_int) 1 fun x147 =>
    .act (opS Try.prog (.call { callee := .builtin .append, args := #[(.tmp 0), (.tmp 1)], argTypes := #[ty_s_int, ty_s_int] }) ty_s_int [(.slice y1.2.2.1.a y1.2.2.1.len y1.2.2.1.cap), (.slice x147.a x147.len x147.cap)]) (.one (.leaf .slice)) fun x148 =>
    .loop 1601 t_magpielaw09_ArenaApart_L3_sh [(.bool y2.1), (.int .i64 0)] (t_magpielaw09_ArenaApart_L3 x24 y1 x144 x148))

noncomputable def t_magpielaw09_ArenaApart_J8 (p1 : Bool) (x24 : Option Addr) (y1 : HL Sh1.T [(.leaf .bool), (.leaf .slice), (.leaf .slice), (.leaf (.int .i64))]) (x107 : Int) (x110 : Bool) : Tree :=
  bif (!x110) then (
    .again 386 [(.bool y1.1), (.slice y1.2.1.a y1.2.1.len y1.2.1.cap), (.slice y1.2.2.1.a y1.2.2.1.len y1.2.2.1.cap), (.int .i64 (w64 (y1.2.2.2.1 + 1)))])
  else (
    .qcall f_handle_Open [(.int .i64 x107)] (.tup [(.leaf (.int .i64)), (.leaf (.int .i64)), (.leaf (.int .i64)), (.leaf .bool)]) fun x114 =>
    .loop 1152 t_magpielaw09_ArenaApart_L2_sh [(.bool y1.1), (.int .i64 0)] (t_magpielaw09_ArenaApart_L2 p1 x24 y1 x107 x114))

noncomputable def t_magpielaw09_ArenaApart_J12 (x24 : Option Addr) : Tree :=
  .call f_arena_Arena_Fault [(.pointer x24)] (.one (.leaf .bool)) fun x196 =>
  bif (!x196) then (
    .call f_magpielaw09_awake [] (.one (.leaf .bool)) fun x199 =>
    .ret (.bool x199))
  else (
    .ret (.bool false))

@[reducible] def t_magpielaw09_ArenaApart_L1_sh : List Sh1 := [(.leaf .bool), (.leaf .slice), (.leaf .slice), (.leaf (.int .i64))]
noncomputable def t_magpielaw09_ArenaApart_L1 (p0 : Sl) (p1 : Bool) (x24 : Option Addr) (y1 : HL Sh1.T t_magpielaw09_ArenaApart_L1_sh) : Tree :=
  bif (decide ((y1.2.2.2.1 : Int) < ((p0.len : Nat) : Int))) then (
    bif (decide ((y1.2.2.2.1 : Int) < 40)) then (
      .look (opS Try.prog (.indexAddr ty_s_int (.tmp 0) (.tmp 1)) ty_unit [(.slice p0.a p0.len p0.cap), (.int .i64 y1.2.2.2.1)]) (.one (.leaf .addr)) fun x39 =>
      .ld x39 (.int .i64) fun x40 =>
      .qcall f_magpielaw00_Place [(.int .i64 x40), (.int .i64 1048576)] (.one (.leaf (.int .i64))) fun x41 =>
      bif (((Int.tmod x41 4) : Int) == 0) then (
        bif (decide ((((y1.2.1.len : Nat) : Int) : Int) > 0)) then (
          .look (opS Try.prog (.binOp .rem ty_int (.tmp 0) (.tmp 1) ty_int) ty_int [(.int .i64 (w64 (Int.tdiv x41 4))), (.int .i64 ((y1.2.1.len : Nat) : Int))]) (.one (.leaf (.int .i64))) fun x54 =>
          .look (opS Try.prog (.indexAddr ty_s_int (.tmp 0) (.tmp 1)) ty_unit [(.slice y1.2.1.a y1.2.1.len y1.2.1.cap), (.int .i64 x54)]) (.one (.leaf .addr)) fun x58 =>
          .ld x58 (.int .i64) fun x59 =>
          .call f_arena_Arena_Retire [(.pointer x24), (.int .i64 x59)] (.one (.leaf .bool)) fun x60 =>
          bif (!x60) then (
            .ret (.bool false))
          else (
            .look (opS Try.prog (.indexAddr ty_s_int (.tmp 0) (.tmp 1)) ty_unit [(.slice y1.2.1.a y1.2.1.len y1.2.1.cap), (.int .i64 x54)]) (.one (.leaf .addr)) fun x66 =>
            .ld x66 (.int .i64) fun x67 =>
            .call f_arena_Arena_Died [(.pointer x24), (.int .i64 x67)] (.one (.leaf .bool)) fun x68 =>
            bif (!x68) then (
              .ret (.bool false))
            else (
              .look (opS Try.prog (.indexAddr ty_s_int (.tmp 0) (.tmp 1)) ty_unit [(.slice y1.2.1.a y1.2.1.len y1.2.1.cap), (.int .i64 x54)]) (.one (.leaf .addr)) fun x75 =>
              .ld x75 (.int .i64) fun x76 =>
              .call f_arena_Arena_State [(.pointer x24), (.int .i64 x76)] (.one (.leaf (.int .i64))) fun x77 =>
              bif ((x77 : Int) != 0) then (
                .ret (.bool false))
              else (
                .look (opS Try.prog (.slice ty_s_int (.tmp 0) none (some (.tmp 1)) none) ty_s_int [(.slice y1.2.1.a y1.2.1.len y1.2.1.cap), (.int .i64 x54)]) (.one (.leaf .slice)) fun x82 =>
                .look (opS Try.prog (.slice ty_s_int (.tmp 0) (some (.tmp 1)) none none) ty_s_int [(.slice y1.2.1.a y1.2.1.len y1.2.1.cap), (.int .i64 (w64 (x54 + 1)))]) (.one (.leaf .slice)) fun x87 =>
                .look (opS Try.prog (.slice ty_s_int (.tmp 0) none (some (.tmp 1)) none) ty_s_int [(.slice y1.2.2.1.a y1.2.2.1.len y1.2.2.1.cap), (.int .i64 x54)]) (.one (.leaf .slice)) fun x91 =>
                .look (opS Try.prog (.slice ty_s_int (.tmp 0) (some (.tmp 1)) none none) ty_s_int [(.slice y1.2.2.1.a y1.2.2.1.len y1.2.2.1.cap), (.int .i64 (w64 (x54 + 1)))]) (.one (.leaf .slice)) fun x96 =>
                .act (opS Try.prog (.call { callee := .builtin .append, args := #[(.const (.slice none 0 0)), (.tmp 0)], argTypes := #[ty_s_int, ty_s_int] }) ty_s_int [(.slice x82.a x82.len x82.cap)]) (.one (.leaf .slice)) fun x83 =>
                .check (opS Try.prog (.slice ty_s_int (.tmp 0) (some (.tmp 1)) none none) ty_s_int [(.slice y1.2.2.1.a y1.2.2.1.len y1.2.2.1.cap), (.int .i64 (w64 (x54 + 1)))]) (.slice x96.a x96.len x96.cap) <|
                .check (opS Try.prog (.slice ty_s_int (.tmp 0) none (some (.tmp 1)) none) ty_s_int [(.slice y1.2.2.1.a y1.2.2.1.len y1.2.2.1.cap), (.int .i64 x54)]) (.slice x91.a x91.len x91.cap) <|
                .check (opS Try.prog (.slice ty_s_int (.tmp 0) (some (.tmp 1)) none none) ty_s_int [(.slice y1.2.1.a y1.2.1.len y1.2.1.cap), (.int .i64 (w64 (x54 + 1)))]) (.slice x87.a x87.len x87.cap) <|
                .act (opS Try.prog (.call { callee := .builtin .append, args := #[(.tmp 0), (.tmp 1)], argTypes := #[ty_s_int, ty_s_int] }) ty_s_int [(.slice x83.a x83.len x83.cap), (.slice x87.a x87.len x87.cap)]) (.one (.leaf .slice)) fun x88 =>
                .check (opS Try.prog (.slice ty_s_int (.tmp 0) (some (.tmp 1)) none none) ty_s_int [(.slice y1.2.2.1.a y1.2.2.1.len y1.2.2.1.cap), (.int .i64 (w64 (x54 + 1)))]) (.slice x96.a x96.len x96.cap) <|
                .check (opS Try.prog (.slice ty_s_int (.tmp 0) none (some (.tmp 1)) none) ty_s_int [(.slice y1.2.2.1.a y1.2.2.1.len y1.2.2.1.cap), (.int .i64 x54)]) (.slice x91.a x91.len x91.cap) <|
                .act (opS Try.prog (.call { callee := .builtin .append, args := #[(.const (.slice none 0 0)), (.tmp 0)], argTypes := #[ty_s_int, ty_s_int] }) ty_s_int [(.slice x91.a x91.len x91.cap)]) (.one (.leaf .slice)) fun x92 =>
                .check (opS Try.prog (.slice ty_s_int (.tmp 0) (some (.tmp 1)) none none) ty_s_int [(.slice y1.2.2.1.a y1.2.2.1.len y1.2.2.1.cap), (.int .i64 (w64 (x54 + 1)))]) (.slice x96.a x96.len x96.cap) <|
                .act (opS Try.prog (.call { callee := .builtin .append, args := #[(.tmp 0), (.tmp 1)], argTypes := #[ty_s_int, ty_s_int] }) ty_s_int [(.slice x92.a x92.len x92.cap), (.slice x96.a x96.len x96.cap)]) (.one (.leaf .slice)) fun x97 =>
                .again 386 [(.bool y1.1), (.slice x88.a x88.len x88.cap), (.slice x97.a x97.len x97.cap), (.int .i64 (w64 (y1.2.2.2.1 + 1)))]))))
        else (
          .qcall f_handle_Pack [(.int .i64 (w64 (8 * (Int.tmod (w64 (Int.tdiv x41 4)) 60)))), (.int .i64 (w64 (y1.2.2.2.1 + 1))), (.int .i64 (Int.tmod (w64 (Int.tdiv x41 240)) 4))] (.one (.leaf (.int .i64))) fun x107 =>
          .call f_arena_Arena_Born [(.pointer x24), (.int .i64 x107)] (.one (.leaf .bool)) fun x110 =>
          t_magpielaw09_ArenaApart_J8 p1 x24 y1 x107 x110))
      else (
        .qcall f_handle_Pack [(.int .i64 (w64 (8 * (Int.tmod (w64 (Int.tdiv x41 4)) 60)))), (.int .i64 (w64 (y1.2.2.2.1 + 1))), (.int .i64 (Int.tmod (w64 (Int.tdiv x41 240)) 4))] (.one (.leaf (.int .i64))) fun x107 =>
        .call f_arena_Arena_Born [(.pointer x24), (.int .i64 x107)] (.one (.leaf .bool)) fun x110 =>
        t_magpielaw09_ArenaApart_J8 p1 x24 y1 x107 x110))
    else (
      t_magpielaw09_ArenaApart_J12 x24))
  else (
    t_magpielaw09_ArenaApart_J12 x24)
noncomputable def t_magpielaw09_ArenaApart (p0 : Sl) (p1 : Bool) : Tree :=
  .call f_arena_New [(.int .i64 0), (.int .i64 512), (.bool p1)] (.one (.leaf .ptr)) fun x24 =>
  .look (opS Try.prog (.binOp .eql ty_p_arena_Arena (.tmp 0) (.const (.pointer none)) ty_p_arena_Arena) ty_bool [(.pointer x24)]) (.one (.leaf .bool)) fun x26 =>
  bif x26 then (
    .ret (.bool false))
  else (
    .loop 386 t_magpielaw09_ArenaApart_L1_sh [(.bool false), (.slice none 0 0), (.slice none 0 0), (.int .i64 0)] (t_magpielaw09_ArenaApart_L1 p0 p1 x24))
theorem t_magpielaw09_ArenaApart_eq (p0 : Sl) (p1 : Bool) : funcTree Try.prog { quiet := [10, 23, 25, 26, 30, 37, 42, 45, 47, 54, 73], quietTmp := true, fncs := [], ifcs := [] } Try.f4 [(.slice p0.a p0.len p0.cap), (.bool p1)] = t_magpielaw09_ArenaApart p0 p1 := by kernel_rfl
theorem t_magpielaw09_ArenaApart_spec {p0 : Sl} {p1 : Bool} {H : Heap} {R : Value → Heap → Prop} (h : ∀ L, wp Try.prog (t_magpielaw09_ArenaApart p0 p1) L H R) : SpecF Try.prog f_magpielaw09_ArenaApart #[(.slice p0.a p0.len p0.cap), (.bool p1)] H R :=
  spec_of_tree (cfg := { quiet := [10, 23, 25, 26, 30, 37, 42, 45, 47, 54, 73], quietTmp := true, fncs := [], ifcs := [] }) Try.func4 fun L => (t_magpielaw09_ArenaApart_eq p0 p1).symm ▸ h L

end Go.Proofs.Ytjleoogieoahnaa

set_option linter.unusedVariables false
set_option linter.unusedSimpArgs false
set_option maxRecDepth 20000
namespace Go.Proofs.Ytjleoogieoahnaa
open Go Go.Fw

/-- Two slices of numbers, in blocks of their own. -/
structure Two (tl : Bl) (s : Sl) (xs : List Int) (t : Sl) (ks : List Int) : Prop where
  x : SlOf tl ty_int eI s xs
  k : SlOf tl ty_int eI t ks
  sep : ∀ a, s.a = some a → t.a ≠ some a
theorem Two.app1 {tl tl' : Bl} {s t s' : Sl} {xs ks ys : List Int} (T : Two tl s xs t ks) (hs : SlOf tl' ty_int eI s' ys) (ap : Apd tl s tl' s') : Two tl' s' ys t ks := by
  refine ⟨hs, T.k.other ap (fun a ha e => T.sep a e ha) fun a ha => (T.x.mem ha).2, fun a ha e => ?_⟩
  rcases ap.at' with h | h
  · rw [h] at ha; exact T.sep a ha e
  · exact h a ha (T.k.mem e).1
theorem Two.app2 {tl tl' : Bl} {s t t' : Sl} {xs ks ys : List Int} (T : Two tl s xs t ks) (ht : SlOf tl' ty_int eI t' ys) (ap : Apd tl t tl' t') : Two tl' s xs t' ys := by
  refine ⟨T.x.other ap (fun a ha e => T.sep a ha e) fun a ha => (T.k.mem ha).2, ht, fun a ha e => ?_⟩
  rcases ap.at' with h | h
  · rw [h] at e; exact T.sep a ha e
  · exact h a e (T.x.mem ha).1

theorem eqAr9 (a : Addr) : opS Try.prog (.binOp .eql ty_p_arena_Arena (.tmp 0) (.const (.pointer none)) ty_p_arena_Arena) ty_bool [(.pointer (some a))] = .pure (.value (.bool false)) := by kernel_rfl

theorem sl_cap {l : Bl} {s : Sl} {xs : List Int} (h : SlOf l ty_int eI s xs) : (s.len : Int) ≤ s.cap := by
  rcases h with ⟨rfl, _⟩ | ⟨b, rest, r, rfl, _⟩
  · exact Int.le_refl _
  · show ((xs.length : Nat) : Int) ≤ ((xs.length + r : Nat) : Int); omega

section
variable {L : Hands} {R : Value → Heap → Prop} {A : Ar} {I : List Nat} {tl : Bl} {H : Heap} {s t : Sl} {xs ks : List Int} {n : Int} {fr : Bool}

/-- A number of a slice. -/
theorem w_num {u : TypeId} {i : Int} {k : Addr → Int → Tree} (hA : Aw I A) (ok : Ok I H (keys tl)) (h : SlOf tl ty_int eI s xs) (i0 : 0 ≤ i) (i1 : i < xs.length) (hk : ∀ a : Addr, (∀ A', Aw I A' → (own A' tl H).cell? a = some (.int .i64 (xs.getD i.toNat 0))) → opS Try.prog (.indexAddr ty_s_int (.tmp 0) (.tmp 1)) u [(.slice s.a s.len s.cap), (.int .i64 i)] = .pure (.value (.pointer (some a))) → wp Try.prog (k a (xs.getD i.toNat 0)) L (own A tl H) R) :
    wp Try.prog (.look (opS Try.prog (.indexAddr ty_s_int (.tmp 0) (.tmp 1)) u [(.slice s.a s.len s.cap), (.int .i64 i)]) (.one (.leaf .addr)) fun x => .ld x (.int .i64) (k x)) L (own A tl H) R := by
  rcases h with ⟨rfl, rfl⟩ | ⟨b, rest, r, rfl, h2, h3⟩
  · simp at i1; omega
  · have hi : (i.toNat) < xs.length := by omega
    have e0 := opS_idxS (P := Try.prog) (t := ty_s_int) (u := u) (e := ty_int) (l := xs.length) (c := xs.length + r) (i := i) (a := ⟨b, 0, none⟩) rfl rfl i0 (by omega)
    rw [Addr.add_mk, Nat.zero_add] at e0
    have e : opS Try.prog (.indexAddr ty_s_int (.tmp 0) (.tmp 1)) u [(.slice (some ⟨b, 0, none⟩) xs.length (xs.length + r)), (.int .i64 i)] = .pure (.value (.pointer (some ⟨b, i.toNat * 1, none⟩))) := e0
    rw [Nat.mul_one] at e
    have q2 : ∀ A', Aw I A' → (own A' tl H).cell? ⟨b, i.toNat, none⟩ = some (.int .i64 (xs.getD i.toNat 0)) := fun A' hA' => by
      rw [Heap.cell_of (own_mem hA' ok h3), List.getElem?_toArray, List.getElem?_append_left (by rw [eI_all, List.length_map]; exact hi), eI_all, List.getElem?_map, List.getElem?_eq_getElem hi, List.getD_eq_getElem?_getD, List.getElem?_eq_getElem hi]; rfl
    refine look_val (x := ⟨b, i.toNat, none⟩) e ?_
    refine wp_ld_of (x := xs.getD i.toNat 0) (q2 A hA) ?_
    exact hk _ q2 e
/-- It, no more. -/
theorem w_num1 {u : TypeId} {i : Int} {k : Int → Tree} (hA : Aw I A) (ok : Ok I H (keys tl)) (h : SlOf tl ty_int eI s xs) (i0 : 0 ≤ i) (i1 : i < xs.length) (hk : wp Try.prog (k (xs.getD i.toNat 0)) L (own A tl H) R) :
    wp Try.prog (.look (opS Try.prog (.indexAddr ty_s_int (.tmp 0) (.tmp 1)) u [(.slice s.a s.len s.cap), (.int .i64 i)]) (.one (.leaf .addr)) fun x => .ld x (.int .i64) k) L (own A tl H) R :=
  w_num hA ok h i0 i1 fun _ _ _ => hk

theorem ap_bound {i : Int} (i0 : 0 ≤ i ∧ i ≤ 100) (P : AP A xs ks n fr) (n1 : n ≤ 40) {j : Nat} (hj : j < xs.length) : w64 (w64 (100 * ks.getD j 0) + i) = 100 * ks.getD j 0 + i := by
  have := P.kb j hj
  rw [w64_in (x := 100 * ks.getD j 0) (by omega) (by omega), w64_in (by omega) (by omega)]

set_option maxHeartbeats 1000000 in
/-- All are looked at. -/
theorem ap_look {q : Bool} {y1 : HL Sh1.T [(.leaf .bool), (.leaf .slice), (.leaf .slice), (.leaf (.int .i64))]} (hA : Aw I A) (P : AP A xs ks n fr) (n1 : n ≤ 40) (T : Two tl s xs t ks) (ok : Ok I H (keys tl))
    (h : ∀ A' q', Aw I A' → AP A' xs ks n fr → wp Try.prog (.again 386 [(.bool q'), (.slice s.a s.len s.cap), (.slice t.a t.len t.cap), (.int .i64 (w64 (y1.2.2.2.1 + 1)))]) L (own A' tl H) R) :
    wp Try.prog (.loop 1601 t_magpielaw09_ArenaApart_L3_sh [(.bool q), (.int .i64 0)] (t_magpielaw09_ArenaApart_L3 (aI I) y1 s t)) L (own A tl H) R := by
  have hl := T.x.len
  have ple := P.le
  refine wl_bi (fun _ i K => 0 ≤ i ∧ i ≤ xs.length ∧ ∃ B, Aw I B ∧ AP B xs ks n fr ∧ K = own B tl H) (fun _ i => (xs.length - i).toNat) q 0 ⟨by omega, by omega, A, hA, P, rfl⟩ ?_
  rintro q i K ⟨i0, i1, B, hB, PB, rfl⟩
  rw [t_magpielaw09_ArenaApart_L3]
  by_cases d : i < xs.length
  case neg =>
    refine wp_false (decide_eq_false (by show ¬ i < ((s.len : Nat) : Int); omega)) ?_
    exact wp_again_up (by decide) (h B q hB PB)
  refine wp_true (decide_eq_true (by show i < ((s.len : Nat) : Int); omega)) ?_
  have hi : i.toNat < xs.length := by omega
  refine w_num1 hB ok T.x i0 d ?_
  refine wq_Open ?_
  have sz := size_opC (xs.getD i.toNat 0)
  refine wl_bi (fun _ j K => 0 ≤ j ∧ j ≤ 64 ∧ ∃ B, Aw I B ∧ AP B xs ks n fr ∧ K = own B tl H) (fun _ j => (64 - j).toNat) q 0 ⟨by omega, by omega, B, hB, PB, rfl⟩ ?_
  rintro q2 j K ⟨j0, j1, C, hC, PC, rfl⟩
  rw [t_magpielaw09_ArenaApart_L4]
  refine wq_Size ?_
  by_cases e : j < sizeF (opC (xs.getD i.toNat 0))
  case neg =>
    refine wp_false (decide_eq_false e) ?_
    rw [w64_in (x := (q, i, ()).2.1 + 1) (by show -9223372036854775808 ≤ i + 1; omega) (by show i + 1 ≤ 9223372036854775807; omega)]
    exact wp_again_up (by decide) (wp_again ⟨q2, i + 1, rfl, ⟨by omega, by omega, C, hC, PC, rfl⟩, by omega⟩)
  refine wp_true (decide_eq_true e) ?_
  refine w_num1 hC ok T.x i0 d ?_
  have kl := PC.ln
  refine w_num (i := i) hC ok T.k i0 (by omega) fun a ha oa => ?_
  have io := PC.inOk hi j0 e
  refine w_Load hC fun hD => ?_
  have PD := PC.touch io
  have lv : C.loadF (xs.getD i.toNat 0) j = 100 * ks.getD i.toNat 0 + j := by unfold Ar.loadF; rw [if_pos io, PC.wd _ hi j j0 e]
  refine chk_cell (ha _ hD) ?_
  refine check_val oa ?_
  refine wp_false (ibnf (by rw [lv]; exact (ap_bound ⟨j0, by omega⟩ PC n1 hi).symm)) ?_
  refine w_num1 hD ok T.x i0 d ?_
  refine w_State hD ?_
  refine wp_false (ibnf (PD.st _ hi)) ?_
  rw [w64_in (x := j + 1) (by omega) (by omega)]
  exact wp_again ⟨q2, j + 1, rfl, ⟨by omega, by omega, _, hD, PD, rfl⟩, by omega⟩

set_option maxHeartbeats 2000000 in
/-- One that is born: written, kept, all looked at. -/
theorem ap_born {q : Bool} {h : Int} (hA : Aw I A) (n0 : 0 ≤ n) (n1 : n < 40) {j : Int} (P : AP A xs ks n fr) (N : AN A xs h n 0 fr) (T : Two tl s xs t ks) (ok : Ok I H (keys tl))
    (hk : ∀ A' q' s' t' tl', Aw I A' → AP A' (xs ++ [h]) (ks ++ [n]) (n + 1) fr → Two tl' s' (xs ++ [h]) t' (ks ++ [n]) → Ok I H (keys tl') → wp Try.prog (.again 386 [(.bool q'), (.slice s'.a s'.len s'.cap), (.slice t'.a t'.len t'.cap), (.int .i64 (n + 1))]) L (own A' tl' H) R) :
    wp Try.prog (t_magpielaw09_ArenaApart_J8 fr (aI I) (q, s, t, n, ()) h true) L (own A tl H) R := by
  have ple := P.le
  have pln := P.ln
  unfold t_magpielaw09_ArenaApart_J8
  refine wp_false rfl ?_
  refine wq_Open ?_
  have sz := size_opC h
  refine wl_bi (fun _ j K => 0 ≤ j ∧ j ≤ 64 ∧ ∃ B, Aw I B ∧ AP B xs ks n fr ∧ AN B xs h n j fr ∧ K = own B tl H) (fun _ j => (64 - j).toNat) q 0 ⟨by omega, by omega, A, hA, P, N, rfl⟩ ?_
  rintro q2 j K ⟨j0, j1, B, hB, PB, NB, rfl⟩
  rw [t_magpielaw09_ArenaApart_L2]
  refine wq_Size ?_
  dsimp only
  by_cases e : j < sizeF (opC h)
  case neg =>
    refine wp_false (decide_eq_false e) ?_
    refine w_app1 (pre := []) hB ok T.x (by omega) fun s1 tl1 hs1 ok1 ap1 => ?_
    have T1 := T.app1 hs1 ap1
    refine w_app1 (pre := []) hB ok1 T1.k (by omega) fun t1 tl2 ht1 ok2 ap2 => ?_
    have T2 := T1.app2 ht1 ap2
    have PB' := PB.add n0 NB (by omega)
    have ok2 : Ok I H (keys tl2) := ok2
    show wp Try.prog _ _ (own B tl2 H) _
    refine ap_look hB PB' (by omega) T2 ok2 fun A' q' hA' P' => ?_
    dsimp only
    rw [w64_in (x := n + 1) (by omega) (by omega)]
    exact wp_again_up (by decide) (hk A' q' s1 t1 tl2 hA' P' T2 ok2)
  refine wp_true (decide_eq_true e) ?_
  have we : w64 (w64 (100 * n) + j) = 100 * n + j := by rw [w64_in (x := 100 * n) (by omega) (by omega), w64_in (by omega) (by omega)]
  have io := NB.inOk j0 e
  rw [we]
  have st : ∀ {C : Ar}, Aw I C → AP C xs ks n fr → AN C xs h n j fr → wp Try.prog (.call f_arena_Arena_Store [(.pointer (aI I)), (.int .i64 h), (.int .i64 j), (.int .i64 (100 * n + j))] .unit fun _ =>
        .again 1152 [(.bool q2), (.int .i64 (w64 (j + 1)))]) (L.set 1152 fun vals H'' => ∃ y0 y1, vals = [Value.bool y0, Value.int .i64 y1] ∧ (0 ≤ y1 ∧ y1 ≤ 64 ∧ ∃ B, Aw I B ∧ AP B xs ks n fr ∧ AN B xs h n y1 fr ∧ H'' = own B tl H) ∧ (64 - y1).toNat < (64 - j).toNat) (own C tl H) R := fun hC PC NC => by
    refine w_Store hC fun hD => ?_
    obtain ⟨PD, ND⟩ := PC.store hC.wf NC j0 e
    rw [w64_in (x := j + 1) (by omega) (by omega)]
    exact wp_again ⟨q2, j + 1, rfl, ⟨by omega, by omega, _, hD, PD, ND, rfl⟩, by omega⟩
  cases hf : fr with
  | false =>
    refine wp_false rfl ?_
    subst hf
    exact st hB PB NB
  | true =>
    refine wp_true rfl ?_
    refine w_Load hB fun hC => ?_
    refine wp_false (ibnf (by unfold Ar.loadF; rw [if_pos io]; exact NB.zr hf j (by omega) e)) ?_
    subst hf
    exact st hC (PB.touch io) (NB.touch io)

/-- The two without the k-th. -/
theorem w_rm2 {c : Int} {k : Sl → Sl → Tree} (hA : Aw I A) (T : Two tl s xs t ks) (ok : Ok I H (keys tl)) (c0 : 0 ≤ c) (c1 : c < xs.length) (hl : ks.length = xs.length) (hm : xs.length ≤ 1000)
    (hk : ∀ s' t' tl', Two tl' s' (xs.take c.toNat ++ xs.drop (c.toNat + 1)) t' (ks.take c.toNat ++ ks.drop (c.toNat + 1)) → Ok I H (keys tl') → wp Try.prog (k s' t') L (own A tl' H) R) :
    wp Try.prog (.look (opS Try.prog (.slice ty_s_int (.tmp 0) none (some (.tmp 1)) none) ty_s_int [(.slice s.a s.len s.cap), (.int .i64 c)]) (.one (.leaf .slice)) fun x82 =>
                .look (opS Try.prog (.slice ty_s_int (.tmp 0) (some (.tmp 1)) none none) ty_s_int [(.slice s.a s.len s.cap), (.int .i64 (w64 (c + 1)))]) (.one (.leaf .slice)) fun x87 =>
                .look (opS Try.prog (.slice ty_s_int (.tmp 0) none (some (.tmp 1)) none) ty_s_int [(.slice t.a t.len t.cap), (.int .i64 c)]) (.one (.leaf .slice)) fun x91 =>
                .look (opS Try.prog (.slice ty_s_int (.tmp 0) (some (.tmp 1)) none none) ty_s_int [(.slice t.a t.len t.cap), (.int .i64 (w64 (c + 1)))]) (.one (.leaf .slice)) fun x96 =>
                .act (opS Try.prog (.call { callee := .builtin .append, args := #[(.const (.slice none 0 0)), (.tmp 0)], argTypes := #[ty_s_int, ty_s_int] }) ty_s_int [(.slice x82.a x82.len x82.cap)]) (.one (.leaf .slice)) fun x83 =>
                .check (opS Try.prog (.slice ty_s_int (.tmp 0) (some (.tmp 1)) none none) ty_s_int [(.slice t.a t.len t.cap), (.int .i64 (w64 (c + 1)))]) (.slice x96.a x96.len x96.cap) <|
                .check (opS Try.prog (.slice ty_s_int (.tmp 0) none (some (.tmp 1)) none) ty_s_int [(.slice t.a t.len t.cap), (.int .i64 c)]) (.slice x91.a x91.len x91.cap) <|
                .check (opS Try.prog (.slice ty_s_int (.tmp 0) (some (.tmp 1)) none none) ty_s_int [(.slice s.a s.len s.cap), (.int .i64 (w64 (c + 1)))]) (.slice x87.a x87.len x87.cap) <|
                .act (opS Try.prog (.call { callee := .builtin .append, args := #[(.tmp 0), (.tmp 1)], argTypes := #[ty_s_int, ty_s_int] }) ty_s_int [(.slice x83.a x83.len x83.cap), (.slice x87.a x87.len x87.cap)]) (.one (.leaf .slice)) fun x88 =>
                .check (opS Try.prog (.slice ty_s_int (.tmp 0) (some (.tmp 1)) none none) ty_s_int [(.slice t.a t.len t.cap), (.int .i64 (w64 (c + 1)))]) (.slice x96.a x96.len x96.cap) <|
                .check (opS Try.prog (.slice ty_s_int (.tmp 0) none (some (.tmp 1)) none) ty_s_int [(.slice t.a t.len t.cap), (.int .i64 c)]) (.slice x91.a x91.len x91.cap) <|
                .act (opS Try.prog (.call { callee := .builtin .append, args := #[(.const (.slice none 0 0)), (.tmp 0)], argTypes := #[ty_s_int, ty_s_int] }) ty_s_int [(.slice x91.a x91.len x91.cap)]) (.one (.leaf .slice)) fun x92 =>
                .check (opS Try.prog (.slice ty_s_int (.tmp 0) (some (.tmp 1)) none none) ty_s_int [(.slice t.a t.len t.cap), (.int .i64 (w64 (c + 1)))]) (.slice x96.a x96.len x96.cap) <|
                .act (opS Try.prog (.call { callee := .builtin .append, args := #[(.tmp 0), (.tmp 1)], argTypes := #[ty_s_int, ty_s_int] }) ty_s_int [(.slice x92.a x92.len x92.cap), (.slice x96.a x96.len x96.cap)]) (.one (.leaf .slice)) fun x97 =>
                k x88 x97) L (own A tl H) R := by
  have sl := T.x.len
  have sc := sl_cap T.x
  have tl' := T.k.len
  have tc := sl_cap T.k
  have e1 : w64 (c + 1) = c + 1 := w64_in (by omega) (by omega)
  have e2 : (c + 1).toNat = c.toNat + 1 := by omega
  rw [e1]
  refine w_cut c0 (by omega) (w_cutLo (by omega) (by omega) (w_cut c0 (by omega) (w_cutLo (by omega) (by omega) ?_)))
  refine w_appN (pre := []) (t := ⟨s.a, c.toNat, s.cap⟩) (ys := xs.take c.toNat) hA ok ((T.x.take (n := c.toNat) (by omega)).row hA ok) (by rw [List.length_take]; show c.toNat = _; omega) (by rw [List.length_take]; omega) fun s1 tl1 hs1 ok1 ap1 => ?_
  have k1 := ap1.none
  have n1 : ∀ a, s1.a = some a → a.block ∉ keys tl := fun a ha => by
    rcases ap1.at' with h | h
    · rw [h] at ha; cases ha
    · exact h a ha
  refine ck_cutLo (by omega) (by omega) (ck_cut c0 (by omega) (ck_cutLo (by omega) (by omega) ?_))
  obtain ⟨r1, r2⟩ := (T.x.mono k1).rowLo hA ok1 (n := (c + 1).toNat) (by omega)
  refine w_appI (pre := []) (ys := xs.drop (c + 1).toNat) hA ok1 hs1 r1 r2 (by rw [List.length_take, List.length_drop]; omega) fun s2 tl2 hs2 ok2 ap2 => ?_
  rw [e2] at hs2
  have kk : ∀ p, p ∈ tl → p ∈ tl2 := fun p hp => ap2.keep p.1 p.2 (k1 p hp) fun a ha e => n1 a ha (by rw [e]; exact List.mem_map.2 ⟨p, hp, rfl⟩)
  have Tk2 : SlOf tl2 ty_int eI t ks := T.k.mono kk
  refine ck_cutLo (by omega) (by omega) (ck_cut c0 (by omega) ?_)
  refine w_appN (pre := []) (t := ⟨t.a, c.toNat, t.cap⟩) (ys := ks.take c.toNat) hA ok2 ((Tk2.take (n := c.toNat) (by omega)).row hA ok2) (by rw [List.length_take]; show c.toNat = _; omega) (by rw [List.length_take]; omega) fun t1 tl3 ht1 ok3 ap3 => ?_
  have k3 := ap3.none
  have n3 : ∀ a, t1.a = some a → a.block ∉ keys tl2 := fun a ha => by
    rcases ap3.at' with h | h
    · rw [h] at ha; cases ha
    · exact h a ha
  refine ck_cutLo (by omega) (by omega) ?_
  obtain ⟨r3, r4⟩ := (Tk2.mono k3).rowLo hA ok3 (n := (c + 1).toNat) (by omega)
  have T3 : Two tl3 s2 (xs.take c.toNat ++ xs.drop (c.toNat + 1)) t1 (ks.take c.toNat) := ⟨hs2.mono k3, ht1, fun a ha hb => n3 a hb (hs2.mem ha).1⟩
  refine w_appI (pre := []) (ys := ks.drop (c + 1).toNat) hA ok3 ht1 r3 r4 (by rw [List.length_take, List.length_drop]; omega) fun t2 tl4 ht2 ok4 ap4 => ?_
  rw [e2] at ht2
  exact hk s2 t2 tl4 (T3.app2 ht2 ap4) ok4
end

set_option maxHeartbeats 4000000 in
theorem ArenaApart_det (p : Sl) (zs : List Int) (fr : Bool) (H : Heap) (hz : RowOf H p.a p.len zs) : Det Try.prog f_magpielaw09_ArenaApart [.slice p.a p.len p.cap, .bool fr] H (.bool true) H := by
  refine t_magpielaw09_ArenaApart_spec (p0 := p) (p1 := fr) fun L => ?_
  unfold t_magpielaw09_ArenaApart
  have ok0 : Ok0 H (keys []) := ⟨.nil, fun b h => (by cases h)⟩
  refine w_New (l := []) (n := 0) (m := 512) (f := fr) ok0 (by decide) (by decide) fun A hm hA hI ok => ?_
  refine look_val (x := false) (eqAr9 _) (wp_false rfl ?_)
  have P0 : AP A [] [] 0 fr := ⟨rfl, by decide, fun i hi => (by cases hi), fun i hi => (by cases hi), fun i hi => (by cases hi), fun i hi => (by cases hi), fun i j hi => (by cases hi), hm.fault, hm.fresh⟩
  refine wl_bssi (fun _ s t n K => 0 ≤ n ∧ n ≤ 40 ∧ ∃ B xs ks tl, Aw A.ids B ∧ AP B xs ks n fr ∧ Two tl s xs t ks ∧ Ok A.ids H (keys tl) ∧ K = own B tl H) (fun _ _ _ n => (40 - n).toNat) false ⟨none, 0, 0⟩ ⟨none, 0, 0⟩ 0
    ⟨by omega, by omega, A, [], [], [], hA, P0, ⟨.inl ⟨rfl, rfl⟩, .inl ⟨rfl, rfl⟩, fun a h => (by cases h)⟩, ok, rfl⟩ ?_
  rintro q s t n K ⟨n0, n1, B, xs, ks, tl, hB, P, T, ok, rfl⟩
  rw [t_magpielaw09_ArenaApart_L1]
  have fin : ∀ L, wp Try.prog (t_magpielaw09_ArenaApart_J12 (aI A.ids)) L (own B tl H) (fun u K => u = .bool true ∧ K = H) := fun L => by
    unfold t_magpielaw09_ArenaApart_J12
    refine w_Fault hB ?_
    refine wp_true (by rw [P.fa]; rfl) ?_
    refine wp_call_det (x := true) (awake09_det _) ?_
    exact ⟨H, own_end hB ok hI, rfl, rfl⟩
  by_cases d1 : n < ((p.len : Nat) : Int)
  case neg => exact wp_false (decide_eq_false d1) (fin _)
  refine wp_true (decide_eq_true d1) ?_
  by_cases d2 : n < 40
  case neg => exact wp_false (decide_eq_false d2) (fin _)
  refine wp_true (decide_eq_true d2) ?_
  refine wp_row hz (own_end hB ok hI) n0 d1 ?_
  refine w_Place (by omega) (by omega) ?_
  have v0 := Int.emod_nonneg (zs.getD n.toNat 0) (b := 1048576) (by omega)
  have v1 := Int.emod_lt_of_pos (zs.getD n.toNat 0) (b := 1048576) (by omega)
  generalize zs.getD n.toNat 0 % 1048576 = v at *
  have en : w64 (n + 1) = n + 1 := w64_in (by omega) (by omega)
  have xl := T.x.len
  have ple := P.le
  have bo : ∀ {h : Int} (L0 : Hands), wp Try.prog (.call f_arena_Arena_Born [(.pointer (aI A.ids)), (.int .i64 h)] (.one (.leaf .bool)) fun x110 =>
        t_magpielaw09_ArenaApart_J8 fr (aI A.ids) (q, s, t, n, ()) h x110) (L0.set 386 fun vals H'' => ∃ (y0 : Bool) (y1 y2 : Sl) (y3 : Int), vals = [.bool y0, .slice y1.a y1.len y1.cap, .slice y2.a y2.len y2.cap, .int .i64 y3] ∧ (0 ≤ y3 ∧ y3 ≤ 40 ∧ ∃ B xs ks tl, Aw A.ids B ∧ AP B xs ks y3 fr ∧ Two tl y1 xs y2 ks ∧ Ok A.ids H (keys tl) ∧ H'' = own B tl H) ∧ (40 - y3).toNat < (40 - n).toNat) (own B tl H) (fun u K => u = .bool true ∧ K = H) := fun {h} L0 => by
    refine w_Born hB fun hC => ?_
    by_cases hb : B.bornOk h
    · rw [decide_eq_true hb]
      rw [show B.bornX h = B.bornF h by unfold Ar.bornX; rw [if_pos hb]] at hC ⊢
      obtain ⟨PC, NC⟩ := P.born hB.wf hb
      refine ap_born (j := 0) hC n0 d2 PC NC T ok fun A' q' s' t' tl' hA' P' T' ok' => ?_
      exact wp_again ⟨q', s', t', n + 1, rfl, ⟨by omega, by omega, A', _, _, tl', hA', P', T', ok', rfl⟩, by omega⟩
    · rw [decide_eq_false hb]
      rw [show B.bornX h = B by unfold Ar.bornX; rw [if_neg hb]] at hC ⊢
      unfold t_magpielaw09_ArenaApart_J8
      refine wp_true rfl ?_
      dsimp only
      rw [en]
      exact wp_again ⟨q, s, t, n + 1, rfl, ⟨by omega, by omega, B, xs, ks, tl, hB, P.more, T, ok, rfl⟩, by omega⟩
  dsimp only
  rw [en]
  have born : wp Try.prog (.qcall f_handle_Pack [(.int .i64 (w64 (8 * (Int.tmod (w64 (Int.tdiv v 4)) 60)))), (.int .i64 (n + 1)), (.int .i64 (Int.tmod (w64 (Int.tdiv v 240)) 4))] (.one (.leaf (.int .i64))) fun x107 =>
        .call f_arena_Arena_Born [(.pointer (aI A.ids)), (.int .i64 x107)] (.one (.leaf .bool)) fun x110 =>
        t_magpielaw09_ArenaApart_J8 fr (aI A.ids) (q, s, t, n, ()) x107 x110) _ (own B tl H) (fun u K => u = .bool true ∧ K = H) := wq_Pack (bo L)
  by_cases d3 : Int.tmod v 4 = 0
  case neg => exact wp_false (ibef d3) born
  refine wp_true (ibeq d3) ?_
  by_cases d4 : ((s.len : Nat) : Int) > 0
  case neg => exact wp_false (decide_eq_false d4) born
  refine wp_true (decide_eq_true d4) ?_
  have ev : w64 (Int.tdiv v 4) = v / 4 := by rw [Int.tdiv_eq_ediv_of_nonneg v0, w64_in (by omega) (by omega)]
  rw [ev]
  refine look_val (x := Int.tmod (v / 4) ((s.len : Nat) : Int)) (opS_rem (by omega)) ?_
  rw [Int.tmod_eq_emod_of_nonneg (show 0 ≤ v / 4 by omega)]
  have c0 := Int.emod_nonneg (v / 4) (b := ((s.len : Nat) : Int)) (by omega)
  have c1 := Int.emod_lt_of_pos (v / 4) (b := ((s.len : Nat) : Int)) (by omega)
  generalize v / 4 % ((s.len : Nat) : Int) = c at *
  have ci : c.toNat < xs.length := by omega
  obtain ⟨t1, t2, t3, PD⟩ := P.die hB.wf ci
  refine w_num1 hB ok T.x c0 (by omega) ?_
  refine w_Retire hB fun hC => ?_
  refine wp_false (by rw [t1]; rfl) ?_
  refine w_num1 hC ok T.x c0 (by omega) ?_
  refine w_Died hC fun hD => ?_
  refine wp_false (by rw [t2]; rfl) ?_
  refine w_num1 hD ok T.x c0 (by omega) ?_
  refine w_State hD ?_
  refine wp_false (ibnf t3) ?_
  refine w_rm2 (k := fun x88 x97 => .again 386 [(.bool q), (.slice x88.a x88.len x88.cap), (.slice x97.a x97.len x97.cap), (.int .i64 (n + 1))]) hD T ok c0 (by omega) P.ln (by omega) fun s' t' tl' T' ok' => ?_
  exact wp_again ⟨q, s', t', n + 1, rfl, ⟨by omega, by omega, _, _, _, tl', hD, PD.more, T', ok', rfl⟩, by omega⟩
end Go.Proofs.Ytjleoogieoahnaa

