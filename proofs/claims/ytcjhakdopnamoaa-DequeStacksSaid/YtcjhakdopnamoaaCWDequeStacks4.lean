/- Texts of this claim, one behind the other. -/
import Derived.Test.YtcjhakdopnamoaaCWDequeStacks3
set_option linter.unusedSimpArgs false
set_option linter.unusedVariables false
set_option linter.unusedVariables false
set_option linter.unusedSimpArgs false
set_option maxRecDepth 20000
namespace Go.Proofs.Ytcjhakdopnamoaa
open Go Go.Fw

/-! ### The slab's machines, whatever falls between their steps -/

section
variable {A B C : Ar} {p : Pl} {w m : Int} {S S' S2 : Sg}

/-- The lists' words turned. -/
theorem SL.ofRaw (X : SL A p w m S) {r : List Int} {ch' : Int → List Int} (hl : r.length = A.raw.length) (up : ∀ i, 4 * w + (m + 7) / 8 ≤ i → ({ A with raw := r } : Ar).rawF i = A.rawF i) (F : FL { A with raw := r } p w ((m + 7) / 8) ch')
    (hc : ∀ k b, b ∈ ch' k → S.cl b = k % 4) (ha : ∀ h, A.stF h ≠ 0 → ∀ k, opB h ∉ ch' k) : SL { A with raw := r } p w m { S with ch := ch' } := by
  obtain ⟨p1, p2, p3, p4, p5⟩ := X.places
  have wb := X.wb
  have mb := X.mb
  have st : ∀ h, ({ A with raw := r } : Ar).stF h = A.stF h := fun h => stF_slots rfl h
  refine ⟨F, X.pl, X.wb, X.mb, by show p.carved < (r.length : Int); rw [hl]; exact X.rl, X.wl, X.fr, ?_, X.cvb, ?_, X.gnb, X.gnz, X.blk, X.dis, hc, ?_, ?_, X.cr1, X.cr2, X.cnt, X.ncb, X.cnb⟩
  · rw [up _ (by omega)]; exact X.cvr
  · intro b h0 h1 h2; rw [up _ (by omega)]; exact X.gnr b h0 h1 h2
  · intro h hh
    rw [st] at hh
    exact ⟨(X.act h hh).1, ha h hh⟩
  · intro i hi
    obtain ⟨h, h1, h2, h3⟩ := X.bz i hi
    exact ⟨h, by rw [st]; exact h1, h2, h3⟩

/-- A base in nobody's list, that is not alive: somebody has it in hand. -/
def Ow (A : Ar) (S : Sg) (b : Int) : Prop := S.cl b ≠ -1 ∧ (∀ k, b ∉ S.ch k) ∧ ∀ h, A.stF h ≠ 0 → opB h ≠ b

/-- What a step leaves; mine: the base that the one who steps has in hand. -/
structure Ev (p : Pl) (w m : Int) (A : Ar) (S : Sg) (B : Ar) (S' : Sg) (mine : Int) : Prop where
  fe : FEv w ((m + 7) / 8) A B mine
  cl : ∀ b, S.cl b ≠ -1 → S'.cl b = S.cl b
  ow : ∀ b, Ow A S b → b ≠ mine → Ow B S' b
  st : ∀ h, opB h ≠ mine → B.stF h = A.stF h
  fa : B.fault = A.fault
  rl : B.raw.length = A.raw.length
  rw : ∀ i, p.carved < i → B.rawF i = A.rawF i
  us : A.uses ≤ B.uses

theorem Ev.later (X : SL A p w m S) {n mine : Int} (hn : 0 ≤ n) : Ev p w m A S (A.later n) S mine :=
  ⟨FEv.same (fun _ _ _ => rfl) X.F.wb.1 X.F.nb.1, fun _ _ => rfl, fun _ h _ => h, fun _ _ => rfl, rfl, rfl, fun _ _ => rfl, by show A.uses ≤ A.uses + n; omega⟩

theorem Ev.refl {mine : Int} : Ev p w m A S A S mine := ⟨⟨fun _ _ _ => ⟨Int.le_refl _, fun _ => rfl⟩, fun _ _ _ _ _ => rfl⟩, fun _ _ => rfl, fun _ h _ => h, fun _ _ => rfl, rfl, rfl, fun _ _ => rfl, Int.le_refl _⟩

/-- An alloc under way. -/
structure AlI (p : Pl) (w m : Int) (x : Al) (A : Ar) (S : Sg) : Prop where
  pl : x.pl = p
  who : 0 ≤ x.work ∧ x.work < w
  cls : 0 ≤ x.cls ∧ x.cls < 4
  lst : 0 ≤ x.lst ∧ x.lst ≤ w
  wh : x.what = 0 ∨ x.what = 1 ∨ x.what = 2 ∨ x.what = 3
  pops : x.what = 0 → x.lst < w ∧ ∃ k, 0 ≤ k ∧ k < 4 * w ∧ k % 4 = x.cls ∧ PoI p w ((m + 7) / 8) k x.po A
  swaps : x.what = 2 → 0 ≤ x.base ∧ x.base + sizeF x.cls ≤ m
  bears : x.what = 3 → Ow A S x.base ∧ S.cl x.base = x.cls
  h0 : x.h = 0
def Al.mine (x : Al) : Int := if x.what = 3 then x.base else -1

theorem AlI.new (X : SL A p w m S) {who c : Int} (wh : 0 ≤ who ∧ who < w) (hc : 0 ≤ c ∧ c < 4) : AlI p w m (newAl p who c) A S := by
  obtain ⟨p1, p2, p3, p4, p5⟩ := X.places
  have wb := X.wb
  have e := headF_eq (p := p) (w := who) (c := c) p1 ⟨wh.1, by omega⟩ hc
  exact ⟨rfl, wh, hc, ⟨Int.le_refl 0, by show 0 ≤ w; omega⟩, .inl rfl, fun _ => ⟨by show 0 < w; omega, 4 * who + c, by omega, by omega, by show (4 * who + c) % 4 = c; omega, PoI.new p1 ⟨by omega, by omega⟩ e⟩, fun h => (by cases h), fun h => (by cases h), rfl⟩

theorem AlI.keep {x : Al} (I : AlI p w m x A S) (X : SL A p w m S) {mine : Int} (E : Ev p w m A S B S' mine) (hm : ∀ j, mine ∉ S.ch j) (hb : x.what = 3 → x.base ≠ mine) : AlI p w m x B S' := by
  refine ⟨I.pl, I.who, I.cls, I.lst, I.wh, fun h => ?_, I.swaps, fun h => ?_, I.h0⟩
  · obtain ⟨a, k, k0, k1, k2, P⟩ := I.pops h
    exact ⟨a, k, k0, k1, k2, P.keep X.F k0 k1 hm E.fe⟩
  · obtain ⟨o, c⟩ := I.bears h
    exact ⟨E.ow _ o (hb h), by rw [E.cl _ o.1]; exact c⟩

theorem runs_one {M J : Type} {X : Mch M J} {x x' : M} {D D' : Ar} (h : X.Runs 1 x D x' D') : X.step x D = (x', D') := by
  cases h with
  | one h1 h2 h3 => rfl
  | more h1 h2 h3 h4 => cases h4

theorem count_setN : ∀ (n : Nat) {l : List Bool} {b : Nat}, b + n ≤ l.length → (setN l b true n).count true = l.count true + newsN l b n
  | 0, l, b, _ => rfl
  | n + 1, l, b, h => by
    have ih := count_setN n (l := l) (b := b) (by omega)
    show ((setN l b true n).set (b + n) true).count true = l.count true + newsN l b (n + 1)
    have hl : b + n < (setN l b true n).length := by rw [setN_length]; omega
    rw [List.count_set hl, ih]
    have hg : (setN l b true n)[b + n] = l.getD (b + n) false := by
      have := setN_get l b true n (b + n)
      rw [if_neg (by omega), List.getElem?_eq_getElem hl, List.getElem?_eq_getElem (by omega)] at this
      rw [List.getD_eq_getElem?_getD, List.getElem?_eq_getElem (by omega)]
      simpa using this
    rw [hg, show newsN l b (n + 1) = newsN l b n + (if l.getD (b + n) false then 0 else 1) from rfl]
    have hc : l.getD (b + n) false = true → 0 < l.count true + newsN l b n := fun e => by
      have : 0 < l.count true := by
        refine List.count_pos_iff.2 ?_
        rw [List.getD_eq_getElem?_getD, List.getElem?_eq_getElem (by omega)] at e
        rw [← (show l[b + n] = true from e)]; exact List.getElem_mem _
      omega
    cases e : l.getD (b + n) false
    · simp; omega
    · have := hc e
      simp; omega
theorem bornF_cc {A : Ar} (hw : A.wf) {h : Int} (hf : opB h + sizeF (opC h) ≤ A.words.length) (hc : A.nC = A.carved.count true) : (A.bornF h).nC = (A.bornF h).carved.count true := by
  have o := opC_nat h
  have hb := opB_nat h
  have szc := sz_pos (c := opC h) (by omega) (by omega)
  rw [(bornF_counts A hw h).1, bornF_carved, count_setN _ (by rw [hw.carved]; omega), hc]
  have : (A.carved.count true + newsN A.carved (opB h).toNat (sizeF (opC h)).toNat) ≤ 65536 := by
    rw [← count_setN _ (by rw [hw.carved]; omega)]
    refine Nat.le_trans List.count_le_length ?_
    rw [setN_length, hw.carved]; exact hw.words
  rw [w64_in (by omega) (by omega)]; omega

/-- How an alloc's step goes. -/
structure AlS (p : Pl) (w m : Int) (x : Al) (A : Ar) (S : Sg) (y : Al) (B : Ar) (S' : Sg) : Prop where
  wd : B.words = A.words
  sl : SL B p w m S'
  ev : Ev p w m A S B S' x.mine
  us : B.uses = A.uses + 1
  inv : y.what ≠ 4 → AlI p w m y B S'
  cls : y.cls = x.cls
  work : y.work = x.work
  acq : y.what = 3 → S.cl y.base = -1 ∨ ∃ k, y.base ∈ S.ch k
  nR : B.nR = A.nR
  cc : A.nC = A.carved.count true → B.nC = B.carved.count true
  res : (y.h = 0 ∧ (∀ k, B.stF k = A.stF k) ∧ B.nL = A.nL) ∨ (y.what = 4 ∧ x.what = 3 ∧ y.h ≠ 0 ∧ opB y.h = x.base ∧ opC y.h = x.cls ∧ openOk y.h = true ∧ A.stF y.h = 0 ∧ (∀ k, B.stF k = if k = y.h then 1 else A.stF k) ∧ B.nL = A.nL + sizeF x.cls)

theorem AlI.step {x : Al} (I : AlI p w m x A S) (X : SL A p w m S) (hwf : A.wf) (hu : A.uses ≤ 1000000) : ∃ S', AlS p w m x A S (x.step A).1 (x.step A).2 S' := by
  obtain ⟨p1, p2, p3, p4, p5⟩ := X.places
  have wb := X.wb
  have mb := X.mb
  have us := X.F.us
  have cvb := X.cvb
  have sz := sz_pos I.cls.1 I.cls.2
  have X1 := X.later (n := 1) (by omega)
  have E1 : ∀ mine, Ev p w m A S (A.later 1) S mine := fun mine => Ev.later X (by omega)
  have m0 : x.what ≠ 3 → x.mine = -1 := fun h => if_neg h
  rcases I.wh with h | h | h | h
  · obtain ⟨l0, k, k0, k1, k2, P⟩ := I.pops h
    have lst := I.lst
    have stp : x.step A = (if x.po.stepB A then Al.popd { x with po := x.po.stepM A } else { x with po := x.po.stepM A }, x.po.stepA A) := by unfold Al.step; rw [if_pos h]
    rw [stp]
    have el : w64 (x.lst + 1) = x.lst + 1 := w64_in (by omega) (by omega)
    rcases P.step X.F (by omega) k0 k1 with ⟨s1, s2, s3⟩ | ⟨s1, s2, s3, s4⟩ | ⟨s1, s2, b, l, s3, s4, s5⟩
    · rw [s1, s2, if_neg (by simp)]
      exact ⟨S, rfl, X1, E1 _, rfl, fun _ => ⟨I.pl, I.who, I.cls, I.lst, I.wh, fun _ => ⟨l0, k, k0, k1, k2, s3⟩, fun h2 => (by rw [show ({ x with po := x.po.stepM A } : Al).what = x.what from rfl, h] at h2; cases h2), fun h2 => (by rw [show ({ x with po := x.po.stepM A } : Al).what = x.what from rfl, h] at h2; cases h2), I.h0⟩, rfl, rfl, fun h2 => (by rw [show ({ x with po := x.po.stepM A } : Al).what = x.what from rfl, h] at h2; cases h2), rfl, fun h => h, .inl ⟨I.h0, fun _ => rfl, rfl⟩⟩
    · rw [s1, s2, if_pos rfl]
      unfold Al.popd
      rw [if_neg (by rw [s3]; simp)]
      dsimp only
      rw [el, I.pl, p5]
      have ei : imax w 1 = w := by unfold imax; split <;> omega
      rw [ei]
      by_cases c : x.lst + 1 ≥ w
      · rw [if_pos c]
        refine ⟨S, rfl, X1, E1 _, rfl, fun _ => ⟨rfl, I.who, I.cls, ⟨by show 0 ≤ x.lst + 1; omega, by show x.lst + 1 ≤ w; omega⟩, .inr (.inl rfl), fun h => (by cases h), fun h => (by cases h), fun h => (by cases h), I.h0⟩, rfl, rfl, fun h => (by cases h), rfl, fun h => h, .inl ⟨I.h0, fun _ => rfl, rfl⟩⟩
      · rw [if_neg c]
        have wh := I.who
        have ew : w64 (x.work + (x.lst + 1)) = x.work + (x.lst + 1) := w64_in (by omega) (by omega)
        rw [ew, Int.tmod_eq_emod_of_nonneg (by omega)]
        have q0 := Int.emod_nonneg (x.work + (x.lst + 1)) (b := w) (by omega)
        have q1 := Int.emod_lt_of_pos (x.work + (x.lst + 1)) (b := w) (by omega)
        have e := headF_eq (p := p) (w := (x.work + (x.lst + 1)) % w) (c := x.cls) p1 ⟨q0, by omega⟩ I.cls
        have cl := I.cls
        refine ⟨S, rfl, X1, E1 _, rfl, fun _ => ⟨rfl, I.who, I.cls, ⟨by show 0 ≤ x.lst + 1; omega, by show x.lst + 1 ≤ w; omega⟩, .inl h, fun _ => ⟨by show x.lst + 1 < w; omega, 4 * ((x.work + (x.lst + 1)) % w) + x.cls, by omega, by omega, by show (4 * ((x.work + (x.lst + 1)) % w) + x.cls) % 4 = x.cls; omega, PoI.new p1 ⟨by omega, by omega⟩ e⟩, fun h2 => (by rw [show x.what = 2 from h2] at h; cases h), fun h2 => (by rw [show x.what = 3 from h2] at h; cases h), I.h0⟩, rfl, rfl, fun h2 => (by rw [show x.what = 3 from h2] at h; cases h), rfl, fun h => h, .inl ⟨I.h0, fun _ => rfl, rfl⟩⟩
    · rw [s1, if_pos rfl]
      unfold Al.popd
      rw [if_pos s2]
      dsimp only
      rw [el, s4, s5]
      obtain ⟨F, fe⟩ := X.F.pop1 (by omega) s3
      have hmem : b ∈ S.ch k := by rw [s3]; simp
      have hcl := X.chc k b hmem
      have hsub : ∀ j y, y ∈ upd S.ch k l j → y ∈ S.ch j := fun j y hy => by
        unfold upd at hy; split at hy
        · rename_i e; rw [e, s3]; exact List.mem_cons_of_mem _ hy
        · exact hy
      have Y := X1.ofRaw (r := A.raw.set k.toNat (nextF (A.rawF k) (A.rawF (4 * w + b / 8)))) (ch' := upd S.ch k l) (by rw [List.length_set]; rfl) (fun i hi => by
        have := rawF_set1 (A := A.later 1) (i := k) (j := i) (v := nextF (A.rawF k) (A.rawF (4 * w + b / 8))) (X.F.hdOk k0 k1)
        rw [if_neg (by have := X.F.nb; omega)] at this
        exact this) F (fun j y hy => X.chc j y (hsub j y hy)) fun h hh j hj => (X.act h hh).2 j (hsub j _ hj)
      have hact : ∀ h, A.stF h ≠ 0 → opB h ≠ b := fun h hh e => (X.act h hh).2 k (by rw [e]; exact hmem)
      have hnin : ∀ j, b ∉ upd S.ch k l j := fun j hj => by
        unfold upd at hj; split at hj
        · have := X.F.nd k; rw [s3] at this; exact (List.nodup_cons.1 this).1 hj
        · rename_i e; exact e (X.F.dj j k b hj hmem)
      have lst := I.lst
      refine ⟨_, rfl, Y, ⟨?_, fun _ _ => rfl, fun c oc _ => ⟨oc.1, fun j hj => oc.2.1 j (hsub j c hj), oc.2.2⟩, fun _ _ => rfl, rfl, by show (A.raw.set _ _).length = _; rw [List.length_set], fun i hi => ?_, by show A.uses ≤ A.uses + 1; omega⟩, rfl, fun _ => ⟨I.pl, I.who, I.cls, ⟨by show 0 ≤ x.lst + 1; omega, by show x.lst + 1 ≤ w; omega⟩, .inr (.inr (.inr rfl)), fun h => (by cases h), fun h => (by cases h), fun _ => ⟨⟨by show S.cl b ≠ -1; omega, hnin, hact⟩, by show S.cl b = x.cls; omega⟩, I.h0⟩, rfl, rfl, fun _ => .inr ⟨k, hmem⟩, rfl, fun h => h, .inl ⟨I.h0, fun _ => rfl, rfl⟩⟩
      · rw [m0 (by omega)]; exact fe
      · have := rawF_set1 (A := A.later 1) (i := k) (j := i) (v := nextF (A.rawF k) (A.rawF (4 * w + b / 8))) (X.F.hdOk k0 k1)
        rw [if_neg (by omega)] at this
        exact this
  · have stp : x.step A = ({ x with base := A.rawF x.pl.carved, what := if A.rawF x.pl.carved > w64 (A.words.length - sizeF x.cls) then 4 else 2 }, A.touchR x.pl.carved) := by unfold Al.step; rw [if_neg (by omega), if_pos h]
    rw [stp, I.pl, X.cvr, X.wl, w64_in (x := m - sizeF x.cls) (by omega) (by omega), touchR_yes (show A.rawOk p.carved from ⟨by omega, X.rl⟩), tick_uses us (by omega)]
    by_cases c : S.cv > m - sizeF x.cls
    · rw [if_pos c]
      exact ⟨S, rfl, X1, E1 _, rfl, fun h => (h rfl).elim, rfl, rfl, fun h => (by cases h), rfl, fun h => h, .inl ⟨I.h0, fun _ => rfl, rfl⟩⟩
    · rw [if_neg c]
      exact ⟨S, rfl, X1, E1 _, rfl, fun _ => ⟨rfl, I.who, I.cls, I.lst, .inr (.inr (.inl rfl)), fun h => (by cases h), fun _ => ⟨cvb.1, by show S.cv + sizeF x.cls ≤ m; omega⟩, fun h => (by cases h), I.h0⟩, rfl, rfl, fun h => (by cases h), rfl, fun h => h, .inl ⟨I.h0, fun _ => rfl, rfl⟩⟩
  · obtain ⟨b0, b1⟩ := I.swaps h
    have stp : x.step A = ({ x with what := if A.swapRb x.pl.carved x.base then 3 else 1 }, A.swapR x.pl.carved x.base (w64 (x.base + sizeF x.cls))) := by unfold Al.step; rw [if_neg (by omega), if_neg (by omega), if_pos h]
    have okc : A.rawOk p.carved := ⟨by omega, X.rl⟩
    have tk : A.tick = A.later 1 := tick_uses us (by omega)
    rw [stp, I.pl, w64_in (x := x.base + sizeF x.cls) (by omega) (by omega)]
    by_cases c : A.rawF p.carved = x.base
    · have sw : A.swapRb p.carved x.base = true := decide_eq_true ⟨okc, by rw [getD_rawF okc]; exact c⟩
      have sa : A.swapR p.carved x.base (x.base + sizeF x.cls) = (A.later 1).setR p.carved.toNat (S.cv + sizeF x.cls) := by
        unfold Ar.swapR; rw [if_pos okc, if_pos (by rw [getD_rawF okc]; exact c), tk, ← c, X.cvr]
      rw [sw, sa, if_pos rfl]
      have ec : x.base = S.cv := by rw [← c]; exact X.cvr
      have Y := X.carve (by omega) I.cls.1 I.cls.2 (by omega)
      have hcl : S.cl S.cv = -1 := by
        by_cases h : S.cl S.cv = -1
        · exact h
        · have := X.blk _ h; have := sz_pos this.1 this.2.1; omega
      have hr : ∀ i, ((A.later 1).setR p.carved.toNat (S.cv + sizeF x.cls)).rawF i = if i = p.carved then S.cv + sizeF x.cls else A.rawF i := fun i => rawF_set1 (A := A.later 1) okc
      have nin : ∀ j, S.cv ∉ S.ch j := fun j hj => by
        have := X.chc j _ hj
        have := X.F.rg j (by intro e; rw [e] at hj; cases hj); omega
      have nac : ∀ h, A.stF h ≠ 0 → opB h ≠ S.cv := fun h hh e => by
        have := (X.act h hh).1
        rw [e, hcl] at this
        have := (opC_nat h).1; omega
      refine ⟨_, rfl, Y, ⟨?_, fun d hd => ?_, fun d od _ => ⟨?_, od.2.1, od.2.2⟩, fun _ _ => rfl, rfl, by show (A.raw.set _ _).length = _; rw [List.length_set], fun i hi => by rw [hr, if_neg (by omega)], by show A.uses ≤ A.uses + 1; omega⟩, rfl, fun _ => ⟨rfl, I.who, I.cls, I.lst, .inr (.inr (.inr rfl)), fun h => (by cases h), fun h => (by cases h), fun _ => ⟨⟨?_, ?_, ?_⟩, ?_⟩, I.h0⟩, rfl, rfl, fun _ => .inl ?_, rfl, fun h => h, .inl ⟨I.h0, fun _ => rfl, rfl⟩⟩
      · exact FEv.same (fun i i0 i1 => by rw [hr, if_neg (by omega)]) (by omega) (by omega)
      · show updI S.cl S.cv x.cls d = _
        unfold updI; rw [if_neg (fun e => hd (by rw [e]; exact hcl))]
      · show updI S.cl S.cv x.cls d ≠ -1
        unfold updI; rw [if_neg (fun e => od.1 (by rw [e]; exact hcl))]; exact od.1
      · show updI S.cl S.cv x.cls x.base ≠ -1
        rw [ec]; unfold updI; rw [if_pos rfl]; have := I.cls; omega
      · show ∀ j, x.base ∉ S.ch j
        rw [ec]; exact nin
      · show ∀ h, A.stF h ≠ 0 → opB h ≠ x.base
        rw [ec]; exact nac
      · show updI S.cl S.cv x.cls x.base = _
        rw [ec]; unfold updI; rw [if_pos rfl]
      · show S.cl x.base = -1
        rw [ec]; exact hcl
    · have sw : A.swapRb p.carved x.base = false := decide_eq_false fun e => c (by rw [← getD_rawF okc]; exact e.2)
      have sa : A.swapR p.carved x.base (x.base + sizeF x.cls) = A.later 1 := by
        unfold Ar.swapR; rw [if_pos okc, if_neg (by rw [getD_rawF okc]; exact c), tk]
      rw [sw, sa, if_neg (by simp)]
      exact ⟨S, rfl, X1, E1 _, rfl, fun _ => ⟨rfl, I.who, I.cls, I.lst, .inr (.inl rfl), fun h => (by cases h), fun h => (by cases h), fun h => (by cases h), I.h0⟩, rfl, rfl, fun h => (by cases h), rfl, fun h => h, .inl ⟨I.h0, fun _ => rfl, rfl⟩⟩
  · obtain ⟨o, oc⟩ := I.bears h
    have hx0 := I.h0
    have lst := I.lst
    have hc1 : x.cls ≠ -1 := by have := I.cls; omega
    obtain ⟨v1, ⟨v2, v3, v4, v5⟩, bo, Y, yst, ynL⟩ := X.bear hwf (by omega) oc hc1 o.2.1 o.2.2
    have ipl := I.pl
    obtain ⟨xpl, xwork, xcls, xlst, xwhat, xbase, xh, xpo⟩ := x
    simp only at h hx0 ipl oc hc1 v1 v2 v3 v4 v5 bo Y yst ynL lst o
    subst h; subst hx0; subst ipl
    have r1 := bear_last X (by omega) (who := xwork) (j := xlst) (y := xpo) ⟨lst.1, by omega⟩ oc hc1 bo
    have stp : Al.step ⟨xpl, xwork, xcls, xlst, 3, xbase, 0, xpo⟩ A = _ := runs_one r1
    rw [stp]
    have gb := X.gnb xbase
    have hne : packF xbase (S.gn xbase + 1) xcls ≠ 0 := fun e => by
      rw [e] at v3
      have : opG 0 = 0 := by decide
      omega
    have off : Off xpl.carved 0 ((A.later 1).setR (xpl.gens + xbase / 8).toNat (S.gn xbase + 1)) (((A.later 1).setR (xpl.gens + xbase / 8).toNat (S.gn xbase + 1)).bornF (packF xbase (S.gn xbase + 1) xcls)) :=
      Off.bornF (setR_wf (later_wf hwf 1) _ _) X.fr bo.2.1
    have blk := X.blk xbase (by rw [oc]; exact hc1)
    have szb := sz_pos blk.1 blk.2.1
    have okg : (A.later 1).rawOk (xpl.gens + xbase / 8) := ⟨by omega, by have := X.rl; show _ < (A.raw.length : Int); omega⟩
    have hr : ∀ i, ((A.later 1).setR (xpl.gens + xbase / 8).toNat (S.gn xbase + 1)).rawF i = if i = xpl.gens + xbase / 8 then S.gn xbase + 1 else A.rawF i := fun i => rawF_set1 okg
    have rb : ∀ i, (((A.later 1).setR (xpl.gens + xbase / 8).toNat (S.gn xbase + 1)).bornF (packF xbase (S.gn xbase + 1) xcls)).rawF i = if i = xpl.gens + xbase / 8 then S.gn xbase + 1 else A.rawF i := fun i => by
      rw [rawF_congr (bornF_raw _ _) i, hr]
    have hs0 : A.stF (packF xbase (S.gn xbase + 1) xcls) = 0 := by
      by_cases e : A.stF (packF xbase (S.gn xbase + 1) xcls) = 0
      · exact e
      · exact (o.2.2 _ e v2).elim
    refine ⟨_, by rw [off.wd]; rfl, Y, ⟨?_, fun _ _ => rfl, fun d od hd => ⟨od.1, od.2.1, fun h hh => ?_⟩, fun h hh => ?_, ?_, ?_, fun i hi => ?_, ?_⟩, ?_, fun h => (h rfl).elim, rfl, rfl, fun h => (by cases h), ?_, fun h => ?_, .inr ⟨rfl, rfl, hne, v2, v4, v5, hs0, yst, ynL⟩⟩
    · exact FEv.same (fun i i0 i1 => by rw [rb, if_neg (by omega)]) (by omega) (by omega)
    · rw [yst] at hh
      split at hh
      · rename_i e; rw [e, v2]
        intro e2; exact hd (by show d = if (3 : Int) = 3 then xbase else -1; rw [if_pos rfl]; exact e2.symm)
      · exact od.2.2 h hh
    · rw [yst, if_neg]
      intro e
      rw [e, v2] at hh
      exact hh (by show xbase = if (3 : Int) = 3 then xbase else -1; rw [if_pos rfl])
    · rw [off.fa]; rfl
    · rw [off.rl]; show (A.raw.set _ _).length = _; rw [List.length_set]
    · rw [rb, if_neg (by omega)]
    · rw [off.us]; show A.uses ≤ A.uses + 1 + 0; omega
    · rw [off.us]; show A.uses + 1 + 0 = _; omega
    · exact (bornF_counts _ (setR_wf (later_wf hwf 1) _ _) _).2.2.2
    · exact bornF_cc (setR_wf (later_wf hwf 1) _ _) bo.2.1 h

/-- A free under way. -/
structure FeI (p : Pl) (w m who : Int) (x : Fe) (A : Ar) (S : Sg) : Prop where
  st : A.stF x.h = 2
  nd : x.done = false
  pu : PuI p w ((m + 7) / 8) (4 * who + opC x.h) (opB x.h) x.pu A

theorem FeI.new (X : SL A p w m S) {who h : Int} (wh : 0 ≤ who ∧ who < w) (hs : A.stF h = 2) : FeI p w m who (newFe p who h) A S := by
  obtain ⟨p1, p2, p3, p4, p5⟩ := X.places
  have wb := X.wb
  have mb := X.mb
  have hC := opC_nat h
  obtain ⟨a1, a2⟩ := X.act h (by rw [hs]; decide)
  obtain ⟨b1, b2, b3, b4, b5⟩ := X.blk (opB h) (by omega)
  have sz := sz_pos b1 b2
  have cvb := X.cvb
  have e := headF_eq (p := p) (w := who) (c := opC h) p1 ⟨wh.1, by omega⟩ ⟨by omega, by omega⟩
  exact ⟨hs, rfl, PuI.new e ⟨b3, b4, by show opB h / 8 < (m + 7) / 8; omega⟩⟩
theorem FeI.keep {who : Int} {x : Fe} (I : FeI p w m who x A S) {mine : Int} (E : Ev p w m A S B S' mine) (hm : opB x.h ≠ mine) : FeI p w m who x B S' :=
  ⟨by rw [E.st _ hm]; exact I.st, I.nd, I.pu.keep hm E.fe⟩

structure FeS (p : Pl) (w m who : Int) (x : Fe) (A : Ar) (S : Sg) (y : Fe) (B : Ar) (S' : Sg) : Prop where
  wd : B.words = A.words
  sl : SL B p w m S'
  ev : Ev p w m A S B S' (opB x.h)
  us : B.uses = A.uses + 1
  h : y.h = x.h
  nL : B.nL = A.nL
  cc : A.nC = A.carved.count true → B.nC = B.carved.count true
  res : (y.done = false ∧ FeI p w m who y B S' ∧ (∀ k, B.stF k = A.stF k) ∧ B.nR = A.nR) ∨ (y.done = true ∧ (∀ k, B.stF k = if k = x.h then 0 else A.stF k) ∧ B.nR = A.nR - sizeF (opC x.h))

theorem diedF_parts (A : Ar) (h : Int) : (A.diedF h).raw = A.raw ∧ (A.diedF h).words = A.words ∧ (A.diedF h).fault = A.fault ∧ (A.diedF h).uses = A.uses ∧ (A.diedF h).nC = A.nC ∧ (A.diedF h).carved = A.carved := by
  unfold Ar.diedF Ar.turnF; split <;> exact ⟨rfl, rfl, rfl, rfl, rfl, rfl⟩
theorem died_raw (A : Ar) (r : List Int) (h : Int) : ({ A with raw := r } : Ar).diedF h = { A.diedF h with raw := r } := by
  have e : ({ A with raw := r } : Ar).stF h = A.stF h := stF_slots rfl h
  unfold Ar.diedF Ar.turnF Ar.turnN
  rw [e]
  by_cases hs : A.stF h = 2
  · simp only [if_pos hs]; rfl
  · simp only [if_neg hs]; rfl

theorem FeI.step {who : Int} {x : Fe} (I : FeI p w m who x A S) (X : SL A p w m S) (hwf : A.wf) (hu : A.uses ≤ 1000000) (wh : 0 ≤ who ∧ who < w) : ∃ S', FeS p w m who x A S (x.step A).1 (x.step A).2 S' := by
  obtain ⟨p1, p2, p3, p4, p5⟩ := X.places
  have wb := X.wb
  have mb := X.mb
  have us := X.F.us
  have hC := opC_nat x.h
  obtain ⟨a1, a2⟩ := X.act x.h (by rw [I.st]; decide)
  have szh := sz_pos (c := opC x.h) (by omega) (by omega)
  have X1 := X.later (n := 1) (by omega)
  have k0 : 0 ≤ 4 * who + opC x.h := by omega
  have k1 : 4 * who + opC x.h < 4 * w := by omega
  rcases I.pu.step X.F (by omega) k0 k1 a2 with ⟨s1, s2, s3, s4, s5⟩ | ⟨s1, s3, s4, s5⟩
  · have stp : x.step A = ({ x with pu := x.pu.stepM A }, x.pu.stepA A) := by unfold Fe.step; rw [if_neg (by rw [I.nd]; simp), if_neg (by rw [s1]; simp)]
    rw [stp]
    obtain ⟨r, er, hl⟩ := s5.eq
    have up := s5.up
    dsimp only
    rw [er] at s2 s3 s4 up ⊢
    have Y := X1.ofRaw (r := r) (ch' := S.ch) hl up s3 X.chc fun h hh => (X.act h hh).2
    exact ⟨_, rfl, Y, ⟨s4, fun _ _ => rfl, fun _ h _ => h, fun _ _ => rfl, rfl, hl, fun i hi => up i (by omega), by show A.uses ≤ A.uses + 1; omega⟩, rfl, rfl, rfl, fun h => h, .inl ⟨I.nd, ⟨I.st, I.nd, s2⟩, fun _ => rfl, rfl⟩⟩
  · have stp : x.step A = ({ x with pu := x.pu.stepM A, done := true }, (x.pu.stepA A).diedF x.h) := by unfold Fe.step; rw [if_neg (by rw [I.nd]; simp), if_pos s1]
    rw [stp]
    obtain ⟨r, er, hl⟩ := s5.eq
    have up := s5.up
    dsimp only
    rw [er] at s3 s4 up ⊢
    have cnb := X.cnb
    obtain ⟨D, dst, dL, dR⟩ := X1.die (later_wf hwf 1) (by show A.uses + 1 ≤ _; omega) (h := x.h) I.st (by show -(64 * (A.uses + 1 + 1)) ≤ A.nR - _; omega)
    have parts := diedF_parts (A.later 1) x.h
    obtain ⟨q1, q2, q3, q4, q5, q6⟩ := parts
    have q1 : ((A.later 1).diedF x.h).raw = A.raw := q1
    have q2 : ((A.later 1).diedF x.h).words = A.words := q2
    have q3 : ((A.later 1).diedF x.h).fault = A.fault := q3
    have q4 : ((A.later 1).diedF x.h).uses = A.uses + 1 := q4
    have q5 : ((A.later 1).diedF x.h).nC = A.nC := q5
    have q6 : ((A.later 1).diedF x.h).carved = A.carved := q6
    have eD : ({ A with raw := r, uses := A.uses + 1 } : Ar).diedF x.h = { (A.later 1).diedF x.h with raw := r } := died_raw (A.later 1) r x.h
    rw [eD]
    clear eD
    have dst : ∀ k, ((A.later 1).diedF x.h).stF k = if k = x.h then 0 else A.stF k := dst
    have dL : ((A.later 1).diedF x.h).nL = A.nL := dL
    have dR : ((A.later 1).diedF x.h).nR = A.nR - sizeF (opC x.h) := dR
    generalize (A.later 1).diedF x.h = D0 at *
    have F2 : FL { D0 with raw := r } p w ((m + 7) / 8) (upd S.ch (4 * who + opC x.h) (opB x.h :: S.ch (4 * who + opC x.h))) :=
      s3.same (fun i => rawF_congr rfl i) rfl (by show 0 ≤ (D0).uses; rw [q4]; omega) fun k h0 h1 => by
        show _ ≤ (D0).uses
        rw [q4]
        exact (s3.hd k h0 h1).2
    have rr : ∀ i, ({ D0 with raw := r } : Ar).rawF i = ({ A with raw := r, uses := A.uses + 1 } : Ar).rawF i := fun i => rawF_congr rfl i
    have noact : ∀ h, (D0).stF h ≠ 0 → opB h ≠ opB x.h := fun h hh e => by
      rw [dst] at hh
      split at hh
      · exact hh rfl
      · rename_i hn
        exact hh (stF_one (A := A) (h := x.h) (k := h) (by rw [I.st]; decide) e hn)
    have Y := D.ofRaw (r := r) (by rw [q1]; exact hl) (fun i hi => by
      rw [rr, up i hi]; exact (rawF_congr q1 i).symm) F2 (fun k b hb => by
        unfold upd at hb; split at hb
        · rename_i e
          rcases List.mem_cons.1 hb with rfl | hb
          · rw [a1, e]; omega
          · rw [e]; exact X.chc _ b hb
        · exact X.chc k b hb) fun h hh k hk => by
        have hh' : A.stF h ≠ 0 := fun e => hh (by rw [dst]; split; rfl; exact e)
        unfold upd at hk; split at hk
        · rcases List.mem_cons.1 hk with e | hk
          · exact noact h hh e
          · exact (X.act h hh').2 _ hk
        · exact (X.act h hh').2 _ hk
    have yst : ∀ k, ({ D0 with raw := r } : Ar).stF k = if k = x.h then 0 else A.stF k := fun k => by
      rw [show ({ D0 with raw := r } : Ar).stF k = (D0).stF k from stF_slots rfl k, dst]
    refine ⟨_, q2, Y, ⟨⟨fun k h0 h1 => by rw [rr]; exact s4.hd k h0 h1, fun b h0 h1 h2 h3 => by rw [rr]; exact s4.lk b h0 h1 h2 h3⟩, fun _ _ => rfl, fun b ob hb => ⟨ob.1, fun k hk => ?_, fun h hh => ?_⟩, fun h hh => ?_, q3, hl, fun i hi => by rw [rr]; exact up i (by omega), by show A.uses ≤ (D0).uses; rw [q4]; omega⟩, q4, rfl, dL, fun h => ?_, .inr ⟨rfl, yst, dR⟩⟩
    · have hk : b ∈ upd S.ch (4 * who + opC x.h) (opB x.h :: S.ch (4 * who + opC x.h)) k := hk
      unfold upd at hk; split at hk
      · rcases List.mem_cons.1 hk with e | hk
        · exact hb e
        · exact ob.2.1 _ hk
      · exact ob.2.1 _ hk
    · rw [yst] at hh
      split at hh
      · exact (hh rfl).elim
      · exact ob.2.2 h hh
    · rw [yst, if_neg (fun e => hh (by rw [e]))]
    · show D0.nC = D0.carved.count true
      rw [q5, q6]; exact h
end
end Go.Proofs.Ytcjhakdopnamoaa

set_option linter.unusedVariables false
set_option linter.unusedSimpArgs false
set_option maxRecDepth 20000
namespace Go.Proofs.Ytcjhakdopnamoaa
open Go Go.Fw

section
variable {A B : Ar} {p : Pl} {w m : Int} {S S' : Sg}

/-- Nothing of the slab was turned. -/
structure Qu (p : Pl) (w m : Int) (A : Ar) (S : Sg) (B : Ar) : Prop where
  sl : SL B p w m S
  ev : Ev p w m A S B S (-1)
  st : ∀ h, B.stF h = A.stF h
  nL : B.nL = A.nL
  nR : B.nR = A.nR
  cc : A.nC = A.carved.count true → B.nC = B.carved.count true

theorem Qu.later (X : SL A p w m S) {n : Int} (hn : 0 ≤ n) : Qu p w m A S (A.later n) := ⟨X.later hn, Ev.later X hn, fun _ => rfl, rfl, rfl, fun h => h⟩

/-- A slot's word. -/
theorem Qu.store (X : SL A p w m S) (hu : A.uses ≤ 1000000000) {h off v : Int} (hi : A.inOk h off) : Qu p w m A S (A.storeF h off v) ∧ (A.storeF h off v).uses = A.uses + 1 := by
  have us := X.F.us
  have e : A.storeF h off v = (A.later 1).setW (pos h off) v := by rw [storeF_yes hi, tick_uses us (by omega)]
  rw [e]
  have st : ∀ k, ((A.later 1).setW (pos h off) v).stF k = A.stF k := fun k => stF_slots rfl k
  have X2 : SL ((A.later 1).setW (pos h off) v) p w m S := X.congr (fun _ _ _ => rfl) rfl (by show A.uses ≤ A.uses + 1; omega) (by show (A.words.set _ _).length = _; rw [List.length_set]) st rfl rfl rfl rfl rfl rfl rfl rfl
  exact ⟨⟨X2, ⟨FEv.same (fun _ _ _ => rfl) X.F.wb.1 X.F.nb.1, fun _ _ => rfl, fun b o _ => ⟨o.1, o.2.1, fun k hk => o.2.2 k (by rw [← st k]; exact hk)⟩, fun k _ => st k, rfl, rfl, fun _ _ => rfl, by show A.uses ≤ A.uses + 1; omega⟩, st, rfl, rfl, fun h => h⟩, rfl⟩

/-- A raw word behind the slab's. -/
theorem Qu.storeR (X : SL A p w m S) (hu : A.uses ≤ 1000000000) {i v : Int} (h : p.carved < i ∧ i < A.raw.length) :
    SL (A.storeR i v) p w m S ∧ FEv w ((m + 7) / 8) A (A.storeR i v) (-1) ∧ (∀ h, (A.storeR i v).stF h = A.stF h) ∧ (A.storeR i v).nL = A.nL ∧ (A.storeR i v).nR = A.nR ∧ (A.storeR i v).words = A.words ∧ (A.storeR i v).fault = A.fault ∧ (A.storeR i v).uses = A.uses + 1 ∧ (A.storeR i v).raw.length = A.raw.length ∧ ∀ j, (A.storeR i v).rawF j = if j = i then v else A.rawF j := by
  obtain ⟨p1, p2, p3, p4, p5⟩ := X.places
  have wb := X.wb
  have mb := X.mb
  have us := X.F.us
  have ok : A.rawOk i := ⟨by omega, h.2⟩
  have e : A.storeR i v = (A.later 1).setR i.toNat v := by
    unfold Ar.storeR
    rw [if_pos ok, tick_uses us (by omega)]
  rw [e]
  have rf : ∀ j, ((A.later 1).setR i.toNat v).rawF j = if j = i then v else A.rawF j := fun j => rawF_set1 (A := A.later 1) ok
  refine ⟨X.congr (fun j h0 h1 => by rw [rf, if_neg (by omega)]) (by show (A.raw.set _ _).length = _; rw [List.length_set]) (by show A.uses ≤ A.uses + 1; omega) rfl (fun h => stF_slots rfl h) rfl rfl rfl rfl rfl rfl rfl rfl,
    FEv.same (fun j j0 j1 => by rw [rf, if_neg (by omega)]) (by omega) (by omega), fun h => stF_slots rfl h, rfl, rfl, rfl, rfl, rfl, by show (A.raw.set _ _).length = _; rw [List.length_set], rf⟩

/-- One is retired. -/
theorem Ev.retire (X : SL A p w m S) (hwf : A.wf) (hu : A.uses ≤ 1000000000) {h : Int} (hs : A.stF h = 1) (cn : -(64 * (A.uses + 1)) ≤ A.nL - sizeF (opC h) ∧ A.nR + sizeF (opC h) ≤ 64 * (A.uses + 1)) :
    SL (A.retireF h) p w m S ∧ (∀ k, (A.retireF h).stF k = if k = h then 2 else A.stF k) ∧ (A.retireF h).nL = A.nL - sizeF (opC h) ∧ (A.retireF h).nR = A.nR + sizeF (opC h) ∧ Ev p w m A S (A.retireF h) S (opB h) ∧
      (A.nC = A.carved.count true → (A.retireF h).nC = (A.retireF h).carved.count true) ∧ (A.retireF h).uses = A.uses ∧ (A.retireF h).words = A.words ∧ (A.retireF h).fault = A.fault := by
  obtain ⟨Y, yst, yL, yR⟩ := X.retire hu hs cn
  have parts : (A.retireF h).raw = A.raw ∧ (A.retireF h).words = A.words ∧ (A.retireF h).fault = A.fault ∧ (A.retireF h).uses = A.uses ∧ (A.retireF h).nC = A.nC ∧ (A.retireF h).carved = A.carved := by
    unfold Ar.retireF Ar.turnF; split <;> exact ⟨rfl, rfl, rfl, rfl, rfl, rfl⟩
  obtain ⟨q1, q2, q3, q4, q5, q6⟩ := parts
  refine ⟨Y, yst, yL, yR, ⟨FEv.same (fun i _ _ => rawF_congr q1 i) X.F.wb.1 X.F.nb.1, fun _ _ => rfl, fun b o hb => ⟨o.1, o.2.1, fun k hk => ?_⟩, fun k hk => ?_, q3, by rw [q1], fun i _ => rawF_congr q1 i, by rw [q4]; exact Int.le_refl _⟩, fun h => by rw [q5, q6]; exact h, q4, q2, q3⟩
  · rw [yst] at hk
    split at hk
    · rename_i e; rw [e]; exact fun e2 => hb e2.symm
    · exact o.2.2 k hk
  · rw [yst, if_neg (fun e => hk (by rw [e]))]
end
end Go.Proofs.Ytcjhakdopnamoaa

set_option linter.unusedVariables false
set_option linter.unusedSimpArgs false
set_option maxRecDepth 20000
namespace Go.Proofs.Ytcjhakdopnamoaa
open Go Go.Fw

section
variable {A B C : Ar} {g : Gd} {m : Int} {S S' : Sg} {l : Int → List (Int × Int)} {k h i v : Int} {p : Pl} {w : Int}

theorem loadF_same (hw : B.words = A.words) (hs : B.stF h = A.stF h) : B.loadF h i = A.loadF h i := by
  unfold Ar.loadF
  by_cases hi : A.inOk h i
  · have hb : B.inOk h i := ⟨by rw [hs]; exact hi.1, hi.2⟩
    rw [if_pos hi, if_pos hb, hw]
  · have hb : ¬ B.inOk h i := fun hb => hi ⟨by rw [← hs]; exact hb.1, hb.2⟩
    rw [if_neg hi, if_neg hb]

theorem pos_apart (X : SL A p w m S) {h k i j : Int} (hi : A.inOk h i) (hk : A.inOk k j) : pos k j = pos h i ↔ k = h ∧ j = i := by
  obtain ⟨h1, h2, h3⟩ := hi
  obtain ⟨k1, k2, k3⟩ := hk
  obtain ⟨ah, _⟩ := X.act h h1
  obtain ⟨ak, _⟩ := X.act k k1
  have ch := opC_nat h
  have ck := opC_nat k
  have bh := X.blk (opB h) (by omega)
  have bk := X.blk (opB k) (by omega)
  constructor
  · intro e
    unfold pos at e
    by_cases hk : k = h
    · subst hk; exact ⟨rfl, by omega⟩
    · exfalso
      by_cases hb : opB k = opB h
      · exact k1 (stF_one h1 hb hk)
      · rcases Int.lt_or_gt_of_ne hb with hlt | hlt
        · have := X.dis (opB k) (opB h) (by omega) (by omega) hlt
          rw [ak] at this; omega
        · have := X.dis (opB h) (opB k) (by omega) (by omega) hlt
          rw [ah] at this; omega
  · rintro ⟨rfl, rfl⟩; rfl

/-- A word of a slot is stored. -/
structure Stored (A : Ar) (g : Gd) (m : Int) (S : Sg) (l : Int → List (Int × Int)) (h i v : Int) (B : Ar) : Prop where
  gi : GI B g m S l
  al : Ar.Alike A B
  st : ∀ k, B.stF k = A.stF k
  nL : B.nL = A.nL
  nR : B.nR = A.nR
  us : B.uses = A.uses + 1
  rf : ∀ i, B.rawF i = A.rawF i
  rl : B.raw.length = A.raw.length
  ld : ∀ k j, A.inOk k j → B.loadF k j = if k = h ∧ j = i then v else A.loadF k j
theorem GI.store (X : GI A g m S l) (hu : A.uses ≤ 1000000000) (hi : A.inOk h i) : Stored A g m S l h i v (A.storeF h i v) := by
  obtain ⟨Q, us⟩ := Qu.store X.sl hu (v := v) hi
  have e : A.storeF h i v = (A.tick).setW (pos h i) v := storeF_yes hi v
  have rf : ∀ j, (A.storeF h i v).rawF j = A.rawF j := fun j => by rw [e]; rfl
  have rl : (A.storeF h i v).raw.length = A.raw.length := by rw [e]; rfl
  have fa : (A.storeF h i v).fault = A.fault := by rw [e]; rfl
  refine ⟨⟨storeF_wf X.wf h i v, Q.sl, fa.trans X.fa, X.ta, X.wb, by rw [rl]; exact X.rl, by rw [rl]; exact X.rb, fun k x hx => by rw [Q.st]; exact X.st k x hx, X.nd, X.dj, X.rg, Q.nR.trans X.nR, by rw [Q.nL]; exact X.l0, ?_, X.ze, fun he => ?_, fun he => by rw [rf]; exact X.es he⟩, storeF_alike A h i v, Q.st, Q.nL, Q.nR, us, rf, rl, fun k j hk => ?_⟩
  · have := X.nu; have := Q.nL; have := Q.nR; omega
  · have := X.eb he; rw [rf]; omega
  · rw [loadF_storeF X.wf hi hk]
    by_cases e : pos k j = pos h i
    · rw [if_pos e, if_pos ((pos_apart X.sl hi hk).1 e)]
    · rw [if_neg e, if_neg (fun h => e ((pos_apart X.sl hi hk).2 h))]

/-- A touch. -/
theorem touch_later (X : GI A g m S l) (hu : A.uses ≤ 1000000000) (hi : A.inOk h i) : A.touch h i = A.later 1 := by
  rw [touch_yes hi]
  have us := X.sl.F.us
  unfold Ar.tick Ar.later
  rw [w64_in (by omega) (by omega)]

/-- Words put into a new slot, one by one. -/
structure Wr (B : Ar) (g : Gd) (m : Int) (S : Sg) (l : Int → List (Int × Int)) (h : Int) (w : Nat → Int) (n : Nat) (C : Ar) : Prop where
  gi : GI C g m S l
  al : Ar.Alike B C
  st : ∀ k, C.stF k = B.stF k
  nL : C.nL = B.nL
  nR : C.nR = B.nR
  us : C.uses = B.uses + n
  rf : ∀ i, C.rawF i = B.rawF i
  rl : C.raw.length = B.raw.length
  ld : ∀ j : Nat, j < n → C.loadF h j = w j
  lo : ∀ k j, B.inOk k j → k ≠ h → C.loadF k j = B.loadF k j
theorem Wr.nil (X : GI B g m S l) (w : Nat → Int) : Wr B g m S l h w 0 B := ⟨X, .refl B, fun _ => rfl, rfl, rfl, by omega, fun _ => rfl, rfl, fun j hj => by omega, fun _ _ _ _ => rfl⟩
theorem Wr.next {w : Nat → Int} {n : Nat} (W : Wr B g m S l h w n C) (hu : C.uses ≤ 1000000000) (hi : B.inOk h n) : Wr B g m S l h w (n + 1) (C.storeF h n (w n)) := by
  have inS : ∀ k j, B.inOk k j → C.inOk k j := fun k j hk => (inOk_st W.st).2 hk
  have Z := W.gi.store (v := w n) hu (inS h n hi)
  have us := W.us
  have zu := Z.us
  refine ⟨Z.gi, W.al.trans Z.al, fun k => (Z.st k).trans (W.st k), Z.nL.trans W.nL, Z.nR.trans W.nR, by omega, fun i => (Z.rf i).trans (W.rf i), Z.rl.trans W.rl, fun j hj => ?_, fun k j hk hne => ?_⟩
  · have hij : B.inOk h j := ⟨hi.1, by omega, by have := hi.2.2; omega⟩
    rw [Z.ld h j (inS _ _ hij)]
    by_cases e : j = n
    · rw [if_pos ⟨rfl, by omega⟩, e]
    · rw [if_neg (fun h => e (by have := h.2; omega))]; exact W.ld j (by omega)
  · rw [Z.ld k j (inS _ _ hk), if_neg (fun h => hne h.1)]; exact W.lo k j hk hne
end
end Go.Proofs.Ytcjhakdopnamoaa

set_option linter.unusedVariables false
set_option linter.unusedSimpArgs false
set_option maxRecDepth 20000
namespace Go.Proofs.Ytcjhakdopnamoaa
open Go Go.Fw

/-! ### A deque by what it has -/
theorem ld_later' (A : Ar) (n h i : Int) : (A.later n).loadF h i = A.loadF h i := loadF_same rfl (stF_slots rfl h)
theorem st_later' (A : Ar) (n h : Int) : (A.later n).stF h = A.stF h := stF_slots rfl h
theorem inOk_later' {A : Ar} {n h i : Int} (hi : A.inOk h i) : (A.later n).inOk h i := ⟨by rw [st_later']; exact hi.1, hi.2⟩

section
variable {A B C : Ar} {g : Gd} {m : Int} {S S' : Sg} {l l' : Int → List (Int × Int)} {k h i v : Int} {q mq ob : Nat} {n : Nat}

theorem roomF_live (hs : A.stF h ≠ 0) : roomF h = sizeF (opC h) ∧ clsF h = opC h := by
  have ho := stF_ok hs
  unfold roomF clsF opC
  rw [ho]; exact ⟨rfl, rfl⟩
theorem wordF_live (hs : A.stF h ≠ 0) (i : Int) : wordF h i = i % sizeF (opC h) := by
  unfold wordF
  rw [(roomF_live hs).1, if_neg (by have := sz_op h; omega)]

/-- Where deques' words stand. -/
structure DA (A : Ar) (g : Gd) (at_ : Int) : Prop where
  lo : g.ta + gwords g.ep g.w ≤ at_
  hi : at_ + 3 * g.w ≤ A.raw.length

structure DQ (A : Ar) (o : DOw) (t : Int) (xs : List Int) : Prop where
  r0 : A.rawF (dw o.at_ o.work 0) = t
  r1 : A.rawF (dw o.at_ o.work 1) = o.b
  r2 : A.rawF (dw o.at_ o.work 2) = o.h
  bt : o.b = t + xs.length
  tb : 0 ≤ t ∧ t ≤ 1000000
  hs : A.stF o.h = 1
  ln : (xs.length : Int) ≤ sizeF (opC o.h)
  ld : ∀ j : Nat, j < xs.length → A.loadF o.h ((t + j) % sizeF (opC o.h)) = xs.getD j 0

theorem DQ.later {o : DOw} {t : Int} {xs : List Int} (D : DQ A o t xs) (n : Int) : DQ (A.later n) o t xs :=
  ⟨D.r0, D.r1, D.r2, D.bt, D.tb, by rw [st_later']; exact D.hs, D.ln, fun j hj => by rw [ld_later']; exact D.ld j hj⟩

theorem bnd_ok {o : DOw} (X : GI A g m S l) (D : DA A g o.at_) (wh : 0 ≤ o.work ∧ o.work < g.w) : o.bnd := by
  have := X.wb; have := X.rb; have := D.hi; have := D.lo; have := X.ta; have := X.c0
  have : 0 ≤ gwords g.ep g.w := by unfold gwords; cases g.ep <;> simp <;> omega
  exact ⟨⟨by omega, by omega⟩, ⟨wh.1, by omega⟩⟩
theorem dw_in {o : DOw} (X : GI A g m S l) (D : DA A g o.at_) (wh : 0 ≤ o.work ∧ o.work < g.w) {k : Int} (k0 : 0 ≤ k) (k1 : k < 3) : g.pl.carved < dw o.at_ o.work k ∧ dw o.at_ o.work k < A.raw.length ∧ g.ta < dw o.at_ o.work k ∧ 0 ≤ dw o.at_ o.work k := by
  have := X.wb; have := X.rb; have := D.hi; have := D.lo; have := X.ta; have := X.c0
  have : 1 ≤ gwords g.ep g.w := by unfold gwords; cases g.ep <;> simp <;> omega
  unfold dw
  refine ⟨by omega, by omega, by omega, by omega⟩

/-- A word of a deque's is read. -/
theorem touchR_dw {o : DOw} (X : GI A g m S l) (D : DA A g o.at_) (wh : 0 ≤ o.work ∧ o.work < g.w) (hu : A.uses ≤ 900000) {k : Int} (k0 : 0 ≤ k) (k1 : k < 3) : A.touchR (dw o.at_ o.work k) = A.later 1 := by
  obtain ⟨a, b, c, d⟩ := dw_in X D wh k0 k1
  exact tick_later ⟨d, b⟩ X.u0 (by omega)

/-- A push where there is room. -/
structure Pushed (A : Ar) (g : Gd) (m : Int) (S : Sg) (l : Int → List (Int × Int)) (o : DOw) (t v : Int) (xs : List Int) (B : Ar) : Prop where
  gi : GI B g m S l
  al : Ar.Alike A B
  dq : DQ B { o with b := o.b + 1 } t (xs ++ [v])
  st : ∀ h, B.stF h = A.stF h
  lo : ∀ h i, A.inOk h i → h ≠ o.h → B.loadF h i = A.loadF h i
  rf : ∀ i, i ≠ dw o.at_ o.work 1 → B.rawF i = A.rawF i
  nL : B.nL = A.nL
  rl : B.raw.length = A.raw.length

theorem mod_ne' {n i j t : Int} (hn : 0 < n) (hij : i ≠ j) (h0 : 0 ≤ i ∧ i < n) (h1 : 0 ≤ j ∧ j < n) : (t + i) % n ≠ (t + j) % n := fun e => by
  have d1 := Int.emod_add_mul_ediv (t + i) n
  have d2 := Int.emod_add_mul_ediv (t + j) n
  rw [e] at d1
  have e3 : i - j = n * ((t + i) / n) - n * ((t + j) / n) := by omega
  rw [← Int.mul_sub] at e3
  generalize (t + i) / n - (t + j) / n = k at e3
  have : k = 0 := by
    rcases Int.lt_trichotomy k 0 with h | h | h
    · have : n * k ≤ n * (-1) := Int.mul_le_mul_of_nonneg_left (by omega) (by omega)
      omega
    · exact h
    · have : n * 1 ≤ n * k := Int.mul_le_mul_of_nonneg_left (by omega) (by omega)
      omega
  rw [this] at e3; omega

theorem getD_snoc (xs : List Int) (x : Int) (n : Nat) : (xs ++ [x]).getD n 0 = if n < xs.length then xs.getD n 0 else if n = xs.length then x else 0 := by
  rw [List.getD_eq_getElem?_getD, List.getD_eq_getElem?_getD, List.getElem?_append]
  split
  · rfl
  · rename_i h
    by_cases e : n = xs.length
    · rw [if_pos e, e, Nat.sub_self]; rfl
    · rw [if_neg e]
      obtain ⟨k, hk⟩ : ∃ k, n - xs.length = k + 1 := ⟨n - xs.length - 1, by omega⟩
      rw [hk]; rfl

/-- Its last two steps. -/
theorem push_two {o : DOw} {t v : Int} {xs : List Int} (X : GI A g m S l) (D : DA A g o.at_) (wh : 0 ≤ o.work ∧ o.work < g.w) (hu : A.uses ≤ 800000) (ll : (l o.work).length < 1000) (Q : DQ A o t xs) (hr : (xs.length : Int) < sizeF (opC o.h)) {al : Option Al} {cp : Option Cm} {now : Int} :
    ∃ B, Pushed A g m S l o t v xs B ∧ B.uses = A.uses + 2 ∧ (mPs q mq ob).Runs 2 ⟨g, l, o, v, t, 5, al, cp, none, now, false⟩ A ⟨g, l, { o with b := o.b + 1 }, v, t, 7, al, cp, none, now, true⟩ B := by
  have u0 := X.u0
  have wb := X.wb
  have sz := sz_op o.h
  have tb := Q.tb
  have bt := Q.bt
  have hs0 : A.stF o.h ≠ 0 := by rw [Q.hs]; decide
  have hw := wordF_live hs0 o.b
  have m0 := Int.emod_nonneg o.b (b := sizeF (opC o.h)) (by omega)
  have m1 := Int.emod_lt_of_pos o.b (b := sizeF (opC o.h)) (by omega)
  have hi : A.inOk o.h (o.b % sizeF (opC o.h)) := ⟨hs0, m0, m1⟩
  have Z := X.store (v := v) (by omega) hi
  have zu := Z.us
  obtain ⟨d1, d2, d3, d4⟩ := dw_in X D wh (k := 1) (by decide) (by decide)
  have O := outS Z.gi.sl (i := dw o.at_ o.work 1) (v := o.b + 1) ⟨d1, by rw [Z.rl]; exact d2⟩ (by omega)
  have ou := O.us
  have X2 := Z.gi.out O (storeR_wf Z.gi.wf _ _) (fun _ => by omega)
  have okr : (A.storeF o.h (o.b % sizeF (opC o.h)) v).rawOk (dw o.at_ o.work 1) := ⟨d4, by rw [Z.rl]; exact d2⟩
  have ew : ((A.storeF o.h (o.b % sizeF (opC o.h)) v).storeR (dw o.at_ o.work 1) (o.b + 1)).words = (A.storeF o.h (o.b % sizeF (opC o.h)) v).words := by unfold Ar.storeR; rw [if_pos okr]; rfl
  have lds : ∀ h i, ((A.storeF o.h (o.b % sizeF (opC o.h)) v).storeR (dw o.at_ o.work 1) (o.b + 1)).loadF h i = (A.storeF o.h (o.b % sizeF (opC o.h)) v).loadF h i := fun h i => loadF_same ew (O.st h)
  have bd := bnd_ok X D wh
  have iv : ∀ (what : Int) (D : Ar), what = 5 ∨ what = 6 → Ps.inv ⟨g, l, o, v, t, what, al, cp, none, now, false⟩ D := fun what D hw => ⟨by show 1 ≤ g.w ∧ g.w ≤ 1000; omega, bd, ll, fun h => (by have h : what = 1 := h; omega), fun h => (by have h : what = 2 := h; omega), fun _ => rfl, fun h => (by have h : what = 4 := h; omega)⟩
  have e1 : w64 (o.b + 1) = o.b + 1 := w64_in (by omega) (by omega)
  refine ⟨(A.storeF o.h (o.b % sizeF (opC o.h)) v).storeR (dw o.at_ o.work 1) (o.b + 1), ⟨X2, Z.al.trans (storeR_alike _ _ _), ⟨?_, ?_, ?_, ?_, tb, ?_, ?_, ?_⟩, fun h => (O.st h).trans (Z.st h), fun h i hh hne => ?_, fun i hi => ?_, O.nL.trans Z.nL, O.rl.trans Z.rl⟩, by omega, ?_⟩
  · show Ar.rawF _ (dw o.at_ o.work 0) = t
    rw [O.rf, if_neg (by unfold dw; omega), Z.rf]; exact Q.r0
  · show Ar.rawF _ (dw o.at_ o.work 1) = o.b + 1
    rw [O.rf, if_pos rfl]
  · show Ar.rawF _ (dw o.at_ o.work 2) = o.h
    rw [O.rf, if_neg (by unfold dw; omega), Z.rf]; exact Q.r2
  · show o.b + 1 = t + ((xs ++ [v]).length : Int)
    rw [List.length_append]; show _ = t + ((xs.length + 1 : Nat) : Int); omega
  · show Ar.stF _ o.h = 1
    rw [O.st, Z.st]; exact Q.hs
  · show ((xs ++ [v]).length : Int) ≤ sizeF (opC o.h)
    rw [List.length_append]; show ((xs.length + 1 : Nat) : Int) ≤ _; omega
  · intro j hj
    show _ = (xs ++ [v]).getD j 0
    rw [List.length_append] at hj
    have hj : j < xs.length + 1 := hj
    have hij : A.inOk o.h ((t + j) % sizeF (opC o.h)) := ⟨hs0, Int.emod_nonneg _ (by omega), Int.emod_lt_of_pos _ (by omega)⟩
    show ((A.storeF o.h (o.b % sizeF (opC o.h)) v).storeR (dw o.at_ o.work 1) (o.b + 1)).loadF o.h ((t + j) % sizeF (opC o.h)) = _
    rw [lds, Z.ld _ _ hij, getD_snoc]
    by_cases e : j < xs.length
    · rw [if_pos e, if_neg (fun h => ?_)]
      · exact Q.ld j e
      · have := h.2
        rw [bt] at this
        exact mod_ne' (n := sizeF (opC o.h)) (by omega) (by omega) ⟨by omega, by omega⟩ ⟨by omega, hr⟩ this
    · have ej : j = xs.length := by omega
      rw [if_neg e, if_pos ej, if_pos ⟨rfl, by rw [bt, ej]⟩]
  · rw [lds, Z.ld _ _ hh, if_neg (fun h => hne h.1)]
  · rw [O.rf, if_neg hi, Z.rf]
  · refine .more (x1 := ⟨g, l, o, v, t, 6, al, cp, none, now, false⟩) (D1 := A.storeF o.h (o.b % sizeF (opC o.h)) v) (by exact iv 5 _ (.inl rfl)) ?_ (by rw [zu, w64_in (by omega) (by omega)]; exact Int.le_refl _) rfl (.one (by exact iv 6 _ (.inr rfl)) ?_ (by rw [ou, w64_in (by omega) (by omega)]; exact Int.le_refl _) rfl)
    · show ((⟨g, l, o, v, t, 6, al, cp, none, now, false⟩ : Ps), A.storeF o.h (wordF o.h o.b) v) = _
      rw [hw]
    · show ((⟨g, l, ⟨o.at_, o.work, w64 (o.b + 1), o.h, o.pl⟩, v, t, 7, al, cp, none, now, true⟩ : Ps), (A.storeF o.h (o.b % sizeF (opC o.h)) v).storeR (dw o.at_ o.work 1) (w64 (o.b + 1))) = _
      rw [e1]
end
end Go.Proofs.Ytcjhakdopnamoaa

set_option linter.unusedVariables false
set_option linter.unusedSimpArgs false
set_option maxRecDepth 20000
namespace Go.Proofs.Ytcjhakdopnamoaa
open Go Go.Fw

section
variable {A B C : Ar} {g : Gd} {m : Int} {S S' : Sg} {l l' : Int → List (Int × Int)} {k h i v t : Int} {q mq ob : Nat} {n : Nat} {o : DOw} {xs : List Int}

theorem ps_iv (wb : 1 ≤ g.w ∧ g.w ≤ 1000) (bd : o.bnd) (ll : (l o.work).length < 1000) {v t what : Int} {al : Option Al} {cp : Option Cm} {now : Int} {went : Bool} (h1 : what ≠ 1) (h2 : what ≠ 2) (h4 : what ≠ 4) (D : Ar) : Ps.inv ⟨g, l, o, v, t, what, al, cp, none, now, went⟩ D :=
  ⟨wb, bd, ll, fun h => (h1 h).elim, fun h => (h2 h).elim, fun _ => rfl, fun h => (h4 h).elim⟩

/-- The first step. -/
theorem ps_first (X : GI A g m S l) (D : DA A g o.at_) (wh : 0 ≤ o.work ∧ o.work < g.w) (hu : A.uses ≤ 800000) (ll : (l o.work).length < 1000) (Q : DQ A o t xs) :
    (mPs q mq ob).inv ⟨g, l, o, v, 0, 0, none, none, none, 0, false⟩ A ∧ (A.later 1).uses ≤ w64 (A.uses + 1) ∧ (mPs q mq ob).step ⟨g, l, o, v, 0, 0, none, none, none, 0, false⟩ A = (if sizeF (opC o.h) ≤ xs.length then
      (if opC o.h + 1 < 4 then ⟨g, l, o, v, t, 1, some (newAl o.pl o.work (opC o.h + 1)), none, none, 0, false⟩ else ⟨g, l, o, v, t, 7, none, none, none, 0, false⟩) else ⟨g, l, o, v, t, 5, none, none, none, 0, false⟩, A.later 1) := by
  have u0 := X.u0
  have wb := X.wb
  have tb := Q.tb
  have bt := Q.bt
  have sz := sz_op o.h
  have oc := opC_nat o.h
  have hs0 : A.stF o.h ≠ 0 := by rw [Q.hs]; decide
  obtain ⟨rl, cl⟩ := roomF_live hs0
  have ln := Q.ln
  refine ⟨ps_iv ⟨by omega, by omega⟩ (bnd_ok X D wh) ll (by decide) (by decide) (by decide) A, by show A.uses + 1 ≤ _; rw [w64_in (by omega) (by omega)]; exact Int.le_refl _, ?_⟩
  have e1 : w64 (o.b - t) = xs.length := by rw [bt, w64_in (by omega) (by omega)]; omega
  have e2 : w64 (opC o.h + 1) = opC o.h + 1 := w64_in (by omega) (by omega)
  show (if roomF o.h ≤ w64 (o.b - A.rawF (dw o.at_ o.work 0)) then Ps.grow ⟨g, l, o, v, A.rawF (dw o.at_ o.work 0), 5, none, none, none, 0, false⟩ else ⟨g, l, o, v, A.rawF (dw o.at_ o.work 0), 5, none, none, none, 0, false⟩, A.touchR (dw o.at_ o.work 0)) = _
  rw [touchR_dw X D wh (by omega) (by decide) (by decide), Q.r0, e1, rl]
  refine Prod.ext ?_ rfl
  show (if _ then _ else _ : Ps) = if _ then _ else _
  by_cases hr : sizeF (opC o.h) ≤ xs.length
  · rw [if_pos hr, if_pos hr]
    show (if w64 (clsF o.h + 1) < 4 then (⟨g, l, o, v, t, 1, some (newAl o.pl o.work (w64 (clsF o.h + 1))), none, none, 0, false⟩ : Ps) else ⟨g, l, o, v, t, 7, none, none, none, 0, false⟩) = _
    rw [cl, e2]
  · rw [if_neg hr, if_neg hr]

/-- Where there is room. -/
theorem push_room (X : GI A g m S l) (D : DA A g o.at_) (wh : 0 ≤ o.work ∧ o.work < g.w) (hu : A.uses ≤ 700000) (ll : (l o.work).length < 1000) (Q : DQ A o t xs) (hr : (xs.length : Int) < sizeF (opC o.h)) :
    ∃ B, Pushed A g m S l o t v xs B ∧ B.uses = A.uses + 3 ∧ (mPs q mq ob).Runs 3 ⟨g, l, o, v, 0, 0, none, none, none, 0, false⟩ A ⟨g, l, { o with b := o.b + 1 }, v, t, 7, none, none, none, 0, true⟩ B := by
  obtain ⟨iv, hu1, st⟩ := ps_first (q := q) (mq := mq) (ob := ob) (v := v) X D wh (by omega) ll Q
  rw [if_neg (by omega)] at st
  obtain ⟨B, P, bu, r⟩ := push_two (q := q) (mq := mq) (ob := ob) (v := v) (al := none) (cp := none) (now := 0) (X.later (n := 1) (by decide)) ⟨D.lo, D.hi⟩ wh (by show A.uses + 1 ≤ _; omega) ll (Q.later 1) hr
  have bu : B.uses = A.uses + 1 + 2 := bu
  refine ⟨B, ⟨P.gi, (later_alike A 1).trans P.al, P.dq, fun h => (P.st h).trans (st_later' A 1 h), fun h i hh hne => (P.lo h i (inOk_later' hh) hne).trans (ld_later' A 1 h i), P.rf, P.nL, P.rl⟩, by omega, .more iv st hu1 rfl r⟩

/-- The greatest, and full. -/
theorem push_full (X : GI A g m S l) (D : DA A g o.at_) (wh : 0 ≤ o.work ∧ o.work < g.w) (hu : A.uses ≤ 700000) (ll : (l o.work).length < 1000) (Q : DQ A o t xs) (hr : sizeF (opC o.h) ≤ xs.length) (hc : opC o.h = 3) :
    (mPs q mq ob).Runs 1 ⟨g, l, o, v, 0, 0, none, none, none, 0, false⟩ A ⟨g, l, o, v, t, 7, none, none, none, 0, false⟩ (A.later 1) := by
  obtain ⟨iv, hu1, st⟩ := ps_first (q := q) (mq := mq) (ob := ob) (v := v) X D wh (by omega) ll Q
  rw [if_pos hr, if_neg (by omega)] at st
  exact .one iv st hu1 rfl

theorem ps_al_lift {a a' : Al} (wb : 1 ≤ g.w ∧ g.w ≤ 1000) (bd : o.bnd) (ll : (l o.work).length < 1000) {cp : Option Cm} {now : Int} {went : Bool} (h0 : mAl.Runs n a A a' B) :
    ∀ x1 : Ps, Ps.got ⟨g, l, o, v, t, 1, some a', cp, none, now, went⟩ a'.h = x1 →
      (x1.what = 2 → (mPs q mq ob).Path n ⟨g, l, o, v, t, 1, some a, cp, none, now, went⟩ A x1 B) ∧ (x1.what = 7 → (mPs q mq ob).Runs n ⟨g, l, o, v, t, 1, some a, cp, none, now, went⟩ A x1 B) := by
  have st : ∀ (a : Al) (A : Ar), (mPs q mq ob).step ⟨g, l, o, v, t, 1, some a, cp, none, now, went⟩ A = (if mAl.fin (a.step A).1 = true then Ps.got ⟨g, l, o, v, t, 1, some (a.step A).1, cp, none, now, went⟩ (a.step A).1.h else ⟨g, l, o, v, t, 1, some (a.step A).1, cp, none, now, went⟩, (a.step A).2) := fun a A => rfl
  have iv : ∀ (a : Al) (A : Ar), mAl.inv a A → (mPs q mq ob).inv ⟨g, l, o, v, t, 1, some a, cp, none, now, went⟩ A := fun a A hi => ⟨wb, bd, ll, fun _ => ⟨a, rfl, hi⟩, fun h => (by have h : (1 : Int) = 2 := h; omega), fun _ => rfl, fun h => (by have h : (1 : Int) = 4 := h; omega)⟩
  induction h0 with
  | @one a A hi hu hf =>
    intro x1 hx
    have s1 : (mPs q mq ob).step ⟨g, l, o, v, t, 1, some a, cp, none, now, went⟩ A = (x1, (mAl.step a A).2) := (st a A).trans (by
      rw [if_pos (show mAl.fin (a.step A).1 = true from hf)]
      exact congrArg (fun y => (y, (a.step A).2)) hx)
    exact ⟨fun he => .cons (iv a A hi) s1 hu (by show ((x1.what : Int) == 7) = false; rw [he]; rfl) .nil, fun he => .one (iv a A hi) s1 hu (by show ((x1.what : Int) == 7) = true; rw [he]; rfl)⟩
  | @more n a A a' B hi hu hf hr ih =>
    intro x1 hx
    have s1 : (mPs q mq ob).step ⟨g, l, o, v, t, 1, some a, cp, none, now, went⟩ A = (⟨g, l, o, v, t, 1, some (mAl.step a A).1, cp, none, now, went⟩, (mAl.step a A).2) := (st a A).trans (by rw [if_neg (by rw [show mAl.fin (a.step A).1 = false from hf]; exact Bool.false_ne_true)]; rfl)
    obtain ⟨i1, i2⟩ := ih x1 hx
    exact ⟨fun he => .cons (iv a A hi) s1 hu rfl (i1 he), fun he => .more (iv a A hi) s1 hu rfl (i2 he)⟩

theorem ps_lk_lift {y y' : Lk} (wb : 1 ≤ g.w ∧ g.w ≤ 1000) (bd : o.bnd) (ll : (l o.work).length < 1000) {al : Option Al} {cp : Option Cm} {now : Int} {went : Bool} (h1 : (mLk q mq).Runs n y A y' B) :
    (mPs q mq ob).Path n ⟨g, l, o, v, t, 4, al, cp, some y, now, went⟩ A ⟨g, y'.ls, o, v, t, 5, al, cp, none, now, went⟩ B := by
  have st : ∀ (y : Lk) (A : Ar) (y1 : Lk) (A1 : Ar), (mLk q mq).step y A = (y1, A1) → (mPs q mq ob).step ⟨g, l, o, v, t, 4, al, cp, some y, now, went⟩ A = (if y1.fin = true then ⟨g, y1.ls, o, v, t, 5, al, cp, none, now, went⟩ else ⟨g, l, o, v, t, 4, al, cp, some y1, now, went⟩, A1) := fun y A y1 A1 hs => by
    have hs : y.step A = (y1, A1) := hs
    show ((if (y.step A).1.fin = true then ⟨g, (y.step A).1.ls, o, v, t, 5, al, cp, none, now, went⟩ else ⟨g, l, o, v, t, 4, al, cp, some (y.step A).1, now, went⟩ : Ps), (y.step A).2) = _
    rw [hs]
  have iv : ∀ (y : Lk) (A : Ar), (mLk q mq).inv y A → (mPs q mq ob).inv ⟨g, l, o, v, t, 4, al, cp, some y, now, went⟩ A := fun y A hi => ⟨wb, bd, ll, fun h => (by have h : (4 : Int) = 1 := h; omega), fun h => (by have h : (4 : Int) = 2 := h; omega), fun h => (h rfl).elim, fun _ => ⟨y, rfl, hi⟩⟩
  induction h1 with
  | @one y A y1 A1 hi hs hu hf =>
    have hf : y1.fin = true := hf
    exact .cons (iv y A hi) ((st y A y1 A1 hs).trans (by rw [if_pos hf])) hu rfl .nil
  | @more n y A y1 A1 y' B hi hs hu hf hr ih =>
    have hf : y1.fin = false := hf
    exact .cons (iv y A hi) ((st y A y1 A1 hs).trans (by rw [if_neg (by rw [hf]; exact Bool.false_ne_true)])) hu rfl ih

/-- So many words were copied. -/
structure CJ (A : Ar) (g : Gd) (m : Int) (S : Sg) (l : Int → List (Int × Int)) (h2 t : Int) (xs : List Int) (j : Nat) (C : Ar) : Prop where
  gi : GI C g m S l
  al : Ar.Alike A C
  st : ∀ k, C.stF k = A.stF k
  nL : C.nL = A.nL
  us : C.uses = A.uses + 2 * j
  rf : ∀ i, C.rawF i = A.rawF i
  rl : C.raw.length = A.raw.length
  ld : ∀ i : Nat, i < j → C.loadF h2 ((t + i) % sizeF (opC h2)) = xs.getD i 0
  lo : ∀ k i, A.inOk k i → k ≠ h2 → C.loadF k i = A.loadF k i

theorem ps_copy (X : GI A g m S l) (wb : 1 ≤ g.w ∧ g.w ≤ 1000) (bd : o.bnd) (ll : (l o.work).length < 1000) (hu : A.uses ≤ 800000) {h2 : Int} {al : Option Al} (hn : h2 ≠ o.h) (hs : A.stF o.h = 1) (hs2 : A.stF h2 = 1) (bt : o.b = t + xs.length) (tb : 0 ≤ t ∧ t ≤ 1000000) (ln : (xs.length : Int) ≤ sizeF (opC o.h)) (ln2 : (xs.length : Int) ≤ sizeF (opC h2))
    (lx : ∀ j : Nat, j < xs.length → A.loadF o.h ((t + j) % sizeF (opC o.h)) = xs.getD j 0) : ∀ j : Nat, j ≤ xs.length → 1 ≤ xs.length →
    ∃ C vj, CJ A g m S l h2 t xs j C ∧ (mPs q mq ob).Path (2 * j) ⟨g, l, o, v, t, 2, al, some ⟨o.h, h2, t, o.b, 0, false⟩, none, h2, false⟩ A ⟨g, l, o, v, t, if j = xs.length then 3 else 2, al, some ⟨o.h, h2, t + j, o.b, vj, false⟩, none, h2, false⟩ C
  | 0, _, h1 => ⟨A, 0, ⟨X, .refl A, fun _ => rfl, rfl, by omega, fun _ => rfl, rfl, fun i hi => by omega, fun _ _ _ _ => rfl⟩, by rw [if_neg (by omega), show t + ((0 : Nat) : Int) = t by omega]; exact .nil⟩
  | j + 1, hj, h1 => by
    obtain ⟨C, vj, W, pth⟩ := ps_copy X wb bd ll hu hn hs hs2 bt tb ln ln2 lx j (by omega) h1
    rw [if_neg (by omega)] at pth
    have u0 := X.u0
    have us := W.us
    have sz := sz_op o.h
    have sz2 := sz_op h2
    have s0 : C.stF o.h ≠ 0 := by rw [W.st, hs]; decide
    have s2 : C.stF h2 ≠ 0 := by rw [W.st, hs2]; decide
    have w1 := wordF_live s0 (t + j)
    have w2 := wordF_live s2 (t + j)
    have i1 : A.inOk o.h ((t + j) % sizeF (opC o.h)) := ⟨by rw [hs]; decide, Int.emod_nonneg _ (by omega), Int.emod_lt_of_pos _ (by omega)⟩
    have i1C : C.inOk o.h ((t + j) % sizeF (opC o.h)) := (inOk_st W.st).2 i1
    have l1 : C.loadF o.h ((t + j) % sizeF (opC o.h)) = xs.getD j 0 := by rw [W.lo _ _ i1 (fun e => hn e.symm)]; exact lx j (by omega)
    have X1 := W.gi.later (n := 1) (by decide)
    have i2 : (C.later 1).inOk h2 ((t + j) % sizeF (opC h2)) := ⟨by rw [st_later']; exact s2, Int.emod_nonneg _ (by omega), Int.emod_lt_of_pos _ (by omega)⟩
    have Z := X1.store (v := xs.getD j 0) (by show C.uses + 1 ≤ _; omega) i2
    have zu : ((C.later 1).storeF h2 ((t + j) % sizeF (opC h2)) (xs.getD j 0)).uses = C.uses + 1 + 1 := Z.us
    have inA : ∀ k i, A.inOk k i → (C.later 1).inOk k i := fun k i hk => inOk_later' ((inOk_st W.st).2 hk)
    have e1 : w64 (t + j + 1) = t + ((j + 1 : Nat) : Int) := by rw [w64_in (by omega) (by omega)]; omega
    have nf : mCp.fin ⟨o.h, h2, t + j, o.b, xs.getD j 0, true⟩ = false := decide_eq_false (by show ¬ o.b ≤ t + j; omega)
    refine ⟨_, xs.getD j 0, ⟨Z.gi, (W.al.trans (later_alike C 1)).trans Z.al, fun k => (Z.st k).trans ((st_later' C 1 k).trans (W.st k)), Z.nL.trans W.nL, by omega, fun i => (Z.rf i).trans (W.rf i), Z.rl.trans W.rl, fun i hi => ?_, fun k i hk hne => ?_⟩, ?_⟩
    · have hii : (C.later 1).inOk h2 ((t + i) % sizeF (opC h2)) := ⟨by rw [st_later']; exact s2, Int.emod_nonneg _ (by omega), Int.emod_lt_of_pos _ (by omega)⟩
      rw [Z.ld _ _ hii]
      by_cases e : i = j
      · rw [if_pos ⟨rfl, by rw [e]⟩, e]
      · rw [if_neg (fun h => mod_ne' (n := sizeF (opC h2)) (by omega) (by omega) ⟨by omega, by omega⟩ ⟨by omega, by omega⟩ h.2), ld_later']
        exact W.ld i (by omega)
    · rw [Z.ld _ _ (inA k i hk), if_neg (fun h => hne h.1), ld_later']; exact W.lo k i hk hne
    · rw [show 2 * (j + 1) = 2 * j + 2 by omega]
      refine pth.trans (.cons (x1 := ⟨g, l, o, v, t, 2, al, some ⟨o.h, h2, t + j, o.b, xs.getD j 0, true⟩, none, h2, false⟩) (D1 := C.later 1) ⟨wb, bd, ll, fun h => (by have h : (2 : Int) = 1 := h; omega), fun _ => ⟨_, rfl⟩, fun _ => rfl, fun h => (by have h : (2 : Int) = 4 := h; omega)⟩ ?_ ?_ rfl (.cons (D1 := (C.later 1).storeF h2 ((t + j) % sizeF (opC h2)) (xs.getD j 0)) ?_ ?_ ?_ ?_ .nil))
      · have hst : Cm.step ⟨o.h, h2, t + j, o.b, vj, false⟩ C = (⟨o.h, h2, t + j, o.b, xs.getD j 0, true⟩, C.later 1) := by
          unfold Cm.step
          rw [if_neg (by show ¬ o.b ≤ t + j; omega), if_pos rfl]
          show ((⟨o.h, h2, t + j, o.b, C.loadF o.h (wordF o.h (t + j)), true⟩ : Cm), C.touch o.h (wordF o.h (t + j))) = _
          rw [w1, l1, touch_later W.gi (by omega) i1C]
        show (if mCp.fin (Cm.step ⟨o.h, h2, t + j, o.b, vj, false⟩ C).1 = true then (⟨g, l, o, v, t, 3, al, some (Cm.step ⟨o.h, h2, t + j, o.b, vj, false⟩ C).1, none, h2, false⟩ : Ps) else ⟨g, l, o, v, t, 2, al, some (Cm.step ⟨o.h, h2, t + j, o.b, vj, false⟩ C).1, none, h2, false⟩, (Cm.step ⟨o.h, h2, t + j, o.b, vj, false⟩ C).2) = _
        rw [hst, nf, if_neg Bool.false_ne_true]
      · show C.uses + 1 ≤ _; rw [w64_in (by omega) (by omega)]; exact Int.le_refl _
      · exact ⟨wb, bd, ll, fun h => (by have h : (2 : Int) = 1 := h; omega), fun _ => ⟨_, rfl⟩, fun _ => rfl, fun h => (by have h : (2 : Int) = 4 := h; omega)⟩
      · have hst : Cm.step ⟨o.h, h2, t + j, o.b, xs.getD j 0, true⟩ (C.later 1) = (⟨o.h, h2, t + ((j + 1 : Nat) : Int), o.b, xs.getD j 0, false⟩, (C.later 1).storeF h2 ((t + j) % sizeF (opC h2)) (xs.getD j 0)) := by
          unfold Cm.step
          rw [if_neg (by show ¬ o.b ≤ t + j; omega), if_neg (by show ¬ true = false; decide)]
          show ((⟨o.h, h2, w64 (t + j + 1), o.b, xs.getD j 0, false⟩ : Cm), (C.later 1).storeF h2 (wordF h2 (t + j)) (xs.getD j 0)) = _
          rw [w2, e1]
        show (if mCp.fin (Cm.step ⟨o.h, h2, t + j, o.b, xs.getD j 0, true⟩ (C.later 1)).1 = true then (⟨g, l, o, v, t, 3, al, some (Cm.step ⟨o.h, h2, t + j, o.b, xs.getD j 0, true⟩ (C.later 1)).1, none, h2, false⟩ : Ps) else ⟨g, l, o, v, t, 2, al, some (Cm.step ⟨o.h, h2, t + j, o.b, xs.getD j 0, true⟩ (C.later 1)).1, none, h2, false⟩, (Cm.step ⟨o.h, h2, t + j, o.b, xs.getD j 0, true⟩ (C.later 1)).2) = _
        rw [hst]
        refine Prod.ext ?_ rfl
        show (if decide (o.b ≤ t + ((j + 1 : Nat) : Int)) = true then _ else _ : Ps) = _
        by_cases e : j + 1 = xs.length
        · rw [if_pos (decide_eq_true (by omega)), if_pos e]
        · rw [if_neg (by rw [decide_eq_false (by omega)]; exact Bool.false_ne_true), if_neg e]
      · show _ ≤ w64 (C.uses + 1 + 1); rw [zu, w64_in (by omega) (by omega)]; exact Int.le_refl _
      · show (((if j + 1 = xs.length then 3 else 2 : Int)) == 7) = false
        split <;> rfl
end
end Go.Proofs.Ytcjhakdopnamoaa

set_option linter.unusedVariables false
set_option linter.unusedSimpArgs false
set_option maxRecDepth 20000
namespace Go.Proofs.Ytcjhakdopnamoaa
open Go Go.Fw

section
variable {A B C : Ar} {g : Gd} {m : Int} {S S' : Sg} {l l' : Int → List (Int × Int)} {k h i v t : Int} {q mq ob : Nat} {n : Nat} {o : DOw} {xs : List Int}

/-- What a retire, to its end, leaves. -/
structure RetF (A : Ar) (g : Gd) (m : Int) (S : Sg) (l : Int → List (Int × Int)) (k h : Int) (B : Ar) (l' : Int → List (Int × Int)) (S' : Sg) : Prop where
  gi : GI B g m S' l'
  al : Ar.Alike A B
  st : B.stF h ≠ 1
  ot : ∀ j, j ≠ h → A.stF j = 1 → B.stF j = 1
  ld : ∀ j i, j ≠ h → A.stF j = 1 → B.loadF j i = A.loadF j i
  rw : ∀ i, g.pl.carved < i → i ≠ g.ta → B.rawF i = A.rawF i
  nL : B.nL = A.nL - sizeF (opC h)
  us : A.uses ≤ B.uses ∧ B.uses ≤ A.uses + 1000
  rl : B.raw.length = A.raw.length
  lo : ∀ j, j ≠ k → l' j = l j
  ll : (l' k).length ≤ (l k).length + 1
  cv : S'.cv = S.cv
  nw : ∀ j, B.stF j = 1 → A.stF j = 1
theorem GI.retF (X : GI A g m S l) (hu : A.uses ≤ 680000) (kb : 0 ≤ k ∧ k < g.w) (hs : A.stF h = 1) (hz : sizeF (opC h) ≤ A.nL) (ll : (l k).length ≤ 190) (th : 1 ≤ g.th) :
    ∃ B l' S', RetF A g m S l k h B l' S' ∧ RunO q mq (retM g l k h) g k (A.retireF h) (setL l k (l k ++ [(h, 0)])) l' B := by
  have u0 := X.u0
  have c0 := X.c0
  obtain ⟨A1, B, l', S', R1, X1, X', run', hor⟩ := X.retire_run (q := q) (mq := mq) (k := k) (h := h) hu kb hs hz ll th
  have u1 := R1.us
  have lenf : ∀ keep : Int × Int → Bool, ((l k ++ [(h, sinceF g A)]).filter keep).length ≤ (l k ++ [(h, sinceF g A)]).length := fun keep => List.length_filter_le _ _
  have notgs : ∀ {keep gs} (L1 : Lkd A1 g m S (setL l k (l k ++ [(h, sinceF g A)])) k keep gs 1 B) (j : Int), j ≠ h → A.stF j = 1 → j ∉ gs := fun {keep gs} L1 j hj h1 hg => by
    obtain ⟨x, hx, _, rfl⟩ := L1.gone.1 hg
    rw [setL_same] at hx
    rcases List.mem_append.1 hx with hx | hx
    · have := X.st k x hx; rw [h1] at this; cases this
    · have : x = (h, sinceF g A) := by simpa using hx
      rw [this] at hj; exact hj rfl
  have s1 : ∀ j, j ≠ h → A.stF j = 1 → A1.stF j = 1 := fun j hj h1 => by rw [R1.st, if_neg hj]; exact h1
  have l1 : ∀ j i, j ≠ h → A1.loadF j i = A.loadF j i := fun j i hj => loadF_same R1.wd (by rw [R1.st, if_neg hj])
  refine ⟨B, l', S', ?_, run'⟩
  rcases hor with ⟨_, rfl, rfl, rfl⟩ | ⟨_, keep, gs, L1, rfl, rfl⟩
  · refine ⟨X', R1.al, by rw [R1.st, if_pos rfl]; decide, s1, fun j i hj _ => l1 j i hj, fun i hi _ => R1.rw i (by omega), R1.nL, ⟨by omega, by omega⟩, R1.rl, fun j hj => setL_ne _ _ hj, ?_, rfl, fun j hj => ?_⟩
    · rw [setL_same]; simp
    · rw [R1.st] at hj
      split at hj
      · cases hj
      · exact hj
  · have lu := L1.us
    have := lenf keep
    rw [setL_same] at lu
    simp only [List.length_append, List.length_cons, List.length_nil] at lu this
    refine ⟨X', R1.al.trans L1.al, ?_, fun j hj h1 => ?_, fun j i hj h1 => ?_, fun i hi hn => (L1.rw i hi hn).trans (R1.rw i (by omega)), L1.nL.trans R1.nL, ⟨by omega, by omega⟩, L1.rl.trans R1.rl, fun j hj => setL_ne _ _ hj, ?_, (frS_cv _ _ _).1, fun j hj => ?_⟩
    · rw [L1.st]; split
      · decide
      · rw [R1.st, if_pos rfl]; decide
    · rw [L1.st, if_neg (notgs L1 j hj h1)]; exact s1 j hj h1
    · rw [loadF_same L1.wd (by rw [L1.st, if_neg (notgs L1 j hj h1)])]; exact l1 j i hj
    · rw [setL_same]; simp only [List.length_append, List.length_cons, List.length_nil] at *; omega
    · rw [L1.st] at hj
      split at hj
      · cases hj
      · rw [R1.st] at hj
        split at hj
        · cases hj
        · exact hj

/-- A push that makes room. -/
structure GrownD (A : Ar) (g : Gd) (m : Int) (S : Sg) (l : Int → List (Int × Int)) (o : DOw) (t v : Int) (xs : List Int) (h2 : Int) (B : Ar) (l' : Int → List (Int × Int)) (S' : Sg) : Prop where
  gi : GI B g m S' l'
  al : Ar.Alike A B
  dq : DQ B { o with b := o.b + 1, h := h2 } t (xs ++ [v])
  c2 : opC h2 = opC o.h + 1
  n2 : A.stF h2 = 0
  st : B.stF o.h ≠ 1
  ot : ∀ j, j ≠ o.h → A.stF j = 1 → B.stF j = 1
  lo : ∀ j i, j ≠ o.h → A.stF j = 1 → B.loadF j i = A.loadF j i
  rf : ∀ i, g.pl.carved < i → i ≠ g.ta → i ≠ dw o.at_ o.work 1 → i ≠ dw o.at_ o.work 2 → B.rawF i = A.rawF i
  nL : B.nL = A.nL - sizeF (opC o.h) + sizeF (opC h2)
  us : A.uses ≤ B.uses ∧ B.uses ≤ A.uses + 1500
  rl : B.raw.length = A.raw.length
  ll : (l' o.work).length ≤ (l o.work).length + 1
  lk : ∀ j, j ≠ o.work → l' j = l j
  cv : S'.cv ≤ S.cv + sizeF (opC h2)
  nw : ∀ j, j ≠ h2 → B.stF j = 1 → A.stF j = 1
  gv : (∃ k, S.ch k ≠ []) ∨ S.cv + sizeF (opC h2) ≤ m

theorem push_grow (X : GI A g m S l) (D : DA A g o.at_) (wh : 0 ≤ o.work ∧ o.work < g.w) (pl : o.pl = g.pl) (hu : A.uses ≤ 600000) (ll : (l o.work).length ≤ 100) (th : 1 ≤ g.th) (nl : sizeF (opC o.h) ≤ A.nL) (Q : DQ A o t xs) (hr : sizeF (opC o.h) ≤ xs.length) (hc : opC o.h < 3) :
    (∃ h2 n B l' S' al cp, GrownD A g m S l o t v xs h2 B l' S' ∧ n ≤ 4000 ∧ (mPs q mq ob).Runs n ⟨g, l, o, v, 0, 0, none, none, none, 0, false⟩ A ⟨g, l', { o with b := o.b + 1, h := h2 }, v, t, 7, al, cp, none, h2, true⟩ B) ∨
    (m < S.cv + sizeF (opC o.h + 1) ∧ ∃ n B al, GI B g m S l ∧ Ar.Alike A B ∧ B.words = A.words ∧ (∀ k, B.stF k = A.stF k) ∧ (∀ i, g.pl.carved < i → B.rawF i = A.rawF i) ∧ B.nL = A.nL ∧ B.raw.length = A.raw.length ∧ A.uses ≤ B.uses ∧ B.uses ≤ A.uses + 200 ∧ n ≤ 4000 ∧
      (mPs q mq ob).Runs n ⟨g, l, o, v, 0, 0, none, none, none, 0, false⟩ A ⟨g, l, o, v, t, 7, al, none, none, 0, false⟩ B) := by
  have u0 := X.u0
  have wb := X.wb
  have tb := Q.tb
  have bt := Q.bt
  have ln := Q.ln
  have oc := opC_nat o.h
  have sz := sz_op o.h
  have wb' : 1 ≤ g.w ∧ g.w ≤ 1000 := ⟨by omega, by omega⟩
  have bd := bnd_ok X D wh
  have hs0 : A.stF o.h ≠ 0 := by rw [Q.hs]; decide
  obtain ⟨iv, hu1, st⟩ := ps_first (q := q) (mq := mq) (ob := ob) (v := v) X D wh (by omega) (by omega) Q
  rw [if_pos hr, if_pos (by omega), pl] at st
  have X1 := X.later (n := 1) (by decide)
  have uA1 : (A.later 1).uses = A.uses + 1 := rfl
  obtain ⟨n1, x, B, S1, Z⟩ := X1.slot (by omega) wh (c := opC o.h + 1) ⟨by omega, by omega⟩
  have un := Z.un
  have nn := Z.z.nn
  have hlif := ps_al_lift (q := q) (mq := mq) (ob := ob) (g := g) (l := l) (o := o) (v := v) (t := t) wb' bd (by omega) (cp := none) (now := 0) (went := false) Z.z.run
  by_cases hx : x.h = 0
  · -- no room
    refine .inr ⟨?_, ?_⟩
    · obtain ⟨kk, b', l', h1, h2, _, _, hcc, h3, h4⟩ | ⟨h1, h2, h3, h4⟩ | ⟨h1, h2, h3, _⟩ := Z.z.gives.or
      · exact ((list_name X1.sl (by omega) h2 hcc).2.2.2.2 (h4 ▸ hx)).elim
      · exact ((carve_name X1.sl ⟨by omega, by omega⟩ h2).2.2.2.2 (h4 ▸ hx)).elim
      · have : (A.later 1).uses = A.uses + 1 := rfl
        omega
    · have hS : S1 = S := by
        obtain ⟨kk, b', l', h1, h2, _, _, hcc, h3, h4⟩ | ⟨h1, h2, h3, h4⟩ | ⟨h1, h2, h3, _⟩ := Z.z.gives.or
        · exact ((list_name X1.sl (by omega) h2 hcc).2.2.2.2 (h4 ▸ hx)).elim
        · exact ((carve_name X1.sl ⟨by omega, by omega⟩ h2).2.2.2.2 (h4 ▸ hx)).elim
        · exact h3
      have GB := Z.gi
      rw [hS] at GB
      obtain ⟨_, i2⟩ := hlif ⟨g, l, o, v, t, 7, some x, none, none, 0, false⟩ (by unfold Ps.got; rw [if_neg (fun h => h hx)])
      have off := Z.z.off
      exact ⟨n1 + 1, B, some x, GB, (later_alike A 1).trans off.al, off.wd, fun k => by rw [Z.z.st, if_neg (fun h => h.1 hx)]; exact st_later' A 1 k, fun i hi => off.rw i hi, by rw [Z.z.nL, if_neg (fun h => h hx)]; show A.nL + 0 = _; omega, off.rl, by omega, by omega, by omega, .more iv st hu1 rfl (i2 rfl)⟩
  · -- a new buffer
    refine .inl ?_
    have hcx : opC x.h = opC o.h + 1 := (Z.z.hd hx).1
    have hx0 : A.stF x.h = 0 := by rw [← st_later' A 1]; exact (Z.z.hd hx).2.2
    have hne : x.h ≠ o.h := fun e => by rw [e] at hcx; omega
    have off := Z.z.off
    have sB : ∀ j, j ≠ x.h → B.stF j = A.stF j := fun j hj => by rw [Z.z.st, if_neg (fun h => hj h.2)]; exact st_later' A 1 j
    have sBx : B.stF x.h = 1 := by rw [Z.z.st, if_pos ⟨hx, rfl⟩]
    have lB : ∀ j i, j ≠ x.h → B.loadF j i = A.loadF j i := fun j i hj => loadF_same off.wd (sB j hj)
    have sBo : B.stF o.h = 1 := by rw [sB _ (fun e => hne e.symm)]; exact Q.hs
    have sx := sz_op x.h
    have s2 : sizeF (opC o.h) * 2 = sizeF (opC x.h) := by
      rw [hcx]
      have h3 : opC o.h = 0 ∨ opC o.h = 1 ∨ opC o.h = 2 := by omega
      rcases h3 with h | h | h <;> rw [h] <;> rfl
    obtain ⟨i1, _⟩ := hlif ⟨g, l, o, v, t, 2, some x, some ⟨o.h, x.h, t, o.b, 0, false⟩, none, x.h, false⟩ (by unfold Ps.got; rw [if_pos hx])
    obtain ⟨C, vj, W, pc⟩ := ps_copy (q := q) (mq := mq) (ob := ob) (v := v) (al := some x) Z.gi wb' bd (by omega) (by omega) hne sBo sBx bt tb ln (by omega) (fun j hj => by rw [lB _ _ (fun e => hne e.symm)]; exact Q.ld j hj) xs.length (Nat.le_refl _) (by omega)
    rw [if_pos rfl] at pc
    have wu := W.us
    -- the buffer's word
    obtain ⟨d1, d2, d3, d4⟩ := dw_in X D wh (k := 2) (by decide) (by decide)
    have lC : C.raw.length = A.raw.length := W.rl.trans off.rl
    have O := outS W.gi.sl (i := dw o.at_ o.work 2) (v := x.h) ⟨d1, by rw [lC]; exact d2⟩ (by omega)
    have ou := O.us
    have XO := W.gi.out O (storeR_wf W.gi.wf _ _) (fun _ => by omega)
    have okr : C.rawOk (dw o.at_ o.work 2) := ⟨d4, by rw [lC]; exact d2⟩
    have ew : (C.storeR (dw o.at_ o.work 2) x.h).words = C.words := by unfold Ar.storeR; rw [if_pos okr]; rfl
    have lO : ∀ h i, (C.storeR (dw o.at_ o.work 2) x.h).loadF h i = C.loadF h i := fun h i => loadF_same ew (O.st h)
    have nLO : (C.storeR (dw o.at_ o.work 2) x.h).nL = A.nL + sizeF (opC x.h) := by
      rw [O.nL, W.nL, Z.z.nL, if_pos hx, hcx]; rfl
    have sO : ∀ j, (C.storeR (dw o.at_ o.work 2) x.h).stF j = B.stF j := fun j => (O.st j).trans (W.st j)
    obtain ⟨E, l', S', F, run⟩ := XO.retF (q := q) (mq := mq) (k := o.work) (h := o.h) (by omega) wh (by rw [sO]; exact sBo) (by rw [nLO]; omega) (by omega) th
    have fu := F.us
    have hw3 : ∀ D : Ar, Ps.inv ⟨g, l, o, v, t, 3, some x, some ⟨o.h, x.h, t + xs.length, o.b, vj, false⟩, none, x.h, false⟩ D := fun D => ps_iv wb' bd (by omega) (by decide) (by decide) (by decide) D
    have st3 : (mPs q mq ob).step ⟨g, l, o, v, t, 3, some x, some ⟨o.h, x.h, t + xs.length, o.b, vj, false⟩, none, x.h, false⟩ C = (⟨g, setL l o.work (l o.work ++ [(o.h, 0)]), { o with h := x.h }, v, t, if (retM g l o.work o.h).isNone = true then 5 else 4, some x, some ⟨o.h, x.h, t + xs.length, o.b, vj, false⟩, retM g l o.work o.h, x.h, false⟩, (C.storeR (dw o.at_ o.work 2) x.h).retireF o.h) := rfl
    have hu3 : ((C.storeR (dw o.at_ o.work 2) x.h).retireF o.h).uses ≤ w64 (C.uses + 1) := by
      rw [(Off.retireF (c := 0) XO.wf o.h).us, w64_in (by omega) (by omega)]; omega
    have bd2 : DOw.bnd { o with h := x.h } := ⟨bd.a, bd.w⟩
    have pr : ∃ n3, n3 ≤ 2501 ∧ (mPs q mq ob).Path n3 ⟨g, l, o, v, t, 3, some x, some ⟨o.h, x.h, t + xs.length, o.b, vj, false⟩, none, x.h, false⟩ C ⟨g, l', { o with h := x.h }, v, t, 5, some x, some ⟨o.h, x.h, t + xs.length, o.b, vj, false⟩, none, x.h, false⟩ E := by
      cases hm : retM g l o.work o.h with
      | none =>
        rw [hm] at run st3
        obtain ⟨rfl, rfl⟩ := run
        exact ⟨1, by decide, .cons (hw3 C) st3 hu3 rfl .nil⟩
      | some y =>
        rw [hm] at run st3
        obtain ⟨n3, hn3, r⟩ := run
        refine ⟨n3 + 1, by omega, .cons (hw3 C) st3 hu3 rfl ?_⟩
        exact ps_lk_lift (l := setL l o.work (l o.work ++ [(o.h, 0)])) (o := { o with h := x.h }) wb' bd2 (by show (setL l o.work (l o.work ++ [(o.h, 0)]) o.work).length < 1000; rw [setL_same]; simp; omega) r
    obtain ⟨n3, hn3, pr⟩ := pr
    have rE : ∀ i, g.pl.carved < i → i ≠ g.ta → E.rawF i = if i = dw o.at_ o.work 2 then x.h else A.rawF i := fun i hi hn => by
      rw [F.rw i hi hn, O.rf]
      by_cases e : i = dw o.at_ o.work 2
      · rw [if_pos e, if_pos e]
      · rw [if_neg e, if_neg e, W.rf, off.rw i hi]; rfl
    obtain ⟨a1, a2, a3, a4⟩ := dw_in X D wh (k := 0) (by decide) (by decide)
    obtain ⟨b1, b2, b3, b4⟩ := dw_in X D wh (k := 1) (by decide) (by decide)
    have sE : E.stF x.h = 1 := F.ot _ hne (by rw [sO]; exact sBx)
    have QE : DQ E { o with h := x.h } t xs := by
      refine ⟨?_, ?_, ?_, bt, tb, sE, by show (xs.length : Int) ≤ sizeF (opC x.h); omega, fun j hj => ?_⟩
      · show E.rawF (dw o.at_ o.work 0) = t
        rw [rE _ a1 (by omega), if_neg (by unfold dw; omega)]; exact Q.r0
      · show E.rawF (dw o.at_ o.work 1) = o.b
        rw [rE _ b1 (by omega), if_neg (by unfold dw; omega)]; exact Q.r1
      · show E.rawF (dw o.at_ o.work 2) = x.h
        rw [rE _ d1 (by omega), if_pos rfl]
      · show E.loadF x.h ((t + j) % sizeF (opC x.h)) = _
        rw [F.ld _ _ hne (by rw [sO]; exact sBx), lO]; exact W.ld j hj
    have rlE : E.raw.length = A.raw.length := F.rl.trans (O.rl.trans lC)
    obtain ⟨P, PP, pu, rp⟩ := push_two (q := q) (mq := mq) (ob := ob) (v := v) (o := { o with h := x.h }) (al := some x) (cp := some ⟨o.h, x.h, t + xs.length, o.b, vj, false⟩) (now := x.h) F.gi ⟨D.lo, by rw [rlE]; exact D.hi⟩ wh (by omega) (by have := F.ll; show (l' o.work).length < 1000; omega) QE (by show (xs.length : Int) < sizeF (opC x.h); omega)
    have rr := MchR.Runs.more iv st hu1 rfl (i1 rfl |>.run (pc.run (pr.run rp)))
    refine ⟨x.h, _, P, l', S', _, _, ⟨PP.gi, ?_, PP.dq, hcx, hx0, ?_, fun j hj h1 => ?_, fun j i hj h1 => ?_, fun i hi hn h1 h2 => ?_, ?_, ⟨by omega, by omega⟩, PP.rl.trans rlE, F.ll, F.lo, by rw [F.cv, hcx]; exact Z.cv, fun j hj h1 => ?_, ?_⟩, ?_, rr⟩
    · exact ((((later_alike A 1).trans off.al).trans W.al).trans ((storeR_alike _ _ _).trans F.al)).trans PP.al
    · rw [PP.st]; exact F.st
    · have hjx : j ≠ x.h := fun e => by rw [e, hx0] at h1; cases h1
      rw [PP.st]; exact F.ot j hj (by rw [sO, sB j hjx]; exact h1)
    · have hjx : j ≠ x.h := fun e => by rw [e, hx0] at h1; cases h1
      have sOj : (C.storeR (dw o.at_ o.work 2) x.h).stF j = 1 := by rw [sO, sB j hjx]; exact h1
      have sEj := F.ot j hj sOj
      have e1 : P.loadF j i = E.loadF j i := by
        by_cases hij : E.inOk j i
        · exact PP.lo j i hij hjx
        · unfold Ar.loadF
          have hP : ¬ P.inOk j i := fun h => hij ((inOk_st PP.st).1 h)
          rw [if_neg hij, if_neg hP]
      have e2 : C.loadF j i = B.loadF j i := by
        by_cases hij : B.inOk j i
        · exact W.lo j i hij hjx
        · unfold Ar.loadF
          have hC : ¬ C.inOk j i := fun h => hij ((inOk_st W.st).1 h)
          rw [if_neg hij, if_neg hC]
      rw [e1, F.ld j i hj sOj, lO, e2, lB j i hjx]
    · rw [PP.rf i h1, rE i hi hn, if_neg h2]
    · rw [PP.nL, F.nL, nLO]; omega
    · rw [PP.st] at h1
      have := F.nw j h1
      rw [sO, sB j hj] at this; exact this
    · rw [hcx]
      obtain ⟨kk, b', l', h1, h2, _⟩ | ⟨h1, h2, _⟩ | ⟨_, _, _, h4⟩ := Z.z.gives.or
      · exact .inl ⟨kk, by rw [h2]; exact List.cons_ne_nil _ _⟩
      · exact .inr h2
      · exact (hx h4).elim
    · have hlen : xs.length ≤ 64 := by omega
      show n1 + (2 * xs.length + (n3 + 2)) + 1 ≤ 4000
      omega
end
end Go.Proofs.Ytcjhakdopnamoaa

set_option linter.unusedVariables false
set_option linter.unusedSimpArgs false
set_option maxRecDepth 20000
namespace Go.Proofs.Ytcjhakdopnamoaa
open Go Go.Fw

section
variable {A B C : Ar} {g : Gd} {m : Int} {S S' : Sg} {l l' : Int → List (Int × Int)} {k h i v t : Int} {q mq ob : Nat} {n : Nat} {o : DOw} {xs : List Int}

/-- A deque's word is stored. -/
structure Bot (A : Ar) (g : Gd) (m : Int) (S : Sg) (l : Int → List (Int × Int)) (i v : Int) (B : Ar) : Prop where
  gi : GI B g m S l
  al : Ar.Alike A B
  ok : A.rawOk i
  lf : ∀ h j, B.loadF h j = A.loadF h j
  st : ∀ h, B.stF h = A.stF h
  rf : ∀ j, B.rawF j = if j = i then v else A.rawF j
  nL : B.nL = A.nL
  rl : B.raw.length = A.raw.length
  us : B.uses = A.uses + 1
  us' : B.uses ≤ w64 (A.uses + 1)
theorem GI.bot (X : GI A g m S l) (D : DA A g o.at_) (wh : 0 ≤ o.work ∧ o.work < g.w) (hu : A.uses ≤ 900000) (v : Int) {k : Int} (k0 : 0 ≤ k) (k1 : k < 3) : Bot A g m S l (dw o.at_ o.work k) v (A.storeR (dw o.at_ o.work k) v) := by
  have u0 := X.u0
  obtain ⟨d1, d2, d3, d4⟩ := dw_in X D wh k0 k1
  have O := outS X.sl (i := dw o.at_ o.work k) (v := v) ⟨d1, d2⟩ (by omega)
  have ou := O.us
  have okr : A.rawOk (dw o.at_ o.work k) := ⟨d4, d2⟩
  have ew : (A.storeR (dw o.at_ o.work k) v).words = A.words := by unfold Ar.storeR; rw [if_pos okr]; rfl
  exact ⟨X.out O (storeR_wf X.wf _ _) (fun _ => by omega), storeR_alike _ _ _, okr, fun h j => loadF_same ew (O.st h), O.st, O.rf, O.nL, O.rl, ou, by rw [ou, w64_in (by omega) (by omega)]; exact Int.le_refl _⟩

/-- A pop. -/
structure Popped (A : Ar) (g : Gd) (m : Int) (S : Sg) (l : Int → List (Int × Int)) (o : DOw) (xs : List Int) (b' t' : Int) (B : Ar) : Prop where
  gi : GI B g m S l
  al : Ar.Alike A B
  dq : DQ B { o with b := b' } t' xs.dropLast
  st : ∀ h, B.stF h = A.stF h
  lf : ∀ h j, B.loadF h j = A.loadF h j
  rf : ∀ i, i ≠ dw o.at_ o.work 0 → i ≠ dw o.at_ o.work 1 → B.rawF i = A.rawF i
  nL : B.nL = A.nL
  rl : B.raw.length = A.raw.length
  us : B.uses = A.uses + (if xs.length = 1 then 5 else 3)

theorem pop_run (X : GI A g m S l) (D : DA A g o.at_) (wh : 0 ≤ o.work ∧ o.work < g.w) (hu : A.uses ≤ 700000) (ht : t ≤ 900000) (Q : DQ A o t xs) :
    ∃ n B b' t' v ok, Popped A g m S l o xs b' t' B ∧ n ≤ 5 ∧ t' ≤ t + 1 ∧ t ≤ t' ∧ ok = decide (0 < xs.length) ∧ (0 < xs.length → v = xs.getD (xs.length - 1) 0) ∧ (mPp q ob).toR.Runs n ⟨o, 0, 0, 0, false⟩ A ⟨{ o with b := b' }, t, 5, v, ok⟩ B := by
  have u0 := X.u0
  have wb := X.wb
  have sz := sz_op o.h
  have tb := Q.tb
  have bt := Q.bt
  have ln := Q.ln
  have hs0 : A.stF o.h ≠ 0 := by rw [Q.hs]; decide
  have bd : o.bnd := bnd_ok X D wh
  have lb : (xs.length : Int) ≤ 64 := by omega
  have e1 : w64 (o.b - 1) = o.b - 1 := w64_in (by omega) (by omega)
  have e2 : w64 (o.b - 1 + 1) = o.b := by rw [w64_in (by omega) (by omega)]; omega
  have n01 : dw o.at_ o.work 0 ≠ dw o.at_ o.work 1 := by unfold dw; omega
  have n02 : dw o.at_ o.work 2 ≠ dw o.at_ o.work 0 := by unfold dw; omega
  have n12 : dw o.at_ o.work 2 ≠ dw o.at_ o.work 1 := by unfold dw; omega
  have iv : ∀ (b t w v : Int) (ok : Bool) (D : Ar), (mPp q ob).toR.inv ⟨{ o with b := b }, t, w, v, ok⟩ D := fun b t w v ok D => ⟨bd.a, bd.w⟩
  have X1 := X.bot D wh (by omega) (o.b - 1) (k := 1) (by decide) (by decide)
  have us1 := X1.us
  obtain ⟨A1, hA1⟩ : ∃ A1, A1 = A.storeR (dw o.at_ o.work 1) (o.b - 1) := ⟨_, rfl⟩
  rw [← hA1] at X1 us1
  have D1 : DA A1 g o.at_ := ⟨D.lo, by rw [X1.rl]; exact D.hi⟩
  have r10 : A1.rawF (dw o.at_ o.work 0) = t := by rw [X1.rf, if_neg n01]; exact Q.r0
  have t1 := touchR_dw (k := 0) X1.gi D1 wh (by omega) (by decide) (by decide)
  have s0 : (mPp q ob).toR.step ⟨o, 0, 0, 0, false⟩ A = (⟨{ o with b := o.b - 1 }, 0, 1, 0, false⟩, A1) := by
    show ((⟨{ o with b := w64 (o.b - 1) }, 0, 1, 0, false⟩ : Pp), A.storeR (dw o.at_ o.work 1) (w64 (o.b - 1))) = _
    rw [e1, hA1]
  have s1 : (mPp q ob).toR.step ⟨{ o with b := o.b - 1 }, 0, 1, 0, false⟩ A1 = (⟨{ o with b := o.b - 1 }, t, if o.b - 1 < t then 4 else 2, 0, false⟩, A1.later 1) := by
    show ((⟨{ o with b := o.b - 1 }, A1.rawF (dw o.at_ o.work 0), if o.b - 1 < A1.rawF (dw o.at_ o.work 0) then 4 else 2, 0, false⟩ : Pp), A1.touchR (dw o.at_ o.work 0)) = _
    rw [r10, t1]
  have lu : ∀ {C : Ar}, 0 ≤ C.uses → C.uses ≤ 900000 → (C.later 1).uses ≤ w64 (C.uses + 1) := fun {C} h0 h1 => by
    show C.uses + 1 ≤ _; rw [w64_in (by omega) (by omega)]; exact Int.le_refl _
  by_cases he : xs.length = 0
  · -- empty
    have hxs : xs = [] := List.length_eq_zero_iff.1 he
    subst hxs
    have bt : o.b = t + ((0 : Nat) : Int) := bt
    rw [if_pos (by omega)] at s1
    have X2 := X1.gi.later (n := 1) (by decide)
    have X3 := GI.bot (o := o) X2 ⟨D1.lo, D1.hi⟩ wh (by show A1.uses + 1 ≤ _; omega) o.b (k := 1) (by decide) (by decide)
    have us3 : _ = A1.uses + 1 + 1 := X3.us
    refine ⟨3, _, o.b, t, 0, false, ⟨X3.gi, X1.al.trans ((later_alike A1 1).trans X3.al), ⟨?_, ?_, ?_, bt, tb, ?_, ln, fun j hj => (by cases hj)⟩, fun h => (X3.st h).trans ((st_later' A1 1 h).trans (X1.st h)), fun h j => (X3.lf h j).trans ((ld_later' A1 1 h j).trans (X1.lf h j)), fun i h0 h1 => ?_, X3.nL.trans X1.nL, X3.rl.trans X1.rl, ?_⟩, by decide, by omega, by omega, rfl, fun h => (by cases h), ?_⟩
    · rw [X3.rf, if_neg n01]; exact r10
    · rw [X3.rf, if_pos rfl]
    · rw [X3.rf, if_neg n12]; show A1.rawF _ = _; rw [X1.rf, if_neg n12]; exact Q.r2
    · rw [X3.st]; show (A1.later 1).stF o.h = 1; rw [st_later', X1.st]; exact Q.hs
    · rw [X3.rf, if_neg h1]; show A1.rawF _ = _; rw [X1.rf, if_neg h1]
    · show _ = A.uses + (if (0 : Nat) = 1 then 5 else 3); rw [if_neg (by decide)]; omega
    · refine .more (x1 := ⟨{ o with b := o.b - 1 }, 0, 1, 0, false⟩) (D1 := A1) (by exact iv o.b 0 0 0 false A) s0 X1.us' rfl (.more (by exact iv _ _ _ _ _ _) s1 (lu (by omega) (by omega)) rfl (.one (by exact iv _ _ _ _ _ _) ?_ X3.us' rfl))
      show ((⟨{ o with b := w64 (o.b - 1 + 1) }, t, 5, 0, false⟩ : Pp), (A1.later 1).storeR (dw o.at_ o.work 1) (w64 (o.b - 1 + 1))) = _
      rw [e2]
  · rw [if_neg (by omega)] at s1
    have X2 := X1.gi.later (n := 1) (by decide)
    have hw := wordF_live (A := A) hs0 (o.b - 1)
    have m0 := Int.emod_nonneg (o.b - 1) (b := sizeF (opC o.h)) (by omega)
    have m1 := Int.emod_lt_of_pos (o.b - 1) (b := sizeF (opC o.h)) (by omega)
    have hs2 : (A1.later 1).stF o.h ≠ 0 := by rw [st_later', X1.st]; exact hs0
    have hi : (A1.later 1).inOk o.h ((o.b - 1) % sizeF (opC o.h)) := ⟨hs2, m0, m1⟩
    have t2 := touch_later X2 (by show A1.uses + 1 ≤ _; omega) hi
    have hv : (A1.later 1).loadF o.h ((o.b - 1) % sizeF (opC o.h)) = xs.getD (xs.length - 1) 0 := by
      rw [ld_later', X1.lf, ← Q.ld (xs.length - 1) (by omega)]
      rw [show t + ((xs.length - 1 : Nat) : Int) = o.b - 1 by omega]
    have e3 : (A1.later 1).later 1 = A1.later 2 := by unfold Ar.later; rw [show A1.uses + 1 + 1 = A1.uses + 2 by omega]
    have s2 : (mPp q ob).toR.step ⟨{ o with b := o.b - 1 }, t, 2, 0, false⟩ (A1.later 1) = (if t < o.b - 1 then ⟨{ o with b := o.b - 1 }, t, 5, xs.getD (xs.length - 1) 0, true⟩ else ⟨{ o with b := o.b - 1 }, t, 3, xs.getD (xs.length - 1) 0, false⟩, A1.later 2) := by
      show (if t < o.b - 1 then (⟨{ o with b := o.b - 1 }, t, 5, (A1.later 1).loadF o.h (wordF o.h (o.b - 1)), true⟩ : Pp) else ⟨{ o with b := o.b - 1 }, t, 3, (A1.later 1).loadF o.h (wordF o.h (o.b - 1)), false⟩, (A1.later 1).touch o.h (wordF o.h (o.b - 1))) = _
      rw [hw, hv, t2, e3]
    have u2 : (A1.later 2).uses ≤ w64 ((A1.later 1).uses + 1) := by show A1.uses + 2 ≤ w64 (A1.uses + 1 + 1); rw [w64_in (by omega) (by omega)]; omega
    have X3 := X1.gi.later (n := 2) (by decide)
    have dl : xs.dropLast.length = xs.length - 1 := List.length_dropLast
    have dg : ∀ j : Nat, j < xs.length - 1 → xs.dropLast.getD j 0 = xs.getD j 0 := fun j hj => by
      rw [List.getD_eq_getElem?_getD, List.getD_eq_getElem?_getD, List.getElem?_dropLast, if_pos hj]
    by_cases h2 : t < o.b - 1
    · rw [if_pos h2] at s2
      refine ⟨3, A1.later 2, o.b - 1, t, xs.getD (xs.length - 1) 0, true, ⟨X3, X1.al.trans (later_alike A1 2), ⟨r10, ?_, ?_, ?_, tb, ?_, ?_, fun j hj => ?_⟩, fun h => (st_later' A1 2 h).trans (X1.st h), fun h j => (ld_later' A1 2 h j).trans (X1.lf h j), fun i h0 h1 => ?_, X1.nL, X1.rl, ?_⟩, by decide, by omega, by omega, (decide_eq_true (by omega)).symm, fun _ => rfl, ?_⟩
      · show A1.rawF _ = _; rw [X1.rf, if_pos rfl]
      · show A1.rawF _ = _; rw [X1.rf, if_neg n12]; exact Q.r2
      · show o.b - 1 = t + (xs.dropLast.length : Int); rw [dl]; omega
      · rw [st_later', X1.st]; exact Q.hs
      · rw [dl]; show ((xs.length - 1 : Nat) : Int) ≤ sizeF (opC o.h); omega
      · rw [dl] at hj
        rw [dg j hj, ld_later', X1.lf]; exact Q.ld j (by omega)
      · show A1.rawF _ = _; rw [X1.rf, if_neg h1]
      · rw [if_neg (by omega)]; show A1.uses + 2 = _; omega
      · exact .more (x1 := ⟨{ o with b := o.b - 1 }, 0, 1, 0, false⟩) (D1 := A1) (by exact iv o.b 0 0 0 false A) s0 X1.us' rfl (.more (by exact iv _ _ _ _ _ _) s1 (lu (by omega) (by omega)) rfl (.one (by exact iv _ _ _ _ _ _) s2 u2 rfl))
    · rw [if_neg h2] at s2
      have h1l : xs.length = 1 := by omega
      have D3 : DA (A1.later 2) g o.at_ := ⟨D1.lo, D1.hi⟩
      have X4 := GI.bot (o := o) X3 D3 wh (by show A1.uses + 2 ≤ _; omega) (t + 1) (k := 0) (by decide) (by decide)
      have us4 : _ = A1.uses + 2 + 1 := X4.us
      obtain ⟨w1, w2⟩ := swapR_yes (A := A1.later 2) (i := dw o.at_ o.work 0) (v := t) (x := t + 1) X4.ok r10
      obtain ⟨A4, hA4⟩ : ∃ A4, A4 = (A1.later 2).storeR (dw o.at_ o.work 0) (t + 1) := ⟨_, rfl⟩
      rw [← hA4] at X4 us4 w2
      have X5 := GI.bot (o := o) X4.gi ⟨D1.lo, by rw [X4.rl]; exact D1.hi⟩ wh (by omega) o.b (k := 1) (by decide) (by decide)
      have us5 := X5.us
      have s3 : (mPp q ob).toR.step ⟨{ o with b := o.b - 1 }, t, 3, xs.getD (xs.length - 1) 0, false⟩ (A1.later 2) = (⟨{ o with b := o.b - 1 }, t, 4, xs.getD (xs.length - 1) 0, true⟩, A4) := by
        show ((⟨{ o with b := o.b - 1 }, t, 4, xs.getD (xs.length - 1) 0, (A1.later 2).swapRb (dw o.at_ o.work 0) t⟩ : Pp), (A1.later 2).swapR (dw o.at_ o.work 0) t (w64 (t + 1))) = _
        rw [w64_in (by omega) (by omega), w1, w2]
      have dn : xs.dropLast = [] := List.length_eq_zero_iff.1 (by rw [dl]; omega)
      refine ⟨5, _, o.b, t + 1, xs.getD (xs.length - 1) 0, true, ⟨X5.gi, X1.al.trans ((later_alike A1 2).trans (X4.al.trans X5.al)), ⟨?_, ?_, ?_, ?_, ⟨by omega, by omega⟩, ?_, ?_, fun j hj => ?_⟩, fun h => (X5.st h).trans ((X4.st h).trans ((st_later' A1 2 h).trans (X1.st h))), fun h j => (X5.lf h j).trans ((X4.lf h j).trans ((ld_later' A1 2 h j).trans (X1.lf h j))), fun i h0 h1 => ?_, X5.nL.trans (X4.nL.trans X1.nL), X5.rl.trans (X4.rl.trans X1.rl), ?_⟩, by decide, by omega, by omega, (decide_eq_true (by omega)).symm, fun _ => rfl, ?_⟩
      · rw [X5.rf, if_neg n01, X4.rf, if_pos rfl]
      · rw [X5.rf, if_pos rfl]
      · rw [X5.rf, if_neg n12, X4.rf, if_neg n02]; show A1.rawF _ = _; rw [X1.rf, if_neg n12]; exact Q.r2
      · show o.b = t + 1 + (xs.dropLast.length : Int); rw [dl]; omega
      · rw [X5.st, X4.st, st_later', X1.st]; exact Q.hs
      · rw [dl]; show ((xs.length - 1 : Nat) : Int) ≤ sizeF (opC o.h); omega
      · rw [dl] at hj; omega
      · rw [X5.rf, if_neg h1, X4.rf, if_neg h0]; show A1.rawF _ = _; rw [X1.rf, if_neg h1]
      · rw [if_pos h1l]; omega
      · refine .more (x1 := ⟨{ o with b := o.b - 1 }, 0, 1, 0, false⟩) (D1 := A1) (by exact iv o.b 0 0 0 false A) s0 X1.us' rfl (.more (by exact iv _ _ _ _ _ _) s1 (lu (by omega) (by omega)) rfl (.more (by exact iv _ _ _ _ _ _) s2 u2 rfl (.more (by exact iv _ _ _ _ _ _) s3 (by rw [us4]; show A1.uses + 2 + 1 ≤ w64 (A1.uses + 2 + 1); rw [w64_in (by omega) (by omega)]; omega) rfl (.one (by exact iv _ _ _ _ _ _) ?_ X5.us' rfl))))
        show ((⟨{ o with b := w64 (o.b - 1 + 1) }, t, 5, xs.getD (xs.length - 1) 0, true⟩ : Pp), A4.storeR (dw o.at_ o.work 1) (w64 (o.b - 1 + 1))) = _
        rw [e2]
end
end Go.Proofs.Ytcjhakdopnamoaa

set_option linter.unusedVariables false
set_option linter.unusedSimpArgs false
set_option maxRecDepth 20000
namespace Go.Proofs.Ytcjhakdopnamoaa
open Go Go.Fw

/-! ### So many deques -/
def sumF (f : Nat → Int) : Nat → Int
  | 0 => 0
  | n + 1 => sumF f n + f n
theorem sumF_of {f h : Nat → Int} : ∀ {n : Nat}, (∀ i, i < n → f i = h i) → sumF f n = sumF h n
  | 0, _ => rfl
  | n + 1, e => by show sumF f n + f n = sumF h n + h n; rw [sumF_of (n := n) fun i hi => e i (by omega), e n (by omega)]
theorem sumF_upd {α : Type} (h : α → Int) (f : Nat → α) {w : Nat} (a : α) : ∀ {n : Nat}, w < n → sumF (fun j => h (updF f w a j)) n = sumF (fun j => h (f j)) n - h (f w) + h a
  | 0, e => by omega
  | n + 1, e => by
    show sumF _ n + h (updF f w a n) = sumF _ n + h (f n) - _ + _
    by_cases e2 : n = w
    · rw [sumF_of (h := fun j => h (f j)) fun i hi => by rw [updF_ne f a (by omega)], e2, updF_same]; omega
    · rw [sumF_upd h f a (n := n) (by omega), updF_ne f a e2]; omega
theorem sumF_le {f : Nat → Int} (h0 : ∀ i, 0 ≤ f i) {w : Nat} : ∀ {n : Nat}, w < n → f w ≤ sumF f n
  | 0, e => by omega
  | n + 1, e => by
    have nn : ∀ k, 0 ≤ sumF f k := fun k => by
      induction k with
      | zero => exact Int.le_refl 0
      | succ k ih => have := h0 k; show 0 ≤ sumF f k + f k; omega
    have := nn n
    have := h0 n
    show f w ≤ sumF f n + f n
    by_cases e2 : n = w
    · rw [e2] at this ⊢; have := nn w; omega
    · have := sumF_le h0 (n := n) (w := w) (by omega); omega

structure Dq where
  o : DOw
  t : Int
  xs : List Int
  ob : Nat

structure DI (A : Ar) (g : Gd) (m : Int) (S : Sg) (l : Int → List (Int × Int)) (at_ : Int) (n : Nat) (f : Nat → Dq) : Prop where
  gi : GI A g m S l
  da : DA A g at_
  nw : (n : Int) ≤ g.w
  dq : ∀ i, i < n → DQ A (f i).o (f i).t (f i).xs
  oa : ∀ i, i < n → (f i).o.at_ = at_
  ow : ∀ i : Nat, i < n → (f i).o.work = i
  op : ∀ i, i < n → (f i).o.pl = g.pl
  ne : ∀ i j, i < n → j < n → i ≠ j → (f i).o.h ≠ (f j).o.h
  nL : A.nL = sumF (fun i => sizeF (opC (f i).o.h)) n
  ll : ∀ i : Nat, i < n → ((l i).length : Int) ≤ opC (f i).o.h
  tu : ∀ i, i < n → (f i).t ≤ A.uses
  cv : S.cv ≤ sumF (fun i => 2 * sizeF (opC (f i).o.h) - 8) n

section
variable {A B C : Ar} {g : Gd} {m : Int} {S S' : Sg} {l l' : Int → List (Int × Int)} {k h i v t at_ : Int} {q mq ob : Nat} {n : Nat} {o : DOw} {xs : List Int} {f : Nat → Dq}

theorem DQ.move (Q : DQ A o t xs) (h0 : ∀ k : Int, 0 ≤ k → k < 3 → B.rawF (dw o.at_ o.work k) = A.rawF (dw o.at_ o.work k)) (h1 : B.stF o.h = 1) (h2 : ∀ j, B.loadF o.h j = A.loadF o.h j) : DQ B o t xs :=
  ⟨(h0 0 (by decide) (by decide)).trans Q.r0, (h0 1 (by decide) (by decide)).trans Q.r1, (h0 2 (by decide) (by decide)).trans Q.r2, Q.bt, Q.tb, h1, Q.ln, fun j hj => (h2 _).trans (Q.ld j hj)⟩
theorem lo_all (hst : B.stF h = A.stF h) (hl : ∀ i, A.inOk h i → B.loadF h i = A.loadF h i) : ∀ i, B.loadF h i = A.loadF h i := fun i => by
  by_cases hi : A.inOk h i
  · exact hl i hi
  · unfold Ar.loadF
    rw [if_neg hi, if_neg (fun hb : B.inOk h i => hi ⟨by rw [← hst]; exact hb.1, hb.2⟩)]

/-- One of them is put. -/
theorem DI.put (E : DI A g m S l at_ n f) {w : Nat} (hw : w < n) {x : Dq} (G : GI B g m S' l') (rl : B.raw.length = A.raw.length) (D : DQ B x.o x.t x.xs) (oa : x.o.at_ = at_) (ow : x.o.work = w) (op : x.o.pl = g.pl)
    (ne : ∀ j, j < n → j ≠ w → x.o.h ≠ (f j).o.h) (nL : B.nL = A.nL - sizeF (opC (f w).o.h) + sizeF (opC x.o.h)) (ll : ((l' w).length : Int) ≤ opC x.o.h) (lo : ∀ j : Int, j ≠ w → l' j = l j) (tu : x.t ≤ B.uses) (us : A.uses ≤ B.uses)
    (cv : S'.cv ≤ S.cv + 2 * sizeF (opC x.o.h) - 2 * sizeF (opC (f w).o.h))
    (ot : ∀ j, j < n → j ≠ w → B.stF (f j).o.h = 1 ∧ ∀ i, B.loadF (f j).o.h i = A.loadF (f j).o.h i)
    (rf : ∀ i, g.pl.carved < i → i ≠ g.ta → i ≠ dw at_ w 0 → i ≠ dw at_ w 1 → i ≠ dw at_ w 2 → B.rawF i = A.rawF i) : DI B g m S' l' at_ n (updF f w x) := by
  have cases : ∀ {P : Dq → Nat → Prop}, P x w → (∀ j, j < n → j ≠ w → P (f j) j) → ∀ j, j < n → P (updF f w x j) j := fun {P} h1 h2 j hj => by
    by_cases e : j = w
    · rw [e, updF_same]; exact h1
    · rw [updF_ne f x e]; exact h2 j hj e
  refine ⟨G, ⟨E.da.lo, by rw [rl]; exact E.da.hi⟩, E.nw, ?_, ?_, ?_, ?_, fun i j hi hj hij => ?_, ?_, ?_, ?_, ?_⟩
  · refine cases (P := fun x _ => DQ B x.o x.t x.xs) D fun j hj e => ?_
    obtain ⟨o1, o2⟩ := ot j hj e
    refine (E.dq j hj).move (fun k k0 k1 => ?_) o1 o2
    have wj := E.ow j hj
    have aj := E.oa j hj
    have hjw : (0 : Int) ≤ (f j).o.work ∧ (f j).o.work < g.w := by have := E.nw; omega
    obtain ⟨d1, d2, d3, d4⟩ := dw_in (o := (f j).o) E.gi (by rw [aj]; exact E.da) hjw k0 k1
    refine rf _ d1 (by omega) ?_ ?_ ?_
    all_goals (unfold dw; omega)
  · exact cases (P := fun x _ => x.o.at_ = at_) oa fun j hj _ => E.oa j hj
  · exact cases (P := fun x j => x.o.work = j) ow fun j hj _ => E.ow j hj
  · exact cases (P := fun x _ => x.o.pl = g.pl) op fun j hj _ => E.op j hj
  · by_cases ei : i = w
    · have ej : j ≠ w := by omega
      rw [ei, updF_same, updF_ne f x ej]; exact ne j hj ej
    · by_cases ej : j = w
      · rw [ej, updF_same, updF_ne f x ei]; exact fun e => ne i hi ei e.symm
      · rw [updF_ne f x ei, updF_ne f x ej]; exact E.ne i j hi hj hij
  · rw [sumF_upd (fun x : Dq => sizeF (opC x.o.h)) f x hw, nL, E.nL]
  · refine cases (P := fun x j => ((l' (j : Int)).length : Int) ≤ opC x.o.h) ll fun j hj e => ?_
    rw [lo j (by omega)]; exact E.ll j hj
  · refine cases (P := fun x _ => x.t ≤ B.uses) tu fun j hj _ => ?_
    have := E.tu j hj; omega
  · rw [sumF_upd (fun x : Dq => 2 * sizeF (opC x.o.h) - 8) f x hw]
    have := E.cv
    show S'.cv ≤ sumF _ n - (2 * sizeF (opC (f w).o.h) - 8) + (2 * sizeF (opC x.o.h) - 8)
    omega

structure DIat (E : Prop) (A : Ar) (g : Gd) (x : Dq) (w : Nat) (n : Nat) : Prop where
  wh : 0 ≤ x.o.work ∧ x.o.work < g.w
  da : DA A g x.o.at_
  hs : A.stF x.o.h = 1
  lb : (x.xs.length : Int) ≤ 64
  sz : sizeF (opC x.o.h) ≤ A.nL
theorem DI.ati (E : DI A g m S l at_ n f) {w : Nat} (hw : w < n) : DIat True A g (f w) w n := by
  have ow := E.ow w hw
  have nw := E.nw
  refine ⟨⟨by omega, by omega⟩, by rw [E.oa w hw]; exact E.da, (E.dq w hw).hs, ?_, ?_⟩
  · have := (E.dq w hw).ln; have := sz_op (f w).o.h; omega
  · rw [E.nL]
    exact sumF_le (f := fun i => sizeF (opC (f i).o.h)) (fun i => by have := sz_op (f i).o.h; show 0 ≤ sizeF (opC (f i).o.h); omega) hw

structure PushY (A : Ar) (g : Gd) (m : Int) (S : Sg) (l : Int → List (Int × Int)) (at_ : Int) (n : Nat) (f : Nat → Dq) (w : Nat) (v : Int) (q mq ob N : Nat) (B : Ar) (S' : Sg) (l' : Int → List (Int × Int)) (o' : DOw) (al : Option Al) (cp : Option Cm) (now : Int) : Prop where
  di : DI B g m S' l' at_ n (updF f w ⟨o', (f w).t, (f w).xs ++ [v], (f w).ob⟩)
  run : (mPs q mq ob).Runs N ⟨g, l, (f w).o, v, 0, 0, none, none, none, 0, false⟩ A ⟨g, l', o', v, (f w).t, 7, al, cp, none, now, true⟩ B
  hn : N ≤ 4000
  al : Ar.Alike A B
  us : A.uses ≤ B.uses ∧ B.uses ≤ A.uses + 1500
  or : (((f w).xs.length : Int) < sizeF (opC (f w).o.h) ∧ o' = { (f w).o with b := (f w).o.b + 1 } ∧ S' = S ∧ l' = l ∧ B.uses = A.uses + 3 ∧ ∀ h, B.stF h = A.stF h) ∨
    (((f w).xs.length : Int) = sizeF (opC (f w).o.h) ∧ opC (f w).o.h < 3 ∧ opC o'.h = opC (f w).o.h + 1 ∧ B.stF (f w).o.h ≠ 1 ∧ (∀ j, j ≠ o'.h → B.stF j = 1 → A.stF j = 1) ∧ ((∃ k, S.ch k ≠ []) ∨ S.cv + sizeF (opC (f w).o.h + 1) ≤ m))
structure PushN (A : Ar) (g : Gd) (m : Int) (S : Sg) (l : Int → List (Int × Int)) (at_ : Int) (n : Nat) (f : Nat → Dq) (w : Nat) (v : Int) (q mq ob N : Nat) (B : Ar) (al : Option Al) : Prop where
  di : DI B g m S l at_ n f
  run : (mPs q mq ob).Runs N ⟨g, l, (f w).o, v, 0, 0, none, none, none, 0, false⟩ A ⟨g, l, (f w).o, v, (f w).t, 7, al, none, none, 0, false⟩ B
  hn : N ≤ 4000
  al : Ar.Alike A B
  us : A.uses ≤ B.uses ∧ B.uses ≤ A.uses + 1500
  full : ((f w).xs.length : Int) = sizeF (opC (f w).o.h)
  why : opC (f w).o.h = 3 ∨ (opC (f w).o.h < 3 ∧ m < S.cv + sizeF (opC (f w).o.h + 1))
  st : ∀ h, B.stF h = A.stF h

theorem updF_id {α : Type} (f : Nat → α) (w : Nat) : updF f w (f w) = f := by
  funext j; unfold updF; split
  · rename_i e; rw [e]
  · rfl

theorem DI.push (E : DI A g m S l at_ n f) {w : Nat} (hw : w < n) (hu : A.uses ≤ 600000) (th : 1 ≤ g.th) (v : Int) (q mq ob : Nat) :
    (∃ N B S' l' o' al cp now, PushY A g m S l at_ n f w v q mq ob N B S' l' o' al cp now) ∨ ∃ N B al, PushN A g m S l at_ n f w v q mq ob N B al := by
  obtain ⟨wh, da, hs, lb, sz⟩ := E.ati hw
  have X := E.gi
  have u0 := X.u0
  have Q := E.dq w hw
  have ow := E.ow w hw
  have oa := E.oa w hw
  have op := E.op w hw
  have so := sz_op (f w).o.h
  have oc := opC_nat (f w).o.h
  have tu := E.tu w hw
  have ln := Q.ln
  have ll0 : ((l (f w).o.work).length : Int) ≤ opC (f w).o.h := by rw [ow]; exact E.ll w hw
  by_cases hr : ((f w).xs.length : Int) < sizeF (opC (f w).o.h)
  · obtain ⟨B, P, bu, r⟩ := push_room (q := q) (mq := mq) (ob := ob) (v := v) X da wh (by omega) (by omega) Q hr
    refine .inl ⟨3, B, S, l, { (f w).o with b := (f w).o.b + 1 }, none, none, 0, ?_, r, by decide, P.al, ⟨by omega, by omega⟩, .inl ⟨hr, rfl, rfl, rfl, bu, P.st⟩⟩
    refine E.put hw (x := ⟨{ (f w).o with b := (f w).o.b + 1 }, (f w).t, (f w).xs ++ [v], (f w).ob⟩) P.gi P.rl P.dq oa ow op (fun j hj e => E.ne w j hw hj (fun h => e h.symm)) (by rw [P.nL]; show _ = A.nL - sizeF (opC (f w).o.h) + sizeF (opC (f w).o.h); omega) (by rw [← ow]; exact ll0) (fun _ _ => rfl) (by show (f w).t ≤ _; omega) (by omega) (by show S.cv ≤ S.cv + 2 * sizeF (opC (f w).o.h) - 2 * sizeF (opC (f w).o.h); omega) (fun j hj e => ?_) (fun i hi hn h0 h1 h2 => P.rf i (by rw [oa, ow]; exact h1))
    have hne := E.ne j w hj hw e
    exact ⟨by rw [P.st]; exact (E.dq j hj).hs, lo_all (P.st _) fun i hi => P.lo _ i hi hne⟩
  · have hr' : sizeF (opC (f w).o.h) ≤ ((f w).xs.length : Int) := by omega
    by_cases hc : opC (f w).o.h < 3
    · rcases push_grow (q := q) (mq := mq) (ob := ob) (v := v) X da wh op (by omega) (by omega) th sz Q hr' hc with ⟨h2, N, B, l', S', al, cp, GR, hN, r⟩ | ⟨hm, N, B, al, GB, ab, wd, st, rf, nL, rl, u1, u2, hN, r⟩
      · have us := GR.us
        have c2 := GR.c2
        have s2 : sizeF (opC (f w).o.h) * 2 = sizeF (opC h2) := by
          rw [c2]
          have h3 : opC (f w).o.h = 0 ∨ opC (f w).o.h = 1 ∨ opC (f w).o.h = 2 := by omega
          rcases h3 with h | h | h <;> rw [h] <;> rfl
        have gc := GR.cv
        refine .inl ⟨N, B, S', l', { (f w).o with b := (f w).o.b + 1, h := h2 }, al, cp, h2, ?_, r, hN, GR.al, us, .inr ⟨by omega, hc, c2, GR.st, GR.nw, by rw [← c2]; exact GR.gv⟩⟩
        refine E.put hw (x := ⟨{ (f w).o with b := (f w).o.b + 1, h := h2 }, (f w).t, (f w).xs ++ [v], (f w).ob⟩) GR.gi GR.rl GR.dq oa ow op (fun j hj e => ?_) GR.nL ?_ (fun j hj => GR.lk j (by rw [ow]; exact hj)) (by show (f w).t ≤ _; omega) (by omega) ?_ (fun j hj e => ?_) (fun i hi hn h0 h1 h2 => GR.rf i hi hn (by rw [oa, ow]; exact h1) (by rw [oa, ow]; exact h2))
        · show h2 ≠ _
          intro e2
          have a := (E.dq j hj).hs
          have b := GR.n2
          rw [e2, a] at b; cases b
        · have := GR.ll
          rw [ow] at this
          show ((l' (w : Int)).length : Int) ≤ opC h2
          rw [ow] at ll0; omega
        · show S'.cv ≤ S.cv + 2 * sizeF (opC h2) - 2 * sizeF (opC (f w).o.h); omega
        · have hne := E.ne j w hj hw e
          have a := (E.dq j hj).hs
          exact ⟨GR.ot _ hne a, fun i => GR.lo _ i hne a⟩
      · refine .inr ⟨N, B, al, ?_, r, hN, ab, ⟨u1, by omega⟩, by omega, .inr ⟨hc, hm⟩, st⟩
        have lf : ∀ h i, B.loadF h i = A.loadF h i := fun h i => loadF_same wd (st h)
        have := E.put hw (x := f w) (S' := S) (l' := l) GB rl (Q.move (fun k k0 k1 => rf _ (dw_in (o := (f w).o) X da wh k0 k1).1) (by rw [st]; exact hs) (lf _)) oa ow op (fun j hj e => E.ne w j hw hj (fun h => e h.symm)) (by rw [nL]; omega) (E.ll w hw) (fun _ _ => rfl) (by omega) u1 (by omega) (fun j hj e => ⟨by rw [st]; exact (E.dq j hj).hs, lf _⟩) (fun i hi _ _ _ _ => rf i hi)
        rw [updF_id] at this; exact this
    · have r := push_full (q := q) (mq := mq) (ob := ob) (v := v) X da wh (by omega) (by omega) Q hr' (by omega)
      refine .inr ⟨1, A.later 1, none, ?_, r, by decide, later_alike A 1, ⟨by show A.uses ≤ A.uses + 1; omega, by show A.uses + 1 ≤ _; omega⟩, by omega, .inl (by omega), fun h => st_later' A 1 h⟩
      have := E.put hw (x := f w) (S' := S) (l' := l) (X.later (n := 1) (by decide)) rfl (Q.later 1) oa ow op (fun j hj e => E.ne w j hw hj (fun h => e h.symm)) (by show A.nL = _; omega) (E.ll w hw) (fun _ _ => rfl) (by show _ ≤ A.uses + 1; omega) (by show A.uses ≤ A.uses + 1; omega) (by omega) (fun j hj e => ⟨by rw [st_later']; exact (E.dq j hj).hs, fun i => ld_later' A 1 _ i⟩) (fun i _ _ _ _ _ => rfl)
      rw [updF_id] at this; exact this

structure PopD (A : Ar) (g : Gd) (m : Int) (S : Sg) (l : Int → List (Int × Int)) (at_ : Int) (n : Nat) (f : Nat → Dq) (w : Nat) (q ob N : Nat) (B : Ar) (x : Dq) (v : Int) (ok : Bool) : Prop where
  di : DI B g m S l at_ n (updF f w x)
  run : (mPp q ob).toR.Runs N ⟨(f w).o, 0, 0, 0, false⟩ A ⟨x.o, (f w).t, 5, v, ok⟩ B
  hn : N ≤ 4000
  al : Ar.Alike A B
  us : B.uses = A.uses + (if (f w).xs.length = 1 then 5 else 3)
  xs : x.xs = (f w).xs.dropLast
  ob : x.ob = (f w).ob
  oh : x.o.h = (f w).o.h
  hk : ok = decide (0 < (f w).xs.length)
  hv : 0 < (f w).xs.length → v = (f w).xs.getD ((f w).xs.length - 1) 0
  st : ∀ h, B.stF h = A.stF h

theorem DI.pop (E : DI A g m S l at_ n f) {w : Nat} (hw : w < n) (hu : A.uses ≤ 600000) (q ob : Nat) : ∃ N B x v ok, PopD A g m S l at_ n f w q ob N B x v ok := by
  obtain ⟨wh, da, hs, lb, sz⟩ := E.ati hw
  have X := E.gi
  have Q := E.dq w hw
  have ow := E.ow w hw
  have oa := E.oa w hw
  have op := E.op w hw
  have tu := E.tu w hw
  obtain ⟨N, B, b', t', v, ok, P, hN, h1, h2, h3, h4, r⟩ := pop_run (q := q) (ob := ob) X da wh (by omega) (by omega) Q
  have us := P.us
  have ub : A.uses + 3 ≤ B.uses := by rw [us]; split <;> omega
  refine ⟨N, B, ⟨{ (f w).o with b := b' }, t', (f w).xs.dropLast, (f w).ob⟩, v, ok, ?_, r, by omega, P.al, us, rfl, rfl, rfl, h3, h4, P.st⟩
  refine E.put hw (x := ⟨{ (f w).o with b := b' }, t', (f w).xs.dropLast, (f w).ob⟩) (S' := S) (l' := l) P.gi P.rl P.dq oa ow op (fun j hj e => E.ne w j hw hj (fun h => e h.symm)) (by rw [P.nL]; show _ = A.nL - sizeF (opC (f w).o.h) + sizeF (opC (f w).o.h); omega) (E.ll w hw) (fun _ _ => rfl) (by show t' ≤ _; omega) (by omega) (by show S.cv ≤ S.cv + 2 * sizeF (opC (f w).o.h) - 2 * sizeF (opC (f w).o.h); omega) (fun j hj e => ⟨by rw [P.st]; exact (E.dq j hj).hs, P.lf _⟩) (fun i hi hn h0 h1 h2 => P.rf i (by rw [oa, ow]; exact h0) (by rw [oa, ow]; exact h1))

theorem DI.later (E : DI A g m S l at_ n f) {k : Int} (hk : 0 ≤ k) : DI (A.later k) g m S l at_ n f :=
  ⟨E.gi.later hk, ⟨E.da.lo, E.da.hi⟩, E.nw, fun i hi => (E.dq i hi).later k, E.oa, E.ow, E.op, E.ne, E.nL, E.ll, fun i hi => by have := E.tu i hi; show _ ≤ A.uses + k; omega, E.cv⟩

/-- A deque more, at the beginning. -/
structure DM (A : Ar) (g : Gd) (m : Int) (S : Sg) (at_ : Int) (n : Nat) (f : Nat → Dq) : Prop where
  di : DI A g m S (fun _ => []) at_ n f
  ch : ∀ k, S.ch k = []
  cv : S.cv = 8 * n
  rz : ∀ i, at_ + 3 * n ≤ i → A.rawF i = 0
  em : ∀ i, i < n → (f i).xs = [] ∧ (f i).t = 0 ∧ (f i).o.b = 0 ∧ opC (f i).o.h = 0
  us : A.uses ≤ 200 * n
structure Born (A : Ar) (g : Gd) (m : Int) (S : Sg) (at_ : Int) (n : Nat) (f : Nat → Dq) (N : Nat) (x : Al) (B : Ar) (S' : Sg) : Prop where
  run : mAl.Runs N (newAl g.pl n 0) A x B
  hn : N ≤ 4000
  al : Ar.Alike A B
  wf : B.wf
  al2 : Ar.Alike A (B.storeR (dw at_ n 2) x.h)
  hx : x.h ≠ 0
  dm : ∀ ob, DM (B.storeR (dw at_ n 2) x.h) g m S' at_ (n + 1) (updF f n ⟨⟨at_, n, 0, x.h, g.pl⟩, 0, [], ob⟩)
theorem DM.born (M : DM A g m S at_ n f) (hn : (n : Int) < g.w) (hm : 8 * (n : Int) + 8 ≤ m) : ∃ N x B S', Born A g m S at_ n f N x B S' := by
  have E := M.di
  have X := E.gi
  have wb := X.wb
  have u0 := X.u0
  have us0 := M.us
  have cv := M.cv
  obtain ⟨N, x, B, S', Z⟩ := X.slot (by omega) (who := n) (c := 0) ⟨by omega, hn⟩ (by decide)
  have hx := Z.nz (by rw [cv]; show 8 * (n : Int) + 8 ≤ m; exact hm)
  have nn := Z.z.nn
  obtain ⟨hc, _, hx0⟩ := Z.z.hd hx
  have off := Z.z.off
  have ou := off.us
  have eS : S'.cv = 8 * (n : Int) + 8 ∧ ∀ k, S'.ch k = [] := by
    obtain ⟨kk, b', l', h1, h2, _⟩ | ⟨h1, h2, h3, h4⟩ | ⟨h1, h2, h3, h4⟩ := Z.z.gives.or
    · rw [M.ch] at h2; cases h2
    · rw [h3]; refine ⟨?_, M.ch⟩; show S.cv + sizeF 0 = _; rw [cv]; rfl
    · exact (hx h4).elim
  have DB : DA B g at_ := ⟨E.da.lo, by rw [off.rl]; exact E.da.hi⟩
  have wh : 0 ≤ (⟨at_, n, 0, x.h, g.pl⟩ : DOw).work ∧ (⟨at_, n, 0, x.h, g.pl⟩ : DOw).work < g.w := ⟨by show 0 ≤ (n : Int); omega, hn⟩
  have T := Z.gi.bot (o := ⟨at_, n, 0, x.h, g.pl⟩) DB wh (by omega) x.h (k := 2) (by decide) (by decide)
  have tu := T.us
  obtain ⟨C, hC⟩ : ∃ C, C = B.storeR (dw at_ n 2) x.h := ⟨_, rfl⟩
  have T : Bot B g m S' (fun _ => []) (dw at_ n 2) x.h C := by rw [hC]; exact T
  have tu : C.uses = B.uses + 1 := by rw [hC]; exact tu
  refine ⟨N, x, B, S', Z.z.run, by omega, off.al, off.wf, off.al.trans (storeR_alike _ _ _), hx, fun ob => ?_⟩
  rw [← hC]
  have ta0 := X.ta
  have lo0 := E.da.lo
  have hi0 := E.da.hi
  have gw : 1 ≤ gwords g.ep g.w := by unfold gwords; cases g.ep <;> simp <;> omega
  have rC : ∀ i, g.pl.carved < i → i ≠ dw at_ n 2 → C.rawF i = A.rawF i := fun i hi h => by rw [T.rf, if_neg h, off.rw i hi]
  have sC : ∀ j, C.stF j = if j = x.h then 1 else A.stF j := fun j => by
    rw [T.st, Z.z.st]
    by_cases e : j = x.h
    · rw [if_pos ⟨hx, e⟩, if_pos e]
    · rw [if_neg (fun h => e h.2), if_neg e]
  have nx : ∀ j, j < n → (f j).o.h ≠ x.h := fun j hj e => by have := (E.dq j hj).hs; rw [e, hx0] at this; cases this
  have cases : ∀ {P : Dq → Nat → Prop}, P ⟨⟨at_, n, 0, x.h, g.pl⟩, 0, [], ob⟩ n → (∀ j, j < n → P (f j) j) → ∀ j, j < n + 1 → P (updF f n ⟨⟨at_, n, 0, x.h, g.pl⟩, 0, [], ob⟩ j) j := fun {P} h1 h2 j hj => by
    by_cases e : j = n
    · rw [e, updF_same]; exact h1
    · rw [updF_ne f _ e]; exact h2 j (by omega)
  have sums : ∀ F : Dq → Int, sumF (fun j => F (updF f n ⟨⟨at_, n, 0, x.h, g.pl⟩, 0, [], ob⟩ j)) (n + 1) = sumF (fun j => F (f j)) n + F ⟨⟨at_, n, 0, x.h, g.pl⟩, 0, [], ob⟩ := fun F => by
    show sumF _ n + F (updF f n _ n) = _
    rw [updF_same, sumF_of (h := fun j => F (f j)) fun i hi => by rw [updF_ne f _ (by omega)]]
  refine ⟨⟨T.gi, ⟨lo0, by rw [T.rl, off.rl]; exact hi0⟩, by omega, ?_, ?_, ?_, ?_, fun i j hi hj hij => ?_, ?_, ?_, ?_, ?_⟩, eS.2, by rw [eS.1]; omega, fun i hi => ?_, ?_, ?_⟩
  · refine cases (P := fun x _ => DQ C x.o x.t x.xs) ?_ fun j hj => ?_
    · have s8 : sizeF (opC x.h) = 8 := by rw [hc]; rfl
      refine ⟨?_, ?_, ?_, rfl, (show (0 : Int) ≤ 0 ∧ (0 : Int) ≤ 1000000 by decide), ?_, by show ((0 : Nat) : Int) ≤ sizeF (opC x.h); omega, fun j hj => (by cases hj)⟩
      · show C.rawF (dw at_ n 0) = 0
        rw [rC _ (by unfold dw; omega) (by unfold dw; omega)]; exact M.rz _ (by unfold dw; omega)
      · show C.rawF (dw at_ n 1) = 0
        rw [rC _ (by unfold dw; omega) (by unfold dw; omega)]; exact M.rz _ (by unfold dw; omega)
      · show C.rawF (dw at_ n 2) = x.h
        rw [T.rf, if_pos rfl]
      · show C.stF x.h = 1
        rw [sC, if_pos rfl]
    · have wj := E.ow j hj
      have aj := E.oa j hj
      refine (E.dq j hj).move (fun k k0 k1 => ?_) ?_ (fun i => ?_)
      · rw [aj, wj]
        exact rC _ (by unfold dw; omega) (by unfold dw; omega)
      · rw [sC, if_neg (nx j hj)]; exact (E.dq j hj).hs
      · rw [T.lf]
        refine loadF_same off.wd ?_
        rw [Z.z.st, if_neg (fun h => nx j hj h.2)]
  · exact cases (P := fun x _ => x.o.at_ = at_) rfl E.oa
  · exact cases (P := fun x j => x.o.work = j) rfl E.ow
  · exact cases (P := fun x _ => x.o.pl = g.pl) rfl E.op
  · by_cases ei : i = n
    · have ej : j ≠ n := by omega
      rw [ei, updF_same, updF_ne f _ ej]; exact fun e => nx j (by omega) e.symm
    · by_cases ej : j = n
      · rw [ej, updF_same, updF_ne f _ ei]; exact nx i (by omega)
      · rw [updF_ne f _ ei, updF_ne f _ ej]; exact E.ne i j (by omega) (by omega) hij
  · rw [sums fun x => sizeF (opC x.o.h), T.nL, Z.z.nL, if_pos hx, E.nL]
    show _ = _ + sizeF (opC x.h); rw [hc]
  · exact cases (P := fun x j => (((fun _ => []) : Int → List (Int × Int)) (j : Int)).length ≤ opC x.o.h) (by show ((0 : Nat) : Int) ≤ opC x.h; rw [hc]; decide) fun j hj => E.ll j hj
  · refine cases (P := fun x _ => x.t ≤ C.uses) (by show (0 : Int) ≤ C.uses; omega) fun j hj => ?_
    have := E.tu j hj; omega
  · rw [sums fun x => 2 * sizeF (opC x.o.h) - 8]
    have := E.cv
    have s8 : sizeF (opC x.h) = 8 := by rw [hc]; rfl
    show S'.cv ≤ _ + (2 * sizeF (opC x.h) - 8)
    rw [eS.1, s8]; omega
  · rw [rC _ (by omega) (by unfold dw; omega)]; exact M.rz i (by omega)
  · exact cases (P := fun x _ => x.xs = [] ∧ x.t = 0 ∧ x.o.b = 0 ∧ opC x.o.h = 0) ⟨rfl, rfl, rfl, hc⟩ M.em
  · omega
end
end Go.Proofs.Ytcjhakdopnamoaa

set_option linter.unusedVariables false
set_option maxRecDepth 10000
namespace Go.Proofs.Ytcjhakdopnamoaa
open Go Go.Fw
/- magpie/magpielaw16.run -/
@[reducible] def t_magpielaw16_run_L1_sh : List Sh1 := [(.leaf .bool), (.leaf (.int .i64))]
noncomputable def t_magpielaw16_run_L1 (p0 : Option Addr) (p1 : Value) (y1 : HL Sh1.T t_magpielaw16_run_L1_sh) : Tree :=
  bif (decide ((y1.2.1 : Int) < 4000)) then (
    .call f_arena_Arena_Uses [(.pointer p0)] (.one (.leaf (.int .i64))) fun x13 =>
    .act (opS Try.prog (.call { callee := .invoke (.tmp 0) "Step", args := #[(.tmp 1)], argTypes := #[ty_p_arena_Arena] }) ty_bool [p1, (.pointer p0)]) (.one (.leaf .bool)) fun x16 =>
    .call f_arena_Arena_Uses [(.pointer p0)] (.one (.leaf (.int .i64))) fun x18 =>
    bif (decide ((x18 : Int) > (w64 (x13 + 1)))) then (
      .ret (.bool false))
    else (
      bif x16 then (
        .ret (.bool true))
      else (
        .again 128 [(.bool y1.1), (.int .i64 (w64 (y1.2.1 + 1)))])))
  else (
    .ret (.bool false))
noncomputable def t_magpielaw16_run (p0 : Option Addr) (p1 : Value) : Tree :=
  .loop 128 t_magpielaw16_run_L1_sh [(.bool false), (.int .i64 0)] (t_magpielaw16_run_L1 p0 p1)
theorem t_magpielaw16_run_eq (p0 : Option Addr) (p1 : Value) : funcTree Try.prog { quiet := [16, 34, 36, 40, 41, 66, 67, 75, 76, 77, 97, 98, 103, 108, 110, 139, 146, 149, 161], quietTmp := true, fncs := [], ifcs := [] } Try.f69 [(.pointer p0), p1] = t_magpielaw16_run p0 p1 := by kernel_rfl
theorem t_magpielaw16_run_spec {p0 : Option Addr} {p1 : Value} {H : Heap} {R : Value → Heap → Prop} (h : ∀ L, wp Try.prog (t_magpielaw16_run p0 p1) L H R) : SpecF Try.prog f_magpielaw16_run #[(.pointer p0), p1] H R :=
  spec_of_tree (cfg := { quiet := [16, 34, 36, 40, 41, 66, 67, 75, 76, 77, 97, 98, 103, 108, 110, 139, 146, 149, 161], quietTmp := true, fncs := [], ifcs := [] }) Try.func69 fun L => (t_magpielaw16_run_eq p0 p1).symm ▸ h L

/- magpie/magpielaw16.Make -/
@[reducible] def t_magpielaw16_Make_L1_sh : List Sh1 := [(.leaf .ptr), (.leaf (.int .i64))]
noncomputable def t_magpielaw16_Make_L1 (p0 : Int) (x7 : Addr) (x36 : Addr) (y1 : HL Sh1.T t_magpielaw16_Make_L1_sh) : Tree :=
  bif (decide ((y1.2.1 : Int) < p0)) then (
    .ldA x7 [(.int .i64), (.int .i64), (.int .i64), (.int .i64), (.int .i64)] fun x68 =>
    .call f_slab_NewAlloc [(.agg #[(.int .i64 x68.1), (.int .i64 x68.2.1), (.int .i64 x68.2.2.1), (.int .i64 x68.2.2.2.1), (.int .i64 x68.2.2.2.2.1)]), (.int .i64 y1.2.1), (.int .i64 0)] (.one (.leaf .ptr)) fun x70 =>
    .look (opS Try.prog (.binOp .eql ty_p_slab_Alloc (.tmp 0) (.const (.pointer none)) ty_p_slab_Alloc) ty_bool [(.pointer x70)]) (.one (.leaf .bool)) fun x72 =>
    bif x72 then (
      .ret (.pointer none))
    else (
      .look (opS Try.prog (.nilCheck (.tmp 0)) ty_unit [(.pointer (some x36))]) (.one (.leaf .addr)) fun x75 =>
      .ld x75 .ptr fun x77 =>
      .call f_magpielaw16_run [(.pointer x77), (.iface ty_p_slab_Alloc (.pointer x70))] (.one (.leaf .bool)) fun x80 =>
      bif (!x80) then (
        .ret (.pointer none))
      else (
        .call f_slab_Alloc_Handle [(.pointer x70)] (.tup [(.leaf (.int .i64)), (.leaf .bool)]) fun x85 =>
        bif (!x85.2.1) then (
          .ret (.pointer none))
        else (
          .look (opS Try.prog (.nilCheck (.tmp 0)) ty_unit [(.pointer (some x36))]) (.one (.leaf .addr)) fun x91 =>
          .ld x91 .ptr fun x93 =>
          .look (opS Try.prog (.nilCheck (.tmp 0)) ty_unit [(.pointer (some x36))]) (.one (.leaf .addr)) fun x95 =>
          .ld (x95.add 7) (.int .i64) fun x97 =>
          .ldA x7 [(.int .i64), (.int .i64), (.int .i64), (.int .i64), (.int .i64)] fun x100 =>
          .look (opS Try.prog (.nilCheck (.tmp 0)) ty_unit [(.pointer (some x36))]) (.one (.leaf .addr)) fun x102 =>
          .ld (x102.add 1) .ptr fun x104 =>
          .call f_deque_New [(.pointer x93), (.int .i64 x97), (.int .i64 y1.2.1), (.int .i64 x85.1), (.agg #[(.int .i64 x100.1), (.int .i64 x100.2.1), (.int .i64 x100.2.2.1), (.int .i64 x100.2.2.2.1), (.int .i64 x100.2.2.2.2.1)]), (.pointer x104)] (.one (.leaf .ptr)) fun x105 =>
          .look (opS Try.prog (.binOp .eql ty_p_deque_Own (.tmp 0) (.const (.pointer none)) ty_p_deque_Own) ty_bool [(.pointer x105)]) (.one (.leaf .bool)) fun x107 =>
          bif x107 then (
            .ret (.pointer none))
          else (
            .look (opS Try.prog (.nilCheck (.tmp 0)) ty_unit [(.pointer (some x36))]) (.one (.leaf .addr)) fun x110 =>
            .ld (x110.add 8) .slice fun x112 =>
            .newS (.cells #[(.pointer x105)] ty_p_deque_Own) 1 fun x114 =>
            .act (opS Try.prog (.call { callee := .builtin .append, args := #[(.tmp 0), (.tmp 1)], argTypes := #[ty_s_p_deque_Own, ty_s_p_deque_Own] }) ty_s_p_deque_Own [(.slice x112.a x112.len x112.cap), (.slice x114.a x114.len x114.cap)]) (.one (.leaf .slice)) fun x115 =>
            .look (opS Try.prog (.nilCheck (.tmp 0)) ty_unit [(.pointer (some x36))]) (.one (.leaf .addr)) fun x116 =>
            .st (x116.add 8) (.slice x115.a x115.len x115.cap) <|
            .again 512 [(.pointer y1.1), (.int .i64 (w64 (y1.2.1 + 1)))])))))
  else (
    .ret (.pointer (some x36)))
noncomputable def t_magpielaw16_Make (p0 : Int) (p1 : Int) (p2 : Bool) : Tree :=
  .call f_free_Raw [(.int .i64 p0), (.int .i64 p1)] (.tup [(.agg [(.int .i64), (.int .i64), (.int .i64), (.int .i64), (.int .i64)]), (.leaf (.int .i64))]) fun x19 =>
  .newP (.cells #[(.int .i64 0), (.int .i64 0), (.int .i64 0), (.int .i64 0), (.int .i64 0)] ty_free_Place) fun x7 =>
  .stA x7 [(.int .i64 x19.1.1), (.int .i64 x19.1.2.1), (.int .i64 x19.1.2.2.1), (.int .i64 x19.1.2.2.2.1), (.int .i64 x19.1.2.2.2.2.1)] <|
  .call f_guard_Raw [(.int .i64 p0), (.int .i64 x19.2.1), (.bool p2)] (.one (.leaf (.int .i64))) fun x25 =>
  .ldA x7 [(.int .i64), (.int .i64), (.int .i64), (.int .i64), (.int .i64)] fun x26 =>
  .ldA x7 [(.int .i64), (.int .i64), (.int .i64), (.int .i64), (.int .i64)] fun x33 =>
  .call f_guard_New [(.int .i64 p0), (.int .i64 x19.2.1), (.bool p2), (.int .i64 2), (.agg #[(.int .i64 x33.1), (.int .i64 x33.2.1), (.int .i64 x33.2.2.1), (.int .i64 x33.2.2.2.1), (.int .i64 x33.2.2.2.2.1)])] (.one (.leaf .ptr)) fun x34 =>
  .check (ldAS x7 5 0 #[]) (.agg #[(.int .i64 x26.1), (.int .i64 x26.2.1), (.int .i64 x26.2.2.1), (.int .i64 x26.2.2.2.1), (.int .i64 x26.2.2.2.2.1)]) <|
  .newP (.cells #[(.pointer none), (.pointer x34), (.int .i64 x26.1), (.int .i64 x26.2.1), (.int .i64 x26.2.2.1), (.int .i64 x26.2.2.2.1), (.int .i64 x26.2.2.2.2.1), (.int .i64 (w64 (x19.2.1 + x25))), (.slice none 0 0)] ty_magpielaw16_W) fun x36 =>
  .qcall f_deque_Raw [(.int .i64 p0), (.int .i64 (w64 (x19.2.1 + x25)))] (.one (.leaf (.int .i64))) fun x45 =>
  .call f_arena_New [(.int .i64 (w64 ((w64 (x19.2.1 + x25)) + x45))), (.int .i64 p1), (.bool false)] (.one (.leaf .ptr)) fun x48 =>
  .look (opS Try.prog (.nilCheck (.tmp 0)) ty_unit [(.pointer (some x36))]) (.one (.leaf .addr)) fun x49 =>
  .st x49 (.pointer x48) <|
  .look (opS Try.prog (.nilCheck (.tmp 0)) ty_unit [(.pointer (some x36))]) (.one (.leaf .addr)) fun x52 =>
  .ld x52 .ptr fun x54 =>
  .look (opS Try.prog (.binOp .eql ty_p_arena_Arena (.tmp 0) (.const (.pointer none)) ty_p_arena_Arena) ty_bool [(.pointer x54)]) (.one (.leaf .bool)) fun x55 =>
  bif x55 then (
    .ret (.pointer none))
  else (
    .look (opS Try.prog (.nilCheck (.tmp 0)) ty_unit [(.pointer (some x36))]) (.one (.leaf .addr)) fun x58 =>
    .ld (x58.add 1) .ptr fun x60 =>
    .look (opS Try.prog (.binOp .eql ty_p_guard_Guard (.tmp 0) (.const (.pointer none)) ty_p_guard_Guard) ty_bool [(.pointer x60)]) (.one (.leaf .bool)) fun x61 =>
    bif x61 then (
      .ret (.pointer none))
    else (
      .loop 512 t_magpielaw16_Make_L1_sh [(.pointer none), (.int .i64 0)] (t_magpielaw16_Make_L1 p0 x7 x36)))
theorem t_magpielaw16_Make_eq (p0 : Int) (p1 : Int) (p2 : Bool) : funcTree Try.prog { quiet := [16, 34, 36, 40, 41, 66, 67, 75, 76, 77, 97, 98, 103, 108, 110, 139, 146, 149, 161], quietTmp := true, fncs := [], ifcs := [] } Try.f32 [(.int .i64 p0), (.int .i64 p1), (.bool p2)] = t_magpielaw16_Make p0 p1 p2 := by kernel_rfl
theorem t_magpielaw16_Make_spec {p0 : Int} {p1 : Int} {p2 : Bool} {H : Heap} {R : Value → Heap → Prop} (h : ∀ L, wp Try.prog (t_magpielaw16_Make p0 p1 p2) L H R) : SpecF Try.prog f_magpielaw16_Make #[(.int .i64 p0), (.int .i64 p1), (.bool p2)] H R :=
  spec_of_tree (cfg := { quiet := [16, 34, 36, 40, 41, 66, 67, 75, 76, 77, 97, 98, 103, 108, 110, 139, 146, 149, 161], quietTmp := true, fncs := [], ifcs := [] }) Try.func32 fun L => (t_magpielaw16_Make_eq p0 p1 p2).symm ▸ h L

/- magpie/magpielaw16.awake -/
noncomputable def t_magpielaw16_awake : Tree :=
  .call f_magpielaw16_Make [(.int .i64 1), (.int .i64 64), (.bool false)] (.one (.leaf .ptr)) fun x10 =>
  .look (opS Try.prog (.binOp .eql ty_p_magpielaw16_W (.tmp 0) (.const (.pointer none)) ty_p_magpielaw16_W) ty_bool [(.pointer x10)]) (.one (.leaf .bool)) fun x12 =>
  bif x12 then (
    .ret (.bool false))
  else (
    .call f_magpielaw16_W_push [(.pointer x10), (.int .i64 0), (.int .i64 77)] (.tup [(.leaf .bool), (.leaf .bool)]) fun x15 =>
    .call f_magpielaw16_W_pop [(.pointer x10), (.int .i64 0)] (.tup [(.leaf (.int .i64)), (.leaf .bool), (.leaf .bool)]) fun x20 =>
    .call f_magpielaw16_W_pop [(.pointer x10), (.int .i64 0)] (.tup [(.leaf (.int .i64)), (.leaf .bool), (.leaf .bool)]) fun x26 =>
    bif x15.1 then (
      bif x15.2.1 then (
        bif ((x20.1 : Int) == 77) then (
          bif x20.2.1 then (
            bif x20.2.2.1 then (
              bif (!x26.2.1) then (
                bif x26.2.2.1 then (
                  .look (opS Try.prog (.nilCheck (.tmp 0)) ty_unit [(.pointer x10)]) (.one (.leaf .addr)) fun x53 =>
                  .ld (x53.add 8) .slice fun x55 =>
                  .look (opS Try.prog (.indexAddr ty_s_p_deque_Own (.tmp 0) (.const (.int .i64 0))) ty_unit [(.slice x55.a x55.len x55.cap)]) (.one (.leaf .addr)) fun x56 =>
                  .ld x56 .ptr fun x57 =>
                  .look (opS Try.prog (.nilCheck (.tmp 0)) ty_unit [(.pointer x10)]) (.one (.leaf .addr)) fun x59 =>
                  .ld x59 .ptr fun x61 =>
                  .call f_deque_Own_Size [(.pointer x57), (.pointer x61)] (.one (.leaf (.int .i64))) fun x62 =>
                  .ret (.bool ((x62 : Int) == 0)))
                else (
                  .ret (.bool false)))
              else (
                .ret (.bool false)))
            else (
              .ret (.bool false)))
          else (
            .ret (.bool false)))
        else (
          .ret (.bool false)))
      else (
        .ret (.bool false)))
    else (
      .ret (.bool false)))
theorem t_magpielaw16_awake_eq : funcTree Try.prog { quiet := [16, 34, 36, 40, 41, 66, 67, 75, 76, 77, 97, 98, 103, 108, 110, 139, 146, 149, 161], quietTmp := true, fncs := [], ifcs := [] } Try.f37 [] = t_magpielaw16_awake  := by kernel_rfl
theorem t_magpielaw16_awake_spec {H : Heap} {R : Value → Heap → Prop} (h : ∀ L, wp Try.prog (t_magpielaw16_awake ) L H R) : SpecF Try.prog f_magpielaw16_awake #[] H R :=
  spec_of_tree (cfg := { quiet := [16, 34, 36, 40, 41, 66, 67, 75, 76, 77, 97, 98, 103, 108, 110, 139, 146, 149, 161], quietTmp := true, fncs := [], ifcs := [] }) Try.func37 fun L => (t_magpielaw16_awake_eq ).symm ▸ h L

/- (*magpie/magpielaw16.W).push -/
noncomputable def t_magpielaw16_W_push (p0 : Option Addr) (p1 : Int) (p2 : Int) : Tree :=
  .look (opS Try.prog (.nilCheck (.tmp 0)) ty_unit [(.pointer p0)]) (.one (.leaf .addr)) fun x10 =>
  .ld (x10.add 8) .slice fun x12 =>
  .look (opS Try.prog (.indexAddr ty_s_p_deque_Own (.tmp 0) (.tmp 1)) ty_unit [(.slice x12.a x12.len x12.cap), (.int .i64 p1)]) (.one (.leaf .addr)) fun x14 =>
  .ld x14 .ptr fun x15 =>
  .call f_deque_Own_Push [(.pointer x15), (.int .i64 p2)] (.one (.leaf .ptr)) fun x17 =>
  .look (opS Try.prog (.binOp .eql ty_p_deque_Push (.tmp 0) (.const (.pointer none)) ty_p_deque_Push) ty_bool [(.pointer x17)]) (.one (.leaf .bool)) fun x19 =>
  bif x19 then (
    .ret (.tuple #[(.bool false), (.bool false)]))
  else (
    .look (opS Try.prog (.nilCheck (.tmp 0)) ty_unit [(.pointer p0)]) (.one (.leaf .addr)) fun x22 =>
    .ld x22 .ptr fun x24 =>
    .call f_magpielaw16_run [(.pointer x24), (.iface ty_p_deque_Push (.pointer x17))] (.one (.leaf .bool)) fun x27 =>
    bif (!x27) then (
      .ret (.tuple #[(.bool false), (.bool false)]))
    else (
      .call f_deque_Push_Went [(.pointer x17)] (.one (.leaf .bool)) fun x31 =>
      .ret (.tuple #[(.bool x31), (.bool true)])))
theorem t_magpielaw16_W_push_eq (p0 : Option Addr) (p1 : Int) (p2 : Int) : funcTree Try.prog { quiet := [16, 34, 36, 40, 41, 66, 67, 75, 76, 77, 97, 98, 103, 108, 110, 139, 146, 149, 161], quietTmp := true, fncs := [], ifcs := [] } Try.f35 [(.pointer p0), (.int .i64 p1), (.int .i64 p2)] = t_magpielaw16_W_push p0 p1 p2 := by kernel_rfl
theorem t_magpielaw16_W_push_spec {p0 : Option Addr} {p1 : Int} {p2 : Int} {H : Heap} {R : Value → Heap → Prop} (h : ∀ L, wp Try.prog (t_magpielaw16_W_push p0 p1 p2) L H R) : SpecF Try.prog f_magpielaw16_W_push #[(.pointer p0), (.int .i64 p1), (.int .i64 p2)] H R :=
  spec_of_tree (cfg := { quiet := [16, 34, 36, 40, 41, 66, 67, 75, 76, 77, 97, 98, 103, 108, 110, 139, 146, 149, 161], quietTmp := true, fncs := [], ifcs := [] }) Try.func35 fun L => (t_magpielaw16_W_push_eq p0 p1 p2).symm ▸ h L

/- (*magpie/magpielaw16.W).pop -/
noncomputable def t_magpielaw16_W_pop (p0 : Option Addr) (p1 : Int) : Tree :=
  .look (opS Try.prog (.nilCheck (.tmp 0)) ty_unit [(.pointer p0)]) (.one (.leaf .addr)) fun x11 =>
  .ld (x11.add 8) .slice fun x13 =>
  .look (opS Try.prog (.indexAddr ty_s_p_deque_Own (.tmp 0) (.tmp 1)) ty_unit [(.slice x13.a x13.len x13.cap), (.int .i64 p1)]) (.one (.leaf .addr)) fun x15 =>
  .ld x15 .ptr fun x16 =>
  .call f_deque_Own_Pop [(.pointer x16)] (.one (.leaf .ptr)) fun x17 =>
  .look (opS Try.prog (.binOp .eql ty_p_deque_Pop (.tmp 0) (.const (.pointer none)) ty_p_deque_Pop) ty_bool [(.pointer x17)]) (.one (.leaf .bool)) fun x19 =>
  bif x19 then (
    .ret (.tuple #[(.int .i64 0), (.bool false), (.bool false)]))
  else (
    .look (opS Try.prog (.nilCheck (.tmp 0)) ty_unit [(.pointer p0)]) (.one (.leaf .addr)) fun x22 =>
    .ld x22 .ptr fun x24 =>
    .call f_magpielaw16_run [(.pointer x24), (.iface ty_p_deque_Pop (.pointer x17))] (.one (.leaf .bool)) fun x27 =>
    bif (!x27) then (
      .ret (.tuple #[(.int .i64 0), (.bool false), (.bool false)]))
    else (
      .call f_deque_Pop_Value [(.pointer x17)] (.tup [(.leaf (.int .i64)), (.leaf .bool)]) fun x32 =>
      .ret (.tuple #[(.int .i64 x32.1), (.bool x32.2.1), (.bool true)])))
theorem t_magpielaw16_W_pop_eq (p0 : Option Addr) (p1 : Int) : funcTree Try.prog { quiet := [16, 34, 36, 40, 41, 66, 67, 75, 76, 77, 97, 98, 103, 108, 110, 139, 146, 149, 161], quietTmp := true, fncs := [], ifcs := [] } Try.f38 [(.pointer p0), (.int .i64 p1)] = t_magpielaw16_W_pop p0 p1 := by kernel_rfl
theorem t_magpielaw16_W_pop_spec {p0 : Option Addr} {p1 : Int} {H : Heap} {R : Value → Heap → Prop} (h : ∀ L, wp Try.prog (t_magpielaw16_W_pop p0 p1) L H R) : SpecF Try.prog f_magpielaw16_W_pop #[(.pointer p0), (.int .i64 p1)] H R :=
  spec_of_tree (cfg := { quiet := [16, 34, 36, 40, 41, 66, 67, 75, 76, 77, 97, 98, 103, 108, 110, 139, 146, 149, 161], quietTmp := true, fncs := [], ifcs := [] }) Try.func38 fun L => (t_magpielaw16_W_pop_eq p0 p1).symm ▸ h L

end Go.Proofs.Ytcjhakdopnamoaa

set_option linter.unusedVariables false
set_option maxRecDepth 20000
namespace Go.Proofs.Ytcjhakdopnamoaa
open Go Go.Fw

theorem runR16_go {M J : Type} {X : MchR M J} (hX : X.ok) {t : TypeId} (hinv : X.inv' t) {I : List Nat} {G : Heap} {n : Nat} {m m' : M} {A A' : Ar} (h : X.Runs n m A m' A') {L : Hands} :
    ∀ {i : Int} {b : Bool} {j : J} {R : Value → Heap → Prop}, (∀ j', Ok I G (keys (X.bl m' j')) → X.rep m' j' → Aw I A' → X.addr j' = X.addr j → R (.bool true) (own A' (X.bl m' j') G)) → Aw I A → Ok I G (keys (X.bl m j)) → X.rep m j → 0 ≤ i → i + n ≤ 4000 →
      wp Try.prog (.loop 128 t_magpielaw16_run_L1_sh [(.bool b), (.int .i64 i)] (t_magpielaw16_run_L1 (aI I) (.iface t (.pointer (some ⟨X.addr j, 0, none⟩))))) L (own A (X.bl m j) G) R := by
  induction h with
  | @one m A m1 A1 hi hst hu hf =>
    intro i b j R hR hA ok rp h0 h1
    refine wp_loop_unroll (b, i, ()) rfl ?_
    rw [t_magpielaw16_run_L1]
    refine wp_true (ilt (by show i < 4000; omega)) ?_
    refine w_Uses hA ?_
    refine act_enter (hinv _ _) ?_
    refine wp_call_of (hX I A G m j hA ok rp hi) ?_
    rintro v K ⟨j', rfl, rfl, ha, ok', rp', hA'⟩
    rw [hst] at ok' rp' hA' ⊢
    refine ⟨true, by rw [hf], ?_⟩
    refine w_Uses hA' ?_
    refine wp_false (inlt hu) ?_
    exact wp_true rfl (wp_ret_of (hR j' ok' rp' hA' ha))
  | @more n m A m1 A1 m' A' hi hst hu hf hr ih =>
    intro i b j R hR hA ok rp h0 h1
    refine wp_loop_unroll (b, i, ()) rfl ?_
    rw [t_magpielaw16_run_L1]
    refine wp_true (ilt (by show i < 4000; omega)) ?_
    refine w_Uses hA ?_
    refine act_enter (hinv _ _) ?_
    refine wp_call_of (hX I A G m j hA ok rp hi) ?_
    rintro v K ⟨j', rfl, rfl, ha, ok', rp', hA'⟩
    rw [hst] at ok' rp' hA' ⊢
    refine ⟨false, by rw [hf], ?_⟩
    refine w_Uses hA' ?_
    refine wp_false (inlt hu) (wp_false rfl (wp_again ?_))
    have e : w64 (i + 1) = i + 1 := w64_in (by omega) (by omega)
    rw [e, ← ha]
    exact ih (fun j2 k1 k2 k3 k4 => hR j2 k1 k2 k3 (k4.trans ha)) hA' ok' rp' (by omega) (by omega)

theorem w_runR16 {M J : Type} {X : MchR M J} (hX : X.ok) {t : TypeId} (hinv : X.inv' t) {I : List Nat} {G : Heap} {n : Nat} {m m' : M} {A A' : Ar} (h : X.Runs n m A m' A') (hn : n ≤ 4000) {j : J} {rest : Bl} (hA : Aw I A) (ok : Ok I G (keys (X.bl m j ++ rest))) (rp : X.rep m j)
    {L : Hands} {R : Value → Heap → Prop} {k : Bool → Tree} (hk : ∀ j', X.addr j' = X.addr j → Aw I A' → Ok I G (keys (X.bl m' j' ++ rest)) → X.rep m' j' → wp Try.prog (k true) L (own A' (X.bl m' j' ++ rest) G) R) :
    wp Try.prog (.call f_magpielaw16_run [.pointer (aI I), .iface t (.pointer (some ⟨X.addr j, 0, none⟩))] (.one (.leaf .bool)) k) L (own A (X.bl m j ++ rest) G) R := by
  rw [keys_append] at ok
  obtain ⟨o1, o2⟩ := ok.split
  refine w_sub (R0 := fun v K => ∃ j', v = .bool true ∧ K = own A' (X.bl m' j') (putL rest G) ∧ Ok I (putL rest G) (keys (X.bl m' j')) ∧ X.rep m' j' ∧ Aw I A' ∧ X.addr j' = X.addr j) ?_ ?_
  · refine t_magpielaw16_run_spec fun L => ?_
    unfold t_magpielaw16_run
    exact runR16_go hX hinv h (fun j' a b c d => ⟨j', rfl, rfl, a, b, c, d⟩) hA o1 rp (Int.le_refl 0) (by omega)
  · rintro v K ⟨j', rfl, rfl, ok', rp', hA', ha⟩
    refine ⟨true, rfl, ?_⟩
    rw [← own_append]
    exact hk j' ha hA' (by rw [keys_append]; exact ok'.join o2) rp'
end Go.Proofs.Ytcjhakdopnamoaa

set_option linter.unusedVariables false
set_option linter.unusedSimpArgs false
set_option maxRecDepth 20000
namespace Go.Proofs.Ytcjhakdopnamoaa
open Go Go.Fw

theorem npW16 (a : Addr) : opS Try.prog (.binOp .eql ty_p_magpielaw16_W (.tmp 0) (.const (.pointer none)) ty_p_magpielaw16_W) ty_bool [(.pointer (some a))] = .pure (.value (.bool false)) := by kernel_rfl
theorem npPs (a : Addr) : opS Try.prog (.binOp .eql ty_p_deque_Push (.tmp 0) (.const (.pointer none)) ty_p_deque_Push) ty_bool [(.pointer (some a))] = .pure (.value (.bool false)) := by kernel_rfl
theorem npPp (a : Addr) : opS Try.prog (.binOp .eql ty_p_deque_Pop (.tmp 0) (.const (.pointer none)) ty_p_deque_Pop) ty_bool [(.pointer (some a))] = .pure (.value (.bool false)) := by kernel_rfl
theorem npOw (a : Addr) : opS Try.prog (.binOp .eql ty_p_deque_Own (.tmp 0) (.const (.pointer none)) ty_p_deque_Own) ty_bool [(.pointer (some a))] = .pure (.value (.bool false)) := by kernel_rfl
theorem elP : ElOk ty_s_p_deque_Own ty_p_deque_Own 1 := ⟨⟨_, _, rfl, rfl, rfl, by decide, by decide, rfl, rfl⟩⟩

/-! ### Deques over one arena -/
def wC (I : List Nat) (q : Nat) (p : Pl) (at_ : Int) (s : Sl) : List Value := [.pointer (aI I), .pointer (some ⟨q, 0, none⟩), .int .i64 p.work, .int .i64 p.heads, .int .i64 p.links, .int .i64 p.gens, .int .i64 p.carved, .int .i64 at_, slV s]
def Dq.bl (q : Nat) (x : Dq) : Bl := [(x.ob, oc ty_deque_Own (owC x.o q))]
def obs (f : Nat → Dq) (n : Nat) : List Nat := arrC n fun i => (f i).ob
def WL (x q mq : Nat) (I : List Nat) (g : Gd) (at_ : Int) (s : Sl) (e : List LE) (f : Nat → Dq) (n : Nat) (sb rest : Bl) : Bl :=
  (x, oc ty_magpielaw16_W (wC I q g.pl at_ s)) :: (g.bl q mq e ++ (famB (fun i => (f i).bl q) n ++ (sb ++ rest)))

section
variable {L : Hands} {R : Value → Heap → Prop} {G : Heap} {l rest sb : Bl} {A B : Ar} {I : List Nat}
variable {g : Gd} {m : Int} {S S' : Sg} {ls l' : Int → List (Int × Int)} {v t at_ : Int} {q mq x n N w : Nat} {s : Sl} {e : List LE} {f : Nat → Dq}

/-- An element of a slice of pointers. -/
theorem w_rdOw {xs : List Nat} {i : Nat} {ob : Nat} {u : TypeId} {k : Option Addr → Tree} (hA : Aw I A) (ok : Ok I G (keys l)) (hs : SlOf l ty_p_deque_Own eP s xs) (hi : xs[i]? = some ob) (h : wp Try.prog (k (some ⟨ob, 0, none⟩)) L (own A l G) R) :
    wp Try.prog (.look (opS Try.prog (.indexAddr ty_s_p_deque_Own (.tmp 0) (.tmp 1)) u [.slice s.a s.len s.cap, .int .i64 (i : Int)]) (.one (.leaf .addr)) fun y => .ld y .ptr k) L (own A l G) R := by
  have hl : i < xs.length := (List.getElem?_eq_some_iff.1 hi).1
  rcases hs with ⟨_, rfl⟩ | ⟨b, rest, r, rfl, h2, h3⟩
  · cases hi
  · refine w_ixS (e := ty_p_deque_Own) rfl rfl rfl (by omega) (by show (i : Int) < (xs.length : Int); omega) ?_
    refine w_ldm (x := some ⟨ob, 0, none⟩) hA ok rfl h3 ?_ h
    rw [Nat.zero_add, eP_all, List.getElem?_append_left (by simpa using hl), Int.toNat_natCast, List.getElem?_map, hi]; rfl
theorem w_app1P {xs : List Nat} {z : Nat} {k : Sl → Tree} {pre tl : Bl} (hA : Aw I A) (ok : Ok I G (keys (pre ++ tl))) (hs : SlOf tl ty_p_deque_Own eP s xs) (hm : xs.length ≤ 1000000)
    (h : ∀ s' tl', SlOf tl' ty_p_deque_Own eP s' (xs ++ [z]) → Ok I G (keys (pre ++ tl')) → wp Try.prog (k s') L (own A (pre ++ tl') G) R) :
    wp Try.prog (.newS (.cells #[.pointer (some ⟨z, 0, none⟩)] ty_p_deque_Own) 1 fun x => .act (opS Try.prog (.call { callee := .builtin .append, args := #[(.tmp 0), (.tmp 1)], argTypes := #[ty_s_p_deque_Own, ty_s_p_deque_Own] }) ty_s_p_deque_Own [(.slice s.a s.len s.cap), (.slice x.a x.len x.cap)]) (.one (.leaf .slice)) k) L (own A (pre ++ tl) G) R := by
  refine w_newS (c := [.pointer (some ⟨z, 0, none⟩)]) hA ok fun q ok1 => ?_
  have ok' : Ok I G (keys (((q, oc ty_p_deque_Own [.pointer (some ⟨z, 0, none⟩)]) :: pre) ++ tl)) := ok1
  show wp Try.prog _ L (own A (((q, oc ty_p_deque_Own [.pointer (some ⟨z, 0, none⟩)]) :: pre) ++ tl) G) R
  refine w_appT (E := eP) elP (ys := [z]) (t := ⟨some ⟨q, 0, none⟩, 1, 1⟩) hA ok' hs ?_ rfl (by simp; omega) fun s' tl' hs' ok2 ap => ?_
  · exact cell_row hA ok' List.mem_cons_self 0 rfl
  · obtain ⟨m3, m4⟩ := own_mid (A := A) ok2
    show wp Try.prog _ L (own A ((q, oc ty_p_deque_Own [.pointer (some ⟨z, 0, none⟩)]) :: (pre ++ tl')) G) R
    rw [m3]
    exact h s' _ (hs'.mono fun p hp => List.mem_cons_of_mem _ hp) m4

theorem obs_upd {y : Dq} (hy : y.ob = (f w).ob) : obs (updF f w y) n = obs f n := by
  unfold obs
  congr 1
  funext j
  unfold updF
  split
  · rename_i e; rw [e, hy]
  · rfl
theorem obs_get (h : w < n) : (obs f n)[w]? = some (f w).ob := arrC_get h
theorem WL_mem {p : Nat × Obj} (h : p ∈ sb) : p ∈ WL x q mq I g at_ s e f n sb rest := List.mem_cons_of_mem _ (List.mem_append_right _ (List.mem_append_right _ (List.mem_append_left _ h)))
theorem WL_own (h : w < n) : ((f w).ob, oc ty_deque_Own (owC (f w).o q)) ∈ WL x q mq I g at_ s e f n sb rest := List.mem_cons_of_mem _ (List.mem_append_right _ (List.mem_append_left _ (famB_mem.2 ⟨w, h, List.mem_cons_self⟩)))

structure WP (x q mq : Nat) (I : List Nat) (g : Gd) (at_ : Int) (s : Sl) (f : Nat → Dq) (n : Nat) (sb : Bl) (l' : Int → List (Int × Int)) (B : Ar) (G : Heap) (e' : List LE) (rest' : Bl) : Prop where
  ok : Ok I G (keys (WL x q mq I g at_ s e' f n sb rest'))
  gs : GdS e' l'
  aw : Aw I B

theorem w_push16 {o' : DOw} {y : Dq} {al : Option Al} {cp : Option Cm} {now : Int} {went : Bool} {K : HL Sh1.T [(.leaf .bool), (.leaf .bool)] → Tree} (hA : Aw I A) (ok : Ok I G (keys (WL x q mq I g at_ s e f n sb rest))) (gs : GdS e ls) (hs : SlOf sb ty_p_deque_Own eP s (obs f n)) (hw : w < n)
    (yo : y.o = o') (yb : y.ob = (f w).ob)
    (r : (mPs q mq (f w).ob).Runs N ⟨g, ls, (f w).o, v, 0, 0, none, none, none, 0, false⟩ A ⟨g, l', o', v, t, 7, al, cp, none, now, went⟩ B) (hN : N ≤ 4000)
    (hk : ∀ e' rest', WP x q mq I g at_ s (updF f w y) n sb l' B G e' rest' → wp Try.prog (K (went, true, ())) L (own B (WL x q mq I g at_ s e' (updF f w y) n sb rest') G) R) :
    wp Try.prog (.call f_magpielaw16_W_push [.pointer (some ⟨x, 0, none⟩), .int .i64 (w : Int), .int .i64 v] (.tup [(.leaf .bool), (.leaf .bool)]) K) L (own A (WL x q mq I g at_ s e f n sb rest) G) R := by
  refine wp_call_of (R0 := fun u H => ∃ e' rest', u = .tuple #[.bool went, .bool true] ∧ H = own B (WL x q mq I g at_ s e' (updF f w y) n sb rest') G ∧ WP x q mq I g at_ s (updF f w y) n sb l' B G e' rest') ?_ ?_
  rotate_left
  · rintro u H ⟨e', rest', rfl, rfl, h⟩
    exact ⟨(went, true, ()), rfl, hk e' rest' h⟩
  refine t_magpielaw16_W_push_spec fun L => ?_
  unfold t_magpielaw16_W_push
  refine wp_nil.2 (w_ld 0 (x := s) hA ok rfl rfl rfl ?_)
  refine w_rdOw hA ok (hs.mono fun p hp => WL_mem hp) (obs_get hw) ?_
  refine w_NewPushD hA ok fun z ok1 => ?_
  refine look_val (x := false) (npPs _) (wp_false rfl ?_)
  refine wp_nil.2 (w_ld 1 (x := aI I) hA ok1 rfl rfl rfl ?_)
  obtain ⟨c1, hc1⟩ : ∃ c1 : Nat × Obj, c1 = (x, oc ty_magpielaw16_W (wC I q g.pl at_ s)) := ⟨_, rfl⟩
  have ok1 : Ok I G (keys ((z, oc ty_deque_Push (psC (f w).ob v 0 0 none none .nilIface 0 false)) :: c1 :: (g.bl q mq e ++ (famB (fun i => (f i).bl q) n ++ (sb ++ rest))))) := by rw [hc1]; exact ok1
  have eW : WL x q mq I g at_ s e f n sb rest = c1 :: (g.bl q mq e ++ (famB (fun i => (f i).bl q) n ++ (sb ++ rest))) := by rw [hc1]; rfl
  rw [eW]
  obtain ⟨p1, ok2⟩ := own_perm (A := A) (l' := Ps.bl q mq ⟨g, ls, (f w).o, v, 0, 0, none, none, none, 0, false⟩ ⟨z, (f w).ob, e, lj0, (0, 0, 0), (0, 0, 0), .nilIface, []⟩ ++ (c1 :: (famR (fun i => (f i).bl q) w n ++ (sb ++ rest)))) ok1 (perm_by fun c d c0 cd ca => by
    show _ = c (((z, oc ty_deque_Push (psC (f w).ob v 0 0 none none .nilIface 0 false)) :: ((f w).ob, oc ty_deque_Own (owC (f w).o q)) :: (g.bl q mq e ++ ([] ++ ([] ++ [])))) ++ (c1 :: (famR (fun i => (f i).bl q) w n ++ (sb ++ rest))))
    have hb : c ((f w).bl q) = d ((f w).ob, oc ty_deque_Own (owC (f w).o q)) := by show c (_ :: []) = _; rw [cd, c0]; rfl
    simp only [List.cons_append, List.append_assoc, List.nil_append, cd, ca, c0, famB_c c0 ca (fun i => (f i).bl q) hw, hb]; omega)
  rw [p1]
  refine w_runR16 (mPs_ok q mq (f w).ob) (mPs_inv q mq (f w).ob) r hN (j := ⟨z, (f w).ob, e, lj0, (0, 0, 0), (0, 0, 0), .nilIface, []⟩) hA ok2 ⟨gs, rfl⟩ fun j' ha hB ok3 rp => ?_
  refine wp_false rfl ?_
  obtain ⟨z', ob', e', lj', aj', cj', ov', gar'⟩ := j'
  have ha : z' = z := ha
  subst ha
  obtain ⟨gs', hob⟩ := rp
  have hob : ob' = (f w).ob := hob
  subst hob
  have ok3 : Ok I G (keys (((z', oc ty_deque_Push (psC (f w).ob v t 7 (alX al aj') (cpX cp cj') ov' now went)) :: ((f w).ob, oc ty_deque_Own (owC o' q)) :: (g.bl q mq e' ++ (alBl al aj' ++ (cpBl cp cj' ++ gar')))) ++ (c1 :: (famR (fun i => (f i).bl q) w n ++ (sb ++ rest))))) := ok3
  show wp Try.prog _ L (own B (((z', oc ty_deque_Push (psC (f w).ob v t 7 (alX al aj') (cpX cp cj') ov' now went)) :: ((f w).ob, oc ty_deque_Own (owC o' q)) :: (g.bl q mq e' ++ (alBl al aj' ++ (cpBl cp cj' ++ gar')))) ++ (c1 :: (famR (fun i => (f i).bl q) w n ++ (sb ++ rest)))) G) _
  refine w_Went 0 hB ok3 rfl rfl ?_
  obtain ⟨p2, ok4⟩ := own_perm (A := B) (l' := WL x q mq I g at_ s e' (updF f w y) n sb ((z', oc ty_deque_Push (psC (f w).ob v t 7 (alX al aj') (cpX cp cj') ov' now went)) :: (alBl al aj' ++ (cpBl cp cj' ++ (gar' ++ rest))))) ok3 (perm_by fun c d c0 cd ca => by
    show _ = c ((x, oc ty_magpielaw16_W (wC I q g.pl at_ s)) :: (g.bl q mq e' ++ (famB (fun i => (updF f w y i).bl q) n ++ (sb ++ _))))
    have hb : c (y.bl q) = d ((f w).ob, oc ty_deque_Own (owC o' q)) := by rw [← yb, ← yo]; show c (_ :: []) = _; rw [cd, c0]; rfl
    simp only [List.cons_append, List.append_assoc, List.nil_append, cd, ca, c0, famB_upd_c c0 ca (Dq.bl q) f y hw, hb, ← hc1]
    have : c (famR (fun j => Dq.bl q (f j)) w n) = c (famR (fun i => (f i).bl q) w n) := rfl
    omega)
  rw [p2]
  exact wp_ret_of ⟨e', _, rfl, rfl, ok4, gs', hB⟩

theorem mPpR_inv (q ob : Nat) : (mPp q ob).toR.inv' ty_p_deque_Pop := mPp_inv q ob

theorem w_pop16 {y : Dq} {o' : DOw} {vv : Int} {okk : Bool} {K : HL Sh1.T [(.leaf (.int .i64)), (.leaf .bool), (.leaf .bool)] → Tree} (hA : Aw I A) (ok : Ok I G (keys (WL x q mq I g at_ s e f n sb rest))) (hs : SlOf sb ty_p_deque_Own eP s (obs f n)) (hw : w < n)
    (yo : y.o = o') (yb : y.ob = (f w).ob)
    (r : (mPp q (f w).ob).toR.Runs N ⟨(f w).o, 0, 0, 0, false⟩ A ⟨o', t, 5, vv, okk⟩ B) (hN : N ≤ 4000)
    (hk : ∀ rest', Ok I G (keys (WL x q mq I g at_ s e (updF f w y) n sb rest')) → Aw I B → wp Try.prog (K ((if okk = true then vv else 0), okk, true, ())) L (own B (WL x q mq I g at_ s e (updF f w y) n sb rest') G) R) :
    wp Try.prog (.call f_magpielaw16_W_pop [.pointer (some ⟨x, 0, none⟩), .int .i64 (w : Int)] (.tup [(.leaf (.int .i64)), (.leaf .bool), (.leaf .bool)]) K) L (own A (WL x q mq I g at_ s e f n sb rest) G) R := by
  refine wp_call_of (R0 := fun u H => ∃ rest', u = .tuple #[.int .i64 (if okk = true then vv else 0), .bool okk, .bool true] ∧ H = own B (WL x q mq I g at_ s e (updF f w y) n sb rest') G ∧ Ok I G (keys (WL x q mq I g at_ s e (updF f w y) n sb rest')) ∧ Aw I B) ?_ ?_
  rotate_left
  · rintro u H ⟨rest', rfl, rfl, o, a⟩
    exact ⟨((if okk = true then vv else 0), okk, true, ()), rfl, hk rest' o a⟩
  refine t_magpielaw16_W_pop_spec fun L => ?_
  unfold t_magpielaw16_W_pop
  refine wp_nil.2 (w_ld 0 (x := s) hA ok rfl rfl rfl ?_)
  refine w_rdOw hA ok (hs.mono fun p hp => WL_mem hp) (obs_get hw) ?_
  refine w_NewPopD hA ok fun z ok1 => ?_
  refine look_val (x := false) (npPp _) (wp_false rfl ?_)
  refine wp_nil.2 (w_ld 1 (x := aI I) hA ok1 rfl rfl rfl ?_)
  obtain ⟨c1, hc1⟩ : ∃ c1 : Nat × Obj, c1 = (x, oc ty_magpielaw16_W (wC I q g.pl at_ s)) := ⟨_, rfl⟩
  have ok1 : Ok I G (keys ((z, oc ty_deque_Pop (ppC (f w).ob ⟨(f w).o, 0, 0, 0, false⟩)) :: c1 :: (g.bl q mq e ++ (famB (fun i => (f i).bl q) n ++ (sb ++ rest))))) := by rw [hc1]; exact ok1
  have eW : WL x q mq I g at_ s e f n sb rest = c1 :: (g.bl q mq e ++ (famB (fun i => (f i).bl q) n ++ (sb ++ rest))) := by rw [hc1]; rfl
  rw [eW]
  obtain ⟨p1, ok2⟩ := own_perm (A := A) (l' := Pp.bl q (f w).ob ⟨(f w).o, 0, 0, 0, false⟩ z ++ (c1 :: (g.bl q mq e ++ (famR (fun i => (f i).bl q) w n ++ (sb ++ rest))))) ok1 (perm_by fun c d c0 cd ca => by
    show _ = c ([(z, oc ty_deque_Pop (ppC (f w).ob ⟨(f w).o, 0, 0, 0, false⟩)), ((f w).ob, oc ty_deque_Own (owC (f w).o q))] ++ (c1 :: (g.bl q mq e ++ (famR (fun i => (f i).bl q) w n ++ (sb ++ rest)))))
    have hb : c ((f w).bl q) = d ((f w).ob, oc ty_deque_Own (owC (f w).o q)) := by show c (_ :: []) = _; rw [cd, c0]; rfl
    simp only [List.cons_append, List.append_assoc, List.nil_append, cd, ca, c0, famB_c c0 ca (fun i => (f i).bl q) hw, hb]; omega)
  show wp Try.prog _ L (own A ((z, oc ty_deque_Pop (ppC (f w).ob ⟨(f w).o, 0, 0, 0, false⟩)) :: c1 :: (g.bl q mq e ++ (famB (fun i => (f i).bl q) n ++ (sb ++ rest)))) G) _
  rw [p1]
  refine w_runR16 (X := (mPp q (f w).ob).toR) (Mch.toR_ok mPp_ok) (mPpR_inv q (f w).ob) r hN (j := z) hA ok2 trivial fun j' ha hB ok3 _ => ?_
  refine wp_false rfl ?_
  have ha : j' = z := ha
  subst ha
  have ok3 : Ok I G (keys ([(j', oc ty_deque_Pop (ppC (f w).ob ⟨o', t, 5, vv, okk⟩)), ((f w).ob, oc ty_deque_Own (owC o' q))] ++ (c1 :: (g.bl q mq e ++ (famR (fun i => (f i).bl q) w n ++ (sb ++ rest)))))) := ok3
  show wp Try.prog _ L (own B ([(j', oc ty_deque_Pop (ppC (f w).ob ⟨o', t, 5, vv, okk⟩)), ((f w).ob, oc ty_deque_Own (owC o' q))] ++ (c1 :: (g.bl q mq e ++ (famR (fun i => (f i).bl q) w n ++ (sb ++ rest))))) G) _
  refine w_PopValue 0 (x := ⟨o', t, 5, vv, okk⟩) hB ok3 rfl ?_
  have et : (⟨o', t, 5, vv, okk⟩ : Pp).told = okk := by show (okk && ((5 : Int) == 5)) = okk; rw [show ((5 : Int) == 5) = true from rfl, Bool.and_true]
  rw [et]
  obtain ⟨p2, ok4⟩ := own_perm (A := B) (l' := WL x q mq I g at_ s e (updF f w y) n sb ((j', oc ty_deque_Pop (ppC (f w).ob ⟨o', t, 5, vv, okk⟩)) :: rest)) ok3 (perm_by fun c d c0 cd ca => by
    show _ = c ((x, oc ty_magpielaw16_W (wC I q g.pl at_ s)) :: (g.bl q mq e ++ (famB (fun i => (updF f w y i).bl q) n ++ (sb ++ _))))
    have hb : c (y.bl q) = d ((f w).ob, oc ty_deque_Own (owC o' q)) := by rw [← yb, ← yo]; show c (_ :: []) = _; rw [cd, c0]; rfl
    simp only [List.cons_append, List.append_assoc, List.nil_append, cd, ca, c0, famB_upd_c c0 ca (Dq.bl q) f y hw, hb, ← hc1]
    have : c (famR (fun j => Dq.bl q (f j)) w n) = c (famR (fun i => (f i).bl q) w n) := rfl
    omega)
  rw [p2]
  exact wp_ret_of ⟨_, rfl, rfl, ok4, hB⟩

/-- A deque's size. -/
theorem w_size16 {K : Int → Tree} (E : DI A g m S ls at_ n f) (hw : w < n) (hu : A.uses ≤ 700000) (hA : Aw I A) (ok : Ok I G (keys (WL x q mq I g at_ s e f n sb rest)))
    (hk : Aw I (A.later 2) → DI (A.later 2) g m S ls at_ n f → wp Try.prog (K ((f w).xs.length : Int)) L (own (A.later 2) (WL x q mq I g at_ s e f n sb rest) G) R) :
    wp Try.prog (.call f_deque_Own_Size [.pointer (some ⟨(f w).ob, 0, none⟩), .pointer (aI I)] (.one (.leaf (.int .i64))) K) L (own A (WL x q mq I g at_ s e f n sb rest) G) R := by
  obtain ⟨ix, hix⟩ := mem_idx (WL_own (x := x) (q := q) (mq := mq) (I := I) (g := g) (at_ := at_) (s := s) (e := e) (f := f) (n := n) (sb := sb) (rest := rest) hw)
  obtain ⟨wh, da, hs, lb, sz⟩ := E.ati hw
  have Q := E.dq w hw
  have X := E.gi
  have u0 := X.u0
  have tb := Q.tb
  have bt := Q.bt
  refine w_Size ix (bnd_ok X da wh) hA ok hix fun hB => ?_
  have t1 := touchR_dw (o := (f w).o) X da wh (by omega) (k := 1) (by decide) (by decide)
  rw [t1] at hB ⊢
  have t0 := touchR_dw (o := (f w).o) (A := A.later 1) (X.later (by decide)) ⟨da.lo, da.hi⟩ wh (by show A.uses + 1 ≤ _; omega) (k := 0) (by decide) (by decide)
  have e2 : (A.later 1).later 1 = A.later 2 := by unfold Ar.later; rw [show A.uses + 1 + 1 = A.uses + 2 by omega]
  rw [t0, e2] at hB ⊢
  have ev : imax (w64 (A.rawF (dw (f w).o.at_ (f w).o.work 1) - (A.later 1).rawF (dw (f w).o.at_ (f w).o.work 0))) 0 = ((f w).xs.length : Int) := by
    rw [Q.r1, show (A.later 1).rawF (dw (f w).o.at_ (f w).o.work 0) = (f w).t from Q.r0, bt, w64_in (by omega) (by omega)]
    unfold imax; split <;> omega
  rw [ev]
  exact hk hB (E.later (by decide))
end
end Go.Proofs.Ytcjhakdopnamoaa

set_option linter.unusedVariables false
set_option linter.unusedSimpArgs false
set_option maxRecDepth 20000
namespace Go.Proofs.Ytcjhakdopnamoaa
open Go Go.Fw

section
variable {L : Hands} {R : Value → Heap → Prop} {G : Heap} {l rest : Bl}

theorem p_newM {k : Option Nat → Tree} (ok : Ok0 G (keys l)) (h : ∀ b, Ok0 G (keys ((b, .map #[] 0) :: l)) → wp Try.prog (k (some b)) L (putL ((b, .map #[] 0) :: l) G) R) : wp Try.prog (.newM k) L (putL l G) R :=
  wp_newM fun b hb => h b (p_new ok hb _)
theorem p_ckA (i : Nat) {a : Addr} {b n : Nat} {T : TypeId} {c : List Value} {v : Value} {t : Tree} (ok : Ok0 G (keys l)) (ha : a = ⟨b, 0, none⟩) (hi : l[i]? = some (b, oc T c)) (hn : n = c.length) (hv : v = .agg c.toArray) (h : wp Try.prog t L (putL l G) R) :
    wp Try.prog (.check (ldAS a n 0 #[]) v t) L (putL l G) R := by
  subst ha; subst hn; subst hv
  refine ⟨?_, h⟩
  rw [ldAS_eq]
  refine ldK_still (putL_get G ok.nd hi) _ 0 #[] (by simp) ?_
  show (Value.agg (#[] ++ c.toArray.extract 0 (0 + 0 + c.length)) : Value) = _
  simp

/-- A guard is made, before there is an arena. -/
theorem p_GNew {w n th : Int} {ep : Bool} {p : Pl} {K : Option Addr → Tree} (b : 0 ≤ w ∧ w ≤ 100000) (ok : Ok0 G (keys l))
    (h : ∀ q mq z, Ok0 G (keys (Gd.bl ⟨ep, w, n, p, imax 1 (imin th 64)⟩ q mq [] ++ (z, oc ty_free_Place (plCells p)) :: l)) → wp Try.prog (K (some ⟨q, 0, none⟩)) L (putL (Gd.bl ⟨ep, w, n, p, imax 1 (imin th 64)⟩ q mq [] ++ (z, oc ty_free_Place (plCells p)) :: l) G) R) :
    wp Try.prog (.call f_guard_New [.int .i64 w, .int .i64 n, .bool ep, .int .i64 th, p.val] (.one (.leaf .ptr)) K) L (putL l G) R := by
  refine wp_call_of (R0 := fun v H => ∃ q mq z, v = .pointer (some ⟨q, 0, none⟩) ∧ H = putL (Gd.bl ⟨ep, w, n, p, imax 1 (imin th 64)⟩ q mq [] ++ (z, oc ty_free_Place (plCells p)) :: l) G ∧ Ok0 G (keys (Gd.bl ⟨ep, w, n, p, imax 1 (imin th 64)⟩ q mq [] ++ (z, oc ty_free_Place (plCells p)) :: l))) ?_ ?_
  · refine t_guard_New_spec (p0 := w) (p1 := n) (p2 := ep) (p3 := th) (p4_0 := p.work) (p4_1 := p.heads) (p4_2 := p.links) (p4_3 := p.gens) (p4_4 := p.carved) fun L => ?_
    unfold t_guard_New
    refine p_newP (c := plCells p) ok fun x9 ok1 => ?_
    refine p_ldA 0 ok1 rfl rfl rfl ?_
    refine ⟨?_, ?_⟩
    · refine wp_call_det (x := (⟨bif ep then ty_guard_epochs else ty_guard_hazards, .agg #[.int .i64 w, .int .i64 n]⟩ : Ifv)) (of_det ep b _) ?_
      refine p_ckA 0 ok1 rfl rfl rfl rfl ?_
      refine p_newM ok1 fun x19 ok2 => ?_
      refine p_ckA 1 ok2 rfl rfl rfl rfl ?_
      refine p_newP (c := Gd.cells ⟨ep, w, n, p, imax 1 (imin th 64)⟩ x19) ok2 fun x21 ok3 => ?_
      exact wp_ret_of ⟨x21, x19, x9, rfl, rfl, ok3⟩
    · refine p_newM ok1 fun x19 ok2 => ?_
      refine p_ckA 1 ok2 rfl rfl rfl rfl ?_
      refine wp_call_det (x := (⟨bif ep then ty_guard_epochs else ty_guard_hazards, .agg #[.int .i64 w, .int .i64 n]⟩ : Ifv)) (of_det ep b _) ?_
      refine p_ckA 1 ok2 rfl rfl rfl rfl ?_
      refine p_newP (c := Gd.cells ⟨ep, w, n, p, imax 1 (imin th 64)⟩ x19) ok2 fun x21 ok3 => ?_
      exact wp_ret_of ⟨x21, x19, x9, rfl, rfl, ok3⟩
  · rintro v H ⟨q, mq, z, rfl, rfl, o⟩
    exact ⟨_, rfl, h q mq z o⟩
end

def gdW (ep : Bool) (w m : Int) : Gd := ⟨ep, w, 4 * w + 2 * ((m + 7) / 8) + 1, plOf w m, imax 1 (imin 2 64)⟩
def atW (ep : Bool) (w m : Int) : Int := 4 * w + 2 * ((m + 7) / 8) + 1 + gwords ep w

theorem gi_made {A : Ar} {w m : Int} {ep : Bool} {r : Nat} (hm : A.made r m.toNat false) (hA : A.wf) (wb : 1 ≤ w ∧ w ≤ 9) (mb : 0 ≤ m ∧ m ≤ 1000) (hr : atW ep w m ≤ r) (hr2 : r ≤ 100000) : GI A (gdW ep w m) m S0g fun _ => [] := by
  have gw : 0 ≤ gwords ep w ∧ gwords ep w ≤ 100 := by unfold gwords; cases ep <;> simp <;> omega
  unfold atW at hr
  have rl : A.raw.length = r := by rw [hm.raw, List.length_replicate]
  have r0 : ∀ i, A.rawF i = 0 := fun i => by
    unfold Ar.rawF
    split
    · rename_i h; rw [hm.raw, List.getD_eq_getElem?_getD, List.getElem?_replicate]; split <;> rfl
    · rfl
  have car : (plOf w m).carved = 4 * w + 2 * ((m + 7) / 8) := rfl
  refine ⟨hA, SL.made hm (by rw [car]; omega) ⟨wb.1, by omega⟩ ⟨by omega, by omega⟩, hm.fault, ?_, ⟨wb.1, by show w ≤ 100; omega⟩, ?_, by omega, fun _ _ h => (by cases h), fun _ => .nil, fun _ _ _ _ h => (by cases h), fun _ h => (h rfl).elim, ?_, by rw [hm.nL]; exact Int.le_refl 0, by rw [hm.nL, hm.nR, hm.uses]; decide, fun _ _ _ h => (by cases h), fun _ => ?_, fun _ _ _ h => (by cases h)⟩
  · show 4 * w + 2 * ((m + 7) / 8) < 4 * w + 2 * ((m + 7) / 8) + 1; omega
  · show 4 * w + 2 * ((m + 7) / 8) + 1 + gwords ep w ≤ _; omega
  · rw [hm.nR]
    have : ∀ n, totR (fun _ => []) n = 0 := fun n => by
      induction n with
      | zero => rfl
      | succ n ih => show totR (fun _ => []) n + 0 = 0; omega
    exact (this _).symm
  · rw [r0, hm.uses]; exact ⟨Int.le_refl 0, Int.le_refl 0⟩

theorem dm_made {A : Ar} {w m : Int} {ep : Bool} {r : Nat} (hm : A.made r m.toNat false) (hA : A.wf) (wb : 1 ≤ w ∧ w ≤ 9) (mb : 0 ≤ m ∧ m ≤ 1000) (hr : atW ep w m + 3 * w = r) (f : Nat → Dq) : DM A (gdW ep w m) m S0g (atW ep w m) 0 f := by
  have gw : 0 ≤ gwords ep w ∧ gwords ep w ≤ 100 := by unfold gwords; cases ep <;> simp <;> omega
  have ea : atW ep w m = 4 * w + 2 * ((m + 7) / 8) + 1 + gwords ep w := rfl
  have rl : A.raw.length = r := by rw [hm.raw, List.length_replicate]
  have r0 : ∀ i, A.rawF i = 0 := fun i => by
    unfold Ar.rawF
    split
    · rename_i h; rw [hm.raw, List.getD_eq_getElem?_getD, List.getElem?_replicate]; split <;> rfl
    · rfl
  refine ⟨⟨gi_made hm hA wb mb (by omega) (by omega), ⟨?_, ?_⟩, by show ((0 : Nat) : Int) ≤ w; omega, fun i h => (by cases h), fun i h => (by cases h), fun i h => (by cases h), fun i h => (by cases h), fun i _ h => (by cases h), hm.nL, fun i h => (by cases h), fun i h => (by cases h), Int.le_refl 0⟩, fun _ => rfl, rfl, fun i _ => r0 i, fun i h => (by cases h), by rw [hm.uses]; decide⟩
  · show 4 * w + 2 * ((m + 7) / 8) + 1 + gwords ep w ≤ _; omega
  · show atW ep w m + 3 * w ≤ _; omega

section
variable {L : Hands} {R : Value → Heap → Prop} {H : Heap}
structure MkI (I : List Nat) (A : Ar) (H : Heap) (ep : Bool) (w m : Int) (x q mq : Nat) (n : Nat) (S : Sg) (f : Nat → Dq) (s : Sl) (sb rest : Bl) : Prop where
  aw : Aw I A
  ok : Ok I H (keys (WL x q mq I (gdW ep w m) (atW ep w m) s [] f n sb rest))
  dm : DM A (gdW ep w m) m S (atW ep w m) n f
  hs : SlOf sb ty_p_deque_Own eP s (obs f n)

theorem obs_succ (f : Nat → Dq) (n : Nat) (y : Dq) : obs (updF f n y) (n + 1) = obs f n ++ [y.ob] := by
  unfold obs arrC
  rw [List.range_succ, List.map_append]
  congr 1
  · refine List.map_congr_left fun i hi => ?_
    rw [updF_ne f y (by have := List.mem_range.1 hi; omega)]
  · show [(updF f n y n).ob] = _; rw [updF_same]
theorem famB_of {β : Type} {f h : Nat → List β} : ∀ {n : Nat}, (∀ i, i < n → f i = h i) → famB f n = famB h n
  | 0, _ => rfl
  | n + 1, e => by show famB f n ++ f n = famB h n ++ h n; rw [famB_of (n := n) fun i hi => e i (by omega), e n (by omega)]
theorem famB_succ_upd (q : Nat) (f : Nat → Dq) (n : Nat) (y : Dq) : famB (fun i => (updF f n y i).bl q) (n + 1) = famB (fun i => (f i).bl q) n ++ y.bl q := by
  show famB _ n ++ (updF f n y n).bl q = _
  rw [updF_same, famB_of (h := fun i => (f i).bl q) fun i hi => by show (updF f n y i).bl q = _; rw [updF_ne f y (by omega)]]

set_option maxHeartbeats 1000000 in
theorem make16_spec (ep : Bool) (W : Nat) (m : Int) (wb : 1 ≤ W ∧ W ≤ 4) (mb : 8 * (W : Int) ≤ m ∧ m ≤ 400) (H : Heap) : SpecF Try.prog f_magpielaw16_Make #[.int .i64 (W : Int), .int .i64 m, .bool ep] H fun v K => ∃ (A : Ar) (x q mq : Nat) (S : Sg) (f : Nat → Dq) (s : Sl) (sb rest : Bl), v = .pointer (some ⟨x, 0, none⟩) ∧
    K = own A (WL x q mq A.ids (gdW ep W m) (atW ep W m) s [] f W sb rest) H ∧ (∀ y ∈ A.ids, H y = none) ∧ MkI A.ids A H ep W m x q mq W S f s sb rest := by
  refine t_magpielaw16_Make_spec fun L => ?_
  unfold t_magpielaw16_Make
  have ok0 : Ok0 H (keys []) := ⟨.nil, fun b h => (by cases h)⟩
  refine w_Raw5 ⟨by omega, by omega⟩ ⟨by omega, by omega⟩ ?_
  refine p_newP (l := []) (c := plCells ⟨0, 0, 0, 0, 0⟩) ok0 fun x7 ok0 => ?_
  refine p_stA 0 ok0 rfl rfl rfl rfl ?_
  dsimp only
  refine wp_call_det (x := gwords ep W) (GRaw_det ep ⟨by omega, by omega⟩ _) ?_
  have gw : 0 ≤ gwords ep W ∧ gwords ep W ≤ 100 := by unfold gwords; cases ep <;> simp <;> omega
  have ok0 : Ok0 H (keys [(x7, oc ty_free_Place (plCells (plOf W m)))]) := ok0
  refine p_ldA (l := [(x7, oc ty_free_Place (plCells (plOf W m)))]) (x := (W, 0, 4 * W, 4 * W + (m + 7) / 8, 4 * W + 2 * ((m + 7) / 8), ())) 0 ok0 rfl rfl rfl ?_
  refine p_ldA (x := (W, 0, 4 * W, 4 * W + (m + 7) / 8, 4 * W + 2 * ((m + 7) / 8), ())) 0 ok0 rfl rfl rfl ?_
  have ea : atW ep W m = 4 * (W : Int) + 2 * ((m + 7) / 8) + 1 + gwords ep W := rfl
  have en : w64 (4 * (W : Int) + 2 * ((m + 7) / 8) + 1 + gwords ep W) = atW ep W m := by rw [w64_in (by omega) (by omega)]; rfl
  have en2 : w64 (atW ep W m + 3 * W) = atW ep W m + 3 * W := w64_in (by omega) (by omega)
  rw [en]
  refine p_GNew (w := W) (n := 4 * (W : Int) + 2 * ((m + 7) / 8) + 1) (th := 2) (ep := ep) (p := plOf W m) ⟨by omega, by omega⟩ ok0 fun q mq z ok1 => ?_
  refine p_ckA (b := x7) (c := plCells (plOf W m)) 3 ok1 rfl rfl rfl rfl ?_
  refine p_newP (c := [.pointer none, .pointer (some ⟨q, 0, none⟩), .int .i64 (W : Int), .int .i64 0, .int .i64 (4 * (W : Int)), .int .i64 (4 * (W : Int) + (m + 7) / 8), .int .i64 (4 * (W : Int) + 2 * ((m + 7) / 8)), .int .i64 (atW ep W m), .slice none 0 0]) ok1 fun x ok2 => ?_
  refine wp_qcall_det (x := 3 * (W : Int)) (DRaw_det _ _ ⟨by omega, by omega⟩ _) ?_
  rw [en2]
  refine w_New ok2 ⟨by omega, by omega⟩ ⟨by omega, by omega⟩ fun A hm hA hI ok => ?_
  refine wp_nil.2 (w_st 0 hA ok rfl rfl rfl rfl ?_)
  have ok : Ok A.ids H (keys (WL x q mq A.ids (gdW ep W m) (atW ep W m) ⟨none, 0, 0⟩ [] (fun _ => ⟨⟨0, 0, 0, 0, plOf W m⟩, 0, [], 0⟩) 0 [] [(z, oc ty_free_Place (plCells (plOf W m))), (x7, oc ty_free_Place (plCells (plOf W m)))])) := ok
  show wp Try.prog _ L (own A (WL x q mq A.ids (gdW ep W m) (atW ep W m) ⟨none, 0, 0⟩ [] (fun _ => ⟨⟨0, 0, 0, 0, plOf W m⟩, 0, [], 0⟩) 0 [] [(z, oc ty_free_Place (plCells (plOf W m))), (x7, oc ty_free_Place (plCells (plOf W m)))]) H) _
  refine wp_nil.2 (w_ld 0 (x := aI A.ids) hA ok rfl rfl rfl ?_)
  refine look_val (x := false) (np_some _) (wp_false rfl ?_)
  refine wp_nil.2 (w_ld 0 (x := some ⟨q, 0, none⟩) hA ok rfl rfl rfl ?_)
  refine look_val (x := false) (npGd _) (wp_false rfl ?_)
  have M0 : MkI A.ids A H ep W m x q mq 0 S0g (fun _ => ⟨⟨0, 0, 0, 0, plOf W m⟩, 0, [], 0⟩) ⟨none, 0, 0⟩ [] [(z, oc ty_free_Place (plCells (plOf W m))), (x7, oc ty_free_Place (plCells (plOf W m)))] :=
    ⟨hA, ok, dm_made hm hA.wf ⟨by omega, by omega⟩ ⟨by omega, by omega⟩ (by show _ = (((atW ep W m + 3 * W).toNat : Nat) : Int); omega) _, .nil _ _ _⟩
  have hpl : (x7, oc ty_free_Place (plCells (plOf W m))) ∈ [(z, oc ty_free_Place (plCells (plOf W m))), (x7, oc ty_free_Place (plCells (plOf W m)))] := by simp
  have loop : ∀ (d i : Nat), i + d = W → ∀ (B : Ar) (S : Sg) (f : Nat → Dq) (s : Sl) (sb rest : Bl) (y : Option Addr), B.ids = A.ids → MkI A.ids B H ep W m x q mq i S f s sb rest → (x7, oc ty_free_Place (plCells (plOf W m))) ∈ rest →
      wp Try.prog (.loop 512 t_magpielaw16_Make_L1_sh [.pointer y, .int .i64 (i : Int)] (t_magpielaw16_Make_L1 (W : Int) ⟨x7, 0, none⟩ ⟨x, 0, none⟩)) L (own B (WL x q mq A.ids (gdW ep W m) (atW ep W m) s [] f i sb rest) H) fun v K => ∃ (A : Ar) (x q mq : Nat) (S : Sg) (f : Nat → Dq) (s : Sl) (sb rest : Bl), v = .pointer (some ⟨x, 0, none⟩) ∧
        K = own A (WL x q mq A.ids (gdW ep W m) (atW ep W m) s [] f W sb rest) H ∧ (∀ y ∈ A.ids, H y = none) ∧ MkI A.ids A H ep W m x q mq W S f s sb rest := by
    intro d
    induction d with
    | zero =>
      intro i hi B S f s sb rest y hB M hpl
      refine wp_loop_unroll (y, (i : Int), ()) rfl ?_
      rw [t_magpielaw16_Make_L1]
      refine wp_false (decide_eq_false (show ¬ ((i : Int) < (W : Int)) by omega)) ?_
      have : i = W := by omega
      subst this
      refine wp_ret_of ⟨B, x, q, mq, S, f, s, sb, rest, rfl, by rw [hB], by rw [hB]; exact hI, by rw [hB]; exact M⟩
    | succ d ih =>
      intro i hi B S f s sb rest y hB M hpl
      refine wp_loop_unroll (y, (i : Int), ()) rfl ?_
      rw [t_magpielaw16_Make_L1]
      refine wp_true (decide_eq_true (show (i : Int) < (W : Int) by omega)) ?_
      have hA := M.aw
      have ok := M.ok
      have mpl : (x7, oc ty_free_Place (plCells (plOf W m))) ∈ WL x q mq A.ids (gdW ep W m) (atW ep W m) s [] f i sb rest := List.mem_cons_of_mem _ (List.mem_append_right _ (List.mem_append_right _ (List.mem_append_right _ hpl)))
      obtain ⟨ip, hip⟩ := mem_idx mpl
      refine w_ldA (x := (W, 0, 4 * W, 4 * W + (m + 7) / 8, 4 * W + 2 * ((m + 7) / 8), ())) ip hA ok rfl hip rfl ?_
      refine w_NewAlloc (p := plOf W m) hA ok (show sizeF 0 ≠ 0 by decide) fun j okj => ?_
      refine look_val (x := false) (ea_some _) (wp_false rfl ?_)
      have mW : ∀ {hb : Bl}, (x, oc ty_magpielaw16_W (wC A.ids q (gdW ep W m).pl (atW ep W m) s)) ∈ hb ++ WL x q mq A.ids (gdW ep W m) (atW ep W m) s [] f i sb rest := fun {hb} => List.mem_append_right _ List.mem_cons_self
      refine wp_nil.2 (w_ldm (x := aI A.ids) hA okj rfl mW rfl ?_)
      have wbw : (gdW ep W m).w = (W : Int) := rfl
      obtain ⟨N, xa, C, S', Bn⟩ := M.dm.born (by rw [wbw]; omega) (by omega)
      refine w_runR16 (X := mAl.toR) (Mch.toR_ok mAl_ok) mAl_inv (Mch.toR_runs Bn.run) Bn.hn (j := j) hA okj trivial fun j' ha hC ok2 _ => ?_
      refine wp_false rfl ?_
      obtain ⟨aq, aq0, aq1⟩ := j'
      have ha : aq = j.1 := ha
      subst ha
      refine w_Handle 0 (x := xa) hC ok2 rfl ?_
      refine wp_false (by show (!((xa.h : Int) != 0)) = false; rw [ibne Bn.hx]; rfl) ?_
      have ok2 : Ok A.ids H (keys (xa.bl (j.1, aq0, aq1) ++ WL x q mq A.ids (gdW ep W m) (atW ep W m) s [] f i sb rest)) := ok2
      show wp Try.prog _ _ (own C (xa.bl (j.1, aq0, aq1) ++ WL x q mq A.ids (gdW ep W m) (atW ep W m) s [] f i sb rest) H) _
      refine wp_nil.2 (w_ldm (x := aI A.ids) hC ok2 rfl mW rfl ?_)
      refine wp_nil.2 (w_ldm (x := atW ep W m) hC ok2 rfl mW rfl ?_)
      obtain ⟨ip2, hip2⟩ := mem_idx (l := xa.bl (j.1, aq0, aq1) ++ WL x q mq A.ids (gdW ep W m) (atW ep W m) s [] f i sb rest) (List.mem_append_right _ mpl)
      refine w_ldA (x := (W, 0, 4 * W, 4 * W + (m + 7) / 8, 4 * W + 2 * ((m + 7) / 8), ())) ip2 hC ok2 rfl hip2 rfl ?_
      refine wp_nil.2 (w_ldm (x := some ⟨q, 0, none⟩) hC ok2 rfl mW rfl ?_)
      refine w_NewOwn (q := q) (p := plOf W m) (at_ := atW ep W m) (work := (i : Int)) ⟨by omega, by omega⟩ ⟨by omega, by omega⟩ hC ok2 fun zo gar hD ok3 => ?_
      refine look_val (x := false) (npOw _) (wp_false rfl ?_)
      have M1 := Bn.dm zo
      have alD := Bn.al2
      obtain ⟨D, hDe⟩ : ∃ D, D = C.storeR (dw (atW ep W m) i 2) xa.h := ⟨_, rfl⟩
      rw [← hDe] at M1 alD
      have hD : Aw A.ids D := by rw [hDe]; exact hD
      show wp Try.prog _ _ (own (C.storeR (dw (atW ep W m) i 2) xa.h) ((zo, oc ty_deque_Own (owC ⟨atW ep W m, i, 0, xa.h, plOf W m⟩ q)) :: (gar ++ (xa.bl (j.1, aq0, aq1) ++ WL x q mq A.ids (gdW ep W m) (atW ep W m) s [] f i sb rest))) H) _
      rw [← hDe]
      obtain ⟨y, hy⟩ : ∃ y : Dq, y = ⟨⟨atW ep W m, i, 0, xa.h, plOf W m⟩, 0, [], zo⟩ := ⟨_, rfl⟩
      have M1 : DM D (gdW ep W m) m S' (atW ep W m) (i + 1) (updF f i y) := by rw [hy]; exact M1
      have eo : (zo, oc ty_deque_Own (owC ⟨atW ep W m, i, 0, xa.h, plOf W m⟩ q)) = (y.ob, oc ty_deque_Own (owC y.o q)) := by rw [hy]
      have ok3 : Ok A.ids H (keys ((zo, oc ty_deque_Own (owC ⟨atW ep W m, i, 0, xa.h, plOf W m⟩ q)) :: (gar ++ (xa.bl (j.1, aq0, aq1) ++ WL x q mq A.ids (gdW ep W m) (atW ep W m) s [] f i sb rest)))) := ok3
      rw [eo] at ok3 ⊢
      have yz : y.ob = zo := by rw [hy]
      refine wp_nil.2 (w_ldm (x := s) (T := ty_magpielaw16_W) (c := wC A.ids q (gdW ep W m).pl (atW ep W m) s) hD ok3 rfl (List.mem_cons_of_mem _ (List.mem_append_right _ mW)) rfl ?_)
      obtain ⟨p1, ok4⟩ := own_perm (A := D) (l' := ((x, oc ty_magpielaw16_W (wC A.ids q (gdW ep W m).pl (atW ep W m) s)) :: ((y.ob, oc ty_deque_Own (owC y.o q)) :: (gar ++ (xa.bl (j.1, aq0, aq1) ++ ((gdW ep W m).bl q mq [] ++ (famB (fun i => (f i).bl q) i ++ rest)))))) ++ sb) ok3 (perm_by fun c d c0 cd ca => by
        show c (_ :: (gar ++ (xa.bl (j.1, aq0, aq1) ++ ((x, oc ty_magpielaw16_W (wC A.ids q (gdW ep W m).pl (atW ep W m) s)) :: ((gdW ep W m).bl q mq [] ++ (famB (fun i => (f i).bl q) i ++ (sb ++ rest))))))) = _
        simp only [List.cons_append, List.append_assoc, cd, ca]; omega)
      rw [p1, ← yz]
      refine w_app1P (z := y.ob) hD ok4 M.hs ?_ fun s' tl' hs' ok5 => ?_
      · show (arrC i _).length ≤ _; rw [arrC_len]; omega
      refine wp_nil.2 (w_st 0 hD ok5 rfl rfl rfl rfl ?_)
      have ok5 : Ok A.ids H (keys (((x, oc ty_magpielaw16_W (wC A.ids q (gdW ep W m).pl (atW ep W m) s')) :: ((y.ob, oc ty_deque_Own (owC y.o q)) :: (gar ++ (xa.bl (j.1, aq0, aq1) ++ ((gdW ep W m).bl q mq [] ++ (famB (fun i => (f i).bl q) i ++ rest)))))) ++ tl')) := ok5
      show wp Try.prog _ _ (own D (((x, oc ty_magpielaw16_W (wC A.ids q (gdW ep W m).pl (atW ep W m) s')) :: ((y.ob, oc ty_deque_Own (owC y.o q)) :: (gar ++ (xa.bl (j.1, aq0, aq1) ++ ((gdW ep W m).bl q mq [] ++ (famB (fun i => (f i).bl q) i ++ rest)))))) ++ tl') H) _
      obtain ⟨p2, ok6⟩ := own_perm (A := D) (l' := WL x q mq A.ids (gdW ep W m) (atW ep W m) s' [] (updF f i y) (i + 1) tl' (gar ++ (xa.bl (j.1, aq0, aq1) ++ rest))) ok5 (perm_by fun c d c0 cd ca => by
        show _ = c ((x, oc ty_magpielaw16_W (wC A.ids q (gdW ep W m).pl (atW ep W m) s')) :: ((gdW ep W m).bl q mq [] ++ (famB (fun k => (updF f i y k).bl q) (i + 1) ++ (tl' ++ _))))
        have hb : c (y.bl q) = d (y.ob, oc ty_deque_Own (owC y.o q)) := by show c (_ :: []) = _; rw [cd, c0]; rfl
        rw [famB_succ_upd]
        simp only [List.cons_append, List.append_assoc, cd, ca, hb]; omega)
      rw [p2]
      refine wp_again ?_
      have en1 : w64 ((i : Int) + 1) = ((i + 1 : Nat) : Int) := by rw [w64_in (by omega) (by omega)]; omega
      show wp Try.prog (.loop 512 t_magpielaw16_Make_L1_sh [.pointer _, .int .i64 (w64 ((i : Int) + 1))] _) L _ _
      rw [en1]
      exact ih (i + 1) (by omega) D S' (updF f i y) s' tl' _ _ (by rw [alD.ids, hB]) ⟨hD, ok6, M1, by rw [obs_succ]; exact hs'⟩ (List.mem_append_right _ (List.mem_append_right _ hpl))
  exact loop W 0 (by omega) A S0g _ _ _ _ _ rfl M0 hpl
end
end Go.Proofs.Ytcjhakdopnamoaa

set_option linter.unusedVariables false
set_option linter.unusedSimpArgs false
set_option maxRecDepth 20000
namespace Go.Proofs.Ytcjhakdopnamoaa
open Go Go.Fw

structure LW (I : List Nat) (G : Heap) (g : Gd) (m at_ : Int) (x q mq : Nat) (s : Sl) (sb : Bl) (n : Nat) (A : Ar) (S : Sg) (l : Int → List (Int × Int)) (f : Nat → Dq) (e : List LE) (rest : Bl) : Prop where
  aw : Aw I A
  ok : Ok I G (keys (WL x q mq I g at_ s e f n sb rest))
  gs : GdS e l
  di : DI A g m S l at_ n f
  hs : SlOf sb ty_p_deque_Own eP s (obs f n)

section
variable {L : Hands} {R : Value → Heap → Prop} {G : Heap} {rest sb : Bl} {A B : Ar} {I : List Nat}
variable {g : Gd} {m : Int} {S S' : Sg} {l l' : Int → List (Int × Int)} {v t at_ : Int} {q mq x n N w : Nat} {s : Sl} {e : List LE} {f : Nat → Dq}

theorem MkI.lw {ep : Bool} {W m : Int} {H : Heap} (M : MkI I A H ep W m x q mq n S f s sb rest) : LW I H (gdW ep W m) m (atW ep W m) x q mq s sb n A S (fun _ => []) f [] rest := ⟨M.aw, M.ok, gd0, M.dm.di, M.hs⟩
theorem LW.later (E : LW I G g m at_ x q mq s sb n A S l f e rest) {k : Int} (hk : 0 ≤ k) : LW I G g m at_ x q mq s sb n (A.later k) S l f e rest := ⟨later_aw E.aw k, E.ok, E.gs, E.di.later hk, E.hs⟩

theorem LW.push (E : LW I G g m at_ x q mq s sb n A S l f e rest) (hw : w < n) (hu : A.uses ≤ 600000) (th : 1 ≤ g.th) {K : HL Sh1.T [(.leaf .bool), (.leaf .bool)] → Tree}
    (hy : ∀ N B S' l' o' al cp now e' rest', PushY A g m S l at_ n f w v q mq (f w).ob N B S' l' o' al cp now → LW I G g m at_ x q mq s sb n B S' l' (updF f w ⟨o', (f w).t, (f w).xs ++ [v], (f w).ob⟩) e' rest' → wp Try.prog (K (true, true, ())) L (own B (WL x q mq I g at_ s e' (updF f w ⟨o', (f w).t, (f w).xs ++ [v], (f w).ob⟩) n sb rest') G) R)
    (hn : ∀ N B al e' rest', PushN A g m S l at_ n f w v q mq (f w).ob N B al → LW I G g m at_ x q mq s sb n B S l f e' rest' → wp Try.prog (K (false, true, ())) L (own B (WL x q mq I g at_ s e' f n sb rest') G) R) :
    wp Try.prog (.call f_magpielaw16_W_push [.pointer (some ⟨x, 0, none⟩), .int .i64 (w : Int), .int .i64 v] (.tup [(.leaf .bool), (.leaf .bool)]) K) L (own A (WL x q mq I g at_ s e f n sb rest) G) R := by
  rcases E.di.push hw hu th v q mq (f w).ob with ⟨N, B, S', l', o', al, cp, now, P⟩ | ⟨N, B, al, P⟩
  · refine w_push16 (y := ⟨o', (f w).t, (f w).xs ++ [v], (f w).ob⟩) E.aw E.ok E.gs E.hs hw rfl rfl P.run P.hn fun e' rest' Z => ?_
    exact hy N B S' l' o' al cp now e' rest' P ⟨Z.aw, Z.ok, Z.gs, P.di, by rw [obs_upd (y := ⟨o', (f w).t, (f w).xs ++ [v], (f w).ob⟩) (show (f w).ob = (f w).ob from rfl)]; exact E.hs⟩
  · refine w_push16 (y := f w) E.aw E.ok E.gs E.hs hw rfl rfl P.run P.hn fun e' rest' Z => ?_
    rw [updF_id] at Z ⊢
    exact hn N B al e' rest' P ⟨Z.aw, Z.ok, Z.gs, P.di, E.hs⟩

theorem LW.pop (E : LW I G g m at_ x q mq s sb n A S l f e rest) (hw : w < n) (hu : A.uses ≤ 600000) {K : HL Sh1.T [(.leaf (.int .i64)), (.leaf .bool), (.leaf .bool)] → Tree}
    (hk : ∀ N B y vv okk rest', PopD A g m S l at_ n f w q (f w).ob N B y vv okk → LW I G g m at_ x q mq s sb n B S l (updF f w y) e rest' → wp Try.prog (K ((if okk = true then vv else 0), okk, true, ())) L (own B (WL x q mq I g at_ s e (updF f w y) n sb rest') G) R) :
    wp Try.prog (.call f_magpielaw16_W_pop [.pointer (some ⟨x, 0, none⟩), .int .i64 (w : Int)] (.tup [(.leaf (.int .i64)), (.leaf .bool), (.leaf .bool)]) K) L (own A (WL x q mq I g at_ s e f n sb rest) G) R := by
  obtain ⟨N, B, y, vv, okk, P⟩ := E.di.pop hw hu q (f w).ob
  refine w_pop16 (y := y) (vv := vv) (okk := okk) E.aw E.ok E.hs hw rfl P.ob P.run (by have := P.hn; omega) fun rest' ok' aw' => ?_
  exact hk N B y vv okk rest' P ⟨aw', ok', E.gs, P.di, by rw [obs_upd P.ob]; exact E.hs⟩

theorem LW.size (E : LW I G g m at_ x q mq s sb n A S l f e rest) (hw : w < n) (hu : A.uses ≤ 600000) {K : Int → Tree} (hk : LW I G g m at_ x q mq s sb n (A.later 2) S l f e rest → wp Try.prog (K ((f w).xs.length : Int)) L (own (A.later 2) (WL x q mq I g at_ s e f n sb rest) G) R) :
    wp Try.prog (.call f_deque_Own_Size [.pointer (some ⟨(f w).ob, 0, none⟩), .pointer (aI I)] (.one (.leaf (.int .i64))) K) L (own A (WL x q mq I g at_ s e f n sb rest) G) R :=
  w_size16 E.di hw (by omega) E.aw E.ok fun _ _ => hk (E.later (by decide))

/-- A deque's word. -/
theorem LW.raw (E : LW I G g m at_ x q mq s sb n A S l f e rest) (hw : w < n) (hu : A.uses ≤ 600000) {k : Int} (k0 : 0 ≤ k) (k1 : k < 3) {K : Int → Tree} (hk : LW I G g m at_ x q mq s sb n (A.later 1) S l f e rest → wp Try.prog (K (A.rawF (dw at_ w k))) L (own (A.later 1) (WL x q mq I g at_ s e f n sb rest) G) R) :
    wp Try.prog (.call f_arena_Arena_Raw [.pointer (aI I), .int .i64 (dw at_ w k)] (.one (.leaf (.int .i64))) K) L (own A (WL x q mq I g at_ s e f n sb rest) G) R := by
  refine w_Raw E.aw fun hB => ?_
  obtain ⟨wh, da, hs, lb, sz⟩ := E.di.ati hw
  have t1 := touchR_dw (o := (f w).o) E.di.gi da wh (by omega) k0 k1
  rw [E.di.oa w hw, E.di.ow w hw] at t1
  rw [t1] at hB ⊢
  exact hk (E.later (by decide))
theorem LW.r (E : LW I G g m at_ x q mq s sb n A S l f e rest) (hw : w < n) : A.rawF (dw at_ w 0) = (f w).t ∧ A.rawF (dw at_ w 1) = (f w).o.b ∧ A.rawF (dw at_ w 2) = (f w).o.h := by
  have Q := E.di.dq w hw
  have a := E.di.oa w hw
  have b := E.di.ow w hw
  have r0 := Q.r0
  have r1 := Q.r1
  have r2 := Q.r2
  rw [a, b] at r0 r1 r2
  exact ⟨r0, r1, r2⟩
theorem w_ar (E : LW I G g m at_ x q mq s sb n A S l f e rest) {K : Option Addr → Tree} (hk : wp Try.prog (K (aI I)) L (own A (WL x q mq I g at_ s e f n sb rest) G) R) :
    wp Try.prog (.ld ⟨x, 0, none⟩ .ptr K) L (own A (WL x q mq I g at_ s e f n sb rest) G) R := w_ld 0 (x := aI I) E.aw E.ok rfl rfl rfl hk
theorem w_ow (E : LW I G g m at_ x q mq s sb n A S l f e rest) (hw : w < n) {u : TypeId} {K : Option Addr → Tree} (hk : wp Try.prog (K (some ⟨(f w).ob, 0, none⟩)) L (own A (WL x q mq I g at_ s e f n sb rest) G) R) :
    wp Try.prog (.ld (Addr.add ⟨x, 0, none⟩ 8) .slice fun z => .look (opS Try.prog (.indexAddr ty_s_p_deque_Own (.tmp 0) (.tmp 1)) u [.slice z.a z.len z.cap, .int .i64 (w : Int)]) (.one (.leaf .addr)) fun y => .ld y .ptr K) L (own A (WL x q mq I g at_ s e f n sb rest) G) R :=
  w_ld 0 (x := s) E.aw E.ok rfl rfl rfl (w_rdOw E.aw E.ok (E.hs.mono fun p hp => WL_mem hp) (obs_get hw) hk)
end

theorem th1 (ep : Bool) (w m : Int) : 1 ≤ (gdW ep w m).th := by show 1 ≤ imax 1 (imin 2 64); decide
set_option maxHeartbeats 1000000 in
theorem awake16_det (H : Heap) : Det Try.prog f_magpielaw16_awake [] H (.bool true) H := by
  refine t_magpielaw16_awake_spec fun L => ?_
  unfold t_magpielaw16_awake
  refine wp_call_of (make16_spec false 1 64 (by decide) (by decide) H) ?_
  rintro v K ⟨A, x, q, mq, S, f, s, sb, rest, rfl, rfl, hI, M⟩
  refine ⟨some ⟨x, 0, none⟩, rfl, ?_⟩
  refine look_val (x := false) (npW16 _) (wp_false rfl ?_)
  have E := M.lw
  have us := M.dm.us
  obtain ⟨m1, m2, m3, m4⟩ := M.dm.em 0 (by decide)
  refine E.push (w := 0) (by decide) (by omega) (th1 _ _ _) (fun N B S' l' o' al cp now e' rest' P E1 => ?_) fun N B al e' rest' P E1 => ?_
  rotate_left
  · have := P.full; rw [m1, m4] at this; cases this
  have pu := P.us
  refine E1.pop (w := 0) (by decide) (by omega) fun N2 B2 y vv okk rest2 P2 E2 => ?_
  have u2 := P2.us
  have k2 := P2.hk
  have v2 := P2.hv
  have x2 := P2.xs
  rw [updF_same, m1] at k2 v2 u2 x2
  have k2 : okk = true := k2
  have v2 : vv = 77 := v2 (show 0 < 1 by decide)
  subst k2; subst v2
  have u2 : B2.uses = B.uses + 5 := u2
  refine E2.pop (w := 0) (by decide) (by omega) fun N3 B3 y3 v3 ok3 rest3 P3 E3 => ?_
  have u3 := P3.us
  have k3 := P3.hk
  have x3 := P3.xs
  rw [updF_same, x2] at k3 u3 x3
  have k3 : ok3 = false := k3
  subst k3
  have u3 : B3.uses = B2.uses + 3 := u3
  refine wp_true rfl (wp_true rfl (wp_true rfl (wp_true rfl (wp_true rfl (wp_true rfl (wp_true rfl ?_))))))
  refine wp_nil.2 ?_
  simp only [opS_ix0]
  refine w_ow E3 (w := 0) (by decide) ?_
  refine wp_nil.2 (w_ar E3 ?_)
  refine E3.size (w := 0) (by decide) (by omega) fun E4 => ?_
  rw [updF_same, x3]
  exact ⟨H, own_end E4.aw E4.ok hI, rfl, rfl⟩
end Go.Proofs.Ytcjhakdopnamoaa

set_option linter.unusedVariables false
set_option maxRecDepth 10000
namespace Go.Proofs.Ytcjhakdopnamoaa
open Go Go.Fw
/- magpie/magpielaw16.DequeStacks -/
noncomputable def t_magpielaw16_DequeStacks_J0 (x32 : Option Addr) (x11 : Addr) (y1 : HL Sh1.T [(.leaf .bool), (.leaf (.int .i64))]) (x53 : Int) : Tree :=
  .look (opS Try.prog (.nilCheck (.tmp 0)) ty_unit [(.pointer x32)]) (.one (.leaf .addr)) fun x148 =>
  .ld (x148.add 8) .slice fun x150 =>
  .look (opS Try.prog (.indexAddr ty_s_p_deque_Own (.tmp 0) (.tmp 1)) ty_unit [(.slice x150.a x150.len x150.cap), (.int .i64 x53)]) (.one (.leaf .addr)) fun x152 =>
  .ld x152 .ptr fun x153 =>
  .look (opS Try.prog (.nilCheck (.tmp 0)) ty_unit [(.pointer x32)]) (.one (.leaf .addr)) fun x155 =>
  .ld x155 .ptr fun x157 =>
  .look (opS Try.prog (.indexAddr ty_a3_s_int (.tmp 0) (.tmp 1)) ty_unit [(.pointer (some x11)), (.int .i64 x53)]) (.one (.leaf .addr)) fun x160 =>
  .ld x160 .slice fun x161 =>
  .call f_deque_Own_Size [(.pointer x153), (.pointer x157)] (.one (.leaf (.int .i64))) fun x158 =>
  .check (ldS x160) (.slice x161.a x161.len x161.cap) <|
  .check (opS Try.prog (.indexAddr ty_a3_s_int (.tmp 0) (.tmp 1)) ty_unit [(.pointer (some x11)), (.int .i64 x53)]) (.pointer (some x160)) <|
  bif ((x158 : Int) != ((x161.len : Nat) : Int)) then (
    .ret (.bool false))
  else (
    .look (opS Try.prog (.indexAddr ty_a3_s_int (.tmp 0) (.tmp 1)) ty_unit [(.pointer (some x11)), (.int .i64 x53)]) (.one (.leaf .addr)) fun x166 =>
    .ld x166 .slice fun x167 =>
    bif (decide ((((x167.len : Nat) : Int) : Int) > 64)) then (
      .ret (.bool false))
    else (
      .again 448 [(.bool y1.1), (.int .i64 (w64 (y1.2.1 + 1)))]))

noncomputable def t_magpielaw16_DequeStacks_J1 (x32 : Option Addr) (x11 : Addr) (y1 : HL Sh1.T [(.leaf .bool), (.leaf (.int .i64))]) (x49 : Int) (x53 : Int) (x66 : HL Sh1.T [(.leaf .bool), (.leaf .bool)]) : Tree :=
  bif x66.1 then (
    .look (opS Try.prog (.indexAddr ty_a3_s_int (.tmp 0) (.tmp 1)) ty_unit [(.pointer (some x11)), (.int .i64 x53)]) (.one (.leaf .addr)) fun x94 =>
    .ld x94 .slice fun x95 =>
    .newS (.cells #[(.int .i64 (w64 (1000 + x49)))] ty_int) 1 fun x98 =>
    .act (opS Try.prog (.call { callee := .builtin .append, args := #[(.tmp 0), (.tmp 1)], argTypes := #[ty_s_int, ty_s_int] }) ty_s_int [(.slice x95.a x95.len x95.cap), (.slice x98.a x98.len x98.cap)]) (.one (.leaf .slice)) fun x99 =>
    .look (opS Try.prog (.indexAddr ty_a3_s_int (.tmp 0) (.tmp 1)) ty_unit [(.pointer (some x11)), (.int .i64 x53)]) (.one (.leaf .addr)) fun x100 =>
    .st x100 (.slice x99.a x99.len x99.cap) <|
    t_magpielaw16_DequeStacks_J0 x32 x11 y1 x53)
  else (
    t_magpielaw16_DequeStacks_J0 x32 x11 y1 x53)

noncomputable def t_magpielaw16_DequeStacks_J3 (x32 : Option Addr) (x11 : Addr) (y1 : HL Sh1.T [(.leaf .bool), (.leaf (.int .i64))]) (x53 : Int) (x56 : Sl) (x104 : HL Sh1.T [(.leaf (.int .i64)), (.leaf .bool), (.leaf .bool)]) : Tree :=
  bif x104.2.1 then (
    .look (opS Try.prog (.indexAddr ty_a3_s_int (.tmp 0) (.tmp 1)) ty_unit [(.pointer (some x11)), (.int .i64 x53)]) (.one (.leaf .addr)) fun x141 =>
    .ld x141 .slice fun x142 =>
    .look (opS Try.prog (.slice ty_s_int (.tmp 0) none (some (.tmp 1)) none) ty_s_int [(.slice x142.a x142.len x142.cap), (.int .i64 (w64 (((x56.len : Nat) : Int) - 1)))]) (.one (.leaf .slice)) fun x145 =>
    .look (opS Try.prog (.indexAddr ty_a3_s_int (.tmp 0) (.tmp 1)) ty_unit [(.pointer (some x11)), (.int .i64 x53)]) (.one (.leaf .addr)) fun x146 =>
    .st x146 (.slice x145.a x145.len x145.cap) <|
    t_magpielaw16_DequeStacks_J0 x32 x11 y1 x53)
  else (
    t_magpielaw16_DequeStacks_J0 x32 x11 y1 x53)

noncomputable def t_magpielaw16_DequeStacks_J8 (x32 : Option Addr) : Tree :=
  .look (opS Try.prog (.nilCheck (.tmp 0)) ty_unit [(.pointer x32)]) (.one (.leaf .addr)) fun x172 =>
  .ld x172 .ptr fun x174 =>
  .call f_arena_Arena_Fault [(.pointer x174)] (.one (.leaf .bool)) fun x175 =>
  bif (!x175) then (
    .call f_magpielaw16_awake [] (.one (.leaf .bool)) fun x178 =>
    .ret (.bool x178))
  else (
    .ret (.bool false))

@[reducible] def t_magpielaw16_DequeStacks_L1_sh : List Sh1 := [(.leaf .bool), (.leaf (.int .i64))]
noncomputable def t_magpielaw16_DequeStacks_L1 (p3 : Sl) (x22 : Int) (x32 : Option Addr) (x11 : Addr) (y1 : HL Sh1.T t_magpielaw16_DequeStacks_L1_sh) : Tree :=
  bif (decide ((y1.2.1 : Int) < ((p3.len : Nat) : Int))) then (
    bif (decide ((y1.2.1 : Int) < 200)) then (
      .look (opS Try.prog (.indexAddr ty_s_int (.tmp 0) (.tmp 1)) ty_unit [(.slice p3.a p3.len p3.cap), (.int .i64 y1.2.1)]) (.one (.leaf .addr)) fun x47 =>
      .ld x47 (.int .i64) fun x48 =>
      .qcall f_magpielaw00_Place [(.int .i64 x48), (.int .i64 1048576)] (.one (.leaf (.int .i64))) fun x49 =>
      .look (opS Try.prog (.binOp .rem ty_int (.tmp 0) (.tmp 1) ty_int) ty_int [(.int .i64 (w64 (Int.tdiv x49 4))), (.int .i64 (w64 (1 + x22)))]) (.one (.leaf (.int .i64))) fun x53 =>
      .look (opS Try.prog (.indexAddr ty_a3_s_int (.tmp 0) (.tmp 1)) ty_unit [(.pointer (some x11)), (.int .i64 x53)]) (.one (.leaf .addr)) fun x55 =>
      .ld x55 .slice fun x56 =>
      bif (decide (((Int.tmod x49 4) : Int) < 3)) then (
        .call f_magpielaw16_W_push [(.pointer x32), (.int .i64 x53), (.int .i64 (w64 (1000 + x49)))] (.tup [(.leaf .bool), (.leaf .bool)]) fun x66 =>
        bif (!x66.2.1) then (
          .ret (.bool false))
        else (
          bif (!x66.1) then (
            bif ((((x56.len : Nat) : Int) : Int) != 8) then (
              bif ((((x56.len : Nat) : Int) : Int) != 16) then (
                bif ((((x56.len : Nat) : Int) : Int) != 32) then (
                  bif ((((x56.len : Nat) : Int) : Int) != 64) then (
                    .ret (.bool false))
                  else (
                    t_magpielaw16_DequeStacks_J1 x32 x11 y1 x49 x53 x66))
                else (
                  t_magpielaw16_DequeStacks_J1 x32 x11 y1 x49 x53 x66))
              else (
                t_magpielaw16_DequeStacks_J1 x32 x11 y1 x49 x53 x66))
            else (
              t_magpielaw16_DequeStacks_J1 x32 x11 y1 x49 x53 x66))
          else (
            t_magpielaw16_DequeStacks_J1 x32 x11 y1 x49 x53 x66)))
      else (
        .call f_magpielaw16_W_pop [(.pointer x32), (.int .i64 x53)] (.tup [(.leaf (.int .i64)), (.leaf .bool), (.leaf .bool)]) fun x104 =>
        bif (!x104.2.2.1) then (
          .ret (.bool false))
        else (
          bif (!(x104.2.1 == (decide ((((x56.len : Nat) : Int) : Int) > 0)))) then (
            .ret (.bool false))
          else (
            bif x104.2.1 then (
              .look (opS Try.prog (.indexAddr ty_a3_s_int (.tmp 0) (.tmp 1)) ty_unit [(.pointer (some x11)), (.int .i64 x53)]) (.one (.leaf .addr)) fun x121 =>
              .ld x121 .slice fun x122 =>
              .look (opS Try.prog (.indexAddr ty_s_int (.tmp 0) (.tmp 1)) ty_unit [(.slice x122.a x122.len x122.cap), (.int .i64 (w64 (((x56.len : Nat) : Int) - 1)))]) (.one (.leaf .addr)) fun x125 =>
              .ld x125 (.int .i64) fun x126 =>
              bif ((x104.1 : Int) != x126) then (
                .ret (.bool false))
              else (
                bif (!x104.2.1) then (
                  bif ((x104.1 : Int) != 0) then (
                    .ret (.bool false))
                  else (
                    t_magpielaw16_DequeStacks_J3 x32 x11 y1 x53 x56 x104))
                else (
                  t_magpielaw16_DequeStacks_J3 x32 x11 y1 x53 x56 x104)))
            else (
              bif (!x104.2.1) then (
                bif ((x104.1 : Int) != 0) then (
                  .ret (.bool false))
                else (
                  t_magpielaw16_DequeStacks_J3 x32 x11 y1 x53 x56 x104))
              else (
                t_magpielaw16_DequeStacks_J3 x32 x11 y1 x53 x56 x104))))))
    else (
      t_magpielaw16_DequeStacks_J8 x32))
  else (
    t_magpielaw16_DequeStacks_J8 x32)
noncomputable def t_magpielaw16_DequeStacks (p0 : Int) (p1 : Int) (p2 : Bool) (p3 : Sl) : Tree :=
  .qcall f_magpielaw00_Place [(.int .i64 p0), (.int .i64 3)] (.one (.leaf (.int .i64))) fun x22 =>
  .qcall f_magpielaw00_Place [(.int .i64 p1), (.int .i64 40)] (.one (.leaf (.int .i64))) fun x28 =>
  .call f_magpielaw16_Make [(.int .i64 (w64 (1 + x22))), (.int .i64 (w64 ((w64 (8 * (w64 (1 + x22)))) + (w64 (8 * x28))))), (.bool p2)] (.one (.leaf .ptr)) fun x32 =>
  .look (opS Try.prog (.binOp .eql ty_p_magpielaw16_W (.tmp 0) (.const (.pointer none)) ty_p_magpielaw16_W) ty_bool [(.pointer x32)]) (.one (.leaf .bool)) fun x34 =>
  bif x34 then (
    .ret (.bool false))
  else (
    .newP (.cells #[(.slice none 0 0), (.slice none 0 0), (.slice none 0 0)] ty_a3_s_int) fun x11 =>
    .loop 448 t_magpielaw16_DequeStacks_L1_sh [(.bool false), (.int .i64 0)] (t_magpielaw16_DequeStacks_L1 p3 x22 x32 x11))
theorem t_magpielaw16_DequeStacks_eq (p0 : Int) (p1 : Int) (p2 : Bool) (p3 : Sl) : funcTree Try.prog { quiet := [16, 34, 36, 40, 41, 66, 67, 75, 76, 77, 97, 98, 103, 108, 110, 139, 146, 149, 161], quietTmp := true, fncs := [], ifcs := [] } Try.f8 [(.int .i64 p0), (.int .i64 p1), (.bool p2), (.slice p3.a p3.len p3.cap)] = t_magpielaw16_DequeStacks p0 p1 p2 p3 := by kernel_rfl
theorem t_magpielaw16_DequeStacks_spec {p0 : Int} {p1 : Int} {p2 : Bool} {p3 : Sl} {H : Heap} {R : Value → Heap → Prop} (h : ∀ L, wp Try.prog (t_magpielaw16_DequeStacks p0 p1 p2 p3) L H R) : SpecF Try.prog f_magpielaw16_DequeStacks #[(.int .i64 p0), (.int .i64 p1), (.bool p2), (.slice p3.a p3.len p3.cap)] H R :=
  spec_of_tree (cfg := { quiet := [16, 34, 36, 40, 41, 66, 67, 75, 76, 77, 97, 98, 103, 108, 110, 139, 146, 149, 161], quietTmp := true, fncs := [], ifcs := [] }) Try.func8 fun L => (t_magpielaw16_DequeStacks_eq p0 p1 p2 p3).symm ▸ h L

end Go.Proofs.Ytcjhakdopnamoaa

set_option linter.unusedVariables false
set_option linter.unusedSimpArgs false
set_option maxRecDepth 20000
namespace Go.Proofs.Ytcjhakdopnamoaa
open Go Go.Fw

def rg (c : Int) (n : Nat) : List Int := (List.range n).map fun i => c + (i : Nat)
section
variable {A B : Ar} {g : Gd} {m : Int} {S : Sg} {l : Int → List (Int × Int)} {v at_ : Int} {q mq ob n N w : Nat} {f : Nat → Dq} {al : Option Al}
theorem sz2 {c : Int} (h0 : 0 ≤ c) (h3 : c < 3) : sizeF (c + 1) = 2 * sizeF c := by
  have : c = 0 ∨ c = 1 ∨ c = 2 := by omega
  rcases this with h | h | h <;> rw [h] <;> rfl
theorem PushN.not (P : PushN A g m S l at_ n f w v q mq ob N B al) (hl : ((f w).xs.length : Int) < 64) (hc : S.cv + 2 * sizeF (opC (f w).o.h) ≤ m) : False := by
  have oc := opC_nat (f w).o.h
  have fl := P.full
  rcases P.why with h | ⟨h, h2⟩
  · rw [h, show sizeF 3 = 64 from rfl] at fl; omega
  · rw [sz2 oc.1 h] at h2; omega
theorem LW.atb {I : List Nat} {G : Heap} {x mq : Nat} {s : Sl} {sb rest : Bl} {e : List LE} (E : LW I G g m at_ x q mq s sb n A S l f e rest) (hw : w < n) : (0 ≤ at_ ∧ at_ ≤ 1000000) ∧ 0 ≤ (w : Int) ∧ (w : Int) ≤ 1000 := by
  obtain ⟨wh, da, hs, lb, sz⟩ := E.di.ati hw
  have b := bnd_ok E.di.gi da wh
  have a := b.a
  have c := b.w
  rw [E.di.oa w hw] at a
  rw [E.di.ow w hw] at c
  exact ⟨a, c⟩
theorem LW.word {L : Hands} {R : Value → Heap → Prop} {H' : Heap} {I : List Nat} {G : Heap} {x mq : Nat} {s : Sl} {sb rest : Bl} {e : List LE} (E : LW I G g m at_ x q mq s sb n A S l f e rest) (hw : w < n) {k : Int} (k0 : 0 ≤ k) (k1 : k < 3) {K : Int → Tree} (hk : wp Try.prog (K (dw at_ w k)) L H' R) :
    wp Try.prog (.qcall f_deque_Word [.int .i64 at_, .int .i64 (w : Int), .int .i64 k] (.one (.leaf (.int .i64))) K) L H' R :=
  wp_qcall_det (x := dw at_ w k) (DWord_det _ _ _ (E.atb hw).1 (E.atb hw).2 ⟨k0, by omega⟩ _) hk
end

structure J1 (I : List Nat) (H : Heap) (g : Gd) (m at_ : Int) (x q mq : Nat) (s : Sl) (sb : Bl) (n : Nat) (P : Ar → Sg → (Int → List (Int × Int)) → (Nat → Dq) → Prop) (A : Ar) (S : Sg) (l : Int → List (Int × Int)) (f : Nat → Dq) (e : List LE) (rest : Bl) (K : Heap) : Prop where
  lw : LW I H g m at_ x q mq s sb n A S l f e rest
  p : P A S l f
  k : K = own A (WL x q mq I g at_ s e f n sb rest) H
end Go.Proofs.Ytcjhakdopnamoaa

set_option linter.unusedVariables false
set_option maxRecDepth 20000
namespace Go.Proofs.Ytcjhakdopnamoaa
open Go Go.Fw

section
variable {L : Hands} {R : Value → Heap → Prop} {H : Heap} {I : List Nat} {A : Ar} {N : Nat}
/-- A cell of an array, read. -/
theorem w_arn {t e u T : TypeId} {b : Nat} {g : Nat → Value} {k : Int} {lf : Leaf} {x : lf.T} {t' : Addr → lf.T → Tree} {l : Bl} {info : TypeInfo} (hA : Aw I A) (ok : Ok I H (keys l)) (hb : (b, oc T (arrC N g)) ∈ l) (hu : Try.prog.underlying t = some (.array N e)) (hi : Try.prog.info? e = some info) (hs : info.size = 1) (k0 : 0 ≤ k) (k1 : k < N)
    (hx : Lf.dec lf (g k.toNat) = some x) (h : wp Try.prog (t' ⟨b, 0 + k.toNat, none⟩ x) L (own A l H) R) :
    wp Try.prog (.look (opS Try.prog (.indexAddr t (.tmp 0) (.tmp 1)) u [.pointer (some ⟨b, 0, none⟩), .int .i64 k]) (.one (.leaf .addr)) fun y => .ld y lf (t' y)) L (own A l H) R := by
  refine w_ix (A := A) (e := e) (n := N) hu hi hs k0 (by omega) ?_
  refine w_ldm (x := x) hA ok rfl hb ?_ h
  rw [Nat.zero_add, arrC_get (by omega)]; exact hx
theorem ck_arn {T : TypeId} {b : Nat} {g : Nat → Value} {k : Int} {v : Value} {t' : Tree} {l : Bl} (hA : Aw I A) (ok : Ok I H (keys l)) (hb : (b, oc T (arrC N g)) ∈ l) (k0 : 0 ≤ k) (k1 : k < N) (hv : g k.toNat = v)
    (h : wp Try.prog t' L (own A l H) R) : wp Try.prog (.check (ldS ⟨b, 0 + k.toNat, none⟩) v t') L (own A l H) R := by
  refine chk_cell ?_ h
  rw [Heap.cell_of (own_mem hA ok hb), List.getElem?_toArray, Nat.zero_add, arrC_get (by omega), hv]
theorem ck_aix {t e u : TypeId} {b : Nat} {k : Int} {t' : Tree} {H : Heap} {info : TypeInfo} (hu : Try.prog.underlying t = some (.array N e)) (hi : Try.prog.info? e = some info) (hs : info.size = 1) (k0 : 0 ≤ k) (k1 : k < N) (h : wp Try.prog t' L H R) :
    wp Try.prog (.check (opS Try.prog (.indexAddr t (.tmp 0) (.tmp 1)) u [.pointer (some ⟨b, 0, none⟩), .int .i64 k]) (.pointer (some ⟨b, 0 + k.toNat, none⟩)) t') L H R := by
  refine check_val ?_ h
  rw [opS_idx hu hi k0 (by omega), Addr.add_mk, hs, Nat.mul_one]
end
end Go.Proofs.Ytcjhakdopnamoaa

set_option linter.unusedVariables false
set_option linter.unusedSimpArgs false
set_option maxRecDepth 20000
namespace Go.Proofs.Ytcjhakdopnamoaa
open Go Go.Fw

def slA3 (b : Nat) (sl : Nat → Sl) : Nat × Obj := (b, oc ty_a3_s_int (arrC 3 fun j => slV (sl j)))
structure DS (I : List Nat) (H : Heap) (g : Gd) (m at_ : Int) (x q mq : Nat) (s : Sl) (sb : Bl) (n b : Nat) (A : Ar) (S : Sg) (l : Int → List (Int × Int)) (f : Nat → Dq) (e : List LE) (rest : Bl) (sl : Nat → Sl) (tl : Bl) (xs : Nat → List Int) : Prop where
  lw : LW I (putL (slA3 b sl :: tl) H) g m at_ x q mq s sb n A S l f e rest
  ot : Ok I H (keys (slA3 b sl :: tl))
  fam : Fam tl sl xs
  xs : ∀ i, i < n → xs i = (f i).xs

theorem dec_slD (s : Sl) : Lf.dec .slice (slV s) = some s := rfl
theorem w_remD {L : Hands} {R : Value → Heap → Prop} {i t : Int} {K : Heap} {k : Int → Tree} (h0 : 0 ≤ i) (h1 : 1 ≤ t) (h : wp Try.prog (k (i % t)) L K R) : wp Try.prog (.look (opS Try.prog (.binOp .rem ty_int (.tmp 0) (.tmp 1) ty_int) ty_int [(.int .i64 i), (.int .i64 t)]) (.one (.leaf (.int .i64))) k) L K R := by
  refine look_val (x := i % t) ?_ h
  rw [opS_rem (by omega), Int.tmod_eq_emod_of_nonneg h0]

section
variable {L : Hands} {R : Value → Heap → Prop} {H : Heap} {rest sb : Bl} {A B : Ar} {I : List Nat}
variable {g : Gd} {m : Int} {S S' : Sg} {l l' : Int → List (Int × Int)} {v t at_ : Int} {q mq x n N w b : Nat} {s : Sl} {e : List LE} {f : Nat → Dq} {sl : Nat → Sl} {tl : Bl} {xs : Nat → List Int}

theorem DS.eq (D : DS I H g m at_ x q mq s sb n b A S l f e rest sl tl xs) : own A (WL x q mq I g at_ s e f n sb rest) (putL (slA3 b sl :: tl) H) = own A ((slA3 b sl :: WL x q mq I g at_ s e f n sb rest) ++ tl) H ∧ Ok I H (keys ((slA3 b sl :: WL x q mq I g at_ s e f n sb rest) ++ tl)) := by
  have ok : Ok I H (keys (WL x q mq I g at_ s e f n sb rest ++ (slA3 b sl :: tl))) := by rw [keys_append]; exact D.lw.ok.join D.ot
  obtain ⟨p, o⟩ := own_perm (A := A) (l' := (slA3 b sl :: WL x q mq I g at_ s e f n sb rest) ++ tl) ok (perm_by fun c d c0 cd ca => by simp only [List.cons_append, cd, ca]; omega)
  exact ⟨by rw [← own_append]; exact p, o⟩
/-- Other rows. -/
theorem DS.of {sl' : Nat → Sl} {tl' : Bl} {xs' : Nat → List Int} (E : LW I (putL (slA3 b sl :: tl) H) g m at_ x q mq s sb n A S l f e rest) (ok : Ok I H (keys ((slA3 b sl' :: WL x q mq I g at_ s e f n sb rest) ++ tl'))) (F : Fam tl' sl' xs') (hx : ∀ i, i < n → xs' i = (f i).xs) : DS I H g m at_ x q mq s sb n b A S l f e rest sl' tl' xs' := by
  obtain ⟨p, o⟩ := own_perm (A := A) (l' := WL x q mq I g at_ s e f n sb rest ++ (slA3 b sl' :: tl')) ok (perm_by fun c d c0 cd ca => by simp only [List.cons_append, cd, ca]; omega)
  rw [keys_append] at o
  obtain ⟨o1, o2⟩ := o.split
  exact ⟨⟨E.aw, o1, E.gs, E.di, E.hs⟩, o2, F, hx⟩

/-- A row, looked at. -/
theorem w_row3 {K : Addr → Sl → Tree} (hA : Aw I A) {l tl : Bl} (ok : Ok I H (keys ((slA3 b sl :: l) ++ tl))) (hw : w < 3) (hk : wp Try.prog (K ⟨b, 0 + ((w : Int)).toNat, none⟩ (sl w)) L (own A ((slA3 b sl :: l) ++ tl) H) R) :
    wp Try.prog (.look (opS Try.prog (.indexAddr ty_a3_s_int (.tmp 0) (.tmp 1)) ty_unit [(.pointer (some ⟨b, 0, none⟩)), (.int .i64 (w : Int))]) (.one (.leaf .addr)) fun x => .ld x .slice (K x)) L (own A ((slA3 b sl :: l) ++ tl) H) R :=
  w_arn (N := 3) (g := fun j => slV (sl j)) (e := ty_s_int) hA ok List.mem_cons_self rfl rfl rfl (by omega) (by omega) (by rw [Int.toNat_natCast]; exact dec_slD _) hk
theorem w_put3 {K : Tree} {z : Sl} (hA : Aw I A) {l tl : Bl} (ok : Ok I H (keys ((slA3 b sl :: l) ++ tl))) (hw : w < 3) (hk : Ok I H (keys ((slA3 b (updS sl w z) :: l) ++ tl)) → wp Try.prog K L (own A ((slA3 b (updS sl w z) :: l) ++ tl) H) R) :
    wp Try.prog (.look (opS Try.prog (.indexAddr ty_a3_s_int (.tmp 0) (.tmp 1)) ty_unit [(.pointer (some ⟨b, 0, none⟩)), (.int .i64 (w : Int))]) (.one (.leaf .addr)) fun x => .st x (.slice z.a z.len z.cap) K) L (own A ((slA3 b sl :: l) ++ tl) H) R := by
  refine w_ix (A := A) (e := ty_s_int) (n := 3) rfl rfl rfl (by omega) (by omega) ?_
  refine w_st 0 hA ok rfl rfl rfl (by rw [arrC_len]; exact decide_eq_true (by omega)) ?_
  have s2 : (arrC 3 fun j => slV (sl j)).set (0 + ((w : Int)).toNat) (.slice z.a z.len z.cap) = arrC 3 fun j => slV (updS sl w z j) := by
    rw [Nat.zero_add, Int.toNat_natCast, arrC_set]; congr 1; funext j; unfold updS; split <;> rfl
  show wp Try.prog _ L (own A (((b, oc ty_a3_s_int ((arrC 3 fun j => slV (sl j)).set (0 + ((w : Int)).toNat) (.slice z.a z.len z.cap))) :: l) ++ tl) H) R
  rw [s2]
  exact hk ok
end

/-- What goes on. -/
def DSAgain (L : Hands) (R : Value → Heap → Prop) (I : List Nat) (H : Heap) (g : Gd) (m at_ : Int) (x q mq : Nat) (s : Sl) (sb : Bl) (n b : Nat) (y : Bool) (i : Int) : Prop := ∀ A S l f e rest sl tl xs, DS I H g m at_ x q mq s sb n b A S l f e rest sl tl xs → A.uses ≤ 1000 + 1600 * (i + 1) →
  wp Try.prog (.again 448 [(.bool y), (.int .i64 (i + 1))]) L (own A ((slA3 b sl :: WL x q mq I g at_ s e f n sb rest) ++ tl) H) R

section
variable {L : Hands} {R : Value → Heap → Prop} {H : Heap} {rest sb : Bl} {A B : Ar} {I : List Nat}
variable {g : Gd} {m : Int} {S S' : Sg} {l l' : Int → List (Int × Int)} {v t at_ i : Int} {q mq x n N w b : Nat} {s : Sl} {e : List LE} {f : Nat → Dq} {sl : Nat → Sl} {tl : Bl} {xs : Nat → List Int} {y : Bool}

theorem stacks_J0 (ib : 0 ≤ i ∧ i < 200) (n3 : n ≤ 3) (hw : w < n) (D : DS I H g m at_ x q mq s sb n b A S l f e rest sl tl xs) (hu : A.uses ≤ 1000 + 1600 * i + 1500) (ag : DSAgain L R I H g m at_ x q mq s sb n b y i) :
    wp Try.prog (t_magpielaw16_DequeStacks_J0 (some ⟨x, 0, none⟩) ⟨b, 0, none⟩ (y, i, ()) (w : Int)) L (own A ((slA3 b sl :: WL x q mq I g at_ s e f n sb rest) ++ tl) H) R := by
  unfold t_magpielaw16_DequeStacks_J0
  have hw3 : w < 3 := by omega
  rw [← D.eq.1]
  refine wp_nil.2 ?_
  refine w_ow D.lw hw ?_
  refine wp_nil.2 (w_ar D.lw ?_)
  rw [D.eq.1]
  refine w_row3 D.lw.aw D.eq.2 hw3 ?_
  rw [← D.eq.1]
  refine D.lw.size hw (by omega) fun E1 => ?_
  have D1 : DS I H g m at_ x q mq s sb n b (A.later 2) S l f e rest sl tl xs := ⟨E1, D.ot, D.fam, D.xs⟩
  rw [D1.eq.1]
  have lns : ((sl w).len : Int) = ((f w).xs.length : Int) := by rw [(D.fam.of w).len, D.xs w hw]
  have lb := (D.lw.di.ati hw).lb
  refine ck_arn (N := 3) (g := fun j => slV (sl j)) (k := (w : Int)) D1.lw.aw D1.eq.2 List.mem_cons_self (by omega) (by omega) (by rw [Int.toNat_natCast]; rfl) ?_
  refine ck_aix (N := 3) (e := ty_s_int) rfl rfl rfl (by omega) (by omega) ?_
  refine wp_false (ibnf lns.symm) ?_
  refine w_row3 D1.lw.aw D1.eq.2 hw3 ?_
  refine wp_false (decide_eq_false (by omega)) ?_
  rw [show w64 (((y, i, ()) : HL Sh1.T [(.leaf .bool), (.leaf (.int .i64))]).2.1 + 1) = i + 1 from w64_in (by show -9223372036854775808 ≤ i + 1; omega) (by show i + 1 ≤ 9223372036854775807; omega)]
  exact ag (A.later 2) S l f e rest sl tl xs D1 (by show A.uses + 2 ≤ _; omega)

theorem upd_fam {y : Dq} {zs : List Int} (h : ∀ i, i < n → xs i = (f i).xs) (hy : y.xs = zs) : ∀ i, i < n → updS xs w zs i = (updF f w y i).xs := fun i hi => by
  unfold updS updF
  split
  · exact hy.symm
  · exact h i hi

theorem stacks_J3 {x56 : Sl} {vv : Int} {okk : Bool} {z : Dq} (ib : 0 ≤ i ∧ i < 200) (n3 : n ≤ 3) (hw : w < n) (E : LW I (putL (slA3 b sl :: tl) H) g m at_ x q mq s sb n A S l (updF f w z) e rest) (ot : Ok I H (keys (slA3 b sl :: tl))) (fam : Fam tl sl xs) (hx : ∀ i, i < n → xs i = (f i).xs) (e56 : x56 = sl w) (zx : z.xs = (f w).xs.dropLast) (ek : okk = decide (0 < (f w).xs.length)) (lb : (f w).xs.length ≤ 64)
    (hu : A.uses ≤ 1000 + 1600 * i + 1500) (ag : DSAgain L R I H g m at_ x q mq s sb n b y i) :
    wp Try.prog (t_magpielaw16_DequeStacks_J3 (some ⟨x, 0, none⟩) ⟨b, 0, none⟩ (y, i, ()) (w : Int) x56 (vv, okk, true, ())) L (own A ((slA3 b sl :: WL x q mq I g at_ s e (updF f w z) n sb rest) ++ tl) H) R := by
  unfold t_magpielaw16_DequeStacks_J3
  have hw3 : w < 3 := by omega
  have hl := (fam.of w).len
  rw [hx w hw] at hl
  -- the rows, whatever they tell
  have ok0 : Ok I H (keys ((slA3 b sl :: WL x q mq I g at_ s e (updF f w z) n sb rest) ++ tl)) := by
    have ok : Ok I H (keys (WL x q mq I g at_ s e (updF f w z) n sb rest ++ (slA3 b sl :: tl))) := by rw [keys_append]; exact E.ok.join ot
    exact (own_perm (A := A) ok (perm_by fun c d c0 cd ca => by simp only [List.cons_append, cd, ca]; omega)).2
  cases okk with
  | false =>
    have h0 : (f w).xs.length = 0 := by have := of_decide_eq_false ek.symm; omega
    have h1 : (f w).xs = [] := List.length_eq_zero_iff.1 h0
    refine wp_false rfl ?_
    refine stacks_J0 ib n3 hw (f := updF f w z) (xs := xs) (DS.of E ok0 fam fun j hj => ?_) hu ag
    by_cases e : j = w
    · rw [e, updF_same, zx, hx w hw, h1]; rfl
    · rw [updF_ne f z e]; exact hx j hj
  | true =>
    have h0 : 0 < (f w).xs.length := of_decide_eq_true ek.symm
    refine wp_true rfl ?_
    refine w_row3 E.aw ok0 hw3 ?_
    rw [e56, show w64 ((((sl w).len : Nat) : Int) - 1) = (((f w).xs.length - 1 : Nat) : Int) by rw [w64_in (by omega) (by omega)]; omega]
    have hcap : (f w).xs.length - 1 ≤ (sl w).cap := by
      rcases fam.of w with ⟨h, _⟩ | ⟨c, rest, r, h, _, _⟩
      · rw [h] at hl; have hl : 0 = (f w).xs.length := hl; omega
      · rw [h] at hl ⊢; simp only at hl ⊢; omega
    refine w_cut (by omega) (by omega) ?_
    refine w_put3 E.aw ok0 hw3 fun ok1 => ?_
    have fam2 := fam.take w (n := (f w).xs.length - 1) (by rw [hx w hw]; omega)
    have ez : (((f w).xs.length - 1 : Nat) : Int).toNat = (f w).xs.length - 1 := Int.toNat_natCast _
    rw [ez] at ok1 ⊢
    refine stacks_J0 ib n3 hw (f := updF f w z) (DS.of E ok1 fam2 (upd_fam hx (by rw [zx, List.dropLast_eq_take, hx w hw]))) hu ag

theorem stacks_J1 {o' : DOw} {v : Int} (ib : 0 ≤ i ∧ i < 200) (n3 : n ≤ 3) (hw : w < n) (E : LW I (putL (slA3 b sl :: tl) H) g m at_ x q mq s sb n A S l (updF f w ⟨o', (f w).t, (f w).xs ++ [w64 (1000 + v)], (f w).ob⟩) e rest) (ot : Ok I H (keys (slA3 b sl :: tl))) (fam : Fam tl sl xs) (hx : ∀ i, i < n → xs i = (f i).xs) (lb : (f w).xs.length ≤ 64)
    (hu : A.uses ≤ 1000 + 1600 * i + 1500) (ag : DSAgain L R I H g m at_ x q mq s sb n b y i) :
    wp Try.prog (t_magpielaw16_DequeStacks_J1 (some ⟨x, 0, none⟩) ⟨b, 0, none⟩ (y, i, ()) v (w : Int) (true, true, ())) L (own A ((slA3 b sl :: WL x q mq I g at_ s e (updF f w ⟨o', (f w).t, (f w).xs ++ [w64 (1000 + v)], (f w).ob⟩) n sb rest) ++ tl) H) R := by
  unfold t_magpielaw16_DequeStacks_J1
  have hw3 : w < 3 := by omega
  have ok0 : Ok I H (keys ((slA3 b sl :: WL x q mq I g at_ s e (updF f w ⟨o', (f w).t, (f w).xs ++ [w64 (1000 + v)], (f w).ob⟩) n sb rest) ++ tl)) := by
    have ok : Ok I H (keys (WL x q mq I g at_ s e (updF f w ⟨o', (f w).t, (f w).xs ++ [w64 (1000 + v)], (f w).ob⟩) n sb rest ++ (slA3 b sl :: tl))) := by rw [keys_append]; exact E.ok.join ot
    exact (own_perm (A := A) ok (perm_by fun c d c0 cd ca => by simp only [List.cons_append, cd, ca]; omega)).2
  refine wp_true rfl ?_
  refine w_row3 E.aw ok0 hw3 ?_
  refine w_app1 E.aw ok0 (fam.of w) (by rw [hx w hw]; omega) fun s' tl' hs' ok1 ap => ?_
  refine w_put3 E.aw ok1 hw3 fun ok2 => ?_
  exact stacks_J0 ib n3 hw (DS.of E ok2 (fam.app hs' ap) (upd_fam hx (by rw [hx w hw]))) hu ag

theorem stacks_J8 (hI : ∀ y ∈ I, H y = none) (D : DS I H g m at_ x q mq s sb n b A S l f e rest sl tl xs) (hR : R (.bool true) H) :
    wp Try.prog (t_magpielaw16_DequeStacks_J8 (some ⟨x, 0, none⟩)) L (own A ((slA3 b sl :: WL x q mq I g at_ s e f n sb rest) ++ tl) H) R := by
  unfold t_magpielaw16_DequeStacks_J8
  rw [← D.eq.1]
  refine wp_nil.2 (w_ar D.lw ?_)
  refine w_Fault D.lw.aw ?_
  rw [D.lw.di.gi.fa]
  refine wp_true rfl ?_
  refine wp_call_det (x := true) (awake16_det _) ?_
  rw [D.eq.1]
  exact ⟨H, own_end D.lw.aw D.eq.2 hI, hR⟩

theorem sz4 {n : Int} {c : Int} (h0 : 0 ≤ c) (h3 : c < 4) (h : n = sizeF c) : n = 8 ∨ n = 16 ∨ n = 32 ∨ n = 64 := by
  rcases sizeF_cases h0 h3 with ⟨_, e⟩ | ⟨_, e⟩ | ⟨_, e⟩ | ⟨_, e⟩ <;> rw [h, e] <;> decide
end

set_option maxHeartbeats 1000000 in
theorem DequeStacks_det (a c : Int) (ep : Bool) (z : Sl) (zs : List Int) (H : Heap) (hz : RowOf H z.a z.len zs) : Det Try.prog f_magpielaw16_DequeStacks [.int .i64 a, .int .i64 c, .bool ep, .slice z.a z.len z.cap] H (.bool true) H := by
  refine t_magpielaw16_DequeStacks_spec (p3 := z) fun L => ?_
  unfold t_magpielaw16_DequeStacks
  refine w_Place (by decide) (by decide) ?_
  have k0 := Int.emod_nonneg a (b := 3) (by decide)
  have k1 := Int.emod_lt_of_pos a (b := 3) (by decide)
  generalize a % 3 = k at *
  refine w_Place (by decide) (by decide) ?_
  have d0 := Int.emod_nonneg c (b := 40) (by decide)
  have d1 := Int.emod_lt_of_pos c (b := 40) (by decide)
  generalize c % 40 = d at *
  have ek : w64 (1 + k) = 1 + k := w64_in (by omega) (by omega)
  obtain ⟨W, hW⟩ : ∃ W : Nat, 1 + k = (W : Int) := ⟨(1 + k).toNat, by omega⟩
  have em : w64 (w64 (8 * (W : Int)) + w64 (8 * d)) = 8 * W + 8 * d := by rw [w64_in (x := 8 * (W : Int)) (by omega) (by omega), w64_in (x := 8 * d) (by omega) (by omega), w64_in (by omega) (by omega)]
  rw [ek, hW, em]
  refine wp_call_of (make16_spec ep W (8 * W + 8 * d) ⟨by omega, by omega⟩ ⟨by omega, by omega⟩ H) ?_
  rintro v K ⟨A, x, q, mq, S, f, s, sb, rest, rfl, rfl, hI, M⟩
  refine ⟨some ⟨x, 0, none⟩, rfl, ?_⟩
  refine look_val (x := false) (npW16 _) (wp_false rfl ?_)
  have us := M.dm.us
  have E0 := M.lw
  have hx0 : ∀ i, i < W → (f i).xs = [] := fun i hi => (M.dm.em i hi).1
  have th := th1 ep (W : Int) (8 * W + 8 * d)
  generalize gdW ep (W : Int) (8 * W + 8 * d) = g at *
  generalize atW ep (W : Int) (8 * W + 8 * d) = at_ at *
  clear M
  have n3 : W ≤ 3 := by omega
  refine w_newP (c := arrC 3 fun j => slV ((fun _ => sl0) j)) E0.aw E0.ok fun b okb => ?_
  have okb : Ok A.ids H (keys ((slA3 b (fun _ => sl0) :: WL x q mq A.ids g at_ s [] f W sb rest) ++ [])) := by rw [List.append_nil]; exact okb
  have D0 : DS A.ids H g (8 * W + 8 * d) at_ x q mq s sb W b A S (fun _ => []) f [] rest (fun _ => sl0) [] (fun _ => []) := by
    have F0 := Fam.nil []
    obtain ⟨p, o⟩ := own_perm (A := A) (l' := WL x q mq A.ids g at_ s [] f W sb rest ++ (slA3 b (fun _ => sl0) :: [])) okb (perm_by fun c d c0 cd ca => by simp only [List.cons_append, cd, ca]; omega)
    rw [keys_append] at o
    obtain ⟨o1, o2⟩ := o.split
    exact ⟨⟨E0.aw, o1, E0.gs, E0.di, E0.hs⟩, o2, F0, fun i hi => (hx0 i hi).symm⟩
  have e0 : own A ((b, oc ty_a3_s_int (arrC 3 fun j => slV ((fun _ => sl0) j))) :: WL x q mq A.ids g at_ s [] f W sb rest) H = own A ((slA3 b (fun _ => sl0) :: WL x q mq A.ids g at_ s [] f W sb rest) ++ []) H := by rw [List.append_nil]; rfl
  rw [e0]
  refine wl_bi (fun _ i K => 0 ≤ i ∧ i ≤ 200 ∧ ∃ B S l f e rest sl tl xs, DS A.ids H g (8 * W + 8 * d) at_ x q mq s sb W b B S l f e rest sl tl xs ∧ B.uses ≤ 1000 + 1600 * i ∧ K = own B ((slA3 b sl :: WL x q mq A.ids g at_ s e f W sb rest) ++ tl) H) (fun _ i => (200 - i).toNat) false 0 ⟨Int.le_refl 0, by decide, A, S, _, f, [], rest, _, _, _, D0, by omega, rfl⟩ ?_
  clear D0 e0 E0 hx0 us
  rintro y i K ⟨i0, i1, B, S, l, f, e, rest, sl, tl, xs, D, bu, rfl⟩
  rw [t_magpielaw16_DequeStacks_L1]
  by_cases c1 : i < ((z.len : Nat) : Int)
  case neg => exact wp_false (decide_eq_false c1) (stacks_J8 hI D ⟨rfl, rfl⟩)
  refine wp_true (decide_eq_true c1) ?_
  by_cases c2 : i < 200
  case neg => exact wp_false (decide_eq_false c2) (stacks_J8 hI D ⟨rfl, rfl⟩)
  refine wp_true (decide_eq_true c2) ?_
  refine wp_row hz (own_end D.lw.aw D.eq.2 hI) i0 c1 ?_
  refine w_Place (by decide) (by decide) ?_
  have v0 := Int.emod_nonneg (zs.getD i.toNat 0) (b := 1048576) (by decide)
  have v1 := Int.emod_lt_of_pos (zs.getD i.toNat 0) (b := 1048576) (by decide)
  generalize zs.getD i.toNat 0 % 1048576 = v at *
  rw [show w64 (Int.tdiv v 4) = v / 4 by rw [Int.tdiv_eq_ediv_of_nonneg v0, w64_in (by omega) (by omega)], show Int.tmod v 4 = v % 4 from Int.tmod_eq_emod_of_nonneg v0, ek, hW]
  refine w_remD (by omega) (by omega) ?_
  have w0 := Int.emod_nonneg (v / 4) (b := (W : Int)) (by omega)
  have w1 := Int.emod_lt_of_pos (v / 4) (b := (W : Int)) (by omega)
  obtain ⟨w, hw⟩ : ∃ w : Nat, v / 4 % (W : Int) = (w : Int) := ⟨(v / 4 % (W : Int)).toNat, by omega⟩
  rw [hw] at w0 w1 ⊢
  have hw : w < W := by omega
  have hw3 : w < 3 := by omega
  refine w_row3 D.lw.aw D.eq.2 hw3 ?_
  have lns : ((sl w).len : Int) = ((f w).xs.length : Int) := by rw [(D.fam.of w).len, D.xs w hw]
  have lb := (D.lw.di.ati hw).lb
  have ag : ∀ y' : Bool, DSAgain (L.set 448 fun vals H'' => ∃ (y0 : Bool) (y1 : Int), vals = [.bool y0, .int .i64 y1] ∧ (0 ≤ y1 ∧ y1 ≤ 200 ∧ ∃ B S l f e rest sl tl xs, DS A.ids H g (8 * W + 8 * d) at_ x q mq s sb W b B S l f e rest sl tl xs ∧ B.uses ≤ 1000 + 1600 * y1 ∧ H'' = own B ((slA3 b sl :: WL x q mq A.ids g at_ s e f W sb rest) ++ tl) H) ∧ (200 - y1).toNat < (200 - i).toNat) (fun u K => u = .bool true ∧ K = H) A.ids H g (8 * W + 8 * d) at_ x q mq s sb W b y' i := fun y' C S l f e rest sl tl xs D hu =>
    wp_again ⟨y', i + 1, rfl, ⟨by omega, by omega, C, S, l, f, e, rest, sl, tl, xs, D, hu, rfl⟩, by omega⟩
  by_cases h3 : v % 4 < 3
  · refine wp_true (decide_eq_true h3) ?_
    rw [← D.eq.1]
    refine D.lw.push hw (by omega) th (fun N C S' l' o' al cp now e' rest' P E1 => ?_) fun N C al e' rest' P E1 => ?_
    · have pu := P.us
      refine wp_false rfl (wp_false rfl ?_)
      have D1 : own C (WL x q mq A.ids g at_ s e' (updF f w ⟨o', (f w).t, (f w).xs ++ [w64 (1000 + v)], (f w).ob⟩) W sb rest') (putL (slA3 b sl :: tl) H) = own C ((slA3 b sl :: WL x q mq A.ids g at_ s e' (updF f w ⟨o', (f w).t, (f w).xs ++ [w64 (1000 + v)], (f w).ob⟩) W sb rest') ++ tl) H := by
        have ok : Ok A.ids H (keys (WL x q mq A.ids g at_ s e' (updF f w ⟨o', (f w).t, (f w).xs ++ [w64 (1000 + v)], (f w).ob⟩) W sb rest' ++ (slA3 b sl :: tl))) := by rw [keys_append]; exact E1.ok.join D.ot
        rw [← own_append]
        exact (own_perm (A := C) ok (perm_by fun c d c0 cd ca => by simp only [List.cons_append, cd, ca]; omega)).1
      rw [D1]
      exact stacks_J1 ⟨i0, c2⟩ n3 hw E1 D.ot D.fam D.xs (by omega) (by omega) (ag y)
    · have pu := P.us
      have D1 : DS A.ids H g (8 * W + 8 * d) at_ x q mq s sb W b C S l f e' rest' sl tl xs := ⟨E1, D.ot, D.fam, D.xs⟩
      have oc := opC_nat (f w).o.h
      have fl := sz4 oc.1 oc.2 P.full
      have fin : ∀ Lx : Prop, Lx ∨ True := fun _ => .inr trivial
      refine wp_false rfl (wp_true rfl ?_)
      have j1 : ∀ Lx : Hands, DSAgain Lx (fun u K => u = .bool true ∧ K = H) A.ids H g (8 * W + 8 * d) at_ x q mq s sb W b y i → wp Try.prog (t_magpielaw16_DequeStacks_J1 (some ⟨x, 0, none⟩) ⟨b, 0, none⟩ (y, i, ()) v (w : Int) (false, true, ())) Lx (own C (WL x q mq A.ids g at_ s e' f W sb rest') (putL (slA3 b sl :: tl) H)) fun u K => u = .bool true ∧ K = H := by
        intro Lx ag
        unfold t_magpielaw16_DequeStacks_J1
        refine wp_false rfl ?_
        rw [D1.eq.1]
        exact stacks_J0 ⟨i0, c2⟩ n3 hw D1 (by omega) ag
      rw [← lns] at fl
      by_cases n8 : ((sl w).len : Int) = 8
      · exact wp_false (ibnf n8) (j1 _ (ag y))
      refine wp_true (ibne n8) ?_
      by_cases n16 : ((sl w).len : Int) = 16
      · exact wp_false (ibnf n16) (j1 _ (ag y))
      refine wp_true (ibne n16) ?_
      by_cases n32 : ((sl w).len : Int) = 32
      · exact wp_false (ibnf n32) (j1 _ (ag y))
      refine wp_true (ibne n32) ?_
      exact wp_false (ibnf (by omega)) (j1 _ (ag y))
  · refine wp_false (decide_eq_false h3) ?_
    rw [← D.eq.1]
    refine D.lw.pop hw (by omega) fun N C y2 vv okk rest' P E1 => ?_
    have pu := P.us
    have pu : C.uses ≤ B.uses + 5 := by rw [pu]; split <;> omega
    have hk := P.hk
    refine wp_false rfl ?_
    have ok : Ok A.ids H (keys (WL x q mq A.ids g at_ s e (updF f w y2) W sb rest' ++ (slA3 b sl :: tl))) := by rw [keys_append]; exact E1.ok.join D.ot
    obtain ⟨p1, ok1⟩ := own_perm (A := C) (l' := (slA3 b sl :: WL x q mq A.ids g at_ s e (updF f w y2) W sb rest') ++ tl) ok (perm_by fun c d c0 cd ca => by simp only [List.cons_append, cd, ca]; omega)
    rw [← own_append, p1]
    have j3 : ∀ (Lx : Hands) (vv : Int), DSAgain Lx (fun u K => u = .bool true ∧ K = H) A.ids H g (8 * W + 8 * d) at_ x q mq s sb W b y i → wp Try.prog (t_magpielaw16_DequeStacks_J3 (some ⟨x, 0, none⟩) ⟨b, 0, none⟩ (y, i, ()) (w : Int) (sl w) (vv, okk, true, ())) Lx (own C ((slA3 b sl :: WL x q mq A.ids g at_ s e (updF f w y2) W sb rest') ++ tl) H) fun u K => u = .bool true ∧ K = H := fun Lx vv ag => stacks_J3 ⟨i0, c2⟩ n3 hw E1 D.ot D.fam D.xs rfl P.xs hk (by omega) (by omega) ag
    refine wp_false (by rw [lns]; show (!(okk == decide (((f w).xs.length : Int) > 0))) = false; rw [hk, show decide (((f w).xs.length : Int) > 0) = decide (0 < (f w).xs.length) from decide_eq_decide.2 (by omega)]; simp) ?_
    cases okk with
    | true =>
      have h0 : 0 < (f w).xs.length := of_decide_eq_true hk.symm
      refine wp_true rfl ?_
      refine w_row3 E1.aw ok1 hw3 ?_
      rw [show w64 ((((sl w).len : Nat) : Int) - 1) = (((f w).xs.length - 1 : Nat) : Int) by rw [w64_in (by omega) (by omega)]; omega]
      refine w_rdI E1.aw ok1 ((D.fam.of w).mono fun p hp => List.mem_append_right _ hp) (by omega) (by rw [D.xs w hw]; omega) ?_
      refine wp_false (ibnf (by rw [if_pos rfl, P.hv h0, D.xs w hw, Int.toNat_natCast])) ?_
      refine wp_false rfl ?_
      exact j3 _ _ (ag y)
    | false =>
      refine wp_false rfl (wp_true rfl (wp_false rfl ?_))
      exact j3 _ _ (ag y)
end Go.Proofs.Ytcjhakdopnamoaa

