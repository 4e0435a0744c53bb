/- Texts of this claim, one behind the other. -/
import Derived.Test.YtcjhakdopnamoaaCWFrameRooms3
set_option linter.unusedSimpArgs false
set_option linter.unusedVariables false
set_option linter.unusedVariables false
set_option linter.unusedSimpArgs false
set_option maxRecDepth 20000
namespace Go.Proofs.Ytcjhakdopnamoaa
open Go Go.Fw

/-! ### The slab's machines, whatever falls between their steps -/

section
variable {A B C : Ar} {p : Pl} {w m : Int} {S S' S2 : Sg}

/-- The lists' words turned. -/
theorem SL.ofRaw (X : SL A p w m S) {r : List Int} {ch' : Int → List Int} (hl : r.length = A.raw.length) (up : ∀ i, 4 * w + (m + 7) / 8 ≤ i → ({ A with raw := r } : Ar).rawF i = A.rawF i) (F : FL { A with raw := r } p w ((m + 7) / 8) ch')
    (hc : ∀ k b, b ∈ ch' k → S.cl b = k % 4) (ha : ∀ h, A.stF h ≠ 0 → ∀ k, opB h ∉ ch' k) : SL { A with raw := r } p w m { S with ch := ch' } := by
  obtain ⟨p1, p2, p3, p4, p5⟩ := X.places
  have wb := X.wb
  have mb := X.mb
  have st : ∀ h, ({ A with raw := r } : Ar).stF h = A.stF h := fun h => stF_slots rfl h
  refine ⟨F, X.pl, X.wb, X.mb, by show p.carved < (r.length : Int); rw [hl]; exact X.rl, X.wl, X.fr, ?_, X.cvb, ?_, X.gnb, X.gnz, X.blk, X.dis, hc, ?_, ?_, X.cr1, X.cr2, X.cnt, X.ncb, X.cnb⟩
  · rw [up _ (by omega)]; exact X.cvr
  · intro b h0 h1 h2; rw [up _ (by omega)]; exact X.gnr b h0 h1 h2
  · intro h hh
    rw [st] at hh
    exact ⟨(X.act h hh).1, ha h hh⟩
  · intro i hi
    obtain ⟨h, h1, h2, h3⟩ := X.bz i hi
    exact ⟨h, by rw [st]; exact h1, h2, h3⟩

/-- A base in nobody's list, that is not alive: somebody has it in hand. -/
def Ow (A : Ar) (S : Sg) (b : Int) : Prop := S.cl b ≠ -1 ∧ (∀ k, b ∉ S.ch k) ∧ ∀ h, A.stF h ≠ 0 → opB h ≠ b

/-- What a step leaves; mine: the base that the one who steps has in hand. -/
structure Ev (p : Pl) (w m : Int) (A : Ar) (S : Sg) (B : Ar) (S' : Sg) (mine : Int) : Prop where
  fe : FEv w ((m + 7) / 8) A B mine
  cl : ∀ b, S.cl b ≠ -1 → S'.cl b = S.cl b
  ow : ∀ b, Ow A S b → b ≠ mine → Ow B S' b
  st : ∀ h, opB h ≠ mine → B.stF h = A.stF h
  fa : B.fault = A.fault
  rl : B.raw.length = A.raw.length
  rw : ∀ i, p.carved < i → B.rawF i = A.rawF i
  us : A.uses ≤ B.uses

theorem Ev.later (X : SL A p w m S) {n mine : Int} (hn : 0 ≤ n) : Ev p w m A S (A.later n) S mine :=
  ⟨FEv.same (fun _ _ _ => rfl) X.F.wb.1 X.F.nb.1, fun _ _ => rfl, fun _ h _ => h, fun _ _ => rfl, rfl, rfl, fun _ _ => rfl, by show A.uses ≤ A.uses + n; omega⟩

theorem Ev.refl {mine : Int} : Ev p w m A S A S mine := ⟨⟨fun _ _ _ => ⟨Int.le_refl _, fun _ => rfl⟩, fun _ _ _ _ _ => rfl⟩, fun _ _ => rfl, fun _ h _ => h, fun _ _ => rfl, rfl, rfl, fun _ _ => rfl, Int.le_refl _⟩

/-- An alloc under way. -/
structure AlI (p : Pl) (w m : Int) (x : Al) (A : Ar) (S : Sg) : Prop where
  pl : x.pl = p
  who : 0 ≤ x.work ∧ x.work < w
  cls : 0 ≤ x.cls ∧ x.cls < 4
  lst : 0 ≤ x.lst ∧ x.lst ≤ w
  wh : x.what = 0 ∨ x.what = 1 ∨ x.what = 2 ∨ x.what = 3
  pops : x.what = 0 → x.lst < w ∧ ∃ k, 0 ≤ k ∧ k < 4 * w ∧ k % 4 = x.cls ∧ PoI p w ((m + 7) / 8) k x.po A
  swaps : x.what = 2 → 0 ≤ x.base ∧ x.base + sizeF x.cls ≤ m
  bears : x.what = 3 → Ow A S x.base ∧ S.cl x.base = x.cls
  h0 : x.h = 0
def Al.mine (x : Al) : Int := if x.what = 3 then x.base else -1

theorem AlI.new (X : SL A p w m S) {who c : Int} (wh : 0 ≤ who ∧ who < w) (hc : 0 ≤ c ∧ c < 4) : AlI p w m (newAl p who c) A S := by
  obtain ⟨p1, p2, p3, p4, p5⟩ := X.places
  have wb := X.wb
  have e := headF_eq (p := p) (w := who) (c := c) p1 ⟨wh.1, by omega⟩ hc
  exact ⟨rfl, wh, hc, ⟨Int.le_refl 0, by show 0 ≤ w; omega⟩, .inl rfl, fun _ => ⟨by show 0 < w; omega, 4 * who + c, by omega, by omega, by show (4 * who + c) % 4 = c; omega, PoI.new p1 ⟨by omega, by omega⟩ e⟩, fun h => (by cases h), fun h => (by cases h), rfl⟩

theorem AlI.keep {x : Al} (I : AlI p w m x A S) (X : SL A p w m S) {mine : Int} (E : Ev p w m A S B S' mine) (hm : ∀ j, mine ∉ S.ch j) (hb : x.what = 3 → x.base ≠ mine) : AlI p w m x B S' := by
  refine ⟨I.pl, I.who, I.cls, I.lst, I.wh, fun h => ?_, I.swaps, fun h => ?_, I.h0⟩
  · obtain ⟨a, k, k0, k1, k2, P⟩ := I.pops h
    exact ⟨a, k, k0, k1, k2, P.keep X.F k0 k1 hm E.fe⟩
  · obtain ⟨o, c⟩ := I.bears h
    exact ⟨E.ow _ o (hb h), by rw [E.cl _ o.1]; exact c⟩

theorem runs_one {M J : Type} {X : Mch M J} {x x' : M} {D D' : Ar} (h : X.Runs 1 x D x' D') : X.step x D = (x', D') := by
  cases h with
  | one h1 h2 h3 => rfl
  | more h1 h2 h3 h4 => cases h4

theorem count_setN : ∀ (n : Nat) {l : List Bool} {b : Nat}, b + n ≤ l.length → (setN l b true n).count true = l.count true + newsN l b n
  | 0, l, b, _ => rfl
  | n + 1, l, b, h => by
    have ih := count_setN n (l := l) (b := b) (by omega)
    show ((setN l b true n).set (b + n) true).count true = l.count true + newsN l b (n + 1)
    have hl : b + n < (setN l b true n).length := by rw [setN_length]; omega
    rw [List.count_set hl, ih]
    have hg : (setN l b true n)[b + n] = l.getD (b + n) false := by
      have := setN_get l b true n (b + n)
      rw [if_neg (by omega), List.getElem?_eq_getElem hl, List.getElem?_eq_getElem (by omega)] at this
      rw [List.getD_eq_getElem?_getD, List.getElem?_eq_getElem (by omega)]
      simpa using this
    rw [hg, show newsN l b (n + 1) = newsN l b n + (if l.getD (b + n) false then 0 else 1) from rfl]
    have hc : l.getD (b + n) false = true → 0 < l.count true + newsN l b n := fun e => by
      have : 0 < l.count true := by
        refine List.count_pos_iff.2 ?_
        rw [List.getD_eq_getElem?_getD, List.getElem?_eq_getElem (by omega)] at e
        rw [← (show l[b + n] = true from e)]; exact List.getElem_mem _
      omega
    cases e : l.getD (b + n) false
    · simp; omega
    · have := hc e
      simp; omega
theorem bornF_cc {A : Ar} (hw : A.wf) {h : Int} (hf : opB h + sizeF (opC h) ≤ A.words.length) (hc : A.nC = A.carved.count true) : (A.bornF h).nC = (A.bornF h).carved.count true := by
  have o := opC_nat h
  have hb := opB_nat h
  have szc := sz_pos (c := opC h) (by omega) (by omega)
  rw [(bornF_counts A hw h).1, bornF_carved, count_setN _ (by rw [hw.carved]; omega), hc]
  have : (A.carved.count true + newsN A.carved (opB h).toNat (sizeF (opC h)).toNat) ≤ 65536 := by
    rw [← count_setN _ (by rw [hw.carved]; omega)]
    refine Nat.le_trans List.count_le_length ?_
    rw [setN_length, hw.carved]; exact hw.words
  rw [w64_in (by omega) (by omega)]; omega

/-- How an alloc's step goes. -/
structure AlS (p : Pl) (w m : Int) (x : Al) (A : Ar) (S : Sg) (y : Al) (B : Ar) (S' : Sg) : Prop where
  wd : B.words = A.words
  sl : SL B p w m S'
  ev : Ev p w m A S B S' x.mine
  us : B.uses = A.uses + 1
  inv : y.what ≠ 4 → AlI p w m y B S'
  cls : y.cls = x.cls
  work : y.work = x.work
  acq : y.what = 3 → S.cl y.base = -1 ∨ ∃ k, y.base ∈ S.ch k
  nR : B.nR = A.nR
  cc : A.nC = A.carved.count true → B.nC = B.carved.count true
  res : (y.h = 0 ∧ (∀ k, B.stF k = A.stF k) ∧ B.nL = A.nL) ∨ (y.what = 4 ∧ x.what = 3 ∧ y.h ≠ 0 ∧ opB y.h = x.base ∧ opC y.h = x.cls ∧ openOk y.h = true ∧ A.stF y.h = 0 ∧ (∀ k, B.stF k = if k = y.h then 1 else A.stF k) ∧ B.nL = A.nL + sizeF x.cls)

theorem AlI.step {x : Al} (I : AlI p w m x A S) (X : SL A p w m S) (hwf : A.wf) (hu : A.uses ≤ 1000000) : ∃ S', AlS p w m x A S (x.step A).1 (x.step A).2 S' := by
  obtain ⟨p1, p2, p3, p4, p5⟩ := X.places
  have wb := X.wb
  have mb := X.mb
  have us := X.F.us
  have cvb := X.cvb
  have sz := sz_pos I.cls.1 I.cls.2
  have X1 := X.later (n := 1) (by omega)
  have E1 : ∀ mine, Ev p w m A S (A.later 1) S mine := fun mine => Ev.later X (by omega)
  have m0 : x.what ≠ 3 → x.mine = -1 := fun h => if_neg h
  rcases I.wh with h | h | h | h
  · obtain ⟨l0, k, k0, k1, k2, P⟩ := I.pops h
    have lst := I.lst
    have stp : x.step A = (if x.po.stepB A then Al.popd { x with po := x.po.stepM A } else { x with po := x.po.stepM A }, x.po.stepA A) := by unfold Al.step; rw [if_pos h]
    rw [stp]
    have el : w64 (x.lst + 1) = x.lst + 1 := w64_in (by omega) (by omega)
    rcases P.step X.F (by omega) k0 k1 with ⟨s1, s2, s3⟩ | ⟨s1, s2, s3, s4⟩ | ⟨s1, s2, b, l, s3, s4, s5⟩
    · rw [s1, s2, if_neg (by simp)]
      exact ⟨S, rfl, X1, E1 _, rfl, fun _ => ⟨I.pl, I.who, I.cls, I.lst, I.wh, fun _ => ⟨l0, k, k0, k1, k2, s3⟩, fun h2 => (by rw [show ({ x with po := x.po.stepM A } : Al).what = x.what from rfl, h] at h2; cases h2), fun h2 => (by rw [show ({ x with po := x.po.stepM A } : Al).what = x.what from rfl, h] at h2; cases h2), I.h0⟩, rfl, rfl, fun h2 => (by rw [show ({ x with po := x.po.stepM A } : Al).what = x.what from rfl, h] at h2; cases h2), rfl, fun h => h, .inl ⟨I.h0, fun _ => rfl, rfl⟩⟩
    · rw [s1, s2, if_pos rfl]
      unfold Al.popd
      rw [if_neg (by rw [s3]; simp)]
      dsimp only
      rw [el, I.pl, p5]
      have ei : imax w 1 = w := by unfold imax; split <;> omega
      rw [ei]
      by_cases c : x.lst + 1 ≥ w
      · rw [if_pos c]
        refine ⟨S, rfl, X1, E1 _, rfl, fun _ => ⟨rfl, I.who, I.cls, ⟨by show 0 ≤ x.lst + 1; omega, by show x.lst + 1 ≤ w; omega⟩, .inr (.inl rfl), fun h => (by cases h), fun h => (by cases h), fun h => (by cases h), I.h0⟩, rfl, rfl, fun h => (by cases h), rfl, fun h => h, .inl ⟨I.h0, fun _ => rfl, rfl⟩⟩
      · rw [if_neg c]
        have wh := I.who
        have ew : w64 (x.work + (x.lst + 1)) = x.work + (x.lst + 1) := w64_in (by omega) (by omega)
        rw [ew, Int.tmod_eq_emod_of_nonneg (by omega)]
        have q0 := Int.emod_nonneg (x.work + (x.lst + 1)) (b := w) (by omega)
        have q1 := Int.emod_lt_of_pos (x.work + (x.lst + 1)) (b := w) (by omega)
        have e := headF_eq (p := p) (w := (x.work + (x.lst + 1)) % w) (c := x.cls) p1 ⟨q0, by omega⟩ I.cls
        have cl := I.cls
        refine ⟨S, rfl, X1, E1 _, rfl, fun _ => ⟨rfl, I.who, I.cls, ⟨by show 0 ≤ x.lst + 1; omega, by show x.lst + 1 ≤ w; omega⟩, .inl h, fun _ => ⟨by show x.lst + 1 < w; omega, 4 * ((x.work + (x.lst + 1)) % w) + x.cls, by omega, by omega, by show (4 * ((x.work + (x.lst + 1)) % w) + x.cls) % 4 = x.cls; omega, PoI.new p1 ⟨by omega, by omega⟩ e⟩, fun h2 => (by rw [show x.what = 2 from h2] at h; cases h), fun h2 => (by rw [show x.what = 3 from h2] at h; cases h), I.h0⟩, rfl, rfl, fun h2 => (by rw [show x.what = 3 from h2] at h; cases h), rfl, fun h => h, .inl ⟨I.h0, fun _ => rfl, rfl⟩⟩
    · rw [s1, if_pos rfl]
      unfold Al.popd
      rw [if_pos s2]
      dsimp only
      rw [el, s4, s5]
      obtain ⟨F, fe⟩ := X.F.pop1 (by omega) s3
      have hmem : b ∈ S.ch k := by rw [s3]; simp
      have hcl := X.chc k b hmem
      have hsub : ∀ j y, y ∈ upd S.ch k l j → y ∈ S.ch j := fun j y hy => by
        unfold upd at hy; split at hy
        · rename_i e; rw [e, s3]; exact List.mem_cons_of_mem _ hy
        · exact hy
      have Y := X1.ofRaw (r := A.raw.set k.toNat (nextF (A.rawF k) (A.rawF (4 * w + b / 8)))) (ch' := upd S.ch k l) (by rw [List.length_set]; rfl) (fun i hi => by
        have := rawF_set1 (A := A.later 1) (i := k) (j := i) (v := nextF (A.rawF k) (A.rawF (4 * w + b / 8))) (X.F.hdOk k0 k1)
        rw [if_neg (by have := X.F.nb; omega)] at this
        exact this) F (fun j y hy => X.chc j y (hsub j y hy)) fun h hh j hj => (X.act h hh).2 j (hsub j _ hj)
      have hact : ∀ h, A.stF h ≠ 0 → opB h ≠ b := fun h hh e => (X.act h hh).2 k (by rw [e]; exact hmem)
      have hnin : ∀ j, b ∉ upd S.ch k l j := fun j hj => by
        unfold upd at hj; split at hj
        · have := X.F.nd k; rw [s3] at this; exact (List.nodup_cons.1 this).1 hj
        · rename_i e; exact e (X.F.dj j k b hj hmem)
      have lst := I.lst
      refine ⟨_, rfl, Y, ⟨?_, fun _ _ => rfl, fun c oc _ => ⟨oc.1, fun j hj => oc.2.1 j (hsub j c hj), oc.2.2⟩, fun _ _ => rfl, rfl, by show (A.raw.set _ _).length = _; rw [List.length_set], fun i hi => ?_, by show A.uses ≤ A.uses + 1; omega⟩, rfl, fun _ => ⟨I.pl, I.who, I.cls, ⟨by show 0 ≤ x.lst + 1; omega, by show x.lst + 1 ≤ w; omega⟩, .inr (.inr (.inr rfl)), fun h => (by cases h), fun h => (by cases h), fun _ => ⟨⟨by show S.cl b ≠ -1; omega, hnin, hact⟩, by show S.cl b = x.cls; omega⟩, I.h0⟩, rfl, rfl, fun _ => .inr ⟨k, hmem⟩, rfl, fun h => h, .inl ⟨I.h0, fun _ => rfl, rfl⟩⟩
      · rw [m0 (by omega)]; exact fe
      · have := rawF_set1 (A := A.later 1) (i := k) (j := i) (v := nextF (A.rawF k) (A.rawF (4 * w + b / 8))) (X.F.hdOk k0 k1)
        rw [if_neg (by omega)] at this
        exact this
  · have stp : x.step A = ({ x with base := A.rawF x.pl.carved, what := if A.rawF x.pl.carved > w64 (A.words.length - sizeF x.cls) then 4 else 2 }, A.touchR x.pl.carved) := by unfold Al.step; rw [if_neg (by omega), if_pos h]
    rw [stp, I.pl, X.cvr, X.wl, w64_in (x := m - sizeF x.cls) (by omega) (by omega), touchR_yes (show A.rawOk p.carved from ⟨by omega, X.rl⟩), tick_uses us (by omega)]
    by_cases c : S.cv > m - sizeF x.cls
    · rw [if_pos c]
      exact ⟨S, rfl, X1, E1 _, rfl, fun h => (h rfl).elim, rfl, rfl, fun h => (by cases h), rfl, fun h => h, .inl ⟨I.h0, fun _ => rfl, rfl⟩⟩
    · rw [if_neg c]
      exact ⟨S, rfl, X1, E1 _, rfl, fun _ => ⟨rfl, I.who, I.cls, I.lst, .inr (.inr (.inl rfl)), fun h => (by cases h), fun _ => ⟨cvb.1, by show S.cv + sizeF x.cls ≤ m; omega⟩, fun h => (by cases h), I.h0⟩, rfl, rfl, fun h => (by cases h), rfl, fun h => h, .inl ⟨I.h0, fun _ => rfl, rfl⟩⟩
  · obtain ⟨b0, b1⟩ := I.swaps h
    have stp : x.step A = ({ x with what := if A.swapRb x.pl.carved x.base then 3 else 1 }, A.swapR x.pl.carved x.base (w64 (x.base + sizeF x.cls))) := by unfold Al.step; rw [if_neg (by omega), if_neg (by omega), if_pos h]
    have okc : A.rawOk p.carved := ⟨by omega, X.rl⟩
    have tk : A.tick = A.later 1 := tick_uses us (by omega)
    rw [stp, I.pl, w64_in (x := x.base + sizeF x.cls) (by omega) (by omega)]
    by_cases c : A.rawF p.carved = x.base
    · have sw : A.swapRb p.carved x.base = true := decide_eq_true ⟨okc, by rw [getD_rawF okc]; exact c⟩
      have sa : A.swapR p.carved x.base (x.base + sizeF x.cls) = (A.later 1).setR p.carved.toNat (S.cv + sizeF x.cls) := by
        unfold Ar.swapR; rw [if_pos okc, if_pos (by rw [getD_rawF okc]; exact c), tk, ← c, X.cvr]
      rw [sw, sa, if_pos rfl]
      have ec : x.base = S.cv := by rw [← c]; exact X.cvr
      have Y := X.carve (by omega) I.cls.1 I.cls.2 (by omega)
      have hcl : S.cl S.cv = -1 := by
        by_cases h : S.cl S.cv = -1
        · exact h
        · have := X.blk _ h; have := sz_pos this.1 this.2.1; omega
      have hr : ∀ i, ((A.later 1).setR p.carved.toNat (S.cv + sizeF x.cls)).rawF i = if i = p.carved then S.cv + sizeF x.cls else A.rawF i := fun i => rawF_set1 (A := A.later 1) okc
      have nin : ∀ j, S.cv ∉ S.ch j := fun j hj => by
        have := X.chc j _ hj
        have := X.F.rg j (by intro e; rw [e] at hj; cases hj); omega
      have nac : ∀ h, A.stF h ≠ 0 → opB h ≠ S.cv := fun h hh e => by
        have := (X.act h hh).1
        rw [e, hcl] at this
        have := (opC_nat h).1; omega
      refine ⟨_, rfl, Y, ⟨?_, fun d hd => ?_, fun d od _ => ⟨?_, od.2.1, od.2.2⟩, fun _ _ => rfl, rfl, by show (A.raw.set _ _).length = _; rw [List.length_set], fun i hi => by rw [hr, if_neg (by omega)], by show A.uses ≤ A.uses + 1; omega⟩, rfl, fun _ => ⟨rfl, I.who, I.cls, I.lst, .inr (.inr (.inr rfl)), fun h => (by cases h), fun h => (by cases h), fun _ => ⟨⟨?_, ?_, ?_⟩, ?_⟩, I.h0⟩, rfl, rfl, fun _ => .inl ?_, rfl, fun h => h, .inl ⟨I.h0, fun _ => rfl, rfl⟩⟩
      · exact FEv.same (fun i i0 i1 => by rw [hr, if_neg (by omega)]) (by omega) (by omega)
      · show updI S.cl S.cv x.cls d = _
        unfold updI; rw [if_neg (fun e => hd (by rw [e]; exact hcl))]
      · show updI S.cl S.cv x.cls d ≠ -1
        unfold updI; rw [if_neg (fun e => od.1 (by rw [e]; exact hcl))]; exact od.1
      · show updI S.cl S.cv x.cls x.base ≠ -1
        rw [ec]; unfold updI; rw [if_pos rfl]; have := I.cls; omega
      · show ∀ j, x.base ∉ S.ch j
        rw [ec]; exact nin
      · show ∀ h, A.stF h ≠ 0 → opB h ≠ x.base
        rw [ec]; exact nac
      · show updI S.cl S.cv x.cls x.base = _
        rw [ec]; unfold updI; rw [if_pos rfl]
      · show S.cl x.base = -1
        rw [ec]; exact hcl
    · have sw : A.swapRb p.carved x.base = false := decide_eq_false fun e => c (by rw [← getD_rawF okc]; exact e.2)
      have sa : A.swapR p.carved x.base (x.base + sizeF x.cls) = A.later 1 := by
        unfold Ar.swapR; rw [if_pos okc, if_neg (by rw [getD_rawF okc]; exact c), tk]
      rw [sw, sa, if_neg (by simp)]
      exact ⟨S, rfl, X1, E1 _, rfl, fun _ => ⟨rfl, I.who, I.cls, I.lst, .inr (.inl rfl), fun h => (by cases h), fun h => (by cases h), fun h => (by cases h), I.h0⟩, rfl, rfl, fun h => (by cases h), rfl, fun h => h, .inl ⟨I.h0, fun _ => rfl, rfl⟩⟩
  · obtain ⟨o, oc⟩ := I.bears h
    have hx0 := I.h0
    have lst := I.lst
    have hc1 : x.cls ≠ -1 := by have := I.cls; omega
    obtain ⟨v1, ⟨v2, v3, v4, v5⟩, bo, Y, yst, ynL⟩ := X.bear hwf (by omega) oc hc1 o.2.1 o.2.2
    have ipl := I.pl
    obtain ⟨xpl, xwork, xcls, xlst, xwhat, xbase, xh, xpo⟩ := x
    simp only at h hx0 ipl oc hc1 v1 v2 v3 v4 v5 bo Y yst ynL lst o
    subst h; subst hx0; subst ipl
    have r1 := bear_last X (by omega) (who := xwork) (j := xlst) (y := xpo) ⟨lst.1, by omega⟩ oc hc1 bo
    have stp : Al.step ⟨xpl, xwork, xcls, xlst, 3, xbase, 0, xpo⟩ A = _ := runs_one r1
    rw [stp]
    have gb := X.gnb xbase
    have hne : packF xbase (S.gn xbase + 1) xcls ≠ 0 := fun e => by
      rw [e] at v3
      have : opG 0 = 0 := by decide
      omega
    have off : Off xpl.carved 0 ((A.later 1).setR (xpl.gens + xbase / 8).toNat (S.gn xbase + 1)) (((A.later 1).setR (xpl.gens + xbase / 8).toNat (S.gn xbase + 1)).bornF (packF xbase (S.gn xbase + 1) xcls)) :=
      Off.bornF (setR_wf (later_wf hwf 1) _ _) X.fr bo.2.1
    have blk := X.blk xbase (by rw [oc]; exact hc1)
    have szb := sz_pos blk.1 blk.2.1
    have okg : (A.later 1).rawOk (xpl.gens + xbase / 8) := ⟨by omega, by have := X.rl; show _ < (A.raw.length : Int); omega⟩
    have hr : ∀ i, ((A.later 1).setR (xpl.gens + xbase / 8).toNat (S.gn xbase + 1)).rawF i = if i = xpl.gens + xbase / 8 then S.gn xbase + 1 else A.rawF i := fun i => rawF_set1 okg
    have rb : ∀ i, (((A.later 1).setR (xpl.gens + xbase / 8).toNat (S.gn xbase + 1)).bornF (packF xbase (S.gn xbase + 1) xcls)).rawF i = if i = xpl.gens + xbase / 8 then S.gn xbase + 1 else A.rawF i := fun i => by
      rw [rawF_congr (bornF_raw _ _) i, hr]
    have hs0 : A.stF (packF xbase (S.gn xbase + 1) xcls) = 0 := by
      by_cases e : A.stF (packF xbase (S.gn xbase + 1) xcls) = 0
      · exact e
      · exact (o.2.2 _ e v2).elim
    refine ⟨_, by rw [off.wd]; rfl, Y, ⟨?_, fun _ _ => rfl, fun d od hd => ⟨od.1, od.2.1, fun h hh => ?_⟩, fun h hh => ?_, ?_, ?_, fun i hi => ?_, ?_⟩, ?_, fun h => (h rfl).elim, rfl, rfl, fun h => (by cases h), ?_, fun h => ?_, .inr ⟨rfl, rfl, hne, v2, v4, v5, hs0, yst, ynL⟩⟩
    · exact FEv.same (fun i i0 i1 => by rw [rb, if_neg (by omega)]) (by omega) (by omega)
    · rw [yst] at hh
      split at hh
      · rename_i e; rw [e, v2]
        intro e2; exact hd (by show d = if (3 : Int) = 3 then xbase else -1; rw [if_pos rfl]; exact e2.symm)
      · exact od.2.2 h hh
    · rw [yst, if_neg]
      intro e
      rw [e, v2] at hh
      exact hh (by show xbase = if (3 : Int) = 3 then xbase else -1; rw [if_pos rfl])
    · rw [off.fa]; rfl
    · rw [off.rl]; show (A.raw.set _ _).length = _; rw [List.length_set]
    · rw [rb, if_neg (by omega)]
    · rw [off.us]; show A.uses ≤ A.uses + 1 + 0; omega
    · rw [off.us]; show A.uses + 1 + 0 = _; omega
    · exact (bornF_counts _ (setR_wf (later_wf hwf 1) _ _) _).2.2.2
    · exact bornF_cc (setR_wf (later_wf hwf 1) _ _) bo.2.1 h

/-- A free under way. -/
structure FeI (p : Pl) (w m who : Int) (x : Fe) (A : Ar) (S : Sg) : Prop where
  st : A.stF x.h = 2
  nd : x.done = false
  pu : PuI p w ((m + 7) / 8) (4 * who + opC x.h) (opB x.h) x.pu A

theorem FeI.new (X : SL A p w m S) {who h : Int} (wh : 0 ≤ who ∧ who < w) (hs : A.stF h = 2) : FeI p w m who (newFe p who h) A S := by
  obtain ⟨p1, p2, p3, p4, p5⟩ := X.places
  have wb := X.wb
  have mb := X.mb
  have hC := opC_nat h
  obtain ⟨a1, a2⟩ := X.act h (by rw [hs]; decide)
  obtain ⟨b1, b2, b3, b4, b5⟩ := X.blk (opB h) (by omega)
  have sz := sz_pos b1 b2
  have cvb := X.cvb
  have e := headF_eq (p := p) (w := who) (c := opC h) p1 ⟨wh.1, by omega⟩ ⟨by omega, by omega⟩
  exact ⟨hs, rfl, PuI.new e ⟨b3, b4, by show opB h / 8 < (m + 7) / 8; omega⟩⟩
theorem FeI.keep {who : Int} {x : Fe} (I : FeI p w m who x A S) {mine : Int} (E : Ev p w m A S B S' mine) (hm : opB x.h ≠ mine) : FeI p w m who x B S' :=
  ⟨by rw [E.st _ hm]; exact I.st, I.nd, I.pu.keep hm E.fe⟩

structure FeS (p : Pl) (w m who : Int) (x : Fe) (A : Ar) (S : Sg) (y : Fe) (B : Ar) (S' : Sg) : Prop where
  wd : B.words = A.words
  sl : SL B p w m S'
  ev : Ev p w m A S B S' (opB x.h)
  us : B.uses = A.uses + 1
  h : y.h = x.h
  nL : B.nL = A.nL
  cc : A.nC = A.carved.count true → B.nC = B.carved.count true
  res : (y.done = false ∧ FeI p w m who y B S' ∧ (∀ k, B.stF k = A.stF k) ∧ B.nR = A.nR) ∨ (y.done = true ∧ (∀ k, B.stF k = if k = x.h then 0 else A.stF k) ∧ B.nR = A.nR - sizeF (opC x.h))

theorem diedF_parts (A : Ar) (h : Int) : (A.diedF h).raw = A.raw ∧ (A.diedF h).words = A.words ∧ (A.diedF h).fault = A.fault ∧ (A.diedF h).uses = A.uses ∧ (A.diedF h).nC = A.nC ∧ (A.diedF h).carved = A.carved := by
  unfold Ar.diedF Ar.turnF; split <;> exact ⟨rfl, rfl, rfl, rfl, rfl, rfl⟩
theorem died_raw (A : Ar) (r : List Int) (h : Int) : ({ A with raw := r } : Ar).diedF h = { A.diedF h with raw := r } := by
  have e : ({ A with raw := r } : Ar).stF h = A.stF h := stF_slots rfl h
  unfold Ar.diedF Ar.turnF Ar.turnN
  rw [e]
  by_cases hs : A.stF h = 2
  · simp only [if_pos hs]; rfl
  · simp only [if_neg hs]; rfl

theorem FeI.step {who : Int} {x : Fe} (I : FeI p w m who x A S) (X : SL A p w m S) (hwf : A.wf) (hu : A.uses ≤ 1000000) (wh : 0 ≤ who ∧ who < w) : ∃ S', FeS p w m who x A S (x.step A).1 (x.step A).2 S' := by
  obtain ⟨p1, p2, p3, p4, p5⟩ := X.places
  have wb := X.wb
  have mb := X.mb
  have us := X.F.us
  have hC := opC_nat x.h
  obtain ⟨a1, a2⟩ := X.act x.h (by rw [I.st]; decide)
  have szh := sz_pos (c := opC x.h) (by omega) (by omega)
  have X1 := X.later (n := 1) (by omega)
  have k0 : 0 ≤ 4 * who + opC x.h := by omega
  have k1 : 4 * who + opC x.h < 4 * w := by omega
  rcases I.pu.step X.F (by omega) k0 k1 a2 with ⟨s1, s2, s3, s4, s5⟩ | ⟨s1, s3, s4, s5⟩
  · have stp : x.step A = ({ x with pu := x.pu.stepM A }, x.pu.stepA A) := by unfold Fe.step; rw [if_neg (by rw [I.nd]; simp), if_neg (by rw [s1]; simp)]
    rw [stp]
    obtain ⟨r, er, hl⟩ := s5.eq
    have up := s5.up
    dsimp only
    rw [er] at s2 s3 s4 up ⊢
    have Y := X1.ofRaw (r := r) (ch' := S.ch) hl up s3 X.chc fun h hh => (X.act h hh).2
    exact ⟨_, rfl, Y, ⟨s4, fun _ _ => rfl, fun _ h _ => h, fun _ _ => rfl, rfl, hl, fun i hi => up i (by omega), by show A.uses ≤ A.uses + 1; omega⟩, rfl, rfl, rfl, fun h => h, .inl ⟨I.nd, ⟨I.st, I.nd, s2⟩, fun _ => rfl, rfl⟩⟩
  · have stp : x.step A = ({ x with pu := x.pu.stepM A, done := true }, (x.pu.stepA A).diedF x.h) := by unfold Fe.step; rw [if_neg (by rw [I.nd]; simp), if_pos s1]
    rw [stp]
    obtain ⟨r, er, hl⟩ := s5.eq
    have up := s5.up
    dsimp only
    rw [er] at s3 s4 up ⊢
    have cnb := X.cnb
    obtain ⟨D, dst, dL, dR⟩ := X1.die (later_wf hwf 1) (by show A.uses + 1 ≤ _; omega) (h := x.h) I.st (by show -(64 * (A.uses + 1 + 1)) ≤ A.nR - _; omega)
    have parts := diedF_parts (A.later 1) x.h
    obtain ⟨q1, q2, q3, q4, q5, q6⟩ := parts
    have q1 : ((A.later 1).diedF x.h).raw = A.raw := q1
    have q2 : ((A.later 1).diedF x.h).words = A.words := q2
    have q3 : ((A.later 1).diedF x.h).fault = A.fault := q3
    have q4 : ((A.later 1).diedF x.h).uses = A.uses + 1 := q4
    have q5 : ((A.later 1).diedF x.h).nC = A.nC := q5
    have q6 : ((A.later 1).diedF x.h).carved = A.carved := q6
    have eD : ({ A with raw := r, uses := A.uses + 1 } : Ar).diedF x.h = { (A.later 1).diedF x.h with raw := r } := died_raw (A.later 1) r x.h
    rw [eD]
    clear eD
    have dst : ∀ k, ((A.later 1).diedF x.h).stF k = if k = x.h then 0 else A.stF k := dst
    have dL : ((A.later 1).diedF x.h).nL = A.nL := dL
    have dR : ((A.later 1).diedF x.h).nR = A.nR - sizeF (opC x.h) := dR
    generalize (A.later 1).diedF x.h = D0 at *
    have F2 : FL { D0 with raw := r } p w ((m + 7) / 8) (upd S.ch (4 * who + opC x.h) (opB x.h :: S.ch (4 * who + opC x.h))) :=
      s3.same (fun i => rawF_congr rfl i) rfl (by show 0 ≤ (D0).uses; rw [q4]; omega) fun k h0 h1 => by
        show _ ≤ (D0).uses
        rw [q4]
        exact (s3.hd k h0 h1).2
    have rr : ∀ i, ({ D0 with raw := r } : Ar).rawF i = ({ A with raw := r, uses := A.uses + 1 } : Ar).rawF i := fun i => rawF_congr rfl i
    have noact : ∀ h, (D0).stF h ≠ 0 → opB h ≠ opB x.h := fun h hh e => by
      rw [dst] at hh
      split at hh
      · exact hh rfl
      · rename_i hn
        exact hh (stF_one (A := A) (h := x.h) (k := h) (by rw [I.st]; decide) e hn)
    have Y := D.ofRaw (r := r) (by rw [q1]; exact hl) (fun i hi => by
      rw [rr, up i hi]; exact (rawF_congr q1 i).symm) F2 (fun k b hb => by
        unfold upd at hb; split at hb
        · rename_i e
          rcases List.mem_cons.1 hb with rfl | hb
          · rw [a1, e]; omega
          · rw [e]; exact X.chc _ b hb
        · exact X.chc k b hb) fun h hh k hk => by
        have hh' : A.stF h ≠ 0 := fun e => hh (by rw [dst]; split; rfl; exact e)
        unfold upd at hk; split at hk
        · rcases List.mem_cons.1 hk with e | hk
          · exact noact h hh e
          · exact (X.act h hh').2 _ hk
        · exact (X.act h hh').2 _ hk
    have yst : ∀ k, ({ D0 with raw := r } : Ar).stF k = if k = x.h then 0 else A.stF k := fun k => by
      rw [show ({ D0 with raw := r } : Ar).stF k = (D0).stF k from stF_slots rfl k, dst]
    refine ⟨_, q2, Y, ⟨⟨fun k h0 h1 => by rw [rr]; exact s4.hd k h0 h1, fun b h0 h1 h2 h3 => by rw [rr]; exact s4.lk b h0 h1 h2 h3⟩, fun _ _ => rfl, fun b ob hb => ⟨ob.1, fun k hk => ?_, fun h hh => ?_⟩, fun h hh => ?_, q3, hl, fun i hi => by rw [rr]; exact up i (by omega), by show A.uses ≤ (D0).uses; rw [q4]; omega⟩, q4, rfl, dL, fun h => ?_, .inr ⟨rfl, yst, dR⟩⟩
    · have hk : b ∈ upd S.ch (4 * who + opC x.h) (opB x.h :: S.ch (4 * who + opC x.h)) k := hk
      unfold upd at hk; split at hk
      · rcases List.mem_cons.1 hk with e | hk
        · exact hb e
        · exact ob.2.1 _ hk
      · exact ob.2.1 _ hk
    · rw [yst] at hh
      split at hh
      · exact (hh rfl).elim
      · exact ob.2.2 h hh
    · rw [yst, if_neg (fun e => hh (by rw [e]))]
    · show D0.nC = D0.carved.count true
      rw [q5, q6]; exact h
end
end Go.Proofs.Ytcjhakdopnamoaa

set_option linter.unusedVariables false
set_option linter.unusedSimpArgs false
set_option maxRecDepth 20000
namespace Go.Proofs.Ytcjhakdopnamoaa
open Go Go.Fw

section
variable {A B : Ar} {p : Pl} {w m : Int} {S S' : Sg}

/-- Nothing of the slab was turned. -/
structure Qu (p : Pl) (w m : Int) (A : Ar) (S : Sg) (B : Ar) : Prop where
  sl : SL B p w m S
  ev : Ev p w m A S B S (-1)
  st : ∀ h, B.stF h = A.stF h
  nL : B.nL = A.nL
  nR : B.nR = A.nR
  cc : A.nC = A.carved.count true → B.nC = B.carved.count true

theorem Qu.later (X : SL A p w m S) {n : Int} (hn : 0 ≤ n) : Qu p w m A S (A.later n) := ⟨X.later hn, Ev.later X hn, fun _ => rfl, rfl, rfl, fun h => h⟩

/-- A slot's word. -/
theorem Qu.store (X : SL A p w m S) (hu : A.uses ≤ 1000000000) {h off v : Int} (hi : A.inOk h off) : Qu p w m A S (A.storeF h off v) ∧ (A.storeF h off v).uses = A.uses + 1 := by
  have us := X.F.us
  have e : A.storeF h off v = (A.later 1).setW (pos h off) v := by rw [storeF_yes hi, tick_uses us (by omega)]
  rw [e]
  have st : ∀ k, ((A.later 1).setW (pos h off) v).stF k = A.stF k := fun k => stF_slots rfl k
  have X2 : SL ((A.later 1).setW (pos h off) v) p w m S := X.congr (fun _ _ _ => rfl) rfl (by show A.uses ≤ A.uses + 1; omega) (by show (A.words.set _ _).length = _; rw [List.length_set]) st rfl rfl rfl rfl rfl rfl rfl rfl
  exact ⟨⟨X2, ⟨FEv.same (fun _ _ _ => rfl) X.F.wb.1 X.F.nb.1, fun _ _ => rfl, fun b o _ => ⟨o.1, o.2.1, fun k hk => o.2.2 k (by rw [← st k]; exact hk)⟩, fun k _ => st k, rfl, rfl, fun _ _ => rfl, by show A.uses ≤ A.uses + 1; omega⟩, st, rfl, rfl, fun h => h⟩, rfl⟩

/-- A raw word behind the slab's. -/
theorem Qu.storeR (X : SL A p w m S) (hu : A.uses ≤ 1000000000) {i v : Int} (h : p.carved < i ∧ i < A.raw.length) :
    SL (A.storeR i v) p w m S ∧ FEv w ((m + 7) / 8) A (A.storeR i v) (-1) ∧ (∀ h, (A.storeR i v).stF h = A.stF h) ∧ (A.storeR i v).nL = A.nL ∧ (A.storeR i v).nR = A.nR ∧ (A.storeR i v).words = A.words ∧ (A.storeR i v).fault = A.fault ∧ (A.storeR i v).uses = A.uses + 1 ∧ (A.storeR i v).raw.length = A.raw.length ∧ ∀ j, (A.storeR i v).rawF j = if j = i then v else A.rawF j := by
  obtain ⟨p1, p2, p3, p4, p5⟩ := X.places
  have wb := X.wb
  have mb := X.mb
  have us := X.F.us
  have ok : A.rawOk i := ⟨by omega, h.2⟩
  have e : A.storeR i v = (A.later 1).setR i.toNat v := by
    unfold Ar.storeR
    rw [if_pos ok, tick_uses us (by omega)]
  rw [e]
  have rf : ∀ j, ((A.later 1).setR i.toNat v).rawF j = if j = i then v else A.rawF j := fun j => rawF_set1 (A := A.later 1) ok
  refine ⟨X.congr (fun j h0 h1 => by rw [rf, if_neg (by omega)]) (by show (A.raw.set _ _).length = _; rw [List.length_set]) (by show A.uses ≤ A.uses + 1; omega) rfl (fun h => stF_slots rfl h) rfl rfl rfl rfl rfl rfl rfl rfl,
    FEv.same (fun j j0 j1 => by rw [rf, if_neg (by omega)]) (by omega) (by omega), fun h => stF_slots rfl h, rfl, rfl, rfl, rfl, rfl, by show (A.raw.set _ _).length = _; rw [List.length_set], rf⟩

/-- One is retired. -/
theorem Ev.retire (X : SL A p w m S) (hwf : A.wf) (hu : A.uses ≤ 1000000000) {h : Int} (hs : A.stF h = 1) (cn : -(64 * (A.uses + 1)) ≤ A.nL - sizeF (opC h) ∧ A.nR + sizeF (opC h) ≤ 64 * (A.uses + 1)) :
    SL (A.retireF h) p w m S ∧ (∀ k, (A.retireF h).stF k = if k = h then 2 else A.stF k) ∧ (A.retireF h).nL = A.nL - sizeF (opC h) ∧ (A.retireF h).nR = A.nR + sizeF (opC h) ∧ Ev p w m A S (A.retireF h) S (opB h) ∧
      (A.nC = A.carved.count true → (A.retireF h).nC = (A.retireF h).carved.count true) ∧ (A.retireF h).uses = A.uses ∧ (A.retireF h).words = A.words ∧ (A.retireF h).fault = A.fault := by
  obtain ⟨Y, yst, yL, yR⟩ := X.retire hu hs cn
  have parts : (A.retireF h).raw = A.raw ∧ (A.retireF h).words = A.words ∧ (A.retireF h).fault = A.fault ∧ (A.retireF h).uses = A.uses ∧ (A.retireF h).nC = A.nC ∧ (A.retireF h).carved = A.carved := by
    unfold Ar.retireF Ar.turnF; split <;> exact ⟨rfl, rfl, rfl, rfl, rfl, rfl⟩
  obtain ⟨q1, q2, q3, q4, q5, q6⟩ := parts
  refine ⟨Y, yst, yL, yR, ⟨FEv.same (fun i _ _ => rawF_congr q1 i) X.F.wb.1 X.F.nb.1, fun _ _ => rfl, fun b o hb => ⟨o.1, o.2.1, fun k hk => ?_⟩, fun k hk => ?_, q3, by rw [q1], fun i _ => rawF_congr q1 i, by rw [q4]; exact Int.le_refl _⟩, fun h => by rw [q5, q6]; exact h, q4, q2, q3⟩
  · rw [yst] at hk
    split at hk
    · rename_i e; rw [e]; exact fun e2 => hb e2.symm
    · exact o.2.2 k hk
  · rw [yst, if_neg (fun e => hk (by rw [e]))]
end
end Go.Proofs.Ytcjhakdopnamoaa

set_option linter.unusedVariables false
set_option linter.unusedSimpArgs false
set_option maxRecDepth 20000
namespace Go.Proofs.Ytcjhakdopnamoaa
open Go Go.Fw

section
variable {A B C : Ar} {g : Gd} {m : Int} {S S' : Sg} {l : Int → List (Int × Int)} {k h i v : Int} {p : Pl} {w : Int}

theorem loadF_same (hw : B.words = A.words) (hs : B.stF h = A.stF h) : B.loadF h i = A.loadF h i := by
  unfold Ar.loadF
  by_cases hi : A.inOk h i
  · have hb : B.inOk h i := ⟨by rw [hs]; exact hi.1, hi.2⟩
    rw [if_pos hi, if_pos hb, hw]
  · have hb : ¬ B.inOk h i := fun hb => hi ⟨by rw [← hs]; exact hb.1, hb.2⟩
    rw [if_neg hi, if_neg hb]

theorem pos_apart (X : SL A p w m S) {h k i j : Int} (hi : A.inOk h i) (hk : A.inOk k j) : pos k j = pos h i ↔ k = h ∧ j = i := by
  obtain ⟨h1, h2, h3⟩ := hi
  obtain ⟨k1, k2, k3⟩ := hk
  obtain ⟨ah, _⟩ := X.act h h1
  obtain ⟨ak, _⟩ := X.act k k1
  have ch := opC_nat h
  have ck := opC_nat k
  have bh := X.blk (opB h) (by omega)
  have bk := X.blk (opB k) (by omega)
  constructor
  · intro e
    unfold pos at e
    by_cases hk : k = h
    · subst hk; exact ⟨rfl, by omega⟩
    · exfalso
      by_cases hb : opB k = opB h
      · exact k1 (stF_one h1 hb hk)
      · rcases Int.lt_or_gt_of_ne hb with hlt | hlt
        · have := X.dis (opB k) (opB h) (by omega) (by omega) hlt
          rw [ak] at this; omega
        · have := X.dis (opB h) (opB k) (by omega) (by omega) hlt
          rw [ah] at this; omega
  · rintro ⟨rfl, rfl⟩; rfl

/-- A word of a slot is stored. -/
structure Stored (A : Ar) (g : Gd) (m : Int) (S : Sg) (l : Int → List (Int × Int)) (h i v : Int) (B : Ar) : Prop where
  gi : GI B g m S l
  al : Ar.Alike A B
  st : ∀ k, B.stF k = A.stF k
  nL : B.nL = A.nL
  nR : B.nR = A.nR
  us : B.uses = A.uses + 1
  rf : ∀ i, B.rawF i = A.rawF i
  rl : B.raw.length = A.raw.length
  ld : ∀ k j, A.inOk k j → B.loadF k j = if k = h ∧ j = i then v else A.loadF k j
theorem GI.store (X : GI A g m S l) (hu : A.uses ≤ 1000000000) (hi : A.inOk h i) : Stored A g m S l h i v (A.storeF h i v) := by
  obtain ⟨Q, us⟩ := Qu.store X.sl hu (v := v) hi
  have e : A.storeF h i v = (A.tick).setW (pos h i) v := storeF_yes hi v
  have rf : ∀ j, (A.storeF h i v).rawF j = A.rawF j := fun j => by rw [e]; rfl
  have rl : (A.storeF h i v).raw.length = A.raw.length := by rw [e]; rfl
  have fa : (A.storeF h i v).fault = A.fault := by rw [e]; rfl
  refine ⟨⟨storeF_wf X.wf h i v, Q.sl, fa.trans X.fa, X.ta, X.wb, by rw [rl]; exact X.rl, by rw [rl]; exact X.rb, fun k x hx => by rw [Q.st]; exact X.st k x hx, X.nd, X.dj, X.rg, Q.nR.trans X.nR, by rw [Q.nL]; exact X.l0, ?_, X.ze, fun he => ?_, fun he => by rw [rf]; exact X.es he⟩, storeF_alike A h i v, Q.st, Q.nL, Q.nR, us, rf, rl, fun k j hk => ?_⟩
  · have := X.nu; have := Q.nL; have := Q.nR; omega
  · have := X.eb he; rw [rf]; omega
  · rw [loadF_storeF X.wf hi hk]
    by_cases e : pos k j = pos h i
    · rw [if_pos e, if_pos ((pos_apart X.sl hi hk).1 e)]
    · rw [if_neg e, if_neg (fun h => e ((pos_apart X.sl hi hk).2 h))]

/-- A touch. -/
theorem touch_later (X : GI A g m S l) (hu : A.uses ≤ 1000000000) (hi : A.inOk h i) : A.touch h i = A.later 1 := by
  rw [touch_yes hi]
  have us := X.sl.F.us
  unfold Ar.tick Ar.later
  rw [w64_in (by omega) (by omega)]

/-- Words put into a new slot, one by one. -/
structure Wr (B : Ar) (g : Gd) (m : Int) (S : Sg) (l : Int → List (Int × Int)) (h : Int) (w : Nat → Int) (n : Nat) (C : Ar) : Prop where
  gi : GI C g m S l
  al : Ar.Alike B C
  st : ∀ k, C.stF k = B.stF k
  nL : C.nL = B.nL
  nR : C.nR = B.nR
  us : C.uses = B.uses + n
  rf : ∀ i, C.rawF i = B.rawF i
  rl : C.raw.length = B.raw.length
  ld : ∀ j : Nat, j < n → C.loadF h j = w j
  lo : ∀ k j, B.inOk k j → k ≠ h → C.loadF k j = B.loadF k j
theorem Wr.nil (X : GI B g m S l) (w : Nat → Int) : Wr B g m S l h w 0 B := ⟨X, .refl B, fun _ => rfl, rfl, rfl, by omega, fun _ => rfl, rfl, fun j hj => by omega, fun _ _ _ _ => rfl⟩
theorem Wr.next {w : Nat → Int} {n : Nat} (W : Wr B g m S l h w n C) (hu : C.uses ≤ 1000000000) (hi : B.inOk h n) : Wr B g m S l h w (n + 1) (C.storeF h n (w n)) := by
  have inS : ∀ k j, B.inOk k j → C.inOk k j := fun k j hk => (inOk_st W.st).2 hk
  have Z := W.gi.store (v := w n) hu (inS h n hi)
  have us := W.us
  have zu := Z.us
  refine ⟨Z.gi, W.al.trans Z.al, fun k => (Z.st k).trans (W.st k), Z.nL.trans W.nL, Z.nR.trans W.nR, by omega, fun i => (Z.rf i).trans (W.rf i), Z.rl.trans W.rl, fun j hj => ?_, fun k j hk hne => ?_⟩
  · have hij : B.inOk h j := ⟨hi.1, by omega, by have := hi.2.2; omega⟩
    rw [Z.ld h j (inS _ _ hij)]
    by_cases e : j = n
    · rw [if_pos ⟨rfl, by omega⟩, e]
    · rw [if_neg (fun h => e (by have := h.2; omega))]; exact W.ld j (by omega)
  · rw [Z.ld k j (inS _ _ hk), if_neg (fun h => hne h.1)]; exact W.lo k j hk hne
end
end Go.Proofs.Ytcjhakdopnamoaa

set_option linter.unusedVariables false
set_option linter.unusedSimpArgs false
set_option maxRecDepth 20000
namespace Go.Proofs.Ytcjhakdopnamoaa
open Go Go.Fw

section
variable {L : Hands} {R : Value → Heap → Prop} {G : Heap} {rest : Bl} {A A' : Ar} {I : List Nat} {w s th : Int} {ep : Bool}

end

structure GL (I : List Nat) (A : Ar) (g : Gd) (S : Sg) (l : Int → List (Int × Int)) (i : Int) : Prop where
  aw : Aw I A
  gi : GI A g 800 S l
  l0 : l 0 = []
  l1 : ((l 1).length : Int) = (i - 1) % g.th
  oc : ∀ k x, x ∈ l k → opC x.1 = 0
  rw : ∀ j, g.pl.carved < j → A.rawF j = 0
  cv : S.cv ≤ 8 * (i - 1)
  us : A.uses ≤ 500 * (i - 1)
  nL : A.nL = 0

end Go.Proofs.Ytcjhakdopnamoaa

set_option linter.unusedVariables false
set_option linter.unusedSimpArgs false
set_option maxRecDepth 20000
namespace Go.Proofs.Ytcjhakdopnamoaa
open Go Go.Fw

/-- With no word told all goes. -/
theorem Lkd.all {A B : Ar} {g : Gd} {m : Int} {S : Sg} {l : Int → List (Int × Int)} {k : Int} {keep : Int × Int → Bool} {hs : List Int} (X : GI A g m S l) (hu : A.uses ≤ 900000) (L : Lkd A g m S l k keep hs (forT g) B) (h : ∀ j, g.pl.carved < j → (g.ep = true → j ≠ g.ta) → A.rawF j = 0) :
    ∀ x ∈ l k, keep x = false := fun x hx => by
  have ta := X.ta
  cases he : g.ep with
  | false =>
    cases hk : keep x with
    | false => rfl
    | true =>
      obtain ⟨j, j1, j2⟩ := ((L.ha he).2 x).1 hk
      rw [h _ (by omega) (fun h => by rw [he] at h; cases h)] at j2
      exact (stF_ne0 (by rw [X.st k x hx]; decide) j2.symm).elim
  | true =>
    have f := L.free he fun i hi => h _ (by omega) fun _ => by omega
    have hk := (L.ep he).2.2.2
    obtain ⟨s0, s1⟩ := X.es he k x hx
    obtain ⟨e0, e1⟩ := X.eb he
    have ft : ((forT g : Nat) : Int) = 3 := by unfold forT; rw [if_pos he]; rfl
    rw [hk]
    show (!due _ x) = false
    have : due (B.rawF g.ta) x = true := by
      unfold due
      exact decide_eq_true (by rw [w64_in (by omega) (by omega)]; omega)
    rw [this]; rfl

structure GF (I : List Nat) (A : Ar) (g : Gd) (S : Sg) (l : Int → List (Int × Int)) (who i : Int) : Prop where
  aw : Aw I A
  gi : GI A g 320 S l
  le : ∃ xs, l = setL (fun _ => []) who xs ∧ (xs.length : Int) = i ∧ ∀ x ∈ xs, opC x.1 = 0
  rw : ∀ j, g.pl.carved < j → A.rawF j = 0
  ch : ∀ k, S.ch k = []
  cv : S.cv ≤ 8 * i
  nc : S.nc = 8 * i
  us : A.uses ≤ 500 * i
  nL : A.nL = 0

end Go.Proofs.Ytcjhakdopnamoaa

set_option linter.unusedVariables false
set_option linter.unusedSimpArgs false
set_option maxRecDepth 20000
namespace Go.Proofs.Ytcjhakdopnamoaa
open Go Go.Fw

section
variable {A B C : Ar} {g : Gd} {m : Int} {S S' : Sg} {l : Int → List (Int × Int)} {k h i v : Int} {q mq : Nat} {who tries : Int} {w : Nat → Int} {p : Pl}

/-- The stores of a make. -/
theorem mk_stores (X : GI B g m S l) (hl : (l who).length ≤ 1000) (hu : B.uses ≤ 900000) (hs : B.stF h ≠ 0) (hc : opC h = 0) : ∀ n : Nat, n ≤ 6 →
    ∃ C, Wr B g m S l h w n C ∧ (mMk q mq).Path n ⟨g, l, p, who, w, none, none, tries, 0, h, false⟩ B ⟨g, l, p, who, w, none, none, tries, n, h, false⟩ C
  | 0, _ => ⟨B, .nil X w, .nil⟩
  | n + 1, hn => by
    obtain ⟨C, W, pth⟩ := mk_stores X hl hu hs hc n (by omega)
    have us := W.us
    have u0 := X.u0
    have hi : B.inOk h n := ⟨hs, by omega, by rw [hc, show sizeF 0 = 8 from rfl]; omega⟩
    have W1 := W.next (by omega) hi
    refine ⟨_, W1, pth.trans (.cons ⟨by have := X.wb; show 1 ≤ g.w ∧ g.w ≤ 1000; omega, hl, fun _ h => (by cases h), fun _ h => (by cases h), fun _ _ _ => ⟨by show (0 : Int) ≤ n; omega, by show (n : Int) < 7; omega⟩⟩ ?_ ?_ ?_ .nil)⟩
    · show Mk.step ⟨g, l, p, who, w, none, none, tries, n, h, false⟩ C = (⟨g, l, p, who, w, none, none, tries, ((n + 1 : Nat) : Int), h, false⟩, C.storeF h n (w n))
      have e : w64 ((n : Int) + 1) = ((n + 1 : Nat) : Int) := by rw [w64_in (by omega) (by omega)]; omega
      have e2 : ((((n + 1 : Nat) : Int)) == 7) = false := ibef (by omega)
      show (Mk.mk g l p who w none none tries (w64 ((n : Int) + 1)) h (w64 ((n : Int) + 1) == 7), C.storeF h n (w ((n : Int)).toNat)) = _
      rw [e, e2, Int.toNat_natCast]
    · rw [W1.us]; show B.uses + ((n + 1 : Nat) : Int) ≤ w64 (C.uses + 1); rw [us, w64_in (by omega) (by omega)]; omega
    · rfl

theorem al_lift {n : Nat} {a a' : Al} (X1 : 1 ≤ g.w ∧ g.w ≤ 1000) (hl : (l who).length ≤ 1000) (h : mAl.Runs n a A a' B) {at_ h0 : Int} :
    (∀ x1 : Mk, (⟨g, l, p, who, w, some a', none, tries, at_, h0, false⟩ : Mk).got a'.h = x1 →
      (x1.ended = false → (mMk q mq).Path n ⟨g, l, p, who, w, some a, none, tries, at_, h0, false⟩ A x1 B) ∧ (x1.ended = true → (mMk q mq).Runs n ⟨g, l, p, who, w, some a, none, tries, at_, h0, false⟩ A x1 B)) := by
  have st : ∀ (a : Al) (A : Ar), Mk.step ⟨g, l, p, who, w, some a, none, tries, at_, h0, false⟩ A = if mAl.fin (a.step A).1 = true then ((⟨g, l, p, who, w, some (a.step A).1, none, tries, at_, h0, false⟩ : Mk).got (a.step A).1.h, (a.step A).2) else (⟨g, l, p, who, w, some (a.step A).1, none, tries, at_, h0, false⟩, (a.step A).2) := fun a A => rfl
  have iv : ∀ (a : Al) (A : Ar), mAl.inv a A → Mk.inv ⟨g, l, p, who, w, some a, none, tries, at_, h0, false⟩ A := fun a A hi => ⟨X1, hl, fun _ h => (by cases h), fun a2 h2 => by obtain rfl := Option.some.inj h2; exact hi, fun _ _ h => (by cases h)⟩
  have ge : ∀ a : Al, (⟨g, l, p, who, w, some a, none, tries, at_, h0, false⟩ : Mk).got a.h = (⟨g, l, p, who, w, some a, none, tries, at_, h0, false⟩ : Mk).got a.h := fun _ => rfl
  induction h with
  | @one a A hi hu hf =>
    intro x1 hx
    have s1 : (mMk q mq).step ⟨g, l, p, who, w, some a, none, tries, at_, h0, false⟩ A = (x1, (mAl.step a A).2) := (st a A).trans (by
      rw [if_pos (show mAl.fin (a.step A).1 = true from hf)]
      exact congrArg (fun y => (y, (a.step A).2)) hx)
    exact ⟨fun he => .cons (iv a A hi) s1 hu he .nil, fun he => .one (iv a A hi) s1 hu he⟩
  | @more n a A a' B hi hu hf hr ih =>
    intro x1 hx
    have s1 : (mMk q mq).step ⟨g, l, p, who, w, some a, none, tries, at_, h0, false⟩ A = (⟨g, l, p, who, w, some (mAl.step a A).1, none, tries, at_, h0, false⟩, (mAl.step a A).2) := (st a A).trans (by rw [if_neg (by rw [show mAl.fin (a.step A).1 = false from hf]; exact Bool.false_ne_true)]; rfl)
    obtain ⟨i1, i2⟩ := ih x1 hx
    exact ⟨fun he => .cons (iv a A hi) s1 hu rfl (i1 he), fun he => .more (iv a A hi) s1 hu rfl (i2 he)⟩

/-- A frame is made, where there is room at once. -/
theorem make_run (X : GI A g m S l) (hu : A.uses ≤ 800000) (wh : 0 ≤ who ∧ who < g.w) (hl : (l who).length ≤ 1000) (hr : S.cv + 8 ≤ m) :
    ∃ n x B S1 C, SlotZ A g m S l who 0 n x B S1 ∧ (mMk q mq).Runs (n + 7) ⟨g, l, g.pl, who, w, some (newAl g.pl who 0), none, 0, 0, 0, false⟩ A ⟨g, l, g.pl, who, w, none, none, 1, 7, x.h, true⟩ C ∧ Wr B g m S1 l x.h w 7 C ∧ x.h ≠ 0 ∧ opC x.h = 0 ∧ B.stF x.h = 1 ∧ A.stF x.h = 0 := by
  obtain ⟨n, x, B, S1, Z⟩ := X.slot (by omega) wh (c := 0) (by decide)
  have hx : x.h ≠ 0 := Z.nz hr
  have hc : opC x.h = 0 := (Z.z.hd hx).1
  have hst : B.stF x.h = 1 := by rw [Z.z.st, if_pos ⟨hx, rfl⟩]
  have wb := X.wb
  have un := Z.un
  have u0 := X.u0
  obtain ⟨C, W, pth⟩ := mk_stores (q := q) (mq := mq) (who := who) (tries := 1) (w := w) (p := g.pl) Z.gi hl (by omega) (h := x.h) (by rw [hst]; decide) hc 6 (by decide)
  have hi : B.inOk x.h (6 : Nat) := ⟨by rw [hst]; decide, by decide, by rw [hc]; decide⟩
  have W7 := W.next (by rw [W.us]; omega) hi
  obtain ⟨i1, _⟩ := al_lift (q := q) (mq := mq) (g := g) (l := l) (who := who) (tries := 0) (w := w) (p := g.pl) (at_ := 0) (h0 := 0) ⟨by omega, by omega⟩ hl Z.z.run ⟨g, l, g.pl, who, w, none, none, 1, 0, x.h, false⟩ (by unfold Mk.got; rw [if_pos hx]; rfl)
  refine ⟨n, x, B, S1, _, Z, (i1 rfl).run (pth.run (.one ⟨by show 1 ≤ g.w ∧ g.w ≤ 1000; omega, hl, fun _ h => (by cases h), fun _ h => (by cases h), fun _ _ _ => ⟨by show (0 : Int) ≤ (6 : Nat); decide, by show ((6 : Nat) : Int) < 7; decide⟩⟩ ?_ ?_ rfl)), W7, hx, hc, hst, (Z.z.hd hx).2.2⟩
  · show Mk.step ⟨g, l, g.pl, who, w, none, none, 1, ((6 : Nat) : Int), x.h, false⟩ C = _
    rfl
  · rw [W7.us]; show B.uses + ((6 + 1 : Nat) : Int) ≤ w64 (C.uses + 1); rw [W.us, w64_in (by omega) (by omega)]; omega

/-- A frame is read. -/
theorem read_run (X : GI A g m S l) (hu : A.uses ≤ 900000) (hs : A.stF h ≠ 0) (hc : opC h = 0) :
    mRd.Runs 4 ⟨h, 0, 0, 0, false, 3⟩ A ⟨h, A.loadF h 3, A.loadF h 4, A.loadF h 5, (A.loadF h 6 : Int) == 1, 7⟩ (A.later 4) := by
  have u0 := X.u0
  have hi : ∀ i : Int, 0 ≤ i → i < 8 → ∀ n : Int, 0 ≤ n → n ≤ 10 → (A.later n).touch h i = A.later (n + 1) := fun i i0 i1 n n0 n1 => by
    have := touch_later (X.later n0) (h := h) (i := i) (by show A.uses + n ≤ _; omega) ⟨by rw [stF_slots (B := A.later n) (A := A) rfl]; exact hs, i0, by rw [hc, show sizeF 0 = 8 from rfl]; exact i1⟩
    rw [this, later_add]
  have ld : ∀ i n : Int, (A.later n).loadF h i = A.loadF h i := fun i n => loadF_same rfl (stF_slots rfl h)
  have uu : ∀ n : Int, 0 ≤ n → n ≤ 10 → (A.later (n + 1)).uses ≤ w64 ((A.later n).uses + 1) := fun n n0 n1 => by show A.uses + (n + 1) ≤ w64 (A.uses + n + 1); rw [w64_in (by omega) (by omega)]; omega
  have s : ∀ (x y : Rd) (n : Int), x.h = h → 0 ≤ n → n ≤ 10 → (x.step (A.later n)) = (y, (A.later n).touch h x.at_) → 0 ≤ x.at_ → x.at_ < 8 → mRd.step x (A.later n) = (y, A.later (n + 1)) := fun x y n hx n0 n1 he a0 a1 => by
    rw [hi _ a0 a1 n n0 n1] at he; exact he
  have s3 : mRd.step ⟨h, 0, 0, 0, false, 3⟩ (A.later 0) = (⟨h, A.loadF h 3, 0, 0, false, 4⟩, A.later (0 + 1)) := s _ _ 0 rfl (by decide) (by decide) (by rw [← ld 3 0]; rfl) (show (0 : Int) ≤ 3 by decide) (show (3 : Int) < 8 by decide)
  have s4 : mRd.step ⟨h, A.loadF h 3, 0, 0, false, 4⟩ (A.later 1) = (⟨h, A.loadF h 3, A.loadF h 4, 0, false, 5⟩, A.later (1 + 1)) := s _ _ 1 rfl (by decide) (by decide) (by rw [← ld 4 1]; rfl) (show (0 : Int) ≤ 4 by decide) (show (4 : Int) < 8 by decide)
  have s5 : mRd.step ⟨h, A.loadF h 3, A.loadF h 4, 0, false, 5⟩ (A.later 2) = (⟨h, A.loadF h 3, A.loadF h 4, A.loadF h 5, false, 6⟩, A.later (2 + 1)) := s _ _ 2 rfl (by decide) (by decide) (by rw [← ld 5 2]; rfl) (show (0 : Int) ≤ 5 by decide) (show (5 : Int) < 8 by decide)
  have s6 : mRd.step ⟨h, A.loadF h 3, A.loadF h 4, A.loadF h 5, false, 6⟩ (A.later 3) = (⟨h, A.loadF h 3, A.loadF h 4, A.loadF h 5, (A.loadF h 6 : Int) == 1, 7⟩, A.later (3 + 1)) := s _ _ 3 rfl (by decide) (by decide) (by rw [← ld 6 3]; rfl) (show (0 : Int) ≤ 6 by decide) (show (6 : Int) < 8 by decide)
  have p : mRd.Path 3 ⟨h, 0, 0, 0, false, 3⟩ (A.later 0) ⟨h, A.loadF h 3, A.loadF h 4, A.loadF h 5, false, 6⟩ (A.later 3) := .cons trivial s3 (uu 0 (by decide) (by decide)) rfl (.cons trivial s4 (uu 1 (by decide) (by decide)) rfl (.cons trivial s5 (uu 2 (by decide) (by decide)) rfl .nil))
  have r := p.run (Mch.Runs.last trivial s6 (uu 3 (by decide) (by decide)) rfl)
  rw [later0] at r
  exact r
end
end Go.Proofs.Ytcjhakdopnamoaa

set_option linter.unusedVariables false
set_option maxRecDepth 10000
namespace Go.Proofs.Ytcjhakdopnamoaa
open Go Go.Fw
/- magpie/magpielaw18.FrameRooms -/
@[reducible] def t_magpielaw18_FrameRooms_L3_sh : List Sh1 := [(.leaf .bool), (.leaf (.int .i64))]
noncomputable def t_magpielaw18_FrameRooms_L3 (x24 : Int) (x29 : HL Sh1.T [(.leaf .ptr), (.agg [(.int .i64), (.int .i64), (.int .i64), (.int .i64), (.int .i64)]), (.leaf .ptr)]) (y1 : HL Sh1.T [(.leaf .bool), (.leaf .slice), (.leaf (.int .i64))]) (x83 : Int) (x118 : HL Sh1.T [(.leaf (.int .i64)), (.leaf .bool)]) (y3 : HL Sh1.T t_magpielaw18_FrameRooms_L3_sh) : Tree :=
  bif (decide ((y3.2.1 : Int) < (w64 (1 + x24)))) then (
    bif ((y3.2.1 : Int) != x83) then (
      .look (opS Try.prog (.indexAddr ty_s_int (.tmp 0) (.tmp 1)) ty_unit [(.slice y1.2.1.a y1.2.1.len y1.2.1.cap), (.int .i64 y3.2.1)]) (.one (.leaf .addr)) fun x133 =>
      .ld x133 (.int .i64) fun x134 =>
      .call f_arena_Arena_State [(.pointer x29.1), (.int .i64 x134)] (.one (.leaf (.int .i64))) fun x135 =>
      bif ((x135 : Int) != 1) then (
        .ret (.bool false))
      else (
        .look (opS Try.prog (.indexAddr ty_s_int (.tmp 0) (.tmp 1)) ty_unit [(.slice y1.2.1.a y1.2.1.len y1.2.1.cap), (.int .i64 y3.2.1)]) (.one (.leaf .addr)) fun x141 =>
        .ld x141 (.int .i64) fun x142 =>
        .call f_arena_Arena_Load [(.pointer x29.1), (.int .i64 x142), (.int .i64 3)] (.one (.leaf (.int .i64))) fun x143 =>
        bif ((x143 : Int) != y3.2.1) then (
          .ret (.bool false))
        else (
          .again 1856 [(.bool y3.1), (.int .i64 (w64 (y3.2.1 + 1)))])))
    else (
      .again 1856 [(.bool y3.1), (.int .i64 (w64 (y3.2.1 + 1)))]))
  else (
    bif x118.2.1 then (
      .look (opS Try.prog (.indexAddr ty_s_int (.tmp 0) (.tmp 1)) ty_unit [(.slice y1.2.1.a y1.2.1.len y1.2.1.cap), (.int .i64 x83)]) (.one (.leaf .addr)) fun x153 =>
      .ld x153 (.int .i64) fun x154 =>
      bif ((x118.1 : Int) != x154) then (
        .call f_arena_Arena_Load [(.pointer x29.1), (.int .i64 x118.1), (.int .i64 3)] (.one (.leaf (.int .i64))) fun x160 =>
        bif ((x160 : Int) == 9) then (
          .look (opS Try.prog (.indexAddr ty_s_int (.tmp 0) (.tmp 1)) ty_unit [(.slice y1.2.1.a y1.2.1.len y1.2.1.cap), (.int .i64 x83)]) (.one (.leaf .addr)) fun x167 =>
          .ld x167 (.int .i64) fun x168 =>
          .call f_arena_Arena_State [(.pointer x29.1), (.int .i64 x168)] (.one (.leaf (.int .i64))) fun x169 =>
          bif ((x169 : Int) == 0) then (
            .call f_arena_Arena_Fault [(.pointer x29.1)] (.one (.leaf .bool)) fun x174 =>
            bif (!x174) then (
              .call f_magpielaw18_awake [] (.one (.leaf .bool)) fun x178 =>
              .ret (.bool x178))
            else (
              .ret (.bool false)))
          else (
            .ret (.bool false)))
        else (
          .ret (.bool false)))
      else (
        .ret (.bool false)))
    else (
      .ret (.bool false)))

@[reducible] def t_magpielaw18_FrameRooms_L2_sh : List Sh1 := [(.leaf .bool), (.leaf (.int .i64))]
noncomputable def t_magpielaw18_FrameRooms_L2 (x24 : Int) (x29 : HL Sh1.T [(.leaf .ptr), (.agg [(.int .i64), (.int .i64), (.int .i64), (.int .i64), (.int .i64)]), (.leaf .ptr)]) (x9 : Addr) (y1 : HL Sh1.T [(.leaf .bool), (.leaf .slice), (.leaf (.int .i64))]) (x83 : Int) (y2 : HL Sh1.T t_magpielaw18_FrameRooms_L2_sh) : Tree :=
  bif (decide ((y2.2.1 : Int) < 2)) then (
    .look (opS Try.prog (.indexAddr ty_s_int (.tmp 0) (.tmp 1)) ty_unit [(.slice y1.2.1.a y1.2.1.len y1.2.1.cap), (.int .i64 x83)]) (.one (.leaf .addr)) fun x91 =>
    .ld x91 (.int .i64) fun x92 =>
    .call f_frame_NewDrop [(.pointer x29.2.2.1), (.int .i64 0), (.int .i64 x92)] (.one (.leaf .ptr)) fun x93 =>
    .look (opS Try.prog (.binOp .eql ty_p_frame_Drop (.tmp 0) (.const (.pointer none)) ty_p_frame_Drop) ty_bool [(.pointer x93)]) (.one (.leaf .bool)) fun x95 =>
    bif x95 then (
      .ret (.bool false))
    else (
      .call f_magpielaw18_run [(.pointer x29.1), (.iface ty_p_frame_Drop (.pointer x93))] (.one (.leaf .bool)) fun x100 =>
      bif (!x100) then (
        .ret (.bool false))
      else (
        .again 1216 [(.bool y2.1), (.int .i64 (w64 (y2.2.1 + 1)))])))
  else (
    .ldA x9 [(.int .i64), (.int .i64), (.int .i64), (.int .i64), (.int .i64)] fun x103 =>
    .call f_frame_NewMake [(.agg #[(.int .i64 x103.1), (.int .i64 x103.2.1), (.int .i64 x103.2.2.1), (.int .i64 x103.2.2.2.1), (.int .i64 x103.2.2.2.2.1)]), (.pointer x29.2.2.1), (.int .i64 0), (.agg #[(.int .i64 9), (.int .i64 0), (.int .i64 1125899906842624), (.bool false)])] (.one (.leaf .ptr)) fun x106 =>
    .look (opS Try.prog (.binOp .eql ty_p_frame_Make (.tmp 0) (.const (.pointer none)) ty_p_frame_Make) ty_bool [(.pointer x106)]) (.one (.leaf .bool)) fun x108 =>
    bif x108 then (
      .ret (.bool false))
    else (
      .call f_magpielaw18_run [(.pointer x29.1), (.iface ty_p_frame_Make (.pointer x106))] (.one (.leaf .bool)) fun x113 =>
      bif (!x113) then (
        .ret (.bool false))
      else (
        .call f_frame_Make_Handle [(.pointer x106)] (.tup [(.leaf (.int .i64)), (.leaf .bool)]) fun x118 =>
        .loop 1856 t_magpielaw18_FrameRooms_L3_sh [(.bool y2.1), (.int .i64 0)] (t_magpielaw18_FrameRooms_L3 x24 x29 y1 x83 x118))))

@[reducible] def t_magpielaw18_FrameRooms_L1_sh : List Sh1 := [(.leaf .bool), (.leaf .slice), (.leaf (.int .i64))]
noncomputable def t_magpielaw18_FrameRooms_L1 (p1 : Int) (x24 : Int) (x29 : HL Sh1.T [(.leaf .ptr), (.agg [(.int .i64), (.int .i64), (.int .i64), (.int .i64), (.int .i64)]), (.leaf .ptr)]) (x9 : Addr) (y1 : HL Sh1.T t_magpielaw18_FrameRooms_L1_sh) : Tree :=
  bif (decide ((y1.2.2.1 : Int) ≤ (w64 (1 + x24)))) then (
    .ldA x9 [(.int .i64), (.int .i64), (.int .i64), (.int .i64), (.int .i64)] fun x44 =>
    .call f_frame_NewMake [(.agg #[(.int .i64 x44.1), (.int .i64 x44.2.1), (.int .i64 x44.2.2.1), (.int .i64 x44.2.2.2.1), (.int .i64 x44.2.2.2.2.1)]), (.pointer x29.2.2.1), (.int .i64 (Int.tmod y1.2.2.1 2)), (.agg #[(.int .i64 y1.2.2.1), (.int .i64 0), (.int .i64 1125899906842624), (.bool false)])] (.one (.leaf .ptr)) fun x50 =>
    .look (opS Try.prog (.binOp .eql ty_p_frame_Make (.tmp 0) (.const (.pointer none)) ty_p_frame_Make) ty_bool [(.pointer x50)]) (.one (.leaf .bool)) fun x52 =>
    bif x52 then (
      .ret (.bool false))
    else (
      .call f_magpielaw18_run [(.pointer x29.1), (.iface ty_p_frame_Make (.pointer x50))] (.one (.leaf .bool)) fun x57 =>
      bif (!x57) then (
        .ret (.bool false))
      else (
        .call f_frame_Make_Handle [(.pointer x50)] (.tup [(.leaf (.int .i64)), (.leaf .bool)]) fun x62 =>
        bif (!(x62.2.1 == (decide ((y1.2.2.1 : Int) < (w64 (1 + x24)))))) then (
          .ret (.bool false))
        else (
          bif (!(x62.2.1 == ((x62.1 : Int) != 0))) then (
            .ret (.bool false))
          else (
            bif x62.2.1 then (
              .newS (.cells #[(.int .i64 x62.1)] ty_int) 1 fun x79 =>
              .act (opS Try.prog (.call { callee := .builtin .append, args := #[(.tmp 0), (.tmp 1)], argTypes := #[ty_s_int, ty_s_int] }) ty_s_int [(.slice y1.2.1.a y1.2.1.len y1.2.1.cap), (.slice x79.a x79.len x79.cap)]) (.one (.leaf .slice)) fun x80 =>
              .again 448 [(.bool y1.1), (.slice x80.a x80.len x80.cap), (.int .i64 (w64 (y1.2.2.1 + 1)))])
            else (
              .again 448 [(.bool y1.1), (.slice y1.2.1.a y1.2.1.len y1.2.1.cap), (.int .i64 (w64 (y1.2.2.1 + 1)))]))))))
  else (
    .qcall f_magpielaw00_Place [(.int .i64 p1), (.int .i64 (w64 (1 + x24)))] (.one (.leaf (.int .i64))) fun x83 =>
    .loop 1216 t_magpielaw18_FrameRooms_L2_sh [(.bool y1.1), (.int .i64 0)] (t_magpielaw18_FrameRooms_L2 x24 x29 x9 y1 x83))
noncomputable def t_magpielaw18_FrameRooms (p0 : Int) (p1 : Int) (p2 : Bool) : Tree :=
  .qcall f_magpielaw00_Place [(.int .i64 p0), (.int .i64 12)] (.one (.leaf (.int .i64))) fun x24 =>
  .call f_magpielaw18_make1 [(.int .i64 2), (.int .i64 (w64 (1 + x24))), (.bool p2)] (.tup [(.leaf .ptr), (.agg [(.int .i64), (.int .i64), (.int .i64), (.int .i64), (.int .i64)]), (.leaf .ptr)]) fun x29 =>
  .newP (.cells #[(.int .i64 0), (.int .i64 0), (.int .i64 0), (.int .i64 0), (.int .i64 0)] ty_free_Place) fun x9 =>
  .stA x9 [(.int .i64 x29.2.1.1), (.int .i64 x29.2.1.2.1), (.int .i64 x29.2.1.2.2.1), (.int .i64 x29.2.1.2.2.2.1), (.int .i64 x29.2.1.2.2.2.2.1)] <|
  .look (opS Try.prog (.binOp .eql ty_p_arena_Arena (.tmp 0) (.const (.pointer none)) ty_p_arena_Arena) ty_bool [(.pointer x29.1)]) (.one (.leaf .bool)) fun x34 =>
  bif x34 then (
    .ret (.bool false))
  else (
    .look (opS Try.prog (.binOp .eql ty_p_guard_Guard (.tmp 0) (.const (.pointer none)) ty_p_guard_Guard) ty_bool [(.pointer x29.2.2.1)]) (.one (.leaf .bool)) fun x37 =>
    bif x37 then (
      .ret (.bool false))
    else (
      .loop 448 t_magpielaw18_FrameRooms_L1_sh [(.bool false), (.slice none 0 0), (.int .i64 0)] (t_magpielaw18_FrameRooms_L1 p1 x24 x29 x9)))
theorem t_magpielaw18_FrameRooms_eq (p0 : Int) (p1 : Int) (p2 : Bool) : funcTree Try.prog { quiet := [16, 34, 36, 40, 41, 66, 67, 75, 76, 77, 97, 98, 103, 108, 110, 139, 146, 149, 161], quietTmp := true, fncs := [], ifcs := [] } Try.f13 [(.int .i64 p0), (.int .i64 p1), (.bool p2)] = t_magpielaw18_FrameRooms p0 p1 p2 := by kernel_rfl
theorem t_magpielaw18_FrameRooms_spec {p0 : Int} {p1 : Int} {p2 : Bool} {H : Heap} {R : Value → Heap → Prop} (h : ∀ L, wp Try.prog (t_magpielaw18_FrameRooms p0 p1 p2) L H R) : SpecF Try.prog f_magpielaw18_FrameRooms #[(.int .i64 p0), (.int .i64 p1), (.bool p2)] H R :=
  spec_of_tree (cfg := { quiet := [16, 34, 36, 40, 41, 66, 67, 75, 76, 77, 97, 98, 103, 108, 110, 139, 146, 149, 161], quietTmp := true, fncs := [], ifcs := [] }) Try.func13 fun L => (t_magpielaw18_FrameRooms_eq p0 p1 p2).symm ▸ h L

end Go.Proofs.Ytcjhakdopnamoaa

set_option linter.unusedVariables false
set_option linter.unusedSimpArgs false
set_option maxRecDepth 20000
namespace Go.Proofs.Ytcjhakdopnamoaa
open Go Go.Fw

theorem npMk (a : Addr) : opS Try.prog (.binOp .eql ty_p_frame_Make (.tmp 0) (.const (.pointer none)) ty_p_frame_Make) ty_bool [(.pointer (some a))] = .pure (.value (.bool false)) := by kernel_rfl
theorem npRd (a : Addr) : opS Try.prog (.binOp .eql ty_p_frame_Read (.tmp 0) (.const (.pointer none)) ty_p_frame_Read) ty_bool [(.pointer (some a))] = .pure (.value (.bool false)) := by kernel_rfl
theorem npDr (a : Addr) : opS Try.prog (.binOp .eql ty_p_frame_Drop (.tmp 0) (.const (.pointer none)) ty_p_frame_Drop) ty_bool [(.pointer (some a))] = .pure (.value (.bool false)) := by kernel_rfl
section
variable {A B : Ar} {w s : Int} {S S' : Sg} {I : List Nat} {L : Hands} {R : Value → Heap → Prop} {G : Heap} {l : Bl} {ep : Bool}

theorem fmake_spec (ep : Bool) (w s : Int) (wb : 1 ≤ w ∧ w ≤ 9) (sb : 0 ≤ s ∧ s ≤ 120) (H : Heap) : SpecF Try.prog f_magpielaw18_make1 #[.int .i64 w, .int .i64 s, .bool ep] H fun v K => ∃ (A : Ar) (q mq : Nat), v = .tuple #[.pointer (aI A.ids), (plOf w (8 * s)).val, .pointer (some ⟨q, 0, none⟩)] ∧
    K = own A ((gdOf ep w s 1).bl q mq []) H ∧ (∀ x ∈ A.ids, H x = none) ∧ Ok A.ids H (keys ((gdOf ep w s 1).bl q mq [])) ∧ GZ A.ids A ep w s ⟨fun _ => [], 0, fun _ => 0, fun _ => -1, 0⟩ ∧ (∀ i, A.rawF i = 0) ∧ A.uses = 0 ∧ A.nL = 0 ∧ A.nR = 0 := by
  refine t_magpielaw18_make1_spec fun L => ?_
  unfold t_magpielaw18_make1
  have e8 : w64 (8 * s) = 8 * s := w64_in (by omega) (by omega)
  have ed : (8 * s + 7) / 8 = s := by omega
  rw [e8]
  have ok0 : Ok0 H (keys []) := ⟨.nil, fun b h => (by cases h)⟩
  refine p_newP (l := []) ok0 fun x9 ok0 => ?_
  refine w_Raw5 ⟨by omega, by omega⟩ ⟨by omega, by omega⟩ ?_
  rw [ed]
  refine p_newP ok0 fun x11 ok0 => ?_
  refine p_stA 0 ok0 rfl rfl rfl rfl ?_
  dsimp only
  refine wp_call_det (x := gwords ep w) (GRaw_det ep ⟨by omega, by omega⟩ _) ?_
  have gw : 0 ≤ gwords ep w ∧ gwords ep w ≤ 100 := by unfold gwords; cases ep <;> simp <;> omega
  have en : w64 (4 * w + 2 * s + 1 + gwords ep w) = 4 * w + 2 * s + 1 + gwords ep w := w64_in (by omega) (by omega)
  have ok0 : Ok0 H (keys [(x11, oc ty_free_Place (plCells (plOf w (8 * s)))), (x9, oc ty_free_Place (plCells ⟨0, 0, 0, 0, 0⟩))]) := ok0
  refine p_ldA (l := [(x11, oc ty_free_Place (plCells (plOf w (8 * s)))), (x9, oc ty_free_Place (plCells ⟨0, 0, 0, 0, 0⟩))]) 0 ok0 rfl rfl rfl ?_
  refine p_ldA (l := [(x11, oc ty_free_Place (plCells (plOf w (8 * s)))), (x9, oc ty_free_Place (plCells ⟨0, 0, 0, 0, 0⟩))]) 0 ok0 rfl rfl rfl ?_
  rw [en]
  refine w_New ok0 ⟨by omega, by omega⟩ ⟨by omega, by omega⟩ fun A hm hA hI ok => ?_
  refine w_ckA 0 hA ok rfl rfl rfl rfl ?_
  refine w_ckA 0 hA ok rfl rfl rfl rfl ?_
  refine w_GNew (w := w) (n := 4 * w + 2 * s + 1) (th := 1) (ep := ep) (p := plOf w (8 * s)) ⟨by omega, by omega⟩ hA ok fun q mq ok1 => ?_
  obtain ⟨p1, ok2⟩ := own_perm (A := A) (l' := (x11, oc ty_free_Place (plCells (plOf w (8 * s)))) :: (x9, oc ty_free_Place (plCells ⟨0, 0, 0, 0, 0⟩)) :: (gdOf ep w s 1).bl q mq []) ok1 (perm_by fun c d c0 cd ca => by
    show c ((gdOf ep w s 1).bl q mq [] ++ _) = _
    simp only [cd, ca, c0]; omega)
  rw [p1]
  refine w_ckA 0 hA ok2 rfl rfl rfl rfl ?_
  refine w_stA 1 hA ok2 rfl rfl rfl rfl ?_
  refine ⟨(aI A.ids, (w, 0, 4 * w, 4 * w + (8 * s + 7) / 8, 4 * w + 2 * ((8 * s + 7) / 8), ()), some ⟨q, 0, none⟩, ()), ?_, ?_⟩
  · refine ldK_still (own_get (i := 1) hA (by exact ok2) rfl) 5 0 #[] (by exact Nat.le_refl 5) ?_
    rfl
  have ok2 : Ok A.ids H (x11 :: x9 :: keys ((gdOf ep w s 1).bl q mq [])) := ok2
  have nd : (keys ((gdOf ep w s 1).bl q mq [])).Nodup := (List.nodup_cons.1 (List.nodup_cons.1 ok2.nd).2).2
  have ok' : Ok A.ids H (keys ((gdOf ep w s 1).bl q mq [])) := ok2.sub nd fun b hb => List.mem_cons_of_mem _ (List.mem_cons_of_mem _ hb)
  refine ⟨own A ((gdOf ep w s 1).bl q mq []) H, own_sub (by exact ok2) ok'.nd fun p hp => List.mem_cons_of_mem _ (List.mem_cons_of_mem _ hp), A, q, mq, rfl, rfl, hI, ok', ⟨hA, SL.made hm ?_ ⟨wb.1, by omega⟩ ⟨by omega, by omega⟩, hm.fault, ?_, wb, sb⟩, fun i => ?_, hm.uses, hm.nL, hm.nR⟩
  · show 4 * w + 2 * ((8 * s + 7) / 8) < _; omega
  · rw [hm.raw, List.length_replicate]; omega
  · unfold Ar.rawF
    split
    · rename_i h; rw [hm.raw, List.getD_eq_getElem?_getD, List.getElem?_replicate]; split <;> rfl
    · rfl

/-- A make is run, where there is room. -/
theorem w_mkRun {g : Gd} {m : Int} {ls : Int → List (Int × Int)} {q mq b : Nat} {e : List LE} {aj : Nat × Nat × Nat} {gar rest : Bl} {who : Int} {tw : Nat → Int} {x : Al} {C : Ar} {n : Nat} {k : Bool → Tree} (hA : Aw I A) (hC : Aw I C) (gs : GdS e ls)
    (ok : Ok I G (keys ((b, oc ty_frame_Make (mkC q g.pl who tw (some ⟨aj.1, 0, none⟩) .nilIface 0 0 0 false)) :: ((newAl g.pl who 0).bl aj ++ (gar ++ (g.bl q mq e ++ rest))))))
    (r : (mMk q mq).Runs n ⟨g, ls, g.pl, who, tw, some (newAl g.pl who 0), none, 0, 0, 0, false⟩ A ⟨g, ls, g.pl, who, tw, none, none, 1, 7, x.h, true⟩ C) (hn : n ≤ 4000)
    (hk : ∀ e' gar', Ok I G (keys ((b, oc ty_frame_Make (mkC q g.pl who tw none .nilIface 1 7 x.h true)) :: (g.bl q mq e' ++ (gar' ++ rest)))) → GdS e' ls → wp Try.prog (k true) L (own C ((b, oc ty_frame_Make (mkC q g.pl who tw none .nilIface 1 7 x.h true)) :: (g.bl q mq e' ++ (gar' ++ rest))) G) R) :
    wp Try.prog (.call f_magpielaw18_run [.pointer (aI I), .iface ty_p_frame_Make (.pointer (some ⟨b, 0, none⟩))] (.one (.leaf .bool)) k) L (own A ((b, oc ty_frame_Make (mkC q g.pl who tw (some ⟨aj.1, 0, none⟩) .nilIface 0 0 0 false)) :: ((newAl g.pl who 0).bl aj ++ (gar ++ (g.bl q mq e ++ rest)))) G) R := by
  obtain ⟨p1, ok2⟩ := own_perm (A := A) (l' := Mk.bl q mq ⟨g, ls, g.pl, who, tw, some (newAl g.pl who 0), none, 0, 0, 0, false⟩ ⟨b, e, lj0, aj, gar⟩ ++ rest) ok (perm_by fun c d c0 cd ca => by
    show _ = c (((b, oc ty_frame_Make (mkC q g.pl who tw (some ⟨aj.1, 0, none⟩) .nilIface 0 0 0 false)) :: (g.bl q mq e ++ ((newAl g.pl who 0).bl aj ++ gar))) ++ rest)
    simp only [List.cons_append, cd, ca, c0]; omega)
  rw [p1]
  refine w_runR18 (mMk_ok q mq) (mMk_inv q mq) r hn (j := ⟨b, e, lj0, aj, gar⟩) hA ok2 gs fun j' ha _ ok3 rp => ?_
  obtain ⟨b', e', lj', aj', gar'⟩ := j'
  have ha : b' = b := ha
  subst ha
  have ok3 : Ok I G (keys (((b', oc ty_frame_Make (mkC q g.pl who tw none .nilIface 1 7 x.h true)) :: (g.bl q mq e' ++ ([] ++ gar'))) ++ rest)) := ok3
  show wp Try.prog _ L (own C (((b', oc ty_frame_Make (mkC q g.pl who tw none .nilIface 1 7 x.h true)) :: (g.bl q mq e' ++ ([] ++ gar'))) ++ rest) G) _
  obtain ⟨p2, ok4⟩ := own_perm (A := C) (l' := (b', oc ty_frame_Make (mkC q g.pl who tw none .nilIface 1 7 x.h true)) :: (g.bl q mq e' ++ (gar' ++ rest))) ok3 (perm_by fun c d c0 cd ca => by simp only [List.cons_append, List.nil_append, cd, ca, c0]; omega)
  rw [p2]
  exact hk e' gar' ok4 rp

/-- A read is run. -/
theorem w_rdRun {g : Gd} {m : Int} {S : Sg} {ls : Int → List (Int × Int)} {b : Nat} {h : Int} {rest : Bl} {k : Bool → Tree} (X : GI A g m S ls) (hu : A.uses ≤ 900000) (hs : A.stF h ≠ 0) (hc : opC h = 0) (hA : Aw I A) (ok : Ok I G (keys ((b, oc ty_frame_Read (rdC ⟨h, 0, 0, 0, false, 3⟩)) :: rest)))
    (hk : Ok I G (keys ((b, oc ty_frame_Read (rdC ⟨h, A.loadF h 3, A.loadF h 4, A.loadF h 5, (A.loadF h 6 : Int) == 1, 7⟩)) :: rest)) → Aw I (A.later 4) → wp Try.prog (k true) L (own (A.later 4) ((b, oc ty_frame_Read (rdC ⟨h, A.loadF h 3, A.loadF h 4, A.loadF h 5, (A.loadF h 6 : Int) == 1, 7⟩)) :: rest) G) R) :
    wp Try.prog (.call f_magpielaw18_run [.pointer (aI I), .iface ty_p_frame_Read (.pointer (some ⟨b, 0, none⟩))] (.one (.leaf .bool)) k) L (own A ((b, oc ty_frame_Read (rdC ⟨h, 0, 0, 0, false, 3⟩)) :: rest) G) R := by
  have r := read_run X hu hs hc
  refine w_runR18 (X := mRd.toR) (Mch.toR_ok mRd_ok) mRd_inv (Mch.toR_runs r) (by decide) (j := b) (rest := rest) hA ok trivial fun j' ha hB ok2 _ => ?_
  have ha : j' = b := ha
  subst ha
  exact hk ok2 hB

/-- A slot's word, loaded, among what a guard has. -/
theorem w_ldG {g : Gd} {m : Int} {S : Sg} {ls : Int → List (Int × Int)} {h i : Int} {k : Int → Tree} (X : GI A g m S ls) (hu : A.uses ≤ 900000) (hi : A.inOk h i) (hA : Aw I A) (hk : Aw I (A.later 1) → wp Try.prog (k (A.loadF h i)) L (own (A.later 1) l G) R) :
    wp Try.prog (.call f_arena_Arena_Load [.pointer (aI I), .int .i64 h, .int .i64 i] (.one (.leaf (.int .i64))) k) L (own A l G) R := by
  refine w_Load hA fun hB => ?_
  rw [touch_later X (by omega) hi] at hB ⊢
  exact hk hB
end
end Go.Proofs.Ytcjhakdopnamoaa

set_option linter.unusedVariables false
set_option linter.unusedSimpArgs false
set_option maxRecDepth 20000
namespace Go.Proofs.Ytcjhakdopnamoaa
open Go Go.Fw

theorem ld_later (A : Ar) (n h i : Int) : (A.later n).loadF h i = A.loadF h i := loadF_same rfl (stF_slots rfl h)
theorem st_later (A : Ar) (n h : Int) : (A.later n).stF h = A.stF h := stF_slots rfl h
theorem inOk_later {A : Ar} {n h i : Int} (hi : A.inOk h i) : (A.later n).inOk h i := ⟨by rw [st_later]; exact hi.1, hi.2⟩

/-- The first frame of all. -/
structure Fm1 (I : List Nat) (A : Ar) (g : Gd) (m : Int) (who : Int) (tw : Nat → Int) (q mq n : Nat) (x : Al) (B : Ar) (S1 : Sg) (C : Ar) : Prop where
  z : SlotZ A g m S0g (fun _ => []) who 0 n x B S1
  run : (mMk q mq).Runs (n + 7) ⟨g, fun _ => [], g.pl, who, tw, some (newAl g.pl who 0), none, 0, 0, 0, false⟩ A ⟨g, fun _ => [], g.pl, who, tw, none, none, 1, 7, x.h, true⟩ C
  w : Wr B g m S1 (fun _ => []) x.h tw 7 C
  hx : x.h ≠ 0
  hc : opC x.h = 0
  hs : C.stF x.h = 1
  aw : Aw I C
  n3 : (n : Int) = g.w + 3
  us : C.uses = A.uses + g.w + 10
theorem fm1 {I : List Nat} {A : Ar} {g : Gd} {m : Int} {who : Int} {tw : Nat → Int} (q mq : Nat) (hA : Aw I A) (X : GI A g m S0g fun _ => []) (hu : A.uses ≤ 1000) (wh : 0 ≤ who ∧ who < g.w) (hm : 8 ≤ m) : ∃ n x B S1 C, Fm1 I A g m who tw q mq n x B S1 C := by
  obtain ⟨n, x, B, S1, C, Z, r, W, hx, hc, hs, hs0⟩ := make_run (q := q) (mq := mq) (w := tw) X (by omega) wh (by show 0 ≤ 1000; decide) (by show 0 + 8 ≤ m; omega)
  have n3 : (n : Int) = g.w + 3 := by
    refine Z.z.nx ?_
    obtain ⟨kk, b', l', h1, h2, _⟩ | ⟨h1, h2, h3, h4⟩ | ⟨h1, h2, h3, h4⟩ := Z.z.gives.or
    · cases h2
    · rw [h3]; show (0 : Int) + sizeF 0 ≠ 0; decide
    · exact (hx h4).elim
  refine ⟨n, x, B, S1, C, Z, r, W, hx, hc, by rw [W.st]; exact hs, hA.of (Z.z.off.al.trans W.al) W.gi.wf, n3, ?_⟩
  have := W.us; have := Z.z.off.us; omega

set_option maxHeartbeats 1000000 in
theorem awake18_det (H : Heap) : Det Try.prog f_magpielaw18_awake [] H (.bool true) H := by
  refine t_magpielaw18_awake_spec fun L => ?_
  unfold t_magpielaw18_awake
  refine wp_call_of (fmake_spec false 1 2 (by decide) (by decide) H) ?_
  rintro v K ⟨A, q, mq, rfl, rfl, hI, ok, E, r0, u0, nl, nr⟩
  refine ⟨(aI A.ids, (1, 0, 4 * 1, 4 * 1 + (8 * 2 + 7) / 8, 4 * 1 + 2 * ((8 * 2 + 7) / 8), ()), some ⟨q, 0, none⟩, ()), rfl, ?_⟩
  have hA := E.aw
  refine w_newP hA ok fun x2 ok1 => ?_
  refine w_stA 0 hA ok1 rfl rfl rfl rfl ?_
  have X0 := E.gi (th := 1) r0 u0 nl nr
  obtain ⟨g, hg⟩ : ∃ g, g = gdOf false 1 2 1 := ⟨_, rfl⟩
  have gw : g.w = 1 := by rw [hg]; rfl
  have gpl : g.pl = plOf 1 16 := by rw [hg]; rfl
  have ok1 : Ok A.ids H (keys ((x2, oc ty_free_Place (plCells (plOf 1 16))) :: (gdOf false 1 2 1).bl q mq [])) := ok1
  show wp Try.prog _ L (own A ((x2, oc ty_free_Place (plCells (plOf 1 16))) :: (gdOf false 1 2 1).bl q mq []) H) _
  rw [← hg] at ok1 X0 ⊢
  refine w_ldA (x := (1, 0, 4 * 1, 4 * 1 + (8 * 2 + 7) / 8, 4 * 1 + 2 * ((8 * 2 + 7) / 8), ())) 0 hA ok1 rfl rfl rfl ?_
  refine w_NewMake (q := q) (p := plOf 1 16) hA ok1 fun b aj gar ok2 => ?_
  refine look_val (x := false) (np_some _) (wp_false rfl ?_)
  refine look_val (x := false) (npGd _) (wp_false rfl ?_)
  refine look_val (x := false) (npMk _) (wp_false rfl ?_)
  obtain ⟨cP, hcP⟩ : ∃ cP : Nat × Obj, cP = (x2, oc ty_free_Place (plCells (plOf 1 16))) := ⟨_, rfl⟩
  rw [← hcP, ← gpl] at ok2 ⊢
  obtain ⟨n, x, B, S1, C, Z⟩ := fm1 (who := 0) (tw := twF 3 (-7) 1125899906842624 true) q mq hA X0 (by omega) (by rw [gw]; decide) (by decide)
  obtain ⟨pp, ok3⟩ := own_perm (A := A) (l' := (b, oc ty_frame_Make (mkC q g.pl 0 (twF 3 (-7) 1125899906842624 true) (some ⟨aj.1, 0, none⟩) .nilIface 0 0 0 false)) :: ((newAl g.pl 0 0).bl aj ++ (gar ++ (g.bl q mq [] ++ [cP])))) ok2 (perm_by fun c d c0 cd ca => by simp only [cd, ca, c0]; omega)
  rw [pp]
  have n3 := Z.n3
  refine w_mkRun (m := 16) hA Z.aw gd0 ok3 Z.run (by omega) fun e' gar' ok4 gs => ?_
  refine wp_false rfl ?_
  refine w_MkHandle 0 (x := ⟨g, fun _ => [], g.pl, 0, twF 3 (-7) 1125899906842624 true, none, none, 1, 7, x.h, true⟩) Z.aw ok4 rfl ?_
  refine w_NewRead Z.aw ok4 fun z ok5 => ?_
  have hb : (true && (x.h : Int) != 0) = true := by rw [ibne Z.hx]; rfl
  refine wp_false (by show (!(true && (x.h : Int) != 0)) = false; rw [hb]; rfl) ?_
  refine look_val (x := false) (npRd _) (wp_false rfl ?_)
  have cu := Z.us
  have C1 := Z.w.gi
  have l3 : C.loadF x.h 3 = 3 := Z.w.ld 3 (by decide)
  have l4 : C.loadF x.h 4 = -7 := Z.w.ld 4 (by decide)
  have l5 : C.loadF x.h 5 = 1125899906842624 := Z.w.ld 5 (by decide)
  have l6 : C.loadF x.h 6 = 1 := Z.w.ld 6 (by decide)
  have l2 : C.loadF x.h 2 = 2 := Z.w.ld 2 (by decide)
  refine w_rdRun C1 (by omega) (by rw [Z.hs]; decide) Z.hc Z.aw ok5 fun ok6 hC2 => ?_
  rw [l3, l4, l5, l6] at ok6 ⊢
  refine wp_false rfl ?_
  refine w_RdTask hC2 ok6 ?_
  refine w_newP (c := [.int .i64 0, .int .i64 0, .int .i64 0, .bool false]) hC2 ok6 fun x8 ok7 => ?_
  refine w_stA 0 hC2 ok7 rfl rfl rfl rfl ?_
  refine w_ld 0 (x := 3) hC2 (by exact ok7) rfl rfl rfl ?_
  refine wp_true rfl ?_
  refine w_ld 0 (x := -7) hC2 (by exact ok7) rfl rfl rfl ?_
  refine wp_true rfl ?_
  refine w_ld 0 (x := 1125899906842624) hC2 (by exact ok7) rfl rfl rfl ?_
  refine wp_true (ibeq rfl) ?_
  refine w_ld 0 (x := true) hC2 (by exact ok7) rfl rfl rfl ?_
  refine wp_true rfl ?_
  refine w_ldG (C1.later (n := 4) (by decide)) (by show C.uses + 4 ≤ _; omega) (inOk_later ⟨by rw [Z.hs]; decide, by decide, by rw [Z.hc]; decide⟩) hC2 fun hC3 => ?_
  rw [ld_later, l2]
  refine wp_true rfl ?_
  refine w_Fault hC3 ?_
  have fa : ((C.later 4).later 1).fault = false := C1.fa
  rw [fa]
  exact ⟨H, own_end hC3 (by exact ok7) hI, rfl, rfl⟩

end Go.Proofs.Ytcjhakdopnamoaa

set_option linter.unusedVariables false
set_option linter.unusedSimpArgs false
set_option maxRecDepth 20000
namespace Go.Proofs.Ytcjhakdopnamoaa
open Go Go.Fw

section
variable {A B C : Ar} {g : Gd} {m : Int} {S S' : Sg} {l l' : Int → List (Int × Int)} {k h i v : Int} {q mq : Nat} {who : Int} {n : Nat}

/-- A look in a drop. -/
theorem dr_lift {y y' : Lk} (wb : 1 ≤ g.w ∧ g.w ≤ 1000) (hl : (l who).length < 1000) (h0 : (mLk q mq).Runs n y A y' B) : (mDr q mq).Runs n ⟨g, l, who, h, true, some y⟩ A ⟨g, y'.ls, who, h, true, none⟩ B := by
  have st : ∀ (y : Lk) (A : Ar) (y1 : Lk) (A1 : Ar), (mLk q mq).step y A = (y1, A1) → (mDr q mq).step ⟨g, l, who, h, true, some y⟩ A = if y1.fin = true then (⟨g, y1.ls, who, h, true, none⟩, A1) else (⟨g, l, who, h, true, some y1⟩, A1) := fun y A y1 A1 hs => by
    have hs : y.step A = (y1, A1) := hs
    show (if (y.step A).1.fin = true then ((⟨g, (y.step A).1.ls, who, h, true, none⟩ : Dr), (y.step A).2) else (⟨g, l, who, h, true, some (y.step A).1⟩, (y.step A).2)) = _
    rw [hs]
  have iv : ∀ (y : Lk) (A : Ar), (mLk q mq).inv y A → Dr.inv ⟨g, l, who, h, true, some y⟩ A := fun y A hi => ⟨wb, hl, fun h => (by cases h), fun y2 h2 => by obtain rfl := Option.some.inj h2; exact hi⟩
  induction h0 with
  | @one y A y1 A1 hi hs hu hf =>
    have hf : y1.fin = true := hf
    exact .one (iv y A hi) ((st y A y1 A1 hs).trans (if_pos hf)) hu rfl
  | @more n y A y1 A1 y' B hi hs hu hf hr ih =>
    have hf : y1.fin = false := hf
    exact .more (iv y A hi) ((st y A y1 A1 hs).trans (if_neg (by rw [hf]; exact Bool.false_ne_true))) hu rfl ih

theorem w64_21 : w64 ((2 : Int) + -1) = 1 := by decide
theorem w64_11 : w64 ((1 : Int) + -1) = 0 := by decide

/-- One that knows it drops a frame, another still knows it. -/
theorem drop2 (X : GI A g m S l) (hu : A.uses ≤ 900000) (hl : (l who).length < 1000) (hi : A.inOk h 2) (hv : A.loadF h 2 = 2) :
    Stored A g m S l h 2 1 (A.storeF h 2 1) ∧ (mDr q mq).Runs 1 ⟨g, l, who, h, false, none⟩ A ⟨g, l, who, h, true, none⟩ (A.storeF h 2 1) := by
  have Z := X.store (v := 1) (by omega) hi
  have u0 := X.u0
  refine ⟨Z, .one ⟨by have := X.wb; show 1 ≤ g.w ∧ g.w ≤ 1000; omega, hl, fun _ => rfl, fun y h => (by cases h)⟩ ?_ ?_ rfl⟩
  · show Dr.step ⟨g, l, who, h, false, none⟩ A = _
    unfold Dr.step
    rw [if_pos rfl, if_neg (by show ¬ A.loadF h 2 = 1; rw [hv]; decide)]
    unfold Dr.add
    show ((⟨g, l, who, h, true, none⟩ : Dr), A.storeF h 2 (w64 (A.loadF h 2 + -1))) = _
    rw [hv, w64_21]
  · rw [Z.us, w64_in (by omega) (by omega)]; exact Int.le_refl _

/-- The last one drops it. -/
structure Drop1 (A : Ar) (g : Gd) (m : Int) (S : Sg) (l : Int → List (Int × Int)) (q mq : Nat) (who h : Int) (n : Nat) (A0 A1 B : Ar) (l' : Int → List (Int × Int)) (S' : Sg) : Prop where
  s0 : Stored A g m S l h 2 0 A0
  r1 : Ret1 A0 h A1
  g1 : GI A1 g m S (setL l who (l who ++ [(h, sinceF g A0)]))
  gi : GI B g m S' l'
  run : (mDr q mq).Runs n ⟨g, l, who, h, false, none⟩ A ⟨g, l', who, h, true, none⟩ B
  hn : n ≤ 2501
  al : Ar.Alike A B
  us : A.uses ≤ B.uses ∧ B.uses ≤ A.uses + 1000
  st : B.stF h ≠ 1
  ot : ∀ j, j ≠ h → A.stF j = 1 → B.stF j = 1
  ld : ∀ j i, j ≠ h → A.inOk j i → A.stF j = 1 → B.loadF j i = A.loadF j i
  nL : B.nL = A.nL - sizeF (opC h)
  or : (((l who).length : Int) + 1 < g.th ∧ B = A1 ∧ S' = S ∧ l' = setL l who (l who ++ [(h, sinceF g A0)])) ∨
       (g.th ≤ ((l who).length : Int) + 1 ∧ ∃ keep gs, Lkd A1 g m S (setL l who (l who ++ [(h, sinceF g A0)])) who keep gs 1 B ∧ S' = frS who S gs ∧ l' = setL l who ((l who ++ [(h, sinceF g A0)]).filter keep))
theorem drop1 (X : GI A g m S l) (hu : A.uses ≤ 600000) (kb : 0 ≤ who ∧ who < g.w) (hl : (l who).length ≤ 190) (th : 1 ≤ g.th) (hi : A.inOk h 2) (hs : A.stF h = 1) (hz : sizeF (opC h) ≤ A.nL) (hv : A.loadF h 2 = 1) : ∃ n A0 A1 B l' S', Drop1 A g m S l q mq who h n A0 A1 B l' S' := by
  have Z := X.store (v := 0) (by omega) hi
  have u0 := X.u0
  have zu := Z.us
  obtain ⟨A1, B, l', S', R1, X1, X', run', hor⟩ := Z.gi.retire_run (q := q) (mq := mq) (k := who) (h := h) (by omega) kb (by rw [Z.st]; exact hs) (by rw [Z.nL]; exact hz) hl th
  have wb := X.wb
  have u1 := R1.us
  have lenf : ∀ keep : Int × Int → Bool, ((l who ++ [(h, sinceF g (A.storeF h 2 0))]).filter keep).length ≤ (l who ++ [(h, sinceF g (A.storeF h 2 0))]).length := fun keep => List.length_filter_le _ _
  have hst : (mDr q mq).step ⟨g, l, who, h, false, none⟩ A = (⟨g, setL l who (l who ++ [(h, 0)]), who, h, true, retM g l who h⟩, (A.storeF h 2 0).retireF h) := by
    show Dr.step ⟨g, l, who, h, false, none⟩ A = _
    unfold Dr.step
    rw [if_pos rfl, if_pos (show A.loadF h 2 = 1 from hv)]
    unfold Dr.add
    show ((⟨g, setL l who (l who ++ [(h, 0)]), who, h, true, retM g l who h⟩ : Dr), (A.storeF h 2 (w64 (A.loadF h 2 + -1))).retireF h) = _
    rw [hv, w64_11]
  have iv : (mDr q mq).inv ⟨g, l, who, h, false, none⟩ A := ⟨by show 1 ≤ g.w ∧ g.w ≤ 1000; omega, by show (l who).length < 1000; omega, fun _ => rfl, fun y h => (by cases h)⟩
  have ru := (Off.retireF (c := 0) Z.gi.wf h).us
  have hu1 : ((A.storeF h 2 0).retireF h).uses ≤ w64 (A.uses + 1) := by rw [w64_in (by omega) (by omega)]; omega
  have run : ∃ n, n ≤ 2501 ∧ (mDr q mq).Runs n ⟨g, l, who, h, false, none⟩ A ⟨g, l', who, h, true, none⟩ B := by
    cases hm : retM g l who h with
    | none =>
      rw [hm] at run' hst
      obtain ⟨rfl, rfl⟩ := run'
      exact ⟨1, by decide, .one iv hst hu1 rfl⟩
    | some y =>
      rw [hm] at run' hst
      obtain ⟨n, hn, r⟩ := run'
      refine ⟨n + 1, by omega, .more iv hst hu1 rfl ?_⟩
      exact dr_lift (l := setL l who (l who ++ [(h, 0)])) ⟨by omega, by omega⟩ (by rw [setL_same]; simp; omega) r
  obtain ⟨n, hn, run⟩ := run
  have inS : ∀ j i, A.inOk j i → (A.storeF h 2 0).inOk j i := fun j i hj => (inOk_st Z.st).2 hj
  have l1 : ∀ j i, j ≠ h → A.inOk j i → A1.loadF j i = A.loadF j i := fun j i hj hji => by
    rw [loadF_same R1.wd (by rw [R1.st, if_neg hj]), Z.ld j i hji, if_neg (fun e => hj e.1)]
  have notgs : ∀ {keep gs} (L1 : Lkd A1 g m S (setL l who (l who ++ [(h, sinceF g (A.storeF h 2 0))])) who keep gs 1 B) (j : Int), j ≠ h → A.stF j = 1 → j ∉ gs := fun {keep gs} L1 j hj h1 hg => by
    obtain ⟨x, hx, _, rfl⟩ := L1.gone.1 hg
    rw [setL_same] at hx
    rcases List.mem_append.1 hx with hx | hx
    · have := X.st who x hx; rw [h1] at this; cases this
    · have : x = (h, sinceF g (A.storeF h 2 0)) := by simpa using hx
      rw [this] at hj; exact hj rfl
  refine ⟨n, A.storeF h 2 0, A1, B, l', S', Z, R1, X1, X', run, hn, ?_, ?_, ?_, ?_, ?_, ?_, hor⟩
  · rcases hor with ⟨_, e, _⟩ | ⟨_, keep, gs, L1, _⟩
    · rw [e]; exact Z.al.trans R1.al
    · exact (Z.al.trans R1.al).trans L1.al
  · rcases hor with ⟨_, e, _⟩ | ⟨_, keep, gs, L1, _⟩
    · rw [e]; exact ⟨by omega, by omega⟩
    · have lu := L1.us
      have := lenf keep
      rw [setL_same] at lu
      simp only [List.length_append, List.length_cons, List.length_nil] at lu this
      exact ⟨by omega, by omega⟩
  · rcases hor with ⟨_, e, _⟩ | ⟨_, keep, gs, L1, _⟩
    · rw [e, R1.st, if_pos rfl]; decide
    · rw [L1.st]; split
      · decide
      · rw [R1.st, if_pos rfl]; decide
  · intro j hj h1
    have h2 : A1.stF j = 1 := by rw [R1.st, if_neg hj, Z.st]; exact h1
    rcases hor with ⟨_, e, _⟩ | ⟨_, keep, gs, L1, _⟩
    · rw [e]; exact h2
    · rw [L1.st, if_neg (notgs L1 j hj h1)]; exact h2
  · intro j i hj hji h1
    rcases hor with ⟨_, e, _⟩ | ⟨_, keep, gs, L1, _⟩
    · rw [e]; exact l1 j i hj hji
    · rw [loadF_same L1.wd (by rw [L1.st, if_neg (notgs L1 j hj h1)])]; exact l1 j i hj hji
  · rcases hor with ⟨_, e, _⟩ | ⟨_, keep, gs, L1, _⟩
    · rw [e, R1.nL, Z.nL]
    · rw [L1.nL, R1.nL, Z.nL]
end
end Go.Proofs.Ytcjhakdopnamoaa

set_option linter.unusedVariables false
set_option linter.unusedSimpArgs false
set_option maxRecDepth 20000
namespace Go.Proofs.Ytcjhakdopnamoaa
open Go Go.Fw

section
variable {L : Hands} {R : Value → Heap → Prop} {G : Heap} {rest : Bl} {I : List Nat}
variable {A B C : Ar} {g : Gd} {m : Int} {S S' : Sg} {l l' : Int → List (Int × Int)} {k h i v : Int} {q mq : Nat} {who : Int} {n : Nat} {ad ad' : Bool}

/-- A drop, an end, an ask is run. -/
theorem w_frRun {M : Type} {X : MchR M FJ} (hX : X.ok) {t : TypeId} (hinv : X.inv' t) {x x' : M} {T : TypeId} {tl tl' : List Value} {b : Nat} {e : List LE} {K : Bool → Tree} (ha : ∀ j, X.addr j = j.b)
    (hb : ∀ j, X.bl x j = frB T q mq ⟨g, l, who, h, ad, none⟩ tl j) (hb' : ∀ j, X.bl x' j = frB T q mq ⟨g, l', who, h, ad', none⟩ tl' j) (hr : ∀ j, X.rep x j = frR q mq ⟨g, l, who, h, ad, none⟩ j) (hr' : ∀ j, X.rep x' j = frR q mq ⟨g, l', who, h, ad', none⟩ j)
    (r : X.Runs n x A x' B) (hn : n ≤ 4000) (hA : Aw I A) (gs : GdS e l) (ok : Ok I G (keys ((b, oc T (drC ⟨g, l, who, h, ad, none⟩ q .nilIface ++ tl)) :: (g.bl q mq e ++ rest))))
    (hk : ∀ e' gar, Aw I B → Ok I G (keys ((b, oc T (drC ⟨g, l', who, h, ad', none⟩ q .nilIface ++ tl')) :: (g.bl q mq e' ++ (gar ++ rest)))) → GdS e' l' → wp Try.prog (K true) L (own B ((b, oc T (drC ⟨g, l', who, h, ad', none⟩ q .nilIface ++ tl')) :: (g.bl q mq e' ++ (gar ++ rest))) G) R) :
    wp Try.prog (.call f_magpielaw18_run [.pointer (aI I), .iface t (.pointer (some ⟨b, 0, none⟩))] (.one (.leaf .bool)) K) L (own A ((b, oc T (drC ⟨g, l, who, h, ad, none⟩ q .nilIface ++ tl)) :: (g.bl q mq e ++ rest)) G) R := by
  obtain ⟨p1, ok2⟩ := own_perm (A := A) (l' := frB T q mq ⟨g, l, who, h, ad, none⟩ tl ⟨b, e, lj0, []⟩ ++ rest) ok (perm_by fun c d c0 cd ca => by
    show _ = c (((b, oc T (drC ⟨g, l, who, h, ad, none⟩ q .nilIface ++ tl)) :: (g.bl q mq e ++ [])) ++ rest)
    simp only [List.cons_append, cd, ca, c0]; omega)
  rw [p1]
  have hab : b = X.addr (⟨b, e, lj0, []⟩ : FJ) := (ha ⟨b, e, lj0, []⟩).symm
  rw [← hb] at ok2 ⊢
  have key := w_runR18 hX hinv r hn (j := (⟨b, e, lj0, []⟩ : FJ)) (rest := rest) hA ok2 (by rw [hr]; exact gs) (L := L) (R := R) (k := K) fun j' ha' hB ok3 rp => by
    rw [hb'] at ok3 ⊢
    rw [hr'] at rp
    rw [ha, ha] at ha'
    obtain ⟨b', e', lj', gar'⟩ := j'
    have ha' : b' = b := ha'
    subst ha'
    have ok3 : Ok I G (keys (((b', oc T (drC ⟨g, l', who, h, ad', none⟩ q .nilIface ++ tl')) :: (g.bl q mq e' ++ gar')) ++ rest)) := ok3
    show wp Try.prog _ L (own B (((b', oc T (drC ⟨g, l', who, h, ad', none⟩ q .nilIface ++ tl')) :: (g.bl q mq e' ++ gar')) ++ rest) G) _
    obtain ⟨p2, ok4⟩ := own_perm (A := B) (l' := (b', oc T (drC ⟨g, l', who, h, ad', none⟩ q .nilIface ++ tl')) :: (g.bl q mq e' ++ (gar' ++ rest))) ok3 (perm_by fun c d c0 cd ca => by simp only [List.cons_append, cd, ca, c0]; omega)
    rw [p2]
    exact hk e' gar' hB ok4 rp
  rw [← hab] at key
  exact key

/-- How it ended is told. -/
structure EndP (A : Ar) (g : Gd) (m : Int) (S : Sg) (l : Int → List (Int × Int)) (q mq : Nat) (who h how val : Int) (C : Ar) : Prop where
  gi : GI C g m S l
  al : Ar.Alike A C
  st : ∀ k, C.stF k = A.stF k
  nL : C.nL = A.nL
  us : C.uses = A.uses + 2
  ld : ∀ k j, A.inOk k j → C.loadF k j = if k = h ∧ j = 0 then how else if k = h ∧ j = 1 then val else A.loadF k j
  pth : (mEn q mq).Path 2 ⟨⟨g, l, who, h, false, none⟩, how, val, 1, false⟩ A ⟨⟨g, l, who, h, false, none⟩, how, val, 0, true⟩ C
theorem end_path {how val : Int} (X : GI A g m S l) (hu : A.uses ≤ 900000) (hl : (l who).length < 1000) (hs : A.stF h ≠ 0) (hc : opC h = 0) : EndP A g m S l q mq who h how val ((A.storeF h 1 val).storeF h 0 how) := by
  have wb := X.wb
  have u0 := X.u0
  have ii : ∀ i : Int, 0 ≤ i → i < 8 → A.inOk h i := fun i i0 i1 => ⟨hs, i0, by rw [hc, show sizeF 0 = 8 from rfl]; exact i1⟩
  have Z1 := X.store (v := val) (by omega) (ii 1 (by decide) (by decide))
  have u1 := Z1.us
  have inS : ∀ k j, A.inOk k j → (A.storeF h 1 val).inOk k j := fun k j hj => (inOk_st Z1.st).2 hj
  have Z2 := Z1.gi.store (v := how) (by omega) (inS h 0 (ii 0 (by decide) (by decide)))
  have u2 := Z2.us
  have dv : ∀ A, Dr.inv ⟨g, l, who, h, false, none⟩ A := fun A => ⟨by show 1 ≤ g.w ∧ g.w ≤ 1000; omega, hl, fun _ => rfl, fun y h => (by cases h)⟩
  refine ⟨Z2.gi, Z1.al.trans Z2.al, fun k => (Z2.st k).trans (Z1.st k), Z2.nL.trans Z1.nL, by omega, fun k j hj => ?_, ?_⟩
  · rw [Z2.ld k j (inS k j hj), Z1.ld k j hj]
  · refine .cons (x1 := ⟨⟨g, l, who, h, false, none⟩, how, val, 0, false⟩) (D1 := A.storeF h 1 val) ⟨dv A, fun _ => rfl⟩ rfl ?_ rfl (.cons (x1 := ⟨⟨g, l, who, h, false, none⟩, how, val, 0, true⟩) (D1 := (A.storeF h 1 val).storeF h 0 how) ⟨dv _, fun _ => rfl⟩ rfl ?_ rfl .nil)
    · rw [u1, w64_in (by omega) (by omega)]; exact Int.le_refl _
    · rw [u2, u1, w64_in (by omega) (by omega)]; omega
end
end Go.Proofs.Ytcjhakdopnamoaa

set_option linter.unusedVariables false
set_option linter.unusedSimpArgs false
set_option maxRecDepth 20000
namespace Go.Proofs.Ytcjhakdopnamoaa
open Go Go.Fw

abbrev nls : Int → List (Int × Int) := fun _ => []
/-- A frame that goes, in an arena. -/
structure FZ (I : List Nat) (A : Ar) (g : Gd) (S : Sg) (h how val refs : Int) : Prop where
  aw : Aw I A
  gi : GI A g 24 S nls
  gw : g.w = 2
  th : g.th = 1
  hs : A.stF h = 1
  hc : opC h = 0
  l0 : A.loadF h 0 = how
  l1 : A.loadF h 1 = val
  l2 : A.loadF h 2 = refs
  nL : A.nL = 8
  us : A.uses ≤ 500000
theorem FZ.i {I : List Nat} {A : Ar} {g : Gd} {S : Sg} {h how val refs : Int} (Z : FZ I A g S h how val refs) {i : Int} (i0 : 0 ≤ i) (i1 : i < 8) : A.inOk h i := ⟨by rw [Z.hs]; decide, i0, by rw [Z.hc, show sizeF 0 = 8 from rfl]; exact i1⟩
theorem FZ.later {I : List Nat} {A : Ar} {g : Gd} {S : Sg} {h how val refs : Int} (Z : FZ I A g S h how val refs) {n : Int} (n0 : 0 ≤ n) (hu : A.uses + n ≤ 500000) : FZ I (A.later n) g S h how val refs :=
  ⟨later_aw Z.aw n, Z.gi.later n0, Z.gw, Z.th, by rw [st_later]; exact Z.hs, Z.hc, by rw [ld_later]; exact Z.l0, by rw [ld_later]; exact Z.l1, by rw [ld_later]; exact Z.l2, Z.nL, hu⟩

section
variable {L : Hands} {G : Heap} {rest : Bl} {I : List Nat} {A : Ar} {g : Gd} {S : Sg} {h how val : Int} {q mq : Nat} {e : List LE}

end
end Go.Proofs.Ytcjhakdopnamoaa

set_option linter.unusedVariables false
set_option linter.unusedSimpArgs false
set_option maxRecDepth 20000
namespace Go.Proofs.Ytcjhakdopnamoaa
open Go Go.Fw

section
variable {L : Hands} {G : Heap} {rest : Bl} {I : List Nat} {A : Ar} {g : Gd} {S : Sg} {h how val : Int} {q mq : Nat} {e : List LE}

theorem FZ.told {v0 v1 refs : Int} (Z : FZ I A g S h v0 v1 refs) (hu : A.uses ≤ 400000) {who : Int} : EndP A g 24 S nls q mq who h how val ((A.storeF h 1 val).storeF h 0 how) ∧ FZ I ((A.storeF h 1 val).storeF h 0 how) g S h how val refs := by
  have P := end_path (q := q) (mq := mq) (who := who) (how := how) (val := val) Z.gi (by omega) (by show 0 < 1000; decide) (by rw [Z.hs]; decide) Z.hc
  refine ⟨P, Z.aw.of P.al P.gi.wf, P.gi, Z.gw, Z.th, by rw [P.st]; exact Z.hs, Z.hc, ?_, ?_, ?_, P.nL.trans Z.nL, by have := P.us; omega⟩
  · rw [P.ld h 0 (Z.i (by decide) (by decide)), if_pos ⟨rfl, rfl⟩]
  · rw [P.ld h 1 (Z.i (by decide) (by decide)), if_neg (fun h => by have := h.2; cases this), if_pos ⟨rfl, rfl⟩]
  · rw [P.ld h 2 (Z.i (by decide) (by decide)), if_neg (fun h => by have := h.2; cases this), if_neg (fun h => by have := h.2; cases this)]; exact Z.l2
theorem FZ.drop2 {how val : Int} (Z : FZ I A g S h how val 2) (hu : A.uses ≤ 400000) {who : Int} : Stored A g 24 S nls h 2 1 (A.storeF h 2 1) ∧ (mDr q mq).Runs 1 ⟨g, nls, who, h, false, none⟩ A ⟨g, nls, who, h, true, none⟩ (A.storeF h 2 1) ∧ FZ I (A.storeF h 2 1) g S h how val 1 := by
  obtain ⟨P, r⟩ := Proofs.Ytcjhakdopnamoaa.drop2 (q := q) (mq := mq) (who := who) Z.gi (by omega) (by show 0 < 1000; decide) (Z.i (by decide) (by decide)) Z.l2
  refine ⟨P, r, Z.aw.of P.al P.gi.wf, P.gi, Z.gw, Z.th, by rw [P.st]; exact Z.hs, Z.hc, ?_, ?_, ?_, P.nL.trans Z.nL, by have := P.us; omega⟩
  · rw [P.ld h 0 (Z.i (by decide) (by decide)), if_neg (fun h => by have := h.2; cases this)]; exact Z.l0
  · rw [P.ld h 1 (Z.i (by decide) (by decide)), if_neg (fun h => by have := h.2; cases this)]; exact Z.l1
  · rw [P.ld h 2 (Z.i (by decide) (by decide)), if_pos ⟨rfl, rfl⟩]
theorem FZ.drop1 {how val : Int} (Z : FZ I A g S h how val 1) (hu : A.uses ≤ 400000) {who : Int} (wh : 0 ≤ who ∧ who < 2) : ∃ n A0 A1 B l' S', Drop1 A g 24 S nls q mq who h n A0 A1 B l' S' :=
  Proofs.Ytcjhakdopnamoaa.drop1 (q := q) (mq := mq) Z.gi (by omega) (by rw [Z.gw]; exact wh) (by show 0 ≤ 190; decide) (by rw [Z.th]; decide) (Z.i (by decide) (by decide)) Z.hs (by rw [Z.hc, Z.nL]; decide) Z.l2

end
end Go.Proofs.Ytcjhakdopnamoaa

set_option linter.unusedVariables false
set_option linter.unusedSimpArgs false
set_option maxRecDepth 20000
namespace Go.Proofs.Ytcjhakdopnamoaa
open Go Go.Fw

section
variable {L : Hands} {R : Value → Heap → Prop} {G : Heap} {rest : Bl} {I : List Nat}
variable {A B C : Ar} {g : Gd} {m : Int} {S S' : Sg} {l l' : Int → List (Int × Int)} {k h i v : Int} {q mq : Nat} {who tries : Int} {w : Nat → Int} {p : Pl} {n : Nat}

/-- A make is run, to whatever end. -/
theorem w_mkRun2 {b : Nat} {e : List LE} {aj : Nat × Nat × Nat} {gar : Bl} {tw : Nat → Int} {t' a' h' : Int} {k : Bool → Tree} (hA : Aw I A) (hC : Aw I C) (gs : GdS e l)
    (ok : Ok I G (keys ((b, oc ty_frame_Make (mkC q g.pl who tw (some ⟨aj.1, 0, none⟩) .nilIface 0 0 0 false)) :: ((newAl g.pl who 0).bl aj ++ (gar ++ (g.bl q mq e ++ rest))))))
    (r : (mMk q mq).Runs n ⟨g, l, g.pl, who, tw, some (newAl g.pl who 0), none, 0, 0, 0, false⟩ A ⟨g, l', g.pl, who, tw, none, none, t', a', h', true⟩ C) (hn : n ≤ 4000)
    (hk : ∀ e' gar', Ok I G (keys ((b, oc ty_frame_Make (mkC q g.pl who tw none .nilIface t' a' h' true)) :: (g.bl q mq e' ++ (gar' ++ rest)))) → GdS e' l' → wp Try.prog (k true) L (own C ((b, oc ty_frame_Make (mkC q g.pl who tw none .nilIface t' a' h' true)) :: (g.bl q mq e' ++ (gar' ++ rest))) G) R) :
    wp Try.prog (.call f_magpielaw18_run [.pointer (aI I), .iface ty_p_frame_Make (.pointer (some ⟨b, 0, none⟩))] (.one (.leaf .bool)) k) L (own A ((b, oc ty_frame_Make (mkC q g.pl who tw (some ⟨aj.1, 0, none⟩) .nilIface 0 0 0 false)) :: ((newAl g.pl who 0).bl aj ++ (gar ++ (g.bl q mq e ++ rest)))) G) R := by
  obtain ⟨p1, ok2⟩ := own_perm (A := A) (l' := Mk.bl q mq ⟨g, l, g.pl, who, tw, some (newAl g.pl who 0), none, 0, 0, 0, false⟩ ⟨b, e, lj0, aj, gar⟩ ++ rest) ok (perm_by fun c d c0 cd ca => by
    show _ = c (((b, oc ty_frame_Make (mkC q g.pl who tw (some ⟨aj.1, 0, none⟩) .nilIface 0 0 0 false)) :: (g.bl q mq e ++ ((newAl g.pl who 0).bl aj ++ gar))) ++ rest)
    simp only [List.cons_append, cd, ca, c0]; omega)
  rw [p1]
  refine w_runR18 (mMk_ok q mq) (mMk_inv q mq) r hn (j := ⟨b, e, lj0, aj, gar⟩) hA ok2 gs fun j' ha _ ok3 rp => ?_
  obtain ⟨b', e', lj', aj', gar'⟩ := j'
  have ha : b' = b := ha
  subst ha
  have ok3 : Ok I G (keys (((b', oc ty_frame_Make (mkC q g.pl who tw none .nilIface t' a' h' true)) :: (g.bl q mq e' ++ ([] ++ gar'))) ++ rest)) := ok3
  show wp Try.prog _ L (own C (((b', oc ty_frame_Make (mkC q g.pl who tw none .nilIface t' a' h' true)) :: (g.bl q mq e' ++ ([] ++ gar'))) ++ rest) G) _
  obtain ⟨p2, ok4⟩ := own_perm (A := C) (l' := (b', oc ty_frame_Make (mkC q g.pl who tw none .nilIface t' a' h' true)) :: (g.bl q mq e' ++ (gar' ++ rest))) ok3 (perm_by fun c d c0 cd ca => by simp only [List.cons_append, List.nil_append, cd, ca, c0]; omega)
  rw [p2]
  exact hk e' gar' ok4 rp

/-- An alloc that finds nothing. -/
structure NoSlot (A : Ar) (g : Gd) (m : Int) (S : Sg) (l : Int → List (Int × Int)) (who : Int) (n : Nat) (x : Al) (B : Ar) : Prop where
  run : mAl.Runs n (newAl g.pl who 0) A x B
  gi : GI B g m S l
  h0 : x.h = 0
  st : ∀ k, B.stF k = A.stF k
  off : Off g.pl.carved n A B
  nL : B.nL = A.nL
  nn : (n : Int) ≤ g.w + 5
theorem GI.noSlot (X : GI A g m S l) (hu : A.uses ≤ 900000) (wh : 0 ≤ who ∧ who < g.w) (hc : ∀ k, S.ch k = []) (hf : m < S.cv + 8) : ∃ n x B, NoSlot A g m S l who n x B := by
  obtain ⟨n, x, B, S', Z⟩ := alloc_solo X.sl X.wf (by omega) wh (c := 0) (by decide)
  have G := X.alloc (by decide) Z
  obtain ⟨kk, b', l', h1, h2, _⟩ | ⟨h1, h2, h3, h4⟩ | ⟨h1, h2, h3, h4⟩ := Z.gives.or
  · rw [hc] at h2; cases h2
  · rw [show sizeF 0 = 8 from rfl] at h2; omega
  · rw [h3] at G
    refine ⟨n, x, B, Z.run, G, h4, fun k => by rw [Z.st, if_neg (fun h => h.1 h4)], Z.off, by rw [Z.nL, if_neg (fun h => h h4)]; omega, Z.nn⟩

/-- A look in a make. -/
theorem mk_flift {y y' : Lk} {ls : Int → List (Int × Int)} {at_ h0 : Int} (wb : 1 ≤ g.w ∧ g.w ≤ 1000) (hl : (ls who).length ≤ 1000) (h1 : (mLk q mq).Runs n y A y' B) :
    (mMk q mq).Path n ⟨g, ls, p, who, w, none, some y, tries, at_, h0, false⟩ A ⟨g, y'.ls, p, who, w, some (newAl p who 0), none, tries, at_, h0, false⟩ B := by
  have st : ∀ (y : Lk) (A : Ar) (y1 : Lk) (A1 : Ar), (mLk q mq).step y A = (y1, A1) → (mMk q mq).step ⟨g, ls, p, who, w, none, some y, tries, at_, h0, false⟩ A = if y1.fin = true then (⟨g, y1.ls, p, who, w, some (newAl p who 0), none, tries, at_, h0, false⟩, A1) else (⟨g, ls, p, who, w, none, some y1, tries, at_, h0, false⟩, A1) := fun y A y1 A1 hs => by
    have hs : y.step A = (y1, A1) := hs
    show (if (y.step A).1.fin = true then ((⟨g, (y.step A).1.ls, p, who, w, some (newAl p who 0), none, tries, at_, h0, false⟩ : Mk), (y.step A).2) else (⟨g, ls, p, who, w, none, some (y.step A).1, tries, at_, h0, false⟩, (y.step A).2)) = _
    rw [hs]
  have iv : ∀ (y : Lk) (A : Ar), (mLk q mq).inv y A → Mk.inv ⟨g, ls, p, who, w, none, some y, tries, at_, h0, false⟩ A := fun y A hi => ⟨wb, hl, fun y2 h2 => by obtain rfl := Option.some.inj h2; exact ⟨hi, rfl⟩, fun _ h => (by cases h), fun _ h => (by cases h)⟩
  induction h1 with
  | @one y A y1 A1 hi hs hu hf =>
    have hf : y1.fin = true := hf
    exact .cons (iv y A hi) ((st y A y1 A1 hs).trans (if_pos hf)) hu rfl .nil
  | @more n y A y1 A1 y' B hi hs hu hf hr ih =>
    have hf : y1.fin = false := hf
    exact .cons (iv y A hi) ((st y A y1 A1 hs).trans (if_neg (by rw [hf]; exact Bool.false_ne_true))) hu rfl ih

/-- Refused: there is no room, and nothing to look for. -/
theorem make_fail (X : GI A g m S l) (hu : A.uses ≤ 800000) (wh : 0 ≤ who ∧ who < g.w) (hl : l who = []) (hc : ∀ k, S.ch k = []) (hf : m < S.cv + 8) :
    ∃ n B, (mMk q mq).Runs n ⟨g, l, g.pl, who, w, some (newAl g.pl who 0), none, 0, 0, 0, false⟩ A ⟨g, l, g.pl, who, w, none, none, 2, 0, 0, true⟩ B ∧ n ≤ 400 ∧ GI B g m S l ∧ (∀ k, B.stF k = A.stF k) ∧ B.words = A.words ∧ Ar.Alike A B ∧ (∀ i, g.pl.carved < i → B.rawF i = A.rawF i) ∧ B.nL = A.nL ∧ B.uses ≤ A.uses + 400 := by
  have wb := X.wb
  obtain ⟨n1, x1, B1, Z1⟩ := X.noSlot (by omega) wh hc hf
  have z1 := Z1.nn
  have u1 := Z1.off.us
  obtain ⟨n2, x2, B2, Z2⟩ := Z1.gi.noSlot (by omega) wh hc hf
  have z2 := Z2.nn
  have u2 := Z2.off.us
  have hll : (l who).length ≤ 1000 := by rw [hl]; decide
  obtain ⟨i1, _⟩ := al_lift (q := q) (mq := mq) (g := g) (l := l) (who := who) (tries := 0) (w := w) (p := g.pl) (at_ := 0) (h0 := 0) ⟨by omega, by omega⟩ hll Z1.run ⟨g, l, g.pl, who, w, some (newAl g.pl who 0), none, 1, 0, 0, false⟩ (by
    unfold Mk.got
    rw [if_neg (fun h => h Z1.h0), if_neg (by show ¬ 1 < w64 ((0 : Int) + 1); decide)]
    have : forM g l who = none := by unfold forM; rw [if_pos hl]
    dsimp only
    rw [this]; rfl)
  obtain ⟨_, i2⟩ := al_lift (q := q) (mq := mq) (g := g) (l := l) (who := who) (tries := 1) (w := w) (p := g.pl) (at_ := 0) (h0 := 0) ⟨by omega, by omega⟩ hll Z2.run ⟨g, l, g.pl, who, w, none, none, 2, 0, 0, true⟩ (by
    unfold Mk.got
    rw [if_neg (fun h => h Z2.h0), if_pos (by show 1 < w64 ((1 : Int) + 1); decide)]
    rfl)
  exact ⟨n1 + n2, B2, (i1 rfl).run (i2 rfl), by omega, Z2.gi, fun k => (Z2.st k).trans (Z1.st k), Z2.off.wd.trans Z1.off.wd, Z1.off.al.trans Z2.off.al, fun i hi => (Z2.off.rw i hi).trans (Z1.off.rw i hi), Z2.nL.trans Z1.nL, by omega⟩

def wrN (B : Ar) (h : Int) (w : Nat → Int) : Nat → Ar
  | 0 => B
  | n + 1 => (wrN B h w n).storeF h n (w n)
theorem mk_storesN (X : GI B g m S l) (hl : (l who).length ≤ 1000) (hu : B.uses ≤ 900000) (hs : B.stF h ≠ 0) (hc : opC h = 0) : ∀ n : Nat, n ≤ 6 →
    Wr B g m S l h w n (wrN B h w n) ∧ (mMk q mq).Path n ⟨g, l, p, who, w, none, none, tries, 0, h, false⟩ B ⟨g, l, p, who, w, none, none, tries, n, h, false⟩ (wrN B h w n)
  | 0, _ => ⟨.nil X w, .nil⟩
  | n + 1, hn => by
    obtain ⟨W, pth⟩ := mk_storesN X hl hu hs hc n (by omega)
    have us := W.us
    have u0 := X.u0
    have hi : B.inOk h n := ⟨hs, by omega, by rw [hc, show sizeF 0 = 8 from rfl]; omega⟩
    have W1 := W.next (by omega) hi
    refine ⟨W1, pth.trans (.cons ⟨by have := X.wb; show 1 ≤ g.w ∧ g.w ≤ 1000; omega, hl, fun _ h => (by cases h), fun _ h => (by cases h), fun _ _ _ => ⟨by show (0 : Int) ≤ n; omega, by show (n : Int) < 7; omega⟩⟩ ?_ ?_ ?_ .nil)⟩
    · show Mk.step ⟨g, l, p, who, w, none, none, tries, n, h, false⟩ (wrN B h w n) = (⟨g, l, p, who, w, none, none, tries, ((n + 1 : Nat) : Int), h, false⟩, (wrN B h w n).storeF h n (w n))
      have e : w64 ((n : Int) + 1) = ((n + 1 : Nat) : Int) := by rw [w64_in (by omega) (by omega)]; omega
      have e2 : ((((n + 1 : Nat) : Int)) == 7) = false := ibef (by omega)
      show (Mk.mk g l p who w none none tries (w64 ((n : Int) + 1)) h (w64 ((n : Int) + 1) == 7), (wrN B h w n).storeF h n (w ((n : Int)).toNat)) = _
      rw [e, e2, Int.toNat_natCast]
    · show ((wrN B h w n).storeF h n (w n)).uses ≤ w64 ((wrN B h w n).uses + 1); rw [W1.us, us, w64_in (by omega) (by omega)]; omega
    · rfl

/-- One slot lies on the own list. -/
structure Again (A : Ar) (g : Gd) (m : Int) (S : Sg) (l : Int → List (Int × Int)) (h : Int) (w : Nat → Int) (n : Nat) (x : Al) (B : Ar) (S1 : Sg) (C : Ar) : Prop where
  z : Alloced A g.pl g.w m S 0 0 n x B S1
  w : Wr B g m S1 l x.h w 7 C
  hx : x.h ≠ 0
  hc : opC x.h = 0
  hs : C.stF x.h = 1
  ne : x.h ≠ h
theorem make_again (X : GI A g m S l) (hu : A.uses ≤ 800000) (hl : (l 0).length ≤ 1000) (ch : ∀ k, S.ch k = if k = 0 then [opB h] else []) (gn : S.gn (opB h) = opG h) :
    ∃ n x B S1 C, Again A g m S l h w n x B S1 C ∧ ∀ {tries : Int}, 0 ≤ tries → tries ≤ 1 → (mMk q mq).Runs (n + 7) ⟨g, l, g.pl, 0, w, some (newAl g.pl 0 0), none, tries, 0, 0, false⟩ A ⟨g, l, g.pl, 0, w, none, none, tries + 1, 7, x.h, true⟩ C := by
  have wb := X.wb
  have u0 := X.u0
  obtain ⟨n, x, B, S1, Z⟩ := alloc_solo X.sl X.wf (by omega) (who := 0) (c := 0) (by omega) (by decide)
  have GB := X.alloc (by decide) Z
  have nn := Z.nn
  have us := Z.off.us
  have hask : S.ask g.w 0 0 g.w.toNat 0 = some 0 := by
    obtain ⟨f, hf⟩ : ∃ f, g.w.toNat = f + 1 := ⟨g.w.toNat - 1, by omega⟩
    rw [hf]
    unfold Sg.ask
    have e : 4 * (((0 : Int) + 0) % g.w) + 0 = 0 := by rw [show (0 : Int) + 0 = 0 from rfl, Int.zero_emod]; rfl
    rw [e, ch, if_pos rfl, if_neg (by simp)]
  have key : x.h ≠ 0 ∧ x.h ≠ h := by
    obtain ⟨kk, b', l', h1, h2, _, _, hcc, h3, h4⟩ | ⟨h1, _⟩ | ⟨h1, _⟩ := Z.gives.or
    · rw [hask] at h1
      obtain rfl := Option.some.inj h1
      have hb : b' = opB h := by rw [ch, if_pos rfl] at h2; cases h2; rfl
      obtain ⟨o1, o2, o3, o4, o5⟩ := list_name X.sl (by omega) h2 hcc
      rw [← h4] at o1 o2 o5
      refine ⟨o5, fun e => ?_⟩
      rw [hb, gn, e] at o2
      omega
    · rw [hask] at h1; cases h1
    · rw [hask] at h1; cases h1
  obtain ⟨hx, hne⟩ := key
  have hc : opC x.h = 0 := (Z.hd hx).1
  have hst : B.stF x.h = 1 := by rw [Z.st, if_pos ⟨hx, rfl⟩]
  have hi : B.inOk x.h (6 : Nat) := ⟨by rw [hst]; decide, by decide, by rw [hc]; decide⟩
  obtain ⟨W, _⟩ := mk_storesN (q := q) (mq := mq) (who := 0) (tries := 0) (w := w) (p := g.pl) GB hl (by omega) (h := x.h) (by rw [hst]; decide) hc 6 (by decide)
  have W7 := W.next (by rw [W.us]; omega) hi
  refine ⟨n, x, B, S1, _, ⟨Z, W7, hx, hc, by rw [W7.st]; exact hst, hne⟩, fun {tries} t0 t1 => ?_⟩
  have ew : w64 (tries + 1) = tries + 1 := w64_in (by omega) (by omega)
  obtain ⟨_, pth⟩ := mk_storesN (q := q) (mq := mq) (who := 0) (tries := tries + 1) (w := w) (p := g.pl) GB hl (by omega) (h := x.h) (by rw [hst]; decide) hc 6 (by decide)
  obtain ⟨i1, _⟩ := al_lift (q := q) (mq := mq) (g := g) (l := l) (who := 0) (tries := tries) (w := w) (p := g.pl) (at_ := 0) (h0 := 0) ⟨by omega, by omega⟩ hl Z.run ⟨g, l, g.pl, 0, w, none, none, tries + 1, 0, x.h, false⟩ (by unfold Mk.got; rw [if_pos hx]; dsimp only; rw [ew])
  refine (i1 rfl).run (pth.run (.one ⟨by show 1 ≤ g.w ∧ g.w ≤ 1000; omega, hl, fun _ h => (by cases h), fun _ h => (by cases h), fun _ _ _ => ⟨by show (0 : Int) ≤ (6 : Nat); decide, by show ((6 : Nat) : Int) < 7; decide⟩⟩ ?_ ?_ rfl))
  · show Mk.step ⟨g, l, g.pl, 0, w, none, none, tries + 1, ((6 : Nat) : Int), x.h, false⟩ (wrN B x.h w 6) = _
    rfl
  · rw [W7.us]; show B.uses + ((6 + 1 : Nat) : Int) ≤ w64 ((wrN B x.h w 6).uses + 1); rw [W.us, w64_in (by omega) (by omega)]; omega
end
end Go.Proofs.Ytcjhakdopnamoaa

set_option linter.unusedVariables false
set_option linter.unusedSimpArgs false
set_option maxRecDepth 20000
namespace Go.Proofs.Ytcjhakdopnamoaa
open Go Go.Fw

section
variable {L : Hands} {R : Value → Heap → Prop} {G : Heap} {rest : Bl} {I : List Nat}
variable {A B C : Ar} {g : Gd} {m : Int} {S S' : Sg} {l l' : Int → List (Int × Int)} {k h i v : Int} {q mq : Nat} {who : Int} {w : Nat → Int} {n : Nat}

/-- Behind a drop there is room for one. -/
structure Fin1 (B : Ar) (g : Gd) (m : Int) (l' : Int → List (Int × Int)) (h : Int) (w : Nat → Int) (q mq n : Nat) (t xh : Int) (l2 : Int → List (Int × Int)) (S2 : Sg) (F : Ar) : Prop where
  run : (mMk q mq).Runs n ⟨g, l', g.pl, 0, w, some (newAl g.pl 0 0), none, 0, 0, 0, false⟩ B ⟨g, l2, g.pl, 0, w, none, none, t, 7, xh, true⟩ F
  hn : n ≤ 4000
  gi : GI F g m S2 l2
  al : Ar.Alike B F
  x0 : xh ≠ 0
  xc : opC xh = 0
  xs : F.stF xh = 1
  ne : xh ≠ h
  ld : F.loadF xh 3 = w 3
  dead : F.stF h = 0
  ot : ∀ j, j ≠ h → B.stF j = 1 → F.stF j = 1 ∧ ∀ i, B.inOk j i → F.loadF j i = B.loadF j i
  us : F.uses ≤ B.uses + 2000

theorem again_fin (X : GI A g m S l) (hl : l 0 = []) {x : Al} {S1 : Sg} (Z : Again A g m S l h w n x B S1 C) (hd : A.stF h = 0) :
    C.loadF x.h 3 = w 3 ∧ C.stF h = 0 ∧ (∀ j, j ≠ h → A.stF j = 1 → C.stF j = 1 ∧ ∀ i, A.inOk j i → C.loadF j i = A.loadF j i) ∧ C.uses = A.uses + n + 7 ∧ Ar.Alike A C ∧ GI C g m S1 l := by
  have us := Z.z.off.us
  have wu := Z.w.us
  refine ⟨Z.w.ld 3 (by decide), ?_, fun j hj h1 => ?_, by omega, Z.z.off.al.trans Z.w.al, Z.w.gi⟩
  · rw [Z.w.st, Z.z.st, if_neg (fun e => Z.ne e.2.symm)]; exact hd
  · have hx : j ≠ x.h := fun e => by have := (Z.z.hd Z.hx).2.2; rw [← e, h1] at this; cases this
    have sb : B.stF j = A.stF j := by rw [Z.z.st, if_neg (fun e => hx e.2)]
    refine ⟨by rw [Z.w.st, sb]; exact h1, fun i hi => ?_⟩
    have hiB : B.inOk j i := ⟨by rw [sb]; exact hi.1, hi.2⟩
    rw [Z.w.lo j i hiB hx]
    exact loadF_same Z.z.off.wd sb

theorem fin1 {A0 A1 : Ar} (hu : B.uses ≤ 500000) (D : Drop1 A g m S nls q mq 0 h n A0 A1 B l' S') (th : g.th = 1) (hc : opC h = 0) (ch : ∀ k, S.ch k = []) (gn : S.gn (opB h) = opG h) (hf : m < S.cv + 8) (rw0 : ∀ j, g.pl.carved < j → A.rawF j = 0) :
    ∃ n t xh l2 S2 F, Fin1 B g m l' h w q mq n t xh l2 S2 F := by
  have wb := D.gi.wb
  have u0 := D.gi.u0
  have c0 := D.gi.c0
  rcases D.or with ⟨hlt, _⟩ | ⟨_, keep, gs, L1, eS, el⟩
  · exfalso; rw [th] at hlt; have : ((nls 0).length : Int) = 0 := rfl; omega
  have el : l' = setL nls 0 ([(h, sinceF g A0)].filter keep) := el
  have pm : gs.Perm (([(h, sinceF g A0)].filter fun x => !keep x).map Prod.fst) := by have := L1.pm; rw [setL_same] at this; exact this
  have chf : ∀ k, (frS 0 S [h]).ch k = if k = 0 then [opB h] else [] := fun k => by
    show upd S.ch (4 * 0 + opC h) (opB h :: S.ch (4 * 0 + opC h)) k = _
    rw [hc, ch]; unfold upd; rw [show (4 : Int) * 0 + 0 = 0 from rfl, ch]
  have gnf : (frS 0 S [h]).gn (opB h) = opG h := gn
  have a1h : A1.stF h = 2 := by rw [D.r1.st, if_pos rfl]
  cases hk : keep (h, sinceF g A0) with
  | false =>
    have e1 : [(h, sinceF g A0)].filter keep = [] := by rw [List.filter_cons, hk]; rfl
    have e2 : ([(h, sinceF g A0)].filter fun x => !keep x) = [(h, sinceF g A0)] := by rw [List.filter_cons, hk]; rfl
    rw [e2] at pm
    have egs : gs = [h] := List.perm_singleton.1 pm
    rw [egs] at eS
    rw [e1] at el
    have hl0 : l' 0 = [] := by rw [el, setL_same]
    have hd : B.stF h = 0 := by rw [L1.st, egs, if_pos (by simp)]
    have X := D.gi
    rw [eS] at X
    obtain ⟨n2, x, B2, S1, C, Z, r⟩ := make_again (q := q) (mq := mq) (w := w) X (by omega) (by rw [hl0]; decide) chf gnf
    obtain ⟨f1, f2, f3, f4, f5, f6⟩ := again_fin X hl0 Z hd
    have nn := Z.z.nn
    exact ⟨_, _, _, _, _, C, r (Int.le_refl 0) (by decide), by omega, f6, f5, Z.hx, Z.hc, Z.hs, Z.ne, f1, f2, f3, by omega⟩
  | true =>
    have e1 : [(h, sinceF g A0)].filter keep = [(h, sinceF g A0)] := by rw [List.filter_cons, hk]; rfl
    have e2 : ([(h, sinceF g A0)].filter fun x => !keep x) = [] := by rw [List.filter_cons, hk]; rfl
    rw [e2] at pm
    have egs : gs = [] := List.Perm.eq_nil pm
    rw [egs] at eS
    have eS : S' = S := eS
    rw [e1] at el
    have hl0 : l' 0 = [(h, sinceF g A0)] := by rw [el, setL_same]
    have X := D.gi
    rw [eS] at X
    obtain ⟨n1, x1, B1, Z1⟩ := X.noSlot (by omega) (who := 0) (by omega) ch hf
    have z1 := Z1.nn
    have u1 := Z1.off.us
    obtain ⟨B2, l2, S2, X2, run2, hor⟩ := Z1.gi.force_run (q := q) (mq := mq) (k := 0) (by omega) (by omega) (by rw [hl0]; exact Nat.le_of_ble_eq_true rfl)
    rcases hor with ⟨h0, _⟩ | ⟨hne, keep2, gs2, L2, eS2, el2⟩
    · rw [hl0] at h0; cases h0
    have hall := L2.all Z1.gi (by omega) fun j hj hj2 => by
      rw [Z1.off.rw j hj]
      have r1 : A1.rawF j = 0 := by rw [D.r1.rw j (by omega), D.s0.rf]; exact rw0 j hj
      by_cases ej : j = g.ta
      · cases he : g.ep with
        | true => exact (hj2 he ej).elim
        | false => rw [ej, (L1.ha he).1, ← ej]; exact r1
      · rw [L1.rw j hj ej]; exact r1
    have hk2 : keep2 (h, sinceF g A0) = false := hall _ (by rw [hl0]; simp)
    have pm2 : gs2.Perm (([(h, sinceF g A0)].filter fun x => !keep2 x).map Prod.fst) := by have := L2.pm; rw [hl0] at this; exact this
    have e4 : ([(h, sinceF g A0)].filter fun x => !keep2 x) = [(h, sinceF g A0)] := by rw [List.filter_cons, hk2]; rfl
    rw [e4] at pm2
    have egs2 : gs2 = [h] := List.perm_singleton.1 pm2
    rw [egs2] at eS2
    have e5 : [(h, sinceF g A0)].filter keep2 = [] := by rw [List.filter_cons, hk2]; rfl
    rw [hl0, e5] at el2
    have hl2 : l2 0 = [] := by rw [el2, setL_same]
    rw [eS2] at X2
    have b1h : B1.stF h = 2 := by rw [Z1.st, L1.st, egs, if_neg (by simp)]; exact a1h
    have hd : B2.stF h = 0 := by rw [L2.st, egs2, if_pos (by simp)]
    have lu := L2.us
    rw [hl0, e5] at lu
    have ft : ((forT g : Nat) : Int) ≤ 3 := by unfold forT; split <;> decide
    have lu2 : B2.uses ≤ B1.uses + 202 * ((forT g : Nat) : Int) + 3 * (((1 : Nat) : Int) - ((0 : Nat) : Int)) := lu.2
    obtain ⟨n2, x, B3, S1, C, Z, r⟩ := make_again (q := q) (mq := mq) (w := w) X2 (by omega) (by rw [hl2]; decide) chf gnf
    obtain ⟨f1, f2, f3, f4, f5, f6⟩ := again_fin X2 hl2 Z hd
    have nn := Z.z.nn
    have hm : forM g l' 0 = some (forLk g l' 0).begin := by unfold forM; rw [if_neg (by rw [hl0]; simp)]
    rw [hm] at run2
    obtain ⟨n3, hn3, r3⟩ := run2
    have hll : (l' 0).length ≤ 1000 := by rw [hl0]; exact Nat.le_of_ble_eq_true rfl
    obtain ⟨i1, _⟩ := al_lift (q := q) (mq := mq) (g := g) (l := l') (who := 0) (tries := 0) (w := w) (p := g.pl) (at_ := 0) (h0 := 0) ⟨by omega, by omega⟩ hll Z1.run ⟨g, l', g.pl, 0, w, none, some (forLk g l' 0).begin, 1, 0, 0, false⟩ (by
      unfold Mk.got
      rw [if_neg (fun h => h Z1.h0), if_neg (by show ¬ 1 < w64 ((0 : Int) + 1); decide)]
      dsimp only
      rw [hm]; rfl)
    have p3 := mk_flift (q := q) (mq := mq) (g := g) (ls := l') (who := 0) (tries := 1) (w := w) (p := g.pl) (at_ := 0) (h0 := 0) ⟨by omega, by omega⟩ hll r3
    have rr := (i1 rfl).run (p3.run (r (tries := 1) (by decide) (by decide)))
    refine ⟨_, _, _, _, _, C, rr, by omega, f6, (Z1.off.al.trans L2.al).trans f5, Z.hx, Z.hc, Z.hs, Z.ne, f1, f2, fun j hj h1 => ?_, by omega⟩
    have s2 : B2.stF j = 1 := by
      rw [L2.st, egs2, if_neg (by simpa using hj), Z1.st]; exact h1
    obtain ⟨g1, g2⟩ := f3 j hj s2
    refine ⟨g1, fun i hi => ?_⟩
    have w2 : B2.words = B.words := L2.wd.trans Z1.off.wd
    have hi2 : B2.inOk j i := ⟨by rw [s2]; decide, hi.2⟩
    rw [g2 i hi2]
    exact loadF_same w2 (by rw [s2, h1])
end

/-- So many frames were made. -/
structure RM (I : List Nat) (B : Ar) (g : Gd) (s : Int) (S : Sg) (hs : List Int) : Prop where
  aw : Aw I B
  gi : GI B g (8 * s) S nls
  ch : ∀ k, S.ch k = []
  cv : S.cv = 8 * hs.length
  el : ∀ n : Nat, n < hs.length → B.stF (hs.getD n 0) = 1 ∧ opC (hs.getD n 0) = 0 ∧ B.loadF (hs.getD n 0) 2 = 2 ∧ B.loadF (hs.getD n 0) 3 = n ∧ opG (hs.getD n 0) = 1 ∧ S.gn (opB (hs.getD n 0)) = 1
  nd : ∀ a b : Nat, a < hs.length → b < hs.length → hs.getD a 0 = hs.getD b 0 → a = b
  rw : ∀ j, g.pl.carved < j → B.rawF j = 0
  nL : B.nL = 8 * hs.length

theorem getD_app1 (hs : List Int) (x : Int) (n : Nat) : (hs ++ [x]).getD n 0 = if n < hs.length then hs.getD n 0 else if n = hs.length then x else 0 := by
  rw [List.getD_eq_getElem?_getD, List.getD_eq_getElem?_getD, List.getElem?_append]
  split
  · rfl
  · rename_i h
    by_cases e : n = hs.length
    · rw [if_pos e, e, Nat.sub_self]; rfl
    · rw [if_neg e]
      have : n - hs.length ≠ 0 := by omega
      obtain ⟨k, hk⟩ : ∃ k, n - hs.length = k + 1 := ⟨n - hs.length - 1, by omega⟩
      rw [hk]; rfl

theorem RM.next {I : List Nat} {B : Ar} {g : Gd} {s : Int} {S : Sg} {hs : List Int} (M : RM I B g s S hs) (hu : B.uses ≤ 500000) (q mq : Nat) {who : Int} (wh : 0 ≤ who ∧ who < g.w) (hr : (hs.length : Int) < s) {fn : Int} (hfn : fn = hs.length) :
    ∃ n x C S1, (mMk q mq).Runs (n + 7) ⟨g, nls, g.pl, who, twF fn 0 1125899906842624 false, some (newAl g.pl who 0), none, 0, 0, 0, false⟩ B ⟨g, nls, g.pl, who, twF fn 0 1125899906842624 false, none, none, 1, 7, (x : Al).h, true⟩ C ∧ x.h ≠ 0 ∧ n ≤ 200 ∧ C.uses ≤ B.uses + 300 ∧ RM I C g s S1 (hs ++ [x.h]) := by
  have wb := M.gi.wb
  have cv := M.cv
  obtain ⟨n, x, D, S1, C, Z, r, W, hx, hc, hs1, hs0⟩ := make_run (q := q) (mq := mq) (w := twF fn 0 1125899906842624 false) M.gi (by omega) wh (by show 0 ≤ 1000; decide) (by omega)
  have un := Z.un
  have wu := W.us
  have nn := Z.z.nn
  have cb := M.gi.sl.cvb
  have key : (∀ k, S1.ch k = []) ∧ S1.cv = S.cv + 8 ∧ S1.gn = updI S.gn S.cv 1 ∧ x.h = packF S.cv 1 0 := by
    obtain ⟨kk, b', l', h1, h2, _⟩ | ⟨h1, h2, h3, h4⟩ | ⟨h1, h2, h3, h4⟩ := Z.z.gives.or
    · rw [M.ch] at h2; cases h2
    · rw [h3]; exact ⟨M.ch, rfl, rfl, h4⟩
    · exact (hx h4).elim
  obtain ⟨k1, k2, k3, k4⟩ := key
  obtain ⟨o1, o2, o3, o4, o5⟩ := carve_name M.gi.sl (c := 0) (by decide) (by rw [show sizeF 0 = 8 from rfl]; omega)
  rw [← k4] at o1 o2
  have hlen : (hs ++ [x.h]).length = hs.length + 1 := by simp
  refine ⟨n, x, C, S1, r, hx, by omega, by omega, M.aw.of (Z.z.off.al.trans W.al) W.gi.wf, W.gi, k1, by rw [k2, cv, hlen]; omega, fun a ha => ?_, fun a b ha hb e => ?_, fun j hj => by rw [W.rf, Z.z.off.rw j hj]; exact M.rw j hj, by rw [W.nL, Z.z.nL, if_pos hx, M.nL, hlen, show sizeF 0 = 8 from rfl]; omega⟩
  · rw [getD_app1]
    rw [hlen] at ha
    by_cases e : a < hs.length
    · rw [if_pos e]
      obtain ⟨m1, m2, m3, m4, m5, m6⟩ := M.el a e
      have ne : hs.getD a 0 ≠ x.h := fun h => by rw [h, hs0] at m1; cases m1
      have sD : D.stF (hs.getD a 0) = B.stF (hs.getD a 0) := by rw [Z.z.st, if_neg (fun h => ne h.2)]
      have ld : ∀ i : Int, 0 ≤ i → i < 8 → C.loadF (hs.getD a 0) i = B.loadF (hs.getD a 0) i := fun i i0 i1 => by
        rw [W.lo _ i ⟨by rw [sD, m1]; decide, i0, by rw [m2, show sizeF 0 = 8 from rfl]; exact i1⟩ ne]
        exact loadF_same Z.z.off.wd sD
      refine ⟨by rw [W.st, sD]; exact m1, m2, by rw [ld 2 (by decide) (by decide)]; exact m3, by rw [ld 3 (by decide) (by decide)]; exact m4, m5, ?_⟩
      rw [k3]; unfold updI
      have ac := M.gi.sl.act (hs.getD a 0) (by rw [m1]; decide)
      have bk := M.gi.sl.blk (opB (hs.getD a 0)) (by rw [ac.1, m2]; decide)
      rw [ac.1, m2, show sizeF 0 = 8 from rfl] at bk
      rw [if_neg (by omega)]; exact m6
    · have ea : a = hs.length := by omega
      rw [if_neg e, if_pos ea]
      refine ⟨by rw [W.st]; exact hs1, hc, W.ld 2 (by decide), ?_, o2, by rw [k3, o1]; exact if_pos rfl⟩
      have := W.ld 3 (by decide)
      rw [show ((3 : Nat) : Int) = 3 from rfl] at this
      rw [this, ea, ← hfn]; rfl
  · rw [getD_app1, getD_app1] at e
    rw [hlen] at ha hb
    by_cases ea : a < hs.length
    · rw [if_pos ea] at e
      by_cases eb : b < hs.length
      · rw [if_pos eb] at e; exact M.nd a b ea eb e
      · rw [if_neg eb, if_pos (by omega)] at e
        have := (M.el a ea).1; rw [e, hs0] at this; cases this
    · rw [if_neg ea, if_pos (by omega)] at e
      by_cases eb : b < hs.length
      · rw [if_pos eb] at e
        have := (M.el b eb).1; rw [← e, hs0] at this; cases this
      · omega
end Go.Proofs.Ytcjhakdopnamoaa

set_option linter.unusedVariables false
set_option linter.unusedSimpArgs false
set_option maxRecDepth 20000
namespace Go.Proofs.Ytcjhakdopnamoaa
open Go Go.Fw

set_option maxHeartbeats 4000000 in
theorem FrameRooms_det (p0 p1 : Int) (p2 : Bool) (H : Heap) : Det Try.prog f_magpielaw18_FrameRooms [.int .i64 p0, .int .i64 p1, .bool p2] H (.bool true) H := by
  refine t_magpielaw18_FrameRooms_spec fun L => ?_
  unfold t_magpielaw18_FrameRooms
  refine w_Place (by omega) (by omega) ?_
  have a0 := Int.emod_nonneg p0 (b := 12) (by omega)
  have a1 := Int.emod_lt_of_pos p0 (b := 12) (by omega)
  generalize p0 % 12 = a at *
  obtain ⟨s, es⟩ : ∃ s, s = 1 + a := ⟨_, rfl⟩
  have e1 : w64 (1 + a) = s := by rw [es]; exact w64_in (by omega) (by omega)
  rw [e1]
  refine wp_call_of (fmake_spec p2 2 s (by decide) (by omega) H) ?_
  rintro v K ⟨A, q, mq, rfl, rfl, hI, ok, E, r0, u0, nl, nr⟩
  refine ⟨(aI A.ids, (2, 0, 4 * 2, 4 * 2 + (8 * s + 7) / 8, 4 * 2 + 2 * ((8 * s + 7) / 8), ()), some ⟨q, 0, none⟩, ()), rfl, ?_⟩
  have hA := E.aw
  refine w_newP hA ok fun x2 ok1 => ?_
  refine w_stA 0 hA ok1 rfl rfl rfl rfl ?_
  refine look_val (x := false) (np_some _) (wp_false rfl ?_)
  refine look_val (x := false) (npGd _) (wp_false rfl ?_)
  have X0 := E.gi (th := 1) r0 u0 nl nr
  obtain ⟨g, hg⟩ : ∃ g, g = gdOf p2 2 s 1 := ⟨_, rfl⟩
  have gw : g.w = 2 := by rw [hg]; rfl
  have gth : g.th = 1 := by rw [hg]; rfl
  have gpl : g.pl = plOf 2 (8 * s) := by rw [hg]; rfl
  have ok1 : Ok A.ids H (keys ((x2, oc ty_free_Place (plCells (plOf 2 (8 * s)))) :: (gdOf p2 2 s 1).bl q mq [])) := ok1
  show wp Try.prog _ L (own A ((x2, oc ty_free_Place (plCells (plOf 2 (8 * s)))) :: (gdOf p2 2 s 1).bl q mq []) H) _
  rw [← hg] at ok1 X0 ⊢
  obtain ⟨cP, hcP⟩ : ∃ cP : Nat × Obj, cP = (x2, oc ty_free_Place (plCells (plOf 2 (8 * s)))) := ⟨_, rfl⟩
  rw [← hcP] at ok1 ⊢
  generalize hI0 : A.ids = I at *
  have M0 : RM I A g s S0g [] := ⟨hA, X0, fun _ => rfl, rfl, fun n hn => (by cases hn), fun a b ha => (by cases ha), fun j _ => r0 j, nl⟩
  refine wl_bsi (fun _ sl i K => 0 ≤ i ∧ i ≤ s + 1 ∧ ∃ B S hs e gar tl, RM I B g s S hs ∧ (hs.length : Int) = (if i ≤ s then i else s) ∧ B.uses ≤ 1000 * i ∧ SlOf tl ty_int eI sl hs ∧ GdS e nls ∧ Ok I H (keys (cP :: (g.bl q mq e ++ (gar ++ tl)))) ∧ K = own B (cP :: (g.bl q mq e ++ (gar ++ tl))) H) (fun _ _ i => (20 - i).toNat) false ⟨none, 0, 0⟩ 0
    ⟨Int.le_refl 0, by omega, A, S0g, [], [], [], [], M0, by rw [if_pos (by omega)]; rfl, by omega, .inl ⟨rfl, rfl⟩, gd0, by simpa using ok1, by simp⟩ ?_
  clear M0 X0 ok1 ok
  rintro b sl i K ⟨i0, i1, B, S, hs, e, gar, tl, M, hl, hu, hsl, gs, ok1, rfl⟩
  rw [t_magpielaw18_FrameRooms_L1, e1]
  have hB := M.aw
  by_cases hi : i ≤ s
  · refine wp_true (decide_eq_true hi) ?_
    rw [if_pos hi] at hl
    refine w_ldA (x := (2, 0, 4 * 2, 4 * 2 + (8 * s + 7) / 8, 4 * 2 + 2 * ((8 * s + 7) / 8), ())) 0 hB ok1 rfl (by rw [hcP]; rfl) rfl ?_
    have em : Int.tmod i 2 = i % 2 := Int.tmod_eq_emod_of_nonneg i0
    refine w_NewMake (q := q) (p := plOf 2 (8 * s)) hB ok1 fun b2 aj gar2 ok2 => ?_
    refine look_val (x := false) (npMk _) (wp_false rfl ?_)
    have m0 := Int.emod_nonneg i (b := 2) (by omega)
    have m1 := Int.emod_lt_of_pos i (b := 2) (by omega)
    dsimp only at ok2 ⊢
    rw [em] at ok2 ⊢
    generalize i % 2 = who at *
    rw [← gpl] at ok2 ⊢
    obtain ⟨pp, ok3⟩ := own_perm (A := B) (l' := (b2, oc ty_frame_Make (mkC q g.pl who (twF i 0 1125899906842624 false) (some ⟨aj.1, 0, none⟩) .nilIface 0 0 0 false)) :: ((newAl g.pl who 0).bl aj ++ (gar2 ++ (g.bl q mq e ++ (cP :: (gar ++ tl)))))) ok2 (perm_by fun c d c0 cd ca => by simp only [cd, ca, c0]; omega)
    rw [pp]
    by_cases hi2 : i < s
    · obtain ⟨n, x, C, S1, run, hx, hn, hu2, M2⟩ := M.next (by omega) q mq (who := who) (by rw [gw]; omega) (by omega) (fn := i) hl.symm
      refine w_mkRun2 hB M2.aw gs ok3 run (by omega) fun e' gar' ok4 gs' => ?_
      refine wp_false rfl ?_
      refine w_MkHandle 0 (x := ⟨g, nls, g.pl, who, twF i 0 1125899906842624 false, none, none, 1, 7, x.h, true⟩) M2.aw ok4 rfl ?_
      have hb : (true && (x.h : Int) != 0) = true := by rw [ibne hx]; rfl
      refine wp_false (by show (!((true && (x.h : Int) != 0) == decide (i < s))) = false; rw [hb, decide_eq_true hi2]; rfl) ?_
      refine wp_false (by show (!((true && (x.h : Int) != 0) == ((x.h : Int) != 0))) = false; rw [ibne hx]; rfl) ?_
      refine wp_true (by show (true && (x.h : Int) != 0) = true; exact hb) ?_
      obtain ⟨cM, hcM⟩ : ∃ cM : Nat × Obj, cM = (b2, oc ty_frame_Make (mkC q g.pl who (twF i 0 1125899906842624 false) none .nilIface 1 7 x.h true)) := ⟨_, rfl⟩
      have ok4 : Ok I H (keys ((b2, oc ty_frame_Make (mkC q g.pl who (twF i 0 1125899906842624 false) none .nilIface 1 7 x.h true)) :: (g.bl q mq e' ++ (gar' ++ (cP :: (gar ++ tl)))))) := ok4
      show wp Try.prog _ _ (own C ((b2, oc ty_frame_Make (mkC q g.pl who (twF i 0 1125899906842624 false) none .nilIface 1 7 x.h true)) :: (g.bl q mq e' ++ (gar' ++ (cP :: (gar ++ tl))))) H) _
      rw [← hcM] at ok4 ⊢
      obtain ⟨pq, ok5⟩ := own_perm (A := C) (l' := (cP :: (g.bl q mq e' ++ (cM :: (gar' ++ gar)))) ++ tl) ok4 (perm_by fun c d c0 cd ca => by simp only [List.cons_append, cd, ca, c0]; omega)
      rw [pq]
      refine w_app1 M2.aw ok5 hsl (by omega) fun s' tl' hsl' ok6 _ => ?_
      rw [show w64 (i + 1) = i + 1 from w64_in (by omega) (by omega)]
      obtain ⟨pr, ok7⟩ := own_perm (A := C) (l' := cP :: (g.bl q mq e' ++ ((cM :: (gar' ++ gar)) ++ tl'))) ok6 (perm_by fun c d c0 cd ca => by simp only [List.cons_append, cd, ca, c0]; omega)
      rw [pr]
      exact wp_again ⟨b, s', i + 1, rfl, ⟨by omega, by omega, C, S1, hs ++ [x.h], e', cM :: (gar' ++ gar), tl', M2, by rw [if_pos (by omega)]; simp; omega, by omega, hsl', gs', ok7, rfl⟩, by omega⟩
    · have his : i = s := by omega
      obtain ⟨n, C, run, hn, X2, st2, wd2, al2, rw2, nL2, us2⟩ := make_fail (q := q) (mq := mq) (w := twF i 0 1125899906842624 false) M.gi (by omega) (who := who) (by rw [gw]; omega) rfl M.ch (by rw [M.cv]; omega)
      have hC : Aw I C := hB.of al2 X2.wf
      refine w_mkRun2 hB hC gs ok3 run (by omega) fun e' gar' ok4 gs' => ?_
      refine wp_false rfl ?_
      refine w_MkHandle 0 (x := ⟨g, nls, g.pl, who, twF i 0 1125899906842624 false, none, none, 2, 0, 0, true⟩) hC ok4 rfl ?_
      refine wp_false (by show (!((true && (0 : Int) != 0) == decide (i < s))) = false; rw [decide_eq_false hi2]; rfl) ?_
      refine wp_false rfl ?_
      refine wp_false rfl ?_
      rw [show w64 (i + 1) = i + 1 from w64_in (by omega) (by omega)]
      have ld2 : ∀ h i, C.loadF h i = B.loadF h i := fun h i => loadF_same wd2 (st2 h)
      have M2 : RM I C g s S hs := ⟨hC, X2, M.ch, M.cv, fun n hn => by rw [st2, ld2, ld2]; exact M.el n hn, M.nd, fun j hj => by rw [rw2 j hj]; exact M.rw j hj, by rw [nL2]; exact M.nL⟩
      obtain ⟨cM, hcM⟩ : ∃ cM : Nat × Obj, cM = (b2, oc ty_frame_Make (mkC q g.pl who (twF i 0 1125899906842624 false) none .nilIface 2 0 0 true)) := ⟨_, rfl⟩
      have ok4 : Ok I H (keys ((b2, oc ty_frame_Make (mkC q g.pl who (twF i 0 1125899906842624 false) none .nilIface 2 0 0 true)) :: (g.bl q mq e' ++ (gar' ++ (cP :: (gar ++ tl)))))) := ok4
      show wp Try.prog _ _ (own C ((b2, oc ty_frame_Make (mkC q g.pl who (twF i 0 1125899906842624 false) none .nilIface 2 0 0 true)) :: (g.bl q mq e' ++ (gar' ++ (cP :: (gar ++ tl))))) H) _
      rw [← hcM] at ok4 ⊢
      obtain ⟨pq, ok5⟩ := own_perm (A := C) (l' := cP :: (g.bl q mq e' ++ ((cM :: (gar' ++ gar)) ++ tl))) ok4 (perm_by fun c d c0 cd ca => by simp only [List.cons_append, cd, ca, c0]; omega)
      rw [pq]
      exact wp_again ⟨b, sl, i + 1, rfl, ⟨by omega, by omega, C, S, hs, e', cM :: (gar' ++ gar), tl, M2, by rw [if_neg (by omega)]; omega, by omega, hsl, gs', ok5, rfl⟩, by omega⟩
  · have his : i = s + 1 := by omega
    rw [if_neg hi] at hl
    refine wp_false (decide_eq_false hi) ?_
    refine w_Place (by omega) (by omega) ?_
    have k0 := Int.emod_nonneg p1 (b := s) (by omega)
    have k1 := Int.emod_lt_of_pos p1 (b := s) (by omega)
    generalize p1 % s = k at *
    obtain ⟨h, hh⟩ : ∃ h, h = hs.getD k.toNat 0 := ⟨_, rfl⟩
    obtain ⟨m1, m2, m3, m4, m5, m6⟩ := M.el k.toNat (by omega)
    rw [← hh] at m1 m2 m3 m4 m5 m6
    have ii : ∀ i : Int, 0 ≤ i → i < 8 → B.inOk h i := fun i i0 i1 => ⟨by rw [m1]; decide, i0, by rw [m2, show sizeF 0 = 8 from rfl]; exact i1⟩
    -- first drop
    refine wp_loop_unroll (b, 0, ()) rfl ?_
    rw [t_magpielaw18_FrameRooms_L2]
    refine wp_true rfl ?_
    refine w_rdI hB ok1 (hsl.mono fun p hp => List.mem_cons_of_mem _ (List.mem_append_right _ (List.mem_append_right _ hp))) k0 (by omega) ?_
    rw [← hh]
    refine w_NewDrop (q := q) hB ok1 fun z1 ok2 => ?_
    refine look_val (x := false) (npDr _) (wp_false rfl ?_)
    obtain ⟨D2, dr2⟩ := drop2 (q := q) (mq := mq) (who := 0) M.gi (by omega) (by show 0 < 1000; decide) (ii 2 (by decide) (by decide)) m3
    have ok2 : Ok I H (keys ((z1, oc ty_frame_Drop (drC ⟨g, nls, 0, h, false, none⟩ q .nilIface ++ [])) :: cP :: (g.bl q mq e ++ (gar ++ tl)))) := ok2
    show wp Try.prog _ _ (own B ((z1, oc ty_frame_Drop (drC ⟨g, nls, 0, h, false, none⟩ q .nilIface ++ [])) :: cP :: (g.bl q mq e ++ (gar ++ tl))) H) _
    obtain ⟨pp, ok3⟩ := own_perm (A := B) (l' := (z1, oc ty_frame_Drop (drC ⟨g, nls, 0, h, false, none⟩ q .nilIface ++ [])) :: (g.bl q mq e ++ (cP :: (gar ++ tl)))) ok2 (perm_by fun c d c0 cd ca => by simp only [cd, ca, c0]; omega)
    rw [pp]
    refine w_frRun (mDr_ok q mq) (mDr_inv q mq) (tl := []) (tl' := []) (fun _ => rfl) (fun _ => rfl) (fun _ => rfl) (fun _ => rfl) (fun _ => rfl) dr2 (by decide) hB gs ok3 fun e2 gar2 hB2 ok4 gs2 => ?_
    refine wp_false rfl (wp_again ?_)
    have du := D2.us
    have ld2 : ∀ j i, B.inOk j i → (B.storeF h 2 1).loadF j i = if j = h ∧ i = 2 then 1 else B.loadF j i := D2.ld
    have st2 := D2.st
    have gi2 := D2.gi
    have rf2 := D2.rf
    have nL2 := D2.nL
    generalize B.storeF h 2 1 = B2 at *
    generalize hc1 : (z1, oc ty_frame_Drop (drC ⟨g, nls, 0, h, true, none⟩ q .nilIface ++ [])) = c1 at *
    -- second drop
    show wp Try.prog (.loop 1216 t_magpielaw18_FrameRooms_L2_sh [(.bool b), (.int .i64 1)] _) _ _ _
    refine wp_loop_unroll (b, 1, ()) rfl ?_
    rw [t_magpielaw18_FrameRooms_L2]
    refine wp_true rfl ?_
    refine w_rdI hB2 ok4 (hsl.mono fun p hp => List.mem_cons_of_mem _ (List.mem_append_right _ (List.mem_append_right _ (List.mem_cons_of_mem _ (List.mem_append_right _ hp))))) k0 (by omega) ?_
    rw [← hh]
    refine w_NewDrop (q := q) hB2 ok4 fun z2 ok5 => ?_
    refine look_val (x := false) (npDr _) (wp_false rfl ?_)
    have l22 : B2.loadF h 2 = 1 := by rw [ld2 h 2 (ii 2 (by decide) (by decide)), if_pos ⟨rfl, rfl⟩]
    have s2h : B2.stF h = 1 := by rw [st2]; exact m1
    obtain ⟨n3, A0, A1, B3, l3, S3, D⟩ := drop1 (q := q) (mq := mq) gi2 (by omega) (who := 0) (h := h) (by rw [gw]; decide) (by show 0 ≤ 190; decide) (by rw [gth]; decide) ⟨by rw [s2h]; decide, by decide, by rw [m2]; decide⟩ s2h (by rw [m2, nL2, M.nL, show sizeF 0 = 8 from rfl]; omega) l22
    have ok5 : Ok I H (keys ((z2, oc ty_frame_Drop (drC ⟨g, nls, 0, h, false, none⟩ q .nilIface ++ [])) :: c1 :: (g.bl q mq e2 ++ (gar2 ++ (cP :: (gar ++ tl)))))) := ok5
    show wp Try.prog _ _ (own B2 ((z2, oc ty_frame_Drop (drC ⟨g, nls, 0, h, false, none⟩ q .nilIface ++ [])) :: c1 :: (g.bl q mq e2 ++ (gar2 ++ (cP :: (gar ++ tl))))) H) _
    obtain ⟨pq, ok6⟩ := own_perm (A := B2) (l' := (z2, oc ty_frame_Drop (drC ⟨g, nls, 0, h, false, none⟩ q .nilIface ++ [])) :: (g.bl q mq e2 ++ (cP :: (c1 :: (gar2 ++ gar) ++ tl)))) ok5 (perm_by fun c d c0 cd ca => by simp only [List.cons_append, cd, ca, c0]; omega)
    rw [pq]
    refine w_frRun (mDr_ok q mq) (mDr_inv q mq) (tl := []) (tl' := []) (fun _ => rfl) (fun _ => rfl) (fun _ => rfl) (fun _ => rfl) (fun _ => rfl) D.run (by have := D.hn; omega) hB2 gs2 ok6 fun e3 gar3 hB3 ok7 gs3 => ?_
    refine wp_false rfl (wp_again ?_)
    have d3u := D.us
    generalize hc2 : (z2, oc ty_frame_Drop (drC ⟨g, l3, 0, h, true, none⟩ q .nilIface ++ [])) = c2 at *
    -- a make
    show wp Try.prog (.loop 1216 t_magpielaw18_FrameRooms_L2_sh [(.bool b), (.int .i64 2)] _) _ _ _
    refine wp_loop_unroll (b, 2, ()) rfl ?_
    rw [t_magpielaw18_FrameRooms_L2]
    refine wp_false rfl ?_
    obtain ⟨pr, ok8⟩ := own_perm (A := B3) (l' := cP :: (g.bl q mq e3 ++ ((c2 :: (gar3 ++ (c1 :: (gar2 ++ gar)))) ++ tl))) ok7 (perm_by fun c d c0 cd ca => by simp only [List.cons_append, cd, ca, c0]; omega)
    rw [pr]
    generalize c2 :: (gar3 ++ (c1 :: (gar2 ++ gar))) = gar5 at *
    refine w_ldA (x := (2, 0, 4 * 2, 4 * 2 + (8 * s + 7) / 8, 4 * 2 + 2 * ((8 * s + 7) / 8), ())) 0 hB3 ok8 rfl (by rw [hcP]; rfl) rfl ?_
    refine w_NewMake (q := q) (p := plOf 2 (8 * s)) hB3 ok8 fun b3 aj gar6 ok9 => ?_
    refine look_val (x := false) (npMk _) (wp_false rfl ?_)
    rw [← gpl] at ok9 ⊢
    obtain ⟨ps, ok10⟩ := own_perm (A := B3) (l' := (b3, oc ty_frame_Make (mkC q g.pl 0 (twF 9 0 1125899906842624 false) (some ⟨aj.1, 0, none⟩) .nilIface 0 0 0 false)) :: ((newAl g.pl 0 0).bl aj ++ (gar6 ++ (g.bl q mq e3 ++ (cP :: (gar5 ++ tl)))))) ok9 (perm_by fun c d c0 cd ca => by simp only [cd, ca, c0]; omega)
    rw [ps]
    obtain ⟨n4, t4, xh, l4, S4, F, Q⟩ := fin1 (w := twF 9 0 1125899906842624 false) (by omega) D gth m2 M.ch (by rw [m5]; exact m6) (by rw [M.cv]; omega) (fun j hj => by rw [rf2]; exact M.rw j hj)
    have hF : Aw I F := hB3.of Q.al Q.gi.wf
    refine w_mkRun2 hB3 hF gs3 ok10 Q.run Q.hn fun e6 gar7 ok11 gs6 => ?_
    refine wp_false rfl ?_
    refine w_MkHandle 0 (x := ⟨g, l4, g.pl, 0, twF 9 0 1125899906842624 false, none, none, t4, 7, xh, true⟩) hF ok11 rfl ?_
    have hb : (true && (xh : Int) != 0) = true := by rw [ibne Q.x0]; rfl
    have qu := Q.us
    have mem : ∀ p, p ∈ tl → p ∈ (b3, oc ty_frame_Make (mkC q g.pl 0 (twF 9 0 1125899906842624 false) none .nilIface t4 7 xh true)) :: (g.bl q mq e6 ++ (gar7 ++ (cP :: (gar5 ++ tl)))) := fun p hp => List.mem_cons_of_mem _ (List.mem_append_right _ (List.mem_append_right _ (List.mem_cons_of_mem _ (List.mem_append_right _ hp))))
    have oth : ∀ n : Nat, n < hs.length → (n : Int) ≠ k → F.stF (hs.getD n 0) = 1 ∧ F.loadF (hs.getD n 0) 3 = n ∧ opC (hs.getD n 0) = 0 := fun n hn hne => by
      obtain ⟨o1, o2, o3, o4, _, _⟩ := M.el n hn
      have hd : hs.getD n 0 ≠ h := fun e => by
        have := M.nd n k.toNat hn (by omega) (by rw [e, hh]); omega
      have i3 : B.inOk (hs.getD n 0) 3 := ⟨by rw [o1]; decide, by decide, by rw [o2]; decide⟩
      have t2 : B2.stF (hs.getD n 0) = 1 := by rw [st2]; exact o1
      have i32 : B2.inOk (hs.getD n 0) 3 := (inOk_st st2).2 i3
      have t3 := D.ot _ hd t2
      have i33 : B3.inOk (hs.getD n 0) 3 := ⟨by rw [t3]; decide, i3.2⟩
      obtain ⟨t4, q4⟩ := Q.ot _ hd t3
      refine ⟨t4, ?_, o2⟩
      rw [q4 3 i33, D.ld _ 3 hd i32 t2, ld2 _ 3 i3, if_neg (fun e => hd e.1)]; exact o4
    refine wl_bi (fun _ n K => 0 ≤ n ∧ n ≤ s ∧ ∃ mm : Int, 0 ≤ mm ∧ mm ≤ n ∧ Aw I (F.later mm) ∧ K = own (F.later mm) ((b3, oc ty_frame_Make (mkC q g.pl 0 (twF 9 0 1125899906842624 false) none .nilIface t4 7 xh true)) :: (g.bl q mq e6 ++ (gar7 ++ (cP :: (gar5 ++ tl))))) H) (fun _ n => (20 - n).toNat) b 0 ⟨Int.le_refl 0, by omega, 0, Int.le_refl 0, Int.le_refl 0, by rw [later0]; exact hF, by rw [later0]⟩ ?_
    rintro b5 n K ⟨n0, n1, mm, m0, m1', hFm, rfl⟩
    rw [t_magpielaw18_FrameRooms_L3, e1]
    have X4 := Q.gi.later (n := mm) m0
    by_cases hn : n < s
    · refine wp_true (decide_eq_true hn) ?_
      rw [show w64 (n + 1) = n + 1 from w64_in (by omega) (by omega)]
      by_cases hnk : n = k
      · refine wp_false (ibnf hnk) ?_
        exact wp_again ⟨b5, n + 1, rfl, ⟨by omega, by omega, mm, m0, by omega, hFm, rfl⟩, by omega⟩
      · refine wp_true (ibne hnk) ?_
        obtain ⟨o1, o2, o3⟩ := oth n.toNat (by omega) (by omega)
        refine w_rdI hFm ok11 (hsl.mono mem) n0 (show n < hs.length by omega) ?_
        refine w_State hFm ?_
        refine wp_false (ibnf (by rw [st_later]; exact o1)) ?_
        refine w_rdI hFm ok11 (hsl.mono mem) n0 (show n < hs.length by omega) ?_
        refine w_ldG X4 (by show F.uses + mm ≤ _; omega) (inOk_later ⟨by rw [o1]; decide, by decide, by rw [o3]; decide⟩) hFm fun hF2 => ?_
        rw [later_add] at hF2 ⊢
        refine wp_false (ibnf (by rw [ld_later, o2]; show ((n.toNat : Nat) : Int) = n; omega)) ?_
        exact wp_again ⟨b5, n + 1, rfl, ⟨by omega, by omega, mm + 1, by omega, by omega, hF2, rfl⟩, by omega⟩
    · refine wp_false (decide_eq_false hn) ?_
      refine wp_true (by show (true && (xh : Int) != 0) = true; exact hb) ?_
      refine w_rdI hFm ok11 (hsl.mono mem) k0 (by omega) ?_
      rw [← hh]
      refine wp_true (ibne Q.ne) ?_
      refine w_ldG X4 (by show F.uses + mm ≤ _; omega) (inOk_later ⟨by rw [Q.xs]; decide, by decide, by rw [Q.xc]; decide⟩) hFm fun hF2 => ?_
      refine wp_true (ibeq (by rw [ld_later, Q.ld]; rfl)) ?_
      refine w_rdI hF2 ok11 (hsl.mono mem) k0 (by omega) ?_
      rw [← hh]
      refine w_State hF2 ?_
      refine wp_true (ibeq (by rw [st_later, st_later]; exact Q.dead)) ?_
      refine w_Fault hF2 ?_
      have fa : ((F.later mm).later 1).fault = false := Q.gi.fa
      rw [fa]
      refine wp_true rfl ?_
      refine wp_call_det (x := true) (awake18_det _) ?_
      exact ⟨H, own_end hF2 ok11 (by rw [← hI0]; rw [hI0]; exact hI), rfl, rfl⟩
end Go.Proofs.Ytcjhakdopnamoaa

