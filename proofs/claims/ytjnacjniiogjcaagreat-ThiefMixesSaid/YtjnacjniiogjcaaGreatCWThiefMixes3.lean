/- Texts of this claim, one behind the other. -/
import Derived.Test.YtjnacjniiogjcaaGreatCWThiefMixes2
set_option linter.unusedSimpArgs false
set_option linter.unusedVariables false
set_option maxRecDepth 20000
namespace Go.Proofs.YtjnacjniiogjcaaGreat
open Go Go.Fw
section
variable {A B C : Ar} {p : Pl} {w m : Int} {S S' S2 : Sg}
theorem SL.ofRaw (X : SL A p w m S) {r : List Int} {ch' : Int → List Int} (hl : r.length = A.raw.length) (up : ∀ i, 4 * w + (m + 7) / 8 ≤ i → ({ A with raw := r } : Ar).ao i = A.ao i) (F : FL { A with raw := r } p w ((m + 7) / 8) ch')
    (hc : ∀ k b, b ∈ ch' k → S.cl b = k % 4) (ha : ∀ h, A.stF h ≠ 0 → ∀ k, opB h ∉ ch' k) : SL { A with raw := r } p w m { S with ch := ch' } := by
  obtain ⟨p1, p2, p3, p4, p5⟩ := X.gP
  have wb := X.wb
  have mb := X.mb
  have st : ∀ h, ({ A with raw := r } : Ar).stF h = A.stF h := fun h => c8 rfl h
  refine ⟨F, X.pl, X.wb, X.mb, by show p.carved < (r.length : Int); rw [hl]; exact X.rl, X.wl, X.fr, ?_, X.cvb, ?_, X.gnb, X.gnz, X.blk, X.dis, hc, ?_, ?_, X.cr1, X.cr2, X.cnt, X.ncb, X.cnb⟩
  · rw [up _ (by omega)]; exact X.cvr
  · intro b h0 h1 h2; rw [up _ (by omega)]; exact X.gnr b h0 h1 h2
  · intro h hh
    rw [st] at hh
    exact ⟨(X.act h hh).1, ha h hh⟩
  · intro i hi
    obtain ⟨h, h1, h2, h3⟩ := X.bz i hi
    exact ⟨h, by rw [st]; exact h1, h2, h3⟩
def Ow (A : Ar) (S : Sg) (b : Int) : Prop := S.cl b ≠ -1 ∧ (∀ k, b ∉ S.ch k) ∧ ∀ h, A.stF h ≠ 0 → opB h ≠ b
structure Ev (p : Pl) (w m : Int) (A : Ar) (S : Sg) (B : Ar) (S' : Sg) (zO : Int) : Prop where
  fe : FEv w ((m + 7) / 8) A B zO
  cl : ∀ b, S.cl b ≠ -1 → S'.cl b = S.cl b
  ow : ∀ b, Ow A S b → b ≠ zO → Ow B S' b
  st : ∀ h, opB h ≠ zO → B.stF h = A.stF h
  fa : B.fault = A.fault
  rl : B.raw.length = A.raw.length
  rw : ∀ i, p.carved < i → B.ao i = A.ao i
  us : A.aD ≤ B.aD
theorem Ev.ay (X : SL A p w m S) {n zO : Int} (hn : 0 ≤ n) : Ev p w m A S (A.ay n) S zO :=
  ⟨FEv.same (fun _ _ _ => rfl) X.F.wb.1 X.F.nb.1, fun _ _ => rfl, fun _ h _ => h, fun _ _ => rfl, rfl, rfl, fun _ _ => rfl, by show A.aD ≤ A.aD + n; omega⟩
structure AlI (p : Pl) (w m : Int) (x : Al) (A : Ar) (S : Sg) : Prop where
  pl : x.pl = p
  who : 0 ≤ x.work ∧ x.work < w
  cls : 0 ≤ x.cls ∧ x.cls < 4
  lst : 0 ≤ x.lst ∧ x.lst ≤ w
  wh : x.what = 0 ∨ x.what = 1 ∨ x.what = 2 ∨ x.what = 3
  pops : x.what = 0 → x.lst < w ∧ ∃ k, 0 ≤ k ∧ k < 4 * w ∧ k % 4 = x.cls ∧ PoI p w ((m + 7) / 8) k x.po A
  swaps : x.what = 2 → 0 ≤ x.base ∧ x.base + au x.cls ≤ m
  bears : x.what = 3 → Ow A S x.base ∧ S.cl x.base = x.cls
  h0 : x.h = 0
def Al.zO (x : Al) : Int := if x.what = 3 then x.base else -1
theorem AlI.new (X : SL A p w m S) {who c : Int} (wh : 0 ≤ who ∧ who < w) (hc : 0 ≤ c ∧ c < 4) : AlI p w m (mf p who c) A S := by
  obtain ⟨p1, p2, p3, p4, p5⟩ := X.gP
  have wb := X.wb
  have e := uz (p := p) (w := who) (c := c) p1 ⟨wh.1, by omega⟩ hc
  exact ⟨rfl, wh, hc, ⟨Int.le_refl 0, by show 0 ≤ w; omega⟩, .inl rfl, fun _ => ⟨by show 0 < w; omega, 4 * who + c, by omega, by omega, by show (4 * who + c) % 4 = c; omega, PoI.new p1 ⟨by omega, by omega⟩ e⟩, fun h => (by cases h), fun h => (by cases h), rfl⟩
theorem I3 {M J : Type} {X : Mch M J} {x x' : M} {D D' : Ar} (h : X.gh 1 x D x' D') : X.step x D = (x', D') := by
  cases h with
  | one h1 h2 h3 => rfl
  | more h1 h2 h3 h4 => cases h4
theorem vW : ∀ (n : Nat) {l : List Bool} {b : Nat}, b + n ≤ l.length → (setN l b true n).count true = l.count true + newsN l b n
  | 0, l, b, _ => rfl
  | n + 1, l, b, h => by
    have ih := vW n (l := l) (b := b) (by omega)
    show ((setN l b true n).set (b + n) true).count true = l.count true + newsN l b (n + 1)
    have hl : b + n < (setN l b true n).length := by rw [jl]; omega
    rw [List.count_set hl, ih]
    have hg : (setN l b true n)[b + n] = l.getD (b + n) false := by
      have := z6 l b true n (b + n)
      rw [if_neg (by omega), List.getElem?_eq_getElem hl, List.getElem?_eq_getElem (by omega)] at this
      rw [List.getD_eq_getElem?_getD, List.getElem?_eq_getElem (by omega)]
      simpa using this
    rw [hg, show newsN l b (n + 1) = newsN l b n + (if l.getD (b + n) false then 0 else 1) from rfl]
    have hc : l.getD (b + n) false = true → 0 < l.count true + newsN l b n := fun e => by
      have : 0 < l.count true := by
        refine List.count_pos_iff.2 ?_
        rw [List.getD_eq_getElem?_getD, List.getElem?_eq_getElem (by omega)] at e
        rw [← (show l[b + n] = true from e)]; exact List.getElem_mem _
      omega
    cases e : l.getD (b + n) false
    · simp; omega
    · have := hc e
      simp; omega
theorem I5 {A : Ar} (hw : A.wf) {h : Int} (hf : opB h + au (opC h) ≤ A.words.length) (hc : A.nC = A.carved.count true) : (A.dr h).nC = (A.dr h).carved.count true := by
  have o := fk h
  have hb := tA h
  have szc := gk (c := opC h) (by omega) (by omega)
  rw [(lg A hw h).1, sy, vW _ (by rw [hw.carved]; omega), hc]
  have : (A.carved.count true + newsN A.carved (opB h).toNat (au (opC h)).toNat) ≤ 65536 := by
    rw [← vW _ (by rw [hw.carved]; omega)]
    refine Nat.le_trans List.count_le_length ?_
    rw [jl, hw.carved]; exact hw.words
  rw [aE (by omega) (by omega)]; omega
structure AlS (p : Pl) (w m : Int) (x : Al) (A : Ar) (S : Sg) (y : Al) (B : Ar) (S' : Sg) : Prop where
  wd : B.words = A.words
  sl : SL B p w m S'
  ev : Ev p w m A S B S' x.zO
  us : B.aD = A.aD + 1
  inv : y.what ≠ 4 → AlI p w m y B S'
  cls : y.cls = x.cls
  work : y.work = x.work
  acq : y.what = 3 → S.cl y.base = -1 ∨ ∃ k, y.base ∈ S.ch k
  nR : B.nR = A.nR
  cc : A.nC = A.carved.count true → B.nC = B.carved.count true
  res : (y.h = 0 ∧ (∀ k, B.stF k = A.stF k) ∧ B.nL = A.nL) ∨ (y.what = 4 ∧ x.what = 3 ∧ y.h ≠ 0 ∧ opB y.h = x.base ∧ opC y.h = x.cls ∧ cS y.h = true ∧ A.stF y.h = 0 ∧ (∀ k, B.stF k = if k = y.h then 1 else A.stF k) ∧ B.nL = A.nL + au x.cls)
theorem AlI.step {x : Al} (I : AlI p w m x A S) (X : SL A p w m S) (hwf : A.wf) (hu : A.aD ≤ 1000000) : ∃ S', AlS p w m x A S (x.step A).1 (x.step A).2 S' := by
  obtain ⟨p1, p2, p3, p4, p5⟩ := X.gP
  have wb := X.wb
  have mb := X.mb
  have us := X.F.us
  have cvb := X.cvb
  have sz := gk I.cls.1 I.cls.2
  have X1 := X.ay (n := 1) (by omega)
  have E1 : ∀ zO, Ev p w m A S (A.ay 1) S zO := fun zO => Ev.ay X (by omega)
  have m0 : x.what ≠ 3 → x.zO = -1 := fun h => if_neg h
  rcases I.wh with h | h | h | h
  · obtain ⟨l0, k, k0, k1, k2, P⟩ := I.pops h
    have lst := I.lst
    have stp : x.step A = (if x.po.dP A then Al.wH { x with po := x.po.cF A } else { x with po := x.po.cF A }, x.po.cX A) := by unfold Al.step; rw [if_pos h]
    rw [stp]
    have el : w64 (x.lst + 1) = x.lst + 1 := aE (by omega) (by omega)
    rcases P.step X.F (by omega) k0 k1 with ⟨s1, s2, s3⟩ | ⟨s1, s2, s3, s4⟩ | ⟨s1, s2, b, l, s3, s4, s5⟩
    · rw [s1, s2, if_neg (by simp)]
      exact ⟨S, rfl, X1, E1 _, rfl, fun _ => ⟨I.pl, I.who, I.cls, I.lst, I.wh, fun _ => ⟨l0, k, k0, k1, k2, s3⟩, fun h2 => (by rw [show ({ x with po := x.po.cF A } : Al).what = x.what from rfl, h] at h2; cases h2), fun h2 => (by rw [show ({ x with po := x.po.cF A } : Al).what = x.what from rfl, h] at h2; cases h2), I.h0⟩, rfl, rfl, fun h2 => (by rw [show ({ x with po := x.po.cF A } : Al).what = x.what from rfl, h] at h2; cases h2), rfl, fun h => h, .inl ⟨I.h0, fun _ => rfl, rfl⟩⟩
    · rw [s1, s2, if_pos rfl]
      unfold Al.wH
      rw [if_neg (by rw [s3]; simp)]
      dsimp only
      rw [el, I.pl, p5]
      have ei : imax w 1 = w := by unfold imax; split <;> omega
      rw [ei]
      by_cases c : x.lst + 1 ≥ w
      · rw [if_pos c]
        refine ⟨S, rfl, X1, E1 _, rfl, fun _ => ⟨rfl, I.who, I.cls, ⟨by show 0 ≤ x.lst + 1; omega, by show x.lst + 1 ≤ w; omega⟩, .inr (.inl rfl), fun h => (by cases h), fun h => (by cases h), fun h => (by cases h), I.h0⟩, rfl, rfl, fun h => (by cases h), rfl, fun h => h, .inl ⟨I.h0, fun _ => rfl, rfl⟩⟩
      · rw [if_neg c]
        have wh := I.who
        have ew : w64 (x.work + (x.lst + 1)) = x.work + (x.lst + 1) := aE (by omega) (by omega)
        rw [ew, Int.tmod_eq_emod_of_nonneg (by omega)]
        have q0 := Int.emod_nonneg (x.work + (x.lst + 1)) (b := w) (by omega)
        have q1 := Int.emod_lt_of_pos (x.work + (x.lst + 1)) (b := w) (by omega)
        have e := uz (p := p) (w := (x.work + (x.lst + 1)) % w) (c := x.cls) p1 ⟨q0, by omega⟩ I.cls
        have cl := I.cls
        refine ⟨S, rfl, X1, E1 _, rfl, fun _ => ⟨rfl, I.who, I.cls, ⟨by show 0 ≤ x.lst + 1; omega, by show x.lst + 1 ≤ w; omega⟩, .inl h, fun _ => ⟨by show x.lst + 1 < w; omega, 4 * ((x.work + (x.lst + 1)) % w) + x.cls, by omega, by omega, by show (4 * ((x.work + (x.lst + 1)) % w) + x.cls) % 4 = x.cls; omega, PoI.new p1 ⟨by omega, by omega⟩ e⟩, fun h2 => (by rw [show x.what = 2 from h2] at h; cases h), fun h2 => (by rw [show x.what = 3 from h2] at h; cases h), I.h0⟩, rfl, rfl, fun h2 => (by rw [show x.what = 3 from h2] at h; cases h), rfl, fun h => h, .inl ⟨I.h0, fun _ => rfl, rfl⟩⟩
    · rw [s1, if_pos rfl]
      unfold Al.wH
      rw [if_pos s2]
      dsimp only
      rw [el, s4, s5]
      obtain ⟨F, fe⟩ := X.F.O8 (by omega) s3
      have hmem : b ∈ S.ch k := by rw [s3]; simp
      have hcl := X.chc k b hmem
      have hsub : ∀ j y, y ∈ upd S.ch k l j → y ∈ S.ch j := fun j y hy => by
        unfold upd at hy; split at hy
        · rename_i e; rw [e, s3]; exact List.mem_cons_of_mem _ hy
        · exact hy
      have Y := X1.ofRaw (r := A.raw.set k.toNat (ga (A.ao k) (A.ao (4 * w + b / 8)))) (ch' := upd S.ch k l) (by rw [List.length_set]; rfl) (fun i hi => by
        have := iE (A := A.ay 1) (i := k) (j := i) (v := ga (A.ao k) (A.ao (4 * w + b / 8))) (X.F.tS k0 k1)
        rw [if_neg (by have := X.F.nb; omega)] at this
        exact this) F (fun j y hy => X.chc j y (hsub j y hy)) fun h hh j hj => (X.act h hh).2 j (hsub j _ hj)
      have hact : ∀ h, A.stF h ≠ 0 → opB h ≠ b := fun h hh e => (X.act h hh).2 k (by rw [e]; exact hmem)
      have hnin : ∀ j, b ∉ upd S.ch k l j := fun j hj => by
        unfold upd at hj; split at hj
        · have := X.F.nd k; rw [s3] at this; exact (List.nodup_cons.1 this).1 hj
        · rename_i e; exact e (X.F.dj j k b hj hmem)
      have lst := I.lst
      refine ⟨_, rfl, Y, ⟨?_, fun _ _ => rfl, fun c oc _ => ⟨oc.1, fun j hj => oc.2.1 j (hsub j c hj), oc.2.2⟩, fun _ _ => rfl, rfl, by show (A.raw.set _ _).length = _; rw [List.length_set], fun i hi => ?_, by show A.aD ≤ A.aD + 1; omega⟩, rfl, fun _ => ⟨I.pl, I.who, I.cls, ⟨by show 0 ≤ x.lst + 1; omega, by show x.lst + 1 ≤ w; omega⟩, .inr (.inr (.inr rfl)), fun h => (by cases h), fun h => (by cases h), fun _ => ⟨⟨by show S.cl b ≠ -1; omega, hnin, hact⟩, by show S.cl b = x.cls; omega⟩, I.h0⟩, rfl, rfl, fun _ => .inr ⟨k, hmem⟩, rfl, fun h => h, .inl ⟨I.h0, fun _ => rfl, rfl⟩⟩
      · rw [m0 (by omega)]; exact fe
      · have := iE (A := A.ay 1) (i := k) (j := i) (v := ga (A.ao k) (A.ao (4 * w + b / 8))) (X.F.tS k0 k1)
        rw [if_neg (by omega)] at this
        exact this
  · have stp : x.step A = ({ x with base := A.ao x.pl.carved, what := if A.ao x.pl.carved > w64 (A.words.length - au x.cls) then 4 else 2 }, A.aV x.pl.carved) := by unfold Al.step; rw [if_neg (by omega), if_pos h]
    rw [stp, I.pl, X.cvr, X.wl, aE (x := m - au x.cls) (by omega) (by omega), ko (show A.bp p.carved from ⟨by omega, X.rl⟩), iu us (by omega)]
    by_cases c : S.cv > m - au x.cls
    · rw [if_pos c]
      exact ⟨S, rfl, X1, E1 _, rfl, fun h => (h rfl).elim, rfl, rfl, fun h => (by cases h), rfl, fun h => h, .inl ⟨I.h0, fun _ => rfl, rfl⟩⟩
    · rw [if_neg c]
      exact ⟨S, rfl, X1, E1 _, rfl, fun _ => ⟨rfl, I.who, I.cls, I.lst, .inr (.inr (.inl rfl)), fun h => (by cases h), fun _ => ⟨cvb.1, by show S.cv + au x.cls ≤ m; omega⟩, fun h => (by cases h), I.h0⟩, rfl, rfl, fun h => (by cases h), rfl, fun h => h, .inl ⟨I.h0, fun _ => rfl, rfl⟩⟩
  · obtain ⟨b0, b1⟩ := I.swaps h
    have stp : x.step A = ({ x with what := if A.cC x.pl.carved x.base then 3 else 1 }, A.dE x.pl.carved x.base (w64 (x.base + au x.cls))) := by unfold Al.step; rw [if_neg (by omega), if_neg (by omega), if_pos h]
    have okc : A.bp p.carved := ⟨by omega, X.rl⟩
    have tk : A.tick = A.ay 1 := iu us (by omega)
    rw [stp, I.pl, aE (x := x.base + au x.cls) (by omega) (by omega)]
    by_cases c : A.ao p.carved = x.base
    · have sw : A.cC p.carved x.base = true := decide_eq_true ⟨okc, by rw [dG okc]; exact c⟩
      have sa : A.dE p.carved x.base (x.base + au x.cls) = (A.ay 1).dQ p.carved.toNat (S.cv + au x.cls) := by
        unfold Ar.dE; rw [if_pos okc, if_pos (by rw [dG okc]; exact c), tk, ← c, X.cvr]
      rw [sw, sa, if_pos rfl]
      have ec : x.base = S.cv := by rw [← c]; exact X.cvr
      have Y := X.Dr (by omega) I.cls.1 I.cls.2 (by omega)
      have hcl : S.cl S.cv = -1 := by
        by_cases h : S.cl S.cv = -1
        · exact h
        · have := X.blk _ h; have := gk this.1 this.2.1; omega
      have hr : ∀ i, ((A.ay 1).dQ p.carved.toNat (S.cv + au x.cls)).ao i = if i = p.carved then S.cv + au x.cls else A.ao i := fun i => iE (A := A.ay 1) okc
      have nin : ∀ j, S.cv ∉ S.ch j := fun j hj => by
        have := X.chc j _ hj
        have := X.F.rg j (by intro e; rw [e] at hj; cases hj); omega
      have nac : ∀ h, A.stF h ≠ 0 → opB h ≠ S.cv := fun h hh e => by
        have := (X.act h hh).1
        rw [e, hcl] at this
        have := (fk h).1; omega
      refine ⟨_, rfl, Y, ⟨?_, fun d hd => ?_, fun d od _ => ⟨?_, od.2.1, od.2.2⟩, fun _ _ => rfl, rfl, by show (A.raw.set _ _).length = _; rw [List.length_set], fun i hi => by rw [hr, if_neg (by omega)], by show A.aD ≤ A.aD + 1; omega⟩, rfl, fun _ => ⟨rfl, I.who, I.cls, I.lst, .inr (.inr (.inr rfl)), fun h => (by cases h), fun h => (by cases h), fun _ => ⟨⟨?_, ?_, ?_⟩, ?_⟩, I.h0⟩, rfl, rfl, fun _ => .inl ?_, rfl, fun h => h, .inl ⟨I.h0, fun _ => rfl, rfl⟩⟩
      · exact FEv.same (fun i i0 i1 => by rw [hr, if_neg (by omega)]) (by omega) (by omega)
      · show hZ S.cl S.cv x.cls d = _
        unfold hZ; rw [if_neg (fun e => hd (by rw [e]; exact hcl))]
      · show hZ S.cl S.cv x.cls d ≠ -1
        unfold hZ; rw [if_neg (fun e => od.1 (by rw [e]; exact hcl))]; exact od.1
      · show hZ S.cl S.cv x.cls x.base ≠ -1
        rw [ec]; unfold hZ; rw [if_pos rfl]; have := I.cls; omega
      · show ∀ j, x.base ∉ S.ch j
        rw [ec]; exact nin
      · show ∀ h, A.stF h ≠ 0 → opB h ≠ x.base
        rw [ec]; exact nac
      · show hZ S.cl S.cv x.cls x.base = _
        rw [ec]; unfold hZ; rw [if_pos rfl]
      · show S.cl x.base = -1
        rw [ec]; exact hcl
    · have sw : A.cC p.carved x.base = false := decide_eq_false fun e => c (by rw [← dG okc]; exact e.2)
      have sa : A.dE p.carved x.base (x.base + au x.cls) = A.ay 1 := by
        unfold Ar.dE; rw [if_pos okc, if_neg (by rw [dG okc]; exact c), tk]
      rw [sw, sa, if_neg (by simp)]
      exact ⟨S, rfl, X1, E1 _, rfl, fun _ => ⟨rfl, I.who, I.cls, I.lst, .inr (.inl rfl), fun h => (by cases h), fun h => (by cases h), fun h => (by cases h), I.h0⟩, rfl, rfl, fun h => (by cases h), rfl, fun h => h, .inl ⟨I.h0, fun _ => rfl, rfl⟩⟩
  · obtain ⟨o, oc⟩ := I.bears h
    have hx0 := I.h0
    have lst := I.lst
    have hc1 : x.cls ≠ -1 := by have := I.cls; omega
    obtain ⟨v1, ⟨v2, v3, v4, v5⟩, bo, Y, yst, ynL⟩ := X.MO hwf (by omega) oc hc1 o.2.1 o.2.2
    have ipl := I.pl
    obtain ⟨xpl, xwork, xcls, xlst, xwhat, xbase, xh, xpo⟩ := x
    simp only at h hx0 ipl oc hc1 v1 v2 v3 v4 v5 bo Y yst ynL lst o
    subst h; subst hx0; subst ipl
    have r1 := xW X (by omega) (who := xwork) (j := xlst) (y := xpo) ⟨lst.1, by omega⟩ oc hc1 bo
    have stp : Al.step ⟨xpl, xwork, xcls, xlst, 3, xbase, 0, xpo⟩ A = _ := I3 r1
    rw [stp]
    have gb := X.gnb xbase
    have hne : cH xbase (S.gn xbase + 1) xcls ≠ 0 := fun e => by
      rw [e] at v3
      have : opG 0 = 0 := by decide
      omega
    have off : Off xpl.carved 0 ((A.ay 1).dQ (xpl.gens + xbase / 8).toNat (S.gn xbase + 1)) (((A.ay 1).dQ (xpl.gens + xbase / 8).toNat (S.gn xbase + 1)).dr (cH xbase (S.gn xbase + 1) xcls)) :=
      Off.dr (pW (eK hwf 1) _ _) X.fr bo.2.1
    have blk := X.blk xbase (by rw [oc]; exact hc1)
    have szb := gk blk.1 blk.2.1
    have okg : (A.ay 1).bp (xpl.gens + xbase / 8) := ⟨by omega, by have := X.rl; show _ < (A.raw.length : Int); omega⟩
    have hr : ∀ i, ((A.ay 1).dQ (xpl.gens + xbase / 8).toNat (S.gn xbase + 1)).ao i = if i = xpl.gens + xbase / 8 then S.gn xbase + 1 else A.ao i := fun i => iE okg
    have rb : ∀ i, (((A.ay 1).dQ (xpl.gens + xbase / 8).toNat (S.gn xbase + 1)).dr (cH xbase (S.gn xbase + 1) xcls)).ao i = if i = xpl.gens + xbase / 8 then S.gn xbase + 1 else A.ao i := fun i => by
      rw [dN (nK _ _) i, hr]
    have hs0 : A.stF (cH xbase (S.gn xbase + 1) xcls) = 0 := by
      by_cases e : A.stF (cH xbase (S.gn xbase + 1) xcls) = 0
      · exact e
      · exact (o.2.2 _ e v2).elim
    refine ⟨_, by rw [off.wd]; rfl, Y, ⟨?_, fun _ _ => rfl, fun d od hd => ⟨od.1, od.2.1, fun h hh => ?_⟩, fun h hh => ?_, ?_, ?_, fun i hi => ?_, ?_⟩, ?_, fun h => (h rfl).elim, rfl, rfl, fun h => (by cases h), ?_, fun h => ?_, .inr ⟨rfl, rfl, hne, v2, v4, v5, hs0, yst, ynL⟩⟩
    · exact FEv.same (fun i i0 i1 => by rw [rb, if_neg (by omega)]) (by omega) (by omega)
    · rw [yst] at hh
      split at hh
      · rename_i e; rw [e, v2]
        intro e2; exact hd (by show d = if (3 : Int) = 3 then xbase else -1; rw [if_pos rfl]; exact e2.symm)
      · exact od.2.2 h hh
    · rw [yst, if_neg]
      intro e
      rw [e, v2] at hh
      exact hh (by show xbase = if (3 : Int) = 3 then xbase else -1; rw [if_pos rfl])
    · rw [off.fa]; rfl
    · rw [off.rl]; show (A.raw.set _ _).length = _; rw [List.length_set]
    · rw [rb, if_neg (by omega)]
    · rw [off.us]; show A.aD ≤ A.aD + 1 + 0; omega
    · rw [off.us]; show A.aD + 1 + 0 = _; omega
    · exact (lg _ (pW (eK hwf 1) _ _) _).2.2.2
    · exact I5 (pW (eK hwf 1) _ _) bo.2.1 h
structure FeI (p : Pl) (w m who : Int) (x : Fe) (A : Ar) (S : Sg) : Prop where
  st : A.stF x.h = 2
  nd : x.done = false
  pu : PuI p w ((m + 7) / 8) (4 * who + opC x.h) (opB x.h) x.pu A
theorem FeI.new (X : SL A p w m S) {who h : Int} (wh : 0 ≤ who ∧ who < w) (hs : A.stF h = 2) : FeI p w m who (eR p who h) A S := by
  obtain ⟨p1, p2, p3, p4, p5⟩ := X.gP
  have wb := X.wb
  have mb := X.mb
  have hC := fk h
  obtain ⟨a1, a2⟩ := X.act h (by rw [hs]; decide)
  obtain ⟨b1, b2, b3, b4, b5⟩ := X.blk (opB h) (by omega)
  have sz := gk b1 b2
  have cvb := X.cvb
  have e := uz (p := p) (w := who) (c := opC h) p1 ⟨wh.1, by omega⟩ ⟨by omega, by omega⟩
  exact ⟨hs, rfl, PuI.new e ⟨b3, b4, by show opB h / 8 < (m + 7) / 8; omega⟩⟩
structure FeS (p : Pl) (w m who : Int) (x : Fe) (A : Ar) (S : Sg) (y : Fe) (B : Ar) (S' : Sg) : Prop where
  wd : B.words = A.words
  sl : SL B p w m S'
  ev : Ev p w m A S B S' (opB x.h)
  us : B.aD = A.aD + 1
  h : y.h = x.h
  nL : B.nL = A.nL
  cc : A.nC = A.carved.count true → B.nC = B.carved.count true
  res : (y.done = false ∧ FeI p w m who y B S' ∧ (∀ k, B.stF k = A.stF k) ∧ B.nR = A.nR) ∨ (y.done = true ∧ (∀ k, B.stF k = if k = x.h then 0 else A.stF k) ∧ B.nR = A.nR - au (opC x.h))
theorem CY (A : Ar) (h : Int) : (A.db h).raw = A.raw ∧ (A.db h).words = A.words ∧ (A.db h).fault = A.fault ∧ (A.db h).aD = A.aD ∧ (A.db h).nC = A.nC ∧ (A.db h).carved = A.carved := by
  unfold Ar.db Ar.gu; split <;> exact ⟨rfl, rfl, rfl, rfl, rfl, rfl⟩
theorem IY (A : Ar) (r : List Int) (h : Int) : ({ A with raw := r } : Ar).db h = { A.db h with raw := r } := by
  have e : ({ A with raw := r } : Ar).stF h = A.stF h := c8 rfl h
  unfold Ar.db Ar.gu Ar.gB
  rw [e]
  by_cases hs : A.stF h = 2
  · simp only [if_pos hs]; rfl
  · simp only [if_neg hs]; rfl
theorem FeI.step {who : Int} {x : Fe} (I : FeI p w m who x A S) (X : SL A p w m S) (hwf : A.wf) (hu : A.aD ≤ 1000000) (wh : 0 ≤ who ∧ who < w) : ∃ S', FeS p w m who x A S (x.step A).1 (x.step A).2 S' := by
  obtain ⟨p1, p2, p3, p4, p5⟩ := X.gP
  have wb := X.wb
  have mb := X.mb
  have us := X.F.us
  have hC := fk x.h
  obtain ⟨a1, a2⟩ := X.act x.h (by rw [I.st]; decide)
  have szh := gk (c := opC x.h) (by omega) (by omega)
  have X1 := X.ay (n := 1) (by omega)
  have k0 : 0 ≤ 4 * who + opC x.h := by omega
  have k1 : 4 * who + opC x.h < 4 * w := by omega
  rcases I.pu.step X.F (by omega) k0 k1 a2 with ⟨s1, s2, s3, s4, s5⟩ | ⟨s1, s3, s4, s5⟩
  · have stp : x.step A = ({ x with pu := x.pu.cF A }, x.pu.cX A) := by unfold Fe.step; rw [if_neg (by rw [I.nd]; simp), if_neg (by rw [s1]; simp)]
    rw [stp]
    obtain ⟨r, er, hl⟩ := s5.eq
    have up := s5.up
    dsimp only
    rw [er] at s2 s3 s4 up ⊢
    have Y := X1.ofRaw (r := r) (ch' := S.ch) hl up s3 X.chc fun h hh => (X.act h hh).2
    exact ⟨_, rfl, Y, ⟨s4, fun _ _ => rfl, fun _ h _ => h, fun _ _ => rfl, rfl, hl, fun i hi => up i (by omega), by show A.aD ≤ A.aD + 1; omega⟩, rfl, rfl, rfl, fun h => h, .inl ⟨I.nd, ⟨I.st, I.nd, s2⟩, fun _ => rfl, rfl⟩⟩
  · have stp : x.step A = ({ x with pu := x.pu.cF A, done := true }, (x.pu.cX A).db x.h) := by unfold Fe.step; rw [if_neg (by rw [I.nd]; simp), if_pos s1]
    rw [stp]
    obtain ⟨r, er, hl⟩ := s5.eq
    have up := s5.up
    dsimp only
    rw [er] at s3 s4 up ⊢
    have cnb := X.cnb
    obtain ⟨D, dst, dL, dR⟩ := X1.die (eK hwf 1) (by show A.aD + 1 ≤ _; omega) (h := x.h) I.st (by show -(64 * (A.aD + 1 + 1)) ≤ A.nR - _; omega)
    have parts := CY (A.ay 1) x.h
    obtain ⟨q1, q2, q3, q4, q5, q6⟩ := parts
    have q1 : ((A.ay 1).db x.h).raw = A.raw := q1
    have q2 : ((A.ay 1).db x.h).words = A.words := q2
    have q3 : ((A.ay 1).db x.h).fault = A.fault := q3
    have q4 : ((A.ay 1).db x.h).aD = A.aD + 1 := q4
    have q5 : ((A.ay 1).db x.h).nC = A.nC := q5
    have q6 : ((A.ay 1).db x.h).carved = A.carved := q6
    have eD : ({ A with raw := r, aD := A.aD + 1 } : Ar).db x.h = { (A.ay 1).db x.h with raw := r } := IY (A.ay 1) r x.h
    rw [eD]
    clear eD
    have dst : ∀ k, ((A.ay 1).db x.h).stF k = if k = x.h then 0 else A.stF k := dst
    have dL : ((A.ay 1).db x.h).nL = A.nL := dL
    have dR : ((A.ay 1).db x.h).nR = A.nR - au (opC x.h) := dR
    generalize (A.ay 1).db x.h = D0 at *
    have F2 : FL { D0 with raw := r } p w ((m + 7) / 8) (upd S.ch (4 * who + opC x.h) (opB x.h :: S.ch (4 * who + opC x.h))) :=
      s3.same (fun i => dN rfl i) rfl (by show 0 ≤ (D0).aD; rw [q4]; omega) fun k h0 h1 => by
        show _ ≤ (D0).aD
        rw [q4]
        exact (s3.hd k h0 h1).2
    have rr : ∀ i, ({ D0 with raw := r } : Ar).ao i = ({ A with raw := r, aD := A.aD + 1 } : Ar).ao i := fun i => dN rfl i
    have noact : ∀ h, (D0).stF h ≠ 0 → opB h ≠ opB x.h := fun h hh e => by
      rw [dst] at hh
      split at hh
      · exact hh rfl
      · rename_i hn
        exact hh (sS (A := A) (h := x.h) (k := h) (by rw [I.st]; decide) e hn)
    have Y := D.ofRaw (r := r) (by rw [q1]; exact hl) (fun i hi => by
      rw [rr, up i hi]; exact (dN q1 i).symm) F2 (fun k b hb => by
        unfold upd at hb; split at hb
        · rename_i e
          rcases List.mem_cons.1 hb with rfl | hb
          · rw [a1, e]; omega
          · rw [e]; exact X.chc _ b hb
        · exact X.chc k b hb) fun h hh k hk => by
        have hh' : A.stF h ≠ 0 := fun e => hh (by rw [dst]; split; rfl; exact e)
        unfold upd at hk; split at hk
        · rcases List.mem_cons.1 hk with e | hk
          · exact noact h hh e
          · exact (X.act h hh').2 _ hk
        · exact (X.act h hh').2 _ hk
    have yst : ∀ k, ({ D0 with raw := r } : Ar).stF k = if k = x.h then 0 else A.stF k := fun k => by
      rw [show ({ D0 with raw := r } : Ar).stF k = (D0).stF k from c8 rfl k, dst]
    refine ⟨_, q2, Y, ⟨⟨fun k h0 h1 => by rw [rr]; exact s4.hd k h0 h1, fun b h0 h1 h2 h3 => by rw [rr]; exact s4.lk b h0 h1 h2 h3⟩, fun _ _ => rfl, fun b ob hb => ⟨ob.1, fun k hk => ?_, fun h hh => ?_⟩, fun h hh => ?_, q3, hl, fun i hi => by rw [rr]; exact up i (by omega), by show A.aD ≤ (D0).aD; rw [q4]; omega⟩, q4, rfl, dL, fun h => ?_, .inr ⟨rfl, yst, dR⟩⟩
    · have hk : b ∈ upd S.ch (4 * who + opC x.h) (opB x.h :: S.ch (4 * who + opC x.h)) k := hk
      unfold upd at hk; split at hk
      · rcases List.mem_cons.1 hk with e | hk
        · exact hb e
        · exact ob.2.1 _ hk
      · exact ob.2.1 _ hk
    · rw [yst] at hh
      split at hh
      · exact (hh rfl).elim
      · exact ob.2.2 h hh
    · rw [yst, if_neg (fun e => hh (by rw [e]))]
    · show D0.nC = D0.carved.count true
      rw [q5, q6]; exact h
end
section
variable {A B : Ar} {p : Pl} {w m : Int} {S S' : Sg}
structure Qu (p : Pl) (w m : Int) (A : Ar) (S : Sg) (B : Ar) : Prop where
  sl : SL B p w m S
  ev : Ev p w m A S B S (-1)
  st : ∀ h, B.stF h = A.stF h
  nL : B.nL = A.nL
  nR : B.nR = A.nR
  cc : A.nC = A.carved.count true → B.nC = B.carved.count true
theorem Qu.store (X : SL A p w m S) (hu : A.aD ≤ 1000000000) {h off v : Int} (hi : A.fZ h off) : Qu p w m A S (A.bW h off v) ∧ (A.bW h off v).aD = A.aD + 1 := by
  have us := X.F.us
  have e : A.bW h off v = (A.ay 1).rv (pos h off) v := by rw [sE hi, iu us (by omega)]
  rw [e]
  have st : ∀ k, ((A.ay 1).rv (pos h off) v).stF k = A.stF k := fun k => c8 rfl k
  have X2 : SL ((A.ay 1).rv (pos h off) v) p w m S := X.congr (fun _ _ _ => rfl) rfl (by show A.aD ≤ A.aD + 1; omega) (by show (A.words.set _ _).length = _; rw [List.length_set]) st rfl rfl rfl rfl rfl rfl rfl rfl
  exact ⟨⟨X2, ⟨FEv.same (fun _ _ _ => rfl) X.F.wb.1 X.F.nb.1, fun _ _ => rfl, fun b o _ => ⟨o.1, o.2.1, fun k hk => o.2.2 k (by rw [← st k]; exact hk)⟩, fun k _ => st k, rfl, rfl, fun _ _ => rfl, by show A.aD ≤ A.aD + 1; omega⟩, st, rfl, rfl, fun h => h⟩, rfl⟩
theorem Qu.aL (X : SL A p w m S) (hu : A.aD ≤ 1000000000) {i v : Int} (h : p.carved < i ∧ i < A.raw.length) :
    SL (A.aL i v) p w m S ∧ FEv w ((m + 7) / 8) A (A.aL i v) (-1) ∧ (∀ h, (A.aL i v).stF h = A.stF h) ∧ (A.aL i v).nL = A.nL ∧ (A.aL i v).nR = A.nR ∧ (A.aL i v).words = A.words ∧ (A.aL i v).fault = A.fault ∧ (A.aL i v).aD = A.aD + 1 ∧ (A.aL i v).raw.length = A.raw.length ∧ ∀ j, (A.aL i v).ao j = if j = i then v else A.ao j := by
  obtain ⟨p1, p2, p3, p4, p5⟩ := X.gP
  have wb := X.wb
  have mb := X.mb
  have us := X.F.us
  have ok : A.bp i := ⟨by omega, h.2⟩
  have e : A.aL i v = (A.ay 1).dQ i.toNat v := by
    unfold Ar.aL
    rw [if_pos ok, iu us (by omega)]
  rw [e]
  have rf : ∀ j, ((A.ay 1).dQ i.toNat v).ao j = if j = i then v else A.ao j := fun j => iE (A := A.ay 1) ok
  refine ⟨X.congr (fun j h0 h1 => by rw [rf, if_neg (by omega)]) (by show (A.raw.set _ _).length = _; rw [List.length_set]) (by show A.aD ≤ A.aD + 1; omega) rfl (fun h => c8 rfl h) rfl rfl rfl rfl rfl rfl rfl rfl,
    FEv.same (fun j j0 j1 => by rw [rf, if_neg (by omega)]) (by omega) (by omega), fun h => c8 rfl h, rfl, rfl, rfl, rfl, rfl, by show (A.raw.set _ _).length = _; rw [List.length_set], rf⟩
theorem Ev.EX (X : SL A p w m S) (hwf : A.wf) (hu : A.aD ≤ 1000000000) {h : Int} (hs : A.stF h = 1) (cn : -(64 * (A.aD + 1)) ≤ A.nL - au (opC h) ∧ A.nR + au (opC h) ≤ 64 * (A.aD + 1)) :
    SL (A.aW h) p w m S ∧ (∀ k, (A.aW h).stF k = if k = h then 2 else A.stF k) ∧ (A.aW h).nL = A.nL - au (opC h) ∧ (A.aW h).nR = A.nR + au (opC h) ∧ Ev p w m A S (A.aW h) S (opB h) ∧
      (A.nC = A.carved.count true → (A.aW h).nC = (A.aW h).carved.count true) ∧ (A.aW h).aD = A.aD ∧ (A.aW h).words = A.words ∧ (A.aW h).fault = A.fault := by
  obtain ⟨Y, yst, yL, yR⟩ := X.EX hu hs cn
  have parts : (A.aW h).raw = A.raw ∧ (A.aW h).words = A.words ∧ (A.aW h).fault = A.fault ∧ (A.aW h).aD = A.aD ∧ (A.aW h).nC = A.nC ∧ (A.aW h).carved = A.carved := by
    unfold Ar.aW Ar.gu; split <;> exact ⟨rfl, rfl, rfl, rfl, rfl, rfl⟩
  obtain ⟨q1, q2, q3, q4, q5, q6⟩ := parts
  refine ⟨Y, yst, yL, yR, ⟨FEv.same (fun i _ _ => dN q1 i) X.F.wb.1 X.F.nb.1, fun _ _ => rfl, fun b o hb => ⟨o.1, o.2.1, fun k hk => ?_⟩, fun k hk => ?_, q3, by rw [q1], fun i _ => dN q1 i, by rw [q4]; exact Int.le_refl _⟩, fun h => by rw [q5, q6]; exact h, q4, q2, q3⟩
  · rw [yst] at hk
    split at hk
    · rename_i e; rw [e]; exact fun e2 => hb e2.symm
    · exact o.2.2 k hk
  · rw [yst, if_neg (fun e => hk (by rw [e]))]
end
section
variable {A B C : Ar} {g : Gd} {m : Int} {S S' : Sg} {l : Int → List (Int × Int)} {k h i v : Int} {p : Pl} {w : Int}
theorem kr (hw : B.words = A.words) (hs : B.stF h = A.stF h) : B.bA h i = A.bA h i := by
  unfold Ar.bA
  by_cases hi : A.fZ h i
  · have hb : B.fZ h i := ⟨by rw [hs]; exact hi.1, hi.2⟩
    rw [if_pos hi, if_pos hb, hw]
  · have hb : ¬ B.fZ h i := fun hb => hi ⟨by rw [← hs]; exact hb.1, hb.2⟩
    rw [if_neg hi, if_neg hb]
theorem vy (X : SL A p w m S) {h k i j : Int} (hi : A.fZ h i) (hk : A.fZ k j) : pos k j = pos h i ↔ k = h ∧ j = i := by
  obtain ⟨h1, h2, h3⟩ := hi
  obtain ⟨k1, k2, k3⟩ := hk
  obtain ⟨ah, _⟩ := X.act h h1
  obtain ⟨ak, _⟩ := X.act k k1
  have ch := fk h
  have ck := fk k
  have bh := X.blk (opB h) (by omega)
  have bk := X.blk (opB k) (by omega)
  constructor
  · intro e
    unfold pos at e
    by_cases hk : k = h
    · subst hk; exact ⟨rfl, by omega⟩
    · exfalso
      by_cases hb : opB k = opB h
      · exact k1 (sS h1 hb hk)
      · rcases Int.lt_or_gt_of_ne hb with hlt | hlt
        · have := X.dis (opB k) (opB h) (by omega) (by omega) hlt
          rw [ak] at this; omega
        · have := X.dis (opB h) (opB k) (by omega) (by omega) hlt
          rw [ah] at this; omega
  · rintro ⟨rfl, rfl⟩; rfl
structure MF (A : Ar) (g : Gd) (m : Int) (S : Sg) (l : Int → List (Int × Int)) (h i v : Int) (B : Ar) : Prop where
  gi : GI B g m S l
  al : Ar.Alike A B
  st : ∀ k, B.stF k = A.stF k
  nL : B.nL = A.nL
  nR : B.nR = A.nR
  us : B.aD = A.aD + 1
  rf : ∀ i, B.ao i = A.ao i
  rl : B.raw.length = A.raw.length
  ld : ∀ k j, A.fZ k j → B.bA k j = if k = h ∧ j = i then v else A.bA k j
theorem GI.store (X : GI A g m S l) (hu : A.aD ≤ 1000000000) (hi : A.fZ h i) : MF A g m S l h i v (A.bW h i v) := by
  obtain ⟨Q, us⟩ := Qu.store X.sl hu (v := v) hi
  have e : A.bW h i v = (A.tick).rv (pos h i) v := sE hi v
  have rf : ∀ j, (A.bW h i v).ao j = A.ao j := fun j => by rw [e]; rfl
  have rl : (A.bW h i v).raw.length = A.raw.length := by rw [e]; rfl
  have fa : (A.bW h i v).fault = A.fault := by rw [e]; rfl
  refine ⟨⟨Bu X.wf h i v, Q.sl, fa.trans X.fa, X.ta, X.wb, by rw [rl]; exact X.rl, by rw [rl]; exact X.rb, fun k x hx => by rw [Q.st]; exact X.st k x hx, X.nd, X.dj, X.rg, Q.nR.trans X.nR, by rw [Q.nL]; exact X.l0, ?_, X.ze, fun he => ?_, fun he => by rw [rf]; exact X.es he⟩, s9 A h i v, Q.st, Q.nL, Q.nR, us, rf, rl, fun k j hk => ?_⟩
  · have := X.nu; have := Q.nL; have := Q.nR; omega
  · have := X.eb he; rw [rf]; omega
  · rw [xm X.wf hi hk]
    by_cases e : pos k j = pos h i
    · rw [if_pos e, if_pos ((vy X.sl hi hk).1 e)]
    · rw [if_neg e, if_neg (fun h => e ((vy X.sl hi hk).2 h))]
theorem yU (X : GI A g m S l) (hu : A.aD ≤ 1000000000) (hi : A.fZ h i) : A.gp h i = A.ay 1 := by
  rw [rF hi]
  have us := X.sl.F.us
  unfold Ar.tick Ar.ay
  rw [aE (by omega) (by omega)]
end
theorem jD (A : Ar) (n h i : Int) : (A.ay n).bA h i = A.bA h i := kr rfl (c8 rfl h)
theorem nM (A : Ar) (n h : Int) : (A.ay n).stF h = A.stF h := c8 rfl h
theorem Ds {A : Ar} {n h i : Int} (hi : A.fZ h i) : (A.ay n).fZ h i := ⟨by rw [nM]; exact hi.1, hi.2⟩
section
variable {A B C : Ar} {g : Gd} {m : Int} {S S' : Sg} {l l' : Int → List (Int × Int)} {k h i v : Int} {q mq ob : Nat} {n : Nat}
theorem v9 (hs : A.stF h ≠ 0) : jZ h = au (opC h) ∧ rV h = opC h := by
  have ho := En hs
  unfold jZ rV opC
  rw [ho]; exact ⟨rfl, rfl⟩
theorem jA (hs : A.stF h ≠ 0) (i : Int) : dB h i = i % au (opC h) := by
  unfold dB
  rw [(v9 hs).1, if_neg (by have := jx h; omega)]
structure DA (A : Ar) (g : Gd) (at_ : Int) : Prop where
  lo : g.ta + cm g.ep g.w ≤ at_
  hi : at_ + 3 * g.w ≤ A.raw.length
structure DQ (A : Ar) (o : DOw) (t : Int) (xs : List Int) : Prop where
  r0 : A.ao (dw o.at_ o.work 0) = t
  r1 : A.ao (dw o.at_ o.work 1) = o.b
  r2 : A.ao (dw o.at_ o.work 2) = o.h
  bt : o.b = t + xs.length
  tb : 0 ≤ t ∧ t ≤ 1000000
  hs : A.stF o.h = 1
  ln : (xs.length : Int) ≤ au (opC o.h)
  ld : ∀ j : Nat, j < xs.length → A.bA o.h ((t + j) % au (opC o.h)) = xs.getD j 0
theorem DQ.ay {o : DOw} {t : Int} {xs : List Int} (D : DQ A o t xs) (n : Int) : DQ (A.ay n) o t xs :=
  ⟨D.r0, D.r1, D.r2, D.bt, D.tb, by rw [nM]; exact D.hs, D.ln, fun j hj => by rw [jD]; exact D.ld j hj⟩
theorem EE {o : DOw} (X : GI A g m S l) (D : DA A g o.at_) (wh : 0 ≤ o.work ∧ o.work < g.w) : o.bnd := by
  have := X.wb; have := X.rb; have := D.hi; have := D.lo; have := X.ta; have := X.c0
  have : 0 ≤ cm g.ep g.w := by unfold cm; cases g.ep <;> simp <;> omega
  exact ⟨⟨by omega, by omega⟩, ⟨wh.1, by omega⟩⟩
theorem Gl {o : DOw} (X : GI A g m S l) (D : DA A g o.at_) (wh : 0 ≤ o.work ∧ o.work < g.w) {k : Int} (k0 : 0 ≤ k) (k1 : k < 3) : g.pl.carved < dw o.at_ o.work k ∧ dw o.at_ o.work k < A.raw.length ∧ g.ta < dw o.at_ o.work k ∧ 0 ≤ dw o.at_ o.work k := by
  have := X.wb; have := X.rb; have := D.hi; have := D.lo; have := X.ta; have := X.c0
  have : 1 ≤ cm g.ep g.w := by unfold cm; cases g.ep <;> simp <;> omega
  unfold dw
  refine ⟨by omega, by omega, by omega, by omega⟩
theorem Br {o : DOw} (X : GI A g m S l) (D : DA A g o.at_) (wh : 0 ≤ o.work ∧ o.work < g.w) (hu : A.aD ≤ 900000) {k : Int} (k0 : 0 ≤ k) (k1 : k < 3) : A.aV (dw o.at_ o.work k) = A.ay 1 := by
  obtain ⟨a, b, c, d⟩ := Gl X D wh k0 k1
  exact fU ⟨d, b⟩ X.u0 (by omega)
structure Ju (A : Ar) (g : Gd) (m : Int) (S : Sg) (l : Int → List (Int × Int)) (o : DOw) (t v : Int) (xs : List Int) (B : Ar) : Prop where
  gi : GI B g m S l
  al : Ar.Alike A B
  dq : DQ B { o with b := o.b + 1 } t (xs ++ [v])
  st : ∀ h, B.stF h = A.stF h
  lo : ∀ h i, A.fZ h i → h ≠ o.h → B.bA h i = A.bA h i
  rf : ∀ i, i ≠ dw o.at_ o.work 1 → B.ao i = A.ao i
  nL : B.nL = A.nL
  rl : B.raw.length = A.raw.length
theorem FN {n i j t : Int} (hn : 0 < n) (hij : i ≠ j) (h0 : 0 ≤ i ∧ i < n) (h1 : 0 ≤ j ∧ j < n) : (t + i) % n ≠ (t + j) % n := fun e => by
  have d1 := Int.emod_add_mul_ediv (t + i) n
  have d2 := Int.emod_add_mul_ediv (t + j) n
  rw [e] at d1
  have e3 : i - j = n * ((t + i) / n) - n * ((t + j) / n) := by omega
  rw [← Int.mul_sub] at e3
  generalize (t + i) / n - (t + j) / n = k at e3
  have : k = 0 := by
    rcases Int.lt_trichotomy k 0 with h | h | h
    · have : n * k ≤ n * (-1) := Int.mul_le_mul_of_nonneg_left (by omega) (by omega)
      omega
    · exact h
    · have : n * 1 ≤ n * k := Int.mul_le_mul_of_nonneg_left (by omega) (by omega)
      omega
  rw [this] at e3; omega
theorem Hp (xs : List Int) (x : Int) (n : Nat) : (xs ++ [x]).getD n 0 = if n < xs.length then xs.getD n 0 else if n = xs.length then x else 0 := by
  rw [List.getD_eq_getElem?_getD, List.getD_eq_getElem?_getD, List.getElem?_append]
  split
  · rfl
  · rename_i h
    by_cases e : n = xs.length
    · rw [if_pos e, e, Nat.sub_self]; rfl
    · rw [if_neg e]
      obtain ⟨k, hk⟩ : ∃ k, n - xs.length = k + 1 := ⟨n - xs.length - 1, by omega⟩
      rw [hk]; rfl
theorem Il {o : DOw} {t v : Int} {xs : List Int} (X : GI A g m S l) (D : DA A g o.at_) (wh : 0 ≤ o.work ∧ o.work < g.w) (hu : A.aD ≤ 800000) (ll : (l o.work).length < 1000) (Q : DQ A o t xs) (hr : (xs.length : Int) < au (opC o.h)) {al : Option Al} {cp : Option Cm} {now : Int} :
    ∃ B, Ju A g m S l o t v xs B ∧ B.aD = A.aD + 2 ∧ (mPs q mq ob).gh 2 ⟨g, l, o, v, t, 5, al, cp, none, now, false⟩ A ⟨g, l, { o with b := o.b + 1 }, v, t, 7, al, cp, none, now, true⟩ B := by
  have u0 := X.u0
  have wb := X.wb
  have sz := jx o.h
  have tb := Q.tb
  have bt := Q.bt
  have hs0 : A.stF o.h ≠ 0 := by rw [Q.hs]; decide
  have hw := jA hs0 o.b
  have m0 := Int.emod_nonneg o.b (b := au (opC o.h)) (by omega)
  have m1 := Int.emod_lt_of_pos o.b (b := au (opC o.h)) (by omega)
  have hi : A.fZ o.h (o.b % au (opC o.h)) := ⟨hs0, m0, m1⟩
  have Z := X.store (v := v) (by omega) hi
  have zu := Z.us
  obtain ⟨d1, d2, d3, d4⟩ := Gl X D wh (k := 1) (by decide) (by decide)
  have O := Kf Z.gi.sl (i := dw o.at_ o.work 1) (v := o.b + 1) ⟨d1, by rw [Z.rl]; exact d2⟩ (by omega)
  have ou := O.us
  have X2 := Z.gi.out O (rQ Z.gi.wf _ _) (fun _ => by omega)
  have okr : (A.bW o.h (o.b % au (opC o.h)) v).bp (dw o.at_ o.work 1) := ⟨d4, by rw [Z.rl]; exact d2⟩
  have ew : ((A.bW o.h (o.b % au (opC o.h)) v).aL (dw o.at_ o.work 1) (o.b + 1)).words = (A.bW o.h (o.b % au (opC o.h)) v).words := by unfold Ar.aL; rw [if_pos okr]; rfl
  have lds : ∀ h i, ((A.bW o.h (o.b % au (opC o.h)) v).aL (dw o.at_ o.work 1) (o.b + 1)).bA h i = (A.bW o.h (o.b % au (opC o.h)) v).bA h i := fun h i => kr ew (O.st h)
  have bd := EE X D wh
  have iv : ∀ (what : Int) (D : Ar), what = 5 ∨ what = 6 → Ps.inv ⟨g, l, o, v, t, what, al, cp, none, now, false⟩ D := fun what D hw => ⟨by show 1 ≤ g.w ∧ g.w ≤ 1000; omega, bd, ll, fun h => (by have h : what = 1 := h; omega), fun h => (by have h : what = 2 := h; omega), fun _ => rfl, fun h => (by have h : what = 4 := h; omega)⟩
  have e1 : w64 (o.b + 1) = o.b + 1 := aE (by omega) (by omega)
  refine ⟨(A.bW o.h (o.b % au (opC o.h)) v).aL (dw o.at_ o.work 1) (o.b + 1), ⟨X2, Z.al.trans (eV _ _ _), ⟨?_, ?_, ?_, ?_, tb, ?_, ?_, ?_⟩, fun h => (O.st h).trans (Z.st h), fun h i hh hne => ?_, fun i hi => ?_, O.nL.trans Z.nL, O.rl.trans Z.rl⟩, by omega, ?_⟩
  · show Ar.ao _ (dw o.at_ o.work 0) = t
    rw [O.rf, if_neg (by unfold dw; omega), Z.rf]; exact Q.r0
  · show Ar.ao _ (dw o.at_ o.work 1) = o.b + 1
    rw [O.rf, if_pos rfl]
  · show Ar.ao _ (dw o.at_ o.work 2) = o.h
    rw [O.rf, if_neg (by unfold dw; omega), Z.rf]; exact Q.r2
  · show o.b + 1 = t + ((xs ++ [v]).length : Int)
    rw [List.length_append]; show _ = t + ((xs.length + 1 : Nat) : Int); omega
  · show Ar.stF _ o.h = 1
    rw [O.st, Z.st]; exact Q.hs
  · show ((xs ++ [v]).length : Int) ≤ au (opC o.h)
    rw [List.length_append]; show ((xs.length + 1 : Nat) : Int) ≤ _; omega
  · intro j hj
    show _ = (xs ++ [v]).getD j 0
    rw [List.length_append] at hj
    have hj : j < xs.length + 1 := hj
    have hij : A.fZ o.h ((t + j) % au (opC o.h)) := ⟨hs0, Int.emod_nonneg _ (by omega), Int.emod_lt_of_pos _ (by omega)⟩
    show ((A.bW o.h (o.b % au (opC o.h)) v).aL (dw o.at_ o.work 1) (o.b + 1)).bA o.h ((t + j) % au (opC o.h)) = _
    rw [lds, Z.ld _ _ hij, Hp]
    by_cases e : j < xs.length
    · rw [if_pos e, if_neg (fun h => ?_)]
      · exact Q.ld j e
      · have := h.2
        rw [bt] at this
        exact FN (n := au (opC o.h)) (by omega) (by omega) ⟨by omega, by omega⟩ ⟨by omega, hr⟩ this
    · have ej : j = xs.length := by omega
      rw [if_neg e, if_pos ej, if_pos ⟨rfl, by rw [bt, ej]⟩]
  · rw [lds, Z.ld _ _ hh, if_neg (fun h => hne h.1)]
  · rw [O.rf, if_neg hi, Z.rf]
  · refine .more (x1 := ⟨g, l, o, v, t, 6, al, cp, none, now, false⟩) (D1 := A.bW o.h (o.b % au (opC o.h)) v) (by exact iv 5 _ (.inl rfl)) ?_ (by rw [zu, aE (by omega) (by omega)]; exact Int.le_refl _) rfl (.one (by exact iv 6 _ (.inr rfl)) ?_ (by rw [ou, aE (by omega) (by omega)]; exact Int.le_refl _) rfl)
    · show ((⟨g, l, o, v, t, 6, al, cp, none, now, false⟩ : Ps), A.bW o.h (dB o.h o.b) v) = _
      rw [hw]
    · show ((⟨g, l, ⟨o.at_, o.work, w64 (o.b + 1), o.h, o.pl⟩, v, t, 7, al, cp, none, now, true⟩ : Ps), (A.bW o.h (o.b % au (opC o.h)) v).aL (dw o.at_ o.work 1) (w64 (o.b + 1))) = _
      rw [e1]
end
section
variable {A B C : Ar} {g : Gd} {m : Int} {S S' : Sg} {l l' : Int → List (Int × Int)} {k h i v t : Int} {q mq ob : Nat} {n : Nat} {o : DOw} {xs : List Int}
theorem ON (wb : 1 ≤ g.w ∧ g.w ≤ 1000) (bd : o.bnd) (ll : (l o.work).length < 1000) {v t what : Int} {al : Option Al} {cp : Option Cm} {now : Int} {bS : Bool} (h1 : what ≠ 1) (h2 : what ≠ 2) (h4 : what ≠ 4) (D : Ar) : Ps.inv ⟨g, l, o, v, t, what, al, cp, none, now, bS⟩ D :=
  ⟨wb, bd, ll, fun h => (h1 h).elim, fun h => (h2 h).elim, fun _ => rfl, fun h => (h4 h).elim⟩
theorem JS (X : GI A g m S l) (D : DA A g o.at_) (wh : 0 ≤ o.work ∧ o.work < g.w) (hu : A.aD ≤ 800000) (ll : (l o.work).length < 1000) (Q : DQ A o t xs) :
    (mPs q mq ob).inv ⟨g, l, o, v, 0, 0, none, none, none, 0, false⟩ A ∧ (A.ay 1).aD ≤ w64 (A.aD + 1) ∧ (mPs q mq ob).step ⟨g, l, o, v, 0, 0, none, none, none, 0, false⟩ A = (if au (opC o.h) ≤ xs.length then
      (if opC o.h + 1 < 4 then ⟨g, l, o, v, t, 1, some (mf o.pl o.work (opC o.h + 1)), none, none, 0, false⟩ else ⟨g, l, o, v, t, 7, none, none, none, 0, false⟩) else ⟨g, l, o, v, t, 5, none, none, none, 0, false⟩, A.ay 1) := by
  have u0 := X.u0
  have wb := X.wb
  have tb := Q.tb
  have bt := Q.bt
  have sz := jx o.h
  have oc := fk o.h
  have hs0 : A.stF o.h ≠ 0 := by rw [Q.hs]; decide
  obtain ⟨rl, cl⟩ := v9 hs0
  have ln := Q.ln
  refine ⟨ON ⟨by omega, by omega⟩ (EE X D wh) ll (by decide) (by decide) (by decide) A, by show A.aD + 1 ≤ _; rw [aE (by omega) (by omega)]; exact Int.le_refl _, ?_⟩
  have e1 : w64 (o.b - t) = xs.length := by rw [bt, aE (by omega) (by omega)]; omega
  have e2 : w64 (opC o.h + 1) = opC o.h + 1 := aE (by omega) (by omega)
  show (if jZ o.h ≤ w64 (o.b - A.ao (dw o.at_ o.work 0)) then Ps.grow ⟨g, l, o, v, A.ao (dw o.at_ o.work 0), 5, none, none, none, 0, false⟩ else ⟨g, l, o, v, A.ao (dw o.at_ o.work 0), 5, none, none, none, 0, false⟩, A.aV (dw o.at_ o.work 0)) = _
  rw [Br X D wh (by omega) (by decide) (by decide), Q.r0, e1, rl]
  refine Prod.ext ?_ rfl
  show (if _ then _ else _ : Ps) = if _ then _ else _
  by_cases hr : au (opC o.h) ≤ xs.length
  · rw [if_pos hr, if_pos hr]
    show (if w64 (rV o.h + 1) < 4 then (⟨g, l, o, v, t, 1, some (mf o.pl o.work (w64 (rV o.h + 1))), none, none, 0, false⟩ : Ps) else ⟨g, l, o, v, t, 7, none, none, none, 0, false⟩) = _
    rw [cl, e2]
  · rw [if_neg hr, if_neg hr]
theorem GF (X : GI A g m S l) (D : DA A g o.at_) (wh : 0 ≤ o.work ∧ o.work < g.w) (hu : A.aD ≤ 700000) (ll : (l o.work).length < 1000) (Q : DQ A o t xs) (hr : (xs.length : Int) < au (opC o.h)) :
    ∃ B, Ju A g m S l o t v xs B ∧ B.aD = A.aD + 3 ∧ (mPs q mq ob).gh 3 ⟨g, l, o, v, 0, 0, none, none, none, 0, false⟩ A ⟨g, l, { o with b := o.b + 1 }, v, t, 7, none, none, none, 0, true⟩ B := by
  obtain ⟨iv, hu1, st⟩ := JS (q := q) (mq := mq) (ob := ob) (v := v) X D wh (by omega) ll Q
  rw [if_neg (by omega)] at st
  obtain ⟨B, P, bu, r⟩ := Il (q := q) (mq := mq) (ob := ob) (v := v) (al := none) (cp := none) (now := 0) (X.ay (n := 1) (by decide)) ⟨D.lo, D.hi⟩ wh (by show A.aD + 1 ≤ _; omega) ll (Q.ay 1) hr
  have bu : B.aD = A.aD + 1 + 2 := bu
  refine ⟨B, ⟨P.gi, (pI A 1).trans P.al, P.dq, fun h => (P.st h).trans (nM A 1 h), fun h i hh hne => (P.lo h i (Ds hh) hne).trans (jD A 1 h i), P.rf, P.nL, P.rl⟩, by omega, .more iv st hu1 rfl r⟩
end
structure NO (A : Ar) (g : Gd) (m : Int) (S : Sg) (l : Int → List (Int × Int)) (who c : Int) (n : Nat) (x : Al) (B : Ar) (S' : Sg) : Prop where
  z : Ch A g.pl g.w m S who c n x B S'
  gi : GI B g m S' l
  cv : S'.cv ≤ S.cv + au c
  nz : S.cv + au c ≤ m → x.h ≠ 0
  un : A.aD ≤ B.aD ∧ B.aD ≤ A.aD + g.w + 5
theorem GI.slot {A : Ar} {g : Gd} {m : Int} {S : Sg} {l : Int → List (Int × Int)} (X : GI A g m S l) (hu : A.aD ≤ 900000) {who c : Int} (wh : 0 ≤ who ∧ who < g.w) (hc : 0 ≤ c ∧ c < 4) : ∃ n x B S', NO A g m S l who c n x B S' := by
  obtain ⟨n, x, B, S', Z⟩ := Ea X.sl X.wf (by omega) wh hc
  have sz := gk hc.1 hc.2
  have us := Z.off.us
  have nn := Z.nn
  refine ⟨n, x, B, S', Z, X.alloc hc Z, ?_, fun hm => ?_, ⟨by omega, by omega⟩⟩
  · obtain ⟨kk, b', l', h1, h2, _, _, _, h3, _⟩ | ⟨h1, h2, h3, h4⟩ | ⟨h1, h2, h3, _⟩ := Z.gives.or
    · rw [h3]; show S.cv ≤ _; omega
    · rw [h3]; show S.cv + _ ≤ _; omega
    · rw [h3]; omega
  · obtain ⟨kk, b', l', h1, h2, _, _, hcc, h3, h4⟩ | ⟨h1, h2, h3, h4⟩ | ⟨h1, h2, h3, _⟩ := Z.gives.or
    · rw [h4]; exact (HX X.sl (by omega) h2 hcc).2.2.2.2
    · rw [h4]; exact (EJ X.sl hc h2).2.2.2.2
    · exact (h2 hm).elim
section
variable {A B C : Ar} {g : Gd} {m : Int} {S S' : Sg} {l l' : Int → List (Int × Int)} {k h i v t : Int} {q mq ob : Nat} {n : Nat} {o : DOw} {xs : List Int}
end
def Mch.toR {M J : Type} (X : Mch M J) : sB M J := ⟨X.f, X.addr, X.bl, fun _ _ => True, X.inv, X.step, X.fin⟩
theorem Mch.EU {M J : Type} {X : Mch M J} (h : X.ok) : X.toR.ok := fun I A G m j hA ok _ hi => by
  obtain ⟨h0⟩ : Nonempty (cB Tryz.prog X.f #[.pointer (some ⟨X.addr j, 0, none⟩), .pointer (aI I)] (own A (X.bl m j) G) fun v K => ∃ j', v = .bool (X.fin (X.step m A).1) ∧ K = own (X.step m A).2 (X.bl (X.step m A).1 j') G ∧ X.addr j' = X.addr j ∧ Ok I G (keys (X.bl (X.step m A).1 j')) ∧ Aw I (X.step m A).2) := ⟨h I A G m j hA ok hi⟩
  refine h0.mono ?_
  rintro v K ⟨j', a, b, c, d, e⟩
  exact ⟨j', a, b, c, d, trivial, e⟩
theorem Mch.I0 {M J : Type} {X : Mch M J} {n : Nat} {m m' : M} {A A' : Ar} (h : X.gh n m A m' A') : X.toR.gh n m A m' A' := by
  induction h with
  | one hi hu hf => exact .one hi rfl hu hf
  | more hi hu hf _ ih => exact .more hi rfl hu hf ih
section
variable {A B C : Ar} {g : Gd} {m : Int} {S S' : Sg} {l l' : Int → List (Int × Int)} {k h i v t : Int} {q mq ob : Nat} {n : Nat} {o : DOw} {xs : List Int}
structure Bot (A : Ar) (g : Gd) (m : Int) (S : Sg) (l : Int → List (Int × Int)) (i v : Int) (B : Ar) : Prop where
  gi : GI B g m S l
  al : Ar.Alike A B
  ok : A.bp i
  lf : ∀ h j, B.bA h j = A.bA h j
  st : ∀ h, B.stF h = A.stF h
  rf : ∀ j, B.ao j = if j = i then v else A.ao j
  nL : B.nL = A.nL
  rl : B.raw.length = A.raw.length
  us : B.aD = A.aD + 1
  us' : B.aD ≤ w64 (A.aD + 1)
theorem GI.bot (X : GI A g m S l) (D : DA A g o.at_) (wh : 0 ≤ o.work ∧ o.work < g.w) (hu : A.aD ≤ 900000) (v : Int) {k : Int} (k0 : 0 ≤ k) (k1 : k < 3) : Bot A g m S l (dw o.at_ o.work k) v (A.aL (dw o.at_ o.work k) v) := by
  have u0 := X.u0
  obtain ⟨d1, d2, d3, d4⟩ := Gl X D wh k0 k1
  have O := Kf X.sl (i := dw o.at_ o.work k) (v := v) ⟨d1, d2⟩ (by omega)
  have ou := O.us
  have okr : A.bp (dw o.at_ o.work k) := ⟨d4, d2⟩
  have ew : (A.aL (dw o.at_ o.work k) v).words = A.words := by unfold Ar.aL; rw [if_pos okr]; rfl
  exact ⟨X.out O (rQ X.wf _ _) (fun _ => by omega), eV _ _ _, okr, fun h j => kr ew (O.st h), O.st, O.rf, O.nL, O.rl, ou, by rw [ou, aE (by omega) (by omega)]; exact Int.le_refl _⟩
end
def qY (f : Nat → Int) : Nat → Int
  | 0 => 0
  | n + 1 => qY f n + f n
theorem BO {f h : Nat → Int} : ∀ {n : Nat}, (∀ i, i < n → f i = h i) → qY f n = qY h n
  | 0, _ => rfl
  | n + 1, e => by show qY f n + f n = qY h n + h n; rw [BO (n := n) fun i hi => e i (by omega), e n (by omega)]
theorem Am {α : Type} (h : α → Int) (f : Nat → α) {w : Nat} (a : α) : ∀ {n : Nat}, w < n → qY (fun j => h (bm f w a j)) n = qY (fun j => h (f j)) n - h (f w) + h a
  | 0, e => by omega
  | n + 1, e => by
    show qY _ n + h (bm f w a n) = qY _ n + h (f n) - _ + _
    by_cases e2 : n = w
    · rw [BO (h := fun j => h (f j)) fun i hi => by rw [bB f a (by omega)], e2, bf]; omega
    · rw [Am h f a (n := n) (by omega), bB f a e2]; omega
theorem FV {f : Nat → Int} (h0 : ∀ i, 0 ≤ f i) {w : Nat} : ∀ {n : Nat}, w < n → f w ≤ qY f n
  | 0, e => by omega
  | n + 1, e => by
    have nn : ∀ k, 0 ≤ qY f k := fun k => by
      induction k with
      | zero => exact Int.le_refl 0
      | succ k ih => have := h0 k; show 0 ≤ qY f k + f k; omega
    have := nn n
    have := h0 n
    show f w ≤ qY f n + f n
    by_cases e2 : n = w
    · rw [e2] at this ⊢; have := nn w; omega
    · have := FV h0 (n := n) (w := w) (by omega); omega
structure Dq where
  o : DOw
  t : Int
  xs : List Int
  ob : Nat
structure DI (A : Ar) (g : Gd) (m : Int) (S : Sg) (l : Int → List (Int × Int)) (at_ : Int) (n : Nat) (ex : Int) (f : Nat → Dq) : Prop where
  gi : GI A g m S l
  da : DA A g at_
  nw : (n : Int) ≤ g.w
  dq : ∀ i, i < n → DQ A (f i).o (f i).t (f i).xs
  oa : ∀ i, i < n → (f i).o.at_ = at_
  ow : ∀ i : Nat, i < n → (f i).o.work = i
  op : ∀ i, i < n → (f i).o.pl = g.pl
  ne : ∀ i j, i < n → j < n → i ≠ j → (f i).o.h ≠ (f j).o.h
  nL : A.nL = qY (fun i => au (opC (f i).o.h)) n + ex
  ex0 : 0 ≤ ex
  ll : ∀ i : Nat, i < n → ((l i).length : Int) ≤ opC (f i).o.h
  tu : ∀ i, i < n → (f i).t ≤ A.aD
  cv : S.cv ≤ qY (fun i => 2 * au (opC (f i).o.h) - 8) n + ex
section
variable {A B C : Ar} {g : Gd} {m : Int} {S S' : Sg} {l l' : Int → List (Int × Int)} {k h i v t at_ ex : Int} {q mq ob : Nat} {n : Nat} {o : DOw} {xs : List Int} {f : Nat → Dq}
theorem DQ.move (Q : DQ A o t xs) (h0 : ∀ k : Int, 0 ≤ k → k < 3 → B.ao (dw o.at_ o.work k) = A.ao (dw o.at_ o.work k)) (h1 : B.stF o.h = 1) (h2 : ∀ j, B.bA o.h j = A.bA o.h j) : DQ B o t xs :=
  ⟨(h0 0 (by decide) (by decide)).trans Q.r0, (h0 1 (by decide) (by decide)).trans Q.r1, (h0 2 (by decide) (by decide)).trans Q.r2, Q.bt, Q.tb, h1, Q.ln, fun j hj => (h2 _).trans (Q.ld j hj)⟩
theorem JK (hst : B.stF h = A.stF h) (hl : ∀ i, A.fZ h i → B.bA h i = A.bA h i) : ∀ i, B.bA h i = A.bA h i := fun i => by
  by_cases hi : A.fZ h i
  · exact hl i hi
  · unfold Ar.bA
    rw [if_neg hi, if_neg (fun hb : B.fZ h i => hi ⟨by rw [← hst]; exact hb.1, hb.2⟩)]
theorem DI.put (E : DI A g m S l at_ n ex f) {w : Nat} (hw : w < n) {x : Dq} (G : GI B g m S' l') (rl : B.raw.length = A.raw.length) (D : DQ B x.o x.t x.xs) (oa : x.o.at_ = at_) (ow : x.o.work = w) (op : x.o.pl = g.pl)
    (ne : ∀ j, j < n → j ≠ w → x.o.h ≠ (f j).o.h) (nL : B.nL = A.nL - au (opC (f w).o.h) + au (opC x.o.h)) (ll : ((l' w).length : Int) ≤ opC x.o.h) (lo : ∀ j : Int, j ≠ w → l' j = l j) (tu : x.t ≤ B.aD) (us : A.aD ≤ B.aD)
    (cv : S'.cv ≤ S.cv + 2 * au (opC x.o.h) - 2 * au (opC (f w).o.h))
    (ot : ∀ j, j < n → j ≠ w → B.stF (f j).o.h = 1 ∧ ∀ i, B.bA (f j).o.h i = A.bA (f j).o.h i)
    (rf : ∀ i, g.pl.carved < i → i ≠ g.ta → i ≠ dw at_ w 0 → i ≠ dw at_ w 1 → i ≠ dw at_ w 2 → B.ao i = A.ao i) : DI B g m S' l' at_ n ex (bm f w x) := by
  have cases : ∀ {P : Dq → Nat → Prop}, P x w → (∀ j, j < n → j ≠ w → P (f j) j) → ∀ j, j < n → P (bm f w x j) j := fun {P} h1 h2 j hj => by
    by_cases e : j = w
    · rw [e, bf]; exact h1
    · rw [bB f x e]; exact h2 j hj e
  refine ⟨G, ⟨E.da.lo, by rw [rl]; exact E.da.hi⟩, E.nw, ?_, ?_, ?_, ?_, fun i j hi hj hij => ?_, ?_, ?_, ?_, ?_, ?_⟩
  · refine cases (P := fun x _ => DQ B x.o x.t x.xs) D fun j hj e => ?_
    obtain ⟨o1, o2⟩ := ot j hj e
    refine (E.dq j hj).move (fun k k0 k1 => ?_) o1 o2
    have wj := E.ow j hj
    have aj := E.oa j hj
    have hjw : (0 : Int) ≤ (f j).o.work ∧ (f j).o.work < g.w := by have := E.nw; omega
    obtain ⟨d1, d2, d3, d4⟩ := Gl (o := (f j).o) E.gi (by rw [aj]; exact E.da) hjw k0 k1
    refine rf _ d1 (by omega) ?_ ?_ ?_
    all_goals (unfold dw; omega)
  · exact cases (P := fun x _ => x.o.at_ = at_) oa fun j hj _ => E.oa j hj
  · exact cases (P := fun x j => x.o.work = j) ow fun j hj _ => E.ow j hj
  · exact cases (P := fun x _ => x.o.pl = g.pl) op fun j hj _ => E.op j hj
  · by_cases ei : i = w
    · have ej : j ≠ w := by omega
      rw [ei, bf, bB f x ej]; exact ne j hj ej
    · by_cases ej : j = w
      · rw [ej, bf, bB f x ei]; exact fun e => ne i hi ei e.symm
      · rw [bB f x ei, bB f x ej]; exact E.ne i j hi hj hij
  · rw [Am (fun x : Dq => au (opC x.o.h)) f x hw, nL, E.nL]; omega
  · exact E.ex0
  · refine cases (P := fun x j => ((l' (j : Int)).length : Int) ≤ opC x.o.h) ll fun j hj e => ?_
    rw [lo j (by omega)]; exact E.ll j hj
  · refine cases (P := fun x _ => x.t ≤ B.aD) tu fun j hj _ => ?_
    have := E.tu j hj; omega
  · rw [Am (fun x : Dq => 2 * au (opC x.o.h) - 8) f x hw]
    have := E.cv
    show S'.cv ≤ qY _ n - (2 * au (opC (f w).o.h) - 8) + (2 * au (opC x.o.h) - 8) + ex
    omega
structure O9 (E : Prop) (A : Ar) (g : Gd) (x : Dq) (w : Nat) (n : Nat) : Prop where
  wh : 0 ≤ x.o.work ∧ x.o.work < g.w
  da : DA A g x.o.at_
  hs : A.stF x.o.h = 1
  lb : (x.xs.length : Int) ≤ 64
  sz : au (opC x.o.h) ≤ A.nL
theorem DI.ati (E : DI A g m S l at_ n ex f) {w : Nat} (hw : w < n) : O9 True A g (f w) w n := by
  have ow := E.ow w hw
  have nw := E.nw
  refine ⟨⟨by omega, by omega⟩, by rw [E.oa w hw]; exact E.da, (E.dq w hw).hs, ?_, ?_⟩
  · have := (E.dq w hw).ln; have := jx (f w).o.h; omega
  · have e0 := E.ex0
    have h : au (opC (f w).o.h) ≤ qY (fun i => au (opC (f i).o.h)) n := FV (f := fun i => au (opC (f i).o.h)) (fun i => by have := jx (f i).o.h; show 0 ≤ au (opC (f i).o.h); omega) hw
    rw [E.nL]; omega
structure Ma (A : Ar) (g : Gd) (m : Int) (S : Sg) (l : Int → List (Int × Int)) (at_ : Int) (n : Nat) (ex : Int) (f : Nat → Dq) (w : Nat) (v : Int) (q mq ob N : Nat) (B : Ar) (S' : Sg) (l' : Int → List (Int × Int)) (o' : DOw) (al : Option Al) (cp : Option Cm) (now : Int) : Prop where
  di : DI B g m S' l' at_ n ex (bm f w ⟨o', (f w).t, (f w).xs ++ [v], (f w).ob⟩)
  run : (mPs q mq ob).gh N ⟨g, l, (f w).o, v, 0, 0, none, none, none, 0, false⟩ A ⟨g, l', o', v, (f w).t, 7, al, cp, none, now, true⟩ B
  hn : N ≤ 4000
  al : Ar.Alike A B
  us : A.aD ≤ B.aD ∧ B.aD ≤ A.aD + 1500
  or : (((f w).xs.length : Int) < au (opC (f w).o.h) ∧ o' = { (f w).o with b := (f w).o.b + 1 } ∧ S' = S ∧ l' = l ∧ B.aD = A.aD + 3 ∧ (∀ h, B.stF h = A.stF h) ∧ ∀ h i, h ≠ (f w).o.h → B.bA h i = A.bA h i) ∨
    (((f w).xs.length : Int) = au (opC (f w).o.h) ∧ opC (f w).o.h < 3 ∧ opC o'.h = opC (f w).o.h + 1 ∧ B.stF (f w).o.h ≠ 1 ∧ (∀ j, j ≠ o'.h → B.stF j = 1 → A.stF j = 1) ∧ ((∃ k, S.ch k ≠ []) ∨ S.cv + au (opC (f w).o.h + 1) ≤ m))
theorem DI.OG (E : DI A g m S l at_ n ex f) {w : Nat} (hw : w < n) (hu : A.aD ≤ 600000) (v : Int) (q mq ob : Nat) (hr : ((f w).xs.length : Int) < au (opC (f w).o.h)) :
    ∃ N B S' l' o' al cp now, Ma A g m S l at_ n ex f w v q mq ob N B S' l' o' al cp now := by
  obtain ⟨wh, da, hs, lb, sz⟩ := E.ati hw
  have X := E.gi
  have u0 := X.u0
  have Q := E.dq w hw
  have ow := E.ow w hw
  have oa := E.oa w hw
  have op := E.op w hw
  have oc := fk (f w).o.h
  have tu := E.tu w hw
  have ll0 : ((l (f w).o.work).length : Int) ≤ opC (f w).o.h := by rw [ow]; exact E.ll w hw
  obtain ⟨B, P, bu, r⟩ := GF (q := q) (mq := mq) (ob := ob) (v := v) X da wh (by omega) (by omega) Q hr
  refine ⟨3, B, S, l, { (f w).o with b := (f w).o.b + 1 }, none, none, 0, ?_, r, by decide, P.al, ⟨by omega, by omega⟩, .inl ⟨hr, rfl, rfl, rfl, bu, P.st, fun h i hne => JK (P.st _) (fun i hi => P.lo _ i hi hne) i⟩⟩
  refine E.put hw (x := ⟨{ (f w).o with b := (f w).o.b + 1 }, (f w).t, (f w).xs ++ [v], (f w).ob⟩) P.gi P.rl P.dq oa ow op (fun j hj e => E.ne w j hw hj (fun h => e h.symm)) (by rw [P.nL]; show _ = A.nL - au (opC (f w).o.h) + au (opC (f w).o.h); omega) (by rw [← ow]; exact ll0) (fun _ _ => rfl) (by show (f w).t ≤ _; omega) (by omega) (by show S.cv ≤ S.cv + 2 * au (opC (f w).o.h) - 2 * au (opC (f w).o.h); omega) (fun j hj e => ?_) (fun i hi hn h0 h1 h2 => P.rf i (by rw [oa, ow]; exact h1))
  have hne := E.ne j w hj hw e
  exact ⟨by rw [P.st]; exact (E.dq j hj).hs, JK (P.st _) fun i hi => P.lo _ i hi hne⟩
structure DM (A : Ar) (g : Gd) (m : Int) (S : Sg) (at_ : Int) (n : Nat) (ex : Int) (f : Nat → Dq) : Prop where
  di : DI A g m S (fun _ => []) at_ n ex f
  ch : ∀ k, S.ch k = []
  cv : S.cv = 8 * n
  rz : ∀ i, at_ + 3 * n ≤ i → A.ao i = 0
  em : ∀ i, i < n → (f i).xs = [] ∧ (f i).t = 0 ∧ (f i).o.b = 0 ∧ opC (f i).o.h = 0
  us : A.aD ≤ 200 * n
structure Pb (A : Ar) (g : Gd) (m : Int) (S : Sg) (at_ : Int) (n : Nat) (ex : Int) (f : Nat → Dq) (N : Nat) (x : Al) (B : Ar) (S' : Sg) : Prop where
  run : mAl.gh N (mf g.pl n 0) A x B
  hn : N ≤ 4000
  al : Ar.Alike A B
  wf : B.wf
  al2 : Ar.Alike A (B.aL (dw at_ n 2) x.h)
  hx : x.h ≠ 0
  dm : ∀ ob, DM (B.aL (dw at_ n 2) x.h) g m S' at_ (n + 1) ex (bm f n ⟨⟨at_, n, 0, x.h, g.pl⟩, 0, [], ob⟩)
theorem DM.born (M : DM A g m S at_ n ex f) (hn : (n : Int) < g.w) (hm : 8 * (n : Int) + 8 ≤ m) : ∃ N x B S', Pb A g m S at_ n ex f N x B S' := by
  have E := M.di
  have X := E.gi
  have wb := X.wb
  have u0 := X.u0
  have us0 := M.us
  have cv := M.cv
  obtain ⟨N, x, B, S', Z⟩ := X.slot (by omega) (who := n) (c := 0) ⟨by omega, hn⟩ (by decide)
  have hx := Z.nz (by rw [cv]; show 8 * (n : Int) + 8 ≤ m; exact hm)
  have nn := Z.z.nn
  obtain ⟨hc, _, hx0⟩ := Z.z.hd hx
  have off := Z.z.off
  have ou := off.us
  have eS : S'.cv = 8 * (n : Int) + 8 ∧ ∀ k, S'.ch k = [] := by
    obtain ⟨kk, b', l', h1, h2, _⟩ | ⟨h1, h2, h3, h4⟩ | ⟨h1, h2, h3, h4⟩ := Z.z.gives.or
    · rw [M.ch] at h2; cases h2
    · rw [h3]; refine ⟨?_, M.ch⟩; show S.cv + au 0 = _; rw [cv]; rfl
    · exact (hx h4).elim
  have DB : DA B g at_ := ⟨E.da.lo, by rw [off.rl]; exact E.da.hi⟩
  have wh : 0 ≤ (⟨at_, n, 0, x.h, g.pl⟩ : DOw).work ∧ (⟨at_, n, 0, x.h, g.pl⟩ : DOw).work < g.w := ⟨by show 0 ≤ (n : Int); omega, hn⟩
  have T := Z.gi.bot (o := ⟨at_, n, 0, x.h, g.pl⟩) DB wh (by omega) x.h (k := 2) (by decide) (by decide)
  have tu := T.us
  obtain ⟨C, hC⟩ : ∃ C, C = B.aL (dw at_ n 2) x.h := ⟨_, rfl⟩
  have T : Bot B g m S' (fun _ => []) (dw at_ n 2) x.h C := by rw [hC]; exact T
  have tu : C.aD = B.aD + 1 := by rw [hC]; exact tu
  refine ⟨N, x, B, S', Z.z.run, by omega, off.al, off.wf, off.al.trans (eV _ _ _), hx, fun ob => ?_⟩
  rw [← hC]
  have ta0 := X.ta
  have lo0 := E.da.lo
  have hi0 := E.da.hi
  have gw : 1 ≤ cm g.ep g.w := by unfold cm; cases g.ep <;> simp <;> omega
  have rC : ∀ i, g.pl.carved < i → i ≠ dw at_ n 2 → C.ao i = A.ao i := fun i hi h => by rw [T.rf, if_neg h, off.rw i hi]
  have sC : ∀ j, C.stF j = if j = x.h then 1 else A.stF j := fun j => by
    rw [T.st, Z.z.st]
    by_cases e : j = x.h
    · rw [if_pos ⟨hx, e⟩, if_pos e]
    · rw [if_neg (fun h => e h.2), if_neg e]
  have nx : ∀ j, j < n → (f j).o.h ≠ x.h := fun j hj e => by have := (E.dq j hj).hs; rw [e, hx0] at this; cases this
  have cases : ∀ {P : Dq → Nat → Prop}, P ⟨⟨at_, n, 0, x.h, g.pl⟩, 0, [], ob⟩ n → (∀ j, j < n → P (f j) j) → ∀ j, j < n + 1 → P (bm f n ⟨⟨at_, n, 0, x.h, g.pl⟩, 0, [], ob⟩ j) j := fun {P} h1 h2 j hj => by
    by_cases e : j = n
    · rw [e, bf]; exact h1
    · rw [bB f _ e]; exact h2 j (by omega)
  have sums : ∀ F : Dq → Int, qY (fun j => F (bm f n ⟨⟨at_, n, 0, x.h, g.pl⟩, 0, [], ob⟩ j)) (n + 1) = qY (fun j => F (f j)) n + F ⟨⟨at_, n, 0, x.h, g.pl⟩, 0, [], ob⟩ := fun F => by
    show qY _ n + F (bm f n _ n) = _
    rw [bf, BO (h := fun j => F (f j)) fun i hi => by rw [bB f _ (by omega)]]
  refine ⟨⟨T.gi, ⟨lo0, by rw [T.rl, off.rl]; exact hi0⟩, by omega, ?_, ?_, ?_, ?_, fun i j hi hj hij => ?_, ?_, ?_, ?_, ?_, ?_⟩, eS.2, by rw [eS.1]; omega, fun i hi => ?_, ?_, ?_⟩
  · refine cases (P := fun x _ => DQ C x.o x.t x.xs) ?_ fun j hj => ?_
    · have s8 : au (opC x.h) = 8 := by rw [hc]; rfl
      refine ⟨?_, ?_, ?_, rfl, (show (0 : Int) ≤ 0 ∧ (0 : Int) ≤ 1000000 by decide), ?_, by show ((0 : Nat) : Int) ≤ au (opC x.h); omega, fun j hj => (by cases hj)⟩
      · show C.ao (dw at_ n 0) = 0
        rw [rC _ (by unfold dw; omega) (by unfold dw; omega)]; exact M.rz _ (by unfold dw; omega)
      · show C.ao (dw at_ n 1) = 0
        rw [rC _ (by unfold dw; omega) (by unfold dw; omega)]; exact M.rz _ (by unfold dw; omega)
      · show C.ao (dw at_ n 2) = x.h
        rw [T.rf, if_pos rfl]
      · show C.stF x.h = 1
        rw [sC, if_pos rfl]
    · have wj := E.ow j hj
      have aj := E.oa j hj
      refine (E.dq j hj).move (fun k k0 k1 => ?_) ?_ (fun i => ?_)
      · rw [aj, wj]
        exact rC _ (by unfold dw; omega) (by unfold dw; omega)
      · rw [sC, if_neg (nx j hj)]; exact (E.dq j hj).hs
      · rw [T.lf]
        refine kr off.wd ?_
        rw [Z.z.st, if_neg (fun h => nx j hj h.2)]
  · exact cases (P := fun x _ => x.o.at_ = at_) rfl E.oa
  · exact cases (P := fun x j => x.o.work = j) rfl E.ow
  · exact cases (P := fun x _ => x.o.pl = g.pl) rfl E.op
  · by_cases ei : i = n
    · have ej : j ≠ n := by omega
      rw [ei, bf, bB f _ ej]; exact fun e => nx j (by omega) e.symm
    · by_cases ej : j = n
      · rw [ej, bf, bB f _ ei]; exact nx i (by omega)
      · rw [bB f _ ei, bB f _ ej]; exact E.ne i j (by omega) (by omega) hij
  · rw [sums fun x => au (opC x.o.h), T.nL, Z.z.nL, if_pos hx, E.nL]
    show _ = _ + au (opC x.h) + ex; rw [hc]; omega
  · exact E.ex0
  · exact cases (P := fun x j => (((fun _ => []) : Int → List (Int × Int)) (j : Int)).length ≤ opC x.o.h) (by show ((0 : Nat) : Int) ≤ opC x.h; rw [hc]; decide) fun j hj => E.ll j hj
  · refine cases (P := fun x _ => x.t ≤ C.aD) (by show (0 : Int) ≤ C.aD; omega) fun j hj => ?_
    have := E.tu j hj; omega
  · rw [sums fun x => 2 * au (opC x.o.h) - 8]
    have := E.cv
    have s8 : au (opC x.h) = 8 := by rw [hc]; rfl
    show S'.cv ≤ _ + (2 * au (opC x.h) - 8) + ex
    rw [eS.1, s8]; omega
  · rw [rC _ (by omega) (by unfold dw; omega)]; exact M.rz i (by omega)
  · exact cases (P := fun x _ => x.xs = [] ∧ x.t = 0 ∧ x.o.b = 0 ∧ opC x.o.h = 0) ⟨rfl, rfl, rfl, hc⟩ M.em
  · omega
end
noncomputable def qT (p0 : Value) (p1 : Option Addr) : Tree :=
 .act (opS Tryz.prog (.call { callee := .value (.tmp 0), args := #[(.tmp 1)], argTypes := #[aK] }) aF [p0, (.pointer p1)]) .unit fun _ =>
 .ret (.bool true)
theorem tT {p0 : Value} {p1 : Option Addr} : SpT jH #[p0, (.pointer p1)] (qT p0 p1) := spT bU Tryz.func152 (by kernel_rfl)
noncomputable def yI (p0 : Int) (p1 : Option Addr) (p2 : Int) (p3 : Int) (p4 : Int) (p5 : Int) : Tree :=
 .dk (.cells #[(.int .i64 p0), (.pointer p1), (.int .i64 p2), (.int .i64 p3), (.int .i64 p4), (.int .i64 p5), (.slice none 0 0), .nilIface, (.bool false), (.int .i64 0), (.int .i64 0), (.int .i64 0), (.bool false)] ab) fun x21 =>
 .qB (.cells #[(.func (.func eu) #[(.pointer (some x21))] #[]), (.func (.func ed) #[(.pointer (some x21))] #[]), (.func (.func dX) #[(.pointer (some x21))] #[]), (.func (.func dA) #[(.pointer (some x21))] #[]), (.func (.func dS) #[(.pointer (some x21))] #[]), (.func (.func dW) #[(.pointer (some x21))] #[]), (.func (.func dZ) #[(.pointer (some x21))] #[])] az) 7 fun x37 =>
 lkN (some x21) fun x38 =>
 .st (x38.add 6) (.slice x37.a x37.len x37.cap) <|
 bif (decide ((p4 : Int) > 0)) then (
 lkN (some x21) fun x44 =>
 .ld (x44.add 6) .slice fun x46 =>
 .qB (.cells #[(.func (.func dv) #[(.pointer (some x21))] #[]), (.func (.func dU) #[(.pointer (some x21))] #[]), (.func (.func eZ) #[(.pointer (some x21))] #[]), (.func (.func fc) #[(.pointer (some x21))] #[])] az) 4 fun x55 =>
 .act (opS Tryz.prog (.call { callee := .builtin .append, args := #[(.tmp 0), (.tmp 1)], argTypes := #[aY, aY] }) aY [(.slice x46.a x46.len x46.cap), (.slice x55.a x55.len x55.cap)]) (.one (.leaf .slice)) fun x56 =>
 lkN (some x21) fun x57 =>
 .st (x57.add 6) (.slice x56.a x56.len x56.cap) <|
 lkN (some x21) fun x61 =>
 .ld (x61.add 6) .slice fun x63 =>
 .qB (.cells #[(.func (.func bE) #[(.pointer (some x21))] #[])] az) 1 fun x66 =>
 .act (opS Tryz.prog (.call { callee := .builtin .append, args := #[(.tmp 0), (.tmp 1)], argTypes := #[aY, aY] }) aY [(.slice x63.a x63.len x63.cap), (.slice x66.a x66.len x66.cap)]) (.one (.leaf .slice)) fun x67 =>
 lkN (some x21) fun x68 =>
 .st (x68.add 6) (.slice x67.a x67.len x67.cap) <|
 .ret (.pointer (some x21)))
 else (
 lkN (some x21) fun x61 =>
 .ld (x61.add 6) .slice fun x63 =>
 .qB (.cells #[(.func (.func bE) #[(.pointer (some x21))] #[])] az) 1 fun x66 =>
 .act (opS Tryz.prog (.call { callee := .builtin .append, args := #[(.tmp 0), (.tmp 1)], argTypes := #[aY, aY] }) aY [(.slice x63.a x63.len x63.cap), (.slice x66.a x66.len x66.cap)]) (.one (.leaf .slice)) fun x67 =>
 lkN (some x21) fun x68 =>
 .st (x68.add 6) (.slice x67.a x67.len x67.cap) <|
 .ret (.pointer (some x21)))
theorem yv {p0 : Int} {p1 : Option Addr} {p2 : Int} {p3 : Int} {p4 : Int} {p5 : Int} : SpT jo #[(.int .i64 p0), (.pointer p1), (.int .i64 p2), (.int .i64 p3), (.int .i64 p4), (.int .i64 p5)] (yI p0 p1 p2 p3 p4 p5) := spT bU Tryz.func16 (by kernel_rfl)
noncomputable def n8 (p0 : Option Addr) (p1 : Option Addr) (p2 : Int) : Tree :=
 lkN p0 fun x9 =>
 .ld x9 (.int .i64) fun x11 =>
 lkN p0 fun x13 =>
 .ld (x13.add 3) (.int .i64) fun x15 =>
 .cU lz [(.int .i64 x11), (.int .i64 x15), (.int .i64 p2)] (.one (.leaf (.int .i64))) fun x17 =>
 .call bQ [(.pointer p1), (.int .i64 x17)] (.one (.leaf (.int .i64))) fun x18 =>
 .ret (.int .i64 x18)
theorem qQ {p0 : Option Addr} {p1 : Option Addr} {p2 : Int} : SpT eY #[(.pointer p0), (.pointer p1), (.int .i64 p2)] (n8 p0 p1 p2) := spT bU Tryz.func81 (by kernel_rfl)
noncomputable def nZ (p0 : Option Addr) : Tree :=
 lkN p0 fun x3 =>
 .st (x3.add 6) (.slice none 0 0) <|
 .ret (.tuple #[])
theorem rM {p0 : Option Addr} : SpT fI #[(.pointer p0)] (nZ p0) := spT bU Tryz.func83 (by kernel_rfl)
noncomputable def oV (p0 : Option Addr) (p1 : Int) (p2 : Int) : Tree :=
 lkN p0 fun x9 =>
 .ld (x9.add 1) .ptr fun x11 =>
 lkN p0 fun x13 =>
 .ld (x13.add 2) (.int .i64) fun x15 =>
 .call jc [(.pointer x11), (.int .i64 x15), (.int .i64 p1), (.int .i64 p2)] (.one (.leaf .val)) fun x18 =>
 .look (opS Tryz.prog (.binOp .neq aA (.tmp 0) (.const .nilIface) aA) aO [x18]) (.one (.leaf .bool)) fun x20 =>
 bif x20 then (
 .ret x18)
 else (
 .ret .nilIface)
theorem rX {p0 : Option Addr} {p1 : Int} {p2 : Int} : SpT fG #[(.pointer p0), (.int .i64 p1), (.int .i64 p2)] (oV p0 p1 p2) := spT bU Tryz.func85 (by kernel_rfl)
noncomputable def mX (p0 : Option Addr) : Tree :=
 lkN p0 fun x5 =>
 .ld (x5.add 1) .ptr fun x7 =>
 lkN p0 fun x9 =>
 .ld (x9.add 2) (.int .i64) fun x11 =>
 .call jP [(.pointer x7), (.int .i64 x11)] (.one (.leaf .val)) fun x12 =>
 .look (opS Tryz.prog (.binOp .neq aA (.tmp 0) (.const .nilIface) aA) aO [x12]) (.one (.leaf .bool)) fun x14 =>
 bif x14 then (
 .ret x12)
 else (
 .ret .nilIface)
theorem qg {p0 : Option Addr} : SpT eu #[(.pointer p0)] (mX p0) := spT bU Tryz.func45 (by kernel_rfl)
noncomputable def nm (p0 : Option Addr) : Tree :=
 .dk (.cells #[(.pointer p0)] ae) fun x1 =>
 .ret (.iface fO (.func (.func cY) #[] #[(.pointer (some x1))]))
theorem p8 {p0 : Option Addr} : SpT ed #[(.pointer p0)] (nm p0) := spT bU Tryz.func46 (by kernel_rfl)
noncomputable def lL (p0 : Option Addr) (c0 : Addr) : Tree :=
 .ld c0 .ptr fun x3 =>
 .ld c0 .ptr fun x4 =>
 .call eY [(.pointer x4), (.pointer p0), (.int .i64 0)] (.one (.leaf (.int .i64))) fun x6 =>
 .check (ldS c0) (.pointer x3) <|
 lkN x3 fun x7 =>
 .st (x7.add 9) (.int .i64 x6) <|
 .ret (.tuple #[])
theorem oE {p0 : Option Addr} {c0 : Addr} : SpT cY #[(.pointer p0), (.pointer (some c0))] (lL p0 c0) := spT bU Tryz.func80 (by kernel_rfl)
noncomputable def mR (p0 : Option Addr) : Tree :=
 .dk (.cells #[(.pointer p0)] ae) fun x1 =>
 .ret (.iface fO (.func (.func cZ) #[] #[(.pointer (some x1))]))
theorem qt {p0 : Option Addr} : SpT dX #[(.pointer p0)] (mR p0) := spT bU Tryz.func47 (by kernel_rfl)
noncomputable def lB (p0 : Option Addr) (c0 : Addr) : Tree :=
 .ld c0 .ptr fun x3 =>
 .ld c0 .ptr fun x6 =>
 lkN x6 fun x7 =>
 .ld (x7.add 9) (.int .i64) fun x9 =>
 .call eY [(.pointer x3), (.pointer p0), (.int .i64 1)] (.one (.leaf (.int .i64))) fun x5 =>
 .check (ldS (x7.add 9)) (.int .i64 x9) <|
 .check (nck x6) (.pointer (some x7)) <|
 .check (ldS c0) (.pointer x6) <|
 bif (decide ((x5 : Int) ≤ x9)) then (
 .ld c0 .ptr fun x11 =>
 .call fI [(.pointer x11)] .unit fun _ =>
 .ret (.tuple #[]))
 else (
 .ret (.tuple #[]))
theorem oM {p0 : Option Addr} {c0 : Addr} : SpT cZ #[(.pointer p0), (.pointer (some c0))] (lB p0 c0) := spT bU Tryz.func82 (by kernel_rfl)
noncomputable def lK (p0 : Option Addr) : Tree :=
 .dk (.cells #[(.pointer p0)] ae) fun x1 =>
 .ret (.iface fO (.func (.func cG) #[] #[(.pointer (some x1))]))
theorem oF {p0 : Option Addr} : SpT dA #[(.pointer p0)] (lK p0) := spT bU Tryz.func48 (by kernel_rfl)
noncomputable def kz (p0 : Option Addr) (c0 : Addr) : Tree :=
 .ld c0 .ptr fun x3 =>
 .ld c0 .ptr fun x4 =>
 .call eY [(.pointer x4), (.pointer p0), (.int .i64 2)] (.one (.leaf (.int .i64))) fun x6 =>
 .check (ldS c0) (.pointer x3) <|
 lkN x3 fun x7 =>
 .st (x7.add 10) (.int .i64 x6) <|
 .ret (.tuple #[])
theorem mN {p0 : Option Addr} {c0 : Addr} : SpT cG #[(.pointer p0), (.pointer (some c0))] (kz p0 c0) := spT bU Tryz.func84 (by kernel_rfl)
noncomputable def nv (p0 : Option Addr) : Tree :=
 lkN p0 fun x5 =>
 .ld (x5.add 10) (.int .i64) fun x7 =>
 .call fG [(.pointer p0), (.int .i64 0), (.int .i64 x7)] (.one (.leaf .val)) fun x8 =>
 .ret x8
theorem qb {p0 : Option Addr} : SpT dS #[(.pointer p0)] (nv p0) := spT bU Tryz.func49 (by kernel_rfl)
noncomputable def nh (p0 : Option Addr) : Tree :=
 .dk (.cells #[(.pointer p0)] ae) fun x1 =>
 .ld x1 .ptr fun x3 =>
 .ld x1 .ptr fun x4 =>
 lkN x4 fun x5 =>
 .ld (x5.add 10) (.int .i64) fun x7 =>
 .call fG [(.pointer x3), (.int .i64 0), (.int .i64 x7)] (.one (.leaf .val)) fun x8 =>
 .look (opS Tryz.prog (.binOp .eql ar (.tmp 0) (.const .nilIface) ar) aO [x8]) (.one (.leaf .bool)) fun x9 =>
 bif x9 then (
 .ret .nilIface)
 else (
 .ret (.iface fO (.func (.func cV) #[] #[(.pointer (some x1))])))
theorem qi {p0 : Option Addr} : SpT dW #[(.pointer p0)] (nh p0) := spT bU Tryz.func50 (by kernel_rfl)
noncomputable def lG (p0 : Option Addr) (c0 : Addr) : Tree :=
 .ld c0 .ptr fun x3 =>
 .ld c0 .ptr fun x6 =>
 lkN x6 fun x7 =>
 .ld (x7.add 10) (.int .i64) fun x9 =>
 .call eY [(.pointer x3), (.pointer p0), (.int .i64 2)] (.one (.leaf (.int .i64))) fun x5 =>
 .check (ldS (x7.add 10)) (.int .i64 x9) <|
 .check (nck x6) (.pointer (some x7)) <|
 .check (ldS c0) (.pointer x6) <|
 bif ((x5 : Int) != x9) then (
 .ld c0 .ptr fun x11 =>
 .call fI [(.pointer x11)] .unit fun _ =>
 .ret (.tuple #[]))
 else (
 .ret (.tuple #[]))
theorem nP {p0 : Option Addr} {c0 : Addr} : SpT cV #[(.pointer p0), (.pointer (some c0))] (lG p0 c0) := spT bU Tryz.func86 (by kernel_rfl)
noncomputable def mO (p0 : Option Addr) : Tree :=
 .dk (.cells #[(.pointer p0)] ae) fun x1 =>
 .ret (.iface fO (.func (.func cT) #[] #[(.pointer (some x1))]))
theorem qv {p0 : Option Addr} : SpT dZ #[(.pointer p0)] (mO p0) := spT bU Tryz.func51 (by kernel_rfl)
noncomputable def lS (p0 : Option Addr) (c0 : Addr) : Tree :=
 .ld c0 .ptr fun x3 =>
 .ld c0 .ptr fun x5 =>
 lkN x5 fun x6 =>
 .ld (x6.add 10) (.int .i64) fun x8 =>
 .ld c0 .ptr fun x9 =>
 lkN x9 fun x10 =>
 .ld (x10.add 10) (.int .i64) fun x12 =>
 .ld c0 .ptr fun x13 =>
 lkN x13 fun x14 =>
 .ld (x14.add 9) (.int .i64) fun x16 =>
 .call mj [(.int .i64 x12), (.int .i64 x16)] (.one (.leaf (.int .i64))) fun x17 =>
 .check (ldS (x6.add 10)) (.int .i64 x8) <|
 .check (nck x5) (.pointer (some x6)) <|
 .check (ldS c0) (.pointer x5) <|
 .check (ldS c0) (.pointer x3) <|
 .call dK [(.pointer p0), (.int .i64 x8), (.int .i64 x17)] (.one (.leaf (.int .i64))) fun x18 =>
 .check (ldS c0) (.pointer x3) <|
 lkN x3 fun x19 =>
 .st (x19.add 11) (.int .i64 x18) <|
 .ret (.tuple #[])
theorem oA {p0 : Option Addr} {c0 : Addr} : SpT cT #[(.pointer p0), (.pointer (some c0))] (lS p0 c0) := spT bU Tryz.func87 (by kernel_rfl)
noncomputable def mS (p0 : Option Addr) : Tree :=
 .dk (.cells #[(.pointer p0)] ae) fun x1 =>
 .ret (.iface fO (.func (.func ct) #[] #[(.pointer (some x1))]))
theorem qH {p0 : Option Addr} : SpT dv #[(.pointer p0)] (mS p0) := spT bU Tryz.func52 (by kernel_rfl)
noncomputable def lI (p0 : Option Addr) (c0 : Addr) : Tree :=
 .ld c0 .ptr fun x3 =>
 .ld c0 .ptr fun x6 =>
 lkN x6 fun x7 =>
 .ld (x7.add 9) (.int .i64) fun x9 =>
 .call eY [(.pointer x3), (.pointer p0), (.int .i64 0)] (.one (.leaf (.int .i64))) fun x5 =>
 .check (ldS (x7.add 9)) (.int .i64 x9) <|
 .check (nck x6) (.pointer (some x7)) <|
 .check (ldS c0) (.pointer x6) <|
 bif ((x5 : Int) != x9) then (
 .ld c0 .ptr fun x11 =>
 .call fI [(.pointer x11)] .unit fun _ =>
 .ret (.tuple #[]))
 else (
 .ret (.tuple #[]))
theorem og {p0 : Option Addr} {c0 : Addr} : SpT ct #[(.pointer p0), (.pointer (some c0))] (lI p0 c0) := spT bU Tryz.func88 (by kernel_rfl)
noncomputable def m8 (p0 : Option Addr) : Tree :=
 lkN p0 fun x5 =>
 .ld (x5.add 11) (.int .i64) fun x7 =>
 .call fG [(.pointer p0), (.int .i64 1), (.int .i64 x7)] (.one (.leaf .val)) fun x8 =>
 .ret x8
theorem qD {p0 : Option Addr} : SpT dU #[(.pointer p0)] (m8 p0) := spT bU Tryz.func53 (by kernel_rfl)
noncomputable def om (p0 : Option Addr) : Tree :=
 lkN p0 fun x5 =>
 .ld (x5.add 11) (.int .i64) fun x7 =>
 .call fG [(.pointer p0), (.int .i64 1), (.int .i64 x7)] (.one (.leaf .val)) fun x8 =>
 .look (opS Tryz.prog (.binOp .eql ar (.tmp 0) (.const .nilIface) ar) aO [x8]) (.one (.leaf .bool)) fun x9 =>
 bif x9 then (
 .ret .nilIface)
 else (
 .call dv [(.pointer p0)] (.one (.leaf .val)) fun x11 =>
 .ret x11)
theorem ry {p0 : Option Addr} : SpT eZ #[(.pointer p0)] (om p0) := spT bU Tryz.func54 (by kernel_rfl)
noncomputable def ox (p0 : Option Addr) : Tree :=
 .dk (.cells #[(.pointer p0)] ae) fun x1 =>
 .ret (.iface fO (.func (.func dh) #[] #[(.pointer (some x1))]))
theorem rE {p0 : Option Addr} : SpT fc #[(.pointer p0)] (ox p0) := spT bU Tryz.func55 (by kernel_rfl)
noncomputable def mh (p0 : Option Addr) (c0 : Addr) : Tree :=
 .ld c0 .ptr fun x4 =>
 lkN x4 fun x5 =>
 .ld (x5.add 11) (.int .i64) fun x7 =>
 .ld c0 .ptr fun x8 =>
 lkN x8 fun x9 =>
 .ld (x9.add 5) (.int .i64) fun x11 =>
 .ld c0 .ptr fun x13 =>
 lkN x13 fun x14 =>
 .ld (x14.add 4) (.int .i64) fun x16 =>
 .call dK [(.pointer p0), (.int .i64 x7), (.int .i64 x11)] (.one (.leaf (.int .i64))) fun x12 =>
 .check (ldS (x14.add 4)) (.int .i64 x16) <|
 .check (nck x13) (.pointer (some x14)) <|
 .check (ldS c0) (.pointer x13) <|
 .call uU [(.int .i64 x12), (.int .i64 x16)] (.one (.leaf .bool)) fun x17 =>
 bif (!x17) then (
 .ld c0 .ptr fun x19 =>
 .call fI [(.pointer x19)] .unit fun _ =>
 .ret (.tuple #[]))
 else (
 .ret (.tuple #[]))
theorem pa {p0 : Option Addr} {c0 : Addr} : SpT dh #[(.pointer p0), (.pointer (some c0))] (mh p0 c0) := spT bU Tryz.func89 (by kernel_rfl)
noncomputable def mQ (p0 : Option Addr) : Tree :=
 .dk (.cells #[(.pointer p0)] ae) fun x1 =>
 .ret (.iface fO (.func (.func cW) #[] #[(.pointer (some x1))]))
theorem qx {p0 : Option Addr} : SpT bE #[(.pointer p0)] (mQ p0) := spT bU Tryz.func56 (by kernel_rfl)
noncomputable def lJ (p0 : Option Addr) (c0 : Addr) : Tree :=
 .ld c0 .ptr fun x3 =>
 .ld c0 .ptr fun x5 =>
 lkN x5 fun x6 =>
 .ld x6 (.int .i64) fun x8 =>
 .ld c0 .ptr fun x9 =>
 lkN x9 fun x10 =>
 .ld (x10.add 3) (.int .i64) fun x12 =>
 .cU lz [(.int .i64 x8), (.int .i64 x12), (.int .i64 0)] (.one (.leaf (.int .i64))) fun x13 =>
 .ld c0 .ptr fun x14 =>
 lkN x14 fun x15 =>
 .ld (x15.add 9) (.int .i64) fun x17 =>
 .ld c0 .ptr fun x18 =>
 lkN x18 fun x19 =>
 .ld (x19.add 9) (.int .i64) fun x21 =>
 .call cE [(.pointer p0), (.int .i64 x13), (.int .i64 x17), (.int .i64 (w64 (x21 + 1)))] (.one (.leaf .bool)) fun x23 =>
 .check (ldS c0) (.pointer x3) <|
 lkN x3 fun x24 =>
 .st (x24.add 12) (.bool x23) <|
 .ret (.tuple #[])
theorem nQ {p0 : Option Addr} {c0 : Addr} : SpT cW #[(.pointer p0), (.pointer (some c0))] (lJ p0 c0) := spT bU Tryz.func90 (by kernel_rfl)
@[reducible] def hY : List Sh1 := [(.leaf .val)]
noncomputable def gK (p0 : Option Addr) (y1 : HL Sh1.T hY) : Tree :=
 lkN p0 fun x6 =>
 .ld (x6.add 6) .slice fun x8 =>
 bif (decide ((((x8.len : Nat) : Int) : Int) > 0)) then (
 lkN p0 fun x12 =>
 .ld (x12.add 6) .slice fun x14 =>
 .look (opS Tryz.prog (.indexAddr aY (.tmp 0) (.const (.int .i64 0))) aF [(.slice x14.a x14.len x14.cap)]) (.one (.leaf .addr)) fun x15 =>
 .ld x15 .val fun x16 =>
 lkN p0 fun x19 =>
 .ld (x19.add 6) .slice fun x21 =>
 .look (opS Tryz.prog (.slice aY (.tmp 0) (some (.const (.int .i64 1))) none none) aY [(.slice x21.a x21.len x21.cap)]) (.one (.leaf .slice)) fun x22 =>
 lkN p0 fun x23 =>
 .st (x23.add 6) (.slice x22.a x22.len x22.cap) <|
 .act (opS Tryz.prog (.call { callee := .value (.tmp 0), args := #[], argTypes := #[] }) ar [x16]) (.one (.leaf .val)) fun x26 =>
 .look (opS Tryz.prog (.binOp .neq ar (.tmp 0) (.const .nilIface) ar) aO [x26]) (.one (.leaf .bool)) fun x28 =>
 bif x28 then (
 .ret x26)
 else (
 .again 64 [y1.1]))
 else (
 lkN p0 fun x31 =>
 .ld (x31.add 8) .bool fun x33 =>
 bif x33 then (
 .ret .nilIface)
 else (
 lkN p0 fun x35 =>
 .st (x35.add 8) (.bool true) <|
 lkN p0 fun x38 =>
 .ld (x38.add 1) .ptr fun x40 =>
 lkN p0 fun x42 =>
 .ld (x42.add 2) (.int .i64) fun x44 =>
 .call jS [(.pointer x40), (.int .i64 x44)] (.one (.leaf .val)) fun x45 =>
 .ret x45))
noncomputable def oB (p0 : Option Addr) : Tree :=
 .loop 64 hY [.nilIface] (gK p0)
theorem r8 {p0 : Option Addr} : SpT nY #[(.pointer p0)] (oB p0) := spT bU Tryz.func57 (by kernel_rfl)
noncomputable def oT (p0 : Option Addr) (p1 : Option Addr) : Tree :=
 lkN p0 fun x6 =>
 .ld (x6.add 7) .val fun x8 =>
 .look (opS Tryz.prog (.binOp .eql ar (.tmp 0) (.const .nilIface) ar) aO [x8]) (.one (.leaf .bool)) fun x9 =>
 bif x9 then (
 lkN p0 fun x12 =>
 .ld (x12.add 8) .bool fun x14 =>
 bif (!x14) then (
 .call nY [(.pointer p0)] (.one (.leaf .val)) fun x19 =>
 lkN p0 fun x20 =>
 .act (opS Tryz.prog (.store ar (.tmp 0) (.tmp 1)) aF [(.pointer (some (x20.add 7))), x19]) .unit fun _ =>
 lkN p0 fun x23 =>
 .ld (x23.add 7) .val fun x25 =>
 .look (opS Tryz.prog (.binOp .neq ar (.tmp 0) (.const .nilIface) ar) aO [x25]) (.one (.leaf .bool)) fun x26 =>
 bif x26 then (
 lkN p0 fun x29 =>
 .ld (x29.add 7) .val fun x31 =>
 .act (opS Tryz.prog (.call { callee := .invoke (.tmp 0) "Step", args := #[(.tmp 1)], argTypes := #[aK] }) aO [x31, (.pointer p1)]) (.one (.leaf .bool)) fun x33 =>
 bif x33 then (
 lkN p0 fun x36 =>
 .st (x36.add 7) .nilIface <|
 lkN p0 fun x39 =>
 .ld (x39.add 7) .val fun x41 =>
 .look (opS Tryz.prog (.binOp .eql ar (.tmp 0) (.const .nilIface) ar) aO [x41]) (.one (.leaf .bool)) fun x42 =>
 bif x42 then (
 lkN p0 fun x45 =>
 .ld (x45.add 8) .bool fun x47 =>
 .ret (.bool x47))
 else (
 .ret (.bool false)))
 else (
 lkN p0 fun x39 =>
 .ld (x39.add 7) .val fun x41 =>
 .look (opS Tryz.prog (.binOp .eql ar (.tmp 0) (.const .nilIface) ar) aO [x41]) (.one (.leaf .bool)) fun x42 =>
 bif x42 then (
 lkN p0 fun x45 =>
 .ld (x45.add 8) .bool fun x47 =>
 .ret (.bool x47))
 else (
 .ret (.bool false))))
 else (
 lkN p0 fun x39 =>
 .ld (x39.add 7) .val fun x41 =>
 .look (opS Tryz.prog (.binOp .eql ar (.tmp 0) (.const .nilIface) ar) aO [x41]) (.one (.leaf .bool)) fun x42 =>
 bif x42 then (
 lkN p0 fun x45 =>
 .ld (x45.add 8) .bool fun x47 =>
 .ret (.bool x47))
 else (
 .ret (.bool false))))
 else (
 lkN p0 fun x23 =>
 .ld (x23.add 7) .val fun x25 =>
 .look (opS Tryz.prog (.binOp .neq ar (.tmp 0) (.const .nilIface) ar) aO [x25]) (.one (.leaf .bool)) fun x26 =>
 bif x26 then (
 lkN p0 fun x29 =>
 .ld (x29.add 7) .val fun x31 =>
 .act (opS Tryz.prog (.call { callee := .invoke (.tmp 0) "Step", args := #[(.tmp 1)], argTypes := #[aK] }) aO [x31, (.pointer p1)]) (.one (.leaf .bool)) fun x33 =>
 bif x33 then (
 lkN p0 fun x36 =>
 .st (x36.add 7) .nilIface <|
 lkN p0 fun x39 =>
 .ld (x39.add 7) .val fun x41 =>
 .look (opS Tryz.prog (.binOp .eql ar (.tmp 0) (.const .nilIface) ar) aO [x41]) (.one (.leaf .bool)) fun x42 =>
 bif x42 then (
 lkN p0 fun x45 =>
 .ld (x45.add 8) .bool fun x47 =>
 .ret (.bool x47))
 else (
 .ret (.bool false)))
 else (
 lkN p0 fun x39 =>
 .ld (x39.add 7) .val fun x41 =>
 .look (opS Tryz.prog (.binOp .eql ar (.tmp 0) (.const .nilIface) ar) aO [x41]) (.one (.leaf .bool)) fun x42 =>
 bif x42 then (
 lkN p0 fun x45 =>
 .ld (x45.add 8) .bool fun x47 =>
 .ret (.bool x47))
 else (
 .ret (.bool false))))
 else (
 lkN p0 fun x39 =>
 .ld (x39.add 7) .val fun x41 =>
 .look (opS Tryz.prog (.binOp .eql ar (.tmp 0) (.const .nilIface) ar) aO [x41]) (.one (.leaf .bool)) fun x42 =>
 bif x42 then (
 lkN p0 fun x45 =>
 .ld (x45.add 8) .bool fun x47 =>
 .ret (.bool x47))
 else (
 .ret (.bool false)))))
 else (
 lkN p0 fun x23 =>
 .ld (x23.add 7) .val fun x25 =>
 .look (opS Tryz.prog (.binOp .neq ar (.tmp 0) (.const .nilIface) ar) aO [x25]) (.one (.leaf .bool)) fun x26 =>
 bif x26 then (
 lkN p0 fun x29 =>
 .ld (x29.add 7) .val fun x31 =>
 .act (opS Tryz.prog (.call { callee := .invoke (.tmp 0) "Step", args := #[(.tmp 1)], argTypes := #[aK] }) aO [x31, (.pointer p1)]) (.one (.leaf .bool)) fun x33 =>
 bif x33 then (
 lkN p0 fun x36 =>
 .st (x36.add 7) .nilIface <|
 lkN p0 fun x39 =>
 .ld (x39.add 7) .val fun x41 =>
 .look (opS Tryz.prog (.binOp .eql ar (.tmp 0) (.const .nilIface) ar) aO [x41]) (.one (.leaf .bool)) fun x42 =>
 bif x42 then (
 lkN p0 fun x45 =>
 .ld (x45.add 8) .bool fun x47 =>
 .ret (.bool x47))
 else (
 .ret (.bool false)))
 else (
 lkN p0 fun x39 =>
 .ld (x39.add 7) .val fun x41 =>
 .look (opS Tryz.prog (.binOp .eql ar (.tmp 0) (.const .nilIface) ar) aO [x41]) (.one (.leaf .bool)) fun x42 =>
 bif x42 then (
 lkN p0 fun x45 =>
 .ld (x45.add 8) .bool fun x47 =>
 .ret (.bool x47))
 else (
 .ret (.bool false))))
 else (
 lkN p0 fun x39 =>
 .ld (x39.add 7) .val fun x41 =>
 .look (opS Tryz.prog (.binOp .eql ar (.tmp 0) (.const .nilIface) ar) aO [x41]) (.one (.leaf .bool)) fun x42 =>
 bif x42 then (
 lkN p0 fun x45 =>
 .ld (x45.add 8) .bool fun x47 =>
 .ret (.bool x47))
 else (
 .ret (.bool false))))
theorem ri {p0 : Option Addr} {p1 : Option Addr} : SpT gI #[(.pointer p0), (.pointer p1)] (oT p0 p1) := spT bU Tryz.func21 (by kernel_rfl)
noncomputable def jU (p0 : Option Addr) : Tree :=
 lkN p0 fun x5 =>
 .ld (x5.add 12) .bool fun x7 =>
 bif (!x7) then (
 .ret (.tuple #[(.int .i64 0), (.bool false)]))
 else (
 lkN p0 fun x11 =>
 .ld (x11.add 7) .val fun x13 =>
 .look (opS Tryz.prog (.binOp .neq ar (.tmp 0) (.const .nilIface) ar) aO [x13]) (.one (.leaf .bool)) fun x14 =>
 bif x14 then (
 .ret (.tuple #[(.int .i64 0), (.bool false)]))
 else (
 lkN p0 fun x18 =>
 .ld (x18.add 8) .bool fun x20 =>
 bif (!x20) then (
 .ret (.tuple #[(.int .i64 0), (.bool false)]))
 else (
 lkN p0 fun x24 =>
 .ld (x24.add 11) (.int .i64) fun x26 =>
 .ret (.tuple #[(.int .i64 x26), (.bool true)]))))
theorem kc {p0 : Option Addr} : SpT dy #[(.pointer p0)] (jU p0) := spT bU Tryz.func18 (by kernel_rfl)
def lA (f : FuncId) (c : Nat) : Value := .iface fO (.func (.func f) #[] #[(.pointer (some ⟨c, 0, none⟩))])
theorem Kd (f : Value) (p : Option Addr) : opS Tryz.prog (.call { callee := .invoke (.tmp 0) "Step", args := #[(.tmp 1)], argTypes := #[aK] }) aO [(.iface fO f), (.pointer p)] = .pure (.enter jH [f, .pointer p].toArray) := by kernel_rfl
theorem GC (a p : Option Addr) : opS Tryz.prog (.call { callee := .value (.tmp 0), args := #[(.tmp 1)], argTypes := #[aK] }) aF [(.func (.func cY) #[] #[(.pointer a)]), (.pointer p)] = .pure (.enter cY [.pointer p, .pointer a].toArray) := by kernel_rfl
theorem HN (a p : Option Addr) : opS Tryz.prog (.call { callee := .value (.tmp 0), args := #[(.tmp 1)], argTypes := #[aK] }) aF [(.func (.func cZ) #[] #[(.pointer a)]), (.pointer p)] = .pure (.enter cZ [.pointer p, .pointer a].toArray) := by kernel_rfl
theorem Cz (a p : Option Addr) : opS Tryz.prog (.call { callee := .value (.tmp 0), args := #[(.tmp 1)], argTypes := #[aK] }) aF [(.func (.func cG) #[] #[(.pointer a)]), (.pointer p)] = .pure (.enter cG [.pointer p, .pointer a].toArray) := by kernel_rfl
theorem GB (a p : Option Addr) : opS Tryz.prog (.call { callee := .value (.tmp 0), args := #[(.tmp 1)], argTypes := #[aK] }) aF [(.func (.func cV) #[] #[(.pointer a)]), (.pointer p)] = .pure (.enter cV [.pointer p, .pointer a].toArray) := by kernel_rfl
theorem GX (a p : Option Addr) : opS Tryz.prog (.call { callee := .value (.tmp 0), args := #[(.tmp 1)], argTypes := #[aK] }) aF [(.func (.func cT) #[] #[(.pointer a)]), (.pointer p)] = .pure (.enter cT [.pointer p, .pointer a].toArray) := by kernel_rfl
theorem GK (a p : Option Addr) : opS Tryz.prog (.call { callee := .value (.tmp 0), args := #[(.tmp 1)], argTypes := #[aK] }) aF [(.func (.func ct) #[] #[(.pointer a)]), (.pointer p)] = .pure (.enter ct [.pointer p, .pointer a].toArray) := by kernel_rfl
theorem JB (a p : Option Addr) : opS Tryz.prog (.call { callee := .value (.tmp 0), args := #[(.tmp 1)], argTypes := #[aK] }) aF [(.func (.func dh) #[] #[(.pointer a)]), (.pointer p)] = .pure (.enter dh [.pointer p, .pointer a].toArray) := by kernel_rfl
theorem HP (a p : Option Addr) : opS Tryz.prog (.call { callee := .value (.tmp 0), args := #[(.tmp 1)], argTypes := #[aK] }) aF [(.func (.func cW) #[] #[(.pointer a)]), (.pointer p)] = .pure (.enter cW [.pointer p, .pointer a].toArray) := by kernel_rfl
structure Ts where
  at_ : Int
  work : Int
  victim : Int
  before : Int
  keyAt : Int
  leaves : Bool
  t : Int
  h : Int
  v : Int
  ok : Bool
def tsC (x : Ts) (q : Nat) (s : Sl) (m : Value) : List Value := [.int .i64 x.at_, .pointer (some ⟨q, 0, none⟩), .int .i64 x.work, .int .i64 x.victim, .int .i64 x.before, .int .i64 x.keyAt, slV s, m, .bool x.leaves, .int .i64 x.t, .int .i64 x.h, .int .i64 x.v, .bool x.ok]
structure Ts.bnd (x : Ts) : Prop where
  a : 0 ≤ x.at_ ∧ x.at_ ≤ 1000000
  w : 0 ≤ x.victim ∧ x.victim ≤ 1000
section
variable {L : aZ} {R : Value → Heap → Prop} {G : Heap} {l rest : Bl} {A : Ar} {I : List Nat} {q b c : Nat} {s : Sl} {m : Value} {x : Ts}
theorem w9 (i : Nat) {n : Int} {k : Int → Tree} (hb : x.bnd) (hn : 0 ≤ n ∧ n ≤ 10) (hA : Aw I A) (ok : Ok I G (keys l)) (hi : l[i]? = some (b, oc ab (tsC x q s m)))
    (h : Aw I (A.aV (dw x.at_ x.victim n)) → wp Tryz.prog (k (A.ao (dw x.at_ x.victim n))) L (own (A.aV (dw x.at_ x.victim n)) l G) R) :
    wp Tryz.prog (.call eY [.pointer (some ⟨b, 0, none⟩), .pointer (aI I), .int .i64 n] (.one (.leaf (.int .i64))) k) L (own A l G) R := by
  refine aR (R0 := fun u H => u = .int .i64 (A.ao (dw x.at_ x.victim n)) ∧ H = own (A.aV (dw x.at_ x.victim n)) l G ∧ Aw I (A.aV (dw x.at_ x.victim n))) ?_ ?_
  · refine qQ fun L => ?_
    unfold n8
    refine aa.2 (aS i (x := x.at_) hA ok rfl hi rfl (aa.2 (aS i (x := x.victim) hA ok rfl hi rfl ?_)))
    refine bc (x := dw x.at_ x.victim n) (yq _ _ _ hb.a hb.w hn _) ?_
    refine uA hA fun hA1 => ?_
    exact ad ⟨rfl, rfl, hA1⟩
  · rintro u H ⟨rfl, rfl, a⟩
    exact ⟨_, rfl, h a⟩
end
noncomputable def yT (p0 : Int) : Tree :=
 .ret (.int .i64 (w64 (10 * (w64 (4 - p0)))))
theorem xG {p0 : Int} : SpT kx #[(.int .i64 p0)] (yT p0) := spT bU Tryz.func78 (by kernel_rfl)
noncomputable def w3 (p0 : Int) : Tree :=
 .dk (.cells #[(.int .i64 p0)] aP) fun x1 =>
 .ret (.func (.func kL) #[] #[(.pointer (some x1))])
theorem xq {p0 : Int} : SpT nG #[(.int .i64 p0)] (w3 p0) := spT bU Tryz.func103 (by kernel_rfl)
noncomputable def uj (p0 : Int) (c0 : Addr) : Tree :=
 .ld c0 (.int .i64) fun x4 =>
 .call kx [(.int .i64 p0)] (.one (.leaf (.int .i64))) fun x6 =>
 .check (ldS c0) (.int .i64 x4) <|
 .look (opS Tryz.prog (.binOp .shr aP (.tmp 0) (.tmp 1) aP) aP [(.int .i64 x4), (.int .i64 x6)]) (.one (.leaf (.int .i64))) fun x7 =>
 .ret (.int .i64 (gO x7 1023))
theorem vE {p0 : Int} {c0 : Addr} : SpT kL #[(.int .i64 p0), (.pointer (some c0))] (uj p0 c0) := spT bU Tryz.func120 (by kernel_rfl)
@[reducible] def lu : List Sh1 := [(.leaf .bool), (.leaf .bool), (.leaf (.int .i64))]
noncomputable def kN (p0 : Int) (x8 : Value) (y1 : HL Sh1.T lu) : Tree :=
 bif (decide ((y1.2.2.1 : Int) < 5)) then (
 .act (opS Tryz.prog (.call { callee := .value (.tmp 0), args := #[(.tmp 1)], argTypes := #[aP] }) aP [x8, (.int .i64 y1.2.2.1)]) (.one (.leaf (.int .i64))) fun x14 =>
 bif (decide ((x14 : Int) > 1000)) then (
 .ret (.bool false))
 else (
 bif y1.2.1 then (
 bif (decide ((x14 : Int) > 0)) then (
 .ret (.bool false))
 else (
 .again 256 [(.bool y1.1), (.bool ((x14 : Int) == 0)), (.int .i64 (w64 (y1.2.2.1 + 1)))]))
 else (
 .again 256 [(.bool y1.1), (.bool ((x14 : Int) == 0)), (.int .i64 (w64 (y1.2.2.1 + 1)))])))
 else (
 .call kx [(.int .i64 (-1))] (.one (.leaf (.int .i64))) fun x28 =>
 .look (opS Tryz.prog (.binOp .shr aP (.tmp 0) (.tmp 1) aP) aP [(.int .i64 p0), (.int .i64 x28)]) (.one (.leaf (.int .i64))) fun x29 =>
 .call kx [(.int .i64 (-1))] (.one (.leaf (.int .i64))) fun x30 =>
 .check (opS Tryz.prog (.binOp .shr aP (.tmp 0) (.tmp 1) aP) aP [(.int .i64 p0), (.int .i64 x28)]) (.int .i64 x29) <|
 .look (opS Tryz.prog (.binOp .shr aP (.const (.int .i64 1125899906842624)) (.tmp 0) aP) aP [(.int .i64 x30)]) (.one (.leaf (.int .i64))) fun x31 =>
 .ret (.bool ((x29 : Int) == x31)))
noncomputable def yP (p0 : Int) : Tree :=
 .call nG [(.int .i64 p0)] (.one (.leaf .val)) fun x8 =>
 .loop 256 lu [(.bool false), (.bool false), (.int .i64 0)] (kN p0 x8)
theorem xD {p0 : Int} : SpT ju #[(.int .i64 p0)] (yP p0) := spT bU Tryz.func68 (by kernel_rfl)
@[reducible] def kP : List Sh1 := [(.leaf (.int .i64))]
noncomputable def kW (x9 : Value) (y1 : HL Sh1.T kP) : Tree :=
 bif (decide ((y1.1 : Int) < 5)) then (
 .act (opS Tryz.prog (.call { callee := .value (.tmp 0), args := #[(.tmp 1)], argTypes := #[aP] }) aP [x9, (.int .i64 y1.1)]) (.one (.leaf (.int .i64))) fun x15 =>
 bif (decide ((x15 : Int) > 0)) then (
 .again 320 [(.int .i64 (w64 (y1.1 + 1)))])
 else (
 .ret (.int .i64 y1.1)))
 else (
 .ret (.int .i64 y1.1))
noncomputable def y8 (p0 : Int) : Tree :=
 .call ju [(.int .i64 p0)] (.one (.leaf .bool)) fun x6 =>
 bif (!x6) then (
 .ret (.int .i64 0))
 else (
 .call nG [(.int .i64 p0)] (.one (.leaf .val)) fun x9 =>
 .loop 320 kP [(.int .i64 0)] (kW x9))
theorem xF {p0 : Int} : SpT mg #[(.int .i64 p0)] (y8 p0) := spT bU Tryz.func77 (by kernel_rfl)
noncomputable def yG (p0 : Int) (p1 : Int) : Tree :=
 .call ju [(.int .i64 p0)] (.one (.leaf .bool)) fun x7 =>
 bif (!x7) then (
 .ret (.bool false))
 else (
 .call ju [(.int .i64 p1)] (.one (.leaf .bool)) fun x11 =>
 bif (!x11) then (
 .ret (.bool false))
 else (
 .call mg [(.int .i64 p0)] (.one (.leaf (.int .i64))) fun x16 =>
 .call mg [(.int .i64 p1)] (.one (.leaf (.int .i64))) fun x18 =>
 bif (decide ((x16 : Int) ≤ x18)) then (
 .ret (.bool false))
 else (
 .call mg [(.int .i64 p1)] (.one (.leaf (.int .i64))) fun x22 =>
 .call kx [(.int .i64 (w64 (x22 - 1)))] (.one (.leaf (.int .i64))) fun x24 =>
 .look (opS Tryz.prog (.binOp .shr aP (.tmp 0) (.tmp 1) aP) aP [(.int .i64 p0), (.int .i64 x24)]) (.one (.leaf (.int .i64))) fun x27 =>
 .look (opS Tryz.prog (.binOp .shr aP (.tmp 0) (.tmp 1) aP) aP [(.int .i64 p1), (.int .i64 x24)]) (.one (.leaf (.int .i64))) fun x30 =>
 .ret (.bool ((x27 : Int) == x30)))))
theorem yj {p0 : Int} {p1 : Int} : SpT pN #[(.int .i64 p0), (.int .i64 p1)] (yG p0 p1) := spT bU Tryz.func69 (by kernel_rfl)
noncomputable def yY (p0 : Int) (p1 : Int) : Tree :=
 .call ju [(.int .i64 p0)] (.one (.leaf .bool)) fun x6 =>
 bif (!x6) then (
 .ret (.bool false))
 else (
 .call ju [(.int .i64 p1)] (.one (.leaf .bool)) fun x10 =>
 bif (!x10) then (
 .ret (.bool false))
 else (
 .call pN [(.int .i64 p1), (.int .i64 p0)] (.one (.leaf .bool)) fun x16 =>
 bif x16 then (
 .ret (.bool false))
 else (
 .call pN [(.int .i64 p0), (.int .i64 p1)] (.one (.leaf .bool)) fun x20 =>
 bif x20 then (
 .ret (.bool true))
 else (
 .ret (.bool (decide ((p0 : Int) < p1)))))))
theorem yk {p0 : Int} {p1 : Int} : SpT uU #[(.int .i64 p0), (.int .i64 p1)] (yY p0 p1) := spT bU Tryz.func28 (by kernel_rfl)
def jB (d : Int) : Int := w64 (10 * w64 (4 - d))
def shF (x p : Int) : Int := x.fdiv (2 ^ (min p.toNat 64))
def tg (k d : Int) : Int := gO (shF k (jB d)) 1023
def chkGo (k : Int) : Nat → Int → Bool → Bool
  | 0, _, _ => shF k (jB (-1)) == shF 1125899906842624 (jB (-1))
  | n + 1, i, e => if tg k i > 1000 then false else if e = true ∧ tg k i > 0 then false else chkGo k n (i + 1) (tg k i == 0)
def jQ (k : Int) : Bool := chkGo k 5 0 false
def dpGo (k : Int) : Nat → Int → Int
  | 0, i => i
  | n + 1, i => if tg k i > 0 then dpGo k n (i + 1) else i
def jR (k : Int) : Int := if jQ k = true then dpGo k 5 0 else 0
def uy (a b : Int) : Bool := if jQ a = true then if jQ b = true then if jR a ≤ jR b then false else shF a (jB (w64 (jR b - 1))) == shF b (jB (w64 (jR b - 1))) else false else false
def jb (a b : Int) : Bool := if jQ a = true then if jQ b = true then if uy b a = true then false else if uy a b = true then true else decide (a < b) else false else false
theorem Bh {d : Int} (h : -1 ≤ d ∧ d ≤ 4) : jB d = 10 * (4 - d) := by
  unfold jB
  rw [aE (x := 4 - d) (by omega) (by omega), aE (by omega) (by omega)]
theorem FX (k : Int) : ∀ (n : Nat) (i : Int), i ≤ dpGo k n i ∧ dpGo k n i ≤ i + n
  | 0, i => ⟨Int.le_refl _, by show i ≤ i + ((0 : Nat) : Int); omega⟩
  | n + 1, i => by
    unfold dpGo
    split
    · have := FX k n (i + 1); omega
    · omega
theorem Bt (k : Int) : 0 ≤ jR k ∧ jR k ≤ 5 := by
  unfold jR
  split
  · have := FX k 5 0; omega
  · omega
section
variable {L : aZ} {R : Value → Heap → Prop} {G H : Heap}
theorem Ok0.below {l : Bl} (ok : Ok0 H (keys l)) : H.le (dO l H) := fun b o hb => by
  rw [qR]
  · exact hb
  · intro h; rw [ok.no b h] at hb; cases hb
theorem OV {l : Bl} (i : Nat) {a : Addr} {b n : Nat} {T : TypeId} {c : List Value} {v : Value} {t : Tree} (ok : Ok0 G (keys l)) (ha : a = ⟨b, n, none⟩) (hi : l[i]? = some (b, oc T c)) (hx : c[n]? = some v) (h : wp Tryz.prog t L (dO l G) R) : wp Tryz.prog (.check (ldS a) v t) L (dO l G) R := by
  subst ha
  refine Cw ?_ h
  rw [Heap.cell_of (gE G ok.nd hi), List.getElem?_toArray]; exact hx
theorem vk (d : Int) (H : Heap) : Det Tryz.prog kx [.int .i64 d] H (.int .i64 (jB d)) H := by
  refine xG fun L => ?_
  unfold yT
  exact ad ⟨rfl, rfl⟩
def dC (k : Int) : Obj := oc aP [.int .i64 k]
def dV (q : Nat) : Value := .func (.func kL) #[] #[(.pointer (some ⟨q, 0, none⟩))]
theorem CZ {k : Int} {K : Value → Tree} (h : ∀ q, Ok0 H (keys [(q, dC k)]) → wp Tryz.prog (K (dV q)) L (dO [(q, dC k)] H) R) : wp Tryz.prog (.call nG [.int .i64 k] (.one (.leaf .val)) K) L H R := by
  refine aR (R0 := fun v H' => ∃ q, v = dV q ∧ H' = dO [(q, dC k)] H ∧ Ok0 H (keys [(q, dC k)])) ?_ ?_
  · refine xq fun L => ?_
    unfold w3
    have ok0 : Ok0 H (keys []) := ⟨.nil, fun b h => (by cases h)⟩
    refine tB (l := []) (c := [.int .i64 k]) ok0 fun q ok1 => ?_
    exact ad ⟨q, rfl, rfl, ok1⟩
  · rintro v H' ⟨q, rfl, rfl, o⟩
    exact ⟨_, rfl, h q o⟩
theorem JV (q : Nat) (d : Int) : opS Tryz.prog (.call { callee := .value (.tmp 0), args := #[(.tmp 1)], argTypes := #[aP] }) aP [dV q, .int .i64 d] = .pure (.enter kL [.int .i64 d, .pointer (some ⟨q, 0, none⟩)].toArray) := by
  unfold dV; kernel_rfl
theorem FW {q : Nat} {k d : Int} {K : Int → Tree} (hd : -1 ≤ d ∧ d ≤ 4) (ok : Ok0 H (keys [(q, dC k)])) (h : wp Tryz.prog (K (tg k d)) L (dO [(q, dC k)] H) R) :
    wp Tryz.prog (.act (opS Tryz.prog (.call { callee := .value (.tmp 0), args := #[(.tmp 1)], argTypes := #[aP] }) aP [dV q, .int .i64 d]) (.one (.leaf (.int .i64))) K) L (dO [(q, dC k)] H) R := by
  refine bZ (JV q d) (ax (x := tg k d) (H' := dO [(q, dC k)] H) ?_ h)
  refine vE fun L => ?_
  unfold uj
  refine O6 (l := [(q, dC k)]) (x := k) 0 ok rfl rfl rfl ?_
  refine ax (x := jB d) (vk _ _) ?_
  refine OV (l := [(q, dC k)]) 0 ok rfl rfl rfl ?_
  refine aB (x := shF k (jB d)) (vf (by rw [Bh hd]; omega)) ?_
  exact ad ⟨rfl, rfl⟩
theorem J6 {x p : Int} (hp : 0 ≤ p) {t t' u : TypeId} {K : Int → Tree} (h : wp Tryz.prog (K (shF x p)) L H R) : wp Tryz.prog (.look (opS Tryz.prog (.binOp .shr t (.tmp 0) (.tmp 1) t') u [.int .i64 x, .int .i64 p]) (.one (.leaf (.int .i64))) K) L H R :=
  aB (x := shF x p) (vf hp) h
theorem O5 (u : TypeId) : opS Tryz.prog (.binOp .shr aP (.const (.int .i64 1125899906842624)) (.tmp 0) aP) u [.int .i64 (jB (-1))] = .pure (.value (.int .i64 (shF 1125899906842624 (jB (-1))))) := by kernel_rfl
theorem Iq {k : Int} {q : Nat} (ok : Ok0 H (keys [(q, dC k)])) : ∀ (n : Nat) (i : Int) (y e : Bool), i + n = 5 → 0 ≤ i →
    wp Tryz.prog (.loop 256 lu [.bool y, .bool e, .int .i64 i] (kN k (dV q))) L (dO [(q, dC k)] H) fun v K => v = .bool (chkGo k n i e) ∧ K = H
  | 0, i, y, e, hi, h0 => by
    have end' : ∀ b : Bool, wp Tryz.prog (.ret (.bool b)) L (dO [(q, dC k)] H) fun v K => v = .bool b ∧ K = H := fun b => ⟨H, ok.below, rfl, rfl⟩
    refine bT (y, e, i, ()) rfl ?_
    rw [kN]
    refine af (decide_eq_false (show ¬ i < 5 by omega)) ?_
    refine ax (x := jB (-1)) (vk _ _) ?_
    refine J6 (by decide) ?_
    refine ax (x := jB (-1)) (vk _ _) ?_
    refine Bq (vf (by decide)) ?_
    refine aB (x := shF 1125899906842624 (jB (-1))) (O5 _) ?_
    exact end' _
  | n + 1, i, y, e, hi, h0 => by
    have end' : ∀ b : Bool, wp Tryz.prog (.ret (.bool b)) L (dO [(q, dC k)] H) fun v K => v = .bool b ∧ K = H := fun b => ⟨H, ok.below, rfl, rfl⟩
    refine bT (y, e, i, ()) rfl ?_
    rw [kN]
    refine av (decide_eq_true (show i < 5 by omega)) ?_
    refine FW (d := i) (by omega) ok ?_
    have ih := fun e' => Iq (k := k) ok n (i + 1) y e' (by omega) (by omega)
    unfold chkGo
    by_cases h1 : tg k i > 1000
    · refine av (decide_eq_true h1) ?_
      rw [if_pos h1]; exact end' _
    refine af (decide_eq_false h1) ?_
    rw [if_neg h1]
    cases e with
    | true =>
      refine av rfl ?_
      by_cases h2 : tg k i > 0
      · refine av (decide_eq_true h2) ?_
        rw [if_pos ⟨rfl, h2⟩]; exact end' _
      refine af (decide_eq_false h2) (cR ?_)
      rw [if_neg (fun h => h2 h.2), aE (x := i + 1) (by omega) (by omega)]
      exact ih _
    | false =>
      refine af rfl (cR ?_)
      rw [if_neg (fun h => (by cases h.1)), aE (x := i + 1) (by omega) (by omega)]
      exact ih _
theorem si (k : Int) (H : Heap) : Det Tryz.prog ju [.int .i64 k] H (.bool (jQ k)) H := by
  refine xD fun L => ?_
  unfold yP
  refine CZ fun q ok => ?_
  exact Iq ok 5 0 false false rfl (by decide)
theorem Mf {k : Int} {q : Nat} (ok : Ok0 H (keys [(q, dC k)])) : ∀ (n : Nat) (i : Int), i + n = 5 → 0 ≤ i →
    wp Tryz.prog (.loop 320 kP [.int .i64 i] (kW (dV q))) L (dO [(q, dC k)] H) fun v K => v = .int .i64 (dpGo k n i) ∧ K = H
  | 0, i, hi, h0 => by
    refine bT (i, ()) rfl ?_
    rw [kW]
    refine af (decide_eq_false (show ¬ i < 5 by omega)) ?_
    exact ⟨H, ok.below, rfl, rfl⟩
  | n + 1, i, hi, h0 => by
    refine bT (i, ()) rfl ?_
    rw [kW]
    refine av (decide_eq_true (show i < 5 by omega)) ?_
    refine FW (d := i) (by omega) ok ?_
    have ih := Mf (k := k) ok n (i + 1) (by omega) (by omega)
    unfold dpGo
    by_cases h1 : tg k i > 0
    · refine av (decide_eq_true h1) (cR ?_)
      rw [if_pos h1, aE (x := i + 1) (by omega) (by omega)]; exact ih
    refine af (decide_eq_false h1) ?_
    rw [if_neg h1]
    exact ⟨H, ok.below, rfl, rfl⟩
theorem yi (k : Int) (H : Heap) : Det Tryz.prog mg [.int .i64 k] H (.int .i64 (jR k)) H := by
  refine xF fun L => ?_
  unfold y8
  refine ax (x := jQ k) (si _ _) ?_
  unfold jR
  cases hc : jQ k with
  | false => exact av rfl (ad ⟨rfl, rfl⟩)
  | true =>
    refine af rfl ?_
    refine CZ fun q ok => ?_
    rw [if_pos rfl]
    exact Mf ok 5 0 rfl (by decide)
theorem Bo (a b : Int) (H : Heap) : Det Tryz.prog pN [.int .i64 a, .int .i64 b] H (.bool (uy a b)) H := by
  refine yj fun L => ?_
  unfold yG
  refine ax (x := jQ a) (si _ _) ?_
  have dl := Bt b
  have da := Bt a
  unfold uy
  cases hc : jQ a with
  | false => exact av rfl (ad ⟨rfl, rfl⟩)
  | true =>
    refine af rfl ?_
    rw [if_pos rfl]
    refine ax (x := jQ b) (si _ _) ?_
    cases hb : jQ b with
    | false => exact av rfl (ad ⟨rfl, rfl⟩)
    | true =>
      refine af rfl ?_
      rw [if_pos rfl]
      refine ax (x := jR a) (yi _ _) ?_
      refine ax (x := jR b) (yi _ _) ?_
      by_cases h : jR a ≤ jR b
      · refine av (decide_eq_true h) ?_
        rw [if_pos h]; exact ad ⟨rfl, rfl⟩
      refine af (decide_eq_false h) ?_
      rw [if_neg h]
      refine ax (x := jR b) (yi _ _) ?_
      refine ax (x := jB (w64 (jR b - 1))) (vk _ _) ?_
      have hp : 0 ≤ jB (w64 (jR b - 1)) := by rw [aE (by omega) (by omega), Bh (by omega)]; omega
      refine J6 hp (J6 hp ?_)
      exact ad ⟨rfl, rfl⟩
theorem Hi (a b : Int) (H : Heap) : Det Tryz.prog uU [.int .i64 a, .int .i64 b] H (.bool (jb a b)) H := by
  refine yk fun L => ?_
  unfold yY
  refine ax (x := jQ a) (si _ _) ?_
  unfold jb
  cases hc : jQ a with
  | false => exact av rfl (ad ⟨rfl, rfl⟩)
  | true =>
    refine af rfl ?_
    rw [if_pos rfl]
    refine ax (x := jQ b) (si _ _) ?_
    cases hb : jQ b with
    | false => exact av rfl (ad ⟨rfl, rfl⟩)
    | true =>
      refine af rfl ?_
      rw [if_pos rfl]
      refine ax (x := uy b a) (Bo _ _ _) ?_
      cases hu : uy b a with
      | true => exact av rfl (ad ⟨rfl, rfl⟩)
      | false =>
        refine af rfl ?_
        rw [if_neg (by decide)]
        refine ax (x := uy a b) (Bo _ _ _) ?_
        cases hv : uy a b with
        | true => exact av rfl (ad ⟨rfl, rfl⟩)
        | false => exact af rfl (ad ⟨rfl, rfl⟩)
end
def b8 (b : Nat) : List Value := [.pointer (some ⟨b, 0, none⟩)]
def B0 (b : Nat) (rest : Bl) (q : Nat) (m : Value) (x' : Ts) (s' : Sl) (A' : Ar) (I : List Nat) (G : Heap) : Value → Heap → Prop := fun v H => v = .tuple #[] ∧ H = own A' ((b, oc ab (tsC x' q s' m)) :: rest) G ∧ Aw I A'
section
variable {L : aZ} {R : Value → Heap → Prop} {G : Heap} {rest : Bl} {A : Ar} {I : List Nat} {q b c : Nat} {s : Sl} {m : Value} {x : Ts}
theorem fB {k : Option Addr → Tree} {l : Bl} (hA : Aw I A) (ok : Ok I G (keys l)) (hc : (c, oc ae (b8 b)) ∈ l) (h : wp Tryz.prog (k (some ⟨b, 0, none⟩)) L (own A l G) R) : wp Tryz.prog (.ld ⟨c, 0, none⟩ .ptr k) L (own A l G) R :=
  eQ (x := some ⟨b, 0, none⟩) hA ok rfl hc rfl h
theorem mc {t : Tree} {l : Bl} (hA : Aw I A) (ok : Ok I G (keys l)) (hc : (c, oc ae (b8 b)) ∈ l) (h : wp Tryz.prog t L (own A l G) R) : wp Tryz.prog (.check (ldS ⟨c, 0, none⟩) (.pointer (some ⟨b, 0, none⟩)) t) L (own A l G) R := by
  obtain ⟨i, hi⟩ := vn hc
  exact iC i hA ok rfl hi rfl h
theorem DO (hb : x.bnd) (hA : Aw I A) (ok : Ok I G (keys ((b, oc ab (tsC x q s m)) :: rest))) (hc : (c, oc ae (b8 b)) ∈ (b, oc ab (tsC x q s m)) :: rest) :
    cB Tryz.prog cY #[.pointer (aI I), .pointer (some ⟨c, 0, none⟩)] (own A ((b, oc ab (tsC x q s m)) :: rest) G) (B0 b rest q m { x with t := A.ao (dw x.at_ x.victim 0) } s (A.aV (dw x.at_ x.victim 0)) I G) := by
  refine oE fun L => ?_
  unfold lL
  refine fB hA ok hc (fB hA ok hc ?_)
  refine w9 0 hb (by decide) hA ok rfl fun hA1 => ?_
  refine mc hA1 ok hc ?_
  refine aa.2 (cA 0 hA1 ok rfl rfl rfl rfl ?_)
  exact ad ⟨rfl, rfl, hA1⟩
theorem BI (hb : x.bnd) (hA : Aw I A) (ok : Ok I G (keys ((b, oc ab (tsC x q s m)) :: rest))) (hc : (c, oc ae (b8 b)) ∈ (b, oc ab (tsC x q s m)) :: rest) :
    cB Tryz.prog cG #[.pointer (aI I), .pointer (some ⟨c, 0, none⟩)] (own A ((b, oc ab (tsC x q s m)) :: rest) G) (B0 b rest q m { x with h := A.ao (dw x.at_ x.victim 2) } s (A.aV (dw x.at_ x.victim 2)) I G) := by
  refine mN fun L => ?_
  unfold kz
  refine fB hA ok hc (fB hA ok hc ?_)
  refine w9 0 hb (by decide) hA ok rfl fun hA1 => ?_
  refine mc hA1 ok hc ?_
  refine aa.2 (cA 0 hA1 ok rfl rfl rfl rfl ?_)
  exact ad ⟨rfl, rfl, hA1⟩
theorem zy {k : Unit → Tree} (hA : Aw I A) (ok : Ok I G (keys ((b, oc ab (tsC x q s m)) :: rest))) (h : wp Tryz.prog (k ()) L (own A ((b, oc ab (tsC x q ⟨none, 0, 0⟩ m)) :: rest) G) R) :
    wp Tryz.prog (.call fI [.pointer (some ⟨b, 0, none⟩)] .unit k) L (own A ((b, oc ab (tsC x q s m)) :: rest) G) R := by
  refine aR (R0 := fun v H => v = .tuple #[] ∧ H = own A ((b, oc ab (tsC x q ⟨none, 0, 0⟩ m)) :: rest) G) ?_ ?_
  · refine rM fun L => ?_
    unfold nZ
    refine aa.2 (cA 0 hA ok rfl rfl rfl rfl ?_)
    exact ad ⟨rfl, rfl⟩
  · rintro v H ⟨rfl, rfl⟩
    exact ⟨(), rfl, h⟩
theorem E9 (hb : x.bnd) (hA : Aw I A) (ok : Ok I G (keys ((b, oc ab (tsC x q s m)) :: rest))) (hc : (c, oc ae (b8 b)) ∈ (b, oc ab (tsC x q s m)) :: rest) :
    cB Tryz.prog cZ #[.pointer (aI I), .pointer (some ⟨c, 0, none⟩)] (own A ((b, oc ab (tsC x q s m)) :: rest) G) (B0 b rest q m x (if A.ao (dw x.at_ x.victim 1) ≤ x.t then ⟨none, 0, 0⟩ else s) (A.aV (dw x.at_ x.victim 1)) I G) := by
  refine oM fun L => ?_
  unfold lB
  refine fB hA ok hc (fB hA ok hc ?_)
  refine aa.2 (aS 0 (x := x.t) hA ok rfl rfl rfl ?_)
  refine w9 0 hb (by decide) hA ok rfl fun hA1 => ?_
  refine iC 0 hA1 ok rfl rfl rfl ?_
  refine fS rfl ?_
  refine mc hA1 ok hc ?_
  by_cases h : A.ao (dw x.at_ x.victim 1) ≤ x.t
  · refine av (decide_eq_true h) ?_
    rw [if_pos h]
    refine fB hA1 ok hc ?_
    refine zy hA1 ok ?_
    exact ad ⟨rfl, rfl, hA1⟩
  · refine af (decide_eq_false h) ?_
    rw [if_neg h]
    exact ad ⟨rfl, rfl, hA1⟩
theorem DU (hb : x.bnd) (hA : Aw I A) (ok : Ok I G (keys ((b, oc ab (tsC x q s m)) :: rest))) (hc : (c, oc ae (b8 b)) ∈ (b, oc ab (tsC x q s m)) :: rest) :
    cB Tryz.prog cV #[.pointer (aI I), .pointer (some ⟨c, 0, none⟩)] (own A ((b, oc ab (tsC x q s m)) :: rest) G) (B0 b rest q m x (if A.ao (dw x.at_ x.victim 2) = x.h then s else ⟨none, 0, 0⟩) (A.aV (dw x.at_ x.victim 2)) I G) := by
  refine nP fun L => ?_
  unfold lG
  refine fB hA ok hc (fB hA ok hc ?_)
  refine aa.2 (aS 0 (x := x.h) hA ok rfl rfl rfl ?_)
  refine w9 0 hb (by decide) hA ok rfl fun hA1 => ?_
  refine iC 0 hA1 ok rfl rfl rfl ?_
  refine fS rfl ?_
  refine mc hA1 ok hc ?_
  by_cases h : A.ao (dw x.at_ x.victim 2) = x.h
  · refine af (Eh h) ?_
    rw [if_pos h]
    exact ad ⟨rfl, rfl, hA1⟩
  · refine av (CT h) ?_
    rw [if_neg h]
    refine fB hA1 ok hc ?_
    refine zy hA1 ok ?_
    exact ad ⟨rfl, rfl, hA1⟩
theorem Ef (hb : x.bnd) (hA : Aw I A) (ok : Ok I G (keys ((b, oc ab (tsC x q s m)) :: rest))) (hc : (c, oc ae (b8 b)) ∈ (b, oc ab (tsC x q s m)) :: rest) :
    cB Tryz.prog ct #[.pointer (aI I), .pointer (some ⟨c, 0, none⟩)] (own A ((b, oc ab (tsC x q s m)) :: rest) G) (B0 b rest q m x (if A.ao (dw x.at_ x.victim 0) = x.t then s else ⟨none, 0, 0⟩) (A.aV (dw x.at_ x.victim 0)) I G) := by
  refine og fun L => ?_
  unfold lI
  refine fB hA ok hc (fB hA ok hc ?_)
  refine aa.2 (aS 0 (x := x.t) hA ok rfl rfl rfl ?_)
  refine w9 0 hb (by decide) hA ok rfl fun hA1 => ?_
  refine iC 0 hA1 ok rfl rfl rfl ?_
  refine fS rfl ?_
  refine mc hA1 ok hc ?_
  by_cases h : A.ao (dw x.at_ x.victim 0) = x.t
  · refine af (Eh h) ?_
    rw [if_pos h]
    exact ad ⟨rfl, rfl, hA1⟩
  · refine av (CT h) ?_
    rw [if_neg h]
    refine fB hA1 ok hc ?_
    refine zy hA1 ok ?_
    exact ad ⟨rfl, rfl, hA1⟩
theorem Fy (hb : x.bnd) (hA : Aw I A) (ok : Ok I G (keys ((b, oc ab (tsC x q s m)) :: rest))) (hc : (c, oc ae (b8 b)) ∈ (b, oc ab (tsC x q s m)) :: rest) :
    cB Tryz.prog cW #[.pointer (aI I), .pointer (some ⟨c, 0, none⟩)] (own A ((b, oc ab (tsC x q s m)) :: rest) G) (B0 b rest q m { x with ok := A.cC (dw x.at_ x.victim 0) x.t } s (A.dE (dw x.at_ x.victim 0) x.t (w64 (x.t + 1))) I G) := by
  refine nQ fun L => ?_
  unfold lJ
  refine fB hA ok hc (fB hA ok hc ?_)
  refine aa.2 (aS 0 (x := x.at_) hA ok rfl rfl rfl ?_)
  refine fB hA ok hc ?_
  refine aa.2 (aS 0 (x := x.victim) hA ok rfl rfl rfl ?_)
  refine bc (x := dw x.at_ x.victim 0) (yq _ _ _ hb.a hb.w (by decide) _) ?_
  refine fB hA ok hc ?_
  refine aa.2 (aS 0 (x := x.t) hA ok rfl rfl rfl ?_)
  refine fB hA ok hc ?_
  refine aa.2 (aS 0 (x := x.t) hA ok rfl rfl rfl ?_)
  refine qU hA fun hA1 => ?_
  refine mc hA1 ok hc ?_
  refine aa.2 (cA 0 hA1 ok rfl rfl rfl rfl ?_)
  exact ad ⟨rfl, rfl, hA1⟩
theorem Eb (hb : x.bnd) (hA : Aw I A) (ok : Ok I G (keys ((b, oc ab (tsC x q s m)) :: rest))) (hc : (c, oc ae (b8 b)) ∈ (b, oc ab (tsC x q s m)) :: rest) :
    cB Tryz.prog cT #[.pointer (aI I), .pointer (some ⟨c, 0, none⟩)] (own A ((b, oc ab (tsC x q s m)) :: rest) G) (B0 b rest q m { x with v := A.bA x.h (dB x.h x.t) } s (A.gp x.h (dB x.h x.t)) I G) := by
  refine oA fun L => ?_
  unfold lS
  refine fB hA ok hc (fB hA ok hc ?_)
  refine aa.2 (aS 0 (x := x.h) hA ok rfl rfl rfl ?_)
  refine fB hA ok hc ?_
  refine aa.2 (aS 0 (x := x.h) hA ok rfl rfl rfl ?_)
  refine fB hA ok hc ?_
  refine aa.2 (aS 0 (x := x.t) hA ok rfl rfl rfl ?_)
  refine ax (x := dB x.h x.t) (xQ _ _ _) ?_
  refine iC 0 hA ok rfl rfl rfl ?_
  refine fS rfl ?_
  refine mc hA ok hc (mc hA ok hc ?_)
  refine BT hA fun hA1 => ?_
  refine mc hA1 ok hc ?_
  refine aa.2 (cA 0 hA1 ok rfl rfl rfl rfl ?_)
  exact ad ⟨rfl, rfl, hA1⟩
theorem HE (hb : x.bnd) (hA : Aw I A) (ok : Ok I G (keys ((b, oc ab (tsC x q s m)) :: rest))) (hc : (c, oc ae (b8 b)) ∈ (b, oc ab (tsC x q s m)) :: rest) :
    cB Tryz.prog dh #[.pointer (aI I), .pointer (some ⟨c, 0, none⟩)] (own A ((b, oc ab (tsC x q s m)) :: rest) G) (B0 b rest q m x (if jb (A.bA x.v x.keyAt) x.before = true then s else ⟨none, 0, 0⟩) (A.gp x.v x.keyAt) I G) := by
  refine pa fun L => ?_
  unfold mh
  refine fB hA ok hc ?_
  refine aa.2 (aS 0 (x := x.v) hA ok rfl rfl rfl ?_)
  refine fB hA ok hc ?_
  refine aa.2 (aS 0 (x := x.keyAt) hA ok rfl rfl rfl ?_)
  refine fB hA ok hc ?_
  refine aa.2 (aS 0 (x := x.before) hA ok rfl rfl rfl ?_)
  refine BT hA fun hA1 => ?_
  refine iC 0 hA1 ok rfl rfl rfl ?_
  refine fS rfl ?_
  refine mc hA1 ok hc ?_
  refine ax (x := jb (A.bA x.v x.keyAt) x.before) (Hi _ _ _) ?_
  cases hk : jb (A.bA x.v x.keyAt) x.before with
  | true =>
    refine af rfl ?_
    exact ad ⟨rfl, rfl, hA1⟩
  | false =>
    refine av rfl ?_
    refine fB hA1 ok hc ?_
    refine zy hA1 ok ?_
    exact ad ⟨rfl, rfl, hA1⟩
end
def zX (f : FuncId) (b : Nat) : Value := .func (.func f) #[(.pointer (some ⟨b, 0, none⟩))] #[]
theorem Ja (u : TypeId) : opS Tryz.prog (.binOp .eql ar (.tmp 0) (.const .nilIface) ar) u [.nilIface] = .pure (.value (.bool true)) := by kernel_rfl
theorem F8 (u : TypeId) : opS Tryz.prog (.binOp .neq ar (.tmp 0) (.const .nilIface) ar) u [.nilIface] = .pure (.value (.bool false)) := by kernel_rfl
theorem F6 (t : TypeId) (p : Option Addr) (u : TypeId) : opS Tryz.prog (.binOp .eql ar (.tmp 0) (.const .nilIface) ar) u [.iface t (.pointer p)] = .pure (.value (.bool false)) := by kernel_rfl
theorem Ge (t : TypeId) (p : Option Addr) (u : TypeId) : opS Tryz.prog (.binOp .neq ar (.tmp 0) (.const .nilIface) ar) u [.iface t (.pointer p)] = .pure (.value (.bool true)) := by kernel_rfl
theorem OI (t : TypeId) (f : Fn) (x y : Array Value) (u : TypeId) : opS Tryz.prog (.binOp .eql ar (.tmp 0) (.const .nilIface) ar) u [.iface t (.func f x y)] = .pure (.value (.bool false)) := by kernel_rfl
theorem Mg (t : TypeId) (f : Fn) (x y : Array Value) (u : TypeId) : opS Tryz.prog (.binOp .neq ar (.tmp 0) (.const .nilIface) ar) u [.iface t (.func f x y)] = .pure (.value (.bool true)) := by kernel_rfl
section
variable {L : aZ} {R : Value → Heap → Prop} {G : Heap} {l rest : Bl} {A A' : Ar} {I : List Nat} {q b c : Nat} {s s' : Sl} {m : Value} {x x' : Ts}
theorem pZ {f : FuncId} (hop : opS Tryz.prog (.call { callee := .value (.tmp 0), args := #[(.tmp 1)], argTypes := #[aK] }) aF [(.func (.func f) #[] #[(.pointer (some ⟨c, 0, none⟩))]), (.pointer (aI I))] = .pure (.enter f [.pointer (aI I), .pointer (some ⟨c, 0, none⟩)].toArray))
    (spec : cB Tryz.prog f #[.pointer (aI I), .pointer (some ⟨c, 0, none⟩)] (own A ((b, oc ab (tsC x q s m)) :: rest) G) (B0 b rest q m x' s' A' I G)) :
    cB Tryz.prog jH #[.func (.func f) #[] #[(.pointer (some ⟨c, 0, none⟩))], .pointer (aI I)] (own A ((b, oc ab (tsC x q s m)) :: rest) G) fun v H => v = .bool true ∧ H = own A' ((b, oc ab (tsC x' q s' m)) :: rest) G ∧ Aw I A' := by
  refine tT fun L => ?_
  unfold qT
  refine bZ hop ?_
  refine aR spec ?_
  rintro v H ⟨rfl, rfl, a⟩
  exact ⟨(), rfl, ad ⟨rfl, rfl, a⟩⟩
theorem IL {k : Value → Tree} (hA : Aw I A) (ok : Ok I G (keys l)) (h : ∀ c : Nat, Ok I G (keys ((c, oc ae (b8 b)) :: l)) → wp Tryz.prog (k (lA cY c)) L (own A ((c, oc ae (b8 b)) :: l) G) R) :
    wp Tryz.prog (.call ed [.pointer (some ⟨b, 0, none⟩)] (.one (.leaf .val)) k) L (own A l G) R := by
  refine aR (R0 := fun v H => ∃ c : Nat, v = lA cY c ∧ H = own A ((c, oc ae (b8 b)) :: l) G ∧ Ok I G (keys ((c, oc ae (b8 b)) :: l))) ?_ ?_
  · refine p8 fun L => ?_
    unfold nm
    refine cL (c := b8 b) hA ok fun c ok1 => ?_
    exact ad ⟨c, rfl, rfl, ok1⟩
  · rintro v H ⟨c, rfl, rfl, o⟩
    exact ⟨_, rfl, h c o⟩
theorem JQ {k : Value → Tree} (hA : Aw I A) (ok : Ok I G (keys l)) (h : ∀ c : Nat, Ok I G (keys ((c, oc ae (b8 b)) :: l)) → wp Tryz.prog (k (lA cZ c)) L (own A ((c, oc ae (b8 b)) :: l) G) R) :
    wp Tryz.prog (.call dX [.pointer (some ⟨b, 0, none⟩)] (.one (.leaf .val)) k) L (own A l G) R := by
  refine aR (R0 := fun v H => ∃ c : Nat, v = lA cZ c ∧ H = own A ((c, oc ae (b8 b)) :: l) G ∧ Ok I G (keys ((c, oc ae (b8 b)) :: l))) ?_ ?_
  · refine qt fun L => ?_
    unfold mR
    refine cL (c := b8 b) hA ok fun c ok1 => ?_
    exact ad ⟨c, rfl, rfl, ok1⟩
  · rintro v H ⟨c, rfl, rfl, o⟩
    exact ⟨_, rfl, h c o⟩
theorem DT {k : Value → Tree} (hA : Aw I A) (ok : Ok I G (keys l)) (h : ∀ c : Nat, Ok I G (keys ((c, oc ae (b8 b)) :: l)) → wp Tryz.prog (k (lA cG c)) L (own A ((c, oc ae (b8 b)) :: l) G) R) :
    wp Tryz.prog (.call dA [.pointer (some ⟨b, 0, none⟩)] (.one (.leaf .val)) k) L (own A l G) R := by
  refine aR (R0 := fun v H => ∃ c : Nat, v = lA cG c ∧ H = own A ((c, oc ae (b8 b)) :: l) G ∧ Ok I G (keys ((c, oc ae (b8 b)) :: l))) ?_ ?_
  · refine oF fun L => ?_
    unfold lK
    refine cL (c := b8 b) hA ok fun c ok1 => ?_
    exact ad ⟨c, rfl, rfl, ok1⟩
  · rintro v H ⟨c, rfl, rfl, o⟩
    exact ⟨_, rfl, h c o⟩
theorem ID {k : Value → Tree} (hA : Aw I A) (ok : Ok I G (keys l)) (h : ∀ c : Nat, Ok I G (keys ((c, oc ae (b8 b)) :: l)) → wp Tryz.prog (k (lA cT c)) L (own A ((c, oc ae (b8 b)) :: l) G) R) :
    wp Tryz.prog (.call dZ [.pointer (some ⟨b, 0, none⟩)] (.one (.leaf .val)) k) L (own A l G) R := by
  refine aR (R0 := fun v H => ∃ c : Nat, v = lA cT c ∧ H = own A ((c, oc ae (b8 b)) :: l) G ∧ Ok I G (keys ((c, oc ae (b8 b)) :: l))) ?_ ?_
  · refine qv fun L => ?_
    unfold mO
    refine cL (c := b8 b) hA ok fun c ok1 => ?_
    exact ad ⟨c, rfl, rfl, ok1⟩
  · rintro v H ⟨c, rfl, rfl, o⟩
    exact ⟨_, rfl, h c o⟩
theorem CA {k : Value → Tree} (hA : Aw I A) (ok : Ok I G (keys l)) (h : ∀ c : Nat, Ok I G (keys ((c, oc ae (b8 b)) :: l)) → wp Tryz.prog (k (lA ct c)) L (own A ((c, oc ae (b8 b)) :: l) G) R) :
    wp Tryz.prog (.call dv [.pointer (some ⟨b, 0, none⟩)] (.one (.leaf .val)) k) L (own A l G) R := by
  refine aR (R0 := fun v H => ∃ c : Nat, v = lA ct c ∧ H = own A ((c, oc ae (b8 b)) :: l) G ∧ Ok I G (keys ((c, oc ae (b8 b)) :: l))) ?_ ?_
  · refine qH fun L => ?_
    unfold mS
    refine cL (c := b8 b) hA ok fun c ok1 => ?_
    exact ad ⟨c, rfl, rfl, ok1⟩
  · rintro v H ⟨c, rfl, rfl, o⟩
    exact ⟨_, rfl, h c o⟩
theorem LH {k : Value → Tree} (hA : Aw I A) (ok : Ok I G (keys l)) (h : ∀ c : Nat, Ok I G (keys ((c, oc ae (b8 b)) :: l)) → wp Tryz.prog (k (lA dh c)) L (own A ((c, oc ae (b8 b)) :: l) G) R) :
    wp Tryz.prog (.call fc [.pointer (some ⟨b, 0, none⟩)] (.one (.leaf .val)) k) L (own A l G) R := by
  refine aR (R0 := fun v H => ∃ c : Nat, v = lA dh c ∧ H = own A ((c, oc ae (b8 b)) :: l) G ∧ Ok I G (keys ((c, oc ae (b8 b)) :: l))) ?_ ?_
  · refine rE fun L => ?_
    unfold ox
    refine cL (c := b8 b) hA ok fun c ok1 => ?_
    exact ad ⟨c, rfl, rfl, ok1⟩
  · rintro v H ⟨c, rfl, rfl, o⟩
    exact ⟨_, rfl, h c o⟩
theorem Ia {k : Value → Tree} (hA : Aw I A) (ok : Ok I G (keys l)) (h : ∀ c : Nat, Ok I G (keys ((c, oc ae (b8 b)) :: l)) → wp Tryz.prog (k (lA cW c)) L (own A ((c, oc ae (b8 b)) :: l) G) R) :
    wp Tryz.prog (.call bE [.pointer (some ⟨b, 0, none⟩)] (.one (.leaf .val)) k) L (own A l G) R := by
  refine aR (R0 := fun v H => ∃ c : Nat, v = lA cW c ∧ H = own A ((c, oc ae (b8 b)) :: l) G ∧ Ok I G (keys ((c, oc ae (b8 b)) :: l))) ?_ ?_
  · refine qx fun L => ?_
    unfold mQ
    refine cL (c := b8 b) hA ok fun c ok1 => ?_
    exact ad ⟨c, rfl, rfl, ok1⟩
  · rintro v H ⟨c, rfl, rfl, o⟩
    exact ⟨_, rfl, h c o⟩
theorem El (p : Option Addr) : opS Tryz.prog (.call { callee := .value (.tmp 0), args := #[], argTypes := #[] }) ar [.func (.func eu) #[(.pointer p)] #[]] = .pure (.enter eu [.pointer p].toArray) := by kernel_rfl
theorem D7 (p : Option Addr) : opS Tryz.prog (.call { callee := .value (.tmp 0), args := #[], argTypes := #[] }) ar [.func (.func ed) #[(.pointer p)] #[]] = .pure (.enter ed [.pointer p].toArray) := by kernel_rfl
theorem Fj (p : Option Addr) : opS Tryz.prog (.call { callee := .value (.tmp 0), args := #[], argTypes := #[] }) ar [.func (.func dX) #[(.pointer p)] #[]] = .pure (.enter dX [.pointer p].toArray) := by kernel_rfl
theorem Cf (p : Option Addr) : opS Tryz.prog (.call { callee := .value (.tmp 0), args := #[], argTypes := #[] }) ar [.func (.func dA) #[(.pointer p)] #[]] = .pure (.enter dA [.pointer p].toArray) := by kernel_rfl
theorem D4 (p : Option Addr) : opS Tryz.prog (.call { callee := .value (.tmp 0), args := #[], argTypes := #[] }) ar [.func (.func dS) #[(.pointer p)] #[]] = .pure (.enter dS [.pointer p].toArray) := by kernel_rfl
theorem Fq (p : Option Addr) : opS Tryz.prog (.call { callee := .value (.tmp 0), args := #[], argTypes := #[] }) ar [.func (.func dW) #[(.pointer p)] #[]] = .pure (.enter dW [.pointer p].toArray) := by kernel_rfl
theorem Fa (p : Option Addr) : opS Tryz.prog (.call { callee := .value (.tmp 0), args := #[], argTypes := #[] }) ar [.func (.func dZ) #[(.pointer p)] #[]] = .pure (.enter dZ [.pointer p].toArray) := by kernel_rfl
theorem Ej (p : Option Addr) : opS Tryz.prog (.call { callee := .value (.tmp 0), args := #[], argTypes := #[] }) ar [.func (.func dv) #[(.pointer p)] #[]] = .pure (.enter dv [.pointer p].toArray) := by kernel_rfl
theorem EI (p : Option Addr) : opS Tryz.prog (.call { callee := .value (.tmp 0), args := #[], argTypes := #[] }) ar [.func (.func dU) #[(.pointer p)] #[]] = .pure (.enter dU [.pointer p].toArray) := by kernel_rfl
theorem GS (p : Option Addr) : opS Tryz.prog (.call { callee := .value (.tmp 0), args := #[], argTypes := #[] }) ar [.func (.func eZ) #[(.pointer p)] #[]] = .pure (.enter eZ [.pointer p].toArray) := by kernel_rfl
theorem HB (p : Option Addr) : opS Tryz.prog (.call { callee := .value (.tmp 0), args := #[], argTypes := #[] }) ar [.func (.func fc) #[(.pointer p)] #[]] = .pure (.enter fc [.pointer p].toArray) := by kernel_rfl
theorem EC (p : Option Addr) : opS Tryz.prog (.call { callee := .value (.tmp 0), args := #[], argTypes := #[] }) ar [.func (.func bE) #[(.pointer p)] #[]] = .pure (.enter bE [.pointer p].toArray) := by kernel_rfl
end
section
variable {L : aZ} {R : Value → Heap → Prop} {G : Heap} {rest : Bl} {A : Ar} {I : List Nat} {g : Gd} {q mq b c : Nat} {s : Sl} {m : Value} {x : Ts} {e : List LE}
theorem NS (t : TypeId) (p : Option Addr) (u : TypeId) : opS Tryz.prog (.binOp .neq aA (.tmp 0) (.const .nilIface) aA) u [.iface t (.pointer p)] = .pure (.value (.bool true)) := by kernel_rfl
theorem L4 (u : TypeId) : opS Tryz.prog (.binOp .neq aA (.tmp 0) (.const .nilIface) aA) u [.nilIface] = .pure (.value (.bool false)) := by kernel_rfl
theorem BJ {n h : Int} {k : Value → Tree} (bd : 0 ≤ g.ta ∧ g.ta ≤ 1000000 ∧ 0 ≤ x.work ∧ x.work ≤ 1000 ∧ 0 ≤ n ∧ n ≤ 1000) (hA : Aw I A) (ok : Ok I G (keys (g.bl q mq e ++ ((b, oc ab (tsC x q s m)) :: rest))))
    (h1 : g.ep = false → ∀ j : SeJ, Ok I G (keys (g.bl q mq e ++ (Se.bl ⟨[g.ta + 2 * x.work + n], h⟩ j ++ ((b, oc ab (tsC x q s m)) :: rest)))) → mSe.rep ⟨[g.ta + 2 * x.work + n], h⟩ j → wp Tryz.prog (k (.iface bF (.pointer (some ⟨j.q, 0, none⟩)))) L (own A (g.bl q mq e ++ (Se.bl ⟨[g.ta + 2 * x.work + n], h⟩ j ++ ((b, oc ab (tsC x q s m)) :: rest))) G) R)
    (h2 : g.ep = true → wp Tryz.prog (k .nilIface) L (own A (g.bl q mq e ++ ((b, oc ab (tsC x q s m)) :: rest)) G) R) :
    wp Tryz.prog (.call fG [.pointer (some ⟨b, 0, none⟩), .int .i64 n, .int .i64 h] (.one (.leaf .val)) k) L (own A (g.bl q mq e ++ ((b, oc ab (tsC x q s m)) :: rest)) G) R := by
  have hm : (b, oc ab (tsC x q s m)) ∈ g.bl q mq e ++ ((b, oc ab (tsC x q s m)) :: rest) := List.mem_append_right _ List.mem_cons_self
  refine aR (R0 := fun v H => (g.ep = false ∧ ∃ j : SeJ, v = .iface bF (.pointer (some ⟨j.q, 0, none⟩)) ∧ H = own A (g.bl q mq e ++ (Se.bl ⟨[g.ta + 2 * x.work + n], h⟩ j ++ ((b, oc ab (tsC x q s m)) :: rest))) G ∧ Ok I G (keys (g.bl q mq e ++ (Se.bl ⟨[g.ta + 2 * x.work + n], h⟩ j ++ ((b, oc ab (tsC x q s m)) :: rest)))) ∧ mSe.rep ⟨[g.ta + 2 * x.work + n], h⟩ j) ∨ (g.ep = true ∧ v = .nilIface ∧ H = own A (g.bl q mq e ++ ((b, oc ab (tsC x q s m)) :: rest)) G)) ?_ ?_
  · refine rX fun L => ?_
    unfold oV
    refine aa.2 (eQ (x := some ⟨q, 0, none⟩) hA ok rfl hm rfl ?_)
    refine aa.2 (eQ (x := x.work) hA ok rfl hm rfl ?_)
    refine ES bd hA ok (fun he j ok1 rp => ?_) fun he => ?_
    · refine aB (x := true) (NS _ _ _) (av rfl ?_)
      exact ad (.inl ⟨he, j, rfl, rfl, ok1, rp⟩)
    · refine aB (x := false) (L4 _) (af rfl ?_)
      exact ad (.inr ⟨he, rfl, rfl⟩)
  · rintro v H (⟨he, j, rfl, rfl, o, rp⟩ | ⟨he, rfl, rfl⟩)
    · exact ⟨_, rfl, h1 he j o rp⟩
    · exact ⟨_, rfl, h2 he⟩
theorem JC {k : Value → Tree} (hA : Aw I A) (ok : Ok I G (keys (g.bl q mq e ++ ((b, oc ab (tsC x q s m)) :: rest))))
    (h1 : g.ep = true → ∀ z : Nat, Ok I G (keys (g.bl q mq e ++ ((ic g.w g.ta x.work).bl z ++ ((b, oc ab (tsC x q s m)) :: rest)))) → wp Tryz.prog (k (.iface cP (.pointer (some ⟨z, 0, none⟩)))) L (own A (g.bl q mq e ++ ((ic g.w g.ta x.work).bl z ++ ((b, oc ab (tsC x q s m)) :: rest))) G) R)
    (h2 : g.ep = false → wp Tryz.prog (k .nilIface) L (own A (g.bl q mq e ++ ((b, oc ab (tsC x q s m)) :: rest)) G) R) :
    wp Tryz.prog (.call eu [.pointer (some ⟨b, 0, none⟩)] (.one (.leaf .val)) k) L (own A (g.bl q mq e ++ ((b, oc ab (tsC x q s m)) :: rest)) G) R := by
  have hm : (b, oc ab (tsC x q s m)) ∈ g.bl q mq e ++ ((b, oc ab (tsC x q s m)) :: rest) := List.mem_append_right _ List.mem_cons_self
  refine aR (R0 := fun v H => (g.ep = true ∧ ∃ z : Nat, v = .iface cP (.pointer (some ⟨z, 0, none⟩)) ∧ H = own A (g.bl q mq e ++ ((ic g.w g.ta x.work).bl z ++ ((b, oc ab (tsC x q s m)) :: rest))) G ∧ Ok I G (keys (g.bl q mq e ++ ((ic g.w g.ta x.work).bl z ++ ((b, oc ab (tsC x q s m)) :: rest))))) ∨ (g.ep = false ∧ v = .nilIface ∧ H = own A (g.bl q mq e ++ ((b, oc ab (tsC x q s m)) :: rest)) G)) ?_ ?_
  · refine qg fun L => ?_
    unfold mX
    refine aa.2 (eQ (x := some ⟨q, 0, none⟩) hA ok rfl hm rfl ?_)
    refine aa.2 (eQ (x := x.work) hA ok rfl hm rfl ?_)
    refine H7 hA ok (fun he z ok1 => ?_) fun he => ?_
    · refine aB (x := true) (NS _ _ _) (av rfl ?_)
      exact ad (.inl ⟨he, z, rfl, rfl, ok1⟩)
    · refine aB (x := false) (L4 _) (af rfl ?_)
      exact ad (.inr ⟨he, rfl, rfl⟩)
  · rintro v H (⟨he, z, rfl, rfl, o⟩ | ⟨he, rfl, rfl⟩)
    · exact ⟨_, rfl, h1 he z o⟩
    · exact ⟨_, rfl, h2 he⟩
end
def eF (b : Nat) : Enc FuncId := ⟨1, fun f => [zX f b], fun _ => rfl, fun x v h => by simp at h; subst h; rfl⟩
theorem NH : Cv aY az 1 := ⟨⟨_, _, rfl, rfl, rfl, by decide, by decide, rfl, rfl⟩⟩
def lh : List FuncId := [eu, ed, dX, dA, dS, dW, dZ]
def qA : List FuncId := [dv, dU, eZ, fc]
def me (before : Int) : List FuncId := (if before > 0 then lh ++ qA else lh) ++ [bE]
section
variable {L : aZ} {R : Value → Heap → Prop} {G : Heap} {l : Bl} {A : Ar} {I : List Nat} {q : Nat}
theorem AF {at_ work victim before keyAt : Int} {k : Option Addr → Tree} (hA : Aw I A) (ok : Ok I G (keys l))
    (h : ∀ (b : Nat) (s : Sl) (tl : Bl), dH tl az (eF b) s (me before) → Ok I G (keys ((b, oc ab (tsC ⟨at_, work, victim, before, keyAt, false, 0, 0, 0, false⟩ q s .nilIface)) :: (tl ++ l))) → wp Tryz.prog (k (some ⟨b, 0, none⟩)) L (own A ((b, oc ab (tsC ⟨at_, work, victim, before, keyAt, false, 0, 0, 0, false⟩ q s .nilIface)) :: (tl ++ l)) G) R) :
    wp Tryz.prog (.call jo [.int .i64 at_, .pointer (some ⟨q, 0, none⟩), .int .i64 work, .int .i64 victim, .int .i64 before, .int .i64 keyAt] (.one (.leaf .ptr)) k) L (own A l G) R := by
  obtain ⟨x, hx⟩ : ∃ x : Ts, x = ⟨at_, work, victim, before, keyAt, false, 0, 0, 0, false⟩ := ⟨_, rfl⟩
  rw [← hx] at h
  refine aR (R0 := fun v H => ∃ (b : Nat) (s : Sl) (tl : Bl), v = .pointer (some ⟨b, 0, none⟩) ∧ H = own A ((b, oc ab (tsC x q s .nilIface)) :: (tl ++ l)) G ∧ dH tl az (eF b) s (me before) ∧ Ok I G (keys ((b, oc ab (tsC x q s .nilIface)) :: (tl ++ l)))) ?_ ?_
  rotate_left
  · rintro v H ⟨b, s, tl, rfl, rfl, hs, o⟩
    exact ⟨_, rfl, h b s tl hs o⟩
  refine yv fun L => ?_
  unfold yI
  rw [hx]
  refine cL (T := ab) (c := tsC ⟨at_, work, victim, before, keyAt, false, 0, 0, 0, false⟩ q ⟨none, 0, 0⟩ .nilIface) hA ok fun b ok1 => ?_
  · skip
    refine l6 (c := (eF b).all lh) hA ok1 fun z ok2 => ?_
    have ok2 : Ok I G (keys ((z, oc az ((eF b).all lh)) :: (b, oc ab (tsC ⟨at_, work, victim, before, keyAt, false, 0, 0, 0, false⟩ q ⟨none, 0, 0⟩ .nilIface)) :: l)) := ok2
    refine aa.2 (cA 1 hA ok2 rfl rfl rfl rfl ?_)
    have ok3 : Ok I G (keys ((z, oc az ((eF b).all lh)) :: (b, oc ab (tsC ⟨at_, work, victim, before, keyAt, false, 0, 0, 0, false⟩ q ⟨some ⟨z, 0, none⟩, 7, 7⟩ .nilIface)) :: l)) := ok2
    show wp Tryz.prog _ L (own A ((z, oc az ((eF b).all lh)) :: (b, oc ab (tsC ⟨at_, work, victim, before, keyAt, false, 0, 0, 0, false⟩ q ⟨some ⟨z, 0, none⟩, 7, 7⟩ .nilIface)) :: l) G) _
    obtain ⟨p1, ok4⟩ := aN (A := A) (l' := [(b, oc ab (tsC ⟨at_, work, victim, before, keyAt, false, 0, 0, 0, false⟩ q ⟨some ⟨z, 0, none⟩, 7, 7⟩ .nilIface))] ++ ([(z, oc az ((eF b).all lh))] ++ l)) ok3 (aT fun c d c0 cd ca => by simp only [List.cons_append, List.nil_append, cd, ca]; omega)
    rw [p1]
    have s7 : dH [(z, oc az ((eF b).all lh))] az (eF b) ⟨some ⟨z, 0, none⟩, 7, 7⟩ lh := .inr ⟨z, [], 0, rfl, rfl, by rw [List.append_nil]; exact List.mem_cons_self⟩
    -- the last one
    have last : ∀ (s : Sl) (tl : Bl) (fs : List FuncId), fs ++ [bE] = me before → fs.length ≤ 20 → dH tl az (eF b) s fs → Ok I G (keys ([(b, oc ab (tsC ⟨at_, work, victim, before, keyAt, false, 0, 0, 0, false⟩ q s .nilIface))] ++ (tl ++ l))) →
        wp Tryz.prog (.look (opS Tryz.prog (.nilCheck (.tmp 0)) aF [(.pointer (some ⟨b, 0, none⟩))]) (.one (.leaf .addr)) fun x61 =>
          .ld (x61.add 6) .slice fun x63 =>
          .qB (.cells #[(.func (.func bE) #[(.pointer (some ⟨b, 0, none⟩))] #[])] az) 1 fun x66 =>
          .act (opS Tryz.prog (.call { callee := .builtin .append, args := #[(.tmp 0), (.tmp 1)], argTypes := #[aY, aY] }) aY [(.slice x63.a x63.len x63.cap), (.slice x66.a x66.len x66.cap)]) (.one (.leaf .slice)) fun x67 =>
          .look (opS Tryz.prog (.nilCheck (.tmp 0)) aF [(.pointer (some ⟨b, 0, none⟩))]) (.one (.leaf .addr)) fun x68 =>
          .st (x68.add 6) (.slice x67.a x67.len x67.cap) <|
          .ret (.pointer (some ⟨b, 0, none⟩))) L (own A ([(b, oc ab (tsC ⟨at_, work, victim, before, keyAt, false, 0, 0, 0, false⟩ q s .nilIface))] ++ (tl ++ l)) G) (fun v H => ∃ (b : Nat) (s : Sl) (tl : Bl), v = .pointer (some ⟨b, 0, none⟩) ∧ H = own A ((b, oc ab (tsC ⟨at_, work, victim, before, keyAt, false, 0, 0, 0, false⟩ q s .nilIface)) :: (tl ++ l)) G ∧ dH tl az (eF b) s (me before) ∧ Ok I G (keys ((b, oc ab (tsC ⟨at_, work, victim, before, keyAt, false, 0, 0, 0, false⟩ q s .nilIface)) :: (tl ++ l)))) := fun s tl fs hf hl hs o => by
      refine aa.2 (aS 0 (x := s) hA o rfl rfl rfl ?_)
      refine l6 (c := (eF b).all [bE]) hA o fun y o1 => ?_
      obtain ⟨p2, o2⟩ := aN (A := A) (l' := [(b, oc ab (tsC ⟨at_, work, victim, before, keyAt, false, 0, 0, 0, false⟩ q s .nilIface))] ++ (tl ++ (l ++ [(y, oc az ((eF b).all [bE]))]))) o1 (aT fun c d c0 cd ca => by simp only [List.cons_append, List.nil_append, cd, ca, c0]; omega)
      rw [p2]
      refine qm (E := eF b) NH [(b, oc ab (tsC ⟨at_, work, victim, before, keyAt, false, 0, 0, 0, false⟩ q s .nilIface))] (xs := fs) (ys := [bE]) (t := ⟨some ⟨y, 0, none⟩, 1, 1⟩) hA o2 hs ?_ rfl (by show fs.length + 1 ≤ _; omega) fun s' mid' hs' o3 => ?_
      · exact jz (c := (eF b).all [bE]) hA o2 (List.mem_append_right _ (List.mem_append_right _ (List.mem_append_right _ List.mem_cons_self))) 0 rfl
      refine aa.2 (cA 0 hA o3 rfl rfl rfl rfl ?_)
      rw [hf] at hs'
      have o3 : Ok I G (keys ((b, oc ab (tsC ⟨at_, work, victim, before, keyAt, false, 0, 0, 0, false⟩ q s' .nilIface)) :: (mid' ++ (l ++ [(y, oc az ((eF b).all [bE]))])))) := o3
      show wp Tryz.prog _ L (own A ((b, oc ab (tsC ⟨at_, work, victim, before, keyAt, false, 0, 0, 0, false⟩ q s' .nilIface)) :: (mid' ++ (l ++ [(y, oc az ((eF b).all [bE]))]))) G) _
      obtain ⟨p3, o4⟩ := aN (A := A) (l' := (b, oc ab (tsC ⟨at_, work, victim, before, keyAt, false, 0, 0, 0, false⟩ q s' .nilIface)) :: (((y, oc az ((eF b).all [bE])) :: mid') ++ l)) o3 (aT fun c d c0 cd ca => by simp only [List.cons_append, cd, ca, c0]; omega)
      rw [p3]
      exact ad ⟨b, s', _, rfl, rfl, hs'.mono fun p hp => List.mem_cons_of_mem _ hp, o4⟩
    by_cases hb : before > 0
    · refine av (decide_eq_true hb) ?_
      refine aa.2 (aS 0 (x := ⟨some ⟨z, 0, none⟩, 7, 7⟩) hA ok4 rfl rfl rfl ?_)
      refine l6 (c := (eF b).all qA) hA ok4 fun y o1 => ?_
      obtain ⟨p2, o2⟩ := aN (A := A) (l' := [(b, oc ab (tsC ⟨at_, work, victim, before, keyAt, false, 0, 0, 0, false⟩ q ⟨some ⟨z, 0, none⟩, 7, 7⟩ .nilIface))] ++ ([(z, oc az ((eF b).all lh))] ++ (l ++ [(y, oc az ((eF b).all qA))]))) o1 (aT fun c d c0 cd ca => by simp only [List.cons_append, List.nil_append, cd, ca, c0]; omega)
      rw [p2]
      refine qm (E := eF b) NH [(b, oc ab (tsC ⟨at_, work, victim, before, keyAt, false, 0, 0, 0, false⟩ q ⟨some ⟨z, 0, none⟩, 7, 7⟩ .nilIface))] (xs := lh) (ys := qA) (t := ⟨some ⟨y, 0, none⟩, 4, 4⟩) hA o2 s7 ?_ rfl (by decide) fun s' mid' hs' o3 => ?_
      · exact jz (c := (eF b).all qA) hA o2 (List.mem_append_right _ (List.mem_append_right _ (List.mem_append_right _ List.mem_cons_self))) 0 rfl
      refine aa.2 (cA 0 hA o3 rfl rfl rfl rfl ?_)
      have o3 : Ok I G (keys ((b, oc ab (tsC ⟨at_, work, victim, before, keyAt, false, 0, 0, 0, false⟩ q s' .nilIface)) :: (mid' ++ (l ++ [(y, oc az ((eF b).all qA))])))) := o3
      show wp Tryz.prog _ L (own A ((b, oc ab (tsC ⟨at_, work, victim, before, keyAt, false, 0, 0, 0, false⟩ q s' .nilIface)) :: (mid' ++ (l ++ [(y, oc az ((eF b).all qA))]))) G) _
      obtain ⟨p3, o4⟩ := aN (A := A) (l' := [(b, oc ab (tsC ⟨at_, work, victim, before, keyAt, false, 0, 0, 0, false⟩ q s' .nilIface))] ++ (((y, oc az ((eF b).all qA)) :: mid') ++ l)) o3 (aT fun c d c0 cd ca => by simp only [List.cons_append, List.nil_append, cd, ca, c0]; omega)
      rw [p3]
      exact last s' _ (lh ++ qA) (by unfold me; rw [if_pos hb]) (by decide) (hs'.mono fun p hp => List.mem_cons_of_mem _ hp) o4
    · refine af (decide_eq_false hb) ?_
      exact last _ _ lh (by unfold me; rw [if_neg hb]) (by decide) s7 ok4
end
section
variable {L : aZ} {R : Value → Heap → Prop} {G : Heap} {rest : Bl} {A : Ar} {I : List Nat} {g : Gd} {q mq b c : Nat} {s : Sl} {m : Value} {x : Ts} {e : List LE}
theorem Ji {k : Value → Tree} (bd : 0 ≤ g.ta ∧ g.ta ≤ 1000000 ∧ 0 ≤ x.work ∧ x.work ≤ 1000) (hA : Aw I A) (ok : Ok I G (keys (g.bl q mq e ++ ((b, oc ab (tsC x q s m)) :: rest))))
    (h1 : g.ep = false → ∀ j : SeJ, Ok I G (keys (g.bl q mq e ++ (Se.bl ⟨[g.ta + 2 * x.work + 0], x.h⟩ j ++ ((b, oc ab (tsC x q s m)) :: rest)))) → mSe.rep ⟨[g.ta + 2 * x.work + 0], x.h⟩ j → wp Tryz.prog (k (.iface bF (.pointer (some ⟨j.q, 0, none⟩)))) L (own A (g.bl q mq e ++ (Se.bl ⟨[g.ta + 2 * x.work + 0], x.h⟩ j ++ ((b, oc ab (tsC x q s m)) :: rest))) G) R)
    (h2 : g.ep = true → wp Tryz.prog (k .nilIface) L (own A (g.bl q mq e ++ ((b, oc ab (tsC x q s m)) :: rest)) G) R) :
    wp Tryz.prog (.call dS [.pointer (some ⟨b, 0, none⟩)] (.one (.leaf .val)) k) L (own A (g.bl q mq e ++ ((b, oc ab (tsC x q s m)) :: rest)) G) R := by
  have hm : (b, oc ab (tsC x q s m)) ∈ g.bl q mq e ++ ((b, oc ab (tsC x q s m)) :: rest) := List.mem_append_right _ List.mem_cons_self
  refine aR (R0 := fun v H => (g.ep = false ∧ ∃ j : SeJ, v = .iface bF (.pointer (some ⟨j.q, 0, none⟩)) ∧ H = own A (g.bl q mq e ++ (Se.bl ⟨[g.ta + 2 * x.work + 0], x.h⟩ j ++ ((b, oc ab (tsC x q s m)) :: rest))) G ∧ Ok I G (keys (g.bl q mq e ++ (Se.bl ⟨[g.ta + 2 * x.work + 0], x.h⟩ j ++ ((b, oc ab (tsC x q s m)) :: rest)))) ∧ mSe.rep ⟨[g.ta + 2 * x.work + 0], x.h⟩ j) ∨ (g.ep = true ∧ v = .nilIface ∧ H = own A (g.bl q mq e ++ ((b, oc ab (tsC x q s m)) :: rest)) G)) ?_ ?_
  · refine qb fun L => ?_
    unfold nv
    refine aa.2 (eQ (x := x.h) hA ok rfl hm rfl ?_)
    refine BJ (n := 0) ⟨bd.1, bd.2.1, bd.2.2.1, bd.2.2.2, by decide, by decide⟩ hA ok (fun he j ok1 rp => ?_) fun he => ?_
    · exact ad (.inl ⟨he, j, rfl, rfl, ok1, rp⟩)
    · exact ad (.inr ⟨he, rfl, rfl⟩)
  · rintro v H (⟨he, j, rfl, rfl, o, rp⟩ | ⟨he, rfl, rfl⟩)
    · exact ⟨_, rfl, h1 he j o rp⟩
    · exact ⟨_, rfl, h2 he⟩
theorem Jh {k : Value → Tree} (bd : 0 ≤ g.ta ∧ g.ta ≤ 1000000 ∧ 0 ≤ x.work ∧ x.work ≤ 1000) (hA : Aw I A) (ok : Ok I G (keys (g.bl q mq e ++ ((b, oc ab (tsC x q s m)) :: rest))))
    (h1 : g.ep = false → ∀ j : SeJ, Ok I G (keys (g.bl q mq e ++ (Se.bl ⟨[g.ta + 2 * x.work + 1], x.v⟩ j ++ ((b, oc ab (tsC x q s m)) :: rest)))) → mSe.rep ⟨[g.ta + 2 * x.work + 1], x.v⟩ j → wp Tryz.prog (k (.iface bF (.pointer (some ⟨j.q, 0, none⟩)))) L (own A (g.bl q mq e ++ (Se.bl ⟨[g.ta + 2 * x.work + 1], x.v⟩ j ++ ((b, oc ab (tsC x q s m)) :: rest))) G) R)
    (h2 : g.ep = true → wp Tryz.prog (k .nilIface) L (own A (g.bl q mq e ++ ((b, oc ab (tsC x q s m)) :: rest)) G) R) :
    wp Tryz.prog (.call dU [.pointer (some ⟨b, 0, none⟩)] (.one (.leaf .val)) k) L (own A (g.bl q mq e ++ ((b, oc ab (tsC x q s m)) :: rest)) G) R := by
  have hm : (b, oc ab (tsC x q s m)) ∈ g.bl q mq e ++ ((b, oc ab (tsC x q s m)) :: rest) := List.mem_append_right _ List.mem_cons_self
  refine aR (R0 := fun v H => (g.ep = false ∧ ∃ j : SeJ, v = .iface bF (.pointer (some ⟨j.q, 0, none⟩)) ∧ H = own A (g.bl q mq e ++ (Se.bl ⟨[g.ta + 2 * x.work + 1], x.v⟩ j ++ ((b, oc ab (tsC x q s m)) :: rest))) G ∧ Ok I G (keys (g.bl q mq e ++ (Se.bl ⟨[g.ta + 2 * x.work + 1], x.v⟩ j ++ ((b, oc ab (tsC x q s m)) :: rest)))) ∧ mSe.rep ⟨[g.ta + 2 * x.work + 1], x.v⟩ j) ∨ (g.ep = true ∧ v = .nilIface ∧ H = own A (g.bl q mq e ++ ((b, oc ab (tsC x q s m)) :: rest)) G)) ?_ ?_
  · refine qD fun L => ?_
    unfold m8
    refine aa.2 (eQ (x := x.v) hA ok rfl hm rfl ?_)
    refine BJ (n := 1) ⟨bd.1, bd.2.1, bd.2.2.1, bd.2.2.2, by decide, by decide⟩ hA ok (fun he j ok1 rp => ?_) fun he => ?_
    · exact ad (.inl ⟨he, j, rfl, rfl, ok1, rp⟩)
    · exact ad (.inr ⟨he, rfl, rfl⟩)
  · rintro v H (⟨he, j, rfl, rfl, o, rp⟩ | ⟨he, rfl, rfl⟩)
    · exact ⟨_, rfl, h1 he j o rp⟩
    · exact ⟨_, rfl, h2 he⟩
theorem IN {k : Value → Tree} (bd : 0 ≤ g.ta ∧ g.ta ≤ 1000000 ∧ 0 ≤ x.work ∧ x.work ≤ 1000) (hA : Aw I A) (ok : Ok I G (keys (g.bl q mq e ++ ((b, oc ab (tsC x q s m)) :: rest))))
    (h1 : g.ep = false → ∀ (c : Nat) (gar : Bl), Ok I G (keys (g.bl q mq e ++ ((c, oc ae (b8 b)) :: (gar ++ ((b, oc ab (tsC x q s m)) :: rest))))) → wp Tryz.prog (k (lA cV c)) L (own A (g.bl q mq e ++ ((c, oc ae (b8 b)) :: (gar ++ ((b, oc ab (tsC x q s m)) :: rest)))) G) R)
    (h2 : g.ep = true → ∀ gar, Ok I G (keys (g.bl q mq e ++ (gar ++ ((b, oc ab (tsC x q s m)) :: rest)))) → wp Tryz.prog (k .nilIface) L (own A (g.bl q mq e ++ (gar ++ ((b, oc ab (tsC x q s m)) :: rest))) G) R) :
    wp Tryz.prog (.call dW [.pointer (some ⟨b, 0, none⟩)] (.one (.leaf .val)) k) L (own A (g.bl q mq e ++ ((b, oc ab (tsC x q s m)) :: rest)) G) R := by
  refine aR (R0 := fun v H => (g.ep = false ∧ ∃ (c : Nat) (gar : Bl), v = lA cV c ∧ H = own A (g.bl q mq e ++ ((c, oc ae (b8 b)) :: (gar ++ ((b, oc ab (tsC x q s m)) :: rest)))) G ∧ Ok I G (keys (g.bl q mq e ++ ((c, oc ae (b8 b)) :: (gar ++ ((b, oc ab (tsC x q s m)) :: rest)))))) ∨
    (g.ep = true ∧ ∃ gar : Bl, v = .nilIface ∧ H = own A (g.bl q mq e ++ (gar ++ ((b, oc ab (tsC x q s m)) :: rest))) G ∧ Ok I G (keys (g.bl q mq e ++ (gar ++ ((b, oc ab (tsC x q s m)) :: rest)))))) ?_ ?_
  · refine qi fun L => ?_
    unfold nh
    refine cL (T := ae) (c := b8 b) hA ok fun c ok1 => ?_
    obtain ⟨p1, ok2⟩ := aN (A := A) (l' := g.bl q mq e ++ ((b, oc ab (tsC x q s m)) :: ((c, oc ae (b8 b)) :: rest))) ok1 (aT fun d f c0 cd ca => by simp only [cd, ca]; omega)
    rw [p1]
    have hc : (c, oc ae (b8 b)) ∈ g.bl q mq e ++ ((b, oc ab (tsC x q s m)) :: ((c, oc ae (b8 b)) :: rest)) := List.mem_append_right _ (List.mem_cons_of_mem _ List.mem_cons_self)
    have hm : (b, oc ab (tsC x q s m)) ∈ g.bl q mq e ++ ((b, oc ab (tsC x q s m)) :: ((c, oc ae (b8 b)) :: rest)) := List.mem_append_right _ List.mem_cons_self
    refine fB hA ok2 hc (fB hA ok2 hc ?_)
    refine aa.2 (eQ (x := x.h) hA ok2 rfl hm rfl ?_)
    refine BJ (n := 0) ⟨bd.1, bd.2.1, bd.2.2.1, bd.2.2.2, by decide, by decide⟩ hA ok2 (fun he j ok3 rp => ?_) fun he => ?_
    · refine aB (x := false) (F6 _ _ _) (af rfl ?_)
      obtain ⟨p3, ok4⟩ := aN (A := A) (l' := g.bl q mq e ++ ((c, oc ae (b8 b)) :: (Se.bl ⟨[g.ta + 2 * x.work + 0], x.h⟩ j ++ ((b, oc ab (tsC x q s m)) :: rest)))) ok3 (aT fun d f c0 cd ca => by simp only [cd, ca]; omega)
      rw [p3]
      exact ad (.inl ⟨he, c, _, rfl, rfl, ok4⟩)
    · refine aB (x := true) (Ja _) (av rfl ?_)
      obtain ⟨p3, ok4⟩ := aN (A := A) (l' := g.bl q mq e ++ ([(c, oc ae (b8 b))] ++ ((b, oc ab (tsC x q s m)) :: rest))) ok2 (aT fun d f c0 cd ca => by simp only [List.cons_append, List.nil_append, cd, ca]; omega)
      rw [p3]
      exact ad (.inr ⟨he, _, rfl, rfl, ok4⟩)
  · rintro v H (⟨he, c, gar, rfl, rfl, o⟩ | ⟨he, gar, rfl, rfl, o⟩)
    · exact ⟨_, rfl, h1 he c gar o⟩
    · exact ⟨_, rfl, h2 he gar o⟩
theorem K4 {k : Value → Tree} (bd : 0 ≤ g.ta ∧ g.ta ≤ 1000000 ∧ 0 ≤ x.work ∧ x.work ≤ 1000) (hA : Aw I A) (ok : Ok I G (keys (g.bl q mq e ++ ((b, oc ab (tsC x q s m)) :: rest))))
    (h1 : g.ep = false → ∀ (c : Nat) (gar : Bl), Ok I G (keys (g.bl q mq e ++ ((c, oc ae (b8 b)) :: (gar ++ ((b, oc ab (tsC x q s m)) :: rest))))) → wp Tryz.prog (k (lA ct c)) L (own A (g.bl q mq e ++ ((c, oc ae (b8 b)) :: (gar ++ ((b, oc ab (tsC x q s m)) :: rest)))) G) R)
    (h2 : g.ep = true → wp Tryz.prog (k .nilIface) L (own A (g.bl q mq e ++ ((b, oc ab (tsC x q s m)) :: rest)) G) R) :
    wp Tryz.prog (.call eZ [.pointer (some ⟨b, 0, none⟩)] (.one (.leaf .val)) k) L (own A (g.bl q mq e ++ ((b, oc ab (tsC x q s m)) :: rest)) G) R := by
  have hm : (b, oc ab (tsC x q s m)) ∈ g.bl q mq e ++ ((b, oc ab (tsC x q s m)) :: rest) := List.mem_append_right _ List.mem_cons_self
  refine aR (R0 := fun v H => (g.ep = false ∧ ∃ (c : Nat) (gar : Bl), v = lA ct c ∧ H = own A (g.bl q mq e ++ ((c, oc ae (b8 b)) :: (gar ++ ((b, oc ab (tsC x q s m)) :: rest)))) G ∧ Ok I G (keys (g.bl q mq e ++ ((c, oc ae (b8 b)) :: (gar ++ ((b, oc ab (tsC x q s m)) :: rest)))))) ∨
    (g.ep = true ∧ v = .nilIface ∧ H = own A (g.bl q mq e ++ ((b, oc ab (tsC x q s m)) :: rest)) G)) ?_ ?_
  · refine ry fun L => ?_
    unfold om
    refine aa.2 (eQ (x := x.v) hA ok rfl hm rfl ?_)
    refine BJ (n := 1) ⟨bd.1, bd.2.1, bd.2.2.1, bd.2.2.2, by decide, by decide⟩ hA ok (fun he j ok3 rp => ?_) fun he => ?_
    · refine aB (x := false) (F6 _ _ _) (af rfl ?_)
      refine CA hA ok3 fun c ok4 => ?_
      obtain ⟨p3, ok5⟩ := aN (A := A) (l' := g.bl q mq e ++ ((c, oc ae (b8 b)) :: (Se.bl ⟨[g.ta + 2 * x.work + 1], x.v⟩ j ++ ((b, oc ab (tsC x q s m)) :: rest)))) ok4 (aT fun d f c0 cd ca => by simp only [cd, ca]; omega)
      rw [p3]
      exact ad (.inl ⟨he, c, _, rfl, rfl, ok5⟩)
    · refine aB (x := true) (Ja _) (av rfl ?_)
      exact ad (.inr ⟨he, rfl, rfl⟩)
  · rintro v H (⟨he, c, gar, rfl, rfl, o⟩ | ⟨he, rfl, rfl⟩)
    · exact ⟨_, rfl, h1 he c gar o⟩
    · exact ⟨_, rfl, h2 he⟩
end
theorem ir.NA {l : Bl} {e : TypeId} {s : Sl} {w : Nat} {x : FuncId} {xs : List FuncId} (h : ir l e (eF w) s (x :: xs)) : ir l e (eF w) (gH s 1) xs ∧ (1 : Int) ≤ (s.len : Int) := by
  rcases h with ⟨_, h⟩ | ⟨b, pre, rest, r, rfl, h2, h3⟩
  · cases h
  · refine ⟨?_, by show (1 : Int) ≤ ((xs.length + 1 : Nat) : Int); omega⟩
    unfold gH
    dsimp only
    by_cases e : (x :: xs).length + r = 1
    · rw [if_pos e]
      have hx : xs = [] := by simp only [List.length_cons] at e; exact List.eq_nil_of_length_eq_zero (by omega)
      have hr : r = 0 := by simp only [List.length_cons] at e; omega
      subst hx; subst hr
      exact .inr ⟨b, pre, (eF w).all [x] ++ rest, 0, rfl, by omega, by rw [show (eF w).all ([] : List FuncId) = [] from rfl, List.append_nil, ← List.append_assoc]; exact h3⟩
    · rw [if_neg e]
      refine .inr ⟨b, pre ++ [zX x w], rest, r, ?_, h2, ?_⟩
      · show Sl.mk (some ((Addr.mk b pre.length none).add 1)) _ _ = _
        rw [Addr.gF, List.length_append]
        simp only [List.length_cons, List.length_nil, Sl.mk.injEq, true_and]
        omega
      · have : (eF w).all (x :: xs) = [zX x w] ++ (eF w).all xs := rfl
        rw [this] at h3
        simpa using h3
section
variable {L : aZ} {R : Value → Heap → Prop} {G : Heap} {l : Bl} {A : Ar} {I : List Nat} {b : Nat}
theorem O0 {f : FuncId} {fs : List FuncId} {s : Sl} {u : TypeId} {k : Value → Tree} (hA : Aw I A) (ok : Ok I G (keys l)) (hs : ir l az (eF b) s (f :: fs)) (h : wp Tryz.prog (k (zX f b)) L (own A l G) R) :
    wp Tryz.prog (.look (opS Tryz.prog (.indexAddr aY (.tmp 0) (.const (.int .i64 0))) u [(.slice s.a s.len s.cap)]) (.one (.leaf .addr)) fun y => .ld y .val k) L (own A l G) R := by
  rw [vt]
  rcases hs with ⟨_, h⟩ | ⟨z, pre, rest, r, rfl, h2, h3⟩
  · cases h
  · refine C3 (e := az) rfl rfl rfl (Int.le_refl 0) (by show (0 : Int) < (((f :: fs).length : Nat) : Int); simp only [List.length_cons]; omega) ?_
    refine eQ (x := zX f b) hA ok rfl h3 ?_ h
    have : (pre ++ (eF b).all (f :: fs) ++ rest)[pre.length + (0 : Int).toNat]? = some (zX f b) := by
      rw [List.append_assoc, List.getElem?_append_right (by simp)]
      show ((eF b).all (f :: fs) ++ rest)[pre.length + 0 - pre.length]? = _
      rw [Nat.add_zero, Nat.sub_self]; rfl
    rw [this]; rfl
theorem Og {s : Sl} {u : TypeId} {k : Sl → Tree} (h1 : (1 : Int) ≤ (s.len : Int)) {H : Heap} (h : wp Tryz.prog (k (gH s 1)) L H R) :
    wp Tryz.prog (.look (opS Tryz.prog (.slice aY (.tmp 0) (some (.const (.int .i64 1))) none none) u [.slice s.a s.len s.cap]) (.one (.leaf .slice)) k) L H R := by
  rw [zw]
  exact aB (x := gH s 1) (pv (e := az) rfl rfl rfl (by decide) h1) h
end
inductive Sp | enter | reads | lasts | buffers | holds | again | loads | still | keeps | more | keys | takes
def Sp.f : Sp → FuncId
  | .enter => eu
  | .reads => ed
  | .lasts => dX
  | .buffers => dA
  | .holds => dS
  | .again => dW
  | .loads => dZ
  | .still => dv
  | .keeps => dU
  | .more => eZ
  | .keys => fc
  | .takes => bE
inductive K1 | reads | lasts | buffers | again | loads | still | keys | takes
def K1.f : K1 → FuncId
  | .reads => cY
  | .lasts => cZ
  | .buffers => cG
  | .again => cV
  | .loads => cT
  | .still => ct
  | .keys => dh
  | .takes => cW
inductive Um
  | no
  | pin (p : Pn)
  | se (m : Se)
  | one (f : K1)
structure UmJ where
  z : Nat
  se : SeJ
def Um.val : Um → UmJ → Value
  | .no, _ => .nilIface
  | .pin _, j => .iface cP (.pointer (some ⟨j.z, 0, none⟩))
  | .se _, j => .iface bF (.pointer (some ⟨j.se.q, 0, none⟩))
  | .one f, j => lA f.f j.z
def Um.bl (b : Nat) : Um → UmJ → Bl
  | .no, _ => []
  | .pin p, j => p.bl j.z
  | .se m, j => Se.bl m j.se
  | .one _, j => [(j.z, oc ae (b8 b))]
def Um.rep : Um → UmJ → Prop
  | .se m, j => mSe.rep m j.se
  | _, _ => True
def bg (g : Gd) (x : Ts) : Sp → Um
  | .enter => if g.ep = true then .pin (ic g.w g.ta x.work) else .no
  | .holds => if g.ep = true then .no else .se ⟨[g.ta + 2 * x.work + 0], x.h⟩
  | .keeps => if g.ep = true then .no else .se ⟨[g.ta + 2 * x.work + 1], x.v⟩
  | .again => if g.ep = true then .no else .one .again
  | .more => if g.ep = true then .no else .one .still
  | .reads => .one .reads
  | .lasts => .one .lasts
  | .buffers => .one .buffers
  | .loads => .one .loads
  | .still => .one .still
  | .keys => .one .keys
  | .takes => .one .takes
section
variable {L : aZ} {R : Value → Heap → Prop} {G : Heap} {rest : Bl} {A : Ar} {I : List Nat} {g : Gd} {q mq b c : Nat} {s : Sl} {m : Value} {x : Ts} {e : List LE}
def stB (b q : Nat) (x : Ts) (s : Sl) (m : Value) : Nat × Obj := (b, oc ab (tsC x q s m))
theorem Pm (p : Sp) {k : Value → Tree} (bd : 0 ≤ g.ta ∧ g.ta ≤ 1000000 ∧ 0 ≤ x.work ∧ x.work ≤ 1000) (hA : Aw I A) (ok : Ok I G (keys (g.bl q mq e ++ (stB b q x s m :: rest))))
    (h : ∀ (j : UmJ) (gar : Bl), Ok I G (keys (g.bl q mq e ++ (stB b q x s m :: ((bg g x p).bl b j ++ (gar ++ rest))))) → (bg g x p).rep j → wp Tryz.prog (k ((bg g x p).val j)) L (own A (g.bl q mq e ++ (stB b q x s m :: ((bg g x p).bl b j ++ (gar ++ rest)))) G) R) :
    wp Tryz.prog (.act (opS Tryz.prog (.call { callee := .value (.tmp 0), args := #[], argTypes := #[] }) ar [zX p.f b]) (.one (.leaf .val)) k) L (own A (g.bl q mq e ++ (stB b q x s m :: rest)) G) R := by
  have j0 : UmJ := ⟨0, ⟨0, sl0, []⟩⟩
  have nil : bg g x p = .no → wp Tryz.prog (k .nilIface) L (own A (g.bl q mq e ++ (stB b q x s m :: rest)) G) R := fun hn => by
    have := h j0 [] (by rw [hn]; exact ok) (by rw [hn]; trivial)
    rw [hn] at this; exact this
  have one : ∀ {f : K1} {c : Nat}, bg g x p = .one f → Ok I G (keys ((c, oc ae (b8 b)) :: (g.bl q mq e ++ (stB b q x s m :: rest)))) → wp Tryz.prog (k (lA f.f c)) L (own A ((c, oc ae (b8 b)) :: (g.bl q mq e ++ (stB b q x s m :: rest))) G) R := fun {f c} hn o => by
    obtain ⟨p1, o1⟩ := aN (A := A) (l' := g.bl q mq e ++ (stB b q x s m :: ((c, oc ae (b8 b)) :: ([] ++ rest)))) o (aT fun d f c0 cd ca => by simp only [List.nil_append, cd, ca]; omega)
    rw [p1]
    have := h ⟨c, ⟨0, sl0, []⟩⟩ [] (by rw [hn]; exact o1) (by rw [hn]; trivial)
    rw [hn] at this; exact this
  cases p with
  | enter =>
    refine bZ (El _) (JC hA ok (fun he z o => ?_) fun he => nil (if_neg (by rw [he]; decide)))
    have hn : bg g x .enter = .pin (ic g.w g.ta x.work) := if_pos he
    obtain ⟨p1, o1⟩ := aN (A := A) (l' := g.bl q mq e ++ (stB b q x s m :: ((ic g.w g.ta x.work).bl z ++ ([] ++ rest)))) o (aT fun d f c0 cd ca => by show _ = d (g.bl q mq e ++ ((b, oc ab (tsC x q s m)) :: _)); simp only [List.nil_append, cd, ca]; omega)
    rw [p1]
    have := h ⟨z, ⟨0, sl0, []⟩⟩ [] (by rw [hn]; exact o1) (by rw [hn]; trivial)
    rw [hn] at this; exact this
  | reads => exact bZ (D7 _) (IL hA ok fun c o => one (f := .reads) rfl o)
  | lasts => exact bZ (Fj _) (JQ hA ok fun c o => one (f := .lasts) rfl o)
  | buffers => exact bZ (Cf _) (DT hA ok fun c o => one (f := .buffers) rfl o)
  | holds =>
    refine bZ (D4 _) (Ji bd hA ok (fun he j o rp => ?_) fun he => nil (if_pos he))
    have hn : bg g x .holds = .se ⟨[g.ta + 2 * x.work + 0], x.h⟩ := if_neg (by rw [he]; decide)
    obtain ⟨p1, o1⟩ := aN (A := A) (l' := g.bl q mq e ++ (stB b q x s m :: (Se.bl ⟨[g.ta + 2 * x.work + 0], x.h⟩ j ++ ([] ++ rest)))) o (aT fun d f c0 cd ca => by show _ = d (g.bl q mq e ++ ((b, oc ab (tsC x q s m)) :: _)); simp only [List.nil_append, cd, ca]; omega)
    rw [p1]
    have := h ⟨0, j⟩ [] (by rw [hn]; exact o1) (by rw [hn]; exact rp)
    rw [hn] at this; exact this
  | again =>
    refine bZ (Fq _) (IN bd hA ok (fun he c gar o => ?_) fun he gar o => ?_)
    · have hn : bg g x .again = .one .again := if_neg (by rw [he]; decide)
      obtain ⟨p1, o1⟩ := aN (A := A) (l' := g.bl q mq e ++ (stB b q x s m :: ((c, oc ae (b8 b)) :: (gar ++ rest)))) o (aT fun d f c0 cd ca => by show _ = d (g.bl q mq e ++ ((b, oc ab (tsC x q s m)) :: _)); simp only [cd, ca]; omega)
      rw [p1]
      have := h ⟨c, ⟨0, sl0, []⟩⟩ gar (by rw [hn]; exact o1) (by rw [hn]; trivial)
      rw [hn] at this; exact this
    · have hn : bg g x .again = .no := if_pos he
      obtain ⟨p1, o1⟩ := aN (A := A) (l' := g.bl q mq e ++ (stB b q x s m :: (gar ++ rest))) o (aT fun d f c0 cd ca => by show _ = d (g.bl q mq e ++ ((b, oc ab (tsC x q s m)) :: _)); simp only [cd, ca]; omega)
      rw [p1]
      have := h ⟨0, ⟨0, sl0, []⟩⟩ gar (by rw [hn]; exact o1) (by rw [hn]; trivial)
      rw [hn] at this; exact this
  | loads => exact bZ (Fa _) (ID hA ok fun c o => one (f := .loads) rfl o)
  | still => exact bZ (Ej _) (CA hA ok fun c o => one (f := .still) rfl o)
  | keeps =>
    refine bZ (EI _) (Jh bd hA ok (fun he j o rp => ?_) fun he => nil (if_pos he))
    have hn : bg g x .keeps = .se ⟨[g.ta + 2 * x.work + 1], x.v⟩ := if_neg (by rw [he]; decide)
    obtain ⟨p1, o1⟩ := aN (A := A) (l' := g.bl q mq e ++ (stB b q x s m :: (Se.bl ⟨[g.ta + 2 * x.work + 1], x.v⟩ j ++ ([] ++ rest)))) o (aT fun d f c0 cd ca => by show _ = d (g.bl q mq e ++ ((b, oc ab (tsC x q s m)) :: _)); simp only [List.nil_append, cd, ca]; omega)
    rw [p1]
    have := h ⟨0, j⟩ [] (by rw [hn]; exact o1) (by rw [hn]; exact rp)
    rw [hn] at this; exact this
  | more =>
    refine bZ (GS _) (K4 bd hA ok (fun he c gar o => ?_) fun he => nil (if_pos he))
    have hn : bg g x .more = .one .still := if_neg (by rw [he]; decide)
    obtain ⟨p1, o1⟩ := aN (A := A) (l' := g.bl q mq e ++ (stB b q x s m :: ((c, oc ae (b8 b)) :: (gar ++ rest)))) o (aT fun d f c0 cd ca => by show _ = d (g.bl q mq e ++ ((b, oc ab (tsC x q s m)) :: _)); simp only [cd, ca]; omega)
    rw [p1]
    have := h ⟨c, ⟨0, sl0, []⟩⟩ gar (by rw [hn]; exact o1) (by rw [hn]; trivial)
    rw [hn] at this; exact this
  | keys => exact bZ (HB _) (LH hA ok fun c o => one (f := .keys) rfl o)
  | takes => exact bZ (EC _) (Ia hA ok fun c o => one (f := .takes) rfl o)
end
def Um.ji : Um → Bool
  | .no => true
  | _ => false
def nx (g : Gd) (x : Ts) : List Sp → Ts × List Sp × Um
  | [] => if x.leaves = true then (x, [], .no) else ({ x with leaves := true }, [], .se ⟨lX g x.work, 0⟩)
  | p :: ps => if (bg g x p).ji = true then nx g x ps else (x, ps, bg g x p)
section
variable {L : aZ} {R : Value → Heap → Prop} {G : Heap} {rest : Bl} {A : Ar} {I : List Nat} {g : Gd} {q mq b c : Nat} {s : Sl} {m : Value} {x : Ts} {e : List LE}
theorem wS {s' : Sl} {x' : Ts} {m' : Value} {K : Tree} {i : Nat} {v : Value} (hA : Aw I A) (ok : Ok I G (keys (g.bl q mq e ++ (stB b q x s m :: rest)))) (hv : Value.single v = true) (hi : (decide (i < 13)) = true) (hc : (tsC x q s m).set i v = tsC x' q s' m') (h : Ok I G (keys (g.bl q mq e ++ (stB b q x' s' m' :: rest))) → wp Tryz.prog K L (own A (g.bl q mq e ++ (stB b q x' s' m' :: rest)) G) R) :
    wp Tryz.prog (.st ⟨b, i, none⟩ v K) L (own A (g.bl q mq e ++ (stB b q x s m :: rest)) G) R := by
  obtain ⟨p, o⟩ := aN (A := A) (l' := stB b q x s m :: (g.bl q mq e ++ rest)) ok (aT fun c d c0 cd ca => by simp only [cd, ca]; omega)
  rw [p]
  refine cA 0 hA o rfl rfl hv hi ?_
  show wp Tryz.prog K L (own A ((b, oc ab ((tsC x q s m).set i v)) :: (g.bl q mq e ++ rest)) G) R
  rw [hc]
  have o : Ok I G (keys (stB b q x' s' m' :: (g.bl q mq e ++ rest))) := o
  obtain ⟨p2, o2⟩ := aN (A := A) (l' := g.bl q mq e ++ (stB b q x' s' m' :: rest)) o (aT fun c d c0 cd ca => by simp only [cd, ca]; omega)
  show wp Tryz.prog K L (own A (stB b q x' s' m' :: (g.bl q mq e ++ rest)) G) R
  rw [p2]
  exact h o2
def NxP (g : Gd) (q mq b : Nat) (e : List LE) (m : Value) (rest : Bl) (A : Ar) (I : List Nat) (G : Heap) (z : Ts × List Sp × Um) : Value → Heap → Prop := fun v H => ∃ (s' : Sl) (j : UmJ) (gar : Bl), v = z.2.2.val j ∧ H = own A (g.bl q mq e ++ (stB b q z.1 s' m :: (z.2.2.bl b j ++ (gar ++ rest)))) G ∧
  Ok I G (keys (g.bl q mq e ++ (stB b q z.1 s' m :: (z.2.2.bl b j ++ (gar ++ rest))))) ∧ ir rest az (eF b) s' (z.2.1.map Sp.f) ∧ z.2.2.rep j
theorem OH (g : Gd) (x : Ts) (p : Sp) (j : UmJ) (u : TypeId) : opS Tryz.prog (.binOp .neq ar (.tmp 0) (.const .nilIface) ar) u [(bg g x p).val j] = .pure (.value (.bool (!(bg g x p).ji))) := by
  cases bg g x p with
  | no => exact F8 u
  | pin p => exact Ge _ _ u
  | se m => exact Ge _ _ u
  | one f => exact Mg _ _ _ _ u
theorem F1 (bd : 0 ≤ g.ta ∧ g.ta ≤ 1000000 ∧ 0 ≤ x.work ∧ x.work ≤ 1000) (hA : Aw I A) : ∀ (ps : List Sp) (s : Sl) (gar0 : Bl) (y : Value), Ok I G (keys (g.bl q mq e ++ (stB b q x s m :: (gar0 ++ rest)))) → ir rest az (eF b) s (ps.map Sp.f) →
    wp Tryz.prog (.loop 64 hY [y] (gK (some ⟨b, 0, none⟩))) L (own A (g.bl q mq e ++ (stB b q x s m :: (gar0 ++ rest))) G) (NxP g q mq b e m rest A I G (nx g x ps))
  | [], s, gar0, y, ok, hs => by
    have hm : stB b q x s m ∈ g.bl q mq e ++ (stB b q x s m :: (gar0 ++ rest)) := List.mem_append_right _ List.mem_cons_self
    refine bT (y, ()) rfl ?_
    rw [gK]
    refine aa.2 (eQ (x := s) hA ok rfl hm rfl ?_)
    have hl := hs.len
    have hl : s.len = 0 := hl
    refine af (decide_eq_false (by omega)) ?_
    refine aa.2 (eQ (x := x.leaves) hA ok rfl hm rfl ?_)
    by_cases hv : x.leaves = true
    · rw [hv]
      refine av rfl ?_
      refine ad ⟨s, ⟨0, ⟨0, sl0, []⟩⟩, gar0, ?_⟩
      unfold nx
      rw [if_pos hv]
      exact ⟨rfl, rfl, ok, hs, trivial⟩
    · have hv : x.leaves = false := by simpa using hv
      rw [hv]
      refine af rfl (aa.2 ?_)
      refine wS (i := 8) (x' := { x with leaves := true }) hA ok rfl rfl rfl fun ok1 => ?_
      have hm1 : stB b q { x with leaves := true } s m ∈ g.bl q mq e ++ (stB b q { x with leaves := true } s m :: (gar0 ++ rest)) := List.mem_append_right _ List.mem_cons_self
      refine aa.2 (eQ (x := some ⟨q, 0, none⟩) hA ok1 rfl hm1 rfl ?_)
      refine aa.2 (eQ (x := x.work) hA ok1 rfl hm1 rfl ?_)
      refine II bd hA ok1 fun j z ok2 rp => ?_
      obtain ⟨p, o⟩ := aN (A := A) (l' := g.bl q mq e ++ (stB b q { x with leaves := true } s m :: (Se.bl ⟨lX g x.work, 0⟩ j ++ ((z ++ gar0) ++ rest)))) ok2 (aT fun c d c0 cd ca => by simp only [List.append_assoc, cd, ca]; omega)
      rw [p]
      refine ad ⟨s, ⟨0, j⟩, z ++ gar0, ?_⟩
      unfold nx
      rw [if_neg (by rw [hv]; decide)]
      exact ⟨rfl, rfl, o, hs, rp⟩
  | p :: ps, s, gar0, y, ok, hs => by
    have hm : stB b q x s m ∈ g.bl q mq e ++ (stB b q x s m :: (gar0 ++ rest)) := List.mem_append_right _ List.mem_cons_self
    refine bT (y, ()) rfl ?_
    rw [gK]
    refine aa.2 (eQ (x := s) hA ok rfl hm rfl ?_)
    obtain ⟨t1, t2⟩ := ir.NA (x := p.f) (xs := ps.map Sp.f) hs
    refine av (decide_eq_true (by omega)) ?_
    refine aa.2 (eQ (x := s) hA ok rfl hm rfl ?_)
    refine O0 (f := p.f) (fs := ps.map Sp.f) hA ok (hs.mono fun z hz => List.mem_append_right _ (List.mem_cons_of_mem _ (List.mem_append_right _ hz))) ?_
    refine aa.2 (eQ (x := s) hA ok rfl hm rfl ?_)
    refine Og t2 (aa.2 ?_)
    refine wS (i := 6) (s' := gH s 1) (x' := x) hA ok rfl rfl rfl fun ok1 => ?_
    refine Pm p bd hA ok1 fun j gar ok2 rp => ?_
    refine aB (x := !(bg g x p).ji) (OH g x p j _) ?_
    obtain ⟨pp, o3⟩ := aN (A := A) (l' := g.bl q mq e ++ (stB b q x (gH s 1) m :: ((bg g x p).bl b j ++ ((gar ++ gar0) ++ rest)))) ok2 (aT fun c d c0 cd ca => by simp only [List.append_assoc, cd, ca])
    rw [pp]
    cases hn : (bg g x p).ji with
    | false =>
      refine av rfl ?_
      refine ad ⟨gH s 1, j, gar ++ gar0, ?_⟩
      unfold nx
      rw [if_neg (by rw [hn]; decide)]
      exact ⟨rfl, rfl, o3, t1, rp⟩
    | true =>
      refine af rfl (cR ?_)
      have hb : (bg g x p).bl b j = [] := by
        revert hn; cases bg g x p with
        | no => intro _; rfl
        | pin p => intro h; cases h
        | se m => intro h; cases h
        | one f => intro h; cases h
      rw [hb] at o3 ⊢
      have := F1 bd hA ps (gH s 1) (gar ++ gar0) y o3 t1
      unfold nx
      rw [if_pos hn]
      exact this
end
def ly (k : K1) (x : Ts) (ps : List Sp) (A : Ar) : Ts × List Sp × Ar :=
  match k with
  | .reads => ({ x with t := A.ao (dw x.at_ x.victim 0) }, ps, A.aV (dw x.at_ x.victim 0))
  | .lasts => (x, if A.ao (dw x.at_ x.victim 1) ≤ x.t then [] else ps, A.aV (dw x.at_ x.victim 1))
  | .buffers => ({ x with h := A.ao (dw x.at_ x.victim 2) }, ps, A.aV (dw x.at_ x.victim 2))
  | .again => (x, if A.ao (dw x.at_ x.victim 2) = x.h then ps else [], A.aV (dw x.at_ x.victim 2))
  | .loads => ({ x with v := A.bA x.h (dB x.h x.t) }, ps, A.gp x.h (dB x.h x.t))
  | .still => (x, if A.ao (dw x.at_ x.victim 0) = x.t then ps else [], A.aV (dw x.at_ x.victim 0))
  | .keys => (x, if jb (A.bA x.v x.keyAt) x.before = true then ps else [], A.gp x.v x.keyAt)
  | .takes => ({ x with ok := A.cC (dw x.at_ x.victim 0) x.t }, ps, A.dE (dw x.at_ x.victim 0) x.t (w64 (x.t + 1)))
structure St where
  x : Ts
  ps : List Sp
  um : Um
structure TJ where
  b : Nat
  s : Sl
  u : UmJ
  tl : Bl
def St.sub (z : Ts × List Sp × Um) (A : Ar) : St × Ar :=
  match z.2.2 with
  | .no => (⟨z.1, z.2.1, .no⟩, A)
  | .pin p => (⟨z.1, z.2.1, if mPn.fin (p.step A).1 = true then .no else .pin (p.step A).1⟩, (p.step A).2)
  | .se m => (⟨z.1, z.2.1, if mSe.fin (m.step A).1 = true then .no else .se (m.step A).1⟩, (m.step A).2)
  | .one k => (⟨(ly k z.1 z.2.1 A).1, (ly k z.1 z.2.1 A).2.1, .no⟩, (ly k z.1 z.2.1 A).2.2)
def St.nx (g : Gd) (z : St) : Ts × List Sp × Um := if z.um.ji = true ∧ z.x.leaves = false then Go.Proofs.YtjnacjniiogjcaaGreat.nx g z.x z.ps else (z.x, z.ps, z.um)
def St.step (g : Gd) (z : St) (A : Ar) : St × Ar := St.sub (z.nx g) A
def St.bl (g : Gd) (q mq : Nat) (e : List LE) (z : St) (j : TJ) : Bl := g.bl q mq e ++ (stB j.b q z.x j.s (z.um.val j.u) :: (z.um.bl j.b j.u ++ j.tl))
structure Tb (g : Gd) (x : Ts) : Prop where
  b : x.bnd
  a : 0 ≤ g.ta ∧ g.ta ≤ 1000000
  w : 0 ≤ x.work ∧ x.work ≤ 1000
def Um.inv : Um → Prop
  | .pin p => p.ph ≤ 3
  | _ => True
def mTs (g : Gd) (q mq : Nat) (e : List LE) : sB St TJ where
  f := gI
  addr := TJ.b
  bl := St.bl g q mq e
  rep := fun z j => ir j.tl az (eF j.b) j.s (z.ps.map Sp.f) ∧ z.um.rep j.u
  inv := fun z _ => Tb g z.x ∧ z.um.inv
  step := St.step g
  fin := fun z => z.um.ji && z.x.leaves
theorem FP (g : Gd) (q mq : Nat) (e : List LE) : (mTs g q mq e).vX ae := fun q p => by
  show opS _ _ _ _ = .pure (.enter gI [.pointer (some ⟨q, 0, none⟩), .pointer p].toArray)
  kernel_rfl
section
variable {L : aZ} {R : Value → Heap → Prop} {G : Heap} {rest : Bl} {A : Ar} {I : List Nat} {g : Gd} {q mq b c : Nat} {s : Sl} {m : Value} {x : Ts} {e : List LE}
theorem LJ (u : Um) (j : UmJ) (t : TypeId) : opS Tryz.prog (.binOp .eql ar (.tmp 0) (.const .nilIface) ar) t [u.val j] = .pure (.value (.bool u.ji)) := by
  cases u with
  | no => exact Ja t
  | pin p => exact F6 _ _ t
  | se m => exact F6 _ _ t
  | one f => exact OI _ _ _ _ t
theorem Nu (u : Um) (j : UmJ) (t : TypeId) : opS Tryz.prog (.binOp .neq ar (.tmp 0) (.const .nilIface) ar) t [u.val j] = .pure (.value (.bool (!u.ji))) := by
  cases u with
  | no => exact F8 t
  | pin p => exact Ge _ _ t
  | se m => exact Ge _ _ t
  | one f => exact Mg _ _ _ _ t
theorem N1 (a : Addr) (u : Um) (j : UmJ) : opS Tryz.prog (.store ar (.tmp 0) (.tmp 1)) aF [.pointer (some a), u.val j] = .store .plain a (u.val j) (.pure .skip) := by cases u <;> kernel_rfl
theorem Ht (u : Um) (j : UmJ) : Value.single (u.val j) = true := by cases u <;> rfl
def TsP (g : Gd) (q mq : Nat) (e : List LE) (b : Nat) (z : St × Ar) (I : List Nat) (G : Heap) : Value → Heap → Prop := fun v K => ∃ j : TJ, v = .bool (z.1.um.ji && z.1.x.leaves) ∧ K = own z.2 (z.1.bl g q mq e j) G ∧ j.b = b ∧ Ok I G (keys (z.1.bl g q mq e j)) ∧ (ir j.tl az (eF j.b) j.s (z.1.ps.map Sp.f) ∧ z.1.um.rep j.u) ∧ Aw I z.2
theorem Cs {z : St} {j : TJ} (hA : Aw I A) (ok : Ok I G (keys (z.bl g q mq e j))) (rp : ir j.tl az (eF j.b) j.s (z.ps.map Sp.f) ∧ z.um.rep j.u) :
    wp Tryz.prog (.look (opS Tryz.prog (.nilCheck (.tmp 0)) aF [(.pointer (some ⟨j.b, 0, none⟩))]) (.one (.leaf .addr)) fun x39 =>
      .ld (x39.add 7) .val fun x41 =>
      .look (opS Tryz.prog (.binOp .eql ar (.tmp 0) (.const .nilIface) ar) aO [x41]) (.one (.leaf .bool)) fun x42 =>
      bif x42 then (
        .look (opS Tryz.prog (.nilCheck (.tmp 0)) aF [(.pointer (some ⟨j.b, 0, none⟩))]) (.one (.leaf .addr)) fun x45 =>
        .ld (x45.add 8) .bool fun x47 =>
        .ret (.bool x47))
      else (
        .ret (.bool false))) L (own A (z.bl g q mq e j) G) (TsP g q mq e j.b (z, A) I G) := by
  have hm : stB j.b q z.x j.s (z.um.val j.u) ∈ z.bl g q mq e j := List.mem_append_right _ List.mem_cons_self
  refine aa.2 (eQ (x := z.um.val j.u) hA ok rfl hm rfl ?_)
  refine aB (x := z.um.ji) (LJ _ _ _) ?_
  have P : ∀ w : Bool, w = (z.um.ji && z.x.leaves) → TsP g q mq e j.b (z, A) I G (.bool w) (own A (z.bl g q mq e j) G) := fun w hw => ⟨j, by rw [hw], rfl, rfl, ok, rp, hA⟩
  cases hn : z.um.ji with
  | false => exact af rfl (ad (P _ (by rw [hn]; rfl)))
  | true =>
    refine av rfl (aa.2 (eQ (x := z.x.leaves) hA ok rfl hm rfl ?_))
    exact ad (P _ (by rw [hn]; rfl))
theorem IF (k : K1) {ps : List Sp} (hb : x.bnd) (hA : Aw I A) (ok : Ok I G (keys ((b, oc ab (tsC x q s m)) :: rest))) (hc : (c, oc ae (b8 b)) ∈ (b, oc ab (tsC x q s m)) :: rest) {tl : Bl} (hs : ir tl az (eF b) s (ps.map Sp.f)) :
    ∃ s', ir tl az (eF b) s' ((ly k x ps A).2.1.map Sp.f) ∧ cB Tryz.prog jH #[.func (.func k.f) #[] #[(.pointer (some ⟨c, 0, none⟩))], .pointer (aI I)] (own A ((b, oc ab (tsC x q s m)) :: rest) G) fun v H => v = .bool true ∧ H = own (ly k x ps A).2.2 ((b, oc ab (tsC (ly k x ps A).1 q s' m)) :: rest) G ∧ Aw I (ly k x ps A).2.2 := by
  have two : ∀ {d : Prop} [Decidable d], ir tl az (eF b) (if d then ⟨none, 0, 0⟩ else s) ((if d then [] else ps).map Sp.f) := fun {d} _ => by
    by_cases h : d
    · rw [if_pos h, if_pos h]; exact .inl ⟨rfl, rfl⟩
    · rw [if_neg h, if_neg h]; exact hs
  have two' : ∀ {d : Prop} [Decidable d], ir tl az (eF b) (if d then s else ⟨none, 0, 0⟩) ((if d then ps else []).map Sp.f) := fun {d} _ => by
    by_cases h : d
    · rw [if_pos h, if_pos h]; exact hs
    · rw [if_neg h, if_neg h]; exact .inl ⟨rfl, rfl⟩
  cases k with
  | reads => exact ⟨s, hs, pZ (GC _ _) (DO hb hA ok hc)⟩
  | lasts => exact ⟨_, two, pZ (HN _ _) (E9 hb hA ok hc)⟩
  | buffers => exact ⟨s, hs, pZ (Cz _ _) (BI hb hA ok hc)⟩
  | again => exact ⟨_, two', pZ (GB _ _) (DU hb hA ok hc)⟩
  | loads => exact ⟨s, hs, pZ (GX _ _) (Eb hb hA ok hc)⟩
  | still => exact ⟨_, two', pZ (GK _ _) (Ef hb hA ok hc)⟩
  | keys => exact ⟨_, two', pZ (JB _ _) (HE hb hA ok hc)⟩
  | takes => exact ⟨s, hs, pZ (HP _ _) (Fy hb hA ok hc)⟩
theorem EA {z : Ts × List Sp × Um} {j : TJ} (hb : Tb g z.1) (hi : z.2.2.inv) (hA : Aw I A) (ok : Ok I G (keys (St.bl g q mq e ⟨z.1, z.2.1, z.2.2⟩ j))) (rp : ir j.tl az (eF j.b) j.s (z.2.1.map Sp.f) ∧ z.2.2.rep j.u) :
    wp Tryz.prog (.look (opS Tryz.prog (.nilCheck (.tmp 0)) aF [(.pointer (some ⟨j.b, 0, none⟩))]) (.one (.leaf .addr)) fun x23 =>
      .ld (x23.add 7) .val fun x25 =>
      .look (opS Tryz.prog (.binOp .neq ar (.tmp 0) (.const .nilIface) ar) aO [x25]) (.one (.leaf .bool)) fun x26 =>
      bif x26 then (
        .look (opS Tryz.prog (.nilCheck (.tmp 0)) aF [(.pointer (some ⟨j.b, 0, none⟩))]) (.one (.leaf .addr)) fun x29 =>
        .ld (x29.add 7) .val fun x31 =>
        .act (opS Tryz.prog (.call { callee := .invoke (.tmp 0) "Step", args := #[(.tmp 1)], argTypes := #[aK] }) aO [x31, (.pointer (aI I))]) (.one (.leaf .bool)) fun x33 =>
        bif x33 then (
          .look (opS Tryz.prog (.nilCheck (.tmp 0)) aF [(.pointer (some ⟨j.b, 0, none⟩))]) (.one (.leaf .addr)) fun x36 =>
          .st (x36.add 7) .nilIface <|
          .look (opS Tryz.prog (.nilCheck (.tmp 0)) aF [(.pointer (some ⟨j.b, 0, none⟩))]) (.one (.leaf .addr)) fun x39 =>
          .ld (x39.add 7) .val fun x41 =>
          .look (opS Tryz.prog (.binOp .eql ar (.tmp 0) (.const .nilIface) ar) aO [x41]) (.one (.leaf .bool)) fun x42 =>
          bif x42 then (
            .look (opS Tryz.prog (.nilCheck (.tmp 0)) aF [(.pointer (some ⟨j.b, 0, none⟩))]) (.one (.leaf .addr)) fun x45 =>
            .ld (x45.add 8) .bool fun x47 =>
            .ret (.bool x47))
          else (
            .ret (.bool false)))
        else (
          .look (opS Tryz.prog (.nilCheck (.tmp 0)) aF [(.pointer (some ⟨j.b, 0, none⟩))]) (.one (.leaf .addr)) fun x39 =>
          .ld (x39.add 7) .val fun x41 =>
          .look (opS Tryz.prog (.binOp .eql ar (.tmp 0) (.const .nilIface) ar) aO [x41]) (.one (.leaf .bool)) fun x42 =>
          bif x42 then (
            .look (opS Tryz.prog (.nilCheck (.tmp 0)) aF [(.pointer (some ⟨j.b, 0, none⟩))]) (.one (.leaf .addr)) fun x45 =>
            .ld (x45.add 8) .bool fun x47 =>
            .ret (.bool x47))
          else (
            .ret (.bool false))))
      else (
        .look (opS Tryz.prog (.nilCheck (.tmp 0)) aF [(.pointer (some ⟨j.b, 0, none⟩))]) (.one (.leaf .addr)) fun x39 =>
        .ld (x39.add 7) .val fun x41 =>
        .look (opS Tryz.prog (.binOp .eql ar (.tmp 0) (.const .nilIface) ar) aO [x41]) (.one (.leaf .bool)) fun x42 =>
        bif x42 then (
          .look (opS Tryz.prog (.nilCheck (.tmp 0)) aF [(.pointer (some ⟨j.b, 0, none⟩))]) (.one (.leaf .addr)) fun x45 =>
          .ld (x45.add 8) .bool fun x47 =>
          .ret (.bool x47))
        else (
          .ret (.bool false)))) L (own A (St.bl g q mq e ⟨z.1, z.2.1, z.2.2⟩ j) G) (TsP g q mq e j.b (St.sub z A) I G) := by
  obtain ⟨x, ps, um⟩ := z
  obtain ⟨b, s, u, tl⟩ := j
  dsimp only at hb hi rp ok ⊢
  have hm : stB b q x s (um.val u) ∈ St.bl g q mq e ⟨x, ps, um⟩ ⟨b, s, u, tl⟩ := List.mem_append_right _ List.mem_cons_self
  refine aa.2 (eQ (x := um.val u) hA ok rfl hm rfl ?_)
  refine aB (x := !um.ji) (Nu _ _ _) ?_
  -- behind the end of what is under way
  have fin : ∀ {B : Ar} {x' : Ts} {ps' : List Sp} {s' : Sl} {m' : Value} {tl' : Bl} {j0 : UmJ}, Aw I B → Ok I G (keys (g.bl q mq e ++ (stB b q x' s' m' :: tl'))) → ir tl' az (eF b) s' (ps'.map Sp.f) →
      wp Tryz.prog (.look (opS Tryz.prog (.nilCheck (.tmp 0)) aF [(.pointer (some ⟨b, 0, none⟩))]) (.one (.leaf .addr)) fun x36 =>
          .st (x36.add 7) .nilIface <|
          .look (opS Tryz.prog (.nilCheck (.tmp 0)) aF [(.pointer (some ⟨b, 0, none⟩))]) (.one (.leaf .addr)) fun x39 =>
          .ld (x39.add 7) .val fun x41 =>
          .look (opS Tryz.prog (.binOp .eql ar (.tmp 0) (.const .nilIface) ar) aO [x41]) (.one (.leaf .bool)) fun x42 =>
          bif x42 then (
            .look (opS Tryz.prog (.nilCheck (.tmp 0)) aF [(.pointer (some ⟨b, 0, none⟩))]) (.one (.leaf .addr)) fun x45 =>
            .ld (x45.add 8) .bool fun x47 =>
            .ret (.bool x47))
          else (
            .ret (.bool false))) L (own B (g.bl q mq e ++ (stB b q x' s' m' :: tl')) G) (TsP g q mq e b (⟨x', ps', .no⟩, B) I G) := fun {B x' ps' s' m' tl' j0} hB o hs => by
    refine aa.2 (wS (i := 7) (s' := s') (x' := x') (m' := .nilIface) hB o rfl rfl rfl fun o1 => ?_)
    exact Cs (z := ⟨x', ps', .no⟩) (j := ⟨b, s', u, tl'⟩) hB o1 ⟨hs, trivial⟩
  cases um with
  | no => exact af rfl (Cs (z := ⟨x, ps, .no⟩) (j := ⟨b, s, u, tl⟩) hA ok rp)
  | one k =>
    refine av rfl (aa.2 (eQ (x := lA k.f u.z) hA ok rfl hm rfl ?_))
    refine bZ (Kd _ _) ?_
    have ok : Ok I G (keys (g.bl q mq e ++ (stB b q x s (lA k.f u.z) :: ([(u.z, oc ae (b8 b))] ++ tl)))) := ok
    obtain ⟨p1, o1⟩ := aN (A := A) (l' := (b, oc ab (tsC x q s (lA k.f u.z))) :: (g.bl q mq e ++ ([(u.z, oc ae (b8 b))] ++ tl))) ok (aT fun d f c0 cd ca => by show d (g.bl q mq e ++ ((b, oc ab (tsC x q s (lA k.f u.z))) :: _)) = _; simp only [cd, ca]; omega)
    show wp Tryz.prog _ L (own A (g.bl q mq e ++ (stB b q x s (lA k.f u.z) :: ([(u.z, oc ae (b8 b))] ++ tl))) G) _
    rw [p1]
    obtain ⟨s', hs', sp⟩ := IF k (ps := ps) (c := u.z) hb.b hA o1 (List.mem_cons_of_mem _ (List.mem_append_right _ List.mem_cons_self)) rp.1
    refine aR sp ?_
    rintro v H ⟨rfl, rfl, hB⟩
    refine ⟨true, rfl, av rfl ?_⟩
    have o2 : Ok I G (keys ((b, oc ab (tsC (ly k x ps A).1 q s' (lA k.f u.z))) :: (g.bl q mq e ++ ([(u.z, oc ae (b8 b))] ++ tl)))) := o1
    obtain ⟨p2, o3⟩ := aN (A := (ly k x ps A).2.2) (l' := g.bl q mq e ++ (stB b q (ly k x ps A).1 s' (lA k.f u.z) :: ([(u.z, oc ae (b8 b))] ++ tl))) o2 (aT fun d f c0 cd ca => by show _ = d (g.bl q mq e ++ ((b, oc ab (tsC (ly k x ps A).1 q s' (lA k.f u.z))) :: _)); simp only [cd, ca]; omega)
    rw [p2]
    exact fin (j0 := u) hB o3 (hs'.mono fun p hp => List.mem_append_right _ hp)
  | pin p =>
    refine av rfl (aa.2 (eQ (x := .iface cP (.pointer (some ⟨u.z, 0, none⟩))) hA ok rfl hm rfl ?_))
    refine bZ (K3 _ _) ?_
    have ok : Ok I G (keys (g.bl q mq e ++ (stB b q x s (.iface cP (.pointer (some ⟨u.z, 0, none⟩))) :: (p.bl u.z ++ tl)))) := ok
    obtain ⟨p1, o1⟩ := aN (A := A) (l' := p.bl u.z ++ (g.bl q mq e ++ (stB b q x s (.iface cP (.pointer (some ⟨u.z, 0, none⟩))) :: tl))) ok (aT fun d f c0 cd ca => by simp only [cd, ca]; omega)
    show wp Tryz.prog _ L (own A (g.bl q mq e ++ (stB b q x s (.iface cP (.pointer (some ⟨u.z, 0, none⟩))) :: (p.bl u.z ++ tl))) G) _
    rw [p1]
    rw [bP] at o1
    obtain ⟨oa, ob⟩ := o1.split
    refine rh (Nj I A _ p u.z hA oa hi) ?_
    rintro v H ⟨z', rfl, rfl, ha, o3, hB⟩
    have ha : z' = u.z := ha
    subst ha
    refine ⟨mPn.fin (p.step A).1, rfl, ?_⟩
    rw [← dY]
    have o4 : Ok I G (keys ((p.step A).1.bl u.z ++ (g.bl q mq e ++ (stB b q x s (.iface cP (.pointer (some ⟨u.z, 0, none⟩))) :: tl)))) := by rw [bP]; exact o3.join ob
    have hB : Aw I (p.step A).2 := hB
    obtain ⟨p2, o5⟩ := aN (A := (p.step A).2) (l' := g.bl q mq e ++ (stB b q x s (.iface cP (.pointer (some ⟨u.z, 0, none⟩))) :: ((p.step A).1.bl u.z ++ tl))) o4 (aT fun d f c0 cd ca => by simp only [cd, ca]; omega)
    show wp Tryz.prog _ L (own (p.step A).2 ((p.step A).1.bl u.z ++ (g.bl q mq e ++ (stB b q x s (.iface cP (.pointer (some ⟨u.z, 0, none⟩))) :: tl))) G) (TsP g q mq e b (⟨x, ps, if mPn.fin (p.step A).1 = true then .no else .pin (p.step A).1⟩, (p.step A).2) I G)
    rw [p2]
    cases hf : mPn.fin (p.step A).1 with
    | true =>
      rw [if_pos rfl]
      exact av rfl (fin (j0 := u) hB o5 (rp.1.mono fun p hp => List.mem_append_right _ hp))
    | false =>
      rw [if_neg (by decide)]
      exact af rfl (Cs (z := ⟨x, ps, .pin (p.step A).1⟩) (j := ⟨b, s, u, tl⟩) hB o5 ⟨rp.1, trivial⟩)
  | se p =>
    refine av rfl (aa.2 (eQ (x := .iface bF (.pointer (some ⟨u.se.q, 0, none⟩))) hA ok rfl hm rfl ?_))
    refine bZ (Le _ _) ?_
    have ok : Ok I G (keys (g.bl q mq e ++ (stB b q x s (.iface bF (.pointer (some ⟨u.se.q, 0, none⟩))) :: (p.bl u.se ++ tl)))) := ok
    obtain ⟨p1, o1⟩ := aN (A := A) (l' := p.bl u.se ++ (g.bl q mq e ++ (stB b q x s (.iface bF (.pointer (some ⟨u.se.q, 0, none⟩))) :: tl))) ok (aT fun d f c0 cd ca => by simp only [cd, ca]; omega)
    show wp Tryz.prog _ L (own A (g.bl q mq e ++ (stB b q x s (.iface bF (.pointer (some ⟨u.se.q, 0, none⟩))) :: (p.bl u.se ++ tl))) G) _
    rw [p1]
    rw [bP] at o1
    obtain ⟨oa, ob⟩ := o1.split
    refine rh (Nr I A _ p u.se hA oa rp.2 trivial) ?_
    rintro v H ⟨z', rfl, rfl, ha, o3, rp', hB⟩
    have ha : z'.q = u.se.q := ha
    refine ⟨mSe.fin (p.step A).1, rfl, ?_⟩
    rw [← dY]
    have o4 : Ok I G (keys ((p.step A).1.bl z' ++ (g.bl q mq e ++ (stB b q x s (.iface bF (.pointer (some ⟨u.se.q, 0, none⟩))) :: tl)))) := by rw [bP]; exact o3.join ob
    have hB : Aw I (p.step A).2 := hB
    obtain ⟨p2, o5⟩ := aN (A := (p.step A).2) (l' := g.bl q mq e ++ (stB b q x s (.iface bF (.pointer (some ⟨u.se.q, 0, none⟩))) :: ((p.step A).1.bl z' ++ tl))) o4 (aT fun d f c0 cd ca => by simp only [cd, ca]; omega)
    show wp Tryz.prog _ L (own (p.step A).2 ((p.step A).1.bl z' ++ (g.bl q mq e ++ (stB b q x s (.iface bF (.pointer (some ⟨u.se.q, 0, none⟩))) :: tl))) G) (TsP g q mq e b (⟨x, ps, if mSe.fin (p.step A).1 = true then .no else .se (p.step A).1⟩, (p.step A).2) I G)
    rw [p2]
    cases hf : mSe.fin (p.step A).1 with
    | true =>
      rw [if_pos rfl]
      exact av rfl (fin (j0 := u) hB o5 (rp.1.mono fun p hp => List.mem_append_right _ hp))
    | false =>
      rw [if_neg (by decide)]
      rw [← ha] at o5 ⊢
      exact af rfl (Cs (z := ⟨x, ps, .se (p.step A).1⟩) (j := ⟨b, s, ⟨u.z, z'⟩, tl⟩) hB o5 ⟨rp.1, rp'⟩)
theorem LN : ∀ (ps : List Sp), Tb g x → Tb g (nx g x ps).1
  | [], h => by
    unfold nx
    split
    · exact h
    · exact ⟨⟨h.b.a, h.b.w⟩, h.a, h.w⟩
  | p :: ps, h => by
    unfold nx
    split
    · exact LN ps h
    · exact h
theorem M3 (p : Sp) : (bg g x p).inv := by
  by_cases he : g.ep = true <;> cases p <;> simp [bg, he, Um.inv, ic]
theorem J7 : ∀ (ps : List Sp), (nx g x ps).2.2.inv
  | [] => by unfold nx; split <;> trivial
  | p :: ps => by
    unfold nx
    split
    · exact J7 ps
    · exact M3 p
theorem Ec : (mTs g q mq e).ok := by
  rintro I A G ⟨x, ps, um⟩ ⟨b, s, u, tl⟩ hA ok rp ⟨hb, hi⟩
  have hb : Tb g x := hb
  have hi : um.inv := hi
  have ok : Ok I G (keys (St.bl g q mq e ⟨x, ps, um⟩ ⟨b, s, u, tl⟩)) := ok
  have rp : ir tl az (eF b) s (ps.map Sp.f) ∧ um.rep u := rp
  refine cB.mono (R := TsP g q mq e b (St.step g ⟨x, ps, um⟩ A) I G) ?_ ?_
  rotate_left
  · rintro v K ⟨j, rfl, rfl, a1, o, r, a⟩
    exact ⟨j, rfl, rfl, a1, o, r, a⟩
  refine ri fun L => ?_
  unfold oT
  have hm : stB b q x s (um.val u) ∈ St.bl g q mq e ⟨x, ps, um⟩ ⟨b, s, u, tl⟩ := List.mem_append_right _ List.mem_cons_self
  show wp Tryz.prog _ L (own A (St.bl g q mq e ⟨x, ps, um⟩ ⟨b, s, u, tl⟩) G) _
  refine aa.2 (eQ (x := um.val u) hA ok rfl hm rfl ?_)
  refine aB (x := um.ji) (LJ _ _ _) ?_
  unfold St.step
  cases hn : um.ji with
  | false =>
    refine af rfl ?_
    have e1 : St.nx g ⟨x, ps, um⟩ = (x, ps, um) := if_neg (fun h => by have := h.1; rw [show (St.mk x ps um).um = um from rfl, hn] at this; cases this)
    rw [e1]
    exact EA (z := (x, ps, um)) (j := ⟨b, s, u, tl⟩) hb hi hA ok rp
  | true =>
    refine av rfl (aa.2 (eQ (x := x.leaves) hA ok rfl hm rfl ?_))
    cases hl : x.leaves with
    | true =>
      refine af rfl ?_
      have e1 : St.nx g ⟨x, ps, um⟩ = (x, ps, um) := if_neg (fun h => by have := h.2; rw [show (St.mk x ps um).x = x from rfl, hl] at this; cases this)
      rw [e1]
      exact EA (z := (x, ps, um)) (j := ⟨b, s, u, tl⟩) hb hi hA ok rp
    | false =>
      refine av rfl ?_
      have e1 : St.nx g ⟨x, ps, um⟩ = nx g x ps := if_pos ⟨hn, hl⟩
      rw [e1]
      have hu : um = .no := by cases um <;> first | rfl | cases hn
      subst hu
      refine aR (R0 := NxP g q mq b e .nilIface tl A I G (nx g x ps)) ?_ ?_
      · refine r8 fun L => ?_
        unfold oB
        exact F1 ⟨hb.a.1, hb.a.2, hb.w.1, hb.w.2⟩ hA ps s [] .nilIface ok rp.1
      · rintro v H ⟨s', j, gar, rfl, rfl, o1, h1, h2⟩
        refine ⟨_, rfl, ?_⟩
        have tb := LN ps hb
        have iv := J7 (g := g) (x := x) ps
        generalize nx g x ps = z at *
        refine aa.2 ?_
        rw [N1]
        refine wS (i := 7) (s' := s') (x' := z.1) (m' := z.2.2.val j) hA o1 (Ht _ _) rfl rfl fun o2 => ?_
        exact EA (z := z) (j := ⟨b, s', j, gar ++ tl⟩) tb iv hA o2 ⟨h1.mono fun p hp => List.mem_append_right _ hp, h2⟩
end
section
variable {A B C : Ar} {g : Gd} {q mq N : Nat} {e : List LE} {x x' : Ts} {ps ps' : List Sp} {z : St}
theorem Ak {p : Sp} (hb : bg g x p = .no) (hl : x.leaves = false) (h : (mTs g q mq e).gh N ⟨x, ps, .no⟩ A z B) : (mTs g q mq e).gh N ⟨x, p :: ps, .no⟩ A z B := by
  have es : (mTs g q mq e).step ⟨x, p :: ps, .no⟩ A = (mTs g q mq e).step ⟨x, ps, .no⟩ A := by
    show St.sub (St.nx g ⟨x, p :: ps, .no⟩) A = St.sub (St.nx g ⟨x, ps, .no⟩) A
    have e1 : St.nx g ⟨x, p :: ps, .no⟩ = nx g x (p :: ps) := if_pos ⟨rfl, hl⟩
    have e2 : St.nx g ⟨x, ps, .no⟩ = nx g x ps := if_pos ⟨rfl, hl⟩
    rw [e1, e2]
    have : nx g x (p :: ps) = nx g x ps := by
      show (if (bg g x p).ji = true then nx g x ps else (x, ps, bg g x p)) = _
      rw [hb]; exact if_pos rfl
    rw [this]
  have iv : (mTs g q mq e).inv ⟨x, ps, .no⟩ A → (mTs g q mq e).inv ⟨x, p :: ps, .no⟩ A := fun h => h
  generalize hy : (⟨x, ps, .no⟩ : St) = y at *
  cases h with
  | one hi hst hu hf => exact .one (iv hi) (es.trans hst) hu hf
  | more hi hst hu hf hr => exact .more (iv hi) (es.trans hst) hu hf hr
theorem Bv {p : Sp} (hl : x.leaves = false) (hb : (bg g x p).ji = false) : St.nx g ⟨x, p :: ps, .no⟩ = (x, ps, bg g x p) := by
  have e1 : St.nx g ⟨x, p :: ps, .no⟩ = nx g x (p :: ps) := if_pos ⟨rfl, hl⟩
  rw [e1]
  show (if (bg g x p).ji = true then nx g x ps else (x, ps, bg g x p)) = _
  rw [hb, if_neg (by decide)]
theorem Kg (k : K1) (x : Ts) (ps : List Sp) (A : Ar) : (ly k x ps A).1.leaves = x.leaves := by cases k <;> rfl
theorem wP {p : Sp} {k : K1} (tb : Tb g x) (hb : bg g x p = .one k) (hl : x.leaves = false) (e1 : ly k x ps A = (x', ps', B)) (hu : B.aD ≤ w64 (A.aD + 1)) (h : (mTs g q mq e).gh N ⟨x', ps', .no⟩ B z C) : (mTs g q mq e).gh (N + 1) ⟨x, p :: ps, .no⟩ A z C := by
  refine .more (x1 := ⟨x', ps', .no⟩) (D1 := B) ⟨tb, trivial⟩ ?_ hu ?_ h
  · show St.sub (St.nx g ⟨x, p :: ps, .no⟩) A = _
    rw [Bv hl (by rw [hb]; rfl), hb]
    show ((⟨(ly k x ps A).1, (ly k x ps A).2.1, .no⟩ : St), (ly k x ps A).2.2) = _
    rw [e1]
  · have := Kg k x ps A
    rw [e1] at this
    show (true && x'.leaves) = false
    rw [show x'.leaves = x.leaves from this, hl]; rfl
theorem Of {p : Sp} {w v : Int} (tb : Tb g x) (hb : bg g x p = .se ⟨[w], v⟩) (hl : x.leaves = false) (hu : (A.aL w v).aD ≤ w64 (A.aD + 1)) (h : (mTs g q mq e).gh N ⟨x, ps, .no⟩ (A.aL w v) z C) : (mTs g q mq e).gh (N + 1) ⟨x, p :: ps, .no⟩ A z C := by
  refine .more (x1 := ⟨x, ps, .no⟩) (D1 := A.aL w v) ⟨tb, trivial⟩ ?_ hu ?_ h
  · show St.sub (St.nx g ⟨x, p :: ps, .no⟩) A = _
    rw [Bv hl (by rw [hb]; rfl), hb]; rfl
  · show (true && x.leaves) = false; rw [hl]; rfl
theorem MK {n : Nat} {u u' : Pn} (tb : Tb g x) (hl : x.leaves = false) (hp : mPn.gh n u A u' B) (h : (mTs g q mq e).gh N ⟨x, ps, .no⟩ B z C) : (mTs g q mq e).gh (n + N) ⟨x, ps, .pin u⟩ A z C := by
  have fl : ∀ y : Um, (mTs g q mq e).fin ⟨x, ps, y⟩ = false := fun y => by show (y.ji && x.leaves) = false; rw [hl, Bool.and_false]
  have st : ∀ (u : Pn) (A : Ar), (mTs g q mq e).step ⟨x, ps, .pin u⟩ A = (⟨x, ps, if mPn.fin (u.step A).1 = true then .no else .pin (u.step A).1⟩, (u.step A).2) := fun u A => by
    show St.sub (St.nx g ⟨x, ps, .pin u⟩) A = _
    have : St.nx g ⟨x, ps, .pin u⟩ = (x, ps, .pin u) := if_neg (fun h => (by cases h.1))
    rw [this]; rfl
  induction hp with
  | @one u A hi hu hf =>
    rw [Nat.add_comm]
    refine .more (x1 := ⟨x, ps, .no⟩) ⟨tb, hi⟩ ((st u A).trans ?_) hu (fl _) h
    have hf : mPn.fin (u.step A).1 = true := hf
    rw [if_pos hf]; rfl
  | @more n u A u' A' hi hu hf hr ih =>
    rw [show n + 1 + N = n + N + 1 by omega]
    refine .more (x1 := ⟨x, ps, .pin (u.step A).1⟩) ⟨tb, hi⟩ ((st u A).trans ?_) hu (fl _) (ih h)
    have hf : mPn.fin (u.step A).1 = false := hf
    rw [if_neg (by rw [hf]; decide)]; rfl
theorem Ol {n : Nat} {u u' : Pn} {p : Sp} (tb : Tb g x) (hb : bg g x p = .pin u) (hl : x.leaves = false) (hp : mPn.gh n u A u' B) (h : (mTs g q mq e).gh N ⟨x, ps, .no⟩ B z C) : (mTs g q mq e).gh (n + N) ⟨x, p :: ps, .no⟩ A z C := by
  have h2 := MK tb hl hp h
  have es : (mTs g q mq e).step ⟨x, p :: ps, .no⟩ A = (mTs g q mq e).step ⟨x, ps, .pin u⟩ A := by
    show St.sub (St.nx g ⟨x, p :: ps, .no⟩) A = St.sub (St.nx g ⟨x, ps, .pin u⟩) A
    have : St.nx g ⟨x, ps, .pin u⟩ = (x, ps, .pin u) := if_neg (fun h => (by cases h.1))
    rw [this, Bv hl (by rw [hb]; rfl), hb]
  have iv : (mTs g q mq e).inv ⟨x, ps, .pin u⟩ A → (mTs g q mq e).inv ⟨x, p :: ps, .no⟩ A := fun h => ⟨h.1, trivial⟩
  generalize hy : (⟨x, ps, .pin u⟩ : St) = y at *
  generalize n + N = M at *
  cases h2 with
  | one hi hst hu hf => exact .one (iv hi) (es.trans hst) hu hf
  | more hi hst hu hf hr => exact .more (iv hi) (es.trans hst) hu hf hr
theorem Io (he : g.ep = true) (tb : Tb g x) (hl : x.leaves = false) (hu : (A.aL (ewd g.ta x.work) 0).aD ≤ w64 (A.aD + 1)) : (mTs g q mq e).gh 1 ⟨x, [], .no⟩ A ⟨{ x with leaves := true }, [], .no⟩ (A.aL (ewd g.ta x.work) 0) := by
  refine .one ⟨tb, trivial⟩ ?_ hu rfl
  show St.sub (St.nx g ⟨x, [], .no⟩) A = _
  have e1 : St.nx g ⟨x, [], .no⟩ = nx g x [] := if_pos ⟨rfl, hl⟩
  rw [e1]
  unfold nx
  rw [if_neg (by rw [hl]; decide)]
  unfold lX
  rw [he]; rfl
theorem Jt (he : g.ep = false) (tb : Tb g x) (hl : x.leaves = false) (hu : (A.aL (g.ta + 2 * x.work) 0).aD ≤ w64 (A.aD + 1)) (hu2 : ((A.aL (g.ta + 2 * x.work) 0).aL (g.ta + 2 * x.work + 1) 0).aD ≤ w64 ((A.aL (g.ta + 2 * x.work) 0).aD + 1)) :
    (mTs g q mq e).gh 2 ⟨x, [], .no⟩ A ⟨{ x with leaves := true }, [], .no⟩ ((A.aL (g.ta + 2 * x.work) 0).aL (g.ta + 2 * x.work + 1) 0) := by
  have iv1 : (mTs g q mq e).inv ⟨{ x with leaves := true }, [], .se ⟨[g.ta + 2 * x.work + 1], 0⟩⟩ (A.aL (g.ta + 2 * x.work) 0) := ⟨⟨⟨tb.b.a, tb.b.w⟩, tb.a, tb.w⟩, trivial⟩
  refine .more (x1 := ⟨{ x with leaves := true }, [], .se ⟨[g.ta + 2 * x.work + 1], 0⟩⟩) ⟨tb, trivial⟩ ?_ hu rfl (.one iv1 ?_ hu2 rfl)
  · show St.sub (St.nx g ⟨x, [], .no⟩) A = _
    have e1 : St.nx g ⟨x, [], .no⟩ = nx g x [] := if_pos ⟨rfl, hl⟩
    rw [e1]
    unfold nx
    rw [if_neg (by rw [hl]; decide)]
    unfold lX
    rw [he]; rfl
  · show St.sub (St.nx g ⟨{ x with leaves := true }, [], .se ⟨[g.ta + 2 * x.work + 1], 0⟩⟩) (A.aL (g.ta + 2 * x.work) 0) = _
    have e1 : St.nx g ⟨{ x with leaves := true }, [], .se ⟨[g.ta + 2 * x.work + 1], 0⟩⟩ = ({ x with leaves := true }, [], .se ⟨[g.ta + 2 * x.work + 1], 0⟩) := if_neg (fun h => (by cases h.1))
    rw [e1]; rfl
end
section
variable {A B C D : Ar} {g : Gd} {m : Int} {S : Sg} {l : Int → List (Int × Int)} {u u' at_ ex i w : Int} {n v : Nat} {f : Nat → Dq} {q mq N : Nat} {e : List LE} {x x' : Ts} {ps ps' : List Sp} {z : St}
structure Sm (A : Ar) (g : Gd) (m : Int) (S : Sg) (l : Int → List (Int × Int)) (B : Ar) (u : Int) : Prop where
  gi : GI B g m S l
  al : Ar.Alike A B
  st : ∀ h, B.stF h = A.stF h
  lf : ∀ h j, B.bA h j = A.bA h j
  rf : ∀ i, g.ta + cm g.ep g.w ≤ i → B.ao i = A.ao i
  gt : g.ep = true → B.ao g.ta = A.ao g.ta
  nL : B.nL = A.nL
  rl : B.raw.length = A.raw.length
  us : B.aD = A.aD + u
  u0 : 0 ≤ u
theorem Sm.refl (X : GI A g m S l) : Sm A g m S l A 0 := ⟨X, .refl A, fun _ => rfl, fun _ _ => rfl, fun _ _ => rfl, fun _ => rfl, rfl, rfl, by omega, by decide⟩
theorem Sm.trans (a : Sm A g m S l B u) (b : Sm B g m S l C u') : Sm A g m S l C (u + u') :=
  ⟨b.gi, a.al.trans b.al, fun h => (b.st h).trans (a.st h), fun h j => (b.lf h j).trans (a.lf h j), fun i hi => (b.rf i hi).trans (a.rf i hi), fun he => (b.gt he).trans (a.gt he), b.nL.trans a.nL, b.rl.trans a.rl, by have := a.us; have := b.us; omega, by have := a.u0; have := b.u0; omega⟩
theorem Sm.ay (X : GI A g m S l) : Sm A g m S l (A.ay 1) 1 := ⟨X.ay (by decide), pI A 1, fun h => nM A 1 h, fun h j => jD A 1 h j, fun _ _ => rfl, fun _ => rfl, rfl, rfl, rfl, by decide⟩
theorem Sm.word (X : GI A g m S l) (hu : A.aD ≤ 900000) (h0 : g.ta ≤ i ∧ i < g.ta + cm g.ep g.w) (he : g.ep = true → i ≠ g.ta) : Sm A g m S l (A.aL i w) 1 ∧ (A.aL i w).aD ≤ w64 (A.aD + 1) ∧ ∀ j, (A.aL i w).ao j = if j = i then w else A.ao j := by
  have u0 := X.u0
  have ta := X.ta
  have c0 := X.c0
  have rl := X.rl
  have O := Kf X.sl (i := i) (v := w) ⟨by omega, by omega⟩ (by omega)
  have ou := O.us
  have okr : A.bp i := ⟨by omega, by omega⟩
  have ew : (A.aL i w).words = A.words := by unfold Ar.aL; rw [if_pos okr]; rfl
  exact ⟨⟨X.out O (rQ X.wf _ _) he, eV _ _ _, O.st, fun h j => kr ew (O.st h), fun j hj => by rw [O.rf, if_neg (by omega)], fun h => by rw [O.rf, if_neg (fun e => he h e.symm)], O.nL, O.rl, ou, by decide⟩, by rw [ou, aE (by omega) (by omega)]; exact Int.le_refl _, O.rf⟩
theorem Sm.di (a : Sm A g m S l B u) (E : DI A g m S l at_ n ex f) : DI B g m S l at_ n ex f := by
  have u0 := a.u0
  have us := a.us
  refine ⟨a.gi, ⟨E.da.lo, by rw [a.rl]; exact E.da.hi⟩, E.nw, fun i hi => ?_, E.oa, E.ow, E.op, E.ne, a.nL.trans E.nL, E.ex0, E.ll, fun i hi => by have := E.tu i hi; omega, E.cv⟩
  refine (E.dq i hi).move (fun k k0 k1 => a.rf _ ?_) (by rw [a.st]; exact (E.dq i hi).hs) (a.lf _)
  have := E.oa i hi
  have := E.ow i hi
  have := E.da.lo
  unfold dw; omega
structure Go (g : Gd) (q mq : Nat) (e : List LE) (k : Nat) (x : Ts) (ps : List Sp) (A : Ar) (x' : Ts) (ps' : List Sp) (B : Ar) : Prop where
  go : ∀ {N : Nat} {z : St} {C : Ar}, (mTs g q mq e).gh N ⟨x', ps', .no⟩ B z C → (mTs g q mq e).gh (N + k) ⟨x, ps, .no⟩ A z C
theorem Go.trans {k j : Nat} {x2 : Ts} {ps2 : List Sp} (a : Go g q mq e k x ps A x' ps' B) (b : Go g q mq e j x' ps' B x2 ps2 C) : Go g q mq e (j + k) x ps A x2 ps2 C := ⟨fun h => by
  have := a.go (b.go h)
  rwa [Nat.add_assoc] at this⟩
structure Vx (at_ : Int) (v : Nat) (x : Ts) : Prop where
  a : x.at_ = at_
  v : x.victim = v
  l : x.leaves = false
theorem p6 (h : 0 ≤ A.aD) (hu : A.aD ≤ 900000) : (A.ay 1).aD ≤ w64 (A.aD + 1) := by
  show A.aD + 1 ≤ _; rw [aE (by omega) (by omega)]; exact Int.le_refl _
theorem DI.rd (E : DI A g m S l at_ n ex f) (hv : v < n) (hu : A.aD ≤ 900000) {k : Int} (k0 : 0 ≤ k) (k1 : k < 3) : A.aV (dw at_ v k) = A.ay 1 := by
  obtain ⟨wh, da, hs, lb, sz⟩ := E.ati hv
  have := Br (o := (f v).o) E.gi da wh hu k0 k1
  rwa [E.oa v hv, E.ow v hv] at this
theorem DI.r (E : DI A g m S l at_ n ex f) (hv : v < n) : A.ao (dw at_ v 0) = (f v).t ∧ A.ao (dw at_ v 1) = (f v).o.b ∧ A.ao (dw at_ v 2) = (f v).o.h := by
  have Q := E.dq v hv
  have a := E.oa v hv
  have b := E.ow v hv
  have r0 := Q.r0
  have r1 := Q.r1
  have r2 := Q.r2
  rw [a, b] at r0 r1 r2
  exact ⟨r0, r1, r2⟩
section
variable (E : DI A g m S l at_ n ex f) (hv : v < n) (hu : A.aD ≤ 900000) (tb : Tb g x) (V : Vx at_ v x)
include E hv hu tb V
theorem Ll : Go g q mq e 1 x (.reads :: ps) A { x with t := (f v).t } ps (A.ay 1) := by
  have e1 : ly .reads x ps A = ({ x with t := (f v).t }, ps, A.ay 1) := by
    show ({ x with t := A.ao (dw x.at_ x.victim 0) }, ps, A.aV (dw x.at_ x.victim 0)) = _
    rw [V.a, V.v, (E.r hv).1, E.rd hv hu (by decide) (by decide)]
  exact ⟨fun h => wP (p := .reads) (k := .reads) tb rfl V.l e1 (p6 E.gi.u0 hu) h⟩
theorem LA : Go g q mq e 1 x (.lasts :: ps) A x (if (f v).o.b ≤ x.t then [] else ps) (A.ay 1) := by
  have e1 : ly .lasts x ps A = (x, if (f v).o.b ≤ x.t then [] else ps, A.ay 1) := by
    show (x, if A.ao (dw x.at_ x.victim 1) ≤ x.t then [] else ps, A.aV (dw x.at_ x.victim 1)) = _
    rw [V.a, V.v, (E.r hv).2.1, E.rd hv hu (by decide) (by decide)]
  exact ⟨fun h => wP (p := .lasts) (k := .lasts) tb rfl V.l e1 (p6 E.gi.u0 hu) h⟩
theorem Gx : Go g q mq e 1 x (.buffers :: ps) A { x with h := (f v).o.h } ps (A.ay 1) := by
  have e1 : ly .buffers x ps A = ({ x with h := (f v).o.h }, ps, A.ay 1) := by
    show ({ x with h := A.ao (dw x.at_ x.victim 2) }, ps, A.aV (dw x.at_ x.victim 2)) = _
    rw [V.a, V.v, (E.r hv).2.2, E.rd hv hu (by decide) (by decide)]
  exact ⟨fun h => wP (p := .buffers) (k := .buffers) tb rfl V.l e1 (p6 E.gi.u0 hu) h⟩
theorem LC (he : g.ep = false) (hh : x.h = (f v).o.h) : Go g q mq e 1 x (.again :: ps) A x ps (A.ay 1) := by
  have e1 : ly .again x ps A = (x, ps, A.ay 1) := by
    show (x, if A.ao (dw x.at_ x.victim 2) = x.h then ps else [], A.aV (dw x.at_ x.victim 2)) = _
    rw [V.a, V.v, (E.r hv).2.2, E.rd hv hu (by decide) (by decide), if_pos hh.symm]
  exact ⟨fun h => wP (p := .again) (k := .again) tb (if_neg (by rw [he]; decide)) V.l e1 (p6 E.gi.u0 hu) h⟩
theorem KV (ht : x.t = (f v).t) : Go g q mq e 1 x (.still :: ps) A x ps (A.ay 1) := by
  have e1 : ly .still x ps A = (x, ps, A.ay 1) := by
    show (x, if A.ao (dw x.at_ x.victim 0) = x.t then ps else [], A.aV (dw x.at_ x.victim 0)) = _
    rw [V.a, V.v, (E.r hv).1, E.rd hv hu (by decide) (by decide), if_pos ht.symm]
  exact ⟨fun h => wP (p := .still) (k := .still) tb rfl V.l e1 (p6 E.gi.u0 hu) h⟩
theorem Ns (he : g.ep = false) (ht : x.t = (f v).t) : Go g q mq e 1 x (.more :: ps) A x ps (A.ay 1) := by
  have e1 : ly .still x ps A = (x, ps, A.ay 1) := by
    show (x, if A.ao (dw x.at_ x.victim 0) = x.t then ps else [], A.aV (dw x.at_ x.victim 0)) = _
    rw [V.a, V.v, (E.r hv).1, E.rd hv hu (by decide) (by decide), if_pos ht.symm]
  exact ⟨fun h => wP (p := .more) (k := .still) tb (if_neg (by rw [he]; decide)) V.l e1 (p6 E.gi.u0 hu) h⟩
theorem KI (hh : x.h = (f v).o.h) (ht : x.t = (f v).t) {y : Int} {ys : List Int} (hx : (f v).xs = y :: ys) : Go g q mq e 1 x (.loads :: ps) A { x with v := y } ps (A.ay 1) := by
  have Q := E.dq v hv
  have hs0 : A.stF (f v).o.h ≠ 0 := by rw [Q.hs]; decide
  have sz := jx (f v).o.h
  have m0 := Int.emod_nonneg (f v).t (b := au (opC (f v).o.h)) (by omega)
  have m1 := Int.emod_lt_of_pos (f v).t (b := au (opC (f v).o.h)) (by omega)
  have l0 := Q.ld 0 (by rw [hx]; exact Nat.succ_pos _)
  rw [hx, show (f v).t + ((0 : Nat) : Int) = (f v).t by omega] at l0
  have l0 : A.bA (f v).o.h ((f v).t % au (opC (f v).o.h)) = y := l0
  have e1 : ly .loads x ps A = ({ x with v := y }, ps, A.ay 1) := by
    show ({ x with v := A.bA x.h (dB x.h x.t) }, ps, A.gp x.h (dB x.h x.t)) = _
    rw [hh, ht, jA hs0, l0, yU E.gi (by omega) ⟨hs0, m0, m1⟩]
  exact ⟨fun h => wP (p := .loads) (k := .loads) tb rfl V.l e1 (p6 E.gi.u0 hu) h⟩
theorem Mj (hi : A.fZ x.v x.keyAt) : Go g q mq e 1 x (.keys :: ps) A x (if jb (A.bA x.v x.keyAt) x.before = true then ps else []) (A.ay 1) := by
  have hv' := hv
  have e1 : ly .keys x ps A = (x, if jb (A.bA x.v x.keyAt) x.before = true then ps else [], A.ay 1) := by
    show (x, if jb (A.bA x.v x.keyAt) x.before = true then ps else [], A.gp x.v x.keyAt) = _
    rw [yU E.gi (by omega) hi]
  exact ⟨fun h => wP (p := .keys) (k := .keys) tb rfl V.l e1 (p6 E.gi.u0 hu) h⟩
theorem Kz (ht : x.t = (f v).t) {y : Int} {ys : List Int} (hx : (f v).xs = y :: ys) : Go g q mq e 1 x (.takes :: ps) A { x with ok := true } ps (A.aL (dw at_ v 0) ((f v).t + 1)) ∧
    DI (A.aL (dw at_ v 0) ((f v).t + 1)) g m S l at_ n ex (bm f v { f v with t := (f v).t + 1, xs := ys }) ∧ Ar.Alike A (A.aL (dw at_ v 0) ((f v).t + 1)) ∧ (A.aL (dw at_ v 0) ((f v).t + 1)).aD = A.aD + 1 ∧
    (∀ h, (A.aL (dw at_ v 0) ((f v).t + 1)).stF h = A.stF h) ∧ ∀ h j, (A.aL (dw at_ v 0) ((f v).t + 1)).bA h j = A.bA h j := by
  obtain ⟨wh, da, hs, lb, sz⟩ := E.ati hv
  have X := E.gi
  have u0 := X.u0
  have Q := E.dq v hv
  have ow := E.ow v hv
  have oa := E.oa v hv
  have op := E.op v hv
  have tu := E.tu v hv
  have tq := Q.tb
  have bt := Q.bt
  have ln := Q.ln
  have P := X.bot da wh (by omega) ((f v).t + 1) (k := 0) (by decide) (by decide)
  rw [oa, ow] at P
  have us := P.us
  have lx : (f v).xs.length = ys.length + 1 := by rw [hx]; rfl
  obtain ⟨w1, w2⟩ := lZ (A := A) (i := dw at_ v 0) (v := (f v).t) (x := (f v).t + 1) P.ok (E.r hv).1
  have e1 : ly .takes x ps A = ({ x with ok := true }, ps, A.aL (dw at_ v 0) ((f v).t + 1)) := by
    show ({ x with ok := A.cC (dw x.at_ x.victim 0) x.t }, ps, A.dE (dw x.at_ x.victim 0) x.t (w64 (x.t + 1))) = _
    rw [V.a, V.v, ht, aE (x := (f v).t + 1) (by omega) (by omega), w1, w2]
  refine ⟨⟨fun h => wP (p := .takes) (k := .takes) tb rfl V.l e1 P.us' h⟩, ?_, P.al, us, P.st, P.lf⟩
  refine E.put hv (x := { f v with t := (f v).t + 1, xs := ys }) P.gi P.rl ⟨?_, ?_, ?_, ?_, ?_, ?_, ?_, fun j hj => ?_⟩ oa ow op (fun j hj e => E.ne v j hv hj (fun h => e h.symm)) (by rw [P.nL]; show _ = A.nL - au (opC (f v).o.h) + au (opC (f v).o.h); omega) (E.ll v hv) (fun _ _ => rfl) (by show (f v).t + 1 ≤ _; omega) (by omega) (by show S.cv ≤ S.cv + 2 * au (opC (f v).o.h) - 2 * au (opC (f v).o.h); omega) (fun j hj e => ⟨by rw [P.st]; exact (E.dq j hj).hs, P.lf _⟩) (fun i _ _ h0 _ _ => by rw [P.rf, if_neg h0])
  · show Ar.ao _ (dw (f v).o.at_ (f v).o.work 0) = (f v).t + 1
    rw [oa, ow, P.rf, if_pos rfl]
  · show Ar.ao _ (dw (f v).o.at_ (f v).o.work 1) = (f v).o.b
    rw [oa, ow, P.rf, if_neg (by unfold dw; omega)]; exact (E.r hv).2.1
  · show Ar.ao _ (dw (f v).o.at_ (f v).o.work 2) = (f v).o.h
    rw [oa, ow, P.rf, if_neg (by unfold dw; omega)]; exact (E.r hv).2.2
  · show (f v).o.b = (f v).t + 1 + (ys.length : Int); omega
  · show 0 ≤ (f v).t + 1 ∧ (f v).t + 1 ≤ 1000000; omega
  · show Ar.stF _ (f v).o.h = 1; rw [P.st]; exact hs
  · show (ys.length : Int) ≤ au (opC (f v).o.h); omega
  · have hj : j < ys.length := hj
    show Ar.bA _ (f v).o.h (((f v).t + 1 + j) % au (opC (f v).o.h)) = ys.getD j 0
    rw [P.lf]
    have := Q.ld (j + 1) (by omega)
    rw [hx, show (f v).t + ((j + 1 : Nat) : Int) = (f v).t + 1 + j by omega] at this
    exact this
end
end
section
variable {A B C D : Ar} {g : Gd} {m : Int} {S : Sg} {l : Int → List (Int × Int)} {u u' at_ ex i w h : Int} {n v : Nat} {f : Nat → Dq} {q mq N : Nat} {e : List LE} {x x' : Ts} {ps ps' : List Sp} {z : St}
theorem Kj (X : GI A g m S l) (hu : A.aD ≤ 800000) (tb : Tb g x) (V : x.leaves = false) (wk : x.work < g.w) :
    ∃ B k, k ≤ 3 ∧ Sm A g m S l B (if g.ep = true then 3 else 0) ∧ Go g q mq e k x (.enter :: ps) A x ps B := by
  cases he : g.ep with
  | false => exact ⟨A, 0, by decide, by rw [if_neg (by decide)]; exact .refl X, ⟨fun h => Ak (if_neg (by rw [he]; decide)) V h⟩⟩
  | true =>
    have u0 := X.u0
    have ta := X.ta
    have c0 := X.c0
    have rl := X.rl
    have rb := X.rb
    have wb := X.wb
    have gw : cm g.ep g.w = 1 + g.w := by unfold cm; rw [he]; rfl
    obtain ⟨e0, e1⟩ := X.eb he
    have tw := tb.w
    obtain ⟨m', hp⟩ := I9 (A := A) (tw := g.w) (ta := g.ta) (who := x.work) (e := A.ao g.ta) (by omega) ⟨tw.1, tw.2⟩ (by omega) rb u0 (by omega) rfl ⟨e0, by omega⟩
    have L1 := Sm.ay X
    obtain ⟨W, _, _⟩ := Sm.word (w := A.ao g.ta + 1) L1.gi (by show A.aD + 1 ≤ _; omega) (i := g.ta + 1 + x.work) ⟨by omega, by omega⟩ (fun _ => by omega)
    have L2 := Sm.ay W.gi
    refine ⟨((A.ay 1).aL (g.ta + 1 + x.work) (A.ao g.ta + 1)).ay 1, 3, by decide, ?_, ⟨fun h => ?_⟩⟩
    · rw [if_pos rfl]; exact (L1.trans W).trans L2
    · rw [Nat.add_comm]
      exact Ol tb (if_pos he) V hp h
theorem Kp (E : DI A g m S l at_ n ex f) (hv : v < n) (hu : A.aD ≤ 800000) (tb : Tb g x) (V : Vx at_ v x) (wk : x.work < g.w) (hh : x.h = (f v).o.h) :
    ∃ B k, k ≤ 2 ∧ Sm A g m S l B (if g.ep = true then 0 else 2) ∧ Go g q mq e k x (.holds :: .again :: ps) A x ps B := by
  have X := E.gi
  have ta := X.ta
  have rl := X.rl
  have tw := tb.w
  cases he : g.ep with
  | true => exact ⟨A, 0, by decide, by rw [if_pos rfl]; exact .refl X, ⟨fun h => Ak (if_pos he) V.l (Ak (if_pos he) V.l h)⟩⟩
  | false =>
    have gw : cm g.ep g.w = 2 * g.w := by unfold cm; rw [he]; rfl
    obtain ⟨W, hw, _⟩ := Sm.word (w := x.h) X (by omega) (i := g.ta + 2 * x.work + 0) ⟨by omega, by omega⟩ (fun h => by rw [he] at h; cases h)
    have us := W.us
    have L2 := Sm.ay W.gi
    refine ⟨(A.aL (g.ta + 2 * x.work + 0) x.h).ay 1, 2, by decide, by rw [if_neg (by decide)]; exact W.trans L2, ⟨fun h => ?_⟩⟩
    have := (LC (q := q) (mq := mq) (e := e) (ps := ps) (W.di E) hv (by omega) tb V he hh).go h
    exact Of tb (if_neg (by rw [he]; decide)) V.l hw this
theorem KP (E : DI A g m S l at_ n ex f) (hv : v < n) (hu : A.aD ≤ 800000) (tb : Tb g x) (V : Vx at_ v x) (wk : x.work < g.w) (ht : x.t = (f v).t) :
    ∃ B k, k ≤ 2 ∧ Sm A g m S l B (if g.ep = true then 0 else 2) ∧ Go g q mq e k x (.keeps :: .more :: ps) A x ps B := by
  have X := E.gi
  have ta := X.ta
  have rl := X.rl
  have tw := tb.w
  cases he : g.ep with
  | true => exact ⟨A, 0, by decide, by rw [if_pos rfl]; exact .refl X, ⟨fun h => Ak (if_pos he) V.l (Ak (if_pos he) V.l h)⟩⟩
  | false =>
    have gw : cm g.ep g.w = 2 * g.w := by unfold cm; rw [he]; rfl
    obtain ⟨W, hw, _⟩ := Sm.word (w := x.v) X (by omega) (i := g.ta + 2 * x.work + 1) ⟨by omega, by omega⟩ (fun h => by rw [he] at h; cases h)
    have us := W.us
    have L2 := Sm.ay W.gi
    refine ⟨(A.aL (g.ta + 2 * x.work + 1) x.v).ay 1, 2, by decide, by rw [if_neg (by decide)]; exact W.trans L2, ⟨fun h => ?_⟩⟩
    have := (Ns (q := q) (mq := mq) (e := e) (ps := ps) (W.di E) hv (by omega) tb V he ht).go h
    exact Of tb (if_neg (by rw [he]; decide)) V.l hw this
theorem Ci (X : GI A g m S l) (hu : A.aD ≤ 800000) (tb : Tb g x) (V : x.leaves = false) (wk : x.work < g.w) :
    ∃ B k, k ≤ 2 ∧ Sm A g m S l B (if g.ep = true then 1 else 2) ∧ (mTs g q mq e).gh k ⟨x, [], .no⟩ A ⟨{ x with leaves := true }, [], .no⟩ B := by
  have ta := X.ta
  have rl := X.rl
  have rb := X.rb
  have c0 := X.c0
  have tw := tb.w
  cases he : g.ep with
  | true =>
    have gw : cm g.ep g.w = 1 + g.w := by unfold cm; rw [he]; rfl
    have ew : ewd g.ta x.work = g.ta + 1 + x.work := zW ⟨by omega, by omega, by omega, by omega⟩
    obtain ⟨W, hw, _⟩ := Sm.word (w := 0) X (by omega) (i := g.ta + 1 + x.work) ⟨by omega, by omega⟩ (fun _ => by omega)
    refine ⟨A.aL (g.ta + 1 + x.work) 0, 1, by decide, by rw [if_pos rfl]; exact W, ?_⟩
    have := Io (q := q) (mq := mq) (e := e) he tb V (by rw [ew]; exact hw)
    rw [ew] at this; exact this
  | false =>
    have gw : cm g.ep g.w = 2 * g.w := by unfold cm; rw [he]; rfl
    obtain ⟨W, hw, _⟩ := Sm.word (w := 0) X (by omega) (i := g.ta + 2 * x.work) ⟨by omega, by omega⟩ (fun h => by rw [he] at h; cases h)
    have us := W.us
    obtain ⟨W2, hw2, _⟩ := Sm.word (w := 0) W.gi (by omega) (i := g.ta + 2 * x.work + 1) ⟨by omega, by omega⟩ (fun h => by rw [he] at h; cases h)
    exact ⟨(A.aL (g.ta + 2 * x.work) 0).aL (g.ta + 2 * x.work + 1) 0, 2, by decide, by rw [if_neg (by decide)]; exact W.trans W2, Jt he tb V hw hw2⟩
def l8 (before : Int) : List Sp := [.enter, .reads, .lasts, .buffers, .holds, .again, .loads] ++ ((if before > 0 then [.still, .keeps, .more, .keys] else []) ++ [.takes])
def dD (at_ work victim before keyAt : Int) : Ts := ⟨at_, work, victim, before, keyAt, false, 0, 0, 0, false⟩
def yy (ep : Bool) (before : Int) (ok : Bool) : Int := (if ep = true then 2 else 4) + (if before > 0 then (if ep = true then 2 else 4) else 0) + (if ok = true then 1 else 0)
structure Stl (A : Ar) (g : Gd) (m : Int) (S : Sg) (l : Int → List (Int × Int)) (at_ : Int) (n : Nat) (ex : Int) (f : Nat → Dq) (v wk : Nat) (before keyAt : Int) (q mq : Nat) (e : List LE) (N : Nat) (B : Ar) (x : Ts) : Prop where
  di : DI B g m S l at_ n ex (if x.ok = true then bm f v { f v with t := (f v).t + 1, xs := (f v).xs.tail } else f)
  run : (mTs g q mq e).gh N ⟨dD at_ wk v before keyAt, l8 before, .no⟩ A ⟨x, [], .no⟩ B
  hn : N ≤ 30
  al : Ar.Alike A B
  lv : x.leaves = true
  hv : x.ok = true → x.v = (f v).xs.headD 0
  hk : x.ok = ((f v).xs != [] && (decide (before ≤ 0) || jb (A.bA ((f v).xs.headD 0) keyAt) before))
  st : ∀ h, B.stF h = A.stF h
  lf : ∀ h j, B.bA h j = A.bA h j
  us : B.aD = A.aD + (if g.ep = true then 6 else 4) + (if (f v).xs = [] then 0 else yy g.ep before x.ok)
theorem Tb.of {y : Ts} (tb : Tb g x) (a : y.at_ = x.at_) (v : y.victim = x.victim) (w : y.work = x.work) : Tb g y := ⟨⟨by rw [a]; exact tb.b.a, by rw [v]; exact tb.b.w⟩, tb.a, by rw [w]; exact tb.w⟩
theorem DI.IG (E : DI A g m S l at_ n ex f) {wk : Nat} (hv : v < n) (hw : wk < n) (hu : A.aD ≤ 600000) (before keyAt : Int) (q mq : Nat) (e : List LE) (ht : before > 0 → ∀ y ys, (f v).xs = y :: ys → A.fZ y keyAt) :
    ∃ N B x, Stl A g m S l at_ n ex f v wk before keyAt q mq e N B x := by
  have X := E.gi
  obtain ⟨wh, da, hs, lb, sz⟩ := E.ati hv
  have bd := EE X da wh
  have ba := bd.a
  have bw := bd.w
  rw [E.oa v hv] at ba
  rw [E.ow v hv] at bw
  have nw := E.nw
  have wb := X.wb
  have Q := E.dq v hv
  have bt := Q.bt
  have tb0 : Tb g (dD at_ wk v before keyAt) := ⟨⟨ba, bw⟩, ⟨by have := X.ta; have := X.c0; omega, by have := X.rl; have := X.rb; have : 0 ≤ cm g.ep g.w := (by unfold cm; cases g.ep <;> simp <;> omega); omega⟩, ⟨by show (0 : Int) ≤ (wk : Int); omega, by show (wk : Int) ≤ 1000; omega⟩⟩
  have wk0 : (wk : Int) < g.w := by omega
  -- pinned; top; bottom
  obtain ⟨A1, k1, h1, S1, G1⟩ := Kj (q := q) (mq := mq) (e := e) (x := dD at_ wk v before keyAt) (ps := .reads :: .lasts :: .buffers :: .holds :: .again :: .loads :: ((if before > 0 then [.still, .keeps, .more, .keys] else []) ++ [.takes])) X (by omega) tb0 rfl wk0
  have u1 := S1.us
  have c1 : (if g.ep = true then (3 : Int) else 0) ≤ 3 := by split <;> decide
  have E1 := S1.di E
  have G2 := Ll (q := q) (mq := mq) (e := e) (x := dD at_ wk v before keyAt) (ps := .lasts :: .buffers :: .holds :: .again :: .loads :: ((if before > 0 then [.still, .keeps, .more, .keys] else []) ++ [.takes])) E1 hv (by omega) tb0 ⟨rfl, rfl, rfl⟩
  have S2 := S1.trans (Sm.ay S1.gi)
  have u2 := S2.us
  have E2 := S2.di E
  have tb2 : Tb g { dD at_ wk v before keyAt with t := (f v).t } := tb0.of rfl rfl rfl
  have G3 := LA (q := q) (mq := mq) (e := e) (x := { dD at_ wk v before keyAt with t := (f v).t }) (ps := .buffers :: .holds :: .again :: .loads :: ((if before > 0 then [.still, .keeps, .more, .keys] else []) ++ [.takes])) E2 hv (by omega) tb2 ⟨rfl, rfl, rfl⟩
  have S3 := S2.trans (Sm.ay S2.gi)
  have u3 := S3.us
  have E3 := S3.di E
  have G123 := (G1.trans G2).trans G3
  cases hx : (f v).xs with
  | nil =>
    have e0 : (f v).o.b ≤ ({ dD at_ wk v before keyAt with t := (f v).t } : Ts).t := by show (f v).o.b ≤ (f v).t; rw [bt, hx]; show (f v).t + ((0 : Nat) : Int) ≤ _; omega
    rw [if_pos e0] at G123
    obtain ⟨B, k4, h4, S4, R4⟩ := Ci (q := q) (mq := mq) (e := e) (x := { dD at_ wk v before keyAt with t := (f v).t }) S3.gi (by omega) tb2 rfl wk0
    have S5 := S3.trans S4
    have u5 := S5.us
    refine ⟨_, B, _, ?_, G123.go R4, by omega, S5.al, rfl, fun h => (by cases h), by rw [hx]; rfl, S5.st, S5.lf, ?_⟩
    · rw [if_neg (fun h => (by cases h))]; exact S5.di E
    · rw [hx, if_pos rfl, u5]; cases g.ep <;> simp <;> omega
  | cons y ys =>
    have e0 : ¬ (f v).o.b ≤ ({ dD at_ wk v before keyAt with t := (f v).t } : Ts).t := by show ¬ (f v).o.b ≤ (f v).t; rw [bt, hx]; show ¬ (f v).t + ((ys.length + 1 : Nat) : Int) ≤ _; omega
    rw [if_neg e0] at G123
    -- the buffer
    have G4 := Gx (q := q) (mq := mq) (e := e) (x := { dD at_ wk v before keyAt with t := (f v).t }) (ps := .holds :: .again :: .loads :: ((if before > 0 then [.still, .keeps, .more, .keys] else []) ++ [.takes])) E3 hv (by omega) tb2 ⟨rfl, rfl, rfl⟩
    have S4 := S3.trans (Sm.ay S3.gi)
    have u4 := S4.us
    have E4 := S4.di E
    have tb4 : Tb g { dD at_ wk v before keyAt with t := (f v).t, h := (f v).o.h } := tb0.of rfl rfl rfl
    obtain ⟨A5, k5, h5, S5', G5⟩ := Kp (q := q) (mq := mq) (e := e) (x := { dD at_ wk v before keyAt with t := (f v).t, h := (f v).o.h }) (ps := .loads :: ((if before > 0 then [.still, .keeps, .more, .keys] else []) ++ [.takes])) E4 hv (by omega) tb4 ⟨rfl, rfl, rfl⟩ wk0 rfl
    have S5 := S4.trans S5'
    have u5 := S5.us
    have c5 : (if g.ep = true then (0 : Int) else 2) ≤ 2 := by split <;> decide
    have E5 := S5.di E
    have G6 := KI (q := q) (mq := mq) (e := e) (x := { dD at_ wk v before keyAt with t := (f v).t, h := (f v).o.h }) (ps := ((if before > 0 then [.still, .keeps, .more, .keys] else []) ++ [.takes])) E5 hv (by omega) tb4 ⟨rfl, rfl, rfl⟩ rfl rfl hx
    have S6 := S5.trans (Sm.ay S5.gi)
    have u6 := S6.us
    have E6 := S6.di E
    have G456 := ((G123.trans G4).trans G5).trans G6
    have tb6 : Tb g { dD at_ wk v before keyAt with t := (f v).t, h := (f v).o.h, v := y } := tb0.of rfl rfl rfl
    -- it is taken, and it ends
    have last : ∀ (D : Ar) (uD : Int) (K : Nat), Sm A g m S l D uD → uD ≤ 100 → K ≤ 20 → Go g q mq e K (dD at_ wk v before keyAt) (l8 before) A { dD at_ wk v before keyAt with t := (f v).t, h := (f v).o.h, v := y } [.takes] D →
        uD + 1 + (if g.ep = true then 1 else 2) = (if g.ep = true then 6 else 4) + yy g.ep before true → (decide (before ≤ 0) || jb (A.bA y keyAt) before) = true → ∃ N B x, Stl A g m S l at_ n ex f v wk before keyAt q mq e N B x := fun D uD K SD hD hK GD hus hka => by
      have uD' := SD.us
      have ED := SD.di E
      obtain ⟨GT, ET, alT, uT, stT, lfT⟩ := Kz (q := q) (mq := mq) (e := e) (x := { dD at_ wk v before keyAt with t := (f v).t, h := (f v).o.h, v := y }) (ps := []) ED hv (by omega) tb6 ⟨rfl, rfl, rfl⟩ rfl hx
      obtain ⟨B, kB, hB, SB, RB⟩ := Ci (q := q) (mq := mq) (e := e) (x := { dD at_ wk v before keyAt with t := (f v).t, h := (f v).o.h, v := y, ok := true }) ET.gi (by omega) (tb0.of rfl rfl rfl) rfl wk0
      have uB := SB.us
      refine ⟨_, B, _, ?_, GD.go (GT.go RB), by omega, (SD.al.trans alT).trans SB.al, rfl, fun _ => by rw [hx]; rfl, ?_, fun h => (SB.st h).trans ((stT h).trans (SD.st h)), fun h j => (SB.lf h j).trans ((lfT h j).trans (SD.lf h j)), ?_⟩
      · rw [if_pos rfl, hx]; exact SB.di ET
      · rw [hx]
        show true = (true && (decide (before ≤ 0) || jb (A.bA y keyAt) before))
        rw [hka]; rfl
      · rw [hx, if_neg (List.cons_ne_nil _ _)]
        show B.aD = A.aD + (if g.ep = true then 6 else 4) + yy g.ep before true
        omega
    by_cases hb : before > 0
    · have hy := ht hb y ys hx
      have eS : l8 before = .enter :: .reads :: .lasts :: .buffers :: .holds :: .again :: .loads :: .still :: .keeps :: .more :: .keys :: [.takes] := by unfold l8; rw [if_pos hb]; rfl
      rw [if_pos hb] at G456
      have G7 := KV (q := q) (mq := mq) (e := e) (x := { dD at_ wk v before keyAt with t := (f v).t, h := (f v).o.h, v := y }) (ps := .keeps :: .more :: .keys :: [.takes]) E6 hv (by omega) tb6 ⟨rfl, rfl, rfl⟩ rfl
      have S7 := S6.trans (Sm.ay S6.gi)
      have u7 := S7.us
      have E7 := S7.di E
      obtain ⟨A8, k8, h8, S8', G8⟩ := KP (q := q) (mq := mq) (e := e) (x := { dD at_ wk v before keyAt with t := (f v).t, h := (f v).o.h, v := y }) (ps := .keys :: [.takes]) E7 hv (by omega) tb6 ⟨rfl, rfl, rfl⟩ wk0 rfl
      have S8 := S7.trans S8'
      have u8 := S8.us
      have E8 := S8.di E
      have hy8 : A8.fZ y keyAt := ⟨by rw [S8.st]; exact hy.1, hy.2⟩
      have G9 := Mj (q := q) (mq := mq) (e := e) (x := { dD at_ wk v before keyAt with t := (f v).t, h := (f v).o.h, v := y }) (ps := [.takes]) E8 hv (by omega) tb6 ⟨rfl, rfl, rfl⟩ hy8
      have S9 := S8.trans (Sm.ay S8.gi)
      have u9 := S9.us
      have ek : jb (A8.bA y keyAt) before = jb (A.bA y keyAt) before := by rw [S8.lf]
      have G789 := ((G456.trans G7).trans G8).trans G9
      have ek' : jb (A8.bA ({ dD at_ wk v before keyAt with t := (f v).t, h := (f v).o.h, v := y } : Ts).v ({ dD at_ wk v before keyAt with t := (f v).t, h := (f v).o.h, v := y } : Ts).keyAt) ({ dD at_ wk v before keyAt with t := (f v).t, h := (f v).o.h, v := y } : Ts).before = jb (A.bA y keyAt) before := ek
      rw [ek'] at G789
      cases hk : jb (A.bA y keyAt) before with
      | true =>
        rw [hk, if_pos rfl] at G789
        refine last _ _ _ S9 ?_ ?_ (by rw [eS]; exact G789) ?_ (by rw [hk, Bool.or_true])
        · omega
        · omega
        · unfold yy; rw [if_pos hb]; cases g.ep <;> simp
      | false =>
        rw [hk, if_neg (by decide)] at G789
        obtain ⟨B, kB, hB, SB, RB⟩ := Ci (q := q) (mq := mq) (e := e) (x := { dD at_ wk v before keyAt with t := (f v).t, h := (f v).o.h, v := y }) S9.gi (by omega) tb6 rfl wk0
        have SC := S9.trans SB
        have uC := SC.us
        refine ⟨_, B, _, ?_, by rw [eS]; exact G789.go RB, by omega, SC.al, rfl, fun h => (by cases h), ?_, SC.st, SC.lf, ?_⟩
        · rw [if_neg (fun h => (by cases h))]; exact SC.di E
        · rw [hx]
          show false = (true && (decide (before ≤ 0) || jb (A.bA y keyAt) before))
          rw [hk, decide_eq_false (by omega)]; rfl
        · rw [hx, if_neg (List.cons_ne_nil _ _), uC]
          show _ = A.aD + (if g.ep = true then 6 else 4) + yy g.ep before false
          unfold yy; rw [if_pos hb]; cases g.ep <;> simp <;> omega
    · have eS : l8 before = .enter :: .reads :: .lasts :: .buffers :: .holds :: .again :: .loads :: [.takes] := by unfold l8; rw [if_neg hb]; rfl
      rw [if_neg hb] at G456
      refine last _ _ _ S6 ?_ ?_ (by rw [eS]; exact G456) ?_ (by rw [decide_eq_true (by omega)]; rfl)
      · omega
      · omega
      · unfold yy; rw [if_neg hb]; cases g.ep <;> simp
theorem Stl.ub {wk : Nat} {before keyAt : Int} (P : Stl A g m S l at_ n ex f v wk before keyAt q mq e N B x) : A.aD ≤ B.aD ∧ B.aD ≤ A.aD + 20 := by
  rw [P.us]; unfold yy
  cases g.ep <;> cases x.ok <;> simp only [if_true, if_false, Bool.false_eq_true] <;> (repeat' split) <;> omega
end
section
variable {A B : Ar} {g : Gd} {x x' : Ts} {ps ps' : List Sp}
theorem B1 {p : Sp} (hb : bg g x p = .no) (hl : x.leaves = false) : St.step g ⟨x, p :: ps, .no⟩ A = St.step g ⟨x, ps, .no⟩ A := by
  show St.sub (St.nx g ⟨x, p :: ps, .no⟩) A = St.sub (St.nx g ⟨x, ps, .no⟩) A
  have e1 : St.nx g ⟨x, p :: ps, .no⟩ = nx g x (p :: ps) := if_pos ⟨rfl, hl⟩
  have e2 : St.nx g ⟨x, ps, .no⟩ = nx g x ps := if_pos ⟨rfl, hl⟩
  rw [e1, e2]
  have : nx g x (p :: ps) = nx g x ps := by
    show (if (bg g x p).ji = true then nx g x ps else (x, ps, bg g x p)) = _
    rw [hb]; exact if_pos rfl
  rw [this]
theorem wi {p : Sp} {k : K1} (hb : bg g x p = .one k) (hl : x.leaves = false) (e1 : ly k x ps A = (x', ps', B)) : St.step g ⟨x, p :: ps, .no⟩ A = (⟨x', ps', .no⟩, B) := by
  show St.sub (St.nx g ⟨x, p :: ps, .no⟩) A = _
  rw [Bv hl (by rw [hb]; rfl), hb]
  show ((⟨(ly k x ps A).1, (ly k x ps A).2.1, .no⟩ : St), (ly k x ps A).2.2) = _
  rw [e1]
theorem NG {p : Sp} {w v : Int} (hb : bg g x p = .se ⟨[w], v⟩) (hl : x.leaves = false) : St.step g ⟨x, p :: ps, .no⟩ A = (⟨x, ps, .no⟩, A.aL w v) := by
  show St.sub (St.nx g ⟨x, p :: ps, .no⟩) A = _
  rw [Bv hl (by rw [hb]; rfl), hb]; rfl
theorem Iv {u : Pn} {p : Sp} (hb : bg g x p = .pin u) (hl : x.leaves = false) : St.step g ⟨x, p :: ps, .no⟩ A = (⟨x, ps, if mPn.fin (u.step A).1 = true then .no else .pin (u.step A).1⟩, (u.step A).2) := by
  show St.sub (St.nx g ⟨x, p :: ps, .no⟩) A = _
  rw [Bv hl (by rw [hb]; rfl), hb]; rfl
theorem Eo {u : Pn} : St.step g ⟨x, ps, .pin u⟩ A = (⟨x, ps, if mPn.fin (u.step A).1 = true then .no else .pin (u.step A).1⟩, (u.step A).2) := by
  show St.sub (St.nx g ⟨x, ps, .pin u⟩) A = _
  have : St.nx g ⟨x, ps, .pin u⟩ = (x, ps, .pin u) := if_neg (fun h => (by cases h.1))
  rw [this]; rfl
theorem MR {w v : Int} : St.step g ⟨x, ps, .se ⟨[w], v⟩⟩ A = (⟨x, ps, .no⟩, A.aL w v) := by
  show St.sub (St.nx g ⟨x, ps, .se ⟨[w], v⟩⟩) A = _
  have : St.nx g ⟨x, ps, .se ⟨[w], v⟩⟩ = (x, ps, .se ⟨[w], v⟩) := if_neg (fun h => (by cases h.1))
  rw [this]; rfl
theorem HJ (he : g.ep = true) (hl : x.leaves = false) : St.step g ⟨x, [], .no⟩ A = (⟨{ x with leaves := true }, [], .no⟩, A.aL (ewd g.ta x.work) 0) := by
  show St.sub (St.nx g ⟨x, [], .no⟩) A = _
  have e1 : St.nx g ⟨x, [], .no⟩ = nx g x [] := if_pos ⟨rfl, hl⟩
  rw [e1]
  unfold nx
  rw [if_neg (by rw [hl]; decide)]
  unfold lX
  rw [he]; rfl
theorem Gv (he : g.ep = false) (hl : x.leaves = false) : St.step g ⟨x, [], .no⟩ A = (⟨{ x with leaves := true }, [], .se ⟨[g.ta + 2 * x.work + 1], 0⟩⟩, A.aL (g.ta + 2 * x.work) 0) := by
  show St.sub (St.nx g ⟨x, [], .no⟩) A = _
  have e1 : St.nx g ⟨x, [], .no⟩ = nx g x [] := if_pos ⟨rfl, hl⟩
  rw [e1]
  unfold nx
  rw [if_neg (by rw [hl]; decide)]
  unfold lX
  rw [he]; rfl
theorem uY {i v w : Int} (o : A.bp i) (h : A.ao i ≠ v) : A.cC i v = false ∧ A.dE i v w = A.tick := by
  have h' : ¬ A.raw.getD i.toNat 0 = v := by rw [dG o]; exact h
  refine ⟨decide_eq_false (fun e => h' e.2), ?_⟩
  unfold Ar.dE
  rw [if_pos o, if_neg h']
end
section
variable {A B : Ar} {g : Gd} {m : Int} {S : Sg} {l : Int → List (Int × Int)} {at_ n h T Bw E0 u i w v O : Int}
def st7 : List Sp := [.reads, .lasts, .buffers, .holds, .again, .loads, .takes]
end
end Go.Proofs.YtjnacjniiogjcaaGreat
