/- Texts of this claim, one behind the other. -/
import Derived.Test.YtjnacjniiogjcaaGreatCWThiefMixes3
set_option linter.unusedSimpArgs false
set_option linter.unusedVariables false
set_option maxRecDepth 20000
namespace Go.Proofs.YtjnacjniiogjcaaGreat
open Go Go.Fw
theorem Ae : ∀ (l k : List Int), l.Nodup → (∀ x ∈ l, x ∈ k) → l.length ≤ k.length
  | [], k, _, _ => Nat.zero_le _
  | x :: l, k, nd, h => by
    obtain ⟨n1, n2⟩ := List.nodup_cons.1 nd
    have hx := h x List.mem_cons_self
    have := Ae l (k.erase x) n2 fun y hy => (List.mem_erase_of_ne (fun e => n1 (by rw [← e]; exact hy))).2 (h y (List.mem_cons_of_mem _ hy))
    rw [List.length_erase_of_mem hx] at this
    have : 0 < k.length := List.length_pos_of_mem hx
    simp only [List.length_cons]; omega
theorem GO (l : List (Int × Bool)) (k : Int) : (alPut l k true).length ≤ l.length + 1 := by
  induction l with
  | nil => unfold alPut; simp
  | cons p l ih =>
    unfold alPut
    split
    · simp
    · simp only [List.length_cons]; omega
theorem LB {l : List (Int × Bool)} {h : Int} (hi : inS l h = true) : h ∈ l.map Prod.fst := by
  unfold inS at hi
  induction l with
  | nil => cases hi
  | cons p l ih =>
    obtain ⟨k, v⟩ := p
    by_cases e : h = k
    · rw [e]; exact List.mem_cons_self
    · refine List.mem_cons_of_mem _ (ih ?_)
      have : alGet ((k, v) :: l) h = alGet l h := by
        show (if h = k then some v else alGet l h) = alGet l h
        rw [if_neg e]
      rw [this] at hi; exact hi
theorem KM {l : List (Int × Bool)} {k h : Int} : inS (alPut l k true) h = if h = k then true else inS l h := by
  unfold inS
  rw [vj]
  split <;> rfl
section
variable {A B : Ar} {p : Pl} {w m : Int} {S S' : Sg}
def C6 (p : Pl) (w m : Int) (A : Ar) (S : Sg) : List Fe → Prop
  | [] => True
  | f :: fs => FeI p w m 0 f A S ∧ (∀ g ∈ fs, g = eR p 0 g.h ∧ A.stF g.h = 2)
structure ScI (p : Pl) (w m ta : Int) (x : Sc) (A : Ar) (S : Sg) : Prop where
  tw : x.tw = w
  ta : x.ta = ta
  pl : x.pl = p
  work : x.work = 0
  ll : x.l.length ≤ 100
  wd : 0 ≤ x.word
  en : x.ended = false
  st : (x.sorted = false ∧ x.word < 2 * w ∧ x.frees = [] ∧ x.left = [] ∧ x.l.Nodup ∧ (∀ h ∈ x.l, A.stF h = 2) ∧ (x.seen.length : Int) ≤ x.word) ∨
    (x.sorted = true ∧ x.word = 2 * w ∧ x.frees ≠ [] ∧ C6 p w m A S x.frees ∧ (x.frees.map Fe.h).Nodup ∧ x.left.Nodup ∧ (∀ h ∈ x.left, A.stF h = 2 ∧ h ∉ x.frees.map Fe.h) ∧ (x.left.length : Int) ≤ 2 * w)
def Safe (x : Sc) (r h : Int) : Prop := if x.sorted = true then h ∉ x.frees.map Fe.h else (h ∈ x.l → x.word ≤ 2 * r ∨ inS x.seen h = true)
theorem ScI.new (X : SL A p w m S) (hw : w ≤ 1000) {ta : Int} {xs : List Int} (hl : xs.length ≤ 100) (nd : xs.Nodup) (hs : ∀ h ∈ xs, A.stF h = 2) : ScI p w m ta (ky w ta p 0 xs) A S ∧ ∀ r h, 0 ≤ r → Safe (ky w ta p 0 xs) r h := by
  have wb := X.wb
  refine ⟨⟨rfl, rfl, rfl, rfl, hl, Int.le_refl 0, rfl, .inl ⟨rfl, by show 0 < 2 * w; omega, rfl, rfl, nd, hs, Int.le_refl 0⟩⟩, fun r h hr => ?_⟩
  unfold Safe
  rw [if_neg (by show ¬ false = true; simp)]
  exact fun _ => .inl (by show 0 ≤ 2 * r; omega)
structure ScS (p : Pl) (w m ta : Int) (x : Sc) (A : Ar) (S : Sg) (y : Sc) (B : Ar) (S' : Sg) : Prop where
  sl : SL B p w m S'
  wd : B.words = A.words
  us : B.aD = A.aD + 1
  fa : B.fault = A.fault
  rl : B.raw.length = A.raw.length
  rw : ∀ i, p.carved < i → B.ao i = A.ao i
  nL : B.nL = A.nL
  nR : B.nR ≤ A.nR
  st : ∀ h, B.stF h = A.stF h ∨ (B.stF h = 0 ∧ A.stF h = 2)
  safe : ∀ r h, 0 ≤ r → r < w → A.ao (ta + 2 * r) = h → A.stF h ≠ 0 → Safe x r h → B.stF h = A.stF h ∧ (y.ended = false → Safe y r h)
  go : y.ended = false → ScI p w m ta y B S'
  fin : y.ended = true → y.left.Nodup ∧ (∀ h ∈ y.left, B.stF h = 2) ∧ (y.left.length : Int) ≤ 2 * w
  l : y.left.length ≤ 1000
theorem ScI.step {ta : Int} {x : Sc} (I : ScI p w m ta x A S) (X : SL A p w m S) (hwf : A.wf) (hu : A.aD ≤ 1000000) (tb : p.carved < ta ∧ ta + 2 * w ≤ A.raw.length) (rl : (A.raw.length : Int) ≤ 1000000) : mSc.inv x A ∧ ∃ S', ScS p w m ta x A S (x.step A).1 (x.step A).2 S' := by
  obtain ⟨p1, p2, p3, p4, p5⟩ := X.gP
  have wb := X.wb
  have mb := X.mb
  have us := X.F.us
  have wd := I.wd
  have ll := I.ll
  rcases I.st with ⟨a1, a2, a3, a4, a5, a6, a7⟩ | ⟨a1, a2, a3, a4, a5, a6, a7, a8⟩
  · refine ⟨⟨by rw [I.tw]; omega, wd, by omega, fun _ => .inl ⟨by rw [I.tw]; exact a2, a1, a3, a4⟩⟩, ?_⟩
    have e : w64 (ta + x.word) = ta + x.word := aE (by omega) (by omega)
    have hst : x.step A = (if x.word + 1 = 2 * w then (x.jN A).sort else x.jN A, A.ay 1) := by
      unfold Sc.step
      rw [if_neg (by rw [I.en]; simp), I.tw, if_pos a2, I.ta, e, fU ⟨by omega, by omega⟩ us (by omega)]
    rw [hst]
    have w1 : x.jN A = { x with seen := alPut x.seen (A.ao (ta + x.word)) true, word := x.word + 1 } := by unfold Sc.jN; rw [I.ta, e]
    have X1 := X.ay (n := 1) (by omega)
    have sl1 := GO x.seen (A.ao (ta + x.word))
    have hin : ∀ r h, 0 ≤ r → r < w → A.ao (ta + 2 * r) = h → Safe x r h → (h ∈ x.l → x.word + 1 ≤ 2 * r ∨ inS (alPut x.seen (A.ao (ta + x.word)) true) h = true) := fun r h r0 r1 hr hs hl => by
      unfold Safe at hs
      rw [if_neg (by rw [a1]; simp)] at hs
      rw [KM]
      by_cases c : h = A.ao (ta + x.word)
      · right; rw [if_pos c]
      · rw [if_neg c]
        rcases hs hl with h1 | h1
        · by_cases e2 : x.word = 2 * r
          · exfalso; rw [← e2] at hr; exact c hr.symm
          · left; omega
        · exact .inr h1
    by_cases c : x.word + 1 = 2 * w
    · rw [if_pos c, w1]
      have hp : ∀ r h, 0 ≤ r → r < w → A.ao (ta + 2 * r) = h → Safe x r h → h ∈ x.l → inS (alPut x.seen (A.ao (ta + x.word)) true) h = true := fun r h r0 r1 hr hs hl => by
        rcases hin r h r0 r1 hr hs hl with h1 | h1
        · omega
        · exact h1
      generalize alPut x.seen (A.ao (ta + x.word)) true = seen' at *
      have es : Sc.sort { x with seen := seen', word := x.word + 1 } = { x with seen := seen', word := x.word + 1, frees := (x.l.filter fun h => !inS seen' h).map (eR x.pl x.work), left := x.l.filter (inS seen'), sorted := true, ended := decide ((x.l.filter fun h => !inS seen' h).map (eR x.pl x.work) = []) } := by
        show Sc.mk _ _ _ _ _ _ _ _ (((x.l.take x.l.length).filter fun h => !inS seen' h).map (eR x.pl x.work)) ((x.l.take x.l.length).filter (inS seen')) (decide ((((x.l.take x.l.length).filter fun h => !inS seen' h).map (eR x.pl x.work)) = [])) = _
        rw [List.take_length]; rfl
      rw [es, I.pl, I.work]
      have hmap : ((x.l.filter fun h => !inS seen' h).map (eR p 0)).map Fe.h = x.l.filter fun h => !inS seen' h := by
        rw [List.map_map]
        exact List.map_id _
      have hll : ((x.l.filter (inS seen')).length : Int) ≤ 2 * w := by
        have h1 := Ae (x.l.filter (inS seen')) (seen'.map Prod.fst) (a5.filter _) fun h hh => LB (List.mem_filter.1 hh).2
        rw [List.length_map] at h1
        omega
      refine ⟨S, X1, rfl, rfl, rfl, rfl, fun _ _ => rfl, rfl, Int.le_refl _, fun h => .inl rfl, fun r h r0 r1 hr hs hsf => ⟨rfl, fun _ => ?_⟩, fun he => ?_, fun _ => ⟨a5.filter _, fun h hh => a6 h (List.mem_filter.1 hh).1, hll⟩, ?_⟩
      · unfold Safe
        rw [if_pos rfl]
        dsimp only
        rw [hmap]
        intro hm
        obtain ⟨m1, m2⟩ := List.mem_filter.1 hm
        rw [hp r h r0 r1 hr hsf m1] at m2; cases m2
      · have he : decide ((x.l.filter fun h => !inS seen' h).map (eR p 0) = []) = false := he
        have hne : (x.l.filter fun h => !inS seen' h).map (eR p 0) ≠ [] := by simpa using he
        refine ⟨I.tw, I.ta, rfl, rfl, I.ll, by show 0 ≤ x.word + 1; omega, he, .inr ⟨rfl, c, hne, ?_, by rw [hmap]; exact a5.filter _, a5.filter _, fun h hh => ⟨a6 h (List.mem_filter.1 hh).1, ?_⟩, hll⟩⟩
        · have hall : ∀ g ∈ (x.l.filter fun h => !inS seen' h).map (eR p 0), g = eR p 0 g.h ∧ A.stF g.h = 2 := fun g hg => by
            obtain ⟨h, hh, rfl⟩ := List.mem_map.1 hg
            exact ⟨rfl, a6 h (List.mem_filter.1 hh).1⟩
          dsimp only
          cases hf : (x.l.filter fun h => !inS seen' h).map (eR p 0) with
          | nil => trivial
          | cons f fs =>
            rw [hf] at hall
            obtain ⟨h1, h2⟩ := hall f List.mem_cons_self
            refine ⟨?_, fun g hg => hall g (List.mem_cons_of_mem _ hg)⟩
            rw [h1]; exact FeI.new X1 ⟨Int.le_refl 0, by omega⟩ h2
        · rw [hmap]
          intro hm
          have h1 := (List.mem_filter.1 hh).2
          have h2 := (List.mem_filter.1 hm).2
          rw [h1] at h2; cases h2
      · exact Nat.le_trans (List.length_filter_le _ _) (by omega)
    · rw [if_neg c, w1]
      refine ⟨S, X1, rfl, rfl, rfl, rfl, fun _ _ => rfl, rfl, Int.le_refl _, fun h => .inl rfl, fun r h r0 r1 hr hs hsf => ⟨rfl, fun _ => ?_⟩, fun _ => ⟨I.tw, I.ta, I.pl, I.work, I.ll, by show 0 ≤ x.word + 1; omega, I.en, .inl ⟨a1, by show x.word + 1 < 2 * w; omega, a3, a4, a5, a6, by show ((alPut x.seen _ true).length : Int) ≤ x.word + 1; omega⟩⟩, fun he => ?_, by show x.left.length ≤ 1000; rw [a4]; exact Nat.zero_le _⟩
      · unfold Safe
        rw [if_neg (by show ¬ x.sorted = true; rw [a1]; simp)]
        exact hin r h r0 r1 hr hsf
      · have he : x.ended = true := he
        rw [I.en] at he; cases he
  · refine ⟨⟨by rw [I.tw]; omega, wd, by omega, fun _ => .inr ⟨by rw [I.tw, a2]; omega, a1, a3⟩⟩, ?_⟩
    obtain ⟨f, fs, ef⟩ : ∃ f fs, x.frees = f :: fs := by
      cases h : x.frees with
      | nil => exact (a3 h).elim
      | cons f fs => exact ⟨f, fs, rfl⟩
    rw [ef] at a4 a5 a7
    obtain ⟨b1, b2⟩ := a4
    obtain ⟨n1, n2⟩ := List.nodup_cons.1 a5
    have hst : x.step A = if (f.step A).1.done = true then ({ x with frees := fs, ended := decide (fs = []) }, (f.step A).2) else ({ x with frees := (f.step A).1 :: fs }, (f.step A).2) := by
      unfold Sc.step
      rw [if_neg (by rw [I.en]; simp), I.tw, if_neg (by omega), ef]
    rw [hst]
    obtain ⟨S', Z⟩ := b1.step X hwf hu ⟨Int.le_refl 0, by omega⟩
    generalize (f.step A).1 = y at *
    generalize (f.step A).2 = B at *
    have oth : ∀ h, A.stF h = 2 → h ≠ f.h → B.stF h = 2 := fun h hh hn => by
      rw [Z.ev.st h fun e => hn ?_]
      · exact hh
      · by_cases e2 : h = f.h
        · exact e2
        · have := sS (A := A) (h := f.h) (k := h) (by rw [b1.st]; decide) e e2
          rw [hh] at this; cases this
    have zl : ∀ h, A.stF h ≠ 0 → h ≠ f.h → B.stF h = A.stF h := fun h hh hn => by
      refine Z.ev.st h fun e => hh ?_
      exact sS (A := A) (h := f.h) (k := h) (by rw [b1.st]; decide) e hn
    have lenl : x.left.length ≤ 1000 := by omega
    rcases Z.res with ⟨r1, r2, r3, r4⟩ | ⟨r1, r3, r4⟩
    · rw [if_neg (by rw [r1]; simp)]
      refine ⟨S', Z.sl, Z.wd, Z.us, Z.ev.fa, Z.ev.rl, Z.ev.rw, Z.nL, by rw [r4]; exact Int.le_refl _, fun h => .inl (r3 h), fun r h r0 r1' hr hs hsf => ⟨r3 h, fun _ => ?_⟩, fun _ => ?_, fun he => ?_, lenl⟩
      · unfold Safe at hsf ⊢
        rw [if_pos a1, ef] at hsf
        rw [if_pos (show x.sorted = true from a1)]
        show h ∉ y.h :: fs.map Fe.h
        rw [Z.h]; exact hsf
      · refine ⟨I.tw, I.ta, I.pl, I.work, I.ll, I.wd, I.en, .inr ⟨a1, a2, by simp, ⟨r2, fun g hg => ⟨(b2 g hg).1, by rw [r3]; exact (b2 g hg).2⟩⟩, ?_, a6, fun h hh => ⟨by rw [r3]; exact (a7 h hh).1, ?_⟩, a8⟩⟩
        · show (y.h :: fs.map Fe.h).Nodup
          rw [Z.h]; exact a5
        · show h ∉ y.h :: fs.map Fe.h
          rw [Z.h]; exact (a7 h hh).2
      · have he : x.ended = true := he
        rw [I.en] at he; cases he
    · rw [if_pos r1]
      have szf := gk (c := opC f.h) (fk f.h).1 (fk f.h).2
      refine ⟨S', Z.sl, Z.wd, Z.us, Z.ev.fa, Z.ev.rl, Z.ev.rw, Z.nL, by rw [r4]; omega, fun h => ?_, fun r h r0 r1' hr hs hsf => ?_, fun he => ?_, fun he => ⟨a6, fun h hh => ?_, a8⟩, lenl⟩
      · by_cases e : h = f.h
        · right; rw [r3, if_pos e]; exact ⟨rfl, by rw [e]; exact b1.st⟩
        · left; rw [r3, if_neg e]
      · unfold Safe at hsf
        rw [if_pos a1, ef] at hsf
        have hsf : h ∉ f.h :: fs.map Fe.h := hsf
        have hne : h ≠ f.h := fun e => hsf (by rw [e]; exact List.mem_cons_self)
        refine ⟨by rw [r3, if_neg hne], fun _ => ?_⟩
        unfold Safe
        rw [if_pos (show x.sorted = true from a1)]
        exact fun hm => hsf (List.mem_cons_of_mem _ hm)
      · have he : decide (fs = []) = false := he
        have hne : fs ≠ [] := by simpa using he
        refine ⟨I.tw, I.ta, I.pl, I.work, I.ll, I.wd, he, .inr ⟨a1, a2, hne, ?_, n2, a6, fun h hh => ⟨?_, fun hm => (a7 h hh).2 (List.mem_cons_of_mem _ hm)⟩, a8⟩⟩
        · have hall : ∀ g ∈ fs, g = eR p 0 g.h ∧ B.stF g.h = 2 := fun g hg => by
            obtain ⟨h1, h2⟩ := b2 g hg
            refine ⟨h1, ?_⟩
            rw [r3, if_neg (fun e => n1 (by rw [← e]; exact List.mem_map.2 ⟨g, hg, rfl⟩))]; exact h2
          dsimp only
          cases hf : fs with
          | nil => trivial
          | cons g gs =>
            rw [hf] at hall
            obtain ⟨h1, h2⟩ := hall g List.mem_cons_self
            refine ⟨?_, fun g' hg' => hall g' (List.mem_cons_of_mem _ hg')⟩
            rw [h1]; exact FeI.new Z.sl ⟨Int.le_refl 0, by omega⟩ h2
        · rw [r3, if_neg (fun e => (a7 h hh).2 (by rw [e]; exact List.mem_cons_self))]; exact (a7 h hh).1
      · rw [r3, if_neg (fun e => (a7 h hh).2 (by rw [e]; exact List.mem_cons_self))]; exact (a7 h hh).1
end
section
variable {A B : Ar} {p : Pl} {w m : Int} {S S' : Sg}
structure TnI (p : Pl) (w m ta : Int) (x : Tn) (A : Ar) (S : Sg) : Prop where
  htw : x.tw = w
  hta : x.ta = ta
  hpl : x.pl = p
  hwk : x.work = 0
  ll : x.l.length ≤ 100
  nf : x.ph < 4
  lb : ∀ q ∈ x.l, q.2 ≤ 1000000
  lb2 : ∀ q ∈ x.left, q.2 ≤ 1000000
  st : (x.ph ≤ 2 ∧ x.frees = [] ∧ x.left = [] ∧ (x.l.map Prod.fst).Nodup ∧ (∀ q ∈ x.l, A.stF q.1 = 2) ∧ (x.ph ≤ 1 → 0 ≤ x.word ∧ x.word < w) ∧ (1 ≤ x.ph → x.e = A.ao ta) ∧ (x.ph = 0 → x.word = 0)) ∨
    (x.ph = 3 ∧ x.frees ≠ [] ∧ C6 p w m A S x.frees ∧ (x.frees.map Fe.h).Nodup ∧ (x.left.map Prod.fst).Nodup ∧ (∀ q ∈ x.left, A.stF q.1 = 2 ∧ q.1 ∉ x.frees.map Fe.h) ∧ x.left.length ≤ 100)
def Aj (x : Tn) (g r P : Int) : Prop := g = P + 1 → x.ph = 0 ∨ (x.ph = 1 ∧ x.word ≤ r) ∨ 3 ≤ x.ph
def jv (x : Tn) (h P : Int) : Prop := if x.ph ≤ 2 then ∀ q ∈ x.l, q.1 = h → P ≤ q.2 else h ∉ x.frees.map Fe.h ∧ ∀ q ∈ x.left, q.1 = h → P ≤ q.2
theorem TnI.new (X : SL A p w m S) (hw : 1 ≤ w ∧ w ≤ 1000) {ta : Int} {xs : List (Int × Int)} (hl : xs.length ≤ 100) (nd : (xs.map Prod.fst).Nodup) (hs : ∀ q ∈ xs, A.stF q.1 = 2) (lb : ∀ q ∈ xs, q.2 ≤ 1000000) : TnI p w m ta (g8 w ta p 0 xs) A S :=
  ⟨rfl, rfl, rfl, rfl, hl, by show 0 < 4; decide, lb, fun q hq => (by cases hq), .inl ⟨by show 0 ≤ 2; decide, rfl, rfl, nd, hs, fun _ => ⟨Int.le_refl 0, by show 0 < w; omega⟩, fun h => (by cases h), fun _ => rfl⟩⟩
theorem Aj.new {ta g r P : Int} {xs : List (Int × Int)} : Aj (g8 w ta p 0 xs) g r P := fun _ => .inl rfl
theorem jv.new {ta h P : Int} {xs : List (Int × Int)} (hx : ∀ q ∈ xs, q.1 = h → P ≤ q.2) : jv (g8 w ta p 0 xs) h P := by
  unfold jv; rw [if_pos (by show 0 ≤ 2; decide)]; exact hx
structure TnS (p : Pl) (w m ta : Int) (x : Tn) (A : Ar) (S : Sg) (y : Tn) (B : Ar) (S' : Sg) : Prop where
  sl : SL B p w m S'
  wd : B.words = A.words
  us : B.aD = A.aD + 1
  fa : B.fault = A.fault
  rl : B.raw.length = A.raw.length
  rw : ∀ i, p.carved < i → i ≠ ta → B.ao i = A.ao i
  gl : B.ao ta = A.ao ta ∨ B.ao ta = A.ao ta + 1
  nL : B.nL = A.nL
  nR : B.nR ≤ A.nR
  st : ∀ h, B.stF h = A.stF h ∨ (B.stF h = 0 ∧ A.stF h = 2)
  ts : ∀ r P, 0 ≤ r → r < w → 0 ≤ P → A.ao (ta + 1 + r) = P + 1 → A.ao ta = P ∨ A.ao ta = P + 1 → Aj x (A.ao ta) r P → (B.ao ta = P ∨ B.ao ta = P + 1) ∧ Aj y (B.ao ta) r P ∧
    ∀ h, A.stF h ≠ 0 → jv x h P → B.stF h = A.stF h ∧ jv y h P
  go : y.ph < 4 → TnI p w m ta y B S'
  fin : 4 ≤ y.ph → (y.left.map Prod.fst).Nodup ∧ (∀ q ∈ y.left, B.stF q.1 = 2) ∧ y.left.length ≤ 100
  lb : ∀ q ∈ y.left, q.2 ≤ 1000000
  l : y.left.length ≤ 1000
theorem Gm {t : Tn} {ta : Int} (X : SL B p w m S) (tw : t.tw = w) (tt : t.ta = ta) (tp : t.pl = p) (tk : t.work = 0) (ll : t.l.length ≤ 100) (nd : (t.l.map Prod.fst).Nodup) (hs : ∀ q ∈ t.l, B.stF q.1 = 2) (wh : 1 ≤ w) (lb : ∀ q ∈ t.l, q.2 ≤ 1000000) :
    (t.sort.ph < 4 → TnI p w m ta t.sort B S) ∧ (4 ≤ t.sort.ph → (t.sort.left.map Prod.fst).Nodup ∧ (∀ q ∈ t.sort.left, B.stF q.1 = 2) ∧ t.sort.left.length ≤ 100) ∧ 3 ≤ t.sort.ph ∧ t.sort.left.length ≤ 100 ∧
      (∀ h P, (∀ q ∈ t.l, q.1 = h → P ≤ q.2) → t.e ≤ P + 1 → -1000000 ≤ P → jv t.sort h P) ∧ (∀ q ∈ t.sort.left, q.2 ≤ 1000000) := by
  subst tp
  have es := He t
  rw [tk] at es
  have hg : (tE t.e t.l).Nodup := ((List.filter_sublist (l := t.l) (p := due t.e)).map Prod.fst).nodup nd
  have hmap : ((tE t.e t.l).map (eR t.pl 0)).map Fe.h = tE t.e t.l := by rw [List.map_map]; exact List.map_id _
  have hlen : (BB t.e t.l).length ≤ 100 := Nat.le_trans (List.length_filter_le _ _) ll
  have hnd : ((BB t.e t.l).map Prod.fst).Nodup := ((List.filter_sublist (l := t.l) (p := fun x => !due t.e x)).map Prod.fst).nodup nd
  have hsl : ∀ q ∈ BB t.e t.l, B.stF q.1 = 2 := fun q hq => hs q (List.mem_filter.1 hq).1
  have hsg : ∀ h ∈ tE t.e t.l, B.stF h = 2 := fun h hh => by
    obtain ⟨q, hq, rfl⟩ := List.mem_map.1 hh
    exact hs q (List.mem_filter.1 hq).1
  have dj : ∀ q ∈ BB t.e t.l, q.1 ∉ tE t.e t.l := fun q hq hm => by
    obtain ⟨q2, h2, e⟩ := List.mem_map.1 hm
    obtain ⟨m1, m2⟩ := List.mem_filter.1 hq
    obtain ⟨m3, m4⟩ := List.mem_filter.1 h2
    have : q2 = q := by
      have inj : ∀ {l : List (Int × Int)}, (l.map Prod.fst).Nodup → ∀ a ∈ l, ∀ b ∈ l, a.1 = b.1 → a = b := fun {l} => by
        induction l with
        | nil => intro _ a ha; cases ha
        | cons c l ih =>
          intro nd a ha b hb hab
          obtain ⟨n1, n2⟩ := List.nodup_cons.1 (show (c.1 :: l.map Prod.fst).Nodup from nd)
          rcases List.mem_cons.1 ha with e | e
          · rcases List.mem_cons.1 hb with e2 | e2
            · rw [e, e2]
            · subst e
              exact (n1 (by rw [hab]; exact List.mem_map.2 ⟨b, e2, rfl⟩)).elim
          · rcases List.mem_cons.1 hb with e2 | e2
            · subst e2
              exact (n1 (by rw [← hab]; exact List.mem_map.2 ⟨a, e, rfl⟩)).elim
            · exact ih n2 a e b e2 hab
      exact inj nd q2 m3 q m1 e
    subst this
    rw [m4] at m2; cases m2
  have ph3 : 3 ≤ t.sort.ph := by
    show 3 ≤ (if _ then 4 else 3)
    split <;> decide
  have left : t.sort.left = BB t.e t.l := by rw [es]
  have frees : t.sort.frees = (tE t.e t.l).map (eR t.pl 0) := by rw [es]
  refine ⟨fun h4 => ?_, fun _ => by rw [left]; exact ⟨hnd, hsl, hlen⟩, ph3, by rw [left]; exact hlen, fun h P h1 h2 h3 => ?_, fun q hq => by rw [left] at hq; exact lb q (List.mem_filter.1 hq).1⟩
  · have hne : (tE t.e t.l).map (eR t.pl 0) ≠ [] := fun e => by
      have : t.sort.ph = 4 := by rw [es]; show (if _ then 4 else 3) = 4; rw [if_pos e]
      omega
    refine ⟨tw, tt, rfl, tk, ll, h4, lb, fun q hq => by rw [left] at hq; exact lb q (List.mem_filter.1 hq).1, .inr ⟨by omega, by rw [frees]; exact hne, ?_, by rw [frees, hmap]; exact hg, by rw [left]; exact hnd, fun q hq => ?_, by rw [left]; exact hlen⟩⟩
    · rw [frees]
      have hall : ∀ g ∈ (tE t.e t.l).map (eR t.pl 0), g = eR t.pl 0 g.h ∧ B.stF g.h = 2 := fun g hgm => by
        obtain ⟨h, hh, rfl⟩ := List.mem_map.1 hgm
        exact ⟨rfl, hsg h hh⟩
      cases hf : (tE t.e t.l).map (eR t.pl 0) with
      | nil => trivial
      | cons f fs =>
        rw [hf] at hall
        obtain ⟨q1, q2⟩ := hall f List.mem_cons_self
        refine ⟨?_, fun g hg => hall g (List.mem_cons_of_mem _ hg)⟩
        rw [q1]; exact FeI.new X ⟨Int.le_refl 0, by omega⟩ q2
    · rw [left] at hq
      rw [frees, hmap]
      exact ⟨hsl q hq, dj q hq⟩
  · unfold jv
    rw [if_neg (by omega), frees, hmap, left]
    refine ⟨fun hm => ?_, fun q hq e => h1 q (List.mem_filter.1 hq).1 e⟩
    obtain ⟨q, hq, e⟩ := List.mem_map.1 hm
    obtain ⟨m1, m2⟩ := List.mem_filter.1 hq
    have hp := h1 q m1 e
    have hu := lb q m1
    unfold due at m2
    have m2 := of_decide_eq_true m2
    rw [aE (by omega) (by omega)] at m2
    omega
set_option maxHeartbeats 2000000 in
theorem TnI.step {ta : Int} {x : Tn} (I : TnI p w m ta x A S) (X : SL A p w m S) (hwf : A.wf) (hu : A.aD ≤ 1000000) (tb : p.carved < ta ∧ ta + 1 + w ≤ A.raw.length) (rl : (A.raw.length : Int) ≤ 1000000) (gb : 0 ≤ A.ao ta ∧ A.ao ta ≤ 900000) (w1 : 1 ≤ w) :
    mTn.inv x A ∧ ∃ S', TnS p w m ta x A S (x.step A).1 (x.step A).2 S' := by
  obtain ⟨p1, p2, p3, p4, p5⟩ := X.gP
  have wb := X.wb
  have mb := X.mb
  have us := X.F.us
  have ll := I.ll
  have X1 := X.ay (n := 1) (by omega)
  have okT : A.bp ta := ⟨by omega, by omega⟩
  rcases I.st with ⟨a1, a2, a3, a4, a5, a6, a7, a8⟩ | ⟨a1, a2, a3, a4, a5, a6, a7⟩
  · refine ⟨⟨by omega, fun _ => ⟨a2, a3⟩, fun h => by omega⟩, ?_⟩
    by_cases h0 : x.ph = 0
    · -- the global is looked at
      have hst : x.step A = ({ x with e := A.ao ta, ph := 1 }, A.ay 1) := by
        unfold Tn.step
        rw [if_pos h0, I.hta, I.htw, if_neg (by omega), fU ⟨by omega, by omega⟩ us (by omega)]
      rw [hst]
      have w0 := a8 h0
      refine ⟨S, X1, rfl, rfl, rfl, rfl, fun _ _ _ => rfl, .inl rfl, rfl, Int.le_refl _, fun h => .inl rfl, fun r P r0 r1 P0 hr hg ht => ⟨hg, fun _ => .inr (.inl ⟨rfl, by show x.word ≤ r; omega⟩), fun h hs hh => ⟨rfl, ?_⟩⟩, fun _ => ⟨I.htw, I.hta, I.hpl, I.hwk, I.ll, by show 1 < 4; decide, I.lb, I.lb2, .inl ⟨by show 1 ≤ 2; decide, a2, a3, a4, a5, fun _ => a6 (by omega), fun _ => rfl, fun h => (by cases h)⟩⟩, fun h => ?_, I.lb2, by show x.left.length ≤ 1000; rw [a3]; exact Nat.zero_le _⟩
      · unfold jv at hh ⊢
        rw [if_pos a1] at hh
        rw [if_pos (by show 1 ≤ 2; decide)]; exact hh
      · exact absurd h (by show ¬ 4 ≤ 1; decide)
    by_cases h1 : x.ph = 1
    · -- a word is looked at
      obtain ⟨wd0, wd1⟩ := a6 (by omega)
      have ee := a7 (by omega)
      have ew : ewd ta x.word = ta + 1 + x.word := zW ⟨by omega, by omega, by omega, by omega⟩
      have e1 : w64 (x.word + 1) = x.word + 1 := aE (by omega) (by omega)
      have e3 : w64 (x.e + 1) = x.e + 1 := aE (by omega) (by omega)
      have hst : x.step A = (if A.ao (ta + 1 + x.word) ≠ 0 ∧ A.ao (ta + 1 + x.word) ≠ x.e + 1 then Tn.sort { x with word := x.word + 1 } else { x with word := x.word + 1, ph := if x.word + 1 = w then 2 else 1 }, A.ay 1) := by
        unfold Tn.step
        rw [if_neg h0, if_pos h1, I.hta, ew, e1, e3, I.htw, fU ⟨by omega, by omega⟩ us (by omega)]
      rw [hst]
      by_cases c : A.ao (ta + 1 + x.word) ≠ 0 ∧ A.ao (ta + 1 + x.word) ≠ x.e + 1
      · rw [if_pos c]
        obtain ⟨t1, t2, t3, t4, t5, t6⟩ := Gm (t := { x with word := x.word + 1 }) (ta := ta) X1 I.htw I.hta I.hpl I.hwk I.ll a4 a5 w1 I.lb
        refine ⟨S, X1, rfl, rfl, rfl, rfl, fun _ _ _ => rfl, .inl rfl, rfl, Int.le_refl _, fun h => .inl rfl, fun r P r0 r1 P0 hr hg ht => ⟨hg, fun _ => .inr (.inr t3), fun h hs hh => ⟨rfl, ?_⟩⟩, t1, t2, t6, Nat.le_trans t4 (by decide)⟩
        unfold jv at hh
        rw [if_pos a1] at hh
        exact t5 h P hh (by show x.e ≤ P + 1; omega) (by omega)
      · rw [if_neg c]
        refine ⟨S, X1, rfl, rfl, rfl, rfl, fun _ _ _ => rfl, .inl rfl, rfl, Int.le_refl _, fun h => .inl rfl, fun r P r0 r1 P0 hr hg ht => ⟨hg, fun hgp => ?_, fun h hs hh => ⟨rfl, ?_⟩⟩, fun _ => ⟨I.htw, I.hta, I.hpl, I.hwk, I.ll, ?_, I.lb, I.lb2, .inl ⟨?_, a2, a3, a4, a5, fun hp => ?_, fun _ => ee, fun hp => ?_⟩⟩, fun h => ?_, I.lb2, by show x.left.length ≤ 1000; rw [a3]; exact Nat.zero_le _⟩
        · rcases ht hgp with h | ⟨-, h⟩ | h
          · omega
          · by_cases e : x.word = r
            · exfalso
              rw [e] at c
              have hgp : A.ao ta = P + 1 := hgp
              exact c ⟨by omega, by omega⟩
            · refine .inr (.inl ⟨?_, by show x.word + 1 ≤ r; omega⟩)
              show (if x.word + 1 = w then 2 else 1) = 1
              rw [if_neg (by omega)]
          · omega
        · unfold jv at hh ⊢
          rw [if_pos a1] at hh
          rw [if_pos (by show (if x.word + 1 = w then 2 else 1) ≤ 2; split <;> decide)]; exact hh
        · show (if x.word + 1 = w then 2 else 1) < 4; split <;> decide
        · show (if x.word + 1 = w then 2 else 1) ≤ 2; split <;> decide
        · have hp : (if x.word + 1 = w then 2 else 1) ≤ 1 := hp
          split at hp
          · omega
          · show 0 ≤ x.word + 1 ∧ x.word + 1 < w; omega
        · have hp : (if x.word + 1 = w then 2 else 1) = 0 := hp
          split at hp <;> cases hp
        · have h : 4 ≤ (if x.word + 1 = w then 2 else 1) := h
          split at h <;> omega
    · -- the global is turned
      have h2 : x.ph = 2 := by omega
      have ee := a7 (by omega)
      have e3 : w64 (x.e + 1) = x.e + 1 := aE (by omega) (by omega)
      obtain ⟨s1, s2⟩ := lZ (A := A) (i := ta) (v := x.e) (x := x.e + 1) okT ee.symm
      have O := Kf X (i := ta) (v := x.e + 1) ⟨tb.1, by omega⟩ (by omega)
      have hst : x.step A = (Tn.sort { x with e := x.e + 1 }, A.aL ta (x.e + 1)) := by
        unfold Tn.step
        rw [if_neg h0, if_neg h1, if_pos h2, I.hta, e3, s1, s2]; rfl
      rw [hst]
      have Q := Qu.aL X (by omega) (i := ta) (v := x.e + 1) ⟨tb.1, by omega⟩
      obtain ⟨q1, q2, q3, q4, q5, q6, q7, q8, q9, q10⟩ := Q
      generalize A.aL ta (x.e + 1) = B at *
      obtain ⟨t1, t2, t3, t4, t5, t6⟩ := Gm (t := { x with e := x.e + 1 }) (B := B) (ta := ta) q1 I.htw I.hta I.hpl I.hwk I.ll a4 (fun q hq => by rw [q3]; exact a5 q hq) w1 I.lb
      refine ⟨S, q1, q6, q8, q7, q9, fun i hi hne => by rw [q10, if_neg hne], .inr (by rw [q10, if_pos rfl, ee]), q4, by rw [q5]; exact Int.le_refl _, fun h => .inl (q3 h), fun r P r0 r1 P0 hr hg ht => ?_, t1, t2, t6, Nat.le_trans t4 (by decide)⟩
      have hgP : A.ao ta = P := by
        rcases hg with h | h
        · exact h
        · rcases ht h with h' | ⟨h', -⟩ | h' <;> omega
      refine ⟨.inr (by rw [q10, if_pos rfl]; omega), fun _ => .inr (.inr t3), fun h hs hh => ⟨q3 h, ?_⟩⟩
      unfold jv at hh
      rw [if_pos a1] at hh
      exact t5 h P hh (by show x.e + 1 ≤ P + 1; omega) (by omega)
  · refine ⟨⟨by omega, fun h => by omega, fun _ => a2⟩, ?_⟩
    obtain ⟨f, fs, ef⟩ : ∃ f fs, x.frees = f :: fs := by
      cases h : x.frees with
      | nil => exact (a2 h).elim
      | cons f fs => exact ⟨f, fs, rfl⟩
    rw [ef] at a3 a4 a6
    obtain ⟨b1, b2⟩ := a3
    obtain ⟨n1, n2⟩ := List.nodup_cons.1 (show (f.h :: fs.map Fe.h).Nodup from a4)
    have hst : x.step A = if (f.step A).1.done = true then ({ x with frees := fs, ph := if fs = [] then 4 else 3 }, (f.step A).2) else ({ x with frees := (f.step A).1 :: fs }, (f.step A).2) := by
      unfold Tn.step
      rw [if_neg (by omega), if_neg (by omega), if_neg (by omega), if_pos a1, ef]
    rw [hst]
    obtain ⟨S', Z⟩ := b1.step X hwf hu ⟨Int.le_refl 0, by omega⟩
    generalize (f.step A).1 = y at *
    generalize (f.step A).2 = B at *
    have rg : B.ao ta = A.ao ta := Z.ev.rw ta tb.1
    have hng : ¬ x.ph ≤ 2 := by omega
    rcases Z.res with ⟨r1, r2, r3, r4⟩ | ⟨r1, r3, r4⟩
    · rw [if_neg (by rw [r1]; simp)]
      refine ⟨S', Z.sl, Z.wd, Z.us, Z.ev.fa, Z.ev.rl, fun i hi _ => Z.ev.rw i hi, .inl rg, Z.nL, by rw [r4]; exact Int.le_refl _, fun h => .inl (r3 h), fun r P r0 r1' P0 hr hg ht => ⟨by rw [rg]; exact hg, fun _ => .inr (.inr (by show 3 ≤ x.ph; omega)), fun h hs hh => ⟨r3 h, ?_⟩⟩, fun _ => ?_, fun he => ?_, I.lb2, by show x.left.length ≤ 1000; omega⟩
      · unfold jv at hh ⊢
        rw [if_neg hng, ef] at hh
        rw [if_neg (show ¬ x.ph ≤ 2 from hng)]
        refine ⟨?_, hh.2⟩
        show h ∉ y.h :: fs.map Fe.h
        rw [Z.h]; exact hh.1
      · refine ⟨I.htw, I.hta, I.hpl, I.hwk, I.ll, I.nf, I.lb, I.lb2, .inr ⟨a1, by simp, ⟨r2, fun g hg => ⟨(b2 g hg).1, by rw [r3]; exact (b2 g hg).2⟩⟩, ?_, a5, fun q hq => ⟨by rw [r3]; exact (a6 q hq).1, ?_⟩, a7⟩⟩
        · show (y.h :: fs.map Fe.h).Nodup
          rw [Z.h]; exact a4
        · show q.1 ∉ y.h :: fs.map Fe.h
          rw [Z.h]; exact (a6 q hq).2
      · exact absurd he (by show ¬ 4 ≤ x.ph; omega)
    · rw [if_pos r1]
      have szf := gk (c := opC f.h) (fk f.h).1 (fk f.h).2
      have ph3 : 3 ≤ (if fs = [] then 4 else 3) := by split <;> decide
      refine ⟨S', Z.sl, Z.wd, Z.us, Z.ev.fa, Z.ev.rl, fun i hi _ => Z.ev.rw i hi, .inl rg, Z.nL, by rw [r4]; omega, fun h => ?_, fun r P r0 r1' P0 hr hg ht => ⟨by rw [rg]; exact hg, fun _ => .inr (.inr ph3), fun h hs hh => ?_⟩, fun he => ?_, fun he => ⟨a5, fun q hq => ?_, a7⟩, I.lb2, by show x.left.length ≤ 1000; omega⟩
      · by_cases e : h = f.h
        · right; rw [r3, if_pos e]; exact ⟨rfl, by rw [e]; exact b1.st⟩
        · left; rw [r3, if_neg e]
      · unfold jv at hh
        rw [if_neg hng, ef] at hh
        have hne : h ≠ f.h := fun e => hh.1 (by rw [e]; exact List.mem_cons_self)
        refine ⟨by rw [r3, if_neg hne], ?_⟩
        unfold jv
        rw [if_neg (show ¬ (if fs = [] then 4 else 3) ≤ 2 by omega)]
        exact ⟨fun hm => hh.1 (List.mem_cons_of_mem _ hm), hh.2⟩
      · have he : (if fs = [] then 4 else 3) < 4 := he
        have hne : fs ≠ [] := fun e => by rw [if_pos e] at he; omega
        refine ⟨I.htw, I.hta, I.hpl, I.hwk, I.ll, he, I.lb, I.lb2, .inr ⟨if_neg hne, hne, ?_, n2, a5, fun q hq => ⟨?_, fun hm => (a6 q hq).2 (List.mem_cons_of_mem _ hm)⟩, a7⟩⟩
        · have hall : ∀ g ∈ fs, g = eR p 0 g.h ∧ B.stF g.h = 2 := fun g hg => by
            obtain ⟨h1, h2⟩ := b2 g hg
            refine ⟨h1, ?_⟩
            rw [r3, if_neg (fun e => n1 (by rw [← e]; exact List.mem_map.2 ⟨g, hg, rfl⟩))]; exact h2
          dsimp only
          cases hf : fs with
          | nil => trivial
          | cons g gs =>
            rw [hf] at hall
            obtain ⟨h1, h2⟩ := hall g List.mem_cons_self
            refine ⟨?_, fun g' hg' => hall g' (List.mem_cons_of_mem _ hg')⟩
            rw [h1]; exact FeI.new Z.sl ⟨Int.le_refl 0, by omega⟩ h2
        · rw [r3, if_neg (fun e => (a6 q hq).2 (by rw [e]; exact List.mem_cons_self))]; exact (a6 q hq).1
      · rw [r3, if_neg (fun e => (a6 q hq).2 (by rw [e]; exact List.mem_cons_self))]; exact (a6 q hq).1
end
theorem HT {A : Ar} {p : Pl} {w m : Int} {S : Sg} (X : SL A p w m S) : ∀ j, (-1 : Int) ∉ S.ch j := fun j hj => by
  have := X.F.rg j (by intro e; rw [e] at hj; cases hj)
  have h2 := X.chc j _ hj
  have h3 := X.blk (-1) (by rw [h2]; have := Int.emod_nonneg j (b := 4) (by decide); omega)
  omega
inductive Oph
  | no
  | al (x : Al)
  | lk (y : Lk)
structure Lay (A : Ar) (g : Gd) (m at_ : Int) : Prop where
  ta : g.pl.carved < g.ta
  c0 : 0 ≤ g.pl.carved
  lo : g.ta + cm g.ep g.w ≤ at_
  hi : at_ + 3 * g.w ≤ A.raw.length
  rb : (A.raw.length : Int) ≤ 1000000
  wb : 2 ≤ g.w ∧ g.w ≤ 5
  mb : 0 ≤ m ∧ m ≤ 700
def Lm (A : Ar) (lim : List (Int × Int)) : Prop := (lim.map Prod.fst).Nodup ∧ ∀ q ∈ lim, A.stF q.1 = 2 ∧ q.2 ≤ 1000000
def InI (g : Gd) (m : Int) (A : Ar) (S : Sg) (lim : List (Int × Int)) (first : Bool) (times : Int) : In → Prop
  | .no => Lm A lim ∧ (first = true → g.ep = true ∧ lim ≠ []) ∧ (first = false → times = 1 ∧ g.ep = true)
  | .sc x => first = false ∧ times = 0 ∧ g.ep = false ∧ ScI g.pl g.w m g.ta x A S
  | .tn x => first = false ∧ times = 0 ∧ g.ep = true ∧ TnI g.pl g.w m g.ta x A S
structure LkI (g : Gd) (m : Int) (A : Ar) (S : Sg) (lim : List (Int × Int)) (y : Lk) : Prop where
  yg : y.g = g
  wk : y.work = 0
  ls : y.ls 0 = lim
  tb : 0 ≤ y.times ∧ y.times ≤ 1
  ll : lim.length ≤ 200
  im : InI g m A S lim y.first y.times y.m
def PhI (g : Gd) (m : Int) (A : Ar) (S : Sg) (lim : List (Int × Int)) : Oph → Prop
  | .no => Lm A lim
  | .al x => AlI g.pl g.w m x A S ∧ Lm A lim
  | .lk y => LkI g m A S lim y
structure GZ (A : Ar) (g : Gd) (m : Int) (S : Sg) (at_ : Int) (ph : Oph) (lim : List (Int × Int)) (U : Int) : Prop where
  sl : SL A g.pl g.w m S
  fa : A.fault = false
  lay : Lay A g m at_
  us : A.aD ≤ U
  ub : U ≤ 800000
  cn : A.nR ≤ 64 * A.aD ∧ -(64 * A.aD) ≤ A.nL
  gb : g.ep = true → 0 ≤ A.ao g.ta ∧ A.ao g.ta ≤ A.aD
  ph : PhI g m A S lim ph
def KA : Oph → Prop
  | .lk y => match y.m with
    | .tn _ => True
    | _ => False
  | _ => False
def scS (ph : Oph) (r h : Int) : Prop := ∀ y x, ph = .lk y → y.m = .sc x → Safe x r h
def tnT (A : Ar) (g : Gd) (ph : Oph) (r P : Int) : Prop := ∀ y x, ph = .lk y → y.m = .tn x → Aj x (A.ao g.ta) r P
def zQ (A : Ar) (g : Gd) (lim : List (Int × Int)) : Oph → List (Int × Int)
  | .lk y => if y.first = true then cO lim (A.ao g.ta) else lim
  | _ => lim
def tnH (A : Ar) (g : Gd) (ph : Oph) (lim : List (Int × Int)) (h P : Int) : Prop := (∀ y x, ph = .lk y → y.m = .tn x → jv x h P) ∧ (¬ KA ph → ∀ q ∈ zQ A g lim ph, q.1 = h → P ≤ q.2)
structure mr (A : Ar) (g : Gd) (ph : Oph) (r P : Int) : Prop where
  p0 : 0 ≤ P
  wd : A.ao (g.ta + 1 + r) = P + 1
  gl : A.ao g.ta = P ∨ A.ao g.ta = P + 1
  ts : tnT A g ph r P
structure Prt (A : Ar) (g : Gd) (ph : Oph) (lim : List (Int × Int)) (r P h : Int) : Prop where
  nz : A.stF h ≠ 0
  ha : g.ep = false → A.ao (g.ta + 2 * r) = h ∧ scS ph r h
  hp : g.ep = true → tnH A g ph lim h P
section
variable {A B : Ar} {g : Gd} {m at_ U i v h r P : Int} {S S' : Sg} {ph : Oph} {lim : List (Int × Int)}
structure Qz (A : Ar) (g : Gd) (m : Int) (S : Sg) (B : Ar) : Prop where
  sl : SL B g.pl g.w m S
  fe : FEv g.w ((m + 7) / 8) A B (-1)
  st : ∀ h, B.stF h = A.stF h
  nL : B.nL = A.nL
  nR : B.nR = A.nR
  fa : B.fault = A.fault
  us : B.aD = A.aD + 1
  rl : B.raw.length = A.raw.length
  gt : g.ep = true → B.ao g.ta = A.ao g.ta
theorem Qz.ay (X : SL A g.pl g.w m S) : Qz A g m S (A.ay 1) := ⟨X.ay (by omega), FEv.same (fun _ _ _ => rfl) X.F.wb.1 X.F.nb.1, fun _ => rfl, rfl, rfl, rfl, rfl, rfl, fun _ => rfl⟩
theorem GZ.word (Z : GZ A g m S at_ ph lim U) (hi : g.pl.carved < i ∧ i < A.raw.length) (he : g.ep = true → i ≠ g.ta) : Qz A g m S (A.aL i v) ∧ (A.aL i v).words = A.words ∧ ∀ j, (A.aL i v).ao j = if j = i then v else A.ao j := by
  have us := Z.us
  have ub := Z.ub
  obtain ⟨q1, q2, q3, q4, q5, q6, q7, q8, q9, q10⟩ := Qu.aL Z.sl (by omega) (i := i) (v := v) hi
  exact ⟨⟨q1, q2, q3, q4, q5, q7, q8, q9, fun h => by rw [q10, if_neg (fun e => he h e.symm)]⟩, q6, q10⟩
theorem GZ.LM (Z : GZ A g m S at_ ph lim U) {off : Int} (hi : A.fZ h off) : Qz A g m S (A.bW h off v) ∧ (∀ j, (A.bW h off v).ao j = A.ao j) := by
  have us := Z.us
  have ub := Z.ub
  obtain ⟨Q, u⟩ := Qu.store Z.sl (by omega) (v := v) hi
  have e : A.bW h off v = (A.tick).rv (pos h off) v := sE hi v
  have rf : ∀ j, (A.bW h off v).ao j = A.ao j := fun j => by rw [e]; rfl
  exact ⟨⟨Q.sl, Q.ev.fe, Q.st, Q.nL, Q.nR, Q.ev.fa, u, Q.ev.rl, fun _ => rf _⟩, rf⟩
theorem Lm.same (L : Lm A lim) (st : ∀ h, B.stF h = A.stF h) : Lm B lim := ⟨L.1, fun q hq => by rw [st]; exact L.2 q hq⟩
theorem AlI.qz {p : Pl} {w : Int} {x : Al} (a : AlI p w m x A S) (X : SL A p w m S) (fe : FEv w ((m + 7) / 8) A B (-1)) (st : ∀ h, B.stF h = A.stF h) : AlI p w m x B S := by
  refine ⟨a.pl, a.who, a.cls, a.lst, a.wh, fun e => ?_, a.swaps, fun e => ?_, a.h0⟩
  · obtain ⟨l0, k, k0, k1, k2, P⟩ := a.pops e
    exact ⟨l0, k, k0, k1, k2, P.JP X.F k0 k1 (HT X) fe⟩
  · obtain ⟨o, c⟩ := a.bears e
    exact ⟨⟨o.1, o.2.1, fun h hh => o.2.2 h (by rw [← st]; exact hh)⟩, c⟩
theorem C6.qz {p : Pl} {w : Int} {fs : List Fe} (a : C6 p w m A S fs) (X : SL A p w m S) (fe : FEv w ((m + 7) / 8) A B (-1)) (st : ∀ h, B.stF h = A.stF h) : C6 p w m B S fs := by
  cases fs with
  | nil => trivial
  | cons f fs =>
    have bb := a.1.pu.bb
    exact ⟨⟨by rw [st]; exact a.1.st, a.1.nd, a.1.pu.JP (by omega) fe⟩, fun g hg => ⟨(a.2 g hg).1, by rw [st]; exact (a.2 g hg).2⟩⟩
theorem ScI.qz {p : Pl} {w ta : Int} {x : Sc} (a : ScI p w m ta x A S) (X : SL A p w m S) (fe : FEv w ((m + 7) / 8) A B (-1)) (st : ∀ h, B.stF h = A.stF h) : ScI p w m ta x B S := by
  refine ⟨a.tw, a.ta, a.pl, a.work, a.ll, a.wd, a.en, ?_⟩
  rcases a.st with ⟨a1, a2, a3, a4, a5, a6, a7⟩ | ⟨a1, a2, a3, a4, a5, a6, a7, a8⟩
  · exact .inl ⟨a1, a2, a3, a4, a5, fun h hh => by rw [st]; exact a6 h hh, a7⟩
  · exact .inr ⟨a1, a2, a3, a4.qz X fe st, a5, a6, fun h hh => ⟨by rw [st]; exact (a7 h hh).1, (a7 h hh).2⟩, a8⟩
theorem TnI.qz {p : Pl} {w ta : Int} {x : Tn} (a : TnI p w m ta x A S) (X : SL A p w m S) (fe : FEv w ((m + 7) / 8) A B (-1)) (st : ∀ h, B.stF h = A.stF h) (hg : B.ao ta = A.ao ta) : TnI p w m ta x B S := by
  refine ⟨a.htw, a.hta, a.hpl, a.hwk, a.ll, a.nf, a.lb, a.lb2, ?_⟩
  rcases a.st with ⟨a1, a2, a3, a4, a5, a6, a7, a8⟩ | ⟨a1, a2, a3, a4, a5, a6, a7⟩
  · exact .inl ⟨a1, a2, a3, a4, fun q hq => by rw [st]; exact a5 q hq, a6, fun h => by rw [hg]; exact a7 h, a8⟩
  · exact .inr ⟨a1, a2, a3.qz X fe st, a4, a5, fun q hq => ⟨by rw [st]; exact (a6 q hq).1, (a6 q hq).2⟩, a7⟩
theorem PhI.qz (a : PhI g m A S lim ph) (X : SL A g.pl g.w m S) (Q : Qz A g m S B) : PhI g m B S lim ph := by
  cases ph with
  | no => exact Lm.same a Q.st
  | al x => exact ⟨a.1.qz X Q.fe Q.st, a.2.same Q.st⟩
  | lk y =>
    obtain ⟨a1, a2, a3, a4, a6, a5⟩ := a
    refine ⟨a1, a2, a3, a4, a6, ?_⟩
    revert a5
    cases y.m with
    | no => exact fun h => ⟨h.1.same Q.st, h.2⟩
    | sc x => exact fun h => ⟨h.1, h.2.1, h.2.2.1, h.2.2.2.qz X Q.fe Q.st⟩
    | tn x => exact fun h => ⟨h.1, h.2.1, h.2.2.1, h.2.2.2.qz X Q.fe Q.st (Q.gt h.2.2.1)⟩
theorem GZ.qz (Z : GZ A g m S at_ ph lim U) (Q : Qz A g m S B) (hU : U + 1 ≤ 800000) : GZ B g m S at_ ph lim (U + 1) := by
  have us := Z.us
  have qu := Q.us
  have cn := Z.cn
  exact ⟨Q.sl, Q.fa.trans Z.fa, ⟨Z.lay.ta, Z.lay.c0, Z.lay.lo, by rw [Q.rl]; exact Z.lay.hi, by rw [Q.rl]; exact Z.lay.rb, Z.lay.wb, Z.lay.mb⟩, by omega, hU, by rw [Q.nR, Q.nL]; omega, fun he => by rw [Q.gt he]; have := Z.gb he; omega, Z.ph.qz Z.sl Q⟩
theorem zQ.qz (hg : g.ep = true → B.ao g.ta = A.ao g.ta) (he : g.ep = true) : zQ B g lim ph = zQ A g lim ph := by
  cases ph with
  | no => rfl
  | al x => rfl
  | lk y => show (if y.first = true then cO lim (B.ao g.ta) else lim) = _; rw [hg he]; rfl
theorem mr.qz (D : mr A g ph r P) (he : g.ep = true) (hg : g.ep = true → B.ao g.ta = A.ao g.ta) (hw : B.ao (g.ta + 1 + r) = A.ao (g.ta + 1 + r)) : mr B g ph r P :=
  ⟨D.p0, hw.trans D.wd, by rw [hg he]; exact D.gl, fun y x e1 e2 => by rw [hg he]; exact D.ts y x e1 e2⟩
theorem Prt.qz (D : Prt A g ph lim r P h) (hg : g.ep = true → B.ao g.ta = A.ao g.ta) (st : ∀ h, B.stF h = A.stF h) (hw : g.ep = false → B.ao (g.ta + 2 * r) = A.ao (g.ta + 2 * r)) : Prt B g ph lim r P h :=
  ⟨by rw [st]; exact D.nz, fun he => by rw [hw he]; exact D.ha he, fun he => ⟨(D.hp he).1, fun hn => by rw [zQ.qz hg he]; exact (D.hp he).2 hn⟩⟩
theorem Gb {p : Pl} {w : Int} (X : SL A p w m S) (mb : m ≤ 700) {xs : List Int} (nd : xs.Nodup) (hs : ∀ h ∈ xs, A.stF h ≠ 0) : xs.length ≤ 88 := by
  have h1 : (xs.map opB).Nodup := by
    have : ∀ ys : List Int, ys.Nodup → (∀ h ∈ ys, A.stF h ≠ 0) → (ys.map opB).Nodup := fun ys => by
      induction ys with
      | nil => intro _ _; exact .nil
      | cons a ys ih =>
        intro nd hs
        obtain ⟨n1, n2⟩ := List.nodup_cons.1 nd
        refine List.nodup_cons.2 ⟨fun hm => ?_, ih n2 fun h hh => hs h (List.mem_cons_of_mem _ hh)⟩
        obtain ⟨b, hb, e⟩ := List.mem_map.1 hm
        exact hs b (List.mem_cons_of_mem _ hb) (sS (A := A) (h := a) (k := b) (hs a List.mem_cons_self) e (fun e => n1 (by rw [← e]; exact hb)))
    exact this xs nd hs
  have h2 := Ae (xs.map opB) ((List.range 88).map fun i : Nat => 8 * (i : Int)) h1 fun b hb => by
    obtain ⟨h, hh, rfl⟩ := List.mem_map.1 hb
    obtain ⟨a1, a2⟩ := X.act h (hs h hh)
    have hn := tA h
    have hc := fk h
    have := X.blk (opB h) (by omega)
    have sz := my h
    rw [← a1] at sz
    have cv := X.cvb
    refine List.mem_map.2 ⟨(opB h / 8).toNat, List.mem_range.2 ?_, ?_⟩
    · omega
    · omega
  simpa using h2
theorem Lm.len (L : Lm A lim) (X : SL A g.pl g.w m S) (mb : m ≤ 700) : lim.length ≤ 88 := by
  have := Gb X mb L.1 (fun h hh => by obtain ⟨q, hq, rfl⟩ := List.mem_map.1 hh; rw [(L.2 q hq).1]; decide)
  rwa [List.length_map] at this
end
structure OE (A : Ar) (g : Gd) (m : Int) (S : Sg) (at_ : Int) (ph : Oph) (lim : List (Int × Int)) (U : Int) (B : Ar) (S' : Sg) (ph' : Oph) (lim' : List (Int × Int)) : Prop where
  z : GZ B g m S' at_ ph' lim' (U + 1)
  us : B.aD = A.aD + 1
  wd : B.words = A.words
  rw : ∀ i, g.ta + cm g.ep g.w ≤ i → B.ao i = A.ao i
  pub : ∀ r : Int, 0 ≤ r → r < g.w → g.ep = false → B.ao (g.ta + 2 * r) = A.ao (g.ta + 2 * r)
  pwd : ∀ r : Int, 0 ≤ r → r < g.w → g.ep = true → B.ao (g.ta + 1 + r) = A.ao (g.ta + 1 + r)
  pin : ∀ r P : Int, 0 ≤ r → r < g.w → g.ep = true → mr A g ph r P → mr B g ph' r P
  prt : ∀ r P h : Int, 0 ≤ r → r < g.w → (g.ep = true → mr A g ph r P) → Prt A g ph lim r P h → Prt B g ph' lim' r P h
  lv : ∀ h, A.stF h = 1 → B.stF h = 1
section
variable {A B : Ar} {g : Gd} {m at_ U i v h r P : Int} {S S' : Sg} {ph : Oph} {lim : List (Int × Int)}
theorem wY {j : Int} (hw : B.words = A.words) (a : A.stF h ≠ 0) (b : B.stF h ≠ 0) : B.bA h j = A.bA h j := by
  unfold Ar.bA
  by_cases hi : A.fZ h j
  · have hb : B.fZ h j := ⟨b, hi.2⟩
    rw [if_pos hi, if_pos hb, hw]
  · have hb : ¬ B.fZ h j := fun hb => hi ⟨a, hb.2⟩
    rw [if_neg hi, if_neg hb]
theorem Lay.rw (L : Lay A g m at_) : 0 ≤ cm g.ep g.w ∧ g.pl.carved < at_ := by
  have wb := L.wb
  have lo := L.lo
  have ta := L.ta
  have : 0 ≤ cm g.ep g.w := by unfold cm; cases g.ep <;> simp <;> omega
  exact ⟨this, by omega⟩
theorem mr.pl {ph' : Oph} (D : mr A g ph r P) (h1 : B.ao (g.ta + 1 + r) = A.ao (g.ta + 1 + r)) (h2 : B.ao g.ta = A.ao g.ta) (hp : tnT B g ph' r P) : mr B g ph' r P := ⟨D.p0, h1.trans D.wd, by rw [h2]; exact D.gl, hp⟩
theorem GZ.alS {x : Al} (Z : GZ A g m S at_ (.al x) lim U) (hwf : A.wf) (hU : U + 1 ≤ 800000) : ∃ S', (∃ (c : Bool), mAl.fin (x.step A).1 = c ∧ OE A g m S at_ (.al x) lim U (x.step A).2 S' (if c = true then .no else .al (x.step A).1) lim) ∧
    (mAl.fin (x.step A).1 = true → (x.step A).1.h ≠ 0 → (x.step A).2.stF (x.step A).1.h = 1 ∧ opC (x.step A).1.h = x.cls ∧ A.stF (x.step A).1.h = 0) ∧ (x.step A).1.cls = x.cls := by
  have us := Z.us
  have ub := Z.ub
  have cn := Z.cn
  obtain ⟨aI, lm⟩ : AlI g.pl g.w m x A S ∧ Lm A lim := Z.ph
  have u0 := Z.sl.F.us
  obtain ⟨S', Q⟩ := aI.step Z.sl hwf (by omega)
  have qu := Q.us
  have szc := gk (c := x.cls) aI.cls.1 aI.cls.2
  have L := Z.lay
  obtain ⟨gw, _⟩ := L.rw
  have ta := L.ta
  have rw' : ∀ i, g.pl.carved < i → (x.step A).2.ao i = A.ao i := Q.ev.rw
  have st : ∀ h, A.stF h ≠ 0 → (x.step A).2.stF h = A.stF h := fun h hh => by
    rcases Q.res with ⟨_, a, _⟩ | ⟨_, _, _, _, _, _, a, b, _⟩
    · exact a h
    · rw [b, if_neg (fun e => hh (by rw [e]; exact a))]
  have lm' : Lm (x.step A).2 lim := ⟨lm.1, fun q hq => ⟨(st _ (by rw [(lm.2 q hq).1]; decide)).trans (lm.2 q hq).1, (lm.2 q hq).2⟩⟩
  have nL : A.nL ≤ (x.step A).2.nL := by
    rcases Q.res with ⟨_, _, a⟩ | ⟨_, _, _, _, _, _, _, _, a⟩ <;> omega
  refine ⟨S', ⟨_, rfl, ?_⟩, fun hf hh => ?_, Q.cls⟩
  · have mk : ∀ ph' : Oph, PhI g m (x.step A).2 S' lim ph' → (∀ y, ph' ≠ .lk y) → OE A g m S at_ (.al x) lim U (x.step A).2 S' ph' lim := fun ph' hp hl => by
      have eL : zQ (x.step A).2 g lim ph' = lim := by
        cases ph' with
        | no => rfl
        | al x => rfl
        | lk y => exact (hl y rfl).elim
      refine ⟨⟨Q.sl, Q.ev.fa.trans Z.fa, ⟨L.ta, L.c0, L.lo, by rw [Q.ev.rl]; exact L.hi, by rw [Q.ev.rl]; exact L.rb, L.wb, L.mb⟩, by omega, hU, by rw [Q.nR]; omega, fun he => by rw [rw' _ ta]; have := Z.gb he; omega, hp⟩, qu, Q.wd, fun i hi => rw' i (by omega), fun r r0 _ _ => rw' _ (by omega), fun r r0 _ _ => rw' _ (by omega), fun r P r0 r1 he D => D.pl (rw' _ (by omega)) (rw' _ ta) (fun y x e => (hl y e).elim), fun r P h r0 r1 _ D => ⟨by rw [st h D.nz]; exact D.nz, fun he => ⟨(rw' _ (by omega)).trans (D.ha he).1, fun y x e => (hl y e).elim⟩, fun he => ⟨fun y x e => (hl y e).elim, fun _ => ?_⟩⟩, fun h hh => by rw [st h (by rw [hh]; decide)]; exact hh⟩
      rw [eL]
      exact (D.hp he).2 (fun h => h)
    split
    · exact mk .no lm' (fun y h => (by cases h))
    · rename_i hf
      refine mk (.al _) ⟨Q.inv fun e => hf ?_, lm'⟩ (fun y h => (by cases h))
      show ((x.step A).1.what : Int) == 4
      rw [e]; rfl
  · rcases Q.res with ⟨a, _, _⟩ | ⟨_, _, _, _, a, _, b, c, _⟩
    · exact (hh a).elim
    · exact ⟨by rw [c, if_pos rfl], a, b⟩
theorem uZ (xs : List (Int × Int)) (v : Int) : (cO xs v).map Prod.fst = xs.map Prod.fst := by
  unfold cO
  rw [List.map_set]
  show (xs.map Prod.fst).set (xs.length - 1) (xs.getD (xs.length - 1) (0, 0)).1 = _
  by_cases h : xs.length - 1 < xs.length
  · rw [List.getD_eq_getElem?_getD, List.getElem?_eq_getElem h]
    show (xs.map Prod.fst).set (xs.length - 1) xs[xs.length - 1].1 = _
    have : xs[xs.length - 1].1 = (xs.map Prod.fst)[xs.length - 1]'(by rw [List.length_map]; exact h) := by rw [List.getElem_map]
    rw [this, List.set_getElem_self]
  · have : xs = [] := List.length_eq_zero_iff.1 (by omega)
    subst this; rfl
theorem DE {xs : List (Int × Int)} {v : Int} {q : Int × Int} (h : q ∈ cO xs v) : q ∈ xs ∨ q.2 = v := by
  unfold cO at h
  rcases List.mem_or_eq_of_mem_set h with h | h
  · exact .inl h
  · right; rw [h]
theorem BV (xs : List (Int × Int)) (h a v : Int) : cO (xs ++ [(h, a)]) v = xs ++ [(h, v)] := by
  unfold cO
  have e : (xs ++ [(h, a)]).length - 1 = xs.length := by simp
  rw [e, List.getD_eq_getElem?_getD, List.getElem?_append_right (Nat.le_refl _), Nat.sub_self]
  show (xs ++ [(h, a)]).set xs.length (h, v) = _
  rw [List.set_append_right _ _ (Nat.le_refl _), Nat.sub_self]; rfl
def phR (o : Option Lk) : Oph := match o with
  | none => .no
  | some y => .lk y
theorem GZ.ret {h0 : Int} {ls : Int → List (Int × Int)} (Z : GZ A g m S at_ .no lim U) (hwf : A.wf) (hls : ls 0 = lim) (hs : A.stF h0 = 1) (hu : 1 ≤ A.aD) (cn : A.nR ≤ 64 * (A.aD - 1) ∧ -(64 * (A.aD - 1)) ≤ A.nL) :
    GZ (A.aW h0) g m S at_ (phR (kE g ls 0 h0)) (lim ++ [(h0, 0)]) U ∧ (A.aW h0).words = A.words ∧ (A.aW h0).aD = A.aD ∧ (∀ i, (A.aW h0).ao i = A.ao i) ∧ (∀ k, (A.aW h0).stF k = if k = h0 then 2 else A.stF k) ∧
      (∀ r P : Int, 0 ≤ r → r < g.w → g.ep = true → mr A g .no r P → mr (A.aW h0) g (phR (kE g ls 0 h0)) r P) ∧
      (∀ r P h : Int, 0 ≤ r → r < g.w → (g.ep = true → mr A g .no r P) → Prt A g .no lim r P h → Prt (A.aW h0) g (phR (kE g ls 0 h0)) (lim ++ [(h0, 0)]) r P h) := by
  have us := Z.us
  have ub := Z.ub
  have lm : Lm A lim := Z.ph
  have szh : au (opC h0) ≤ 64 := by have := jx h0; omega
  have szp := jx h0
  obtain ⟨Y, yst, yL, yR, ev, _, yu, yw, yf⟩ := Ev.EX Z.sl hwf (by omega) hs ⟨by omega, by omega⟩
  have L := Z.lay
  have praw : ∀ i, (A.aW h0).ao i = A.ao i := fun i => by
    have : (A.aW h0).raw = A.raw := by unfold Ar.aW Ar.gu; split <;> rfl
    exact dN this i
  have nin : h0 ∉ lim.map Prod.fst := fun hm => by
    obtain ⟨q, hq, e⟩ := List.mem_map.1 hm
    have := (lm.2 q hq).1
    rw [e, hs] at this; cases this
  have lm' : Lm (A.aW h0) (lim ++ [(h0, 0)]) := by
    refine ⟨?_, fun q hq => ?_⟩
    · rw [List.map_append]
      exact List.nodup_append.2 ⟨lm.1, by simp, fun a ha b hb e => nin (by have hb' : b = h0 := (by simpa using hb); rw [← hb', ← e]; exact ha)⟩
    · rcases List.mem_append.1 hq with hq | hq
      · rw [yst]
        split
        · exact ⟨rfl, (lm.2 q hq).2⟩
        · exact lm.2 q hq
      · have e : q = (h0, 0) := by simpa using hq
        rw [e, yst, if_pos rfl]; exact ⟨rfl, (show (0 : Int) ≤ 1000000 by decide)⟩
  have nz : ∀ k, A.stF k ≠ 0 → (A.aW h0).stF k ≠ 0 := fun k hk => by rw [yst]; split; decide; exact hk
  have wb := L.wb
  have base : ∀ ph', PhI g m (A.aW h0) S (lim ++ [(h0, 0)]) ph' → GZ (A.aW h0) g m S at_ ph' (lim ++ [(h0, 0)]) U := fun ph' hp =>
    ⟨Y, yf.trans Z.fa, ⟨L.ta, L.c0, L.lo, by rw [ev.rl]; exact L.hi, by rw [ev.rl]; exact L.rb, L.wb, L.mb⟩, by omega, ub, by rw [yR, yL, yu]; omega, fun he => by rw [praw, yu]; exact Z.gb he, hp⟩
  have l88 := lm'.len (g := g) Y L.mb.2
  have tsN : ∀ y : Lk, y.m = .no → ∀ r P, tnT (A.aW h0) g (.lk y) r P := fun y hm r P y' x e1 e2 => by
    cases e1; rw [hm] at e2; cases e2
  unfold kE
  cases he : g.ep with
  | true =>
    rw [if_pos rfl]
    refine ⟨base _ ⟨rfl, rfl, ?_, ?_, by omega, lm', fun _ => ⟨he, by simp⟩, fun h => ?_⟩, yw, yu, praw, yst, fun r P r0 r1 _ D => D.pl (praw _) (praw _) (tsN _ rfl r P), fun r P h r0 r1 hD D => ⟨nz h D.nz, fun h => (by rw [he] at h; cases h), fun _ => ⟨fun y x e1 e2 => ?_, fun _ q hq e => ?_⟩⟩⟩
    · show kd ls 0 (ls 0 ++ [(h0, 0)]) 0 = _
      rw [iW, hls]
    · show 0 ≤ (mx g ls 0 h0).times ∧ _
      unfold mx; dsimp only; split <;> decide
    · unfold mx at h; rw [he] at h; cases h
    · cases e1; cases e2
    · have hq : q ∈ (if (mx g ls 0 h0).first = true then cO (lim ++ [(h0, 0)]) ((A.aW h0).ao g.ta) else lim ++ [(h0, 0)]) := hq
      rw [if_pos (show (mx g ls 0 h0).first = true from he), BV, praw] at hq
      rcases List.mem_append.1 hq with hq | hq
      · exact (D.hp he).2 (fun h => h) q hq e
      · have e2 : q = (h0, A.ao g.ta) := by simpa using hq
        rw [e2]
        have := (hD rfl).gl
        show P ≤ A.ao g.ta; omega
  | false =>
    rw [if_neg (by decide)]
    by_cases ht : g.th ≤ ((ls 0).length : Int) + 1
    · rw [if_pos ht]
      have hb : (mx g ls 0 h0).begin.m = .sc (ky g.w g.ta g.pl 0 ((lim ++ [(h0, 0)]).map Prod.fst)) := by
        show (if g.ep = true then In.tn _ else In.sc (ky g.w g.ta g.pl 0 ((kd ls 0 (ls 0 ++ [(h0, 0)]) 0).map Prod.fst))) = _
        rw [if_neg (by rw [he]; decide), iW, hls]
      obtain ⟨sI, sf⟩ := ScI.new Y (by omega) (ta := g.ta) (xs := (lim ++ [(h0, 0)]).map Prod.fst) (by rw [List.length_map]; omega) lm'.1 (fun h hh => by obtain ⟨q, hq, rfl⟩ := List.mem_map.1 hh; exact (lm'.2 q hq).1)
      have tm : (mx g ls 0 h0).begin.times = 0 := by
        show w64 ((mx g ls 0 h0).times - 1) = 0
        have : (mx g ls 0 h0).times = 1 := by unfold mx; dsimp only; rw [if_pos ht]
        rw [this]; rfl
      have fs : (mx g ls 0 h0).begin.first = false := he
      refine ⟨base _ ⟨rfl, rfl, ?_, by rw [tm]; decide, by omega, ?_⟩, yw, yu, praw, yst, fun r P r0 r1 h => (by cases h), fun r P h r0 r1 hD D => ⟨nz h D.nz, fun _ => ⟨(praw _).trans (D.ha he).1, fun y x e1 e2 => ?_⟩, fun h => (by rw [he] at h; cases h)⟩⟩
      · show kd ls 0 (ls 0 ++ [(h0, 0)]) 0 = _
        rw [iW, hls]
      · rw [hb]; exact ⟨fs, tm, he, sI⟩
      · cases e1
        rw [hb] at e2; cases e2
        exact sf r h r0
    · rw [if_neg ht]
      refine ⟨base .no lm', yw, yu, praw, yst, fun r P r0 r1 h => (by cases h), fun r P h r0 r1 hD D => ⟨nz h D.nz, fun _ => ⟨(praw _).trans (D.ha he).1, fun y x e1 e2 => (by cases e1)⟩, fun h => (by rw [he] at h; cases h)⟩⟩
end
def nph (y : Lk) : Oph := if y.fin = true then .no else .lk y
section
variable {A B : Ar} {g : Gd} {m at_ U i v h r P : Int} {S S' : Sg} {lim : List (Int × Int)}
theorem GZ.Pe {gy : Gd} {ls : Int → List (Int × Int)} {work times : Int} {first : Bool} {x : Sc} (Z : GZ A g m S at_ (.lk ⟨gy, ls, work, first, times, .sc x⟩) lim U) (hwf : A.wf) (hU : U + 1 ≤ 800000) :
    ∃ S' lim', Lk.inv ⟨gy, ls, work, first, times, .sc x⟩ A ∧ OE A g m S at_ (.lk ⟨gy, ls, work, first, times, .sc x⟩) lim U (Lk.step ⟨gy, ls, work, first, times, .sc x⟩ A).2 S' (nph (Lk.step ⟨gy, ls, work, first, times, .sc x⟩ A).1) lim' ∧ (Lk.step ⟨gy, ls, work, first, times, .sc x⟩ A).1.ls 0 = lim' := by
  have us := Z.us
  have ub := Z.ub
  have cn := Z.cn
  have u0 := Z.sl.F.us
  have L := Z.lay
  obtain ⟨gw, _⟩ := L.rw
  have ta := L.ta
  have lo := L.lo
  have hi := L.hi
  have rb := L.rb
  have wb := L.wb
  obtain ⟨yg, wk, hls, tb, ll, im⟩ : LkI g m A S lim ⟨gy, ls, work, first, times, .sc x⟩ := Z.ph
  have yg : gy = g := yg
  have wk : work = 0 := wk
  have hl0 : ls 0 = lim := hls
  obtain ⟨ff, t0, he, sI⟩ : first = false ∧ times = 0 ∧ g.ep = false ∧ ScI g.pl g.w m g.ta x A S := im
  subst yg; subst wk; subst ff; subst t0
  have g2 : cm gy.ep gy.w = 2 * gy.w := by unfold cm; rw [he]; rfl
  obtain ⟨iv, S', Q⟩ := sI.step Z.sl hwf (by omega) ⟨ta, by omega⟩ (by omega)
  have qu := Q.us
  have xl : x.left.length ≤ 1000 := by
    rcases sI.st with ⟨_, _, _, a, _⟩ | ⟨_, _, _, _, _, _, _, a⟩
    · rw [a]; exact Nat.zero_le _
    · omega
  have hst : Lk.step ⟨gy, ls, 0, false, 0, .sc x⟩ A = (if (x.step A).1.ended = true then ⟨gy, kd ls 0 ((x.step A).1.left.map fun h => (h, 0)), 0, false, 0, .no⟩ else ⟨gy, ls, 0, false, 0, .sc (x.step A).1⟩, (x.step A).2) := by
    show (if (x.step A).1.ended = true then Lk.end_ ⟨gy, ls, 0, false, 0, .sc (x.step A).1⟩ else ⟨gy, ls, 0, false, 0, .sc (x.step A).1⟩, (x.step A).2) = _
    rfl
  rw [hst]
  dsimp only
  have nzr : ∀ r P h : Int, 0 ≤ r → r < gy.w → Prt A gy (.lk ⟨gy, ls, 0, false, 0, .sc x⟩) lim r P h → (x.step A).2.stF h = A.stF h ∧ ((x.step A).1.ended = false → Safe (x.step A).1 r h) := fun r P h r0 r1 D =>
    Q.safe r h r0 r1 (D.ha he).1 D.nz ((D.ha he).2 _ _ rfl rfl)
  have mk : ∀ (ph' : Oph) (lim' : List (Int × Int)), PhI gy m (x.step A).2 S' lim' ph' → (∀ r h, (∀ y x', ph' = .lk y → y.m = .sc x' → x' = (x.step A).1 ∧ (x.step A).1.ended = false)) → OE A gy m S at_ (.lk ⟨gy, ls, 0, false, 0, .sc x⟩) lim U (x.step A).2 S' ph' lim' := fun ph' lim' hp hl => by
    refine ⟨⟨Q.sl, Q.fa.trans Z.fa, ⟨L.ta, L.c0, L.lo, by rw [Q.rl]; exact L.hi, by rw [Q.rl]; exact L.rb, L.wb, L.mb⟩, by omega, hU, ?_, fun h => (by rw [he] at h; cases h), hp⟩, qu, Q.wd, fun i hi => Q.rw i (by omega), fun r r0 _ _ => Q.rw _ (by omega), fun r r0 _ h => (by rw [he] at h; cases h), fun r P r0 r1 h => (by rw [he] at h; cases h), fun r P h r0 r1 _ D => ?_, fun h hh => ?_⟩
    · have := Q.nR; have := Q.nL; omega
    · obtain ⟨s1, s2⟩ := nzr r P h r0 r1 D
      refine ⟨by rw [s1]; exact D.nz, fun _ => ⟨(Q.rw _ (by omega)).trans (D.ha he).1, fun y x' e1 e2 => ?_⟩, fun h => (by rw [he] at h; cases h)⟩
      obtain ⟨a, b⟩ := hl r h y x' e1 e2
      rw [a]; exact s2 b
    · rcases Q.st h with a | ⟨_, a⟩
      · rw [a]; exact hh
      · rw [hh] at a; cases a
  have wbx : 1 ≤ gy.w ∧ gy.w ≤ 1000 := ⟨by omega, by omega⟩
  have linv : Lk.inv ⟨gy, ls, 0, false, 0, .sc x⟩ A := ⟨by show (ls 0).length ≤ 1000; rw [hl0]; omega, fun h => (by cases h), wbx, ⟨iv, xl⟩⟩
  cases hE : (x.step A).1.ended with
  | true =>
    rw [if_pos rfl]
    obtain ⟨f1, f2, f3⟩ := Q.fin hE
    refine ⟨S', (x.step A).1.left.map fun h => (h, 0), linv, mk .no _ ⟨?_, fun q hq => ?_⟩ (fun _ _ y x' e => (by cases e)), iW ls 0 _⟩
    · rw [List.map_map]; exact (List.map_id _).symm ▸ f1
    · obtain ⟨h, hh, rfl⟩ := List.mem_map.1 hq
      exact ⟨f2 h hh, (show (0 : Int) ≤ 1000000 by decide)⟩
  | false =>
    rw [if_neg (by decide)]
    refine ⟨S', lim, linv, mk (.lk _) _ ⟨rfl, rfl, hl0, (by decide : (0 : Int) ≤ 0 ∧ (0 : Int) ≤ 1), ll, rfl, rfl, he, Q.go hE⟩ (fun _ _ y x' e1 e2 => ?_), hl0⟩
    · cases e1; cases e2; exact ⟨rfl, hE⟩
theorem GZ.N2 {gy : Gd} {ls : Int → List (Int × Int)} {work times : Int} {first : Bool} {x : Tn} (Z : GZ A g m S at_ (.lk ⟨gy, ls, work, first, times, .tn x⟩) lim U) (hwf : A.wf) (hU : U + 1 ≤ 800000) :
    ∃ S' lim', Lk.inv ⟨gy, ls, work, first, times, .tn x⟩ A ∧ OE A g m S at_ (.lk ⟨gy, ls, work, first, times, .tn x⟩) lim U (Lk.step ⟨gy, ls, work, first, times, .tn x⟩ A).2 S' (nph (Lk.step ⟨gy, ls, work, first, times, .tn x⟩ A).1) lim' ∧ (Lk.step ⟨gy, ls, work, first, times, .tn x⟩ A).1.ls 0 = lim' := by
  have us := Z.us
  have ub := Z.ub
  have cn := Z.cn
  have u0 := Z.sl.F.us
  have L := Z.lay
  obtain ⟨gw, _⟩ := L.rw
  have ta := L.ta
  have lo := L.lo
  have hi := L.hi
  have rb := L.rb
  have wb := L.wb
  obtain ⟨yg, wk, hls, tb, ll, im⟩ : LkI g m A S lim ⟨gy, ls, work, first, times, .tn x⟩ := Z.ph
  have yg : gy = g := yg
  have wk : work = 0 := wk
  have hl0 : ls 0 = lim := hls
  obtain ⟨ff, t0, he, tI⟩ : first = false ∧ times = 0 ∧ g.ep = true ∧ TnI g.pl g.w m g.ta x A S := im
  subst yg; subst wk; subst ff; subst t0
  have g2 : cm gy.ep gy.w = 1 + gy.w := by unfold cm; rw [he]; rfl
  have gb := Z.gb he
  obtain ⟨iv, S', Q⟩ := tI.step Z.sl hwf (by omega) ⟨ta, by omega⟩ (by omega) ⟨gb.1, by omega⟩ (by omega)
  have qu := Q.us
  have xl : x.left.length ≤ 1000 := by
    rcases tI.st with ⟨_, _, a, _⟩ | ⟨_, _, _, _, _, _, a⟩
    · rw [a]; exact Nat.zero_le _
    · omega
  have hst : Lk.step ⟨gy, ls, 0, false, 0, .tn x⟩ A = (if decide (4 ≤ (x.step A).1.ph) = true then ⟨gy, kd ls 0 (x.step A).1.left, 0, false, 0, .no⟩ else ⟨gy, ls, 0, false, 0, .tn (x.step A).1⟩, (x.step A).2) := by
    show (if decide (4 ≤ (x.step A).1.ph) = true then Lk.end_ ⟨gy, ls, 0, false, 0, .tn (x.step A).1⟩ else ⟨gy, ls, 0, false, 0, .tn (x.step A).1⟩, (x.step A).2) = _
    rfl
  rw [hst]
  dsimp only
  have ts : ∀ r P : Int, 0 ≤ r → r < gy.w → mr A gy (.lk ⟨gy, ls, 0, false, 0, .tn x⟩) r P → ((x.step A).2.ao gy.ta = P ∨ (x.step A).2.ao gy.ta = P + 1) ∧ Aj (x.step A).1 ((x.step A).2.ao gy.ta) r P ∧ ∀ h, A.stF h ≠ 0 → jv x h P → (x.step A).2.stF h = A.stF h ∧ jv (x.step A).1 h P := fun r P r0 r1 D =>
    Q.ts r P r0 r1 D.p0 D.wd D.gl (D.ts _ _ rfl rfl)
  have mk : ∀ (ph' : Oph) (lim' : List (Int × Int)), PhI gy m (x.step A).2 S' lim' ph' → (∀ y x', ph' = .lk y → y.m = .tn x' → x' = (x.step A).1) → (∀ h P, jv (x.step A).1 h P → ¬ KA ph' → ∀ q ∈ zQ (x.step A).2 gy lim' ph', q.1 = h → P ≤ q.2) → OE A gy m S at_ (.lk ⟨gy, ls, 0, false, 0, .tn x⟩) lim U (x.step A).2 S' ph' lim' := fun ph' lim' hp hl hn => by
    refine ⟨⟨Q.sl, Q.fa.trans Z.fa, ⟨L.ta, L.c0, L.lo, by rw [Q.rl]; exact L.hi, by rw [Q.rl]; exact L.rb, L.wb, L.mb⟩, by omega, hU, ?_, fun _ => ?_, hp⟩, qu, Q.wd, fun i hi => Q.rw i (by omega) (by omega), fun r r0 _ h => (by rw [he] at h; cases h), fun r r0 _ _ => Q.rw _ (by omega) (by omega), fun r P r0 r1 _ D => ?_, fun r P h r0 r1 hD D => ?_, fun h hh => ?_⟩
    · have := Q.nR; have := Q.nL; omega
    · rcases Q.gl with e | e <;> omega
    · obtain ⟨s1, s2, _⟩ := ts r P r0 r1 D
      exact ⟨D.p0, (Q.rw _ (by omega) (by omega)).trans D.wd, s1, fun y x' e1 e2 => by rw [hl y x' e1 e2]; exact s2⟩
    · obtain ⟨s1, s2, s3⟩ := ts r P r0 r1 (hD he)
      obtain ⟨s4, s5⟩ := s3 h D.nz ((D.hp he).1 _ _ rfl rfl)
      exact ⟨by rw [s4]; exact D.nz, fun h => (by rw [he] at h; cases h), fun _ => ⟨fun y x' e1 e2 => by rw [hl y x' e1 e2]; exact s5, hn h P s5⟩⟩
    · rcases Q.st h with a | ⟨_, a⟩
      · rw [a]; exact hh
      · rw [hh] at a; cases a
  have wbx : 1 ≤ gy.w ∧ gy.w ≤ 1000 := ⟨by omega, by omega⟩
  have linv : Lk.inv ⟨gy, ls, 0, false, 0, .tn x⟩ A := ⟨by show (ls 0).length ≤ 1000; rw [hl0]; omega, fun h => (by cases h), wbx, ⟨iv, xl⟩⟩
  by_cases hE : 4 ≤ (x.step A).1.ph
  · rw [if_pos (decide_eq_true hE)]
    obtain ⟨f1, f2, f3⟩ := Q.fin hE
    refine ⟨S', (x.step A).1.left, linv, mk .no _ ⟨f1, fun q hq => ⟨f2 q hq, Q.lb q hq⟩⟩ (fun y x' e => (by cases e)) (fun h P hs _ q hq e => ?_), iW ls 0 _⟩
    · unfold jv at hs
      rw [if_neg (by omega)] at hs
      exact hs.2 q hq e
  · rw [if_neg (fun h => hE (of_decide_eq_true h))]
    refine ⟨S', lim, linv, mk (.lk _) _ ⟨rfl, rfl, hl0, (by decide : (0 : Int) ≤ 0 ∧ (0 : Int) ≤ 1), ll, rfl, rfl, he, Q.go (by omega)⟩ (fun y x' e1 e2 => ?_) (fun h P hs hn => (hn trivial).elim), hl0⟩
    cases e1; cases e2; rfl
end
section
variable {A B : Ar} {g : Gd} {m at_ U i v h r P : Int} {S S' : Sg} {lim : List (Int × Int)}
theorem GZ.lkS {y : Lk} (Z : GZ A g m S at_ (.lk y) lim U) (hwf : A.wf) (hU : U + 1 ≤ 800000) :
    ∃ S' lim', y.inv A ∧ OE A g m S at_ (.lk y) lim U (y.step A).2 S' (nph (y.step A).1) lim' ∧ (y.step A).1.ls 0 = lim' := by
  obtain ⟨gy, ls, work, first, times, mm⟩ := y
  cases mm with
  | sc x => exact Z.Pe hwf hU
  | tn x => exact Z.N2 hwf hU
  | no =>
    have us := Z.us
    have ub := Z.ub
    have u0 := Z.sl.F.us
    have L := Z.lay
    obtain ⟨gw, _⟩ := L.rw
    have ta := L.ta
    have c0 := L.c0
    have lo := L.lo
    have hi := L.hi
    have wb := L.wb
    obtain ⟨yg, wk, hls, tb, ll, im⟩ : LkI g m A S lim ⟨gy, ls, work, first, times, .no⟩ := Z.ph
    have yg : gy = g := yg
    have wk : work = 0 := wk
    have tb : 0 ≤ times ∧ times ≤ 1 := tb
    subst yg; subst wk
    have hl0 : ls 0 = lim := hls
    obtain ⟨lm, i1, i2⟩ : Lm A lim ∧ (first = true → gy.ep = true ∧ lim ≠ []) ∧ (first = false → times = 1 ∧ gy.ep = true) := im
    have wbx : 1 ≤ gy.w ∧ gy.w ≤ 1000 := ⟨by omega, by omega⟩
    cases first with
    | true =>
      obtain ⟨he, hne⟩ := i1 rfl
      have gb := Z.gb he
      have tk : A.aV gy.ta = A.ay 1 := fU ⟨by omega, by omega⟩ u0 (by omega)
      have hst : Lk.step ⟨gy, ls, 0, true, times, .no⟩ A = (⟨gy, kd ls 0 (cO lim (A.ao gy.ta)), 0, false, times, .no⟩, A.ay 1) := by
        show ((⟨gy, kd ls 0 (cO (ls 0) (A.ao gy.ta)), 0, false, times, .no⟩ : Lk), A.aV gy.ta) = _
        rw [tk, hl0]
      rw [hst]
      have Q := Qz.ay (S := S) (m := m) Z.sl
      have Z1 := Z.qz Q hU
      have lm' : Lm (A.ay 1) (cO lim (A.ao gy.ta)) := by
        refine ⟨by rw [uZ]; exact lm.1, fun q hq => ⟨?_, ?_⟩⟩
        · have : q.1 ∈ (cO lim (A.ao gy.ta)).map Prod.fst := List.mem_map.2 ⟨q, hq, rfl⟩
          rw [uZ] at this
          obtain ⟨q', h1, h2⟩ := List.mem_map.1 this
          rw [← h2]; exact (lm.2 q' h1).1
        · rcases DE hq with h | h
          · exact (lm.2 q h).2
          · omega
      have eE : zQ A gy lim (.lk ⟨gy, ls, 0, true, times, .no⟩) = cO lim (A.ao gy.ta) := by
        show (if true = true then cO lim (A.ao gy.ta) else lim) = _
        exact if_pos rfl
      have lsl : (cO lim (A.ao gy.ta)).length = lim.length := by unfold cO; rw [List.length_set]
      have mk : ∀ ph', PhI gy m (A.ay 1) S (cO lim (A.ao gy.ta)) ph' → (∀ y, ph' = .lk y → y.m = .no ∧ y.first = false) → OE A gy m S at_ (.lk ⟨gy, ls, 0, true, times, .no⟩) lim U (A.ay 1) S ph' (cO lim (A.ao gy.ta)) := fun ph' hp hl => by
        have e2 : zQ (A.ay 1) gy (cO lim (A.ao gy.ta)) ph' = cO lim (A.ao gy.ta) := by
          cases ph' with
          | no => rfl
          | al x => rfl
          | lk y => exact if_neg (by rw [(hl y rfl).2]; decide)
        refine ⟨⟨Z1.sl, Z1.fa, Z1.lay, Z1.us, Z1.ub, Z1.cn, Z1.gb, hp⟩, rfl, rfl, fun _ _ => rfl, fun _ _ _ _ => rfl, fun _ _ _ _ => rfl, fun r P r0 r1 _ D => ⟨D.p0, D.wd, D.gl, fun y x e1 e2 => ?_⟩, fun r P h r0 r1 hD D => ⟨D.nz, fun h => (by rw [he] at h; cases h), fun _ => ⟨fun y x e1 e2 => ?_, fun _ q hq e => ?_⟩⟩, fun h hh => hh⟩
        · rw [(hl y e1).1] at e2; cases e2
        · rw [(hl y e1).1] at e2; cases e2
        · rw [e2] at hq
          exact (D.hp he).2 (fun h => h) q (by rw [eE]; exact hq) e
      have linv : Lk.inv ⟨gy, ls, 0, true, times, .no⟩ A := ⟨by show (ls 0).length ≤ 1000; rw [hl0]; omega, fun _ => ⟨he, by rw [show (⟨gy, ls, 0, true, times, .no⟩ : Lk).ls = ls from rfl, show (⟨gy, ls, 0, true, times, .no⟩ : Lk).work = 0 from rfl, hl0]; exact hne, rfl⟩, wbx, trivial⟩
      refine ⟨S, cO lim (A.ao gy.ta), linv, ?_, iW ls 0 _⟩
      unfold nph
      by_cases h0 : times = 0
      · have hf : Lk.fin ⟨gy, kd ls 0 (cO lim (A.ao gy.ta)), 0, false, times, .no⟩ = true := by show (times == 0) = true; rw [h0]; rfl
        rw [if_pos hf]
        exact mk .no lm' (fun y e => (by cases e))
      · have hf : Lk.fin ⟨gy, kd ls 0 (cO lim (A.ao gy.ta)), 0, false, times, .no⟩ = false := by show (times == 0) = false; simpa using h0
        rw [if_neg (by rw [hf]; decide)]
        refine mk (.lk _) ⟨rfl, rfl, iW ls 0 _, tb, by rw [lsl]; exact ll, lm', fun h => (by cases h), fun _ => ⟨by show times = 1; omega, he⟩⟩ (fun y e => (by cases e; exact ⟨rfl, rfl⟩))
    | false =>
      obtain ⟨t1, he⟩ := i2 rfl
      subst t1
      have l88 := lm.len Z.sl L.mb.2
      have hb : Lk.begin ⟨gy, ls, 0, false, 1, .no⟩ = ⟨gy, ls, 0, false, 0, .tn (g8 gy.w gy.ta gy.pl 0 lim)⟩ := by
        show (⟨gy, ls, 0, false, w64 (1 - 1), if gy.ep = true then In.tn (g8 gy.w gy.ta gy.pl 0 (ls 0)) else In.sc (ky gy.w gy.ta gy.pl 0 ((ls 0).map Prod.fst))⟩ : Lk) = _
        rw [if_pos he, hl0]; rfl
      have hst : Lk.step ⟨gy, ls, 0, false, 1, .no⟩ A = Lk.step ⟨gy, ls, 0, false, 0, .tn (g8 gy.w gy.ta gy.pl 0 lim)⟩ A := by
        show (Lk.go ⟨gy, ls, 0, false, 1, .no⟩).mid A = Lk.mid ⟨gy, ls, 0, false, 0, .tn (g8 gy.w gy.ta gy.pl 0 lim)⟩ A
        have : Lk.go ⟨gy, ls, 0, false, 1, .no⟩ = Lk.begin ⟨gy, ls, 0, false, 1, .no⟩ := by
          show (if (0 : Int) < 1 then Lk.begin ⟨gy, ls, 0, false, 1, .no⟩ else ⟨gy, ls, 0, false, 1, .no⟩) = _
          exact if_pos (by decide)
        rw [this, hb]
      rw [hst]
      have tI := TnI.new Z.sl ⟨by omega, by omega⟩ (ta := gy.ta) (xs := lim) (by omega) lm.1 (fun q hq => (lm.2 q hq).1) (fun q hq => (lm.2 q hq).2)
      have Z1 : GZ A gy m S at_ (.lk ⟨gy, ls, 0, false, 0, .tn (g8 gy.w gy.ta gy.pl 0 lim)⟩) lim U := ⟨Z.sl, Z.fa, Z.lay, Z.us, Z.ub, Z.cn, Z.gb, ⟨rfl, rfl, hl0, (by decide : (0 : Int) ≤ 0 ∧ (0 : Int) ≤ 1), ll, rfl, rfl, he, tI⟩⟩
      obtain ⟨S', lim', iv, E, e1⟩ := Z1.N2 hwf hU
      have pD : ∀ r P, mr A gy (.lk ⟨gy, ls, 0, false, 1, .no⟩) r P → mr A gy (.lk ⟨gy, ls, 0, false, 0, .tn (g8 gy.w gy.ta gy.pl 0 lim)⟩) r P := fun r P D => ⟨D.p0, D.wd, D.gl, fun y x e1 e2 => by cases e1; cases e2; exact Aj.new⟩
      refine ⟨S', lim', ⟨by show (ls 0).length ≤ 1000; rw [hl0]; omega, fun h => (by cases h), wbx, trivial⟩, ⟨E.z, E.us, E.wd, E.rw, E.pub, E.pwd, fun r P r0 r1 h D => E.pin r P r0 r1 h (pD r P D), fun r P h r0 r1 hD D => E.prt r P h r0 r1 (fun h => pD r P (hD h)) ⟨D.nz, fun h => (by rw [he] at h; cases h), fun _ => ⟨fun y x e1 e2 => ?_, fun hn => (hn trivial).elim⟩⟩, E.lv⟩, e1⟩
      cases e1; cases e2
      refine jv.new fun q hq e => (D.hp he).2 (fun h => h) q ?_ e
      show q ∈ (if false = true then cO lim (A.ao gy.ta) else lim)
      rw [if_neg (by decide)]; exact hq
end
structure TX (g : Gd) (at_ r : Int) (x : Ts) : Prop where
  tb : Tb g x
  a : x.at_ = at_
  v : x.victim = 0
  wk : x.work = r
  lv : x.leaves = false
  no : x.ok = false
theorem TX.up {g : Gd} {at_ r : Int} {x y : Ts} (X : TX g at_ r x) (a : y.at_ = x.at_) (v : y.victim = x.victim) (w : y.work = x.work) (l : y.leaves = x.leaves) (o : y.ok = x.ok) : TX g at_ r y := ⟨X.tb.of a v w, a.trans X.a, v.trans X.v, w.trans X.wk, l.trans X.lv, o.trans X.no⟩
def Cn (A : Ar) (val : Int → Int) (T : Int) (x : Ts) : Prop := x.t = T → A.bA x.h (x.t % au (opC x.h)) = val T
inductive TmP (A : Ar) (g : Gd) (at_ : Int) (ph : Oph) (lim : List (Int × Int)) (T O : Int) (val : Int → Int) (r P : Int) : St → Prop
  | start {x : Ts} : TX g at_ r x → TmP A g at_ ph lim T O val r P ⟨x, .enter :: st7, .no⟩
  | pin1 {x : Ts} (e : Int) : g.ep = true → TX g at_ r x → 0 ≤ e ∧ e ≤ 800000 → TmP A g at_ ph lim T O val r P ⟨x, st7, .pin ⟨g.w, g.ta, r, e, 1⟩⟩
  | pin2 {x : Ts} (e : Int) : g.ep = true → TX g at_ r x → 0 ≤ e ∧ e ≤ 800000 → A.ao (g.ta + 1 + r) = e + 1 → TmP A g at_ ph lim T O val r P ⟨x, st7, .pin ⟨g.w, g.ta, r, e, 2⟩⟩
  | rd {x : Ts} : TX g at_ r x → (g.ep = true → mr A g ph r P) → TmP A g at_ ph lim T O val r P ⟨x, st7, .no⟩
  | la {x : Ts} : TX g at_ r x → (g.ep = true → mr A g ph r P) → 0 ≤ x.t ∧ x.t ≤ T → TmP A g at_ ph lim T O val r P ⟨x, [.lasts, .buffers, .holds, .again, .loads, .takes], .no⟩
  | bu {x : Ts} : TX g at_ r x → (g.ep = true → mr A g ph r P) → 0 ≤ x.t ∧ x.t ≤ T → x.t < O → TmP A g at_ ph lim T O val r P ⟨x, [.buffers, .holds, .again, .loads, .takes], .no⟩
  | ho {x : Ts} : TX g at_ r x → (g.ep = true → mr A g ph r P) → 0 ≤ x.t ∧ x.t ≤ T → x.t < O → (g.ep = true → Prt A g ph lim r P x.h ∧ Cn A val T x) → TmP A g at_ ph lim T O val r P ⟨x, [.holds, .again, .loads, .takes], .no⟩
  | ag {x : Ts} : g.ep = false → TX g at_ r x → 0 ≤ x.t ∧ x.t ≤ T → x.t < O → A.ao (g.ta + 2 * r) = x.h → TmP A g at_ ph lim T O val r P ⟨x, [.again, .loads, .takes], .no⟩
  | lo {x : Ts} : TX g at_ r x → (g.ep = true → mr A g ph r P) → 0 ≤ x.t ∧ x.t ≤ T → x.t < O → Prt A g ph lim r P x.h → Cn A val T x → TmP A g at_ ph lim T O val r P ⟨x, [.loads, .takes], .no⟩
  | ta {x : Ts} : TX g at_ r x → 0 ≤ x.t ∧ x.t ≤ T → x.t < O → (x.t = T → x.v = val T) → TmP A g at_ ph lim T O val r P ⟨x, [.takes], .no⟩
  | en {x : Ts} : Tb g x → x.work = r → x.leaves = false → TmP A g at_ ph lim T O val r P ⟨x, [], .no⟩
  | lv {x : Ts} : Tb g x → x.work = r → x.leaves = true → g.ep = false → TmP A g at_ ph lim T O val r P ⟨x, [], .se ⟨[g.ta + 2 * r + 1], 0⟩⟩
  | dn {x : Ts} : Tb g x → x.work = r → x.leaves = true → TmP A g at_ ph lim T O val r P ⟨x, [], .no⟩
section
variable {A B : Ar} {g : Gd} {m at_ U T O r P Bw : Int} {S S' : Sg} {ph ph' : Oph} {lim lim' : List (Int × Int)} {val val' : Int → Int}
theorem TmP.mv {T' O' : Int} {z : St} (D : TmP A g at_ ph lim T O val r P z) (hT : T ≤ T') (hO : O ≤ O' ∨ T < O')
    (hpin : g.ep = true → mr A g ph r P → mr B g ph' r P) (hprt : ∀ h, (g.ep = true → mr A g ph r P) → Prt A g ph lim r P h → Prt B g ph' lim' r P h)
    (hcn : ∀ x : Ts, 0 ≤ x.t → x.t ≤ T → x.t < O → (g.ep = true → mr A g ph r P) → Prt A g ph lim r P x.h → Cn A val T x → Cn B val' T' x)
    (hpub : g.ep = false → B.ao (g.ta + 2 * r) = A.ao (g.ta + 2 * r)) (hpwd : g.ep = true → B.ao (g.ta + 1 + r) = A.ao (g.ta + 1 + r)) (hval : ∀ j, j < O → val' j = val j) : TmP B g at_ ph' lim' T' O' val' r P z := by
  cases D with
  | start a => exact .start a
  | pin1 e a b c => exact .pin1 e a b c
  | pin2 e a b c d => exact .pin2 e a b c ((hpwd a).trans d)
  | rd a b => exact .rd a fun h => hpin h (b h)
  | la a b c => exact .la a (fun h => hpin h (b h)) ⟨c.1, by omega⟩
  | bu a b c d => exact .bu a (fun h => hpin h (b h)) ⟨c.1, by omega⟩ (by omega)
  | ho a b c d e => exact .ho a (fun h => hpin h (b h)) ⟨c.1, by omega⟩ (by omega) fun h => ⟨hprt _ b (e h).1, hcn _ c.1 c.2 d b (e h).1 (e h).2⟩
  | ag e a c d f => exact .ag e a ⟨c.1, by omega⟩ (by omega) ((hpub e).trans f)
  | lo a b c d e f => exact .lo a (fun h => hpin h (b h)) ⟨c.1, by omega⟩ (by omega) (hprt _ b e) (hcn _ c.1 c.2 d b e f)
  | ta a c d e =>
    refine .ta a ⟨c.1, by omega⟩ (by omega) (fun h => ?_)
    have eT : T = T' := by omega
    rw [← eT] at h ⊢
    rw [e h, hval T (by omega)]
  | en a b c => exact .en a b c
  | lv a b c d => exact .lv a b c d
  | dn a b c => exact .dn a b c
structure DX (A : Ar) (at_ h T O : Int) (val : Int → Int) : Prop where
  r0 : A.ao (dw at_ 0 0) = T
  r2 : A.ao (dw at_ 0 2) = h
  hs : A.stF h = 1
  tb : 0 ≤ T ∧ T ≤ O ∧ O ≤ 2000
  rm : O - T ≤ au (opC h)
  ld : ∀ j, T ≤ j → j < O → A.bA h (j % au (opC h)) = val j
def tmu (A : Ar) (g : Gd) (z : St) : Nat := match z.um with
  | .pin p => if p.e = A.ao g.ta then 12 - p.ph else 14 - p.ph
  | .se _ => 1
  | .one _ => 0
  | .no => if z.x.leaves = true then 0 else match z.ps with
    | [] => 2
    | .enter :: _ => 14
    | ps => 2 + ps.length
structure TmS (A : Ar) (g : Gd) (m : Int) (S : Sg) (at_ : Int) (ph : Oph) (lim : List (Int × Int)) (T O : Int) (val : Int → Int) (r P : Int) (z z' : St) (B : Ar) (T' P' : Int) : Prop where
  st : St.step g z A = (z', B)
  inv : Tb g z.x ∧ z.um.inv
  q : Qz A g m S B
  wd : B.words = A.words
  al : Ar.Alike A B
  rw : ∀ j, j ≠ dw at_ 0 0 → (g.ep = false → j ≠ g.ta + 2 * r ∧ j ≠ g.ta + 2 * r + 1) → (g.ep = true → j ≠ g.ta + 1 + r) → B.ao j = A.ao j
  r0 : B.ao (dw at_ 0 0) = T'
  p : TmP B g at_ ph lim T' O val r P' z'
  or : (T' = T ∧ z'.x.ok = z.x.ok ∧ (z.x.ok = true → z'.x.v = z.x.v)) ∨ (T' = T + 1 ∧ T' ≤ O ∧ z.x.ok = false ∧ z'.x.ok = true ∧ z'.x.v = val T)
  mu : tmu B g z' < tmu A g z
  fin : (z'.um.ji && z'.x.leaves) = decide (tmu B g z' = 0)
theorem Lay.gw (L : Lay A g m at_) : (g.ep = false → cm g.ep g.w = 2 * g.w) ∧ (g.ep = true → cm g.ep g.w = 1 + g.w) :=
  ⟨fun h => by unfold cm; rw [h]; rfl, fun h => by unfold cm; rw [h]; rfl⟩
set_option maxHeartbeats 1000000 in
theorem TmP.step {h : Int} {z : St} (D : TmP A g at_ ph lim T O val r P z) (Z : GZ A g m S at_ ph lim U) (hU : U + 1 ≤ 800000) (X : DX A at_ h T O val) (rb : 1 ≤ r ∧ r < g.w) (hb : A.ao (dw at_ 0 1) = Bw) (hB : Bw ≤ O) (hk : ¬ (z.um.ji = true ∧ z.x.leaves = true)) (hcur : g.ep = true → ¬ KA ph → ∀ q ∈ zQ A g lim ph, q.1 ≠ h) (hcs : ∀ y x, ph = .lk y → y.m = .sc x → Safe x r h) (hct : ∀ y x, ph = .lk y → y.m = .tn x → ∀ P, jv x h P) (hnew : g.ep = true → ∀ P, (0 ≤ P ∧ A.ao g.ta = P) → A.ao (g.ta + 1 + r) = P + 1 → tnT A g ph r P) :
    ∃ z' B T' P', TmS A g m S at_ ph lim T O val r P z z' B T' P' := by
  have us := Z.us
  have u0 := Z.sl.F.us
  have L := Z.lay
  obtain ⟨gw0, _⟩ := L.rw
  obtain ⟨gwF, gwT⟩ := L.gw
  have gw1 : 1 ≤ cm g.ep g.w := by have := L.wb; cases he : g.ep with | true => have := gwT he; rw [he] at this; omega | false => have := gwF he; rw [he] at this; omega
  have ta := L.ta
  have c0 := L.c0
  have lo := L.lo
  have hi := L.hi
  have rlb := L.rb
  have wb := L.wb
  have tb := X.tb
  have lat := pI A 1
  have Q1 := Qz.ay (S := S) (m := m) Z.sl
  have d0 : ∀ k : Int, dw at_ 0 k = at_ + k := fun k => by show at_ + 3 * 0 + k = _; omega
  have rk : ∀ k : Int, 0 ≤ k → k < 3 → A.bp (dw at_ 0 k) := fun k k0 k1 => by rw [d0]; exact ⟨by omega, by omega⟩
  have rd : ∀ k : Int, 0 ≤ k → k < 3 → A.aV (dw at_ 0 k) = A.ay 1 := fun k k0 k1 => fU (rk k k0 k1) u0 (by omega)
  have gta : A.bp g.ta := ⟨by omega, by omega⟩
  have tk1 : A.tick = A.ay 1 := by unfold Ar.tick Ar.ay; rw [aE (by omega) (by omega)]
  have s8 := jx h
  have pinS : ∀ {p : Int}, (g.ep = true → mr A g ph r p) → (g.ep = true → mr (A.ay 1) g ph r p) := fun hp he => (hp he).qz he (fun _ => rfl) rfl
  have prtS : ∀ {p k : Int}, Prt A g ph lim r p k → Prt (A.ay 1) g ph lim r p k := fun D => D.qz (fun _ => rfl) (fun h => nM A 1 h) (fun _ => rfl)
  have cnS : ∀ {x : Ts}, Cn A val T x → Cn (A.ay 1) val T x := fun {x} h e => by rw [jD]; exact h e
  have rwl : ∀ j, (A.ay 1).ao j = A.ao j := fun _ => rfl
  -- reads
  have reads : ∀ {x : Ts}, TX g at_ r x → St.step g ⟨x, st7, .no⟩ A = (⟨{ x with t := T }, [.lasts, .buffers, .holds, .again, .loads, .takes], .no⟩, A.ay 1) := fun {x} X' => by
    refine wi (p := .reads) (k := .reads) rfl X'.lv ?_
    show ({ x with t := A.ao (dw x.at_ x.victim 0) }, _, A.aV (dw x.at_ x.victim 0)) = _
    rw [X'.a, X'.v, X.r0, rd 0 (by decide) (by decide)]
  -- loads
  have loads : ∀ {x : Ts}, TX g at_ r x → 0 ≤ x.t → Prt A g ph lim r P x.h → ∃ v, St.step g ⟨x, [.loads, .takes], .no⟩ A = (⟨{ x with v := v }, [.takes], .no⟩, A.ay 1) ∧ v = A.bA x.h (x.t % au (opC x.h)) := fun {x} X' t0 D => by
    have sx := jx x.h
    have hi : A.fZ x.h (x.t % au (opC x.h)) := ⟨D.nz, Int.emod_nonneg _ (by omega), Int.emod_lt_of_pos _ (by omega)⟩
    refine ⟨_, ?_, rfl⟩
    refine wi (p := .loads) (k := .loads) rfl X'.lv ?_
    show ({ x with v := A.bA x.h (dB x.h x.t) }, _, A.gp x.h (dB x.h x.t)) = _
    rw [jA D.nz, rF hi, tk1]
  have f0 : ∀ {x : Ts} {ps : List Sp}, x.leaves = false → ((Um.no).ji && (⟨x, ps, .no⟩ : St).x.leaves) = false := fun {x ps} h => by show (true && x.leaves) = false; rw [h]; rfl
  have mu0 : ∀ {C : Ar} {x : Ts} {p : Sp} {ps : List Sp}, x.leaves = false → p ≠ .enter → tmu C g ⟨x, p :: ps, .no⟩ = 3 + ps.length := fun {C x p ps} h hp => by
    show (if x.leaves = true then 0 else _) = _
    rw [if_neg (by rw [h]; decide)]
    cases p <;> first | exact (hp rfl).elim | (show 2 + (ps.length + 1) = _; omega)
  have muE : ∀ {C : Ar} {x : Ts}, x.leaves = false → tmu C g ⟨x, [], .no⟩ = 2 := fun {C x} h => by
    show (if x.leaves = true then 0 else _) = _
    rw [if_neg (by rw [h]; decide)]
  cases D with
  | @start x a =>
    have m14 : tmu A g ⟨x, .enter :: st7, .no⟩ = 14 := by
      show (if x.leaves = true then 0 else _) = _
      rw [if_neg (by rw [a.lv]; decide)]
    cases he : g.ep with
    | true =>
      have hs : (ic g.w g.ta x.work).step A = (⟨g.w, g.ta, x.work, A.ao g.ta, 1⟩, A.ay 1) := by
        unfold Pn.step
        rw [if_pos (show (ic g.w g.ta x.work).ph = 0 from rfl), show (ic g.w g.ta x.work).ta = g.ta from rfl, fU gta u0 (by omega)]; rfl
      have gb := Z.gb he
      have m11 : tmu (A.ay 1) g ⟨x, st7, .pin ⟨g.w, g.ta, x.work, A.ao g.ta, 1⟩⟩ = 11 := if_pos rfl
      have wk := a.wk
      refine ⟨⟨x, st7, .pin ⟨g.w, g.ta, x.work, A.ao g.ta, 1⟩⟩, A.ay 1, T, P, (Iv (p := .enter) (if_pos he) a.lv).trans (by rw [hs]; rfl), ⟨a.tb, trivial⟩, Q1, rfl, lat, fun _ _ _ _ => rfl, X.r0, ?_, .inl ⟨rfl, rfl, fun _ => rfl⟩, by rw [m14, m11]; decide, by rw [m11]; rfl⟩
      rw [wk]
      exact .pin1 _ he a ⟨gb.1, by omega⟩
    | false =>
      refine ⟨_, _, T, P, (B1 (p := .enter) (if_neg (by rw [he]; decide)) a.lv).trans (reads a), ⟨a.tb, trivial⟩, Q1, rfl, lat, fun _ _ _ _ => rfl, X.r0, .la (a.up rfl rfl rfl rfl rfl) (fun h => (by rw [he] at h; cases h)) ⟨tb.1, Int.le_refl _⟩, .inl ⟨rfl, rfl, fun _ => rfl⟩, by rw [m14, mu0 (x := { x with t := T }) (p := .lasts) a.lv (fun h => (by cases h))]; decide, ?_⟩
      rw [mu0 (x := { x with t := T }) (p := .lasts) a.lv (fun h => (by cases h))]; exact f0 (x := { x with t := T }) (ps := []) a.lv
  | @pin1 x e he a eb =>
    have gw := gwT he
    have e3 : w64 (e + 1) = e + 1 := aE (by omega) (by omega)
    have ew : ewd g.ta r = g.ta + 1 + r := zW ⟨by omega, by omega, by omega, by omega⟩
    obtain ⟨Q, wd, rf⟩ := Z.word (i := g.ta + 1 + r) (v := e + 1) ⟨by omega, by omega⟩ (fun _ => by omega)
    have hst : St.step g ⟨x, st7, .pin ⟨g.w, g.ta, r, e, 1⟩⟩ A = (⟨x, st7, .pin ⟨g.w, g.ta, r, e, 2⟩⟩, A.aL (g.ta + 1 + r) (e + 1)) := by
      refine Eo.trans ?_
      show ((⟨x, st7, if mPn.fin (⟨g.w, g.ta, r, e, 2⟩ : Pn) = true then .no else .pin ⟨g.w, g.ta, r, e, 2⟩⟩ : St), A.aL (ewd g.ta r) (w64 (e + 1))) = _
      rw [ew, e3]; rfl
    refine ⟨_, _, T, P, hst, ⟨a.tb, (show (1 : Nat) ≤ 3 by decide)⟩, Q, wd, eV _ _ _, fun j _ _ j3 => by rw [rf, if_neg (j3 he)], by rw [rf, if_neg (by rw [d0]; omega)]; exact X.r0, .pin2 e he a eb (by rw [rf, if_pos rfl]), .inl ⟨rfl, rfl, fun _ => rfl⟩, ?_, ?_⟩
    · show (if e = (A.aL (g.ta + 1 + r) (e + 1)).ao g.ta then 12 - 2 else 14 - 2) < (if e = A.ao g.ta then 12 - 1 else 14 - 1)
      rw [rf, if_neg (show ¬ g.ta = g.ta + 1 + r by omega)]
      split <;> decide
    · show false = decide ((if e = (A.aL (g.ta + 1 + r) (e + 1)).ao g.ta then 12 - 2 else 14 - 2) = 0)
      split <;> rfl
  | @pin2 x e he a eb hw =>
    have gw := gwT he
    have gb := Z.gb he
    by_cases eq : A.ao g.ta = e
    · have hst : St.step g ⟨x, st7, .pin ⟨g.w, g.ta, r, e, 2⟩⟩ A = (⟨x, st7, .no⟩, A.ay 1) := by
        refine Eo.trans ?_
        show ((⟨x, st7, if mPn.fin (⟨g.w, g.ta, r, A.ao g.ta, if A.ao g.ta = e then 3 else 1⟩ : Pn) = true then .no else .pin ⟨g.w, g.ta, r, A.ao g.ta, if A.ao g.ta = e then 3 else 1⟩⟩ : St), A.aV g.ta) = _
        rw [if_pos eq, fU gta u0 (by omega)]; rfl
      have m9 : tmu (A.ay 1) g ⟨x, st7, .no⟩ = 9 := mu0 (p := .reads) a.lv (fun h => (by cases h))
      refine ⟨_, _, T, e, hst, ⟨a.tb, (show (2 : Nat) ≤ 3 by decide)⟩, Q1, rfl, lat, fun _ _ _ _ => rfl, X.r0, .rd a (fun _ => ⟨eb.1, hw, .inl eq, hnew he e ⟨eb.1, eq⟩ hw⟩), .inl ⟨rfl, rfl, fun _ => rfl⟩, ?_, by rw [m9]; exact f0 (ps := []) a.lv⟩
      rw [m9]
      show 9 < (if e = A.ao g.ta then 12 - 2 else 14 - 2)
      split <;> decide
    · have hst : St.step g ⟨x, st7, .pin ⟨g.w, g.ta, r, e, 2⟩⟩ A = (⟨x, st7, .pin ⟨g.w, g.ta, r, A.ao g.ta, 1⟩⟩, A.ay 1) := by
        refine Eo.trans ?_
        show ((⟨x, st7, if mPn.fin (⟨g.w, g.ta, r, A.ao g.ta, if A.ao g.ta = e then 3 else 1⟩ : Pn) = true then .no else .pin ⟨g.w, g.ta, r, A.ao g.ta, if A.ao g.ta = e then 3 else 1⟩⟩ : St), A.aV g.ta) = _
        rw [if_neg eq, fU gta u0 (by omega)]; rfl
      have m11 : tmu (A.ay 1) g ⟨x, st7, .pin ⟨g.w, g.ta, r, A.ao g.ta, 1⟩⟩ = 11 := if_pos rfl
      refine ⟨_, _, T, P, hst, ⟨a.tb, (show (2 : Nat) ≤ 3 by decide)⟩, Q1, rfl, lat, fun _ _ _ _ => rfl, X.r0, .pin1 _ he a ⟨gb.1, by omega⟩, .inl ⟨rfl, rfl, fun _ => rfl⟩, ?_, by rw [m11]; rfl⟩
      rw [m11]
      show 11 < (if e = A.ao g.ta then 12 - 2 else 14 - 2)
      rw [if_neg (fun h => eq h.symm)]; decide
  | @rd x a b =>
    refine ⟨_, _, T, P, reads a, ⟨a.tb, trivial⟩, Q1, rfl, lat, fun _ _ _ _ => rfl, X.r0, .la (a.up rfl rfl rfl rfl rfl) (pinS b) ⟨tb.1, Int.le_refl _⟩, .inl ⟨rfl, rfl, fun _ => rfl⟩, ?_, ?_⟩
    · have e2 : tmu A g ⟨x, st7, .no⟩ = 9 := mu0 (p := .reads) a.lv (fun h => (by cases h))
      rw [mu0 (x := { x with t := T }) (p := .lasts) a.lv (fun h => (by cases h)), e2]; decide
    · rw [mu0 (x := { x with t := T }) (p := .lasts) a.lv (fun h => (by cases h))]; exact f0 (x := { x with t := T }) (ps := []) a.lv
  | @la x a b ht =>
    have hs : St.step g ⟨x, [.lasts, .buffers, .holds, .again, .loads, .takes], .no⟩ A = (⟨x, if Bw ≤ x.t then [] else [.buffers, .holds, .again, .loads, .takes], .no⟩, A.ay 1) := by
      refine wi (p := .lasts) (k := .lasts) rfl a.lv ?_
      show (x, if A.ao (dw x.at_ x.victim 1) ≤ x.t then [] else _, A.aV (dw x.at_ x.victim 1)) = _
      rw [a.a, a.v, hb, rd 1 (by decide) (by decide)]
    by_cases hx : Bw ≤ x.t
    · rw [if_pos hx] at hs
      refine ⟨_, _, T, P, hs, ⟨a.tb, trivial⟩, Q1, rfl, lat, fun _ _ _ _ => rfl, X.r0, .en a.tb a.wk a.lv, .inl ⟨rfl, rfl, fun _ => rfl⟩, by rw [muE a.lv, mu0 (p := .lasts) a.lv (fun h => (by cases h))]; decide, by rw [muE a.lv]; exact f0 (ps := []) a.lv⟩
    · rw [if_neg hx] at hs
      refine ⟨_, _, T, P, hs, ⟨a.tb, trivial⟩, Q1, rfl, lat, fun _ _ _ _ => rfl, X.r0, .bu a (pinS b) ht (by omega), .inl ⟨rfl, rfl, fun _ => rfl⟩, ?_, ?_⟩
      · rw [mu0 (p := .buffers) a.lv (fun h => (by cases h)), mu0 (p := .lasts) a.lv (fun h => (by cases h))]; decide
      · rw [mu0 (p := .buffers) a.lv (fun h => (by cases h))]; exact f0 (ps := []) a.lv
  | @bu x a b ht ho =>
    have hs : St.step g ⟨x, [.buffers, .holds, .again, .loads, .takes], .no⟩ A = (⟨{ x with h := h }, [.holds, .again, .loads, .takes], .no⟩, A.ay 1) := by
      refine wi (p := .buffers) (k := .buffers) rfl a.lv ?_
      show ({ x with h := A.ao (dw x.at_ x.victim 2) }, _, A.aV (dw x.at_ x.victim 2)) = _
      rw [a.a, a.v, X.r2, rd 2 (by decide) (by decide)]
    refine ⟨_, _, T, P, hs, ⟨a.tb, trivial⟩, Q1, rfl, lat, fun _ _ _ _ => rfl, X.r0, .ho (a.up rfl rfl rfl rfl rfl) (pinS b) ht ho fun he => ⟨prtS ⟨by show A.stF h ≠ 0; rw [X.hs]; decide, fun h => (by rw [he] at h; cases h), fun _ => ⟨fun y x' e1 e2 => hct y x' e1 e2 P, fun hn q hq e => (hcur he hn q hq e).elim⟩⟩, fun e => ?_⟩, .inl ⟨rfl, rfl, fun _ => rfl⟩, ?_, ?_⟩
    · have e : x.t = T := e
      show (A.ay 1).bA h (x.t % au (opC h)) = val T
      rw [jD, e]; exact X.ld T (Int.le_refl _) (by omega)
    · rw [mu0 (x := { x with h := h }) (p := .holds) a.lv (fun h => (by cases h)), mu0 (p := .buffers) a.lv (fun h => (by cases h))]; decide
    · rw [mu0 (x := { x with h := h }) (p := .holds) a.lv (fun h => (by cases h))]; exact f0 (x := { x with h := h }) (ps := []) a.lv
  | @ho x a b ht ho hp =>
    cases he : g.ep with
    | true =>
      obtain ⟨D, C⟩ := hp he
      obtain ⟨v, hs, hv⟩ := loads a ht.1 D
      refine ⟨_, _, T, P, (B1 (p := .holds) (if_pos he) a.lv).trans ((B1 (p := .again) (if_pos he) a.lv).trans hs), ⟨a.tb, trivial⟩, Q1, rfl, lat, fun _ _ _ _ => rfl, X.r0, .ta (a.up rfl rfl rfl rfl rfl) ht ho (fun e => hv.trans (C e)), .inl ⟨rfl, rfl, fun ho => (by rw [a.no] at ho; cases ho)⟩, ?_, ?_⟩
      · rw [mu0 (p := .takes) (x := { x with v := v }) a.lv (fun h => (by cases h)), mu0 (p := .holds) a.lv (fun h => (by cases h))]; decide
      · rw [mu0 (p := .takes) (x := { x with v := v }) a.lv (fun h => (by cases h))]; exact f0 (x := { x with v := v }) (ps := []) a.lv
    | false =>
      have gw := gwF he
      have wk := a.wk
      obtain ⟨Q, wd, rf⟩ := Z.word (i := g.ta + 2 * x.work + 0) (v := x.h) ⟨by omega, by omega⟩ (fun h => by rw [he] at h; cases h)
      refine ⟨_, _, T, P, NG (p := .holds) (if_neg (by rw [he]; decide)) a.lv, ⟨a.tb, trivial⟩, Q, wd, eV _ _ _, fun j _ j2 _ => ?_, by rw [rf, if_neg (by rw [d0]; omega)]; exact X.r0, .ag he a ht ho (by rw [rf, if_pos (by omega)]), .inl ⟨rfl, rfl, fun _ => rfl⟩, ?_, ?_⟩
      · have := j2 he
        rw [rf, if_neg (by omega)]
      · rw [mu0 (p := .again) a.lv (fun h => (by cases h)), mu0 (p := .holds) a.lv (fun h => (by cases h))]; decide
      · rw [mu0 (p := .again) a.lv (fun h => (by cases h))]; exact f0 (ps := []) a.lv
  | @ag x he a ht ho hw =>
    have hs : St.step g ⟨x, [.again, .loads, .takes], .no⟩ A = (⟨x, if h = x.h then [.loads, .takes] else [], .no⟩, A.ay 1) := by
      refine wi (p := .again) (k := .again) (if_neg (by rw [he]; decide)) a.lv ?_
      show (x, if A.ao (dw x.at_ x.victim 2) = x.h then _ else [], A.aV (dw x.at_ x.victim 2)) = _
      rw [a.a, a.v, X.r2, rd 2 (by decide) (by decide)]
    by_cases hx : h = x.h
    · rw [if_pos hx] at hs
      refine ⟨_, _, T, P, hs, ⟨a.tb, trivial⟩, Q1, rfl, lat, fun _ _ _ _ => rfl, X.r0, .lo a (fun h => (by rw [he] at h; cases h)) ht ho (prtS ⟨by rw [← hx, X.hs]; decide, fun _ => ⟨hw, fun y x' e1 e2 => by rw [← hx]; exact hcs y x' e1 e2⟩, fun h => (by rw [he] at h; cases h)⟩) (cnS fun e => ?_), .inl ⟨rfl, rfl, fun _ => rfl⟩, ?_, ?_⟩
      · rw [← hx, e]; exact X.ld T (Int.le_refl _) (by omega)
      · rw [mu0 (p := .loads) a.lv (fun h => (by cases h)), mu0 (p := .again) a.lv (fun h => (by cases h))]; decide
      · rw [mu0 (p := .loads) a.lv (fun h => (by cases h))]; exact f0 (ps := []) a.lv
    · rw [if_neg hx] at hs
      exact ⟨_, _, T, P, hs, ⟨a.tb, trivial⟩, Q1, rfl, lat, fun _ _ _ _ => rfl, X.r0, .en a.tb a.wk a.lv, .inl ⟨rfl, rfl, fun _ => rfl⟩, by rw [muE a.lv, mu0 (p := .again) a.lv (fun h => (by cases h))]; decide, by rw [muE a.lv]; exact f0 (ps := []) a.lv⟩
  | @lo x a b ht ho D C =>
    obtain ⟨v, hs, hv⟩ := loads a ht.1 D
    refine ⟨_, _, T, P, hs, ⟨a.tb, trivial⟩, Q1, rfl, lat, fun _ _ _ _ => rfl, X.r0, .ta (a.up rfl rfl rfl rfl rfl) ht ho (fun e => hv.trans (C e)), .inl ⟨rfl, rfl, fun ho => (by rw [a.no] at ho; cases ho)⟩, ?_, ?_⟩
    · rw [mu0 (p := .takes) (x := { x with v := v }) a.lv (fun h => (by cases h)), mu0 (p := .loads) a.lv (fun h => (by cases h))]; decide
    · rw [mu0 (p := .takes) (x := { x with v := v }) a.lv (fun h => (by cases h))]; exact f0 (x := { x with v := v }) (ps := []) a.lv
  | @ta x a ht ho hv =>
    have rk0 := rk 0 (by decide) (by decide)
    by_cases e : T = x.t
    · obtain ⟨s1, s2⟩ := lZ (A := A) (i := dw at_ 0 0) (v := x.t) (x := x.t + 1) rk0 (by rw [X.r0]; exact e)
      obtain ⟨Q, wd, rf⟩ := Z.word (i := dw at_ 0 0) (v := x.t + 1) ⟨by rw [d0]; omega, rk0.2⟩ (fun _ => by rw [d0]; omega)
      have hs : St.step g ⟨x, [.takes], .no⟩ A = (⟨{ x with ok := true }, [], .no⟩, A.aL (dw at_ 0 0) (x.t + 1)) := by
        refine wi (p := .takes) (k := .takes) rfl a.lv ?_
        show ({ x with ok := A.cC (dw x.at_ x.victim 0) x.t }, _, A.dE (dw x.at_ x.victim 0) x.t (w64 (x.t + 1))) = _
        rw [a.a, a.v, aE (x := x.t + 1) (by omega) (by omega), s1, s2]
      refine ⟨_, _, x.t + 1, P, hs, ⟨a.tb, trivial⟩, Q, wd, eV _ _ _, fun j j1 _ _ => by rw [rf, if_neg j1], by rw [rf, if_pos rfl], .en (a.tb.of rfl rfl rfl) a.wk a.lv, .inr ⟨by omega, by omega, a.no, rfl, hv e.symm⟩, ?_, ?_⟩
      · rw [muE (x := { x with ok := true }) a.lv, mu0 (p := .takes) a.lv (fun h => (by cases h))]; decide
      · rw [muE (x := { x with ok := true }) a.lv]; exact f0 (x := { x with ok := true }) (ps := []) a.lv
    · obtain ⟨s1, s2⟩ := uY (A := A) (i := dw at_ 0 0) (v := x.t) (w := x.t + 1) rk0 (by rw [X.r0]; exact e)
      have hs : St.step g ⟨x, [.takes], .no⟩ A = (⟨{ x with ok := false }, [], .no⟩, A.ay 1) := by
        refine wi (p := .takes) (k := .takes) rfl a.lv ?_
        show ({ x with ok := A.cC (dw x.at_ x.victim 0) x.t }, _, A.dE (dw x.at_ x.victim 0) x.t (w64 (x.t + 1))) = _
        rw [a.a, a.v, aE (x := x.t + 1) (by omega) (by omega), s1, s2, tk1]
      refine ⟨_, _, T, P, hs, ⟨a.tb, trivial⟩, Q1, rfl, lat, fun _ _ _ _ => rfl, X.r0, .en (a.tb.of rfl rfl rfl) a.wk a.lv, .inl ⟨rfl, a.no.symm, fun _ => rfl⟩, ?_, ?_⟩
      · rw [muE (x := { x with ok := false }) a.lv, mu0 (p := .takes) a.lv (fun h => (by cases h))]; decide
      · rw [muE (x := { x with ok := false }) a.lv]; exact f0 (x := { x with ok := false }) (ps := []) a.lv
  | @en x tbx wk lv =>
    cases he : g.ep with
    | true =>
      have gw := gwT he
      have ew : ewd g.ta x.work = g.ta + 1 + x.work := zW ⟨by omega, by omega, by omega, by omega⟩
      obtain ⟨Q, wd, rf⟩ := Z.word (i := g.ta + 1 + x.work) (v := 0) ⟨by omega, by omega⟩ (fun _ => by omega)
      refine ⟨⟨{ x with leaves := true }, [], .no⟩, A.aL (g.ta + 1 + x.work) 0, T, P, (HJ he lv).trans (by rw [ew]), ⟨tbx, trivial⟩, Q, wd, eV _ _ _, fun j _ _ j3 => by have := j3 he; rw [rf, if_neg (by omega)], by rw [rf, if_neg (by rw [d0]; omega)]; exact X.r0, .dn (tbx.of rfl rfl rfl) wk rfl,   .inl ⟨rfl, rfl, fun _ => rfl⟩, by rw [muE lv]; show (0 : Nat) < 2; decide, rfl⟩
    | false =>
      have gw := gwF he
      obtain ⟨Q, wd, rf⟩ := Z.word (i := g.ta + 2 * x.work) (v := 0) ⟨by omega, by omega⟩ (fun h => by rw [he] at h; cases h)
      refine ⟨⟨{ x with leaves := true }, [], .se ⟨[g.ta + 2 * r + 1], 0⟩⟩, A.aL (g.ta + 2 * x.work) 0, T, P, (Gv he lv).trans (by rw [wk]), ⟨tbx, trivial⟩, Q, wd, eV _ _ _, fun j _ j2 _ => by have := j2 he; rw [rf, if_neg (by omega)], by rw [rf, if_neg (by rw [d0]; omega)]; exact X.r0, .lv (tbx.of rfl rfl rfl) wk rfl he, .inl ⟨rfl, rfl, fun _ => rfl⟩, by rw [muE lv]; show (1 : Nat) < 2; decide, rfl⟩
  | @lv x tbx wk lv he =>
    have gw := gwF he
    obtain ⟨Q, wd, rf⟩ := Z.word (i := g.ta + 2 * r + 1) (v := 0) ⟨by omega, by omega⟩ (fun h => by rw [he] at h; cases h)
    have m0 : ∀ C : Ar, tmu C g ⟨x, [], .no⟩ = 0 := fun C => by show (if x.leaves = true then 0 else _) = _; rw [if_pos lv]
    refine ⟨_, _, T, P, MR, ⟨tbx, trivial⟩, Q, wd, eV _ _ _, fun j _ j2 _ => by have := j2 he; rw [rf, if_neg (by omega)], by rw [rf, if_neg (by rw [d0]; omega)]; exact X.r0, .dn tbx wk lv, .inl ⟨rfl, rfl, fun _ => rfl⟩, by rw [m0]; show (0 : Nat) < 1; decide, by rw [m0]; show (true && x.leaves) = true; rw [lv]; rfl⟩
  | @dn x tbx wk lv => exact (hk ⟨rfl, lv⟩).elim
end
inductive OwM
  | no
  | push (x : Ps)
  | pop (x : Pp)
structure OB (g : Gd) (at_ : Int) (o : DOw) : Prop where
  a : o.at_ = at_
  w : o.work = 0
  p : o.pl = g.pl
structure Nw (A : Ar) (h now t O : Int) : Prop where
  st : A.stF now = 1
  cl : opC now = opC h + 1
  ne : now ≠ h
  c3 : opC h < 3
  sz : O - t = au (opC h)
def Cpd (A : Ar) (val : Int → Int) (now t T i : Int) : Prop := ∀ j, t ≤ j → T ≤ j → j < i → A.bA now (j % au (opC now)) = val j
inductive OwI (A : Ar) (g : Gd) (ls : Int → List (Int × Int)) (T O : Int) (val : Int → Int) (o : DOw) : OwM → Oph → Int → List Int → Prop
  | idle : o.b = O → OwI A g ls T O val o .no .no O []
  | u0 (v : Int) : o.b = O → OwI A g ls T O val o (.push ⟨g, ls, o, v, 0, 0, none, none, none, 0, false⟩) .no O [v]
  | u1 (v t : Int) (a : Al) : o.b = O → 0 ≤ t ∧ t ≤ T → O - t = au (opC o.h) → opC o.h < 3 → a.cls = opC o.h + 1 → OwI A g ls T O val o (.push ⟨g, ls, o, v, t, 1, some a, none, none, 0, false⟩) (.al a) O [v]
  | u2 (v t now : Int) (al : Option Al) (c : Cm) : o.b = O → 0 ≤ t ∧ t ≤ T → Nw A o.h now t O → c.f = o.h ∧ c.t = now ∧ c.fin = O → t ≤ c.at_ ∧ c.at_ < O → Cpd A val now t T c.at_ → (c.has = true → T ≤ c.at_ → c.v = val c.at_) → OwI A g ls T O val o (.push ⟨g, ls, o, v, t, 2, al, some c, none, now, false⟩) .no O [v]
  | u3 (v t now : Int) (al : Option Al) (cp : Option Cm) : o.b = O → 0 ≤ t ∧ t ≤ T → Nw A o.h now t O → Cpd A val now t T O → OwI A g ls T O val o (.push ⟨g, ls, o, v, t, 3, al, cp, none, now, false⟩) .no O [v]
  | u4 (v t now : Int) (al : Option Al) (cp : Option Cm) (lx : Int → List (Int × Int)) (y : Lk) : o.b = O → O - T < au (opC o.h) → y.ls = ls → (lx 0).length ≤ 200 → OwI A g ls T O val o (.push ⟨g, lx, o, v, t, 4, al, cp, some y, now, false⟩) (.lk y) O [v]
  | u5 (v t now : Int) (al : Option Al) (cp : Option Cm) : o.b = O → O - T < au (opC o.h) → OwI A g ls T O val o (.push ⟨g, ls, o, v, t, 5, al, cp, none, now, false⟩) .no O [v]
  | u6 (v t now : Int) (al : Option Al) (cp : Option Cm) : o.b = O → O - T < au (opC o.h) → A.bA o.h (O % au (opC o.h)) = v → OwI A g ls T O val o (.push ⟨g, ls, o, v, t, 6, al, cp, none, now, false⟩) .no O [v]
  | u7 (v t now : Int) (al : Option Al) (cp : Option Cm) (bS : Bool) : o.b = O → OwI A g ls T O val o (.push ⟨g, ls, o, v, t, 7, al, cp, none, now, bS⟩) .no O (if bS = true then [] else [v])
  | p0 : o.b = O → OwI A g ls T O val o (.pop ⟨o, 0, 0, 0, false⟩) .no O []
  | p1 : o.b = O - 1 → OwI A g ls T O val o (.pop ⟨o, 0, 1, 0, false⟩) .no (O - 1) []
  | p2a (t u : Int) : o.b = O → t < O → A.bA o.h (O % au (opC o.h)) = u → OwI A g ls T O val o (.pop ⟨o, t, 2, 0, false⟩) .no O [u]
  | p2b : o.b = O - 1 → O - 1 ≤ T → OwI A g ls T O val o (.pop ⟨o, O - 1, 2, 0, false⟩) .no (O - 1) []
  | p3 (v : Int) : o.b = O - 1 → O - 1 ≤ T → (T = O - 1 → v = val T) → OwI A g ls T O val o (.pop ⟨o, O - 1, 3, v, false⟩) .no (O - 1) []
  | p4 (t v : Int) (ok : Bool) : o.b = O - 1 → T = O → OwI A g ls T O val o (.pop ⟨o, t, 4, v, ok⟩) .no (O - 1) (if ok = true then [v] else [])
  | p5 (t v : Int) (ok : Bool) : o.b = O → (ok = false → T = O) → OwI A g ls T O val o (.pop ⟨o, t, 5, v, ok⟩) .no O (if ok = true then [v] else [])
section
variable {A B : Ar} {g : Gd} {m at_ U T O r P Bw h : Int} {S S' : Sg} {ph ph' : Oph} {lim lim' : List (Int × Int)} {val val' : Int → Int} {ls : Int → List (Int × Int)} {o : DOw} {ow : OwM} {hand : List Int}
theorem OwI.mv {T' : Int} (W : OwI A g ls T O val o ow ph Bw hand) (hT : T ≤ T') (hO : T' ≤ O) (st : ∀ h, B.stF h = A.stF h) (lf : ∀ h j, B.bA h j = A.bA h j) : OwI B g ls T' O val o ow ph Bw hand := by
  cases W with
  | idle a => exact .idle a
  | u0 v a => exact .u0 v a
  | u1 v t x a b c d e => exact .u1 v t x a ⟨b.1, by omega⟩ c d e
  | u2 v t now al c a b d e f i j => exact .u2 v t now al c a ⟨b.1, by omega⟩ ⟨(st _).trans d.st, d.cl, d.ne, d.c3, d.sz⟩ e f (fun k k0 k1 k2 => (lf _ _).trans (i k k0 (by omega) k2)) (fun h1 h2 => j h1 (by omega))
  | u3 v t now al cp a b d i => exact .u3 v t now al cp a ⟨b.1, by omega⟩ ⟨(st _).trans d.st, d.cl, d.ne, d.c3, d.sz⟩ (fun k k0 k1 k2 => (lf _ _).trans (i k k0 (by omega) k2))
  | u4 v t now al cp lx y a b c d => exact .u4 v t now al cp lx y a (by omega) c d
  | u5 v t now al cp a b => exact .u5 v t now al cp a (by omega)
  | u6 v t now al cp a b c => exact .u6 v t now al cp a (by omega) ((lf _ _).trans c)
  | u7 v t now al cp bS a => exact .u7 v t now al cp bS a
  | p0 a => exact .p0 a
  | p1 a => exact .p1 a
  | p2a t u a b c => exact .p2a t u a b ((lf _ _).trans c)
  | p2b a b => exact .p2b a (by omega)
  | p3 v a b c =>
    refine .p3 v a (by omega) (fun e => ?_)
    have e2 : T = T' := by omega
    rw [← e2]; exact c (by omega)
  | p4 t v ok a b => exact .p4 t v ok a (by omega)
  | p5 t v ok a b => exact .p5 t v ok a (fun h => by have := b h; omega)
theorem OwI.bw (W : OwI A g ls T O val o ow ph Bw hand) : Bw ≤ O ∧ o.b = Bw := by
  cases W <;> refine ⟨by omega, by assumption⟩
theorem GZ.cur (Z : GZ A g m S at_ ph lim U) (hs : A.stF h = 1) : (g.ep = true → ¬ KA ph → ∀ q ∈ zQ A g lim ph, q.1 ≠ h) ∧ (∀ y x, ph = .lk y → y.m = .sc x → Safe x r h) ∧ (∀ y x, ph = .lk y → y.m = .tn x → ∀ P, jv x h P) ∧ (g.ep = true → ∀ P, (0 ≤ P ∧ A.ao g.ta = P) → A.ao (g.ta + 1 + r) = P + 1 → tnT A g ph r P) := by
  have lm : ∀ l, Lm A l → ∀ q ∈ l, q.1 ≠ h := fun l L q hq e => by have := (L.2 q hq).1; rw [e, hs] at this; cases this
  have fr : ∀ {fs : List Fe}, C6 g.pl g.w m A S fs → h ∉ fs.map Fe.h := fun {fs} F hm => by
    obtain ⟨f, hf, e⟩ := List.mem_map.1 hm
    cases fs with
    | nil => cases hf
    | cons f0 fs =>
      rcases List.mem_cons.1 hf with e2 | hf
      · have := F.1.st; rw [← e2, e, hs] at this; cases this
      · have := (F.2 f hf).2; rw [e, hs] at this; cases this
  have hp := Z.ph
  refine ⟨fun he hn q hq => ?_, fun y x e1 e2 => ?_, fun y x e1 e2 P => ?_, fun he P hP hw y x e1 e2 h2 => by omega⟩
  · cases ph with
    | no => exact lm _ hp q hq
    | al x => exact lm _ hp.2 q hq
    | lk y =>
      obtain ⟨_, _, _, _, _, im⟩ := hp
      cases hm : y.m with
      | no =>
        rw [hm] at im
        have L : Lm A lim := im.1
        have hq : q ∈ (if y.first = true then cO lim (A.ao g.ta) else lim) := hq
        split at hq
        · intro e
          have : q.1 ∈ (cO lim (A.ao g.ta)).map Prod.fst := List.mem_map.2 ⟨q, hq, rfl⟩
          rw [uZ] at this
          obtain ⟨q', h1, h2⟩ := List.mem_map.1 this
          exact lm _ L q' h1 (h2.trans e)
        · exact lm _ L q hq
      | sc x => rw [hm] at im; have := im.2.2.1; rw [he] at this; cases this
      | tn x => exact (hn (by show (match y.m with | .tn _ => True | _ => False); rw [hm]; trivial)).elim
  · cases e1
    obtain ⟨_, _, _, _, _, im⟩ := hp
    rw [e2] at im
    have sI := im.2.2.2
    unfold Safe
    rcases sI.st with ⟨a1, _, _, _, _, a6, _⟩ | ⟨a1, _, _, a4, _⟩
    · rw [if_neg (by rw [a1]; decide)]
      intro hl; have := a6 h hl; rw [hs] at this; cases this
    · rw [if_pos a1]; exact fr a4
  · cases e1
    obtain ⟨_, _, _, _, _, im⟩ := hp
    rw [e2] at im
    have tI := im.2.2.2
    unfold jv
    rcases tI.st with ⟨a1, _, _, _, a5, _⟩ | ⟨a1, _, a3, _, _, a6, _⟩
    · rw [if_pos a1]
      intro q hq e; have := a5 q hq; rw [e, hs] at this; cases this
    · rw [if_neg (by omega)]
      exact ⟨fr a3, fun q hq e => by have := (a6 q hq).1; rw [e, hs] at this; cases this⟩
theorem FK {p : Pl} {w hh off v k j : Int} (hwf : A.wf) (X : SL A p w m S) (hi : A.fZ hh off) (hk : A.fZ k j) : (A.bW hh off v).bA k j = if k = hh ∧ j = off then v else A.bA k j := by
  rw [xm hwf hi hk]
  by_cases e : pos k j = pos hh off
  · rw [if_pos e, if_pos ((vy X hi hk).1 e)]
  · rw [if_neg e, if_neg (fun h => e ((vy X hi hk).2 h))]
theorem Ac {k j : Int} (hk : A.stF k ≠ 0) : A.fZ k (j % au (opC k)) := by
  have := jx k
  exact ⟨hk, Int.emod_nonneg _ (by omega), Int.emod_lt_of_pos _ (by omega)⟩
structure Th1 (A : Ar) (g : Gd) (m : Int) (S : Sg) (at_ : Int) (ph : Oph) (ls : Int → List (Int × Int)) (T O : Int) (val : Int → Int) (o : DOw) (ow : OwM) (Bw : Int) (hand : List Int) (U : Int) (r P : Int) (z z' : St) (B : Ar) (T' P' : Int) : Prop where
  s : TmS A g m S at_ ph (ls 0) T O val r P z z' B T' P'
  gz : GZ B g m S at_ ph (ls 0) (U + 1)
  dx : DX B at_ o.h T' O val
  rB : B.ao (dw at_ 0 1) = Bw
  ow : OwI B g ls T' O val o ow ph Bw hand
  oth : ∀ r' P' z, 1 ≤ r' → r' < g.w → r' ≠ r → TmP A g at_ ph (ls 0) T O val r' P' z → TmP B g at_ ph (ls 0) T' O val r' P' z
theorem Mi {z : St} (D : TmP A g at_ ph (ls 0) T O val r P z) (Z : GZ A g m S at_ ph (ls 0) U) (hU : U + 1 ≤ 800000) (X : DX A at_ o.h T O val) (rb : 1 ≤ r ∧ r < g.w) (hb : A.ao (dw at_ 0 1) = Bw) (W : OwI A g ls T O val o ow ph Bw hand) (hk : ¬ (z.um.ji = true ∧ z.x.leaves = true)) :
    ∃ z' B T' P', Th1 A g m S at_ ph ls T O val o ow Bw hand U r P z z' B T' P' := by
  obtain ⟨c1, c2, c3, c4⟩ := Z.cur (r := r) X.hs
  obtain ⟨z', B, T', P', s⟩ := D.step Z hU X rb hb W.bw.1 hk c1 c2 c3 c4
  have L := Z.lay
  obtain ⟨gw0, _⟩ := L.rw
  obtain ⟨gwF, gwT⟩ := L.gw
  have lo := L.lo
  have wb := L.wb
  have d0 : ∀ k : Int, dw at_ 0 k = at_ + k := fun k => by show at_ + 3 * 0 + k = _; omega
  have lf : ∀ h j, B.bA h j = A.bA h j := fun h j => kr s.wd (s.q.st h)
  have tb := X.tb
  have hT : T ≤ T' ∧ T' ≤ O := by rcases s.or with ⟨a, _⟩ | ⟨a, b, _⟩ <;> omega
  have rwd : ∀ k : Int, 0 < k → k < 3 → B.ao (dw at_ 0 k) = A.ao (dw at_ 0 k) := fun k k0 k1 => s.rw _ (by rw [d0, d0]; omega) (fun he => by have := gwF he; rw [d0]; omega) (fun he => by have := gwT he; rw [d0]; omega)
  refine ⟨z', B, T', P', s, Z.qz s.q hU, ⟨s.r0, (rwd 2 (by decide) (by decide)).trans X.r2, (s.q.st _).trans X.hs, ⟨by omega, hT.2, tb.2.2⟩, by have := X.rm; omega, fun j j0 j1 => (lf _ _).trans (X.ld j (by omega) j1)⟩, (rwd 1 (by decide) (by decide)).trans hb, W.mv hT.1 hT.2 s.q.st lf, fun r' P' z r0 r1 hne D' => ?_⟩
  have hp1 : g.ep = false → B.ao (g.ta + 2 * r') = A.ao (g.ta + 2 * r') := fun he => s.rw _ (by have := gwF he; rw [d0]; omega) (fun _ => by omega) (fun h => by rw [he] at h; cases h)
  have hp2 : g.ep = true → B.ao (g.ta + 1 + r') = A.ao (g.ta + 1 + r') := fun he => s.rw _ (by have := gwT he; rw [d0]; omega) (fun h => by rw [he] at h; cases h) (fun _ => by omega)
  refine D'.mv hT.1 (.inl (Int.le_refl _)) (fun he D => D.qz he s.q.gt (hp2 he)) (fun h _ D => D.qz s.q.gt s.q.st hp1) (fun x t0 t1 t2 _ D C e => ?_) hp1 hp2 (fun _ _ => rfl)
  have e2 : T = T' := by omega
  rw [lf, ← e2]; exact C (by omega)
end
theorem BF {n i j : Int} (hn : 0 < n) (h1 : i < j) (h2 : j < i + n) : i % n ≠ j % n := fun e => by
  have := FN (n := n) (i := 0) (j := j - i) (t := i) hn (by omega) ⟨by omega, hn⟩ ⟨by omega, by omega⟩
  exact this (by rw [show i + 0 = i by omega, show i + (j - i) = j by omega]; exact e)
inductive Chg (T O : Int) (val : Int → Int) : List Int → Int → Int → (Int → Int) → List Int → Prop
  | same {hand : List Int} : Chg T O val hand T O val hand
  | bS (v : Int) : Chg T O val [v] T (O + 1) (fun j => if j = O then v else val j) []
  | claim : T < O - 1 → Chg T O val [] T (O - 1) val [val (O - 1)]
  | cas : T + 1 = O → Chg T O val [] O O val [val T]
structure OC (A : Ar) (g : Gd) (m : Int) (S : Sg) (at_ : Int) (ph : Oph) (ls : Int → List (Int × Int)) (T O : Int) (val : Int → Int) (o : DOw) (Bw U : Int) : Prop where
  z : GZ A g m S at_ ph (ls 0) U
  x : DX A at_ o.h T O val
  b : A.ao (dw at_ 0 1) = Bw
  ob : OB g at_ o
  wf : A.wf
  hU : U + 1 ≤ 800000
  O2 : O < 2000
structure OwS (A : Ar) (g : Gd) (m : Int) (at_ : Int) (ph : Oph) (ls : Int → List (Int × Int)) (T O : Int) (val : Int → Int) (hand : List Int) (U : Int) (B : Ar) (S' : Sg) (ph' : Oph) (ls' : Int → List (Int × Int)) (T' O' : Int) (val' : Int → Int) (o' : DOw) (ow' : OwM) (Bw' : Int) (hand' : List Int) : Prop where
  gz : GZ B g m S' at_ ph' (ls' 0) (U + 1)
  dx : DX B at_ o'.h T' O' val'
  rB : B.ao (dw at_ 0 1) = Bw'
  ow : OwI B g ls' T' O' val' o' ow' ph' Bw' hand'
  ob : OB g at_ o'
  us : B.aD = A.aD + 1
  ch : Chg T O val hand T' O' val' hand'
  oth : ∀ r P z, 1 ≤ r → r < g.w → TmP A g at_ ph (ls 0) T O val r P z → TmP B g at_ ph' (ls' 0) T' O' val' r P z
section
variable {A B : Ar} {g : Gd} {m at_ U T O Bw T' O' b h v t now : Int} {S S' : Sg} {ph ph' : Oph} {val val' : Int → Int} {ls ls' : Int → List (Int × Int)} {o : DOw} {hand : List Int} {al : Option Al} {cp : Option Cm}
theorem Lay.g2 (L : Lay A g m at_) : (g.ep = false → g.ta + 2 * g.w ≤ at_) ∧ (g.ep = true → g.ta + 1 + g.w ≤ at_) ∧ g.ta < at_ := by
  obtain ⟨a, b⟩ := L.gw
  have lo := L.lo
  have wb := L.wb
  refine ⟨fun h => by have := a h; omega, fun h => by have := b h; omega, ?_⟩
  cases he : g.ep with
  | true => have := b he; omega
  | false => have := a he; omega
theorem DX.mv (X : DX A at_ h T O val) (r0 : B.ao (dw at_ 0 0) = T) (r2 : B.ao (dw at_ 0 2) = h) (st : B.stF h = 1) (lf : ∀ j, B.bA h j = A.bA h j) : DX B at_ h T O val :=
  ⟨r0, r2, st, X.tb, X.rm, fun j a c => (lf _).trans (X.ld j a c)⟩
theorem OC.rk (E : OC A g m S at_ ph ls T O val o Bw U) {k : Int} (k0 : 0 ≤ k) (k1 : k < 3) : A.bp (dw at_ 0 k) ∧ g.pl.carved < dw at_ 0 k ∧ at_ ≤ dw at_ 0 k ∧ dw at_ 0 k = at_ + k ∧ A.aV (dw at_ 0 k) = A.ay 1 := by
  have L := E.z.lay
  obtain ⟨gw0, g1⟩ := L.rw
  obtain ⟨_, _, g2⟩ := L.g2
  have c0 := L.c0
  have hi := L.hi
  have wb := L.wb
  have us := E.z.us
  have hU := E.hU
  have u0 := E.z.sl.F.us
  have d0 : dw at_ 0 k = at_ + k := by show at_ + 3 * 0 + k = _; omega
  have ro : A.bp (dw at_ 0 k) := by rw [d0]; exact ⟨by omega, by omega⟩
  exact ⟨ro, by omega, by omega, d0, fU ro u0 (by omega)⟩
theorem OC.bd (E : OC A g m S at_ ph ls T O val o Bw U) : o.bnd := by
  have L := E.z.lay
  obtain ⟨_, g1⟩ := L.rw
  have c0 := L.c0
  have hi := L.hi
  have wb := L.wb
  have rb := L.rb
  have a := E.ob.a
  have w := E.ob.w
  exact ⟨⟨by omega, by omega⟩, ⟨by omega, by omega⟩⟩
theorem OC.oth (E : OC A g m S at_ ph ls T O val o Bw U) (Q : Qz A g m S B) (rw' : ∀ i, i < at_ → B.ao i = A.ao i) (hT : T ≤ T') (hO : O ≤ O' ∨ T < O')
    (hcn : ∀ x : Ts, 0 ≤ x.t → x.t ≤ T → x.t < O → A.stF x.h ≠ 0 → Cn A val T x → Cn B val' T' x) (hval : ∀ j, j < O → val' j = val j) :
    ∀ r P z, 1 ≤ r → r < g.w → TmP A g at_ ph (ls 0) T O val r P z → TmP B g at_ ph (ls 0) T' O' val' r P z := fun r P z r0 r1 D => by
  obtain ⟨h1, h2, _⟩ := E.z.lay.g2
  have p1 : g.ep = false → B.ao (g.ta + 2 * r) = A.ao (g.ta + 2 * r) := fun he => rw' _ (by have := h1 he; omega)
  have p2 : g.ep = true → B.ao (g.ta + 1 + r) = A.ao (g.ta + 1 + r) := fun he => rw' _ (by have := h2 he; omega)
  exact D.mv hT hO (fun he D => D.qz he Q.gt (p2 he)) (fun h _ D => D.qz Q.gt Q.st p1) (fun x a c d _ D C => hcn x a c d D.nz C) p1 p2 hval
theorem OC.MI (E : OC A g m S at_ ph ls T O val o Bw U) (Q : Qz A g m S B) (rw' : ∀ i, i < at_ → B.ao i = A.ao i) (lf : ∀ h j, A.stF h ≠ 0 → B.bA h j = A.bA h j) :
    ∀ r P z, 1 ≤ r → r < g.w → TmP A g at_ ph (ls 0) T O val r P z → TmP B g at_ ph (ls 0) T O val r P z :=
  E.oth Q rw' (Int.le_refl _) (.inl (Int.le_refl _)) (fun x _ _ _ nz C e => (lf _ _ nz).trans (C e)) (fun _ _ => rfl)
theorem OC.ay (E : OC A g m S at_ ph ls T O val o Bw U) : Qz A g m S (A.ay 1) ∧ GZ (A.ay 1) g m S at_ ph (ls 0) (U + 1) ∧ DX (A.ay 1) at_ o.h T O val ∧ (A.ay 1).ao (dw at_ 0 1) = Bw ∧
    ∀ r P z, 1 ≤ r → r < g.w → TmP A g at_ ph (ls 0) T O val r P z → TmP (A.ay 1) g at_ ph (ls 0) T O val r P z := by
  have Q := Qz.ay (S := S) (m := m) E.z.sl
  exact ⟨Q, E.z.qz Q E.hU, E.x.mv E.x.r0 E.x.r2 ((Q.st _).trans E.x.hs) (fun j => jD A 1 _ _), E.b, E.MI Q (fun _ _ => rfl) fun h j _ => jD A 1 h j⟩
theorem OC.read (E : OC A g m S at_ ph ls T O val o Bw U) {ow' : OwM} {hand' : List Int} {o' : DOw} (eh : o'.h = o.h) (ob : OB g at_ o') (W : OwI (A.ay 1) g ls T O val o' ow' ph Bw hand') (ch : Chg T O val hand T O val hand') : OwS A g m at_ ph ls T O val hand U (A.ay 1) S ph ls T O val o' ow' Bw hand' := by
  obtain ⟨Q, Z, X, b, D⟩ := E.ay
  exact ⟨Z, by rw [eh]; exact X, b, W, ob, rfl, ch, D⟩
theorem OC.word (E : OC A g m S at_ ph ls T O val o Bw U) {k v : Int} (k0 : 0 ≤ k) (k1 : k < 3) : Qz A g m S (A.aL (dw at_ 0 k) v) ∧ GZ (A.aL (dw at_ 0 k) v) g m S at_ ph (ls 0) (U + 1) ∧ (A.aL (dw at_ 0 k) v).words = A.words ∧ (∀ j, (A.aL (dw at_ 0 k) v).ao j = if j = dw at_ 0 k then v else A.ao j) ∧ (∀ h j, (A.aL (dw at_ 0 k) v).bA h j = A.bA h j) := by
  obtain ⟨r1, r2, r3, _, _⟩ := E.rk k0 k1
  obtain ⟨_, _, g2⟩ := E.z.lay.g2
  obtain ⟨Q, wd, rf⟩ := E.z.word (v := v) ⟨r2, r1.2⟩ (fun _ => by omega)
  exact ⟨Q, E.z.qz Q E.hU, wd, rf, fun h j => kr wd (Q.st h)⟩
theorem z4 (E : OC A g m S at_ ph ls T O val o Bw U) {lx : Int → List (Int × Int)} (ll : (lx 0).length ≤ 200) {what : Int} {cpp : Option Cm} {old : Option Lk} {bS : Bool} (h1 : what = 1 → ∃ a, al = some a ∧ mAl.inv a A) (h2 : what = 2 → ∃ c, cpp = some c) (h3 : what ≠ 4 → old = none) (h4 : what = 4 → ∃ y, old = some y ∧ y.inv A) : Ps.inv ⟨g, lx, o, v, t, what, al, cpp, old, now, bS⟩ A := by
  have wb := E.z.lay.wb
  have w := E.ob.w
  exact ⟨⟨by show 1 ≤ g.w; omega, by show g.w ≤ 1000; omega⟩, E.bd, by show (lx o.work).length < 1000; rw [w]; omega, h1, h2, h3, h4⟩
theorem OC.lim (E : OC A g m S at_ ph ls T O val o Bw U) : (ls 0).length ≤ 200 := by
  have hp := E.z.ph
  have sl := E.z.sl
  have mb := E.z.lay.mb.2
  cases ph with
  | no => have : Lm A (ls 0) := hp; have := this.len sl mb; omega
  | al x => have : Lm A (ls 0) := hp.2; have := this.len sl mb; omega
  | lk y => exact hp.ll
theorem KU (E : OC A g m S at_ .no ls T O val o Bw U) (hb : o.b = O) (eB : Bw = O) :
    ∃ x' B ph', Ps.step ⟨g, ls, o, v, 0, 0, none, none, none, 0, false⟩ A = (x', B) ∧ OwS A g m at_ .no ls T O val [v] U B S ph' ls T O val x'.o (.push x') Bw [v] ∧ x'.what ≠ 0 := by
  obtain ⟨at', wk, b, h, pl⟩ := o
  obtain ⟨e1, e2, e3⟩ := E.ob
  have e1 : at' = at_ := e1
  have e2 : wk = 0 := e2
  have e3 : pl = g.pl := e3
  have hb : b = O := hb
  subst e1; subst e2; subst e3; subst hb
  have X := E.x
  have tb := X.tb
  have rm : b - T ≤ au (opC h) := X.rm
  have sz := jx h
  have oc := fk h
  have hs : A.stF h = 1 := X.hs
  have hs0 : A.stF h ≠ 0 := by rw [hs]; decide
  obtain ⟨rl, cl⟩ := v9 hs0
  obtain ⟨r1, _, _, _, r5⟩ := E.rk (k := 0) (by decide) (by decide)
  have r0 : A.ao (dw at' 0 0) = T := X.r0
  have st : Ps.step ⟨g, ls, ⟨at', 0, b, h, g.pl⟩, v, 0, 0, none, none, none, 0, false⟩ A = (if jZ h ≤ w64 (b - A.ao (dw at' 0 0)) then Ps.grow ⟨g, ls, ⟨at', 0, b, h, g.pl⟩, v, A.ao (dw at' 0 0), 5, none, none, none, 0, false⟩ else ⟨g, ls, ⟨at', 0, b, h, g.pl⟩, v, A.ao (dw at' 0 0), 5, none, none, none, 0, false⟩, A.aV (dw at' 0 0)) := rfl
  rw [r0, rl, r5, aE (x := b - T) (by omega) (by omega)] at st
  by_cases hf : au (opC h) ≤ b - T
  · rw [if_pos hf] at st
    have gr : Ps.grow ⟨g, ls, ⟨at', 0, b, h, g.pl⟩, v, T, 5, none, none, none, 0, false⟩ = if w64 (rV h + 1) < 4 then ⟨g, ls, ⟨at', 0, b, h, g.pl⟩, v, T, 1, some (mf g.pl 0 (w64 (rV h + 1))), none, none, 0, false⟩ else ⟨g, ls, ⟨at', 0, b, h, g.pl⟩, v, T, 7, none, none, none, 0, false⟩ := rfl
    rw [gr, cl, aE (x := opC h + 1) (by omega) (by omega)] at st
    obtain ⟨Q, Z, X', b', D⟩ := E.ay
    by_cases h4 : opC h + 1 < 4
    · rw [if_pos h4] at st
      have wb := E.z.lay.wb
      have lm : Lm (A.ay 1) (ls 0) := Z.ph
      have Z2 : GZ (A.ay 1) g m S at' (.al (mf g.pl 0 (opC h + 1))) (ls 0) (U + 1) := ⟨Z.sl, Z.fa, Z.lay, Z.us, Z.ub, Z.cn, Z.gb, AlI.new Z.sl ⟨by decide, by omega⟩ ⟨by omega, h4⟩, lm⟩
      refine ⟨_, _, .al _, st, ⟨Z2, X', b', ?_, ⟨rfl, rfl, rfl⟩, rfl, .same, fun r P z r0 r1 D' => ?_⟩, by show (1 : Int) ≠ 0; decide⟩
      · rw [eB]
        exact .u1 v T _ rfl ⟨tb.1, Int.le_refl _⟩ (by show b - T = au (opC h); omega) (by show opC h < 3; omega) rfl
      · refine (D r P z r0 r1 D').mv (Int.le_refl _) (.inl (Int.le_refl _)) (fun he D => ⟨D.p0, D.wd, D.gl, fun y x e => (by cases e)⟩) (fun k _ D => ⟨D.nz, fun he => ⟨(D.ha he).1, fun y x e => (by cases e)⟩, fun he => ⟨fun y x e => (by cases e), fun hn q hq => (D.hp he).2 (fun h => h) q hq⟩⟩) (fun x _ _ _ _ _ C => C) (fun _ => rfl) (fun _ => rfl) (fun _ _ => rfl)
    · rw [if_neg h4] at st
      exact ⟨_, _, .no, st, E.read rfl ⟨rfl, rfl, rfl⟩ (by rw [eB]; exact .u7 v T 0 none none false rfl) .same, by show (7 : Int) ≠ 0; decide⟩
  · rw [if_neg hf] at st
    exact ⟨_, _, .no, st, E.read rfl ⟨rfl, rfl, rfl⟩ (by rw [eB]; exact .u5 v T 0 none none rfl (by show b - T < au (opC h); omega)) .same, by show (5 : Int) ≠ 0; decide⟩
end
section
variable {A B : Ar} {g : Gd} {m at_ U T O Bw T' O' b h v t now : Int} {S S' : Sg} {ph ph' : Oph} {val val' : Int → Int} {ls ls' : Int → List (Int × Int)} {lim' : List (Int × Int)} {o : DOw} {hand : List Int} {al : Option Al} {cp : Option Cm}
theorem OC.oe (E : OC A g m S at_ ph ls T O val o Bw U) (Q : OE A g m S at_ ph (ls 0) U B S' ph' lim') (hl : ls' 0 = lim') : GZ B g m S' at_ ph' (ls' 0) (U + 1) ∧ DX B at_ o.h T O val ∧ B.ao (dw at_ 0 1) = Bw ∧ ∀ r P z, 1 ≤ r → r < g.w → TmP A g at_ ph (ls 0) T O val r P z → TmP B g at_ ph' (ls' 0) T O val r P z := by
  subst hl
  have lo := E.z.lay.lo
  have rw' : ∀ k : Int, 0 ≤ k → k < 3 → B.ao (dw at_ 0 k) = A.ao (dw at_ 0 k) := fun k k0 k1 => Q.rw _ (by have := (E.rk k0 k1).2.2.1; omega)
  have hs := E.x.hs
  have hsB := Q.lv _ hs
  refine ⟨Q.z, E.x.mv ((rw' 0 (by decide) (by decide)).trans E.x.r0) ((rw' 2 (by decide) (by decide)).trans E.x.r2) hsB (fun j => wY Q.wd (by rw [hs]; decide) (by rw [hsB]; decide)), (rw' 1 (by decide) (by decide)).trans E.b, fun r P z r0 r1 D => ?_⟩
  exact D.mv (Int.le_refl _) (.inl (Int.le_refl _)) (fun he D => Q.pin r P (by omega) r1 he D) (fun h hp D => Q.prt r P h (by omega) r1 hp D) (fun x _ _ _ hp D C e => (wY Q.wd D.nz (Q.prt r P x.h (by omega) r1 hp D).nz).trans (C e)) (fun he => Q.pub r (by omega) r1 he) (fun he => Q.pwd r (by omega) r1 he) (fun _ _ => rfl)
theorem Ky {a : Al} (E : OC A g m S at_ (.al a) ls T O val o Bw U) (eB : Bw = O) (hb : o.b = O) (ht : 0 ≤ t ∧ t ≤ T) (hz : O - t = au (opC o.h)) (h3 : opC o.h < 3) (hc : a.cls = opC o.h + 1) :
    ∃ x' B S' ph', Ps.step ⟨g, ls, o, v, t, 1, some a, none, none, 0, false⟩ A = (x', B) ∧ mAl.inv a A ∧ OwS A g m at_ (.al a) ls T O val [v] U B S' ph' ls T O val x'.o (.push x') Bw [v] ∧ ((x'.what = 1 ∧ x'.alloc = some (a.step A).1 ∧ B = (a.step A).2) ∨ x'.what = 2 ∨ x'.what = 7) := by
  obtain ⟨aI, lm⟩ : AlI g.pl g.w m a A S ∧ Lm A (ls 0) := E.z.ph
  have wb := E.z.lay.wb
  have hs := E.x.hs
  obtain ⟨S', ⟨c, hfin, Q⟩, hnew, hcls⟩ := E.z.alS E.wf E.hU
  obtain ⟨Z, X, b', D⟩ := E.oe (ls' := ls) Q rfl
  have st : Ps.step ⟨g, ls, o, v, t, 1, some a, none, none, 0, false⟩ A = (if mAl.fin (a.step A).1 = true then Ps.got ⟨g, ls, o, v, t, 1, some (a.step A).1, none, none, 0, false⟩ (a.step A).1.h else ⟨g, ls, o, v, t, 1, some (a.step A).1, none, none, 0, false⟩, (a.step A).2) := rfl
  have gt : ∀ h, Ps.got ⟨g, ls, o, v, t, 1, some (a.step A).1, none, none, 0, false⟩ h = if h ≠ 0 then ⟨g, ls, o, v, t, 2, some (a.step A).1, some ⟨o.h, h, t, o.b, 0, false⟩, none, h, false⟩ else ⟨g, ls, o, v, t, 7, some (a.step A).1, none, none, 0, false⟩ := fun _ => rfl
  have ai : mAl.inv a A := by
    have := aI.lst
    show 0 ≤ a.lst ∧ a.lst ≤ 1000000
    omega
  rw [hfin, gt] at st
  have sz := jx o.h
  cases c with
  | false =>
    rw [if_neg (by decide)] at st
    rw [if_neg (by decide)] at Z D
    exact ⟨_, _, S', _, st, ai, ⟨Z, X, b', by rw [eB]; exact .u1 v t _ hb ht hz h3 (hcls.trans hc), E.ob, Q.us, .same, D⟩, .inl ⟨rfl, rfl, rfl⟩⟩
  | true =>
    rw [if_pos rfl] at st
    rw [if_pos rfl] at Z D
    by_cases hh : (a.step A).1.h = 0
    · rw [if_neg (fun h => h hh)] at st
      exact ⟨_, _, S', _, st, ai, ⟨Z, X, b', by rw [eB]; exact .u7 v t 0 _ none false hb, E.ob, Q.us, .same, D⟩, .inr (.inr rfl)⟩
    · rw [if_pos hh] at st
      obtain ⟨n1, n2, n3⟩ := hnew hfin hh
      exact ⟨_, _, S', _, st, ai, ⟨Z, X, b', by rw [eB]; exact .u2 v t _ _ _ hb ht ⟨n1, n2.trans hc, fun e => (by rw [e, hs] at n3; cases n3), h3, hz⟩ ⟨rfl, rfl, hb⟩ ⟨Int.le_refl _, by show t < O; omega⟩ (fun j j0 j1 j2 => by have j2 : j < t := j2; omega) (fun h => (by cases h)), E.ob, Q.us, .same, D⟩, .inr (.inl rfl)⟩
theorem Kk {c : Cm} (E : OC A g m S at_ .no ls T O val o Bw U) (eB : Bw = O) (hb : o.b = O) (ht : 0 ≤ t ∧ t ≤ T) (N : Nw A o.h now t O) (hc : c.f = o.h ∧ c.t = now ∧ c.fin = O) (ha : t ≤ c.at_ ∧ c.at_ < O) (hC : Cpd A val now t T c.at_) (hv : c.has = true → T ≤ c.at_ → c.v = val c.at_) :
    ∃ x' B, Ps.step ⟨g, ls, o, v, t, 2, al, some c, none, now, false⟩ A = (x', B) ∧ OwS A g m at_ .no ls T O val [v] U B S .no ls T O val x'.o (.push x') Bw [v] ∧ ((x'.what = 3) ∨ ∃ c', x'.what = 2 ∧ x'.copy = some c' ∧ ((c.has = false ∧ c'.has = true ∧ c'.at_ = c.at_ ∧ c'.fin = c.fin) ∨ (c'.has = false ∧ c'.at_ = c.at_ + 1 ∧ c'.fin = c.fin))) := by
  obtain ⟨f, t2, ai, fin, vv, has⟩ := c
  obtain ⟨e1, e2, e3⟩ := hc
  have e1 : f = o.h := e1
  have e2 : t2 = now := e2
  have e3 : fin = O := e3
  subst e1; subst e2; subst e3
  have ha : t ≤ ai ∧ ai < fin := ha
  have hC : Cpd A val t2 t T ai := hC
  have tb := E.x.tb
  have us := E.z.us
  have hU := E.hU
  have u0 := E.z.sl.F.us
  have hs := E.x.hs
  have hs0 : A.stF o.h ≠ 0 := by rw [hs]; decide
  have hn0 : A.stF t2 ≠ 0 := by rw [N.st]; decide
  have sz := jx o.h
  have sn := jx t2
  have nz := N.sz
  have s2 : au (opC o.h) * 2 = au (opC t2) := by
    rw [N.cl]
    have oc := fk o.h
    have := N.c3
    have h3 : opC o.h = 0 ∨ opC o.h = 1 ∨ opC o.h = 2 := by omega
    rcases h3 with h | h | h <;> rw [h] <;> rfl
  have tk1 : A.tick = A.ay 1 := by unfold Ar.tick Ar.ay; rw [aE (by omega) (by omega)]
  have st : Ps.step ⟨g, ls, o, v, t, 2, al, some ⟨o.h, t2, ai, fin, vv, has⟩, none, t2, false⟩ A = (if mCp.fin ((⟨o.h, t2, ai, fin, vv, has⟩ : Cm).step A).1 = true then ⟨g, ls, o, v, t, 3, al, some ((⟨o.h, t2, ai, fin, vv, has⟩ : Cm).step A).1, none, t2, false⟩ else ⟨g, ls, o, v, t, 2, al, some ((⟨o.h, t2, ai, fin, vv, has⟩ : Cm).step A).1, none, t2, false⟩, ((⟨o.h, t2, ai, fin, vv, has⟩ : Cm).step A).2) := rfl
  have cs : (⟨o.h, t2, ai, fin, vv, has⟩ : Cm).step A = if has = false then (⟨o.h, t2, ai, fin, A.bA o.h (ai % au (opC o.h)), true⟩, A.ay 1) else (⟨o.h, t2, ai + 1, fin, vv, false⟩, A.bW t2 (ai % au (opC t2)) vv) := by
    have : (⟨o.h, t2, ai, fin, vv, has⟩ : Cm).step A = if fin ≤ ai then (⟨o.h, t2, ai, fin, vv, has⟩, A) else if has = false then (⟨o.h, t2, ai, fin, A.bA o.h (dB o.h ai), true⟩, A.gp o.h (dB o.h ai)) else (⟨o.h, t2, w64 (ai + 1), fin, vv, false⟩, A.bW t2 (dB t2 ai) vv) := rfl
    rw [this, if_neg (by omega), jA hs0, jA hn0, rF (Ac hs0), tk1, aE (x := ai + 1) (by omega) (by omega)]
  cases has with
  | false =>
    rw [if_pos rfl] at cs
    rw [cs] at st
    have hf : mCp.fin (⟨o.h, t2, ai, fin, A.bA o.h (ai % au (opC o.h)), true⟩ : Cm) = false := decide_eq_false (by show ¬ fin ≤ ai; omega)
    rw [hf, if_neg (by decide)] at st
    refine ⟨_, _, st, E.read rfl E.ob (by rw [eB]; exact .u2 v t t2 al _ hb ht ⟨(nM A 1 _).trans N.st, N.cl, N.ne, N.c3, N.sz⟩ ⟨rfl, rfl, rfl⟩ ha (fun j j0 j1 j2 => (jD A 1 _ _).trans (hC j j0 j1 j2)) (fun _ h => E.x.ld ai h ha.2)) .same, .inr ⟨_, rfl, rfl, .inl ⟨rfl, rfl, rfl, rfl⟩⟩⟩
  | true =>
    rw [if_neg (by decide)] at cs
    rw [cs] at st
    have hi : A.fZ t2 (ai % au (opC t2)) := Ac hn0
    have hv : T ≤ ai → vv = val ai := hv rfl
    obtain ⟨Q, rf⟩ := E.z.LM (v := vv) hi
    have Z := E.z.qz Q E.hU
    have ld : ∀ k j, A.stF k ≠ 0 → (A.bW t2 (ai % au (opC t2)) vv).bA k (j % au (opC k)) = if k = t2 ∧ j % au (opC k) = ai % au (opC t2) then vv else A.bA k (j % au (opC k)) := fun k j hk => FK (S := S) (p := g.pl) (w := g.w) (m := m) E.wf E.z.sl hi (Ac hk)
    have ldh : ∀ j, (A.bW t2 (ai % au (opC t2)) vv).bA o.h (j % au (opC o.h)) = A.bA o.h (j % au (opC o.h)) := fun j => by rw [ld _ _ hs0, if_neg (fun h => N.ne h.1.symm)]
    have X : DX (A.bW t2 (ai % au (opC t2)) vv) at_ o.h T fin val := ⟨(rf _).trans E.x.r0, (rf _).trans E.x.r2, (Q.st _).trans hs, tb, E.x.rm, fun j a c => (ldh j).trans (E.x.ld j a c)⟩
    have hC' : Cpd (A.bW t2 (ai % au (opC t2)) vv) val t2 t T (ai + 1) := fun j j0 j1 j2 => by
      rw [ld _ _ hn0]
      by_cases e : j = ai
      · subst e
        rw [if_pos ⟨rfl, rfl⟩]; exact hv j1
      · rw [if_neg (fun h => BF (n := au (opC t2)) (i := j) (j := ai) (by omega) (by omega) (by omega) h.2)]
        exact hC j j0 j1 (show j < ai by omega)
    have D := E.oth Q (fun i _ => rf i) (Int.le_refl T) (.inl (Int.le_refl fin)) (val' := val) (fun x x0 x1 x2 nz' C e => by
      rw [ld _ _ nz']
      by_cases h : x.h = t2 ∧ x.t % au (opC x.h) = ai % au (opC t2)
      · rw [if_pos h]
        have e : x.t = T := e
        obtain ⟨h1, h2⟩ := h
        rw [h1] at h2
        have e4 : x.t = ai := by
          rcases Int.lt_trichotomy x.t ai with h | h | h
          · exact (BF (n := au (opC t2)) (by omega) h (by omega) h2).elim
          · exact h
          · exact (BF (n := au (opC t2)) (by omega) h (by omega) h2.symm).elim
        rw [hv (by omega), ← e4, e]
      · rw [if_neg h]; exact C e) (fun _ _ => rfl)
    by_cases hf : fin ≤ ai + 1
    · have hF : mCp.fin (⟨o.h, t2, ai + 1, fin, vv, false⟩ : Cm) = true := decide_eq_true hf
      have ef : ai + 1 = fin := by omega
      rw [hF, if_pos rfl] at st
      refine ⟨_, _, st, ⟨Z, X, (rf _).trans E.b, ?_, E.ob, Q.us, .same, D⟩, .inl rfl⟩
      rw [eB]
      exact .u3 v t t2 al _ hb ht ⟨(Q.st _).trans N.st, N.cl, N.ne, N.c3, N.sz⟩ (by rw [ef] at hC'; exact hC')
    · have hF : mCp.fin (⟨o.h, t2, ai + 1, fin, vv, false⟩ : Cm) = false := decide_eq_false hf
      rw [hF, if_neg (by decide)] at st
      refine ⟨_, _, st, ⟨Z, X, (rf _).trans E.b, ?_, E.ob, Q.us, .same, D⟩, .inr ⟨_, rfl, rfl, .inr ⟨rfl, rfl, rfl⟩⟩⟩
      rw [eB]
      exact .u2 v t t2 al _ hb ht ⟨(Q.st _).trans N.st, N.cl, N.ne, N.c3, N.sz⟩ ⟨rfl, rfl, rfl⟩ ⟨by show t ≤ ai + 1; omega, by show ai + 1 < fin; omega⟩ hC' (fun h => (by cases h))
end
section
variable {A B : Ar} {g : Gd} {m at_ U T O Bw T' O' b h v t now : Int} {S S' : Sg} {ph ph' : Oph} {val val' : Int → Int} {ls ls' : Int → List (Int × Int)} {lim' : List (Int × Int)} {o : DOw} {hand : List Int} {al : Option Al} {cp : Option Cm}
theorem K6 {ls : Int → List (Int × Int)} {k h0 : Int} {y : Lk} (h : kE g ls k h0 = some y) : y.ls = kd ls k (ls k ++ [(h0, 0)]) := by
  unfold kE at h
  split at h
  · cases h; rfl
  · split at h
    · cases h; rfl
    · cases h
theorem KD (E : OC A g m S at_ .no ls T O val o Bw U) (eB : Bw = O) (hb : o.b = O) (ht : 0 ≤ t ∧ t ≤ T) (N : Nw A o.h now t O) (hC : Cpd A val now t T O) :
    ∃ x' B ph' ls', Ps.step ⟨g, ls, o, v, t, 3, al, cp, none, now, false⟩ A = (x', B) ∧ OwS A g m at_ .no ls T O val [v] U B S ph' ls' T O val x'.o (.push x') Bw [v] ∧ (x'.what = 5 ∨ ∃ y, x'.what = 4 ∧ x'.old = some y ∧ kE g ls 0 o.h = some y) := by
  obtain ⟨at', wk, b, h, pl⟩ := o
  obtain ⟨e1, e2, e3⟩ := E.ob
  have e1 : at' = at_ := e1
  have e2 : wk = 0 := e2
  have e3 : pl = g.pl := e3
  have hb : b = O := hb
  subst e1; subst e2; subst e3; subst hb
  have N : Nw A h now t b := N
  have hs : A.stF h = 1 := E.x.hs
  have tb := E.x.tb
  have u0 := E.z.sl.F.us
  have cn := E.z.cn
  have sz := jx h
  have sn := jx now
  have nz := N.sz
  have s2 : au (opC h) * 2 = au (opC now) := by
    rw [N.cl]
    have oc := fk h
    have := N.c3
    have h3 : opC h = 0 ∨ opC h = 1 ∨ opC h = 2 := by omega
    rcases h3 with h | h | h <;> rw [h] <;> rfl
  obtain ⟨Q, Z, wd, rf, lf⟩ := E.word (k := 2) (v := now) (by decide) (by decide)
  have d2 := (E.rk (k := 2) (by decide) (by decide)).2.2.2.1
  have d1 := (E.rk (k := 1) (by decide) (by decide)).2.2.2.1
  have d0 := (E.rk (k := 0) (by decide) (by decide)).2.2.2.1
  have D1 := E.MI Q (fun i hi => by rw [rf, if_neg (by omega)]) (fun h j _ => lf h j)
  have qu := Q.us
  obtain ⟨Z2, w2, u2, r2, st2, pin2, prt2⟩ := Z.ret (rQ E.wf _ _) (ls := ls) (h0 := h) rfl ((Q.st _).trans hs) (by omega) ⟨by rw [Q.nR]; omega, by rw [Q.nL]; omega⟩
  have st : Ps.step ⟨g, ls, ⟨at', 0, b, h, g.pl⟩, v, t, 3, al, cp, none, now, false⟩ A = (⟨g, kd ls 0 (ls 0 ++ [(h, 0)]), ⟨at', 0, b, now, g.pl⟩, v, t, if (kE g ls 0 h).isNone = true then 5 else 4, al, cp, kE g ls 0 h, now, false⟩, (A.aL (dw at' 0 2) now).aW h) := rfl
  have sN : ((A.aL (dw at' 0 2) now).aW h).stF now = 1 := by rw [st2, if_neg N.ne, Q.st]; exact N.st
  have X : DX ((A.aL (dw at' 0 2) now).aW h) at' now T b val := by
    refine ⟨?_, ?_, sN, tb, by omega, fun j j0 j1 => ?_⟩
    · rw [r2, rf, if_neg (by omega)]; exact E.x.r0
    · rw [r2, rf, if_pos rfl]
    · rw [wY w2 (by rw [Q.st, N.st]; decide) (by rw [sN]; decide), lf]
      exact hC j (by omega) j0 j1
  have b' : ((A.aL (dw at' 0 2) now).aW h).ao (dw at' 0 1) = Bw := by rw [r2, rf, if_neg (by omega)]; exact E.b
  have hl : kd ls 0 (ls 0 ++ [(h, 0)]) 0 = ls 0 ++ [(h, 0)] := iW _ _ _
  have D : ∀ r P z, 1 ≤ r → r < g.w → TmP A g at' .no (ls 0) T b val r P z → TmP ((A.aL (dw at' 0 2) now).aW h) g at' (phR (kE g ls 0 h)) (ls 0 ++ [(h, 0)]) T b val r P z := fun r P z r0 r1 D' =>
    (D1 r P z r0 r1 D').mv (Int.le_refl _) (.inl (Int.le_refl _)) (fun he D => pin2 r P (by omega) r1 he D) (fun k hp D => prt2 r P k (by omega) r1 hp D) (fun x _ _ _ hp D C e => (wY w2 D.nz (prt2 r P x.h (by omega) r1 hp D).nz).trans (C e)) (fun _ => r2 _) (fun _ => r2 _) (fun _ _ => rfl)
  have hll : (kd ls 0 (ls 0 ++ [(h, 0)]) 0).length ≤ 200 := by
    rw [hl, List.length_append]
    have : Lm A (ls 0) := E.z.ph
    have := this.len E.z.sl E.z.lay.mb.2
    show (ls 0).length + 1 ≤ 200; omega
  cases hm : kE g ls 0 h with
  | none =>
    rw [hm] at st Z2 D
    refine ⟨_, _, .no, kd ls 0 (ls 0 ++ [(h, 0)]), st, ⟨by rw [hl]; exact Z2, X, b', ?_, ⟨rfl, rfl, rfl⟩, u2.trans qu, .same, fun r P z r0 r1 D' => by rw [hl]; exact D r P z r0 r1 D'⟩, .inl rfl⟩
    rw [eB]
    exact .u5 v t now al cp rfl (by show b - T < au (opC now); omega)
  | some y =>
    have hy := K6 hm
    rw [hm] at st Z2 D
    refine ⟨_, _, .lk y, kd ls 0 (ls 0 ++ [(h, 0)]), st, ⟨by rw [hl]; exact Z2, X, b', ?_, ⟨rfl, rfl, rfl⟩, u2.trans qu, .same, fun r P z r0 r1 D' => by rw [hl]; exact D r P z r0 r1 D'⟩, .inr ⟨y, rfl, rfl, rfl⟩⟩
    rw [eB]
    exact .u4 v t now al cp _ y rfl (by show b - T < au (opC now); omega) hy hll
theorem KO {lx : Int → List (Int × Int)} {y : Lk} (E : OC A g m S at_ (.lk y) ls T O val o Bw U) (eB : Bw = O) (hb : o.b = O) (hr : O - T < au (opC o.h)) (hy : y.ls = ls) (hl : (lx 0).length ≤ 200) :
    ∃ x' B S' ph' ls', Ps.step ⟨g, lx, o, v, t, 4, al, cp, some y, now, false⟩ A = (x', B) ∧ y.inv A ∧ OwS A g m at_ (.lk y) ls T O val [v] U B S' ph' ls' T O val x'.o (.push x') Bw [v] ∧ (((y.step A).1.fin = true ∧ x'.what = 5) ∨ ((y.step A).1.fin = false ∧ x'.what = 4 ∧ x'.old = some (y.step A).1 ∧ B = (y.step A).2)) := by
  obtain ⟨S', lim', iv, Q, hl'⟩ := E.z.lkS E.wf E.hU
  obtain ⟨Z, X, b', D⟩ := E.oe (ls' := (y.step A).1.ls) Q hl'
  have st : Ps.step ⟨g, lx, o, v, t, 4, al, cp, some y, now, false⟩ A = (if (y.step A).1.fin = true then ⟨g, (y.step A).1.ls, o, v, t, 5, al, cp, none, now, false⟩ else ⟨g, lx, o, v, t, 4, al, cp, some (y.step A).1, now, false⟩, (y.step A).2) := rfl
  unfold nph at Z D
  cases hf : (y.step A).1.fin with
  | true =>
    rw [hf, if_pos rfl] at st Z D
    exact ⟨_, _, S', .no, _, st, iv, ⟨Z, X, b', by rw [eB]; exact .u5 v t now al cp hb hr, E.ob, Q.us, .same, D⟩, .inl ⟨rfl, rfl⟩⟩
  | false =>
    rw [hf, if_neg (by decide)] at st Z D
    exact ⟨_, _, S', .lk _, _, st, iv, ⟨Z, X, b', by rw [eB]; exact .u4 v t now al cp lx _ hb hr rfl hl, E.ob, Q.us, .same, D⟩, .inr ⟨rfl, rfl, rfl, rfl⟩⟩
theorem KT (E : OC A g m S at_ .no ls T O val o Bw U) (eB : Bw = O) (hb : o.b = O) (hr : O - T < au (opC o.h)) :
    ∃ x' B, Ps.step ⟨g, ls, o, v, t, 5, al, cp, none, now, false⟩ A = (x', B) ∧ OwS A g m at_ .no ls T O val [v] U B S .no ls T O val x'.o (.push x') Bw [v] ∧ x'.what = 6 := by
  have tb := E.x.tb
  have hs := E.x.hs
  have hs0 : A.stF o.h ≠ 0 := by rw [hs]; decide
  have sz := jx o.h
  have hi : A.fZ o.h (O % au (opC o.h)) := Ac hs0
  obtain ⟨Q, rf⟩ := E.z.LM (v := v) hi
  have ld : ∀ k j, A.stF k ≠ 0 → (A.bW o.h (O % au (opC o.h)) v).bA k (j % au (opC k)) = if k = o.h ∧ j % au (opC k) = O % au (opC o.h) then v else A.bA k (j % au (opC k)) := fun k j hk => FK (S := S) (p := g.pl) (w := g.w) (m := m) E.wf E.z.sl hi (Ac hk)
  have st : Ps.step ⟨g, ls, o, v, t, 5, al, cp, none, now, false⟩ A = (⟨g, ls, o, v, t, 6, al, cp, none, now, false⟩, A.bW o.h (dB o.h o.b) v) := rfl
  rw [jA hs0, hb] at st
  have ne : ∀ j, T ≤ j → j < O → j % au (opC o.h) ≠ O % au (opC o.h) := fun j j0 j1 => BF (by omega) j1 (by omega)
  refine ⟨_, _, st, ⟨E.z.qz Q E.hU, ⟨(rf _).trans E.x.r0, (rf _).trans E.x.r2, (Q.st _).trans hs, tb, E.x.rm, fun j a c => ?_⟩, (rf _).trans E.b, ?_, E.ob, Q.us, .same, ?_⟩, rfl⟩
  · rw [ld _ _ hs0, if_neg (fun h => ne j a c h.2)]; exact E.x.ld j a c
  · rw [eB]
    exact .u6 v t now al cp hb hr (by rw [ld _ _ hs0, if_pos ⟨rfl, rfl⟩])
  · refine E.oth Q (fun i _ => rf i) (Int.le_refl T) (.inl (Int.le_refl O)) (fun x x0 x1 x2 nz C e => ?_) (fun _ _ => rfl)
    have e' : x.t = T := e
    rw [ld _ _ nz, if_neg (fun h => ?_)]
    · exact C e
    · obtain ⟨h1, h2⟩ := h
      rw [h1] at h2
      exact ne x.t (by omega) x2 h2
theorem Lz (E : OC A g m S at_ .no ls T O val o Bw U) (eB : Bw = O) (hb : o.b = O) (hr : O - T < au (opC o.h)) (hv : A.bA o.h (O % au (opC o.h)) = v) :
    ∃ x' B val', Ps.step ⟨g, ls, o, v, t, 6, al, cp, none, now, false⟩ A = (x', B) ∧ OwS A g m at_ .no ls T O val [v] U B S .no ls T (O + 1) val' x'.o (.push x') (O + 1) [] ∧ x'.what = 7 ∧ x'.bS = true := by
  obtain ⟨at', wk, b, h, pl⟩ := o
  obtain ⟨e1, e2, e3⟩ := E.ob
  have e1 : at' = at_ := e1
  have e2 : wk = 0 := e2
  have e3 : pl = g.pl := e3
  have hb : b = O := hb
  subst e1; subst e2; subst e3; subst hb
  have tb := E.x.tb
  have o2 := E.O2
  have hr : b - T < au (opC h) := hr
  obtain ⟨Q, Z, wd, rf, lf⟩ := E.word (k := 1) (v := b + 1) (by decide) (by decide)
  have d2 := (E.rk (k := 2) (by decide) (by decide)).2.2.2.1
  have d1 := (E.rk (k := 1) (by decide) (by decide)).2.2.2.1
  have d0 := (E.rk (k := 0) (by decide) (by decide)).2.2.2.1
  have st : Ps.step ⟨g, ls, ⟨at', 0, b, h, g.pl⟩, v, t, 6, al, cp, none, now, false⟩ A = (⟨g, ls, ⟨at', 0, w64 (b + 1), h, g.pl⟩, v, t, 7, al, cp, none, now, true⟩, A.aL (dw at' 0 1) (w64 (b + 1))) := rfl
  rw [aE (x := b + 1) (by omega) (by omega)] at st
  have x0 : A.ao (dw at' 0 0) = T := E.x.r0
  have x2 : A.ao (dw at' 0 2) = h := E.x.r2
  have xs : A.stF h = 1 := E.x.hs
  refine ⟨_, _, fun j => if j = b then v else val j, st, ⟨Z, ⟨?_, ?_, (Q.st _).trans xs, ⟨tb.1, by omega, by omega⟩, by show b + 1 - T ≤ au (opC h); omega, fun j a c => ?_⟩, ?_, .u7 v t now al cp true rfl, ⟨rfl, rfl, rfl⟩, Q.us, .bS v, ?_⟩, rfl, rfl⟩
  · rw [rf, if_neg (by omega)]; exact x0
  · rw [rf, if_neg (by omega)]; exact x2
  · show (A.aL (dw at' 0 1) (b + 1)).bA h (j % au (opC h)) = if j = b then v else val j
    rw [lf]
    by_cases e : j = b
    · rw [if_pos e, e]; exact hv
    · rw [if_neg e]; exact E.x.ld j a (by omega)
  · rw [rf, if_pos rfl]
  · refine E.oth Q (fun i hi => by rw [rf, if_neg (by omega)]) (Int.le_refl T) (.inl (by omega)) (fun x y0 y1 y2 nz C e => ?_) (fun j hj => if_neg (by omega))
    rw [lf]
    have e' : x.t = T := e
    show _ = if T = b then v else val T
    rw [if_neg (by omega)]
    exact C e
end
def ppm (x : Pp) : Nat := if x.what = 0 then 5 else if x.what = 1 then 4 else if x.what = 2 then 3 else if x.what = 3 then 2 else if x.what = 4 then 1 else 0
section
variable {A B : Ar} {g : Gd} {m at_ U T O Bw T' O' b h v t now : Int} {S S' : Sg} {ph ph' : Oph} {val val' : Int → Int} {ls ls' : Int → List (Int × Int)} {o : DOw} {hand : List Int} {al : Option Al} {cp : Option Cm} {ok : Bool}
theorem OC.bot (E : OC A g m S at_ .no ls T O val o Bw U) {n : Int} {ow' : OwM} {hand' : List Int} (W : OwI (A.aL (dw at_ 0 1) n) g ls T O val ⟨at_, 0, n, o.h, g.pl⟩ ow' .no n hand') (ch : Chg T O val hand T O val hand') :
    OwS A g m at_ .no ls T O val hand U (A.aL (dw at_ 0 1) n) S .no ls T O val ⟨at_, 0, n, o.h, g.pl⟩ ow' n hand' := by
  obtain ⟨Q, Z, wd, rf, lf⟩ := E.word (k := 1) (v := n) (by decide) (by decide)
  have d2 := (E.rk (k := 2) (by decide) (by decide)).2.2.2.1
  have d1 := (E.rk (k := 1) (by decide) (by decide)).2.2.2.1
  have d0 := (E.rk (k := 0) (by decide) (by decide)).2.2.2.1
  refine ⟨Z, E.x.mv ?_ ?_ ((Q.st _).trans E.x.hs) (fun j => lf _ _), by rw [rf, if_pos rfl], W, ⟨rfl, rfl, rfl⟩, Q.us, ch, E.MI Q (fun i hi => by rw [rf, if_neg (by omega)]) fun h j _ => lf h j⟩
  · rw [rf, if_neg (by omega)]; exact E.x.r0
  · rw [rf, if_neg (by omega)]; exact E.x.r2
structure PoT (A : Ar) (g : Gd) (m : Int) (S : Sg) (at_ : Int) (ls : Int → List (Int × Int)) (T O : Int) (val : Int → Int) (hand : List Int) (U : Int) (x x' : Pp) (B : Ar) (T' O' Bw' : Int) (hand' : List Int) : Prop where
  st : Pp.step x A = (x', B)
  s : OwS A g m at_ .no ls T O val hand U B S .no ls T' O' val x'.o (.pop x') Bw' hand'
  mu : ppm x' < ppm x
  le : O' ≤ O
theorem Nl (E : OC A g m S at_ .no ls T O val o Bw U) (hb : o.b = O) : ∃ x' B Bw', PoT A g m S at_ ls T O val [] U ⟨o, 0, 0, 0, false⟩ x' B T O Bw' [] := by
  have tb := E.x.tb
  have st : Pp.step ⟨o, 0, 0, 0, false⟩ A = (⟨{ o with b := w64 (o.b - 1) }, 0, 1, 0, false⟩, A.aL (dw o.at_ o.work 1) (w64 (o.b - 1))) := rfl
  rw [E.ob.a, E.ob.w, hb, aE (x := O - 1) (by omega) (by omega), E.ob.p] at st
  exact ⟨_, _, O - 1, st, E.bot (.p1 rfl) .same, by show 4 < 5; decide, Int.le_refl _⟩
theorem Nt (E : OC A g m S at_ .no ls T O val o Bw U) (hb : o.b = O - 1) (eB : Bw = O - 1) : ∃ x' B O' hand', PoT A g m S at_ ls T O val [] U ⟨o, 0, 1, 0, false⟩ x' B T O' Bw hand' := by
  have tb := E.x.tb
  have r5 := (E.rk (k := 0) (by decide) (by decide)).2.2.2.2
  have st : Pp.step ⟨o, 0, 1, 0, false⟩ A = (⟨o, A.ao (dw o.at_ o.work 0), if o.b < A.ao (dw o.at_ o.work 0) then 4 else 2, 0, false⟩, A.aV (dw o.at_ o.work 0)) := rfl
  rw [E.ob.a, E.ob.w, hb, E.x.r0, r5] at st
  by_cases h1 : O - 1 < T
  · rw [if_pos h1] at st
    exact ⟨_, _, O, [], st, E.read rfl E.ob (by rw [eB]; exact .p4 T 0 false hb (by omega)) .same, by show 1 < 4; decide, Int.le_refl _⟩
  · rw [if_neg h1] at st
    by_cases h2 : T < O - 1
    · obtain ⟨Q, Z, X, b', D⟩ := E.ay
      refine ⟨_, _, O - 1, [val (O - 1)], st, ⟨Z, ⟨X.r0, X.r2, X.hs, ⟨tb.1, by omega, by omega⟩, by have := X.rm; show O - 1 - T ≤ au (opC o.h); omega, fun j a c => X.ld j a (by omega)⟩, b', ?_, E.ob, rfl, .claim h2, ?_⟩, by show 3 < 4; decide, by omega⟩
      · rw [eB]
        exact .p2a T _ hb h2 (X.ld (O - 1) (by omega) (by omega))
      · exact E.oth Q (fun _ _ => rfl) (Int.le_refl _) (.inr h2) (fun x _ _ _ nz C e => (jD A 1 _ _).trans (C e)) (fun _ _ => rfl)
    · have e : T = O - 1 := by omega
      refine ⟨_, _, O, [], st, E.read rfl E.ob ?_ .same, by show 3 < 4; decide, Int.le_refl _⟩
      rw [eB]
      have := OwI.p2b (A := A.ay 1) (g := g) (ls := ls) (T := T) (O := O) (val := val) (o := o) hb (by omega)
      rw [← e] at this ⊢; exact this
theorem Lq {u : Int} (E : OC A g m S at_ .no ls T O val o Bw U) (eB : Bw = O) (hb : o.b = O) (ht : t < O) (hv : A.bA o.h (O % au (opC o.h)) = u) : ∃ x' B, PoT A g m S at_ ls T O val [u] U ⟨o, t, 2, 0, false⟩ x' B T O Bw [u] := by
  have hs0 : A.stF o.h ≠ 0 := by rw [E.x.hs]; decide
  have u0 := E.z.sl.F.us
  have us := E.z.us
  have hU := E.hU
  have tk1 : A.tick = A.ay 1 := by unfold Ar.tick Ar.ay; rw [aE (by omega) (by omega)]
  have st : Pp.step ⟨o, t, 2, 0, false⟩ A = (if t < o.b then ⟨o, t, 5, A.bA o.h (dB o.h o.b), true⟩ else ⟨o, t, 3, A.bA o.h (dB o.h o.b), false⟩, A.gp o.h (dB o.h o.b)) := rfl
  rw [hb, if_pos ht, jA hs0, hv, rF (Ac hs0), tk1] at st
  exact ⟨_, _, st, E.read rfl E.ob (by rw [eB]; exact .p5 t u true hb (fun h => (by cases h))) .same, by show 0 < 3; decide, Int.le_refl _⟩
theorem Kr (E : OC A g m S at_ .no ls T O val o Bw U) (eB : Bw = O - 1) (hb : o.b = O - 1) (ht : O - 1 ≤ T) : ∃ x' B, PoT A g m S at_ ls T O val [] U ⟨o, O - 1, 2, 0, false⟩ x' B T O Bw [] := by
  have hs0 : A.stF o.h ≠ 0 := by rw [E.x.hs]; decide
  have u0 := E.z.sl.F.us
  have us := E.z.us
  have hU := E.hU
  have tk1 : A.tick = A.ay 1 := by unfold Ar.tick Ar.ay; rw [aE (by omega) (by omega)]
  have st : Pp.step ⟨o, O - 1, 2, 0, false⟩ A = (if O - 1 < o.b then ⟨o, O - 1, 5, A.bA o.h (dB o.h o.b), true⟩ else ⟨o, O - 1, 3, A.bA o.h (dB o.h o.b), false⟩, A.gp o.h (dB o.h o.b)) := rfl
  rw [hb, if_neg (Int.lt_irrefl _), jA hs0, rF (Ac hs0), tk1] at st
  refine ⟨_, _, st, E.read rfl E.ob ?_ .same, by show 2 < 3; decide, Int.le_refl _⟩
  rw [eB]
  exact .p3 _ hb ht (fun e => by rw [← e]; exact E.x.ld T (Int.le_refl _) (by omega))
theorem Mk (E : OC A g m S at_ .no ls T O val o Bw U) (eB : Bw = O - 1) (hb : o.b = O - 1) (ht : O - 1 ≤ T) (hv : T = O - 1 → v = val T) : ∃ x' B T' hand', PoT A g m S at_ ls T O val [] U ⟨o, O - 1, 3, v, false⟩ x' B T' O Bw hand' := by
  have tb := E.x.tb
  have u0 := E.z.sl.F.us
  have us := E.z.us
  have hU := E.hU
  have tk1 : A.tick = A.ay 1 := by unfold Ar.tick Ar.ay; rw [aE (by omega) (by omega)]
  obtain ⟨rk, _, _, d0, _⟩ := E.rk (k := 0) (by decide) (by decide)
  have d2 := (E.rk (k := 2) (by decide) (by decide)).2.2.2.1
  have d1 := (E.rk (k := 1) (by decide) (by decide)).2.2.2.1
  have st : Pp.step ⟨o, O - 1, 3, v, false⟩ A = (⟨o, O - 1, 4, v, A.cC (dw o.at_ o.work 0) (O - 1)⟩, A.dE (dw o.at_ o.work 0) (O - 1) (w64 (O - 1 + 1))) := rfl
  rw [E.ob.a, E.ob.w, aE (x := O - 1 + 1) (by omega) (by omega)] at st
  by_cases e : T = O - 1
  · obtain ⟨s1, s2⟩ := lZ (A := A) (i := dw at_ 0 0) (v := O - 1) (x := O - 1 + 1) rk (by rw [E.x.r0]; exact e)
    rw [s1, s2, show O - 1 + 1 = O by omega] at st
    obtain ⟨Q, Z, wd, rf, lf⟩ := E.word (k := 0) (v := O) (by decide) (by decide)
    refine ⟨_, _, O, [val T], st, ⟨Z, ⟨by rw [rf, if_pos rfl], ?_, (Q.st _).trans E.x.hs, ⟨by omega, Int.le_refl _, tb.2.2⟩, by have := jx o.h; show O - O ≤ au (opC o.h); omega, fun j a c => by omega⟩, ?_, ?_, E.ob, Q.us, .cas (by omega), ?_⟩, by show 1 < 2; decide, Int.le_refl _⟩
    · rw [rf, if_neg (by omega)]; exact E.x.r2
    · rw [rf, if_neg (by omega)]; exact E.b
    · rw [eB, ← hv e]
      exact .p4 (O - 1) v true hb rfl
    · exact E.oth Q (fun i hi => by rw [rf, if_neg (by omega)]) tb.2.1 (.inl (Int.le_refl _)) (fun x x0 x1 x2 nz C e' => by have : x.t = O := e'; omega) (fun _ _ => rfl)
  · obtain ⟨s1, s2⟩ := uY (A := A) (i := dw at_ 0 0) (v := O - 1) (w := O - 1 + 1) rk (by rw [E.x.r0]; exact e)
    rw [s1, s2, tk1] at st
    exact ⟨_, _, T, [], st, E.read rfl E.ob (by rw [eB]; exact .p4 (O - 1) v false hb (by omega)) .same, by show 1 < 2; decide, Int.le_refl _⟩
theorem Ml (E : OC A g m S at_ .no ls T O val o Bw U) (hb : o.b = O - 1) (ht : T = O) : ∃ x' B Bw', PoT A g m S at_ ls T O val (if ok = true then [v] else []) U ⟨o, t, 4, v, ok⟩ x' B T O Bw' (if ok = true then [v] else []) := by
  have tb := E.x.tb
  have st : Pp.step ⟨o, t, 4, v, ok⟩ A = (⟨{ o with b := w64 (o.b + 1) }, t, 5, v, ok⟩, A.aL (dw o.at_ o.work 1) (w64 (o.b + 1))) := rfl
  rw [E.ob.a, E.ob.w, hb, show O - 1 + 1 = O by omega, aE (x := O) (by omega) (by omega), E.ob.p] at st
  exact ⟨_, _, O, st, E.bot (.p5 t v ok rfl (fun _ => ht)) .same, by show 0 < 1; decide, Int.le_refl _⟩
theorem OwI.Ph {x : Pp} (W : OwI A g ls T O val o (.pop x) ph Bw hand) (E : OC A g m S at_ ph ls T O val o Bw U) (hk : x.what ≠ 5) : ph = .no ∧ x.o = o ∧ ∃ x' B T' O' Bw' hand', PoT A g m S at_ ls T O val hand U x x' B T' O' Bw' hand' := by
  cases W with
  | p0 a => obtain ⟨x', B, w, P⟩ := Nl E a; exact ⟨rfl, rfl, x', B, T, O, w, [], P⟩
  | p1 a => obtain ⟨x', B, O', h', P⟩ := Nt E a rfl; exact ⟨rfl, rfl, x', B, T, O', _, h', P⟩
  | p2a t u a b c => obtain ⟨x', B, P⟩ := Lq E rfl a b c; exact ⟨rfl, rfl, x', B, T, O, _, _, P⟩
  | p2b a b => obtain ⟨x', B, P⟩ := Kr E rfl a b; exact ⟨rfl, rfl, x', B, T, O, _, _, P⟩
  | p3 v a b c => obtain ⟨x', B, T', h', P⟩ := Mk E rfl a b c; exact ⟨rfl, rfl, x', B, T', O, _, h', P⟩
  | p4 t v ok a b => obtain ⟨x', B, w, P⟩ := Ml (t := t) (v := v) (ok := ok) E a b; exact ⟨rfl, rfl, x', B, T, O, w, _, P⟩
  | p5 t v ok a b => exact (hk rfl).elim
end
def qM (A : Ar) (k was a : Int) : Nat := if a = 0 then 3 else if a = 1 then (if A.ao k = was then 2 else 5) else if a = 2 then (if A.ao k = was then 1 else 4) else 0
theorem LQ (A : Ar) (k was a : Int) : qM A k was a ≤ 5 := by
  unfold qM
  repeat' split
  all_goals decide
theorem vh (A : Ar) (i j : Int) : (A.aV i).ao j = A.ao j := by unfold Ar.aV; split <;> rfl
theorem Hu (A : Ar) {i j v : Int} (h : j ≠ i) : (A.aL i v).ao j = A.ao j := by
  unfold Ar.aL
  split
  · rename_i hi
    rw [iE (A := A.tick) hi, if_neg h]; rfl
  · rfl
section
variable {A B : Ar} {p : Pl} {w m n k b ta : Int} {S S' : Sg} {ch : Int → List Int} {g : Gd} {lim : List (Int × Int)}
theorem Oi {x : Pu} (I : PuI p w n k b x A) (wb : 0 ≤ w ∧ w ≤ 1000) (nb : n ≤ 1000) (hl : p.links = 4 * w) (ok : A.bp k) (k1 : k < 4 * w) (hs : x.dP A = false) : qM (x.cX A) (x.cF A).head (x.cF A).was (x.cF A).at' < qM A x.head x.was x.at' := by
  obtain ⟨xp, xh, xw, xa, xb⟩ := x
  obtain ⟨e1, e2, e3, e4, e5, _, _⟩ := I
  have e1 : xp = p := e1
  have e2 : xh = k := e2
  have e3 : xb = b := e3
  have e5 : xa = 0 ∨ xa = 1 ∨ xa = 2 := e5
  subst e1; subst e2; subst e3
  rcases e5 with h | h | h <;> subst h
  · show (if (A.aV xh).ao xh = A.ao xh then 2 else 5) < 3
    rw [if_pos (vh _ _ _)]; decide
  · show (if (A.aL (w64 (xp.links + w64 (Int.tdiv xb 8))) (gO xw 131071)).ao xh = xw then 1 else 4) < (if A.ao xh = xw then 2 else 5)
    have : w64 (xp.links + w64 (Int.tdiv xb 8)) = 4 * w + xb / 8 := by
      rw [Int.tdiv_eq_ediv_of_nonneg e4.1, aE (x := xb / 8) (by omega) (by omega), hl, aE (by omega) (by omega)]
    rw [this, Hu _ (by omega)]
    split <;> decide
  · by_cases e : A.ao xh = xw
    · have := (lZ (x := 0) ok e).1
      have hs : A.cC xh xw = false := hs
      rw [this] at hs; cases hs
    · obtain ⟨s1, _⟩ := uY (w := 0) ok e
      have e1 : Pu.cF ⟨xp, xh, xw, 2, xb⟩ A = ⟨xp, xh, xw, 0, xb⟩ := by
        show (⟨xp, xh, xw, if A.cC xh xw = true then 3 else 0, xb⟩ : Pu) = _
        rw [s1]; rfl
      rw [e1]
      show 3 < (if A.ao xh = xw then 1 else 4)
      rw [if_neg e]; decide
def feM (A : Ar) (x : Fe) : Nat := qM A x.pu.head x.pu.was x.pu.at'
def frM (A : Ar) : List Fe → Nat
  | [] => 0
  | f :: fs => feM A f + 6 * fs.length
theorem LP {x : Fe} (I : FeI p w m 0 x A S) (X : SL A p w m S) (mb : m ≤ 700) (wb : w ≤ 1000) : 1 ≤ feM A x ∧ ((x.step A).1.done = false → feM (x.step A).2 (x.step A).1 < feM A x) := by
  obtain ⟨p1, p2, _⟩ := X.gP
  have w0 := X.wb
  have hC := fk x.h
  have hm := X.mb
  refine ⟨?_, fun hd => ?_⟩
  · have := I.pu.ph
    unfold feM qM
    rcases this with h | h | h <;> rw [h] <;> simp <;> split <;> decide
  · have hs : x.pu.dP A = false := by
      cases hb : x.pu.dP A with
      | false => rfl
      | true => unfold Fe.step at hd; rw [if_neg (by rw [I.nd]; decide), if_pos hb] at hd; cases hd
    have st : x.step A = ({ x with pu := x.pu.cF A }, x.pu.cX A) := by unfold Fe.step; rw [if_neg (by rw [I.nd]; decide), if_neg (by rw [hs]; decide)]
    rw [st]
    exact Oi I.pu ⟨by omega, wb⟩ (by omega) p2 (X.F.tS (by omega) (by omega)) (by omega) hs
theorem xX (A : Ar) (fs : List Fe) : frM A fs ≤ 6 * fs.length := by
  cases fs with
  | nil => exact Nat.le_refl _
  | cons f fs =>
    show feM A f + 6 * fs.length ≤ 6 * (fs.length + 1)
    have := LQ A f.pu.head f.pu.was f.pu.at'
    show qM A f.pu.head f.pu.was f.pu.at' + _ ≤ _
    omega
def scM (A : Ar) (x : Sc) : Nat := if x.sorted = true then frM A x.frees else (2 * x.tw - x.word).toNat + 6 * x.l.length
theorem OF {x : Sc} (I : ScI p w m ta x A S) (X : SL A p w m S) (mb : m ≤ 700) (wb : w ≤ 1000) (hf : (x.step A).1.ended = false) : scM (x.step A).2 (x.step A).1 < scM A x := by
  have tw := I.tw
  have wd := I.wd
  rcases I.st with ⟨a1, a2, a3, a4, _⟩ | ⟨a1, a2, a3, a4, _⟩
  · have st : x.step A = (if x.word + 1 = 2 * x.tw then (x.jN A).sort else x.jN A, A.aV (w64 (x.ta + x.word))) := by
      unfold Sc.step; rw [if_neg (by rw [I.en]; decide), if_pos (by omega)]
    have e0 : scM A x = (2 * x.tw - x.word).toNat + 6 * x.l.length := if_neg (by rw [a1]; decide)
    rw [st, e0]
    by_cases h : x.word + 1 = 2 * x.tw
    · rw [if_pos h]
      have e1 : scM (A.aV (w64 (x.ta + x.word))) (x.jN A).sort = frM (A.aV (w64 (x.ta + x.word))) (x.jN A).sort.frees := if_pos rfl
      rw [e1]
      have := xX (A.aV (w64 (x.ta + x.word))) (x.jN A).sort.frees
      have hl : (x.jN A).sort.frees.length ≤ x.l.length := by
        show (((x.l.take x.l.length).filter _).map _).length ≤ _
        rw [List.length_map]
        exact Nat.le_trans (List.length_filter_le _ _) (by rw [List.take_length]; exact Nat.le_refl _)
      show frM _ _ < _
      omega
    · rw [if_neg h]
      have e1 : scM (A.aV (w64 (x.ta + x.word))) (x.jN A) = (2 * x.tw - (x.word + 1)).toNat + 6 * x.l.length := if_neg (by show ¬ x.sorted = true; rw [a1]; decide)
      show scM _ (x.jN A) < _
      rw [e1]; omega
  · have e0 : scM A x = frM A x.frees := if_pos a1
    have st : x.step A = match x.frees with
      | [] => (x, A)
      | f :: fs => if (f.step A).1.done = true then ({ x with frees := fs, ended := decide (fs = []) }, (f.step A).2) else ({ x with frees := (f.step A).1 :: fs }, (f.step A).2) := by
      unfold Sc.step; rw [if_neg (by rw [I.en]; decide), if_neg (by omega)]; rfl
    rw [e0]
    cases hx : x.frees with
    | nil => exact (a3 hx).elim
    | cons f fs =>
      rw [hx] at st a4
      obtain ⟨f1, f2⟩ := LP a4.1 X mb wb
      have st : x.step A = if (f.step A).1.done = true then ({ x with frees := fs, ended := decide (fs = []) }, (f.step A).2) else ({ x with frees := (f.step A).1 :: fs }, (f.step A).2) := st
      rw [st]
      cases hd : (f.step A).1.done with
      | true =>
        rw [if_pos rfl]
        have e1 : scM (f.step A).2 { x with frees := fs, ended := decide (fs = []) } = frM (f.step A).2 fs := if_pos a1
        show scM (f.step A).2 { x with frees := fs, ended := decide (fs = []) } < feM A f + 6 * fs.length
        rw [e1]
        have := xX (f.step A).2 fs
        omega
      | false =>
        rw [if_neg (by decide)]
        have e1 : scM (f.step A).2 { x with frees := (f.step A).1 :: fs } = feM (f.step A).2 (f.step A).1 + 6 * fs.length := if_pos a1
        show scM (f.step A).2 { x with frees := (f.step A).1 :: fs } < feM A f + 6 * fs.length
        rw [e1]
        have := f2 hd
        omega
def tnM (A : Ar) (x : Tn) : Nat := if x.ph = 0 then 3 + x.tw.toNat + 6 * x.l.length else if x.ph = 1 then 2 + (x.tw - x.word).toNat + 6 * x.l.length else if x.ph = 2 then 1 + 6 * x.l.length else frM A x.frees
theorem EB (B : Ar) (x : Tn) : tnM B x.sort ≤ 6 * x.l.length := by
  have hl : x.sort.frees.length ≤ x.l.length := by
    show (((x.l.take x.l.length).filter _).map _).length ≤ _
    rw [List.length_map]
    exact Nat.le_trans (List.length_filter_le _ _) (by rw [List.take_length]; exact Nat.le_refl _)
  have hp : x.sort.ph = 3 ∨ x.sort.ph = 4 := by
    have : x.sort.ph = if (x.eN x.l.length).frees = [] then 4 else 3 := rfl
    rw [this]
    split
    · exact .inr rfl
    · exact .inl rfl
  have := xX B x.sort.frees
  unfold tnM
  rw [if_neg (by omega), if_neg (by omega), if_neg (by omega)]
  omega
theorem LX {x : Tn} (I : TnI p w m ta x A S) (X : SL A p w m S) (mb : m ≤ 700) (wb : 1 ≤ w ∧ w ≤ 1000) (hf : (x.step A).1.ph < 4) : tnM (x.step A).2 (x.step A).1 < tnM A x := by
  obtain ⟨xw, xt, xp, xk, xe, xd, xl, xf, xz, xh⟩ := x
  have tw : xw = w := I.htw
  subst tw
  rcases I.st with ⟨a1, a2, a3, _, _, a6, _, a8⟩ | ⟨a1, a2, a3, _⟩
  · have a1 : xh ≤ 2 := a1
    have a6 : xh ≤ 1 → 0 ≤ xd ∧ xd < xw := a6
    have a8 : xh = 0 → xd = 0 := a8
    by_cases h0 : xh = 0
    · subst h0
      have d0 := a8 rfl
      subst d0
      have st : Tn.step ⟨xw, xt, xp, xk, xe, 0, xl, xf, xz, 0⟩ A = (⟨xw, xt, xp, xk, A.ao xt, 0, xl, xf, xz, if xw < 1 then 2 else 1⟩, A.aV xt) := if_pos rfl
      rw [if_neg (by omega)] at st
      rw [st]
      show 2 + (xw - 0).toNat + 6 * xl.length < 3 + xw.toNat + 6 * xl.length
      omega
    · by_cases h1 : xh = 1
      · subst h1
        have d0 := a6 (by decide)
        have st : Tn.step ⟨xw, xt, xp, xk, xe, xd, xl, xf, xz, 1⟩ A = (if A.ao (ewd xt xd) ≠ 0 ∧ A.ao (ewd xt xd) ≠ w64 (xe + 1) then Tn.sort ⟨xw, xt, xp, xk, xe, w64 (xd + 1), xl, xf, xz, 1⟩
          else ⟨xw, xt, xp, xk, xe, w64 (xd + 1), xl, xf, xz, if w64 (xd + 1) = xw then 2 else 1⟩, A.aV (ewd xt xd)) := rfl
        rw [st, aE (x := xd + 1) (by omega) (by omega)]
        have e0 : tnM A ⟨xw, xt, xp, xk, xe, xd, xl, xf, xz, 1⟩ = 2 + (xw - xd).toNat + 6 * xl.length := rfl
        rw [e0]
        split
        · have := EB (A.aV (ewd xt xd)) ⟨xw, xt, xp, xk, xe, xd + 1, xl, xf, xz, 1⟩
          have this : tnM (A.aV (ewd xt xd)) (Tn.sort ⟨xw, xt, xp, xk, xe, xd + 1, xl, xf, xz, 1⟩) ≤ 6 * xl.length := this
          show tnM (A.aV (ewd xt xd)) (Tn.sort ⟨xw, xt, xp, xk, xe, xd + 1, xl, xf, xz, 1⟩) < _
          omega
        · by_cases hw : xd + 1 = xw
          · rw [if_pos hw]
            show 1 + 6 * xl.length < _
            omega
          · rw [if_neg hw]
            show 2 + (xw - (xd + 1)).toNat + 6 * xl.length < _
            omega
      · have h2 : xh = 2 := by
          have := I.nf
          have hn : ¬ xh < 0 := fun h => by
            have st : Tn.step ⟨xw, xt, xp, xk, xe, xd, xl, xf, xz, xh⟩ A = (⟨xw, xt, xp, xk, xe, xd, xl, xf, xz, xh⟩, A) := by
              unfold Tn.step; rw [if_neg h0, if_neg h1, if_neg (by show ¬ xh = 2; omega), if_neg (by show ¬ xh = 3; omega)]
            exact absurd h (by omega)
          omega
        subst h2
        have st : Tn.step ⟨xw, xt, xp, xk, xe, xd, xl, xf, xz, 2⟩ A = ((if A.cC xt xe = true then Tn.sort ⟨xw, xt, xp, xk, w64 (xe + 1), xd, xl, xf, xz, 2⟩ else Tn.sort ⟨xw, xt, xp, xk, xe, xd, xl, xf, xz, 2⟩), A.dE xt xe (w64 (xe + 1))) := rfl
        rw [st]
        have e0 : tnM A ⟨xw, xt, xp, xk, xe, xd, xl, xf, xz, 2⟩ = 1 + 6 * xl.length := rfl
        rw [e0]
        have t1 : tnM (A.dE xt xe (w64 (xe + 1))) (Tn.sort ⟨xw, xt, xp, xk, w64 (xe + 1), xd, xl, xf, xz, 2⟩) ≤ 6 * xl.length := EB _ _
        have t2 : tnM (A.dE xt xe (w64 (xe + 1))) (Tn.sort ⟨xw, xt, xp, xk, xe, xd, xl, xf, xz, 2⟩) ≤ 6 * xl.length := EB _ _
        split
        · show tnM (A.dE xt xe (w64 (xe + 1))) (Tn.sort ⟨xw, xt, xp, xk, w64 (xe + 1), xd, xl, xf, xz, 2⟩) < _
          omega
        · show tnM (A.dE xt xe (w64 (xe + 1))) (Tn.sort ⟨xw, xt, xp, xk, xe, xd, xl, xf, xz, 2⟩) < _
          omega
  · have a1 : xh = 3 := a1
    subst a1
    have a2 : xf ≠ [] := a2
    have a3 : C6 p xw m A S xf := a3
    cases xf with
    | nil => exact (a2 rfl).elim
    | cons f fs =>
      obtain ⟨f1, f2⟩ := LP a3.1 X mb wb.2
      have st : Tn.step ⟨xw, xt, xp, xk, xe, xd, xl, f :: fs, xz, 3⟩ A = if (f.step A).1.done = true then (⟨xw, xt, xp, xk, xe, xd, xl, fs, xz, if fs = [] then 4 else 3⟩, (f.step A).2) else (⟨xw, xt, xp, xk, xe, xd, xl, (f.step A).1 :: fs, xz, 3⟩, (f.step A).2) := rfl
      have e0 : tnM A ⟨xw, xt, xp, xk, xe, xd, xl, f :: fs, xz, 3⟩ = feM A f + 6 * fs.length := rfl
      rw [st] at hf ⊢
      rw [e0]
      cases hd : (f.step A).1.done with
      | true =>
        rw [hd, if_pos rfl] at hf
        rw [if_pos rfl]
        have hn : fs ≠ [] := fun e => by
          dsimp only at hf
          rw [if_pos e] at hf
          omega
        rw [if_neg hn]
        have := xX (f.step A).2 fs
        show frM (f.step A).2 fs < _
        omega
      | false =>
        rw [if_neg (by decide)]
        have := f2 hd
        show feM (f.step A).2 (f.step A).1 + 6 * fs.length < _
        omega
def inM (A : Ar) : In → Nat
  | .no => 0
  | .sc x => scM A x
  | .tn x => tnM A x
def lkM (A : Ar) (y : Lk) : Nat := (if y.first = true then 1 else 0) + 2000 * y.times.toNat + inM A y.m
theorem Oc {y : Lk} {at_ : Int} (I : LkI g m A S lim y) (X : SL A g.pl g.w m S) (L : Lay A g m at_) (hf : (y.step A).1.fin = false) : lkM (y.step A).2 (y.step A).1 < lkM A y := by
  have wb := L.wb
  have mb := L.mb
  obtain ⟨yg, wk, hls, tb, ll, im⟩ := I
  obtain ⟨gy, ls, work, first, times, mm⟩ := y
  have yg : gy = g := yg
  have wk : work = 0 := wk
  have hl0 : ls 0 = lim := hls
  have tb : 0 ≤ times ∧ times ≤ 1 := tb
  subst yg; subst wk
  have wb' : gy.w ≤ 1000 := by omega
  have inn : ∀ {ls : Int → List (Int × Int)} {mm : In}, (mm.step A).1.fin = false ∨ Lk.fin (Lk.end_ ⟨gy, ls, 0, false, 0, (mm.step A).1⟩) = true := fun {ls mm} => .inr rfl
  have md : ∀ {mm : In} {x : Nat}, (Lk.mid ⟨gy, ls, 0, false, 0, mm⟩ A).1.fin = false → ((mm.step A).1.fin = false → inM (mm.step A).2 (mm.step A).1 < x) → lkM (Lk.mid ⟨gy, ls, 0, false, 0, mm⟩ A).2 (Lk.mid ⟨gy, ls, 0, false, 0, mm⟩ A).1 < x := fun {mm x} h1 h2 => by
    have e : Lk.mid ⟨gy, ls, 0, false, 0, mm⟩ A = (if (mm.step A).1.fin = true then Lk.end_ ⟨gy, ls, 0, false, 0, (mm.step A).1⟩ else ⟨gy, ls, 0, false, 0, (mm.step A).1⟩, (mm.step A).2) := rfl
    rw [e] at h1 ⊢
    cases hd : (mm.step A).1.fin with
    | true => rw [hd, if_pos rfl] at h1; cases h1
    | false =>
      rw [if_neg (by decide)]
      have := h2 hd
      show 0 + 2000 * 0 + inM (mm.step A).2 (mm.step A).1 < x
      omega
  cases mm with
  | sc x =>
    obtain ⟨e1, e2, _, sI⟩ : first = false ∧ times = 0 ∧ gy.ep = false ∧ ScI gy.pl gy.w m gy.ta x A S := im
    subst e1; subst e2
    have st : Lk.step ⟨gy, ls, 0, false, 0, .sc x⟩ A = Lk.mid ⟨gy, ls, 0, false, 0, .sc x⟩ A := rfl
    rw [st] at hf ⊢
    exact md hf fun h => by
      have := OF sI X mb.2 wb' h
      show scM _ _ < 0 + 2000 * 0 + scM A x
      show scM (x.step A).2 (x.step A).1 < _
      omega
  | tn x =>
    obtain ⟨e1, e2, _, tI⟩ : first = false ∧ times = 0 ∧ gy.ep = true ∧ TnI gy.pl gy.w m gy.ta x A S := im
    subst e1; subst e2
    have st : Lk.step ⟨gy, ls, 0, false, 0, .tn x⟩ A = Lk.mid ⟨gy, ls, 0, false, 0, .tn x⟩ A := rfl
    rw [st] at hf ⊢
    exact md hf fun h => by
      have h : decide (4 ≤ (x.step A).1.ph) = false := h
      have := LX tI X mb.2 ⟨by omega, wb'⟩ (by have := of_decide_eq_false h; omega)
      show tnM (x.step A).2 (x.step A).1 < 0 + 2000 * 0 + tnM A x
      omega
  | no =>
    obtain ⟨lm, i1, i2⟩ : Lm A lim ∧ (first = true → gy.ep = true ∧ lim ≠ []) ∧ (first = false → times = 1 ∧ gy.ep = true) := im
    cases first with
    | true =>
      show 0 + 2000 * times.toNat + 0 < 1 + 2000 * times.toNat + 0
      omega
    | false =>
      obtain ⟨e1, he⟩ := i2 rfl
      subst e1
      have l88 := lm.len X mb.2
      have bg : Lk.begin ⟨gy, ls, 0, false, 1, .no⟩ = ⟨gy, ls, 0, false, 0, .tn (g8 gy.w gy.ta gy.pl 0 (ls 0))⟩ := by
        unfold Lk.begin; rw [he]; rfl
      have st : Lk.step ⟨gy, ls, 0, false, 1, .no⟩ A = Lk.mid (Lk.begin ⟨gy, ls, 0, false, 1, .no⟩) A := rfl
      rw [st, bg] at hf ⊢
      obtain ⟨tI⟩ : Nonempty (TnI gy.pl gy.w m gy.ta (g8 gy.w gy.ta gy.pl 0 (ls 0)) A S) := ⟨TnI.new X ⟨by omega, wb'⟩ (by rw [hl0]; omega) (by rw [hl0]; exact lm.1) (fun q hq => (lm.2 q (by rw [← hl0]; exact hq)).1) (fun q hq => (lm.2 q (by rw [← hl0]; exact hq)).2)⟩
      exact md hf fun h => by
        have h : decide (4 ≤ ((g8 gy.w gy.ta gy.pl 0 (ls 0)).step A).1.ph) = false := h
        have := LX tI X mb.2 ⟨by omega, wb'⟩ (by have := of_decide_eq_false h; omega)
        have e0 : tnM A (g8 gy.w gy.ta gy.pl 0 (ls 0)) = 3 + gy.w.toNat + 6 * (ls 0).length := rfl
        rw [e0, hl0] at this
        show tnM ((g8 gy.w gy.ta gy.pl 0 (ls 0)).step A).2 ((g8 gy.w gy.ta gy.pl 0 (ls 0)).step A).1 < 0 + 2000 * (1 : Int).toNat + 0
        rw [hl0] at *
        show _ < 0 + 2000 * 1 + 0
        omega
theorem MQ {y : Lk} (I : LkI g m A S lim y) : y.m = .no → lkM A y ≤ 2001 := fun h => by
  have tb := I.tb
  unfold lkM
  rw [h]
  show (if y.first = true then 1 else 0) + 2000 * y.times.toNat + 0 ≤ 2001
  split <;> omega
theorem Oy {x : Po} (I : PoI p w n k x A) (ok : A.bp k) (hs : x.dP A = false) : qM (x.cX A) (x.cF A).head (x.cF A).was (x.cF A).at' < qM A x.head x.was x.at' := by
  obtain ⟨xp, xh, xw, xa, xl, xb, xo⟩ := x
  have e2 : xh = k := I.hd
  have e5 : xa = 0 ∨ xa = 1 ∨ xa = 2 := I.ph
  subst e2
  rcases e5 with h | h | h <;> subst h
  · have hs : decide (gO (A.ao xh) 131071 = 0) = false := hs
    show qM (A.aV xh) xh (A.ao xh) (if gO (A.ao xh) 131071 = 0 then 3 else 1) < 3
    rw [if_neg (of_decide_eq_false hs)]
    show (if (A.aV xh).ao xh = A.ao xh then 2 else 5) < 3
    rw [if_pos (vh _ _ _)]; decide
  · show (if (A.aV (w64 (w64 (xp.links + gO xw 131071) - 1))).ao xh = xw then 1 else 4) < (if A.ao xh = xw then 2 else 5)
    rw [vh]
    split <;> decide
  · by_cases e : A.ao xh = xw
    · have := (lZ (x := 0) ok e).1
      have hs : A.cC xh xw = false := hs
      rw [this] at hs; cases hs
    · obtain ⟨s1, s2⟩ := uY (w := ga xw xl) ok e
      have e1 : Po.cF ⟨xp, xh, xw, 2, xl, xb, xo⟩ A = ⟨xp, xh, xw, 0, xl, xb, xo⟩ := by
        show (if A.cC xh xw = true then _ else _) = _
        rw [s1]; rfl
      rw [e1]
      show 3 < (if A.ao xh = xw then 1 else 4)
      rw [if_neg e]; decide
def alM (A : Ar) (w : Int) (x : Al) : Nat := if x.what = 0 then 8 * (w - x.lst).toNat + qM A x.po.head x.po.was x.po.at' else if x.what = 1 then 3 else if x.what = 2 then (if A.ao x.pl.carved = x.base then 2 else 4) else if x.what = 3 then 1 else 0
theorem Nk {x : Al} (I : AlI p w m x A S) (wb : w ≤ 5) : alM A w x ≤ 45 := by
  have := LQ A x.po.head x.po.was x.po.at'
  have := I.lst
  unfold alM
  repeat' split
  all_goals omega
theorem N0 {x : Al} (I : AlI p w m x A S) (X : SL A p w m S) (hw : w ≤ 1000) : alM (x.step A).2 w (x.step A).1 < alM A w x := by
  have wb := X.wb
  have cl : A.bp p.carved := ⟨by obtain ⟨_, _, _, p4, _⟩ := X.gP; have := X.mb; omega, X.rl⟩
  obtain ⟨xp, xk, xc, xs, xa, xb, xh, po⟩ := x
  have e1 : xp = p := I.pl
  subst e1
  have lst : 0 ≤ xs ∧ xs ≤ w := I.lst
  have wh : xa = 0 ∨ xa = 1 ∨ xa = 2 ∨ xa = 3 := I.wh
  rcases wh with h | h | h | h <;> subst h
  · obtain ⟨p1, k, k0, k1, _, P⟩ := I.pops rfl
    have p1 : xs < w := p1
    have P : PoI xp w ((m + 7) / 8) k po A := P
    have e0 : alM A w ⟨xp, xk, xc, xs, 0, xb, xh, po⟩ = 8 * (w - xs).toNat + qM A po.head po.was po.at' := rfl
    have st : Al.step ⟨xp, xk, xc, xs, 0, xb, xh, po⟩ A = (if po.dP A then Al.wH ⟨xp, xk, xc, xs, 0, xb, xh, po.cF A⟩ else ⟨xp, xk, xc, xs, 0, xb, xh, po.cF A⟩, po.cX A) := rfl
    rw [st, e0]
    cases hs : po.dP A with
    | false =>
      have := Oy P (X.F.tS k0 k1) hs
      show 8 * (w - xs).toNat + qM (po.cX A) (po.cF A).head (po.cF A).was (po.cF A).at' < _
      omega
    | true =>
      rw [if_pos rfl]
      unfold Al.wH
      dsimp only
      rw [aE (x := xs + 1) (by omega) (by omega)]
      split
      · show 1 < _; omega
      · split
        · show 3 < _; omega
        · show 8 * (w - (xs + 1)).toNat + 3 < _; omega
  · have st : Al.step ⟨xp, xk, xc, xs, 1, xb, xh, po⟩ A = (⟨xp, xk, xc, xs, if A.ao xp.carved > w64 (A.words.length - au xc) then 4 else 2, A.ao xp.carved, xh, po⟩, A.aV xp.carved) := rfl
    rw [st]
    have e0 : alM A w ⟨xp, xk, xc, xs, 1, xb, xh, po⟩ = 3 := rfl
    rw [e0]
    split
    · show 0 < 3; decide
    · show (if (A.aV xp.carved).ao xp.carved = A.ao xp.carved then 2 else 4) < 3
      rw [if_pos (vh _ _ _)]; decide
  · have st : Al.step ⟨xp, xk, xc, xs, 2, xb, xh, po⟩ A = (⟨xp, xk, xc, xs, if A.cC xp.carved xb then 3 else 1, xb, xh, po⟩, A.dE xp.carved xb (w64 (xb + au xc))) := rfl
    rw [st]
    have e0 : alM A w ⟨xp, xk, xc, xs, 2, xb, xh, po⟩ = (if A.ao xp.carved = xb then 2 else 4) := rfl
    rw [e0]
    by_cases e : A.ao xp.carved = xb
    · rw [(lZ (x := 0) cl e).1, if_pos e, if_pos rfl]
      show 1 < 2; decide
    · rw [(uY (w := 0) cl e).1, if_neg e, if_neg (by decide)]
      show 3 < 4; decide
  · show 0 < 1; decide
end
def pum (A : Ar) (w : Int) (x : Ps) : Nat :=
  if x.what = 0 then 3000 else if x.what = 1 then (match x.alloc with | some a => 2400 + alM A w a | none => 0)
  else if x.what = 2 then (match x.copy with | some c => 2150 + 2 * (c.fin - c.at_).toNat + (if c.has = true then 0 else 1) | none => 0)
  else if x.what = 3 then 2100 else if x.what = 4 then (match x.old with | some y => 3 + lkM A y | none => 0)
  else if x.what = 5 then 2 else if x.what = 6 then 1 else 0
section
variable {A B : Ar} {g : Gd} {m at_ U T O Bw T' O' b h v t now : Int} {S S' : Sg} {ph ph' : Oph} {val val' : Int → Int} {ls ls' : Int → List (Int × Int)} {lim : List (Int × Int)} {o : DOw} {hand : List Int} {al : Option Al} {cp : Option Cm}
theorem JX {p : Pl} {w : Int} {fs : List Fe} (F : C6 p w m A S fs) (nd : (fs.map Fe.h).Nodup) (X : SL A p w m S) (mb : m ≤ 700) : fs.length ≤ 88 := by
  have := Gb X mb nd (fun h hh => by
    obtain ⟨f, hf, e⟩ := List.mem_map.1 hh
    cases fs with
    | nil => cases hf
    | cons f0 fs =>
      rcases List.mem_cons.1 hf with e2 | hf
      · have := F.1.st; rw [← e, e2, this]; decide
      · have := (F.2 f hf).2; rw [← e, this]; decide)
  rwa [List.length_map] at this
theorem OO {y : Lk} (I : LkI g m A S lim y) (X : SL A g.pl g.w m S) (L : Lay A g m at_) : lkM A y ≤ 2001 := by
  have wb := L.wb
  have mb := L.mb.2
  have tb := I.tb
  have im := I.im
  cases hm : y.m with
  | no => exact MQ I hm
  | sc x =>
    rw [hm] at im
    obtain ⟨e1, e2, _, sI⟩ : y.first = false ∧ y.times = 0 ∧ g.ep = false ∧ ScI g.pl g.w m g.ta x A S := im
    unfold lkM
    rw [hm, e1, e2, if_neg (by decide)]
    show 0 + 2000 * 0 + scM A x ≤ 2001
    have tw := sI.tw
    have ll := sI.ll
    have wd := sI.wd
    unfold scM
    rcases sI.st with ⟨a1, _⟩ | ⟨a1, _, _, a4, a5, _⟩
    · rw [if_neg (by rw [a1]; decide)]; omega
    · rw [if_pos a1]
      have := JX a4 a5 X mb
      have := xX A x.frees
      omega
  | tn x =>
    rw [hm] at im
    obtain ⟨e1, e2, _, tI⟩ : y.first = false ∧ y.times = 0 ∧ g.ep = true ∧ TnI g.pl g.w m g.ta x A S := im
    unfold lkM
    rw [hm, e1, e2, if_neg (by decide)]
    show 0 + 2000 * 0 + tnM A x ≤ 2001
    have tw := tI.htw
    have ll := tI.ll
    unfold tnM
    rcases tI.st with ⟨a1, a2, a3, _, _, a6, _, a8⟩ | ⟨a1, a2, a3, a4, _⟩
    · split
      · omega
      · split
        · rename_i h1; have := a6 (by omega); omega
        · split
          · omega
          · rw [a2]; exact Nat.zero_le _
    · rw [if_neg (by omega), if_neg (by omega), if_neg (by omega)]
      have := JX a3 a4 X mb
      have := xX A x.frees
      omega
theorem Gc {x : Ps} (W : OwI A g ls T O val o (.push x) ph Bw hand) (Z : GZ A g m S at_ ph (ls 0) U) : (x.what = 1 → pum A g.w x ≤ 2445) ∧ (x.what = 2 → pum A g.w x ≤ 2279) ∧ (x.what = 4 → pum A g.w x ≤ 2004) ∧ pum A g.w x ≤ 3000 ∧ (x.what ≠ 0 → pum A g.w x ≤ 2500) := by
  have wb := Z.lay.wb
  cases W with
  | u0 v a => exact ⟨fun h => (by cases h), fun h => (by cases h), fun h => (by cases h), Nat.le_refl _, fun h => (h rfl).elim⟩
  | u1 v t a =>
    have hp : AlI g.pl g.w m a A S ∧ Lm A (ls 0) := Z.ph
    have := Nk hp.1 wb.2
    have e : ∀ o' : DOw, pum A g.w ⟨g, ls, o', v, t, 1, some a, none, none, 0, false⟩ = 2400 + alM A g.w a := fun _ => rfl
    rw [e]
    exact ⟨fun _ => by omega, fun h => (by cases h), fun h => (by cases h), by omega, fun _ => by omega⟩
  | u2 v t now al c a b d e f =>
    have nz := d.sz
    have sz := jx o.h
    have e' : ∀ o' : DOw, pum A g.w ⟨g, ls, o', v, t, 2, al, some c, none, now, false⟩ = 2150 + 2 * (c.fin - c.at_).toNat + (if c.has = true then 0 else 1) := fun _ => rfl
    rw [e', e.2.2]
    have : (if c.has = true then 0 else 1) ≤ 1 := by split <;> decide
    exact ⟨fun h => (by cases h), fun _ => by omega, fun h => (by cases h), by omega, fun _ => by omega⟩
  | u3 v t now al cp =>
    exact ⟨fun h => (by cases h), fun h => (by cases h), fun h => (by cases h), (show 2100 ≤ 3000 by decide), fun _ => (show 2100 ≤ 2500 by decide)⟩
  | u4 v t now al cp lx y =>
    have hp : LkI g m A S (ls 0) y := Z.ph
    have := OO hp Z.sl Z.lay
    have e : ∀ o' : DOw, pum A g.w ⟨g, lx, o', v, t, 4, al, cp, some y, now, false⟩ = 3 + lkM A y := fun _ => rfl
    rw [e]
    exact ⟨fun h => (by cases h), fun h => (by cases h), fun _ => by omega, by omega, fun _ => by omega⟩
  | u5 v t now al cp =>
    exact ⟨fun h => (by cases h), fun h => (by cases h), fun h => (by cases h), (show 2 ≤ 3000 by decide), fun _ => (show 2 ≤ 2500 by decide)⟩
  | u6 v t now al cp =>
    exact ⟨fun h => (by cases h), fun h => (by cases h), fun h => (by cases h), (show 1 ≤ 3000 by decide), fun _ => (show 1 ≤ 2500 by decide)⟩
  | u7 v t now al cp =>
    exact ⟨fun h => (by cases h), fun h => (by cases h), fun h => (by cases h), Nat.zero_le _, fun _ => Nat.zero_le _⟩
structure PuS (A : Ar) (g : Gd) (m : Int) (at_ : Int) (ph : Oph) (ls : Int → List (Int × Int)) (T O : Int) (val : Int → Int) (hand : List Int) (U : Int) (x x' : Ps) (B : Ar) (S' : Sg) (ph' : Oph) (ls' : Int → List (Int × Int)) (T' O' : Int) (val' : Int → Int) (Bw' : Int) (hand' : List Int) : Prop where
  st : Ps.step x A = (x', B)
  iv : Ps.inv x A
  s : OwS A g m at_ ph ls T O val hand U B S' ph' ls' T' O' val' x'.o (.push x') Bw' hand'
  mu : pum B g.w x' < pum A g.w x
theorem OwI.NJ {x : Ps} (W : OwI A g ls T O val o (.push x) ph Bw hand) (E : OC A g m S at_ ph ls T O val o Bw U) (hk : x.what ≠ 7) : x.o = o ∧ ∃ x' B S' ph' ls' T' O' val' Bw' hand', PuS A g m at_ ph ls T O val hand U x x' B S' ph' ls' T' O' val' Bw' hand' := by
  have ll := E.lim
  cases W with
  | u0 v a =>
    obtain ⟨x', B, ph', st, s, hw⟩ := KU (v := v) E a rfl
    obtain ⟨_, _, _, _, b5⟩ := Gc s.ow s.gz
    exact ⟨rfl, x', B, S, ph', ls, T, O, val, _, _, st, z4 E ll (fun h => (by cases h)) (fun h => (by cases h)) (fun _ => rfl) (fun h => (by cases h)), s, Nat.lt_of_le_of_lt (b5 hw) (show 2500 < 3000 by decide)⟩
  | u1 v t a hb ht hz h3 hc =>
    have hp : AlI g.pl g.w m a A S ∧ Lm A (ls 0) := E.z.ph
    have wb := E.z.lay.wb
    obtain ⟨x', B, S', ph', st, ai, s, hw⟩ := Ky (v := v) E rfl hb ht hz h3 hc
    obtain ⟨_, b2, _, _, _⟩ := Gc s.ow s.gz
    refine ⟨rfl, x', B, S', ph', ls, T, O, val, _, _, st, z4 E ll (fun _ => ⟨a, rfl, ai⟩) (fun h => (by cases h)) (fun _ => rfl) (fun h => (by cases h)), s, ?_⟩
    show pum B g.w x' < 2400 + alM A g.w a
    rcases hw with ⟨h1, h2, h3⟩ | h1 | h1
    · have e : pum B g.w x' = 2400 + alM B g.w (a.step A).1 := by unfold pum; rw [if_neg (by rw [h1]; decide), if_pos h1, h2]
      rw [e, h3]
      have := N0 hp.1 E.z.sl (by omega)
      omega
    · have := b2 h1; omega
    · have e : pum B g.w x' = 0 := by unfold pum; rw [h1]; rfl
      omega
  | u2 v t now al c hb ht N hc ha hC hv =>
    obtain ⟨x', B, st, s, hw⟩ := Kk (v := v) (al := al) E rfl hb ht N hc ha hC hv
    refine ⟨rfl, x', B, S, .no, ls, T, O, val, _, _, st, z4 E ll (fun h => (by cases h)) (fun _ => ⟨c, rfl⟩) (fun _ => rfl) (fun h => (by cases h)), s, ?_⟩
    show pum B g.w x' < 2150 + 2 * (c.fin - c.at_).toNat + (if c.has = true then 0 else 1)
    rcases hw with h1 | ⟨c', h1, h2, h3⟩
    · have e : pum B g.w x' = 2100 := by unfold pum; rw [h1]; rfl
      omega
    · have e : pum B g.w x' = 2150 + 2 * (c'.fin - c'.at_).toNat + (if c'.has = true then 0 else 1) := by unfold pum; rw [if_neg (by rw [h1]; decide), if_neg (by rw [h1]; decide), if_pos h1, h2]
      rw [e]
      rcases h3 with ⟨a1, a2, a3, a4⟩ | ⟨a2, a3, a4⟩
      · rw [a1, a2, a3, a4]; show _ + 0 < _ + 1; omega
      · rw [a2, a3, a4, if_neg (by decide)]
        have := hc.2.2
        have := ha.2
        omega
  | u3 v t now al cp hb ht N hC =>
    obtain ⟨x', B, ph', ls', st, s, hw⟩ := KD (v := v) (al := al) (cp := cp) E rfl hb ht N hC
    obtain ⟨_, _, b4, _, _⟩ := Gc s.ow s.gz
    refine ⟨rfl, x', B, S, ph', ls', T, O, val, _, _, st, z4 E ll (fun h => (by cases h)) (fun h => (by cases h)) (fun _ => rfl) (fun h => (by cases h)), s, ?_⟩
    show pum B g.w x' < 2100
    rcases hw with h1 | ⟨y, h1, _⟩
    · have e : pum B g.w x' = 2 := by unfold pum; rw [h1]; rfl
      omega
    · have := b4 h1; omega
  | u4 v t now al cp lx y hb hr hy hl =>
    have hp : LkI g m A S (ls 0) y := E.z.ph
    obtain ⟨x', B, S', ph', ls', st, iv, s, hw⟩ := KO (v := v) (t := t) (now := now) (al := al) (cp := cp) E rfl hb hr hy hl
    refine ⟨rfl, x', B, S', ph', ls', T, O, val, _, _, st, z4 E hl (fun h => (by cases h)) (fun h => (by cases h)) (fun h => (h rfl).elim) (fun _ => ⟨y, rfl, iv⟩), s, ?_⟩
    show pum B g.w x' < 3 + lkM A y
    rcases hw with ⟨_, h1⟩ | ⟨hf, h1, h2, h3⟩
    · have e : pum B g.w x' = 2 := by unfold pum; rw [h1]; rfl
      omega
    · have e : pum B g.w x' = 3 + lkM B (y.step A).1 := by unfold pum; rw [if_neg (by rw [h1]; decide), if_neg (by rw [h1]; decide), if_neg (by rw [h1]; decide), if_neg (by rw [h1]; decide), if_pos h1, h2]
      rw [e, h3]
      have := Oc hp E.z.sl E.z.lay hf
      omega
  | u5 v t now al cp hb hr =>
    obtain ⟨x', B, st, s, h1⟩ := KT (v := v) (t := t) (now := now) (al := al) (cp := cp) E rfl hb hr
    refine ⟨rfl, x', B, S, .no, ls, T, O, val, _, _, st, z4 E ll (fun h => (by cases h)) (fun h => (by cases h)) (fun _ => rfl) (fun h => (by cases h)), s, ?_⟩
    have e : pum B g.w x' = 1 := by unfold pum; rw [h1]; rfl
    rw [e]; show 1 < 2; decide
  | u6 v t now al cp hb hr hv =>
    obtain ⟨x', B, val', st, s, h1, _⟩ := Lz (v := v) (t := t) (now := now) (al := al) (cp := cp) E rfl hb hr hv
    refine ⟨rfl, x', B, S, .no, ls, T, O + 1, val', _, _, st, z4 E ll (fun h => (by cases h)) (fun h => (by cases h)) (fun _ => rfl) (fun h => (by cases h)), s, ?_⟩
    have e : pum B g.w x' = 0 := by unfold pum; rw [h1]; rfl
    rw [e]; show 0 < 1; decide
  | u7 v t now al cp bS hb => exact (hk rfl).elim
end
def dqL (val : Int → Int) (T : Int) (n : Nat) : List Int := (List.range n).map fun i : Nat => val (T + i)
theorem zL (val : Int → Int) (T : Int) (n : Nat) : dqL val T (n + 1) = dqL val T n ++ [val (T + n)] := by
  unfold dqL; rw [List.range_succ, List.map_append]; rfl
theorem JA (val : Int → Int) (T : Int) : ∀ n : Nat, dqL val T (n + 1) = val T :: dqL val (T + 1) n := fun n => by
  unfold dqL
  rw [List.range_succ_eq_map, List.map_cons, List.map_map]
  congr 1
  · show val (T + (0 : Nat)) = _; congr 1; show T + 0 = T; omega
  · refine List.map_congr_left fun i _ => ?_
    show val (T + ((i + 1 : Nat) : Int)) = val (T + 1 + (i : Int))
    congr 1; omega
theorem Hb {val val' : Int → Int} {T : Int} {n : Nat} (h : ∀ j, T ≤ j → j < T + n → val' j = val j) : dqL val' T n = dqL val T n :=
  List.map_congr_left fun i hi => by
    have := List.mem_range.1 hi
    exact h _ (by omega) (by omega)
def sN (f : Nat → Nat) : Nat → Nat
  | 0 => 0
  | n + 1 => sN f n + f n
theorem uO {f f' : Nat → Nat} : ∀ {n : Nat}, (∀ i, i < n → f' i = f i) → sN f' n = sN f n
  | 0, _ => rfl
  | n + 1, h => by
    show sN f' n + f' n = sN f n + f n
    rw [uO fun i hi => h i (by omega), h n (by omega)]
theorem Em {f f' : Nat → Nat} {k : Nat} : ∀ {n : Nat}, k < n → (∀ i, i ≠ k → f' i = f i) → sN f' n + f k = sN f n + f' k
  | 0, h, _ => by omega
  | n + 1, h, e => by
    show sN f' n + f' n + f k = sN f n + f n + f' k
    by_cases hk : k = n
    · subst hk
      rw [uO fun i hi => e i (by omega)]; omega
    · have := Em (n := n) (by omega) e
      rw [e n (fun h => hk h.symm)]; omega
structure VI (T O : Int) (val : Int → Int) (hand : List Int) (psh : Bool) (tv : Nat → List Int) (last : Nat → Int) (seen : Nat → Int) (pushed N : Int) : Prop where
  pb : 0 ≤ pushed ∧ pushed ≤ 500
  tb : 0 ≤ T ∧ T ≤ O ∧ O ≤ N - 100
  nN : N ≤ 100 + pushed
  rD : ∀ j, T ≤ j → j < O → 100 ≤ val j ∧ val j < N
  rH : ∀ x ∈ hand, 100 ≤ x ∧ x < 100 + pushed
  rP : psh = true → ∀ x ∈ hand, N ≤ x ∧ x = 99 + pushed
  rT : ∀ r, r < 6 → ∀ x ∈ tv r, 100 ≤ x ∧ x < N ∧ last r + 100 < x ∧ ∀ j, T ≤ j → j < O → x < val j
  rL : ∀ r, r < 6 → last r + 100 < N ∧ ∀ j, T ≤ j → j < O → last r + 100 < val j
  mono : ∀ i j, T ≤ i → i < j → j < O → val i < val j
  one : ∀ u : Nat, (u : Int) < pushed → seen u + (((dqL val T (O - T).toNat).count (100 + (u : Int)) + hand.count (100 + (u : Int)) + sN (fun r => (tv r).count (100 + (u : Int))) 6 : Nat) : Int) = 1
  sn : ∀ u : Nat, pushed ≤ u → seen u = 0
  s0 : ∀ u : Nat, 0 ≤ seen u
section
variable {T O T' O' pushed N : Int} {val val' : Int → Int} {hand hand' : List Int} {psh : Bool} {tv tv' : Nat → List Int} {last last' : Nat → Int} {seen seen' : Nat → Int}
theorem VI.init : VI 0 0 val [] false (fun _ => []) (fun _ => -1) (fun _ => 0) 0 100 :=
  ⟨⟨by omega, by omega⟩, ⟨by omega, by omega, by omega⟩, by omega, fun j a b => by omega, fun x h => (by cases h), fun _ x h => (by cases h), fun r _ x h => (by cases h), fun r _ => ⟨by omega, fun j a b => by omega⟩, fun i j a b c => by omega, fun u h => by omega, fun u h => rfl, fun u => Int.le_refl _⟩
theorem VI.own (V : VI T O val hand psh tv last seen pushed N) (C : Chg T O val hand T' O' val' hand') (h1 : psh = true → ∃ v, hand = [v]) (h2 : psh = false → O' ≤ O) : ∃ N', VI T' O' val' hand' psh tv last seen pushed N' := by
  obtain ⟨pb, tb, nN, rD, rH, rP, rT, rL, mono, one, sn, s0⟩ := V
  cases C with
  | same => exact ⟨N, pb, tb, nN, rD, rH, rP, rT, rL, mono, one, sn, s0⟩
  | bS v =>
    have hp : psh = true := by
      cases psh with
      | true => rfl
      | false => have := h2 rfl; omega
    obtain ⟨n1, n2⟩ := rP hp v List.mem_cons_self
    obtain ⟨n3, n4⟩ := rH v List.mem_cons_self
    obtain ⟨f, hf⟩ : ∃ f : Int → Int, f = fun j => if j = O then v else val j := ⟨_, rfl⟩
    have ev : ∀ j, j < O → f j = val j := fun j hj => by rw [hf]; exact if_neg (by omega)
    have eO : f O = v := by rw [hf]; exact if_pos rfl
    rw [← hf]
    refine ⟨v + 1, pb, ⟨tb.1, by omega, by omega⟩, by omega, fun j a b => ?_, fun x h => (by cases h), fun _ x h => (by cases h), fun r hr x hx => ?_, fun r hr => ?_, fun i j a b c => ?_, fun u hu => ?_, sn, s0⟩
    · by_cases e : j = O
      · rw [e, eO]; omega
      · rw [ev j (by omega)]; have := rD j a (by omega); omega
    · obtain ⟨a1, a2, a3, a4⟩ := rT r hr x hx
      refine ⟨a1, by omega, a3, fun j a b => ?_⟩
      by_cases e : j = O
      · rw [e, eO]; omega
      · rw [ev j (by omega)]; exact a4 j a (by omega)
    · obtain ⟨a1, a2⟩ := rL r hr
      refine ⟨by omega, fun j a b => ?_⟩
      by_cases e : j = O
      · rw [e, eO]; omega
      · rw [ev j (by omega)]; exact a2 j a (by omega)
    · by_cases e : j = O
      · rw [e, eO, ev i (by omega)]; have := rD i a (by omega); omega
      · rw [ev j (by omega), ev i (by omega)]; exact mono i j a b (by omega)
    · have o := one u hu
      have en : (O + 1 - T).toNat = (O - T).toNat + 1 := by omega
      have eT : T + ((O - T).toNat : Int) = O := by omega
      rw [en, zL, Hb (val := val) (fun j a b => ev j (by omega)), eT, eO, List.count_append]
      rw [show List.count (100 + (u : Int)) [] = 0 from rfl]
      omega
  | claim h =>
    have hp : psh = false := by
      cases psh with
      | false => rfl
      | true => obtain ⟨v, hv⟩ := h1 rfl; cases hv
    obtain ⟨d1, d2⟩ := rD (O - 1) (by omega) (by omega)
    refine ⟨N, pb, ⟨tb.1, by omega, by omega⟩, nN, fun j a b => rD j a (by omega), fun x hx => ?_, fun h => (by rw [hp] at h; cases h), fun r hr x hx => ?_, fun r hr => ?_, fun i j a b c => mono i j a b (by omega), fun u hu => ?_, sn, s0⟩
    · have : x = val (O - 1) := by simpa using hx
      rw [this]; omega
    · obtain ⟨a1, a2, a3, a4⟩ := rT r hr x hx
      exact ⟨a1, a2, a3, fun j a b => a4 j a (by omega)⟩
    · obtain ⟨a1, a2⟩ := rL r hr
      exact ⟨a1, fun j a b => a2 j a (by omega)⟩
    · have o := one u hu
      have en : (O - T).toNat = (O - 1 - T).toNat + 1 := by omega
      have eT : T + ((O - 1 - T).toNat : Int) = O - 1 := by omega
      rw [en, zL, eT, List.count_append, show List.count (100 + (u : Int)) [] = 0 from rfl] at o
      omega
  | cas h =>
    have hp : psh = false := by
      cases psh with
      | false => rfl
      | true => obtain ⟨v, hv⟩ := h1 rfl; cases hv
    obtain ⟨d1, d2⟩ := rD T (by omega) (by omega)
    refine ⟨N, pb, ⟨by omega, by omega, by omega⟩, nN, fun j a b => by omega, fun x hx => ?_, fun h => (by rw [hp] at h; cases h), fun r hr x hx => ?_, fun r hr => ?_, fun i j a b c => by omega, fun u hu => ?_, sn, s0⟩
    · have : x = val T := by simpa using hx
      rw [this]; omega
    · obtain ⟨a1, a2, a3, a4⟩ := rT r hr x hx
      exact ⟨a1, a2, a3, fun j a b => by omega⟩
    · obtain ⟨a1, a2⟩ := rL r hr
      exact ⟨a1, fun j a b => by omega⟩
    · have o := one u hu
      have en : (O - T).toNat = 0 + 1 := by omega
      have e0 : (O - O).toNat = 0 := by omega
      have eT : T + ((0 : Nat) : Int) = T := by omega
      rw [en, zL, eT, List.count_append, show List.count (100 + (u : Int)) [] = 0 from rfl, show dqL val T 0 = [] from rfl, show List.count (100 + (u : Int)) [] = 0 from rfl] at o
      rw [e0, show dqL val O 0 = [] from rfl, show List.count (100 + (u : Int)) [] = 0 from rfl]
      omega
theorem VI.IG (V : VI T O val hand psh tv last seen pushed N) {r : Nat} (hr : r < 6) (hT : T + 1 ≤ O) (h0 : tv r = []) (h1 : tv' r = [val T]) (h2 : ∀ i, i ≠ r → tv' i = tv i) : VI (T + 1) O val hand psh tv' last seen pushed N := by
  obtain ⟨pb, tb, nN, rD, rH, rP, rT, rL, mono, one, sn, s0⟩ := V
  refine ⟨pb, ⟨by omega, hT, tb.2.2⟩, nN, fun j a b => rD j (by omega) b, rH, rP, fun i hi x hx => ?_, fun i hi => ?_, fun i j a b c => mono i j (by omega) b c, fun u hu => ?_, sn, s0⟩
  · by_cases e : i = r
    · subst e
      rw [h1] at hx
      have : x = val T := by simpa using hx
      rw [this]
      obtain ⟨d1, d2⟩ := rD T (Int.le_refl _) (by omega)
      exact ⟨d1, d2, (rL i hi).2 T (Int.le_refl _) (by omega), fun j a b => mono T j (Int.le_refl _) (by omega) b⟩
    · rw [h2 i e] at hx
      obtain ⟨a1, a2, a3, a4⟩ := rT i hi x hx
      exact ⟨a1, a2, a3, fun j a b => a4 j (by omega) b⟩
  · obtain ⟨a1, a2⟩ := rL i hi
    exact ⟨a1, fun j a b => a2 j (by omega) b⟩
  · have o := one u hu
    have en : (O - T).toNat = (O - (T + 1)).toNat + 1 := by omega
    have s := Em (f := fun r => (tv r).count (100 + (u : Int))) (f' := fun r => (tv' r).count (100 + (u : Int))) (k := r) (n := 6) hr (fun i hi => by show List.count _ (tv' i) = _; rw [h2 i hi])
    have s : sN (fun r => (tv' r).count (100 + (u : Int))) 6 + (tv r).count (100 + (u : Int)) = sN (fun r => (tv r).count (100 + (u : Int))) 6 + (tv' r).count (100 + (u : Int)) := s
    rw [h0, h1, show List.count (100 + (u : Int)) [] = 0 from rfl] at s
    rw [en, JA, ← List.singleton_append, List.count_append] at o
    omega
theorem VI.told (V : VI T O val hand psh tv last seen pushed N) {r : Nat} {x : Int} (hr : r < 6) (h0 : tv r = [x]) (h1 : tv' r = []) (h2 : ∀ i, i ≠ r → tv' i = tv i) (l1 : last' r = x - 100 ∨ last' r = last r) (l2 : ∀ i, i ≠ r → last' i = last i) (s1 : seen' (x - 100).toNat = seen (x - 100).toNat + 1) (s2 : ∀ u, u ≠ (x - 100).toNat → seen' u = seen u) :
    (100 ≤ x ∧ x < 100 + pushed ∧ last r < x - 100) ∧ VI T O val hand psh tv' last' seen' pushed N := by
  obtain ⟨pb, tb, nN, rD, rH, rP, rT, rL, mono, one, sn, s0⟩ := V
  obtain ⟨a1, a2, a3, a4⟩ := rT r hr x (by rw [h0]; exact List.mem_cons_self)
  have s : ∀ u : Nat, sN (fun r => (tv' r).count (100 + (u : Int))) 6 + (tv r).count (100 + (u : Int)) = sN (fun r => (tv r).count (100 + (u : Int))) 6 + (tv' r).count (100 + (u : Int)) := fun u => Em (f := fun r => (tv r).count (100 + (u : Int))) (f' := fun r => (tv' r).count (100 + (u : Int))) (k := r) (n := 6) hr (fun i hi => by show List.count _ (tv' i) = _; rw [h2 i hi])
  have ex : (100 : Int) + ((x - 100).toNat : Int) = x := by omega
  have cx : List.count x [x] = 1 := by simp
  refine ⟨⟨a1, by omega, by omega⟩, pb, tb, nN, rD, rH, rP, fun i hi y hy => ?_, fun i hi => ?_, mono, fun u hu => ?_, fun u hu => ?_, fun u => ?_⟩
  · by_cases e : i = r
    · subst e; rw [h1] at hy; cases hy
    · rw [h2 i e] at hy; rw [l2 i e]; exact rT i hi y hy
  · by_cases e : i = r
    · subst e
      rcases l1 with l1 | l1
      · rw [l1]; exact ⟨by omega, fun j a b => by have := a4 j a b; omega⟩
      · rw [l1]; exact rL i hi
    · rw [l2 i e]; exact rL i hi
  · have o := one u hu
    have q := s u
    rw [h0, h1, show List.count (100 + (u : Int)) [] = 0 from rfl] at q
    by_cases e : u = (x - 100).toNat
    · subst e
      rw [s1]
      rw [ex] at q o ⊢
      rw [cx] at q
      omega
    · rw [s2 u e]
      have : List.count (100 + (u : Int)) [x] = 0 := by rw [List.count_eq_zero]; intro h; have : 100 + (u : Int) = x := by simpa using h
                                                        omega
      omega
  · rw [s2 u (by omega)]; exact sn u hu
  · by_cases e : u = (x - 100).toNat
    · rw [e, s1]; have := s0 (x - 100).toNat; omega
    · rw [s2 u e]; exact s0 u
theorem VI.sb (V : VI T O val hand psh tv last seen pushed N) (u : Nat) : 0 ≤ seen u ∧ seen u ≤ 1 := by
  have s0 := V.s0 u
  by_cases h : (u : Int) < pushed
  · have := V.one u h; omega
  · have := V.sn u (by omega); omega
theorem VI.push (V : VI T O val [] psh tv last seen pushed N) (hp : pushed < 500) : VI T O val [100 + pushed] true tv last seen (pushed + 1) N := by
  obtain ⟨pb, tb, nN, rD, rH, rP, rT, rL, mono, one, sn, s0⟩ := V
  have e1 : ∀ x, x ∈ [100 + pushed] → x = 100 + pushed := fun x hx => by simpa using hx
  refine ⟨by omega, tb, by omega, rD, fun x hx => by rw [e1 x hx]; omega, fun _ x hx => by rw [e1 x hx]; omega, rT, rL, mono, fun u hu => ?_, fun u hu => sn u (by omega), s0⟩
  by_cases e : (u : Int) = pushed
  · rw [sn u (by omega), e]
    have c0 : (dqL val T (O - T).toNat).count (100 + pushed) = 0 := by
      rw [List.count_eq_zero]
      intro h
      obtain ⟨i, hi, e⟩ := List.mem_map.1 h
      have := List.mem_range.1 hi
      have := rD (T + i) (by omega) (by omega)
      omega
    have c1 : sN (fun r => (tv r).count (100 + pushed)) 6 = 0 := by
      have : sN (fun r => (tv r).count (100 + pushed)) 6 = sN (fun _ => 0) 6 := uO fun i hi => by
        show (tv i).count (100 + pushed) = 0
        rw [List.count_eq_zero]
        intro h
        have := rT i hi _ h; omega
      rw [this]; rfl
    have c2 : List.count (100 + pushed) [100 + pushed] = 1 := by simp
    rw [c0, c1, c2]; rfl
  · have o := one u (by omega)
    have c2 : List.count (100 + (u : Int)) [100 + pushed] = 0 := by
      rw [List.count_eq_zero]; intro h; have := e1 _ h; omega
    rw [c2]; exact o
theorem VI.pop (V : VI T O val [] psh tv last seen pushed N) : VI T O val [] false tv last seen pushed N :=
  ⟨V.pb, V.tb, V.nN, V.rD, V.rH, fun h => (by cases h), V.rT, V.rL, V.mono, V.one, V.sn, V.s0⟩
theorem VI.lost (V : VI T O val hand true tv last seen pushed N) {x : Int} (h : hand = [x]) (s1 : seen' (pushed - 1).toNat = 1) (s2 : ∀ u, u ≠ (pushed - 1).toNat → seen' u = seen u) : 1 ≤ pushed ∧ VI T O val [] false tv last seen' pushed N := by
  subst h
  obtain ⟨pb, tb, nN, rD, rH, rP, rT, rL, mono, one, sn, s0⟩ := V
  obtain ⟨n1, n2⟩ := rP rfl x List.mem_cons_self
  have := (rH x List.mem_cons_self).1
  refine ⟨by omega, pb, tb, nN, rD, fun x h => (by cases h), fun h => (by cases h), rT, rL, mono, fun u hu => ?_, fun u hu => by rw [s2 u (by omega)]; exact sn u hu, fun u => ?_⟩
  · have o := one u hu
    by_cases e : u = (pushed - 1).toNat
    · have ex : (100 : Int) + (u : Int) = x := by omega
      have cx : List.count x [x] = 1 := by simp
      have s0 := s0 u
      rw [e, s1, ← e]
      rw [ex, cx] at o
      rw [ex, show List.count x [] = 0 from rfl]
      omega
    · rw [s2 u e]
      have : List.count (100 + (u : Int)) [x] = 0 := by
        rw [List.count_eq_zero]; intro h
        have : 100 + (u : Int) = x := by simpa using h
        omega
      rw [this] at o
      rw [show List.count (100 + (u : Int)) [] = 0 from rfl]; exact o
  · by_cases e : u = (pushed - 1).toNat
    · rw [e, s1]; decide
    · rw [s2 u e]; exact s0 u
theorem VI.got (V : VI T O val hand psh tv last seen pushed N) {x : Int} (h : hand = [x]) (s1 : seen' (x - 100).toNat = seen (x - 100).toNat + 1) (s2 : ∀ u, u ≠ (x - 100).toNat → seen' u = seen u) : (100 ≤ x ∧ x < 100 + pushed) ∧ VI T O val [] false tv last seen' pushed N := by
  subst h
  obtain ⟨pb, tb, nN, rD, rH, rP, rT, rL, mono, one, sn, s0⟩ := V
  have hx := rH x List.mem_cons_self
  refine ⟨hx, pb, tb, nN, rD, fun x h => (by cases h), fun h => (by cases h), rT, rL, mono, fun u hu => ?_, fun u hu => by rw [s2 u (by omega)]; exact sn u hu, fun u => ?_⟩
  · have o := one u hu
    by_cases e : u = (x - 100).toNat
    · have ex : (100 : Int) + (u : Int) = x := by omega
      have cx : List.count x [x] = 1 := by simp
      rw [e, s1, ← e]
      rw [ex, cx] at o
      rw [ex, show List.count x [] = 0 from rfl]
      omega
    · rw [s2 u e]
      have : List.count (100 + (u : Int)) [x] = 0 := by
        rw [List.count_eq_zero]; intro h
        have : 100 + (u : Int) = x := by simpa using h
        omega
      rw [this] at o
      rw [show List.count (100 + (u : Int)) [] = 0 from rfl]; exact o
  · by_cases e : u = (x - 100).toNat
    · rw [e, s1]; have := s0 (x - 100).toNat; omega
    · rw [s2 u e]; exact s0 u
theorem VI.bS (V : VI T O val [] psh tv last seen pushed N) : VI T O val [] false tv last seen pushed N := V.pop
theorem VI.tvc (V : VI T O val hand psh tv last seen pushed N) (h : ∀ r, r < 6 → tv' r = tv r) : VI T O val hand psh tv' last seen pushed N :=
  ⟨V.pb, V.tb, V.nN, V.rD, V.rH, V.rP, fun r hr x hx => V.rT r hr x (by rw [← h r hr]; exact hx), V.rL, V.mono, fun u hu => by
    rw [uO (f := fun r => (tv r).count (100 + (u : Int))) (fun i hi => by show (tv' i).count _ = _; rw [h i hi])]; exact V.one u hu, V.sn, V.s0⟩
theorem VI.fin (V : VI T O val [] psh tv last seen pushed N) (hT : T = O) (h : ∀ r, r < 6 → tv r = []) (u : Nat) (hu : (u : Int) < pushed) : seen u = 1 := by
  have o := V.one u hu
  have e0 : (O - T).toNat = 0 := by omega
  have c1 : sN (fun r => (tv r).count (100 + (u : Int))) 6 = sN (fun _ => 0) 6 := uO fun i hi => by rw [h i hi]; rfl
  rw [e0, c1] at o
  have o : seen u + ((0 + 0 + 0 : Nat) : Int) = 1 := o
  omega
end
structure PD where
  S : Sg
  ph : Oph
  ls : Int → List (Int × Int)
  T : Int
  O : Int
  val : Int → Int
  o : DOw
  ow : OwM
  Bw : Int
  hand : List Int
  zs : Nat → Option St
  P : Nat → Int
  last : Nat → Int
  seen : Nat → Int
  pushed : Int
  N : Int
  U : Int
def OwM.psh : OwM → Bool
  | .push _ => true
  | _ => false
def thd : Option St → List Int
  | none => []
  | some z => if z.x.ok = true then [z.x.v] else []
theorem FR {z : St} (h : z.x.ok = true) : thd (some z) = [z.x.v] := if_pos h
theorem Gj {z : St} (h : z.x.ok = false) : thd (some z) = [] := if_neg (by rw [h]; decide)
theorem Chg.len {T O T' O' : Int} {val val' : Int → Int} {hand hand' : List Int} (C : Chg T O val hand T' O' val' hand') (le : O' ≤ O) : (hand = [] → (O' - T') + hand'.length = O - T) ∧ (hand ≠ [] → O' - T' = O - T ∧ hand'.length = hand.length) := by
  cases C with
  | same => exact ⟨fun h => by rw [h]; show O - T + 0 = _; omega, fun _ => ⟨rfl, rfl⟩⟩
  | bS v => omega
  | claim h => exact ⟨fun _ => by show O - 1 - T + 1 = _; omega, fun h => (h rfl).elim⟩
  | cas h => exact ⟨fun _ => by show O - O + 1 = _; omega, fun h => (h rfl).elim⟩
structure PX (g : Gd) (m at_ : Int) (A : Ar) (D : PD) : Prop where
  z : GZ A g m D.S at_ D.ph (D.ls 0) D.U
  x : DX A at_ D.o.h D.T D.O D.val
  b : A.ao (dw at_ 0 1) = D.Bw
  ob : OB g at_ D.o
  ow : OwI A g D.ls D.T D.O D.val D.o D.ow D.ph D.Bw D.hand
  th : ∀ (r : Nat) z, D.zs r = some z → 1 ≤ (r : Int) ∧ (r : Int) < g.w ∧ TmP A g at_ D.ph (D.ls 0) D.T D.O D.val r (D.P r) z
  vi : VI D.T D.O D.val D.hand D.ow.psh (fun r => thd (D.zs r)) D.last D.seen D.pushed D.N
structure jn (D D' : PD) : Prop where
  zs : D'.zs = D.zs
  last : D'.last = D.last
  seen : D'.seen = D.seen
  pushed : D'.pushed = D.pushed
  U : D'.U = D.U + 1
section
variable {A B : Ar} {g : Gd} {m at_ : Int} {D : PD} {x : Ps} {y : Pp} {r : Nat} {z : St}
theorem PX.oc (E : PX g m at_ A D) (hwf : A.wf) (hU : D.U + 1 ≤ 800000) : OC A g m D.S at_ D.ph D.ls D.T D.O D.val D.o D.Bw D.U :=
  ⟨E.z, E.x, E.b, E.ob, hwf, hU, by have := E.vi.tb; have := E.vi.nN; have := E.vi.pb; omega⟩
theorem PX.own {S' : Sg} {ph' : Oph} {ls' : Int → List (Int × Int)} {T' O' : Int} {val' : Int → Int} {o' : DOw} {ow' : OwM} {Bw' : Int} {hand' : List Int} (E : PX g m at_ A D) (s : OwS A g m at_ D.ph D.ls D.T D.O D.val D.hand D.U B S' ph' ls' T' O' val' o' ow' Bw' hand') (h1 : D.ow.psh = true → ∃ v, D.hand = [v]) (h2 : D.ow.psh = false → O' ≤ D.O) (hp : ow'.psh = D.ow.psh) :
    ∃ N', PX g m at_ B { D with S := S', ph := ph', ls := ls', T := T', O := O', val := val', o := o', ow := ow', Bw := Bw', hand := hand', N := N', U := D.U + 1 } := by
  obtain ⟨N', V⟩ := E.vi.own s.ch h1 h2
  exact ⟨N', s.gz, s.dx, s.rB, s.ob, s.ow, fun r z hz => by obtain ⟨a, b, c⟩ := E.th r z hz; exact ⟨a, b, s.oth _ _ _ a b c⟩, by show VI T' O' val' hand' ow'.psh _ _ _ _ N'; rw [hp]; exact V⟩
theorem OwI.pg {ls : Int → List (Int × Int)} {T O Bw : Int} {val : Int → Int} {o : DOw} {ph : Oph} {hand : List Int} (W : OwI A g ls T O val o (.push x) ph Bw hand) : x.g = g ∧ x.o = o := by
  cases W <;> exact ⟨rfl, rfl⟩
theorem OwI.NN {ls : Int → List (Int × Int)} {T O Bw : Int} {val : Int → Int} {o : DOw} {ph : Oph} {hand : List Int} (W : OwI A g ls T O val o (.push x) ph Bw hand) (hk : x.what ≠ 7) : ∃ v, hand = [v] := by
  cases W <;> first | exact ⟨_, rfl⟩ | exact (hk rfl).elim
theorem PX.push (E : PX g m at_ A D) (hx : D.ow = .push x) (hk : x.what ≠ 7) (hwf : A.wf) (hU : D.U + 1 ≤ 800000) :
    ∃ x' B D', Ps.step x A = (x', B) ∧ Ps.inv x A ∧ B.aD = A.aD + 1 ∧ pum B g.w x' < pum A g.w x ∧ PX g m at_ B D' ∧ D'.ow = .push x' ∧ jn D D' := by
  have W := E.ow
  rw [hx] at W
  obtain ⟨_, x', B, S', ph', ls', T', O', val', Bw', hand', P⟩ := W.NJ (E.oc hwf hU) hk
  obtain ⟨N', E'⟩ := E.own P.s (fun _ => W.NN hk) (fun h => by rw [hx] at h; cases h) (by rw [hx]; rfl)
  exact ⟨x', B, _, P.st, P.iv, P.s.us, P.mu, E', rfl, rfl, rfl, rfl, rfl, rfl⟩
theorem PX.pop (E : PX g m at_ A D) (hx : D.ow = .pop y) (hk : y.what ≠ 5) (hwf : A.wf) (hU : D.U + 1 ≤ 800000) :
    ∃ y' B D', Pp.step y A = (y', B) ∧ y.o.bnd ∧ y.o = D.o ∧ B.aD = A.aD + 1 ∧ ppm y' < ppm y ∧ PX g m at_ B D' ∧ D'.ow = .pop y' ∧ D'.o = y'.o ∧ D'.ls = D.ls ∧ jn D D' ∧ (D.hand = [] → (D'.O - D'.T) + D'.hand.length = D.O - D.T) ∧ (D.hand ≠ [] → D'.O - D'.T = D.O - D.T ∧ D'.hand.length = D.hand.length) := by
  have W := E.ow
  rw [hx] at W
  have C := E.oc hwf hU
  obtain ⟨eph, eo, y', B, T', O', Bw', hand', P⟩ := W.Ph C hk
  have s := P.s
  have le := P.le
  have bd := C.bd
  rw [← eph] at s
  obtain ⟨N', E'⟩ := E.own s (fun h => by rw [hx] at h; cases h) (fun _ => le) (by rw [hx]; rfl)
  obtain ⟨l1, l2⟩ := s.ch.len le
  exact ⟨y', B, _, P.st, by rw [eo]; exact bd, eo, s.us, P.mu, E', rfl, rfl, rfl, ⟨rfl, rfl, rfl, rfl, rfl⟩, l1, l2⟩
theorem PX.LR (E : PX g m at_ A D) (hz : D.zs r = some z) (hk : ¬ (z.um.ji = true ∧ z.x.leaves = true)) (hU : D.U + 1 ≤ 800000) :
    ∃ z' B D', St.step g z A = (z', B) ∧ (Tb g z.x ∧ z.um.inv) ∧ B.aD = A.aD + 1 ∧ tmu B g z' < tmu A g z ∧ (z'.um.ji && z'.x.leaves) = decide (tmu B g z' = 0) ∧ PX g m at_ B D' ∧ D'.zs = bm D.zs r (some z') ∧ D'.last = D.last ∧ D'.seen = D.seen ∧ D'.pushed = D.pushed ∧ D'.U = D.U + 1 ∧ D'.ow = D.ow ∧ D'.o = D.o ∧ D'.ls = D.ls ∧ D'.hand = D.hand := by
  obtain ⟨r0, r1, D0⟩ := E.th r z hz
  have wb := E.z.lay.wb
  obtain ⟨z', B, T', P', F⟩ := Mi D0 E.z hU E.x ⟨r0, r1⟩ E.b E.ow hk
  have s := F.s
  refine ⟨z', B, { D with T := T', P := bm D.P r P', zs := bm D.zs r (some z'), U := D.U + 1 }, s.st, s.inv, s.q.us, s.mu, s.fin, ⟨F.gz, F.dx, F.rB, E.ob, F.ow, fun i z1 h1 => ?_, ?_⟩, rfl, rfl, rfl, rfl, rfl, rfl, rfl, rfl, rfl⟩
  · have h1 : bm D.zs r (some z') i = some z1 := h1
    show 1 ≤ (i : Int) ∧ (i : Int) < g.w ∧ TmP B g at_ D.ph (D.ls 0) T' D.O D.val i (bm D.P r P' i) z1
    by_cases e : i = r
    · subst e
      rw [bf] at h1 ⊢
      cases h1
      exact ⟨r0, r1, s.p⟩
    · rw [bB _ _ e] at h1 ⊢
      obtain ⟨a, b, c⟩ := E.th i z1 h1
      exact ⟨a, b, F.oth _ _ _ a b (fun h => e (by omega)) c⟩
  · show VI T' D.O D.val D.hand D.ow.psh (fun i => thd (bm D.zs r (some z') i)) D.last D.seen D.pushed D.N
    have t0 : thd (D.zs r) = thd (some z) := by rw [hz]
    have t1 : thd (bm D.zs r (some z') r) = thd (some z') := by rw [bf]
    have t2 : ∀ i, i ≠ r → thd (bm D.zs r (some z') i) = thd (D.zs i) := fun i e => by rw [bB _ _ e]
    rcases s.or with ⟨a, b, c⟩ | ⟨a, b, c, d, e⟩
    · rw [a]
      refine E.vi.tvc fun i _ => ?_
      by_cases e : i = r
      · subst e
        rw [t1, t0]
        cases ho : z.x.ok with
        | true => rw [FR (b.trans ho), FR ho, c ho]
        | false => rw [Gj (b.trans ho), Gj ho]
      · exact t2 i e
    · rw [a]
      refine E.vi.IG (r := r) (by omega) (by omega) ?_ ?_ t2
      · rw [t0]; exact Gj c
      · rw [t1, FR d, e]
theorem PX.OZ (E : PX g m at_ A D) (hz : D.zs r = none) (r0 : 1 ≤ (r : Int)) (r1 : (r : Int) < g.w) : PX g m at_ A { D with zs := bm D.zs r (some ⟨dD at_ r 0 0 0, .enter :: st7, .no⟩) } := by
  have L := E.z.lay
  have wb := L.wb
  refine ⟨E.z, E.x, E.b, E.ob, E.ow, fun i z1 h1 => ?_, E.vi.tvc fun i _ => ?_⟩
  · have h1 : bm D.zs r (some ⟨dD at_ r 0 0 0, .enter :: st7, .no⟩) i = some z1 := h1
    by_cases e : i = r
    · subst e
      rw [bf] at h1
      cases h1
      refine ⟨r0, r1, .start ⟨?_, rfl, rfl, rfl, rfl, rfl⟩⟩
      have hi := L.hi
      have rb := L.rb
      have c0 := L.c0
      have ta := L.ta
      obtain ⟨_, g1⟩ := L.rw
      obtain ⟨_, _, g2⟩ := L.g2
      exact ⟨⟨⟨by show 0 ≤ at_; omega, by show at_ ≤ 1000000; omega⟩, ⟨Int.le_refl _, by show (0 : Int) ≤ 1000; decide⟩⟩, ⟨by omega, by omega⟩, ⟨by show 0 ≤ (i : Int); omega, by show (i : Int) ≤ 1000; omega⟩⟩
    · rw [bB _ _ e] at h1
      exact E.th i z1 h1
  · by_cases e : i = r
    · subst e
      show thd (bm D.zs i _ i) = thd (D.zs i)
      rw [bf, hz]; rfl
    · show thd (bm D.zs r _ i) = thd (D.zs i)
      rw [bB _ _ e]
theorem PX.N7 (E : PX g m at_ A D) (hz : D.zs r = some z) (h : z.x.ok = false) : PX g m at_ A { D with zs := bm D.zs r none } := by
  refine ⟨E.z, E.x, E.b, E.ob, E.ow, fun i z1 h1 => ?_, E.vi.tvc fun i _ => ?_⟩
  · have h1 : bm D.zs r none i = some z1 := h1
    by_cases e : i = r
    · subst e; rw [bf] at h1; cases h1
    · rw [bB _ _ e] at h1; exact E.th i z1 h1
  · show thd (bm D.zs r none i) = thd (D.zs i)
    by_cases e : i = r
    · subst e; rw [bf, hz, Gj h]; rfl
    · rw [bB _ _ e]
theorem PX.Od {last' : Nat → Int} (E : PX g m at_ A D) (hz : D.zs r = some z) (h : z.x.ok = true) (l1 : last' r = z.x.v - 100 ∨ last' r = D.last r) (l2 : ∀ i, i ≠ r → last' i = D.last i) :
    (100 ≤ z.x.v ∧ z.x.v < 100 + D.pushed ∧ D.last r < z.x.v - 100) ∧ PX g m at_ A { D with zs := bm D.zs r none, last := last', seen := bm D.seen (z.x.v - 100).toNat (D.seen (z.x.v - 100).toNat + 1) } := by
  obtain ⟨r0, r1, _⟩ := E.th r z hz
  have wb := E.z.lay.wb
  obtain ⟨b, V⟩ := E.vi.told (r := r) (x := z.x.v) (tv' := fun i => thd (bm D.zs r none i)) (last' := last') (seen' := bm D.seen (z.x.v - 100).toNat (D.seen (z.x.v - 100).toNat + 1)) (by omega)
    (by show thd (D.zs r) = _; rw [hz]; exact FR h) (by show thd (bm D.zs r none r) = _; rw [bf]; rfl) (fun i e => by show thd (bm D.zs r none i) = _; rw [bB _ _ e]) l1 l2 (bf _ _ _) (fun i e => bB _ _ e)
  refine ⟨b, E.z, E.x, E.b, E.ob, E.ow, fun i z1 h1 => ?_, V⟩
  have h1 : bm D.zs r none i = some z1 := h1
  by_cases e : i = r
  · subst e; rw [bf] at h1; cases h1
  · rw [bB _ _ e] at h1; exact E.th i z1 h1
theorem PX.NT (E : PX g m at_ A D) (hx : D.ow = .no) (hp : D.pushed < 500) : PX g m at_ A { D with ow := .push ⟨g, D.ls, D.o, 100 + D.pushed, 0, 0, none, none, none, 0, false⟩, hand := [100 + D.pushed], pushed := D.pushed + 1 } := by
  obtain ⟨S, ph, ls, T, O, val, o, ow, Bw, hand, zs, P, last, seen, pushed, N, U⟩ := D
  obtain ⟨a, b, c, d, W, f, V⟩ := E
  have hx : ow = .no := hx
  subst hx
  have W : OwI A g ls T O val o .no ph Bw hand := W
  cases W with
  | idle hb => exact ⟨a, b, c, d, .u0 _ hb, f, VI.push V hp⟩
theorem PX.KR (E : PX g m at_ A D) (hx : D.ow = .no) : D.hand = [] ∧ PX g m at_ A { D with ow := .pop ⟨D.o, 0, 0, 0, false⟩ } := by
  obtain ⟨S, ph, ls, T, O, val, o, ow, Bw, hand, zs, P, last, seen, pushed, N, U⟩ := D
  obtain ⟨a, b, c, d, W, f, V⟩ := E
  have hx : ow = .no := hx
  subst hx
  have W : OwI A g ls T O val o .no ph Bw hand := W
  cases W with
  | idle hb => exact ⟨rfl, a, b, c, d, .p0 hb, f, VI.pop V⟩
theorem PX.pushed (E : PX g m at_ A D) (hx : D.ow = .push x) (hw : x.what = 7) : D.ph = .no ∧ x.ls = D.ls ∧ x.old = none ∧ (x.bS = true → PX g m at_ A { D with ow := .no, hand := [] }) ∧ (x.bS = false → 1 ≤ D.pushed ∧ PX g m at_ A { D with ow := .no, hand := [], seen := bm D.seen (D.pushed - 1).toNat 1 }) := by
  obtain ⟨S, ph, ls, T, O, val, o, ow, Bw, hand, zs, P, last, seen, pushed, N, U⟩ := D
  obtain ⟨a, b, c, d, W, f, V⟩ := E
  have hx : ow = .push x := hx
  subst hx
  have W : OwI A g ls T O val o (.push x) ph Bw hand := W
  cases W with
  | u7 v t now al cp bS hb =>
    refine ⟨rfl, rfl, rfl, fun h => ?_, fun h => ?_⟩
    · have h : bS = true := h
      subst h
      exact ⟨a, b, c, d, .idle hb, f, VI.bS V⟩
    · have h : bS = false := h
      subst h
      obtain ⟨p1, V⟩ := VI.lost (seen' := bm seen (pushed - 1).toNat 1) V rfl (bf _ _ _) (fun i e => bB _ _ e)
      exact ⟨p1, a, b, c, d, .idle hb, f, V⟩
  | _ => cases hw
theorem PX.popped (E : PX g m at_ A D) (hx : D.ow = .pop y) (hw : y.what = 5) : D.hand = (if y.ok = true then [y.v] else []) ∧ (y.ok = false → D.T = D.O ∧ PX g m at_ A { D with ow := .no, hand := [] }) ∧ (y.ok = true → (100 ≤ y.v ∧ y.v < 100 + D.pushed) ∧ PX g m at_ A { D with ow := .no, hand := [], seen := bm D.seen (y.v - 100).toNat (D.seen (y.v - 100).toNat + 1) }) := by
  obtain ⟨S, ph, ls, T, O, val, o, ow, Bw, hand, zs, P, last, seen, pushed, N, U⟩ := D
  obtain ⟨a, b, c, d, W, f, V⟩ := E
  have hx : ow = .pop y := hx
  subst hx
  have W : OwI A g ls T O val o (.pop y) ph Bw hand := W
  cases W with
  | p5 t v ok hb hT =>
    refine ⟨rfl, fun h => ?_, fun h => ?_⟩
    · have h : ok = false := h
      subst h
      exact ⟨hT rfl, a, b, c, d, .idle hb, f, VI.bS V⟩
    · have h : ok = true := h
      subst h
      obtain ⟨p1, V⟩ := VI.got (x := v) (seen' := bm seen (v - 100).toNat (seen (v - 100).toNat + 1)) V rfl (bf _ _ _) (fun i e => bB _ _ e)
      exact ⟨p1, a, b, c, d, .idle hb, f, V⟩
  | _ => cases hw
end
@[reducible] def fQ : List Sh1 := [(.leaf .bool), (.leaf (.int .i64))]
noncomputable def fi (p0 : Option Addr) (p1 : Value) (y1 : HL Sh1.T fQ) : Tree :=
 bif (decide ((y1.2.1 : Int) < 4000)) then (
 .call cu [(.pointer p0)] (.one (.leaf (.int .i64))) fun x13 =>
 .act (opS Tryz.prog (.call { callee := .invoke (.tmp 0) "Step", args := #[(.tmp 1)], argTypes := #[aK] }) aO [p1, (.pointer p0)]) (.one (.leaf .bool)) fun x16 =>
 .call cu [(.pointer p0)] (.one (.leaf (.int .i64))) fun x18 =>
 bif (decide ((x18 : Int) > (w64 (x13 + 1)))) then (
 .ret (.bool false))
 else (
 bif x16 then (
 .ret (.bool true))
 else (
 .again 128 [(.bool y1.1), (.int .i64 (w64 (y1.2.1 + 1)))])))
 else (
 .ret (.bool false))
noncomputable def kS (p0 : Option Addr) (p1 : Value) : Tree :=
 .loop 128 fQ [(.bool false), (.int .i64 0)] (fi p0 p1)
theorem kF {p0 : Option Addr} {p1 : Value} : SpT bM #[(.pointer p0), p1] (kS p0 p1) := spT cJ Tryz.func15 (by kernel_rfl)
@[reducible] def fN : List Sh1 := [(.leaf .ptr), (.leaf (.int .i64))]
noncomputable def gL (p0 : Int) (x7 : Addr) (x34 : Addr) (y1 : HL Sh1.T fN) : Tree :=
 bif (decide ((y1.2.1 : Int) < p0)) then (
 .call jt [(.pointer (some x34)), (.int .i64 y1.2.1)] (.one (.leaf (.int .i64))) fun x68 =>
 bif ((x68 : Int) == 0) then (
 .ret (.pointer none))
 else (
 lkN (some x34) fun x72 =>
 .ld x72 .ptr fun x74 =>
 lkN (some x34) fun x76 =>
 .ld (x76.add 7) (.int .i64) fun x78 =>
 .ldA x7 [(.int .i64), (.int .i64), (.int .i64), (.int .i64), (.int .i64)] fun x81 =>
 lkN (some x34) fun x83 =>
 .ld (x83.add 1) .ptr fun x85 =>
 .call ug [(.pointer x74), (.int .i64 x78), (.int .i64 y1.2.1), (.int .i64 x68), (.agg #[(.int .i64 x81.1), (.int .i64 x81.2.1), (.int .i64 x81.2.2.1), (.int .i64 x81.2.2.2.1), (.int .i64 x81.2.2.2.2.1)]), (.pointer x85)] (.one (.leaf .ptr)) fun x86 =>
 .look (opS Tryz.prog (.binOp .eql cg (.tmp 0) (.const (.pointer none)) cg) aO [(.pointer x86)]) (.one (.leaf .bool)) fun x88 =>
 bif x88 then (
 .ret (.pointer none))
 else (
 lkN (some x34) fun x91 =>
 .ld (x91.add 8) .slice fun x93 =>
 .qB (.cells #[(.pointer x86)] cg) 1 fun x95 =>
 .act (opS Tryz.prog (.call { callee := .builtin .append, args := #[(.tmp 0), (.tmp 1)], argTypes := #[bN, bN] }) bN [(.slice x93.a x93.len x93.cap), (.slice x95.a x95.len x95.cap)]) (.one (.leaf .slice)) fun x96 =>
 lkN (some x34) fun x97 =>
 .st (x97.add 8) (.slice x96.a x96.len x96.cap) <|
 .again 512 [(.pointer y1.1), (.int .i64 (w64 (y1.2.1 + 1)))])))
 else (
 .ret (.pointer (some x34)))
noncomputable def oZ (p0 : Int) (p1 : Int) (p2 : Bool) : Tree :=
 .call sK [(.int .i64 p0), (.int .i64 p1)] (.tup [(.agg [(.int .i64), (.int .i64), (.int .i64), (.int .i64), (.int .i64)]), (.leaf (.int .i64))]) fun x17 =>
 .dk (.cells #[(.int .i64 0), (.int .i64 0), (.int .i64 0), (.int .i64 0), (.int .i64 0)] bn) fun x7 =>
 .stA x7 [(.int .i64 x17.1.1), (.int .i64 x17.1.2.1), (.int .i64 x17.1.2.2.1), (.int .i64 x17.1.2.2.2.1), (.int .i64 x17.1.2.2.2.2.1)] <|
 .call uh [(.int .i64 p0), (.int .i64 x17.2.1), (.bool p2)] (.one (.leaf (.int .i64))) fun x23 =>
 .ldA x7 [(.int .i64), (.int .i64), (.int .i64), (.int .i64), (.int .i64)] fun x24 =>
 .ldA x7 [(.int .i64), (.int .i64), (.int .i64), (.int .i64), (.int .i64)] fun x31 =>
 .call uc [(.int .i64 p0), (.int .i64 x17.2.1), (.bool p2), (.int .i64 2), (.agg #[(.int .i64 x31.1), (.int .i64 x31.2.1), (.int .i64 x31.2.2.1), (.int .i64 x31.2.2.2.1), (.int .i64 x31.2.2.2.2.1)])] (.one (.leaf .ptr)) fun x32 =>
 .check (ldAS x7 5 0 #[]) (.agg #[(.int .i64 x24.1), (.int .i64 x24.2.1), (.int .i64 x24.2.2.1), (.int .i64 x24.2.2.2.1), (.int .i64 x24.2.2.2.2.1)]) <|
 .dk (.cells #[(.pointer none), (.pointer x32), (.int .i64 x24.1), (.int .i64 x24.2.1), (.int .i64 x24.2.2.1), (.int .i64 x24.2.2.2.1), (.int .i64 x24.2.2.2.2.1), (.int .i64 (w64 (x17.2.1 + x23))), (.slice none 0 0)] bI) fun x34 =>
 .cU uG [(.int .i64 p0), (.int .i64 (w64 (x17.2.1 + x23)))] (.one (.leaf (.int .i64))) fun x43 =>
 .call pz [(.int .i64 (w64 ((w64 (x17.2.1 + x23)) + x43))), (.int .i64 p1), (.bool false)] (.one (.leaf .ptr)) fun x46 =>
 lkN (some x34) fun x47 =>
 .st x47 (.pointer x46) <|
 lkN (some x34) fun x50 =>
 .ld x50 .ptr fun x52 =>
 .look (opS Tryz.prog (.binOp .eql aK (.tmp 0) (.const (.pointer none)) aK) aO [(.pointer x52)]) (.one (.leaf .bool)) fun x53 =>
 bif x53 then (
 .ret (.pointer none))
 else (
 lkN (some x34) fun x56 =>
 .ld (x56.add 1) .ptr fun x58 =>
 .look (opS Tryz.prog (.binOp .eql jG (.tmp 0) (.const (.pointer none)) jG) aO [(.pointer x58)]) (.one (.leaf .bool)) fun x59 =>
 bif x59 then (
 .ret (.pointer none))
 else (
 .loop 512 fN [(.pointer none), (.int .i64 0)] (gL p0 x7 x34)))
theorem qK {p0 : Int} {p1 : Int} {p2 : Bool} : SpT iM #[(.int .i64 p0), (.int .i64 p1), (.bool p2)] (oZ p0 p1 p2) := spT cJ Tryz.func9 (by kernel_rfl)
noncomputable def ni : Tree :=
 .call iM [(.int .i64 2), (.int .i64 64), (.bool false)] (.one (.leaf .ptr)) fun x8 =>
 .look (opS Tryz.prog (.binOp .eql fL (.tmp 0) (.const (.pointer none)) fL) aO [(.pointer x8)]) (.one (.leaf .bool)) fun x10 =>
 bif x10 then (
 .ret (.bool false))
 else (
 lkN x8 fun x13 =>
 .ld x13 .ptr fun x15 =>
 lkN x8 fun x17 =>
 .ld (x17.add 8) .slice fun x19 =>
 .look (opS Tryz.prog (.indexAddr bN (.tmp 0) (.const (.int .i64 0))) aF [(.slice x19.a x19.len x19.cap)]) (.one (.leaf .addr)) fun x20 =>
 .ld x20 .ptr fun x21 =>
 .call gx [(.pointer x21), (.int .i64 77)] (.one (.leaf .ptr)) fun x22 =>
 .check (ldS x13) (.pointer x15) <|
 .check (nck x8) (.pointer (some x13)) <|
 .call bM [(.pointer x15), (.iface cz (.pointer x22))] (.one (.leaf .bool)) fun x24 =>
 bif (!x24) then (
 .ret (.bool false))
 else (
 lkN x8 fun x28 =>
 .ld (x28.add 7) (.int .i64) fun x30 =>
 lkN x8 fun x32 =>
 .ld (x32.add 1) .ptr fun x34 =>
 lkN x8 fun x37 =>
 .ld (x37.add 7) (.int .i64) fun x39 =>
 lkN x8 fun x41 =>
 .ld (x41.add 1) .ptr fun x43 =>
 .call jo [(.int .i64 x30), (.pointer x34), (.int .i64 1), (.int .i64 0), (.int .i64 0), (.int .i64 0)] (.one (.leaf .ptr)) fun x35 =>
 .check (ldS (x41.add 1)) (.pointer x43) <|
 .check (nck x8) (.pointer (some x41)) <|
 .check (ldS (x37.add 7)) (.int .i64 x39) <|
 .check (nck x8) (.pointer (some x37)) <|
 .call jo [(.int .i64 x39), (.pointer x43), (.int .i64 1), (.int .i64 0), (.int .i64 0), (.int .i64 0)] (.one (.leaf .ptr)) fun x44 =>
 .look (opS Tryz.prog (.binOp .eql ae (.tmp 0) (.const (.pointer none)) ae) aO [(.pointer x35)]) (.one (.leaf .bool)) fun x46 =>
 bif x46 then (
 .ret (.bool false))
 else (
 .look (opS Tryz.prog (.binOp .eql ae (.tmp 0) (.const (.pointer none)) ae) aO [(.pointer x44)]) (.one (.leaf .bool)) fun x49 =>
 bif x49 then (
 .ret (.bool false))
 else (
 lkN x8 fun x53 =>
 .ld x53 .ptr fun x55 =>
 .call bM [(.pointer x55), (.iface ae (.pointer x35))] (.one (.leaf .bool)) fun x58 =>
 bif (!x58) then (
 .ret (.bool false))
 else (
 lkN x8 fun x63 =>
 .ld x63 .ptr fun x65 =>
 .call bM [(.pointer x65), (.iface ae (.pointer x44))] (.one (.leaf .bool)) fun x68 =>
 bif (!x68) then (
 .ret (.bool false))
 else (
 .call dy [(.pointer x35)] (.tup [(.leaf (.int .i64)), (.leaf .bool)]) fun x73 =>
 .call dy [(.pointer x44)] (.tup [(.leaf (.int .i64)), (.leaf .bool)]) fun x78 =>
 bif x73.2.1 then (
 bif ((x73.1 : Int) == 77) then (
 .ret (.bool (!x78.2.1)))
 else (
 .ret (.bool false)))
 else (
 .ret (.bool false))))))))
theorem qe : SpT jV #[] (ni ) := spT cJ Tryz.func20 (by kernel_rfl)
noncomputable def mF (p0 : Option Addr) (p1 : Int) : Tree :=
 lkN p0 fun x9 =>
 .ldA (x9.add 2) [(.int .i64), (.int .i64), (.int .i64), (.int .i64), (.int .i64)] fun x11 =>
 .call iS [(.agg #[(.int .i64 x11.1), (.int .i64 x11.2.1), (.int .i64 x11.2.2.1), (.int .i64 x11.2.2.2.1), (.int .i64 x11.2.2.2.2.1)]), (.int .i64 p1), (.int .i64 0)] (.one (.leaf .ptr)) fun x13 =>
 .look (opS Tryz.prog (.binOp .eql gT (.tmp 0) (.const (.pointer none)) gT) aO [(.pointer x13)]) (.one (.leaf .bool)) fun x15 =>
 bif x15 then (
 .ret (.int .i64 0))
 else (
 lkN p0 fun x18 =>
 .ld x18 .ptr fun x20 =>
 .call bM [(.pointer x20), (.iface gT (.pointer x13))] (.one (.leaf .bool)) fun x23 =>
 bif (!x23) then (
 .ret (.int .i64 0))
 else (
 .call ig [(.pointer x13)] (.tup [(.leaf (.int .i64)), (.leaf .bool)]) fun x28 =>
 .ret (.int .i64 x28.1)))
theorem o8 {p0 : Option Addr} {p1 : Int} : SpT jt #[(.pointer p0), (.int .i64 p1)] (mF p0 p1) := spT cJ Tryz.func11 (by kernel_rfl)
theorem Hw {M J : Type} {X : sB M J} (hX : X.ok) {t : TypeId} (hinv : X.vX t) {I : List Nat} {G : Heap} {n : Nat} {m m' : M} {A A' : Ar} (h : X.gh n m A m' A') {L : aZ} :
    ∀ {i : Int} {b : Bool} {j : J} {R : Value → Heap → Prop}, (∀ j', Ok I G (keys (X.bl m' j')) → X.rep m' j' → Aw I A' → X.addr j' = X.addr j → R (.bool true) (own A' (X.bl m' j') G)) → Aw I A → Ok I G (keys (X.bl m j)) → X.rep m j → 0 ≤ i → i + n ≤ 4000 →
      wp Tryz.prog (.loop 128 fQ [(.bool b), (.int .i64 i)] (fi (aI I) (.iface t (.pointer (some ⟨X.addr j, 0, none⟩))))) L (own A (X.bl m j) G) R := by
  induction h with
  | @one m A m1 A1 hi hst hu hf =>
    intro i b j R hR hA ok rp h0 h1
    refine bT (b, i, ()) rfl ?_
    rw [fi]
    refine av (ilt (by show i < 4000; omega)) ?_
    refine p7 hA ?_
    refine bZ (hinv _ _) ?_
    refine aR (hX I A G m j hA ok rp hi) ?_
    rintro v K ⟨j', rfl, rfl, ha, ok', rp', hA'⟩
    rw [hst] at ok' rp' hA' ⊢
    refine ⟨true, by rw [hf], ?_⟩
    refine p7 hA' ?_
    refine af (zk hu) ?_
    exact av rfl (ad (hR j' ok' rp' hA' ha))
  | @more n m A m1 A1 m' A' hi hst hu hf hr ih =>
    intro i b j R hR hA ok rp h0 h1
    refine bT (b, i, ()) rfl ?_
    rw [fi]
    refine av (ilt (by show i < 4000; omega)) ?_
    refine p7 hA ?_
    refine bZ (hinv _ _) ?_
    refine aR (hX I A G m j hA ok rp hi) ?_
    rintro v K ⟨j', rfl, rfl, ha, ok', rp', hA'⟩
    rw [hst] at ok' rp' hA' ⊢
    refine ⟨false, by rw [hf], ?_⟩
    refine p7 hA' ?_
    refine af (zk hu) (af rfl (cR ?_))
    have e : w64 (i + 1) = i + 1 := aE (by omega) (by omega)
    rw [e, ← ha]
    exact ih (fun j2 k1 k2 k3 k4 => hR j2 k1 k2 k3 (k4.trans ha)) hA' ok' rp' (by omega) (by omega)
theorem z9 {M J : Type} {X : sB M J} (hX : X.ok) {t : TypeId} (hinv : X.vX t) {I : List Nat} {G : Heap} {n : Nat} {m m' : M} {A A' : Ar} (h : X.gh n m A m' A') (hn : n ≤ 4000) {j : J} {rest : Bl} (hA : Aw I A) (ok : Ok I G (keys (X.bl m j ++ rest))) (rp : X.rep m j)
    {L : aZ} {R : Value → Heap → Prop} {k : Bool → Tree} (hk : ∀ j', X.addr j' = X.addr j → Aw I A' → Ok I G (keys (X.bl m' j' ++ rest)) → X.rep m' j' → wp Tryz.prog (k true) L (own A' (X.bl m' j' ++ rest) G) R) :
    wp Tryz.prog (.call bM [.pointer (aI I), .iface t (.pointer (some ⟨X.addr j, 0, none⟩))] (.one (.leaf .bool)) k) L (own A (X.bl m j ++ rest) G) R := by
  rw [bP] at ok
  obtain ⟨o1, o2⟩ := ok.split
  refine rh (R0 := fun v K => ∃ j', v = .bool true ∧ K = own A' (X.bl m' j') (dO rest G) ∧ Ok I (dO rest G) (keys (X.bl m' j')) ∧ X.rep m' j' ∧ Aw I A' ∧ X.addr j' = X.addr j) ?_ ?_
  · refine kF fun L => ?_
    unfold kS
    exact Hw hX hinv h (fun j' a b c d => ⟨j', rfl, rfl, a, b, c, d⟩) hA o1 rp (Int.le_refl 0) (by omega)
  · rintro v K ⟨j', rfl, rfl, ok', rp', hA', ha⟩
    refine ⟨true, rfl, ?_⟩
    rw [← dY]
    exact hk j' ha hA' (by rw [bP]; exact ok'.join o2) rp'
def NQ {M J : Type} (X : sB M J) (F : Nat → M → Ar → Prop) (E : M → Ar → Prop) : Prop := ∀ n m A, A.wf → F n m A → X.inv m A ∧ ∃ m1 A1, X.step m A = (m1, A1) ∧ A1.aD ≤ w64 (A.aD + 1) ∧ ((X.fin m1 = true ∧ E m1 A1) ∨ (X.fin m1 = false ∧ ∃ n', n' < n ∧ F n' m1 A1))
theorem Gg {M J : Type} {X : sB M J} (hX : X.ok) {t : TypeId} (hinv : X.vX t) {F : Nat → M → Ar → Prop} {E : M → Ar → Prop} (hF : NQ X F E) {I : List Nat} {G : Heap} {L : aZ} : ∀ (k n : Nat) (m : M) (A : Ar), n ≤ k → F n m A →
    ∀ (i : Int) (b : Bool) (j : J) (R : Value → Heap → Prop), (∀ m' A' j', E m' A' → Ok I G (keys (X.bl m' j')) → X.rep m' j' → Aw I A' → X.addr j' = X.addr j → R (.bool true) (own A' (X.bl m' j') G)) → Aw I A → Ok I G (keys (X.bl m j)) → X.rep m j → 0 ≤ i → i + n < 4000 →
      wp Tryz.prog (.loop 128 fQ [(.bool b), (.int .i64 i)] (fi (aI I) (.iface t (.pointer (some ⟨X.addr j, 0, none⟩))))) L (own A (X.bl m j) G) R
  | k, n, m, A, hk, h => by
    intro i b j R hR hA ok rp h0 h1
    obtain ⟨hi, m1, A1, hst, hu, ho⟩ := hF n m A hA.wf h
    refine bT (b, i, ()) rfl ?_
    rw [fi]
    refine av (ilt (by show i < 4000; omega)) ?_
    refine p7 hA ?_
    refine bZ (hinv _ _) ?_
    refine aR (hX I A G m j hA ok rp hi) ?_
    rintro v K ⟨j', rfl, rfl, ha, ok', rp', hA'⟩
    rw [hst] at ok' rp' hA' ⊢
    rcases ho with ⟨hf, e⟩ | ⟨hf, n', hn, h'⟩
    · refine ⟨true, by rw [hf], ?_⟩
      refine p7 hA' ?_
      refine af (zk hu) ?_
      exact av rfl (ad (hR m1 A1 j' e ok' rp' hA' ha))
    · cases k with
      | zero => omega
      | succ k =>
        refine ⟨false, by rw [hf], ?_⟩
        refine p7 hA' ?_
        refine af (zk hu) (af rfl (cR ?_))
        have e : w64 (i + 1) = i + 1 := aE (by omega) (by omega)
        rw [e, ← ha]
        exact Gg hX hinv hF k n' m1 A1 (by omega) h' _ _ _ _ (fun m2 A2 j2 e2 k1 k2 k3 k4 => hR m2 A2 j2 e2 k1 k2 k3 (k4.trans ha)) hA' ok' rp' (by omega) (by omega)
theorem EN {M J : Type} {X : sB M J} (hX : X.ok) {t : TypeId} (hinv : X.vX t) {F : Nat → M → Ar → Prop} {E : M → Ar → Prop} (hF : NQ X F E) {I : List Nat} {G : Heap} {n : Nat} {m : M} {A : Ar} (h : F n m A) (hn : n < 4000) {j : J} {rest : Bl} (hA : Aw I A) (ok : Ok I G (keys (X.bl m j ++ rest))) (rp : X.rep m j)
    {L : aZ} {R : Value → Heap → Prop} {k : Bool → Tree} (hk : ∀ m' A' j', E m' A' → X.addr j' = X.addr j → Aw I A' → Ok I G (keys (X.bl m' j' ++ rest)) → X.rep m' j' → wp Tryz.prog (k true) L (own A' (X.bl m' j' ++ rest) G) R) :
    wp Tryz.prog (.call bM [.pointer (aI I), .iface t (.pointer (some ⟨X.addr j, 0, none⟩))] (.one (.leaf .bool)) k) L (own A (X.bl m j ++ rest) G) R := by
  rw [bP] at ok
  obtain ⟨o1, o2⟩ := ok.split
  refine rh (R0 := fun v K => ∃ m' A' j', v = .bool true ∧ K = own A' (X.bl m' j') (dO rest G) ∧ E m' A' ∧ Ok I (dO rest G) (keys (X.bl m' j')) ∧ X.rep m' j' ∧ Aw I A' ∧ X.addr j' = X.addr j) ?_ ?_
  · refine kF fun L => ?_
    unfold kS
    exact Gg hX hinv hF n n m A (Nat.le_refl _) h _ _ _ _ (fun m' A' j' e a b c d => ⟨m', A', j', rfl, rfl, e, a, b, c, d⟩) hA o1 rp (Int.le_refl 0) (by omega)
  · rintro v K ⟨m', A', j', rfl, rfl, e, ok', rp', hA', ha⟩
    refine ⟨true, rfl, ?_⟩
    rw [← dY]
    exact hk m' A' j' e ha hA' (by rw [bP]; exact ok'.join o2) rp'
end Go.Proofs.YtjnacjniiogjcaaGreat
