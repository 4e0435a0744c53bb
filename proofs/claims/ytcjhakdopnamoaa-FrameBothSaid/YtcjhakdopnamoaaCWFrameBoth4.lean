/- Texts of this claim, one behind the other. -/
import Derived.Test.YtcjhakdopnamoaaCWFrameBoth3
set_option linter.unusedSimpArgs false
set_option linter.unusedVariables false
set_option linter.unusedVariables false
set_option linter.unusedSimpArgs false
set_option maxRecDepth 20000
namespace Go.Proofs.Ytcjhakdopnamoaa
open Go Go.Fw

/-! ### Machines of lists, whatever falls between their steps -/

theorem rawF_set1 {A : Ar} {i j v : Int} (hi : A.rawOk i) : (A.setR i.toNat v).rawF j = if j = i then v else A.rawF j := by
  unfold Ar.rawOk at hi
  by_cases hj : A.rawOk j
  · have hj' : (A.setR i.toNat v).rawOk j := by unfold Ar.rawOk Ar.setR at *; simpa using hj
    rw [← getD_rawF hj', ← getD_rawF hj]
    unfold Ar.rawOk at hj
    show (A.raw.set i.toNat v).getD j.toNat 0 = _
    rw [List.getD_eq_getElem?_getD, List.getElem?_set]
    by_cases e : j = i
    · rw [if_pos e, if_pos (by rw [e]), if_pos (by omega)]; rfl
    · rw [if_neg e, if_neg (by omega), List.getD_eq_getElem?_getD]
  · have hj' : ¬ (A.setR i.toNat v).rawOk j := by unfold Ar.rawOk Ar.setR at *; simpa using hj
    have e : ¬ j = i := fun e => hj (e ▸ hi)
    rw [if_neg e]; unfold Ar.rawF; rw [if_neg hj, if_neg hj']

theorem set_self {l : List Int} {i : Nat} {v : Int} (hi : i < l.length) (h : l.getD i 0 = v) : l.set i v = l := by
  rw [List.getD_eq_getElem?_getD, List.getElem?_eq_getElem hi] at h
  have h : l[i] = v := h
  rw [← h]; exact List.set_getElem_self hi

/-- Words turned, one use. -/
structure RStep (w n : Int) (A B : Ar) : Prop where
  eq : ∃ r : List Int, B = { A with raw := r, uses := A.uses + 1 } ∧ r.length = A.raw.length
  up : ∀ i, 4 * w + n ≤ i → B.rawF i = A.rawF i

/-- What the step of another one leaves; mb: the base whose link it may turn. -/
structure FEv (w n : Int) (A B : Ar) (mb : Int) : Prop where
  hd : ∀ k, 0 ≤ k → k < 4 * w → A.rawF k / 131072 ≤ B.rawF k / 131072 ∧ (A.rawF k / 131072 = B.rawF k / 131072 → B.rawF k = A.rawF k)
  lk : ∀ b, 0 ≤ b → b % 8 = 0 → b / 8 < n → b ≠ mb → B.rawF (4 * w + b / 8) = A.rawF (4 * w + b / 8)

section
variable {A B : Ar} {p : Pl} {w n k b : Int} {ch : Int → List Int}

theorem FEv.same {mb : Int} (h : ∀ i, 0 ≤ i → i < 4 * w + n → B.rawF i = A.rawF i) (wb : 0 ≤ w) (nb : 0 ≤ n) : FEv w n A B mb :=
  ⟨fun k h0 h1 => by rw [h k h0 (by omega)]; exact ⟨Int.le_refl _, fun _ => rfl⟩, fun b h0 h1 h2 _ => h _ (by omega) (by omega)⟩
theorem FEv.trans {C : Ar} {mb : Int} (h : FEv w n A B mb) (g : FEv w n B C mb) : FEv w n A C mb :=
  ⟨fun k h0 h1 => by
    obtain ⟨a1, a2⟩ := h.hd k h0 h1
    obtain ⟨b1, b2⟩ := g.hd k h0 h1
    exact ⟨by omega, fun e => by rw [b2 (by omega), a2 (by omega)]⟩, fun b h0 h1 h2 h3 => by rw [g.lk b h0 h1 h2 h3, h.lk b h0 h1 h2 h3]⟩

theorem FL.same (F : FL B p w n ch) (hr : ∀ i, A.rawF i = B.rawF i) (hl : A.raw.length = B.raw.length) (us : 0 ≤ A.uses) (hd : ∀ k, 0 ≤ k → k < 4 * w → A.rawF k / 131072 ≤ A.uses) : FL A p w n ch where
  heads := F.heads
  links := F.links
  wb := F.wb
  nb := F.nb
  len := by rw [hl]; exact F.len
  us := us
  hd k h0 h1 := ⟨by rw [hr]; exact (F.hd k h0 h1).1, hd k h0 h1⟩
  chn k h0 h1 := by
    rw [hr]
    exact chain_frame (fun i => by unfold Ar.rawOk; rw [hl]) _ _ (fun x _ => hr _) (F.chn k h0 h1)
  mem := F.mem
  nd := F.nd
  dj := F.dj
  rg := F.rg

theorem FL.tick (F : FL A p w n ch) : FL (A.later 1) p w n ch := F.congr (fun _ _ _ => rfl) rfl (by show A.uses ≤ A.uses + 1; omega)

/-- A head that was swapped. -/
theorem FL.pop1 (F : FL A p w n ch) (hu : A.uses ≤ 1000000000) {l : List Int} (hk : ch k = b :: l) :
    FL ((A.later 1).setR k.toNat (nextF (A.rawF k) (A.rawF (4 * w + b / 8)))) p w n (upd ch k l) ∧ FEv w n A ((A.later 1).setR k.toNat (nextF (A.rawF k) (A.rawF (4 * w + b / 8)))) (-1) := by
  obtain ⟨h0, h1⟩ := F.rg k (by rw [hk]; simp)
  have wb := F.wb
  have nb := F.nb
  have us := F.us
  have o1 := F.hdOk h0 h1
  have hkd := F.hd k h0 h1
  have hch := F.chn k h0 h1
  rw [hk] at hch
  have hc := chain_pop (A := A) (lk := 4 * w) (hd := k) (b := b) (l := l) (by rw [mod17]; exact hch) o1 (by omega) (fun x hx => by
    obtain ⟨a1, a2, a3⟩ := F.mem k x (by rw [hk]; exact hx)
    exact ⟨a2, a1, by omega, F.lkOk a1 a3, by omega⟩)
  have rf : ∀ j, ((A.later 1).setR k.toNat (nextF (A.rawF k) (A.rawF (4 * w + b / 8)))).rawF j = if j = k then nextF (A.rawF k) (A.rawF (4 * w + b / 8)) else A.rawF j := fun j => rawF_set1 (A := A.later 1) o1
  have nx : nextF (A.rawF k) (A.rawF (4 * w + b / 8)) = (A.rawF k / 131072 + 1) * 131072 + A.rawF (4 * w + b / 8) := nextF_eq (by omega) (by omega) hc.2.2.2.1 hc.2.2.2.2
  have b0 := hc.2.2.2.1
  have b1 := hc.2.2.2.2
  refine ⟨(F.pop hu hk).same (fun i => rawF_congr rfl i) (by show (A.raw.set _ _).length = (A.raw.set _ _).length; rw [List.length_set]) (by show 0 ≤ A.uses + 1; omega) fun j j0 j1 => ?_, fun j j0 j1 => ?_, fun c c0 c1 c2 _ => ?_⟩
  · rw [rf]
    show _ ≤ A.uses + 1
    by_cases e : j = k
    · rw [if_pos e, nx]; omega
    · rw [if_neg e]; have := F.hd j j0 j1; omega
  · rw [rf]
    by_cases e : j = k
    · rw [if_pos e, nx, e]; exact ⟨by omega, fun h => by omega⟩
    · rw [if_neg e]; exact ⟨Int.le_refl _, fun _ => rfl⟩
  · rw [rf, if_neg (by omega)]

theorem FL.push1 (F : FL A p w n ch) (hu : A.uses ≤ 1000000000) (h0 : 0 ≤ k) (h1 : k < 4 * w) (hb : 0 ≤ b ∧ b % 8 = 0 ∧ b / 8 < n) (hn : ∀ j, b ∉ ch j) (hl : A.rawF (4 * w + b / 8) = A.rawF k % 131072) :
    FL ((A.later 1).setR k.toNat (nextF (A.rawF k) (b / 8 + 1))) p w n (upd ch k (b :: ch k)) ∧ FEv w n A ((A.later 1).setR k.toNat (nextF (A.rawF k) (b / 8 + 1))) (-1) := by
  have wb := F.wb
  have nb := F.nb
  have us := F.us
  have o1 := F.hdOk h0 h1
  have o2 := F.lkOk hb.1 hb.2.2
  have hkd := F.hd k h0 h1
  have td : Int.tdiv b 8 = b / 8 := Int.tdiv_eq_ediv_of_nonneg hb.1
  have e1 : w64 (w64 (Int.tdiv b 8) + 1) = b / 8 + 1 := by rw [td, w64_in (x := b / 8) (by omega) (by omega), w64_in (by omega) (by omega)]
  have rf : ∀ j, ((A.later 1).setR k.toNat (nextF (A.rawF k) (b / 8 + 1))).rawF j = if j = k then nextF (A.rawF k) (b / 8 + 1) else A.rawF j := fun j => rawF_set1 (A := A.later 1) o1
  have nx : nextF (A.rawF k) (b / 8 + 1) = (A.rawF k / 131072 + 1) * 131072 + (b / 8 + 1) := nextF_eq (by omega) (by omega) (by omega) (by omega)
  have hraw : ((A.later 1).setR k.toNat (nextF (A.rawF k) (b / 8 + 1))).raw = (A.pushed k (4 * w + b / 8) b).raw := by
    show A.raw.set k.toNat _ = (A.raw.set (4 * w + b / 8).toNat (iand (A.rawF k) 131071)).set k.toNat (nextF (A.rawF k) (w64 (w64 (Int.tdiv b 8) + 1)))
    rw [e1, set_self (l := A.raw) (i := (4 * w + b / 8).toNat) (v := iand (A.rawF k) 131071) (by unfold Ar.rawOk at o2; omega) (by rw [getD_rawF o2, hl, mod17])]
  refine ⟨(F.push hu h0 h1 hb hn).same (fun i => rawF_congr hraw i) (by rw [hraw]) (by show 0 ≤ A.uses + 1; omega) fun j j0 j1 => ?_, fun j j0 j1 => ?_, fun c c0 c1 c2 _ => ?_⟩
  · rw [rf]
    show _ ≤ A.uses + 1
    by_cases e : j = k
    · rw [if_pos e, nx]; omega
    · rw [if_neg e]; have := F.hd j j0 j1; omega
  · rw [rf]
    by_cases e : j = k
    · rw [if_pos e, nx, e]; exact ⟨by omega, fun h => by omega⟩
    · rw [if_neg e]; exact ⟨Int.le_refl _, fun _ => rfl⟩
  · rw [rf, if_neg (by omega)]

/-- The link of a base that is in no list. -/
theorem FL.link1 (F : FL A p w n ch) (hb : 0 ≤ b ∧ b % 8 = 0 ∧ b / 8 < n) (hn : ∀ j, b ∉ ch j) (v : Int) :
    FL ((A.later 1).setR (4 * w + b / 8).toNat v) p w n ch ∧ FEv w n A ((A.later 1).setR (4 * w + b / 8).toNat v) b := by
  have wb := F.wb
  have nb := F.nb
  have us := F.us
  have o2 := F.lkOk hb.1 hb.2.2
  have rf : ∀ j, ((A.later 1).setR (4 * w + b / 8).toNat v).rawF j = if j = 4 * w + b / 8 then v else A.rawF j := fun j => rawF_set1 (A := A.later 1) o2
  refine ⟨⟨F.heads, F.links, F.wb, F.nb, by show _ ≤ ((A.raw.set _ _).length : Int); rw [List.length_set]; exact F.len, by show 0 ≤ A.uses + 1; omega, fun j j0 j1 => ?_, fun j j0 j1 => ?_, F.mem, F.nd, F.dj, F.rg⟩, fun j j0 j1 => ?_, fun c c0 c1 c2 c3 => ?_⟩
  · rw [rf, if_neg (by omega)]
    show _ ∧ _ ≤ A.uses + 1
    have := F.hd j j0 j1; omega
  · rw [rf, if_neg (by omega)]
    refine chain_frame (fun i => by unfold Ar.rawOk; show _ ∧ i < ((A.raw.set _ _).length : Int) ↔ _; rw [List.length_set]) _ _ (fun x hx => ?_) (F.chn j j0 j1)
    obtain ⟨a1, a2, a3⟩ := F.mem j x hx
    have : x ≠ b := fun e => hn j (e ▸ hx)
    rw [rf, if_neg (by omega)]
  · rw [rf, if_neg (by omega)]; exact ⟨Int.le_refl _, fun _ => rfl⟩
  · rw [rf, if_neg (by omega)]

/-- A pop under way. -/
structure PoI (p : Pl) (w n k : Int) (x : Po) (A : Ar) : Prop where
  pl : x.pl = p
  hd : x.head = k
  ok : x.ok = false
  ph : x.at' = 0 ∨ x.at' = 1 ∨ x.at' = 2
  was : x.at' ≠ 0 → 0 ≤ x.was ∧ x.was % 131072 ≠ 0 ∧ x.was % 131072 ≤ n ∧ x.was / 131072 ≤ A.rawF k / 131072 ∧ (x.was / 131072 = A.rawF k / 131072 → A.rawF k = x.was)
  link : x.at' = 2 → A.rawF k = x.was → x.link = A.rawF (4 * w + (x.was % 131072 - 1))

theorem PoI.new (hp : p.heads = 0) (wb : 0 ≤ w ∧ w ≤ 1000) {who c : Int} (h : headF p who c = k) : PoI p w n k ⟨p, headF p who c, 0, 0, 0, 0, false⟩ A := ⟨rfl, h, rfl, .inl rfl, fun h => (h rfl).elim, fun h => by cases h⟩

theorem PoI.keep {x : Po} (P : PoI p w n k x A) (F : FL A p w n ch) (h0 : 0 ≤ k) (h1 : k < 4 * w) {mb : Int} (hm : ∀ j, mb ∉ ch j) (E : FEv w n A B mb) : PoI p w n k x B := by
  obtain ⟨e1, e2⟩ := E.hd k h0 h1
  refine ⟨P.pl, P.hd, P.ok, P.ph, fun h => ?_, fun h hb => ?_⟩
  · obtain ⟨a1, a2, a3, a4, a5⟩ := P.was h
    exact ⟨a1, a2, a3, by omega, fun e => by rw [e2 (by omega)]; exact a5 (by omega)⟩
  · obtain ⟨a1, a2, a3, a4, a5⟩ := P.was (by omega)
    have t : A.rawF k / 131072 = B.rawF k / 131072 := by rw [hb] at e1 ⊢; omega
    have hA : A.rawF k = x.was := by rw [← hb]; exact (e2 t).symm
    rw [P.link h hA]
    obtain ⟨b, l, hbl⟩ : ∃ b l, ch k = b :: l := by
      cases hc : ch k with
      | nil => exact (a2 (by rw [← hA]; exact F.first_nil h0 h1 hc)).elim
      | cons b l => exact ⟨b, l, rfl⟩
    have hf := F.first_cons h0 h1 hbl
    rw [hA] at hf
    have hmem : b ∈ ch k := by rw [hbl]; simp
    obtain ⟨m1, m2, m3⟩ := F.mem k b hmem
    rw [hf, show b / 8 + 1 - 1 = b / 8 by omega]
    exact (E.lk b m1 m2 m3 fun e => hm k (e ▸ hmem)).symm

theorem rstep_later {w n : Int} {A : Ar} : RStep w n A (A.later 1) := ⟨⟨A.raw, rfl, rfl⟩, fun _ _ => rfl⟩
theorem rstep_set {i v : Int} (o : A.rawOk i) (h : i < 4 * w + n) : RStep w n A ((A.later 1).setR i.toNat v) := ⟨⟨A.raw.set i.toNat v, rfl, by rw [List.length_set]⟩, fun j hj => by rw [rawF_set1 (A := A.later 1) o, if_neg (by omega)]; rfl⟩

/-- A step of a pop: it goes on; it ends with nothing; it ends with a base. -/
theorem PoI.step {x : Po} (P : PoI p w n k x A) (F : FL A p w n ch) (hu : A.uses ≤ 1000000000) (h0 : 0 ≤ k) (h1 : k < 4 * w) :
    (x.stepB A = false ∧ x.stepA A = A.later 1 ∧ PoI p w n k (x.stepM A) (A.later 1)) ∨
    (x.stepB A = true ∧ x.stepA A = A.later 1 ∧ (x.stepM A).ok = false ∧ ch k = []) ∨
    (x.stepB A = true ∧ (x.stepM A).ok = true ∧ ∃ b l, ch k = b :: l ∧ (x.stepM A).base = b ∧ x.stepA A = (A.later 1).setR k.toNat (nextF (A.rawF k) (A.rawF (4 * w + b / 8)))) := by
  have us := F.us
  have wb := F.wb
  have nb := F.nb
  have o1 := F.hdOk h0 h1
  have hkd := F.hd k h0 h1
  have tk : A.tick = A.later 1 := tick_uses us (by omega)
  have eh := P.hd
  rcases P.ph with h | h | h
  · have s := Po.s0 (A := A) h (by rw [eh]; exact o1)
    rw [eh, tk] at s
    obtain ⟨s1, s2⟩ := Prod.mk.inj s
    have sb : x.stepB A = decide (A.rawF k % 131072 = 0) := by
      unfold Po.stepB; rw [if_neg (by omega), if_neg (by omega), if_neg (by omega), eh, mod17]
    by_cases c : A.rawF k % 131072 = 0
    · right; left
      refine ⟨by rw [sb, decide_eq_true c], s2, by rw [s1]; exact P.ok, ?_⟩
      cases hc : ch k with
      | nil => rfl
      | cons b l =>
        have := F.first_cons h0 h1 hc
        have := F.mem k b (by rw [hc]; simp)
        omega
    · left
      refine ⟨by rw [sb, decide_eq_false c], s2, ?_⟩
      rw [s1, if_neg c]
      obtain ⟨b, l, hbl⟩ : ∃ b l, ch k = b :: l := by
        cases hc : ch k with
        | nil => exact (c (F.first_nil h0 h1 hc)).elim
        | cons b l => exact ⟨b, l, rfl⟩
      have hf := F.first_cons h0 h1 hbl
      obtain ⟨m1, m2, m3⟩ := F.mem k b (by rw [hbl]; simp)
      exact ⟨P.pl, rfl, P.ok, .inr (.inl rfl), fun _ => ⟨hkd.1, c, by show A.rawF k % 131072 ≤ n; omega, Int.le_refl _, fun _ => rfl⟩, fun h => by cases h⟩
  · left
    obtain ⟨a1, a2, a3, a4, a5⟩ := P.was (by omega)
    have el : w64 (w64 (x.pl.links + x.was % 131072) - 1) = 4 * w + (x.was % 131072 - 1) := by
      rw [P.pl, F.links, w64_in (x := 4 * w + x.was % 131072) (by omega) (by omega), w64_in (by omega) (by omega)]; omega
    have o2 : A.rawOk (4 * w + (x.was % 131072 - 1)) := ⟨by omega, by have := F.len; omega⟩
    have s := Po.s1 (A := A) h el o2
    rw [tk] at s
    obtain ⟨s1, s2⟩ := Prod.mk.inj s
    refine ⟨by unfold Po.stepB; rw [if_pos h], s2, ?_⟩
    rw [s1]
    exact ⟨P.pl, P.hd, P.ok, .inr (.inr rfl), fun _ => ⟨a1, a2, a3, a4, a5⟩, fun _ _ => rfl⟩
  · obtain ⟨a1, a2, a3, a4, a5⟩ := P.was (by omega)
    have sb : x.stepB A = A.swapRb x.head x.was := by unfold Po.stepB; rw [if_neg (by omega), if_pos h]
    by_cases c : A.rawF k = x.was
    · right; right
      have s := Po.s2y (A := A) h (by rw [eh]; exact o1) (by rw [eh]; exact c)
      rw [eh, tk] at s
      obtain ⟨s1, s2⟩ := Prod.mk.inj s
      have sw : A.swapRb x.head x.was = true := by rw [eh]; exact decide_eq_true ⟨o1, by rw [getD_rawF o1]; exact c⟩
      obtain ⟨b, l, hbl⟩ : ∃ b l, ch k = b :: l := by
        cases hc : ch k with
        | nil => exact (a2 (by rw [← c]; exact F.first_nil h0 h1 hc)).elim
        | cons b l => exact ⟨b, l, rfl⟩
      have hf := F.first_cons h0 h1 hbl
      rw [c] at hf
      obtain ⟨m1, m2, m3⟩ := F.mem k b (by rw [hbl]; simp)
      refine ⟨by rw [sb, sw], by rw [s1], b, l, hbl, ?_, ?_⟩
      · rw [s1]
        show w64 (w64 (x.was % 131072 - 1) * 8) = b
        rw [hf, w64_in (x := b / 8 + 1 - 1) (by omega) (by omega), w64_in (by omega) (by omega)]; omega
      · rw [s2, P.link h c, c, hf, show b / 8 + 1 - 1 = b / 8 by omega]
    · left
      have s := Po.s2n (A := A) h (by rw [eh]; exact o1) (by rw [eh]; exact c)
      rw [tk] at s
      obtain ⟨s1, s2⟩ := Prod.mk.inj s
      have sw : A.swapRb x.head x.was = false := by rw [eh]; exact decide_eq_false fun e => c (by rw [← getD_rawF o1]; exact e.2)
      refine ⟨by rw [sb, sw], s2, ?_⟩
      rw [s1]
      exact ⟨P.pl, P.hd, P.ok, .inl rfl, fun h => (h rfl).elim, fun h => by cases h⟩

/-- A push under way. -/
structure PuI (p : Pl) (w n k b : Int) (x : Pu) (A : Ar) : Prop where
  pl : x.pl = p
  hd : x.head = k
  ba : x.base = b
  bb : 0 ≤ b ∧ b % 8 = 0 ∧ b / 8 < n
  ph : x.at' = 0 ∨ x.at' = 1 ∨ x.at' = 2
  was : x.at' ≠ 0 → 0 ≤ x.was
  link : x.at' = 2 → A.rawF (4 * w + b / 8) = x.was % 131072

theorem PuI.new {who c : Int} (h : headF p who c = k) (hb : 0 ≤ b ∧ b % 8 = 0 ∧ b / 8 < n) : PuI p w n k b ⟨p, headF p who c, 0, 0, b⟩ A := ⟨rfl, h, rfl, hb, .inl rfl, fun h => (h rfl).elim, fun h => by cases h⟩
theorem PuI.keep {x : Pu} (P : PuI p w n k b x A) {mb : Int} (hm : b ≠ mb) (E : FEv w n A B mb) : PuI p w n k b x B :=
  ⟨P.pl, P.hd, P.ba, P.bb, P.ph, P.was, fun h => by rw [E.lk b P.bb.1 P.bb.2.1 P.bb.2.2 hm]; exact P.link h⟩

theorem PuI.step {x : Pu} (P : PuI p w n k b x A) (F : FL A p w n ch) (hu : A.uses ≤ 1000000000) (h0 : 0 ≤ k) (h1 : k < 4 * w) (hn : ∀ j, b ∉ ch j) :
    (x.stepB A = false ∧ PuI p w n k b (x.stepM A) (x.stepA A) ∧ FL (x.stepA A) p w n ch ∧ FEv w n A (x.stepA A) b ∧ RStep w n A (x.stepA A)) ∨
    (x.stepB A = true ∧ FL (x.stepA A) p w n (upd ch k (b :: ch k)) ∧ FEv w n A (x.stepA A) b ∧ RStep w n A (x.stepA A)) := by
  have us := F.us
  have wb := F.wb
  have nb := F.nb
  have o1 := F.hdOk h0 h1
  have o2 := F.lkOk P.bb.1 P.bb.2.2
  have bb := P.bb
  have hkd := F.hd k h0 h1
  have tk : A.tick = A.later 1 := tick_uses us (by omega)
  have eh := P.hd
  have same : FEv w n A (A.later 1) b := FEv.same (fun _ _ _ => rfl) wb.1 nb.1
  have td : Int.tdiv b 8 = b / 8 := Int.tdiv_eq_ediv_of_nonneg bb.1
  rcases P.ph with h | h | h
  · left
    have s := Pu.s0 (A := A) h (by rw [eh]; exact o1)
    rw [eh, tk] at s
    obtain ⟨s1, s2⟩ := Prod.mk.inj s
    refine ⟨by unfold Pu.stepB; rw [if_neg (by omega), decide_eq_false (by omega)], ?_⟩
    rw [s1, s2]
    exact ⟨⟨P.pl, rfl, P.ba, bb, .inr (.inl rfl), fun _ => hkd.1, fun h => by cases h⟩, F.tick, same, rstep_later⟩
  · left
    have el : w64 (x.pl.links + w64 (Int.tdiv x.base 8)) = 4 * w + b / 8 := by
      rw [P.pl, P.ba, F.links, td, w64_in (x := b / 8) (by omega) (by omega), w64_in (by omega) (by omega)]
    have s := Pu.s1 (A := A) h el o2
    rw [tk, mod17] at s
    obtain ⟨s1, s2⟩ := Prod.mk.inj s
    obtain ⟨f1, f2⟩ := F.link1 bb hn (x.was % 131072)
    refine ⟨by unfold Pu.stepB; rw [if_neg (by omega), decide_eq_false (by omega)], ?_⟩
    rw [s1, s2]
    exact ⟨⟨P.pl, P.hd, P.ba, bb, .inr (.inr rfl), fun _ => P.was (by omega), fun _ => by rw [rawF_set1 (A := A.later 1) o2, if_pos rfl]⟩, f1, f2, rstep_set o2 (by omega)⟩
  · have sb : x.stepB A = A.swapRb x.head x.was := by unfold Pu.stepB; rw [if_pos h]
    have w0 := P.was (by omega)
    by_cases c : A.rawF k = x.was
    · right
      have s := Pu.s2y (A := A) h (by rw [eh]; exact o1) (by rw [eh]; exact c)
      rw [eh, tk, P.ba, td] at s
      obtain ⟨s1, s2⟩ := Prod.mk.inj s
      have sw : A.swapRb x.head x.was = true := by rw [eh]; exact decide_eq_true ⟨o1, by rw [getD_rawF o1]; exact c⟩
      have e1 : w64 (w64 (b / 8) + 1) = b / 8 + 1 := by rw [w64_in (x := b / 8) (by omega) (by omega), w64_in (by omega) (by omega)]
      rw [e1, ← c] at s2
      obtain ⟨f1, f2⟩ := F.push1 hu h0 h1 bb hn (by rw [c]; exact P.link h)
      refine ⟨by rw [sb, sw], ?_⟩
      rw [s2]
      exact ⟨f1, ⟨f2.hd, fun c c0 c1 c2 _ => f2.lk c c0 c1 c2 (by omega)⟩, rstep_set o1 (by omega)⟩
    · left
      have s := Pu.s2n (A := A) h (by rw [eh]; exact o1) (by rw [eh]; exact c)
      rw [tk] at s
      obtain ⟨s1, s2⟩ := Prod.mk.inj s
      have sw : A.swapRb x.head x.was = false := by rw [eh]; exact decide_eq_false fun e => c (by rw [← getD_rawF o1]; exact e.2)
      refine ⟨by rw [sb, sw], ?_⟩
      rw [s1, s2]
      exact ⟨⟨P.pl, P.hd, P.ba, bb, .inl rfl, fun h => (h rfl).elim, fun h => by cases h⟩, F.tick, same, rstep_later⟩
end
end Go.Proofs.Ytcjhakdopnamoaa

set_option linter.unusedVariables false
set_option linter.unusedSimpArgs false
set_option maxRecDepth 20000
namespace Go.Proofs.Ytcjhakdopnamoaa
open Go Go.Fw

/-! ### The slab's machines, whatever falls between their steps -/

section
variable {A B C : Ar} {p : Pl} {w m : Int} {S S' S2 : Sg}

/-- The lists' words turned. -/
theorem SL.ofRaw (X : SL A p w m S) {r : List Int} {ch' : Int → List Int} (hl : r.length = A.raw.length) (up : ∀ i, 4 * w + (m + 7) / 8 ≤ i → ({ A with raw := r } : Ar).rawF i = A.rawF i) (F : FL { A with raw := r } p w ((m + 7) / 8) ch')
    (hc : ∀ k b, b ∈ ch' k → S.cl b = k % 4) (ha : ∀ h, A.stF h ≠ 0 → ∀ k, opB h ∉ ch' k) : SL { A with raw := r } p w m { S with ch := ch' } := by
  obtain ⟨p1, p2, p3, p4, p5⟩ := X.places
  have wb := X.wb
  have mb := X.mb
  have st : ∀ h, ({ A with raw := r } : Ar).stF h = A.stF h := fun h => stF_slots rfl h
  refine ⟨F, X.pl, X.wb, X.mb, by show p.carved < (r.length : Int); rw [hl]; exact X.rl, X.wl, X.fr, ?_, X.cvb, ?_, X.gnb, X.gnz, X.blk, X.dis, hc, ?_, ?_, X.cr1, X.cr2, X.cnt, X.ncb, X.cnb⟩
  · rw [up _ (by omega)]; exact X.cvr
  · intro b h0 h1 h2; rw [up _ (by omega)]; exact X.gnr b h0 h1 h2
  · intro h hh
    rw [st] at hh
    exact ⟨(X.act h hh).1, ha h hh⟩
  · intro i hi
    obtain ⟨h, h1, h2, h3⟩ := X.bz i hi
    exact ⟨h, by rw [st]; exact h1, h2, h3⟩

/-- A base in nobody's list, that is not alive: somebody has it in hand. -/
def Ow (A : Ar) (S : Sg) (b : Int) : Prop := S.cl b ≠ -1 ∧ (∀ k, b ∉ S.ch k) ∧ ∀ h, A.stF h ≠ 0 → opB h ≠ b

/-- What a step leaves; mine: the base that the one who steps has in hand. -/
structure Ev (p : Pl) (w m : Int) (A : Ar) (S : Sg) (B : Ar) (S' : Sg) (mine : Int) : Prop where
  fe : FEv w ((m + 7) / 8) A B mine
  cl : ∀ b, S.cl b ≠ -1 → S'.cl b = S.cl b
  ow : ∀ b, Ow A S b → b ≠ mine → Ow B S' b
  st : ∀ h, opB h ≠ mine → B.stF h = A.stF h
  fa : B.fault = A.fault
  rl : B.raw.length = A.raw.length
  rw : ∀ i, p.carved < i → B.rawF i = A.rawF i
  us : A.uses ≤ B.uses

theorem Ev.later (X : SL A p w m S) {n mine : Int} (hn : 0 ≤ n) : Ev p w m A S (A.later n) S mine :=
  ⟨FEv.same (fun _ _ _ => rfl) X.F.wb.1 X.F.nb.1, fun _ _ => rfl, fun _ h _ => h, fun _ _ => rfl, rfl, rfl, fun _ _ => rfl, by show A.uses ≤ A.uses + n; omega⟩

theorem Ev.refl {mine : Int} : Ev p w m A S A S mine := ⟨⟨fun _ _ _ => ⟨Int.le_refl _, fun _ => rfl⟩, fun _ _ _ _ _ => rfl⟩, fun _ _ => rfl, fun _ h _ => h, fun _ _ => rfl, rfl, rfl, fun _ _ => rfl, Int.le_refl _⟩

/-- An alloc under way. -/
structure AlI (p : Pl) (w m : Int) (x : Al) (A : Ar) (S : Sg) : Prop where
  pl : x.pl = p
  who : 0 ≤ x.work ∧ x.work < w
  cls : 0 ≤ x.cls ∧ x.cls < 4
  lst : 0 ≤ x.lst ∧ x.lst ≤ w
  wh : x.what = 0 ∨ x.what = 1 ∨ x.what = 2 ∨ x.what = 3
  pops : x.what = 0 → x.lst < w ∧ ∃ k, 0 ≤ k ∧ k < 4 * w ∧ k % 4 = x.cls ∧ PoI p w ((m + 7) / 8) k x.po A
  swaps : x.what = 2 → 0 ≤ x.base ∧ x.base + sizeF x.cls ≤ m
  bears : x.what = 3 → Ow A S x.base ∧ S.cl x.base = x.cls
  h0 : x.h = 0
def Al.mine (x : Al) : Int := if x.what = 3 then x.base else -1

theorem AlI.new (X : SL A p w m S) {who c : Int} (wh : 0 ≤ who ∧ who < w) (hc : 0 ≤ c ∧ c < 4) : AlI p w m (newAl p who c) A S := by
  obtain ⟨p1, p2, p3, p4, p5⟩ := X.places
  have wb := X.wb
  have e := headF_eq (p := p) (w := who) (c := c) p1 ⟨wh.1, by omega⟩ hc
  exact ⟨rfl, wh, hc, ⟨Int.le_refl 0, by show 0 ≤ w; omega⟩, .inl rfl, fun _ => ⟨by show 0 < w; omega, 4 * who + c, by omega, by omega, by show (4 * who + c) % 4 = c; omega, PoI.new p1 ⟨by omega, by omega⟩ e⟩, fun h => (by cases h), fun h => (by cases h), rfl⟩

theorem AlI.keep {x : Al} (I : AlI p w m x A S) (X : SL A p w m S) {mine : Int} (E : Ev p w m A S B S' mine) (hm : ∀ j, mine ∉ S.ch j) (hb : x.what = 3 → x.base ≠ mine) : AlI p w m x B S' := by
  refine ⟨I.pl, I.who, I.cls, I.lst, I.wh, fun h => ?_, I.swaps, fun h => ?_, I.h0⟩
  · obtain ⟨a, k, k0, k1, k2, P⟩ := I.pops h
    exact ⟨a, k, k0, k1, k2, P.keep X.F k0 k1 hm E.fe⟩
  · obtain ⟨o, c⟩ := I.bears h
    exact ⟨E.ow _ o (hb h), by rw [E.cl _ o.1]; exact c⟩

theorem runs_one {M J : Type} {X : Mch M J} {x x' : M} {D D' : Ar} (h : X.Runs 1 x D x' D') : X.step x D = (x', D') := by
  cases h with
  | one h1 h2 h3 => rfl
  | more h1 h2 h3 h4 => cases h4

theorem count_setN : ∀ (n : Nat) {l : List Bool} {b : Nat}, b + n ≤ l.length → (setN l b true n).count true = l.count true + newsN l b n
  | 0, l, b, _ => rfl
  | n + 1, l, b, h => by
    have ih := count_setN n (l := l) (b := b) (by omega)
    show ((setN l b true n).set (b + n) true).count true = l.count true + newsN l b (n + 1)
    have hl : b + n < (setN l b true n).length := by rw [setN_length]; omega
    rw [List.count_set hl, ih]
    have hg : (setN l b true n)[b + n] = l.getD (b + n) false := by
      have := setN_get l b true n (b + n)
      rw [if_neg (by omega), List.getElem?_eq_getElem hl, List.getElem?_eq_getElem (by omega)] at this
      rw [List.getD_eq_getElem?_getD, List.getElem?_eq_getElem (by omega)]
      simpa using this
    rw [hg, show newsN l b (n + 1) = newsN l b n + (if l.getD (b + n) false then 0 else 1) from rfl]
    have hc : l.getD (b + n) false = true → 0 < l.count true + newsN l b n := fun e => by
      have : 0 < l.count true := by
        refine List.count_pos_iff.2 ?_
        rw [List.getD_eq_getElem?_getD, List.getElem?_eq_getElem (by omega)] at e
        rw [← (show l[b + n] = true from e)]; exact List.getElem_mem _
      omega
    cases e : l.getD (b + n) false
    · simp; omega
    · have := hc e
      simp; omega
theorem bornF_cc {A : Ar} (hw : A.wf) {h : Int} (hf : opB h + sizeF (opC h) ≤ A.words.length) (hc : A.nC = A.carved.count true) : (A.bornF h).nC = (A.bornF h).carved.count true := by
  have o := opC_nat h
  have hb := opB_nat h
  have szc := sz_pos (c := opC h) (by omega) (by omega)
  rw [(bornF_counts A hw h).1, bornF_carved, count_setN _ (by rw [hw.carved]; omega), hc]
  have : (A.carved.count true + newsN A.carved (opB h).toNat (sizeF (opC h)).toNat) ≤ 65536 := by
    rw [← count_setN _ (by rw [hw.carved]; omega)]
    refine Nat.le_trans List.count_le_length ?_
    rw [setN_length, hw.carved]; exact hw.words
  rw [w64_in (by omega) (by omega)]; omega

/-- How an alloc's step goes. -/
structure AlS (p : Pl) (w m : Int) (x : Al) (A : Ar) (S : Sg) (y : Al) (B : Ar) (S' : Sg) : Prop where
  wd : B.words = A.words
  sl : SL B p w m S'
  ev : Ev p w m A S B S' x.mine
  us : B.uses = A.uses + 1
  inv : y.what ≠ 4 → AlI p w m y B S'
  cls : y.cls = x.cls
  work : y.work = x.work
  acq : y.what = 3 → S.cl y.base = -1 ∨ ∃ k, y.base ∈ S.ch k
  nR : B.nR = A.nR
  cc : A.nC = A.carved.count true → B.nC = B.carved.count true
  res : (y.h = 0 ∧ (∀ k, B.stF k = A.stF k) ∧ B.nL = A.nL) ∨ (y.what = 4 ∧ x.what = 3 ∧ y.h ≠ 0 ∧ opB y.h = x.base ∧ opC y.h = x.cls ∧ openOk y.h = true ∧ A.stF y.h = 0 ∧ (∀ k, B.stF k = if k = y.h then 1 else A.stF k) ∧ B.nL = A.nL + sizeF x.cls)

theorem AlI.step {x : Al} (I : AlI p w m x A S) (X : SL A p w m S) (hwf : A.wf) (hu : A.uses ≤ 1000000) : ∃ S', AlS p w m x A S (x.step A).1 (x.step A).2 S' := by
  obtain ⟨p1, p2, p3, p4, p5⟩ := X.places
  have wb := X.wb
  have mb := X.mb
  have us := X.F.us
  have cvb := X.cvb
  have sz := sz_pos I.cls.1 I.cls.2
  have X1 := X.later (n := 1) (by omega)
  have E1 : ∀ mine, Ev p w m A S (A.later 1) S mine := fun mine => Ev.later X (by omega)
  have m0 : x.what ≠ 3 → x.mine = -1 := fun h => if_neg h
  rcases I.wh with h | h | h | h
  · obtain ⟨l0, k, k0, k1, k2, P⟩ := I.pops h
    have lst := I.lst
    have stp : x.step A = (if x.po.stepB A then Al.popd { x with po := x.po.stepM A } else { x with po := x.po.stepM A }, x.po.stepA A) := by unfold Al.step; rw [if_pos h]
    rw [stp]
    have el : w64 (x.lst + 1) = x.lst + 1 := w64_in (by omega) (by omega)
    rcases P.step X.F (by omega) k0 k1 with ⟨s1, s2, s3⟩ | ⟨s1, s2, s3, s4⟩ | ⟨s1, s2, b, l, s3, s4, s5⟩
    · rw [s1, s2, if_neg (by simp)]
      exact ⟨S, rfl, X1, E1 _, rfl, fun _ => ⟨I.pl, I.who, I.cls, I.lst, I.wh, fun _ => ⟨l0, k, k0, k1, k2, s3⟩, fun h2 => (by rw [show ({ x with po := x.po.stepM A } : Al).what = x.what from rfl, h] at h2; cases h2), fun h2 => (by rw [show ({ x with po := x.po.stepM A } : Al).what = x.what from rfl, h] at h2; cases h2), I.h0⟩, rfl, rfl, fun h2 => (by rw [show ({ x with po := x.po.stepM A } : Al).what = x.what from rfl, h] at h2; cases h2), rfl, fun h => h, .inl ⟨I.h0, fun _ => rfl, rfl⟩⟩
    · rw [s1, s2, if_pos rfl]
      unfold Al.popd
      rw [if_neg (by rw [s3]; simp)]
      dsimp only
      rw [el, I.pl, p5]
      have ei : imax w 1 = w := by unfold imax; split <;> omega
      rw [ei]
      by_cases c : x.lst + 1 ≥ w
      · rw [if_pos c]
        refine ⟨S, rfl, X1, E1 _, rfl, fun _ => ⟨rfl, I.who, I.cls, ⟨by show 0 ≤ x.lst + 1; omega, by show x.lst + 1 ≤ w; omega⟩, .inr (.inl rfl), fun h => (by cases h), fun h => (by cases h), fun h => (by cases h), I.h0⟩, rfl, rfl, fun h => (by cases h), rfl, fun h => h, .inl ⟨I.h0, fun _ => rfl, rfl⟩⟩
      · rw [if_neg c]
        have wh := I.who
        have ew : w64 (x.work + (x.lst + 1)) = x.work + (x.lst + 1) := w64_in (by omega) (by omega)
        rw [ew, Int.tmod_eq_emod_of_nonneg (by omega)]
        have q0 := Int.emod_nonneg (x.work + (x.lst + 1)) (b := w) (by omega)
        have q1 := Int.emod_lt_of_pos (x.work + (x.lst + 1)) (b := w) (by omega)
        have e := headF_eq (p := p) (w := (x.work + (x.lst + 1)) % w) (c := x.cls) p1 ⟨q0, by omega⟩ I.cls
        have cl := I.cls
        refine ⟨S, rfl, X1, E1 _, rfl, fun _ => ⟨rfl, I.who, I.cls, ⟨by show 0 ≤ x.lst + 1; omega, by show x.lst + 1 ≤ w; omega⟩, .inl h, fun _ => ⟨by show x.lst + 1 < w; omega, 4 * ((x.work + (x.lst + 1)) % w) + x.cls, by omega, by omega, by show (4 * ((x.work + (x.lst + 1)) % w) + x.cls) % 4 = x.cls; omega, PoI.new p1 ⟨by omega, by omega⟩ e⟩, fun h2 => (by rw [show x.what = 2 from h2] at h; cases h), fun h2 => (by rw [show x.what = 3 from h2] at h; cases h), I.h0⟩, rfl, rfl, fun h2 => (by rw [show x.what = 3 from h2] at h; cases h), rfl, fun h => h, .inl ⟨I.h0, fun _ => rfl, rfl⟩⟩
    · rw [s1, if_pos rfl]
      unfold Al.popd
      rw [if_pos s2]
      dsimp only
      rw [el, s4, s5]
      obtain ⟨F, fe⟩ := X.F.pop1 (by omega) s3
      have hmem : b ∈ S.ch k := by rw [s3]; simp
      have hcl := X.chc k b hmem
      have hsub : ∀ j y, y ∈ upd S.ch k l j → y ∈ S.ch j := fun j y hy => by
        unfold upd at hy; split at hy
        · rename_i e; rw [e, s3]; exact List.mem_cons_of_mem _ hy
        · exact hy
      have Y := X1.ofRaw (r := A.raw.set k.toNat (nextF (A.rawF k) (A.rawF (4 * w + b / 8)))) (ch' := upd S.ch k l) (by rw [List.length_set]; rfl) (fun i hi => by
        have := rawF_set1 (A := A.later 1) (i := k) (j := i) (v := nextF (A.rawF k) (A.rawF (4 * w + b / 8))) (X.F.hdOk k0 k1)
        rw [if_neg (by have := X.F.nb; omega)] at this
        exact this) F (fun j y hy => X.chc j y (hsub j y hy)) fun h hh j hj => (X.act h hh).2 j (hsub j _ hj)
      have hact : ∀ h, A.stF h ≠ 0 → opB h ≠ b := fun h hh e => (X.act h hh).2 k (by rw [e]; exact hmem)
      have hnin : ∀ j, b ∉ upd S.ch k l j := fun j hj => by
        unfold upd at hj; split at hj
        · have := X.F.nd k; rw [s3] at this; exact (List.nodup_cons.1 this).1 hj
        · rename_i e; exact e (X.F.dj j k b hj hmem)
      have lst := I.lst
      refine ⟨_, rfl, Y, ⟨?_, fun _ _ => rfl, fun c oc _ => ⟨oc.1, fun j hj => oc.2.1 j (hsub j c hj), oc.2.2⟩, fun _ _ => rfl, rfl, by show (A.raw.set _ _).length = _; rw [List.length_set], fun i hi => ?_, by show A.uses ≤ A.uses + 1; omega⟩, rfl, fun _ => ⟨I.pl, I.who, I.cls, ⟨by show 0 ≤ x.lst + 1; omega, by show x.lst + 1 ≤ w; omega⟩, .inr (.inr (.inr rfl)), fun h => (by cases h), fun h => (by cases h), fun _ => ⟨⟨by show S.cl b ≠ -1; omega, hnin, hact⟩, by show S.cl b = x.cls; omega⟩, I.h0⟩, rfl, rfl, fun _ => .inr ⟨k, hmem⟩, rfl, fun h => h, .inl ⟨I.h0, fun _ => rfl, rfl⟩⟩
      · rw [m0 (by omega)]; exact fe
      · have := rawF_set1 (A := A.later 1) (i := k) (j := i) (v := nextF (A.rawF k) (A.rawF (4 * w + b / 8))) (X.F.hdOk k0 k1)
        rw [if_neg (by omega)] at this
        exact this
  · have stp : x.step A = ({ x with base := A.rawF x.pl.carved, what := if A.rawF x.pl.carved > w64 (A.words.length - sizeF x.cls) then 4 else 2 }, A.touchR x.pl.carved) := by unfold Al.step; rw [if_neg (by omega), if_pos h]
    rw [stp, I.pl, X.cvr, X.wl, w64_in (x := m - sizeF x.cls) (by omega) (by omega), touchR_yes (show A.rawOk p.carved from ⟨by omega, X.rl⟩), tick_uses us (by omega)]
    by_cases c : S.cv > m - sizeF x.cls
    · rw [if_pos c]
      exact ⟨S, rfl, X1, E1 _, rfl, fun h => (h rfl).elim, rfl, rfl, fun h => (by cases h), rfl, fun h => h, .inl ⟨I.h0, fun _ => rfl, rfl⟩⟩
    · rw [if_neg c]
      exact ⟨S, rfl, X1, E1 _, rfl, fun _ => ⟨rfl, I.who, I.cls, I.lst, .inr (.inr (.inl rfl)), fun h => (by cases h), fun _ => ⟨cvb.1, by show S.cv + sizeF x.cls ≤ m; omega⟩, fun h => (by cases h), I.h0⟩, rfl, rfl, fun h => (by cases h), rfl, fun h => h, .inl ⟨I.h0, fun _ => rfl, rfl⟩⟩
  · obtain ⟨b0, b1⟩ := I.swaps h
    have stp : x.step A = ({ x with what := if A.swapRb x.pl.carved x.base then 3 else 1 }, A.swapR x.pl.carved x.base (w64 (x.base + sizeF x.cls))) := by unfold Al.step; rw [if_neg (by omega), if_neg (by omega), if_pos h]
    have okc : A.rawOk p.carved := ⟨by omega, X.rl⟩
    have tk : A.tick = A.later 1 := tick_uses us (by omega)
    rw [stp, I.pl, w64_in (x := x.base + sizeF x.cls) (by omega) (by omega)]
    by_cases c : A.rawF p.carved = x.base
    · have sw : A.swapRb p.carved x.base = true := decide_eq_true ⟨okc, by rw [getD_rawF okc]; exact c⟩
      have sa : A.swapR p.carved x.base (x.base + sizeF x.cls) = (A.later 1).setR p.carved.toNat (S.cv + sizeF x.cls) := by
        unfold Ar.swapR; rw [if_pos okc, if_pos (by rw [getD_rawF okc]; exact c), tk, ← c, X.cvr]
      rw [sw, sa, if_pos rfl]
      have ec : x.base = S.cv := by rw [← c]; exact X.cvr
      have Y := X.carve (by omega) I.cls.1 I.cls.2 (by omega)
      have hcl : S.cl S.cv = -1 := by
        by_cases h : S.cl S.cv = -1
        · exact h
        · have := X.blk _ h; have := sz_pos this.1 this.2.1; omega
      have hr : ∀ i, ((A.later 1).setR p.carved.toNat (S.cv + sizeF x.cls)).rawF i = if i = p.carved then S.cv + sizeF x.cls else A.rawF i := fun i => rawF_set1 (A := A.later 1) okc
      have nin : ∀ j, S.cv ∉ S.ch j := fun j hj => by
        have := X.chc j _ hj
        have := X.F.rg j (by intro e; rw [e] at hj; cases hj); omega
      have nac : ∀ h, A.stF h ≠ 0 → opB h ≠ S.cv := fun h hh e => by
        have := (X.act h hh).1
        rw [e, hcl] at this
        have := (opC_nat h).1; omega
      refine ⟨_, rfl, Y, ⟨?_, fun d hd => ?_, fun d od _ => ⟨?_, od.2.1, od.2.2⟩, fun _ _ => rfl, rfl, by show (A.raw.set _ _).length = _; rw [List.length_set], fun i hi => by rw [hr, if_neg (by omega)], by show A.uses ≤ A.uses + 1; omega⟩, rfl, fun _ => ⟨rfl, I.who, I.cls, I.lst, .inr (.inr (.inr rfl)), fun h => (by cases h), fun h => (by cases h), fun _ => ⟨⟨?_, ?_, ?_⟩, ?_⟩, I.h0⟩, rfl, rfl, fun _ => .inl ?_, rfl, fun h => h, .inl ⟨I.h0, fun _ => rfl, rfl⟩⟩
      · exact FEv.same (fun i i0 i1 => by rw [hr, if_neg (by omega)]) (by omega) (by omega)
      · show updI S.cl S.cv x.cls d = _
        unfold updI; rw [if_neg (fun e => hd (by rw [e]; exact hcl))]
      · show updI S.cl S.cv x.cls d ≠ -1
        unfold updI; rw [if_neg (fun e => od.1 (by rw [e]; exact hcl))]; exact od.1
      · show updI S.cl S.cv x.cls x.base ≠ -1
        rw [ec]; unfold updI; rw [if_pos rfl]; have := I.cls; omega
      · show ∀ j, x.base ∉ S.ch j
        rw [ec]; exact nin
      · show ∀ h, A.stF h ≠ 0 → opB h ≠ x.base
        rw [ec]; exact nac
      · show updI S.cl S.cv x.cls x.base = _
        rw [ec]; unfold updI; rw [if_pos rfl]
      · show S.cl x.base = -1
        rw [ec]; exact hcl
    · have sw : A.swapRb p.carved x.base = false := decide_eq_false fun e => c (by rw [← getD_rawF okc]; exact e.2)
      have sa : A.swapR p.carved x.base (x.base + sizeF x.cls) = A.later 1 := by
        unfold Ar.swapR; rw [if_pos okc, if_neg (by rw [getD_rawF okc]; exact c), tk]
      rw [sw, sa, if_neg (by simp)]
      exact ⟨S, rfl, X1, E1 _, rfl, fun _ => ⟨rfl, I.who, I.cls, I.lst, .inr (.inl rfl), fun h => (by cases h), fun h => (by cases h), fun h => (by cases h), I.h0⟩, rfl, rfl, fun h => (by cases h), rfl, fun h => h, .inl ⟨I.h0, fun _ => rfl, rfl⟩⟩
  · obtain ⟨o, oc⟩ := I.bears h
    have hx0 := I.h0
    have lst := I.lst
    have hc1 : x.cls ≠ -1 := by have := I.cls; omega
    obtain ⟨v1, ⟨v2, v3, v4, v5⟩, bo, Y, yst, ynL⟩ := X.bear hwf (by omega) oc hc1 o.2.1 o.2.2
    have ipl := I.pl
    obtain ⟨xpl, xwork, xcls, xlst, xwhat, xbase, xh, xpo⟩ := x
    simp only at h hx0 ipl oc hc1 v1 v2 v3 v4 v5 bo Y yst ynL lst o
    subst h; subst hx0; subst ipl
    have r1 := bear_last X (by omega) (who := xwork) (j := xlst) (y := xpo) ⟨lst.1, by omega⟩ oc hc1 bo
    have stp : Al.step ⟨xpl, xwork, xcls, xlst, 3, xbase, 0, xpo⟩ A = _ := runs_one r1
    rw [stp]
    have gb := X.gnb xbase
    have hne : packF xbase (S.gn xbase + 1) xcls ≠ 0 := fun e => by
      rw [e] at v3
      have : opG 0 = 0 := by decide
      omega
    have off : Off xpl.carved 0 ((A.later 1).setR (xpl.gens + xbase / 8).toNat (S.gn xbase + 1)) (((A.later 1).setR (xpl.gens + xbase / 8).toNat (S.gn xbase + 1)).bornF (packF xbase (S.gn xbase + 1) xcls)) :=
      Off.bornF (setR_wf (later_wf hwf 1) _ _) X.fr bo.2.1
    have blk := X.blk xbase (by rw [oc]; exact hc1)
    have szb := sz_pos blk.1 blk.2.1
    have okg : (A.later 1).rawOk (xpl.gens + xbase / 8) := ⟨by omega, by have := X.rl; show _ < (A.raw.length : Int); omega⟩
    have hr : ∀ i, ((A.later 1).setR (xpl.gens + xbase / 8).toNat (S.gn xbase + 1)).rawF i = if i = xpl.gens + xbase / 8 then S.gn xbase + 1 else A.rawF i := fun i => rawF_set1 okg
    have rb : ∀ i, (((A.later 1).setR (xpl.gens + xbase / 8).toNat (S.gn xbase + 1)).bornF (packF xbase (S.gn xbase + 1) xcls)).rawF i = if i = xpl.gens + xbase / 8 then S.gn xbase + 1 else A.rawF i := fun i => by
      rw [rawF_congr (bornF_raw _ _) i, hr]
    have hs0 : A.stF (packF xbase (S.gn xbase + 1) xcls) = 0 := by
      by_cases e : A.stF (packF xbase (S.gn xbase + 1) xcls) = 0
      · exact e
      · exact (o.2.2 _ e v2).elim
    refine ⟨_, by rw [off.wd]; rfl, Y, ⟨?_, fun _ _ => rfl, fun d od hd => ⟨od.1, od.2.1, fun h hh => ?_⟩, fun h hh => ?_, ?_, ?_, fun i hi => ?_, ?_⟩, ?_, fun h => (h rfl).elim, rfl, rfl, fun h => (by cases h), ?_, fun h => ?_, .inr ⟨rfl, rfl, hne, v2, v4, v5, hs0, yst, ynL⟩⟩
    · exact FEv.same (fun i i0 i1 => by rw [rb, if_neg (by omega)]) (by omega) (by omega)
    · rw [yst] at hh
      split at hh
      · rename_i e; rw [e, v2]
        intro e2; exact hd (by show d = if (3 : Int) = 3 then xbase else -1; rw [if_pos rfl]; exact e2.symm)
      · exact od.2.2 h hh
    · rw [yst, if_neg]
      intro e
      rw [e, v2] at hh
      exact hh (by show xbase = if (3 : Int) = 3 then xbase else -1; rw [if_pos rfl])
    · rw [off.fa]; rfl
    · rw [off.rl]; show (A.raw.set _ _).length = _; rw [List.length_set]
    · rw [rb, if_neg (by omega)]
    · rw [off.us]; show A.uses ≤ A.uses + 1 + 0; omega
    · rw [off.us]; show A.uses + 1 + 0 = _; omega
    · exact (bornF_counts _ (setR_wf (later_wf hwf 1) _ _) _).2.2.2
    · exact bornF_cc (setR_wf (later_wf hwf 1) _ _) bo.2.1 h

/-- A free under way. -/
structure FeI (p : Pl) (w m who : Int) (x : Fe) (A : Ar) (S : Sg) : Prop where
  st : A.stF x.h = 2
  nd : x.done = false
  pu : PuI p w ((m + 7) / 8) (4 * who + opC x.h) (opB x.h) x.pu A

theorem FeI.new (X : SL A p w m S) {who h : Int} (wh : 0 ≤ who ∧ who < w) (hs : A.stF h = 2) : FeI p w m who (newFe p who h) A S := by
  obtain ⟨p1, p2, p3, p4, p5⟩ := X.places
  have wb := X.wb
  have mb := X.mb
  have hC := opC_nat h
  obtain ⟨a1, a2⟩ := X.act h (by rw [hs]; decide)
  obtain ⟨b1, b2, b3, b4, b5⟩ := X.blk (opB h) (by omega)
  have sz := sz_pos b1 b2
  have cvb := X.cvb
  have e := headF_eq (p := p) (w := who) (c := opC h) p1 ⟨wh.1, by omega⟩ ⟨by omega, by omega⟩
  exact ⟨hs, rfl, PuI.new e ⟨b3, b4, by show opB h / 8 < (m + 7) / 8; omega⟩⟩
theorem FeI.keep {who : Int} {x : Fe} (I : FeI p w m who x A S) {mine : Int} (E : Ev p w m A S B S' mine) (hm : opB x.h ≠ mine) : FeI p w m who x B S' :=
  ⟨by rw [E.st _ hm]; exact I.st, I.nd, I.pu.keep hm E.fe⟩

structure FeS (p : Pl) (w m who : Int) (x : Fe) (A : Ar) (S : Sg) (y : Fe) (B : Ar) (S' : Sg) : Prop where
  wd : B.words = A.words
  sl : SL B p w m S'
  ev : Ev p w m A S B S' (opB x.h)
  us : B.uses = A.uses + 1
  h : y.h = x.h
  nL : B.nL = A.nL
  cc : A.nC = A.carved.count true → B.nC = B.carved.count true
  res : (y.done = false ∧ FeI p w m who y B S' ∧ (∀ k, B.stF k = A.stF k) ∧ B.nR = A.nR) ∨ (y.done = true ∧ (∀ k, B.stF k = if k = x.h then 0 else A.stF k) ∧ B.nR = A.nR - sizeF (opC x.h))

theorem diedF_parts (A : Ar) (h : Int) : (A.diedF h).raw = A.raw ∧ (A.diedF h).words = A.words ∧ (A.diedF h).fault = A.fault ∧ (A.diedF h).uses = A.uses ∧ (A.diedF h).nC = A.nC ∧ (A.diedF h).carved = A.carved := by
  unfold Ar.diedF Ar.turnF; split <;> exact ⟨rfl, rfl, rfl, rfl, rfl, rfl⟩
theorem died_raw (A : Ar) (r : List Int) (h : Int) : ({ A with raw := r } : Ar).diedF h = { A.diedF h with raw := r } := by
  have e : ({ A with raw := r } : Ar).stF h = A.stF h := stF_slots rfl h
  unfold Ar.diedF Ar.turnF Ar.turnN
  rw [e]
  by_cases hs : A.stF h = 2
  · simp only [if_pos hs]; rfl
  · simp only [if_neg hs]; rfl

theorem FeI.step {who : Int} {x : Fe} (I : FeI p w m who x A S) (X : SL A p w m S) (hwf : A.wf) (hu : A.uses ≤ 1000000) (wh : 0 ≤ who ∧ who < w) : ∃ S', FeS p w m who x A S (x.step A).1 (x.step A).2 S' := by
  obtain ⟨p1, p2, p3, p4, p5⟩ := X.places
  have wb := X.wb
  have mb := X.mb
  have us := X.F.us
  have hC := opC_nat x.h
  obtain ⟨a1, a2⟩ := X.act x.h (by rw [I.st]; decide)
  have szh := sz_pos (c := opC x.h) (by omega) (by omega)
  have X1 := X.later (n := 1) (by omega)
  have k0 : 0 ≤ 4 * who + opC x.h := by omega
  have k1 : 4 * who + opC x.h < 4 * w := by omega
  rcases I.pu.step X.F (by omega) k0 k1 a2 with ⟨s1, s2, s3, s4, s5⟩ | ⟨s1, s3, s4, s5⟩
  · have stp : x.step A = ({ x with pu := x.pu.stepM A }, x.pu.stepA A) := by unfold Fe.step; rw [if_neg (by rw [I.nd]; simp), if_neg (by rw [s1]; simp)]
    rw [stp]
    obtain ⟨r, er, hl⟩ := s5.eq
    have up := s5.up
    dsimp only
    rw [er] at s2 s3 s4 up ⊢
    have Y := X1.ofRaw (r := r) (ch' := S.ch) hl up s3 X.chc fun h hh => (X.act h hh).2
    exact ⟨_, rfl, Y, ⟨s4, fun _ _ => rfl, fun _ h _ => h, fun _ _ => rfl, rfl, hl, fun i hi => up i (by omega), by show A.uses ≤ A.uses + 1; omega⟩, rfl, rfl, rfl, fun h => h, .inl ⟨I.nd, ⟨I.st, I.nd, s2⟩, fun _ => rfl, rfl⟩⟩
  · have stp : x.step A = ({ x with pu := x.pu.stepM A, done := true }, (x.pu.stepA A).diedF x.h) := by unfold Fe.step; rw [if_neg (by rw [I.nd]; simp), if_pos s1]
    rw [stp]
    obtain ⟨r, er, hl⟩ := s5.eq
    have up := s5.up
    dsimp only
    rw [er] at s3 s4 up ⊢
    have cnb := X.cnb
    obtain ⟨D, dst, dL, dR⟩ := X1.die (later_wf hwf 1) (by show A.uses + 1 ≤ _; omega) (h := x.h) I.st (by show -(64 * (A.uses + 1 + 1)) ≤ A.nR - _; omega)
    have parts := diedF_parts (A.later 1) x.h
    obtain ⟨q1, q2, q3, q4, q5, q6⟩ := parts
    have q1 : ((A.later 1).diedF x.h).raw = A.raw := q1
    have q2 : ((A.later 1).diedF x.h).words = A.words := q2
    have q3 : ((A.later 1).diedF x.h).fault = A.fault := q3
    have q4 : ((A.later 1).diedF x.h).uses = A.uses + 1 := q4
    have q5 : ((A.later 1).diedF x.h).nC = A.nC := q5
    have q6 : ((A.later 1).diedF x.h).carved = A.carved := q6
    have eD : ({ A with raw := r, uses := A.uses + 1 } : Ar).diedF x.h = { (A.later 1).diedF x.h with raw := r } := died_raw (A.later 1) r x.h
    rw [eD]
    clear eD
    have dst : ∀ k, ((A.later 1).diedF x.h).stF k = if k = x.h then 0 else A.stF k := dst
    have dL : ((A.later 1).diedF x.h).nL = A.nL := dL
    have dR : ((A.later 1).diedF x.h).nR = A.nR - sizeF (opC x.h) := dR
    generalize (A.later 1).diedF x.h = D0 at *
    have F2 : FL { D0 with raw := r } p w ((m + 7) / 8) (upd S.ch (4 * who + opC x.h) (opB x.h :: S.ch (4 * who + opC x.h))) :=
      s3.same (fun i => rawF_congr rfl i) rfl (by show 0 ≤ (D0).uses; rw [q4]; omega) fun k h0 h1 => by
        show _ ≤ (D0).uses
        rw [q4]
        exact (s3.hd k h0 h1).2
    have rr : ∀ i, ({ D0 with raw := r } : Ar).rawF i = ({ A with raw := r, uses := A.uses + 1 } : Ar).rawF i := fun i => rawF_congr rfl i
    have noact : ∀ h, (D0).stF h ≠ 0 → opB h ≠ opB x.h := fun h hh e => by
      rw [dst] at hh
      split at hh
      · exact hh rfl
      · rename_i hn
        exact hh (stF_one (A := A) (h := x.h) (k := h) (by rw [I.st]; decide) e hn)
    have Y := D.ofRaw (r := r) (by rw [q1]; exact hl) (fun i hi => by
      rw [rr, up i hi]; exact (rawF_congr q1 i).symm) F2 (fun k b hb => by
        unfold upd at hb; split at hb
        · rename_i e
          rcases List.mem_cons.1 hb with rfl | hb
          · rw [a1, e]; omega
          · rw [e]; exact X.chc _ b hb
        · exact X.chc k b hb) fun h hh k hk => by
        have hh' : A.stF h ≠ 0 := fun e => hh (by rw [dst]; split; rfl; exact e)
        unfold upd at hk; split at hk
        · rcases List.mem_cons.1 hk with e | hk
          · exact noact h hh e
          · exact (X.act h hh').2 _ hk
        · exact (X.act h hh').2 _ hk
    have yst : ∀ k, ({ D0 with raw := r } : Ar).stF k = if k = x.h then 0 else A.stF k := fun k => by
      rw [show ({ D0 with raw := r } : Ar).stF k = (D0).stF k from stF_slots rfl k, dst]
    refine ⟨_, q2, Y, ⟨⟨fun k h0 h1 => by rw [rr]; exact s4.hd k h0 h1, fun b h0 h1 h2 h3 => by rw [rr]; exact s4.lk b h0 h1 h2 h3⟩, fun _ _ => rfl, fun b ob hb => ⟨ob.1, fun k hk => ?_, fun h hh => ?_⟩, fun h hh => ?_, q3, hl, fun i hi => by rw [rr]; exact up i (by omega), by show A.uses ≤ (D0).uses; rw [q4]; omega⟩, q4, rfl, dL, fun h => ?_, .inr ⟨rfl, yst, dR⟩⟩
    · have hk : b ∈ upd S.ch (4 * who + opC x.h) (opB x.h :: S.ch (4 * who + opC x.h)) k := hk
      unfold upd at hk; split at hk
      · rcases List.mem_cons.1 hk with e | hk
        · exact hb e
        · exact ob.2.1 _ hk
      · exact ob.2.1 _ hk
    · rw [yst] at hh
      split at hh
      · exact (hh rfl).elim
      · exact ob.2.2 h hh
    · rw [yst, if_neg (fun e => hh (by rw [e]))]
    · show D0.nC = D0.carved.count true
      rw [q5, q6]; exact h
end
end Go.Proofs.Ytcjhakdopnamoaa

set_option linter.unusedVariables false
set_option linter.unusedSimpArgs false
set_option maxRecDepth 20000
namespace Go.Proofs.Ytcjhakdopnamoaa
open Go Go.Fw

section
variable {A B : Ar} {p : Pl} {w m : Int} {S S' : Sg}

/-- Nothing of the slab was turned. -/
structure Qu (p : Pl) (w m : Int) (A : Ar) (S : Sg) (B : Ar) : Prop where
  sl : SL B p w m S
  ev : Ev p w m A S B S (-1)
  st : ∀ h, B.stF h = A.stF h
  nL : B.nL = A.nL
  nR : B.nR = A.nR
  cc : A.nC = A.carved.count true → B.nC = B.carved.count true

theorem Qu.later (X : SL A p w m S) {n : Int} (hn : 0 ≤ n) : Qu p w m A S (A.later n) := ⟨X.later hn, Ev.later X hn, fun _ => rfl, rfl, rfl, fun h => h⟩

/-- A slot's word. -/
theorem Qu.store (X : SL A p w m S) (hu : A.uses ≤ 1000000000) {h off v : Int} (hi : A.inOk h off) : Qu p w m A S (A.storeF h off v) ∧ (A.storeF h off v).uses = A.uses + 1 := by
  have us := X.F.us
  have e : A.storeF h off v = (A.later 1).setW (pos h off) v := by rw [storeF_yes hi, tick_uses us (by omega)]
  rw [e]
  have st : ∀ k, ((A.later 1).setW (pos h off) v).stF k = A.stF k := fun k => stF_slots rfl k
  have X2 : SL ((A.later 1).setW (pos h off) v) p w m S := X.congr (fun _ _ _ => rfl) rfl (by show A.uses ≤ A.uses + 1; omega) (by show (A.words.set _ _).length = _; rw [List.length_set]) st rfl rfl rfl rfl rfl rfl rfl rfl
  exact ⟨⟨X2, ⟨FEv.same (fun _ _ _ => rfl) X.F.wb.1 X.F.nb.1, fun _ _ => rfl, fun b o _ => ⟨o.1, o.2.1, fun k hk => o.2.2 k (by rw [← st k]; exact hk)⟩, fun k _ => st k, rfl, rfl, fun _ _ => rfl, by show A.uses ≤ A.uses + 1; omega⟩, st, rfl, rfl, fun h => h⟩, rfl⟩

/-- A raw word behind the slab's. -/
theorem Qu.storeR (X : SL A p w m S) (hu : A.uses ≤ 1000000000) {i v : Int} (h : p.carved < i ∧ i < A.raw.length) :
    SL (A.storeR i v) p w m S ∧ FEv w ((m + 7) / 8) A (A.storeR i v) (-1) ∧ (∀ h, (A.storeR i v).stF h = A.stF h) ∧ (A.storeR i v).nL = A.nL ∧ (A.storeR i v).nR = A.nR ∧ (A.storeR i v).words = A.words ∧ (A.storeR i v).fault = A.fault ∧ (A.storeR i v).uses = A.uses + 1 ∧ (A.storeR i v).raw.length = A.raw.length ∧ ∀ j, (A.storeR i v).rawF j = if j = i then v else A.rawF j := by
  obtain ⟨p1, p2, p3, p4, p5⟩ := X.places
  have wb := X.wb
  have mb := X.mb
  have us := X.F.us
  have ok : A.rawOk i := ⟨by omega, h.2⟩
  have e : A.storeR i v = (A.later 1).setR i.toNat v := by
    unfold Ar.storeR
    rw [if_pos ok, tick_uses us (by omega)]
  rw [e]
  have rf : ∀ j, ((A.later 1).setR i.toNat v).rawF j = if j = i then v else A.rawF j := fun j => rawF_set1 (A := A.later 1) ok
  refine ⟨X.congr (fun j h0 h1 => by rw [rf, if_neg (by omega)]) (by show (A.raw.set _ _).length = _; rw [List.length_set]) (by show A.uses ≤ A.uses + 1; omega) rfl (fun h => stF_slots rfl h) rfl rfl rfl rfl rfl rfl rfl rfl,
    FEv.same (fun j j0 j1 => by rw [rf, if_neg (by omega)]) (by omega) (by omega), fun h => stF_slots rfl h, rfl, rfl, rfl, rfl, rfl, by show (A.raw.set _ _).length = _; rw [List.length_set], rf⟩

/-- One is retired. -/
theorem Ev.retire (X : SL A p w m S) (hwf : A.wf) (hu : A.uses ≤ 1000000000) {h : Int} (hs : A.stF h = 1) (cn : -(64 * (A.uses + 1)) ≤ A.nL - sizeF (opC h) ∧ A.nR + sizeF (opC h) ≤ 64 * (A.uses + 1)) :
    SL (A.retireF h) p w m S ∧ (∀ k, (A.retireF h).stF k = if k = h then 2 else A.stF k) ∧ (A.retireF h).nL = A.nL - sizeF (opC h) ∧ (A.retireF h).nR = A.nR + sizeF (opC h) ∧ Ev p w m A S (A.retireF h) S (opB h) ∧
      (A.nC = A.carved.count true → (A.retireF h).nC = (A.retireF h).carved.count true) ∧ (A.retireF h).uses = A.uses ∧ (A.retireF h).words = A.words ∧ (A.retireF h).fault = A.fault := by
  obtain ⟨Y, yst, yL, yR⟩ := X.retire hu hs cn
  have parts : (A.retireF h).raw = A.raw ∧ (A.retireF h).words = A.words ∧ (A.retireF h).fault = A.fault ∧ (A.retireF h).uses = A.uses ∧ (A.retireF h).nC = A.nC ∧ (A.retireF h).carved = A.carved := by
    unfold Ar.retireF Ar.turnF; split <;> exact ⟨rfl, rfl, rfl, rfl, rfl, rfl⟩
  obtain ⟨q1, q2, q3, q4, q5, q6⟩ := parts
  refine ⟨Y, yst, yL, yR, ⟨FEv.same (fun i _ _ => rawF_congr q1 i) X.F.wb.1 X.F.nb.1, fun _ _ => rfl, fun b o hb => ⟨o.1, o.2.1, fun k hk => ?_⟩, fun k hk => ?_, q3, by rw [q1], fun i _ => rawF_congr q1 i, by rw [q4]; exact Int.le_refl _⟩, fun h => by rw [q5, q6]; exact h, q4, q2, q3⟩
  · rw [yst] at hk
    split at hk
    · rename_i e; rw [e]; exact fun e2 => hb e2.symm
    · exact o.2.2 k hk
  · rw [yst, if_neg (fun e => hk (by rw [e]))]
end
end Go.Proofs.Ytcjhakdopnamoaa

set_option linter.unusedVariables false
set_option linter.unusedSimpArgs false
set_option maxRecDepth 20000
namespace Go.Proofs.Ytcjhakdopnamoaa
open Go Go.Fw

section
variable {A B C : Ar} {g : Gd} {m : Int} {S S' : Sg} {l : Int → List (Int × Int)} {k h i v : Int} {p : Pl} {w : Int}

theorem loadF_same (hw : B.words = A.words) (hs : B.stF h = A.stF h) : B.loadF h i = A.loadF h i := by
  unfold Ar.loadF
  by_cases hi : A.inOk h i
  · have hb : B.inOk h i := ⟨by rw [hs]; exact hi.1, hi.2⟩
    rw [if_pos hi, if_pos hb, hw]
  · have hb : ¬ B.inOk h i := fun hb => hi ⟨by rw [← hs]; exact hb.1, hb.2⟩
    rw [if_neg hi, if_neg hb]

theorem pos_apart (X : SL A p w m S) {h k i j : Int} (hi : A.inOk h i) (hk : A.inOk k j) : pos k j = pos h i ↔ k = h ∧ j = i := by
  obtain ⟨h1, h2, h3⟩ := hi
  obtain ⟨k1, k2, k3⟩ := hk
  obtain ⟨ah, _⟩ := X.act h h1
  obtain ⟨ak, _⟩ := X.act k k1
  have ch := opC_nat h
  have ck := opC_nat k
  have bh := X.blk (opB h) (by omega)
  have bk := X.blk (opB k) (by omega)
  constructor
  · intro e
    unfold pos at e
    by_cases hk : k = h
    · subst hk; exact ⟨rfl, by omega⟩
    · exfalso
      by_cases hb : opB k = opB h
      · exact k1 (stF_one h1 hb hk)
      · rcases Int.lt_or_gt_of_ne hb with hlt | hlt
        · have := X.dis (opB k) (opB h) (by omega) (by omega) hlt
          rw [ak] at this; omega
        · have := X.dis (opB h) (opB k) (by omega) (by omega) hlt
          rw [ah] at this; omega
  · rintro ⟨rfl, rfl⟩; rfl

/-- A word of a slot is stored. -/
structure Stored (A : Ar) (g : Gd) (m : Int) (S : Sg) (l : Int → List (Int × Int)) (h i v : Int) (B : Ar) : Prop where
  gi : GI B g m S l
  al : Ar.Alike A B
  st : ∀ k, B.stF k = A.stF k
  nL : B.nL = A.nL
  nR : B.nR = A.nR
  us : B.uses = A.uses + 1
  rf : ∀ i, B.rawF i = A.rawF i
  rl : B.raw.length = A.raw.length
  ld : ∀ k j, A.inOk k j → B.loadF k j = if k = h ∧ j = i then v else A.loadF k j
theorem GI.store (X : GI A g m S l) (hu : A.uses ≤ 1000000000) (hi : A.inOk h i) : Stored A g m S l h i v (A.storeF h i v) := by
  obtain ⟨Q, us⟩ := Qu.store X.sl hu (v := v) hi
  have e : A.storeF h i v = (A.tick).setW (pos h i) v := storeF_yes hi v
  have rf : ∀ j, (A.storeF h i v).rawF j = A.rawF j := fun j => by rw [e]; rfl
  have rl : (A.storeF h i v).raw.length = A.raw.length := by rw [e]; rfl
  have fa : (A.storeF h i v).fault = A.fault := by rw [e]; rfl
  refine ⟨⟨storeF_wf X.wf h i v, Q.sl, fa.trans X.fa, X.ta, X.wb, by rw [rl]; exact X.rl, by rw [rl]; exact X.rb, fun k x hx => by rw [Q.st]; exact X.st k x hx, X.nd, X.dj, X.rg, Q.nR.trans X.nR, by rw [Q.nL]; exact X.l0, ?_, X.ze, fun he => ?_, fun he => by rw [rf]; exact X.es he⟩, storeF_alike A h i v, Q.st, Q.nL, Q.nR, us, rf, rl, fun k j hk => ?_⟩
  · have := X.nu; have := Q.nL; have := Q.nR; omega
  · have := X.eb he; rw [rf]; omega
  · rw [loadF_storeF X.wf hi hk]
    by_cases e : pos k j = pos h i
    · rw [if_pos e, if_pos ((pos_apart X.sl hi hk).1 e)]
    · rw [if_neg e, if_neg (fun h => e ((pos_apart X.sl hi hk).2 h))]

/-- A touch. -/
theorem touch_later (X : GI A g m S l) (hu : A.uses ≤ 1000000000) (hi : A.inOk h i) : A.touch h i = A.later 1 := by
  rw [touch_yes hi]
  have us := X.sl.F.us
  unfold Ar.tick Ar.later
  rw [w64_in (by omega) (by omega)]

/-- Words put into a new slot, one by one. -/
structure Wr (B : Ar) (g : Gd) (m : Int) (S : Sg) (l : Int → List (Int × Int)) (h : Int) (w : Nat → Int) (n : Nat) (C : Ar) : Prop where
  gi : GI C g m S l
  al : Ar.Alike B C
  st : ∀ k, C.stF k = B.stF k
  nL : C.nL = B.nL
  nR : C.nR = B.nR
  us : C.uses = B.uses + n
  rf : ∀ i, C.rawF i = B.rawF i
  rl : C.raw.length = B.raw.length
  ld : ∀ j : Nat, j < n → C.loadF h j = w j
  lo : ∀ k j, B.inOk k j → k ≠ h → C.loadF k j = B.loadF k j
theorem Wr.nil (X : GI B g m S l) (w : Nat → Int) : Wr B g m S l h w 0 B := ⟨X, .refl B, fun _ => rfl, rfl, rfl, by omega, fun _ => rfl, rfl, fun j hj => by omega, fun _ _ _ _ => rfl⟩
theorem Wr.next {w : Nat → Int} {n : Nat} (W : Wr B g m S l h w n C) (hu : C.uses ≤ 1000000000) (hi : B.inOk h n) : Wr B g m S l h w (n + 1) (C.storeF h n (w n)) := by
  have inS : ∀ k j, B.inOk k j → C.inOk k j := fun k j hk => (inOk_st W.st).2 hk
  have Z := W.gi.store (v := w n) hu (inS h n hi)
  have us := W.us
  have zu := Z.us
  refine ⟨Z.gi, W.al.trans Z.al, fun k => (Z.st k).trans (W.st k), Z.nL.trans W.nL, Z.nR.trans W.nR, by omega, fun i => (Z.rf i).trans (W.rf i), Z.rl.trans W.rl, fun j hj => ?_, fun k j hk hne => ?_⟩
  · have hij : B.inOk h j := ⟨hi.1, by omega, by have := hi.2.2; omega⟩
    rw [Z.ld h j (inS _ _ hij)]
    by_cases e : j = n
    · rw [if_pos ⟨rfl, by omega⟩, e]
    · rw [if_neg (fun h => e (by have := h.2; omega))]; exact W.ld j (by omega)
  · rw [Z.ld k j (inS _ _ hk), if_neg (fun h => hne h.1)]; exact W.lo k j hk hne
end
end Go.Proofs.Ytcjhakdopnamoaa

set_option linter.unusedVariables false
set_option linter.unusedSimpArgs false
set_option maxRecDepth 20000
namespace Go.Proofs.Ytcjhakdopnamoaa
open Go Go.Fw

section
variable {L : Hands} {R : Value → Heap → Prop} {G : Heap} {rest : Bl} {A A' : Ar} {I : List Nat} {w s th : Int} {ep : Bool}

end

structure GL (I : List Nat) (A : Ar) (g : Gd) (S : Sg) (l : Int → List (Int × Int)) (i : Int) : Prop where
  aw : Aw I A
  gi : GI A g 800 S l
  l0 : l 0 = []
  l1 : ((l 1).length : Int) = (i - 1) % g.th
  oc : ∀ k x, x ∈ l k → opC x.1 = 0
  rw : ∀ j, g.pl.carved < j → A.rawF j = 0
  cv : S.cv ≤ 8 * (i - 1)
  us : A.uses ≤ 500 * (i - 1)
  nL : A.nL = 0

end Go.Proofs.Ytcjhakdopnamoaa

set_option linter.unusedVariables false
set_option linter.unusedSimpArgs false
set_option maxRecDepth 20000
namespace Go.Proofs.Ytcjhakdopnamoaa
open Go Go.Fw

/-- With no word told all goes. -/
theorem Lkd.all {A B : Ar} {g : Gd} {m : Int} {S : Sg} {l : Int → List (Int × Int)} {k : Int} {keep : Int × Int → Bool} {hs : List Int} (X : GI A g m S l) (hu : A.uses ≤ 900000) (L : Lkd A g m S l k keep hs (forT g) B) (h : ∀ j, g.pl.carved < j → (g.ep = true → j ≠ g.ta) → A.rawF j = 0) :
    ∀ x ∈ l k, keep x = false := fun x hx => by
  have ta := X.ta
  cases he : g.ep with
  | false =>
    cases hk : keep x with
    | false => rfl
    | true =>
      obtain ⟨j, j1, j2⟩ := ((L.ha he).2 x).1 hk
      rw [h _ (by omega) (fun h => by rw [he] at h; cases h)] at j2
      exact (stF_ne0 (by rw [X.st k x hx]; decide) j2.symm).elim
  | true =>
    have f := L.free he fun i hi => h _ (by omega) fun _ => by omega
    have hk := (L.ep he).2.2.2
    obtain ⟨s0, s1⟩ := X.es he k x hx
    obtain ⟨e0, e1⟩ := X.eb he
    have ft : ((forT g : Nat) : Int) = 3 := by unfold forT; rw [if_pos he]; rfl
    rw [hk]
    show (!due _ x) = false
    have : due (B.rawF g.ta) x = true := by
      unfold due
      exact decide_eq_true (by rw [w64_in (by omega) (by omega)]; omega)
    rw [this]; rfl

structure GF (I : List Nat) (A : Ar) (g : Gd) (S : Sg) (l : Int → List (Int × Int)) (who i : Int) : Prop where
  aw : Aw I A
  gi : GI A g 320 S l
  le : ∃ xs, l = setL (fun _ => []) who xs ∧ (xs.length : Int) = i ∧ ∀ x ∈ xs, opC x.1 = 0
  rw : ∀ j, g.pl.carved < j → A.rawF j = 0
  ch : ∀ k, S.ch k = []
  cv : S.cv ≤ 8 * i
  nc : S.nc = 8 * i
  us : A.uses ≤ 500 * i
  nL : A.nL = 0

end Go.Proofs.Ytcjhakdopnamoaa

set_option linter.unusedVariables false
set_option linter.unusedSimpArgs false
set_option maxRecDepth 20000
namespace Go.Proofs.Ytcjhakdopnamoaa
open Go Go.Fw

section
variable {A B C : Ar} {g : Gd} {m : Int} {S S' : Sg} {l : Int → List (Int × Int)} {k h i v : Int} {q mq : Nat} {who tries : Int} {w : Nat → Int} {p : Pl}

/-- The stores of a make. -/
theorem mk_stores (X : GI B g m S l) (hl : (l who).length ≤ 1000) (hu : B.uses ≤ 900000) (hs : B.stF h ≠ 0) (hc : opC h = 0) : ∀ n : Nat, n ≤ 6 →
    ∃ C, Wr B g m S l h w n C ∧ (mMk q mq).Path n ⟨g, l, p, who, w, none, none, tries, 0, h, false⟩ B ⟨g, l, p, who, w, none, none, tries, n, h, false⟩ C
  | 0, _ => ⟨B, .nil X w, .nil⟩
  | n + 1, hn => by
    obtain ⟨C, W, pth⟩ := mk_stores X hl hu hs hc n (by omega)
    have us := W.us
    have u0 := X.u0
    have hi : B.inOk h n := ⟨hs, by omega, by rw [hc, show sizeF 0 = 8 from rfl]; omega⟩
    have W1 := W.next (by omega) hi
    refine ⟨_, W1, pth.trans (.cons ⟨by have := X.wb; show 1 ≤ g.w ∧ g.w ≤ 1000; omega, hl, fun _ h => (by cases h), fun _ h => (by cases h), fun _ _ _ => ⟨by show (0 : Int) ≤ n; omega, by show (n : Int) < 7; omega⟩⟩ ?_ ?_ ?_ .nil)⟩
    · show Mk.step ⟨g, l, p, who, w, none, none, tries, n, h, false⟩ C = (⟨g, l, p, who, w, none, none, tries, ((n + 1 : Nat) : Int), h, false⟩, C.storeF h n (w n))
      have e : w64 ((n : Int) + 1) = ((n + 1 : Nat) : Int) := by rw [w64_in (by omega) (by omega)]; omega
      have e2 : ((((n + 1 : Nat) : Int)) == 7) = false := ibef (by omega)
      show (Mk.mk g l p who w none none tries (w64 ((n : Int) + 1)) h (w64 ((n : Int) + 1) == 7), C.storeF h n (w ((n : Int)).toNat)) = _
      rw [e, e2, Int.toNat_natCast]
    · rw [W1.us]; show B.uses + ((n + 1 : Nat) : Int) ≤ w64 (C.uses + 1); rw [us, w64_in (by omega) (by omega)]; omega
    · rfl

theorem al_lift {n : Nat} {a a' : Al} (X1 : 1 ≤ g.w ∧ g.w ≤ 1000) (hl : (l who).length ≤ 1000) (h : mAl.Runs n a A a' B) {at_ h0 : Int} :
    (∀ x1 : Mk, (⟨g, l, p, who, w, some a', none, tries, at_, h0, false⟩ : Mk).got a'.h = x1 →
      (x1.ended = false → (mMk q mq).Path n ⟨g, l, p, who, w, some a, none, tries, at_, h0, false⟩ A x1 B) ∧ (x1.ended = true → (mMk q mq).Runs n ⟨g, l, p, who, w, some a, none, tries, at_, h0, false⟩ A x1 B)) := by
  have st : ∀ (a : Al) (A : Ar), Mk.step ⟨g, l, p, who, w, some a, none, tries, at_, h0, false⟩ A = if mAl.fin (a.step A).1 = true then ((⟨g, l, p, who, w, some (a.step A).1, none, tries, at_, h0, false⟩ : Mk).got (a.step A).1.h, (a.step A).2) else (⟨g, l, p, who, w, some (a.step A).1, none, tries, at_, h0, false⟩, (a.step A).2) := fun a A => rfl
  have iv : ∀ (a : Al) (A : Ar), mAl.inv a A → Mk.inv ⟨g, l, p, who, w, some a, none, tries, at_, h0, false⟩ A := fun a A hi => ⟨X1, hl, fun _ h => (by cases h), fun a2 h2 => by obtain rfl := Option.some.inj h2; exact hi, fun _ _ h => (by cases h)⟩
  have ge : ∀ a : Al, (⟨g, l, p, who, w, some a, none, tries, at_, h0, false⟩ : Mk).got a.h = (⟨g, l, p, who, w, some a, none, tries, at_, h0, false⟩ : Mk).got a.h := fun _ => rfl
  induction h with
  | @one a A hi hu hf =>
    intro x1 hx
    have s1 : (mMk q mq).step ⟨g, l, p, who, w, some a, none, tries, at_, h0, false⟩ A = (x1, (mAl.step a A).2) := (st a A).trans (by
      rw [if_pos (show mAl.fin (a.step A).1 = true from hf)]
      exact congrArg (fun y => (y, (a.step A).2)) hx)
    exact ⟨fun he => .cons (iv a A hi) s1 hu he .nil, fun he => .one (iv a A hi) s1 hu he⟩
  | @more n a A a' B hi hu hf hr ih =>
    intro x1 hx
    have s1 : (mMk q mq).step ⟨g, l, p, who, w, some a, none, tries, at_, h0, false⟩ A = (⟨g, l, p, who, w, some (mAl.step a A).1, none, tries, at_, h0, false⟩, (mAl.step a A).2) := (st a A).trans (by rw [if_neg (by rw [show mAl.fin (a.step A).1 = false from hf]; exact Bool.false_ne_true)]; rfl)
    obtain ⟨i1, i2⟩ := ih x1 hx
    exact ⟨fun he => .cons (iv a A hi) s1 hu rfl (i1 he), fun he => .more (iv a A hi) s1 hu rfl (i2 he)⟩

/-- A frame is made, where there is room at once. -/
theorem make_run (X : GI A g m S l) (hu : A.uses ≤ 800000) (wh : 0 ≤ who ∧ who < g.w) (hl : (l who).length ≤ 1000) (hr : S.cv + 8 ≤ m) :
    ∃ n x B S1 C, SlotZ A g m S l who 0 n x B S1 ∧ (mMk q mq).Runs (n + 7) ⟨g, l, g.pl, who, w, some (newAl g.pl who 0), none, 0, 0, 0, false⟩ A ⟨g, l, g.pl, who, w, none, none, 1, 7, x.h, true⟩ C ∧ Wr B g m S1 l x.h w 7 C ∧ x.h ≠ 0 ∧ opC x.h = 0 ∧ B.stF x.h = 1 ∧ A.stF x.h = 0 := by
  obtain ⟨n, x, B, S1, Z⟩ := X.slot (by omega) wh (c := 0) (by decide)
  have hx : x.h ≠ 0 := Z.nz hr
  have hc : opC x.h = 0 := (Z.z.hd hx).1
  have hst : B.stF x.h = 1 := by rw [Z.z.st, if_pos ⟨hx, rfl⟩]
  have wb := X.wb
  have un := Z.un
  have u0 := X.u0
  obtain ⟨C, W, pth⟩ := mk_stores (q := q) (mq := mq) (who := who) (tries := 1) (w := w) (p := g.pl) Z.gi hl (by omega) (h := x.h) (by rw [hst]; decide) hc 6 (by decide)
  have hi : B.inOk x.h (6 : Nat) := ⟨by rw [hst]; decide, by decide, by rw [hc]; decide⟩
  have W7 := W.next (by rw [W.us]; omega) hi
  obtain ⟨i1, _⟩ := al_lift (q := q) (mq := mq) (g := g) (l := l) (who := who) (tries := 0) (w := w) (p := g.pl) (at_ := 0) (h0 := 0) ⟨by omega, by omega⟩ hl Z.z.run ⟨g, l, g.pl, who, w, none, none, 1, 0, x.h, false⟩ (by unfold Mk.got; rw [if_pos hx]; rfl)
  refine ⟨n, x, B, S1, _, Z, (i1 rfl).run (pth.run (.one ⟨by show 1 ≤ g.w ∧ g.w ≤ 1000; omega, hl, fun _ h => (by cases h), fun _ h => (by cases h), fun _ _ _ => ⟨by show (0 : Int) ≤ (6 : Nat); decide, by show ((6 : Nat) : Int) < 7; decide⟩⟩ ?_ ?_ rfl)), W7, hx, hc, hst, (Z.z.hd hx).2.2⟩
  · show Mk.step ⟨g, l, g.pl, who, w, none, none, 1, ((6 : Nat) : Int), x.h, false⟩ C = _
    rfl
  · rw [W7.us]; show B.uses + ((6 + 1 : Nat) : Int) ≤ w64 (C.uses + 1); rw [W.us, w64_in (by omega) (by omega)]; omega

/-- A frame is read. -/
theorem read_run (X : GI A g m S l) (hu : A.uses ≤ 900000) (hs : A.stF h ≠ 0) (hc : opC h = 0) :
    mRd.Runs 4 ⟨h, 0, 0, 0, false, 3⟩ A ⟨h, A.loadF h 3, A.loadF h 4, A.loadF h 5, (A.loadF h 6 : Int) == 1, 7⟩ (A.later 4) := by
  have u0 := X.u0
  have hi : ∀ i : Int, 0 ≤ i → i < 8 → ∀ n : Int, 0 ≤ n → n ≤ 10 → (A.later n).touch h i = A.later (n + 1) := fun i i0 i1 n n0 n1 => by
    have := touch_later (X.later n0) (h := h) (i := i) (by show A.uses + n ≤ _; omega) ⟨by rw [stF_slots (B := A.later n) (A := A) rfl]; exact hs, i0, by rw [hc, show sizeF 0 = 8 from rfl]; exact i1⟩
    rw [this, later_add]
  have ld : ∀ i n : Int, (A.later n).loadF h i = A.loadF h i := fun i n => loadF_same rfl (stF_slots rfl h)
  have uu : ∀ n : Int, 0 ≤ n → n ≤ 10 → (A.later (n + 1)).uses ≤ w64 ((A.later n).uses + 1) := fun n n0 n1 => by show A.uses + (n + 1) ≤ w64 (A.uses + n + 1); rw [w64_in (by omega) (by omega)]; omega
  have s : ∀ (x y : Rd) (n : Int), x.h = h → 0 ≤ n → n ≤ 10 → (x.step (A.later n)) = (y, (A.later n).touch h x.at_) → 0 ≤ x.at_ → x.at_ < 8 → mRd.step x (A.later n) = (y, A.later (n + 1)) := fun x y n hx n0 n1 he a0 a1 => by
    rw [hi _ a0 a1 n n0 n1] at he; exact he
  have s3 : mRd.step ⟨h, 0, 0, 0, false, 3⟩ (A.later 0) = (⟨h, A.loadF h 3, 0, 0, false, 4⟩, A.later (0 + 1)) := s _ _ 0 rfl (by decide) (by decide) (by rw [← ld 3 0]; rfl) (show (0 : Int) ≤ 3 by decide) (show (3 : Int) < 8 by decide)
  have s4 : mRd.step ⟨h, A.loadF h 3, 0, 0, false, 4⟩ (A.later 1) = (⟨h, A.loadF h 3, A.loadF h 4, 0, false, 5⟩, A.later (1 + 1)) := s _ _ 1 rfl (by decide) (by decide) (by rw [← ld 4 1]; rfl) (show (0 : Int) ≤ 4 by decide) (show (4 : Int) < 8 by decide)
  have s5 : mRd.step ⟨h, A.loadF h 3, A.loadF h 4, 0, false, 5⟩ (A.later 2) = (⟨h, A.loadF h 3, A.loadF h 4, A.loadF h 5, false, 6⟩, A.later (2 + 1)) := s _ _ 2 rfl (by decide) (by decide) (by rw [← ld 5 2]; rfl) (show (0 : Int) ≤ 5 by decide) (show (5 : Int) < 8 by decide)
  have s6 : mRd.step ⟨h, A.loadF h 3, A.loadF h 4, A.loadF h 5, false, 6⟩ (A.later 3) = (⟨h, A.loadF h 3, A.loadF h 4, A.loadF h 5, (A.loadF h 6 : Int) == 1, 7⟩, A.later (3 + 1)) := s _ _ 3 rfl (by decide) (by decide) (by rw [← ld 6 3]; rfl) (show (0 : Int) ≤ 6 by decide) (show (6 : Int) < 8 by decide)
  have p : mRd.Path 3 ⟨h, 0, 0, 0, false, 3⟩ (A.later 0) ⟨h, A.loadF h 3, A.loadF h 4, A.loadF h 5, false, 6⟩ (A.later 3) := .cons trivial s3 (uu 0 (by decide) (by decide)) rfl (.cons trivial s4 (uu 1 (by decide) (by decide)) rfl (.cons trivial s5 (uu 2 (by decide) (by decide)) rfl .nil))
  have r := p.run (Mch.Runs.last trivial s6 (uu 3 (by decide) (by decide)) rfl)
  rw [later0] at r
  exact r
end
end Go.Proofs.Ytcjhakdopnamoaa

set_option linter.unusedVariables false
set_option maxRecDepth 10000
namespace Go.Proofs.Ytcjhakdopnamoaa
open Go Go.Fw
/- magpie/magpielaw18.FrameBoth -/
noncomputable def t_magpielaw18_FrameBoth_J3 (p1 : Sl) (x22 : HL Sh1.T [(.leaf .ptr), (.agg [(.int .i64), (.int .i64), (.int .i64), (.int .i64), (.int .i64)]), (.leaf .ptr)]) (x53 : HL Sh1.T [(.leaf (.int .i64)), (.leaf .bool)]) (y1 : HL Sh1.T [(.leaf .bool), (.leaf .ptr), (.leaf .bool), (.leaf .bool), (.leaf (.int .i64))]) (x110 : HL Sh1.T [(.agg [(.int .i64), (.int .i64)]), (.leaf .bool)]) : Tree :=
  bif y1.2.2.1 then (
    .call f_frame_NewAsk [(.pointer x22.2.2.1), (.int .i64 1), (.int .i64 x53.1)] (.one (.leaf .ptr)) fun x166 =>
    .look (opS Try.prog (.binOp .eql ty_p_frame_Ask (.tmp 0) (.const (.pointer none)) ty_p_frame_Ask) ty_bool [(.pointer x166)]) (.one (.leaf .bool)) fun x168 =>
    bif x168 then (
      .ret (.bool false))
    else (
      .again 896 [(.bool y1.1), (.pointer x166), (.bool true), (.bool x110.2.1), (.int .i64 (w64 (y1.2.2.2.2.1 + 1)))]))
  else (
    .call f_frame_NewAsk [(.pointer x22.2.2.1), (.int .i64 1), (.int .i64 x53.1)] (.one (.leaf .ptr)) fun x166 =>
    .look (opS Try.prog (.binOp .eql ty_p_frame_Ask (.tmp 0) (.const (.pointer none)) ty_p_frame_Ask) ty_bool [(.pointer x166)]) (.one (.leaf .bool)) fun x168 =>
    bif x168 then (
      .ret (.bool false))
    else (
      .again 896 [(.bool y1.1), (.pointer x166), (.bool (decide ((y1.2.2.2.2.1 : Int) ≥ ((p1.len : Nat) : Int)))), (.bool x110.2.1), (.int .i64 (w64 (y1.2.2.2.2.1 + 1)))]))

noncomputable def t_magpielaw18_FrameBoth_J4 (p1 : Sl) (x22 : HL Sh1.T [(.leaf .ptr), (.agg [(.int .i64), (.int .i64), (.int .i64), (.int .i64), (.int .i64)]), (.leaf .ptr)]) (x53 : HL Sh1.T [(.leaf (.int .i64)), (.leaf .bool)]) (x60 : Option Addr) (y1 : HL Sh1.T [(.leaf .bool), (.leaf .ptr), (.leaf .bool), (.leaf .bool), (.leaf (.int .i64))]) (x110 : HL Sh1.T [(.agg [(.int .i64), (.int .i64)]), (.leaf .bool)]) : Tree :=
  bif (!x110.2.1) then (
    bif (!y1.2.2.1) then (
      bif (decide ((y1.2.2.2.2.1 : Int) ≥ ((p1.len : Nat) : Int))) then (
        .call f_magpielaw18_run [(.pointer x22.1), (.iface ty_p_frame_End (.pointer x60))] (.one (.leaf .bool)) fun x154 =>
        bif (!x154) then (
          .ret (.bool false))
        else (
          t_magpielaw18_FrameBoth_J3 p1 x22 x53 y1 x110))
      else (
        t_magpielaw18_FrameBoth_J3 p1 x22 x53 y1 x110))
    else (
      t_magpielaw18_FrameBoth_J3 p1 x22 x53 y1 x110))
  else (
    .again 896 [(.bool y1.1), (.pointer y1.2.1), (.bool y1.2.2.1), (.bool x110.2.1), (.int .i64 (w64 (y1.2.2.2.2.1 + 1)))])

noncomputable def t_magpielaw18_FrameBoth_J8 (p0 : Int) (p1 : Sl) (x22 : HL Sh1.T [(.leaf .ptr), (.agg [(.int .i64), (.int .i64), (.int .i64), (.int .i64), (.int .i64)]), (.leaf .ptr)]) (x53 : HL Sh1.T [(.leaf (.int .i64)), (.leaf .bool)]) (x60 : Option Addr) (y1 : HL Sh1.T [(.leaf .bool), (.leaf .ptr), (.leaf .bool), (.leaf .bool), (.leaf (.int .i64))]) : Tree :=
  bif y1.2.2.2.1 then (
    bif y1.2.2.1 then (
      .again 896 [(.bool y1.1), (.pointer y1.2.1), (.bool true), (.bool y1.2.2.2.1), (.int .i64 (w64 (y1.2.2.2.2.1 + 1)))])
    else (
      .call f_frame_End_Step [(.pointer x60), (.pointer x22.1)] (.one (.leaf .bool)) fun x102 =>
      .again 896 [(.bool y1.1), (.pointer y1.2.1), (.bool x102), (.bool y1.2.2.2.1), (.int .i64 (w64 (y1.2.2.2.2.1 + 1)))]))
  else (
    .call f_frame_Ask_Step [(.pointer y1.2.1), (.pointer x22.1)] (.one (.leaf .bool)) fun x106 =>
    bif (!x106) then (
      .again 896 [(.bool y1.1), (.pointer y1.2.1), (.bool y1.2.2.1), (.bool y1.2.2.2.1), (.int .i64 (w64 (y1.2.2.2.2.1 + 1)))])
    else (
      .call f_frame_Ask_End [(.pointer y1.2.1)] (.tup [(.agg [(.int .i64), (.int .i64)]), (.leaf .bool)]) fun x110 =>
      .newP (.cells #[(.int .i64 0), (.int .i64 0)] ty_api_End) fun x18 =>
      .stA x18 [(.int .i64 x110.1.1), (.int .i64 x110.1.2.1)] <|
      bif x110.2.1 then (
        .ld x18 (.int .i64) fun x116 =>
        bif ((x116 : Int) != 1) then (
          .ret (.bool false))
        else (
          .ld (x18.add 1) (.int .i64) fun x120 =>
          bif ((x120 : Int) != p0) then (
            .ret (.bool false))
          else (
            .call f_frame_End_Told [(.pointer x60)] (.one (.leaf .bool)) fun x126 =>
            bif (!x126) then (
              .ret (.bool false))
            else (
              bif (!x110.2.1) then (
                .ld x18 (.int .i64) fun x135 =>
                bif ((x135 : Int) != 0) then (
                  .ret (.bool false))
                else (
                  t_magpielaw18_FrameBoth_J4 p1 x22 x53 x60 y1 x110))
              else (
                t_magpielaw18_FrameBoth_J4 p1 x22 x53 x60 y1 x110)))))
      else (
        bif (!x110.2.1) then (
          .ld x18 (.int .i64) fun x135 =>
          bif ((x135 : Int) != 0) then (
            .ret (.bool false))
          else (
            t_magpielaw18_FrameBoth_J4 p1 x22 x53 x60 y1 x110))
        else (
          t_magpielaw18_FrameBoth_J4 p1 x22 x53 x60 y1 x110))))

noncomputable def t_magpielaw18_FrameBoth_J9 (p0 : Int) (p1 : Sl) (x22 : HL Sh1.T [(.leaf .ptr), (.agg [(.int .i64), (.int .i64), (.int .i64), (.int .i64), (.int .i64)]), (.leaf .ptr)]) (x53 : HL Sh1.T [(.leaf (.int .i64)), (.leaf .bool)]) (x60 : Option Addr) (y1 : HL Sh1.T [(.leaf .bool), (.leaf .ptr), (.leaf .bool), (.leaf .bool), (.leaf (.int .i64))]) : Tree :=
  bif (decide ((y1.2.2.2.2.1 : Int) < ((p1.len : Nat) : Int))) then (
    .look (opS Try.prog (.indexAddr ty_s_bool (.tmp 0) (.tmp 1)) ty_unit [(.slice p1.a p1.len p1.cap), (.int .i64 y1.2.2.2.2.1)]) (.one (.leaf .addr)) fun x88 =>
    .ld x88 .bool fun x89 =>
    bif x89 then (
      bif (!y1.2.2.1) then (
        bif y1.2.2.1 then (
          .again 896 [(.bool y1.1), (.pointer y1.2.1), (.bool true), (.bool y1.2.2.2.1), (.int .i64 (w64 (y1.2.2.2.2.1 + 1)))])
        else (
          .call f_frame_End_Step [(.pointer x60), (.pointer x22.1)] (.one (.leaf .bool)) fun x102 =>
          .again 896 [(.bool y1.1), (.pointer y1.2.1), (.bool x102), (.bool y1.2.2.2.1), (.int .i64 (w64 (y1.2.2.2.2.1 + 1)))]))
      else (
        t_magpielaw18_FrameBoth_J8 p0 p1 x22 x53 x60 y1))
    else (
      t_magpielaw18_FrameBoth_J8 p0 p1 x22 x53 x60 y1))
  else (
    t_magpielaw18_FrameBoth_J8 p0 p1 x22 x53 x60 y1)

noncomputable def t_magpielaw18_FrameBoth_J10 (p0 : Int) (x22 : HL Sh1.T [(.leaf .ptr), (.agg [(.int .i64), (.int .i64), (.int .i64), (.int .i64), (.int .i64)]), (.leaf .ptr)]) (x53 : HL Sh1.T [(.leaf (.int .i64)), (.leaf .bool)]) (y1 : HL Sh1.T [(.leaf .bool), (.leaf .ptr), (.leaf .bool), (.leaf .bool), (.leaf (.int .i64))]) : Tree :=
  bif y1.2.2.1 then (
    bif y1.2.2.2.1 then (
      .call f_arena_Arena_State [(.pointer x22.1), (.int .i64 x53.1)] (.one (.leaf (.int .i64))) fun x176 =>
      bif ((x176 : Int) != 1) then (
        .call f_arena_Arena_Count [(.pointer x22.1)] (.one (.agg [(.int .i64), (.int .i64), (.int .i64), (.int .i64)])) fun x181 =>
        bif ((x181.2.1 : Int) == 0) then (
          .call f_arena_Arena_Fault [(.pointer x22.1)] (.one (.leaf .bool)) fun x187 =>
          bif (!x187) then (
            .qcall f_magpielaw00_Place [(.int .i64 p0), (.int .i64 1)] (.one (.leaf (.int .i64))) fun x192 =>
            bif ((x192 : Int) == 0) then (
              .call f_magpielaw18_awake [] (.one (.leaf .bool)) fun x196 =>
              .ret (.bool x196))
            else (
              .ret (.bool false)))
          else (
            .ret (.bool false)))
        else (
          .ret (.bool false)))
      else (
        .ret (.bool false)))
    else (
      .ret (.bool false)))
  else (
    .ret (.bool false))

@[reducible] def t_magpielaw18_FrameBoth_L1_sh : List Sh1 := [(.leaf .bool), (.leaf .ptr), (.leaf .bool), (.leaf .bool), (.leaf (.int .i64))]
noncomputable def t_magpielaw18_FrameBoth_L1 (p0 : Int) (p1 : Sl) (x22 : HL Sh1.T [(.leaf .ptr), (.agg [(.int .i64), (.int .i64), (.int .i64), (.int .i64), (.int .i64)]), (.leaf .ptr)]) (x53 : HL Sh1.T [(.leaf (.int .i64)), (.leaf .bool)]) (x60 : Option Addr) (y1 : HL Sh1.T t_magpielaw18_FrameBoth_L1_sh) : Tree :=
  bif (decide ((y1.2.2.2.2.1 : Int) < 400)) then (
    bif y1.2.2.1 then (
      bif (!y1.2.2.2.1) then (
        t_magpielaw18_FrameBoth_J9 p0 p1 x22 x53 x60 y1)
      else (
        t_magpielaw18_FrameBoth_J10 p0 x22 x53 y1))
    else (
      t_magpielaw18_FrameBoth_J9 p0 p1 x22 x53 x60 y1))
  else (
    t_magpielaw18_FrameBoth_J10 p0 x22 x53 y1)
noncomputable def t_magpielaw18_FrameBoth (p0 : Int) (p1 : Sl) (p2 : Bool) : Tree :=
  .call f_magpielaw18_make1 [(.int .i64 2), (.int .i64 3), (.bool p2)] (.tup [(.leaf .ptr), (.agg [(.int .i64), (.int .i64), (.int .i64), (.int .i64), (.int .i64)]), (.leaf .ptr)]) fun x22 =>
  .newP (.cells #[(.int .i64 0), (.int .i64 0), (.int .i64 0), (.int .i64 0), (.int .i64 0)] ty_free_Place) fun x8 =>
  .stA x8 [(.int .i64 x22.2.1.1), (.int .i64 x22.2.1.2.1), (.int .i64 x22.2.1.2.2.1), (.int .i64 x22.2.1.2.2.2.1), (.int .i64 x22.2.1.2.2.2.2.1)] <|
  .ldA x8 [(.int .i64), (.int .i64), (.int .i64), (.int .i64), (.int .i64)] fun x26 =>
  .call f_frame_NewMake [(.agg #[(.int .i64 x26.1), (.int .i64 x26.2.1), (.int .i64 x26.2.2.1), (.int .i64 x26.2.2.2.1), (.int .i64 x26.2.2.2.2.1)]), (.pointer x22.2.2.1), (.int .i64 0), (.agg #[(.int .i64 0), (.int .i64 0), (.int .i64 1125899906842624), (.bool false)])] (.one (.leaf .ptr)) fun x29 =>
  .look (opS Try.prog (.binOp .eql ty_p_arena_Arena (.tmp 0) (.const (.pointer none)) ty_p_arena_Arena) ty_bool [(.pointer x22.1)]) (.one (.leaf .bool)) fun x31 =>
  bif x31 then (
    .ret (.bool false))
  else (
    .look (opS Try.prog (.binOp .eql ty_p_guard_Guard (.tmp 0) (.const (.pointer none)) ty_p_guard_Guard) ty_bool [(.pointer x22.2.2.1)]) (.one (.leaf .bool)) fun x34 =>
    bif x34 then (
      .ret (.bool false))
    else (
      .look (opS Try.prog (.binOp .eql ty_p_frame_Make (.tmp 0) (.const (.pointer none)) ty_p_frame_Make) ty_bool [(.pointer x29)]) (.one (.leaf .bool)) fun x38 =>
      bif x38 then (
        .ret (.bool false))
      else (
        .call f_magpielaw18_run [(.pointer x22.1), (.iface ty_p_frame_Make (.pointer x29))] (.one (.leaf .bool)) fun x44 =>
        bif (!x44) then (
          .ret (.bool false))
        else (
          bif (decide ((((p1.len : Nat) : Int) : Int) > 200)) then (
            .call f_magpielaw18_awake [] (.one (.leaf .bool)) fun x50 =>
            .ret (.bool x50))
          else (
            .call f_frame_Make_Handle [(.pointer x29)] (.tup [(.leaf (.int .i64)), (.leaf .bool)]) fun x53 =>
            .call f_frame_NewEnd [(.pointer x22.2.2.1), (.int .i64 0), (.int .i64 x53.1), (.agg #[(.int .i64 1), (.int .i64 p0)])] (.one (.leaf .ptr)) fun x60 =>
            .call f_frame_NewAsk [(.pointer x22.2.2.1), (.int .i64 1), (.int .i64 x53.1)] (.one (.leaf .ptr)) fun x63 =>
            .look (opS Try.prog (.binOp .eql ty_p_frame_End (.tmp 0) (.const (.pointer none)) ty_p_frame_End) ty_bool [(.pointer x60)]) (.one (.leaf .bool)) fun x65 =>
            bif x65 then (
              .ret (.bool false))
            else (
              .look (opS Try.prog (.binOp .eql ty_p_frame_Ask (.tmp 0) (.const (.pointer none)) ty_p_frame_Ask) ty_bool [(.pointer x63)]) (.one (.leaf .bool)) fun x68 =>
              bif x68 then (
                .ret (.bool false))
              else (
                .loop 896 t_magpielaw18_FrameBoth_L1_sh [(.bool false), (.pointer x63), (.bool false), (.bool false), (.int .i64 0)] (t_magpielaw18_FrameBoth_L1 p0 p1 x22 x53 x60))))))))
theorem t_magpielaw18_FrameBoth_eq (p0 : Int) (p1 : Sl) (p2 : Bool) : funcTree Try.prog { quiet := [16, 34, 36, 40, 41, 66, 67, 75, 76, 77, 97, 98, 103, 108, 110, 139, 146, 149, 161], quietTmp := true, fncs := [], ifcs := [] } Try.f15 [(.int .i64 p0), (.slice p1.a p1.len p1.cap), (.bool p2)] = t_magpielaw18_FrameBoth p0 p1 p2 := by kernel_rfl
theorem t_magpielaw18_FrameBoth_spec {p0 : Int} {p1 : Sl} {p2 : Bool} {H : Heap} {R : Value → Heap → Prop} (h : ∀ L, wp Try.prog (t_magpielaw18_FrameBoth p0 p1 p2) L H R) : SpecF Try.prog f_magpielaw18_FrameBoth #[(.int .i64 p0), (.slice p1.a p1.len p1.cap), (.bool p2)] H R :=
  spec_of_tree (cfg := { quiet := [16, 34, 36, 40, 41, 66, 67, 75, 76, 77, 97, 98, 103, 108, 110, 139, 146, 149, 161], quietTmp := true, fncs := [], ifcs := [] }) Try.func15 fun L => (t_magpielaw18_FrameBoth_eq p0 p1 p2).symm ▸ h L

end Go.Proofs.Ytcjhakdopnamoaa

set_option linter.unusedVariables false
set_option linter.unusedSimpArgs false
set_option maxRecDepth 20000
namespace Go.Proofs.Ytcjhakdopnamoaa
open Go Go.Fw

theorem npMk (a : Addr) : opS Try.prog (.binOp .eql ty_p_frame_Make (.tmp 0) (.const (.pointer none)) ty_p_frame_Make) ty_bool [(.pointer (some a))] = .pure (.value (.bool false)) := by kernel_rfl
theorem npRd (a : Addr) : opS Try.prog (.binOp .eql ty_p_frame_Read (.tmp 0) (.const (.pointer none)) ty_p_frame_Read) ty_bool [(.pointer (some a))] = .pure (.value (.bool false)) := by kernel_rfl
theorem npEn (a : Addr) : opS Try.prog (.binOp .eql ty_p_frame_End (.tmp 0) (.const (.pointer none)) ty_p_frame_End) ty_bool [(.pointer (some a))] = .pure (.value (.bool false)) := by kernel_rfl
theorem npAs (a : Addr) : opS Try.prog (.binOp .eql ty_p_frame_Ask (.tmp 0) (.const (.pointer none)) ty_p_frame_Ask) ty_bool [(.pointer (some a))] = .pure (.value (.bool false)) := by kernel_rfl

section
variable {A B : Ar} {w s : Int} {S S' : Sg} {I : List Nat} {L : Hands} {R : Value → Heap → Prop} {G : Heap} {l : Bl} {ep : Bool}

theorem fmake_spec (ep : Bool) (w s : Int) (wb : 1 ≤ w ∧ w ≤ 9) (sb : 0 ≤ s ∧ s ≤ 120) (H : Heap) : SpecF Try.prog f_magpielaw18_make1 #[.int .i64 w, .int .i64 s, .bool ep] H fun v K => ∃ (A : Ar) (q mq : Nat), v = .tuple #[.pointer (aI A.ids), (plOf w (8 * s)).val, .pointer (some ⟨q, 0, none⟩)] ∧
    K = own A ((gdOf ep w s 1).bl q mq []) H ∧ (∀ x ∈ A.ids, H x = none) ∧ Ok A.ids H (keys ((gdOf ep w s 1).bl q mq [])) ∧ GZ A.ids A ep w s ⟨fun _ => [], 0, fun _ => 0, fun _ => -1, 0⟩ ∧ (∀ i, A.rawF i = 0) ∧ A.uses = 0 ∧ A.nL = 0 ∧ A.nR = 0 := by
  refine t_magpielaw18_make1_spec fun L => ?_
  unfold t_magpielaw18_make1
  have e8 : w64 (8 * s) = 8 * s := w64_in (by omega) (by omega)
  have ed : (8 * s + 7) / 8 = s := by omega
  rw [e8]
  have ok0 : Ok0 H (keys []) := ⟨.nil, fun b h => (by cases h)⟩
  refine p_newP (l := []) ok0 fun x9 ok0 => ?_
  refine w_Raw5 ⟨by omega, by omega⟩ ⟨by omega, by omega⟩ ?_
  rw [ed]
  refine p_newP ok0 fun x11 ok0 => ?_
  refine p_stA 0 ok0 rfl rfl rfl rfl ?_
  dsimp only
  refine wp_call_det (x := gwords ep w) (GRaw_det ep ⟨by omega, by omega⟩ _) ?_
  have gw : 0 ≤ gwords ep w ∧ gwords ep w ≤ 100 := by unfold gwords; cases ep <;> simp <;> omega
  have en : w64 (4 * w + 2 * s + 1 + gwords ep w) = 4 * w + 2 * s + 1 + gwords ep w := w64_in (by omega) (by omega)
  have ok0 : Ok0 H (keys [(x11, oc ty_free_Place (plCells (plOf w (8 * s)))), (x9, oc ty_free_Place (plCells ⟨0, 0, 0, 0, 0⟩))]) := ok0
  refine p_ldA (l := [(x11, oc ty_free_Place (plCells (plOf w (8 * s)))), (x9, oc ty_free_Place (plCells ⟨0, 0, 0, 0, 0⟩))]) 0 ok0 rfl rfl rfl ?_
  refine p_ldA (l := [(x11, oc ty_free_Place (plCells (plOf w (8 * s)))), (x9, oc ty_free_Place (plCells ⟨0, 0, 0, 0, 0⟩))]) 0 ok0 rfl rfl rfl ?_
  rw [en]
  refine w_New ok0 ⟨by omega, by omega⟩ ⟨by omega, by omega⟩ fun A hm hA hI ok => ?_
  refine w_ckA 0 hA ok rfl rfl rfl rfl ?_
  refine w_ckA 0 hA ok rfl rfl rfl rfl ?_
  refine w_GNew (w := w) (n := 4 * w + 2 * s + 1) (th := 1) (ep := ep) (p := plOf w (8 * s)) ⟨by omega, by omega⟩ hA ok fun q mq ok1 => ?_
  obtain ⟨p1, ok2⟩ := own_perm (A := A) (l' := (x11, oc ty_free_Place (plCells (plOf w (8 * s)))) :: (x9, oc ty_free_Place (plCells ⟨0, 0, 0, 0, 0⟩)) :: (gdOf ep w s 1).bl q mq []) ok1 (perm_by fun c d c0 cd ca => by
    show c ((gdOf ep w s 1).bl q mq [] ++ _) = _
    simp only [cd, ca, c0]; omega)
  rw [p1]
  refine w_ckA 0 hA ok2 rfl rfl rfl rfl ?_
  refine w_stA 1 hA ok2 rfl rfl rfl rfl ?_
  refine ⟨(aI A.ids, (w, 0, 4 * w, 4 * w + (8 * s + 7) / 8, 4 * w + 2 * ((8 * s + 7) / 8), ()), some ⟨q, 0, none⟩, ()), ?_, ?_⟩
  · refine ldK_still (own_get (i := 1) hA (by exact ok2) rfl) 5 0 #[] (by exact Nat.le_refl 5) ?_
    rfl
  have ok2 : Ok A.ids H (x11 :: x9 :: keys ((gdOf ep w s 1).bl q mq [])) := ok2
  have nd : (keys ((gdOf ep w s 1).bl q mq [])).Nodup := (List.nodup_cons.1 (List.nodup_cons.1 ok2.nd).2).2
  have ok' : Ok A.ids H (keys ((gdOf ep w s 1).bl q mq [])) := ok2.sub nd fun b hb => List.mem_cons_of_mem _ (List.mem_cons_of_mem _ hb)
  refine ⟨own A ((gdOf ep w s 1).bl q mq []) H, own_sub (by exact ok2) ok'.nd fun p hp => List.mem_cons_of_mem _ (List.mem_cons_of_mem _ hp), A, q, mq, rfl, rfl, hI, ok', ⟨hA, SL.made hm ?_ ⟨wb.1, by omega⟩ ⟨by omega, by omega⟩, hm.fault, ?_, wb, sb⟩, fun i => ?_, hm.uses, hm.nL, hm.nR⟩
  · show 4 * w + 2 * ((8 * s + 7) / 8) < _; omega
  · rw [hm.raw, List.length_replicate]; omega
  · unfold Ar.rawF
    split
    · rename_i h; rw [hm.raw, List.getD_eq_getElem?_getD, List.getElem?_replicate]; split <;> rfl
    · rfl

/-- A make is run, where there is room. -/
theorem w_mkRun {g : Gd} {m : Int} {ls : Int → List (Int × Int)} {q mq b : Nat} {e : List LE} {aj : Nat × Nat × Nat} {gar rest : Bl} {who : Int} {tw : Nat → Int} {x : Al} {C : Ar} {n : Nat} {k : Bool → Tree} (hA : Aw I A) (hC : Aw I C) (gs : GdS e ls)
    (ok : Ok I G (keys ((b, oc ty_frame_Make (mkC q g.pl who tw (some ⟨aj.1, 0, none⟩) .nilIface 0 0 0 false)) :: ((newAl g.pl who 0).bl aj ++ (gar ++ (g.bl q mq e ++ rest))))))
    (r : (mMk q mq).Runs n ⟨g, ls, g.pl, who, tw, some (newAl g.pl who 0), none, 0, 0, 0, false⟩ A ⟨g, ls, g.pl, who, tw, none, none, 1, 7, x.h, true⟩ C) (hn : n ≤ 4000)
    (hk : ∀ e' gar', Ok I G (keys ((b, oc ty_frame_Make (mkC q g.pl who tw none .nilIface 1 7 x.h true)) :: (g.bl q mq e' ++ (gar' ++ rest)))) → GdS e' ls → wp Try.prog (k true) L (own C ((b, oc ty_frame_Make (mkC q g.pl who tw none .nilIface 1 7 x.h true)) :: (g.bl q mq e' ++ (gar' ++ rest))) G) R) :
    wp Try.prog (.call f_magpielaw18_run [.pointer (aI I), .iface ty_p_frame_Make (.pointer (some ⟨b, 0, none⟩))] (.one (.leaf .bool)) k) L (own A ((b, oc ty_frame_Make (mkC q g.pl who tw (some ⟨aj.1, 0, none⟩) .nilIface 0 0 0 false)) :: ((newAl g.pl who 0).bl aj ++ (gar ++ (g.bl q mq e ++ rest)))) G) R := by
  obtain ⟨p1, ok2⟩ := own_perm (A := A) (l' := Mk.bl q mq ⟨g, ls, g.pl, who, tw, some (newAl g.pl who 0), none, 0, 0, 0, false⟩ ⟨b, e, lj0, aj, gar⟩ ++ rest) ok (perm_by fun c d c0 cd ca => by
    show _ = c (((b, oc ty_frame_Make (mkC q g.pl who tw (some ⟨aj.1, 0, none⟩) .nilIface 0 0 0 false)) :: (g.bl q mq e ++ ((newAl g.pl who 0).bl aj ++ gar))) ++ rest)
    simp only [List.cons_append, cd, ca, c0]; omega)
  rw [p1]
  refine w_runR18 (mMk_ok q mq) (mMk_inv q mq) r hn (j := ⟨b, e, lj0, aj, gar⟩) hA ok2 gs fun j' ha _ ok3 rp => ?_
  obtain ⟨b', e', lj', aj', gar'⟩ := j'
  have ha : b' = b := ha
  subst ha
  have ok3 : Ok I G (keys (((b', oc ty_frame_Make (mkC q g.pl who tw none .nilIface 1 7 x.h true)) :: (g.bl q mq e' ++ ([] ++ gar'))) ++ rest)) := ok3
  show wp Try.prog _ L (own C (((b', oc ty_frame_Make (mkC q g.pl who tw none .nilIface 1 7 x.h true)) :: (g.bl q mq e' ++ ([] ++ gar'))) ++ rest) G) _
  obtain ⟨p2, ok4⟩ := own_perm (A := C) (l' := (b', oc ty_frame_Make (mkC q g.pl who tw none .nilIface 1 7 x.h true)) :: (g.bl q mq e' ++ (gar' ++ rest))) ok3 (perm_by fun c d c0 cd ca => by simp only [List.cons_append, List.nil_append, cd, ca, c0]; omega)
  rw [p2]
  exact hk e' gar' ok4 rp

/-- A read is run. -/
theorem w_rdRun {g : Gd} {m : Int} {S : Sg} {ls : Int → List (Int × Int)} {b : Nat} {h : Int} {rest : Bl} {k : Bool → Tree} (X : GI A g m S ls) (hu : A.uses ≤ 900000) (hs : A.stF h ≠ 0) (hc : opC h = 0) (hA : Aw I A) (ok : Ok I G (keys ((b, oc ty_frame_Read (rdC ⟨h, 0, 0, 0, false, 3⟩)) :: rest)))
    (hk : Ok I G (keys ((b, oc ty_frame_Read (rdC ⟨h, A.loadF h 3, A.loadF h 4, A.loadF h 5, (A.loadF h 6 : Int) == 1, 7⟩)) :: rest)) → Aw I (A.later 4) → wp Try.prog (k true) L (own (A.later 4) ((b, oc ty_frame_Read (rdC ⟨h, A.loadF h 3, A.loadF h 4, A.loadF h 5, (A.loadF h 6 : Int) == 1, 7⟩)) :: rest) G) R) :
    wp Try.prog (.call f_magpielaw18_run [.pointer (aI I), .iface ty_p_frame_Read (.pointer (some ⟨b, 0, none⟩))] (.one (.leaf .bool)) k) L (own A ((b, oc ty_frame_Read (rdC ⟨h, 0, 0, 0, false, 3⟩)) :: rest) G) R := by
  have r := read_run X hu hs hc
  refine w_runR18 (X := mRd.toR) (Mch.toR_ok mRd_ok) mRd_inv (Mch.toR_runs r) (by decide) (j := b) (rest := rest) hA ok trivial fun j' ha hB ok2 _ => ?_
  have ha : j' = b := ha
  subst ha
  exact hk ok2 hB

/-- A slot's word, loaded, among what a guard has. -/
theorem w_ldG {g : Gd} {m : Int} {S : Sg} {ls : Int → List (Int × Int)} {h i : Int} {k : Int → Tree} (X : GI A g m S ls) (hu : A.uses ≤ 900000) (hi : A.inOk h i) (hA : Aw I A) (hk : Aw I (A.later 1) → wp Try.prog (k (A.loadF h i)) L (own (A.later 1) l G) R) :
    wp Try.prog (.call f_arena_Arena_Load [.pointer (aI I), .int .i64 h, .int .i64 i] (.one (.leaf (.int .i64))) k) L (own A l G) R := by
  refine w_Load hA fun hB => ?_
  rw [touch_later X (by omega) hi] at hB ⊢
  exact hk hB
end
end Go.Proofs.Ytcjhakdopnamoaa

set_option linter.unusedVariables false
set_option linter.unusedSimpArgs false
set_option maxRecDepth 20000
namespace Go.Proofs.Ytcjhakdopnamoaa
open Go Go.Fw

theorem ld_later (A : Ar) (n h i : Int) : (A.later n).loadF h i = A.loadF h i := loadF_same rfl (stF_slots rfl h)
theorem st_later (A : Ar) (n h : Int) : (A.later n).stF h = A.stF h := stF_slots rfl h
theorem inOk_later {A : Ar} {n h i : Int} (hi : A.inOk h i) : (A.later n).inOk h i := ⟨by rw [st_later]; exact hi.1, hi.2⟩

/-- The first frame of all. -/
structure Fm1 (I : List Nat) (A : Ar) (g : Gd) (m : Int) (who : Int) (tw : Nat → Int) (q mq n : Nat) (x : Al) (B : Ar) (S1 : Sg) (C : Ar) : Prop where
  z : SlotZ A g m S0g (fun _ => []) who 0 n x B S1
  run : (mMk q mq).Runs (n + 7) ⟨g, fun _ => [], g.pl, who, tw, some (newAl g.pl who 0), none, 0, 0, 0, false⟩ A ⟨g, fun _ => [], g.pl, who, tw, none, none, 1, 7, x.h, true⟩ C
  w : Wr B g m S1 (fun _ => []) x.h tw 7 C
  hx : x.h ≠ 0
  hc : opC x.h = 0
  hs : C.stF x.h = 1
  aw : Aw I C
  n3 : (n : Int) = g.w + 3
  us : C.uses = A.uses + g.w + 10
theorem fm1 {I : List Nat} {A : Ar} {g : Gd} {m : Int} {who : Int} {tw : Nat → Int} (q mq : Nat) (hA : Aw I A) (X : GI A g m S0g fun _ => []) (hu : A.uses ≤ 1000) (wh : 0 ≤ who ∧ who < g.w) (hm : 8 ≤ m) : ∃ n x B S1 C, Fm1 I A g m who tw q mq n x B S1 C := by
  obtain ⟨n, x, B, S1, C, Z, r, W, hx, hc, hs, hs0⟩ := make_run (q := q) (mq := mq) (w := tw) X (by omega) wh (by show 0 ≤ 1000; decide) (by show 0 + 8 ≤ m; omega)
  have n3 : (n : Int) = g.w + 3 := by
    refine Z.z.nx ?_
    obtain ⟨kk, b', l', h1, h2, _⟩ | ⟨h1, h2, h3, h4⟩ | ⟨h1, h2, h3, h4⟩ := Z.z.gives.or
    · cases h2
    · rw [h3]; show (0 : Int) + sizeF 0 ≠ 0; decide
    · exact (hx h4).elim
  refine ⟨n, x, B, S1, C, Z, r, W, hx, hc, by rw [W.st]; exact hs, hA.of (Z.z.off.al.trans W.al) W.gi.wf, n3, ?_⟩
  have := W.us; have := Z.z.off.us; omega

set_option maxHeartbeats 1000000 in
theorem awake18_det (H : Heap) : Det Try.prog f_magpielaw18_awake [] H (.bool true) H := by
  refine t_magpielaw18_awake_spec fun L => ?_
  unfold t_magpielaw18_awake
  refine wp_call_of (fmake_spec false 1 2 (by decide) (by decide) H) ?_
  rintro v K ⟨A, q, mq, rfl, rfl, hI, ok, E, r0, u0, nl, nr⟩
  refine ⟨(aI A.ids, (1, 0, 4 * 1, 4 * 1 + (8 * 2 + 7) / 8, 4 * 1 + 2 * ((8 * 2 + 7) / 8), ()), some ⟨q, 0, none⟩, ()), rfl, ?_⟩
  have hA := E.aw
  refine w_newP hA ok fun x2 ok1 => ?_
  refine w_stA 0 hA ok1 rfl rfl rfl rfl ?_
  have X0 := E.gi (th := 1) r0 u0 nl nr
  obtain ⟨g, hg⟩ : ∃ g, g = gdOf false 1 2 1 := ⟨_, rfl⟩
  have gw : g.w = 1 := by rw [hg]; rfl
  have gpl : g.pl = plOf 1 16 := by rw [hg]; rfl
  have ok1 : Ok A.ids H (keys ((x2, oc ty_free_Place (plCells (plOf 1 16))) :: (gdOf false 1 2 1).bl q mq [])) := ok1
  show wp Try.prog _ L (own A ((x2, oc ty_free_Place (plCells (plOf 1 16))) :: (gdOf false 1 2 1).bl q mq []) H) _
  rw [← hg] at ok1 X0 ⊢
  refine w_ldA (x := (1, 0, 4 * 1, 4 * 1 + (8 * 2 + 7) / 8, 4 * 1 + 2 * ((8 * 2 + 7) / 8), ())) 0 hA ok1 rfl rfl rfl ?_
  refine w_NewMake (q := q) (p := plOf 1 16) hA ok1 fun b aj gar ok2 => ?_
  refine look_val (x := false) (np_some _) (wp_false rfl ?_)
  refine look_val (x := false) (npGd _) (wp_false rfl ?_)
  refine look_val (x := false) (npMk _) (wp_false rfl ?_)
  obtain ⟨cP, hcP⟩ : ∃ cP : Nat × Obj, cP = (x2, oc ty_free_Place (plCells (plOf 1 16))) := ⟨_, rfl⟩
  rw [← hcP, ← gpl] at ok2 ⊢
  obtain ⟨n, x, B, S1, C, Z⟩ := fm1 (who := 0) (tw := twF 3 (-7) 1125899906842624 true) q mq hA X0 (by omega) (by rw [gw]; decide) (by decide)
  obtain ⟨pp, ok3⟩ := own_perm (A := A) (l' := (b, oc ty_frame_Make (mkC q g.pl 0 (twF 3 (-7) 1125899906842624 true) (some ⟨aj.1, 0, none⟩) .nilIface 0 0 0 false)) :: ((newAl g.pl 0 0).bl aj ++ (gar ++ (g.bl q mq [] ++ [cP])))) ok2 (perm_by fun c d c0 cd ca => by simp only [cd, ca, c0]; omega)
  rw [pp]
  have n3 := Z.n3
  refine w_mkRun (m := 16) hA Z.aw gd0 ok3 Z.run (by omega) fun e' gar' ok4 gs => ?_
  refine wp_false rfl ?_
  refine w_MkHandle 0 (x := ⟨g, fun _ => [], g.pl, 0, twF 3 (-7) 1125899906842624 true, none, none, 1, 7, x.h, true⟩) Z.aw ok4 rfl ?_
  refine w_NewRead Z.aw ok4 fun z ok5 => ?_
  have hb : (true && (x.h : Int) != 0) = true := by rw [ibne Z.hx]; rfl
  refine wp_false (by show (!(true && (x.h : Int) != 0)) = false; rw [hb]; rfl) ?_
  refine look_val (x := false) (npRd _) (wp_false rfl ?_)
  have cu := Z.us
  have C1 := Z.w.gi
  have l3 : C.loadF x.h 3 = 3 := Z.w.ld 3 (by decide)
  have l4 : C.loadF x.h 4 = -7 := Z.w.ld 4 (by decide)
  have l5 : C.loadF x.h 5 = 1125899906842624 := Z.w.ld 5 (by decide)
  have l6 : C.loadF x.h 6 = 1 := Z.w.ld 6 (by decide)
  have l2 : C.loadF x.h 2 = 2 := Z.w.ld 2 (by decide)
  refine w_rdRun C1 (by omega) (by rw [Z.hs]; decide) Z.hc Z.aw ok5 fun ok6 hC2 => ?_
  rw [l3, l4, l5, l6] at ok6 ⊢
  refine wp_false rfl ?_
  refine w_RdTask hC2 ok6 ?_
  refine w_newP (c := [.int .i64 0, .int .i64 0, .int .i64 0, .bool false]) hC2 ok6 fun x8 ok7 => ?_
  refine w_stA 0 hC2 ok7 rfl rfl rfl rfl ?_
  refine w_ld 0 (x := 3) hC2 (by exact ok7) rfl rfl rfl ?_
  refine wp_true rfl ?_
  refine w_ld 0 (x := -7) hC2 (by exact ok7) rfl rfl rfl ?_
  refine wp_true rfl ?_
  refine w_ld 0 (x := 1125899906842624) hC2 (by exact ok7) rfl rfl rfl ?_
  refine wp_true (ibeq rfl) ?_
  refine w_ld 0 (x := true) hC2 (by exact ok7) rfl rfl rfl ?_
  refine wp_true rfl ?_
  refine w_ldG (C1.later (n := 4) (by decide)) (by show C.uses + 4 ≤ _; omega) (inOk_later ⟨by rw [Z.hs]; decide, by decide, by rw [Z.hc]; decide⟩) hC2 fun hC3 => ?_
  rw [ld_later, l2]
  refine wp_true rfl ?_
  refine w_Fault hC3 ?_
  have fa : ((C.later 4).later 1).fault = false := C1.fa
  rw [fa]
  exact ⟨H, own_end hC3 (by exact ok7) hI, rfl, rfl⟩

end Go.Proofs.Ytcjhakdopnamoaa

set_option linter.unusedVariables false
set_option linter.unusedSimpArgs false
set_option maxRecDepth 20000
namespace Go.Proofs.Ytcjhakdopnamoaa
open Go Go.Fw

section
variable {A B C : Ar} {g : Gd} {m : Int} {S S' : Sg} {l l' : Int → List (Int × Int)} {k h i v : Int} {q mq : Nat} {who : Int} {n : Nat}

/-- A look in a drop. -/
theorem dr_lift {y y' : Lk} (wb : 1 ≤ g.w ∧ g.w ≤ 1000) (hl : (l who).length < 1000) (h0 : (mLk q mq).Runs n y A y' B) : (mDr q mq).Runs n ⟨g, l, who, h, true, some y⟩ A ⟨g, y'.ls, who, h, true, none⟩ B := by
  have st : ∀ (y : Lk) (A : Ar) (y1 : Lk) (A1 : Ar), (mLk q mq).step y A = (y1, A1) → (mDr q mq).step ⟨g, l, who, h, true, some y⟩ A = if y1.fin = true then (⟨g, y1.ls, who, h, true, none⟩, A1) else (⟨g, l, who, h, true, some y1⟩, A1) := fun y A y1 A1 hs => by
    have hs : y.step A = (y1, A1) := hs
    show (if (y.step A).1.fin = true then ((⟨g, (y.step A).1.ls, who, h, true, none⟩ : Dr), (y.step A).2) else (⟨g, l, who, h, true, some (y.step A).1⟩, (y.step A).2)) = _
    rw [hs]
  have iv : ∀ (y : Lk) (A : Ar), (mLk q mq).inv y A → Dr.inv ⟨g, l, who, h, true, some y⟩ A := fun y A hi => ⟨wb, hl, fun h => (by cases h), fun y2 h2 => by obtain rfl := Option.some.inj h2; exact hi⟩
  induction h0 with
  | @one y A y1 A1 hi hs hu hf =>
    have hf : y1.fin = true := hf
    exact .one (iv y A hi) ((st y A y1 A1 hs).trans (if_pos hf)) hu rfl
  | @more n y A y1 A1 y' B hi hs hu hf hr ih =>
    have hf : y1.fin = false := hf
    exact .more (iv y A hi) ((st y A y1 A1 hs).trans (if_neg (by rw [hf]; exact Bool.false_ne_true))) hu rfl ih

theorem en_lift {d d' : Dr} {how val at_ : Int} (h0 : (mDr q mq).Runs n d A d' B) : (mEn q mq).Runs n ⟨d, how, val, at_, true⟩ A ⟨d', how, val, at_, true⟩ B := by
  have st : ∀ (d : Dr) (A : Ar) (d1 : Dr) (A1 : Ar), (mDr q mq).step d A = (d1, A1) → (mEn q mq).step ⟨d, how, val, at_, true⟩ A = (⟨d1, how, val, at_, true⟩, A1) ∧ d1.added = true := fun d A d1 A1 hs => by
    have hs : d.step A = (d1, A1) := hs
    refine ⟨?_, by have := Dr.step_added d A; rw [hs] at this; exact this⟩
    show ((⟨(d.step A).1, how, val, at_, true⟩ : En), (d.step A).2) = _
    rw [hs]
  have fi : ∀ d1 : Dr, d1.added = true → (mEn q mq).fin ⟨d1, how, val, at_, true⟩ = d1.fin := fun d1 h1 => by show (true && d1.added && d1.fin) = _; rw [h1]; rfl
  induction h0 with
  | @one d A d1 A1 hi hs hu hf =>
    obtain ⟨s1, s2⟩ := st d A d1 A1 hs
    exact .one ⟨hi, fun h => (by cases h)⟩ s1 hu ((fi d1 s2).trans hf)
  | @more n d A d1 A1 d' B hi hs hu hf hr ih =>
    obtain ⟨s1, s2⟩ := st d A d1 A1 hs
    exact .more ⟨hi, fun h => (by cases h)⟩ s1 hu ((fi d1 s2).trans hf) ih

theorem as_lift {d d' : Dr} {how val at_ : Int} (h0 : (mDr q mq).Runs n d A d' B) : (mAs q mq).Runs n ⟨d, how, val, at_, true, false⟩ A ⟨d', how, val, at_, true, true⟩ B := by
  have st : ∀ (d : Dr) (A : Ar) (d1 : Dr) (A1 : Ar), (mDr q mq).step d A = (d1, A1) → (mAs q mq).step ⟨d, how, val, at_, true, false⟩ A = (⟨d1, how, val, at_, true, d1.fin⟩, A1) := fun d A d1 A1 hs => by
    have hs : d.step A = (d1, A1) := hs
    show ((⟨(d.step A).1, how, val, at_, true, (d.step A).1.fin⟩ : As), (d.step A).2) = _
    rw [hs]
  induction h0 with
  | @one d A d1 A1 hi hs hu hf =>
    have hf : d1.fin = true := hf
    have s1 := st d A d1 A1 hs
    rw [hf] at s1
    exact .one hi s1 hu rfl
  | @more n d A d1 A1 d' B hi hs hu hf hr ih =>
    have hf : d1.fin = false := hf
    have s1 := st d A d1 A1 hs
    rw [hf] at s1
    exact .more hi s1 hu rfl ih

theorem w64_21 : w64 ((2 : Int) + -1) = 1 := by decide
theorem w64_11 : w64 ((1 : Int) + -1) = 0 := by decide

/-- One that knows it drops a frame, another still knows it. -/
theorem drop2 (X : GI A g m S l) (hu : A.uses ≤ 900000) (hl : (l who).length < 1000) (hi : A.inOk h 2) (hv : A.loadF h 2 = 2) :
    Stored A g m S l h 2 1 (A.storeF h 2 1) ∧ (mDr q mq).Runs 1 ⟨g, l, who, h, false, none⟩ A ⟨g, l, who, h, true, none⟩ (A.storeF h 2 1) := by
  have Z := X.store (v := 1) (by omega) hi
  have u0 := X.u0
  refine ⟨Z, .one ⟨by have := X.wb; show 1 ≤ g.w ∧ g.w ≤ 1000; omega, hl, fun _ => rfl, fun y h => (by cases h)⟩ ?_ ?_ rfl⟩
  · show Dr.step ⟨g, l, who, h, false, none⟩ A = _
    unfold Dr.step
    rw [if_pos rfl, if_neg (by show ¬ A.loadF h 2 = 1; rw [hv]; decide)]
    unfold Dr.add
    show ((⟨g, l, who, h, true, none⟩ : Dr), A.storeF h 2 (w64 (A.loadF h 2 + -1))) = _
    rw [hv, w64_21]
  · rw [Z.us, w64_in (by omega) (by omega)]; exact Int.le_refl _

/-- The last one drops it. -/
structure Drop1 (A : Ar) (g : Gd) (m : Int) (S : Sg) (l : Int → List (Int × Int)) (q mq : Nat) (who h : Int) (n : Nat) (A0 A1 B : Ar) (l' : Int → List (Int × Int)) (S' : Sg) : Prop where
  s0 : Stored A g m S l h 2 0 A0
  r1 : Ret1 A0 h A1
  g1 : GI A1 g m S (setL l who (l who ++ [(h, sinceF g A0)]))
  gi : GI B g m S' l'
  run : (mDr q mq).Runs n ⟨g, l, who, h, false, none⟩ A ⟨g, l', who, h, true, none⟩ B
  hn : n ≤ 2501
  hb : (n : Int) ≤ 7 + 2 * g.w + 3 * (l who).length
  al : Ar.Alike A B
  us : A.uses ≤ B.uses ∧ B.uses ≤ A.uses + 1000
  st : B.stF h ≠ 1
  ot : ∀ j, j ≠ h → A.stF j = 1 → B.stF j = 1
  ld : ∀ j i, j ≠ h → A.inOk j i → A.stF j = 1 → B.loadF j i = A.loadF j i
  nL : B.nL = A.nL - sizeF (opC h)
  or : (((l who).length : Int) + 1 < g.th ∧ B = A1 ∧ S' = S ∧ l' = setL l who (l who ++ [(h, sinceF g A0)])) ∨
       (g.th ≤ ((l who).length : Int) + 1 ∧ ∃ keep gs, Lkd A1 g m S (setL l who (l who ++ [(h, sinceF g A0)])) who keep gs 1 B ∧ S' = frS who S gs ∧ l' = setL l who ((l who ++ [(h, sinceF g A0)]).filter keep))
theorem drop1 (X : GI A g m S l) (hu : A.uses ≤ 600000) (kb : 0 ≤ who ∧ who < g.w) (hl : (l who).length ≤ 190) (th : 1 ≤ g.th) (hi : A.inOk h 2) (hs : A.stF h = 1) (hz : sizeF (opC h) ≤ A.nL) (hv : A.loadF h 2 = 1) : ∃ n A0 A1 B l' S', Drop1 A g m S l q mq who h n A0 A1 B l' S' := by
  have Z := X.store (v := 0) (by omega) hi
  have u0 := X.u0
  have zu := Z.us
  obtain ⟨A1, B, l', S', R1, X1, X', run', hor⟩ := Z.gi.retire_runB (q := q) (mq := mq) (k := who) (h := h) (by omega) kb (by rw [Z.st]; exact hs) (by rw [Z.nL]; exact hz) hl th
  have wb := X.wb
  have u1 := R1.us
  have lenf : ∀ keep : Int × Int → Bool, ((l who ++ [(h, sinceF g (A.storeF h 2 0))]).filter keep).length ≤ (l who ++ [(h, sinceF g (A.storeF h 2 0))]).length := fun keep => List.length_filter_le _ _
  have hst : (mDr q mq).step ⟨g, l, who, h, false, none⟩ A = (⟨g, setL l who (l who ++ [(h, 0)]), who, h, true, retM g l who h⟩, (A.storeF h 2 0).retireF h) := by
    show Dr.step ⟨g, l, who, h, false, none⟩ A = _
    unfold Dr.step
    rw [if_pos rfl, if_pos (show A.loadF h 2 = 1 from hv)]
    unfold Dr.add
    show ((⟨g, setL l who (l who ++ [(h, 0)]), who, h, true, retM g l who h⟩ : Dr), (A.storeF h 2 (w64 (A.loadF h 2 + -1))).retireF h) = _
    rw [hv, w64_11]
  have iv : (mDr q mq).inv ⟨g, l, who, h, false, none⟩ A := ⟨by show 1 ≤ g.w ∧ g.w ≤ 1000; omega, by show (l who).length < 1000; omega, fun _ => rfl, fun y h => (by cases h)⟩
  have ru := (Off.retireF (c := 0) Z.gi.wf h).us
  have hu1 : ((A.storeF h 2 0).retireF h).uses ≤ w64 (A.uses + 1) := by rw [w64_in (by omega) (by omega)]; omega
  have run : ∃ n : Nat, (n ≤ 2501 ∧ (n : Int) ≤ 7 + 2 * g.w + 3 * (l who).length) ∧ (mDr q mq).Runs n ⟨g, l, who, h, false, none⟩ A ⟨g, l', who, h, true, none⟩ B := by
    cases hm : retM g l who h with
    | none =>
      rw [hm] at run' hst
      obtain ⟨rfl, rfl⟩ := run'
      exact ⟨1, ⟨by decide, by omega⟩, .one iv hst hu1 rfl⟩
    | some y =>
      rw [hm] at run' hst
      obtain ⟨n, hn, r⟩ := run'
      refine ⟨n + 1, ⟨by omega, by omega⟩, .more iv hst hu1 rfl ?_⟩
      exact dr_lift (l := setL l who (l who ++ [(h, 0)])) ⟨by omega, by omega⟩ (by rw [setL_same]; simp; omega) r
  obtain ⟨n, hn, run⟩ := run
  have inS : ∀ j i, A.inOk j i → (A.storeF h 2 0).inOk j i := fun j i hj => (inOk_st Z.st).2 hj
  have l1 : ∀ j i, j ≠ h → A.inOk j i → A1.loadF j i = A.loadF j i := fun j i hj hji => by
    rw [loadF_same R1.wd (by rw [R1.st, if_neg hj]), Z.ld j i hji, if_neg (fun e => hj e.1)]
  have notgs : ∀ {keep gs} (L1 : Lkd A1 g m S (setL l who (l who ++ [(h, sinceF g (A.storeF h 2 0))])) who keep gs 1 B) (j : Int), j ≠ h → A.stF j = 1 → j ∉ gs := fun {keep gs} L1 j hj h1 hg => by
    obtain ⟨x, hx, _, rfl⟩ := L1.gone.1 hg
    rw [setL_same] at hx
    rcases List.mem_append.1 hx with hx | hx
    · have := X.st who x hx; rw [h1] at this; cases this
    · have : x = (h, sinceF g (A.storeF h 2 0)) := by simpa using hx
      rw [this] at hj; exact hj rfl
  refine ⟨n, A.storeF h 2 0, A1, B, l', S', Z, R1, X1, X', run, hn.1, hn.2, ?_, ?_, ?_, ?_, ?_, ?_, hor⟩
  · rcases hor with ⟨_, e, _⟩ | ⟨_, keep, gs, L1, _⟩
    · rw [e]; exact Z.al.trans R1.al
    · exact (Z.al.trans R1.al).trans L1.al
  · rcases hor with ⟨_, e, _⟩ | ⟨_, keep, gs, L1, _⟩
    · rw [e]; exact ⟨by omega, by omega⟩
    · have lu := L1.us
      have := lenf keep
      rw [setL_same] at lu
      simp only [List.length_append, List.length_cons, List.length_nil] at lu this
      exact ⟨by omega, by omega⟩
  · rcases hor with ⟨_, e, _⟩ | ⟨_, keep, gs, L1, _⟩
    · rw [e, R1.st, if_pos rfl]; decide
    · rw [L1.st]; split
      · decide
      · rw [R1.st, if_pos rfl]; decide
  · intro j hj h1
    have h2 : A1.stF j = 1 := by rw [R1.st, if_neg hj, Z.st]; exact h1
    rcases hor with ⟨_, e, _⟩ | ⟨_, keep, gs, L1, _⟩
    · rw [e]; exact h2
    · rw [L1.st, if_neg (notgs L1 j hj h1)]; exact h2
  · intro j i hj hji h1
    rcases hor with ⟨_, e, _⟩ | ⟨_, keep, gs, L1, _⟩
    · rw [e]; exact l1 j i hj hji
    · rw [loadF_same L1.wd (by rw [L1.st, if_neg (notgs L1 j hj h1)])]; exact l1 j i hj hji
  · rcases hor with ⟨_, e, _⟩ | ⟨_, keep, gs, L1, _⟩
    · rw [e, R1.nL, Z.nL]
    · rw [L1.nL, R1.nL, Z.nL]
end
end Go.Proofs.Ytcjhakdopnamoaa

set_option linter.unusedVariables false
set_option linter.unusedSimpArgs false
set_option maxRecDepth 20000
namespace Go.Proofs.Ytcjhakdopnamoaa
open Go Go.Fw

section
variable {L : Hands} {R : Value → Heap → Prop} {G : Heap} {rest : Bl} {I : List Nat}
variable {A B C : Ar} {g : Gd} {m : Int} {S S' : Sg} {l l' : Int → List (Int × Int)} {k h i v : Int} {q mq : Nat} {who : Int} {n : Nat} {ad ad' : Bool}

/-- A drop, an end, an ask is run. -/
theorem w_frRun {M : Type} {X : MchR M FJ} (hX : X.ok) {t : TypeId} (hinv : X.inv' t) {x x' : M} {T : TypeId} {tl tl' : List Value} {b : Nat} {e : List LE} {K : Bool → Tree} (ha : ∀ j, X.addr j = j.b)
    (hb : ∀ j, X.bl x j = frB T q mq ⟨g, l, who, h, ad, none⟩ tl j) (hb' : ∀ j, X.bl x' j = frB T q mq ⟨g, l', who, h, ad', none⟩ tl' j) (hr : ∀ j, X.rep x j = frR q mq ⟨g, l, who, h, ad, none⟩ j) (hr' : ∀ j, X.rep x' j = frR q mq ⟨g, l', who, h, ad', none⟩ j)
    (r : X.Runs n x A x' B) (hn : n ≤ 4000) (hA : Aw I A) (gs : GdS e l) (ok : Ok I G (keys ((b, oc T (drC ⟨g, l, who, h, ad, none⟩ q .nilIface ++ tl)) :: (g.bl q mq e ++ rest))))
    (hk : ∀ e' gar, Aw I B → Ok I G (keys ((b, oc T (drC ⟨g, l', who, h, ad', none⟩ q .nilIface ++ tl')) :: (g.bl q mq e' ++ (gar ++ rest)))) → GdS e' l' → wp Try.prog (K true) L (own B ((b, oc T (drC ⟨g, l', who, h, ad', none⟩ q .nilIface ++ tl')) :: (g.bl q mq e' ++ (gar ++ rest))) G) R) :
    wp Try.prog (.call f_magpielaw18_run [.pointer (aI I), .iface t (.pointer (some ⟨b, 0, none⟩))] (.one (.leaf .bool)) K) L (own A ((b, oc T (drC ⟨g, l, who, h, ad, none⟩ q .nilIface ++ tl)) :: (g.bl q mq e ++ rest)) G) R := by
  obtain ⟨p1, ok2⟩ := own_perm (A := A) (l' := frB T q mq ⟨g, l, who, h, ad, none⟩ tl ⟨b, e, lj0, []⟩ ++ rest) ok (perm_by fun c d c0 cd ca => by
    show _ = c (((b, oc T (drC ⟨g, l, who, h, ad, none⟩ q .nilIface ++ tl)) :: (g.bl q mq e ++ [])) ++ rest)
    simp only [List.cons_append, cd, ca, c0]; omega)
  rw [p1]
  have hab : b = X.addr (⟨b, e, lj0, []⟩ : FJ) := (ha ⟨b, e, lj0, []⟩).symm
  rw [← hb] at ok2 ⊢
  have key := w_runR18 hX hinv r hn (j := (⟨b, e, lj0, []⟩ : FJ)) (rest := rest) hA ok2 (by rw [hr]; exact gs) (L := L) (R := R) (k := K) fun j' ha' hB ok3 rp => by
    rw [hb'] at ok3 ⊢
    rw [hr'] at rp
    rw [ha, ha] at ha'
    obtain ⟨b', e', lj', gar'⟩ := j'
    have ha' : b' = b := ha'
    subst ha'
    have ok3 : Ok I G (keys (((b', oc T (drC ⟨g, l', who, h, ad', none⟩ q .nilIface ++ tl')) :: (g.bl q mq e' ++ gar')) ++ rest)) := ok3
    show wp Try.prog _ L (own B (((b', oc T (drC ⟨g, l', who, h, ad', none⟩ q .nilIface ++ tl')) :: (g.bl q mq e' ++ gar')) ++ rest) G) _
    obtain ⟨p2, ok4⟩ := own_perm (A := B) (l' := (b', oc T (drC ⟨g, l', who, h, ad', none⟩ q .nilIface ++ tl')) :: (g.bl q mq e' ++ (gar' ++ rest))) ok3 (perm_by fun c d c0 cd ca => by simp only [List.cons_append, cd, ca, c0]; omega)
    rw [p2]
    exact hk e' gar' hB ok4 rp
  rw [← hab] at key
  exact key

/-- How it ended is told. -/
structure EndP (A : Ar) (g : Gd) (m : Int) (S : Sg) (l : Int → List (Int × Int)) (q mq : Nat) (who h how val : Int) (C : Ar) : Prop where
  gi : GI C g m S l
  al : Ar.Alike A C
  st : ∀ k, C.stF k = A.stF k
  nL : C.nL = A.nL
  us : C.uses = A.uses + 2
  ld : ∀ k j, A.inOk k j → C.loadF k j = if k = h ∧ j = 0 then how else if k = h ∧ j = 1 then val else A.loadF k j
  pth : (mEn q mq).Path 2 ⟨⟨g, l, who, h, false, none⟩, how, val, 1, false⟩ A ⟨⟨g, l, who, h, false, none⟩, how, val, 0, true⟩ C
theorem end_path {how val : Int} (X : GI A g m S l) (hu : A.uses ≤ 900000) (hl : (l who).length < 1000) (hs : A.stF h ≠ 0) (hc : opC h = 0) : EndP A g m S l q mq who h how val ((A.storeF h 1 val).storeF h 0 how) := by
  have wb := X.wb
  have u0 := X.u0
  have ii : ∀ i : Int, 0 ≤ i → i < 8 → A.inOk h i := fun i i0 i1 => ⟨hs, i0, by rw [hc, show sizeF 0 = 8 from rfl]; exact i1⟩
  have Z1 := X.store (v := val) (by omega) (ii 1 (by decide) (by decide))
  have u1 := Z1.us
  have inS : ∀ k j, A.inOk k j → (A.storeF h 1 val).inOk k j := fun k j hj => (inOk_st Z1.st).2 hj
  have Z2 := Z1.gi.store (v := how) (by omega) (inS h 0 (ii 0 (by decide) (by decide)))
  have u2 := Z2.us
  have dv : ∀ A, Dr.inv ⟨g, l, who, h, false, none⟩ A := fun A => ⟨by show 1 ≤ g.w ∧ g.w ≤ 1000; omega, hl, fun _ => rfl, fun y h => (by cases h)⟩
  refine ⟨Z2.gi, Z1.al.trans Z2.al, fun k => (Z2.st k).trans (Z1.st k), Z2.nL.trans Z1.nL, by omega, fun k j hj => ?_, ?_⟩
  · rw [Z2.ld k j (inS k j hj), Z1.ld k j hj]
  · refine .cons (x1 := ⟨⟨g, l, who, h, false, none⟩, how, val, 0, false⟩) (D1 := A.storeF h 1 val) ⟨dv A, fun _ => rfl⟩ rfl ?_ rfl (.cons (x1 := ⟨⟨g, l, who, h, false, none⟩, how, val, 0, true⟩) (D1 := (A.storeF h 1 val).storeF h 0 how) ⟨dv _, fun _ => rfl⟩ rfl ?_ rfl .nil)
    · rw [u1, w64_in (by omega) (by omega)]; exact Int.le_refl _
    · rw [u2, u1, w64_in (by omega) (by omega)]; omega
end
end Go.Proofs.Ytcjhakdopnamoaa

set_option linter.unusedVariables false
set_option linter.unusedSimpArgs false
set_option maxRecDepth 20000
namespace Go.Proofs.Ytcjhakdopnamoaa
open Go Go.Fw

abbrev nls : Int → List (Int × Int) := fun _ => []
abbrev HB : Type := HL Sh1.T [(.leaf (.int .i64)), (.leaf .bool)]
abbrev X28 : Type := HL Sh1.T [(.leaf .ptr), (.agg [(.int .i64), (.int .i64), (.int .i64), (.int .i64), (.int .i64)]), (.leaf .ptr)]

/-- A frame that goes, in an arena. -/
structure FZ (I : List Nat) (A : Ar) (g : Gd) (S : Sg) (h how val refs : Int) : Prop where
  aw : Aw I A
  gi : GI A g 24 S nls
  gw : g.w = 2
  th : g.th = 1
  hs : A.stF h = 1
  hc : opC h = 0
  l0 : A.loadF h 0 = how
  l1 : A.loadF h 1 = val
  l2 : A.loadF h 2 = refs
  nL : A.nL = 8
  us : A.uses ≤ 500000
theorem FZ.i {I : List Nat} {A : Ar} {g : Gd} {S : Sg} {h how val refs : Int} (Z : FZ I A g S h how val refs) {i : Int} (i0 : 0 ≤ i) (i1 : i < 8) : A.inOk h i := ⟨by rw [Z.hs]; decide, i0, by rw [Z.hc, show sizeF 0 = 8 from rfl]; exact i1⟩
theorem FZ.later {I : List Nat} {A : Ar} {g : Gd} {S : Sg} {h how val refs : Int} (Z : FZ I A g S h how val refs) {n : Int} (n0 : 0 ≤ n) (hu : A.uses + n ≤ 500000) : FZ I (A.later n) g S h how val refs :=
  ⟨later_aw Z.aw n, Z.gi.later n0, Z.gw, Z.th, by rw [st_later]; exact Z.hs, Z.hc, by rw [ld_later]; exact Z.l0, by rw [ld_later]; exact Z.l1, by rw [ld_later]; exact Z.l2, Z.nL, hu⟩

section
variable {L : Hands} {G : Heap} {rest : Bl} {I : List Nat} {A : Ar} {g : Gd} {S : Sg} {h how val : Int} {q mq : Nat} {e : List LE}

end
end Go.Proofs.Ytcjhakdopnamoaa

set_option linter.unusedVariables false
set_option linter.unusedSimpArgs false
set_option maxRecDepth 20000
namespace Go.Proofs.Ytcjhakdopnamoaa
open Go Go.Fw

section
variable {L : Hands} {G : Heap} {rest : Bl} {I : List Nat} {A : Ar} {g : Gd} {S : Sg} {h how val : Int} {q mq : Nat} {e : List LE}

theorem FZ.told {v0 v1 refs : Int} (Z : FZ I A g S h v0 v1 refs) (hu : A.uses ≤ 400000) {who : Int} : EndP A g 24 S nls q mq who h how val ((A.storeF h 1 val).storeF h 0 how) ∧ FZ I ((A.storeF h 1 val).storeF h 0 how) g S h how val refs := by
  have P := end_path (q := q) (mq := mq) (who := who) (how := how) (val := val) Z.gi (by omega) (by show 0 < 1000; decide) (by rw [Z.hs]; decide) Z.hc
  refine ⟨P, Z.aw.of P.al P.gi.wf, P.gi, Z.gw, Z.th, by rw [P.st]; exact Z.hs, Z.hc, ?_, ?_, ?_, P.nL.trans Z.nL, by have := P.us; omega⟩
  · rw [P.ld h 0 (Z.i (by decide) (by decide)), if_pos ⟨rfl, rfl⟩]
  · rw [P.ld h 1 (Z.i (by decide) (by decide)), if_neg (fun h => by have := h.2; cases this), if_pos ⟨rfl, rfl⟩]
  · rw [P.ld h 2 (Z.i (by decide) (by decide)), if_neg (fun h => by have := h.2; cases this), if_neg (fun h => by have := h.2; cases this)]; exact Z.l2
theorem FZ.drop2 {how val : Int} (Z : FZ I A g S h how val 2) (hu : A.uses ≤ 400000) {who : Int} : Stored A g 24 S nls h 2 1 (A.storeF h 2 1) ∧ (mDr q mq).Runs 1 ⟨g, nls, who, h, false, none⟩ A ⟨g, nls, who, h, true, none⟩ (A.storeF h 2 1) ∧ FZ I (A.storeF h 2 1) g S h how val 1 := by
  obtain ⟨P, r⟩ := Proofs.Ytcjhakdopnamoaa.drop2 (q := q) (mq := mq) (who := who) Z.gi (by omega) (by show 0 < 1000; decide) (Z.i (by decide) (by decide)) Z.l2
  refine ⟨P, r, Z.aw.of P.al P.gi.wf, P.gi, Z.gw, Z.th, by rw [P.st]; exact Z.hs, Z.hc, ?_, ?_, ?_, P.nL.trans Z.nL, by have := P.us; omega⟩
  · rw [P.ld h 0 (Z.i (by decide) (by decide)), if_neg (fun h => by have := h.2; cases this)]; exact Z.l0
  · rw [P.ld h 1 (Z.i (by decide) (by decide)), if_neg (fun h => by have := h.2; cases this)]; exact Z.l1
  · rw [P.ld h 2 (Z.i (by decide) (by decide)), if_pos ⟨rfl, rfl⟩]
theorem FZ.drop1 {how val : Int} (Z : FZ I A g S h how val 1) (hu : A.uses ≤ 400000) {who : Int} (wh : 0 ≤ who ∧ who < 2) : ∃ n A0 A1 B l' S', Drop1 A g 24 S nls q mq who h n A0 A1 B l' S' :=
  Proofs.Ytcjhakdopnamoaa.drop1 (q := q) (mq := mq) Z.gi (by omega) (by rw [Z.gw]; exact wh) (by show 0 ≤ 190; decide) (by rw [Z.th]; decide) (Z.i (by decide) (by decide)) Z.hs (by rw [Z.hc, Z.nL]; decide) Z.l2

end
end Go.Proofs.Ytcjhakdopnamoaa

set_option linter.unusedVariables false
set_option linter.unusedSimpArgs false
set_option maxRecDepth 20000
namespace Go.Proofs.Ytcjhakdopnamoaa
open Go Go.Fw

/-! ### FrameBoth: two machines, step by step -/
def RowB (H : Heap) (a : Option Addr) (len : Nat) (B : Nat → Bool) : Prop := ∀ i, i < len → ∃ x, a = some x ∧ H.cell? (x.add i) = some (.bool (B i))
theorem wp_rowB {L : Hands} {H K : Heap} {R : Value → Heap → Prop} {s : Sl} {B : Nat → Bool} (hz : RowB H s.a s.len B) (hK : H.le K) {i : Int} (h0 : 0 ≤ i) (h1 : i < ((s.len : Nat) : Int)) {k : Bool → Tree} (h : wp Try.prog (k (B i.toNat)) L K R) :
    wp Try.prog (.look (opS Try.prog (.indexAddr ty_s_bool (.tmp 0) (.tmp 1)) ty_unit [(.slice s.a s.len s.cap), (.int .i64 i)]) (.one (.leaf .addr)) fun x => .ld x .bool k) L K R := by
  obtain ⟨x, hx, hc⟩ := hz i.toNat (by omega)
  rw [hx]
  have hi := opS_idxS (P := Try.prog) (t := ty_s_bool) (u := ty_unit) (e := ty_bool) (l := s.len) (c := s.cap) (i := i) (a := x) rfl rfl h0 h1
  refine look_val (x := x.add i.toNat) ?_ (wp_ld_of (x := B i.toNat) (cell_le hK hc) h)
  refine hi.trans ?_
  show Sem.pure (Next.value (.pointer (some (x.add (i.toNat * 1))))) = _
  rw [Nat.mul_one]

theorem w_stepR {M J : Type} {X : MchR M J} (hX : X.ok) {I : List Nat} {G : Heap} {m m1 : M} {A A1 : Ar} {j : J} {rest : Bl} (hs : X.step m A = (m1, A1)) (hA : Aw I A) (ok : Ok I G (keys (X.bl m j ++ rest))) (rp : X.rep m j) (hi : X.inv m A)
    {L : Hands} {R : Value → Heap → Prop} {k : Bool → Tree} (hk : ∀ j', X.addr j' = X.addr j → Aw I A1 → Ok I G (keys (X.bl m1 j' ++ rest)) → X.rep m1 j' → wp Try.prog (k (X.fin m1)) L (own A1 (X.bl m1 j' ++ rest) G) R) :
    wp Try.prog (.call X.f [.pointer (some ⟨X.addr j, 0, none⟩), .pointer (aI I)] (.one (.leaf .bool)) k) L (own A (X.bl m j ++ rest) G) R := by
  rw [keys_append] at ok
  obtain ⟨o1, o2⟩ := ok.split
  refine w_sub (hX I A _ m j hA o1 rp hi) ?_
  rintro v K ⟨j', rfl, rfl, ha, o3, rp', hA'⟩
  rw [hs] at o3 rp' hA' ⊢
  refine ⟨X.fin m1, rfl, ?_⟩
  rw [← own_append]
  exact hk j' ha hA' (by rw [keys_append]; exact o3.join o2) rp'

theorem wl_bpbbi {L : Hands} {H : Heap} {R : Value → Heap → Prop} {n : Nat} {init : List Value} {body : HL Sh1.T [.leaf .bool, .leaf .ptr, .leaf .bool, .leaf .bool, .leaf (.int .i64)] → Tree} (I : Bool → Option Addr → Bool → Bool → Int → Heap → Prop) (m : Bool → Option Addr → Bool → Bool → Int → Nat) (x0 : Bool) (x1 : Option Addr) (x2 x3 : Bool) (x4 : Int) (hi : I x0 x1 x2 x3 x4 H)
    (hstep : ∀ (x0 : Bool) (x1 : Option Addr) (x2 x3 : Bool) (x4 : Int) H', I x0 x1 x2 x3 x4 H' → wp Try.prog (body (x0, x1, x2, x3, x4, ())) (L.set n fun vals H'' => ∃ (y0 : Bool) (y1 : Option Addr) (y2 y3 : Bool) (y4 : Int), vals = [.bool y0, .pointer y1, .bool y2, .bool y3, .int .i64 y4] ∧ I y0 y1 y2 y3 y4 H'' ∧ m y0 y1 y2 y3 y4 < m x0 x1 x2 x3 x4) H' R) (h0 : init = [.bool x0, .pointer x1, .bool x2, .bool x3, .int .i64 x4] := by rfl) :
    wp Try.prog (.loop n [.leaf .bool, .leaf .ptr, .leaf .bool, .leaf .bool, .leaf (.int .i64)] init body) L H R := by
  refine wp_loop_inv (fun x K => I x.1 x.2.1 x.2.2.1 x.2.2.2.1 x.2.2.2.2.1 K) (fun x _ => m x.1 x.2.1 x.2.2.1 x.2.2.2.1 x.2.2.2.2.1) (x0, x1, x2, x3, x4, ()) h0 hi ?_
  rintro ⟨x0, x1, x2, x3, x4, u⟩ K hI
  refine Go.Fw.wp_mono _ (hstep x0 x1 x2 x3 x4 K hI) (fun k vals H'' hk => ?_) (fun _ _ h => h)
  unfold Hands.set at *
  split at hk
  · rename_i e; rw [if_pos e]; obtain ⟨y0, y1, y2, y3, y4, h1, h2, h3⟩ := hk; exact ⟨(y0, y1, y2, y3, y4, ()), h1, h2, h3⟩
  · rename_i e; rw [if_neg e]; exact hk

/-- The end of all. -/
structure FinB (B : Ar) (h : Int) : Prop where
  st : B.stF h ≠ 1
  nL : B.nL = 0
  fa : B.fault = false

abbrev d0 (g : Gd) (who h : Int) : Dr := ⟨g, nls, who, h, false, none⟩
abbrev d1 (g : Gd) (who h : Int) : Dr := ⟨g, nls, who, h, true, none⟩
/-- The one who ends, by how far it went. -/
def enS (g : Gd) (h val : Int) (ep : Nat) : En := if ep = 0 then ⟨d0 g 0 h, 1, val, 1, false⟩ else if ep = 1 then ⟨d0 g 0 h, 1, val, 0, false⟩ else ⟨d0 g 0 h, 1, val, 0, true⟩
def asS (g : Gd) (h val : Int) (qp : Nat) : As := if qp = 0 then ⟨d0 g 1 h, 0, 0, 0, false, false⟩ else if qp = 1 then ⟨d0 g 1 h, 1, 0, 1, false, false⟩ else ⟨d0 g 1 h, 1, val, 1, true, false⟩

section
variable {A B C : Ar} {g : Gd} {S S' : Sg} {h val : Int} {q mq : Nat} {I : List Nat}

/-- The last of the two, alone. -/
theorem last_en {v1 : Int} (Z : FZ I A g S h 1 v1 1) : ∃ n B l', n ≤ 20 ∧ (mEn q mq).Runs n (enS g h val 2) A ⟨⟨g, l', 0, h, true, none⟩, 1, val, 0, true⟩ B ∧ FinB B h := by
  have us := Z.us
  obtain ⟨n, A0, A1, B, l', S', D⟩ := drop1 (q := q) (mq := mq) Z.gi (by omega) (who := 0) (h := h) (by rw [Z.gw]; decide) (by decide) (by rw [Z.th]; decide) (Z.i (by decide) (by decide)) Z.hs (by rw [Z.hc, Z.nL]; decide) Z.l2
  have hb := D.hb
  rw [Z.gw] at hb
  have hb : (n : Int) ≤ 7 + 2 * 2 + 3 * ((0 : Nat) : Int) := hb
  exact ⟨n, B, l', by omega, en_lift D.run, ⟨D.st, by rw [D.nL, Z.nL, Z.hc]; rfl, D.gi.fa⟩⟩
theorem last_as (Z : FZ I A g S h 1 val 1) (hu : A.uses ≤ 400000) (qp : Nat) (hq : qp ≤ 2) : ∃ (n : Nat) (B : Ar) (l' : Int → List (Int × Int)), n + qp ≤ 22 ∧ (mAs q mq).Runs n (asS g h val qp) A ⟨⟨g, l', 1, h, true, none⟩, 1, val, 1, true, true⟩ B ∧ FinB B h := by
  have us := Z.us
  have X := Z.gi
  have u0 := X.u0
  have dv : ∀ A, Dr.inv (d0 g 1 h) A := fun A => ⟨by show 1 ≤ g.w ∧ g.w ≤ 1000; rw [Z.gw]; decide, (show 0 < 1000 by decide), fun _ => rfl, fun y h => (by cases h)⟩
  have fin : ∀ (A : Ar), FZ I A g S h 1 val 1 → ∃ (n : Nat) (B : Ar) (l' : Int → List (Int × Int)), n ≤ 20 ∧ (mAs q mq).Runs n (asS g h val 2) A ⟨⟨g, l', 1, h, true, none⟩, 1, val, 1, true, true⟩ B ∧ FinB B h := fun A Z => by
    have us := Z.us
    obtain ⟨n, A0, A1, B, l', S', D⟩ := drop1 (q := q) (mq := mq) Z.gi (by omega) (who := 1) (h := h) (by rw [Z.gw]; decide) (by decide) (by rw [Z.th]; decide) (Z.i (by decide) (by decide)) Z.hs (by rw [Z.hc, Z.nL]; decide) Z.l2
    have hb := D.hb
    rw [Z.gw] at hb
    have hb : (n : Int) ≤ 7 + 2 * 2 + 3 * ((0 : Nat) : Int) := hb
    exact ⟨n, B, l', by omega, as_lift D.run, ⟨D.st, by rw [D.nL, Z.nL, Z.hc]; rfl, D.gi.fa⟩⟩
  have one1 : ∀ A, FZ I A g S h 1 val 1 → A.uses ≤ 499990 → (mAs q mq).step (asS g h val 1) A = (asS g h val 2, A.later 1) := fun A Z hu => by
    show ((⟨d0 g 1 h, 1, A.loadF h 1, 1, true, false⟩ : As), A.touch h 1) = _
    rw [Z.l1, touch_later Z.gi (by omega) (Z.i (by decide) (by decide))]; rfl
  have lu : ∀ A : Ar, 0 ≤ A.uses → A.uses ≤ 500000 → (A.later 1).uses ≤ w64 (A.uses + 1) := fun A a b => by show A.uses + 1 ≤ _; rw [w64_in (by omega) (by omega)]; exact Int.le_refl _
  have l1 : FZ I (A.later 1) g S h 1 val 1 := Z.later (by decide) (by omega)
  have hc : qp = 0 ∨ qp = 1 ∨ qp = 2 := by omega
  rcases hc with rfl | rfl | rfl
  · obtain ⟨n, B, l', hn, r, f⟩ := fin (A.later 2) (Z.later (by decide) (by omega))
    refine ⟨n + 1 + 1, B, l', by omega, .more (x1 := asS g h val 1) (D1 := A.later 1) (by exact dv A) ?_ (lu A u0 us) rfl (.more (x1 := asS g h val 2) (D1 := A.later 2) (by exact dv _) ?_ ?_ rfl r), f⟩
    · show ((⟨d0 g 1 h, A.loadF h 0, 0, 1, false, (A.loadF h 0 : Int) == 0⟩ : As), A.touch h 0) = _
      rw [Z.l0, touch_later Z.gi (by omega) (Z.i (by decide) (by decide))]; rfl
    · rw [one1 _ l1 (by show A.uses + 1 ≤ _; omega), later_add]; rfl
    · show A.uses + 2 ≤ w64 (A.uses + 1 + 1); rw [w64_in (by omega) (by omega)]; omega
  · obtain ⟨n, B, l', hn, r, f⟩ := fin (A.later 1) l1
    exact ⟨n + 1, B, l', by omega, .more (x1 := asS g h val 2) (D1 := A.later 1) (by exact dv A) (one1 A Z (by omega)) (lu A u0 us) rfl r, f⟩
  · obtain ⟨n, B, l', hn, r, f⟩ := fin A Z
    exact ⟨n, B, l', by omega, r, f⟩

/-- A word of it is stored. -/
theorem FZ.st {how v1 refs v i : Int} (Z : FZ I A g S h how v1 refs) (hu : A.uses ≤ 400000) (i0 : 0 ≤ i) (i1 : i < 3) : FZ I (A.storeF h i v) g S h (if i = 0 then v else how) (if i = 1 then v else v1) (if i = 2 then v else refs) ∧ (A.storeF h i v).uses = A.uses + 1 ∧ (A.storeF h i v).uses ≤ w64 (A.uses + 1) := by
  have u0 := Z.gi.u0
  have W := Z.gi.store (v := v) (by omega) (Z.i i0 (by omega))
  have us := W.us
  have ld : ∀ j : Int, 0 ≤ j → j < 3 → (A.storeF h i v).loadF h j = if j = i then v else A.loadF h j := fun j j0 j1 => by
    rw [W.ld h j (Z.i j0 (by omega))]
    by_cases e : j = i
    · rw [if_pos ⟨rfl, e⟩, if_pos e]
    · rw [if_neg (fun h => e h.2), if_neg e]
  refine ⟨⟨Z.aw.of W.al W.gi.wf, W.gi, Z.gw, Z.th, by rw [W.st]; exact Z.hs, Z.hc, ?_, ?_, ?_, by rw [W.nL]; exact Z.nL, by omega⟩, us, by rw [us, w64_in (by omega) (by omega)]; exact Int.le_refl _⟩
  · rw [ld 0 (by decide) (by decide), Z.l0]; split
    · rename_i e; rw [if_pos e.symm]
    · rename_i e; rw [if_neg (fun h => e h.symm)]
  · rw [ld 1 (by decide) (by decide), Z.l1]; split
    · rename_i e; rw [if_pos e.symm]
    · rename_i e; rw [if_neg (fun h => e h.symm)]
  · rw [ld 2 (by decide) (by decide), Z.l2]; split
    · rename_i e; rw [if_pos e.symm]
    · rename_i e; rw [if_neg (fun h => e h.symm)]

/-- One step, with no look about it. -/
theorem w_frStep {L : Hands} {R : Value → Heap → Prop} {G : Heap} {rest : Bl} {M : Type} {X : MchR M FJ} (hX : X.ok) {x x' : M} {T : TypeId} {who : Int} {ad ad' : Bool} {tl tl' : List Value} {b : Nat} {e : List LE} {K : Bool → Tree} (ha : ∀ j, X.addr j = j.b)
    (hb : ∀ j, X.bl x j = frB T q mq ⟨g, nls, who, h, ad, none⟩ tl j) (hb' : ∀ j, X.bl x' j = frB T q mq ⟨g, nls, who, h, ad', none⟩ tl' j) (hr : ∀ j, X.rep x j = frR q mq ⟨g, nls, who, h, ad, none⟩ j) (hr' : ∀ j, X.rep x' j = frR q mq ⟨g, nls, who, h, ad', none⟩ j)
    (hs : X.step x A = (x', B)) (hi : X.inv x A) (hA : Aw I A) (gs : GdS e nls) (ok : Ok I G (keys ((b, oc T (drC ⟨g, nls, who, h, ad, none⟩ q .nilIface ++ tl)) :: (g.bl q mq e ++ rest))))
    (hk : ∀ e' gar, Aw I B → Ok I G (keys ((b, oc T (drC ⟨g, nls, who, h, ad', none⟩ q .nilIface ++ tl')) :: (g.bl q mq e' ++ (gar ++ rest)))) → GdS e' nls → wp Try.prog (K (X.fin x')) L (own B ((b, oc T (drC ⟨g, nls, who, h, ad', none⟩ q .nilIface ++ tl')) :: (g.bl q mq e' ++ (gar ++ rest))) G) R) :
    wp Try.prog (.call X.f [.pointer (some ⟨b, 0, none⟩), .pointer (aI I)] (.one (.leaf .bool)) K) L (own A ((b, oc T (drC ⟨g, nls, who, h, ad, none⟩ q .nilIface ++ tl)) :: (g.bl q mq e ++ rest)) G) R := by
  obtain ⟨p1, ok2⟩ := own_perm (A := A) (l' := frB T q mq ⟨g, nls, who, h, ad, none⟩ tl ⟨b, e, lj0, []⟩ ++ rest) ok (perm_by fun c d c0 cd ca => by
    show _ = c (((b, oc T (drC ⟨g, nls, who, h, ad, none⟩ q .nilIface ++ tl)) :: (g.bl q mq e ++ [])) ++ rest)
    simp only [List.cons_append, cd, ca, c0]; omega)
  rw [p1]
  have hab : b = X.addr (⟨b, e, lj0, []⟩ : FJ) := (ha ⟨b, e, lj0, []⟩).symm
  rw [← hb] at ok2 ⊢
  have key := w_stepR hX hs (j := (⟨b, e, lj0, []⟩ : FJ)) (rest := rest) hA ok2 (by rw [hr]; exact gs) hi (L := L) (R := R) (k := K) fun j' ha' hB ok3 rp => by
    rw [hb'] at ok3 ⊢
    rw [hr'] at rp
    rw [ha, ha] at ha'
    obtain ⟨b', e', lj', gar'⟩ := j'
    have ha' : b' = b := ha'
    subst ha'
    have ok3 : Ok I G (keys (((b', oc T (drC ⟨g, nls, who, h, ad', none⟩ q .nilIface ++ tl')) :: (g.bl q mq e' ++ gar')) ++ rest)) := ok3
    show wp Try.prog _ L (own B (((b', oc T (drC ⟨g, nls, who, h, ad', none⟩ q .nilIface ++ tl')) :: (g.bl q mq e' ++ gar')) ++ rest) G) _
    obtain ⟨p2, ok4⟩ := own_perm (A := B) (l' := (b', oc T (drC ⟨g, nls, who, h, ad', none⟩ q .nilIface ++ tl')) :: (g.bl q mq e' ++ (gar' ++ rest))) ok3 (perm_by fun c d c0 cd ca => by simp only [List.cons_append, cd, ca, c0]; omega)
    rw [p2]
    exact hk e' gar' hB ok4 rp
  rw [← hab] at key
  exact key
end
end Go.Proofs.Ytcjhakdopnamoaa

set_option linter.unusedVariables false
set_option linter.unusedSimpArgs false
set_option maxRecDepth 20000
namespace Go.Proofs.Ytcjhakdopnamoaa
open Go Go.Fw

def enB (g : Gd) (q : Nat) (h val : Int) (ep zE : Nat) : Nat × Obj := (zE, oc ty_frame_End (drC (d0 g 0 h) q .nilIface ++ (enS g h val ep).tail))
def asB (g : Gd) (q : Nat) (h val : Int) (qp zq : Nat) : Nat × Obj := (zq, oc ty_frame_Ask (drC (d0 g 1 h) q .nilIface ++ (asS g h val qp).tail))

structure PhA (I : List Nat) (H : Heap) (g : Gd) (q mq : Nat) (h val : Int) (zE zq ep qp : Nat) (A : Ar) (S : Sg) (v1 : Int) (e : List LE) (rest : Bl) : Prop where
  fz : FZ I A g S h (if ep = 2 then 1 else 0) v1 2
  v : ep ≠ 0 → v1 = val
  e2 : ep ≤ 2
  q2 : qp ≤ 2
  qe : qp ≠ 0 → ep = 2
  gs : GdS e nls
  ok : Ok I H (keys (enB g q h val ep zE :: asB g q h val qp zq :: (g.bl q mq e ++ rest)))
structure PhR {M : Type} (X : MchR M FJ) (I : List Nat) (H : Heap) (h : Int) (n : Nat) (x x' : M) (A B : Ar) (j : FJ) (rest : Bl) : Prop where
  r : X.Runs n x A x' B
  f : FinB B h
  aw : Aw I A
  ok : Ok I H (keys (X.bl x j ++ rest))
  rp : X.rep x j
def asFin (g : Gd) (l' : Int → List (Int × Int)) (h val : Int) : As := ⟨⟨g, l', 1, h, true, none⟩, 1, val, 1, true, true⟩

def FI (I : List Nat) (H : Heap) (g : Gd) (q mq : Nat) (h val : Int) (zE : Nat) (len : Int) (qptr : Option Addr) (over heard : Bool) (i : Int) (K : Heap) : Prop :=
  0 ≤ i ∧ i ≤ 400 ∧ (
  (over = false ∧ heard = false ∧ ∃ zq ep qp A S v1 e rest, PhA I H g q mq h val zE zq ep qp A S v1 e rest ∧ qptr = some ⟨zq, 0, none⟩ ∧ i ≤ len + qp ∧ A.uses ≤ 1000 + 10 * i ∧ K = own A (enB g q h val ep zE :: asB g q h val qp zq :: (g.bl q mq e ++ rest)) H) ∨
  (over = false ∧ heard = true ∧ ∃ n x x' A B j rest, PhR (mEn q mq) I H h n x x' A B j rest ∧ j.b = zE ∧ i + n ≤ 240 ∧ K = own A ((mEn q mq).bl x j ++ rest) H) ∨
  (over = true ∧ heard = false ∧ ∃ n x A B l' j rest, PhR (mAs q mq) I H h n x (asFin g l' h val) A B j rest ∧ qptr = some ⟨j.b, 0, none⟩ ∧ i + n ≤ 240 ∧ (∃ c, (zE, oc ty_frame_End c) ∈ rest ∧ c[8]? = some (.bool true)) ∧ K = own A ((mAs q mq).bl x j ++ rest) H) ∨
  (over = true ∧ heard = true ∧ ∃ A bl, Aw I A ∧ Ok I H (keys bl) ∧ FinB A h ∧ K = own A bl H))

def Nx (L : Hands) (R : Value → Heap → Prop) (I : List Nat) (H : Heap) (g : Gd) (q mq : Nat) (h val : Int) (zE : Nat) (len i : Int) : Prop := ∀ c qptr over heard K, FI I H g q mq h val zE len qptr over heard (i + 1) K → wp Try.prog (.again 896 [(.bool c), (.pointer qptr), (.bool over), (.bool heard), (.int .i64 (i + 1))]) L K R

section
variable {L : Hands} {R : Value → Heap → Prop} {H : Heap} {I : List Nat} {A B : Ar} {g : Gd} {S S' : Sg} {h val len i : Int} {q mq zE : Nat} {c over : Bool} {qptr : Option Addr} {s1 : Sl} {x22 : X28} {x53 : HB} {bl : Bl}

theorem fb_J10 (hI : ∀ x ∈ I, H x = none) (h22 : x22.1 = aI I) (h53 : x53.1 = h) (hA : Aw I A) (ok : Ok I H (keys bl)) (F : FinB A h) (hR : R (.bool true) H) :
    wp Try.prog (t_magpielaw18_FrameBoth_J10 val x22 x53 (c, qptr, true, true, i, ())) L (own A bl H) R := by
  unfold t_magpielaw18_FrameBoth_J10
  rw [h22, h53]
  refine wp_true rfl (wp_true rfl ?_)
  refine w_State hA ?_
  refine wp_true (ibne F.st) ?_
  refine w_Count hA ?_
  refine wp_true (ibeq F.nL) ?_
  refine w_Fault hA ?_
  rw [F.fa]
  refine wp_true rfl ?_
  refine w_Place (by decide) (by decide) ?_
  refine wp_true (ibeq (Int.emod_one val)) ?_
  refine wp_call_det (x := true) (awake18_det _) ?_
  exact ⟨H, own_end hA ok hI, hR⟩

theorem MchR.Runs.pos {M J : Type} {X : MchR M J} {n : Nat} {m m' : M} {A A' : Ar} (h : X.Runs n m A m' A') : 1 ≤ n := by
  cases h <;> omega

/-- It is heard; the other one goes on alone. -/
theorem fb_E {n : Nat} {x x' : En} {j : FJ} {rest : Bl} (ib : 0 ≤ i ∧ i < 400) (P : PhR (mEn q mq) I H h n x x' A B j rest) (hj : j.b = zE) (hn : i + n ≤ 240) (nx : Nx L R I H g q mq h val zE len i) :
    wp Try.prog (.call f_frame_End_Step [(.pointer (some ⟨zE, 0, none⟩)), (.pointer (aI I))] (.one (.leaf .bool)) fun x102 => .again 896 [(.bool c), (.pointer qptr), (.bool x102), (.bool true), (.int .i64 (w64 (i + 1)))]) L (own A ((mEn q mq).bl x j ++ rest) H) R := by
  have en : w64 (i + 1) = i + 1 := w64_in (by omega) (by omega)
  rw [en]
  obtain ⟨r, f, hA, ok, rp⟩ := P
  have ha : (mEn q mq).addr j = zE := hj
  cases r with
  | one hi hs hu hf =>
    have key := w_stepR (mEn_ok q mq) hs hA ok rp hi (L := L) (R := R) (k := fun x102 => .again 896 [(.bool c), (.pointer qptr), (.bool x102), (.bool true), (.int .i64 (i + 1))]) fun j' ha' hB ok2 rp2 => by
      rw [hf]
      exact nx c qptr true true _ ⟨by omega, by omega, .inr (.inr (.inr ⟨rfl, rfl, B, _, hB, ok2, f, rfl⟩))⟩
    rw [ha] at key
    exact key
  | more hi hs hu hf hr =>
    have key := w_stepR (mEn_ok q mq) hs hA ok rp hi (L := L) (R := R) (k := fun x102 => .again 896 [(.bool c), (.pointer qptr), (.bool x102), (.bool true), (.int .i64 (i + 1))]) fun j' ha' hB ok2 rp2 => by
      rw [hf]
      have ha' : j'.b = j.b := ha'
      exact nx c qptr false true _ ⟨by omega, by omega, .inr (.inl ⟨rfl, rfl, _, _, x', _, B, j', rest, ⟨hr, f, hB, ok2, rp2⟩, ha'.trans hj, by omega, rfl⟩)⟩
    rw [ha] at key
    exact key

/-- What is told is heard. -/
theorem fb_told {zq : Nat} {pre : List Value} {x : As} {l : Bl} {cc : List Value} (ib : 0 ≤ i ∧ i < 400) (hl : pre.length = 5) (hx : x.told = true) (hh : x.how = 1) (hv : x.val = val) (hA : Aw I A) (ok : Ok I H (keys ((zq, oc ty_frame_Ask (pre ++ x.tail)) :: l))) (hm : (zE, oc ty_frame_End cc) ∈ l) (hc : cc[8]? = some (.bool true))
    (hk : ∀ x18 : Nat, Ok I H (keys ((x18, oc ty_api_End [.int .i64 1, .int .i64 val]) :: (zq, oc ty_frame_Ask (pre ++ x.tail)) :: l)) → wp Try.prog (.again 896 [(.bool c), (.pointer (some ⟨zq, 0, none⟩)), (.bool over), (.bool true), (.int .i64 (i + 1))]) L (own A ((x18, oc ty_api_End [.int .i64 1, .int .i64 val]) :: (zq, oc ty_frame_Ask (pre ++ x.tail)) :: l) H) R) :
    wp Try.prog (.call f_frame_Ask_End [(.pointer (some ⟨zq, 0, none⟩))] (.tup [(.agg [(.int .i64), (.int .i64)]), (.leaf .bool)]) fun x110 =>
      .newP (.cells #[(.int .i64 0), (.int .i64 0)] ty_api_End) fun x18 =>
      .stA x18 [(.int .i64 x110.1.1), (.int .i64 x110.1.2.1)] <|
      bif x110.2.1 then (
        .ld x18 (.int .i64) fun x116 =>
        bif ((x116 : Int) != 1) then (
          .ret (.bool false))
        else (
          .ld (x18.add 1) (.int .i64) fun x120 =>
          bif ((x120 : Int) != val) then (
            .ret (.bool false))
          else (
            .call f_frame_End_Told [(.pointer (some ⟨zE, 0, none⟩))] (.one (.leaf .bool)) fun x126 =>
            bif (!x126) then (
              .ret (.bool false))
            else (
              bif (!x110.2.1) then (
                .ld x18 (.int .i64) fun x135 =>
                bif ((x135 : Int) != 0) then (
                  .ret (.bool false))
                else (
                  t_magpielaw18_FrameBoth_J4 s1 x22 x53 (some ⟨zE, 0, none⟩) (c, some ⟨zq, 0, none⟩, over, false, i, ()) x110))
              else (
                t_magpielaw18_FrameBoth_J4 s1 x22 x53 (some ⟨zE, 0, none⟩) (c, some ⟨zq, 0, none⟩, over, false, i, ()) x110)))))
      else (
        bif (!x110.2.1) then (
          .ld x18 (.int .i64) fun x135 =>
          bif ((x135 : Int) != 0) then (
            .ret (.bool false))
          else (
            t_magpielaw18_FrameBoth_J4 s1 x22 x53 (some ⟨zE, 0, none⟩) (c, some ⟨zq, 0, none⟩, over, false, i, ()) x110))
        else (
          t_magpielaw18_FrameBoth_J4 s1 x22 x53 (some ⟨zE, 0, none⟩) (c, some ⟨zq, 0, none⟩, over, false, i, ()) x110))) L (own A ((zq, oc ty_frame_Ask (pre ++ x.tail)) :: l) H) R := by
  refine w_AsEnd hl hA ok ?_
  rw [hx, hh, hv]
  refine w_newP (c := [.int .i64 0, .int .i64 0]) hA ok fun x18 ok1 => ?_
  refine w_stA 0 hA ok1 rfl rfl rfl rfl ?_
  have ok1 : Ok I H (keys ((x18, oc ty_api_End [.int .i64 1, .int .i64 val]) :: (zq, oc ty_frame_Ask (pre ++ x.tail)) :: l)) := ok1
  show wp Try.prog _ L (own A ((x18, oc ty_api_End [.int .i64 1, .int .i64 val]) :: (zq, oc ty_frame_Ask (pre ++ x.tail)) :: l) H) R
  refine wp_true rfl ?_
  refine w_ld 0 (x := 1) hA ok1 rfl rfl rfl (wp_false rfl ?_)
  refine w_ld 0 (x := val) hA ok1 rfl rfl rfl (wp_false (ibnf rfl) ?_)
  obtain ⟨ix, hix⟩ := mem_idx (l := (x18, oc ty_api_End [.int .i64 1, .int .i64 val]) :: (zq, oc ty_frame_Ask (pre ++ x.tail)) :: l) (List.mem_cons_of_mem _ (List.mem_cons_of_mem _ hm))
  refine w_EnTold ix hA ok1 hix hc (wp_false rfl (wp_false rfl ?_))
  unfold t_magpielaw18_FrameBoth_J4
  refine wp_false rfl ?_
  have en : w64 (i + 1) = i + 1 := w64_in (by omega) (by omega)
  show wp Try.prog (.again 896 [(.bool c), (.pointer (some ⟨zq, 0, none⟩)), (.bool over), (.bool true), (.int .i64 (w64 (i + 1)))]) L _ R
  rw [en]
  exact hk x18 ok1

/-- It is over; the other one asks on alone. -/
theorem fb_Q {n : Nat} {x : As} {l' : Int → List (Int × Int)} {j : FJ} {rest : Bl} (ib : 0 ≤ i ∧ i < 400) (h22 : x22.1 = aI I) (P : PhR (mAs q mq) I H h n x (asFin g l' h val) A B j rest) (hn : i + n ≤ 240) (hm : ∃ c, (zE, oc ty_frame_End c) ∈ rest ∧ c[8]? = some (.bool true)) (nx : Nx L R I H g q mq h val zE len i) :
    wp Try.prog (t_magpielaw18_FrameBoth_J8 val s1 x22 x53 (some ⟨zE, 0, none⟩) (c, some ⟨j.b, 0, none⟩, true, false, i, ())) L (own A ((mAs q mq).bl x j ++ rest) H) R := by
  unfold t_magpielaw18_FrameBoth_J8
  rw [h22]
  refine wp_false rfl ?_
  have en : w64 (i + 1) = i + 1 := w64_in (by omega) (by omega)
  obtain ⟨r, f, hA, ok, rp⟩ := P
  cases r with
  | one hi hs hu hf =>
    refine w_stepR (mAs_ok q mq) hs (j := j) hA ok rp hi fun j' ha' hB ok2 rp2 => ?_
    rw [hf]
    refine wp_false rfl ?_
    obtain ⟨b', e', lj', gar'⟩ := j'
    have ha' : b' = j.b := ha'
    subst ha'
    obtain ⟨cc, hm1, hm2⟩ := hm
    refine fb_told (x := asFin g l' h val) (pre := drC ⟨g, l', 1, h, true, none⟩ q .nilIface) (l := (g.bl q mq e' ++ gar') ++ rest) ib rfl rfl rfl rfl hB ok2 (List.mem_append_right _ hm1) hm2 fun x18 ok3 => ?_
    exact nx c _ true true _ ⟨by omega, by omega, .inr (.inr (.inr ⟨rfl, rfl, B, _, hB, ok3, f, rfl⟩))⟩
  | more hi hs hu hf hr =>
    refine w_stepR (mAs_ok q mq) hs (j := j) hA ok rp hi fun j' ha' hB ok2 rp2 => ?_
    rw [hf]
    refine wp_true rfl ?_
    have ha' : j'.b = j.b := ha'
    show wp Try.prog (.again 896 [(.bool c), (.pointer (some ⟨j.b, 0, none⟩)), (.bool true), (.bool false), (.int .i64 (w64 (i + 1)))]) L _ R
    rw [en]
    exact nx c _ true false _ ⟨by omega, by omega, .inr (.inr (.inl ⟨rfl, rfl, _, _, _, B, l', j', rest, ⟨hr, f, hB, ok2, rp2⟩, by rw [ha'], by omega, hm, rfl⟩))⟩
end
end Go.Proofs.Ytcjhakdopnamoaa

set_option linter.unusedVariables false
set_option linter.unusedSimpArgs false
set_option maxRecDepth 20000
namespace Go.Proofs.Ytcjhakdopnamoaa
open Go Go.Fw

section
variable {L : Hands} {R : Value → Heap → Prop} {H : Heap} {I : List Nat} {A B : Ar} {g : Gd} {S S' : Sg} {h val len i v1 : Int} {q mq zE zq ep qp : Nat} {c over : Bool} {qptr : Option Addr} {s1 : Sl} {x22 : X28} {x53 : HB} {e : List LE} {rest : Bl}

theorem drI (gw : g.w = 2) (who : Int) (A : Ar) : Dr.inv (d0 g who h) A := ⟨by show 1 ≤ g.w ∧ g.w ≤ 1000; rw [gw]; decide, (show 0 < 1000 by decide), fun _ => rfl, fun y h => (by cases h)⟩
theorem dr_last {how : Int} (Z : FZ I A g S h how v1 2) (hu : A.uses ≤ 400000) (who : Int) : Dr.step (d0 g who h) A = (d1 g who h, A.storeF h 2 1) ∧ FZ I (A.storeF h 2 1) g S h how v1 1 ∧ (A.storeF h 2 1).uses = A.uses + 1 := by
  obtain ⟨P, r, F⟩ := Z.drop2 (q := 0) (mq := 0) hu (who := who)
  refine ⟨?_, F, P.us⟩
  cases r with
  | one hi hs hu hf => exact hs
  | more hi hs hu hf hr => cases hr

/-- It is over: the one who asks is left, alone. -/
theorem fb_over {cE : List Value} (ib : 0 ≤ i ∧ i + 1 + 22 ≤ 240) (Z : FZ I A g S h 1 val 1) (hu : A.uses ≤ 400000) (q2 : qp ≤ 2) (gs : GdS e nls) (h8 : cE[8]? = some (.bool true)) (ok : Ok I H (keys ((zE, oc ty_frame_End cE) :: asB g q h val qp zq :: (g.bl q mq e ++ rest)))) (nx : Nx L R I H g q mq h val zE len i) :
    wp Try.prog (.again 896 [(.bool c), (.pointer (some ⟨zq, 0, none⟩)), (.bool true), (.bool false), (.int .i64 (i + 1))]) L (own A ((zE, oc ty_frame_End cE) :: asB g q h val qp zq :: (g.bl q mq e ++ rest)) H) R := by
  obtain ⟨n, B, l', hn, r, f⟩ := last_as (q := q) (mq := mq) Z hu qp q2
  have hd : (asS g h val qp).d = d0 g 1 h := by unfold asS; split; · rfl
                                                split <;> rfl
  have eb : (mAs q mq).bl (asS g h val qp) ⟨zq, e, lj0, []⟩ = asB g q h val qp zq :: (g.bl q mq e ++ []) := by
    show frB ty_frame_Ask q mq (asS g h val qp).d (asS g h val qp).tail ⟨zq, e, lj0, []⟩ = _
    rw [hd]; rfl
  obtain ⟨p, o⟩ := own_perm (A := A) (l' := (mAs q mq).bl (asS g h val qp) ⟨zq, e, lj0, []⟩ ++ ((zE, oc ty_frame_End cE) :: rest)) ok (perm_by fun c d c0 cd ca => by
    rw [eb]; simp only [List.cons_append, cd, ca, c0]; omega)
  rw [p]
  refine nx c _ true false _ ⟨by omega, by omega, .inr (.inr (.inl ⟨rfl, rfl, n, _, A, B, l', ⟨zq, e, lj0, []⟩, _, ⟨r, f, Z.aw, o, ?_⟩, rfl, by omega, ⟨cE, List.mem_cons_self, h8⟩, rfl⟩))⟩
  show frR q mq (asS g h val qp).d ⟨zq, e, lj0, []⟩
  rw [hd]; exact gs

/-- A step of the one who ends. -/
theorem fb_Ae (ib : 0 ≤ i ∧ i < len) (l200 : len ≤ 200) (P : PhA I H g q mq h val zE zq ep qp A S v1 e rest) (hu : A.uses ≤ 1000 + 10 * i) (nx : Nx L R I H g q mq h val zE len i) :
    wp Try.prog (.call f_frame_End_Step [(.pointer (some ⟨zE, 0, none⟩)), (.pointer (aI I))] (.one (.leaf .bool)) fun x102 => .again 896 [(.bool c), (.pointer (some ⟨zq, 0, none⟩)), (.bool x102), (.bool false), (.int .i64 (w64 (i + 1)))]) L (own A (enB g q h val ep zE :: asB g q h val qp zq :: (g.bl q mq e ++ rest)) H) R := by
  have en : w64 (i + 1) = i + 1 := w64_in (by omega) (by omega)
  rw [en]
  obtain ⟨Z, hv, e2, q2, qe, gs, ok⟩ := P
  obtain ⟨p1, ok1⟩ := own_perm (A := A) (l' := enB g q h val ep zE :: (g.bl q mq e ++ (asB g q h val qp zq :: rest))) ok (perm_by fun c d c0 cd ca => by simp only [cd, ca]; omega)
  rw [p1]
  have back : ∀ {x : Nat × Obj} {C : Ar} {e' : List LE} {gar : Bl}, Ok I H (keys (x :: (g.bl q mq e' ++ (gar ++ (asB g q h val qp zq :: rest))))) → own C (x :: (g.bl q mq e' ++ (gar ++ (asB g q h val qp zq :: rest)))) H = own C (x :: asB g q h val qp zq :: (g.bl q mq e' ++ (gar ++ rest))) H ∧ Ok I H (keys (x :: asB g q h val qp zq :: (g.bl q mq e' ++ (gar ++ rest)))) := fun {x C e' gar} o =>
    own_perm (A := C) o (perm_by fun c d c0 cd ca => by simp only [cd, ca]; omega)
  have hc : ep = 0 ∨ ep = 1 ∨ ep = 2 := by omega
  rcases hc with rfl | rfl | rfl
  · obtain ⟨F, us, _⟩ := Z.st (v := val) (i := 1) (by omega) (by decide) (by decide)
    refine w_frStep (mEn_ok q mq) (x := enS g h val 0) (x' := enS g h val 1) (fun _ => rfl) (fun _ => rfl) (fun _ => rfl) (fun _ => rfl) (fun _ => rfl) (B := A.storeF h 1 val) rfl ⟨drI Z.gw 0 A, fun _ => rfl⟩ Z.aw gs ok1 fun e' gar hB ok2 gs2 => ?_
    obtain ⟨p2, ok3⟩ := back ok2
    rw [p2]
    exact nx c _ false false _ ⟨by omega, by omega, .inl ⟨rfl, rfl, zq, 1, qp, _, S, val, e', _, ⟨F, fun _ => rfl, by decide, q2, fun h => (by have := qe h; omega), gs2, ok3⟩, rfl, by omega, by omega, rfl⟩⟩
  · obtain ⟨F, us, _⟩ := Z.st (v := 1) (i := 0) (by omega) (by decide) (by decide)
    refine w_frStep (mEn_ok q mq) (x := enS g h val 1) (x' := enS g h val 2) (fun _ => rfl) (fun _ => rfl) (fun _ => rfl) (fun _ => rfl) (fun _ => rfl) (B := A.storeF h 0 1) rfl ⟨drI Z.gw 0 A, fun _ => rfl⟩ Z.aw gs ok1 fun e' gar hB ok2 gs2 => ?_
    obtain ⟨p2, ok3⟩ := back ok2
    rw [p2]
    exact nx c _ false false _ ⟨by omega, by omega, .inl ⟨rfl, rfl, zq, 2, qp, _, S, v1, e', _, ⟨F, fun _ => hv (by decide), by decide, q2, fun _ => rfl, gs2, ok3⟩, rfl, by omega, by omega, rfl⟩⟩
  · have ev : v1 = val := hv (by decide)
    subst ev
    have Z : FZ I A g S h 1 v1 2 := Z
    obtain ⟨st, F, us⟩ := dr_last Z (by omega) 0
    refine w_frStep (mEn_ok q mq) (x := enS g h v1 2) (x' := ⟨d1 g 0 h, 1, v1, 0, true⟩) (ad' := true) (tl' := En.tail ⟨d1 g 0 h, 1, v1, 0, true⟩) (fun _ => rfl) (fun _ => rfl) (fun _ => rfl) (fun _ => rfl) (fun _ => rfl) (B := A.storeF h 2 1) ?_ ⟨drI Z.gw 0 A, fun h => (by cases h)⟩ Z.aw gs ok1 fun e' gar hB ok2 gs2 => ?_
    · show ((⟨(Dr.step (d0 g 0 h) A).1, 1, v1, 0, true⟩ : En), (Dr.step (d0 g 0 h) A).2) = _
      rw [st]
    obtain ⟨p2, ok3⟩ := back ok2
    rw [p2]
    exact fb_over ⟨by omega, by omega⟩ F (by omega) q2 gs2 rfl ok3 nx

/-- Asked again. -/
theorem fb_J3 {x110 : HL Sh1.T [(.agg [(.int .i64), (.int .i64)]), (.leaf .bool)]} (i0 : 0 ≤ i ∧ i < 400) (h22b : x22.2.2.1 = some ⟨q, 0, none⟩) (h53 : x53.1 = h) (hx : x110.2.1 = false) {l : Bl} (hA : Aw I A) (ok : Ok I H (keys l))
    (hk : ∀ z : Nat, Ok I H (keys (asB g q h val 0 z :: l)) → wp Try.prog (.again 896 [(.bool c), (.pointer (some ⟨z, 0, none⟩)), (.bool (decide (i ≥ ((s1.len : Nat) : Int)))), (.bool false), (.int .i64 (i + 1))]) L (own A (asB g q h val 0 z :: l) H) R) :
    wp Try.prog (t_magpielaw18_FrameBoth_J3 s1 x22 x53 (c, qptr, false, false, i, ()) x110) L (own A l H) R := by
  unfold t_magpielaw18_FrameBoth_J3
  rw [h22b, h53]
  refine wp_false rfl ?_
  refine w_NewAsk (q := q) hA ok fun z ok2 => ?_
  refine look_val (x := false) (npAs _) (wp_false rfl ?_)
  rw [hx]
  show wp Try.prog (.again 896 [(.bool c), (.pointer (some ⟨z, 0, none⟩)), (.bool (decide (i ≥ ((s1.len : Nat) : Int)))), (.bool false), (.int .i64 (w64 (i + 1)))]) L (own A (asB g q h val 0 z :: l) H) R
  rw [show w64 (i + 1) = i + 1 from w64_in (by omega) (by omega)]
  exact hk z ok2

/-- From where it stands it ends. -/
theorem en_all (Z : FZ I A g S h (if ep = 2 then 1 else 0) v1 2) (hv : ep ≠ 0 → v1 = val) (e2 : ep < 2) (hu : A.uses ≤ 300000) : ∃ n B, n ≤ 3 ∧ (mEn q mq).Runs n (enS g h val ep) A ⟨d1 g 0 h, 1, val, 0, true⟩ B ∧ FZ I B g S h 1 val 1 ∧ B.uses ≤ A.uses + 3 := by
  have hc : ep = 0 ∨ ep = 1 := by omega
  rcases hc with rfl | rfl
  · obtain ⟨P, Z1⟩ := Z.told (q := q) (mq := mq) (how := 1) (val := val) (by omega) (who := 0)
    have pu := P.us
    obtain ⟨D, dr, Z2⟩ := Z1.drop2 (q := q) (mq := mq) (by omega) (who := 0)
    have du := D.us
    exact ⟨3, _, by decide, P.pth.run (en_lift dr), Z2, by omega⟩
  · have ev : v1 = val := hv (by decide)
    subst ev
    obtain ⟨F, us, us'⟩ := Z.st (v := 1) (i := 0) (by omega) (by decide) (by decide)
    have F : FZ I (A.storeF h 0 1) g S h 1 v1 2 := F
    obtain ⟨D, dr, Z2⟩ := F.drop2 (q := q) (mq := mq) (by omega) (who := 0)
    have du := D.us
    exact ⟨2, _, by decide, .more (x1 := enS g h v1 2) (D1 := A.storeF h 0 1) ⟨drI Z.gw 0 A, fun _ => rfl⟩ rfl us' rfl (en_lift dr), Z2, by omega⟩

set_option maxHeartbeats 1000000 in
/-- A step of the one who asks. -/
theorem fb_Aq (ib : 0 ≤ i ∧ i < 400) (il : i ≤ len + qp) (el : len = ((s1.len : Nat) : Int)) (l200 : len ≤ 200) (h22 : x22.1 = aI I) (h22b : x22.2.2.1 = some ⟨q, 0, none⟩) (h53 : x53.1 = h) (P : PhA I H g q mq h val zE zq ep qp A S v1 e rest) (hu : A.uses ≤ 1000 + 10 * i) (nx : Nx L R I H g q mq h val zE len i) :
    wp Try.prog (t_magpielaw18_FrameBoth_J8 val s1 x22 x53 (some ⟨zE, 0, none⟩) (c, some ⟨zq, 0, none⟩, false, false, i, ())) L (own A (enB g q h val ep zE :: asB g q h val qp zq :: (g.bl q mq e ++ rest)) H) R := by
  unfold t_magpielaw18_FrameBoth_J8
  have en : w64 (i + 1) = i + 1 := w64_in (by omega) (by omega)
  obtain ⟨Z, hv, e2, q2, qe, gs, ok⟩ := P
  have u0 := Z.gi.u0
  rw [h22]
  refine wp_false rfl ?_
  obtain ⟨p1, ok1⟩ := own_perm (A := A) (l' := asB g q h val qp zq :: (g.bl q mq e ++ (enB g q h val ep zE :: rest))) ok (perm_by fun c d c0 cd ca => by simp only [cd, ca]; omega)
  rw [p1]
  have back : ∀ {x : Nat × Obj} {C : Ar} {e' : List LE} {gar : Bl}, Ok I H (keys (x :: (g.bl q mq e' ++ (gar ++ (enB g q h val ep zE :: rest))))) → own C (x :: (g.bl q mq e' ++ (gar ++ (enB g q h val ep zE :: rest)))) H = own C (enB g q h val ep zE :: x :: (g.bl q mq e' ++ (gar ++ rest))) H ∧ Ok I H (keys (enB g q h val ep zE :: x :: (g.bl q mq e' ++ (gar ++ rest)))) := fun {x C e' gar} o =>
    own_perm (A := C) o (perm_by fun c d c0 cd ca => by simp only [cd, ca]; omega)
  have tl : ∀ j : Int, 0 ≤ j → j < 8 → A.touch h j = A.later 1 := fun j j0 j1 => touch_later Z.gi (by omega) (Z.i j0 j1)
  have FL : FZ I (A.later 1) g S h (if ep = 2 then 1 else 0) v1 2 := Z.later (by decide) (by omega)
  have lu : (A.later 1).uses = A.uses + 1 := rfl
  have hc : qp = 0 ∨ qp = 1 ∨ qp = 2 := by omega
  rcases hc with rfl | rfl | rfl
  · by_cases h2 : ep = 2
    · subst h2
      have Z : FZ I A g S h 1 v1 2 := Z
      refine w_frStep (mAs_ok q mq) (x := asS g h val 0) (x' := asS g h val 1) (fun _ => rfl) (fun _ => rfl) (fun _ => rfl) (fun _ => rfl) (fun _ => rfl) (B := A.later 1) ?_ (drI Z.gw 1 A) Z.aw gs ok1 fun e' gar hB ok2 gs2 => ?_
      · show ((⟨d0 g 1 h, A.loadF h 0, 0, 1, false, (A.loadF h 0 : Int) == 0⟩ : As), A.touch h 0) = _
        rw [Z.l0, tl 0 (by decide) (by decide)]; rfl
      refine wp_true rfl ?_
      obtain ⟨p2, ok3⟩ := back (x := asB g q h val 1 zq) ok2
      show wp Try.prog (.again 896 [(.bool c), (.pointer (some ⟨zq, 0, none⟩)), (.bool false), (.bool false), (.int .i64 (w64 (i + 1)))]) L (own (A.later 1) (asB g q h val 1 zq :: (g.bl q mq e' ++ (gar ++ (enB g q h val 2 zE :: rest)))) H) R
      rw [p2, en]
      exact nx c _ false false _ ⟨by omega, by omega, .inl ⟨rfl, rfl, zq, 2, 1, _, S, v1, e', _, ⟨FL, hv, e2, by decide, fun _ => rfl, gs2, ok3⟩, rfl, by omega, by omega, rfl⟩⟩
    · -- it goes still
      have e1 : ep < 2 := by omega
      have Z0 := Z.l0
      rw [if_neg h2] at Z0
      refine w_frStep (mAs_ok q mq) (x := asS g h val 0) (x' := ⟨d0 g 1 h, 0, 0, 1, false, true⟩) (ad' := false) (tl' := As.tail ⟨d0 g 1 h, 0, 0, 1, false, true⟩) (fun _ => rfl) (fun _ => rfl) (fun _ => rfl) (fun _ => rfl) (fun _ => rfl) (B := A.later 1) ?_ (drI Z.gw 1 A) Z.aw gs ok1 fun e' gar hB ok2 gs2 => ?_
      · show ((⟨d0 g 1 h, A.loadF h 0, 0, 1, false, (A.loadF h 0 : Int) == 0⟩ : As), A.touch h 0) = _
        rw [Z0, tl 0 (by decide) (by decide)]; rfl
      refine wp_false rfl ?_
      refine w_AsEnd (x := ⟨d0 g 1 h, 0, 0, 1, false, true⟩) (pre := drC (d0 g 1 h) q .nilIface) rfl hB ok2 ?_
      refine w_newP (c := [.int .i64 0, .int .i64 0]) hB ok2 fun x18 ok3 => ?_
      refine w_stA 0 hB ok3 rfl rfl rfl rfl ?_
      obtain ⟨c1, hc1⟩ : ∃ c1 : Nat × Obj, c1 = (zq, oc ty_frame_Ask (drC (d0 g 1 h) q .nilIface ++ As.tail ⟨d0 g 1 h, 0, 0, 1, false, true⟩)) := ⟨_, rfl⟩
      obtain ⟨c2, hc2⟩ : ∃ c2 : Nat × Obj, c2 = (x18, oc ty_api_End [.int .i64 0, .int .i64 0]) := ⟨_, rfl⟩
      have ok3 : Ok I H (keys (c2 :: c1 :: (g.bl q mq e' ++ (gar ++ (enB g q h val ep zE :: rest))))) := by rw [hc1, hc2]; exact ok3
      have e0 : own (A.later 1) ((x18, oc ty_api_End [.int .i64 0, .int .i64 0]) :: (zq, oc ty_frame_Ask (drC (d0 g 1 h) q .nilIface ++ As.tail ⟨d0 g 1 h, 0, 0, 1, false, true⟩)) :: (g.bl q mq e' ++ (gar ++ (enB g q h val ep zE :: rest)))) H = own (A.later 1) (c2 :: c1 :: (g.bl q mq e' ++ (gar ++ (enB g q h val ep zE :: rest)))) H := by rw [hc1, hc2]
      refine wp_false rfl (wp_true rfl ?_)
      show wp Try.prog _ L (own (A.later 1) ((x18, oc ty_api_End [.int .i64 0, .int .i64 0]) :: (zq, oc ty_frame_Ask (drC (d0 g 1 h) q .nilIface ++ As.tail ⟨d0 g 1 h, 0, 0, 1, false, true⟩)) :: (g.bl q mq e' ++ (gar ++ (enB g q h val ep zE :: rest)))) H) R
      rw [e0]
      refine w_ld 0 (x := 0) hB ok3 rfl (by rw [hc2]; rfl) rfl (wp_false rfl ?_)
      unfold t_magpielaw18_FrameBoth_J4
      refine wp_true rfl (wp_true rfl ?_)
      obtain ⟨p3, ok4⟩ := own_perm (A := A.later 1) (l' := enB g q h val ep zE :: (g.bl q mq e' ++ (c2 :: c1 :: (gar ++ rest)))) ok3 (perm_by fun c d c0 cd ca => by simp only [cd, ca]; omega)
      rw [p3]
      by_cases hl : i ≥ ((s1.len : Nat) : Int)
      · refine wp_true (decide_eq_true hl) ?_
        rw [h22]
        obtain ⟨n, B, hn, r, F, bu⟩ := en_all (q := q) (mq := mq) FL hv e1 (by omega)
        have hd : (enS g h val ep).d = d0 g 0 h := by unfold enS; split; · rfl
                                                      split <;> rfl
        refine w_frRun (mEn_ok q mq) (mEn_inv q mq) (x := enS g h val ep) (x' := ⟨d1 g 0 h, 1, val, 0, true⟩) (l' := nls) (who := 0) (h := h) (ad := false) (ad' := true) (T := ty_frame_End) (tl := (enS g h val ep).tail) (tl' := En.tail ⟨d1 g 0 h, 1, val, 0, true⟩) (fun _ => rfl) (fun j => by show frB ty_frame_End q mq (enS g h val ep).d (enS g h val ep).tail j = _; rw [hd]) (fun _ => rfl) (fun j => by show frR q mq (enS g h val ep).d j = _; rw [hd]) (fun _ => rfl) r (by omega) hB gs2 ok4 fun e3 gar3 hC ok5 gs3 => ?_
        refine wp_false rfl ?_
        refine fb_J3 (g := g) (val := val) ib h22b h53 rfl hC ok5 fun z ok6 => ?_
        rw [decide_eq_true hl]
        have ok6 : Ok I H (keys (asB g q h val 0 z :: (zE, oc ty_frame_End (drC (d1 g 0 h) q .nilIface ++ En.tail ⟨d1 g 0 h, 1, val, 0, true⟩)) :: (g.bl q mq e3 ++ (gar3 ++ (c2 :: c1 :: (gar ++ rest)))))) := ok6
        obtain ⟨p4, ok7⟩ := own_perm (A := B) (l' := (zE, oc ty_frame_End (drC (d1 g 0 h) q .nilIface ++ En.tail ⟨d1 g 0 h, 1, val, 0, true⟩)) :: asB g q h val 0 z :: (g.bl q mq e3 ++ (gar3 ++ (c2 :: c1 :: (gar ++ rest))))) ok6 (perm_by fun c d c0 cd ca => by simp only [cd, ca]; omega)
        show wp Try.prog _ L (own B (asB g q h val 0 z :: (zE, oc ty_frame_End (drC (d1 g 0 h) q .nilIface ++ En.tail ⟨d1 g 0 h, 1, val, 0, true⟩)) :: (g.bl q mq e3 ++ (gar3 ++ (c2 :: c1 :: (gar ++ rest))))) H) R
        rw [p4]
        exact fb_over ⟨by omega, by omega⟩ F (by omega) (by decide) gs3 rfl ok7 nx
      · refine wp_false (decide_eq_false hl) ?_
        refine fb_J3 (g := g) (val := val) ib h22b h53 rfl hB ok4 fun z ok6 => ?_
        rw [decide_eq_false hl]
        obtain ⟨p4, ok7⟩ := own_perm (A := A.later 1) (l' := enB g q h val ep zE :: asB g q h val 0 z :: (g.bl q mq e' ++ (c2 :: c1 :: (gar ++ rest)))) ok6 (perm_by fun c d c0 cd ca => by simp only [cd, ca]; omega)
        rw [p4]
        exact nx c _ false false _ ⟨by omega, by omega, .inl ⟨rfl, rfl, z, ep, 0, _, S, v1, e', _, ⟨FL, hv, e2, by decide, fun h => (h rfl).elim, gs2, ok7⟩, rfl, by omega, by omega, rfl⟩⟩
  · have h2 : ep = 2 := qe (by decide)
    subst h2
    have ev : v1 = val := hv (by decide)
    subst ev
    have Z : FZ I A g S h 1 v1 2 := Z
    refine w_frStep (mAs_ok q mq) (x := asS g h v1 1) (x' := asS g h v1 2) (fun _ => rfl) (fun _ => rfl) (fun _ => rfl) (fun _ => rfl) (fun _ => rfl) (B := A.later 1) ?_ (drI Z.gw 1 A) Z.aw gs ok1 fun e' gar hB ok2 gs2 => ?_
    · show ((⟨d0 g 1 h, 1, A.loadF h 1, 1, true, false⟩ : As), A.touch h 1) = _
      rw [Z.l1, tl 1 (by decide) (by decide)]; rfl
    refine wp_true rfl ?_
    obtain ⟨p2, ok3⟩ := back (x := asB g q h v1 2 zq) ok2
    show wp Try.prog (.again 896 [(.bool c), (.pointer (some ⟨zq, 0, none⟩)), (.bool false), (.bool false), (.int .i64 (w64 (i + 1)))]) L (own (A.later 1) (asB g q h v1 2 zq :: (g.bl q mq e' ++ (gar ++ (enB g q h v1 2 zE :: rest)))) H) R
    rw [p2, en]
    exact nx c _ false false _ ⟨by omega, by omega, .inl ⟨rfl, rfl, zq, 2, 2, _, S, v1, e', _, ⟨FL, hv, e2, by decide, fun _ => rfl, gs2, ok3⟩, rfl, by omega, by omega, rfl⟩⟩
  · have h2 : ep = 2 := qe (by decide)
    subst h2
    have ev : v1 = val := hv (by decide)
    subst ev
    have Z : FZ I A g S h 1 v1 2 := Z
    obtain ⟨st, F, us⟩ := dr_last Z (by omega) 1
    refine w_frStep (mAs_ok q mq) (x := asS g h v1 2) (x' := ⟨d1 g 1 h, 1, v1, 1, true, true⟩) (ad' := true) (tl' := As.tail ⟨d1 g 1 h, 1, v1, 1, true, true⟩) (fun _ => rfl) (fun _ => rfl) (fun _ => rfl) (fun _ => rfl) (fun _ => rfl) (B := A.storeF h 2 1) ?_ (drI Z.gw 1 A) Z.aw gs ok1 fun e' gar hB ok2 gs2 => ?_
    · show ((⟨(Dr.step (d0 g 1 h) A).1, 1, v1, 1, true, (Dr.step (d0 g 1 h) A).1.fin⟩ : As), (Dr.step (d0 g 1 h) A).2) = _
      rw [st]; rfl
    refine wp_false rfl ?_
    refine fb_told (x := ⟨d1 g 1 h, 1, v1, 1, true, true⟩) (pre := drC (d1 g 1 h) q .nilIface) ib rfl rfl rfl rfl hB ok2 (List.mem_append_right _ (List.mem_append_right _ List.mem_cons_self)) rfl fun x18 ok3 => ?_
    obtain ⟨c1, hc1⟩ : ∃ c1 : Nat × Obj, c1 = (zq, oc ty_frame_Ask (drC (d1 g 1 h) q .nilIface ++ As.tail ⟨d1 g 1 h, 1, v1, 1, true, true⟩)) := ⟨_, rfl⟩
    obtain ⟨c2, hc2⟩ : ∃ c2 : Nat × Obj, c2 = (x18, oc ty_api_End [.int .i64 1, .int .i64 v1]) := ⟨_, rfl⟩
    rw [← hc1, ← hc2] at ok3 ⊢
    obtain ⟨n, B2, l', hn, r, f⟩ := last_en (q := q) (mq := mq) (val := v1) F
    obtain ⟨p4, ok4⟩ := own_perm (A := A.storeF h 2 1) (l' := (mEn q mq).bl (enS g h v1 2) ⟨zE, e', lj0, []⟩ ++ (c2 :: c1 :: (gar ++ rest))) ok3 (perm_by fun c d c0 cd ca => by
      show _ = c ((enB g q h v1 2 zE :: (g.bl q mq e' ++ [])) ++ (c2 :: c1 :: (gar ++ rest)))
      simp only [List.cons_append, cd, ca, c0]; omega)
    rw [p4]
    exact nx c _ false true _ ⟨by omega, by omega, .inr (.inl ⟨rfl, rfl, n, _, _, _, B2, ⟨zE, e', lj0, []⟩, _, ⟨r, f, hB, ok4, gs2⟩, rfl, by omega, rfl⟩)⟩
end
end Go.Proofs.Ytcjhakdopnamoaa

set_option linter.unusedVariables false
set_option linter.unusedSimpArgs false
set_option maxRecDepth 20000
namespace Go.Proofs.Ytcjhakdopnamoaa
open Go Go.Fw

theorem fb_J9 {L : Hands} {R : Value → Heap → Prop} {H K : Heap} {B : Nat → Bool} {i p0 : Int} {c over heard : Bool} {qptr x60 : Option Addr} {s1 : Sl} {x22 : X28} {x53 : HB} (hz : RowB H s1.a s1.len B) (hK : H.le K) (i0 : 0 ≤ i)
    (hE : over = false → i < ((s1.len : Nat) : Int) → wp Try.prog (.call f_frame_End_Step [(.pointer x60), (.pointer x22.1)] (.one (.leaf .bool)) fun x102 => .again 896 [(.bool c), (.pointer qptr), (.bool x102), (.bool heard), (.int .i64 (w64 (i + 1)))]) L K R)
    (h8 : wp Try.prog (t_magpielaw18_FrameBoth_J8 p0 s1 x22 x53 x60 (c, qptr, over, heard, i, ())) L K R) :
    wp Try.prog (t_magpielaw18_FrameBoth_J9 p0 s1 x22 x53 x60 (c, qptr, over, heard, i, ())) L K R := by
  unfold t_magpielaw18_FrameBoth_J9
  by_cases hi : i < ((s1.len : Nat) : Int)
  · refine wp_true (decide_eq_true hi) ?_
    refine wp_rowB hz hK i0 hi ?_
    cases B i.toNat with
    | false => exact wp_false rfl h8
    | true =>
      refine wp_true rfl ?_
      cases over with
      | true => exact wp_false rfl h8
      | false =>
        refine wp_true rfl (wp_false rfl ?_)
        exact hE rfl hi
  · exact wp_false (decide_eq_false hi) h8

set_option maxHeartbeats 1000000 in
theorem FrameBoth_det (p0 : Int) (s : Sl) (B : Nat → Bool) (p2 : Bool) (H : Heap) (hz : RowB H s.a s.len B) : Det Try.prog f_magpielaw18_FrameBoth [.int .i64 p0, .slice s.a s.len s.cap, .bool p2] H (.bool true) H := by
  refine t_magpielaw18_FrameBoth_spec (p1 := s) fun L => ?_
  unfold t_magpielaw18_FrameBoth
  refine wp_call_of (fmake_spec p2 2 3 (by decide) (by decide) H) ?_
  rintro v K ⟨A, q, mq, rfl, rfl, hI, ok, E, r0, u0, nl, nr⟩
  refine ⟨(aI A.ids, (2, 0, 4 * 2, 4 * 2 + (8 * 3 + 7) / 8, 4 * 2 + 2 * ((8 * 3 + 7) / 8), ()), some ⟨q, 0, none⟩, ()), rfl, ?_⟩
  have hA := E.aw
  refine w_newP hA ok fun x2 ok1 => ?_
  refine w_stA 0 hA ok1 rfl rfl rfl rfl ?_
  have X0 := E.gi (th := 1) r0 u0 nl nr
  obtain ⟨g, hg⟩ : ∃ g, g = gdOf p2 2 3 1 := ⟨_, rfl⟩
  have gw : g.w = 2 := by rw [hg]; rfl
  have gth : g.th = 1 := by rw [hg]; rfl
  have gpl : g.pl = plOf 2 24 := by rw [hg]; rfl
  have ok1 : Ok A.ids H (keys ((x2, oc ty_free_Place (plCells (plOf 2 24))) :: (gdOf p2 2 3 1).bl q mq [])) := ok1
  show wp Try.prog _ L (own A ((x2, oc ty_free_Place (plCells (plOf 2 24))) :: (gdOf p2 2 3 1).bl q mq []) H) _
  rw [← hg] at ok1 X0 ⊢
  refine w_ldA (x := (2, 0, 4 * 2, 4 * 2 + (8 * 3 + 7) / 8, 4 * 2 + 2 * ((8 * 3 + 7) / 8), ())) 0 hA ok1 rfl rfl rfl ?_
  refine w_NewMake (q := q) (p := plOf 2 24) hA ok1 fun b aj gar ok2 => ?_
  refine look_val (x := false) (np_some _) (wp_false rfl ?_)
  refine look_val (x := false) (npGd _) (wp_false rfl ?_)
  refine look_val (x := false) (npMk _) (wp_false rfl ?_)
  obtain ⟨cP, hcP⟩ : ∃ cP : Nat × Obj, cP = (x2, oc ty_free_Place (plCells (plOf 2 24))) := ⟨_, rfl⟩
  rw [← hcP, ← gpl] at ok2 ⊢
  obtain ⟨n, x, C0, S1, C, Z⟩ := fm1 (who := 0) (tw := twF 0 0 1125899906842624 false) q mq hA X0 (by omega) (by rw [gw]; decide) (by decide)
  obtain ⟨pp, ok3⟩ := own_perm (A := A) (l' := (b, oc ty_frame_Make (mkC q g.pl 0 (twF 0 0 1125899906842624 false) (some ⟨aj.1, 0, none⟩) .nilIface 0 0 0 false)) :: ((newAl g.pl 0 0).bl aj ++ (gar ++ (g.bl q mq [] ++ [cP])))) ok2 (perm_by fun c d c0 cd ca => by simp only [cd, ca, c0]; omega)
  rw [pp]
  have n3 := Z.n3
  have cu := Z.us
  refine w_mkRun (m := 24) hA Z.aw gd0 ok3 Z.run (by omega) fun e gar' ok4 gs => ?_
  refine wp_false rfl ?_
  by_cases h200 : ((s.len : Nat) : Int) > 200
  · refine wp_true (decide_eq_true h200) ?_
    refine wp_call_det (x := true) (awake18_det _) ?_
    exact ⟨H, own_end Z.aw ok4 hI, rfl, rfl⟩
  refine wp_false (decide_eq_false h200) ?_
  refine w_MkHandle 0 (x := ⟨g, nls, g.pl, 0, twF 0 0 1125899906842624 false, none, none, 1, 7, x.h, true⟩) Z.aw ok4 rfl ?_
  have znL : C.nL = 8 := by rw [Z.w.nL, Z.z.z.nL, if_pos Z.hx, nl]; rfl
  have F : FZ A.ids C g S1 x.h 0 0 2 := ⟨Z.aw, Z.w.gi, gw, gth, Z.hs, Z.hc, Z.w.ld 0 (by decide), Z.w.ld 1 (by decide), Z.w.ld 2 (by decide), znL, by omega⟩
  generalize hrest : gar' ++ [cP] = rest at *
  generalize hcM : (b, oc ty_frame_Make (mkC q g.pl 0 (twF 0 0 1125899906842624 false) none .nilIface 1 7 x.h true)) = cM at *
  refine w_NewEnd (q := q) Z.aw ok4 fun zE gar2 ok5 => ?_
  refine w_NewAsk (q := q) Z.aw ok5 fun zq ok6 => ?_
  refine look_val (x := false) (npEn _) (wp_false rfl ?_)
  refine look_val (x := false) (npAs _) (wp_false rfl ?_)
  obtain ⟨h, hh⟩ : ∃ h, h = x.h := ⟨_, rfl⟩
  have ok6 : Ok A.ids H (keys (asB g q x.h p0 0 zq :: enB g q x.h p0 0 zE :: (gar2 ++ (cM :: (g.bl q mq e ++ rest))))) := ok6
  show wp Try.prog _ L (own C (asB g q x.h p0 0 zq :: enB g q x.h p0 0 zE :: (gar2 ++ (cM :: (g.bl q mq e ++ rest)))) H) _
  obtain ⟨pq, ok7⟩ := own_perm (A := C) (l' := enB g q x.h p0 0 zE :: asB g q x.h p0 0 zq :: (g.bl q mq e ++ (cM :: (gar2 ++ rest)))) ok6 (perm_by fun c d c0 cd ca => by simp only [cd, ca]; omega)
  rw [pq]
  have P0 : PhA A.ids H g q mq x.h p0 zE zq 0 0 C S1 0 e (cM :: (gar2 ++ rest)) := ⟨F, fun h => (h rfl).elim, by decide, by decide, fun h => (h rfl).elim, gs, ok7⟩
  rw [← hh] at *
  generalize hI0 : A.ids = I at *
  refine wl_bpbbi (fun _ qptr over heard i K => FI I H g q mq h p0 zE ((s.len : Nat) : Int) qptr over heard i K) (fun _ _ _ _ i => (400 - i).toNat) false (some ⟨zq, 0, none⟩) false false 0 ⟨Int.le_refl 0, by decide, .inl ⟨rfl, rfl, zq, 0, 0, C, S1, 0, e, _, P0, rfl, by omega, by omega, rfl⟩⟩ ?_
  rintro c qptr over heard i K ⟨i0, i1, hc⟩
  rw [t_magpielaw18_FrameBoth_L1]
  have nx : i < 400 → Nx (L.set 896 fun vals H'' => ∃ (y0 : Bool) (y1 : Option Addr) (y2 y3 : Bool) (y4 : Int), vals = [.bool y0, .pointer y1, .bool y2, .bool y3, .int .i64 y4] ∧ FI I H g q mq h p0 zE ((s.len : Nat) : Int) y1 y2 y3 y4 H'' ∧ (400 - y4).toNat < (400 - i).toNat) (fun u K => u = .bool true ∧ K = H) I H g q mq h p0 zE ((s.len : Nat) : Int) i := fun hi c qptr over heard K hF =>
    wp_again ⟨c, qptr, over, heard, i + 1, rfl, hF, by omega⟩
  rcases hc with ⟨rfl, rfl, zq, ep, qp, A1, S2, v1, e1, rest1, P, rfl, il, hu, rfl⟩ | ⟨rfl, rfl, n1, x1, x2', A1, B1, j, rest1, P, hj, hn, rfl⟩ | ⟨rfl, rfl, n1, x1, A1, B1, l', j, rest1, P, rfl, hn, hm, rfl⟩ | ⟨rfl, rfl, A1, bl, hA1, okb, FB, rfl⟩
  · have q2 := P.q2
    have hi : i < 400 := by omega
    refine wp_true (decide_eq_true hi) (wp_false rfl ?_)
    refine fb_J9 hz (own_end P.fz.aw P.ok hI) i0 (fun _ hl => ?_) ?_
    · exact fb_Ae ⟨i0, hl⟩ (by omega) P hu (nx hi)
    · exact fb_Aq ⟨i0, hi⟩ il rfl (by omega) rfl rfl rfl P hu (nx hi)
  · have hi : i < 400 := by omega
    refine wp_true (decide_eq_true hi) (wp_false rfl ?_)
    refine fb_J9 hz (own_end P.aw P.ok hI) i0 (fun _ hl => ?_) ?_
    · exact fb_E ⟨i0, hi⟩ P hj hn (nx hi)
    · unfold t_magpielaw18_FrameBoth_J8
      refine wp_true rfl (wp_false rfl ?_)
      exact fb_E ⟨i0, hi⟩ P hj hn (nx hi)
  · have hi : i < 400 := by omega
    refine wp_true (decide_eq_true hi) (wp_true rfl (wp_true rfl ?_))
    refine fb_J9 hz (own_end P.aw P.ok hI) i0 (fun h _ => by cases h) ?_
    exact fb_Q ⟨i0, hi⟩ rfl P hn hm (nx hi)
  · by_cases hi : i < 400
    · refine wp_true (decide_eq_true hi) (wp_true rfl (wp_false rfl ?_))
      exact fb_J10 hI rfl rfl hA1 okb FB ⟨rfl, rfl⟩
    · refine wp_false (decide_eq_false hi) ?_
      exact fb_J10 hI rfl rfl hA1 okb FB ⟨rfl, rfl⟩
end Go.Proofs.Ytcjhakdopnamoaa

