/- Texts of this claim, one behind the other. -/
import Derived.Test.YtfphgiipekkgdaaB2
set_option linter.unusedSimpArgs false
set_option linter.unusedVariables false
set_option linter.unusedVariables false
set_option linter.unusedSimpArgs false
set_option maxRecDepth 20000
namespace Go.Proofs.Ytfphgiipekkgdaa
open Go Go.Fw

/-! ### Machines of lists, whatever falls between their steps -/

theorem rawF_set1 {A : Ar} {i j v : Int} (hi : A.rawOk i) : (A.setR i.toNat v).rawF j = if j = i then v else A.rawF j := by
  unfold Ar.rawOk at hi
  by_cases hj : A.rawOk j
  · have hj' : (A.setR i.toNat v).rawOk j := by unfold Ar.rawOk Ar.setR at *; simpa using hj
    rw [← getD_rawF hj', ← getD_rawF hj]
    unfold Ar.rawOk at hj
    show (A.raw.set i.toNat v).getD j.toNat 0 = _
    rw [List.getD_eq_getElem?_getD, List.getElem?_set]
    by_cases e : j = i
    · rw [if_pos e, if_pos (by rw [e]), if_pos (by omega)]; rfl
    · rw [if_neg e, if_neg (by omega), List.getD_eq_getElem?_getD]
  · have hj' : ¬ (A.setR i.toNat v).rawOk j := by unfold Ar.rawOk Ar.setR at *; simpa using hj
    have e : ¬ j = i := fun e => hj (e ▸ hi)
    rw [if_neg e]; unfold Ar.rawF; rw [if_neg hj, if_neg hj']

theorem set_self {l : List Int} {i : Nat} {v : Int} (hi : i < l.length) (h : l.getD i 0 = v) : l.set i v = l := by
  rw [List.getD_eq_getElem?_getD, List.getElem?_eq_getElem hi] at h
  have h : l[i] = v := h
  rw [← h]; exact List.set_getElem_self hi

/-- Words turned, one use. -/
structure RStep (w n : Int) (A B : Ar) : Prop where
  eq : ∃ r : List Int, B = { A with raw := r, uses := A.uses + 1 } ∧ r.length = A.raw.length
  up : ∀ i, 4 * w + n ≤ i → B.rawF i = A.rawF i

/-- What the step of another one leaves; mb: the base whose link it may turn. -/
structure FEv (w n : Int) (A B : Ar) (mb : Int) : Prop where
  hd : ∀ k, 0 ≤ k → k < 4 * w → A.rawF k / 131072 ≤ B.rawF k / 131072 ∧ (A.rawF k / 131072 = B.rawF k / 131072 → B.rawF k = A.rawF k)
  lk : ∀ b, 0 ≤ b → b % 8 = 0 → b / 8 < n → b ≠ mb → B.rawF (4 * w + b / 8) = A.rawF (4 * w + b / 8)

section
variable {A B : Ar} {p : Pl} {w n k b : Int} {ch : Int → List Int}

theorem FEv.same {mb : Int} (h : ∀ i, 0 ≤ i → i < 4 * w + n → B.rawF i = A.rawF i) (wb : 0 ≤ w) (nb : 0 ≤ n) : FEv w n A B mb :=
  ⟨fun k h0 h1 => by rw [h k h0 (by omega)]; exact ⟨Int.le_refl _, fun _ => rfl⟩, fun b h0 h1 h2 _ => h _ (by omega) (by omega)⟩
theorem FEv.trans {C : Ar} {mb : Int} (h : FEv w n A B mb) (g : FEv w n B C mb) : FEv w n A C mb :=
  ⟨fun k h0 h1 => by
    obtain ⟨a1, a2⟩ := h.hd k h0 h1
    obtain ⟨b1, b2⟩ := g.hd k h0 h1
    exact ⟨by omega, fun e => by rw [b2 (by omega), a2 (by omega)]⟩, fun b h0 h1 h2 h3 => by rw [g.lk b h0 h1 h2 h3, h.lk b h0 h1 h2 h3]⟩

theorem FL.same (F : FL B p w n ch) (hr : ∀ i, A.rawF i = B.rawF i) (hl : A.raw.length = B.raw.length) (us : 0 ≤ A.uses) (hd : ∀ k, 0 ≤ k → k < 4 * w → A.rawF k / 131072 ≤ A.uses) : FL A p w n ch where
  heads := F.heads
  links := F.links
  wb := F.wb
  nb := F.nb
  len := by rw [hl]; exact F.len
  us := us
  hd k h0 h1 := ⟨by rw [hr]; exact (F.hd k h0 h1).1, hd k h0 h1⟩
  chn k h0 h1 := by
    rw [hr]
    exact chain_frame (fun i => by unfold Ar.rawOk; rw [hl]) _ _ (fun x _ => hr _) (F.chn k h0 h1)
  mem := F.mem
  nd := F.nd
  dj := F.dj
  rg := F.rg

theorem FL.tick (F : FL A p w n ch) : FL (A.later 1) p w n ch := F.congr (fun _ _ _ => rfl) rfl (by show A.uses ≤ A.uses + 1; omega)

/-- A head that was swapped. -/
theorem FL.pop1 (F : FL A p w n ch) (hu : A.uses ≤ 1000000000) {l : List Int} (hk : ch k = b :: l) :
    FL ((A.later 1).setR k.toNat (nextF (A.rawF k) (A.rawF (4 * w + b / 8)))) p w n (upd ch k l) ∧ FEv w n A ((A.later 1).setR k.toNat (nextF (A.rawF k) (A.rawF (4 * w + b / 8)))) (-1) := by
  obtain ⟨h0, h1⟩ := F.rg k (by rw [hk]; simp)
  have wb := F.wb
  have nb := F.nb
  have us := F.us
  have o1 := F.hdOk h0 h1
  have hkd := F.hd k h0 h1
  have hch := F.chn k h0 h1
  rw [hk] at hch
  have hc := chain_pop (A := A) (lk := 4 * w) (hd := k) (b := b) (l := l) (by rw [mod17]; exact hch) o1 (by omega) (fun x hx => by
    obtain ⟨a1, a2, a3⟩ := F.mem k x (by rw [hk]; exact hx)
    exact ⟨a2, a1, by omega, F.lkOk a1 a3, by omega⟩)
  have rf : ∀ j, ((A.later 1).setR k.toNat (nextF (A.rawF k) (A.rawF (4 * w + b / 8)))).rawF j = if j = k then nextF (A.rawF k) (A.rawF (4 * w + b / 8)) else A.rawF j := fun j => rawF_set1 (A := A.later 1) o1
  have nx : nextF (A.rawF k) (A.rawF (4 * w + b / 8)) = (A.rawF k / 131072 + 1) * 131072 + A.rawF (4 * w + b / 8) := nextF_eq (by omega) (by omega) hc.2.2.2.1 hc.2.2.2.2
  have b0 := hc.2.2.2.1
  have b1 := hc.2.2.2.2
  refine ⟨(F.pop hu hk).same (fun i => rawF_congr rfl i) (by show (A.raw.set _ _).length = (A.raw.set _ _).length; rw [List.length_set]) (by show 0 ≤ A.uses + 1; omega) fun j j0 j1 => ?_, fun j j0 j1 => ?_, fun c c0 c1 c2 _ => ?_⟩
  · rw [rf]
    show _ ≤ A.uses + 1
    by_cases e : j = k
    · rw [if_pos e, nx]; omega
    · rw [if_neg e]; have := F.hd j j0 j1; omega
  · rw [rf]
    by_cases e : j = k
    · rw [if_pos e, nx, e]; exact ⟨by omega, fun h => by omega⟩
    · rw [if_neg e]; exact ⟨Int.le_refl _, fun _ => rfl⟩
  · rw [rf, if_neg (by omega)]

theorem FL.push1 (F : FL A p w n ch) (hu : A.uses ≤ 1000000000) (h0 : 0 ≤ k) (h1 : k < 4 * w) (hb : 0 ≤ b ∧ b % 8 = 0 ∧ b / 8 < n) (hn : ∀ j, b ∉ ch j) (hl : A.rawF (4 * w + b / 8) = A.rawF k % 131072) :
    FL ((A.later 1).setR k.toNat (nextF (A.rawF k) (b / 8 + 1))) p w n (upd ch k (b :: ch k)) ∧ FEv w n A ((A.later 1).setR k.toNat (nextF (A.rawF k) (b / 8 + 1))) (-1) := by
  have wb := F.wb
  have nb := F.nb
  have us := F.us
  have o1 := F.hdOk h0 h1
  have o2 := F.lkOk hb.1 hb.2.2
  have hkd := F.hd k h0 h1
  have td : Int.tdiv b 8 = b / 8 := Int.tdiv_eq_ediv_of_nonneg hb.1
  have e1 : w64 (w64 (Int.tdiv b 8) + 1) = b / 8 + 1 := by rw [td, w64_in (x := b / 8) (by omega) (by omega), w64_in (by omega) (by omega)]
  have rf : ∀ j, ((A.later 1).setR k.toNat (nextF (A.rawF k) (b / 8 + 1))).rawF j = if j = k then nextF (A.rawF k) (b / 8 + 1) else A.rawF j := fun j => rawF_set1 (A := A.later 1) o1
  have nx : nextF (A.rawF k) (b / 8 + 1) = (A.rawF k / 131072 + 1) * 131072 + (b / 8 + 1) := nextF_eq (by omega) (by omega) (by omega) (by omega)
  have hraw : ((A.later 1).setR k.toNat (nextF (A.rawF k) (b / 8 + 1))).raw = (A.pushed k (4 * w + b / 8) b).raw := by
    show A.raw.set k.toNat _ = (A.raw.set (4 * w + b / 8).toNat (iand (A.rawF k) 131071)).set k.toNat (nextF (A.rawF k) (w64 (w64 (Int.tdiv b 8) + 1)))
    rw [e1, set_self (l := A.raw) (i := (4 * w + b / 8).toNat) (v := iand (A.rawF k) 131071) (by unfold Ar.rawOk at o2; omega) (by rw [getD_rawF o2, hl, mod17])]
  refine ⟨(F.push hu h0 h1 hb hn).same (fun i => rawF_congr hraw i) (by rw [hraw]) (by show 0 ≤ A.uses + 1; omega) fun j j0 j1 => ?_, fun j j0 j1 => ?_, fun c c0 c1 c2 _ => ?_⟩
  · rw [rf]
    show _ ≤ A.uses + 1
    by_cases e : j = k
    · rw [if_pos e, nx]; omega
    · rw [if_neg e]; have := F.hd j j0 j1; omega
  · rw [rf]
    by_cases e : j = k
    · rw [if_pos e, nx, e]; exact ⟨by omega, fun h => by omega⟩
    · rw [if_neg e]; exact ⟨Int.le_refl _, fun _ => rfl⟩
  · rw [rf, if_neg (by omega)]

/-- The link of a base that is in no list. -/
theorem FL.link1 (F : FL A p w n ch) (hb : 0 ≤ b ∧ b % 8 = 0 ∧ b / 8 < n) (hn : ∀ j, b ∉ ch j) (v : Int) :
    FL ((A.later 1).setR (4 * w + b / 8).toNat v) p w n ch ∧ FEv w n A ((A.later 1).setR (4 * w + b / 8).toNat v) b := by
  have wb := F.wb
  have nb := F.nb
  have us := F.us
  have o2 := F.lkOk hb.1 hb.2.2
  have rf : ∀ j, ((A.later 1).setR (4 * w + b / 8).toNat v).rawF j = if j = 4 * w + b / 8 then v else A.rawF j := fun j => rawF_set1 (A := A.later 1) o2
  refine ⟨⟨F.heads, F.links, F.wb, F.nb, by show _ ≤ ((A.raw.set _ _).length : Int); rw [List.length_set]; exact F.len, by show 0 ≤ A.uses + 1; omega, fun j j0 j1 => ?_, fun j j0 j1 => ?_, F.mem, F.nd, F.dj, F.rg⟩, fun j j0 j1 => ?_, fun c c0 c1 c2 c3 => ?_⟩
  · rw [rf, if_neg (by omega)]
    show _ ∧ _ ≤ A.uses + 1
    have := F.hd j j0 j1; omega
  · rw [rf, if_neg (by omega)]
    refine chain_frame (fun i => by unfold Ar.rawOk; show _ ∧ i < ((A.raw.set _ _).length : Int) ↔ _; rw [List.length_set]) _ _ (fun x hx => ?_) (F.chn j j0 j1)
    obtain ⟨a1, a2, a3⟩ := F.mem j x hx
    have : x ≠ b := fun e => hn j (e ▸ hx)
    rw [rf, if_neg (by omega)]
  · rw [rf, if_neg (by omega)]; exact ⟨Int.le_refl _, fun _ => rfl⟩
  · rw [rf, if_neg (by omega)]

/-- A pop under way. -/
structure PoI (p : Pl) (w n k : Int) (x : Po) (A : Ar) : Prop where
  pl : x.pl = p
  hd : x.head = k
  ok : x.ok = false
  ph : x.at' = 0 ∨ x.at' = 1 ∨ x.at' = 2
  was : x.at' ≠ 0 → 0 ≤ x.was ∧ x.was % 131072 ≠ 0 ∧ x.was % 131072 ≤ n ∧ x.was / 131072 ≤ A.rawF k / 131072 ∧ (x.was / 131072 = A.rawF k / 131072 → A.rawF k = x.was)
  link : x.at' = 2 → A.rawF k = x.was → x.link = A.rawF (4 * w + (x.was % 131072 - 1))

theorem PoI.new (hp : p.heads = 0) (wb : 0 ≤ w ∧ w ≤ 1000) {who c : Int} (h : headF p who c = k) : PoI p w n k ⟨p, headF p who c, 0, 0, 0, 0, false⟩ A := ⟨rfl, h, rfl, .inl rfl, fun h => (h rfl).elim, fun h => by cases h⟩

theorem PoI.keep {x : Po} (P : PoI p w n k x A) (F : FL A p w n ch) (h0 : 0 ≤ k) (h1 : k < 4 * w) {mb : Int} (hm : ∀ j, mb ∉ ch j) (E : FEv w n A B mb) : PoI p w n k x B := by
  obtain ⟨e1, e2⟩ := E.hd k h0 h1
  refine ⟨P.pl, P.hd, P.ok, P.ph, fun h => ?_, fun h hb => ?_⟩
  · obtain ⟨a1, a2, a3, a4, a5⟩ := P.was h
    exact ⟨a1, a2, a3, by omega, fun e => by rw [e2 (by omega)]; exact a5 (by omega)⟩
  · obtain ⟨a1, a2, a3, a4, a5⟩ := P.was (by omega)
    have t : A.rawF k / 131072 = B.rawF k / 131072 := by rw [hb] at e1 ⊢; omega
    have hA : A.rawF k = x.was := by rw [← hb]; exact (e2 t).symm
    rw [P.link h hA]
    obtain ⟨b, l, hbl⟩ : ∃ b l, ch k = b :: l := by
      cases hc : ch k with
      | nil => exact (a2 (by rw [← hA]; exact F.first_nil h0 h1 hc)).elim
      | cons b l => exact ⟨b, l, rfl⟩
    have hf := F.first_cons h0 h1 hbl
    rw [hA] at hf
    have hmem : b ∈ ch k := by rw [hbl]; simp
    obtain ⟨m1, m2, m3⟩ := F.mem k b hmem
    rw [hf, show b / 8 + 1 - 1 = b / 8 by omega]
    exact (E.lk b m1 m2 m3 fun e => hm k (e ▸ hmem)).symm

theorem rstep_later {w n : Int} {A : Ar} : RStep w n A (A.later 1) := ⟨⟨A.raw, rfl, rfl⟩, fun _ _ => rfl⟩
theorem rstep_set {i v : Int} (o : A.rawOk i) (h : i < 4 * w + n) : RStep w n A ((A.later 1).setR i.toNat v) := ⟨⟨A.raw.set i.toNat v, rfl, by rw [List.length_set]⟩, fun j hj => by rw [rawF_set1 (A := A.later 1) o, if_neg (by omega)]; rfl⟩

/-- A step of a pop: it goes on; it ends with nothing; it ends with a base. -/
theorem PoI.step {x : Po} (P : PoI p w n k x A) (F : FL A p w n ch) (hu : A.uses ≤ 1000000000) (h0 : 0 ≤ k) (h1 : k < 4 * w) :
    (x.stepB A = false ∧ x.stepA A = A.later 1 ∧ PoI p w n k (x.stepM A) (A.later 1)) ∨
    (x.stepB A = true ∧ x.stepA A = A.later 1 ∧ (x.stepM A).ok = false ∧ ch k = []) ∨
    (x.stepB A = true ∧ (x.stepM A).ok = true ∧ ∃ b l, ch k = b :: l ∧ (x.stepM A).base = b ∧ x.stepA A = (A.later 1).setR k.toNat (nextF (A.rawF k) (A.rawF (4 * w + b / 8)))) := by
  have us := F.us
  have wb := F.wb
  have nb := F.nb
  have o1 := F.hdOk h0 h1
  have hkd := F.hd k h0 h1
  have tk : A.tick = A.later 1 := tick_uses us (by omega)
  have eh := P.hd
  rcases P.ph with h | h | h
  · have s := Po.s0 (A := A) h (by rw [eh]; exact o1)
    rw [eh, tk] at s
    obtain ⟨s1, s2⟩ := Prod.mk.inj s
    have sb : x.stepB A = decide (A.rawF k % 131072 = 0) := by
      unfold Po.stepB; rw [if_neg (by omega), if_neg (by omega), if_neg (by omega), eh, mod17]
    by_cases c : A.rawF k % 131072 = 0
    · right; left
      refine ⟨by rw [sb, decide_eq_true c], s2, by rw [s1]; exact P.ok, ?_⟩
      cases hc : ch k with
      | nil => rfl
      | cons b l =>
        have := F.first_cons h0 h1 hc
        have := F.mem k b (by rw [hc]; simp)
        omega
    · left
      refine ⟨by rw [sb, decide_eq_false c], s2, ?_⟩
      rw [s1, if_neg c]
      obtain ⟨b, l, hbl⟩ : ∃ b l, ch k = b :: l := by
        cases hc : ch k with
        | nil => exact (c (F.first_nil h0 h1 hc)).elim
        | cons b l => exact ⟨b, l, rfl⟩
      have hf := F.first_cons h0 h1 hbl
      obtain ⟨m1, m2, m3⟩ := F.mem k b (by rw [hbl]; simp)
      exact ⟨P.pl, rfl, P.ok, .inr (.inl rfl), fun _ => ⟨hkd.1, c, by show A.rawF k % 131072 ≤ n; omega, Int.le_refl _, fun _ => rfl⟩, fun h => by cases h⟩
  · left
    obtain ⟨a1, a2, a3, a4, a5⟩ := P.was (by omega)
    have el : w64 (w64 (x.pl.links + x.was % 131072) - 1) = 4 * w + (x.was % 131072 - 1) := by
      rw [P.pl, F.links, w64_in (x := 4 * w + x.was % 131072) (by omega) (by omega), w64_in (by omega) (by omega)]; omega
    have o2 : A.rawOk (4 * w + (x.was % 131072 - 1)) := ⟨by omega, by have := F.len; omega⟩
    have s := Po.s1 (A := A) h el o2
    rw [tk] at s
    obtain ⟨s1, s2⟩ := Prod.mk.inj s
    refine ⟨by unfold Po.stepB; rw [if_pos h], s2, ?_⟩
    rw [s1]
    exact ⟨P.pl, P.hd, P.ok, .inr (.inr rfl), fun _ => ⟨a1, a2, a3, a4, a5⟩, fun _ _ => rfl⟩
  · obtain ⟨a1, a2, a3, a4, a5⟩ := P.was (by omega)
    have sb : x.stepB A = A.swapRb x.head x.was := by unfold Po.stepB; rw [if_neg (by omega), if_pos h]
    by_cases c : A.rawF k = x.was
    · right; right
      have s := Po.s2y (A := A) h (by rw [eh]; exact o1) (by rw [eh]; exact c)
      rw [eh, tk] at s
      obtain ⟨s1, s2⟩ := Prod.mk.inj s
      have sw : A.swapRb x.head x.was = true := by rw [eh]; exact decide_eq_true ⟨o1, by rw [getD_rawF o1]; exact c⟩
      obtain ⟨b, l, hbl⟩ : ∃ b l, ch k = b :: l := by
        cases hc : ch k with
        | nil => exact (a2 (by rw [← c]; exact F.first_nil h0 h1 hc)).elim
        | cons b l => exact ⟨b, l, rfl⟩
      have hf := F.first_cons h0 h1 hbl
      rw [c] at hf
      obtain ⟨m1, m2, m3⟩ := F.mem k b (by rw [hbl]; simp)
      refine ⟨by rw [sb, sw], by rw [s1], b, l, hbl, ?_, ?_⟩
      · rw [s1]
        show w64 (w64 (x.was % 131072 - 1) * 8) = b
        rw [hf, w64_in (x := b / 8 + 1 - 1) (by omega) (by omega), w64_in (by omega) (by omega)]; omega
      · rw [s2, P.link h c, c, hf, show b / 8 + 1 - 1 = b / 8 by omega]
    · left
      have s := Po.s2n (A := A) h (by rw [eh]; exact o1) (by rw [eh]; exact c)
      rw [tk] at s
      obtain ⟨s1, s2⟩ := Prod.mk.inj s
      have sw : A.swapRb x.head x.was = false := by rw [eh]; exact decide_eq_false fun e => c (by rw [← getD_rawF o1]; exact e.2)
      refine ⟨by rw [sb, sw], s2, ?_⟩
      rw [s1]
      exact ⟨P.pl, P.hd, P.ok, .inl rfl, fun h => (h rfl).elim, fun h => by cases h⟩

/-- A push under way. -/
structure PuI (p : Pl) (w n k b : Int) (x : Pu) (A : Ar) : Prop where
  pl : x.pl = p
  hd : x.head = k
  ba : x.base = b
  bb : 0 ≤ b ∧ b % 8 = 0 ∧ b / 8 < n
  ph : x.at' = 0 ∨ x.at' = 1 ∨ x.at' = 2
  was : x.at' ≠ 0 → 0 ≤ x.was
  link : x.at' = 2 → A.rawF (4 * w + b / 8) = x.was % 131072

theorem PuI.new {who c : Int} (h : headF p who c = k) (hb : 0 ≤ b ∧ b % 8 = 0 ∧ b / 8 < n) : PuI p w n k b ⟨p, headF p who c, 0, 0, b⟩ A := ⟨rfl, h, rfl, hb, .inl rfl, fun h => (h rfl).elim, fun h => by cases h⟩
theorem PuI.keep {x : Pu} (P : PuI p w n k b x A) {mb : Int} (hm : b ≠ mb) (E : FEv w n A B mb) : PuI p w n k b x B :=
  ⟨P.pl, P.hd, P.ba, P.bb, P.ph, P.was, fun h => by rw [E.lk b P.bb.1 P.bb.2.1 P.bb.2.2 hm]; exact P.link h⟩

theorem PuI.step {x : Pu} (P : PuI p w n k b x A) (F : FL A p w n ch) (hu : A.uses ≤ 1000000000) (h0 : 0 ≤ k) (h1 : k < 4 * w) (hn : ∀ j, b ∉ ch j) :
    (x.stepB A = false ∧ PuI p w n k b (x.stepM A) (x.stepA A) ∧ FL (x.stepA A) p w n ch ∧ FEv w n A (x.stepA A) b ∧ RStep w n A (x.stepA A)) ∨
    (x.stepB A = true ∧ FL (x.stepA A) p w n (upd ch k (b :: ch k)) ∧ FEv w n A (x.stepA A) b ∧ RStep w n A (x.stepA A)) := by
  have us := F.us
  have wb := F.wb
  have nb := F.nb
  have o1 := F.hdOk h0 h1
  have o2 := F.lkOk P.bb.1 P.bb.2.2
  have bb := P.bb
  have hkd := F.hd k h0 h1
  have tk : A.tick = A.later 1 := tick_uses us (by omega)
  have eh := P.hd
  have same : FEv w n A (A.later 1) b := FEv.same (fun _ _ _ => rfl) wb.1 nb.1
  have td : Int.tdiv b 8 = b / 8 := Int.tdiv_eq_ediv_of_nonneg bb.1
  rcases P.ph with h | h | h
  · left
    have s := Pu.s0 (A := A) h (by rw [eh]; exact o1)
    rw [eh, tk] at s
    obtain ⟨s1, s2⟩ := Prod.mk.inj s
    refine ⟨by unfold Pu.stepB; rw [if_neg (by omega), decide_eq_false (by omega)], ?_⟩
    rw [s1, s2]
    exact ⟨⟨P.pl, rfl, P.ba, bb, .inr (.inl rfl), fun _ => hkd.1, fun h => by cases h⟩, F.tick, same, rstep_later⟩
  · left
    have el : w64 (x.pl.links + w64 (Int.tdiv x.base 8)) = 4 * w + b / 8 := by
      rw [P.pl, P.ba, F.links, td, w64_in (x := b / 8) (by omega) (by omega), w64_in (by omega) (by omega)]
    have s := Pu.s1 (A := A) h el o2
    rw [tk, mod17] at s
    obtain ⟨s1, s2⟩ := Prod.mk.inj s
    obtain ⟨f1, f2⟩ := F.link1 bb hn (x.was % 131072)
    refine ⟨by unfold Pu.stepB; rw [if_neg (by omega), decide_eq_false (by omega)], ?_⟩
    rw [s1, s2]
    exact ⟨⟨P.pl, P.hd, P.ba, bb, .inr (.inr rfl), fun _ => P.was (by omega), fun _ => by rw [rawF_set1 (A := A.later 1) o2, if_pos rfl]⟩, f1, f2, rstep_set o2 (by omega)⟩
  · have sb : x.stepB A = A.swapRb x.head x.was := by unfold Pu.stepB; rw [if_pos h]
    have w0 := P.was (by omega)
    by_cases c : A.rawF k = x.was
    · right
      have s := Pu.s2y (A := A) h (by rw [eh]; exact o1) (by rw [eh]; exact c)
      rw [eh, tk, P.ba, td] at s
      obtain ⟨s1, s2⟩ := Prod.mk.inj s
      have sw : A.swapRb x.head x.was = true := by rw [eh]; exact decide_eq_true ⟨o1, by rw [getD_rawF o1]; exact c⟩
      have e1 : w64 (w64 (b / 8) + 1) = b / 8 + 1 := by rw [w64_in (x := b / 8) (by omega) (by omega), w64_in (by omega) (by omega)]
      rw [e1, ← c] at s2
      obtain ⟨f1, f2⟩ := F.push1 hu h0 h1 bb hn (by rw [c]; exact P.link h)
      refine ⟨by rw [sb, sw], ?_⟩
      rw [s2]
      exact ⟨f1, ⟨f2.hd, fun c c0 c1 c2 _ => f2.lk c c0 c1 c2 (by omega)⟩, rstep_set o1 (by omega)⟩
    · left
      have s := Pu.s2n (A := A) h (by rw [eh]; exact o1) (by rw [eh]; exact c)
      rw [tk] at s
      obtain ⟨s1, s2⟩ := Prod.mk.inj s
      have sw : A.swapRb x.head x.was = false := by rw [eh]; exact decide_eq_false fun e => c (by rw [← getD_rawF o1]; exact e.2)
      refine ⟨by rw [sb, sw], ?_⟩
      rw [s1, s2]
      exact ⟨⟨P.pl, P.hd, P.ba, bb, .inl rfl, fun h => (h rfl).elim, fun h => by cases h⟩, F.tick, same, rstep_later⟩
end
end Go.Proofs.Ytfphgiipekkgdaa

set_option linter.unusedVariables false
set_option linter.unusedSimpArgs false
set_option maxRecDepth 20000
namespace Go.Proofs.Ytfphgiipekkgdaa
open Go Go.Fw

/-! ### The slab's machines, whatever falls between their steps -/

section
variable {A B C : Ar} {p : Pl} {w m : Int} {S S' S2 : Sg}

/-- The lists' words turned. -/
theorem SL.ofRaw (X : SL A p w m S) {r : List Int} {ch' : Int → List Int} (hl : r.length = A.raw.length) (up : ∀ i, 4 * w + (m + 7) / 8 ≤ i → ({ A with raw := r } : Ar).rawF i = A.rawF i) (F : FL { A with raw := r } p w ((m + 7) / 8) ch')
    (hc : ∀ k b, b ∈ ch' k → S.cl b = k % 4) (ha : ∀ h, A.stF h ≠ 0 → ∀ k, opB h ∉ ch' k) : SL { A with raw := r } p w m { S with ch := ch' } := by
  obtain ⟨p1, p2, p3, p4, p5⟩ := X.places
  have wb := X.wb
  have mb := X.mb
  have st : ∀ h, ({ A with raw := r } : Ar).stF h = A.stF h := fun h => stF_slots rfl h
  refine ⟨F, X.pl, X.wb, X.mb, by show p.carved < (r.length : Int); rw [hl]; exact X.rl, X.wl, X.fr, ?_, X.cvb, ?_, X.gnb, X.gnz, X.blk, X.dis, hc, ?_, ?_, X.cr1, X.cr2, X.cnt, X.ncb, X.cnb⟩
  · rw [up _ (by omega)]; exact X.cvr
  · intro b h0 h1 h2; rw [up _ (by omega)]; exact X.gnr b h0 h1 h2
  · intro h hh
    rw [st] at hh
    exact ⟨(X.act h hh).1, ha h hh⟩
  · intro i hi
    obtain ⟨h, h1, h2, h3⟩ := X.bz i hi
    exact ⟨h, by rw [st]; exact h1, h2, h3⟩

/-- A base in nobody's list, that is not alive: somebody has it in hand. -/
def Ow (A : Ar) (S : Sg) (b : Int) : Prop := S.cl b ≠ -1 ∧ (∀ k, b ∉ S.ch k) ∧ ∀ h, A.stF h ≠ 0 → opB h ≠ b

/-- What a step leaves; mine: the base that the one who steps has in hand. -/
structure Ev (p : Pl) (w m : Int) (A : Ar) (S : Sg) (B : Ar) (S' : Sg) (mine : Int) : Prop where
  fe : FEv w ((m + 7) / 8) A B mine
  cl : ∀ b, S.cl b ≠ -1 → S'.cl b = S.cl b
  ow : ∀ b, Ow A S b → b ≠ mine → Ow B S' b
  st : ∀ h, opB h ≠ mine → B.stF h = A.stF h
  fa : B.fault = A.fault
  rl : B.raw.length = A.raw.length
  rw : ∀ i, p.carved < i → B.rawF i = A.rawF i
  us : A.uses ≤ B.uses

theorem Ev.later (X : SL A p w m S) {n mine : Int} (hn : 0 ≤ n) : Ev p w m A S (A.later n) S mine :=
  ⟨FEv.same (fun _ _ _ => rfl) X.F.wb.1 X.F.nb.1, fun _ _ => rfl, fun _ h _ => h, fun _ _ => rfl, rfl, rfl, fun _ _ => rfl, by show A.uses ≤ A.uses + n; omega⟩

theorem Ev.refl {mine : Int} : Ev p w m A S A S mine := ⟨⟨fun _ _ _ => ⟨Int.le_refl _, fun _ => rfl⟩, fun _ _ _ _ _ => rfl⟩, fun _ _ => rfl, fun _ h _ => h, fun _ _ => rfl, rfl, rfl, fun _ _ => rfl, Int.le_refl _⟩

/-- An alloc under way. -/
structure AlI (p : Pl) (w m : Int) (x : Al) (A : Ar) (S : Sg) : Prop where
  pl : x.pl = p
  who : 0 ≤ x.work ∧ x.work < w
  cls : 0 ≤ x.cls ∧ x.cls < 4
  lst : 0 ≤ x.lst ∧ x.lst ≤ w
  wh : x.what = 0 ∨ x.what = 1 ∨ x.what = 2 ∨ x.what = 3
  pops : x.what = 0 → x.lst < w ∧ ∃ k, 0 ≤ k ∧ k < 4 * w ∧ k % 4 = x.cls ∧ PoI p w ((m + 7) / 8) k x.po A
  swaps : x.what = 2 → 0 ≤ x.base ∧ x.base + sizeF x.cls ≤ m
  bears : x.what = 3 → Ow A S x.base ∧ S.cl x.base = x.cls
  h0 : x.h = 0
def Al.mine (x : Al) : Int := if x.what = 3 then x.base else -1

theorem AlI.new (X : SL A p w m S) {who c : Int} (wh : 0 ≤ who ∧ who < w) (hc : 0 ≤ c ∧ c < 4) : AlI p w m (newAl p who c) A S := by
  obtain ⟨p1, p2, p3, p4, p5⟩ := X.places
  have wb := X.wb
  have e := headF_eq (p := p) (w := who) (c := c) p1 ⟨wh.1, by omega⟩ hc
  exact ⟨rfl, wh, hc, ⟨Int.le_refl 0, by show 0 ≤ w; omega⟩, .inl rfl, fun _ => ⟨by show 0 < w; omega, 4 * who + c, by omega, by omega, by show (4 * who + c) % 4 = c; omega, PoI.new p1 ⟨by omega, by omega⟩ e⟩, fun h => (by cases h), fun h => (by cases h), rfl⟩

theorem AlI.keep {x : Al} (I : AlI p w m x A S) (X : SL A p w m S) {mine : Int} (E : Ev p w m A S B S' mine) (hm : ∀ j, mine ∉ S.ch j) (hb : x.what = 3 → x.base ≠ mine) : AlI p w m x B S' := by
  refine ⟨I.pl, I.who, I.cls, I.lst, I.wh, fun h => ?_, I.swaps, fun h => ?_, I.h0⟩
  · obtain ⟨a, k, k0, k1, k2, P⟩ := I.pops h
    exact ⟨a, k, k0, k1, k2, P.keep X.F k0 k1 hm E.fe⟩
  · obtain ⟨o, c⟩ := I.bears h
    exact ⟨E.ow _ o (hb h), by rw [E.cl _ o.1]; exact c⟩

theorem runs_one {M J : Type} {X : Mch M J} {x x' : M} {D D' : Ar} (h : X.Runs 1 x D x' D') : X.step x D = (x', D') := by
  cases h with
  | one h1 h2 h3 => rfl
  | more h1 h2 h3 h4 => cases h4

theorem count_setN : ∀ (n : Nat) {l : List Bool} {b : Nat}, b + n ≤ l.length → (setN l b true n).count true = l.count true + newsN l b n
  | 0, l, b, _ => rfl
  | n + 1, l, b, h => by
    have ih := count_setN n (l := l) (b := b) (by omega)
    show ((setN l b true n).set (b + n) true).count true = l.count true + newsN l b (n + 1)
    have hl : b + n < (setN l b true n).length := by rw [setN_length]; omega
    rw [List.count_set hl, ih]
    have hg : (setN l b true n)[b + n] = l.getD (b + n) false := by
      have := setN_get l b true n (b + n)
      rw [if_neg (by omega), List.getElem?_eq_getElem hl, List.getElem?_eq_getElem (by omega)] at this
      rw [List.getD_eq_getElem?_getD, List.getElem?_eq_getElem (by omega)]
      simpa using this
    rw [hg, show newsN l b (n + 1) = newsN l b n + (if l.getD (b + n) false then 0 else 1) from rfl]
    have hc : l.getD (b + n) false = true → 0 < l.count true + newsN l b n := fun e => by
      have : 0 < l.count true := by
        refine List.count_pos_iff.2 ?_
        rw [List.getD_eq_getElem?_getD, List.getElem?_eq_getElem (by omega)] at e
        rw [← (show l[b + n] = true from e)]; exact List.getElem_mem _
      omega
    cases e : l.getD (b + n) false
    · simp; omega
    · have := hc e
      simp; omega
theorem bornF_cc {A : Ar} (hw : A.wf) {h : Int} (hf : opB h + sizeF (opC h) ≤ A.words.length) (hc : A.nC = A.carved.count true) : (A.bornF h).nC = (A.bornF h).carved.count true := by
  have o := opC_nat h
  have hb := opB_nat h
  have szc := sz_pos (c := opC h) (by omega) (by omega)
  rw [(bornF_counts A hw h).1, bornF_carved, count_setN _ (by rw [hw.carved]; omega), hc]
  have : (A.carved.count true + newsN A.carved (opB h).toNat (sizeF (opC h)).toNat) ≤ 65536 := by
    rw [← count_setN _ (by rw [hw.carved]; omega)]
    refine Nat.le_trans List.count_le_length ?_
    rw [setN_length, hw.carved]; exact hw.words
  rw [w64_in (by omega) (by omega)]; omega

/-- How an alloc's step goes. -/
structure AlS (p : Pl) (w m : Int) (x : Al) (A : Ar) (S : Sg) (y : Al) (B : Ar) (S' : Sg) : Prop where
  wd : B.words = A.words
  sl : SL B p w m S'
  ev : Ev p w m A S B S' x.mine
  us : B.uses = A.uses + 1
  inv : y.what ≠ 4 → AlI p w m y B S'
  cls : y.cls = x.cls
  work : y.work = x.work
  acq : y.what = 3 → S.cl y.base = -1 ∨ ∃ k, y.base ∈ S.ch k
  nR : B.nR = A.nR
  cc : A.nC = A.carved.count true → B.nC = B.carved.count true
  res : (y.h = 0 ∧ (∀ k, B.stF k = A.stF k) ∧ B.nL = A.nL) ∨ (y.what = 4 ∧ x.what = 3 ∧ y.h ≠ 0 ∧ opB y.h = x.base ∧ opC y.h = x.cls ∧ openOk y.h = true ∧ A.stF y.h = 0 ∧ (∀ k, B.stF k = if k = y.h then 1 else A.stF k) ∧ B.nL = A.nL + sizeF x.cls)

theorem AlI.step {x : Al} (I : AlI p w m x A S) (X : SL A p w m S) (hwf : A.wf) (hu : A.uses ≤ 1000000) : ∃ S', AlS p w m x A S (x.step A).1 (x.step A).2 S' := by
  obtain ⟨p1, p2, p3, p4, p5⟩ := X.places
  have wb := X.wb
  have mb := X.mb
  have us := X.F.us
  have cvb := X.cvb
  have sz := sz_pos I.cls.1 I.cls.2
  have X1 := X.later (n := 1) (by omega)
  have E1 : ∀ mine, Ev p w m A S (A.later 1) S mine := fun mine => Ev.later X (by omega)
  have m0 : x.what ≠ 3 → x.mine = -1 := fun h => if_neg h
  rcases I.wh with h | h | h | h
  · obtain ⟨l0, k, k0, k1, k2, P⟩ := I.pops h
    have lst := I.lst
    have stp : x.step A = (if x.po.stepB A then Al.popd { x with po := x.po.stepM A } else { x with po := x.po.stepM A }, x.po.stepA A) := by unfold Al.step; rw [if_pos h]
    rw [stp]
    have el : w64 (x.lst + 1) = x.lst + 1 := w64_in (by omega) (by omega)
    rcases P.step X.F (by omega) k0 k1 with ⟨s1, s2, s3⟩ | ⟨s1, s2, s3, s4⟩ | ⟨s1, s2, b, l, s3, s4, s5⟩
    · rw [s1, s2, if_neg (by simp)]
      exact ⟨S, rfl, X1, E1 _, rfl, fun _ => ⟨I.pl, I.who, I.cls, I.lst, I.wh, fun _ => ⟨l0, k, k0, k1, k2, s3⟩, fun h2 => (by rw [show ({ x with po := x.po.stepM A } : Al).what = x.what from rfl, h] at h2; cases h2), fun h2 => (by rw [show ({ x with po := x.po.stepM A } : Al).what = x.what from rfl, h] at h2; cases h2), I.h0⟩, rfl, rfl, fun h2 => (by rw [show ({ x with po := x.po.stepM A } : Al).what = x.what from rfl, h] at h2; cases h2), rfl, fun h => h, .inl ⟨I.h0, fun _ => rfl, rfl⟩⟩
    · rw [s1, s2, if_pos rfl]
      unfold Al.popd
      rw [if_neg (by rw [s3]; simp)]
      dsimp only
      rw [el, I.pl, p5]
      have ei : imax w 1 = w := by unfold imax; split <;> omega
      rw [ei]
      by_cases c : x.lst + 1 ≥ w
      · rw [if_pos c]
        refine ⟨S, rfl, X1, E1 _, rfl, fun _ => ⟨rfl, I.who, I.cls, ⟨by show 0 ≤ x.lst + 1; omega, by show x.lst + 1 ≤ w; omega⟩, .inr (.inl rfl), fun h => (by cases h), fun h => (by cases h), fun h => (by cases h), I.h0⟩, rfl, rfl, fun h => (by cases h), rfl, fun h => h, .inl ⟨I.h0, fun _ => rfl, rfl⟩⟩
      · rw [if_neg c]
        have wh := I.who
        have ew : w64 (x.work + (x.lst + 1)) = x.work + (x.lst + 1) := w64_in (by omega) (by omega)
        rw [ew, Int.tmod_eq_emod_of_nonneg (by omega)]
        have q0 := Int.emod_nonneg (x.work + (x.lst + 1)) (b := w) (by omega)
        have q1 := Int.emod_lt_of_pos (x.work + (x.lst + 1)) (b := w) (by omega)
        have e := headF_eq (p := p) (w := (x.work + (x.lst + 1)) % w) (c := x.cls) p1 ⟨q0, by omega⟩ I.cls
        have cl := I.cls
        refine ⟨S, rfl, X1, E1 _, rfl, fun _ => ⟨rfl, I.who, I.cls, ⟨by show 0 ≤ x.lst + 1; omega, by show x.lst + 1 ≤ w; omega⟩, .inl h, fun _ => ⟨by show x.lst + 1 < w; omega, 4 * ((x.work + (x.lst + 1)) % w) + x.cls, by omega, by omega, by show (4 * ((x.work + (x.lst + 1)) % w) + x.cls) % 4 = x.cls; omega, PoI.new p1 ⟨by omega, by omega⟩ e⟩, fun h2 => (by rw [show x.what = 2 from h2] at h; cases h), fun h2 => (by rw [show x.what = 3 from h2] at h; cases h), I.h0⟩, rfl, rfl, fun h2 => (by rw [show x.what = 3 from h2] at h; cases h), rfl, fun h => h, .inl ⟨I.h0, fun _ => rfl, rfl⟩⟩
    · rw [s1, if_pos rfl]
      unfold Al.popd
      rw [if_pos s2]
      dsimp only
      rw [el, s4, s5]
      obtain ⟨F, fe⟩ := X.F.pop1 (by omega) s3
      have hmem : b ∈ S.ch k := by rw [s3]; simp
      have hcl := X.chc k b hmem
      have hsub : ∀ j y, y ∈ upd S.ch k l j → y ∈ S.ch j := fun j y hy => by
        unfold upd at hy; split at hy
        · rename_i e; rw [e, s3]; exact List.mem_cons_of_mem _ hy
        · exact hy
      have Y := X1.ofRaw (r := A.raw.set k.toNat (nextF (A.rawF k) (A.rawF (4 * w + b / 8)))) (ch' := upd S.ch k l) (by rw [List.length_set]; rfl) (fun i hi => by
        have := rawF_set1 (A := A.later 1) (i := k) (j := i) (v := nextF (A.rawF k) (A.rawF (4 * w + b / 8))) (X.F.hdOk k0 k1)
        rw [if_neg (by have := X.F.nb; omega)] at this
        exact this) F (fun j y hy => X.chc j y (hsub j y hy)) fun h hh j hj => (X.act h hh).2 j (hsub j _ hj)
      have hact : ∀ h, A.stF h ≠ 0 → opB h ≠ b := fun h hh e => (X.act h hh).2 k (by rw [e]; exact hmem)
      have hnin : ∀ j, b ∉ upd S.ch k l j := fun j hj => by
        unfold upd at hj; split at hj
        · have := X.F.nd k; rw [s3] at this; exact (List.nodup_cons.1 this).1 hj
        · rename_i e; exact e (X.F.dj j k b hj hmem)
      have lst := I.lst
      refine ⟨_, rfl, Y, ⟨?_, fun _ _ => rfl, fun c oc _ => ⟨oc.1, fun j hj => oc.2.1 j (hsub j c hj), oc.2.2⟩, fun _ _ => rfl, rfl, by show (A.raw.set _ _).length = _; rw [List.length_set], fun i hi => ?_, by show A.uses ≤ A.uses + 1; omega⟩, rfl, fun _ => ⟨I.pl, I.who, I.cls, ⟨by show 0 ≤ x.lst + 1; omega, by show x.lst + 1 ≤ w; omega⟩, .inr (.inr (.inr rfl)), fun h => (by cases h), fun h => (by cases h), fun _ => ⟨⟨by show S.cl b ≠ -1; omega, hnin, hact⟩, by show S.cl b = x.cls; omega⟩, I.h0⟩, rfl, rfl, fun _ => .inr ⟨k, hmem⟩, rfl, fun h => h, .inl ⟨I.h0, fun _ => rfl, rfl⟩⟩
      · rw [m0 (by omega)]; exact fe
      · have := rawF_set1 (A := A.later 1) (i := k) (j := i) (v := nextF (A.rawF k) (A.rawF (4 * w + b / 8))) (X.F.hdOk k0 k1)
        rw [if_neg (by omega)] at this
        exact this
  · have stp : x.step A = ({ x with base := A.rawF x.pl.carved, what := if A.rawF x.pl.carved > w64 (A.words.length - sizeF x.cls) then 4 else 2 }, A.touchR x.pl.carved) := by unfold Al.step; rw [if_neg (by omega), if_pos h]
    rw [stp, I.pl, X.cvr, X.wl, w64_in (x := m - sizeF x.cls) (by omega) (by omega), touchR_yes (show A.rawOk p.carved from ⟨by omega, X.rl⟩), tick_uses us (by omega)]
    by_cases c : S.cv > m - sizeF x.cls
    · rw [if_pos c]
      exact ⟨S, rfl, X1, E1 _, rfl, fun h => (h rfl).elim, rfl, rfl, fun h => (by cases h), rfl, fun h => h, .inl ⟨I.h0, fun _ => rfl, rfl⟩⟩
    · rw [if_neg c]
      exact ⟨S, rfl, X1, E1 _, rfl, fun _ => ⟨rfl, I.who, I.cls, I.lst, .inr (.inr (.inl rfl)), fun h => (by cases h), fun _ => ⟨cvb.1, by show S.cv + sizeF x.cls ≤ m; omega⟩, fun h => (by cases h), I.h0⟩, rfl, rfl, fun h => (by cases h), rfl, fun h => h, .inl ⟨I.h0, fun _ => rfl, rfl⟩⟩
  · obtain ⟨b0, b1⟩ := I.swaps h
    have stp : x.step A = ({ x with what := if A.swapRb x.pl.carved x.base then 3 else 1 }, A.swapR x.pl.carved x.base (w64 (x.base + sizeF x.cls))) := by unfold Al.step; rw [if_neg (by omega), if_neg (by omega), if_pos h]
    have okc : A.rawOk p.carved := ⟨by omega, X.rl⟩
    have tk : A.tick = A.later 1 := tick_uses us (by omega)
    rw [stp, I.pl, w64_in (x := x.base + sizeF x.cls) (by omega) (by omega)]
    by_cases c : A.rawF p.carved = x.base
    · have sw : A.swapRb p.carved x.base = true := decide_eq_true ⟨okc, by rw [getD_rawF okc]; exact c⟩
      have sa : A.swapR p.carved x.base (x.base + sizeF x.cls) = (A.later 1).setR p.carved.toNat (S.cv + sizeF x.cls) := by
        unfold Ar.swapR; rw [if_pos okc, if_pos (by rw [getD_rawF okc]; exact c), tk, ← c, X.cvr]
      rw [sw, sa, if_pos rfl]
      have ec : x.base = S.cv := by rw [← c]; exact X.cvr
      have Y := X.carve (by omega) I.cls.1 I.cls.2 (by omega)
      have hcl : S.cl S.cv = -1 := by
        by_cases h : S.cl S.cv = -1
        · exact h
        · have := X.blk _ h; have := sz_pos this.1 this.2.1; omega
      have hr : ∀ i, ((A.later 1).setR p.carved.toNat (S.cv + sizeF x.cls)).rawF i = if i = p.carved then S.cv + sizeF x.cls else A.rawF i := fun i => rawF_set1 (A := A.later 1) okc
      have nin : ∀ j, S.cv ∉ S.ch j := fun j hj => by
        have := X.chc j _ hj
        have := X.F.rg j (by intro e; rw [e] at hj; cases hj); omega
      have nac : ∀ h, A.stF h ≠ 0 → opB h ≠ S.cv := fun h hh e => by
        have := (X.act h hh).1
        rw [e, hcl] at this
        have := (opC_nat h).1; omega
      refine ⟨_, rfl, Y, ⟨?_, fun d hd => ?_, fun d od _ => ⟨?_, od.2.1, od.2.2⟩, fun _ _ => rfl, rfl, by show (A.raw.set _ _).length = _; rw [List.length_set], fun i hi => by rw [hr, if_neg (by omega)], by show A.uses ≤ A.uses + 1; omega⟩, rfl, fun _ => ⟨rfl, I.who, I.cls, I.lst, .inr (.inr (.inr rfl)), fun h => (by cases h), fun h => (by cases h), fun _ => ⟨⟨?_, ?_, ?_⟩, ?_⟩, I.h0⟩, rfl, rfl, fun _ => .inl ?_, rfl, fun h => h, .inl ⟨I.h0, fun _ => rfl, rfl⟩⟩
      · exact FEv.same (fun i i0 i1 => by rw [hr, if_neg (by omega)]) (by omega) (by omega)
      · show updI S.cl S.cv x.cls d = _
        unfold updI; rw [if_neg (fun e => hd (by rw [e]; exact hcl))]
      · show updI S.cl S.cv x.cls d ≠ -1
        unfold updI; rw [if_neg (fun e => od.1 (by rw [e]; exact hcl))]; exact od.1
      · show updI S.cl S.cv x.cls x.base ≠ -1
        rw [ec]; unfold updI; rw [if_pos rfl]; have := I.cls; omega
      · show ∀ j, x.base ∉ S.ch j
        rw [ec]; exact nin
      · show ∀ h, A.stF h ≠ 0 → opB h ≠ x.base
        rw [ec]; exact nac
      · show updI S.cl S.cv x.cls x.base = _
        rw [ec]; unfold updI; rw [if_pos rfl]
      · show S.cl x.base = -1
        rw [ec]; exact hcl
    · have sw : A.swapRb p.carved x.base = false := decide_eq_false fun e => c (by rw [← getD_rawF okc]; exact e.2)
      have sa : A.swapR p.carved x.base (x.base + sizeF x.cls) = A.later 1 := by
        unfold Ar.swapR; rw [if_pos okc, if_neg (by rw [getD_rawF okc]; exact c), tk]
      rw [sw, sa, if_neg (by simp)]
      exact ⟨S, rfl, X1, E1 _, rfl, fun _ => ⟨rfl, I.who, I.cls, I.lst, .inr (.inl rfl), fun h => (by cases h), fun h => (by cases h), fun h => (by cases h), I.h0⟩, rfl, rfl, fun h => (by cases h), rfl, fun h => h, .inl ⟨I.h0, fun _ => rfl, rfl⟩⟩
  · obtain ⟨o, oc⟩ := I.bears h
    have hx0 := I.h0
    have lst := I.lst
    have hc1 : x.cls ≠ -1 := by have := I.cls; omega
    obtain ⟨v1, ⟨v2, v3, v4, v5⟩, bo, Y, yst, ynL⟩ := X.bear hwf (by omega) oc hc1 o.2.1 o.2.2
    have ipl := I.pl
    obtain ⟨xpl, xwork, xcls, xlst, xwhat, xbase, xh, xpo⟩ := x
    simp only at h hx0 ipl oc hc1 v1 v2 v3 v4 v5 bo Y yst ynL lst o
    subst h; subst hx0; subst ipl
    have r1 := bear_last X (by omega) (who := xwork) (j := xlst) (y := xpo) ⟨lst.1, by omega⟩ oc hc1 bo
    have stp : Al.step ⟨xpl, xwork, xcls, xlst, 3, xbase, 0, xpo⟩ A = _ := runs_one r1
    rw [stp]
    have gb := X.gnb xbase
    have hne : packF xbase (S.gn xbase + 1) xcls ≠ 0 := fun e => by
      rw [e] at v3
      have : opG 0 = 0 := by decide
      omega
    have off : Off xpl.carved 0 ((A.later 1).setR (xpl.gens + xbase / 8).toNat (S.gn xbase + 1)) (((A.later 1).setR (xpl.gens + xbase / 8).toNat (S.gn xbase + 1)).bornF (packF xbase (S.gn xbase + 1) xcls)) :=
      Off.bornF (setR_wf (later_wf hwf 1) _ _) X.fr bo.2.1
    have blk := X.blk xbase (by rw [oc]; exact hc1)
    have szb := sz_pos blk.1 blk.2.1
    have okg : (A.later 1).rawOk (xpl.gens + xbase / 8) := ⟨by omega, by have := X.rl; show _ < (A.raw.length : Int); omega⟩
    have hr : ∀ i, ((A.later 1).setR (xpl.gens + xbase / 8).toNat (S.gn xbase + 1)).rawF i = if i = xpl.gens + xbase / 8 then S.gn xbase + 1 else A.rawF i := fun i => rawF_set1 okg
    have rb : ∀ i, (((A.later 1).setR (xpl.gens + xbase / 8).toNat (S.gn xbase + 1)).bornF (packF xbase (S.gn xbase + 1) xcls)).rawF i = if i = xpl.gens + xbase / 8 then S.gn xbase + 1 else A.rawF i := fun i => by
      rw [rawF_congr (bornF_raw _ _) i, hr]
    have hs0 : A.stF (packF xbase (S.gn xbase + 1) xcls) = 0 := by
      by_cases e : A.stF (packF xbase (S.gn xbase + 1) xcls) = 0
      · exact e
      · exact (o.2.2 _ e v2).elim
    refine ⟨_, by rw [off.wd]; rfl, Y, ⟨?_, fun _ _ => rfl, fun d od hd => ⟨od.1, od.2.1, fun h hh => ?_⟩, fun h hh => ?_, ?_, ?_, fun i hi => ?_, ?_⟩, ?_, fun h => (h rfl).elim, rfl, rfl, fun h => (by cases h), ?_, fun h => ?_, .inr ⟨rfl, rfl, hne, v2, v4, v5, hs0, yst, ynL⟩⟩
    · exact FEv.same (fun i i0 i1 => by rw [rb, if_neg (by omega)]) (by omega) (by omega)
    · rw [yst] at hh
      split at hh
      · rename_i e; rw [e, v2]
        intro e2; exact hd (by show d = if (3 : Int) = 3 then xbase else -1; rw [if_pos rfl]; exact e2.symm)
      · exact od.2.2 h hh
    · rw [yst, if_neg]
      intro e
      rw [e, v2] at hh
      exact hh (by show xbase = if (3 : Int) = 3 then xbase else -1; rw [if_pos rfl])
    · rw [off.fa]; rfl
    · rw [off.rl]; show (A.raw.set _ _).length = _; rw [List.length_set]
    · rw [rb, if_neg (by omega)]
    · rw [off.us]; show A.uses ≤ A.uses + 1 + 0; omega
    · rw [off.us]; show A.uses + 1 + 0 = _; omega
    · exact (bornF_counts _ (setR_wf (later_wf hwf 1) _ _) _).2.2.2
    · exact bornF_cc (setR_wf (later_wf hwf 1) _ _) bo.2.1 h

/-- A free under way. -/
structure FeI (p : Pl) (w m who : Int) (x : Fe) (A : Ar) (S : Sg) : Prop where
  st : A.stF x.h = 2
  nd : x.done = false
  pu : PuI p w ((m + 7) / 8) (4 * who + opC x.h) (opB x.h) x.pu A

theorem FeI.new (X : SL A p w m S) {who h : Int} (wh : 0 ≤ who ∧ who < w) (hs : A.stF h = 2) : FeI p w m who (newFe p who h) A S := by
  obtain ⟨p1, p2, p3, p4, p5⟩ := X.places
  have wb := X.wb
  have mb := X.mb
  have hC := opC_nat h
  obtain ⟨a1, a2⟩ := X.act h (by rw [hs]; decide)
  obtain ⟨b1, b2, b3, b4, b5⟩ := X.blk (opB h) (by omega)
  have sz := sz_pos b1 b2
  have cvb := X.cvb
  have e := headF_eq (p := p) (w := who) (c := opC h) p1 ⟨wh.1, by omega⟩ ⟨by omega, by omega⟩
  exact ⟨hs, rfl, PuI.new e ⟨b3, b4, by show opB h / 8 < (m + 7) / 8; omega⟩⟩
theorem FeI.keep {who : Int} {x : Fe} (I : FeI p w m who x A S) {mine : Int} (E : Ev p w m A S B S' mine) (hm : opB x.h ≠ mine) : FeI p w m who x B S' :=
  ⟨by rw [E.st _ hm]; exact I.st, I.nd, I.pu.keep hm E.fe⟩

structure FeS (p : Pl) (w m who : Int) (x : Fe) (A : Ar) (S : Sg) (y : Fe) (B : Ar) (S' : Sg) : Prop where
  wd : B.words = A.words
  sl : SL B p w m S'
  ev : Ev p w m A S B S' (opB x.h)
  us : B.uses = A.uses + 1
  h : y.h = x.h
  nL : B.nL = A.nL
  cc : A.nC = A.carved.count true → B.nC = B.carved.count true
  res : (y.done = false ∧ FeI p w m who y B S' ∧ (∀ k, B.stF k = A.stF k) ∧ B.nR = A.nR) ∨ (y.done = true ∧ (∀ k, B.stF k = if k = x.h then 0 else A.stF k) ∧ B.nR = A.nR - sizeF (opC x.h))

theorem diedF_parts (A : Ar) (h : Int) : (A.diedF h).raw = A.raw ∧ (A.diedF h).words = A.words ∧ (A.diedF h).fault = A.fault ∧ (A.diedF h).uses = A.uses ∧ (A.diedF h).nC = A.nC ∧ (A.diedF h).carved = A.carved := by
  unfold Ar.diedF Ar.turnF; split <;> exact ⟨rfl, rfl, rfl, rfl, rfl, rfl⟩
theorem died_raw (A : Ar) (r : List Int) (h : Int) : ({ A with raw := r } : Ar).diedF h = { A.diedF h with raw := r } := by
  have e : ({ A with raw := r } : Ar).stF h = A.stF h := stF_slots rfl h
  unfold Ar.diedF Ar.turnF Ar.turnN
  rw [e]
  by_cases hs : A.stF h = 2
  · simp only [if_pos hs]; rfl
  · simp only [if_neg hs]; rfl

theorem FeI.step {who : Int} {x : Fe} (I : FeI p w m who x A S) (X : SL A p w m S) (hwf : A.wf) (hu : A.uses ≤ 1000000) (wh : 0 ≤ who ∧ who < w) : ∃ S', FeS p w m who x A S (x.step A).1 (x.step A).2 S' := by
  obtain ⟨p1, p2, p3, p4, p5⟩ := X.places
  have wb := X.wb
  have mb := X.mb
  have us := X.F.us
  have hC := opC_nat x.h
  obtain ⟨a1, a2⟩ := X.act x.h (by rw [I.st]; decide)
  have szh := sz_pos (c := opC x.h) (by omega) (by omega)
  have X1 := X.later (n := 1) (by omega)
  have k0 : 0 ≤ 4 * who + opC x.h := by omega
  have k1 : 4 * who + opC x.h < 4 * w := by omega
  rcases I.pu.step X.F (by omega) k0 k1 a2 with ⟨s1, s2, s3, s4, s5⟩ | ⟨s1, s3, s4, s5⟩
  · have stp : x.step A = ({ x with pu := x.pu.stepM A }, x.pu.stepA A) := by unfold Fe.step; rw [if_neg (by rw [I.nd]; simp), if_neg (by rw [s1]; simp)]
    rw [stp]
    obtain ⟨r, er, hl⟩ := s5.eq
    have up := s5.up
    dsimp only
    rw [er] at s2 s3 s4 up ⊢
    have Y := X1.ofRaw (r := r) (ch' := S.ch) hl up s3 X.chc fun h hh => (X.act h hh).2
    exact ⟨_, rfl, Y, ⟨s4, fun _ _ => rfl, fun _ h _ => h, fun _ _ => rfl, rfl, hl, fun i hi => up i (by omega), by show A.uses ≤ A.uses + 1; omega⟩, rfl, rfl, rfl, fun h => h, .inl ⟨I.nd, ⟨I.st, I.nd, s2⟩, fun _ => rfl, rfl⟩⟩
  · have stp : x.step A = ({ x with pu := x.pu.stepM A, done := true }, (x.pu.stepA A).diedF x.h) := by unfold Fe.step; rw [if_neg (by rw [I.nd]; simp), if_pos s1]
    rw [stp]
    obtain ⟨r, er, hl⟩ := s5.eq
    have up := s5.up
    dsimp only
    rw [er] at s3 s4 up ⊢
    have cnb := X.cnb
    obtain ⟨D, dst, dL, dR⟩ := X1.die (later_wf hwf 1) (by show A.uses + 1 ≤ _; omega) (h := x.h) I.st (by show -(64 * (A.uses + 1 + 1)) ≤ A.nR - _; omega)
    have parts := diedF_parts (A.later 1) x.h
    obtain ⟨q1, q2, q3, q4, q5, q6⟩ := parts
    have q1 : ((A.later 1).diedF x.h).raw = A.raw := q1
    have q2 : ((A.later 1).diedF x.h).words = A.words := q2
    have q3 : ((A.later 1).diedF x.h).fault = A.fault := q3
    have q4 : ((A.later 1).diedF x.h).uses = A.uses + 1 := q4
    have q5 : ((A.later 1).diedF x.h).nC = A.nC := q5
    have q6 : ((A.later 1).diedF x.h).carved = A.carved := q6
    have eD : ({ A with raw := r, uses := A.uses + 1 } : Ar).diedF x.h = { (A.later 1).diedF x.h with raw := r } := died_raw (A.later 1) r x.h
    rw [eD]
    clear eD
    have dst : ∀ k, ((A.later 1).diedF x.h).stF k = if k = x.h then 0 else A.stF k := dst
    have dL : ((A.later 1).diedF x.h).nL = A.nL := dL
    have dR : ((A.later 1).diedF x.h).nR = A.nR - sizeF (opC x.h) := dR
    generalize (A.later 1).diedF x.h = D0 at *
    have F2 : FL { D0 with raw := r } p w ((m + 7) / 8) (upd S.ch (4 * who + opC x.h) (opB x.h :: S.ch (4 * who + opC x.h))) :=
      s3.same (fun i => rawF_congr rfl i) rfl (by show 0 ≤ (D0).uses; rw [q4]; omega) fun k h0 h1 => by
        show _ ≤ (D0).uses
        rw [q4]
        exact (s3.hd k h0 h1).2
    have rr : ∀ i, ({ D0 with raw := r } : Ar).rawF i = ({ A with raw := r, uses := A.uses + 1 } : Ar).rawF i := fun i => rawF_congr rfl i
    have noact : ∀ h, (D0).stF h ≠ 0 → opB h ≠ opB x.h := fun h hh e => by
      rw [dst] at hh
      split at hh
      · exact hh rfl
      · rename_i hn
        exact hh (stF_one (A := A) (h := x.h) (k := h) (by rw [I.st]; decide) e hn)
    have Y := D.ofRaw (r := r) (by rw [q1]; exact hl) (fun i hi => by
      rw [rr, up i hi]; exact (rawF_congr q1 i).symm) F2 (fun k b hb => by
        unfold upd at hb; split at hb
        · rename_i e
          rcases List.mem_cons.1 hb with rfl | hb
          · rw [a1, e]; omega
          · rw [e]; exact X.chc _ b hb
        · exact X.chc k b hb) fun h hh k hk => by
        have hh' : A.stF h ≠ 0 := fun e => hh (by rw [dst]; split; rfl; exact e)
        unfold upd at hk; split at hk
        · rcases List.mem_cons.1 hk with e | hk
          · exact noact h hh e
          · exact (X.act h hh').2 _ hk
        · exact (X.act h hh').2 _ hk
    have yst : ∀ k, ({ D0 with raw := r } : Ar).stF k = if k = x.h then 0 else A.stF k := fun k => by
      rw [show ({ D0 with raw := r } : Ar).stF k = (D0).stF k from stF_slots rfl k, dst]
    refine ⟨_, q2, Y, ⟨⟨fun k h0 h1 => by rw [rr]; exact s4.hd k h0 h1, fun b h0 h1 h2 h3 => by rw [rr]; exact s4.lk b h0 h1 h2 h3⟩, fun _ _ => rfl, fun b ob hb => ⟨ob.1, fun k hk => ?_, fun h hh => ?_⟩, fun h hh => ?_, q3, hl, fun i hi => by rw [rr]; exact up i (by omega), by show A.uses ≤ (D0).uses; rw [q4]; omega⟩, q4, rfl, dL, fun h => ?_, .inr ⟨rfl, yst, dR⟩⟩
    · have hk : b ∈ upd S.ch (4 * who + opC x.h) (opB x.h :: S.ch (4 * who + opC x.h)) k := hk
      unfold upd at hk; split at hk
      · rcases List.mem_cons.1 hk with e | hk
        · exact hb e
        · exact ob.2.1 _ hk
      · exact ob.2.1 _ hk
    · rw [yst] at hh
      split at hh
      · exact (hh rfl).elim
      · exact ob.2.2 h hh
    · rw [yst, if_neg (fun e => hh (by rw [e]))]
    · show D0.nC = D0.carved.count true
      rw [q5, q6]; exact h
end
end Go.Proofs.Ytfphgiipekkgdaa

set_option linter.unusedVariables false
set_option linter.unusedSimpArgs false
set_option maxRecDepth 20000
namespace Go.Proofs.Ytfphgiipekkgdaa
open Go Go.Fw

section
variable {A B : Ar} {p : Pl} {w m : Int} {S S' : Sg}

/-- Nothing of the slab was turned. -/
structure Qu (p : Pl) (w m : Int) (A : Ar) (S : Sg) (B : Ar) : Prop where
  sl : SL B p w m S
  ev : Ev p w m A S B S (-1)
  st : ∀ h, B.stF h = A.stF h
  nL : B.nL = A.nL
  nR : B.nR = A.nR
  cc : A.nC = A.carved.count true → B.nC = B.carved.count true

theorem Qu.later (X : SL A p w m S) {n : Int} (hn : 0 ≤ n) : Qu p w m A S (A.later n) := ⟨X.later hn, Ev.later X hn, fun _ => rfl, rfl, rfl, fun h => h⟩

/-- A slot's word. -/
theorem Qu.store (X : SL A p w m S) (hu : A.uses ≤ 1000000000) {h off v : Int} (hi : A.inOk h off) : Qu p w m A S (A.storeF h off v) ∧ (A.storeF h off v).uses = A.uses + 1 := by
  have us := X.F.us
  have e : A.storeF h off v = (A.later 1).setW (pos h off) v := by rw [storeF_yes hi, tick_uses us (by omega)]
  rw [e]
  have st : ∀ k, ((A.later 1).setW (pos h off) v).stF k = A.stF k := fun k => stF_slots rfl k
  have X2 : SL ((A.later 1).setW (pos h off) v) p w m S := X.congr (fun _ _ _ => rfl) rfl (by show A.uses ≤ A.uses + 1; omega) (by show (A.words.set _ _).length = _; rw [List.length_set]) st rfl rfl rfl rfl rfl rfl rfl rfl
  exact ⟨⟨X2, ⟨FEv.same (fun _ _ _ => rfl) X.F.wb.1 X.F.nb.1, fun _ _ => rfl, fun b o _ => ⟨o.1, o.2.1, fun k hk => o.2.2 k (by rw [← st k]; exact hk)⟩, fun k _ => st k, rfl, rfl, fun _ _ => rfl, by show A.uses ≤ A.uses + 1; omega⟩, st, rfl, rfl, fun h => h⟩, rfl⟩

/-- A raw word behind the slab's. -/
theorem Qu.storeR (X : SL A p w m S) (hu : A.uses ≤ 1000000000) {i v : Int} (h : p.carved < i ∧ i < A.raw.length) :
    SL (A.storeR i v) p w m S ∧ FEv w ((m + 7) / 8) A (A.storeR i v) (-1) ∧ (∀ h, (A.storeR i v).stF h = A.stF h) ∧ (A.storeR i v).nL = A.nL ∧ (A.storeR i v).nR = A.nR ∧ (A.storeR i v).words = A.words ∧ (A.storeR i v).fault = A.fault ∧ (A.storeR i v).uses = A.uses + 1 ∧ (A.storeR i v).raw.length = A.raw.length ∧ ∀ j, (A.storeR i v).rawF j = if j = i then v else A.rawF j := by
  obtain ⟨p1, p2, p3, p4, p5⟩ := X.places
  have wb := X.wb
  have mb := X.mb
  have us := X.F.us
  have ok : A.rawOk i := ⟨by omega, h.2⟩
  have e : A.storeR i v = (A.later 1).setR i.toNat v := by
    unfold Ar.storeR
    rw [if_pos ok, tick_uses us (by omega)]
  rw [e]
  have rf : ∀ j, ((A.later 1).setR i.toNat v).rawF j = if j = i then v else A.rawF j := fun j => rawF_set1 (A := A.later 1) ok
  refine ⟨X.congr (fun j h0 h1 => by rw [rf, if_neg (by omega)]) (by show (A.raw.set _ _).length = _; rw [List.length_set]) (by show A.uses ≤ A.uses + 1; omega) rfl (fun h => stF_slots rfl h) rfl rfl rfl rfl rfl rfl rfl rfl,
    FEv.same (fun j j0 j1 => by rw [rf, if_neg (by omega)]) (by omega) (by omega), fun h => stF_slots rfl h, rfl, rfl, rfl, rfl, rfl, by show (A.raw.set _ _).length = _; rw [List.length_set], rf⟩

/-- One is retired. -/
theorem Ev.retire (X : SL A p w m S) (hwf : A.wf) (hu : A.uses ≤ 1000000000) {h : Int} (hs : A.stF h = 1) (cn : -(64 * (A.uses + 1)) ≤ A.nL - sizeF (opC h) ∧ A.nR + sizeF (opC h) ≤ 64 * (A.uses + 1)) :
    SL (A.retireF h) p w m S ∧ (∀ k, (A.retireF h).stF k = if k = h then 2 else A.stF k) ∧ (A.retireF h).nL = A.nL - sizeF (opC h) ∧ (A.retireF h).nR = A.nR + sizeF (opC h) ∧ Ev p w m A S (A.retireF h) S (opB h) ∧
      (A.nC = A.carved.count true → (A.retireF h).nC = (A.retireF h).carved.count true) ∧ (A.retireF h).uses = A.uses ∧ (A.retireF h).words = A.words ∧ (A.retireF h).fault = A.fault := by
  obtain ⟨Y, yst, yL, yR⟩ := X.retire hu hs cn
  have parts : (A.retireF h).raw = A.raw ∧ (A.retireF h).words = A.words ∧ (A.retireF h).fault = A.fault ∧ (A.retireF h).uses = A.uses ∧ (A.retireF h).nC = A.nC ∧ (A.retireF h).carved = A.carved := by
    unfold Ar.retireF Ar.turnF; split <;> exact ⟨rfl, rfl, rfl, rfl, rfl, rfl⟩
  obtain ⟨q1, q2, q3, q4, q5, q6⟩ := parts
  refine ⟨Y, yst, yL, yR, ⟨FEv.same (fun i _ _ => rawF_congr q1 i) X.F.wb.1 X.F.nb.1, fun _ _ => rfl, fun b o hb => ⟨o.1, o.2.1, fun k hk => ?_⟩, fun k hk => ?_, q3, by rw [q1], fun i _ => rawF_congr q1 i, by rw [q4]; exact Int.le_refl _⟩, fun h => by rw [q5, q6]; exact h, q4, q2, q3⟩
  · rw [yst] at hk
    split at hk
    · rename_i e; rw [e]; exact fun e2 => hb e2.symm
    · exact o.2.2 k hk
  · rw [yst, if_neg (fun e => hk (by rw [e]))]
end
end Go.Proofs.Ytfphgiipekkgdaa

set_option linter.unusedVariables false
set_option maxRecDepth 20000
namespace Go.Proofs.Ytfphgiipekkgdaa
open Go Go.Fw

theorem opS_nilapp {sT u : TypeId} (x : Value) : opS Try.prog (.call { callee := .builtin .append, args := #[(.const (.slice none 0 0)), (.tmp 0)], argTypes := #[sT, sT] }) u [x] =
    opS Try.prog (.call { callee := .builtin .append, args := #[(.tmp 0), (.tmp 1)], argTypes := #[sT, sT] }) u [.slice none 0 0, x] := by
  kernel_rfl

def loSl (s : Sl) (n : Nat) : Sl := ⟨if s.cap = n then s.a else s.a.map (·.add n), s.len - n, s.cap - n⟩

section
variable {L : Hands} {R : Value → Heap → Prop} {A : Ar} {I : List Nat} {l : Bl} {G : Heap}

theorem Apd.none {tl tl' : Bl} {s' : Sl} (h : Apd tl sl0 tl' s') : ∀ p, p ∈ tl → p ∈ tl' := fun p hp => h.keep p.1 p.2 hp fun a ha => by cases ha

end
end Go.Proofs.Ytfphgiipekkgdaa

set_option linter.unusedVariables false
set_option maxRecDepth 20000
namespace Go.Proofs.Ytfphgiipekkgdaa
open Go Go.Fw

/-- A machine whose rows lie among other blocks: rep tells how. -/
structure MchR (M J : Type) where
  f : FuncId
  addr : J → Nat
  bl : M → J → Bl
  rep : M → J → Prop
  inv : M → Ar → Prop
  step : M → Ar → M × Ar
  fin : M → Bool

def MchR.ok {M J : Type} (X : MchR M J) : Prop := ∀ (I : List Nat) (A : Ar) (G : Heap) (m : M) (j : J), Aw I A → Ok I G (keys (X.bl m j)) → X.rep m j → X.inv m A →
  SpecF Try.prog X.f #[.pointer (some ⟨X.addr j, 0, none⟩), .pointer (aI I)] (own A (X.bl m j) G) fun v K => ∃ j', v = .bool (X.fin (X.step m A).1) ∧ K = own (X.step m A).2 (X.bl (X.step m A).1 j') G ∧ X.addr j' = X.addr j ∧
    Ok I G (keys (X.bl (X.step m A).1 j')) ∧ X.rep (X.step m A).1 j' ∧ Aw I (X.step m A).2

/-- Alone, to the end. -/
inductive MchR.Runs {M J : Type} (X : MchR M J) : Nat → M → Ar → M → Ar → Prop
  | one {x : M} {D : Ar} {x1 : M} {D1 : Ar} : X.inv x D → X.step x D = (x1, D1) → D1.uses ≤ w64 (D.uses + 1) → X.fin x1 = true → Runs X 1 x D x1 D1
  | more {n : Nat} {x : M} {D : Ar} {x1 : M} {D1 : Ar} {x' : M} {D' : Ar} : X.inv x D → X.step x D = (x1, D1) → D1.uses ≤ w64 (D.uses + 1) → X.fin x1 = false → Runs X n x1 D1 x' D' → Runs X (n + 1) x D x' D'

def MchR.inv' {M J : Type} (X : MchR M J) (t : TypeId) : Prop := ∀ (q : Nat) (p : Option Addr), opS Try.prog (.call { callee := .invoke (.tmp 0) "Step", args := #[(.tmp 1)], argTypes := #[ty_p_arena_Arena] }) ty_bool [(.iface t (.pointer (some ⟨q, 0, none⟩))), (.pointer p)] =
    .pure (.enter X.f [.pointer (some ⟨q, 0, none⟩), .pointer p].toArray)

/-- Steps that do not end. -/
inductive MchR.Path {M J : Type} (X : MchR M J) : Nat → M → Ar → M → Ar → Prop
  | nil {x : M} {D : Ar} : Path X 0 x D x D
  | cons {n : Nat} {x : M} {D : Ar} {x1 : M} {D1 : Ar} {x' : M} {D' : Ar} : X.inv x D → X.step x D = (x1, D1) → D1.uses ≤ w64 (D.uses + 1) → X.fin x1 = false → Path X n x1 D1 x' D' → Path X (n + 1) x D x' D'
theorem MchR.Path.trans {M J : Type} {X : MchR M J} {k n : Nat} {m m1 m2 : M} {A A1 A2 : Ar} (h : X.Path k m A m1 A1) (g : X.Path n m1 A1 m2 A2) : X.Path (k + n) m A m2 A2 := by
  induction h with
  | nil => rw [Nat.zero_add]; exact g
  | @cons k m A m1 A1 m' A' h1 h2 h3 h4 _ ih =>
    have := ih g
    rw [show k + 1 + n = k + n + 1 by omega]
    exact .cons h1 h2 h3 h4 this
theorem MchR.Path.run {M J : Type} {X : MchR M J} {k n : Nat} {m m1 m2 : M} {A A1 A2 : Ar} (h : X.Path k m A m1 A1) (g : X.Runs n m1 A1 m2 A2) : X.Runs (k + n) m A m2 A2 := by
  induction h with
  | nil => rw [Nat.zero_add]; exact g
  | @cons k m A m1 A1 m' A' h1 h2 h3 h4 _ ih =>
    have := ih g
    rw [show k + 1 + n = k + n + 1 by omega]
    exact .more h1 h2 h3 h4 this

/-- A slice that begins somewhere in its block. -/
def SlAt {α : Type} (l : Bl) (e : TypeId) (E : Enc α) (s : Sl) (xs : List α) : Prop :=
  (s = ⟨none, 0, 0⟩ ∧ xs = []) ∨ ∃ (b : Nat) (pre rest : List Value) (r : Nat), s = ⟨some ⟨b, pre.length, none⟩, xs.length, xs.length + r⟩ ∧ r * E.sz ≤ rest.length ∧ (b, oc e (pre ++ E.all xs ++ rest)) ∈ l
theorem SlOf.at' {α : Type} {l : Bl} {e : TypeId} {E : Enc α} {s : Sl} {xs : List α} (h : SlOf l e E s xs) : SlAt l e E s xs := by
  rcases h with h | ⟨b, rest, r, h1, h2, h3⟩
  · exact .inl h
  · exact .inr ⟨b, [], rest, r, h1, by omega, h3⟩
theorem SlAt.len {α : Type} {l : Bl} {e : TypeId} {E : Enc α} {s : Sl} {xs : List α} (h : SlAt l e E s xs) : s.len = xs.length := by
  rcases h with ⟨rfl, rfl⟩ | ⟨b, pre, rest, r, rfl, _⟩ <;> rfl
theorem SlAt.mono {α : Type} {l l' : Bl} {e : TypeId} {E : Enc α} {s : Sl} {xs : List α} (h : SlAt l e E s xs) (hm : ∀ p, p ∈ l → p ∈ l') : SlAt l' e E s xs := by
  rcases h with h | ⟨b, pre, rest, r, h1, h2, h3⟩
  · exact .inl h
  · exact .inr ⟨b, pre, rest, r, h1, h2, hm _ h3⟩

/-- Pointers to blocks. -/
def eP : Enc Nat := ⟨1, fun q => [.pointer (some ⟨q, 0, none⟩)], fun _ => rfl, fun x v h => by simp at h; subst h; rfl⟩
/-- The rest of a slice of pointers. -/
theorem SlAt.tail {l : Bl} {e : TypeId} {s : Sl} {x : Nat} {xs : List Nat} (h : SlAt l e eP s (x :: xs)) : SlAt l e eP (loSl s 1) xs ∧ (1 : Int) ≤ (s.len : Int) := by
  rcases h with ⟨_, h⟩ | ⟨b, pre, rest, r, rfl, h2, h3⟩
  · cases h
  · refine ⟨?_, by show (1 : Int) ≤ ((xs.length + 1 : Nat) : Int); omega⟩
    unfold loSl
    dsimp only
    by_cases e : (x :: xs).length + r = 1
    · rw [if_pos e]
      have hx : xs = [] := by simp only [List.length_cons] at e; exact List.eq_nil_of_length_eq_zero (by omega)
      have hr : r = 0 := by simp only [List.length_cons] at e; omega
      subst hx; subst hr
      exact .inr ⟨b, pre, eP.all [x] ++ rest, 0, rfl, by omega, by rw [show eP.all ([] : List Nat) = [] from rfl, List.append_nil, ← List.append_assoc]; exact h3⟩
    · rw [if_neg e]
      refine .inr ⟨b, pre ++ [.pointer (some ⟨x, 0, none⟩)], rest, r, ?_, h2, ?_⟩
      · show Sl.mk (some ((Addr.mk b pre.length none).add 1)) _ _ = _
        rw [Addr.add_mk, List.length_append]
        simp only [List.length_cons, List.length_nil, Sl.mk.injEq, true_and]
        omega
      · have : eP.all (x :: xs) = [.pointer (some ⟨x, 0, none⟩)] ++ eP.all xs := rfl
        rw [this] at h3
        simpa using h3
end Go.Proofs.Ytfphgiipekkgdaa

set_option linter.unusedVariables false
set_option maxRecDepth 20000
namespace Go.Proofs.Ytfphgiipekkgdaa
open Go Go.Fw

/-! ### Blocks in another order; appends, rows and maps among them -/

section
variable {L : Hands} {R : Value → Heap → Prop} {A : Ar} {I : List Nat} {l l' : Bl} {G : Heap}

theorem Heap.le_antisymm {H K : Heap} (h : H.le K) (k : K.le H) : H = K := by
  funext b
  cases hb : H b with
  | some o => exact (h b o hb).symm
  | none =>
    cases kb : K b with
    | none => rfl
    | some o => rw [k b o kb] at hb; cases hb

theorem own_perm (ok : Ok I G (keys l)) (h : l.Perm l') : own A l G = own A l' G ∧ Ok I G (keys l') := by
  have hk : (keys l').Perm (keys l) := (h.map Prod.fst).symm
  have ok' : Ok I G (keys l') := ok.sub (hk.nodup_iff.2 ok.nd) fun b hb => hk.subset hb
  exact ⟨Heap.le_antisymm (own_sub ok' ok.nd fun p hp => h.subset hp) (own_sub ok ok'.nd fun p hp => h.symm.subset hp), ok'⟩

theorem own_perm2 (h : l.Perm l') (ok : Ok I G (keys l)) : own A l G = own A l' G ∧ Ok I G (keys l') := own_perm ok h

/-- Append, of a slice among others. -/
theorem w_appM {sT e u : TypeId} {α : Type} {E : Enc α} (hE : ElOk sT e E.sz) {xs ys : List α} {s t : Sl} {k : Sl → Tree} (pre : Bl) {mid post : Bl} (hA : Aw I A) (ok : Ok I G (keys (pre ++ (mid ++ post)))) (hs : SlOf mid e E s xs) (ht : Row (own A (pre ++ (mid ++ post)) G) t.a (E.all ys)) (htl : t.len = ys.length) (hm : xs.length + ys.length ≤ 1048576)
    (h : ∀ s' mid', SlOf mid' e E s' (xs ++ ys) → Ok I G (keys (pre ++ (mid' ++ post))) → wp Try.prog (k s') L (own A (pre ++ (mid' ++ post)) G) R) :
    wp Try.prog (.act (opS Try.prog (.call { callee := .builtin .append, args := #[(.tmp 0), (.tmp 1)], argTypes := #[sT, sT] }) u [(.slice s.a s.len s.cap), (.slice t.a t.len t.cap)]) (.one (.leaf .slice)) k) L (own A (pre ++ (mid ++ post)) G) R := by
  have perm : ∀ m : Bl, (pre ++ (m ++ post)).Perm ((pre ++ post) ++ m) := fun m => by
    rw [List.append_assoc]; exact List.Perm.append_left _ List.perm_append_comm
  obtain ⟨e1, o1⟩ := own_perm (A := A) ok (perm mid)
  rw [e1] at ht ⊢
  refine w_appT hE hA o1 hs ht htl hm fun s' mid' hs' ok' _ => ?_
  obtain ⟨e2, o2⟩ := own_perm (A := A) ok' (perm mid').symm
  rw [e2]
  exact h s' mid' hs' o2

end
theorem perm_by {l l' : Bl} (h : ∀ (c : List (Nat × Obj) → Nat) (d : Nat × Obj → Nat), c [] = 0 → (∀ a l, c (a :: l) = d a + c l) → (∀ a b, c (a ++ b) = c a + c b) → c l = c l') : l.Perm l' := by
  classical
  refine List.perm_iff_count.2 fun a => ?_
  refine h (List.count a) (fun x => List.count a [x]) rfl (fun x l => ?_) fun x y => List.count_append ..
  rw [show x :: l = [x] ++ l from rfl, List.count_append]

end Go.Proofs.Ytfphgiipekkgdaa

set_option linter.unusedVariables false
set_option maxRecDepth 10000
namespace Go.Proofs.Ytfphgiipekkgdaa
open Go Go.Fw
end Go.Proofs.Ytfphgiipekkgdaa

set_option linter.unusedVariables false
set_option maxRecDepth 20000
namespace Go.Proofs.Ytfphgiipekkgdaa
open Go Go.Fw

/-! ### hazard.Scan -/

/-- A scan's state. -/
structure Sc where
  tw : Int
  ta : Int
  pl : Pl
  work : Int
  word : Int
  l : List Int
  seen : List (Int × Bool)
  sorted : Bool
  frees : List Fe
  left : List Int
  ended : Bool

abbrev Tri := Nat × Nat × Nat
structure ScJ where
  q : Nat
  mq : Nat
  ls : Sl
  fs : Sl
  ds : Sl
  fj : List Tri
  tls : Bl
  tfs : Bl
  tds : Bl

def fbl : List Fe → List Tri → Bl
  | x :: xs, j :: js => x.bl j ++ fbl xs js
  | _, _ => []
theorem fbl_snoc {x : Fe} {j : Tri} : ∀ {xs : List Fe} {js : List Tri}, xs.length = js.length → fbl (xs ++ [x]) (js ++ [j]) = fbl xs js ++ x.bl j
  | [], [], _ => by simp [fbl]
  | y :: xs, k :: js, h => by
    have := fbl_snoc (x := x) (j := j) (xs := xs) (js := js) (by simpa using h)
    simp only [List.cons_append, fbl, this, List.append_assoc]
  | [], _ :: _, h => by simp at h
  | _ :: _, [], h => by simp at h

def scC (tw ta : Int) (p : Pl) (work word : Int) (ls : Sl) (mq : Nat) (fs ds : Sl) (ended : Bool) : List Value :=
  [.int .i64 tw, .int .i64 ta, .int .i64 p.work, .int .i64 p.heads, .int .i64 p.links, .int .i64 p.gens, .int .i64 p.carved, .int .i64 work, .int .i64 word, .slice ls.a ls.len ls.cap, .map (some mq), .slice fs.a fs.len fs.cap, .slice ds.a ds.len ds.cap, .bool ended]
def Sc.cells (m : Sc) (j : ScJ) : List Value := scC m.tw m.ta m.pl m.work m.word j.ls j.mq j.fs j.ds m.ended
def Sc.map (m : Sc) (j : ScJ) : Bl := if m.sorted then [] else [(j.mq, mapObj Value.bool m.seen)]
def Sc.bl (m : Sc) (j : ScJ) : Bl := [(j.q, oc ty_hazard_Scan (m.cells j))] ++ (m.map j ++ (fbl m.frees j.fj ++ (j.tls ++ (j.tfs ++ j.tds))))

structure Sc.rep (m : Sc) (j : ScJ) : Prop where
  ls : SlOf j.tls ty_int eI j.ls m.l
  fs : SlAt j.tfs ty_p_slab_Free eP j.fs (j.fj.map (·.1))
  ds : SlOf j.tds ty_int eI j.ds m.left
  fl : m.frees.length = j.fj.length
  un : m.sorted = false → j.fs = ⟨none, 0, 0⟩ ∧ j.ds = ⟨none, 0, 0⟩ ∧ j.tfs = [] ∧ j.tds = []

theorem elF : ElOk ty_s_p_slab_Free ty_p_slab_Free 1 := ⟨⟨_, _, rfl, rfl, rfl, by decide, by decide, rfl, rfl⟩⟩

def inS (seen : List (Int × Bool)) (h : Int) : Bool := (alGet seen h).getD false
def Sc.upto (m : Sc) (n : Nat) : Sc := { m with frees := ((m.l.take n).filter fun h => !inS m.seen h).map (newFe m.pl m.work), left := (m.l.take n).filter (inS m.seen) }
def Sc.sort (m : Sc) : Sc := { m.upto m.l.length with sorted := true, ended := decide ((m.upto m.l.length).frees = []) }

section
variable {L : Hands} {R : Value → Heap → Prop} {A : Ar} {I : List Nat} {G : Heap}

/-- While it sorts. -/
structure Srt (I : List Nat) (G : Heap) (A : Ar) (m : Sc) (q mq : Nat) (ls : Sl) (i : Int) (H : Heap) (j : ScJ) : Prop where
  i0 : 0 ≤ i
  i1 : i ≤ m.l.length
  eH : H = own A ((m.upto i.toNat).bl j) G
  ok : Ok I G (keys ((m.upto i.toNat).bl j))
  eq : j.q = q
  eM : j.mq = mq
  eL : j.ls = ls
  ls : SlOf j.tls ty_int eI j.ls m.l
  fs : SlOf j.tfs ty_p_slab_Free eP j.fs (j.fj.map (·.1))
  ds : SlOf j.tds ty_int eI j.ds (m.upto i.toNat).left
  fl : (m.upto i.toNat).frees.length = j.fj.length

end
end Go.Proofs.Ytfphgiipekkgdaa

set_option linter.unusedVariables false
set_option maxRecDepth 20000
namespace Go.Proofs.Ytfphgiipekkgdaa
open Go Go.Fw

def Sc.word1 (m : Sc) (A : Ar) : Sc := { m with seen := alPut m.seen (A.rawF (w64 (m.ta + m.word))) true, word := m.word + 1 }
def Sc.step (m : Sc) (A : Ar) : Sc × Ar :=
  if m.ended = true then (m, A)
  else if m.word < 2 * m.tw then (if m.word + 1 = 2 * m.tw then (m.word1 A).sort else m.word1 A, A.touchR (w64 (m.ta + m.word)))
  else match m.frees with
    | [] => (m, A)
    | f :: fs => if (f.step A).1.done = true then ({ m with frees := fs, ended := decide (fs = []) }, (f.step A).2) else ({ m with frees := (f.step A).1 :: fs }, (f.step A).2)
structure Sc.inv (m : Sc) (A : Ar) : Prop where
  tw : 1 ≤ m.tw ∧ m.tw ≤ 1000
  wd : 0 ≤ m.word
  ll : m.l.length ≤ 1000
  fr : m.ended = false → (m.word < 2 * m.tw ∧ m.sorted = false ∧ m.frees = [] ∧ m.left = []) ∨ (2 * m.tw ≤ m.word ∧ m.sorted = true ∧ m.frees ≠ [])
def mSc : MchR Sc ScJ where
  f := f_hazard_Scan_Step
  addr := ScJ.q
  bl := Sc.bl
  rep := Sc.rep
  inv := Sc.inv
  step := Sc.step
  fin := fun m => m.ended
theorem opS_lo1 {t u : TypeId} (x : Value) (n : Int) : opS Try.prog (.slice t (.tmp 0) (some (.const (.int .i64 n))) none none) u [x] = opS Try.prog (.slice t (.tmp 0) (some (.tmp 1)) none none) u [x, .int .i64 n] := by kernel_rfl

theorem opS_ix0 {t u : TypeId} (x : Value) (n : Int) : opS Try.prog (.indexAddr t (.tmp 0) (.const (.int .i64 n))) u [x] = opS Try.prog (.indexAddr t (.tmp 0) (.tmp 1)) u [x, .int .i64 n] := by kernel_rfl
theorem rdP0 {L : Hands} {R : Value → Heap → Prop} {A : Ar} {I : List Nat} {l : Bl} {G : Heap} {x : Nat} {xs : List Nat} {s : Sl} {u : TypeId} {k : Option Addr → Tree} (hA : Aw I A) (ok : Ok I G (keys l)) (hs : SlAt l ty_p_slab_Free eP s (x :: xs)) (h : wp Try.prog (k (some ⟨x, 0, none⟩)) L (own A l G) R) :
    wp Try.prog (.look (opS Try.prog (.indexAddr ty_s_p_slab_Free (.tmp 0) (.const (.int .i64 0))) u [(.slice s.a s.len s.cap)]) (.one (.leaf .addr)) fun y => .ld y .ptr k) L (own A l G) R := by
  rw [opS_ix0]
  rcases hs with ⟨_, h⟩ | ⟨b, pre, rest, r, rfl, h2, h3⟩
  · cases h
  · refine w_ixS (e := ty_p_slab_Free) rfl rfl rfl (Int.le_refl 0) (by show (0 : Int) < (((x :: xs).length : Nat) : Int); simp only [List.length_cons]; omega) ?_
    refine w_ldm (x := some ⟨x, 0, none⟩) hA ok rfl h3 ?_ h
    have : (pre ++ eP.all (x :: xs) ++ rest)[pre.length + (0 : Int).toNat]? = some (.pointer (some ⟨x, 0, none⟩)) := by
      rw [List.append_assoc, List.getElem?_append_right (by simp)]
      simp [Enc.all, eP]
    rw [this]; rfl

end Go.Proofs.Ytfphgiipekkgdaa

set_option linter.unusedVariables false
set_option maxRecDepth 20000
namespace Go.Proofs.Ytfphgiipekkgdaa
open Go Go.Fw

def newSc (tw ta : Int) (p : Pl) (work : Int) (xs : List Int) : Sc := ⟨tw, ta, p, work, 0, xs, [], false, [], [], false⟩

section
variable {L : Hands} {R : Value → Heap → Prop} {A : Ar} {I : List Nat} {l : Bl} {G : Heap}

end
end Go.Proofs.Ytfphgiipekkgdaa

set_option linter.unusedVariables false
set_option linter.unusedSimpArgs false
set_option maxRecDepth 20000
namespace Go.Proofs.Ytfphgiipekkgdaa
open Go Go.Fw

/-! ### A scan alone, to its end -/

theorem MchR.Path.step {M J : Type} {X : MchR M J} {n : Nat} {m m1 m' : M} {A A1 A' : Ar} (h1 : X.inv m A) (h2 : X.step m A = (m1, A1)) (h3 : A1.uses ≤ w64 (A.uses + 1)) (h4 : X.fin m1 = false) (h5 : X.Path n m1 A1 m' A') : X.Path (n + 1) m A m' A' := .cons h1 h2 h3 h4 h5

/-- One that sorted, with these to free. -/
structure Sc.base (m : Sc) : Prop where
  tw : 1 ≤ m.tw ∧ m.tw ≤ 1000
  wd : m.word = 2 * m.tw
  ll : m.l.length ≤ 1000
  so : m.sorted = true
abbrev Sc.on (m : Sc) (fs : List Fe) : Sc := { m with frees := fs, ended := decide (fs = []) }

/-- These were freed. -/
structure Swept (A : Ar) (p : Pl) (w m : Int) (S : Sg) (who : Int) (hs : List Int) (A' : Ar) (S' : Sg) : Prop where
  off : Off p.carved (3 * hs.length) A A'
  sl : SL A' p w m S'
  st : ∀ k, A'.stF k = if k ∈ hs then 0 else A.stF k
  nL : A'.nL = A.nL
  nR : A'.nR = A.nR - 8 * hs.length
  ch : S'.ch (4 * who) = (hs.map opB).reverse ++ S.ch (4 * who)
  nc : S'.nc = S.nc

end Go.Proofs.Ytfphgiipekkgdaa

set_option linter.unusedVariables false
set_option linter.unusedSimpArgs false
set_option maxRecDepth 20000
namespace Go.Proofs.Ytfphgiipekkgdaa
open Go Go.Fw

section
variable {A : Ar} {p : Pl} {w m : Int} {S : Sg}

theorem tick_later {A : Ar} {i : Int} (h : A.rawOk i) (h0 : 0 ≤ A.uses) (h1 : A.uses ≤ 1000000000) : A.touchR i = A.later 1 := by
  rw [touchR_yes h]
  unfold Ar.tick Ar.later
  rw [w64_in (by omega) (by omega)]
theorem later_add (A : Ar) (a b : Int) : (A.later a).later b = A.later (a + b) := by unfold Ar.later; dsimp only; rw [Int.add_assoc]

theorem Swept.refl {who : Int} (X : SL A p w m S) (h : A.wf) : Swept A p w m S who [] A S := ⟨.refl h, X, fun k => by rw [if_neg (by simp)], rfl, by simp, by simp, rfl⟩

end
end Go.Proofs.Ytfphgiipekkgdaa

set_option linter.unusedVariables false
set_option linter.unusedSimpArgs false
set_option maxRecDepth 20000
namespace Go.Proofs.Ytfphgiipekkgdaa
open Go Go.Fw

section
variable {A B : Ar} {p : Pl} {w m : Int} {S : Sg} {I : List Nat} {L : Hands} {R : Value → Heap → Prop} {G : Heap} {l : Bl}

/-- A word stored that is no part of the slab. -/
structure OutS (A : Ar) (p : Pl) (w m : Int) (S : Sg) (i v : Int) (B : Ar) : Prop where
  sl : SL B p w m S
  st : ∀ h, B.stF h = A.stF h
  nR : B.nR = A.nR
  nL : B.nL = A.nL
  fa : B.fault = A.fault
  us : B.uses = A.uses + 1
  rl : B.raw.length = A.raw.length
  rf : ∀ j, B.rawF j = if j = i then v else A.rawF j
theorem outS (X : SL A p w m S) {i v : Int} (h : p.carved < i ∧ i < A.raw.length) (hu : A.uses ≤ 1000000000) : OutS A p w m S i v (A.storeR i v) := by
  obtain ⟨p1, p2, p3, p4, p5⟩ := X.places
  have wb := X.wb
  have mb := X.mb
  have us := X.F.us
  have ok : A.rawOk i := ⟨by omega, h.2⟩
  have e : A.storeR i v = (A.later 1).setR i.toNat v := by
    unfold Ar.storeR
    rw [if_pos ok]
    have : A.tick = A.later 1 := by unfold Ar.tick Ar.later; rw [w64_in (by omega) (by omega)]
    rw [this]
  rw [e]
  have rf : ∀ j, ((A.later 1).setR i.toNat v).rawF j = if j = i then v else A.rawF j := fun j => rawF_setR (A := A.later 1) ok
  refine ⟨X.congr (fun j h0 h1 => by rw [rf, if_neg (by omega)]) (by show (A.raw.set _ _).length = _; rw [List.length_set]) (by show A.uses ≤ A.uses + 1; omega) rfl (fun h => stF_slots rfl h) rfl rfl rfl rfl rfl rfl rfl rfl, fun h => stF_slots rfl h, rfl, rfl, rfl, rfl, by show (A.raw.set _ _).length = _; rw [List.length_set], rf⟩

end
end Go.Proofs.Ytfphgiipekkgdaa

set_option linter.unusedVariables false
set_option linter.unusedSimpArgs false
set_option maxRecDepth 20000
namespace Go.Proofs.Ytfphgiipekkgdaa
open Go Go.Fw

/-! ### A scan, step by step, while others publish -/

theorem nodup_le : ∀ (l k : List Int), l.Nodup → (∀ x ∈ l, x ∈ k) → l.length ≤ k.length
  | [], k, _, _ => Nat.zero_le _
  | x :: l, k, nd, h => by
    obtain ⟨n1, n2⟩ := List.nodup_cons.1 nd
    have hx := h x List.mem_cons_self
    have := nodup_le l (k.erase x) n2 fun y hy => (List.mem_erase_of_ne (fun e => n1 (by rw [← e]; exact hy))).2 (h y (List.mem_cons_of_mem _ hy))
    rw [List.length_erase_of_mem hx] at this
    have : 0 < k.length := List.length_pos_of_mem hx
    simp only [List.length_cons]; omega
theorem alPut_len (l : List (Int × Bool)) (k : Int) : (alPut l k true).length ≤ l.length + 1 := by
  induction l with
  | nil => unfold alPut; simp
  | cons p l ih =>
    unfold alPut
    split
    · simp
    · simp only [List.length_cons]; omega
theorem inS_mem {l : List (Int × Bool)} {h : Int} (hi : inS l h = true) : h ∈ l.map Prod.fst := by
  unfold inS at hi
  induction l with
  | nil => cases hi
  | cons p l ih =>
    obtain ⟨k, v⟩ := p
    by_cases e : h = k
    · rw [e]; exact List.mem_cons_self
    · refine List.mem_cons_of_mem _ (ih ?_)
      have : alGet ((k, v) :: l) h = alGet l h := by
        show (if h = k then some v else alGet l h) = alGet l h
        rw [if_neg e]
      rw [this] at hi; exact hi
theorem inS_put {l : List (Int × Bool)} {k h : Int} : inS (alPut l k true) h = if h = k then true else inS l h := by
  unfold inS
  rw [alGet_put]
  split <;> rfl

section
variable {A B : Ar} {p : Pl} {w m : Int} {S S' : Sg}

/-- Frees, the first one under way. -/
def FrsI (p : Pl) (w m : Int) (A : Ar) (S : Sg) : List Fe → Prop
  | [] => True
  | f :: fs => FeI p w m 0 f A S ∧ (∀ g ∈ fs, g = newFe p 0 g.h ∧ A.stF g.h = 2)

structure ScI (p : Pl) (w m ta : Int) (x : Sc) (A : Ar) (S : Sg) : Prop where
  tw : x.tw = w
  ta : x.ta = ta
  pl : x.pl = p
  work : x.work = 0
  ll : x.l.length ≤ 100
  wd : 0 ≤ x.word
  en : x.ended = false
  st : (x.sorted = false ∧ x.word < 2 * w ∧ x.frees = [] ∧ x.left = [] ∧ x.l.Nodup ∧ (∀ h ∈ x.l, A.stF h = 2) ∧ (x.seen.length : Int) ≤ x.word) ∨
    (x.sorted = true ∧ x.word = 2 * w ∧ x.frees ≠ [] ∧ FrsI p w m A S x.frees ∧ (x.frees.map Fe.h).Nodup ∧ x.left.Nodup ∧ (∀ h ∈ x.left, A.stF h = 2 ∧ h ∉ x.frees.map Fe.h) ∧ (x.left.length : Int) ≤ 2 * w)
/-- Why one that is looked at is not freed by this scan. -/
def Safe (x : Sc) (r h : Int) : Prop := if x.sorted = true then h ∉ x.frees.map Fe.h else (h ∈ x.l → x.word ≤ 2 * r ∨ inS x.seen h = true)

theorem ScI.new (X : SL A p w m S) (hw : w ≤ 1000) {ta : Int} {xs : List Int} (hl : xs.length ≤ 100) (nd : xs.Nodup) (hs : ∀ h ∈ xs, A.stF h = 2) : ScI p w m ta (newSc w ta p 0 xs) A S ∧ ∀ r h, 0 ≤ r → Safe (newSc w ta p 0 xs) r h := by
  have wb := X.wb
  refine ⟨⟨rfl, rfl, rfl, rfl, hl, Int.le_refl 0, rfl, .inl ⟨rfl, by show 0 < 2 * w; omega, rfl, rfl, nd, hs, Int.le_refl 0⟩⟩, fun r h hr => ?_⟩
  unfold Safe
  rw [if_neg (by show ¬ false = true; simp)]
  exact fun _ => .inl (by show 0 ≤ 2 * r; omega)
theorem ScI.keep {ta : Int} {x : Sc} (I : ScI p w m ta x A S) {mine : Int} (E : Ev p w m A S B S' mine) (hm : ∀ h, A.stF h = 2 → opB h ≠ mine) : ScI p w m ta x B S' := by
  have st2 : ∀ h, A.stF h = 2 → B.stF h = 2 := fun h hh => by rw [E.st h (hm h hh)]; exact hh
  refine ⟨I.tw, I.ta, I.pl, I.work, I.ll, I.wd, I.en, ?_⟩
  rcases I.st with ⟨a1, a2, a3, a4, a5, a6, a7⟩ | ⟨a1, a2, a3, a4, a5, a6, a7, a8⟩
  · exact .inl ⟨a1, a2, a3, a4, a5, fun h hh => st2 h (a6 h hh), a7⟩
  · refine .inr ⟨a1, a2, a3, ?_, a5, a6, fun h hh => ⟨st2 h (a7 h hh).1, (a7 h hh).2⟩, a8⟩
    cases hf : x.frees with
    | nil => trivial
    | cons f fs =>
      rw [hf] at a4
      exact ⟨a4.1.keep E (hm _ a4.1.st), fun g hg => ⟨(a4.2 g hg).1, st2 _ (a4.2 g hg).2⟩⟩

structure ScS (p : Pl) (w m ta : Int) (x : Sc) (A : Ar) (S : Sg) (y : Sc) (B : Ar) (S' : Sg) : Prop where
  sl : SL B p w m S'
  wd : B.words = A.words
  us : B.uses = A.uses + 1
  fa : B.fault = A.fault
  rl : B.raw.length = A.raw.length
  rw : ∀ i, p.carved < i → B.rawF i = A.rawF i
  nL : B.nL = A.nL
  nR : B.nR ≤ A.nR
  st : ∀ h, B.stF h = A.stF h ∨ (B.stF h = 0 ∧ A.stF h = 2)
  safe : ∀ r h, 0 ≤ r → r < w → A.rawF (ta + 2 * r) = h → A.stF h ≠ 0 → Safe x r h → B.stF h = A.stF h ∧ (y.ended = false → Safe y r h)
  go : y.ended = false → ScI p w m ta y B S'
  fin : y.ended = true → y.left.Nodup ∧ (∀ h ∈ y.left, B.stF h = 2) ∧ (y.left.length : Int) ≤ 2 * w
  l : y.left.length ≤ 1000

theorem ScI.step {ta : Int} {x : Sc} (I : ScI p w m ta x A S) (X : SL A p w m S) (hwf : A.wf) (hu : A.uses ≤ 1000000) (tb : p.carved < ta ∧ ta + 2 * w ≤ A.raw.length) (rl : (A.raw.length : Int) ≤ 1000000) : mSc.inv x A ∧ ∃ S', ScS p w m ta x A S (x.step A).1 (x.step A).2 S' := by
  obtain ⟨p1, p2, p3, p4, p5⟩ := X.places
  have wb := X.wb
  have mb := X.mb
  have us := X.F.us
  have wd := I.wd
  have ll := I.ll
  rcases I.st with ⟨a1, a2, a3, a4, a5, a6, a7⟩ | ⟨a1, a2, a3, a4, a5, a6, a7, a8⟩
  · refine ⟨⟨by rw [I.tw]; omega, wd, by omega, fun _ => .inl ⟨by rw [I.tw]; exact a2, a1, a3, a4⟩⟩, ?_⟩
    have e : w64 (ta + x.word) = ta + x.word := w64_in (by omega) (by omega)
    have hst : x.step A = (if x.word + 1 = 2 * w then (x.word1 A).sort else x.word1 A, A.later 1) := by
      unfold Sc.step
      rw [if_neg (by rw [I.en]; simp), I.tw, if_pos a2, I.ta, e, tick_later ⟨by omega, by omega⟩ us (by omega)]
    rw [hst]
    have w1 : x.word1 A = { x with seen := alPut x.seen (A.rawF (ta + x.word)) true, word := x.word + 1 } := by unfold Sc.word1; rw [I.ta, e]
    have X1 := X.later (n := 1) (by omega)
    have sl1 := alPut_len x.seen (A.rawF (ta + x.word))
    have hin : ∀ r h, 0 ≤ r → r < w → A.rawF (ta + 2 * r) = h → Safe x r h → (h ∈ x.l → x.word + 1 ≤ 2 * r ∨ inS (alPut x.seen (A.rawF (ta + x.word)) true) h = true) := fun r h r0 r1 hr hs hl => by
      unfold Safe at hs
      rw [if_neg (by rw [a1]; simp)] at hs
      rw [inS_put]
      by_cases c : h = A.rawF (ta + x.word)
      · right; rw [if_pos c]
      · rw [if_neg c]
        rcases hs hl with h1 | h1
        · by_cases e2 : x.word = 2 * r
          · exfalso; rw [← e2] at hr; exact c hr.symm
          · left; omega
        · exact .inr h1
    by_cases c : x.word + 1 = 2 * w
    · rw [if_pos c, w1]
      have hp : ∀ r h, 0 ≤ r → r < w → A.rawF (ta + 2 * r) = h → Safe x r h → h ∈ x.l → inS (alPut x.seen (A.rawF (ta + x.word)) true) h = true := fun r h r0 r1 hr hs hl => by
        rcases hin r h r0 r1 hr hs hl with h1 | h1
        · omega
        · exact h1
      generalize alPut x.seen (A.rawF (ta + x.word)) true = seen' at *
      have es : Sc.sort { x with seen := seen', word := x.word + 1 } = { x with seen := seen', word := x.word + 1, frees := (x.l.filter fun h => !inS seen' h).map (newFe x.pl x.work), left := x.l.filter (inS seen'), sorted := true, ended := decide ((x.l.filter fun h => !inS seen' h).map (newFe x.pl x.work) = []) } := by
        show Sc.mk _ _ _ _ _ _ _ _ (((x.l.take x.l.length).filter fun h => !inS seen' h).map (newFe x.pl x.work)) ((x.l.take x.l.length).filter (inS seen')) (decide ((((x.l.take x.l.length).filter fun h => !inS seen' h).map (newFe x.pl x.work)) = [])) = _
        rw [List.take_length]; rfl
      rw [es, I.pl, I.work]
      have hmap : ((x.l.filter fun h => !inS seen' h).map (newFe p 0)).map Fe.h = x.l.filter fun h => !inS seen' h := by
        rw [List.map_map]
        exact List.map_id _
      have hll : ((x.l.filter (inS seen')).length : Int) ≤ 2 * w := by
        have h1 := nodup_le (x.l.filter (inS seen')) (seen'.map Prod.fst) (a5.filter _) fun h hh => inS_mem (List.mem_filter.1 hh).2
        rw [List.length_map] at h1
        omega
      refine ⟨S, X1, rfl, rfl, rfl, rfl, fun _ _ => rfl, rfl, Int.le_refl _, fun h => .inl rfl, fun r h r0 r1 hr hs hsf => ⟨rfl, fun _ => ?_⟩, fun he => ?_, fun _ => ⟨a5.filter _, fun h hh => a6 h (List.mem_filter.1 hh).1, hll⟩, ?_⟩
      · unfold Safe
        rw [if_pos rfl]
        dsimp only
        rw [hmap]
        intro hm
        obtain ⟨m1, m2⟩ := List.mem_filter.1 hm
        rw [hp r h r0 r1 hr hsf m1] at m2; cases m2
      · have he : decide ((x.l.filter fun h => !inS seen' h).map (newFe p 0) = []) = false := he
        have hne : (x.l.filter fun h => !inS seen' h).map (newFe p 0) ≠ [] := by simpa using he
        refine ⟨I.tw, I.ta, rfl, rfl, I.ll, by show 0 ≤ x.word + 1; omega, he, .inr ⟨rfl, c, hne, ?_, by rw [hmap]; exact a5.filter _, a5.filter _, fun h hh => ⟨a6 h (List.mem_filter.1 hh).1, ?_⟩, hll⟩⟩
        · have hall : ∀ g ∈ (x.l.filter fun h => !inS seen' h).map (newFe p 0), g = newFe p 0 g.h ∧ A.stF g.h = 2 := fun g hg => by
            obtain ⟨h, hh, rfl⟩ := List.mem_map.1 hg
            exact ⟨rfl, a6 h (List.mem_filter.1 hh).1⟩
          dsimp only
          cases hf : (x.l.filter fun h => !inS seen' h).map (newFe p 0) with
          | nil => trivial
          | cons f fs =>
            rw [hf] at hall
            obtain ⟨h1, h2⟩ := hall f List.mem_cons_self
            refine ⟨?_, fun g hg => hall g (List.mem_cons_of_mem _ hg)⟩
            rw [h1]; exact FeI.new X1 ⟨Int.le_refl 0, by omega⟩ h2
        · rw [hmap]
          intro hm
          have h1 := (List.mem_filter.1 hh).2
          have h2 := (List.mem_filter.1 hm).2
          rw [h1] at h2; cases h2
      · exact Nat.le_trans (List.length_filter_le _ _) (by omega)
    · rw [if_neg c, w1]
      refine ⟨S, X1, rfl, rfl, rfl, rfl, fun _ _ => rfl, rfl, Int.le_refl _, fun h => .inl rfl, fun r h r0 r1 hr hs hsf => ⟨rfl, fun _ => ?_⟩, fun _ => ⟨I.tw, I.ta, I.pl, I.work, I.ll, by show 0 ≤ x.word + 1; omega, I.en, .inl ⟨a1, by show x.word + 1 < 2 * w; omega, a3, a4, a5, a6, by show ((alPut x.seen _ true).length : Int) ≤ x.word + 1; omega⟩⟩, fun he => ?_, by show x.left.length ≤ 1000; rw [a4]; exact Nat.zero_le _⟩
      · unfold Safe
        rw [if_neg (by show ¬ x.sorted = true; rw [a1]; simp)]
        exact hin r h r0 r1 hr hsf
      · have he : x.ended = true := he
        rw [I.en] at he; cases he
  · refine ⟨⟨by rw [I.tw]; omega, wd, by omega, fun _ => .inr ⟨by rw [I.tw, a2]; omega, a1, a3⟩⟩, ?_⟩
    obtain ⟨f, fs, ef⟩ : ∃ f fs, x.frees = f :: fs := by
      cases h : x.frees with
      | nil => exact (a3 h).elim
      | cons f fs => exact ⟨f, fs, rfl⟩
    rw [ef] at a4 a5 a7
    obtain ⟨b1, b2⟩ := a4
    obtain ⟨n1, n2⟩ := List.nodup_cons.1 a5
    have hst : x.step A = if (f.step A).1.done = true then ({ x with frees := fs, ended := decide (fs = []) }, (f.step A).2) else ({ x with frees := (f.step A).1 :: fs }, (f.step A).2) := by
      unfold Sc.step
      rw [if_neg (by rw [I.en]; simp), I.tw, if_neg (by omega), ef]
    rw [hst]
    obtain ⟨S', Z⟩ := b1.step X hwf hu ⟨Int.le_refl 0, by omega⟩
    generalize (f.step A).1 = y at *
    generalize (f.step A).2 = B at *
    have oth : ∀ h, A.stF h = 2 → h ≠ f.h → B.stF h = 2 := fun h hh hn => by
      rw [Z.ev.st h fun e => hn ?_]
      · exact hh
      · by_cases e2 : h = f.h
        · exact e2
        · have := stF_one (A := A) (h := f.h) (k := h) (by rw [b1.st]; decide) e e2
          rw [hh] at this; cases this
    have zl : ∀ h, A.stF h ≠ 0 → h ≠ f.h → B.stF h = A.stF h := fun h hh hn => by
      refine Z.ev.st h fun e => hh ?_
      exact stF_one (A := A) (h := f.h) (k := h) (by rw [b1.st]; decide) e hn
    have lenl : x.left.length ≤ 1000 := by omega
    rcases Z.res with ⟨r1, r2, r3, r4⟩ | ⟨r1, r3, r4⟩
    · rw [if_neg (by rw [r1]; simp)]
      refine ⟨S', Z.sl, Z.wd, Z.us, Z.ev.fa, Z.ev.rl, Z.ev.rw, Z.nL, by rw [r4]; exact Int.le_refl _, fun h => .inl (r3 h), fun r h r0 r1' hr hs hsf => ⟨r3 h, fun _ => ?_⟩, fun _ => ?_, fun he => ?_, lenl⟩
      · unfold Safe at hsf ⊢
        rw [if_pos a1, ef] at hsf
        rw [if_pos (show x.sorted = true from a1)]
        show h ∉ y.h :: fs.map Fe.h
        rw [Z.h]; exact hsf
      · refine ⟨I.tw, I.ta, I.pl, I.work, I.ll, I.wd, I.en, .inr ⟨a1, a2, by simp, ⟨r2, fun g hg => ⟨(b2 g hg).1, by rw [r3]; exact (b2 g hg).2⟩⟩, ?_, a6, fun h hh => ⟨by rw [r3]; exact (a7 h hh).1, ?_⟩, a8⟩⟩
        · show (y.h :: fs.map Fe.h).Nodup
          rw [Z.h]; exact a5
        · show h ∉ y.h :: fs.map Fe.h
          rw [Z.h]; exact (a7 h hh).2
      · have he : x.ended = true := he
        rw [I.en] at he; cases he
    · rw [if_pos r1]
      have szf := sz_pos (c := opC f.h) (opC_nat f.h).1 (opC_nat f.h).2
      refine ⟨S', Z.sl, Z.wd, Z.us, Z.ev.fa, Z.ev.rl, Z.ev.rw, Z.nL, by rw [r4]; omega, fun h => ?_, fun r h r0 r1' hr hs hsf => ?_, fun he => ?_, fun he => ⟨a6, fun h hh => ?_, a8⟩, lenl⟩
      · by_cases e : h = f.h
        · right; rw [r3, if_pos e]; exact ⟨rfl, by rw [e]; exact b1.st⟩
        · left; rw [r3, if_neg e]
      · unfold Safe at hsf
        rw [if_pos a1, ef] at hsf
        have hsf : h ∉ f.h :: fs.map Fe.h := hsf
        have hne : h ≠ f.h := fun e => hsf (by rw [e]; exact List.mem_cons_self)
        refine ⟨by rw [r3, if_neg hne], fun _ => ?_⟩
        unfold Safe
        rw [if_pos (show x.sorted = true from a1)]
        exact fun hm => hsf (List.mem_cons_of_mem _ hm)
      · have he : decide (fs = []) = false := he
        have hne : fs ≠ [] := by simpa using he
        refine ⟨I.tw, I.ta, I.pl, I.work, I.ll, I.wd, he, .inr ⟨a1, a2, hne, ?_, n2, a6, fun h hh => ⟨?_, fun hm => (a7 h hh).2 (List.mem_cons_of_mem _ hm)⟩, a8⟩⟩
        · have hall : ∀ g ∈ fs, g = newFe p 0 g.h ∧ B.stF g.h = 2 := fun g hg => by
            obtain ⟨h1, h2⟩ := b2 g hg
            refine ⟨h1, ?_⟩
            rw [r3, if_neg (fun e => n1 (by rw [← e]; exact List.mem_map.2 ⟨g, hg, rfl⟩))]; exact h2
          dsimp only
          cases hf : fs with
          | nil => trivial
          | cons g gs =>
            rw [hf] at hall
            obtain ⟨h1, h2⟩ := hall g List.mem_cons_self
            refine ⟨?_, fun g' hg' => hall g' (List.mem_cons_of_mem _ hg')⟩
            rw [h1]; exact FeI.new Z.sl ⟨Int.le_refl 0, by omega⟩ h2
        · rw [r3, if_neg (fun e => (a7 h hh).2 (by rw [e]; exact List.mem_cons_self))]; exact (a7 h hh).1
      · rw [r3, if_neg (fun e => (a7 h hh).2 (by rw [e]; exact List.mem_cons_self))]; exact (a7 h hh).1
end
end Go.Proofs.Ytfphgiipekkgdaa

set_option linter.unusedVariables false
set_option maxRecDepth 10000
namespace Go.Proofs.Ytfphgiipekkgdaa
open Go Go.Fw
/- magpie/epoch.Raw -/
noncomputable def t_epoch_Raw (p0 : Int) (p1 : Int) : Tree :=
  .newP (.cells #[(.int .i64 0), (.int .i64 0)] ty_epoch_Table) fun x4 =>
  .stA x4 [(.int .i64 p0), (.int .i64 p1)] <|
  .look (ldK x4 2 0 #[] fun r0 => .pure (.value (.tuple #[(.agg r0), (.int .i64 (w64 (1 + (imax p0 0))))]))) (.tup [(.agg [(.int .i64), (.int .i64)]), (.leaf (.int .i64))]) fun r => .ret (Sh.toVal (.tup [(.agg [(.int .i64), (.int .i64)]), (.leaf (.int .i64))]) r)
theorem t_epoch_Raw_eq (p0 : Int) (p1 : Int) : funcTree Try.prog { quiet := [16, 22, 23, 34, 35, 48, 49, 53, 57, 58, 59, 62, 105], quietTmp := false, fncs := [], ifcs := [] } Try.f53 [(.int .i64 p0), (.int .i64 p1)] = t_epoch_Raw p0 p1 := by kernel_rfl
theorem t_epoch_Raw_spec {p0 : Int} {p1 : Int} {H : Heap} {R : Value → Heap → Prop} (h : ∀ L, wp Try.prog (t_epoch_Raw p0 p1) L H R) : SpecF Try.prog f_epoch_Raw #[(.int .i64 p0), (.int .i64 p1)] H R :=
  spec_of_tree (cfg := { quiet := [16, 22, 23, 34, 35, 48, 49, 53, 57, 58, 59, 62, 105], quietTmp := false, fncs := [], ifcs := [] }) Try.func53 fun L => (t_epoch_Raw_eq p0 p1).symm ▸ h L

/- (magpie/epoch.Table).Word -/
noncomputable def t_epoch_Table_Word (p0_0 : Int) (p0_1 : Int) (p1 : Int) : Tree :=
  .newP (.cells #[(.int .i64 p0_0), (.int .i64 p0_1)] ty_epoch_Table) fun x2 =>
  .ld (x2.add 1) (.int .i64) fun x6 =>
  .ret (.int .i64 (w64 ((w64 (x6 + 1)) + p1)))
theorem t_epoch_Table_Word_eq (p0_0 : Int) (p0_1 : Int) (p1 : Int) : funcTree Try.prog { quiet := [16, 22, 23, 34, 35, 48, 49, 53, 57, 58, 59, 62, 105], quietTmp := false, fncs := [], ifcs := [] } Try.f49 [(.agg #[(.int .i64 p0_0), (.int .i64 p0_1)]), (.int .i64 p1)] = t_epoch_Table_Word p0_0 p0_1 p1 := by kernel_rfl
theorem t_epoch_Table_Word_spec {p0_0 : Int} {p0_1 : Int} {p1 : Int} {H : Heap} {R : Value → Heap → Prop} (h : ∀ L, wp Try.prog (t_epoch_Table_Word p0_0 p0_1 p1) L H R) : SpecF Try.prog f_epoch_Table_Word #[(.agg #[(.int .i64 p0_0), (.int .i64 p0_1)]), (.int .i64 p1)] H R :=
  spec_of_tree (cfg := { quiet := [16, 22, 23, 34, 35, 48, 49, 53, 57, 58, 59, 62, 105], quietTmp := false, fncs := [], ifcs := [] }) Try.func49 fun L => (t_epoch_Table_Word_eq p0_0 p0_1 p1).symm ▸ h L

/- (magpie/epoch.Table).Global -/
noncomputable def t_epoch_Table_Global (p0_0 : Int) (p0_1 : Int) : Tree :=
  .newP (.cells #[(.int .i64 p0_0), (.int .i64 p0_1)] ty_epoch_Table) fun x1 =>
  .ld (x1.add 1) (.int .i64) fun x4 =>
  .ret (.int .i64 x4)
theorem t_epoch_Table_Global_eq (p0_0 : Int) (p0_1 : Int) : funcTree Try.prog { quiet := [16, 22, 23, 34, 35, 48, 49, 53, 57, 58, 59, 62, 105], quietTmp := false, fncs := [], ifcs := [] } Try.f48 [(.agg #[(.int .i64 p0_0), (.int .i64 p0_1)])] = t_epoch_Table_Global p0_0 p0_1 := by kernel_rfl
theorem t_epoch_Table_Global_spec {p0_0 : Int} {p0_1 : Int} {H : Heap} {R : Value → Heap → Prop} (h : ∀ L, wp Try.prog (t_epoch_Table_Global p0_0 p0_1) L H R) : SpecF Try.prog f_epoch_Table_Global #[(.agg #[(.int .i64 p0_0), (.int .i64 p0_1)])] H R :=
  spec_of_tree (cfg := { quiet := [16, 22, 23, 34, 35, 48, 49, 53, 57, 58, 59, 62, 105], quietTmp := false, fncs := [], ifcs := [] }) Try.func48 fun L => (t_epoch_Table_Global_eq p0_0 p0_1).symm ▸ h L

/- magpie/epoch.NewPin -/
noncomputable def t_epoch_NewPin (p0_0 : Int) (p0_1 : Int) (p1 : Int) : Tree :=
  .newP (.cells #[(.int .i64 p0_0), (.int .i64 p0_1)] ty_epoch_Table) fun x2 =>
  .ldA x2 [(.int .i64), (.int .i64)] fun x6 =>
  .newP (.cells #[(.int .i64 x6.1), (.int .i64 x6.2.1), (.int .i64 p1), (.int .i64 0), .nilFunc] ty_epoch_Pin) fun x9 =>
  .look (opS Try.prog (.nilCheck (.tmp 0)) ty_unit [(.pointer (some x9))]) (.one (.leaf .addr)) fun x13 =>
  .st (x13.add 4) (.func (.func f_epoch_Pin_global) #[(.pointer (some x9))] #[]) <|
  .ret (.pointer (some x9))
theorem t_epoch_NewPin_eq (p0_0 : Int) (p0_1 : Int) (p1 : Int) : funcTree Try.prog { quiet := [16, 22, 23, 34, 35, 48, 49, 53, 57, 58, 59, 62, 105], quietTmp := false, fncs := [], ifcs := [] } Try.f51 [(.agg #[(.int .i64 p0_0), (.int .i64 p0_1)]), (.int .i64 p1)] = t_epoch_NewPin p0_0 p0_1 p1 := by kernel_rfl
theorem t_epoch_NewPin_spec {p0_0 : Int} {p0_1 : Int} {p1 : Int} {H : Heap} {R : Value → Heap → Prop} (h : ∀ L, wp Try.prog (t_epoch_NewPin p0_0 p0_1 p1) L H R) : SpecF Try.prog f_epoch_NewPin #[(.agg #[(.int .i64 p0_0), (.int .i64 p0_1)]), (.int .i64 p1)] H R :=
  spec_of_tree (cfg := { quiet := [16, 22, 23, 34, 35, 48, 49, 53, 57, 58, 59, 62, 105], quietTmp := false, fncs := [], ifcs := [] }) Try.func51 fun L => (t_epoch_NewPin_eq p0_0 p0_1 p1).symm ▸ h L

/- (*magpie/epoch.Pin).global -/
noncomputable def t_epoch_Pin_global (p0 : Option Addr) (p1 : Option Addr) : Tree :=
  .look (opS Try.prog (.nilCheck (.tmp 0)) ty_unit [(.pointer p0)]) (.one (.leaf .addr)) fun x7 =>
  .ldA x7 [(.int .i64), (.int .i64)] fun x9 =>
  .qcall f_epoch_Table_Global [(.agg #[(.int .i64 x9.1), (.int .i64 x9.2.1)])] (.one (.leaf (.int .i64))) fun x10 =>
  .call f_arena_Arena_Raw [(.pointer p1), (.int .i64 x10)] (.one (.leaf (.int .i64))) fun x11 =>
  .look (opS Try.prog (.nilCheck (.tmp 0)) ty_unit [(.pointer p0)]) (.one (.leaf .addr)) fun x12 =>
  .st (x12.add 3) (.int .i64 x11) <|
  .look (opS Try.prog (.nilCheck (.tmp 0)) ty_unit [(.pointer p0)]) (.one (.leaf .addr)) fun x17 =>
  .st (x17.add 4) (.func (.func f_epoch_Pin_own) #[(.pointer p0)] #[]) <|
  .ret (.tuple #[])
theorem t_epoch_Pin_global_eq (p0 : Option Addr) (p1 : Option Addr) : funcTree Try.prog { quiet := [16, 22, 23, 34, 35, 48, 49, 53, 57, 58, 59, 62, 105], quietTmp := false, fncs := [], ifcs := [] } Try.f76 [(.pointer p0), (.pointer p1)] = t_epoch_Pin_global p0 p1 := by kernel_rfl
theorem t_epoch_Pin_global_spec {p0 : Option Addr} {p1 : Option Addr} {H : Heap} {R : Value → Heap → Prop} (h : ∀ L, wp Try.prog (t_epoch_Pin_global p0 p1) L H R) : SpecF Try.prog f_epoch_Pin_global #[(.pointer p0), (.pointer p1)] H R :=
  spec_of_tree (cfg := { quiet := [16, 22, 23, 34, 35, 48, 49, 53, 57, 58, 59, 62, 105], quietTmp := false, fncs := [], ifcs := [] }) Try.func76 fun L => (t_epoch_Pin_global_eq p0 p1).symm ▸ h L

/- (*magpie/epoch.Pin).own -/
noncomputable def t_epoch_Pin_own (p0 : Option Addr) (p1 : Option Addr) : Tree :=
  .look (opS Try.prog (.nilCheck (.tmp 0)) ty_unit [(.pointer p0)]) (.one (.leaf .addr)) fun x6 =>
  .ldA x6 [(.int .i64), (.int .i64)] fun x8 =>
  .look (opS Try.prog (.nilCheck (.tmp 0)) ty_unit [(.pointer p0)]) (.one (.leaf .addr)) fun x10 =>
  .ld (x10.add 2) (.int .i64) fun x12 =>
  .qcall f_epoch_Table_Word [(.agg #[(.int .i64 x8.1), (.int .i64 x8.2.1)]), (.int .i64 x12)] (.one (.leaf (.int .i64))) fun x13 =>
  .look (opS Try.prog (.nilCheck (.tmp 0)) ty_unit [(.pointer p0)]) (.one (.leaf .addr)) fun x15 =>
  .ld (x15.add 3) (.int .i64) fun x17 =>
  .call f_arena_Arena_SetRaw [(.pointer p1), (.int .i64 x13), (.int .i64 (w64 (x17 + 1)))] .unit fun _ =>
  .look (opS Try.prog (.nilCheck (.tmp 0)) ty_unit [(.pointer p0)]) (.one (.leaf .addr)) fun x23 =>
  .st (x23.add 4) (.func (.func f_epoch_Pin_again) #[(.pointer p0)] #[]) <|
  .ret (.tuple #[])
theorem t_epoch_Pin_own_eq (p0 : Option Addr) (p1 : Option Addr) : funcTree Try.prog { quiet := [16, 22, 23, 34, 35, 48, 49, 53, 57, 58, 59, 62, 105], quietTmp := false, fncs := [], ifcs := [] } Try.f85 [(.pointer p0), (.pointer p1)] = t_epoch_Pin_own p0 p1 := by kernel_rfl
theorem t_epoch_Pin_own_spec {p0 : Option Addr} {p1 : Option Addr} {H : Heap} {R : Value → Heap → Prop} (h : ∀ L, wp Try.prog (t_epoch_Pin_own p0 p1) L H R) : SpecF Try.prog f_epoch_Pin_own #[(.pointer p0), (.pointer p1)] H R :=
  spec_of_tree (cfg := { quiet := [16, 22, 23, 34, 35, 48, 49, 53, 57, 58, 59, 62, 105], quietTmp := false, fncs := [], ifcs := [] }) Try.func85 fun L => (t_epoch_Pin_own_eq p0 p1).symm ▸ h L

/- (*magpie/epoch.Pin).again -/
noncomputable def t_epoch_Pin_again (p0 : Option Addr) (p1 : Option Addr) : Tree :=
  .look (opS Try.prog (.nilCheck (.tmp 0)) ty_unit [(.pointer p0)]) (.one (.leaf .addr)) fun x6 =>
  .ld (x6.add 3) (.int .i64) fun x8 =>
  .look (opS Try.prog (.nilCheck (.tmp 0)) ty_unit [(.pointer p0)]) (.one (.leaf .addr)) fun x12 =>
  .ldA x12 [(.int .i64), (.int .i64)] fun x14 =>
  .qcall f_epoch_Table_Global [(.agg #[(.int .i64 x14.1), (.int .i64 x14.2.1)])] (.one (.leaf (.int .i64))) fun x15 =>
  .call f_arena_Arena_Raw [(.pointer p1), (.int .i64 x15)] (.one (.leaf (.int .i64))) fun x16 =>
  .look (opS Try.prog (.nilCheck (.tmp 0)) ty_unit [(.pointer p0)]) (.one (.leaf .addr)) fun x17 =>
  .st (x17.add 3) (.int .i64 x16) <|
  .look (opS Try.prog (.nilCheck (.tmp 0)) ty_unit [(.pointer p0)]) (.one (.leaf .addr)) fun x22 =>
  .st (x22.add 4) (.func (.func f_epoch_Pin_own) #[(.pointer p0)] #[]) <|
  .look (opS Try.prog (.nilCheck (.tmp 0)) ty_unit [(.pointer p0)]) (.one (.leaf .addr)) fun x25 =>
  .ld (x25.add 3) (.int .i64) fun x27 =>
  bif ((x27 : Int) == x8) then (
    .look (opS Try.prog (.nilCheck (.tmp 0)) ty_unit [(.pointer p0)]) (.one (.leaf .addr)) fun x31 =>
    .st (x31.add 4) .nilFunc <|
    .ret (.tuple #[]))
  else (
    .ret (.tuple #[]))
theorem t_epoch_Pin_again_eq (p0 : Option Addr) (p1 : Option Addr) : funcTree Try.prog { quiet := [16, 22, 23, 34, 35, 48, 49, 53, 57, 58, 59, 62, 105], quietTmp := false, fncs := [], ifcs := [] } Try.f87 [(.pointer p0), (.pointer p1)] = t_epoch_Pin_again p0 p1 := by kernel_rfl
theorem t_epoch_Pin_again_spec {p0 : Option Addr} {p1 : Option Addr} {H : Heap} {R : Value → Heap → Prop} (h : ∀ L, wp Try.prog (t_epoch_Pin_again p0 p1) L H R) : SpecF Try.prog f_epoch_Pin_again #[(.pointer p0), (.pointer p1)] H R :=
  spec_of_tree (cfg := { quiet := [16, 22, 23, 34, 35, 48, 49, 53, 57, 58, 59, 62, 105], quietTmp := false, fncs := [], ifcs := [] }) Try.func87 fun L => (t_epoch_Pin_again_eq p0 p1).symm ▸ h L

/- (*magpie/epoch.Pin).Step -/
noncomputable def t_epoch_Pin_Step (p0 : Option Addr) (p1 : Option Addr) : Tree :=
  .look (opS Try.prog (.nilCheck (.tmp 0)) ty_unit [(.pointer p0)]) (.one (.leaf .addr)) fun x6 =>
  .ld (x6.add 4) .val fun x8 =>
  .look (opS Try.prog (.binOp .neq ty_epoch_step (.tmp 0) (.const .nilFunc) ty_epoch_step) ty_bool [x8]) (.one (.leaf .bool)) fun x9 =>
  bif x9 then (
    .look (opS Try.prog (.nilCheck (.tmp 0)) ty_unit [(.pointer p0)]) (.one (.leaf .addr)) fun x11 =>
    .ld (x11.add 4) .val fun x13 =>
    .act (opS Try.prog (.call { callee := .value (.tmp 0), args := #[(.tmp 1)], argTypes := #[ty_p_arena_Arena] }) ty_unit [x13, (.pointer p1)]) .unit fun _ =>
    .look (opS Try.prog (.nilCheck (.tmp 0)) ty_unit [(.pointer p0)]) (.one (.leaf .addr)) fun x17 =>
    .ld (x17.add 4) .val fun x19 =>
    .look (opS Try.prog (.binOp .eql ty_epoch_step (.tmp 0) (.const .nilFunc) ty_epoch_step) ty_bool [x19]) (.one (.leaf .bool)) fun x20 =>
    .ret (.bool x20))
  else (
    .look (opS Try.prog (.nilCheck (.tmp 0)) ty_unit [(.pointer p0)]) (.one (.leaf .addr)) fun x17 =>
    .ld (x17.add 4) .val fun x19 =>
    .look (opS Try.prog (.binOp .eql ty_epoch_step (.tmp 0) (.const .nilFunc) ty_epoch_step) ty_bool [x19]) (.one (.leaf .bool)) fun x20 =>
    .ret (.bool x20))
theorem t_epoch_Pin_Step_eq (p0 : Option Addr) (p1 : Option Addr) : funcTree Try.prog { quiet := [16, 22, 23, 34, 35, 48, 49, 53, 57, 58, 59, 62, 105], quietTmp := false, fncs := [], ifcs := [] } Try.f55 [(.pointer p0), (.pointer p1)] = t_epoch_Pin_Step p0 p1 := by kernel_rfl
theorem t_epoch_Pin_Step_spec {p0 : Option Addr} {p1 : Option Addr} {H : Heap} {R : Value → Heap → Prop} (h : ∀ L, wp Try.prog (t_epoch_Pin_Step p0 p1) L H R) : SpecF Try.prog f_epoch_Pin_Step #[(.pointer p0), (.pointer p1)] H R :=
  spec_of_tree (cfg := { quiet := [16, 22, 23, 34, 35, 48, 49, 53, 57, 58, 59, 62, 105], quietTmp := false, fncs := [], ifcs := [] }) Try.func55 fun L => (t_epoch_Pin_Step_eq p0 p1).symm ▸ h L

/- magpie/epoch.NewTurn -/
noncomputable def t_epoch_NewTurn (p0_0 : Int) (p0_1 : Int) (p1_0 : Int) (p1_1 : Int) (p1_2 : Int) (p1_3 : Int) (p1_4 : Int) (p2 : Int) (p3 : Sl) : Tree :=
  .newP (.cells #[(.int .i64 p0_0), (.int .i64 p0_1)] ty_epoch_Table) fun x4 =>
  .newP (.cells #[(.int .i64 p1_0), (.int .i64 p1_1), (.int .i64 p1_2), (.int .i64 p1_3), (.int .i64 p1_4)] ty_free_Place) fun x5 =>
  .ldA x4 [(.int .i64), (.int .i64)] fun x10 =>
  .ldA x5 [(.int .i64), (.int .i64), (.int .i64), (.int .i64), (.int .i64)] fun x11 =>
  .newP (.cells #[(.int .i64 x10.1), (.int .i64 x10.2.1), (.int .i64 x11.1), (.int .i64 x11.2.1), (.int .i64 x11.2.2.1), (.int .i64 x11.2.2.2.1), (.int .i64 x11.2.2.2.2.1), (.int .i64 p2), (.int .i64 0), (.int .i64 0), (.slice none 0 0), (.slice none 0 0), (.slice none 0 0), .nilFunc] ty_epoch_Turn) fun x14 =>
  .look (opS Try.prog (.nilCheck (.tmp 0)) ty_unit [(.pointer (some x14))]) (.one (.leaf .addr)) fun x17 =>
  .ld (x17.add 10) .slice fun x19 =>
  .act (opS Try.prog (.call { callee := .builtin .append, args := #[(.tmp 0), (.tmp 1)], argTypes := #[ty_s_epoch_Limbo, ty_s_epoch_Limbo] }) ty_s_epoch_Limbo [(.slice x19.a x19.len x19.cap), (.slice p3.a p3.len p3.cap)]) (.one (.leaf .slice)) fun x21 =>
  .look (opS Try.prog (.nilCheck (.tmp 0)) ty_unit [(.pointer (some x14))]) (.one (.leaf .addr)) fun x22 =>
  .st (x22.add 10) (.slice x21.a x21.len x21.cap) <|
  .look (opS Try.prog (.nilCheck (.tmp 0)) ty_unit [(.pointer (some x14))]) (.one (.leaf .addr)) fun x27 =>
  .st (x27.add 13) (.func (.func f_epoch_Turn_global) #[(.pointer (some x14))] #[]) <|
  .ret (.pointer (some x14))
theorem t_epoch_NewTurn_eq (p0_0 : Int) (p0_1 : Int) (p1_0 : Int) (p1_1 : Int) (p1_2 : Int) (p1_3 : Int) (p1_4 : Int) (p2 : Int) (p3 : Sl) : funcTree Try.prog { quiet := [16, 22, 23, 34, 35, 48, 49, 53, 57, 58, 59, 62, 105], quietTmp := false, fncs := [], ifcs := [] } Try.f46 [(.agg #[(.int .i64 p0_0), (.int .i64 p0_1)]), (.agg #[(.int .i64 p1_0), (.int .i64 p1_1), (.int .i64 p1_2), (.int .i64 p1_3), (.int .i64 p1_4)]), (.int .i64 p2), (.slice p3.a p3.len p3.cap)] = t_epoch_NewTurn p0_0 p0_1 p1_0 p1_1 p1_2 p1_3 p1_4 p2 p3 := by kernel_rfl
theorem t_epoch_NewTurn_spec {p0_0 : Int} {p0_1 : Int} {p1_0 : Int} {p1_1 : Int} {p1_2 : Int} {p1_3 : Int} {p1_4 : Int} {p2 : Int} {p3 : Sl} {H : Heap} {R : Value → Heap → Prop} (h : ∀ L, wp Try.prog (t_epoch_NewTurn p0_0 p0_1 p1_0 p1_1 p1_2 p1_3 p1_4 p2 p3) L H R) : SpecF Try.prog f_epoch_NewTurn #[(.agg #[(.int .i64 p0_0), (.int .i64 p0_1)]), (.agg #[(.int .i64 p1_0), (.int .i64 p1_1), (.int .i64 p1_2), (.int .i64 p1_3), (.int .i64 p1_4)]), (.int .i64 p2), (.slice p3.a p3.len p3.cap)] H R :=
  spec_of_tree (cfg := { quiet := [16, 22, 23, 34, 35, 48, 49, 53, 57, 58, 59, 62, 105], quietTmp := false, fncs := [], ifcs := [] }) Try.func46 fun L => (t_epoch_NewTurn_eq p0_0 p0_1 p1_0 p1_1 p1_2 p1_3 p1_4 p2 p3).symm ▸ h L

/- (*magpie/epoch.Turn).global -/
noncomputable def t_epoch_Turn_global (p0 : Option Addr) (p1 : Option Addr) : Tree :=
  .look (opS Try.prog (.nilCheck (.tmp 0)) ty_unit [(.pointer p0)]) (.one (.leaf .addr)) fun x7 =>
  .ldA x7 [(.int .i64), (.int .i64)] fun x9 =>
  .qcall f_epoch_Table_Global [(.agg #[(.int .i64 x9.1), (.int .i64 x9.2.1)])] (.one (.leaf (.int .i64))) fun x10 =>
  .call f_arena_Arena_Raw [(.pointer p1), (.int .i64 x10)] (.one (.leaf (.int .i64))) fun x11 =>
  .look (opS Try.prog (.nilCheck (.tmp 0)) ty_unit [(.pointer p0)]) (.one (.leaf .addr)) fun x12 =>
  .st (x12.add 8) (.int .i64 x11) <|
  .look (opS Try.prog (.nilCheck (.tmp 0)) ty_unit [(.pointer p0)]) (.one (.leaf .addr)) fun x17 =>
  .st (x17.add 13) (.func (.func f_epoch_Turn_look) #[(.pointer p0)] #[]) <|
  .look (opS Try.prog (.nilCheck (.tmp 0)) ty_unit [(.pointer p0)]) (.one (.leaf .addr)) fun x20 =>
  .ld x20 (.int .i64) fun x23 =>
  bif (decide ((x23 : Int) < 1)) then (
    .look (opS Try.prog (.nilCheck (.tmp 0)) ty_unit [(.pointer p0)]) (.one (.leaf .addr)) fun x28 =>
    .st (x28.add 13) (.func (.func f_epoch_Turn_swap) #[(.pointer p0)] #[]) <|
    .ret (.tuple #[]))
  else (
    .ret (.tuple #[]))
theorem t_epoch_Turn_global_eq (p0 : Option Addr) (p1 : Option Addr) : funcTree Try.prog { quiet := [16, 22, 23, 34, 35, 48, 49, 53, 57, 58, 59, 62, 105], quietTmp := false, fncs := [], ifcs := [] } Try.f75 [(.pointer p0), (.pointer p1)] = t_epoch_Turn_global p0 p1 := by kernel_rfl
theorem t_epoch_Turn_global_spec {p0 : Option Addr} {p1 : Option Addr} {H : Heap} {R : Value → Heap → Prop} (h : ∀ L, wp Try.prog (t_epoch_Turn_global p0 p1) L H R) : SpecF Try.prog f_epoch_Turn_global #[(.pointer p0), (.pointer p1)] H R :=
  spec_of_tree (cfg := { quiet := [16, 22, 23, 34, 35, 48, 49, 53, 57, 58, 59, 62, 105], quietTmp := false, fncs := [], ifcs := [] }) Try.func75 fun L => (t_epoch_Turn_global_eq p0 p1).symm ▸ h L

/- (*magpie/epoch.Turn).look -/
noncomputable def t_epoch_Turn_look (p0 : Option Addr) (p1 : Option Addr) : Tree :=
  .look (opS Try.prog (.nilCheck (.tmp 0)) ty_unit [(.pointer p0)]) (.one (.leaf .addr)) fun x7 =>
  .ldA x7 [(.int .i64), (.int .i64)] fun x9 =>
  .look (opS Try.prog (.nilCheck (.tmp 0)) ty_unit [(.pointer p0)]) (.one (.leaf .addr)) fun x11 =>
  .ld (x11.add 9) (.int .i64) fun x13 =>
  .qcall f_epoch_Table_Word [(.agg #[(.int .i64 x9.1), (.int .i64 x9.2.1)]), (.int .i64 x13)] (.one (.leaf (.int .i64))) fun x14 =>
  .call f_arena_Arena_Raw [(.pointer p1), (.int .i64 x14)] (.one (.leaf (.int .i64))) fun x15 =>
  .look (opS Try.prog (.nilCheck (.tmp 0)) ty_unit [(.pointer p0)]) (.one (.leaf .addr)) fun x17 =>
  .ld (x17.add 9) (.int .i64) fun x19 =>
  .look (opS Try.prog (.nilCheck (.tmp 0)) ty_unit [(.pointer p0)]) (.one (.leaf .addr)) fun x21 =>
  .st (x21.add 9) (.int .i64 (w64 (x19 + 1))) <|
  bif ((x15 : Int) != 0) then (
    .look (opS Try.prog (.nilCheck (.tmp 0)) ty_unit [(.pointer p0)]) (.one (.leaf .addr)) fun x29 =>
    .ld (x29.add 8) (.int .i64) fun x31 =>
    bif ((x15 : Int) != (w64 (x31 + 1))) then (
      .call f_epoch_Turn_sort [(.pointer p0)] .unit fun _ =>
      .ret (.tuple #[]))
    else (
      .look (opS Try.prog (.nilCheck (.tmp 0)) ty_unit [(.pointer p0)]) (.one (.leaf .addr)) fun x39 =>
      .ld (x39.add 9) (.int .i64) fun x41 =>
      .look (opS Try.prog (.nilCheck (.tmp 0)) ty_unit [(.pointer p0)]) (.one (.leaf .addr)) fun x43 =>
      .ld x43 (.int .i64) fun x46 =>
      bif ((x41 : Int) == x46) then (
        .look (opS Try.prog (.nilCheck (.tmp 0)) ty_unit [(.pointer p0)]) (.one (.leaf .addr)) fun x51 =>
        .st (x51.add 13) (.func (.func f_epoch_Turn_swap) #[(.pointer p0)] #[]) <|
        .ret (.tuple #[]))
      else (
        .ret (.tuple #[]))))
  else (
    .look (opS Try.prog (.nilCheck (.tmp 0)) ty_unit [(.pointer p0)]) (.one (.leaf .addr)) fun x39 =>
    .ld (x39.add 9) (.int .i64) fun x41 =>
    .look (opS Try.prog (.nilCheck (.tmp 0)) ty_unit [(.pointer p0)]) (.one (.leaf .addr)) fun x43 =>
    .ld x43 (.int .i64) fun x46 =>
    bif ((x41 : Int) == x46) then (
      .look (opS Try.prog (.nilCheck (.tmp 0)) ty_unit [(.pointer p0)]) (.one (.leaf .addr)) fun x51 =>
      .st (x51.add 13) (.func (.func f_epoch_Turn_swap) #[(.pointer p0)] #[]) <|
      .ret (.tuple #[]))
    else (
      .ret (.tuple #[])))
theorem t_epoch_Turn_look_eq (p0 : Option Addr) (p1 : Option Addr) : funcTree Try.prog { quiet := [16, 22, 23, 34, 35, 48, 49, 53, 57, 58, 59, 62, 105], quietTmp := false, fncs := [], ifcs := [] } Try.f83 [(.pointer p0), (.pointer p1)] = t_epoch_Turn_look p0 p1 := by kernel_rfl
theorem t_epoch_Turn_look_spec {p0 : Option Addr} {p1 : Option Addr} {H : Heap} {R : Value → Heap → Prop} (h : ∀ L, wp Try.prog (t_epoch_Turn_look p0 p1) L H R) : SpecF Try.prog f_epoch_Turn_look #[(.pointer p0), (.pointer p1)] H R :=
  spec_of_tree (cfg := { quiet := [16, 22, 23, 34, 35, 48, 49, 53, 57, 58, 59, 62, 105], quietTmp := false, fncs := [], ifcs := [] }) Try.func83 fun L => (t_epoch_Turn_look_eq p0 p1).symm ▸ h L

/- (*magpie/epoch.Turn).swap -/
noncomputable def t_epoch_Turn_swap (p0 : Option Addr) (p1 : Option Addr) : Tree :=
  .look (opS Try.prog (.nilCheck (.tmp 0)) ty_unit [(.pointer p0)]) (.one (.leaf .addr)) fun x6 =>
  .ldA x6 [(.int .i64), (.int .i64)] fun x8 =>
  .qcall f_epoch_Table_Global [(.agg #[(.int .i64 x8.1), (.int .i64 x8.2.1)])] (.one (.leaf (.int .i64))) fun x9 =>
  .look (opS Try.prog (.nilCheck (.tmp 0)) ty_unit [(.pointer p0)]) (.one (.leaf .addr)) fun x11 =>
  .ld (x11.add 8) (.int .i64) fun x13 =>
  .look (opS Try.prog (.nilCheck (.tmp 0)) ty_unit [(.pointer p0)]) (.one (.leaf .addr)) fun x15 =>
  .ld (x15.add 8) (.int .i64) fun x17 =>
  .call f_arena_Arena_SwapRaw [(.pointer p1), (.int .i64 x9), (.int .i64 x13), (.int .i64 (w64 (x17 + 1)))] (.one (.leaf .bool)) fun x19 =>
  bif x19 then (
    .look (opS Try.prog (.nilCheck (.tmp 0)) ty_unit [(.pointer p0)]) (.one (.leaf .addr)) fun x21 =>
    .ld (x21.add 8) (.int .i64) fun x23 =>
    .look (opS Try.prog (.nilCheck (.tmp 0)) ty_unit [(.pointer p0)]) (.one (.leaf .addr)) fun x25 =>
    .st (x25.add 8) (.int .i64 (w64 (x23 + 1))) <|
    .call f_epoch_Turn_sort [(.pointer p0)] .unit fun _ =>
    .ret (.tuple #[]))
  else (
    .call f_epoch_Turn_sort [(.pointer p0)] .unit fun _ =>
    .ret (.tuple #[]))
theorem t_epoch_Turn_swap_eq (p0 : Option Addr) (p1 : Option Addr) : funcTree Try.prog { quiet := [16, 22, 23, 34, 35, 48, 49, 53, 57, 58, 59, 62, 105], quietTmp := false, fncs := [], ifcs := [] } Try.f84 [(.pointer p0), (.pointer p1)] = t_epoch_Turn_swap p0 p1 := by kernel_rfl
theorem t_epoch_Turn_swap_spec {p0 : Option Addr} {p1 : Option Addr} {H : Heap} {R : Value → Heap → Prop} (h : ∀ L, wp Try.prog (t_epoch_Turn_swap p0 p1) L H R) : SpecF Try.prog f_epoch_Turn_swap #[(.pointer p0), (.pointer p1)] H R :=
  spec_of_tree (cfg := { quiet := [16, 22, 23, 34, 35, 48, 49, 53, 57, 58, 59, 62, 105], quietTmp := false, fncs := [], ifcs := [] }) Try.func84 fun L => (t_epoch_Turn_swap_eq p0 p1).symm ▸ h L

/- (*magpie/epoch.Turn).sort -/
@[reducible] def t_epoch_Turn_sort_L1_sh : List Sh1 := [(.leaf (.int .i64))]
noncomputable def t_epoch_Turn_sort_L1 (p0 : Option Addr) (x7 : Sl) (y1 : HL Sh1.T t_epoch_Turn_sort_L1_sh) : Tree :=
  bif (decide ((y1.1 : Int) < ((x7.len : Nat) : Int))) then (
    .look (opS Try.prog (.indexAddr ty_s_epoch_Limbo (.tmp 0) (.tmp 1)) ty_unit [(.slice x7.a x7.len x7.cap), (.int .i64 y1.1)]) (.one (.leaf .addr)) fun x11 =>
    .ldA x11 [(.int .i64), (.int .i64)] fun x12 =>
    .newP (.cells #[(.int .i64 0), (.int .i64 0)] ty_epoch_Limbo) fun x3 =>
    .stA x3 [(.int .i64 x12.1), (.int .i64 x12.2.1)] <|
    .ld (x3.add 1) (.int .i64) fun x14 =>
    .look (opS Try.prog (.nilCheck (.tmp 0)) ty_unit [(.pointer p0)]) (.one (.leaf .addr)) fun x17 =>
    .ld (x17.add 8) (.int .i64) fun x19 =>
    bif (decide (((w64 (x14 + 2)) : Int) ≤ x19)) then (
      .look (opS Try.prog (.nilCheck (.tmp 0)) ty_unit [(.pointer p0)]) (.one (.leaf .addr)) fun x23 =>
      .ld (x23.add 11) .slice fun x25 =>
      .look (opS Try.prog (.nilCheck (.tmp 0)) ty_unit [(.pointer p0)]) (.one (.leaf .addr)) fun x27 =>
      .ldA (x27.add 2) [(.int .i64), (.int .i64), (.int .i64), (.int .i64), (.int .i64)] fun x29 =>
      .look (opS Try.prog (.nilCheck (.tmp 0)) ty_unit [(.pointer p0)]) (.one (.leaf .addr)) fun x31 =>
      .ld (x31.add 7) (.int .i64) fun x33 =>
      .ld x3 (.int .i64) fun x35 =>
      .call f_slab_NewFree [(.agg #[(.int .i64 x29.1), (.int .i64 x29.2.1), (.int .i64 x29.2.2.1), (.int .i64 x29.2.2.2.1), (.int .i64 x29.2.2.2.2.1)]), (.int .i64 x33), (.int .i64 x35)] (.one (.leaf .ptr)) fun x36 =>
      .check (ldS (x23.add 11)) (.slice x25.a x25.len x25.cap) <|
      .check (opS Try.prog (.nilCheck (.tmp 0)) ty_unit [(.pointer p0)]) (.pointer (some x23)) <|
      .newS (.cells #[(.pointer x36)] ty_p_slab_Free) 1 fun x37 =>
      .check (ldS (x23.add 11)) (.slice x25.a x25.len x25.cap) <|
      .check (opS Try.prog (.nilCheck (.tmp 0)) ty_unit [(.pointer p0)]) (.pointer (some x23)) <|
      .act (opS Try.prog (.call { callee := .builtin .append, args := #[(.tmp 0), (.tmp 1)], argTypes := #[ty_s_p_slab_Free, ty_s_p_slab_Free] }) ty_s_p_slab_Free [(.slice x25.a x25.len x25.cap), (.slice x37.a x37.len x37.cap)]) (.one (.leaf .slice)) fun x38 =>
      .look (opS Try.prog (.nilCheck (.tmp 0)) ty_unit [(.pointer p0)]) (.one (.leaf .addr)) fun x39 =>
      .st (x39.add 11) (.slice x38.a x38.len x38.cap) <|
      .again 64 [(.int .i64 (w64 (y1.1 + 1)))])
    else (
      .look (opS Try.prog (.nilCheck (.tmp 0)) ty_unit [(.pointer p0)]) (.one (.leaf .addr)) fun x43 =>
      .ld (x43.add 12) .slice fun x45 =>
      .ldA x3 [(.int .i64), (.int .i64)] fun x46 =>
      .newS (.cells #[(.int .i64 x46.1), (.int .i64 x46.2.1)] ty_epoch_Limbo) 1 fun x47 =>
      .check (ldS (x43.add 12)) (.slice x45.a x45.len x45.cap) <|
      .check (opS Try.prog (.nilCheck (.tmp 0)) ty_unit [(.pointer p0)]) (.pointer (some x43)) <|
      .act (opS Try.prog (.call { callee := .builtin .append, args := #[(.tmp 0), (.tmp 1)], argTypes := #[ty_s_epoch_Limbo, ty_s_epoch_Limbo] }) ty_s_epoch_Limbo [(.slice x45.a x45.len x45.cap), (.slice x47.a x47.len x47.cap)]) (.one (.leaf .slice)) fun x48 =>
      .look (opS Try.prog (.nilCheck (.tmp 0)) ty_unit [(.pointer p0)]) (.one (.leaf .addr)) fun x49 =>
      .st (x49.add 12) (.slice x48.a x48.len x48.cap) <|
      .again 64 [(.int .i64 (w64 (y1.1 + 1)))]))
  else (
    .look (opS Try.prog (.nilCheck (.tmp 0)) ty_unit [(.pointer p0)]) (.one (.leaf .addr)) fun x55 =>
    .st (x55.add 13) (.func (.func f_epoch_Turn_free) #[(.pointer p0)] #[]) <|
    .look (opS Try.prog (.nilCheck (.tmp 0)) ty_unit [(.pointer p0)]) (.one (.leaf .addr)) fun x58 =>
    .ld (x58.add 11) .slice fun x60 =>
    bif ((((x60.len : Nat) : Int) : Int) == 0) then (
      .look (opS Try.prog (.nilCheck (.tmp 0)) ty_unit [(.pointer p0)]) (.one (.leaf .addr)) fun x64 =>
      .st (x64.add 13) .nilFunc <|
      .ret (.tuple #[]))
    else (
      .ret (.tuple #[])))
noncomputable def t_epoch_Turn_sort (p0 : Option Addr) : Tree :=
  .look (opS Try.prog (.nilCheck (.tmp 0)) ty_unit [(.pointer p0)]) (.one (.leaf .addr)) fun x5 =>
  .ld (x5.add 10) .slice fun x7 =>
  .loop 64 t_epoch_Turn_sort_L1_sh [(.int .i64 0)] (t_epoch_Turn_sort_L1 p0 x7)
theorem t_epoch_Turn_sort_eq (p0 : Option Addr) : funcTree Try.prog { quiet := [16, 22, 23, 34, 35, 48, 49, 53, 57, 58, 59, 62, 105], quietTmp := false, fncs := [], ifcs := [] } Try.f86 [(.pointer p0)] = t_epoch_Turn_sort p0 := by kernel_rfl
theorem t_epoch_Turn_sort_spec {p0 : Option Addr} {H : Heap} {R : Value → Heap → Prop} (h : ∀ L, wp Try.prog (t_epoch_Turn_sort p0) L H R) : SpecF Try.prog f_epoch_Turn_sort #[(.pointer p0)] H R :=
  spec_of_tree (cfg := { quiet := [16, 22, 23, 34, 35, 48, 49, 53, 57, 58, 59, 62, 105], quietTmp := false, fncs := [], ifcs := [] }) Try.func86 fun L => (t_epoch_Turn_sort_eq p0).symm ▸ h L

/- (*magpie/epoch.Turn).free -/
noncomputable def t_epoch_Turn_free (p0 : Option Addr) (p1 : Option Addr) : Tree :=
  .look (opS Try.prog (.nilCheck (.tmp 0)) ty_unit [(.pointer p0)]) (.one (.leaf .addr)) fun x5 =>
  .ld (x5.add 11) .slice fun x7 =>
  .look (opS Try.prog (.indexAddr ty_s_p_slab_Free (.tmp 0) (.const (.int .i64 0))) ty_unit [(.slice x7.a x7.len x7.cap)]) (.one (.leaf .addr)) fun x8 =>
  .ld x8 .ptr fun x9 =>
  .call f_slab_Free_Step [(.pointer x9), (.pointer p1)] (.one (.leaf .bool)) fun x11 =>
  bif x11 then (
    .look (opS Try.prog (.nilCheck (.tmp 0)) ty_unit [(.pointer p0)]) (.one (.leaf .addr)) fun x14 =>
    .ld (x14.add 11) .slice fun x16 =>
    .look (opS Try.prog (.slice ty_s_p_slab_Free (.tmp 0) (some (.const (.int .i64 1))) none none) ty_s_p_slab_Free [(.slice x16.a x16.len x16.cap)]) (.one (.leaf .slice)) fun x17 =>
    .look (opS Try.prog (.nilCheck (.tmp 0)) ty_unit [(.pointer p0)]) (.one (.leaf .addr)) fun x18 =>
    .st (x18.add 11) (.slice x17.a x17.len x17.cap) <|
    .look (opS Try.prog (.nilCheck (.tmp 0)) ty_unit [(.pointer p0)]) (.one (.leaf .addr)) fun x21 =>
    .ld (x21.add 11) .slice fun x23 =>
    bif ((((x23.len : Nat) : Int) : Int) == 0) then (
      .look (opS Try.prog (.nilCheck (.tmp 0)) ty_unit [(.pointer p0)]) (.one (.leaf .addr)) fun x27 =>
      .st (x27.add 13) .nilFunc <|
      .ret (.tuple #[]))
    else (
      .ret (.tuple #[])))
  else (
    .look (opS Try.prog (.nilCheck (.tmp 0)) ty_unit [(.pointer p0)]) (.one (.leaf .addr)) fun x21 =>
    .ld (x21.add 11) .slice fun x23 =>
    bif ((((x23.len : Nat) : Int) : Int) == 0) then (
      .look (opS Try.prog (.nilCheck (.tmp 0)) ty_unit [(.pointer p0)]) (.one (.leaf .addr)) fun x27 =>
      .st (x27.add 13) .nilFunc <|
      .ret (.tuple #[]))
    else (
      .ret (.tuple #[])))
theorem t_epoch_Turn_free_eq (p0 : Option Addr) (p1 : Option Addr) : funcTree Try.prog { quiet := [16, 22, 23, 34, 35, 48, 49, 53, 57, 58, 59, 62, 105], quietTmp := false, fncs := [], ifcs := [] } Try.f88 [(.pointer p0), (.pointer p1)] = t_epoch_Turn_free p0 p1 := by kernel_rfl
theorem t_epoch_Turn_free_spec {p0 : Option Addr} {p1 : Option Addr} {H : Heap} {R : Value → Heap → Prop} (h : ∀ L, wp Try.prog (t_epoch_Turn_free p0 p1) L H R) : SpecF Try.prog f_epoch_Turn_free #[(.pointer p0), (.pointer p1)] H R :=
  spec_of_tree (cfg := { quiet := [16, 22, 23, 34, 35, 48, 49, 53, 57, 58, 59, 62, 105], quietTmp := false, fncs := [], ifcs := [] }) Try.func88 fun L => (t_epoch_Turn_free_eq p0 p1).symm ▸ h L

/- (*magpie/epoch.Turn).Step -/
noncomputable def t_epoch_Turn_Step (p0 : Option Addr) (p1 : Option Addr) : Tree :=
  .look (opS Try.prog (.nilCheck (.tmp 0)) ty_unit [(.pointer p0)]) (.one (.leaf .addr)) fun x6 =>
  .ld (x6.add 13) .val fun x8 =>
  .look (opS Try.prog (.binOp .neq ty_epoch_step (.tmp 0) (.const .nilFunc) ty_epoch_step) ty_bool [x8]) (.one (.leaf .bool)) fun x9 =>
  bif x9 then (
    .look (opS Try.prog (.nilCheck (.tmp 0)) ty_unit [(.pointer p0)]) (.one (.leaf .addr)) fun x11 =>
    .ld (x11.add 13) .val fun x13 =>
    .act (opS Try.prog (.call { callee := .value (.tmp 0), args := #[(.tmp 1)], argTypes := #[ty_p_arena_Arena] }) ty_unit [x13, (.pointer p1)]) .unit fun _ =>
    .look (opS Try.prog (.nilCheck (.tmp 0)) ty_unit [(.pointer p0)]) (.one (.leaf .addr)) fun x17 =>
    .ld (x17.add 13) .val fun x19 =>
    .look (opS Try.prog (.binOp .eql ty_epoch_step (.tmp 0) (.const .nilFunc) ty_epoch_step) ty_bool [x19]) (.one (.leaf .bool)) fun x20 =>
    .ret (.bool x20))
  else (
    .look (opS Try.prog (.nilCheck (.tmp 0)) ty_unit [(.pointer p0)]) (.one (.leaf .addr)) fun x17 =>
    .ld (x17.add 13) .val fun x19 =>
    .look (opS Try.prog (.binOp .eql ty_epoch_step (.tmp 0) (.const .nilFunc) ty_epoch_step) ty_bool [x19]) (.one (.leaf .bool)) fun x20 =>
    .ret (.bool x20))
theorem t_epoch_Turn_Step_eq (p0 : Option Addr) (p1 : Option Addr) : funcTree Try.prog { quiet := [16, 22, 23, 34, 35, 48, 49, 53, 57, 58, 59, 62, 105], quietTmp := false, fncs := [], ifcs := [] } Try.f54 [(.pointer p0), (.pointer p1)] = t_epoch_Turn_Step p0 p1 := by kernel_rfl
theorem t_epoch_Turn_Step_spec {p0 : Option Addr} {p1 : Option Addr} {H : Heap} {R : Value → Heap → Prop} (h : ∀ L, wp Try.prog (t_epoch_Turn_Step p0 p1) L H R) : SpecF Try.prog f_epoch_Turn_Step #[(.pointer p0), (.pointer p1)] H R :=
  spec_of_tree (cfg := { quiet := [16, 22, 23, 34, 35, 48, 49, 53, 57, 58, 59, 62, 105], quietTmp := false, fncs := [], ifcs := [] }) Try.func54 fun L => (t_epoch_Turn_Step_eq p0 p1).symm ▸ h L

/- (*magpie/epoch.Turn).Left -/
noncomputable def t_epoch_Turn_Left (p0 : Option Addr) : Tree :=
  .look (opS Try.prog (.nilCheck (.tmp 0)) ty_unit [(.pointer p0)]) (.one (.leaf .addr)) fun x4 =>
  .ld (x4.add 13) .val fun x6 =>
  .look (opS Try.prog (.binOp .neq ty_epoch_step (.tmp 0) (.const .nilFunc) ty_epoch_step) ty_bool [x6]) (.one (.leaf .bool)) fun x7 =>
  bif x7 then (
    .ret (.slice none 0 0))
  else (
    .look (opS Try.prog (.nilCheck (.tmp 0)) ty_unit [(.pointer p0)]) (.one (.leaf .addr)) fun x9 =>
    .ld (x9.add 12) .slice fun x11 =>
    .act (opS Try.prog (.call { callee := .builtin .append, args := #[(.const (.slice none 0 0)), (.tmp 0)], argTypes := #[ty_s_epoch_Limbo, ty_s_epoch_Limbo] }) ty_s_epoch_Limbo [(.slice x11.a x11.len x11.cap)]) (.one (.leaf .slice)) fun x12 =>
    .ret (.slice x12.a x12.len x12.cap))
theorem t_epoch_Turn_Left_eq (p0 : Option Addr) : funcTree Try.prog { quiet := [16, 22, 23, 34, 35, 48, 49, 53, 57, 58, 59, 62, 105], quietTmp := false, fncs := [], ifcs := [] } Try.f52 [(.pointer p0)] = t_epoch_Turn_Left p0 := by kernel_rfl
theorem t_epoch_Turn_Left_spec {p0 : Option Addr} {H : Heap} {R : Value → Heap → Prop} (h : ∀ L, wp Try.prog (t_epoch_Turn_Left p0) L H R) : SpecF Try.prog f_epoch_Turn_Left #[(.pointer p0)] H R :=
  spec_of_tree (cfg := { quiet := [16, 22, 23, 34, 35, 48, 49, 53, 57, 58, 59, 62, 105], quietTmp := false, fncs := [], ifcs := [] }) Try.func52 fun L => (t_epoch_Turn_Left_eq p0).symm ▸ h L

end Go.Proofs.Ytfphgiipekkgdaa

set_option linter.unusedVariables false
set_option maxRecDepth 20000
namespace Go.Proofs.Ytfphgiipekkgdaa
open Go Go.Fw

/-! ### epoch.Pin -/

section
variable {L : Hands} {R : Value → Heap → Prop} {A : Ar} {I : List Nat} {l : Bl} {G : Heap}

theorem Global_det (tw ta : Int) (H : Heap) : Det Try.prog f_epoch_Table_Global [.agg #[.int .i64 tw, .int .i64 ta]] H (.int .i64 ta) H := by
  refine t_epoch_Table_Global_spec (p0_0 := tw) (p0_1 := ta) fun L => ?_
  unfold t_epoch_Table_Global
  refine wp_newP fun b hb => wp_ld_of (x := ta) (by rw [Addr.add_mk, Heap.cell_set]; rfl) ?_
  exact ⟨H, Heap.le_set_new _ hb, rfl, rfl⟩
theorem wq_Global {H : Heap} {tw ta : Int} {k : Int → Tree} (h : wp Try.prog (k ta) L H R) :
    wp Try.prog (.qcall f_epoch_Table_Global [.agg #[.int .i64 tw, .int .i64 ta]] (.one (.leaf (.int .i64))) k) L H R := wp_qcall_det (x := ta) (Global_det tw ta H) h
def ewd (ta w : Int) : Int := w64 (w64 (ta + 1) + w)
theorem ewd_eq {ta w : Int} (b : 0 ≤ ta ∧ ta ≤ 1000000 ∧ 0 ≤ w ∧ w ≤ 1000000) : ewd ta w = ta + 1 + w := by
  unfold ewd; rw [w64_in (x := ta + 1) (by omega) (by omega), w64_in (by omega) (by omega)]
theorem EWord_det (tw ta w : Int) (H : Heap) : Det Try.prog f_epoch_Table_Word [.agg #[.int .i64 tw, .int .i64 ta], .int .i64 w] H (.int .i64 (ewd ta w)) H := by
  refine t_epoch_Table_Word_spec (p0_0 := tw) (p0_1 := ta) fun L => ?_
  unfold t_epoch_Table_Word
  refine wp_newP fun b hb => wp_ld_of (x := ta) (by rw [Addr.add_mk, Heap.cell_set]; rfl) ?_
  exact ⟨H, Heap.le_set_new _ hb, rfl, rfl⟩
theorem wq_EWord {H : Heap} {tw ta w : Int} {k : Int → Tree} (h : wp Try.prog (k (ewd ta w)) L H R) :
    wp Try.prog (.qcall f_epoch_Table_Word [.agg #[.int .i64 tw, .int .i64 ta], .int .i64 w] (.one (.leaf (.int .i64))) k) L H R := wp_qcall_det (x := ewd ta w) (EWord_det tw ta w H) h
theorem ERaw_det {w n : Int} (b1 : 0 ≤ w ∧ w ≤ 100000) (H : Heap) : Det Try.prog f_epoch_Raw [.int .i64 w, .int .i64 n] H (.tuple #[.agg #[.int .i64 w, .int .i64 n], .int .i64 (1 + w)]) H := by
  refine t_epoch_Raw_spec fun L => ?_
  unfold t_epoch_Raw
  have e : w64 (1 + imax w 0) = 1 + w := by
    rw [show imax w 0 = w by unfold imax; rw [if_neg (by omega)]]
    exact w64_in (by omega) (by omega)
  rw [e]
  refine wp_newP fun b hb => ?_
  refine wp_stA_of (Heap.set_same _ _ _) (by exact Nat.le_refl 2) (singles _ rfl) ?_
  rw [Heap.set_set]
  have c1 : putAll #[.int .i64 0, .int .i64 0] 0 [.int .i64 w, .int .i64 n] = #[.int .i64 w, .int .i64 n] := rfl
  rw [c1]
  exact ⟨((w, n, ()), 1 + w, ()), ldK_still (Heap.set_same _ _ _) 2 0 #[] (by simp) rfl, H, Heap.le_set_new _ hb, rfl, rfl⟩
theorem wq_ERaw {H : Heap} {w n : Int} {k : HL Sh1.T [(.agg [(.int .i64), (.int .i64)]), (.leaf (.int .i64))] → Tree} (b1 : 0 ≤ w ∧ w ≤ 100000) (h : wp Try.prog (k ((w, n, ()), 1 + w, ())) L H R) :
    wp Try.prog (.qcall f_epoch_Raw [.int .i64 w, .int .i64 n] (.tup [(.agg [(.int .i64), (.int .i64)]), (.leaf (.int .i64))]) k) L H R := wp_qcall_det (x := ((w, n, ()), 1 + w, ())) (ERaw_det b1 H) h

theorem fneq (f : FuncId) (x : Value) : opS Try.prog (.binOp .neq ty_epoch_step (.tmp 0) (.const .nilFunc) ty_epoch_step) ty_bool [.func (.func f) #[x] #[]] = .pure (.value (.bool true)) := by kernel_rfl
theorem fneq0 : opS Try.prog (.binOp .neq ty_epoch_step (.tmp 0) (.const .nilFunc) ty_epoch_step) ty_bool [.nilFunc] = .pure (.value (.bool false)) := by kernel_rfl
theorem feq (f : FuncId) (x : Value) : opS Try.prog (.binOp .eql ty_epoch_step (.tmp 0) (.const .nilFunc) ty_epoch_step) ty_bool [.func (.func f) #[x] #[]] = .pure (.value (.bool false)) := by kernel_rfl
theorem feq0 : opS Try.prog (.binOp .eql ty_epoch_step (.tmp 0) (.const .nilFunc) ty_epoch_step) ty_bool [.nilFunc] = .pure (.value (.bool true)) := by kernel_rfl
theorem fcall0 (x y : Value) : opS Try.prog (.call { callee := .value (.tmp 0), args := #[(.tmp 1)], argTypes := #[ty_p_arena_Arena] }) ty_unit [.func (.func f_epoch_Pin_global) #[x] #[], y] = .pure (.enter f_epoch_Pin_global [x, y].toArray) := by kernel_rfl
theorem fcall1 (x y : Value) : opS Try.prog (.call { callee := .value (.tmp 0), args := #[(.tmp 1)], argTypes := #[ty_p_arena_Arena] }) ty_unit [.func (.func f_epoch_Pin_own) #[x] #[], y] = .pure (.enter f_epoch_Pin_own [x, y].toArray) := by kernel_rfl
theorem fcall2 (x y : Value) : opS Try.prog (.call { callee := .value (.tmp 0), args := #[(.tmp 1)], argTypes := #[ty_p_arena_Arena] }) ty_unit [.func (.func f_epoch_Pin_again) #[x] #[], y] = .pure (.enter f_epoch_Pin_again [x, y].toArray) := by kernel_rfl

structure Pn where
  tw : Int
  ta : Int
  work : Int
  e : Int
  ph : Nat
def pnNext (q : Nat) : Nat → Value
  | 0 => .func (.func f_epoch_Pin_global) #[.pointer (some ⟨q, 0, none⟩)] #[]
  | 1 => .func (.func f_epoch_Pin_own) #[.pointer (some ⟨q, 0, none⟩)] #[]
  | 2 => .func (.func f_epoch_Pin_again) #[.pointer (some ⟨q, 0, none⟩)] #[]
  | _ => .nilFunc
def Pn.cells (m : Pn) (q : Nat) : List Value := [.int .i64 m.tw, .int .i64 m.ta, .int .i64 m.work, .int .i64 m.e, pnNext q m.ph]
def Pn.bl (m : Pn) (q : Nat) : Bl := [(q, oc ty_epoch_Pin (m.cells q))]
def Pn.step (m : Pn) (A : Ar) : Pn × Ar :=
  if m.ph = 0 then ({ m with e := A.rawF m.ta, ph := 1 }, A.touchR m.ta)
  else if m.ph = 1 then ({ m with ph := 2 }, A.storeR (ewd m.ta m.work) (w64 (m.e + 1)))
  else if m.ph = 2 then ({ m with e := A.rawF m.ta, ph := if A.rawF m.ta = m.e then 3 else 1 }, A.touchR m.ta)
  else (m, A)
def mPn : Mch Pn Nat where
  f := f_epoch_Pin_Step
  addr := id
  bl := Pn.bl
  inv := fun m _ => m.ph ≤ 3
  step := Pn.step
  fin := fun m => decide (m.ph = 3)
set_option maxHeartbeats 2000000 in
theorem mPn_ok : mPn.ok := by
  rintro I A G ⟨tw, ta, work, e, ph⟩ q hA ok iv
  have iv : ph ≤ 3 := iv
  have ok : Ok I G (keys [(q, oc ty_epoch_Pin [.int .i64 tw, .int .i64 ta, .int .i64 work, .int .i64 e, pnNext q ph])]) := ok
  show SpecF Try.prog f_epoch_Pin_Step #[.pointer (some ⟨q, 0, none⟩), .pointer (aI I)] (own A [(q, oc ty_epoch_Pin [.int .i64 tw, .int .i64 ta, .int .i64 work, .int .i64 e, pnNext q ph])] G) fun v K => ∃ j', v = .bool (decide ((Pn.step ⟨tw, ta, work, e, ph⟩ A).1.ph = 3)) ∧ K = own (Pn.step ⟨tw, ta, work, e, ph⟩ A).2 ((Pn.step ⟨tw, ta, work, e, ph⟩ A).1.bl j') G ∧ j' = q ∧ Ok I G (keys ((Pn.step ⟨tw, ta, work, e, ph⟩ A).1.bl j')) ∧ Aw I (Pn.step ⟨tw, ta, work, e, ph⟩ A).2
  refine t_epoch_Pin_Step_spec fun L => ?_
  unfold t_epoch_Pin_Step
  repeat (first
  | refine wp_nil.2 ?_
  | refine w_ld 0 hA ok rfl rfl rfl ?_
  | refine w_ld 1 hA ok rfl rfl rfl ?_
  | refine w_ld 2 hA ok rfl rfl rfl ?_
  | refine w_ld 3 hA ok rfl rfl rfl ?_
  | refine w_ld 4 hA ok rfl rfl rfl ?_
  | refine w_ld 5 hA ok rfl rfl rfl ?_
  | refine w_ld 6 hA ok rfl rfl rfl ?_
  | refine w_ld 7 hA ok rfl rfl rfl ?_
  | refine w_st 0 hA ok rfl rfl rfl rfl ?_
  | refine w_st 1 hA ok rfl rfl rfl rfl ?_
  | refine w_st 2 hA ok rfl rfl rfl rfl ?_
  | refine w_st 3 hA ok rfl rfl rfl rfl ?_
  | refine w_st 4 hA ok rfl rfl rfl rfl ?_
  | refine w_st 5 hA ok rfl rfl rfl rfl ?_
  | refine w_st 6 hA ok rfl rfl rfl rfl ?_
  | refine w_st 7 hA ok rfl rfl rfl rfl ?_
  | refine w_ldA 0 hA ok rfl rfl rfl ?_
  | refine w_ldA 1 hA ok rfl rfl rfl ?_
  | refine w_ldA 2 hA ok rfl rfl rfl ?_
  | refine w_ldA 3 hA ok rfl rfl rfl ?_
  | refine w_ldA 4 hA ok rfl rfl rfl ?_
  | refine w_ldA 5 hA ok rfl rfl rfl ?_
  | refine w_ldA 6 hA ok rfl rfl rfl ?_
  | refine w_ldA 7 hA ok rfl rfl rfl ?_
  | refine w_stA 0 hA ok rfl rfl rfl rfl ?_
  | refine w_stA 1 hA ok rfl rfl rfl rfl ?_
  | refine w_stA 2 hA ok rfl rfl rfl rfl ?_
  | refine w_stA 3 hA ok rfl rfl rfl rfl ?_
  | refine w_stA 4 hA ok rfl rfl rfl rfl ?_
  | refine w_stA 5 hA ok rfl rfl rfl rfl ?_
  | refine w_stA 6 hA ok rfl rfl rfl rfl ?_
  | refine w_stA 7 hA ok rfl rfl rfl rfl ?_
  | (refine w_Raw hA ?_; intro hA)
  | (refine w_SetRaw hA ?_; intro hA)
  | (refine w_SwapRaw hA ?_; intro hA)
  | (refine w_AddRaw hA ?_; intro hA)
  | (refine w_Load hA ?_; intro hA)
  | (refine w_Store hA ?_; intro hA)
  | (refine w_Retire hA ?_; intro hA)
  | (refine w_Died hA ?_; intro hA)
  | (refine w_Born hA ?_; intro hA)
  | refine w_State hA ?_
  | refine w_Uses hA ?_
  | refine w_Fault hA ?_
  | refine w_Words hA ?_
  | refine w_Count hA ?_
  | refine wq_Size ?_
  | refine wq_Open ?_
  | refine wq_Pack ?_
  | refine wq_head ?_
  | refine w_ck 0 hA ok rfl rfl rfl ?_
  | refine w_ck 1 hA ok rfl rfl rfl ?_
  | refine w_ck 2 hA ok rfl rfl rfl ?_
  | refine w_ck 3 hA ok rfl rfl rfl ?_
  | refine w_ck 4 hA ok rfl rfl rfl ?_
  | refine w_ck 5 hA ok rfl rfl rfl ?_
  | refine w_ck 6 hA ok rfl rfl rfl ?_
  | refine w_ck 7 hA ok rfl rfl rfl ?_
  | refine w_ckn rfl ?_
  | refine w_Base 0 1 hA ok rfl rfl ?_
  | refine w_Base 1 2 hA ok rfl rfl ?_
  | refine w_Base 2 3 hA ok rfl rfl ?_
  | refine w_Base 3 4 hA ok rfl rfl ?_
  | refine w_Base 4 5 hA ok rfl rfl ?_
  | refine w_Base 5 6 hA ok rfl rfl ?_
  | (refine w_PopStep 0 1 hA ok rfl rfl ?_; intro hA)
  | (refine w_PopStep 1 2 hA ok rfl rfl ?_; intro hA)
  | (refine w_PopStep 2 3 hA ok rfl rfl ?_; intro hA)
  | (refine w_PopStep 3 4 hA ok rfl rfl ?_; intro hA)
  | (refine w_PopStep 4 5 hA ok rfl rfl ?_; intro hA)
  | (refine w_PopStep 5 6 hA ok rfl rfl ?_; intro hA)
  | (refine w_PushStep 0 1 hA ok rfl rfl ?_; intro hA)
  | (refine w_PushStep 1 2 hA ok rfl rfl ?_; intro hA)
  | (refine w_PushStep 2 3 hA ok rfl rfl ?_; intro hA)
  | (refine w_PushStep 3 4 hA ok rfl rfl ?_; intro hA)
  | (refine w_PushStep 4 5 hA ok rfl rfl ?_; intro hA)
  | (refine w_PushStep 5 6 hA ok rfl rfl ?_; intro hA)
  | refine wp_true (by assumption) ?_
  | refine wp_false (by assumption) ?_)
  match ph, iv with
  | 0, _ =>
    refine look_val (x := true) (fneq _ _) (wp_true rfl ?_)
    repeat (first
  | refine wp_nil.2 ?_
  | refine w_ld 0 hA ok rfl rfl rfl ?_
  | refine w_ld 1 hA ok rfl rfl rfl ?_
  | refine w_ld 2 hA ok rfl rfl rfl ?_
  | refine w_ld 3 hA ok rfl rfl rfl ?_
  | refine w_ld 4 hA ok rfl rfl rfl ?_
  | refine w_ld 5 hA ok rfl rfl rfl ?_
  | refine w_ld 6 hA ok rfl rfl rfl ?_
  | refine w_ld 7 hA ok rfl rfl rfl ?_
  | refine w_st 0 hA ok rfl rfl rfl rfl ?_
  | refine w_st 1 hA ok rfl rfl rfl rfl ?_
  | refine w_st 2 hA ok rfl rfl rfl rfl ?_
  | refine w_st 3 hA ok rfl rfl rfl rfl ?_
  | refine w_st 4 hA ok rfl rfl rfl rfl ?_
  | refine w_st 5 hA ok rfl rfl rfl rfl ?_
  | refine w_st 6 hA ok rfl rfl rfl rfl ?_
  | refine w_st 7 hA ok rfl rfl rfl rfl ?_
  | refine w_ldA 0 hA ok rfl rfl rfl ?_
  | refine w_ldA 1 hA ok rfl rfl rfl ?_
  | refine w_ldA 2 hA ok rfl rfl rfl ?_
  | refine w_ldA 3 hA ok rfl rfl rfl ?_
  | refine w_ldA 4 hA ok rfl rfl rfl ?_
  | refine w_ldA 5 hA ok rfl rfl rfl ?_
  | refine w_ldA 6 hA ok rfl rfl rfl ?_
  | refine w_ldA 7 hA ok rfl rfl rfl ?_
  | refine w_stA 0 hA ok rfl rfl rfl rfl ?_
  | refine w_stA 1 hA ok rfl rfl rfl rfl ?_
  | refine w_stA 2 hA ok rfl rfl rfl rfl ?_
  | refine w_stA 3 hA ok rfl rfl rfl rfl ?_
  | refine w_stA 4 hA ok rfl rfl rfl rfl ?_
  | refine w_stA 5 hA ok rfl rfl rfl rfl ?_
  | refine w_stA 6 hA ok rfl rfl rfl rfl ?_
  | refine w_stA 7 hA ok rfl rfl rfl rfl ?_
  | (refine w_Raw hA ?_; intro hA)
  | (refine w_SetRaw hA ?_; intro hA)
  | (refine w_SwapRaw hA ?_; intro hA)
  | (refine w_AddRaw hA ?_; intro hA)
  | (refine w_Load hA ?_; intro hA)
  | (refine w_Store hA ?_; intro hA)
  | (refine w_Retire hA ?_; intro hA)
  | (refine w_Died hA ?_; intro hA)
  | (refine w_Born hA ?_; intro hA)
  | refine w_State hA ?_
  | refine w_Uses hA ?_
  | refine w_Fault hA ?_
  | refine w_Words hA ?_
  | refine w_Count hA ?_
  | refine wq_Size ?_
  | refine wq_Open ?_
  | refine wq_Pack ?_
  | refine wq_head ?_
  | refine w_ck 0 hA ok rfl rfl rfl ?_
  | refine w_ck 1 hA ok rfl rfl rfl ?_
  | refine w_ck 2 hA ok rfl rfl rfl ?_
  | refine w_ck 3 hA ok rfl rfl rfl ?_
  | refine w_ck 4 hA ok rfl rfl rfl ?_
  | refine w_ck 5 hA ok rfl rfl rfl ?_
  | refine w_ck 6 hA ok rfl rfl rfl ?_
  | refine w_ck 7 hA ok rfl rfl rfl ?_
  | refine w_ckn rfl ?_
  | refine w_Base 0 1 hA ok rfl rfl ?_
  | refine w_Base 1 2 hA ok rfl rfl ?_
  | refine w_Base 2 3 hA ok rfl rfl ?_
  | refine w_Base 3 4 hA ok rfl rfl ?_
  | refine w_Base 4 5 hA ok rfl rfl ?_
  | refine w_Base 5 6 hA ok rfl rfl ?_
  | (refine w_PopStep 0 1 hA ok rfl rfl ?_; intro hA)
  | (refine w_PopStep 1 2 hA ok rfl rfl ?_; intro hA)
  | (refine w_PopStep 2 3 hA ok rfl rfl ?_; intro hA)
  | (refine w_PopStep 3 4 hA ok rfl rfl ?_; intro hA)
  | (refine w_PopStep 4 5 hA ok rfl rfl ?_; intro hA)
  | (refine w_PopStep 5 6 hA ok rfl rfl ?_; intro hA)
  | (refine w_PushStep 0 1 hA ok rfl rfl ?_; intro hA)
  | (refine w_PushStep 1 2 hA ok rfl rfl ?_; intro hA)
  | (refine w_PushStep 2 3 hA ok rfl rfl ?_; intro hA)
  | (refine w_PushStep 3 4 hA ok rfl rfl ?_; intro hA)
  | (refine w_PushStep 4 5 hA ok rfl rfl ?_; intro hA)
  | (refine w_PushStep 5 6 hA ok rfl rfl ?_; intro hA)
  | refine wp_true (by assumption) ?_
  | refine wp_false (by assumption) ?_)
    refine act_enter (fcall0 _ _) ?_
    refine wp_call_of (R0 := fun v K => v = .tuple #[] ∧ K = own (A.touchR ta) [(q, oc ty_epoch_Pin [.int .i64 tw, .int .i64 ta, .int .i64 work, .int .i64 (A.rawF ta), pnNext q 1])] G ∧ Aw I (A.touchR ta)) ?_ ?_
    · refine t_epoch_Pin_global_spec fun L => ?_
      unfold t_epoch_Pin_global
      repeat (first
  | refine wp_nil.2 ?_
  | refine w_ld 0 hA ok rfl rfl rfl ?_
  | refine w_ld 1 hA ok rfl rfl rfl ?_
  | refine w_ld 2 hA ok rfl rfl rfl ?_
  | refine w_ld 3 hA ok rfl rfl rfl ?_
  | refine w_ld 4 hA ok rfl rfl rfl ?_
  | refine w_ld 5 hA ok rfl rfl rfl ?_
  | refine w_ld 6 hA ok rfl rfl rfl ?_
  | refine w_ld 7 hA ok rfl rfl rfl ?_
  | refine w_st 0 hA ok rfl rfl rfl rfl ?_
  | refine w_st 1 hA ok rfl rfl rfl rfl ?_
  | refine w_st 2 hA ok rfl rfl rfl rfl ?_
  | refine w_st 3 hA ok rfl rfl rfl rfl ?_
  | refine w_st 4 hA ok rfl rfl rfl rfl ?_
  | refine w_st 5 hA ok rfl rfl rfl rfl ?_
  | refine w_st 6 hA ok rfl rfl rfl rfl ?_
  | refine w_st 7 hA ok rfl rfl rfl rfl ?_
  | refine w_ldA 0 hA ok rfl rfl rfl ?_
  | refine w_ldA 1 hA ok rfl rfl rfl ?_
  | refine w_ldA 2 hA ok rfl rfl rfl ?_
  | refine w_ldA 3 hA ok rfl rfl rfl ?_
  | refine w_ldA 4 hA ok rfl rfl rfl ?_
  | refine w_ldA 5 hA ok rfl rfl rfl ?_
  | refine w_ldA 6 hA ok rfl rfl rfl ?_
  | refine w_ldA 7 hA ok rfl rfl rfl ?_
  | refine w_stA 0 hA ok rfl rfl rfl rfl ?_
  | refine w_stA 1 hA ok rfl rfl rfl rfl ?_
  | refine w_stA 2 hA ok rfl rfl rfl rfl ?_
  | refine w_stA 3 hA ok rfl rfl rfl rfl ?_
  | refine w_stA 4 hA ok rfl rfl rfl rfl ?_
  | refine w_stA 5 hA ok rfl rfl rfl rfl ?_
  | refine w_stA 6 hA ok rfl rfl rfl rfl ?_
  | refine w_stA 7 hA ok rfl rfl rfl rfl ?_
  | (refine w_Raw hA ?_; intro hA)
  | (refine w_SetRaw hA ?_; intro hA)
  | (refine w_SwapRaw hA ?_; intro hA)
  | (refine w_AddRaw hA ?_; intro hA)
  | (refine w_Load hA ?_; intro hA)
  | (refine w_Store hA ?_; intro hA)
  | (refine w_Retire hA ?_; intro hA)
  | (refine w_Died hA ?_; intro hA)
  | (refine w_Born hA ?_; intro hA)
  | refine w_State hA ?_
  | refine w_Uses hA ?_
  | refine w_Fault hA ?_
  | refine w_Words hA ?_
  | refine w_Count hA ?_
  | refine wq_Size ?_
  | refine wq_Open ?_
  | refine wq_Pack ?_
  | refine wq_head ?_
  | refine w_ck 0 hA ok rfl rfl rfl ?_
  | refine w_ck 1 hA ok rfl rfl rfl ?_
  | refine w_ck 2 hA ok rfl rfl rfl ?_
  | refine w_ck 3 hA ok rfl rfl rfl ?_
  | refine w_ck 4 hA ok rfl rfl rfl ?_
  | refine w_ck 5 hA ok rfl rfl rfl ?_
  | refine w_ck 6 hA ok rfl rfl rfl ?_
  | refine w_ck 7 hA ok rfl rfl rfl ?_
  | refine w_ckn rfl ?_
  | refine w_Base 0 1 hA ok rfl rfl ?_
  | refine w_Base 1 2 hA ok rfl rfl ?_
  | refine w_Base 2 3 hA ok rfl rfl ?_
  | refine w_Base 3 4 hA ok rfl rfl ?_
  | refine w_Base 4 5 hA ok rfl rfl ?_
  | refine w_Base 5 6 hA ok rfl rfl ?_
  | (refine w_PopStep 0 1 hA ok rfl rfl ?_; intro hA)
  | (refine w_PopStep 1 2 hA ok rfl rfl ?_; intro hA)
  | (refine w_PopStep 2 3 hA ok rfl rfl ?_; intro hA)
  | (refine w_PopStep 3 4 hA ok rfl rfl ?_; intro hA)
  | (refine w_PopStep 4 5 hA ok rfl rfl ?_; intro hA)
  | (refine w_PopStep 5 6 hA ok rfl rfl ?_; intro hA)
  | (refine w_PushStep 0 1 hA ok rfl rfl ?_; intro hA)
  | (refine w_PushStep 1 2 hA ok rfl rfl ?_; intro hA)
  | (refine w_PushStep 2 3 hA ok rfl rfl ?_; intro hA)
  | (refine w_PushStep 3 4 hA ok rfl rfl ?_; intro hA)
  | (refine w_PushStep 4 5 hA ok rfl rfl ?_; intro hA)
  | (refine w_PushStep 5 6 hA ok rfl rfl ?_; intro hA)
  | refine wp_true (by assumption) ?_
  | refine wp_false (by assumption) ?_)
      refine wq_Global ?_
      repeat (first
  | refine wp_nil.2 ?_
  | refine w_ld 0 hA ok rfl rfl rfl ?_
  | refine w_ld 1 hA ok rfl rfl rfl ?_
  | refine w_ld 2 hA ok rfl rfl rfl ?_
  | refine w_ld 3 hA ok rfl rfl rfl ?_
  | refine w_ld 4 hA ok rfl rfl rfl ?_
  | refine w_ld 5 hA ok rfl rfl rfl ?_
  | refine w_ld 6 hA ok rfl rfl rfl ?_
  | refine w_ld 7 hA ok rfl rfl rfl ?_
  | refine w_st 0 hA ok rfl rfl rfl rfl ?_
  | refine w_st 1 hA ok rfl rfl rfl rfl ?_
  | refine w_st 2 hA ok rfl rfl rfl rfl ?_
  | refine w_st 3 hA ok rfl rfl rfl rfl ?_
  | refine w_st 4 hA ok rfl rfl rfl rfl ?_
  | refine w_st 5 hA ok rfl rfl rfl rfl ?_
  | refine w_st 6 hA ok rfl rfl rfl rfl ?_
  | refine w_st 7 hA ok rfl rfl rfl rfl ?_
  | refine w_ldA 0 hA ok rfl rfl rfl ?_
  | refine w_ldA 1 hA ok rfl rfl rfl ?_
  | refine w_ldA 2 hA ok rfl rfl rfl ?_
  | refine w_ldA 3 hA ok rfl rfl rfl ?_
  | refine w_ldA 4 hA ok rfl rfl rfl ?_
  | refine w_ldA 5 hA ok rfl rfl rfl ?_
  | refine w_ldA 6 hA ok rfl rfl rfl ?_
  | refine w_ldA 7 hA ok rfl rfl rfl ?_
  | refine w_stA 0 hA ok rfl rfl rfl rfl ?_
  | refine w_stA 1 hA ok rfl rfl rfl rfl ?_
  | refine w_stA 2 hA ok rfl rfl rfl rfl ?_
  | refine w_stA 3 hA ok rfl rfl rfl rfl ?_
  | refine w_stA 4 hA ok rfl rfl rfl rfl ?_
  | refine w_stA 5 hA ok rfl rfl rfl rfl ?_
  | refine w_stA 6 hA ok rfl rfl rfl rfl ?_
  | refine w_stA 7 hA ok rfl rfl rfl rfl ?_
  | (refine w_Raw hA ?_; intro hA)
  | (refine w_SetRaw hA ?_; intro hA)
  | (refine w_SwapRaw hA ?_; intro hA)
  | (refine w_AddRaw hA ?_; intro hA)
  | (refine w_Load hA ?_; intro hA)
  | (refine w_Store hA ?_; intro hA)
  | (refine w_Retire hA ?_; intro hA)
  | (refine w_Died hA ?_; intro hA)
  | (refine w_Born hA ?_; intro hA)
  | refine w_State hA ?_
  | refine w_Uses hA ?_
  | refine w_Fault hA ?_
  | refine w_Words hA ?_
  | refine w_Count hA ?_
  | refine wq_Size ?_
  | refine wq_Open ?_
  | refine wq_Pack ?_
  | refine wq_head ?_
  | refine w_ck 0 hA ok rfl rfl rfl ?_
  | refine w_ck 1 hA ok rfl rfl rfl ?_
  | refine w_ck 2 hA ok rfl rfl rfl ?_
  | refine w_ck 3 hA ok rfl rfl rfl ?_
  | refine w_ck 4 hA ok rfl rfl rfl ?_
  | refine w_ck 5 hA ok rfl rfl rfl ?_
  | refine w_ck 6 hA ok rfl rfl rfl ?_
  | refine w_ck 7 hA ok rfl rfl rfl ?_
  | refine w_ckn rfl ?_
  | refine w_Base 0 1 hA ok rfl rfl ?_
  | refine w_Base 1 2 hA ok rfl rfl ?_
  | refine w_Base 2 3 hA ok rfl rfl ?_
  | refine w_Base 3 4 hA ok rfl rfl ?_
  | refine w_Base 4 5 hA ok rfl rfl ?_
  | refine w_Base 5 6 hA ok rfl rfl ?_
  | (refine w_PopStep 0 1 hA ok rfl rfl ?_; intro hA)
  | (refine w_PopStep 1 2 hA ok rfl rfl ?_; intro hA)
  | (refine w_PopStep 2 3 hA ok rfl rfl ?_; intro hA)
  | (refine w_PopStep 3 4 hA ok rfl rfl ?_; intro hA)
  | (refine w_PopStep 4 5 hA ok rfl rfl ?_; intro hA)
  | (refine w_PopStep 5 6 hA ok rfl rfl ?_; intro hA)
  | (refine w_PushStep 0 1 hA ok rfl rfl ?_; intro hA)
  | (refine w_PushStep 1 2 hA ok rfl rfl ?_; intro hA)
  | (refine w_PushStep 2 3 hA ok rfl rfl ?_; intro hA)
  | (refine w_PushStep 3 4 hA ok rfl rfl ?_; intro hA)
  | (refine w_PushStep 4 5 hA ok rfl rfl ?_; intro hA)
  | (refine w_PushStep 5 6 hA ok rfl rfl ?_; intro hA)
  | refine wp_true (by assumption) ?_
  | refine wp_false (by assumption) ?_)
      exact wp_ret_of ⟨rfl, rfl, hA⟩
    · rintro v K ⟨rfl, rfl, hA⟩
      refine ⟨(), rfl, ?_⟩
      repeat (first
  | refine wp_nil.2 ?_
  | refine w_ld 0 hA ok rfl rfl rfl ?_
  | refine w_ld 1 hA ok rfl rfl rfl ?_
  | refine w_ld 2 hA ok rfl rfl rfl ?_
  | refine w_ld 3 hA ok rfl rfl rfl ?_
  | refine w_ld 4 hA ok rfl rfl rfl ?_
  | refine w_ld 5 hA ok rfl rfl rfl ?_
  | refine w_ld 6 hA ok rfl rfl rfl ?_
  | refine w_ld 7 hA ok rfl rfl rfl ?_
  | refine w_st 0 hA ok rfl rfl rfl rfl ?_
  | refine w_st 1 hA ok rfl rfl rfl rfl ?_
  | refine w_st 2 hA ok rfl rfl rfl rfl ?_
  | refine w_st 3 hA ok rfl rfl rfl rfl ?_
  | refine w_st 4 hA ok rfl rfl rfl rfl ?_
  | refine w_st 5 hA ok rfl rfl rfl rfl ?_
  | refine w_st 6 hA ok rfl rfl rfl rfl ?_
  | refine w_st 7 hA ok rfl rfl rfl rfl ?_
  | refine w_ldA 0 hA ok rfl rfl rfl ?_
  | refine w_ldA 1 hA ok rfl rfl rfl ?_
  | refine w_ldA 2 hA ok rfl rfl rfl ?_
  | refine w_ldA 3 hA ok rfl rfl rfl ?_
  | refine w_ldA 4 hA ok rfl rfl rfl ?_
  | refine w_ldA 5 hA ok rfl rfl rfl ?_
  | refine w_ldA 6 hA ok rfl rfl rfl ?_
  | refine w_ldA 7 hA ok rfl rfl rfl ?_
  | refine w_stA 0 hA ok rfl rfl rfl rfl ?_
  | refine w_stA 1 hA ok rfl rfl rfl rfl ?_
  | refine w_stA 2 hA ok rfl rfl rfl rfl ?_
  | refine w_stA 3 hA ok rfl rfl rfl rfl ?_
  | refine w_stA 4 hA ok rfl rfl rfl rfl ?_
  | refine w_stA 5 hA ok rfl rfl rfl rfl ?_
  | refine w_stA 6 hA ok rfl rfl rfl rfl ?_
  | refine w_stA 7 hA ok rfl rfl rfl rfl ?_
  | (refine w_Raw hA ?_; intro hA)
  | (refine w_SetRaw hA ?_; intro hA)
  | (refine w_SwapRaw hA ?_; intro hA)
  | (refine w_AddRaw hA ?_; intro hA)
  | (refine w_Load hA ?_; intro hA)
  | (refine w_Store hA ?_; intro hA)
  | (refine w_Retire hA ?_; intro hA)
  | (refine w_Died hA ?_; intro hA)
  | (refine w_Born hA ?_; intro hA)
  | refine w_State hA ?_
  | refine w_Uses hA ?_
  | refine w_Fault hA ?_
  | refine w_Words hA ?_
  | refine w_Count hA ?_
  | refine wq_Size ?_
  | refine wq_Open ?_
  | refine wq_Pack ?_
  | refine wq_head ?_
  | refine w_ck 0 hA ok rfl rfl rfl ?_
  | refine w_ck 1 hA ok rfl rfl rfl ?_
  | refine w_ck 2 hA ok rfl rfl rfl ?_
  | refine w_ck 3 hA ok rfl rfl rfl ?_
  | refine w_ck 4 hA ok rfl rfl rfl ?_
  | refine w_ck 5 hA ok rfl rfl rfl ?_
  | refine w_ck 6 hA ok rfl rfl rfl ?_
  | refine w_ck 7 hA ok rfl rfl rfl ?_
  | refine w_ckn rfl ?_
  | refine w_Base 0 1 hA ok rfl rfl ?_
  | refine w_Base 1 2 hA ok rfl rfl ?_
  | refine w_Base 2 3 hA ok rfl rfl ?_
  | refine w_Base 3 4 hA ok rfl rfl ?_
  | refine w_Base 4 5 hA ok rfl rfl ?_
  | refine w_Base 5 6 hA ok rfl rfl ?_
  | (refine w_PopStep 0 1 hA ok rfl rfl ?_; intro hA)
  | (refine w_PopStep 1 2 hA ok rfl rfl ?_; intro hA)
  | (refine w_PopStep 2 3 hA ok rfl rfl ?_; intro hA)
  | (refine w_PopStep 3 4 hA ok rfl rfl ?_; intro hA)
  | (refine w_PopStep 4 5 hA ok rfl rfl ?_; intro hA)
  | (refine w_PopStep 5 6 hA ok rfl rfl ?_; intro hA)
  | (refine w_PushStep 0 1 hA ok rfl rfl ?_; intro hA)
  | (refine w_PushStep 1 2 hA ok rfl rfl ?_; intro hA)
  | (refine w_PushStep 2 3 hA ok rfl rfl ?_; intro hA)
  | (refine w_PushStep 3 4 hA ok rfl rfl ?_; intro hA)
  | (refine w_PushStep 4 5 hA ok rfl rfl ?_; intro hA)
  | (refine w_PushStep 5 6 hA ok rfl rfl ?_; intro hA)
  | refine wp_true (by assumption) ?_
  | refine wp_false (by assumption) ?_)
      refine look_val (x := false) (feq _ _) ?_
      exact wp_ret_of ⟨q, rfl, rfl, rfl, ok, hA⟩
  | 1, _ =>
    refine look_val (x := true) (fneq _ _) (wp_true rfl ?_)
    repeat (first
  | refine wp_nil.2 ?_
  | refine w_ld 0 hA ok rfl rfl rfl ?_
  | refine w_ld 1 hA ok rfl rfl rfl ?_
  | refine w_ld 2 hA ok rfl rfl rfl ?_
  | refine w_ld 3 hA ok rfl rfl rfl ?_
  | refine w_ld 4 hA ok rfl rfl rfl ?_
  | refine w_ld 5 hA ok rfl rfl rfl ?_
  | refine w_ld 6 hA ok rfl rfl rfl ?_
  | refine w_ld 7 hA ok rfl rfl rfl ?_
  | refine w_st 0 hA ok rfl rfl rfl rfl ?_
  | refine w_st 1 hA ok rfl rfl rfl rfl ?_
  | refine w_st 2 hA ok rfl rfl rfl rfl ?_
  | refine w_st 3 hA ok rfl rfl rfl rfl ?_
  | refine w_st 4 hA ok rfl rfl rfl rfl ?_
  | refine w_st 5 hA ok rfl rfl rfl rfl ?_
  | refine w_st 6 hA ok rfl rfl rfl rfl ?_
  | refine w_st 7 hA ok rfl rfl rfl rfl ?_
  | refine w_ldA 0 hA ok rfl rfl rfl ?_
  | refine w_ldA 1 hA ok rfl rfl rfl ?_
  | refine w_ldA 2 hA ok rfl rfl rfl ?_
  | refine w_ldA 3 hA ok rfl rfl rfl ?_
  | refine w_ldA 4 hA ok rfl rfl rfl ?_
  | refine w_ldA 5 hA ok rfl rfl rfl ?_
  | refine w_ldA 6 hA ok rfl rfl rfl ?_
  | refine w_ldA 7 hA ok rfl rfl rfl ?_
  | refine w_stA 0 hA ok rfl rfl rfl rfl ?_
  | refine w_stA 1 hA ok rfl rfl rfl rfl ?_
  | refine w_stA 2 hA ok rfl rfl rfl rfl ?_
  | refine w_stA 3 hA ok rfl rfl rfl rfl ?_
  | refine w_stA 4 hA ok rfl rfl rfl rfl ?_
  | refine w_stA 5 hA ok rfl rfl rfl rfl ?_
  | refine w_stA 6 hA ok rfl rfl rfl rfl ?_
  | refine w_stA 7 hA ok rfl rfl rfl rfl ?_
  | (refine w_Raw hA ?_; intro hA)
  | (refine w_SetRaw hA ?_; intro hA)
  | (refine w_SwapRaw hA ?_; intro hA)
  | (refine w_AddRaw hA ?_; intro hA)
  | (refine w_Load hA ?_; intro hA)
  | (refine w_Store hA ?_; intro hA)
  | (refine w_Retire hA ?_; intro hA)
  | (refine w_Died hA ?_; intro hA)
  | (refine w_Born hA ?_; intro hA)
  | refine w_State hA ?_
  | refine w_Uses hA ?_
  | refine w_Fault hA ?_
  | refine w_Words hA ?_
  | refine w_Count hA ?_
  | refine wq_Size ?_
  | refine wq_Open ?_
  | refine wq_Pack ?_
  | refine wq_head ?_
  | refine w_ck 0 hA ok rfl rfl rfl ?_
  | refine w_ck 1 hA ok rfl rfl rfl ?_
  | refine w_ck 2 hA ok rfl rfl rfl ?_
  | refine w_ck 3 hA ok rfl rfl rfl ?_
  | refine w_ck 4 hA ok rfl rfl rfl ?_
  | refine w_ck 5 hA ok rfl rfl rfl ?_
  | refine w_ck 6 hA ok rfl rfl rfl ?_
  | refine w_ck 7 hA ok rfl rfl rfl ?_
  | refine w_ckn rfl ?_
  | refine w_Base 0 1 hA ok rfl rfl ?_
  | refine w_Base 1 2 hA ok rfl rfl ?_
  | refine w_Base 2 3 hA ok rfl rfl ?_
  | refine w_Base 3 4 hA ok rfl rfl ?_
  | refine w_Base 4 5 hA ok rfl rfl ?_
  | refine w_Base 5 6 hA ok rfl rfl ?_
  | (refine w_PopStep 0 1 hA ok rfl rfl ?_; intro hA)
  | (refine w_PopStep 1 2 hA ok rfl rfl ?_; intro hA)
  | (refine w_PopStep 2 3 hA ok rfl rfl ?_; intro hA)
  | (refine w_PopStep 3 4 hA ok rfl rfl ?_; intro hA)
  | (refine w_PopStep 4 5 hA ok rfl rfl ?_; intro hA)
  | (refine w_PopStep 5 6 hA ok rfl rfl ?_; intro hA)
  | (refine w_PushStep 0 1 hA ok rfl rfl ?_; intro hA)
  | (refine w_PushStep 1 2 hA ok rfl rfl ?_; intro hA)
  | (refine w_PushStep 2 3 hA ok rfl rfl ?_; intro hA)
  | (refine w_PushStep 3 4 hA ok rfl rfl ?_; intro hA)
  | (refine w_PushStep 4 5 hA ok rfl rfl ?_; intro hA)
  | (refine w_PushStep 5 6 hA ok rfl rfl ?_; intro hA)
  | refine wp_true (by assumption) ?_
  | refine wp_false (by assumption) ?_)
    refine act_enter (fcall1 _ _) ?_
    refine wp_call_of (R0 := fun v K => v = .tuple #[] ∧ K = own (A.storeR (ewd ta work) (w64 (e + 1))) [(q, oc ty_epoch_Pin [.int .i64 tw, .int .i64 ta, .int .i64 work, .int .i64 e, pnNext q 2])] G ∧ Aw I (A.storeR (ewd ta work) (w64 (e + 1)))) ?_ ?_
    · refine t_epoch_Pin_own_spec fun L => ?_
      unfold t_epoch_Pin_own
      repeat (first
  | refine wp_nil.2 ?_
  | refine w_ld 0 hA ok rfl rfl rfl ?_
  | refine w_ld 1 hA ok rfl rfl rfl ?_
  | refine w_ld 2 hA ok rfl rfl rfl ?_
  | refine w_ld 3 hA ok rfl rfl rfl ?_
  | refine w_ld 4 hA ok rfl rfl rfl ?_
  | refine w_ld 5 hA ok rfl rfl rfl ?_
  | refine w_ld 6 hA ok rfl rfl rfl ?_
  | refine w_ld 7 hA ok rfl rfl rfl ?_
  | refine w_st 0 hA ok rfl rfl rfl rfl ?_
  | refine w_st 1 hA ok rfl rfl rfl rfl ?_
  | refine w_st 2 hA ok rfl rfl rfl rfl ?_
  | refine w_st 3 hA ok rfl rfl rfl rfl ?_
  | refine w_st 4 hA ok rfl rfl rfl rfl ?_
  | refine w_st 5 hA ok rfl rfl rfl rfl ?_
  | refine w_st 6 hA ok rfl rfl rfl rfl ?_
  | refine w_st 7 hA ok rfl rfl rfl rfl ?_
  | refine w_ldA 0 hA ok rfl rfl rfl ?_
  | refine w_ldA 1 hA ok rfl rfl rfl ?_
  | refine w_ldA 2 hA ok rfl rfl rfl ?_
  | refine w_ldA 3 hA ok rfl rfl rfl ?_
  | refine w_ldA 4 hA ok rfl rfl rfl ?_
  | refine w_ldA 5 hA ok rfl rfl rfl ?_
  | refine w_ldA 6 hA ok rfl rfl rfl ?_
  | refine w_ldA 7 hA ok rfl rfl rfl ?_
  | refine w_stA 0 hA ok rfl rfl rfl rfl ?_
  | refine w_stA 1 hA ok rfl rfl rfl rfl ?_
  | refine w_stA 2 hA ok rfl rfl rfl rfl ?_
  | refine w_stA 3 hA ok rfl rfl rfl rfl ?_
  | refine w_stA 4 hA ok rfl rfl rfl rfl ?_
  | refine w_stA 5 hA ok rfl rfl rfl rfl ?_
  | refine w_stA 6 hA ok rfl rfl rfl rfl ?_
  | refine w_stA 7 hA ok rfl rfl rfl rfl ?_
  | (refine w_Raw hA ?_; intro hA)
  | (refine w_SetRaw hA ?_; intro hA)
  | (refine w_SwapRaw hA ?_; intro hA)
  | (refine w_AddRaw hA ?_; intro hA)
  | (refine w_Load hA ?_; intro hA)
  | (refine w_Store hA ?_; intro hA)
  | (refine w_Retire hA ?_; intro hA)
  | (refine w_Died hA ?_; intro hA)
  | (refine w_Born hA ?_; intro hA)
  | refine w_State hA ?_
  | refine w_Uses hA ?_
  | refine w_Fault hA ?_
  | refine w_Words hA ?_
  | refine w_Count hA ?_
  | refine wq_Size ?_
  | refine wq_Open ?_
  | refine wq_Pack ?_
  | refine wq_head ?_
  | refine w_ck 0 hA ok rfl rfl rfl ?_
  | refine w_ck 1 hA ok rfl rfl rfl ?_
  | refine w_ck 2 hA ok rfl rfl rfl ?_
  | refine w_ck 3 hA ok rfl rfl rfl ?_
  | refine w_ck 4 hA ok rfl rfl rfl ?_
  | refine w_ck 5 hA ok rfl rfl rfl ?_
  | refine w_ck 6 hA ok rfl rfl rfl ?_
  | refine w_ck 7 hA ok rfl rfl rfl ?_
  | refine w_ckn rfl ?_
  | refine w_Base 0 1 hA ok rfl rfl ?_
  | refine w_Base 1 2 hA ok rfl rfl ?_
  | refine w_Base 2 3 hA ok rfl rfl ?_
  | refine w_Base 3 4 hA ok rfl rfl ?_
  | refine w_Base 4 5 hA ok rfl rfl ?_
  | refine w_Base 5 6 hA ok rfl rfl ?_
  | (refine w_PopStep 0 1 hA ok rfl rfl ?_; intro hA)
  | (refine w_PopStep 1 2 hA ok rfl rfl ?_; intro hA)
  | (refine w_PopStep 2 3 hA ok rfl rfl ?_; intro hA)
  | (refine w_PopStep 3 4 hA ok rfl rfl ?_; intro hA)
  | (refine w_PopStep 4 5 hA ok rfl rfl ?_; intro hA)
  | (refine w_PopStep 5 6 hA ok rfl rfl ?_; intro hA)
  | (refine w_PushStep 0 1 hA ok rfl rfl ?_; intro hA)
  | (refine w_PushStep 1 2 hA ok rfl rfl ?_; intro hA)
  | (refine w_PushStep 2 3 hA ok rfl rfl ?_; intro hA)
  | (refine w_PushStep 3 4 hA ok rfl rfl ?_; intro hA)
  | (refine w_PushStep 4 5 hA ok rfl rfl ?_; intro hA)
  | (refine w_PushStep 5 6 hA ok rfl rfl ?_; intro hA)
  | refine wp_true (by assumption) ?_
  | refine wp_false (by assumption) ?_)
      refine wq_EWord ?_
      repeat (first
  | refine wp_nil.2 ?_
  | refine w_ld 0 hA ok rfl rfl rfl ?_
  | refine w_ld 1 hA ok rfl rfl rfl ?_
  | refine w_ld 2 hA ok rfl rfl rfl ?_
  | refine w_ld 3 hA ok rfl rfl rfl ?_
  | refine w_ld 4 hA ok rfl rfl rfl ?_
  | refine w_ld 5 hA ok rfl rfl rfl ?_
  | refine w_ld 6 hA ok rfl rfl rfl ?_
  | refine w_ld 7 hA ok rfl rfl rfl ?_
  | refine w_st 0 hA ok rfl rfl rfl rfl ?_
  | refine w_st 1 hA ok rfl rfl rfl rfl ?_
  | refine w_st 2 hA ok rfl rfl rfl rfl ?_
  | refine w_st 3 hA ok rfl rfl rfl rfl ?_
  | refine w_st 4 hA ok rfl rfl rfl rfl ?_
  | refine w_st 5 hA ok rfl rfl rfl rfl ?_
  | refine w_st 6 hA ok rfl rfl rfl rfl ?_
  | refine w_st 7 hA ok rfl rfl rfl rfl ?_
  | refine w_ldA 0 hA ok rfl rfl rfl ?_
  | refine w_ldA 1 hA ok rfl rfl rfl ?_
  | refine w_ldA 2 hA ok rfl rfl rfl ?_
  | refine w_ldA 3 hA ok rfl rfl rfl ?_
  | refine w_ldA 4 hA ok rfl rfl rfl ?_
  | refine w_ldA 5 hA ok rfl rfl rfl ?_
  | refine w_ldA 6 hA ok rfl rfl rfl ?_
  | refine w_ldA 7 hA ok rfl rfl rfl ?_
  | refine w_stA 0 hA ok rfl rfl rfl rfl ?_
  | refine w_stA 1 hA ok rfl rfl rfl rfl ?_
  | refine w_stA 2 hA ok rfl rfl rfl rfl ?_
  | refine w_stA 3 hA ok rfl rfl rfl rfl ?_
  | refine w_stA 4 hA ok rfl rfl rfl rfl ?_
  | refine w_stA 5 hA ok rfl rfl rfl rfl ?_
  | refine w_stA 6 hA ok rfl rfl rfl rfl ?_
  | refine w_stA 7 hA ok rfl rfl rfl rfl ?_
  | (refine w_Raw hA ?_; intro hA)
  | (refine w_SetRaw hA ?_; intro hA)
  | (refine w_SwapRaw hA ?_; intro hA)
  | (refine w_AddRaw hA ?_; intro hA)
  | (refine w_Load hA ?_; intro hA)
  | (refine w_Store hA ?_; intro hA)
  | (refine w_Retire hA ?_; intro hA)
  | (refine w_Died hA ?_; intro hA)
  | (refine w_Born hA ?_; intro hA)
  | refine w_State hA ?_
  | refine w_Uses hA ?_
  | refine w_Fault hA ?_
  | refine w_Words hA ?_
  | refine w_Count hA ?_
  | refine wq_Size ?_
  | refine wq_Open ?_
  | refine wq_Pack ?_
  | refine wq_head ?_
  | refine w_ck 0 hA ok rfl rfl rfl ?_
  | refine w_ck 1 hA ok rfl rfl rfl ?_
  | refine w_ck 2 hA ok rfl rfl rfl ?_
  | refine w_ck 3 hA ok rfl rfl rfl ?_
  | refine w_ck 4 hA ok rfl rfl rfl ?_
  | refine w_ck 5 hA ok rfl rfl rfl ?_
  | refine w_ck 6 hA ok rfl rfl rfl ?_
  | refine w_ck 7 hA ok rfl rfl rfl ?_
  | refine w_ckn rfl ?_
  | refine w_Base 0 1 hA ok rfl rfl ?_
  | refine w_Base 1 2 hA ok rfl rfl ?_
  | refine w_Base 2 3 hA ok rfl rfl ?_
  | refine w_Base 3 4 hA ok rfl rfl ?_
  | refine w_Base 4 5 hA ok rfl rfl ?_
  | refine w_Base 5 6 hA ok rfl rfl ?_
  | (refine w_PopStep 0 1 hA ok rfl rfl ?_; intro hA)
  | (refine w_PopStep 1 2 hA ok rfl rfl ?_; intro hA)
  | (refine w_PopStep 2 3 hA ok rfl rfl ?_; intro hA)
  | (refine w_PopStep 3 4 hA ok rfl rfl ?_; intro hA)
  | (refine w_PopStep 4 5 hA ok rfl rfl ?_; intro hA)
  | (refine w_PopStep 5 6 hA ok rfl rfl ?_; intro hA)
  | (refine w_PushStep 0 1 hA ok rfl rfl ?_; intro hA)
  | (refine w_PushStep 1 2 hA ok rfl rfl ?_; intro hA)
  | (refine w_PushStep 2 3 hA ok rfl rfl ?_; intro hA)
  | (refine w_PushStep 3 4 hA ok rfl rfl ?_; intro hA)
  | (refine w_PushStep 4 5 hA ok rfl rfl ?_; intro hA)
  | (refine w_PushStep 5 6 hA ok rfl rfl ?_; intro hA)
  | refine wp_true (by assumption) ?_
  | refine wp_false (by assumption) ?_)
      exact wp_ret_of ⟨rfl, rfl, hA⟩
    · rintro v K ⟨rfl, rfl, hA⟩
      refine ⟨(), rfl, ?_⟩
      repeat (first
  | refine wp_nil.2 ?_
  | refine w_ld 0 hA ok rfl rfl rfl ?_
  | refine w_ld 1 hA ok rfl rfl rfl ?_
  | refine w_ld 2 hA ok rfl rfl rfl ?_
  | refine w_ld 3 hA ok rfl rfl rfl ?_
  | refine w_ld 4 hA ok rfl rfl rfl ?_
  | refine w_ld 5 hA ok rfl rfl rfl ?_
  | refine w_ld 6 hA ok rfl rfl rfl ?_
  | refine w_ld 7 hA ok rfl rfl rfl ?_
  | refine w_st 0 hA ok rfl rfl rfl rfl ?_
  | refine w_st 1 hA ok rfl rfl rfl rfl ?_
  | refine w_st 2 hA ok rfl rfl rfl rfl ?_
  | refine w_st 3 hA ok rfl rfl rfl rfl ?_
  | refine w_st 4 hA ok rfl rfl rfl rfl ?_
  | refine w_st 5 hA ok rfl rfl rfl rfl ?_
  | refine w_st 6 hA ok rfl rfl rfl rfl ?_
  | refine w_st 7 hA ok rfl rfl rfl rfl ?_
  | refine w_ldA 0 hA ok rfl rfl rfl ?_
  | refine w_ldA 1 hA ok rfl rfl rfl ?_
  | refine w_ldA 2 hA ok rfl rfl rfl ?_
  | refine w_ldA 3 hA ok rfl rfl rfl ?_
  | refine w_ldA 4 hA ok rfl rfl rfl ?_
  | refine w_ldA 5 hA ok rfl rfl rfl ?_
  | refine w_ldA 6 hA ok rfl rfl rfl ?_
  | refine w_ldA 7 hA ok rfl rfl rfl ?_
  | refine w_stA 0 hA ok rfl rfl rfl rfl ?_
  | refine w_stA 1 hA ok rfl rfl rfl rfl ?_
  | refine w_stA 2 hA ok rfl rfl rfl rfl ?_
  | refine w_stA 3 hA ok rfl rfl rfl rfl ?_
  | refine w_stA 4 hA ok rfl rfl rfl rfl ?_
  | refine w_stA 5 hA ok rfl rfl rfl rfl ?_
  | refine w_stA 6 hA ok rfl rfl rfl rfl ?_
  | refine w_stA 7 hA ok rfl rfl rfl rfl ?_
  | (refine w_Raw hA ?_; intro hA)
  | (refine w_SetRaw hA ?_; intro hA)
  | (refine w_SwapRaw hA ?_; intro hA)
  | (refine w_AddRaw hA ?_; intro hA)
  | (refine w_Load hA ?_; intro hA)
  | (refine w_Store hA ?_; intro hA)
  | (refine w_Retire hA ?_; intro hA)
  | (refine w_Died hA ?_; intro hA)
  | (refine w_Born hA ?_; intro hA)
  | refine w_State hA ?_
  | refine w_Uses hA ?_
  | refine w_Fault hA ?_
  | refine w_Words hA ?_
  | refine w_Count hA ?_
  | refine wq_Size ?_
  | refine wq_Open ?_
  | refine wq_Pack ?_
  | refine wq_head ?_
  | refine w_ck 0 hA ok rfl rfl rfl ?_
  | refine w_ck 1 hA ok rfl rfl rfl ?_
  | refine w_ck 2 hA ok rfl rfl rfl ?_
  | refine w_ck 3 hA ok rfl rfl rfl ?_
  | refine w_ck 4 hA ok rfl rfl rfl ?_
  | refine w_ck 5 hA ok rfl rfl rfl ?_
  | refine w_ck 6 hA ok rfl rfl rfl ?_
  | refine w_ck 7 hA ok rfl rfl rfl ?_
  | refine w_ckn rfl ?_
  | refine w_Base 0 1 hA ok rfl rfl ?_
  | refine w_Base 1 2 hA ok rfl rfl ?_
  | refine w_Base 2 3 hA ok rfl rfl ?_
  | refine w_Base 3 4 hA ok rfl rfl ?_
  | refine w_Base 4 5 hA ok rfl rfl ?_
  | refine w_Base 5 6 hA ok rfl rfl ?_
  | (refine w_PopStep 0 1 hA ok rfl rfl ?_; intro hA)
  | (refine w_PopStep 1 2 hA ok rfl rfl ?_; intro hA)
  | (refine w_PopStep 2 3 hA ok rfl rfl ?_; intro hA)
  | (refine w_PopStep 3 4 hA ok rfl rfl ?_; intro hA)
  | (refine w_PopStep 4 5 hA ok rfl rfl ?_; intro hA)
  | (refine w_PopStep 5 6 hA ok rfl rfl ?_; intro hA)
  | (refine w_PushStep 0 1 hA ok rfl rfl ?_; intro hA)
  | (refine w_PushStep 1 2 hA ok rfl rfl ?_; intro hA)
  | (refine w_PushStep 2 3 hA ok rfl rfl ?_; intro hA)
  | (refine w_PushStep 3 4 hA ok rfl rfl ?_; intro hA)
  | (refine w_PushStep 4 5 hA ok rfl rfl ?_; intro hA)
  | (refine w_PushStep 5 6 hA ok rfl rfl ?_; intro hA)
  | refine wp_true (by assumption) ?_
  | refine wp_false (by assumption) ?_)
      refine look_val (x := false) (feq _ _) ?_
      exact wp_ret_of ⟨q, rfl, rfl, rfl, ok, hA⟩
  | 2, _ =>
    refine look_val (x := true) (fneq _ _) (wp_true rfl ?_)
    repeat (first
  | refine wp_nil.2 ?_
  | refine w_ld 0 hA ok rfl rfl rfl ?_
  | refine w_ld 1 hA ok rfl rfl rfl ?_
  | refine w_ld 2 hA ok rfl rfl rfl ?_
  | refine w_ld 3 hA ok rfl rfl rfl ?_
  | refine w_ld 4 hA ok rfl rfl rfl ?_
  | refine w_ld 5 hA ok rfl rfl rfl ?_
  | refine w_ld 6 hA ok rfl rfl rfl ?_
  | refine w_ld 7 hA ok rfl rfl rfl ?_
  | refine w_st 0 hA ok rfl rfl rfl rfl ?_
  | refine w_st 1 hA ok rfl rfl rfl rfl ?_
  | refine w_st 2 hA ok rfl rfl rfl rfl ?_
  | refine w_st 3 hA ok rfl rfl rfl rfl ?_
  | refine w_st 4 hA ok rfl rfl rfl rfl ?_
  | refine w_st 5 hA ok rfl rfl rfl rfl ?_
  | refine w_st 6 hA ok rfl rfl rfl rfl ?_
  | refine w_st 7 hA ok rfl rfl rfl rfl ?_
  | refine w_ldA 0 hA ok rfl rfl rfl ?_
  | refine w_ldA 1 hA ok rfl rfl rfl ?_
  | refine w_ldA 2 hA ok rfl rfl rfl ?_
  | refine w_ldA 3 hA ok rfl rfl rfl ?_
  | refine w_ldA 4 hA ok rfl rfl rfl ?_
  | refine w_ldA 5 hA ok rfl rfl rfl ?_
  | refine w_ldA 6 hA ok rfl rfl rfl ?_
  | refine w_ldA 7 hA ok rfl rfl rfl ?_
  | refine w_stA 0 hA ok rfl rfl rfl rfl ?_
  | refine w_stA 1 hA ok rfl rfl rfl rfl ?_
  | refine w_stA 2 hA ok rfl rfl rfl rfl ?_
  | refine w_stA 3 hA ok rfl rfl rfl rfl ?_
  | refine w_stA 4 hA ok rfl rfl rfl rfl ?_
  | refine w_stA 5 hA ok rfl rfl rfl rfl ?_
  | refine w_stA 6 hA ok rfl rfl rfl rfl ?_
  | refine w_stA 7 hA ok rfl rfl rfl rfl ?_
  | (refine w_Raw hA ?_; intro hA)
  | (refine w_SetRaw hA ?_; intro hA)
  | (refine w_SwapRaw hA ?_; intro hA)
  | (refine w_AddRaw hA ?_; intro hA)
  | (refine w_Load hA ?_; intro hA)
  | (refine w_Store hA ?_; intro hA)
  | (refine w_Retire hA ?_; intro hA)
  | (refine w_Died hA ?_; intro hA)
  | (refine w_Born hA ?_; intro hA)
  | refine w_State hA ?_
  | refine w_Uses hA ?_
  | refine w_Fault hA ?_
  | refine w_Words hA ?_
  | refine w_Count hA ?_
  | refine wq_Size ?_
  | refine wq_Open ?_
  | refine wq_Pack ?_
  | refine wq_head ?_
  | refine w_ck 0 hA ok rfl rfl rfl ?_
  | refine w_ck 1 hA ok rfl rfl rfl ?_
  | refine w_ck 2 hA ok rfl rfl rfl ?_
  | refine w_ck 3 hA ok rfl rfl rfl ?_
  | refine w_ck 4 hA ok rfl rfl rfl ?_
  | refine w_ck 5 hA ok rfl rfl rfl ?_
  | refine w_ck 6 hA ok rfl rfl rfl ?_
  | refine w_ck 7 hA ok rfl rfl rfl ?_
  | refine w_ckn rfl ?_
  | refine w_Base 0 1 hA ok rfl rfl ?_
  | refine w_Base 1 2 hA ok rfl rfl ?_
  | refine w_Base 2 3 hA ok rfl rfl ?_
  | refine w_Base 3 4 hA ok rfl rfl ?_
  | refine w_Base 4 5 hA ok rfl rfl ?_
  | refine w_Base 5 6 hA ok rfl rfl ?_
  | (refine w_PopStep 0 1 hA ok rfl rfl ?_; intro hA)
  | (refine w_PopStep 1 2 hA ok rfl rfl ?_; intro hA)
  | (refine w_PopStep 2 3 hA ok rfl rfl ?_; intro hA)
  | (refine w_PopStep 3 4 hA ok rfl rfl ?_; intro hA)
  | (refine w_PopStep 4 5 hA ok rfl rfl ?_; intro hA)
  | (refine w_PopStep 5 6 hA ok rfl rfl ?_; intro hA)
  | (refine w_PushStep 0 1 hA ok rfl rfl ?_; intro hA)
  | (refine w_PushStep 1 2 hA ok rfl rfl ?_; intro hA)
  | (refine w_PushStep 2 3 hA ok rfl rfl ?_; intro hA)
  | (refine w_PushStep 3 4 hA ok rfl rfl ?_; intro hA)
  | (refine w_PushStep 4 5 hA ok rfl rfl ?_; intro hA)
  | (refine w_PushStep 5 6 hA ok rfl rfl ?_; intro hA)
  | refine wp_true (by assumption) ?_
  | refine wp_false (by assumption) ?_)
    refine act_enter (fcall2 _ _) ?_
    refine wp_call_of (R0 := fun v K => v = .tuple #[] ∧ K = own (A.touchR ta) [(q, oc ty_epoch_Pin [.int .i64 tw, .int .i64 ta, .int .i64 work, .int .i64 (A.rawF ta), pnNext q (if A.rawF ta = e then 3 else 1)])] G ∧ Aw I (A.touchR ta)) ?_ ?_
    · refine t_epoch_Pin_again_spec fun L => ?_
      unfold t_epoch_Pin_again
      repeat (first
  | refine wp_nil.2 ?_
  | refine w_ld 0 hA ok rfl rfl rfl ?_
  | refine w_ld 1 hA ok rfl rfl rfl ?_
  | refine w_ld 2 hA ok rfl rfl rfl ?_
  | refine w_ld 3 hA ok rfl rfl rfl ?_
  | refine w_ld 4 hA ok rfl rfl rfl ?_
  | refine w_ld 5 hA ok rfl rfl rfl ?_
  | refine w_ld 6 hA ok rfl rfl rfl ?_
  | refine w_ld 7 hA ok rfl rfl rfl ?_
  | refine w_st 0 hA ok rfl rfl rfl rfl ?_
  | refine w_st 1 hA ok rfl rfl rfl rfl ?_
  | refine w_st 2 hA ok rfl rfl rfl rfl ?_
  | refine w_st 3 hA ok rfl rfl rfl rfl ?_
  | refine w_st 4 hA ok rfl rfl rfl rfl ?_
  | refine w_st 5 hA ok rfl rfl rfl rfl ?_
  | refine w_st 6 hA ok rfl rfl rfl rfl ?_
  | refine w_st 7 hA ok rfl rfl rfl rfl ?_
  | refine w_ldA 0 hA ok rfl rfl rfl ?_
  | refine w_ldA 1 hA ok rfl rfl rfl ?_
  | refine w_ldA 2 hA ok rfl rfl rfl ?_
  | refine w_ldA 3 hA ok rfl rfl rfl ?_
  | refine w_ldA 4 hA ok rfl rfl rfl ?_
  | refine w_ldA 5 hA ok rfl rfl rfl ?_
  | refine w_ldA 6 hA ok rfl rfl rfl ?_
  | refine w_ldA 7 hA ok rfl rfl rfl ?_
  | refine w_stA 0 hA ok rfl rfl rfl rfl ?_
  | refine w_stA 1 hA ok rfl rfl rfl rfl ?_
  | refine w_stA 2 hA ok rfl rfl rfl rfl ?_
  | refine w_stA 3 hA ok rfl rfl rfl rfl ?_
  | refine w_stA 4 hA ok rfl rfl rfl rfl ?_
  | refine w_stA 5 hA ok rfl rfl rfl rfl ?_
  | refine w_stA 6 hA ok rfl rfl rfl rfl ?_
  | refine w_stA 7 hA ok rfl rfl rfl rfl ?_
  | (refine w_Raw hA ?_; intro hA)
  | (refine w_SetRaw hA ?_; intro hA)
  | (refine w_SwapRaw hA ?_; intro hA)
  | (refine w_AddRaw hA ?_; intro hA)
  | (refine w_Load hA ?_; intro hA)
  | (refine w_Store hA ?_; intro hA)
  | (refine w_Retire hA ?_; intro hA)
  | (refine w_Died hA ?_; intro hA)
  | (refine w_Born hA ?_; intro hA)
  | refine w_State hA ?_
  | refine w_Uses hA ?_
  | refine w_Fault hA ?_
  | refine w_Words hA ?_
  | refine w_Count hA ?_
  | refine wq_Size ?_
  | refine wq_Open ?_
  | refine wq_Pack ?_
  | refine wq_head ?_
  | refine w_ck 0 hA ok rfl rfl rfl ?_
  | refine w_ck 1 hA ok rfl rfl rfl ?_
  | refine w_ck 2 hA ok rfl rfl rfl ?_
  | refine w_ck 3 hA ok rfl rfl rfl ?_
  | refine w_ck 4 hA ok rfl rfl rfl ?_
  | refine w_ck 5 hA ok rfl rfl rfl ?_
  | refine w_ck 6 hA ok rfl rfl rfl ?_
  | refine w_ck 7 hA ok rfl rfl rfl ?_
  | refine w_ckn rfl ?_
  | refine w_Base 0 1 hA ok rfl rfl ?_
  | refine w_Base 1 2 hA ok rfl rfl ?_
  | refine w_Base 2 3 hA ok rfl rfl ?_
  | refine w_Base 3 4 hA ok rfl rfl ?_
  | refine w_Base 4 5 hA ok rfl rfl ?_
  | refine w_Base 5 6 hA ok rfl rfl ?_
  | (refine w_PopStep 0 1 hA ok rfl rfl ?_; intro hA)
  | (refine w_PopStep 1 2 hA ok rfl rfl ?_; intro hA)
  | (refine w_PopStep 2 3 hA ok rfl rfl ?_; intro hA)
  | (refine w_PopStep 3 4 hA ok rfl rfl ?_; intro hA)
  | (refine w_PopStep 4 5 hA ok rfl rfl ?_; intro hA)
  | (refine w_PopStep 5 6 hA ok rfl rfl ?_; intro hA)
  | (refine w_PushStep 0 1 hA ok rfl rfl ?_; intro hA)
  | (refine w_PushStep 1 2 hA ok rfl rfl ?_; intro hA)
  | (refine w_PushStep 2 3 hA ok rfl rfl ?_; intro hA)
  | (refine w_PushStep 3 4 hA ok rfl rfl ?_; intro hA)
  | (refine w_PushStep 4 5 hA ok rfl rfl ?_; intro hA)
  | (refine w_PushStep 5 6 hA ok rfl rfl ?_; intro hA)
  | refine wp_true (by assumption) ?_
  | refine wp_false (by assumption) ?_)
      refine wq_Global ?_
      repeat (first
  | refine wp_nil.2 ?_
  | refine w_ld 0 hA ok rfl rfl rfl ?_
  | refine w_ld 1 hA ok rfl rfl rfl ?_
  | refine w_ld 2 hA ok rfl rfl rfl ?_
  | refine w_ld 3 hA ok rfl rfl rfl ?_
  | refine w_ld 4 hA ok rfl rfl rfl ?_
  | refine w_ld 5 hA ok rfl rfl rfl ?_
  | refine w_ld 6 hA ok rfl rfl rfl ?_
  | refine w_ld 7 hA ok rfl rfl rfl ?_
  | refine w_st 0 hA ok rfl rfl rfl rfl ?_
  | refine w_st 1 hA ok rfl rfl rfl rfl ?_
  | refine w_st 2 hA ok rfl rfl rfl rfl ?_
  | refine w_st 3 hA ok rfl rfl rfl rfl ?_
  | refine w_st 4 hA ok rfl rfl rfl rfl ?_
  | refine w_st 5 hA ok rfl rfl rfl rfl ?_
  | refine w_st 6 hA ok rfl rfl rfl rfl ?_
  | refine w_st 7 hA ok rfl rfl rfl rfl ?_
  | refine w_ldA 0 hA ok rfl rfl rfl ?_
  | refine w_ldA 1 hA ok rfl rfl rfl ?_
  | refine w_ldA 2 hA ok rfl rfl rfl ?_
  | refine w_ldA 3 hA ok rfl rfl rfl ?_
  | refine w_ldA 4 hA ok rfl rfl rfl ?_
  | refine w_ldA 5 hA ok rfl rfl rfl ?_
  | refine w_ldA 6 hA ok rfl rfl rfl ?_
  | refine w_ldA 7 hA ok rfl rfl rfl ?_
  | refine w_stA 0 hA ok rfl rfl rfl rfl ?_
  | refine w_stA 1 hA ok rfl rfl rfl rfl ?_
  | refine w_stA 2 hA ok rfl rfl rfl rfl ?_
  | refine w_stA 3 hA ok rfl rfl rfl rfl ?_
  | refine w_stA 4 hA ok rfl rfl rfl rfl ?_
  | refine w_stA 5 hA ok rfl rfl rfl rfl ?_
  | refine w_stA 6 hA ok rfl rfl rfl rfl ?_
  | refine w_stA 7 hA ok rfl rfl rfl rfl ?_
  | (refine w_Raw hA ?_; intro hA)
  | (refine w_SetRaw hA ?_; intro hA)
  | (refine w_SwapRaw hA ?_; intro hA)
  | (refine w_AddRaw hA ?_; intro hA)
  | (refine w_Load hA ?_; intro hA)
  | (refine w_Store hA ?_; intro hA)
  | (refine w_Retire hA ?_; intro hA)
  | (refine w_Died hA ?_; intro hA)
  | (refine w_Born hA ?_; intro hA)
  | refine w_State hA ?_
  | refine w_Uses hA ?_
  | refine w_Fault hA ?_
  | refine w_Words hA ?_
  | refine w_Count hA ?_
  | refine wq_Size ?_
  | refine wq_Open ?_
  | refine wq_Pack ?_
  | refine wq_head ?_
  | refine w_ck 0 hA ok rfl rfl rfl ?_
  | refine w_ck 1 hA ok rfl rfl rfl ?_
  | refine w_ck 2 hA ok rfl rfl rfl ?_
  | refine w_ck 3 hA ok rfl rfl rfl ?_
  | refine w_ck 4 hA ok rfl rfl rfl ?_
  | refine w_ck 5 hA ok rfl rfl rfl ?_
  | refine w_ck 6 hA ok rfl rfl rfl ?_
  | refine w_ck 7 hA ok rfl rfl rfl ?_
  | refine w_ckn rfl ?_
  | refine w_Base 0 1 hA ok rfl rfl ?_
  | refine w_Base 1 2 hA ok rfl rfl ?_
  | refine w_Base 2 3 hA ok rfl rfl ?_
  | refine w_Base 3 4 hA ok rfl rfl ?_
  | refine w_Base 4 5 hA ok rfl rfl ?_
  | refine w_Base 5 6 hA ok rfl rfl ?_
  | (refine w_PopStep 0 1 hA ok rfl rfl ?_; intro hA)
  | (refine w_PopStep 1 2 hA ok rfl rfl ?_; intro hA)
  | (refine w_PopStep 2 3 hA ok rfl rfl ?_; intro hA)
  | (refine w_PopStep 3 4 hA ok rfl rfl ?_; intro hA)
  | (refine w_PopStep 4 5 hA ok rfl rfl ?_; intro hA)
  | (refine w_PopStep 5 6 hA ok rfl rfl ?_; intro hA)
  | (refine w_PushStep 0 1 hA ok rfl rfl ?_; intro hA)
  | (refine w_PushStep 1 2 hA ok rfl rfl ?_; intro hA)
  | (refine w_PushStep 2 3 hA ok rfl rfl ?_; intro hA)
  | (refine w_PushStep 3 4 hA ok rfl rfl ?_; intro hA)
  | (refine w_PushStep 4 5 hA ok rfl rfl ?_; intro hA)
  | (refine w_PushStep 5 6 hA ok rfl rfl ?_; intro hA)
  | refine wp_true (by assumption) ?_
  | refine wp_false (by assumption) ?_)
      by_cases c : A.rawF ta = e
      · rw [if_pos c]
        refine wp_true (ibeq c) ?_
        repeat (first
  | refine wp_nil.2 ?_
  | refine w_ld 0 hA ok rfl rfl rfl ?_
  | refine w_ld 1 hA ok rfl rfl rfl ?_
  | refine w_ld 2 hA ok rfl rfl rfl ?_
  | refine w_ld 3 hA ok rfl rfl rfl ?_
  | refine w_ld 4 hA ok rfl rfl rfl ?_
  | refine w_ld 5 hA ok rfl rfl rfl ?_
  | refine w_ld 6 hA ok rfl rfl rfl ?_
  | refine w_ld 7 hA ok rfl rfl rfl ?_
  | refine w_st 0 hA ok rfl rfl rfl rfl ?_
  | refine w_st 1 hA ok rfl rfl rfl rfl ?_
  | refine w_st 2 hA ok rfl rfl rfl rfl ?_
  | refine w_st 3 hA ok rfl rfl rfl rfl ?_
  | refine w_st 4 hA ok rfl rfl rfl rfl ?_
  | refine w_st 5 hA ok rfl rfl rfl rfl ?_
  | refine w_st 6 hA ok rfl rfl rfl rfl ?_
  | refine w_st 7 hA ok rfl rfl rfl rfl ?_
  | refine w_ldA 0 hA ok rfl rfl rfl ?_
  | refine w_ldA 1 hA ok rfl rfl rfl ?_
  | refine w_ldA 2 hA ok rfl rfl rfl ?_
  | refine w_ldA 3 hA ok rfl rfl rfl ?_
  | refine w_ldA 4 hA ok rfl rfl rfl ?_
  | refine w_ldA 5 hA ok rfl rfl rfl ?_
  | refine w_ldA 6 hA ok rfl rfl rfl ?_
  | refine w_ldA 7 hA ok rfl rfl rfl ?_
  | refine w_stA 0 hA ok rfl rfl rfl rfl ?_
  | refine w_stA 1 hA ok rfl rfl rfl rfl ?_
  | refine w_stA 2 hA ok rfl rfl rfl rfl ?_
  | refine w_stA 3 hA ok rfl rfl rfl rfl ?_
  | refine w_stA 4 hA ok rfl rfl rfl rfl ?_
  | refine w_stA 5 hA ok rfl rfl rfl rfl ?_
  | refine w_stA 6 hA ok rfl rfl rfl rfl ?_
  | refine w_stA 7 hA ok rfl rfl rfl rfl ?_
  | (refine w_Raw hA ?_; intro hA)
  | (refine w_SetRaw hA ?_; intro hA)
  | (refine w_SwapRaw hA ?_; intro hA)
  | (refine w_AddRaw hA ?_; intro hA)
  | (refine w_Load hA ?_; intro hA)
  | (refine w_Store hA ?_; intro hA)
  | (refine w_Retire hA ?_; intro hA)
  | (refine w_Died hA ?_; intro hA)
  | (refine w_Born hA ?_; intro hA)
  | refine w_State hA ?_
  | refine w_Uses hA ?_
  | refine w_Fault hA ?_
  | refine w_Words hA ?_
  | refine w_Count hA ?_
  | refine wq_Size ?_
  | refine wq_Open ?_
  | refine wq_Pack ?_
  | refine wq_head ?_
  | refine w_ck 0 hA ok rfl rfl rfl ?_
  | refine w_ck 1 hA ok rfl rfl rfl ?_
  | refine w_ck 2 hA ok rfl rfl rfl ?_
  | refine w_ck 3 hA ok rfl rfl rfl ?_
  | refine w_ck 4 hA ok rfl rfl rfl ?_
  | refine w_ck 5 hA ok rfl rfl rfl ?_
  | refine w_ck 6 hA ok rfl rfl rfl ?_
  | refine w_ck 7 hA ok rfl rfl rfl ?_
  | refine w_ckn rfl ?_
  | refine w_Base 0 1 hA ok rfl rfl ?_
  | refine w_Base 1 2 hA ok rfl rfl ?_
  | refine w_Base 2 3 hA ok rfl rfl ?_
  | refine w_Base 3 4 hA ok rfl rfl ?_
  | refine w_Base 4 5 hA ok rfl rfl ?_
  | refine w_Base 5 6 hA ok rfl rfl ?_
  | (refine w_PopStep 0 1 hA ok rfl rfl ?_; intro hA)
  | (refine w_PopStep 1 2 hA ok rfl rfl ?_; intro hA)
  | (refine w_PopStep 2 3 hA ok rfl rfl ?_; intro hA)
  | (refine w_PopStep 3 4 hA ok rfl rfl ?_; intro hA)
  | (refine w_PopStep 4 5 hA ok rfl rfl ?_; intro hA)
  | (refine w_PopStep 5 6 hA ok rfl rfl ?_; intro hA)
  | (refine w_PushStep 0 1 hA ok rfl rfl ?_; intro hA)
  | (refine w_PushStep 1 2 hA ok rfl rfl ?_; intro hA)
  | (refine w_PushStep 2 3 hA ok rfl rfl ?_; intro hA)
  | (refine w_PushStep 3 4 hA ok rfl rfl ?_; intro hA)
  | (refine w_PushStep 4 5 hA ok rfl rfl ?_; intro hA)
  | (refine w_PushStep 5 6 hA ok rfl rfl ?_; intro hA)
  | refine wp_true (by assumption) ?_
  | refine wp_false (by assumption) ?_)
        exact wp_ret_of ⟨rfl, rfl, hA⟩
      · rw [if_neg c]
        refine wp_false (ibef c) ?_
        exact wp_ret_of ⟨rfl, rfl, hA⟩
    · rintro v K ⟨rfl, rfl, hA⟩
      refine ⟨(), rfl, ?_⟩
      have sp : Pn.step ⟨tw, ta, work, e, 2⟩ A = (⟨tw, ta, work, A.rawF ta, if A.rawF ta = e then 3 else 1⟩, A.touchR ta) := rfl
      rw [sp]
      by_cases c : A.rawF ta = e
      · rw [if_pos c]
        repeat (first
  | refine wp_nil.2 ?_
  | refine w_ld 0 hA ok rfl rfl rfl ?_
  | refine w_ld 1 hA ok rfl rfl rfl ?_
  | refine w_ld 2 hA ok rfl rfl rfl ?_
  | refine w_ld 3 hA ok rfl rfl rfl ?_
  | refine w_ld 4 hA ok rfl rfl rfl ?_
  | refine w_ld 5 hA ok rfl rfl rfl ?_
  | refine w_ld 6 hA ok rfl rfl rfl ?_
  | refine w_ld 7 hA ok rfl rfl rfl ?_
  | refine w_st 0 hA ok rfl rfl rfl rfl ?_
  | refine w_st 1 hA ok rfl rfl rfl rfl ?_
  | refine w_st 2 hA ok rfl rfl rfl rfl ?_
  | refine w_st 3 hA ok rfl rfl rfl rfl ?_
  | refine w_st 4 hA ok rfl rfl rfl rfl ?_
  | refine w_st 5 hA ok rfl rfl rfl rfl ?_
  | refine w_st 6 hA ok rfl rfl rfl rfl ?_
  | refine w_st 7 hA ok rfl rfl rfl rfl ?_
  | refine w_ldA 0 hA ok rfl rfl rfl ?_
  | refine w_ldA 1 hA ok rfl rfl rfl ?_
  | refine w_ldA 2 hA ok rfl rfl rfl ?_
  | refine w_ldA 3 hA ok rfl rfl rfl ?_
  | refine w_ldA 4 hA ok rfl rfl rfl ?_
  | refine w_ldA 5 hA ok rfl rfl rfl ?_
  | refine w_ldA 6 hA ok rfl rfl rfl ?_
  | refine w_ldA 7 hA ok rfl rfl rfl ?_
  | refine w_stA 0 hA ok rfl rfl rfl rfl ?_
  | refine w_stA 1 hA ok rfl rfl rfl rfl ?_
  | refine w_stA 2 hA ok rfl rfl rfl rfl ?_
  | refine w_stA 3 hA ok rfl rfl rfl rfl ?_
  | refine w_stA 4 hA ok rfl rfl rfl rfl ?_
  | refine w_stA 5 hA ok rfl rfl rfl rfl ?_
  | refine w_stA 6 hA ok rfl rfl rfl rfl ?_
  | refine w_stA 7 hA ok rfl rfl rfl rfl ?_
  | (refine w_Raw hA ?_; intro hA)
  | (refine w_SetRaw hA ?_; intro hA)
  | (refine w_SwapRaw hA ?_; intro hA)
  | (refine w_AddRaw hA ?_; intro hA)
  | (refine w_Load hA ?_; intro hA)
  | (refine w_Store hA ?_; intro hA)
  | (refine w_Retire hA ?_; intro hA)
  | (refine w_Died hA ?_; intro hA)
  | (refine w_Born hA ?_; intro hA)
  | refine w_State hA ?_
  | refine w_Uses hA ?_
  | refine w_Fault hA ?_
  | refine w_Words hA ?_
  | refine w_Count hA ?_
  | refine wq_Size ?_
  | refine wq_Open ?_
  | refine wq_Pack ?_
  | refine wq_head ?_
  | refine w_ck 0 hA ok rfl rfl rfl ?_
  | refine w_ck 1 hA ok rfl rfl rfl ?_
  | refine w_ck 2 hA ok rfl rfl rfl ?_
  | refine w_ck 3 hA ok rfl rfl rfl ?_
  | refine w_ck 4 hA ok rfl rfl rfl ?_
  | refine w_ck 5 hA ok rfl rfl rfl ?_
  | refine w_ck 6 hA ok rfl rfl rfl ?_
  | refine w_ck 7 hA ok rfl rfl rfl ?_
  | refine w_ckn rfl ?_
  | refine w_Base 0 1 hA ok rfl rfl ?_
  | refine w_Base 1 2 hA ok rfl rfl ?_
  | refine w_Base 2 3 hA ok rfl rfl ?_
  | refine w_Base 3 4 hA ok rfl rfl ?_
  | refine w_Base 4 5 hA ok rfl rfl ?_
  | refine w_Base 5 6 hA ok rfl rfl ?_
  | (refine w_PopStep 0 1 hA ok rfl rfl ?_; intro hA)
  | (refine w_PopStep 1 2 hA ok rfl rfl ?_; intro hA)
  | (refine w_PopStep 2 3 hA ok rfl rfl ?_; intro hA)
  | (refine w_PopStep 3 4 hA ok rfl rfl ?_; intro hA)
  | (refine w_PopStep 4 5 hA ok rfl rfl ?_; intro hA)
  | (refine w_PopStep 5 6 hA ok rfl rfl ?_; intro hA)
  | (refine w_PushStep 0 1 hA ok rfl rfl ?_; intro hA)
  | (refine w_PushStep 1 2 hA ok rfl rfl ?_; intro hA)
  | (refine w_PushStep 2 3 hA ok rfl rfl ?_; intro hA)
  | (refine w_PushStep 3 4 hA ok rfl rfl ?_; intro hA)
  | (refine w_PushStep 4 5 hA ok rfl rfl ?_; intro hA)
  | (refine w_PushStep 5 6 hA ok rfl rfl ?_; intro hA)
  | refine wp_true (by assumption) ?_
  | refine wp_false (by assumption) ?_)
        refine look_val (x := true) feq0 ?_
        exact wp_ret_of ⟨q, rfl, rfl, rfl, ok, hA⟩
      · rw [if_neg c]
        repeat (first
  | refine wp_nil.2 ?_
  | refine w_ld 0 hA ok rfl rfl rfl ?_
  | refine w_ld 1 hA ok rfl rfl rfl ?_
  | refine w_ld 2 hA ok rfl rfl rfl ?_
  | refine w_ld 3 hA ok rfl rfl rfl ?_
  | refine w_ld 4 hA ok rfl rfl rfl ?_
  | refine w_ld 5 hA ok rfl rfl rfl ?_
  | refine w_ld 6 hA ok rfl rfl rfl ?_
  | refine w_ld 7 hA ok rfl rfl rfl ?_
  | refine w_st 0 hA ok rfl rfl rfl rfl ?_
  | refine w_st 1 hA ok rfl rfl rfl rfl ?_
  | refine w_st 2 hA ok rfl rfl rfl rfl ?_
  | refine w_st 3 hA ok rfl rfl rfl rfl ?_
  | refine w_st 4 hA ok rfl rfl rfl rfl ?_
  | refine w_st 5 hA ok rfl rfl rfl rfl ?_
  | refine w_st 6 hA ok rfl rfl rfl rfl ?_
  | refine w_st 7 hA ok rfl rfl rfl rfl ?_
  | refine w_ldA 0 hA ok rfl rfl rfl ?_
  | refine w_ldA 1 hA ok rfl rfl rfl ?_
  | refine w_ldA 2 hA ok rfl rfl rfl ?_
  | refine w_ldA 3 hA ok rfl rfl rfl ?_
  | refine w_ldA 4 hA ok rfl rfl rfl ?_
  | refine w_ldA 5 hA ok rfl rfl rfl ?_
  | refine w_ldA 6 hA ok rfl rfl rfl ?_
  | refine w_ldA 7 hA ok rfl rfl rfl ?_
  | refine w_stA 0 hA ok rfl rfl rfl rfl ?_
  | refine w_stA 1 hA ok rfl rfl rfl rfl ?_
  | refine w_stA 2 hA ok rfl rfl rfl rfl ?_
  | refine w_stA 3 hA ok rfl rfl rfl rfl ?_
  | refine w_stA 4 hA ok rfl rfl rfl rfl ?_
  | refine w_stA 5 hA ok rfl rfl rfl rfl ?_
  | refine w_stA 6 hA ok rfl rfl rfl rfl ?_
  | refine w_stA 7 hA ok rfl rfl rfl rfl ?_
  | (refine w_Raw hA ?_; intro hA)
  | (refine w_SetRaw hA ?_; intro hA)
  | (refine w_SwapRaw hA ?_; intro hA)
  | (refine w_AddRaw hA ?_; intro hA)
  | (refine w_Load hA ?_; intro hA)
  | (refine w_Store hA ?_; intro hA)
  | (refine w_Retire hA ?_; intro hA)
  | (refine w_Died hA ?_; intro hA)
  | (refine w_Born hA ?_; intro hA)
  | refine w_State hA ?_
  | refine w_Uses hA ?_
  | refine w_Fault hA ?_
  | refine w_Words hA ?_
  | refine w_Count hA ?_
  | refine wq_Size ?_
  | refine wq_Open ?_
  | refine wq_Pack ?_
  | refine wq_head ?_
  | refine w_ck 0 hA ok rfl rfl rfl ?_
  | refine w_ck 1 hA ok rfl rfl rfl ?_
  | refine w_ck 2 hA ok rfl rfl rfl ?_
  | refine w_ck 3 hA ok rfl rfl rfl ?_
  | refine w_ck 4 hA ok rfl rfl rfl ?_
  | refine w_ck 5 hA ok rfl rfl rfl ?_
  | refine w_ck 6 hA ok rfl rfl rfl ?_
  | refine w_ck 7 hA ok rfl rfl rfl ?_
  | refine w_ckn rfl ?_
  | refine w_Base 0 1 hA ok rfl rfl ?_
  | refine w_Base 1 2 hA ok rfl rfl ?_
  | refine w_Base 2 3 hA ok rfl rfl ?_
  | refine w_Base 3 4 hA ok rfl rfl ?_
  | refine w_Base 4 5 hA ok rfl rfl ?_
  | refine w_Base 5 6 hA ok rfl rfl ?_
  | (refine w_PopStep 0 1 hA ok rfl rfl ?_; intro hA)
  | (refine w_PopStep 1 2 hA ok rfl rfl ?_; intro hA)
  | (refine w_PopStep 2 3 hA ok rfl rfl ?_; intro hA)
  | (refine w_PopStep 3 4 hA ok rfl rfl ?_; intro hA)
  | (refine w_PopStep 4 5 hA ok rfl rfl ?_; intro hA)
  | (refine w_PopStep 5 6 hA ok rfl rfl ?_; intro hA)
  | (refine w_PushStep 0 1 hA ok rfl rfl ?_; intro hA)
  | (refine w_PushStep 1 2 hA ok rfl rfl ?_; intro hA)
  | (refine w_PushStep 2 3 hA ok rfl rfl ?_; intro hA)
  | (refine w_PushStep 3 4 hA ok rfl rfl ?_; intro hA)
  | (refine w_PushStep 4 5 hA ok rfl rfl ?_; intro hA)
  | (refine w_PushStep 5 6 hA ok rfl rfl ?_; intro hA)
  | refine wp_true (by assumption) ?_
  | refine wp_false (by assumption) ?_)
        refine look_val (x := false) (feq _ _) ?_
        exact wp_ret_of ⟨q, rfl, rfl, rfl, ok, hA⟩
  | 3, _ =>
    refine look_val (x := false) fneq0 (wp_false rfl ?_)
    repeat (first
  | refine wp_nil.2 ?_
  | refine w_ld 0 hA ok rfl rfl rfl ?_
  | refine w_ld 1 hA ok rfl rfl rfl ?_
  | refine w_ld 2 hA ok rfl rfl rfl ?_
  | refine w_ld 3 hA ok rfl rfl rfl ?_
  | refine w_ld 4 hA ok rfl rfl rfl ?_
  | refine w_ld 5 hA ok rfl rfl rfl ?_
  | refine w_ld 6 hA ok rfl rfl rfl ?_
  | refine w_ld 7 hA ok rfl rfl rfl ?_
  | refine w_st 0 hA ok rfl rfl rfl rfl ?_
  | refine w_st 1 hA ok rfl rfl rfl rfl ?_
  | refine w_st 2 hA ok rfl rfl rfl rfl ?_
  | refine w_st 3 hA ok rfl rfl rfl rfl ?_
  | refine w_st 4 hA ok rfl rfl rfl rfl ?_
  | refine w_st 5 hA ok rfl rfl rfl rfl ?_
  | refine w_st 6 hA ok rfl rfl rfl rfl ?_
  | refine w_st 7 hA ok rfl rfl rfl rfl ?_
  | refine w_ldA 0 hA ok rfl rfl rfl ?_
  | refine w_ldA 1 hA ok rfl rfl rfl ?_
  | refine w_ldA 2 hA ok rfl rfl rfl ?_
  | refine w_ldA 3 hA ok rfl rfl rfl ?_
  | refine w_ldA 4 hA ok rfl rfl rfl ?_
  | refine w_ldA 5 hA ok rfl rfl rfl ?_
  | refine w_ldA 6 hA ok rfl rfl rfl ?_
  | refine w_ldA 7 hA ok rfl rfl rfl ?_
  | refine w_stA 0 hA ok rfl rfl rfl rfl ?_
  | refine w_stA 1 hA ok rfl rfl rfl rfl ?_
  | refine w_stA 2 hA ok rfl rfl rfl rfl ?_
  | refine w_stA 3 hA ok rfl rfl rfl rfl ?_
  | refine w_stA 4 hA ok rfl rfl rfl rfl ?_
  | refine w_stA 5 hA ok rfl rfl rfl rfl ?_
  | refine w_stA 6 hA ok rfl rfl rfl rfl ?_
  | refine w_stA 7 hA ok rfl rfl rfl rfl ?_
  | (refine w_Raw hA ?_; intro hA)
  | (refine w_SetRaw hA ?_; intro hA)
  | (refine w_SwapRaw hA ?_; intro hA)
  | (refine w_AddRaw hA ?_; intro hA)
  | (refine w_Load hA ?_; intro hA)
  | (refine w_Store hA ?_; intro hA)
  | (refine w_Retire hA ?_; intro hA)
  | (refine w_Died hA ?_; intro hA)
  | (refine w_Born hA ?_; intro hA)
  | refine w_State hA ?_
  | refine w_Uses hA ?_
  | refine w_Fault hA ?_
  | refine w_Words hA ?_
  | refine w_Count hA ?_
  | refine wq_Size ?_
  | refine wq_Open ?_
  | refine wq_Pack ?_
  | refine wq_head ?_
  | refine w_ck 0 hA ok rfl rfl rfl ?_
  | refine w_ck 1 hA ok rfl rfl rfl ?_
  | refine w_ck 2 hA ok rfl rfl rfl ?_
  | refine w_ck 3 hA ok rfl rfl rfl ?_
  | refine w_ck 4 hA ok rfl rfl rfl ?_
  | refine w_ck 5 hA ok rfl rfl rfl ?_
  | refine w_ck 6 hA ok rfl rfl rfl ?_
  | refine w_ck 7 hA ok rfl rfl rfl ?_
  | refine w_ckn rfl ?_
  | refine w_Base 0 1 hA ok rfl rfl ?_
  | refine w_Base 1 2 hA ok rfl rfl ?_
  | refine w_Base 2 3 hA ok rfl rfl ?_
  | refine w_Base 3 4 hA ok rfl rfl ?_
  | refine w_Base 4 5 hA ok rfl rfl ?_
  | refine w_Base 5 6 hA ok rfl rfl ?_
  | (refine w_PopStep 0 1 hA ok rfl rfl ?_; intro hA)
  | (refine w_PopStep 1 2 hA ok rfl rfl ?_; intro hA)
  | (refine w_PopStep 2 3 hA ok rfl rfl ?_; intro hA)
  | (refine w_PopStep 3 4 hA ok rfl rfl ?_; intro hA)
  | (refine w_PopStep 4 5 hA ok rfl rfl ?_; intro hA)
  | (refine w_PopStep 5 6 hA ok rfl rfl ?_; intro hA)
  | (refine w_PushStep 0 1 hA ok rfl rfl ?_; intro hA)
  | (refine w_PushStep 1 2 hA ok rfl rfl ?_; intro hA)
  | (refine w_PushStep 2 3 hA ok rfl rfl ?_; intro hA)
  | (refine w_PushStep 3 4 hA ok rfl rfl ?_; intro hA)
  | (refine w_PushStep 4 5 hA ok rfl rfl ?_; intro hA)
  | (refine w_PushStep 5 6 hA ok rfl rfl ?_; intro hA)
  | refine wp_true (by assumption) ?_
  | refine wp_false (by assumption) ?_)
    refine look_val (x := true) feq0 ?_
    exact wp_ret_of ⟨q, rfl, rfl, rfl, ok, hA⟩

def newPn (tw ta work : Int) : Pn := ⟨tw, ta, work, 0, 0⟩
theorem w_NewPin {tw ta work : Int} {k : Option Addr → Tree} (hA : Aw I A) (ok : Ok I G (keys l)) (h : ∀ q : Nat, Ok I G (keys ((newPn tw ta work).bl q ++ l)) → wp Try.prog (k (some ⟨q, 0, none⟩)) L (own A ((newPn tw ta work).bl q ++ l) G) R) :
    wp Try.prog (.call f_epoch_NewPin [.agg #[.int .i64 tw, .int .i64 ta], .int .i64 work] (.one (.leaf .ptr)) k) L (own A l G) R := by
  refine wp_call_of (R0 := fun v K => ∃ q : Nat, v = .pointer (some ⟨q, 0, none⟩) ∧ K = own A ((newPn tw ta work).bl q ++ l) G ∧ Ok I G (keys ((newPn tw ta work).bl q ++ l))) ?_ ?_
  · refine t_epoch_NewPin_spec (p0_0 := tw) (p0_1 := ta) (p1 := work) fun L => ?_
    unfold t_epoch_NewPin
    have ok0 := ok
    refine w_newP hA ok fun b ok => ?_
    repeat (first
  | refine wp_nil.2 ?_
  | refine w_ld 0 hA ok rfl rfl rfl ?_
  | refine w_ld 1 hA ok rfl rfl rfl ?_
  | refine w_ld 2 hA ok rfl rfl rfl ?_
  | refine w_ld 3 hA ok rfl rfl rfl ?_
  | refine w_ld 4 hA ok rfl rfl rfl ?_
  | refine w_ld 5 hA ok rfl rfl rfl ?_
  | refine w_ld 6 hA ok rfl rfl rfl ?_
  | refine w_ld 7 hA ok rfl rfl rfl ?_
  | refine w_st 0 hA ok rfl rfl rfl rfl ?_
  | refine w_st 1 hA ok rfl rfl rfl rfl ?_
  | refine w_st 2 hA ok rfl rfl rfl rfl ?_
  | refine w_st 3 hA ok rfl rfl rfl rfl ?_
  | refine w_st 4 hA ok rfl rfl rfl rfl ?_
  | refine w_st 5 hA ok rfl rfl rfl rfl ?_
  | refine w_st 6 hA ok rfl rfl rfl rfl ?_
  | refine w_st 7 hA ok rfl rfl rfl rfl ?_
  | refine w_ldA 0 hA ok rfl rfl rfl ?_
  | refine w_ldA 1 hA ok rfl rfl rfl ?_
  | refine w_ldA 2 hA ok rfl rfl rfl ?_
  | refine w_ldA 3 hA ok rfl rfl rfl ?_
  | refine w_ldA 4 hA ok rfl rfl rfl ?_
  | refine w_ldA 5 hA ok rfl rfl rfl ?_
  | refine w_ldA 6 hA ok rfl rfl rfl ?_
  | refine w_ldA 7 hA ok rfl rfl rfl ?_
  | refine w_stA 0 hA ok rfl rfl rfl rfl ?_
  | refine w_stA 1 hA ok rfl rfl rfl rfl ?_
  | refine w_stA 2 hA ok rfl rfl rfl rfl ?_
  | refine w_stA 3 hA ok rfl rfl rfl rfl ?_
  | refine w_stA 4 hA ok rfl rfl rfl rfl ?_
  | refine w_stA 5 hA ok rfl rfl rfl rfl ?_
  | refine w_stA 6 hA ok rfl rfl rfl rfl ?_
  | refine w_stA 7 hA ok rfl rfl rfl rfl ?_
  | (refine w_Raw hA ?_; intro hA)
  | (refine w_SetRaw hA ?_; intro hA)
  | (refine w_SwapRaw hA ?_; intro hA)
  | (refine w_AddRaw hA ?_; intro hA)
  | (refine w_Load hA ?_; intro hA)
  | (refine w_Store hA ?_; intro hA)
  | (refine w_Retire hA ?_; intro hA)
  | (refine w_Died hA ?_; intro hA)
  | (refine w_Born hA ?_; intro hA)
  | refine w_State hA ?_
  | refine w_Uses hA ?_
  | refine w_Fault hA ?_
  | refine w_Words hA ?_
  | refine w_Count hA ?_
  | refine wq_Size ?_
  | refine wq_Open ?_
  | refine wq_Pack ?_
  | refine wq_head ?_
  | refine w_ck 0 hA ok rfl rfl rfl ?_
  | refine w_ck 1 hA ok rfl rfl rfl ?_
  | refine w_ck 2 hA ok rfl rfl rfl ?_
  | refine w_ck 3 hA ok rfl rfl rfl ?_
  | refine w_ck 4 hA ok rfl rfl rfl ?_
  | refine w_ck 5 hA ok rfl rfl rfl ?_
  | refine w_ck 6 hA ok rfl rfl rfl ?_
  | refine w_ck 7 hA ok rfl rfl rfl ?_
  | refine w_ckn rfl ?_
  | refine w_Base 0 1 hA ok rfl rfl ?_
  | refine w_Base 1 2 hA ok rfl rfl ?_
  | refine w_Base 2 3 hA ok rfl rfl ?_
  | refine w_Base 3 4 hA ok rfl rfl ?_
  | refine w_Base 4 5 hA ok rfl rfl ?_
  | refine w_Base 5 6 hA ok rfl rfl ?_
  | (refine w_PopStep 0 1 hA ok rfl rfl ?_; intro hA)
  | (refine w_PopStep 1 2 hA ok rfl rfl ?_; intro hA)
  | (refine w_PopStep 2 3 hA ok rfl rfl ?_; intro hA)
  | (refine w_PopStep 3 4 hA ok rfl rfl ?_; intro hA)
  | (refine w_PopStep 4 5 hA ok rfl rfl ?_; intro hA)
  | (refine w_PopStep 5 6 hA ok rfl rfl ?_; intro hA)
  | (refine w_PushStep 0 1 hA ok rfl rfl ?_; intro hA)
  | (refine w_PushStep 1 2 hA ok rfl rfl ?_; intro hA)
  | (refine w_PushStep 2 3 hA ok rfl rfl ?_; intro hA)
  | (refine w_PushStep 3 4 hA ok rfl rfl ?_; intro hA)
  | (refine w_PushStep 4 5 hA ok rfl rfl ?_; intro hA)
  | (refine w_PushStep 5 6 hA ok rfl rfl ?_; intro hA)
  | refine wp_true (by assumption) ?_
  | refine wp_false (by assumption) ?_)
    refine w_newP hA ok fun q ok => ?_
    repeat (first
  | refine wp_nil.2 ?_
  | refine w_ld 0 hA ok rfl rfl rfl ?_
  | refine w_ld 1 hA ok rfl rfl rfl ?_
  | refine w_ld 2 hA ok rfl rfl rfl ?_
  | refine w_ld 3 hA ok rfl rfl rfl ?_
  | refine w_ld 4 hA ok rfl rfl rfl ?_
  | refine w_ld 5 hA ok rfl rfl rfl ?_
  | refine w_ld 6 hA ok rfl rfl rfl ?_
  | refine w_ld 7 hA ok rfl rfl rfl ?_
  | refine w_st 0 hA ok rfl rfl rfl rfl ?_
  | refine w_st 1 hA ok rfl rfl rfl rfl ?_
  | refine w_st 2 hA ok rfl rfl rfl rfl ?_
  | refine w_st 3 hA ok rfl rfl rfl rfl ?_
  | refine w_st 4 hA ok rfl rfl rfl rfl ?_
  | refine w_st 5 hA ok rfl rfl rfl rfl ?_
  | refine w_st 6 hA ok rfl rfl rfl rfl ?_
  | refine w_st 7 hA ok rfl rfl rfl rfl ?_
  | refine w_ldA 0 hA ok rfl rfl rfl ?_
  | refine w_ldA 1 hA ok rfl rfl rfl ?_
  | refine w_ldA 2 hA ok rfl rfl rfl ?_
  | refine w_ldA 3 hA ok rfl rfl rfl ?_
  | refine w_ldA 4 hA ok rfl rfl rfl ?_
  | refine w_ldA 5 hA ok rfl rfl rfl ?_
  | refine w_ldA 6 hA ok rfl rfl rfl ?_
  | refine w_ldA 7 hA ok rfl rfl rfl ?_
  | refine w_stA 0 hA ok rfl rfl rfl rfl ?_
  | refine w_stA 1 hA ok rfl rfl rfl rfl ?_
  | refine w_stA 2 hA ok rfl rfl rfl rfl ?_
  | refine w_stA 3 hA ok rfl rfl rfl rfl ?_
  | refine w_stA 4 hA ok rfl rfl rfl rfl ?_
  | refine w_stA 5 hA ok rfl rfl rfl rfl ?_
  | refine w_stA 6 hA ok rfl rfl rfl rfl ?_
  | refine w_stA 7 hA ok rfl rfl rfl rfl ?_
  | (refine w_Raw hA ?_; intro hA)
  | (refine w_SetRaw hA ?_; intro hA)
  | (refine w_SwapRaw hA ?_; intro hA)
  | (refine w_AddRaw hA ?_; intro hA)
  | (refine w_Load hA ?_; intro hA)
  | (refine w_Store hA ?_; intro hA)
  | (refine w_Retire hA ?_; intro hA)
  | (refine w_Died hA ?_; intro hA)
  | (refine w_Born hA ?_; intro hA)
  | refine w_State hA ?_
  | refine w_Uses hA ?_
  | refine w_Fault hA ?_
  | refine w_Words hA ?_
  | refine w_Count hA ?_
  | refine wq_Size ?_
  | refine wq_Open ?_
  | refine wq_Pack ?_
  | refine wq_head ?_
  | refine w_ck 0 hA ok rfl rfl rfl ?_
  | refine w_ck 1 hA ok rfl rfl rfl ?_
  | refine w_ck 2 hA ok rfl rfl rfl ?_
  | refine w_ck 3 hA ok rfl rfl rfl ?_
  | refine w_ck 4 hA ok rfl rfl rfl ?_
  | refine w_ck 5 hA ok rfl rfl rfl ?_
  | refine w_ck 6 hA ok rfl rfl rfl ?_
  | refine w_ck 7 hA ok rfl rfl rfl ?_
  | refine w_ckn rfl ?_
  | refine w_Base 0 1 hA ok rfl rfl ?_
  | refine w_Base 1 2 hA ok rfl rfl ?_
  | refine w_Base 2 3 hA ok rfl rfl ?_
  | refine w_Base 3 4 hA ok rfl rfl ?_
  | refine w_Base 4 5 hA ok rfl rfl ?_
  | refine w_Base 5 6 hA ok rfl rfl ?_
  | (refine w_PopStep 0 1 hA ok rfl rfl ?_; intro hA)
  | (refine w_PopStep 1 2 hA ok rfl rfl ?_; intro hA)
  | (refine w_PopStep 2 3 hA ok rfl rfl ?_; intro hA)
  | (refine w_PopStep 3 4 hA ok rfl rfl ?_; intro hA)
  | (refine w_PopStep 4 5 hA ok rfl rfl ?_; intro hA)
  | (refine w_PopStep 5 6 hA ok rfl rfl ?_; intro hA)
  | (refine w_PushStep 0 1 hA ok rfl rfl ?_; intro hA)
  | (refine w_PushStep 1 2 hA ok rfl rfl ?_; intro hA)
  | (refine w_PushStep 2 3 hA ok rfl rfl ?_; intro hA)
  | (refine w_PushStep 3 4 hA ok rfl rfl ?_; intro hA)
  | (refine w_PushStep 4 5 hA ok rfl rfl ?_; intro hA)
  | (refine w_PushStep 5 6 hA ok rfl rfl ?_; intro hA)
  | refine wp_true (by assumption) ?_
  | refine wp_false (by assumption) ?_)
    have ok1 : Ok I G (keys ((newPn tw ta work).bl q ++ l)) := by
      have nd := ok.nd
      refine ok.sub ?_ fun c hc => ?_
      · have sl : (q :: keys l).Sublist (q :: b :: keys l) := .cons_cons _ (.cons _ (List.Sublist.refl _))
        exact sl.nodup nd
      · have hc : c ∈ q :: keys l := hc
        show c ∈ q :: b :: keys l
        simp only [List.mem_cons] at hc ⊢
        rcases hc with h | h
        · exact .inl h
        · exact .inr (.inr h)
    refine ⟨own A ((newPn tw ta work).bl q ++ l) G, own_sub ok ok1.nd fun c hc => ?_, q, rfl, rfl, ok1⟩
    rcases List.mem_cons.1 hc with h | h
    · rw [h]; exact List.mem_cons_self
    · exact List.mem_cons_of_mem _ (List.mem_cons_of_mem _ h)
  · rintro v K ⟨q, rfl, rfl, o⟩
    exact ⟨_, rfl, h q o⟩
end
end Go.Proofs.Ytfphgiipekkgdaa

