/- Texts of this claim, one behind the other. -/
import Derived.Test.YtfphgiipekkgdaaB3
set_option linter.unusedSimpArgs false
set_option linter.unusedVariables false
set_option linter.unusedVariables false
set_option linter.unusedSimpArgs false
set_option maxRecDepth 20000
namespace Go.Proofs.Ytfphgiipekkgdaa
open Go Go.Fw

/-! ### Machines of lists, whatever falls between their steps -/

theorem rawF_set1 {A : Ar} {i j v : Int} (hi : A.rawOk i) : (A.setR i.toNat v).rawF j = if j = i then v else A.rawF j := by
  unfold Ar.rawOk at hi
  by_cases hj : A.rawOk j
  · have hj' : (A.setR i.toNat v).rawOk j := by unfold Ar.rawOk Ar.setR at *; simpa using hj
    rw [← getD_rawF hj', ← getD_rawF hj]
    unfold Ar.rawOk at hj
    show (A.raw.set i.toNat v).getD j.toNat 0 = _
    rw [List.getD_eq_getElem?_getD, List.getElem?_set]
    by_cases e : j = i
    · rw [if_pos e, if_pos (by rw [e]), if_pos (by omega)]; rfl
    · rw [if_neg e, if_neg (by omega), List.getD_eq_getElem?_getD]
  · have hj' : ¬ (A.setR i.toNat v).rawOk j := by unfold Ar.rawOk Ar.setR at *; simpa using hj
    have e : ¬ j = i := fun e => hj (e ▸ hi)
    rw [if_neg e]; unfold Ar.rawF; rw [if_neg hj, if_neg hj']

theorem set_self {l : List Int} {i : Nat} {v : Int} (hi : i < l.length) (h : l.getD i 0 = v) : l.set i v = l := by
  rw [List.getD_eq_getElem?_getD, List.getElem?_eq_getElem hi] at h
  have h : l[i] = v := h
  rw [← h]; exact List.set_getElem_self hi

/-- Words turned, one use. -/
structure RStep (w n : Int) (A B : Ar) : Prop where
  eq : ∃ r : List Int, B = { A with raw := r, uses := A.uses + 1 } ∧ r.length = A.raw.length
  up : ∀ i, 4 * w + n ≤ i → B.rawF i = A.rawF i

/-- What the step of another one leaves; mb: the base whose link it may turn. -/
structure FEv (w n : Int) (A B : Ar) (mb : Int) : Prop where
  hd : ∀ k, 0 ≤ k → k < 4 * w → A.rawF k / 131072 ≤ B.rawF k / 131072 ∧ (A.rawF k / 131072 = B.rawF k / 131072 → B.rawF k = A.rawF k)
  lk : ∀ b, 0 ≤ b → b % 8 = 0 → b / 8 < n → b ≠ mb → B.rawF (4 * w + b / 8) = A.rawF (4 * w + b / 8)

section
variable {A B : Ar} {p : Pl} {w n k b : Int} {ch : Int → List Int}

theorem FEv.same {mb : Int} (h : ∀ i, 0 ≤ i → i < 4 * w + n → B.rawF i = A.rawF i) (wb : 0 ≤ w) (nb : 0 ≤ n) : FEv w n A B mb :=
  ⟨fun k h0 h1 => by rw [h k h0 (by omega)]; exact ⟨Int.le_refl _, fun _ => rfl⟩, fun b h0 h1 h2 _ => h _ (by omega) (by omega)⟩
theorem FEv.trans {C : Ar} {mb : Int} (h : FEv w n A B mb) (g : FEv w n B C mb) : FEv w n A C mb :=
  ⟨fun k h0 h1 => by
    obtain ⟨a1, a2⟩ := h.hd k h0 h1
    obtain ⟨b1, b2⟩ := g.hd k h0 h1
    exact ⟨by omega, fun e => by rw [b2 (by omega), a2 (by omega)]⟩, fun b h0 h1 h2 h3 => by rw [g.lk b h0 h1 h2 h3, h.lk b h0 h1 h2 h3]⟩

theorem FL.same (F : FL B p w n ch) (hr : ∀ i, A.rawF i = B.rawF i) (hl : A.raw.length = B.raw.length) (us : 0 ≤ A.uses) (hd : ∀ k, 0 ≤ k → k < 4 * w → A.rawF k / 131072 ≤ A.uses) : FL A p w n ch where
  heads := F.heads
  links := F.links
  wb := F.wb
  nb := F.nb
  len := by rw [hl]; exact F.len
  us := us
  hd k h0 h1 := ⟨by rw [hr]; exact (F.hd k h0 h1).1, hd k h0 h1⟩
  chn k h0 h1 := by
    rw [hr]
    exact chain_frame (fun i => by unfold Ar.rawOk; rw [hl]) _ _ (fun x _ => hr _) (F.chn k h0 h1)
  mem := F.mem
  nd := F.nd
  dj := F.dj
  rg := F.rg

theorem FL.tick (F : FL A p w n ch) : FL (A.later 1) p w n ch := F.congr (fun _ _ _ => rfl) rfl (by show A.uses ≤ A.uses + 1; omega)

/-- A head that was swapped. -/
theorem FL.pop1 (F : FL A p w n ch) (hu : A.uses ≤ 1000000000) {l : List Int} (hk : ch k = b :: l) :
    FL ((A.later 1).setR k.toNat (nextF (A.rawF k) (A.rawF (4 * w + b / 8)))) p w n (upd ch k l) ∧ FEv w n A ((A.later 1).setR k.toNat (nextF (A.rawF k) (A.rawF (4 * w + b / 8)))) (-1) := by
  obtain ⟨h0, h1⟩ := F.rg k (by rw [hk]; simp)
  have wb := F.wb
  have nb := F.nb
  have us := F.us
  have o1 := F.hdOk h0 h1
  have hkd := F.hd k h0 h1
  have hch := F.chn k h0 h1
  rw [hk] at hch
  have hc := chain_pop (A := A) (lk := 4 * w) (hd := k) (b := b) (l := l) (by rw [mod17]; exact hch) o1 (by omega) (fun x hx => by
    obtain ⟨a1, a2, a3⟩ := F.mem k x (by rw [hk]; exact hx)
    exact ⟨a2, a1, by omega, F.lkOk a1 a3, by omega⟩)
  have rf : ∀ j, ((A.later 1).setR k.toNat (nextF (A.rawF k) (A.rawF (4 * w + b / 8)))).rawF j = if j = k then nextF (A.rawF k) (A.rawF (4 * w + b / 8)) else A.rawF j := fun j => rawF_set1 (A := A.later 1) o1
  have nx : nextF (A.rawF k) (A.rawF (4 * w + b / 8)) = (A.rawF k / 131072 + 1) * 131072 + A.rawF (4 * w + b / 8) := nextF_eq (by omega) (by omega) hc.2.2.2.1 hc.2.2.2.2
  have b0 := hc.2.2.2.1
  have b1 := hc.2.2.2.2
  refine ⟨(F.pop hu hk).same (fun i => rawF_congr rfl i) (by show (A.raw.set _ _).length = (A.raw.set _ _).length; rw [List.length_set]) (by show 0 ≤ A.uses + 1; omega) fun j j0 j1 => ?_, fun j j0 j1 => ?_, fun c c0 c1 c2 _ => ?_⟩
  · rw [rf]
    show _ ≤ A.uses + 1
    by_cases e : j = k
    · rw [if_pos e, nx]; omega
    · rw [if_neg e]; have := F.hd j j0 j1; omega
  · rw [rf]
    by_cases e : j = k
    · rw [if_pos e, nx, e]; exact ⟨by omega, fun h => by omega⟩
    · rw [if_neg e]; exact ⟨Int.le_refl _, fun _ => rfl⟩
  · rw [rf, if_neg (by omega)]

theorem FL.push1 (F : FL A p w n ch) (hu : A.uses ≤ 1000000000) (h0 : 0 ≤ k) (h1 : k < 4 * w) (hb : 0 ≤ b ∧ b % 8 = 0 ∧ b / 8 < n) (hn : ∀ j, b ∉ ch j) (hl : A.rawF (4 * w + b / 8) = A.rawF k % 131072) :
    FL ((A.later 1).setR k.toNat (nextF (A.rawF k) (b / 8 + 1))) p w n (upd ch k (b :: ch k)) ∧ FEv w n A ((A.later 1).setR k.toNat (nextF (A.rawF k) (b / 8 + 1))) (-1) := by
  have wb := F.wb
  have nb := F.nb
  have us := F.us
  have o1 := F.hdOk h0 h1
  have o2 := F.lkOk hb.1 hb.2.2
  have hkd := F.hd k h0 h1
  have td : Int.tdiv b 8 = b / 8 := Int.tdiv_eq_ediv_of_nonneg hb.1
  have e1 : w64 (w64 (Int.tdiv b 8) + 1) = b / 8 + 1 := by rw [td, w64_in (x := b / 8) (by omega) (by omega), w64_in (by omega) (by omega)]
  have rf : ∀ j, ((A.later 1).setR k.toNat (nextF (A.rawF k) (b / 8 + 1))).rawF j = if j = k then nextF (A.rawF k) (b / 8 + 1) else A.rawF j := fun j => rawF_set1 (A := A.later 1) o1
  have nx : nextF (A.rawF k) (b / 8 + 1) = (A.rawF k / 131072 + 1) * 131072 + (b / 8 + 1) := nextF_eq (by omega) (by omega) (by omega) (by omega)
  have hraw : ((A.later 1).setR k.toNat (nextF (A.rawF k) (b / 8 + 1))).raw = (A.pushed k (4 * w + b / 8) b).raw := by
    show A.raw.set k.toNat _ = (A.raw.set (4 * w + b / 8).toNat (iand (A.rawF k) 131071)).set k.toNat (nextF (A.rawF k) (w64 (w64 (Int.tdiv b 8) + 1)))
    rw [e1, set_self (l := A.raw) (i := (4 * w + b / 8).toNat) (v := iand (A.rawF k) 131071) (by unfold Ar.rawOk at o2; omega) (by rw [getD_rawF o2, hl, mod17])]
  refine ⟨(F.push hu h0 h1 hb hn).same (fun i => rawF_congr hraw i) (by rw [hraw]) (by show 0 ≤ A.uses + 1; omega) fun j j0 j1 => ?_, fun j j0 j1 => ?_, fun c c0 c1 c2 _ => ?_⟩
  · rw [rf]
    show _ ≤ A.uses + 1
    by_cases e : j = k
    · rw [if_pos e, nx]; omega
    · rw [if_neg e]; have := F.hd j j0 j1; omega
  · rw [rf]
    by_cases e : j = k
    · rw [if_pos e, nx, e]; exact ⟨by omega, fun h => by omega⟩
    · rw [if_neg e]; exact ⟨Int.le_refl _, fun _ => rfl⟩
  · rw [rf, if_neg (by omega)]

/-- The link of a base that is in no list. -/
theorem FL.link1 (F : FL A p w n ch) (hb : 0 ≤ b ∧ b % 8 = 0 ∧ b / 8 < n) (hn : ∀ j, b ∉ ch j) (v : Int) :
    FL ((A.later 1).setR (4 * w + b / 8).toNat v) p w n ch ∧ FEv w n A ((A.later 1).setR (4 * w + b / 8).toNat v) b := by
  have wb := F.wb
  have nb := F.nb
  have us := F.us
  have o2 := F.lkOk hb.1 hb.2.2
  have rf : ∀ j, ((A.later 1).setR (4 * w + b / 8).toNat v).rawF j = if j = 4 * w + b / 8 then v else A.rawF j := fun j => rawF_set1 (A := A.later 1) o2
  refine ⟨⟨F.heads, F.links, F.wb, F.nb, by show _ ≤ ((A.raw.set _ _).length : Int); rw [List.length_set]; exact F.len, by show 0 ≤ A.uses + 1; omega, fun j j0 j1 => ?_, fun j j0 j1 => ?_, F.mem, F.nd, F.dj, F.rg⟩, fun j j0 j1 => ?_, fun c c0 c1 c2 c3 => ?_⟩
  · rw [rf, if_neg (by omega)]
    show _ ∧ _ ≤ A.uses + 1
    have := F.hd j j0 j1; omega
  · rw [rf, if_neg (by omega)]
    refine chain_frame (fun i => by unfold Ar.rawOk; show _ ∧ i < ((A.raw.set _ _).length : Int) ↔ _; rw [List.length_set]) _ _ (fun x hx => ?_) (F.chn j j0 j1)
    obtain ⟨a1, a2, a3⟩ := F.mem j x hx
    have : x ≠ b := fun e => hn j (e ▸ hx)
    rw [rf, if_neg (by omega)]
  · rw [rf, if_neg (by omega)]; exact ⟨Int.le_refl _, fun _ => rfl⟩
  · rw [rf, if_neg (by omega)]

/-- A pop under way. -/
structure PoI (p : Pl) (w n k : Int) (x : Po) (A : Ar) : Prop where
  pl : x.pl = p
  hd : x.head = k
  ok : x.ok = false
  ph : x.at' = 0 ∨ x.at' = 1 ∨ x.at' = 2
  was : x.at' ≠ 0 → 0 ≤ x.was ∧ x.was % 131072 ≠ 0 ∧ x.was % 131072 ≤ n ∧ x.was / 131072 ≤ A.rawF k / 131072 ∧ (x.was / 131072 = A.rawF k / 131072 → A.rawF k = x.was)
  link : x.at' = 2 → A.rawF k = x.was → x.link = A.rawF (4 * w + (x.was % 131072 - 1))

theorem PoI.new (hp : p.heads = 0) (wb : 0 ≤ w ∧ w ≤ 1000) {who c : Int} (h : headF p who c = k) : PoI p w n k ⟨p, headF p who c, 0, 0, 0, 0, false⟩ A := ⟨rfl, h, rfl, .inl rfl, fun h => (h rfl).elim, fun h => by cases h⟩

theorem PoI.keep {x : Po} (P : PoI p w n k x A) (F : FL A p w n ch) (h0 : 0 ≤ k) (h1 : k < 4 * w) {mb : Int} (hm : ∀ j, mb ∉ ch j) (E : FEv w n A B mb) : PoI p w n k x B := by
  obtain ⟨e1, e2⟩ := E.hd k h0 h1
  refine ⟨P.pl, P.hd, P.ok, P.ph, fun h => ?_, fun h hb => ?_⟩
  · obtain ⟨a1, a2, a3, a4, a5⟩ := P.was h
    exact ⟨a1, a2, a3, by omega, fun e => by rw [e2 (by omega)]; exact a5 (by omega)⟩
  · obtain ⟨a1, a2, a3, a4, a5⟩ := P.was (by omega)
    have t : A.rawF k / 131072 = B.rawF k / 131072 := by rw [hb] at e1 ⊢; omega
    have hA : A.rawF k = x.was := by rw [← hb]; exact (e2 t).symm
    rw [P.link h hA]
    obtain ⟨b, l, hbl⟩ : ∃ b l, ch k = b :: l := by
      cases hc : ch k with
      | nil => exact (a2 (by rw [← hA]; exact F.first_nil h0 h1 hc)).elim
      | cons b l => exact ⟨b, l, rfl⟩
    have hf := F.first_cons h0 h1 hbl
    rw [hA] at hf
    have hmem : b ∈ ch k := by rw [hbl]; simp
    obtain ⟨m1, m2, m3⟩ := F.mem k b hmem
    rw [hf, show b / 8 + 1 - 1 = b / 8 by omega]
    exact (E.lk b m1 m2 m3 fun e => hm k (e ▸ hmem)).symm

theorem rstep_later {w n : Int} {A : Ar} : RStep w n A (A.later 1) := ⟨⟨A.raw, rfl, rfl⟩, fun _ _ => rfl⟩
theorem rstep_set {i v : Int} (o : A.rawOk i) (h : i < 4 * w + n) : RStep w n A ((A.later 1).setR i.toNat v) := ⟨⟨A.raw.set i.toNat v, rfl, by rw [List.length_set]⟩, fun j hj => by rw [rawF_set1 (A := A.later 1) o, if_neg (by omega)]; rfl⟩

/-- A step of a pop: it goes on; it ends with nothing; it ends with a base. -/
theorem PoI.step {x : Po} (P : PoI p w n k x A) (F : FL A p w n ch) (hu : A.uses ≤ 1000000000) (h0 : 0 ≤ k) (h1 : k < 4 * w) :
    (x.stepB A = false ∧ x.stepA A = A.later 1 ∧ PoI p w n k (x.stepM A) (A.later 1)) ∨
    (x.stepB A = true ∧ x.stepA A = A.later 1 ∧ (x.stepM A).ok = false ∧ ch k = []) ∨
    (x.stepB A = true ∧ (x.stepM A).ok = true ∧ ∃ b l, ch k = b :: l ∧ (x.stepM A).base = b ∧ x.stepA A = (A.later 1).setR k.toNat (nextF (A.rawF k) (A.rawF (4 * w + b / 8)))) := by
  have us := F.us
  have wb := F.wb
  have nb := F.nb
  have o1 := F.hdOk h0 h1
  have hkd := F.hd k h0 h1
  have tk : A.tick = A.later 1 := tick_uses us (by omega)
  have eh := P.hd
  rcases P.ph with h | h | h
  · have s := Po.s0 (A := A) h (by rw [eh]; exact o1)
    rw [eh, tk] at s
    obtain ⟨s1, s2⟩ := Prod.mk.inj s
    have sb : x.stepB A = decide (A.rawF k % 131072 = 0) := by
      unfold Po.stepB; rw [if_neg (by omega), if_neg (by omega), if_neg (by omega), eh, mod17]
    by_cases c : A.rawF k % 131072 = 0
    · right; left
      refine ⟨by rw [sb, decide_eq_true c], s2, by rw [s1]; exact P.ok, ?_⟩
      cases hc : ch k with
      | nil => rfl
      | cons b l =>
        have := F.first_cons h0 h1 hc
        have := F.mem k b (by rw [hc]; simp)
        omega
    · left
      refine ⟨by rw [sb, decide_eq_false c], s2, ?_⟩
      rw [s1, if_neg c]
      obtain ⟨b, l, hbl⟩ : ∃ b l, ch k = b :: l := by
        cases hc : ch k with
        | nil => exact (c (F.first_nil h0 h1 hc)).elim
        | cons b l => exact ⟨b, l, rfl⟩
      have hf := F.first_cons h0 h1 hbl
      obtain ⟨m1, m2, m3⟩ := F.mem k b (by rw [hbl]; simp)
      exact ⟨P.pl, rfl, P.ok, .inr (.inl rfl), fun _ => ⟨hkd.1, c, by show A.rawF k % 131072 ≤ n; omega, Int.le_refl _, fun _ => rfl⟩, fun h => by cases h⟩
  · left
    obtain ⟨a1, a2, a3, a4, a5⟩ := P.was (by omega)
    have el : w64 (w64 (x.pl.links + x.was % 131072) - 1) = 4 * w + (x.was % 131072 - 1) := by
      rw [P.pl, F.links, w64_in (x := 4 * w + x.was % 131072) (by omega) (by omega), w64_in (by omega) (by omega)]; omega
    have o2 : A.rawOk (4 * w + (x.was % 131072 - 1)) := ⟨by omega, by have := F.len; omega⟩
    have s := Po.s1 (A := A) h el o2
    rw [tk] at s
    obtain ⟨s1, s2⟩ := Prod.mk.inj s
    refine ⟨by unfold Po.stepB; rw [if_pos h], s2, ?_⟩
    rw [s1]
    exact ⟨P.pl, P.hd, P.ok, .inr (.inr rfl), fun _ => ⟨a1, a2, a3, a4, a5⟩, fun _ _ => rfl⟩
  · obtain ⟨a1, a2, a3, a4, a5⟩ := P.was (by omega)
    have sb : x.stepB A = A.swapRb x.head x.was := by unfold Po.stepB; rw [if_neg (by omega), if_pos h]
    by_cases c : A.rawF k = x.was
    · right; right
      have s := Po.s2y (A := A) h (by rw [eh]; exact o1) (by rw [eh]; exact c)
      rw [eh, tk] at s
      obtain ⟨s1, s2⟩ := Prod.mk.inj s
      have sw : A.swapRb x.head x.was = true := by rw [eh]; exact decide_eq_true ⟨o1, by rw [getD_rawF o1]; exact c⟩
      obtain ⟨b, l, hbl⟩ : ∃ b l, ch k = b :: l := by
        cases hc : ch k with
        | nil => exact (a2 (by rw [← c]; exact F.first_nil h0 h1 hc)).elim
        | cons b l => exact ⟨b, l, rfl⟩
      have hf := F.first_cons h0 h1 hbl
      rw [c] at hf
      obtain ⟨m1, m2, m3⟩ := F.mem k b (by rw [hbl]; simp)
      refine ⟨by rw [sb, sw], by rw [s1], b, l, hbl, ?_, ?_⟩
      · rw [s1]
        show w64 (w64 (x.was % 131072 - 1) * 8) = b
        rw [hf, w64_in (x := b / 8 + 1 - 1) (by omega) (by omega), w64_in (by omega) (by omega)]; omega
      · rw [s2, P.link h c, c, hf, show b / 8 + 1 - 1 = b / 8 by omega]
    · left
      have s := Po.s2n (A := A) h (by rw [eh]; exact o1) (by rw [eh]; exact c)
      rw [tk] at s
      obtain ⟨s1, s2⟩ := Prod.mk.inj s
      have sw : A.swapRb x.head x.was = false := by rw [eh]; exact decide_eq_false fun e => c (by rw [← getD_rawF o1]; exact e.2)
      refine ⟨by rw [sb, sw], s2, ?_⟩
      rw [s1]
      exact ⟨P.pl, P.hd, P.ok, .inl rfl, fun h => (h rfl).elim, fun h => by cases h⟩

/-- A push under way. -/
structure PuI (p : Pl) (w n k b : Int) (x : Pu) (A : Ar) : Prop where
  pl : x.pl = p
  hd : x.head = k
  ba : x.base = b
  bb : 0 ≤ b ∧ b % 8 = 0 ∧ b / 8 < n
  ph : x.at' = 0 ∨ x.at' = 1 ∨ x.at' = 2
  was : x.at' ≠ 0 → 0 ≤ x.was
  link : x.at' = 2 → A.rawF (4 * w + b / 8) = x.was % 131072

theorem PuI.new {who c : Int} (h : headF p who c = k) (hb : 0 ≤ b ∧ b % 8 = 0 ∧ b / 8 < n) : PuI p w n k b ⟨p, headF p who c, 0, 0, b⟩ A := ⟨rfl, h, rfl, hb, .inl rfl, fun h => (h rfl).elim, fun h => by cases h⟩
theorem PuI.keep {x : Pu} (P : PuI p w n k b x A) {mb : Int} (hm : b ≠ mb) (E : FEv w n A B mb) : PuI p w n k b x B :=
  ⟨P.pl, P.hd, P.ba, P.bb, P.ph, P.was, fun h => by rw [E.lk b P.bb.1 P.bb.2.1 P.bb.2.2 hm]; exact P.link h⟩

theorem PuI.step {x : Pu} (P : PuI p w n k b x A) (F : FL A p w n ch) (hu : A.uses ≤ 1000000000) (h0 : 0 ≤ k) (h1 : k < 4 * w) (hn : ∀ j, b ∉ ch j) :
    (x.stepB A = false ∧ PuI p w n k b (x.stepM A) (x.stepA A) ∧ FL (x.stepA A) p w n ch ∧ FEv w n A (x.stepA A) b ∧ RStep w n A (x.stepA A)) ∨
    (x.stepB A = true ∧ FL (x.stepA A) p w n (upd ch k (b :: ch k)) ∧ FEv w n A (x.stepA A) b ∧ RStep w n A (x.stepA A)) := by
  have us := F.us
  have wb := F.wb
  have nb := F.nb
  have o1 := F.hdOk h0 h1
  have o2 := F.lkOk P.bb.1 P.bb.2.2
  have bb := P.bb
  have hkd := F.hd k h0 h1
  have tk : A.tick = A.later 1 := tick_uses us (by omega)
  have eh := P.hd
  have same : FEv w n A (A.later 1) b := FEv.same (fun _ _ _ => rfl) wb.1 nb.1
  have td : Int.tdiv b 8 = b / 8 := Int.tdiv_eq_ediv_of_nonneg bb.1
  rcases P.ph with h | h | h
  · left
    have s := Pu.s0 (A := A) h (by rw [eh]; exact o1)
    rw [eh, tk] at s
    obtain ⟨s1, s2⟩ := Prod.mk.inj s
    refine ⟨by unfold Pu.stepB; rw [if_neg (by omega), decide_eq_false (by omega)], ?_⟩
    rw [s1, s2]
    exact ⟨⟨P.pl, rfl, P.ba, bb, .inr (.inl rfl), fun _ => hkd.1, fun h => by cases h⟩, F.tick, same, rstep_later⟩
  · left
    have el : w64 (x.pl.links + w64 (Int.tdiv x.base 8)) = 4 * w + b / 8 := by
      rw [P.pl, P.ba, F.links, td, w64_in (x := b / 8) (by omega) (by omega), w64_in (by omega) (by omega)]
    have s := Pu.s1 (A := A) h el o2
    rw [tk, mod17] at s
    obtain ⟨s1, s2⟩ := Prod.mk.inj s
    obtain ⟨f1, f2⟩ := F.link1 bb hn (x.was % 131072)
    refine ⟨by unfold Pu.stepB; rw [if_neg (by omega), decide_eq_false (by omega)], ?_⟩
    rw [s1, s2]
    exact ⟨⟨P.pl, P.hd, P.ba, bb, .inr (.inr rfl), fun _ => P.was (by omega), fun _ => by rw [rawF_set1 (A := A.later 1) o2, if_pos rfl]⟩, f1, f2, rstep_set o2 (by omega)⟩
  · have sb : x.stepB A = A.swapRb x.head x.was := by unfold Pu.stepB; rw [if_pos h]
    have w0 := P.was (by omega)
    by_cases c : A.rawF k = x.was
    · right
      have s := Pu.s2y (A := A) h (by rw [eh]; exact o1) (by rw [eh]; exact c)
      rw [eh, tk, P.ba, td] at s
      obtain ⟨s1, s2⟩ := Prod.mk.inj s
      have sw : A.swapRb x.head x.was = true := by rw [eh]; exact decide_eq_true ⟨o1, by rw [getD_rawF o1]; exact c⟩
      have e1 : w64 (w64 (b / 8) + 1) = b / 8 + 1 := by rw [w64_in (x := b / 8) (by omega) (by omega), w64_in (by omega) (by omega)]
      rw [e1, ← c] at s2
      obtain ⟨f1, f2⟩ := F.push1 hu h0 h1 bb hn (by rw [c]; exact P.link h)
      refine ⟨by rw [sb, sw], ?_⟩
      rw [s2]
      exact ⟨f1, ⟨f2.hd, fun c c0 c1 c2 _ => f2.lk c c0 c1 c2 (by omega)⟩, rstep_set o1 (by omega)⟩
    · left
      have s := Pu.s2n (A := A) h (by rw [eh]; exact o1) (by rw [eh]; exact c)
      rw [tk] at s
      obtain ⟨s1, s2⟩ := Prod.mk.inj s
      have sw : A.swapRb x.head x.was = false := by rw [eh]; exact decide_eq_false fun e => c (by rw [← getD_rawF o1]; exact e.2)
      refine ⟨by rw [sb, sw], ?_⟩
      rw [s1, s2]
      exact ⟨⟨P.pl, P.hd, P.ba, bb, .inl rfl, fun h => (h rfl).elim, fun h => by cases h⟩, F.tick, same, rstep_later⟩
end
end Go.Proofs.Ytfphgiipekkgdaa

set_option linter.unusedVariables false
set_option linter.unusedSimpArgs false
set_option maxRecDepth 20000
namespace Go.Proofs.Ytfphgiipekkgdaa
open Go Go.Fw

/-! ### The slab's machines, whatever falls between their steps -/

section
variable {A B C : Ar} {p : Pl} {w m : Int} {S S' S2 : Sg}

/-- The lists' words turned. -/
theorem SL.ofRaw (X : SL A p w m S) {r : List Int} {ch' : Int → List Int} (hl : r.length = A.raw.length) (up : ∀ i, 4 * w + (m + 7) / 8 ≤ i → ({ A with raw := r } : Ar).rawF i = A.rawF i) (F : FL { A with raw := r } p w ((m + 7) / 8) ch')
    (hc : ∀ k b, b ∈ ch' k → S.cl b = k % 4) (ha : ∀ h, A.stF h ≠ 0 → ∀ k, opB h ∉ ch' k) : SL { A with raw := r } p w m { S with ch := ch' } := by
  obtain ⟨p1, p2, p3, p4, p5⟩ := X.places
  have wb := X.wb
  have mb := X.mb
  have st : ∀ h, ({ A with raw := r } : Ar).stF h = A.stF h := fun h => stF_slots rfl h
  refine ⟨F, X.pl, X.wb, X.mb, by show p.carved < (r.length : Int); rw [hl]; exact X.rl, X.wl, X.fr, ?_, X.cvb, ?_, X.gnb, X.gnz, X.blk, X.dis, hc, ?_, ?_, X.cr1, X.cr2, X.cnt, X.ncb, X.cnb⟩
  · rw [up _ (by omega)]; exact X.cvr
  · intro b h0 h1 h2; rw [up _ (by omega)]; exact X.gnr b h0 h1 h2
  · intro h hh
    rw [st] at hh
    exact ⟨(X.act h hh).1, ha h hh⟩
  · intro i hi
    obtain ⟨h, h1, h2, h3⟩ := X.bz i hi
    exact ⟨h, by rw [st]; exact h1, h2, h3⟩

/-- A base in nobody's list, that is not alive: somebody has it in hand. -/
def Ow (A : Ar) (S : Sg) (b : Int) : Prop := S.cl b ≠ -1 ∧ (∀ k, b ∉ S.ch k) ∧ ∀ h, A.stF h ≠ 0 → opB h ≠ b

/-- What a step leaves; mine: the base that the one who steps has in hand. -/
structure Ev (p : Pl) (w m : Int) (A : Ar) (S : Sg) (B : Ar) (S' : Sg) (mine : Int) : Prop where
  fe : FEv w ((m + 7) / 8) A B mine
  cl : ∀ b, S.cl b ≠ -1 → S'.cl b = S.cl b
  ow : ∀ b, Ow A S b → b ≠ mine → Ow B S' b
  st : ∀ h, opB h ≠ mine → B.stF h = A.stF h
  fa : B.fault = A.fault
  rl : B.raw.length = A.raw.length
  rw : ∀ i, p.carved < i → B.rawF i = A.rawF i
  us : A.uses ≤ B.uses

theorem Ev.later (X : SL A p w m S) {n mine : Int} (hn : 0 ≤ n) : Ev p w m A S (A.later n) S mine :=
  ⟨FEv.same (fun _ _ _ => rfl) X.F.wb.1 X.F.nb.1, fun _ _ => rfl, fun _ h _ => h, fun _ _ => rfl, rfl, rfl, fun _ _ => rfl, by show A.uses ≤ A.uses + n; omega⟩

theorem Ev.refl {mine : Int} : Ev p w m A S A S mine := ⟨⟨fun _ _ _ => ⟨Int.le_refl _, fun _ => rfl⟩, fun _ _ _ _ _ => rfl⟩, fun _ _ => rfl, fun _ h _ => h, fun _ _ => rfl, rfl, rfl, fun _ _ => rfl, Int.le_refl _⟩

/-- An alloc under way. -/
structure AlI (p : Pl) (w m : Int) (x : Al) (A : Ar) (S : Sg) : Prop where
  pl : x.pl = p
  who : 0 ≤ x.work ∧ x.work < w
  cls : 0 ≤ x.cls ∧ x.cls < 4
  lst : 0 ≤ x.lst ∧ x.lst ≤ w
  wh : x.what = 0 ∨ x.what = 1 ∨ x.what = 2 ∨ x.what = 3
  pops : x.what = 0 → x.lst < w ∧ ∃ k, 0 ≤ k ∧ k < 4 * w ∧ k % 4 = x.cls ∧ PoI p w ((m + 7) / 8) k x.po A
  swaps : x.what = 2 → 0 ≤ x.base ∧ x.base + sizeF x.cls ≤ m
  bears : x.what = 3 → Ow A S x.base ∧ S.cl x.base = x.cls
  h0 : x.h = 0
def Al.mine (x : Al) : Int := if x.what = 3 then x.base else -1

theorem AlI.new (X : SL A p w m S) {who c : Int} (wh : 0 ≤ who ∧ who < w) (hc : 0 ≤ c ∧ c < 4) : AlI p w m (newAl p who c) A S := by
  obtain ⟨p1, p2, p3, p4, p5⟩ := X.places
  have wb := X.wb
  have e := headF_eq (p := p) (w := who) (c := c) p1 ⟨wh.1, by omega⟩ hc
  exact ⟨rfl, wh, hc, ⟨Int.le_refl 0, by show 0 ≤ w; omega⟩, .inl rfl, fun _ => ⟨by show 0 < w; omega, 4 * who + c, by omega, by omega, by show (4 * who + c) % 4 = c; omega, PoI.new p1 ⟨by omega, by omega⟩ e⟩, fun h => (by cases h), fun h => (by cases h), rfl⟩

theorem AlI.keep {x : Al} (I : AlI p w m x A S) (X : SL A p w m S) {mine : Int} (E : Ev p w m A S B S' mine) (hm : ∀ j, mine ∉ S.ch j) (hb : x.what = 3 → x.base ≠ mine) : AlI p w m x B S' := by
  refine ⟨I.pl, I.who, I.cls, I.lst, I.wh, fun h => ?_, I.swaps, fun h => ?_, I.h0⟩
  · obtain ⟨a, k, k0, k1, k2, P⟩ := I.pops h
    exact ⟨a, k, k0, k1, k2, P.keep X.F k0 k1 hm E.fe⟩
  · obtain ⟨o, c⟩ := I.bears h
    exact ⟨E.ow _ o (hb h), by rw [E.cl _ o.1]; exact c⟩

theorem runs_one {M J : Type} {X : Mch M J} {x x' : M} {D D' : Ar} (h : X.Runs 1 x D x' D') : X.step x D = (x', D') := by
  cases h with
  | one h1 h2 h3 => rfl
  | more h1 h2 h3 h4 => cases h4

theorem count_setN : ∀ (n : Nat) {l : List Bool} {b : Nat}, b + n ≤ l.length → (setN l b true n).count true = l.count true + newsN l b n
  | 0, l, b, _ => rfl
  | n + 1, l, b, h => by
    have ih := count_setN n (l := l) (b := b) (by omega)
    show ((setN l b true n).set (b + n) true).count true = l.count true + newsN l b (n + 1)
    have hl : b + n < (setN l b true n).length := by rw [setN_length]; omega
    rw [List.count_set hl, ih]
    have hg : (setN l b true n)[b + n] = l.getD (b + n) false := by
      have := setN_get l b true n (b + n)
      rw [if_neg (by omega), List.getElem?_eq_getElem hl, List.getElem?_eq_getElem (by omega)] at this
      rw [List.getD_eq_getElem?_getD, List.getElem?_eq_getElem (by omega)]
      simpa using this
    rw [hg, show newsN l b (n + 1) = newsN l b n + (if l.getD (b + n) false then 0 else 1) from rfl]
    have hc : l.getD (b + n) false = true → 0 < l.count true + newsN l b n := fun e => by
      have : 0 < l.count true := by
        refine List.count_pos_iff.2 ?_
        rw [List.getD_eq_getElem?_getD, List.getElem?_eq_getElem (by omega)] at e
        rw [← (show l[b + n] = true from e)]; exact List.getElem_mem _
      omega
    cases e : l.getD (b + n) false
    · simp; omega
    · have := hc e
      simp; omega
theorem bornF_cc {A : Ar} (hw : A.wf) {h : Int} (hf : opB h + sizeF (opC h) ≤ A.words.length) (hc : A.nC = A.carved.count true) : (A.bornF h).nC = (A.bornF h).carved.count true := by
  have o := opC_nat h
  have hb := opB_nat h
  have szc := sz_pos (c := opC h) (by omega) (by omega)
  rw [(bornF_counts A hw h).1, bornF_carved, count_setN _ (by rw [hw.carved]; omega), hc]
  have : (A.carved.count true + newsN A.carved (opB h).toNat (sizeF (opC h)).toNat) ≤ 65536 := by
    rw [← count_setN _ (by rw [hw.carved]; omega)]
    refine Nat.le_trans List.count_le_length ?_
    rw [setN_length, hw.carved]; exact hw.words
  rw [w64_in (by omega) (by omega)]; omega

/-- How an alloc's step goes. -/
structure AlS (p : Pl) (w m : Int) (x : Al) (A : Ar) (S : Sg) (y : Al) (B : Ar) (S' : Sg) : Prop where
  wd : B.words = A.words
  sl : SL B p w m S'
  ev : Ev p w m A S B S' x.mine
  us : B.uses = A.uses + 1
  inv : y.what ≠ 4 → AlI p w m y B S'
  cls : y.cls = x.cls
  work : y.work = x.work
  acq : y.what = 3 → S.cl y.base = -1 ∨ ∃ k, y.base ∈ S.ch k
  nR : B.nR = A.nR
  cc : A.nC = A.carved.count true → B.nC = B.carved.count true
  res : (y.h = 0 ∧ (∀ k, B.stF k = A.stF k) ∧ B.nL = A.nL) ∨ (y.what = 4 ∧ x.what = 3 ∧ y.h ≠ 0 ∧ opB y.h = x.base ∧ opC y.h = x.cls ∧ openOk y.h = true ∧ A.stF y.h = 0 ∧ (∀ k, B.stF k = if k = y.h then 1 else A.stF k) ∧ B.nL = A.nL + sizeF x.cls)

theorem AlI.step {x : Al} (I : AlI p w m x A S) (X : SL A p w m S) (hwf : A.wf) (hu : A.uses ≤ 1000000) : ∃ S', AlS p w m x A S (x.step A).1 (x.step A).2 S' := by
  obtain ⟨p1, p2, p3, p4, p5⟩ := X.places
  have wb := X.wb
  have mb := X.mb
  have us := X.F.us
  have cvb := X.cvb
  have sz := sz_pos I.cls.1 I.cls.2
  have X1 := X.later (n := 1) (by omega)
  have E1 : ∀ mine, Ev p w m A S (A.later 1) S mine := fun mine => Ev.later X (by omega)
  have m0 : x.what ≠ 3 → x.mine = -1 := fun h => if_neg h
  rcases I.wh with h | h | h | h
  · obtain ⟨l0, k, k0, k1, k2, P⟩ := I.pops h
    have lst := I.lst
    have stp : x.step A = (if x.po.stepB A then Al.popd { x with po := x.po.stepM A } else { x with po := x.po.stepM A }, x.po.stepA A) := by unfold Al.step; rw [if_pos h]
    rw [stp]
    have el : w64 (x.lst + 1) = x.lst + 1 := w64_in (by omega) (by omega)
    rcases P.step X.F (by omega) k0 k1 with ⟨s1, s2, s3⟩ | ⟨s1, s2, s3, s4⟩ | ⟨s1, s2, b, l, s3, s4, s5⟩
    · rw [s1, s2, if_neg (by simp)]
      exact ⟨S, rfl, X1, E1 _, rfl, fun _ => ⟨I.pl, I.who, I.cls, I.lst, I.wh, fun _ => ⟨l0, k, k0, k1, k2, s3⟩, fun h2 => (by rw [show ({ x with po := x.po.stepM A } : Al).what = x.what from rfl, h] at h2; cases h2), fun h2 => (by rw [show ({ x with po := x.po.stepM A } : Al).what = x.what from rfl, h] at h2; cases h2), I.h0⟩, rfl, rfl, fun h2 => (by rw [show ({ x with po := x.po.stepM A } : Al).what = x.what from rfl, h] at h2; cases h2), rfl, fun h => h, .inl ⟨I.h0, fun _ => rfl, rfl⟩⟩
    · rw [s1, s2, if_pos rfl]
      unfold Al.popd
      rw [if_neg (by rw [s3]; simp)]
      dsimp only
      rw [el, I.pl, p5]
      have ei : imax w 1 = w := by unfold imax; split <;> omega
      rw [ei]
      by_cases c : x.lst + 1 ≥ w
      · rw [if_pos c]
        refine ⟨S, rfl, X1, E1 _, rfl, fun _ => ⟨rfl, I.who, I.cls, ⟨by show 0 ≤ x.lst + 1; omega, by show x.lst + 1 ≤ w; omega⟩, .inr (.inl rfl), fun h => (by cases h), fun h => (by cases h), fun h => (by cases h), I.h0⟩, rfl, rfl, fun h => (by cases h), rfl, fun h => h, .inl ⟨I.h0, fun _ => rfl, rfl⟩⟩
      · rw [if_neg c]
        have wh := I.who
        have ew : w64 (x.work + (x.lst + 1)) = x.work + (x.lst + 1) := w64_in (by omega) (by omega)
        rw [ew, Int.tmod_eq_emod_of_nonneg (by omega)]
        have q0 := Int.emod_nonneg (x.work + (x.lst + 1)) (b := w) (by omega)
        have q1 := Int.emod_lt_of_pos (x.work + (x.lst + 1)) (b := w) (by omega)
        have e := headF_eq (p := p) (w := (x.work + (x.lst + 1)) % w) (c := x.cls) p1 ⟨q0, by omega⟩ I.cls
        have cl := I.cls
        refine ⟨S, rfl, X1, E1 _, rfl, fun _ => ⟨rfl, I.who, I.cls, ⟨by show 0 ≤ x.lst + 1; omega, by show x.lst + 1 ≤ w; omega⟩, .inl h, fun _ => ⟨by show x.lst + 1 < w; omega, 4 * ((x.work + (x.lst + 1)) % w) + x.cls, by omega, by omega, by show (4 * ((x.work + (x.lst + 1)) % w) + x.cls) % 4 = x.cls; omega, PoI.new p1 ⟨by omega, by omega⟩ e⟩, fun h2 => (by rw [show x.what = 2 from h2] at h; cases h), fun h2 => (by rw [show x.what = 3 from h2] at h; cases h), I.h0⟩, rfl, rfl, fun h2 => (by rw [show x.what = 3 from h2] at h; cases h), rfl, fun h => h, .inl ⟨I.h0, fun _ => rfl, rfl⟩⟩
    · rw [s1, if_pos rfl]
      unfold Al.popd
      rw [if_pos s2]
      dsimp only
      rw [el, s4, s5]
      obtain ⟨F, fe⟩ := X.F.pop1 (by omega) s3
      have hmem : b ∈ S.ch k := by rw [s3]; simp
      have hcl := X.chc k b hmem
      have hsub : ∀ j y, y ∈ upd S.ch k l j → y ∈ S.ch j := fun j y hy => by
        unfold upd at hy; split at hy
        · rename_i e; rw [e, s3]; exact List.mem_cons_of_mem _ hy
        · exact hy
      have Y := X1.ofRaw (r := A.raw.set k.toNat (nextF (A.rawF k) (A.rawF (4 * w + b / 8)))) (ch' := upd S.ch k l) (by rw [List.length_set]; rfl) (fun i hi => by
        have := rawF_set1 (A := A.later 1) (i := k) (j := i) (v := nextF (A.rawF k) (A.rawF (4 * w + b / 8))) (X.F.hdOk k0 k1)
        rw [if_neg (by have := X.F.nb; omega)] at this
        exact this) F (fun j y hy => X.chc j y (hsub j y hy)) fun h hh j hj => (X.act h hh).2 j (hsub j _ hj)
      have hact : ∀ h, A.stF h ≠ 0 → opB h ≠ b := fun h hh e => (X.act h hh).2 k (by rw [e]; exact hmem)
      have hnin : ∀ j, b ∉ upd S.ch k l j := fun j hj => by
        unfold upd at hj; split at hj
        · have := X.F.nd k; rw [s3] at this; exact (List.nodup_cons.1 this).1 hj
        · rename_i e; exact e (X.F.dj j k b hj hmem)
      have lst := I.lst
      refine ⟨_, rfl, Y, ⟨?_, fun _ _ => rfl, fun c oc _ => ⟨oc.1, fun j hj => oc.2.1 j (hsub j c hj), oc.2.2⟩, fun _ _ => rfl, rfl, by show (A.raw.set _ _).length = _; rw [List.length_set], fun i hi => ?_, by show A.uses ≤ A.uses + 1; omega⟩, rfl, fun _ => ⟨I.pl, I.who, I.cls, ⟨by show 0 ≤ x.lst + 1; omega, by show x.lst + 1 ≤ w; omega⟩, .inr (.inr (.inr rfl)), fun h => (by cases h), fun h => (by cases h), fun _ => ⟨⟨by show S.cl b ≠ -1; omega, hnin, hact⟩, by show S.cl b = x.cls; omega⟩, I.h0⟩, rfl, rfl, fun _ => .inr ⟨k, hmem⟩, rfl, fun h => h, .inl ⟨I.h0, fun _ => rfl, rfl⟩⟩
      · rw [m0 (by omega)]; exact fe
      · have := rawF_set1 (A := A.later 1) (i := k) (j := i) (v := nextF (A.rawF k) (A.rawF (4 * w + b / 8))) (X.F.hdOk k0 k1)
        rw [if_neg (by omega)] at this
        exact this
  · have stp : x.step A = ({ x with base := A.rawF x.pl.carved, what := if A.rawF x.pl.carved > w64 (A.words.length - sizeF x.cls) then 4 else 2 }, A.touchR x.pl.carved) := by unfold Al.step; rw [if_neg (by omega), if_pos h]
    rw [stp, I.pl, X.cvr, X.wl, w64_in (x := m - sizeF x.cls) (by omega) (by omega), touchR_yes (show A.rawOk p.carved from ⟨by omega, X.rl⟩), tick_uses us (by omega)]
    by_cases c : S.cv > m - sizeF x.cls
    · rw [if_pos c]
      exact ⟨S, rfl, X1, E1 _, rfl, fun h => (h rfl).elim, rfl, rfl, fun h => (by cases h), rfl, fun h => h, .inl ⟨I.h0, fun _ => rfl, rfl⟩⟩
    · rw [if_neg c]
      exact ⟨S, rfl, X1, E1 _, rfl, fun _ => ⟨rfl, I.who, I.cls, I.lst, .inr (.inr (.inl rfl)), fun h => (by cases h), fun _ => ⟨cvb.1, by show S.cv + sizeF x.cls ≤ m; omega⟩, fun h => (by cases h), I.h0⟩, rfl, rfl, fun h => (by cases h), rfl, fun h => h, .inl ⟨I.h0, fun _ => rfl, rfl⟩⟩
  · obtain ⟨b0, b1⟩ := I.swaps h
    have stp : x.step A = ({ x with what := if A.swapRb x.pl.carved x.base then 3 else 1 }, A.swapR x.pl.carved x.base (w64 (x.base + sizeF x.cls))) := by unfold Al.step; rw [if_neg (by omega), if_neg (by omega), if_pos h]
    have okc : A.rawOk p.carved := ⟨by omega, X.rl⟩
    have tk : A.tick = A.later 1 := tick_uses us (by omega)
    rw [stp, I.pl, w64_in (x := x.base + sizeF x.cls) (by omega) (by omega)]
    by_cases c : A.rawF p.carved = x.base
    · have sw : A.swapRb p.carved x.base = true := decide_eq_true ⟨okc, by rw [getD_rawF okc]; exact c⟩
      have sa : A.swapR p.carved x.base (x.base + sizeF x.cls) = (A.later 1).setR p.carved.toNat (S.cv + sizeF x.cls) := by
        unfold Ar.swapR; rw [if_pos okc, if_pos (by rw [getD_rawF okc]; exact c), tk, ← c, X.cvr]
      rw [sw, sa, if_pos rfl]
      have ec : x.base = S.cv := by rw [← c]; exact X.cvr
      have Y := X.carve (by omega) I.cls.1 I.cls.2 (by omega)
      have hcl : S.cl S.cv = -1 := by
        by_cases h : S.cl S.cv = -1
        · exact h
        · have := X.blk _ h; have := sz_pos this.1 this.2.1; omega
      have hr : ∀ i, ((A.later 1).setR p.carved.toNat (S.cv + sizeF x.cls)).rawF i = if i = p.carved then S.cv + sizeF x.cls else A.rawF i := fun i => rawF_set1 (A := A.later 1) okc
      have nin : ∀ j, S.cv ∉ S.ch j := fun j hj => by
        have := X.chc j _ hj
        have := X.F.rg j (by intro e; rw [e] at hj; cases hj); omega
      have nac : ∀ h, A.stF h ≠ 0 → opB h ≠ S.cv := fun h hh e => by
        have := (X.act h hh).1
        rw [e, hcl] at this
        have := (opC_nat h).1; omega
      refine ⟨_, rfl, Y, ⟨?_, fun d hd => ?_, fun d od _ => ⟨?_, od.2.1, od.2.2⟩, fun _ _ => rfl, rfl, by show (A.raw.set _ _).length = _; rw [List.length_set], fun i hi => by rw [hr, if_neg (by omega)], by show A.uses ≤ A.uses + 1; omega⟩, rfl, fun _ => ⟨rfl, I.who, I.cls, I.lst, .inr (.inr (.inr rfl)), fun h => (by cases h), fun h => (by cases h), fun _ => ⟨⟨?_, ?_, ?_⟩, ?_⟩, I.h0⟩, rfl, rfl, fun _ => .inl ?_, rfl, fun h => h, .inl ⟨I.h0, fun _ => rfl, rfl⟩⟩
      · exact FEv.same (fun i i0 i1 => by rw [hr, if_neg (by omega)]) (by omega) (by omega)
      · show updI S.cl S.cv x.cls d = _
        unfold updI; rw [if_neg (fun e => hd (by rw [e]; exact hcl))]
      · show updI S.cl S.cv x.cls d ≠ -1
        unfold updI; rw [if_neg (fun e => od.1 (by rw [e]; exact hcl))]; exact od.1
      · show updI S.cl S.cv x.cls x.base ≠ -1
        rw [ec]; unfold updI; rw [if_pos rfl]; have := I.cls; omega
      · show ∀ j, x.base ∉ S.ch j
        rw [ec]; exact nin
      · show ∀ h, A.stF h ≠ 0 → opB h ≠ x.base
        rw [ec]; exact nac
      · show updI S.cl S.cv x.cls x.base = _
        rw [ec]; unfold updI; rw [if_pos rfl]
      · show S.cl x.base = -1
        rw [ec]; exact hcl
    · have sw : A.swapRb p.carved x.base = false := decide_eq_false fun e => c (by rw [← getD_rawF okc]; exact e.2)
      have sa : A.swapR p.carved x.base (x.base + sizeF x.cls) = A.later 1 := by
        unfold Ar.swapR; rw [if_pos okc, if_neg (by rw [getD_rawF okc]; exact c), tk]
      rw [sw, sa, if_neg (by simp)]
      exact ⟨S, rfl, X1, E1 _, rfl, fun _ => ⟨rfl, I.who, I.cls, I.lst, .inr (.inl rfl), fun h => (by cases h), fun h => (by cases h), fun h => (by cases h), I.h0⟩, rfl, rfl, fun h => (by cases h), rfl, fun h => h, .inl ⟨I.h0, fun _ => rfl, rfl⟩⟩
  · obtain ⟨o, oc⟩ := I.bears h
    have hx0 := I.h0
    have lst := I.lst
    have hc1 : x.cls ≠ -1 := by have := I.cls; omega
    obtain ⟨v1, ⟨v2, v3, v4, v5⟩, bo, Y, yst, ynL⟩ := X.bear hwf (by omega) oc hc1 o.2.1 o.2.2
    have ipl := I.pl
    obtain ⟨xpl, xwork, xcls, xlst, xwhat, xbase, xh, xpo⟩ := x
    simp only at h hx0 ipl oc hc1 v1 v2 v3 v4 v5 bo Y yst ynL lst o
    subst h; subst hx0; subst ipl
    have r1 := bear_last X (by omega) (who := xwork) (j := xlst) (y := xpo) ⟨lst.1, by omega⟩ oc hc1 bo
    have stp : Al.step ⟨xpl, xwork, xcls, xlst, 3, xbase, 0, xpo⟩ A = _ := runs_one r1
    rw [stp]
    have gb := X.gnb xbase
    have hne : packF xbase (S.gn xbase + 1) xcls ≠ 0 := fun e => by
      rw [e] at v3
      have : opG 0 = 0 := by decide
      omega
    have off : Off xpl.carved 0 ((A.later 1).setR (xpl.gens + xbase / 8).toNat (S.gn xbase + 1)) (((A.later 1).setR (xpl.gens + xbase / 8).toNat (S.gn xbase + 1)).bornF (packF xbase (S.gn xbase + 1) xcls)) :=
      Off.bornF (setR_wf (later_wf hwf 1) _ _) X.fr bo.2.1
    have blk := X.blk xbase (by rw [oc]; exact hc1)
    have szb := sz_pos blk.1 blk.2.1
    have okg : (A.later 1).rawOk (xpl.gens + xbase / 8) := ⟨by omega, by have := X.rl; show _ < (A.raw.length : Int); omega⟩
    have hr : ∀ i, ((A.later 1).setR (xpl.gens + xbase / 8).toNat (S.gn xbase + 1)).rawF i = if i = xpl.gens + xbase / 8 then S.gn xbase + 1 else A.rawF i := fun i => rawF_set1 okg
    have rb : ∀ i, (((A.later 1).setR (xpl.gens + xbase / 8).toNat (S.gn xbase + 1)).bornF (packF xbase (S.gn xbase + 1) xcls)).rawF i = if i = xpl.gens + xbase / 8 then S.gn xbase + 1 else A.rawF i := fun i => by
      rw [rawF_congr (bornF_raw _ _) i, hr]
    have hs0 : A.stF (packF xbase (S.gn xbase + 1) xcls) = 0 := by
      by_cases e : A.stF (packF xbase (S.gn xbase + 1) xcls) = 0
      · exact e
      · exact (o.2.2 _ e v2).elim
    refine ⟨_, by rw [off.wd]; rfl, Y, ⟨?_, fun _ _ => rfl, fun d od hd => ⟨od.1, od.2.1, fun h hh => ?_⟩, fun h hh => ?_, ?_, ?_, fun i hi => ?_, ?_⟩, ?_, fun h => (h rfl).elim, rfl, rfl, fun h => (by cases h), ?_, fun h => ?_, .inr ⟨rfl, rfl, hne, v2, v4, v5, hs0, yst, ynL⟩⟩
    · exact FEv.same (fun i i0 i1 => by rw [rb, if_neg (by omega)]) (by omega) (by omega)
    · rw [yst] at hh
      split at hh
      · rename_i e; rw [e, v2]
        intro e2; exact hd (by show d = if (3 : Int) = 3 then xbase else -1; rw [if_pos rfl]; exact e2.symm)
      · exact od.2.2 h hh
    · rw [yst, if_neg]
      intro e
      rw [e, v2] at hh
      exact hh (by show xbase = if (3 : Int) = 3 then xbase else -1; rw [if_pos rfl])
    · rw [off.fa]; rfl
    · rw [off.rl]; show (A.raw.set _ _).length = _; rw [List.length_set]
    · rw [rb, if_neg (by omega)]
    · rw [off.us]; show A.uses ≤ A.uses + 1 + 0; omega
    · rw [off.us]; show A.uses + 1 + 0 = _; omega
    · exact (bornF_counts _ (setR_wf (later_wf hwf 1) _ _) _).2.2.2
    · exact bornF_cc (setR_wf (later_wf hwf 1) _ _) bo.2.1 h

/-- A free under way. -/
structure FeI (p : Pl) (w m who : Int) (x : Fe) (A : Ar) (S : Sg) : Prop where
  st : A.stF x.h = 2
  nd : x.done = false
  pu : PuI p w ((m + 7) / 8) (4 * who + opC x.h) (opB x.h) x.pu A

theorem FeI.new (X : SL A p w m S) {who h : Int} (wh : 0 ≤ who ∧ who < w) (hs : A.stF h = 2) : FeI p w m who (newFe p who h) A S := by
  obtain ⟨p1, p2, p3, p4, p5⟩ := X.places
  have wb := X.wb
  have mb := X.mb
  have hC := opC_nat h
  obtain ⟨a1, a2⟩ := X.act h (by rw [hs]; decide)
  obtain ⟨b1, b2, b3, b4, b5⟩ := X.blk (opB h) (by omega)
  have sz := sz_pos b1 b2
  have cvb := X.cvb
  have e := headF_eq (p := p) (w := who) (c := opC h) p1 ⟨wh.1, by omega⟩ ⟨by omega, by omega⟩
  exact ⟨hs, rfl, PuI.new e ⟨b3, b4, by show opB h / 8 < (m + 7) / 8; omega⟩⟩
theorem FeI.keep {who : Int} {x : Fe} (I : FeI p w m who x A S) {mine : Int} (E : Ev p w m A S B S' mine) (hm : opB x.h ≠ mine) : FeI p w m who x B S' :=
  ⟨by rw [E.st _ hm]; exact I.st, I.nd, I.pu.keep hm E.fe⟩

structure FeS (p : Pl) (w m who : Int) (x : Fe) (A : Ar) (S : Sg) (y : Fe) (B : Ar) (S' : Sg) : Prop where
  wd : B.words = A.words
  sl : SL B p w m S'
  ev : Ev p w m A S B S' (opB x.h)
  us : B.uses = A.uses + 1
  h : y.h = x.h
  nL : B.nL = A.nL
  cc : A.nC = A.carved.count true → B.nC = B.carved.count true
  res : (y.done = false ∧ FeI p w m who y B S' ∧ (∀ k, B.stF k = A.stF k) ∧ B.nR = A.nR) ∨ (y.done = true ∧ (∀ k, B.stF k = if k = x.h then 0 else A.stF k) ∧ B.nR = A.nR - sizeF (opC x.h))

theorem diedF_parts (A : Ar) (h : Int) : (A.diedF h).raw = A.raw ∧ (A.diedF h).words = A.words ∧ (A.diedF h).fault = A.fault ∧ (A.diedF h).uses = A.uses ∧ (A.diedF h).nC = A.nC ∧ (A.diedF h).carved = A.carved := by
  unfold Ar.diedF Ar.turnF; split <;> exact ⟨rfl, rfl, rfl, rfl, rfl, rfl⟩
theorem died_raw (A : Ar) (r : List Int) (h : Int) : ({ A with raw := r } : Ar).diedF h = { A.diedF h with raw := r } := by
  have e : ({ A with raw := r } : Ar).stF h = A.stF h := stF_slots rfl h
  unfold Ar.diedF Ar.turnF Ar.turnN
  rw [e]
  by_cases hs : A.stF h = 2
  · simp only [if_pos hs]; rfl
  · simp only [if_neg hs]; rfl

theorem FeI.step {who : Int} {x : Fe} (I : FeI p w m who x A S) (X : SL A p w m S) (hwf : A.wf) (hu : A.uses ≤ 1000000) (wh : 0 ≤ who ∧ who < w) : ∃ S', FeS p w m who x A S (x.step A).1 (x.step A).2 S' := by
  obtain ⟨p1, p2, p3, p4, p5⟩ := X.places
  have wb := X.wb
  have mb := X.mb
  have us := X.F.us
  have hC := opC_nat x.h
  obtain ⟨a1, a2⟩ := X.act x.h (by rw [I.st]; decide)
  have szh := sz_pos (c := opC x.h) (by omega) (by omega)
  have X1 := X.later (n := 1) (by omega)
  have k0 : 0 ≤ 4 * who + opC x.h := by omega
  have k1 : 4 * who + opC x.h < 4 * w := by omega
  rcases I.pu.step X.F (by omega) k0 k1 a2 with ⟨s1, s2, s3, s4, s5⟩ | ⟨s1, s3, s4, s5⟩
  · have stp : x.step A = ({ x with pu := x.pu.stepM A }, x.pu.stepA A) := by unfold Fe.step; rw [if_neg (by rw [I.nd]; simp), if_neg (by rw [s1]; simp)]
    rw [stp]
    obtain ⟨r, er, hl⟩ := s5.eq
    have up := s5.up
    dsimp only
    rw [er] at s2 s3 s4 up ⊢
    have Y := X1.ofRaw (r := r) (ch' := S.ch) hl up s3 X.chc fun h hh => (X.act h hh).2
    exact ⟨_, rfl, Y, ⟨s4, fun _ _ => rfl, fun _ h _ => h, fun _ _ => rfl, rfl, hl, fun i hi => up i (by omega), by show A.uses ≤ A.uses + 1; omega⟩, rfl, rfl, rfl, fun h => h, .inl ⟨I.nd, ⟨I.st, I.nd, s2⟩, fun _ => rfl, rfl⟩⟩
  · have stp : x.step A = ({ x with pu := x.pu.stepM A, done := true }, (x.pu.stepA A).diedF x.h) := by unfold Fe.step; rw [if_neg (by rw [I.nd]; simp), if_pos s1]
    rw [stp]
    obtain ⟨r, er, hl⟩ := s5.eq
    have up := s5.up
    dsimp only
    rw [er] at s3 s4 up ⊢
    have cnb := X.cnb
    obtain ⟨D, dst, dL, dR⟩ := X1.die (later_wf hwf 1) (by show A.uses + 1 ≤ _; omega) (h := x.h) I.st (by show -(64 * (A.uses + 1 + 1)) ≤ A.nR - _; omega)
    have parts := diedF_parts (A.later 1) x.h
    obtain ⟨q1, q2, q3, q4, q5, q6⟩ := parts
    have q1 : ((A.later 1).diedF x.h).raw = A.raw := q1
    have q2 : ((A.later 1).diedF x.h).words = A.words := q2
    have q3 : ((A.later 1).diedF x.h).fault = A.fault := q3
    have q4 : ((A.later 1).diedF x.h).uses = A.uses + 1 := q4
    have q5 : ((A.later 1).diedF x.h).nC = A.nC := q5
    have q6 : ((A.later 1).diedF x.h).carved = A.carved := q6
    have eD : ({ A with raw := r, uses := A.uses + 1 } : Ar).diedF x.h = { (A.later 1).diedF x.h with raw := r } := died_raw (A.later 1) r x.h
    rw [eD]
    clear eD
    have dst : ∀ k, ((A.later 1).diedF x.h).stF k = if k = x.h then 0 else A.stF k := dst
    have dL : ((A.later 1).diedF x.h).nL = A.nL := dL
    have dR : ((A.later 1).diedF x.h).nR = A.nR - sizeF (opC x.h) := dR
    generalize (A.later 1).diedF x.h = D0 at *
    have F2 : FL { D0 with raw := r } p w ((m + 7) / 8) (upd S.ch (4 * who + opC x.h) (opB x.h :: S.ch (4 * who + opC x.h))) :=
      s3.same (fun i => rawF_congr rfl i) rfl (by show 0 ≤ (D0).uses; rw [q4]; omega) fun k h0 h1 => by
        show _ ≤ (D0).uses
        rw [q4]
        exact (s3.hd k h0 h1).2
    have rr : ∀ i, ({ D0 with raw := r } : Ar).rawF i = ({ A with raw := r, uses := A.uses + 1 } : Ar).rawF i := fun i => rawF_congr rfl i
    have noact : ∀ h, (D0).stF h ≠ 0 → opB h ≠ opB x.h := fun h hh e => by
      rw [dst] at hh
      split at hh
      · exact hh rfl
      · rename_i hn
        exact hh (stF_one (A := A) (h := x.h) (k := h) (by rw [I.st]; decide) e hn)
    have Y := D.ofRaw (r := r) (by rw [q1]; exact hl) (fun i hi => by
      rw [rr, up i hi]; exact (rawF_congr q1 i).symm) F2 (fun k b hb => by
        unfold upd at hb; split at hb
        · rename_i e
          rcases List.mem_cons.1 hb with rfl | hb
          · rw [a1, e]; omega
          · rw [e]; exact X.chc _ b hb
        · exact X.chc k b hb) fun h hh k hk => by
        have hh' : A.stF h ≠ 0 := fun e => hh (by rw [dst]; split; rfl; exact e)
        unfold upd at hk; split at hk
        · rcases List.mem_cons.1 hk with e | hk
          · exact noact h hh e
          · exact (X.act h hh').2 _ hk
        · exact (X.act h hh').2 _ hk
    have yst : ∀ k, ({ D0 with raw := r } : Ar).stF k = if k = x.h then 0 else A.stF k := fun k => by
      rw [show ({ D0 with raw := r } : Ar).stF k = (D0).stF k from stF_slots rfl k, dst]
    refine ⟨_, q2, Y, ⟨⟨fun k h0 h1 => by rw [rr]; exact s4.hd k h0 h1, fun b h0 h1 h2 h3 => by rw [rr]; exact s4.lk b h0 h1 h2 h3⟩, fun _ _ => rfl, fun b ob hb => ⟨ob.1, fun k hk => ?_, fun h hh => ?_⟩, fun h hh => ?_, q3, hl, fun i hi => by rw [rr]; exact up i (by omega), by show A.uses ≤ (D0).uses; rw [q4]; omega⟩, q4, rfl, dL, fun h => ?_, .inr ⟨rfl, yst, dR⟩⟩
    · have hk : b ∈ upd S.ch (4 * who + opC x.h) (opB x.h :: S.ch (4 * who + opC x.h)) k := hk
      unfold upd at hk; split at hk
      · rcases List.mem_cons.1 hk with e | hk
        · exact hb e
        · exact ob.2.1 _ hk
      · exact ob.2.1 _ hk
    · rw [yst] at hh
      split at hh
      · exact (hh rfl).elim
      · exact ob.2.2 h hh
    · rw [yst, if_neg (fun e => hh (by rw [e]))]
    · show D0.nC = D0.carved.count true
      rw [q5, q6]; exact h
end
end Go.Proofs.Ytfphgiipekkgdaa

set_option linter.unusedVariables false
set_option linter.unusedSimpArgs false
set_option maxRecDepth 20000
namespace Go.Proofs.Ytfphgiipekkgdaa
open Go Go.Fw

section
variable {A B : Ar} {p : Pl} {w m : Int} {S S' : Sg}

/-- Nothing of the slab was turned. -/
structure Qu (p : Pl) (w m : Int) (A : Ar) (S : Sg) (B : Ar) : Prop where
  sl : SL B p w m S
  ev : Ev p w m A S B S (-1)
  st : ∀ h, B.stF h = A.stF h
  nL : B.nL = A.nL
  nR : B.nR = A.nR
  cc : A.nC = A.carved.count true → B.nC = B.carved.count true

theorem Qu.later (X : SL A p w m S) {n : Int} (hn : 0 ≤ n) : Qu p w m A S (A.later n) := ⟨X.later hn, Ev.later X hn, fun _ => rfl, rfl, rfl, fun h => h⟩

/-- A slot's word. -/
theorem Qu.store (X : SL A p w m S) (hu : A.uses ≤ 1000000000) {h off v : Int} (hi : A.inOk h off) : Qu p w m A S (A.storeF h off v) ∧ (A.storeF h off v).uses = A.uses + 1 := by
  have us := X.F.us
  have e : A.storeF h off v = (A.later 1).setW (pos h off) v := by rw [storeF_yes hi, tick_uses us (by omega)]
  rw [e]
  have st : ∀ k, ((A.later 1).setW (pos h off) v).stF k = A.stF k := fun k => stF_slots rfl k
  have X2 : SL ((A.later 1).setW (pos h off) v) p w m S := X.congr (fun _ _ _ => rfl) rfl (by show A.uses ≤ A.uses + 1; omega) (by show (A.words.set _ _).length = _; rw [List.length_set]) st rfl rfl rfl rfl rfl rfl rfl rfl
  exact ⟨⟨X2, ⟨FEv.same (fun _ _ _ => rfl) X.F.wb.1 X.F.nb.1, fun _ _ => rfl, fun b o _ => ⟨o.1, o.2.1, fun k hk => o.2.2 k (by rw [← st k]; exact hk)⟩, fun k _ => st k, rfl, rfl, fun _ _ => rfl, by show A.uses ≤ A.uses + 1; omega⟩, st, rfl, rfl, fun h => h⟩, rfl⟩

/-- A raw word behind the slab's. -/
theorem Qu.storeR (X : SL A p w m S) (hu : A.uses ≤ 1000000000) {i v : Int} (h : p.carved < i ∧ i < A.raw.length) :
    SL (A.storeR i v) p w m S ∧ FEv w ((m + 7) / 8) A (A.storeR i v) (-1) ∧ (∀ h, (A.storeR i v).stF h = A.stF h) ∧ (A.storeR i v).nL = A.nL ∧ (A.storeR i v).nR = A.nR ∧ (A.storeR i v).words = A.words ∧ (A.storeR i v).fault = A.fault ∧ (A.storeR i v).uses = A.uses + 1 ∧ (A.storeR i v).raw.length = A.raw.length ∧ ∀ j, (A.storeR i v).rawF j = if j = i then v else A.rawF j := by
  obtain ⟨p1, p2, p3, p4, p5⟩ := X.places
  have wb := X.wb
  have mb := X.mb
  have us := X.F.us
  have ok : A.rawOk i := ⟨by omega, h.2⟩
  have e : A.storeR i v = (A.later 1).setR i.toNat v := by
    unfold Ar.storeR
    rw [if_pos ok, tick_uses us (by omega)]
  rw [e]
  have rf : ∀ j, ((A.later 1).setR i.toNat v).rawF j = if j = i then v else A.rawF j := fun j => rawF_set1 (A := A.later 1) ok
  refine ⟨X.congr (fun j h0 h1 => by rw [rf, if_neg (by omega)]) (by show (A.raw.set _ _).length = _; rw [List.length_set]) (by show A.uses ≤ A.uses + 1; omega) rfl (fun h => stF_slots rfl h) rfl rfl rfl rfl rfl rfl rfl rfl,
    FEv.same (fun j j0 j1 => by rw [rf, if_neg (by omega)]) (by omega) (by omega), fun h => stF_slots rfl h, rfl, rfl, rfl, rfl, rfl, by show (A.raw.set _ _).length = _; rw [List.length_set], rf⟩

/-- One is retired. -/
theorem Ev.retire (X : SL A p w m S) (hwf : A.wf) (hu : A.uses ≤ 1000000000) {h : Int} (hs : A.stF h = 1) (cn : -(64 * (A.uses + 1)) ≤ A.nL - sizeF (opC h) ∧ A.nR + sizeF (opC h) ≤ 64 * (A.uses + 1)) :
    SL (A.retireF h) p w m S ∧ (∀ k, (A.retireF h).stF k = if k = h then 2 else A.stF k) ∧ (A.retireF h).nL = A.nL - sizeF (opC h) ∧ (A.retireF h).nR = A.nR + sizeF (opC h) ∧ Ev p w m A S (A.retireF h) S (opB h) ∧
      (A.nC = A.carved.count true → (A.retireF h).nC = (A.retireF h).carved.count true) ∧ (A.retireF h).uses = A.uses ∧ (A.retireF h).words = A.words ∧ (A.retireF h).fault = A.fault := by
  obtain ⟨Y, yst, yL, yR⟩ := X.retire hu hs cn
  have parts : (A.retireF h).raw = A.raw ∧ (A.retireF h).words = A.words ∧ (A.retireF h).fault = A.fault ∧ (A.retireF h).uses = A.uses ∧ (A.retireF h).nC = A.nC ∧ (A.retireF h).carved = A.carved := by
    unfold Ar.retireF Ar.turnF; split <;> exact ⟨rfl, rfl, rfl, rfl, rfl, rfl⟩
  obtain ⟨q1, q2, q3, q4, q5, q6⟩ := parts
  refine ⟨Y, yst, yL, yR, ⟨FEv.same (fun i _ _ => rawF_congr q1 i) X.F.wb.1 X.F.nb.1, fun _ _ => rfl, fun b o hb => ⟨o.1, o.2.1, fun k hk => ?_⟩, fun k hk => ?_, q3, by rw [q1], fun i _ => rawF_congr q1 i, by rw [q4]; exact Int.le_refl _⟩, fun h => by rw [q5, q6]; exact h, q4, q2, q3⟩
  · rw [yst] at hk
    split at hk
    · rename_i e; rw [e]; exact fun e2 => hb e2.symm
    · exact o.2.2 k hk
  · rw [yst, if_neg (fun e => hk (by rw [e]))]
end
end Go.Proofs.Ytfphgiipekkgdaa

set_option linter.unusedVariables false
set_option linter.unusedSimpArgs false
set_option maxRecDepth 20000
namespace Go.Proofs.Ytfphgiipekkgdaa
open Go Go.Fw

/-! ### A scan, step by step, while others publish -/

theorem nodup_le : ∀ (l k : List Int), l.Nodup → (∀ x ∈ l, x ∈ k) → l.length ≤ k.length
  | [], k, _, _ => Nat.zero_le _
  | x :: l, k, nd, h => by
    obtain ⟨n1, n2⟩ := List.nodup_cons.1 nd
    have hx := h x List.mem_cons_self
    have := nodup_le l (k.erase x) n2 fun y hy => (List.mem_erase_of_ne (fun e => n1 (by rw [← e]; exact hy))).2 (h y (List.mem_cons_of_mem _ hy))
    rw [List.length_erase_of_mem hx] at this
    have : 0 < k.length := List.length_pos_of_mem hx
    simp only [List.length_cons]; omega
theorem alPut_len (l : List (Int × Bool)) (k : Int) : (alPut l k true).length ≤ l.length + 1 := by
  induction l with
  | nil => unfold alPut; simp
  | cons p l ih =>
    unfold alPut
    split
    · simp
    · simp only [List.length_cons]; omega
theorem inS_mem {l : List (Int × Bool)} {h : Int} (hi : inS l h = true) : h ∈ l.map Prod.fst := by
  unfold inS at hi
  induction l with
  | nil => cases hi
  | cons p l ih =>
    obtain ⟨k, v⟩ := p
    by_cases e : h = k
    · rw [e]; exact List.mem_cons_self
    · refine List.mem_cons_of_mem _ (ih ?_)
      have : alGet ((k, v) :: l) h = alGet l h := by
        show (if h = k then some v else alGet l h) = alGet l h
        rw [if_neg e]
      rw [this] at hi; exact hi
theorem inS_put {l : List (Int × Bool)} {k h : Int} : inS (alPut l k true) h = if h = k then true else inS l h := by
  unfold inS
  rw [alGet_put]
  split <;> rfl

section
variable {A B : Ar} {p : Pl} {w m : Int} {S S' : Sg}

/-- Frees, the first one under way. -/
def FrsI (p : Pl) (w m : Int) (A : Ar) (S : Sg) : List Fe → Prop
  | [] => True
  | f :: fs => FeI p w m 0 f A S ∧ (∀ g ∈ fs, g = newFe p 0 g.h ∧ A.stF g.h = 2)

structure ScI (p : Pl) (w m ta : Int) (x : Sc) (A : Ar) (S : Sg) : Prop where
  tw : x.tw = w
  ta : x.ta = ta
  pl : x.pl = p
  work : x.work = 0
  ll : x.l.length ≤ 100
  wd : 0 ≤ x.word
  en : x.ended = false
  st : (x.sorted = false ∧ x.word < 2 * w ∧ x.frees = [] ∧ x.left = [] ∧ x.l.Nodup ∧ (∀ h ∈ x.l, A.stF h = 2) ∧ (x.seen.length : Int) ≤ x.word) ∨
    (x.sorted = true ∧ x.word = 2 * w ∧ x.frees ≠ [] ∧ FrsI p w m A S x.frees ∧ (x.frees.map Fe.h).Nodup ∧ x.left.Nodup ∧ (∀ h ∈ x.left, A.stF h = 2 ∧ h ∉ x.frees.map Fe.h) ∧ (x.left.length : Int) ≤ 2 * w)
/-- Why one that is looked at is not freed by this scan. -/
def Safe (x : Sc) (r h : Int) : Prop := if x.sorted = true then h ∉ x.frees.map Fe.h else (h ∈ x.l → x.word ≤ 2 * r ∨ inS x.seen h = true)

theorem ScI.new (X : SL A p w m S) (hw : w ≤ 1000) {ta : Int} {xs : List Int} (hl : xs.length ≤ 100) (nd : xs.Nodup) (hs : ∀ h ∈ xs, A.stF h = 2) : ScI p w m ta (newSc w ta p 0 xs) A S ∧ ∀ r h, 0 ≤ r → Safe (newSc w ta p 0 xs) r h := by
  have wb := X.wb
  refine ⟨⟨rfl, rfl, rfl, rfl, hl, Int.le_refl 0, rfl, .inl ⟨rfl, by show 0 < 2 * w; omega, rfl, rfl, nd, hs, Int.le_refl 0⟩⟩, fun r h hr => ?_⟩
  unfold Safe
  rw [if_neg (by show ¬ false = true; simp)]
  exact fun _ => .inl (by show 0 ≤ 2 * r; omega)
theorem ScI.keep {ta : Int} {x : Sc} (I : ScI p w m ta x A S) {mine : Int} (E : Ev p w m A S B S' mine) (hm : ∀ h, A.stF h = 2 → opB h ≠ mine) : ScI p w m ta x B S' := by
  have st2 : ∀ h, A.stF h = 2 → B.stF h = 2 := fun h hh => by rw [E.st h (hm h hh)]; exact hh
  refine ⟨I.tw, I.ta, I.pl, I.work, I.ll, I.wd, I.en, ?_⟩
  rcases I.st with ⟨a1, a2, a3, a4, a5, a6, a7⟩ | ⟨a1, a2, a3, a4, a5, a6, a7, a8⟩
  · exact .inl ⟨a1, a2, a3, a4, a5, fun h hh => st2 h (a6 h hh), a7⟩
  · refine .inr ⟨a1, a2, a3, ?_, a5, a6, fun h hh => ⟨st2 h (a7 h hh).1, (a7 h hh).2⟩, a8⟩
    cases hf : x.frees with
    | nil => trivial
    | cons f fs =>
      rw [hf] at a4
      exact ⟨a4.1.keep E (hm _ a4.1.st), fun g hg => ⟨(a4.2 g hg).1, st2 _ (a4.2 g hg).2⟩⟩

structure ScS (p : Pl) (w m ta : Int) (x : Sc) (A : Ar) (S : Sg) (y : Sc) (B : Ar) (S' : Sg) : Prop where
  sl : SL B p w m S'
  wd : B.words = A.words
  us : B.uses = A.uses + 1
  fa : B.fault = A.fault
  rl : B.raw.length = A.raw.length
  rw : ∀ i, p.carved < i → B.rawF i = A.rawF i
  nL : B.nL = A.nL
  nR : B.nR ≤ A.nR
  st : ∀ h, B.stF h = A.stF h ∨ (B.stF h = 0 ∧ A.stF h = 2)
  safe : ∀ r h, 0 ≤ r → r < w → A.rawF (ta + 2 * r) = h → A.stF h ≠ 0 → Safe x r h → B.stF h = A.stF h ∧ (y.ended = false → Safe y r h)
  go : y.ended = false → ScI p w m ta y B S'
  fin : y.ended = true → y.left.Nodup ∧ (∀ h ∈ y.left, B.stF h = 2) ∧ (y.left.length : Int) ≤ 2 * w
  l : y.left.length ≤ 1000

theorem ScI.step {ta : Int} {x : Sc} (I : ScI p w m ta x A S) (X : SL A p w m S) (hwf : A.wf) (hu : A.uses ≤ 1000000) (tb : p.carved < ta ∧ ta + 2 * w ≤ A.raw.length) (rl : (A.raw.length : Int) ≤ 1000000) : mSc.inv x A ∧ ∃ S', ScS p w m ta x A S (x.step A).1 (x.step A).2 S' := by
  obtain ⟨p1, p2, p3, p4, p5⟩ := X.places
  have wb := X.wb
  have mb := X.mb
  have us := X.F.us
  have wd := I.wd
  have ll := I.ll
  rcases I.st with ⟨a1, a2, a3, a4, a5, a6, a7⟩ | ⟨a1, a2, a3, a4, a5, a6, a7, a8⟩
  · refine ⟨⟨by rw [I.tw]; omega, wd, by omega, fun _ => .inl ⟨by rw [I.tw]; exact a2, a1, a3, a4⟩⟩, ?_⟩
    have e : w64 (ta + x.word) = ta + x.word := w64_in (by omega) (by omega)
    have hst : x.step A = (if x.word + 1 = 2 * w then (x.word1 A).sort else x.word1 A, A.later 1) := by
      unfold Sc.step
      rw [if_neg (by rw [I.en]; simp), I.tw, if_pos a2, I.ta, e, tick_later ⟨by omega, by omega⟩ us (by omega)]
    rw [hst]
    have w1 : x.word1 A = { x with seen := alPut x.seen (A.rawF (ta + x.word)) true, word := x.word + 1 } := by unfold Sc.word1; rw [I.ta, e]
    have X1 := X.later (n := 1) (by omega)
    have sl1 := alPut_len x.seen (A.rawF (ta + x.word))
    have hin : ∀ r h, 0 ≤ r → r < w → A.rawF (ta + 2 * r) = h → Safe x r h → (h ∈ x.l → x.word + 1 ≤ 2 * r ∨ inS (alPut x.seen (A.rawF (ta + x.word)) true) h = true) := fun r h r0 r1 hr hs hl => by
      unfold Safe at hs
      rw [if_neg (by rw [a1]; simp)] at hs
      rw [inS_put]
      by_cases c : h = A.rawF (ta + x.word)
      · right; rw [if_pos c]
      · rw [if_neg c]
        rcases hs hl with h1 | h1
        · by_cases e2 : x.word = 2 * r
          · exfalso; rw [← e2] at hr; exact c hr.symm
          · left; omega
        · exact .inr h1
    by_cases c : x.word + 1 = 2 * w
    · rw [if_pos c, w1]
      have hp : ∀ r h, 0 ≤ r → r < w → A.rawF (ta + 2 * r) = h → Safe x r h → h ∈ x.l → inS (alPut x.seen (A.rawF (ta + x.word)) true) h = true := fun r h r0 r1 hr hs hl => by
        rcases hin r h r0 r1 hr hs hl with h1 | h1
        · omega
        · exact h1
      generalize alPut x.seen (A.rawF (ta + x.word)) true = seen' at *
      have es : Sc.sort { x with seen := seen', word := x.word + 1 } = { x with seen := seen', word := x.word + 1, frees := (x.l.filter fun h => !inS seen' h).map (newFe x.pl x.work), left := x.l.filter (inS seen'), sorted := true, ended := decide ((x.l.filter fun h => !inS seen' h).map (newFe x.pl x.work) = []) } := by
        show Sc.mk _ _ _ _ _ _ _ _ (((x.l.take x.l.length).filter fun h => !inS seen' h).map (newFe x.pl x.work)) ((x.l.take x.l.length).filter (inS seen')) (decide ((((x.l.take x.l.length).filter fun h => !inS seen' h).map (newFe x.pl x.work)) = [])) = _
        rw [List.take_length]; rfl
      rw [es, I.pl, I.work]
      have hmap : ((x.l.filter fun h => !inS seen' h).map (newFe p 0)).map Fe.h = x.l.filter fun h => !inS seen' h := by
        rw [List.map_map]
        exact List.map_id _
      have hll : ((x.l.filter (inS seen')).length : Int) ≤ 2 * w := by
        have h1 := nodup_le (x.l.filter (inS seen')) (seen'.map Prod.fst) (a5.filter _) fun h hh => inS_mem (List.mem_filter.1 hh).2
        rw [List.length_map] at h1
        omega
      refine ⟨S, X1, rfl, rfl, rfl, rfl, fun _ _ => rfl, rfl, Int.le_refl _, fun h => .inl rfl, fun r h r0 r1 hr hs hsf => ⟨rfl, fun _ => ?_⟩, fun he => ?_, fun _ => ⟨a5.filter _, fun h hh => a6 h (List.mem_filter.1 hh).1, hll⟩, ?_⟩
      · unfold Safe
        rw [if_pos rfl]
        dsimp only
        rw [hmap]
        intro hm
        obtain ⟨m1, m2⟩ := List.mem_filter.1 hm
        rw [hp r h r0 r1 hr hsf m1] at m2; cases m2
      · have he : decide ((x.l.filter fun h => !inS seen' h).map (newFe p 0) = []) = false := he
        have hne : (x.l.filter fun h => !inS seen' h).map (newFe p 0) ≠ [] := by simpa using he
        refine ⟨I.tw, I.ta, rfl, rfl, I.ll, by show 0 ≤ x.word + 1; omega, he, .inr ⟨rfl, c, hne, ?_, by rw [hmap]; exact a5.filter _, a5.filter _, fun h hh => ⟨a6 h (List.mem_filter.1 hh).1, ?_⟩, hll⟩⟩
        · have hall : ∀ g ∈ (x.l.filter fun h => !inS seen' h).map (newFe p 0), g = newFe p 0 g.h ∧ A.stF g.h = 2 := fun g hg => by
            obtain ⟨h, hh, rfl⟩ := List.mem_map.1 hg
            exact ⟨rfl, a6 h (List.mem_filter.1 hh).1⟩
          dsimp only
          cases hf : (x.l.filter fun h => !inS seen' h).map (newFe p 0) with
          | nil => trivial
          | cons f fs =>
            rw [hf] at hall
            obtain ⟨h1, h2⟩ := hall f List.mem_cons_self
            refine ⟨?_, fun g hg => hall g (List.mem_cons_of_mem _ hg)⟩
            rw [h1]; exact FeI.new X1 ⟨Int.le_refl 0, by omega⟩ h2
        · rw [hmap]
          intro hm
          have h1 := (List.mem_filter.1 hh).2
          have h2 := (List.mem_filter.1 hm).2
          rw [h1] at h2; cases h2
      · exact Nat.le_trans (List.length_filter_le _ _) (by omega)
    · rw [if_neg c, w1]
      refine ⟨S, X1, rfl, rfl, rfl, rfl, fun _ _ => rfl, rfl, Int.le_refl _, fun h => .inl rfl, fun r h r0 r1 hr hs hsf => ⟨rfl, fun _ => ?_⟩, fun _ => ⟨I.tw, I.ta, I.pl, I.work, I.ll, by show 0 ≤ x.word + 1; omega, I.en, .inl ⟨a1, by show x.word + 1 < 2 * w; omega, a3, a4, a5, a6, by show ((alPut x.seen _ true).length : Int) ≤ x.word + 1; omega⟩⟩, fun he => ?_, by show x.left.length ≤ 1000; rw [a4]; exact Nat.zero_le _⟩
      · unfold Safe
        rw [if_neg (by show ¬ x.sorted = true; rw [a1]; simp)]
        exact hin r h r0 r1 hr hsf
      · have he : x.ended = true := he
        rw [I.en] at he; cases he
  · refine ⟨⟨by rw [I.tw]; omega, wd, by omega, fun _ => .inr ⟨by rw [I.tw, a2]; omega, a1, a3⟩⟩, ?_⟩
    obtain ⟨f, fs, ef⟩ : ∃ f fs, x.frees = f :: fs := by
      cases h : x.frees with
      | nil => exact (a3 h).elim
      | cons f fs => exact ⟨f, fs, rfl⟩
    rw [ef] at a4 a5 a7
    obtain ⟨b1, b2⟩ := a4
    obtain ⟨n1, n2⟩ := List.nodup_cons.1 a5
    have hst : x.step A = if (f.step A).1.done = true then ({ x with frees := fs, ended := decide (fs = []) }, (f.step A).2) else ({ x with frees := (f.step A).1 :: fs }, (f.step A).2) := by
      unfold Sc.step
      rw [if_neg (by rw [I.en]; simp), I.tw, if_neg (by omega), ef]
    rw [hst]
    obtain ⟨S', Z⟩ := b1.step X hwf hu ⟨Int.le_refl 0, by omega⟩
    generalize (f.step A).1 = y at *
    generalize (f.step A).2 = B at *
    have oth : ∀ h, A.stF h = 2 → h ≠ f.h → B.stF h = 2 := fun h hh hn => by
      rw [Z.ev.st h fun e => hn ?_]
      · exact hh
      · by_cases e2 : h = f.h
        · exact e2
        · have := stF_one (A := A) (h := f.h) (k := h) (by rw [b1.st]; decide) e e2
          rw [hh] at this; cases this
    have zl : ∀ h, A.stF h ≠ 0 → h ≠ f.h → B.stF h = A.stF h := fun h hh hn => by
      refine Z.ev.st h fun e => hh ?_
      exact stF_one (A := A) (h := f.h) (k := h) (by rw [b1.st]; decide) e hn
    have lenl : x.left.length ≤ 1000 := by omega
    rcases Z.res with ⟨r1, r2, r3, r4⟩ | ⟨r1, r3, r4⟩
    · rw [if_neg (by rw [r1]; simp)]
      refine ⟨S', Z.sl, Z.wd, Z.us, Z.ev.fa, Z.ev.rl, Z.ev.rw, Z.nL, by rw [r4]; exact Int.le_refl _, fun h => .inl (r3 h), fun r h r0 r1' hr hs hsf => ⟨r3 h, fun _ => ?_⟩, fun _ => ?_, fun he => ?_, lenl⟩
      · unfold Safe at hsf ⊢
        rw [if_pos a1, ef] at hsf
        rw [if_pos (show x.sorted = true from a1)]
        show h ∉ y.h :: fs.map Fe.h
        rw [Z.h]; exact hsf
      · refine ⟨I.tw, I.ta, I.pl, I.work, I.ll, I.wd, I.en, .inr ⟨a1, a2, by simp, ⟨r2, fun g hg => ⟨(b2 g hg).1, by rw [r3]; exact (b2 g hg).2⟩⟩, ?_, a6, fun h hh => ⟨by rw [r3]; exact (a7 h hh).1, ?_⟩, a8⟩⟩
        · show (y.h :: fs.map Fe.h).Nodup
          rw [Z.h]; exact a5
        · show h ∉ y.h :: fs.map Fe.h
          rw [Z.h]; exact (a7 h hh).2
      · have he : x.ended = true := he
        rw [I.en] at he; cases he
    · rw [if_pos r1]
      have szf := sz_pos (c := opC f.h) (opC_nat f.h).1 (opC_nat f.h).2
      refine ⟨S', Z.sl, Z.wd, Z.us, Z.ev.fa, Z.ev.rl, Z.ev.rw, Z.nL, by rw [r4]; omega, fun h => ?_, fun r h r0 r1' hr hs hsf => ?_, fun he => ?_, fun he => ⟨a6, fun h hh => ?_, a8⟩, lenl⟩
      · by_cases e : h = f.h
        · right; rw [r3, if_pos e]; exact ⟨rfl, by rw [e]; exact b1.st⟩
        · left; rw [r3, if_neg e]
      · unfold Safe at hsf
        rw [if_pos a1, ef] at hsf
        have hsf : h ∉ f.h :: fs.map Fe.h := hsf
        have hne : h ≠ f.h := fun e => hsf (by rw [e]; exact List.mem_cons_self)
        refine ⟨by rw [r3, if_neg hne], fun _ => ?_⟩
        unfold Safe
        rw [if_pos (show x.sorted = true from a1)]
        exact fun hm => hsf (List.mem_cons_of_mem _ hm)
      · have he : decide (fs = []) = false := he
        have hne : fs ≠ [] := by simpa using he
        refine ⟨I.tw, I.ta, I.pl, I.work, I.ll, I.wd, he, .inr ⟨a1, a2, hne, ?_, n2, a6, fun h hh => ⟨?_, fun hm => (a7 h hh).2 (List.mem_cons_of_mem _ hm)⟩, a8⟩⟩
        · have hall : ∀ g ∈ fs, g = newFe p 0 g.h ∧ B.stF g.h = 2 := fun g hg => by
            obtain ⟨h1, h2⟩ := b2 g hg
            refine ⟨h1, ?_⟩
            rw [r3, if_neg (fun e => n1 (by rw [← e]; exact List.mem_map.2 ⟨g, hg, rfl⟩))]; exact h2
          dsimp only
          cases hf : fs with
          | nil => trivial
          | cons g gs =>
            rw [hf] at hall
            obtain ⟨h1, h2⟩ := hall g List.mem_cons_self
            refine ⟨?_, fun g' hg' => hall g' (List.mem_cons_of_mem _ hg')⟩
            rw [h1]; exact FeI.new Z.sl ⟨Int.le_refl 0, by omega⟩ h2
        · rw [r3, if_neg (fun e => (a7 h hh).2 (by rw [e]; exact List.mem_cons_self))]; exact (a7 h hh).1
      · rw [r3, if_neg (fun e => (a7 h hh).2 (by rw [e]; exact List.mem_cons_self))]; exact (a7 h hh).1
end
end Go.Proofs.Ytfphgiipekkgdaa

set_option linter.unusedVariables false
namespace Go.Proofs.Ytfphgiipekkgdaa
open Go Go.Fw

theorem wl_bppsi {L : Hands} {H : Heap} {R : Value → Heap → Prop} {n : Nat} {init : List Value} {body : HL Sh1.T [.leaf .bool, .leaf .ptr, .leaf .ptr, .leaf .slice, .leaf (.int .i64)] → Tree} (I : Bool → Option Addr → Option Addr → Sl → Int → Heap → Prop) (m : Bool → Option Addr → Option Addr → Sl → Int → Nat) (x0 : Bool) (x1 : Option Addr) (x2 : Option Addr) (x3 : Sl) (x4 : Int) (hi : I x0 x1 x2 x3 x4 H)
    (hstep : ∀ (x0 : Bool) (x1 : Option Addr) (x2 : Option Addr) (x3 : Sl) (x4 : Int) H', I x0 x1 x2 x3 x4 H' → wp Try.prog (body (x0, x1, x2, x3, x4, ())) (L.set n fun vals H'' => ∃ (y0 : Bool) (y1 : Option Addr) (y2 : Option Addr) (y3 : Sl) (y4 : Int), vals = [.bool y0, .pointer y1, .pointer y2, .slice y3.a y3.len y3.cap, .int .i64 y4] ∧ I y0 y1 y2 y3 y4 H'' ∧ m y0 y1 y2 y3 y4 < m x0 x1 x2 x3 x4) H' R) (h0 : init = [.bool x0, .pointer x1, .pointer x2, .slice x3.a x3.len x3.cap, .int .i64 x4] := by rfl) :
    wp Try.prog (.loop n [.leaf .bool, .leaf .ptr, .leaf .ptr, .leaf .slice, .leaf (.int .i64)] init body) L H R := by
  refine wp_loop_inv (fun x K => I x.1 x.2.1 x.2.2.1 x.2.2.2.1 x.2.2.2.2.1 K) (fun x _ => m x.1 x.2.1 x.2.2.1 x.2.2.2.1 x.2.2.2.2.1) (x0, x1, x2, x3, x4, ()) h0 hi ?_
  rintro ⟨x0, x1, x2, x3, x4, u⟩ K hI
  refine Go.Fw.wp_mono _ (hstep x0 x1 x2 x3 x4 K hI) (fun k vals H'' hk => ?_) (fun _ _ h => h)
  unfold Hands.set at *
  split at hk
  · rename_i e; rw [if_pos e]; obtain ⟨y0, y1, y2, y3, y4, h1, h2, h3⟩ := hk; exact ⟨(y0, y1, y2, y3, y4, ()), h1, h2, h3⟩
  · rename_i e; rw [if_neg e]; exact hk
theorem wl_bsp {L : Hands} {H : Heap} {R : Value → Heap → Prop} {n : Nat} {init : List Value} {body : HL Sh1.T [.leaf .bool, .leaf .slice, .leaf .ptr] → Tree} (I : Bool → Sl → Option Addr → Heap → Prop) (m : Bool → Sl → Option Addr → Nat) (x0 : Bool) (x1 : Sl) (x2 : Option Addr) (hi : I x0 x1 x2 H)
    (hstep : ∀ (x0 : Bool) (x1 : Sl) (x2 : Option Addr) H', I x0 x1 x2 H' → wp Try.prog (body (x0, x1, x2, ())) (L.set n fun vals H'' => ∃ (y0 : Bool) (y1 : Sl) (y2 : Option Addr), vals = [.bool y0, .slice y1.a y1.len y1.cap, .pointer y2] ∧ I y0 y1 y2 H'' ∧ m y0 y1 y2 < m x0 x1 x2) H' R) (h0 : init = [.bool x0, .slice x1.a x1.len x1.cap, .pointer x2] := by rfl) :
    wp Try.prog (.loop n [.leaf .bool, .leaf .slice, .leaf .ptr] init body) L H R := by
  refine wp_loop_inv (fun x K => I x.1 x.2.1 x.2.2.1 K) (fun x _ => m x.1 x.2.1 x.2.2.1) (x0, x1, x2, ()) h0 hi ?_
  rintro ⟨x0, x1, x2, u⟩ K hI
  refine Go.Fw.wp_mono _ (hstep x0 x1 x2 K hI) (fun k vals H'' hk => ?_) (fun _ _ h => h)
  unfold Hands.set at *
  split at hk
  · rename_i e; rw [if_pos e]; obtain ⟨y0, y1, y2, h1, h2, h3⟩ := hk; exact ⟨(y0, y1, y2, ()), h1, h2, h3⟩
  · rename_i e; rw [if_neg e]; exact hk
theorem wl_bpi {L : Hands} {H : Heap} {R : Value → Heap → Prop} {n : Nat} {init : List Value} {body : HL Sh1.T [.leaf .bool, .leaf .ptr, .leaf (.int .i64)] → Tree} (I : Bool → Option Addr → Int → Heap → Prop) (m : Bool → Option Addr → Int → Nat) (x0 : Bool) (x1 : Option Addr) (x2 : Int) (hi : I x0 x1 x2 H)
    (hstep : ∀ (x0 : Bool) (x1 : Option Addr) (x2 : Int) H', I x0 x1 x2 H' → wp Try.prog (body (x0, x1, x2, ())) (L.set n fun vals H'' => ∃ (y0 : Bool) (y1 : Option Addr) (y2 : Int), vals = [.bool y0, .pointer y1, .int .i64 y2] ∧ I y0 y1 y2 H'' ∧ m y0 y1 y2 < m x0 x1 x2) H' R) (h0 : init = [.bool x0, .pointer x1, .int .i64 x2] := by rfl) :
    wp Try.prog (.loop n [.leaf .bool, .leaf .ptr, .leaf (.int .i64)] init body) L H R := by
  refine wp_loop_inv (fun x K => I x.1 x.2.1 x.2.2.1 K) (fun x _ => m x.1 x.2.1 x.2.2.1) (x0, x1, x2, ()) h0 hi ?_
  rintro ⟨x0, x1, x2, u⟩ K hI
  refine Go.Fw.wp_mono _ (hstep x0 x1 x2 K hI) (fun k vals H'' hk => ?_) (fun _ _ h => h)
  unfold Hands.set at *
  split at hk
  · rename_i e; rw [if_pos e]; obtain ⟨y0, y1, y2, h1, h2, h3⟩ := hk; exact ⟨(y0, y1, y2, ()), h1, h2, h3⟩
  · rename_i e; rw [if_neg e]; exact hk
theorem wl_bps {L : Hands} {H : Heap} {R : Value → Heap → Prop} {n : Nat} {init : List Value} {body : HL Sh1.T [.leaf .bool, .leaf .ptr, .leaf .slice] → Tree} (I : Bool → Option Addr → Sl → Heap → Prop) (m : Bool → Option Addr → Sl → Nat) (x0 : Bool) (x1 : Option Addr) (x2 : Sl) (hi : I x0 x1 x2 H)
    (hstep : ∀ (x0 : Bool) (x1 : Option Addr) (x2 : Sl) H', I x0 x1 x2 H' → wp Try.prog (body (x0, x1, x2, ())) (L.set n fun vals H'' => ∃ (y0 : Bool) (y1 : Option Addr) (y2 : Sl), vals = [.bool y0, .pointer y1, .slice y2.a y2.len y2.cap] ∧ I y0 y1 y2 H'' ∧ m y0 y1 y2 < m x0 x1 x2) H' R) (h0 : init = [.bool x0, .pointer x1, .slice x2.a x2.len x2.cap] := by rfl) :
    wp Try.prog (.loop n [.leaf .bool, .leaf .ptr, .leaf .slice] init body) L H R := by
  refine wp_loop_inv (fun x K => I x.1 x.2.1 x.2.2.1 K) (fun x _ => m x.1 x.2.1 x.2.2.1) (x0, x1, x2, ()) h0 hi ?_
  rintro ⟨x0, x1, x2, u⟩ K hI
  refine Go.Fw.wp_mono _ (hstep x0 x1 x2 K hI) (fun k vals H'' hk => ?_) (fun _ _ h => h)
  unfold Hands.set at *
  split at hk
  · rename_i e; rw [if_pos e]; obtain ⟨y0, y1, y2, h1, h2, h3⟩ := hk; exact ⟨(y0, y1, y2, ()), h1, h2, h3⟩
  · rename_i e; rw [if_neg e]; exact hk
theorem wl_bv {L : Hands} {H : Heap} {R : Value → Heap → Prop} {n : Nat} {init : List Value} {body : HL Sh1.T [.leaf .bool, .leaf .val] → Tree} (I : Bool → Value → Heap → Prop) (m : Bool → Value → Nat) (x0 : Bool) (x1 : Value) (hi : I x0 x1 H)
    (hstep : ∀ (x0 : Bool) (x1 : Value) H', I x0 x1 H' → wp Try.prog (body (x0, x1, ())) (L.set n fun vals H'' => ∃ (y0 : Bool) (y1 : Value), vals = [.bool y0, y1] ∧ I y0 y1 H'' ∧ m y0 y1 < m x0 x1) H' R) (h0 : init = [.bool x0, x1] := by rfl) :
    wp Try.prog (.loop n [.leaf .bool, .leaf .val] init body) L H R := by
  refine wp_loop_inv (fun x K => I x.1 x.2.1 K) (fun x _ => m x.1 x.2.1) (x0, x1, ()) h0 hi ?_
  rintro ⟨x0, x1, u⟩ K hI
  refine Go.Fw.wp_mono _ (hstep x0 x1 K hI) (fun k vals H'' hk => ?_) (fun _ _ h => h)
  unfold Hands.set at *
  split at hk
  · rename_i e; rw [if_pos e]; obtain ⟨y0, y1, h1, h2, h3⟩ := hk; exact ⟨(y0, y1, ()), h1, h2, h3⟩
  · rename_i e; rw [if_neg e]; exact hk
theorem wl_bbi {L : Hands} {H : Heap} {R : Value → Heap → Prop} {n : Nat} {init : List Value} {body : HL Sh1.T [.leaf .bool, .leaf .bool, .leaf (.int .i64)] → Tree} (I : Bool → Bool → Int → Heap → Prop) (m : Bool → Bool → Int → Nat) (x0 : Bool) (x1 : Bool) (x2 : Int) (hi : I x0 x1 x2 H)
    (hstep : ∀ (x0 : Bool) (x1 : Bool) (x2 : Int) H', I x0 x1 x2 H' → wp Try.prog (body (x0, x1, x2, ())) (L.set n fun vals H'' => ∃ (y0 : Bool) (y1 : Bool) (y2 : Int), vals = [.bool y0, .bool y1, .int .i64 y2] ∧ I y0 y1 y2 H'' ∧ m y0 y1 y2 < m x0 x1 x2) H' R) (h0 : init = [.bool x0, .bool x1, .int .i64 x2] := by rfl) :
    wp Try.prog (.loop n [.leaf .bool, .leaf .bool, .leaf (.int .i64)] init body) L H R := by
  refine wp_loop_inv (fun x K => I x.1 x.2.1 x.2.2.1 K) (fun x _ => m x.1 x.2.1 x.2.2.1) (x0, x1, x2, ()) h0 hi ?_
  rintro ⟨x0, x1, x2, u⟩ K hI
  refine Go.Fw.wp_mono _ (hstep x0 x1 x2 K hI) (fun k vals H'' hk => ?_) (fun _ _ h => h)
  unfold Hands.set at *
  split at hk
  · rename_i e; rw [if_pos e]; obtain ⟨y0, y1, y2, h1, h2, h3⟩ := hk; exact ⟨(y0, y1, y2, ()), h1, h2, h3⟩
  · rename_i e; rw [if_neg e]; exact hk
theorem wl_biiii {L : Hands} {H : Heap} {R : Value → Heap → Prop} {n : Nat} {init : List Value} {body : HL Sh1.T [.leaf .bool, .leaf (.int .i64), .leaf (.int .i64), .leaf (.int .i64), .leaf (.int .i64)] → Tree} (I : Bool → Int → Int → Int → Int → Heap → Prop) (m : Bool → Int → Int → Int → Int → Nat) (x0 : Bool) (x1 : Int) (x2 : Int) (x3 : Int) (x4 : Int) (hi : I x0 x1 x2 x3 x4 H)
    (hstep : ∀ (x0 : Bool) (x1 : Int) (x2 : Int) (x3 : Int) (x4 : Int) H', I x0 x1 x2 x3 x4 H' → wp Try.prog (body (x0, x1, x2, x3, x4, ())) (L.set n fun vals H'' => ∃ (y0 : Bool) (y1 : Int) (y2 : Int) (y3 : Int) (y4 : Int), vals = [.bool y0, .int .i64 y1, .int .i64 y2, .int .i64 y3, .int .i64 y4] ∧ I y0 y1 y2 y3 y4 H'' ∧ m y0 y1 y2 y3 y4 < m x0 x1 x2 x3 x4) H' R) (h0 : init = [.bool x0, .int .i64 x1, .int .i64 x2, .int .i64 x3, .int .i64 x4] := by rfl) :
    wp Try.prog (.loop n [.leaf .bool, .leaf (.int .i64), .leaf (.int .i64), .leaf (.int .i64), .leaf (.int .i64)] init body) L H R := by
  refine wp_loop_inv (fun x K => I x.1 x.2.1 x.2.2.1 x.2.2.2.1 x.2.2.2.2.1 K) (fun x _ => m x.1 x.2.1 x.2.2.1 x.2.2.2.1 x.2.2.2.2.1) (x0, x1, x2, x3, x4, ()) h0 hi ?_
  rintro ⟨x0, x1, x2, x3, x4, u⟩ K hI
  refine Go.Fw.wp_mono _ (hstep x0 x1 x2 x3 x4 K hI) (fun k vals H'' hk => ?_) (fun _ _ h => h)
  unfold Hands.set at *
  split at hk
  · rename_i e; rw [if_pos e]; obtain ⟨y0, y1, y2, y3, y4, h1, h2, h3⟩ := hk; exact ⟨(y0, y1, y2, y3, y4, ()), h1, h2, h3⟩
  · rename_i e; rw [if_neg e]; exact hk
theorem wl_bpppi {L : Hands} {H : Heap} {R : Value → Heap → Prop} {n : Nat} {init : List Value} {body : HL Sh1.T [.leaf .bool, .leaf .ptr, .leaf .ptr, .leaf .ptr, .leaf (.int .i64)] → Tree} (I : Bool → Option Addr → Option Addr → Option Addr → Int → Heap → Prop) (m : Bool → Option Addr → Option Addr → Option Addr → Int → Nat) (x0 : Bool) (x1 : Option Addr) (x2 : Option Addr) (x3 : Option Addr) (x4 : Int) (hi : I x0 x1 x2 x3 x4 H)
    (hstep : ∀ (x0 : Bool) (x1 : Option Addr) (x2 : Option Addr) (x3 : Option Addr) (x4 : Int) H', I x0 x1 x2 x3 x4 H' → wp Try.prog (body (x0, x1, x2, x3, x4, ())) (L.set n fun vals H'' => ∃ (y0 : Bool) (y1 : Option Addr) (y2 : Option Addr) (y3 : Option Addr) (y4 : Int), vals = [.bool y0, .pointer y1, .pointer y2, .pointer y3, .int .i64 y4] ∧ I y0 y1 y2 y3 y4 H'' ∧ m y0 y1 y2 y3 y4 < m x0 x1 x2 x3 x4) H' R) (h0 : init = [.bool x0, .pointer x1, .pointer x2, .pointer x3, .int .i64 x4] := by rfl) :
    wp Try.prog (.loop n [.leaf .bool, .leaf .ptr, .leaf .ptr, .leaf .ptr, .leaf (.int .i64)] init body) L H R := by
  refine wp_loop_inv (fun x K => I x.1 x.2.1 x.2.2.1 x.2.2.2.1 x.2.2.2.2.1 K) (fun x _ => m x.1 x.2.1 x.2.2.1 x.2.2.2.1 x.2.2.2.2.1) (x0, x1, x2, x3, x4, ()) h0 hi ?_
  rintro ⟨x0, x1, x2, x3, x4, u⟩ K hI
  refine Go.Fw.wp_mono _ (hstep x0 x1 x2 x3 x4 K hI) (fun k vals H'' hk => ?_) (fun _ _ h => h)
  unfold Hands.set at *
  split at hk
  · rename_i e; rw [if_pos e]; obtain ⟨y0, y1, y2, y3, y4, h1, h2, h3⟩ := hk; exact ⟨(y0, y1, y2, y3, y4, ()), h1, h2, h3⟩
  · rename_i e; rw [if_neg e]; exact hk
theorem wl_bibi {L : Hands} {H : Heap} {R : Value → Heap → Prop} {n : Nat} {init : List Value} {body : HL Sh1.T [.leaf .bool, .leaf (.int .i64), .leaf .bool, .leaf (.int .i64)] → Tree} (I : Bool → Int → Bool → Int → Heap → Prop) (m : Bool → Int → Bool → Int → Nat) (x0 : Bool) (x1 : Int) (x2 : Bool) (x3 : Int) (hi : I x0 x1 x2 x3 H)
    (hstep : ∀ (x0 : Bool) (x1 : Int) (x2 : Bool) (x3 : Int) H', I x0 x1 x2 x3 H' → wp Try.prog (body (x0, x1, x2, x3, ())) (L.set n fun vals H'' => ∃ (y0 : Bool) (y1 : Int) (y2 : Bool) (y3 : Int), vals = [.bool y0, .int .i64 y1, .bool y2, .int .i64 y3] ∧ I y0 y1 y2 y3 H'' ∧ m y0 y1 y2 y3 < m x0 x1 x2 x3) H' R) (h0 : init = [.bool x0, .int .i64 x1, .bool x2, .int .i64 x3] := by rfl) :
    wp Try.prog (.loop n [.leaf .bool, .leaf (.int .i64), .leaf .bool, .leaf (.int .i64)] init body) L H R := by
  refine wp_loop_inv (fun x K => I x.1 x.2.1 x.2.2.1 x.2.2.2.1 K) (fun x _ => m x.1 x.2.1 x.2.2.1 x.2.2.2.1) (x0, x1, x2, x3, ()) h0 hi ?_
  rintro ⟨x0, x1, x2, x3, u⟩ K hI
  refine Go.Fw.wp_mono _ (hstep x0 x1 x2 x3 K hI) (fun k vals H'' hk => ?_) (fun _ _ h => h)
  unfold Hands.set at *
  split at hk
  · rename_i e; rw [if_pos e]; obtain ⟨y0, y1, y2, y3, h1, h2, h3⟩ := hk; exact ⟨(y0, y1, y2, y3, ()), h1, h2, h3⟩
  · rename_i e; rw [if_neg e]; exact hk
end Go.Proofs.Ytfphgiipekkgdaa

set_option linter.unusedVariables false
set_option maxRecDepth 20000
namespace Go.Proofs.Ytfphgiipekkgdaa
open Go Go.Fw

section
variable {L : Hands} {R : Value → Heap → Prop} {H : Heap} {I : List Nat} {A : Ar} {N : Nat}
/-- A cell of an array, read. -/
theorem w_arn {t e u T : TypeId} {b : Nat} {g : Nat → Value} {k : Int} {lf : Leaf} {x : lf.T} {t' : Addr → lf.T → Tree} {l : Bl} {info : TypeInfo} (hA : Aw I A) (ok : Ok I H (keys l)) (hb : (b, oc T (arrC N g)) ∈ l) (hu : Try.prog.underlying t = some (.array N e)) (hi : Try.prog.info? e = some info) (hs : info.size = 1) (k0 : 0 ≤ k) (k1 : k < N)
    (hx : Lf.dec lf (g k.toNat) = some x) (h : wp Try.prog (t' ⟨b, 0 + k.toNat, none⟩ x) L (own A l H) R) :
    wp Try.prog (.look (opS Try.prog (.indexAddr t (.tmp 0) (.tmp 1)) u [.pointer (some ⟨b, 0, none⟩), .int .i64 k]) (.one (.leaf .addr)) fun y => .ld y lf (t' y)) L (own A l H) R := by
  refine w_ix (A := A) (e := e) (n := N) hu hi hs k0 (by omega) ?_
  refine w_ldm (x := x) hA ok rfl hb ?_ h
  rw [Nat.zero_add, arrC_get (by omega)]; exact hx
/-- A cell of an array, turned. -/
theorem w_arnS (ix : Nat) {t e u T : TypeId} {b : Nat} {g : Nat → Value} {k : Int} {v : Value} {t' : Tree} {l : Bl} {info : TypeInfo} (hA : Aw I A) (ok : Ok I H (keys l)) (hb : l[ix]? = some (b, oc T (arrC N g))) (hu : Try.prog.underlying t = some (.array N e)) (hi : Try.prog.info? e = some info) (hs : info.size = 1) (k0 : 0 ≤ k) (k1 : k < N) (hv : Value.single v = true)
    (h : wp Try.prog t' L (own A (l.set ix (b, oc T (arrC N fun j => if j = k.toNat then v else g j))) H) R) :
    wp Try.prog (.look (opS Try.prog (.indexAddr t (.tmp 0) (.tmp 1)) u [.pointer (some ⟨b, 0, none⟩), .int .i64 k]) (.one (.leaf .addr)) fun y => .st y v t') L (own A l H) R := by
  refine w_ix (A := A) (e := e) (n := N) hu hi hs k0 (by omega) ?_
  refine w_st ix hA ok rfl hb hv (by rw [arrC_len]; exact decide_eq_true (by omega)) ?_
  rw [Nat.zero_add, arrC_set]; exact h
theorem ck_arn {T : TypeId} {b : Nat} {g : Nat → Value} {k : Int} {v : Value} {t' : Tree} {l : Bl} (hA : Aw I A) (ok : Ok I H (keys l)) (hb : (b, oc T (arrC N g)) ∈ l) (k0 : 0 ≤ k) (k1 : k < N) (hv : g k.toNat = v)
    (h : wp Try.prog t' L (own A l H) R) : wp Try.prog (.check (ldS ⟨b, 0 + k.toNat, none⟩) v t') L (own A l H) R := by
  refine chk_cell ?_ h
  rw [Heap.cell_of (own_mem hA ok hb), List.getElem?_toArray, Nat.zero_add, arrC_get (by omega), hv]
theorem ck_aix {t e u : TypeId} {b : Nat} {k : Int} {t' : Tree} {H : Heap} {info : TypeInfo} (hu : Try.prog.underlying t = some (.array N e)) (hi : Try.prog.info? e = some info) (hs : info.size = 1) (k0 : 0 ≤ k) (k1 : k < N) (h : wp Try.prog t' L H R) :
    wp Try.prog (.check (opS Try.prog (.indexAddr t (.tmp 0) (.tmp 1)) u [.pointer (some ⟨b, 0, none⟩), .int .i64 k]) (.pointer (some ⟨b, 0 + k.toNat, none⟩)) t') L H R := by
  refine check_val ?_ h
  rw [opS_idx hu hi k0 (by omega), Addr.add_mk, hs, Nat.mul_one]
end
end Go.Proofs.Ytfphgiipekkgdaa

set_option linter.unusedVariables false
set_option maxRecDepth 20000
namespace Go.Proofs.Ytfphgiipekkgdaa
open Go Go.Fw

section
variable {L : Hands} {R : Value → Heap → Prop} {A : Ar} {I : List Nat} {l l' : Bl} {G : Heap}

theorem SlAt.row {α : Type} {E : Enc α} {e : TypeId} {s : Sl} {xs : List α} (hA : Aw I A) (ok : Ok I G (keys l)) (h : SlAt l e E s xs) : Row (own A l G) s.a (E.all xs) := by
  rcases h with ⟨rfl, rfl⟩ | ⟨b, pre, rest, r, rfl, h2, h3⟩
  · intro i hi; simp [Enc.all] at hi
  · refine cell_row hA ok h3 pre.length ?_
    rw [List.append_assoc, List.drop_left, List.take_left]
theorem SlAt.nil (l : Bl) {α : Type} (e : TypeId) (E : Enc α) : SlAt l e E ⟨none, 0, 0⟩ [] := .inl ⟨rfl, rfl⟩

/-- Append to a slice that lies in the middle part. -/
theorem w_appA {sT e u : TypeId} {α : Type} {E : Enc α} (hE : ElOk sT e E.sz) {xs ys : List α} {s t : Sl} {k : Sl → Tree} (pre : Bl) {mid post : Bl} (hA : Aw I A) (ok : Ok I G (keys (pre ++ (mid ++ post)))) (hs : SlAt mid e E s xs)
    (ht : Row (own A (pre ++ (mid ++ post)) G) t.a (E.all ys)) (htl : t.len = ys.length) (hm : xs.length + ys.length ≤ 1048576)
    (h : ∀ s' mid', SlAt mid' e E s' (xs ++ ys) → Ok I G (keys (pre ++ (mid' ++ post))) → wp Try.prog (k s') L (own A (pre ++ (mid' ++ post)) G) R) :
    wp Try.prog (.act (opS Try.prog (.call { callee := .builtin .append, args := #[(.tmp 0), (.tmp 1)], argTypes := #[sT, sT] }) u [(.slice s.a s.len s.cap), (.slice t.a t.len t.cap)]) (.one (.leaf .slice)) k) L (own A (pre ++ (mid ++ post)) G) R := by
  obtain ⟨info, z, i1, i2, i3, i4, i5, i6, i7⟩ := hE.ex
  have hln := hs.len
  have hsw : SlAt (pre ++ (mid ++ post)) e E s xs := hs.mono fun p hp => List.mem_append_right _ (List.mem_append_left _ hp)
  refine append_gen2 (info := info) (z := z) (old := E.all xs) (new := E.all ys) i1 i2 i4 i5 i6 (i7.trans i3.symm) (hsw.row hA ok) (by rw [E.all_len, hln, i3]) ht (by rw [E.all_len, htl, i3]) (by omega) ?_ ?_
  · intro hc
    by_cases hy : ys = []
    · subst hy
      refine .inl ⟨htl, s, rfl, ?_⟩
      exact h s mid (by rw [List.append_nil]; exact hs) ok
    · rcases hs with ⟨rfl, rfl⟩ | ⟨b, pr, rest, r, rfl, h2, h3⟩
      · have : ys.length = 0 := by rw [htl] at hc; have : 0 + ys.length ≤ 0 := hc; omega
        exact (hy (List.eq_nil_of_length_eq_zero this)).elim
      · have hr : ys.length ≤ r := by
          have : xs.length + t.len ≤ xs.length + r := hc
          omega
        have hmul : ys.length * E.sz ≤ r * E.sz := Nat.mul_le_mul_right _ hr
        have hmem : (b, oc e (pr ++ E.all xs ++ rest)) ∈ pre ++ (mid ++ post) := List.mem_append_right _ (List.mem_append_left _ h3)
        refine .inr ⟨b, pr.length, _, e, rfl, own_mem hA ok hmem, ?_, E.all_sg ys, ⟨some ⟨b, pr.length, none⟩, xs.length + t.len, xs.length + r⟩, rfl, ?_⟩
        · show pr.length + (xs.length + t.len) * info.size ≤ _
          rw [i3, htl, Nat.add_mul]; simp only [List.size_toArray, List.length_append, E.all_len]; omega
        · have e1 : putAll (pr ++ E.all xs ++ rest).toArray (pr.length + xs.length * info.size) (E.all ys) = (pr ++ E.all (xs ++ ys) ++ rest.drop (ys.length * E.sz)).toArray := by
            have := putAll_mid (E.all ys) (pr ++ E.all xs) (rest.take (ys.length * E.sz)) (rest.drop (ys.length * E.sz)) (by rw [E.all_len, List.length_take]; omega)
            rw [List.append_assoc, List.take_append_drop, List.length_append, E.all_len] at this
            rw [i3, this, E.all_append]
            simp
          have e2 := own_bset (G := G) hA ok (oc e (pr ++ E.all (xs ++ ys) ++ rest.drop (ys.length * E.sz))) hmem
          have nd := ok.nd
          simp only [keys_append] at nd
          have n1 := List.nodup_append.1 nd
          have n2 := List.nodup_append.1 n1.2.1
          have hbm : b ∈ keys mid := List.mem_map.2 ⟨_, h3, rfl⟩
          have b1 : b ∉ keys pre := fun hp => n1.2.2 b hp b (List.mem_append_left _ hbm) rfl
          have b2 : b ∉ keys post := fun hp => n2.2.2 b hbm b hp rfl
          rw [bset_append, bset_append, bset_out b1, bset_out b2] at e2
          unfold oc at e2
          show wp Try.prog _ L ((own A (pre ++ (mid ++ post)) G).set b (.cells (putAll (pr ++ E.all xs ++ rest).toArray (pr.length + xs.length * info.size) (E.all ys)) e (0, 0))) R
          rw [e1, e2]
          refine h _ _ (.inr ⟨b, pr, rest.drop (ys.length * E.sz), r - ys.length, ?_, ?_, mem_bset h3⟩) ?_
          · simp only [List.length_append, Sl.mk.injEq, true_and]; omega
          · rw [List.length_drop, Nat.sub_mul]; omega
          · simp only [keys_append, keys_bset]; simp only [keys_append] at ok; exact ok
  · intro hc b rest r hb hr
    obtain ⟨o1, o2⟩ := own_new hA ok hb (oc e (E.all xs ++ E.all ys ++ rest))
    refine ⟨⟨some ⟨b, 0, none⟩, s.len + t.len, s.len + t.len + r⟩, rfl, ?_⟩
    show wp Try.prog _ L ((own A (pre ++ (mid ++ post)) G).set b (oc e (E.all xs ++ E.all ys ++ rest))) R
    rw [o2]
    have hp : ((b, oc e (E.all xs ++ E.all ys ++ rest)) :: (pre ++ (mid ++ post))).Perm (pre ++ (((b, oc e (E.all xs ++ E.all ys ++ rest)) :: mid) ++ post)) := List.perm_middle.symm
    obtain ⟨p1, p2⟩ := own_perm (A := A) o1 hp
    rw [p1]
    refine h _ _ (.inr ⟨b, [], rest, r, ?_, by rw [hr, i3]; exact Nat.le_refl _, ?_⟩) p2
    · rw [hln, htl, List.length_append]; rfl
    · rw [E.all_append]; exact List.mem_cons_self

/-- An element of a slice of numbers. -/
theorem rdA {s : Sl} {xs : List Int} {i : Int} {u : TypeId} {k : Int → Tree} (hA : Aw I A) (ok : Ok I G (keys l)) (hs : SlAt l ty_int eI s xs) (h0 : 0 ≤ i) (h1 : i < xs.length) (h : wp Try.prog (k (xs.getD i.toNat 0)) L (own A l G) R) :
    wp Try.prog (.look (opS Try.prog (.indexAddr ty_s_int (.tmp 0) (.tmp 1)) u [.slice s.a s.len s.cap, .int .i64 i]) (.one (.leaf .addr)) fun x => .ld x (.int .i64) k) L (own A l G) R := by
  rcases hs with ⟨rfl, rfl⟩ | ⟨b, pre, rest, r, rfl, h2, h3⟩
  · have : (([] : List Int).length : Int) = 0 := rfl
    omega
  · refine w_ixS (e := ty_int) rfl rfl rfl h0 h1 ?_
    refine w_ldm (x := xs.getD i.toNat 0) hA ok rfl h3 ?_ h
    have hl : i.toNat < xs.length := by omega
    rw [List.append_assoc, List.getElem?_append_right (by omega), eI_all, show pre.length + i.toNat - pre.length = i.toNat by omega, List.getElem?_append_left (by simpa using hl), List.getElem?_map, List.getElem?_eq_getElem hl]
    show some _ = _
    rw [List.getD_eq_getElem?_getD, List.getElem?_eq_getElem hl]; rfl

/-- The rest of a slice, behind its first element. -/
theorem SlAt.tailI {e : TypeId} {s : Sl} {x : Int} {xs : List Int} (h : SlAt l e eI s (x :: xs)) : SlAt l e eI (loSl s 1) xs ∧ (1 : Int) ≤ (s.len : Int) := by
  rcases h with ⟨_, h⟩ | ⟨b, pre, rest, r, rfl, h2, h3⟩
  · cases h
  · refine ⟨?_, by show (1 : Int) ≤ ((xs.length + 1 : Nat) : Int); omega⟩
    unfold loSl
    dsimp only
    by_cases e : (x :: xs).length + r = 1
    · rw [if_pos e]
      have hx : xs = [] := by simp only [List.length_cons] at e; exact List.eq_nil_of_length_eq_zero (by omega)
      have hr : r = 0 := by simp only [List.length_cons] at e; omega
      subst hx; subst hr
      exact .inr ⟨b, pre, eI.all [x] ++ rest, 0, rfl, by omega, by rw [show eI.all ([] : List Int) = [] from rfl, List.append_nil, ← List.append_assoc]; exact h3⟩
    · rw [if_neg e]
      refine .inr ⟨b, pre ++ [.int .i64 x], rest, r, ?_, h2, ?_⟩
      · show Sl.mk (some ((Addr.mk b pre.length none).add 1)) _ _ = _
        rw [Addr.add_mk, List.length_append]
        simp only [List.length_cons, List.length_nil, Sl.mk.injEq, true_and]
        omega
      · have : eI.all (x :: xs) = [.int .i64 x] ++ eI.all xs := rfl
        rw [this] at h3
        simpa using h3
end
end Go.Proofs.Ytfphgiipekkgdaa

set_option linter.unusedVariables false
set_option linter.unusedSimpArgs false
set_option maxRecDepth 20000
namespace Go.Proofs.Ytfphgiipekkgdaa
open Go Go.Fw

/-! ### Actors -/

abbrev Tr3 := Nat × Nat × Nat
inductive Mc where
  | idle
  | al (x : Al) (j : Tr3)
  | fe (x : Fe) (j : Tr3)
def Mc.bl : Mc → Bl
  | .idle => []
  | .al x j => x.bl j
  | .fe x j => x.bl j
def Mc.ifv : Mc → Value
  | .idle => .nilIface
  | .al _ j => .iface ty_p_slab_Alloc (.pointer (some ⟨j.1, 0, none⟩))
  | .fe _ j => .iface ty_p_slab_Free (.pointer (some ⟨j.1, 0, none⟩))
def Mc.ptr : Mc → Option Addr
  | .al _ j => some ⟨j.1, 0, none⟩
  | _ => none
def Mc.hold : Mc → Option Int
  | .idle => none
  | .al x _ => if x.what = 3 then some x.base else none
  | .fe x _ => some (opB x.h)
def McI (p : Pl) (w m : Int) (i : Nat) (A : Ar) (S : Sg) : Mc → Prop
  | .idle => True
  | .al x _ => AlI p w m x A S
  | .fe x _ => FeI p w m i x A S
structure Ac where
  mc : Mc
  xs : List Int
  s : Sl
  hb : Bl
def Ac.bl (a : Ac) : Bl := a.mc.bl ++ a.hb

def allBl (f : Nat → Ac) : Nat → Bl
  | 0 => []
  | n + 1 => allBl f n ++ (f n).bl
def restBl (f : Nat → Ac) (w : Nat) : Nat → Bl
  | 0 => []
  | n + 1 => restBl f w n ++ (if n = w then [] else (f n).bl)
def allXs (f : Nat → Ac) : Nat → List Int
  | 0 => []
  | n + 1 => allXs f n ++ (f n).xs
def restXs (f : Nat → Ac) (w : Nat) : Nat → List Int
  | 0 => []
  | n + 1 => restXs f w n ++ (if n = w then [] else (f n).xs)
def updA (f : Nat → Ac) (w : Nat) (a : Ac) : Nat → Ac := fun j => if j = w then a else f j
theorem updA_same (f : Nat → Ac) (w : Nat) (a : Ac) : updA f w a w = a := if_pos rfl
theorem updA_ne (f : Nat → Ac) {w j : Nat} (a : Ac) (h : j ≠ w) : updA f w a j = f j := if_neg h

theorem restBl_le (f : Nat → Ac) (w : Nat) : ∀ n, n ≤ w → restBl f w n = allBl f n
  | 0, _ => rfl
  | n + 1, h => by show restBl f w n ++ _ = allBl f n ++ _; rw [restBl_le f w n (by omega), if_neg (by omega)]
theorem restXs_le (f : Nat → Ac) (w : Nat) : ∀ n, n ≤ w → restXs f w n = allXs f n
  | 0, _ => rfl
  | n + 1, h => by show restXs f w n ++ _ = allXs f n ++ _; rw [restXs_le f w n (by omega), if_neg (by omega)]
theorem allBl_c {c : Bl → Nat} (c0 : c [] = 0) (ca : ∀ a b, c (a ++ b) = c a + c b) (f : Nat → Ac) {w : Nat} : ∀ {n : Nat}, w < n → c (allBl f n) = c (f w).mc.bl + c (f w).hb + c (restBl f w n)
  | 0, h => by omega
  | n + 1, h => by
    show c (allBl f n ++ (f n).bl) = _ + c (restBl f w n ++ _)
    rw [ca, ca]
    by_cases e : n = w
    · rw [if_pos e, c0, ← e, restBl_le f n n (Nat.le_refl _)]
      show _ + c ((f n).mc.bl ++ (f n).hb) = _
      rw [ca]; omega
    · rw [if_neg e, allBl_c c0 ca f (w := w) (n := n) (by omega)]; omega
theorem allXs_perm (f : Nat → Ac) {w : Nat} : ∀ {n : Nat}, w < n → (allXs f n).Perm ((f w).xs ++ restXs f w n)
  | 0, h => by omega
  | n + 1, h => by
    show (allXs f n ++ (f n).xs).Perm ((f w).xs ++ (restXs f w n ++ _))
    by_cases e : n = w
    · rw [if_pos e, ← e, restXs_le f n n (Nat.le_refl _), List.append_nil]; exact List.perm_append_comm
    · rw [if_neg e, ← List.append_assoc]; exact (allXs_perm f (n := n) (by omega)).append_right _
theorem restBl_upd (f : Nat → Ac) (w : Nat) (a : Ac) : ∀ n, restBl (updA f w a) w n = restBl f w n
  | 0 => rfl
  | n + 1 => by
    show restBl (updA f w a) w n ++ _ = restBl f w n ++ _
    rw [restBl_upd f w a n]
    by_cases e : n = w
    · rw [if_pos e, if_pos e]
    · rw [if_neg e, if_neg e, updA_ne f a e]
theorem restXs_upd (f : Nat → Ac) (w : Nat) (a : Ac) : ∀ n, restXs (updA f w a) w n = restXs f w n
  | 0 => rfl
  | n + 1 => by
    show restXs (updA f w a) w n ++ _ = restXs f w n ++ _
    rw [restXs_upd f w a n]
    by_cases e : n = w
    · rw [if_pos e, if_pos e]
    · rw [if_neg e, if_neg e, updA_ne f a e]
def szs (l : List Int) : Int := (l.map fun h => sizeF (opC h)).sum
theorem szs_append (l k : List Int) : szs (l ++ k) = szs l + szs k := by unfold szs; rw [List.map_append, List.sum_append]
theorem szs_cons (h : Int) (l : List Int) : szs (h :: l) = sizeF (opC h) + szs l := rfl
theorem szs_nn : ∀ l : List Int, 0 ≤ szs l
  | [] => Int.le_refl _
  | h :: l => by
    have := szs_nn l
    have := opC_nat h
    have := sz_pos (c := opC h) (by omega) (by omega)
    rw [szs_cons]; omega
theorem szs_perm {l k : List Int} (h : l.Perm k) : szs l = szs k := by
  induction h with
  | nil => rfl
  | cons x _ ih => rw [szs_cons, szs_cons, ih]
  | swap x y l => rw [szs_cons, szs_cons, szs_cons, szs_cons]; omega
  | trans _ _ a b => exact a.trans b
theorem allXs_mem {f : Nat → Ac} {h : Int} : ∀ {n : Nat}, h ∈ allXs f n ↔ ∃ i, i < n ∧ h ∈ (f i).xs
  | 0 => by constructor
            · intro h; cases h
            · rintro ⟨i, h, _⟩; omega
  | n + 1 => by
    show h ∈ allXs f n ++ (f n).xs ↔ _
    rw [List.mem_append, allXs_mem (n := n)]
    constructor
    · rintro (⟨i, h1, h2⟩ | h1)
      · exact ⟨i, by omega, h2⟩
      · exact ⟨n, by omega, h1⟩
    · rintro ⟨i, h1, h2⟩
      by_cases e : i = n
      · subst e; exact .inr h2
      · exact .inl ⟨i, by omega, h2⟩

/-- The world at a pick. -/
structure MX (I : List Nat) (A : Ar) (w m : Int) (S : Sg) (f : Nat → Ac) (n : Int) : Prop where
  aw : Aw I A
  sl : SL A (plOf w m) w m S
  fa : A.fault = false
  cc : A.nC = A.carved.count true
  us : n ≤ A.uses + 1 ∧ A.uses ≤ 4 * n
  nL : A.nL = szs (allXs f 5)
  bL : A.nL ≤ 64 * n
  bal : A.nL + A.nR ≤ 64 * n
  st : ∀ h ∈ allXs f 5, A.stF h = 1
  nd : (allXs f 5).Nodup
  sls : ∀ i, i < 5 → SlAt (f i).hb ty_int eI (f i).s (f i).xs
  ln : ∀ i, i < 5 → ((f i).xs.length : Int) ≤ n
  mc : ∀ i, i < 5 → McI (plOf w m) w m i A S (f i).mc
  hd : ∀ i j, i < 5 → j < 5 → i ≠ j → ∀ b, (f i).mc.hold = some b → (f j).mc.hold ≠ some b

/-- What is in hand: it is in no list. -/
theorem McI.nin {p : Pl} {w m : Int} {i : Nat} {A : Ar} {S : Sg} {x : Mc} (X : SL A p w m S) (h : McI p w m i A S x) {b : Int} (hb : x.hold = some b) : (∀ k, b ∉ S.ch k) ∧ S.cl b ≠ -1 := by
  cases x with
  | idle => cases hb
  | al x j =>
    have h : AlI p w m x A S := h
    have hb : (if x.what = 3 then some x.base else none) = some b := hb
    by_cases e : x.what = 3
    · rw [if_pos e] at hb
      have : x.base = b := by simpa using hb
      subst this
      exact ⟨(h.bears e).1.2.1, (h.bears e).1.1⟩
    · rw [if_neg e] at hb; cases hb
  | fe x j =>
    have h : FeI p w m i x A S := h
    have : opB x.h = b := by simpa [Mc.hold] using hb
    subst this
    obtain ⟨a1, a2⟩ := X.act x.h (by rw [h.st]; decide)
    exact ⟨a2, by have := (opC_nat x.h).1; omega⟩
/-- Others stay as they are. -/
theorem McI.keep {p : Pl} {w m : Int} {i : Nat} {A B : Ar} {S S' : Sg} {x : Mc} (X : SL A p w m S) (h : McI p w m i A S x) {mine : Int} (E : Ev p w m A S B S' mine) (hm : ∀ k, mine ∉ S.ch k) (hb : x.hold ≠ some mine) : McI p w m i B S' x := by
  cases x with
  | idle => trivial
  | al x j =>
    have h : AlI p w m x A S := h
    refine AlI.keep h X E hm fun e e2 => hb ?_
    show (if x.what = 3 then some x.base else none) = _
    rw [if_pos e, e2]
  | fe x j =>
    have h : FeI p w m i x A S := h
    exact FeI.keep h E fun e => hb (by show some (opB x.h) = _; rw [e])
theorem neg1_nin {p : Pl} {w m : Int} {A : Ar} {S : Sg} (X : SL A p w m S) (k : Int) : (-1 : Int) ∉ S.ch k := fun h => by have := (X.F.mem k _ h).1; omega
theorem hold_pos {p : Pl} {w m : Int} {i : Nat} {A : Ar} {S : Sg} {x : Mc} (X : SL A p w m S) (h : McI p w m i A S x) : x.hold ≠ some (-1) := fun e => by
  have := X.blk _ (h.nin X e).2; omega

/-- One actor steps, all others stay. -/
theorem MX.step {I : List Nat} {A B : Ar} {w m n : Int} {S S' : Sg} {f : Nat → Ac} (M : MX I A w m S f n) {i : Nat} (hi : i < 5) {a : Ac} {mine : Int} (hB : Aw I B) (X' : SL B (plOf w m) w m S') (E : Ev (plOf w m) w m A S B S' mine) (hm : mine = -1 ∨ (f i).mc.hold = some mine ∨ ((f i).mc.hold = none ∧ (∀ k, mine ∉ S.ch k) ∧ ∀ j, j < 5 → (f j).mc.hold ≠ some mine))
    (cc : B.nC = B.carved.count true) (us : n + 1 ≤ B.uses + 1 ∧ B.uses ≤ 4 * (n + 1)) (nL : B.nL = szs (allXs (updA f i a) 5)) (bL : B.nL ≤ 64 * (n + 1)) (bal : B.nL + B.nR ≤ 64 * (n + 1)) (st : ∀ h ∈ allXs (updA f i a) 5, B.stF h = 1) (nd : (allXs (updA f i a) 5).Nodup)
    (sl : SlAt a.hb ty_int eI a.s a.xs) (ln : (a.xs.length : Int) ≤ n + 1) (mc : McI (plOf w m) w m i B S' a.mc) (hd : ∀ b, a.mc.hold = some b → ∀ j, j < 5 → j ≠ i → (f j).mc.hold ≠ some b) : MX I B w m S' (updA f i a) (n + 1) := by
  have hmn : ∀ k, mine ∉ S.ch k := by
    rcases hm with h | h | h
    · rw [h]; exact neg1_nin M.sl
    · exact ((M.mc i hi).nin M.sl h).1
    · exact h.2.1
  have hmo : ∀ j, j < 5 → j ≠ i → (f j).mc.hold ≠ some mine := fun j hj hne => by
    rcases hm with h | h | h
    · rw [h]; exact hold_pos M.sl (M.mc j hj)
    · exact M.hd i j hi hj (fun e => hne e.symm) mine h
    · exact h.2.2 j hj
  refine ⟨hB, X', E.fa.trans M.fa, cc, us, nL, bL, bal, st, nd, fun j hj => ?_, fun j hj => ?_, fun j hj => ?_, fun j k hj hk hne b hb => ?_⟩
  · by_cases e : j = i
    · subst e; rw [updA_same]; exact sl
    · rw [updA_ne f a e]; exact M.sls j hj
  · by_cases e : j = i
    · subst e; rw [updA_same]; exact ln
    · rw [updA_ne f a e]; have := M.ln j hj; omega
  · by_cases e : j = i
    · subst e; rw [updA_same]; exact mc
    · rw [updA_ne f a e]; exact (M.mc j hj).keep M.sl E hmn (hmo j hj e)
  · by_cases e : j = i
    · subst e
      rw [updA_same] at hb
      rw [updA_ne f a (fun e => hne e.symm)]
      exact hd b hb k hk fun e => hne e.symm
    · rw [updA_ne f a e] at hb
      by_cases e2 : k = i
      · subst e2
        rw [updA_same]
        intro h2
        exact hd b h2 j hj e hb
      · rw [updA_ne f a e2]; exact M.hd j k hj hk hne b hb

/-- Its use of a raw word. -/
theorem MX.later {I : List Nat} {A : Ar} {w m n : Int} {S : Sg} {f : Nat → Ac} (M : MX I A w m S f n) (h : A.uses + 1 ≤ 4 * n) : MX I (A.later 1) w m S f n := by
  have E := Ev.later M.sl (n := 1) (mine := -1) (by omega)
  have us := M.us
  exact ⟨later_aw M.aw 1, M.sl.later (by omega), M.fa, M.cc, ⟨by show n ≤ A.uses + 1 + 1; omega, h⟩, M.nL, M.bL, M.bal, M.st, M.nd, M.sls, M.ln, fun i hi => (M.mc i hi).keep M.sl E (neg1_nin M.sl) (hold_pos M.sl (M.mc i hi)), M.hd⟩

abbrev mxB (x9 x12 x13 x14 : Nat) (w m : Int) (f : Nat → Ac) (tl : Bl) : Bl :=
  (x9, oc ty_free_Place (plCells (plOf w m))) :: (x12, oc ty_a5_s_int (arrC 5 fun i => slV (f i).s)) :: (x13, oc ty_a5_magpielaw11_mach (arrC 5 fun i => (f i).mc.ifv)) :: (x14, oc ty_a5_p_slab_Alloc (arrC 5 fun i => .pointer (f i).mc.ptr)) :: (allBl f 5 ++ tl)

theorem arr_upd {g : Ac → Value} {f : Nat → Ac} {i : Nat} {a : Ac} : (arrC 5 fun j => g (f j)).set i (g a) = arrC 5 fun j => g (updA f i a j) := by
  rw [arrC_set]
  congr 1
  funext j
  unfold updA
  split <;> rfl
theorem arr_keep {g : Ac → Value} {f : Nat → Ac} {i : Nat} {a : Ac} (h : g a = g (f i)) : (arrC 5 fun j => g (f j)) = arrC 5 fun j => g (updA f i a j) := by
  congr 1
  funext j
  unfold updA
  split
  · rename_i e; rw [e, h]
  · rfl

section
variable {L : Hands} {R : Value → Heap → Prop} {H : Heap} {I : List Nat} {A : Ar} {w m n : Int} {S : Sg} {f : Nat → Ac} {tl : Bl} {x9 x12 x13 x14 : Nat}
set_option maxHeartbeats 1000000 in
theorem mx_J3 {x36 was : Int} {b : Bool} (hx : m = 8 * x36) (xb : 0 ≤ x36 ∧ x36 < 30) (M : MX I A w m S f (n + 1)) (n0 : 0 ≤ n ∧ n ≤ 500) (hw : 0 ≤ was ∧ A.uses ≤ was + 2 ∧ was ≤ 4 * n) (ok : Ok I H (keys (mxB x9 x12 x13 x14 w m f tl)))
    (h : ∀ A' tl', n + 1 ≤ A'.uses → MX I A' w m S f (n + 1) → Ok I H (keys (mxB x9 x12 x13 x14 w m f tl')) → wp Try.prog (.again 640 [(.bool b), (.int .i64 (n + 1))]) L (own A' (mxB x9 x12 x13 x14 w m f tl') H) R) :
    wp Try.prog (t_magpielaw11_SlabMixes_J3 x36 ⟨x9, 0, none⟩ (aI I) (b, n, ()) was) L (own A (mxB x9 x12 x13 x14 w m f tl) H) R := by
  have hA := M.aw
  have X := M.sl
  obtain ⟨p1, p2, p3, p4, p5⟩ := X.places
  have wb := X.wb
  have mb := X.mb
  have cvb := X.cvb
  have cnb := X.cnb
  have ncb := X.ncb
  have us := M.us
  unfold t_magpielaw11_SlabMixes_J3
  have e8 : w64 (8 * x36) = m := by rw [hx]; exact w64_in (by omega) (by omega)
  rw [e8]
  refine w_Uses hA ?_
  refine wp_false (decide_eq_false (by show ¬ A.uses > w64 (was + 2); rw [w64_in (by omega) (by omega)]; omega)) ?_
  refine w_ld 0 hA ok rfl rfl rfl ?_
  refine w_Raw hA fun hA1 => ?_
  have M1 := M.later (by omega)
  have t1 : A.touchR (4 * w + 2 * ((m + 7) / 8)) = A.later 1 := by
    rw [touchR_yes (show A.rawOk (4 * w + 2 * ((m + 7) / 8)) from ⟨by omega, by have := X.rl; omega⟩), tick_uses X.F.us (by omega)]
  have t2 : A.rawF (4 * w + 2 * ((m + 7) / 8)) = S.cv := by rw [← p4]; exact X.cvr
  have hA1 : Aw I (A.touchR (4 * w + 2 * ((m + 7) / 8))) := hA1
  show wp Try.prog (bif (decide (A.rawF (4 * w + 2 * ((m + 7) / 8)) > m)) then _ else _) L (own (A.touchR (4 * w + 2 * ((m + 7) / 8))) _ _) R
  rw [t1] at hA1 ⊢
  rw [t2]
  refine wp_false (decide_eq_false (by omega)) ?_
  refine w_Count hA1 ?_
  refine w_newP hA1 ok fun x23 ok => ?_
  refine w_stA 0 hA1 ok rfl rfl rfl rfl ?_
  refine w_ld 0 hA1 ok rfl rfl rfl ?_
  have ncm : A.nC ≤ m := by
    have h1 : A.carved.count true ≤ A.carved.length := List.count_le_length
    have h2 := hA.wf.carved
    have h3 := X.wl
    rw [M.cc]; omega
  have cnt := X.cnt
  refine wp_false (decide_eq_false (by show ¬ A.nC > m; omega)) ?_
  refine w_ld 0 hA1 ok rfl rfl rfl ?_
  refine w_ld 0 hA1 ok rfl rfl rfl ?_
  refine w_ld 0 hA1 ok rfl rfl rfl ?_
  refine w_ld 0 hA1 ok rfl rfl rfl ?_
  refine wp_false (ibnf (by show w64 (w64 (A.nL + A.nR) + A.nF) = A.nC; rw [w64_in (x := A.nL + A.nR) (by omega) (by omega), w64_in (by omega) (by omega)]; omega)) ?_
  have en : w64 (n + 1) = n + 1 := w64_in (by omega) (by omega)
  dsimp only
  rw [en]
  have ok : Ok I H (keys ((x23, oc ty_api_Count [.int .i64 A.nC, .int .i64 A.nL, .int .i64 A.nR, .int .i64 A.nF]) :: mxB x9 x12 x13 x14 w m f tl)) := ok
  obtain ⟨q1, q2⟩ := own_perm (A := A.later 1) (l' := mxB x9 x12 x13 x14 w m f ((x23, oc ty_api_Count [.int .i64 A.nC, .int .i64 A.nL, .int .i64 A.nR, .int .i64 A.nF]) :: tl)) ok (perm_by fun c d c0 cd ca => by simp only [cd, ca, c0]; omega)
  show wp Try.prog _ _ (own (A.later 1) ((x23, oc ty_api_Count [.int .i64 A.nC, .int .i64 A.nL, .int .i64 A.nR, .int .i64 A.nF]) :: mxB x9 x12 x13 x14 w m f tl) H) _
  rw [q1]
  exact h _ _ (by show n + 1 ≤ A.uses + 1; omega) M1 q2
end
end Go.Proofs.Ytfphgiipekkgdaa

set_option linter.unusedVariables false
set_option linter.unusedSimpArgs false
set_option maxRecDepth 20000
namespace Go.Proofs.Ytfphgiipekkgdaa
open Go Go.Fw

theorem nI_al (a : Addr) : opS Try.prog (.binOp .neq ty_magpielaw11_mach (.tmp 0) (.const .nilIface) ty_magpielaw11_mach) ty_bool [.iface ty_p_slab_Alloc (.pointer (some a))] = .pure (.value (.bool true)) := by kernel_rfl
theorem nI_fe (a : Addr) : opS Try.prog (.binOp .neq ty_magpielaw11_mach (.tmp 0) (.const .nilIface) ty_magpielaw11_mach) ty_bool [.iface ty_p_slab_Free (.pointer (some a))] = .pure (.value (.bool true)) := by kernel_rfl
theorem nI_no : opS Try.prog (.binOp .neq ty_magpielaw11_mach (.tmp 0) (.const .nilIface) ty_magpielaw11_mach) ty_bool [.nilIface] = .pure (.value (.bool false)) := by kernel_rfl
theorem na_some (a : Addr) : opS Try.prog (.binOp .neq ty_p_slab_Alloc (.tmp 0) (.const (.pointer none)) ty_p_slab_Alloc) ty_bool [(.pointer (some a))] = .pure (.value (.bool true)) := by kernel_rfl
theorem na_none : opS Try.prog (.binOp .neq ty_p_slab_Alloc (.tmp 0) (.const (.pointer none)) ty_p_slab_Alloc) ty_bool [(.pointer none)] = .pure (.value (.bool false)) := by kernel_rfl

section
variable {L : Hands} {R : Value → Heap → Prop} {H : Heap} {I : List Nat} {A : Ar} {w m n : Int} {S : Sg} {f : Nat → Ac} {tl rest : Bl} {x9 x12 x13 x14 : Nat}

abbrev mxH (x9 x12 x13 x14 : Nat) (w m : Int) (c12 c13 c14 : List Value) (rest : Bl) : Bl :=
  (x9, oc ty_free_Place (plCells (plOf w m))) :: (x12, oc ty_a5_s_int c12) :: (x13, oc ty_a5_magpielaw11_mach c13) :: (x14, oc ty_a5_p_slab_Alloc c14) :: rest

theorem w_arr {t e u T : TypeId} {b : Nat} {g : Nat → Value} {k : Int} {lf : Leaf} {x : lf.T} {t' : Addr → lf.T → Tree} {l : Bl} {info : TypeInfo} (hA : Aw I A) (ok : Ok I H (keys l)) (hb : (b, oc T (arrC 5 g)) ∈ l) (hu : Try.prog.underlying t = some (.array 5 e)) (hi : Try.prog.info? e = some info) (hs : info.size = 1) (k0 : 0 ≤ k) (k1 : k < 5)
    (hx : Lf.dec lf (g k.toNat) = some x) (h : wp Try.prog (t' ⟨b, 0 + k.toNat, none⟩ x) L (own A l H) R) :
    wp Try.prog (.look (opS Try.prog (.indexAddr t (.tmp 0) (.tmp 1)) u [.pointer (some ⟨b, 0, none⟩), .int .i64 k]) (.one (.leaf .addr)) fun y => .ld y lf (t' y)) L (own A l H) R := by
  refine w_ix (A := A) (e := e) (n := 5) hu hi hs k0 (by omega) ?_
  refine w_ldm (x := x) hA ok rfl hb ?_ h
  rw [Nat.zero_add, arrC_get (by omega)]; exact hx

theorem w_arrS (ix : Nat) {t e u T : TypeId} {b : Nat} {g : Nat → Value} {k : Int} {v : Value} {t' : Tree} {l : Bl} {info : TypeInfo} (hA : Aw I A) (ok : Ok I H (keys l)) (hb : l[ix]? = some (b, oc T (arrC 5 g))) (hu : Try.prog.underlying t = some (.array 5 e)) (hi : Try.prog.info? e = some info) (hs : info.size = 1) (k0 : 0 ≤ k) (k1 : k < 5) (hv : Value.single v = true)
    (h : wp Try.prog t' L (own A (l.set ix (b, oc T ((arrC 5 g).set k.toNat v))) H) R) :
    wp Try.prog (.look (opS Try.prog (.indexAddr t (.tmp 0) (.tmp 1)) u [.pointer (some ⟨b, 0, none⟩), .int .i64 k]) (.one (.leaf .addr)) fun y => .st y v t') L (own A l H) R := by
  refine w_ix (A := A) (e := e) (n := 5) hu hi hs k0 (by omega) ?_
  refine w_st ix hA ok rfl hb hv (by rw [arrC_len]; exact decide_eq_true (by omega)) ?_
  rw [Nat.zero_add]; exact h

theorem mx_J4 {x36 k was : Int} {b : Bool} {a : Ac} (ha : a.mc = .idle) (hA : Aw I A) (k0 : 0 ≤ k) (k1 : k < 5) {c12 : List Value} (ok : Ok I H (keys (mxH x9 x12 x13 x14 w m c12 (arrC 5 fun i => (f i).mc.ifv) (arrC 5 fun i => .pointer (f i).mc.ptr) rest)))
    (h : wp Try.prog (t_magpielaw11_SlabMixes_J3 x36 ⟨x9, 0, none⟩ (aI I) (b, n, ()) was) L (own A (mxH x9 x12 x13 x14 w m c12 (arrC 5 fun i => (updA f k.toNat a i).mc.ifv) (arrC 5 fun i => .pointer (updA f k.toNat a i).mc.ptr) rest) H) R) :
    wp Try.prog (t_magpielaw11_SlabMixes_J4 x36 ⟨x9, 0, none⟩ (aI I) ⟨x13, 0, none⟩ ⟨x14, 0, none⟩ (b, n, ()) k was) L (own A (mxH x9 x12 x13 x14 w m c12 (arrC 5 fun i => (f i).mc.ifv) (arrC 5 fun i => .pointer (f i).mc.ptr) rest) H) R := by
  unfold t_magpielaw11_SlabMixes_J4
  refine w_arrS 2 (e := ty_magpielaw11_mach) hA ok rfl rfl rfl rfl k0 k1 rfl ?_
  have e1 : (arrC 5 fun i => (f i).mc.ifv).set k.toNat .nilIface = arrC 5 fun i => (updA f k.toNat a i).mc.ifv := by
    have := arr_upd (g := fun a => a.mc.ifv) (f := f) (i := k.toNat) (a := a)
    rw [show a.mc.ifv = .nilIface by rw [ha]; rfl] at this
    exact this
  have e2 : (arrC 5 fun i => Value.pointer (f i).mc.ptr).set k.toNat (.pointer none) = arrC 5 fun i => .pointer (updA f k.toNat a i).mc.ptr := by
    have := arr_upd (g := fun a => .pointer a.mc.ptr) (f := f) (i := k.toNat) (a := a)
    rw [show a.mc.ptr = none by rw [ha]; rfl] at this
    exact this
  rw [e1]
  have ok : Ok I H (keys (mxH x9 x12 x13 x14 w m c12 (arrC 5 fun i => (updA f k.toNat a i).mc.ifv) (arrC 5 fun i => .pointer (f i).mc.ptr) rest)) := ok
  show wp Try.prog _ L (own A (mxH x9 x12 x13 x14 w m c12 (arrC 5 fun i => (updA f k.toNat a i).mc.ifv) (arrC 5 fun i => .pointer (f i).mc.ptr) rest) H) R
  refine w_arrS 3 (e := ty_p_slab_Alloc) hA ok rfl rfl rfl rfl k0 k1 rfl ?_
  rw [e2]
  exact h

/-- An actor's step through its machine: the blocks in front. -/
theorem mx_front (ok : Ok I H (keys (mxB x9 x12 x13 x14 w m f tl))) {i : Nat} (hi : i < 5) :
    own A (mxB x9 x12 x13 x14 w m f tl) H = own A ((f i).mc.bl ++ (mxH x9 x12 x13 x14 w m (arrC 5 fun i => slV (f i).s) (arrC 5 fun i => (f i).mc.ifv) (arrC 5 fun i => .pointer (f i).mc.ptr) ((f i).hb ++ (restBl f i 5 ++ tl)))) H ∧
    Ok I H (keys ((f i).mc.bl ++ (mxH x9 x12 x13 x14 w m (arrC 5 fun i => slV (f i).s) (arrC 5 fun i => (f i).mc.ifv) (arrC 5 fun i => .pointer (f i).mc.ptr) ((f i).hb ++ (restBl f i 5 ++ tl))))) := by
  refine own_perm (A := A) ok (perm_by fun c d c0 cd ca => ?_)
  have := allBl_c c0 ca f hi
  simp only [mxB, mxH, cd, ca]
  omega
theorem mx_back {a : Ac} {i : Nat} (hi : i < 5) {g : Bl} {c12 c13 c14 : List Value} (h12 : c12 = arrC 5 fun j => slV (updA f i a j).s) (h13 : c13 = arrC 5 fun j => (updA f i a j).mc.ifv) (h14 : c14 = arrC 5 fun j => .pointer (updA f i a j).mc.ptr)
    {l : Bl} (hl : l.Perm (mxH x9 x12 x13 x14 w m c12 c13 c14 (a.mc.bl ++ (a.hb ++ (restBl f i 5 ++ (g ++ tl)))))) (ok : Ok I H (keys l)) :
    own A l H = own A (mxB x9 x12 x13 x14 w m (updA f i a) (g ++ tl)) H ∧ Ok I H (keys (mxB x9 x12 x13 x14 w m (updA f i a) (g ++ tl))) := by
  refine own_perm (A := A) ok (hl.trans ?_)
  subst h12; subst h13; subst h14
  refine perm_by fun c d c0 cd ca => ?_
  have := allBl_c c0 ca (updA f i a) hi
  rw [restBl_upd, updA_same] at this
  simp only [mxB, mxH, cd, ca]
  omega

theorem w64n {n : Int} (h : 0 ≤ n ∧ n ≤ 500) : w64 (n + 1) = n + 1 := w64_in (by omega) (by omega)

set_option maxHeartbeats 4000000 in
/-- A pick of one whose alloc is under way. -/
theorem mx_al {p2 : Sl} {x33 x36 k : Int} {b : Bool} (hx : m = 8 * x36) (xb : 0 ≤ x36 ∧ x36 < 30) (M : MX I A w m S f n) (n0 : 0 ≤ n ∧ n < 500) (ok : Ok I H (keys (mxB x9 x12 x13 x14 w m f tl))) (k0 : 0 ≤ k) (k1 : k < 5) (kw : k < w) {x : Al} {j : Tr3} (hmc : (f k.toNat).mc = .al x j)
    (h : ∀ A' S' f' tl', n + 1 ≤ A'.uses → MX I A' w m S' f' (n + 1) → Ok I H (keys (mxB x9 x12 x13 x14 w m f' tl')) → wp Try.prog (.again 640 [(.bool b), (.int .i64 (n + 1))]) L (own A' (mxB x9 x12 x13 x14 w m f' tl') H) R) :
    wp Try.prog (
        .look (opS Try.prog (.indexAddr ty_a5_magpielaw11_mach (.tmp 0) (.tmp 1)) ty_unit [(.pointer (some ⟨x13, 0, none⟩)), (.int .i64 k)]) (.one (.leaf .addr)) fun x90 =>
        .ld x90 .val fun x91 =>
        .act (opS Try.prog (.call { callee := .invoke (.tmp 0) "Step", args := #[(.tmp 1)], argTypes := #[ty_p_arena_Arena] }) ty_bool [x91, (.pointer (aI I))]) (.one (.leaf .bool)) fun x93 =>
        bif x93 then (
          .look (opS Try.prog (.indexAddr ty_a5_p_slab_Alloc (.tmp 0) (.tmp 1)) ty_unit [(.pointer (some ⟨x14, 0, none⟩)), (.int .i64 k)]) (.one (.leaf .addr)) fun x95 =>
          .ld x95 .ptr fun x96 =>
          .look (opS Try.prog (.binOp .neq ty_p_slab_Alloc (.tmp 0) (.const (.pointer none)) ty_p_slab_Alloc) ty_bool [(.pointer x96)]) (.one (.leaf .bool)) fun x97 =>
          bif x97 then (
            .look (opS Try.prog (.indexAddr ty_a5_p_slab_Alloc (.tmp 0) (.tmp 1)) ty_unit [(.pointer (some ⟨x14, 0, none⟩)), (.int .i64 k)]) (.one (.leaf .addr)) fun x100 =>
            .ld x100 .ptr fun x101 =>
            .call f_slab_Alloc_Handle [(.pointer x101)] (.tup [(.leaf (.int .i64)), (.leaf .bool)]) fun x102 =>
            bif x102.2.1 then (
              .look (opS Try.prog (.indexAddr ty_a5_s_int (.tmp 0) (.tmp 1)) ty_unit [(.pointer (some ⟨x12, 0, none⟩)), (.int .i64 k)]) (.one (.leaf .addr)) fun x108 =>
              .ld x108 .slice fun x109 =>
              .newS (.cells #[(.int .i64 x102.1)] ty_int) 1 fun x111 =>
              .act (opS Try.prog (.call { callee := .builtin .append, args := #[(.tmp 0), (.tmp 1)], argTypes := #[ty_s_int, ty_s_int] }) ty_s_int [(.slice x109.a x109.len x109.cap), (.slice x111.a x111.len x111.cap)]) (.one (.leaf .slice)) fun x112 =>
              .look (opS Try.prog (.indexAddr ty_a5_s_int (.tmp 0) (.tmp 1)) ty_unit [(.pointer (some ⟨x12, 0, none⟩)), (.int .i64 k)]) (.one (.leaf .addr)) fun x113 =>
              .st x113 (.slice x112.a x112.len x112.cap) <|
              .look (opS Try.prog (.indexAddr ty_a5_s_int (.tmp 0) (.tmp 1)) ty_unit [(.pointer (some ⟨x12, 0, none⟩)), (.int .i64 k)]) (.one (.leaf .addr)) fun x119 =>
              .ld x119 .slice fun x120 =>
              .call f_arena_Arena_Store [(.pointer (aI I)), (.int .i64 x102.1), (.int .i64 7), (.int .i64 (w64 ((w64 (1000 * k)) + ((x120.len : Nat) : Int))))] .unit fun _ =>
              t_magpielaw11_SlabMixes_J4 x36 ⟨x9, 0, none⟩ (aI I) ⟨x13, 0, none⟩ ⟨x14, 0, none⟩ (b, n, ()) k A.uses)
            else (
              t_magpielaw11_SlabMixes_J4 x36 ⟨x9, 0, none⟩ (aI I) ⟨x13, 0, none⟩ ⟨x14, 0, none⟩ (b, n, ()) k A.uses))
          else (
            t_magpielaw11_SlabMixes_J4 x36 ⟨x9, 0, none⟩ (aI I) ⟨x13, 0, none⟩ ⟨x14, 0, none⟩ (b, n, ()) k A.uses))
        else (
          t_magpielaw11_SlabMixes_J3 x36 ⟨x9, 0, none⟩ (aI I) (b, n, ()) A.uses)) L (own A (mxB x9 x12 x13 x14 w m f tl) H) R := by
  have hA := M.aw
  have X := M.sl
  have us := M.us
  have us0 := X.F.us
  have hi : k.toNat < 5 := by omega
  obtain ⟨i, ei⟩ : ∃ i, i = k.toNat := ⟨_, rfl⟩
  have IA : AlI (plOf w m) w m x A S := by have := M.mc k.toNat hi; rw [hmc] at this; exact this
  refine w_arr (g := fun i => (f i).mc.ifv) (x := (f k.toNat).mc.ifv) (e := ty_magpielaw11_mach) hA ok (List.mem_cons_of_mem _ (List.mem_cons_of_mem _ List.mem_cons_self)) rfl rfl rfl k0 k1 rfl ?_
  rw [hmc]
  refine act_enter (mAl_inv _ _) ?_
  obtain ⟨p1, ok1⟩ := mx_front (A := A) ok hi
  rw [p1]
  rw [hmc] at ok1 ⊢
  have ok2 : Ok I H (keys (x.bl j) ++ keys (mxH x9 x12 x13 x14 w m (arrC 5 fun i => slV (f i).s) (arrC 5 fun i => (f i).mc.ifv) (arrC 5 fun i => .pointer (f i).mc.ptr) ((f k.toNat).hb ++ (restBl f k.toNat 5 ++ tl)))) := by rw [← keys_append]; exact ok1
  obtain ⟨o1, o2⟩ := ok2.split
  have lst := IA.lst
  have wb := X.wb
  refine w_sub (mAl_ok I A _ x j hA o1 ⟨lst.1, by omega⟩) ?_
  rintro v K ⟨j', rfl, rfl, ej, o3, hB⟩
  refine ⟨(x.step A).1.what == 4, rfl, ?_⟩
  obtain ⟨S', Z⟩ := IA.step X hA.wf (by omega)
  show wp Try.prog _ L (own (x.step A).2 ((x.step A).1.bl j') (putL _ H)) _
  rw [← own_append]
  have ok3 : Ok I H (keys ((x.step A).1.bl j' ++ (mxH x9 x12 x13 x14 w m (arrC 5 fun i => slV (f i).s) (arrC 5 fun i => (f i).mc.ifv) (arrC 5 fun i => .pointer (f i).mc.ptr) ((f k.toNat).hb ++ (restBl f k.toNat 5 ++ tl))))) := by rw [keys_append]; exact o3.join o2
  have hB : Aw I (x.step A).2 := hB
  have ej : j'.1 = j.1 := ej
  generalize (x.step A).1 = y at *
  generalize (x.step A).2 = B at *
  have zus := Z.us
  have hmine : x.mine = -1 ∨ (f k.toNat).mc.hold = some x.mine ∨ ((f k.toNat).mc.hold = none ∧ (∀ q, x.mine ∉ S.ch q) ∧ ∀ q, q < 5 → (f q).mc.hold ≠ some x.mine) := by
    unfold Al.mine
    by_cases e : x.what = 3
    · right; left
      rw [hmc, if_pos e]
      show (if x.what = 3 then some x.base else none) = _
      rw [if_pos e]
    · left; rw [if_neg e]
  have perm0 := allXs_perm f hi
  by_cases hd : y.what = 4
  case neg =>
    refine wp_false (ibef hd) ?_
    rcases Z.res with ⟨r1, r2, r3⟩ | ⟨r1, _⟩
    rotate_left
    · exact (hd r1).elim
    have M' : MX I B w m S' (updA f k.toNat { f k.toNat with mc := .al y j' }) (n + 1) := by
      have perm1 := allXs_perm (updA f k.toNat { f k.toNat with mc := .al y j' }) hi
      rw [restXs_upd, updA_same] at perm1
      have pp := perm1.trans perm0.symm
      refine M.step hi hB Z.sl Z.ev hmine (Z.cc M.cc) ⟨by omega, by omega⟩ (by rw [r3, szs_perm pp]; exact M.nL) (by rw [r3]; have := M.bL; omega) (by rw [r3, Z.nR]; have := M.bal; omega) (fun h hh => by rw [r2]; exact M.st h (pp.subset hh)) (pp.nodup_iff.2 M.nd) (M.sls _ hi) (by have := M.ln _ hi; show ((f k.toNat).xs.length : Int) ≤ _; omega) (Z.inv hd) fun b' hb' q hq hqn => ?_
      have hb' : (if y.what = 3 then some y.base else none) = some b' := hb'
      by_cases e : y.what = 3
      · rw [if_pos e] at hb'
        have eb : y.base = b' := by simpa using hb'
        intro hq2
        have nin := (M.mc q hq).nin X hq2
        by_cases e3 : x.what = 3
        · have hown := M.hd k.toNat q hi hq (fun e => hqn e.symm) x.base (by rw [hmc]; show (if x.what = 3 then some x.base else none) = _; rw [if_pos e3])
          -- a bears step ends
          exfalso
          have := Z.acq e
          rcases this with h1 | ⟨q', h1⟩
          · exact nin.2 (by rw [← eb]; exact h1)
          · exact nin.1 q' (by rw [← eb]; exact h1)
        · rcases Z.acq e with h1 | ⟨q', h1⟩
          · exact nin.2 (by rw [← eb]; exact h1)
          · exact nin.1 q' (by rw [← eb]; exact h1)
      · rw [if_neg e] at hb'; cases hb'
    obtain ⟨q1, q2⟩ := mx_back (A := B) (x9 := x9) (x12 := x12) (x13 := x13) (x14 := x14) (w := w) (m := m) (f := f) (tl := tl) (g := []) (a := { f k.toNat with mc := .al y j' }) hi (c12 := arrC 5 fun i => slV (f i).s) (c13 := arrC 5 fun i => (f i).mc.ifv) (c14 := arrC 5 fun i => .pointer (f i).mc.ptr) (arr_keep (g := fun a => slV a.s) rfl) (arr_keep (g := fun a => a.mc.ifv) (by
        show Value.iface ty_p_slab_Alloc (.pointer (some ⟨j'.1, 0, none⟩)) = (f k.toNat).mc.ifv
        rw [hmc, ej]; rfl)) (arr_keep (g := fun a => .pointer a.mc.ptr) (by
        show Value.pointer (some ⟨j'.1, 0, none⟩) = .pointer (f k.toNat).mc.ptr
        rw [hmc, ej]; rfl)) (l := y.bl j' ++ (mxH x9 x12 x13 x14 w m (arrC 5 fun i => slV (f i).s) (arrC 5 fun i => (f i).mc.ifv) (arrC 5 fun i => .pointer (f i).mc.ptr) ((f k.toNat).hb ++ (restBl f k.toNat 5 ++ tl)))) (perm_by fun c d c0 cd ca => by
        show _ = c (mxH _ _ _ _ _ _ _ _ _ (y.bl j' ++ ((f k.toNat).hb ++ (restBl f k.toNat 5 ++ ([] ++ tl)))))
        simp only [mxH, cd, ca, c0]; omega) ok3
    rw [q1]
    exact mx_J3 hx xb M' ⟨by omega, by omega⟩ ⟨us0, by omega, by omega⟩ q2 fun A' tl' u M2 o => h A' S' _ tl' u M2 o
  refine wp_true (ibeq hd) ?_
  have c14 : (x14, oc ty_a5_p_slab_Alloc (arrC 5 fun i => .pointer (f i).mc.ptr)) ∈ y.bl j' ++ (mxH x9 x12 x13 x14 w m (arrC 5 fun i => slV (f i).s) (arrC 5 fun i => (f i).mc.ifv) (arrC 5 fun i => .pointer (f i).mc.ptr) ((f k.toNat).hb ++ (restBl f k.toNat 5 ++ tl))) :=
    List.mem_append_right _ (List.mem_cons_of_mem _ (List.mem_cons_of_mem _ (List.mem_cons_of_mem _ List.mem_cons_self)))
  have ep : (f k.toNat).mc.ptr = some ⟨j'.1, 0, none⟩ := by rw [hmc, ej]; rfl
  refine w_arr (g := fun i => .pointer (f i).mc.ptr) (x := (f k.toNat).mc.ptr) (e := ty_p_slab_Alloc) hB ok3 c14 rfl rfl rfl k0 k1 rfl ?_
  rw [ep]
  refine look_val (x := true) (na_some _) (wp_true rfl ?_)
  refine w_arr (g := fun i => .pointer (f i).mc.ptr) (x := (f k.toNat).mc.ptr) (e := ty_p_slab_Alloc) hB ok3 c14 rfl rfl rfl k0 k1 rfl ?_
  rw [ep]
  refine w_Handle 0 (x := y) hB ok3 rfl ?_
  rcases Z.res with ⟨r1, r2, r3⟩ | ⟨r1, r2, r3, r4, r5, r6, r7, r8, r9⟩
  · refine wp_false (by show ((y.h : Int) != 0) = false; rw [r1]; rfl) ?_
    have perm1 := allXs_perm (updA f k.toNat { f k.toNat with mc := .idle }) hi
    rw [restXs_upd, updA_same] at perm1
    have pp := perm1.trans perm0.symm
    have M' : MX I B w m S' (updA f k.toNat { f k.toNat with mc := .idle }) (n + 1) :=
      M.step hi hB Z.sl Z.ev hmine (Z.cc M.cc) ⟨by omega, by omega⟩ (by rw [r3, szs_perm pp]; exact M.nL) (by rw [r3]; have := M.bL; omega) (by rw [r3, Z.nR]; have := M.bal; omega) (fun h hh => by rw [r2]; exact M.st h (pp.subset hh)) (pp.nodup_iff.2 M.nd) (M.sls _ hi) (by have := M.ln _ hi; show ((f k.toNat).xs.length : Int) ≤ _; omega) trivial fun b' hb' => by cases hb'
    obtain ⟨q1, q2⟩ := own_perm (A := B) (l' := mxH x9 x12 x13 x14 w m (arrC 5 fun i => slV (f i).s) (arrC 5 fun i => (f i).mc.ifv) (arrC 5 fun i => .pointer (f i).mc.ptr) (y.bl j' ++ ((f k.toNat).hb ++ (restBl f k.toNat 5 ++ tl)))) ok3 (perm_by fun c d c0 cd ca => by simp only [cd, ca, c0]; omega)
    rw [q1]
    refine mx_J4 (a := { f k.toNat with mc := .idle }) rfl hB k0 k1 q2 ?_
    obtain ⟨q3, q4⟩ := mx_back (A := B) (x9 := x9) (x12 := x12) (x13 := x13) (x14 := x14) (w := w) (m := m) (f := f) (tl := tl) (g := y.bl j') (a := { f k.toNat with mc := .idle }) hi (c12 := arrC 5 fun i => slV (f i).s) (arr_keep (g := fun a => slV a.s) rfl) rfl rfl (l := mxH x9 x12 x13 x14 w m (arrC 5 fun i => slV (f i).s) (arrC 5 fun i => (updA f k.toNat { f k.toNat with mc := .idle } i).mc.ifv) (arrC 5 fun i => .pointer (updA f k.toNat { f k.toNat with mc := .idle } i).mc.ptr) (y.bl j' ++ ((f k.toNat).hb ++ (restBl f k.toNat 5 ++ tl)))) (perm_by fun c d c0 cd ca => by
      show _ = c (mxH _ _ _ _ _ _ _ _ _ ([] ++ ((f k.toNat).hb ++ (restBl f k.toNat 5 ++ (y.bl j' ++ tl)))))
      simp only [mxH, cd, ca, c0]; omega) q2
    rw [q3]
    exact mx_J3 hx xb M' ⟨by omega, by omega⟩ ⟨us0, by omega, by omega⟩ q4 fun A' tl' u M2 o => h A' S' _ tl' u M2 o
  · refine wp_true (by show ((y.h : Int) != 0) = true; exact bne_iff_ne.2 r3) ?_
    have c12 : (x12, oc ty_a5_s_int (arrC 5 fun i => slV (f i).s)) ∈ y.bl j' ++ (mxH x9 x12 x13 x14 w m (arrC 5 fun i => slV (f i).s) (arrC 5 fun i => (f i).mc.ifv) (arrC 5 fun i => .pointer (f i).mc.ptr) ((f k.toNat).hb ++ (restBl f k.toNat 5 ++ tl))) :=
      List.mem_append_right _ (List.mem_cons_of_mem _ List.mem_cons_self)
    refine w_arr (g := fun i => slV (f i).s) (x := (f k.toNat).s) (e := ty_s_int) hB ok3 c12 rfl rfl rfl k0 k1 rfl ?_
    refine w_newS hB ok3 fun g ok4 => ?_
    obtain ⟨p5, ok5⟩ := own_perm (A := B) (l' := (y.bl j' ++ mxH x9 x12 x13 x14 w m (arrC 5 fun i => slV (f i).s) (arrC 5 fun i => (f i).mc.ifv) (arrC 5 fun i => .pointer (f i).mc.ptr) []) ++ (((g, oc ty_int [.int .i64 y.h]) :: (f k.toNat).hb) ++ (restBl f k.toNat 5 ++ tl))) ok4 (perm_by fun c d c0 cd ca => by simp only [cd, ca, c0]; omega)
    rw [p5]
    have lnk := M.ln _ hi
    refine w_appA (E := eI) elI _ (xs := (f k.toNat).xs) (ys := [y.h]) (t := ⟨some ⟨g, 0, none⟩, 1, 1⟩) hB ok5 ((M.sls _ hi).mono fun p hp => List.mem_cons_of_mem _ hp) ?_ rfl (by simp only [List.length_cons, List.length_nil]; omega) fun s' mid' hs' ok6 => ?_
    · exact cell_row (c := [.int .i64 y.h]) hB ok5 (List.mem_append_right _ (List.mem_append_left _ List.mem_cons_self)) 0 rfl
    obtain ⟨p7, ok7⟩ := own_perm (A := B) (l' := mxH x9 x12 x13 x14 w m (arrC 5 fun i => slV (f i).s) (arrC 5 fun i => (f i).mc.ifv) (arrC 5 fun i => .pointer (f i).mc.ptr) (y.bl j' ++ (mid' ++ (restBl f k.toNat 5 ++ tl)))) ok6 (perm_by fun c d c0 cd ca => by simp only [cd, ca, c0]; omega)
    rw [p7]
    refine w_arrS 1 (g := fun i => slV (f i).s) (e := ty_s_int) hB ok7 rfl rfl rfl rfl k0 k1 rfl ?_
    have e1 : (arrC 5 fun i => slV (f i).s).set k.toNat (.slice s'.a s'.len s'.cap) = arrC 5 fun i => slV (updA f k.toNat ⟨.idle, (f k.toNat).xs ++ [y.h], s', mid'⟩ i).s := arr_upd (g := fun a => slV a.s) (f := f) (i := k.toNat) (a := ⟨.idle, (f k.toNat).xs ++ [y.h], s', mid'⟩)
    rw [e1]
    have ok8 : Ok I H (keys (mxH x9 x12 x13 x14 w m (arrC 5 fun i => slV (updA f k.toNat ⟨.idle, (f k.toNat).xs ++ [y.h], s', mid'⟩ i).s) (arrC 5 fun i => (f i).mc.ifv) (arrC 5 fun i => .pointer (f i).mc.ptr) (y.bl j' ++ (mid' ++ (restBl f k.toNat 5 ++ tl))))) := ok7
    show wp Try.prog _ L (own B (mxH x9 x12 x13 x14 w m (arrC 5 fun i => slV (updA f k.toNat ⟨.idle, (f k.toNat).xs ++ [y.h], s', mid'⟩ i).s) (arrC 5 fun i => (f i).mc.ifv) (arrC 5 fun i => .pointer (f i).mc.ptr) (y.bl j' ++ (mid' ++ (restBl f k.toNat 5 ++ tl)))) H) R
    refine w_arr (g := fun i => slV (updA f k.toNat ⟨.idle, (f k.toNat).xs ++ [y.h], s', mid'⟩ i).s) (x := s') (e := ty_s_int) hB ok8 (List.mem_cons_of_mem _ List.mem_cons_self) rfl rfl rfl k0 k1 (by rw [updA_same]; rfl) ?_
    refine w_Store hB fun hC => ?_
    generalize w64 (w64 (1000 * k) + ((s'.len : Nat) : Int)) = val at *
    have szh := sz_pos IA.cls.1 IA.cls.2
    have inok : B.inOk y.h 7 := by
      refine ⟨by rw [r8, if_pos rfl]; decide, by omega, ?_⟩
      rw [r5]; omega
    obtain ⟨Q, qu⟩ := Qu.store Z.sl (by omega) (h := y.h) (off := 7) (v := val) inok
    generalize B.storeF y.h 7 val = C at *
    have perm1 := allXs_perm (updA f k.toNat ⟨.idle, (f k.toNat).xs ++ [y.h], s', mid'⟩) hi
    rw [restXs_upd, updA_same] at perm1
    have pp : (allXs (updA f k.toNat ⟨.idle, (f k.toNat).xs ++ [y.h], s', mid'⟩) 5).Perm (y.h :: allXs f 5) := by
      refine perm1.trans ?_
      show ((f k.toNat).xs ++ [y.h] ++ restXs f k.toNat 5).Perm _
      rw [List.append_assoc]
      exact List.perm_middle.trans (perm0.symm.cons _)
    have hnew : y.h ∉ allXs f 5 := fun hh => by have := M.st _ hh; rw [r7] at this; cases this
    have E2 : Ev (plOf w m) w m A S C S' x.mine := by
      have E := Z.ev
      have F := Q.ev
      refine ⟨E.fe.trans ⟨F.fe.hd, fun b' b0 b1 b2 b3 => F.fe.lk b' b0 b1 b2 (by omega)⟩, fun b' hb' => E.cl b' hb', fun b' ob hb' => F.ow b' (E.ow b' ob hb') ?_, fun h' hh' => by rw [Q.st]; exact E.st h' hh', F.fa.trans E.fa, F.rl.trans E.rl, fun i' hi' => by rw [F.rw i' hi']; exact E.rw i' hi', by rw [qu]; have := E.us; omega⟩
      intro e; have := (E.ow b' ob hb').1
      have := Z.sl.blk b' this; omega
    have M' : MX I C w m S' (updA f k.toNat ⟨.idle, (f k.toNat).xs ++ [y.h], s', mid'⟩) (n + 1) := by
      have szs1 : szs (allXs (updA f k.toNat ⟨.idle, (f k.toNat).xs ++ [y.h], s', mid'⟩) 5) = sizeF x.cls + szs (allXs f 5) := by rw [szs_perm pp, szs_cons, r5]
      have mnL := M.nL
      have mbL := M.bL
      have mbal := M.bal
      have znR := Z.nR
      refine M.step hi hC Q.sl E2 hmine (Q.cc (Z.cc M.cc)) ⟨by omega, by omega⟩ (by rw [Q.nL, r9, szs1, mnL]; omega) (by rw [Q.nL, r9]; omega) (by rw [Q.nL, Q.nR, r9]; omega) (fun h' hh' => ?_) (pp.nodup_iff.2 (List.nodup_cons.2 ⟨hnew, M.nd⟩)) hs' (by rw [List.length_append]; show (((f k.toNat).xs.length + 1 : Nat) : Int) ≤ _; omega) trivial fun b' hb' => by cases hb'
      rw [Q.st, r8]
      rcases List.mem_cons.1 (pp.subset hh') with e | e
      · rw [if_pos e]
      · rw [if_neg (fun e2 => hnew (by rw [← e2]; exact e))]; exact M.st h' e
    refine mx_J4 (a := ⟨.idle, (f k.toNat).xs ++ [y.h], s', mid'⟩) rfl hC k0 k1 ok8 ?_
    obtain ⟨q3, q4⟩ := mx_back (A := C) (x9 := x9) (x12 := x12) (x13 := x13) (x14 := x14) (w := w) (m := m) (f := f) (tl := tl) (g := y.bl j') (a := ⟨.idle, (f k.toNat).xs ++ [y.h], s', mid'⟩) hi rfl rfl rfl (l := mxH x9 x12 x13 x14 w m (arrC 5 fun i => slV (updA f k.toNat ⟨.idle, (f k.toNat).xs ++ [y.h], s', mid'⟩ i).s) (arrC 5 fun i => (updA f k.toNat ⟨.idle, (f k.toNat).xs ++ [y.h], s', mid'⟩ i).mc.ifv) (arrC 5 fun i => .pointer (updA f k.toNat ⟨.idle, (f k.toNat).xs ++ [y.h], s', mid'⟩ i).mc.ptr) (y.bl j' ++ (mid' ++ (restBl f k.toNat 5 ++ tl)))) (perm_by fun c d c0 cd ca => by
      show _ = c (mxH _ _ _ _ _ _ _ _ _ ([] ++ (mid' ++ (restBl f k.toNat 5 ++ (y.bl j' ++ tl)))))
      simp only [mxH, cd, ca, c0]; omega) ok8
    rw [q3]
    exact mx_J3 hx xb M' ⟨by omega, by omega⟩ ⟨us0, by omega, by omega⟩ q4 fun A' tl' u M2 o => h A' S' _ tl' u M2 o
end
end Go.Proofs.Ytfphgiipekkgdaa

set_option linter.unusedVariables false
set_option maxRecDepth 10000
namespace Go.Proofs.Ytfphgiipekkgdaa
open Go Go.Fw
/- magpie/magpielaw12.HazardWords -/
noncomputable def t_magpielaw12_HazardWords (p0 : Int) (p1 : Int) (p2 : Int) (p3 : Int) : Tree :=
  .qcall f_magpielaw00_Place [(.int .i64 p0), (.int .i64 64)] (.one (.leaf (.int .i64))) fun x16 =>
  .qcall f_magpielaw00_Place [(.int .i64 p1), (.int .i64 1000)] (.one (.leaf (.int .i64))) fun x19 =>
  .qcall f_hazard_Raw [(.int .i64 (w64 (1 + x16))), (.int .i64 x19)] (.tup [(.agg [(.int .i64), (.int .i64)]), (.leaf (.int .i64))]) fun x23 =>
  .newP (.cells #[(.int .i64 0), (.int .i64 0)] ty_hazard_Table) fun x11 =>
  .stA x11 [(.int .i64 x23.1.1), (.int .i64 x23.1.2.1)] <|
  .qcall f_magpielaw00_Place [(.int .i64 p2), (.int .i64 (w64 (1 + x16)))] (.one (.leaf (.int .i64))) fun x28 =>
  .qcall f_magpielaw00_Place [(.int .i64 p3), (.int .i64 2)] (.one (.leaf (.int .i64))) fun x30 =>
  bif ((x23.2.1 : Int) == (w64 ((w64 (1 + x16)) * 2))) then (
    .ldA x11 [(.int .i64), (.int .i64)] fun x36 =>
    .qcall f_hazard_Table_Word [(.agg #[(.int .i64 x36.1), (.int .i64 x36.2.1)]), (.int .i64 x28), (.int .i64 x30)] (.one (.leaf (.int .i64))) fun x39 =>
    bif ((x39 : Int) == (w64 ((w64 (x19 + (w64 (x28 * 2)))) + x30))) then (
      .ldA x11 [(.int .i64), (.int .i64)] fun x49 =>
      .qcall f_hazard_Table_Word [(.agg #[(.int .i64 x49.1), (.int .i64 x49.2.1)]), (.int .i64 (w64 ((w64 (1 + x16)) - 1))), (.int .i64 1)] (.one (.leaf (.int .i64))) fun x52 =>
      bif ((x52 : Int) == (w64 ((w64 (x19 + x23.2.1)) - 1))) then (
        .call f_magpielaw12_awake [] (.one (.leaf .bool)) fun x60 =>
        .ret (.bool x60))
      else (
        .ret (.bool false)))
    else (
      .ret (.bool false)))
  else (
    .ret (.bool false))
theorem t_magpielaw12_HazardWords_eq (p0 : Int) (p1 : Int) (p2 : Int) (p3 : Int) : funcTree Try.prog { quiet := [16, 22, 23, 34, 35, 48, 49, 53, 57, 58, 59, 62, 105], quietTmp := true, fncs := [], ifcs := [] } Try.f7 [(.int .i64 p0), (.int .i64 p1), (.int .i64 p2), (.int .i64 p3)] = t_magpielaw12_HazardWords p0 p1 p2 p3 := by kernel_rfl
theorem t_magpielaw12_HazardWords_spec {p0 : Int} {p1 : Int} {p2 : Int} {p3 : Int} {H : Heap} {R : Value → Heap → Prop} (h : ∀ L, wp Try.prog (t_magpielaw12_HazardWords p0 p1 p2 p3) L H R) : SpecF Try.prog f_magpielaw12_HazardWords #[(.int .i64 p0), (.int .i64 p1), (.int .i64 p2), (.int .i64 p3)] H R :=
  spec_of_tree (cfg := { quiet := [16, 22, 23, 34, 35, 48, 49, 53, 57, 58, 59, 62, 105], quietTmp := true, fncs := [], ifcs := [] }) Try.func7 fun L => (t_magpielaw12_HazardWords_eq p0 p1 p2 p3).symm ▸ h L

/- magpie/magpielaw12.HazardOthers -/
@[reducible] def t_magpielaw12_HazardOthers_L2_sh : List Sh1 := [(.leaf (.int .i64)), (.leaf (.int .i64))]
noncomputable def t_magpielaw12_HazardOthers_L2 (x20 : HL Sh1.T [(.leaf .ptr), (.agg [(.int .i64), (.int .i64), (.int .i64), (.int .i64), (.int .i64)]), (.agg [(.int .i64), (.int .i64)]), (.leaf .slice)]) (x8 : Addr) (y1 : HL Sh1.T [(.leaf (.int .i64))]) (y2 : HL Sh1.T t_magpielaw12_HazardOthers_L2_sh) : Tree :=
  bif (decide ((y2.2.1 : Int) < 4)) then (
    .look (opS Try.prog (.indexAddr ty_s_int (.tmp 0) (.tmp 1)) ty_unit [(.slice x20.2.2.2.1.a x20.2.2.2.1.len x20.2.2.2.1.cap), (.int .i64 y2.2.1)]) (.one (.leaf .addr)) fun x55 =>
    .ld x55 (.int .i64) fun x56 =>
    bif ((y2.1 : Int) == x56) then (
      .again 640 [(.int .i64 0), (.int .i64 (w64 (y2.2.1 + 1)))])
    else (
      .again 640 [(.int .i64 y2.1), (.int .i64 (w64 (y2.2.1 + 1)))]))
  else (
    .ldA x8 [(.int .i64), (.int .i64)] fun x59 =>
    .qcall f_hazard_Table_Word [(.agg #[(.int .i64 x59.1), (.int .i64 x59.2.1)]), (.int .i64 (w64 (Int.tdiv y1.1 2))), (.int .i64 (Int.tmod y1.1 2))] (.one (.leaf (.int .i64))) fun x64 =>
    .call f_arena_Arena_SetRaw [(.pointer x20.1), (.int .i64 x64), (.int .i64 y2.1)] .unit fun _ =>
    .again 385 [(.int .i64 (w64 (y1.1 + 1)))])

@[reducible] def t_magpielaw12_HazardOthers_L3_sh : List Sh1 := [(.leaf .bool), (.leaf (.int .i64))]
noncomputable def t_magpielaw12_HazardOthers_L3 (x20 : HL Sh1.T [(.leaf .ptr), (.agg [(.int .i64), (.int .i64), (.int .i64), (.int .i64), (.int .i64)]), (.agg [(.int .i64), (.int .i64)]), (.leaf .slice)]) (y2 : HL Sh1.T t_magpielaw12_HazardOthers_L3_sh) : Tree :=
  bif (decide ((y2.2.1 : Int) < 4)) then (
    .look (opS Try.prog (.indexAddr ty_s_int (.tmp 0) (.tmp 1)) ty_unit [(.slice x20.2.2.2.1.a x20.2.2.2.1.len x20.2.2.2.1.cap), (.int .i64 y2.2.1)]) (.one (.leaf .addr)) fun x93 =>
    .ld x93 (.int .i64) fun x94 =>
    .call f_arena_Arena_State [(.pointer x20.1), (.int .i64 x94)] (.one (.leaf (.int .i64))) fun x95 =>
    bif ((x95 : Int) != 0) then (
      .ret (.bool false))
    else (
      .again 1216 [(.bool y2.1), (.int .i64 (w64 (y2.2.1 + 1)))]))
  else (
    .call f_arena_Arena_Fault [(.pointer x20.1)] (.one (.leaf .bool)) fun x98 =>
    bif (!x98) then (
      .call f_magpielaw12_awake [] (.one (.leaf .bool)) fun x101 =>
      .ret (.bool x101))
    else (
      .ret (.bool false)))

noncomputable def t_magpielaw12_HazardOthers_J7 (x20 : HL Sh1.T [(.leaf .ptr), (.agg [(.int .i64), (.int .i64), (.int .i64), (.int .i64), (.int .i64)]), (.agg [(.int .i64), (.int .i64)]), (.leaf .slice)]) (x7 : Addr) (x8 : Addr) : Tree :=
  .ldA x8 [(.int .i64), (.int .i64)] fun x67 =>
  .ldA x7 [(.int .i64), (.int .i64), (.int .i64), (.int .i64), (.int .i64)] fun x68 =>
  .call f_hazard_NewScan [(.agg #[(.int .i64 x67.1), (.int .i64 x67.2.1)]), (.agg #[(.int .i64 x68.1), (.int .i64 x68.2.1), (.int .i64 x68.2.2.1), (.int .i64 x68.2.2.2.1), (.int .i64 x68.2.2.2.2.1)]), (.int .i64 0), (.slice x20.2.2.2.1.a x20.2.2.2.1.len x20.2.2.2.1.cap)] (.one (.leaf .ptr)) fun x70 =>
  .look (opS Try.prog (.binOp .eql ty_p_hazard_Scan (.tmp 0) (.const (.pointer none)) ty_p_hazard_Scan) ty_bool [(.pointer x70)]) (.one (.leaf .bool)) fun x72 =>
  bif x72 then (
    .ret (.bool false))
  else (
    .call f_magpielaw12_run [(.pointer x20.1), (.iface ty_p_hazard_Scan (.pointer x70))] (.one (.leaf .bool)) fun x77 =>
    bif (!x77) then (
      .ret (.bool false))
    else (
      .call f_hazard_Scan_Left [(.pointer x70)] (.one (.leaf .slice)) fun x82 =>
      bif ((((x82.len : Nat) : Int) : Int) != 0) then (
        .ret (.bool false))
      else (
        .loop 1216 t_magpielaw12_HazardOthers_L3_sh [(.bool false), (.int .i64 0)] (t_magpielaw12_HazardOthers_L3 x20))))

@[reducible] def t_magpielaw12_HazardOthers_L1_sh : List Sh1 := [(.leaf (.int .i64))]
noncomputable def t_magpielaw12_HazardOthers_L1 (p1 : Sl) (x16 : Int) (x20 : HL Sh1.T [(.leaf .ptr), (.agg [(.int .i64), (.int .i64), (.int .i64), (.int .i64), (.int .i64)]), (.agg [(.int .i64), (.int .i64)]), (.leaf .slice)]) (x7 : Addr) (x8 : Addr) (y1 : HL Sh1.T t_magpielaw12_HazardOthers_L1_sh) : Tree :=
  bif (decide ((y1.1 : Int) < ((p1.len : Nat) : Int))) then (
    bif (decide ((y1.1 : Int) < (w64 ((w64 (1 + x16)) * 2)))) then (
      .look (opS Try.prog (.indexAddr ty_s_int (.tmp 0) (.tmp 1)) ty_unit [(.slice p1.a p1.len p1.cap), (.int .i64 y1.1)]) (.one (.leaf .addr)) fun x46 =>
      .ld x46 (.int .i64) fun x47 =>
      .loop 640 t_magpielaw12_HazardOthers_L2_sh [(.int .i64 x47), (.int .i64 0)] (t_magpielaw12_HazardOthers_L2 x20 x8 y1))
    else (
      t_magpielaw12_HazardOthers_J7 x20 x7 x8))
  else (
    t_magpielaw12_HazardOthers_J7 x20 x7 x8)
noncomputable def t_magpielaw12_HazardOthers (p0 : Int) (p1 : Sl) : Tree :=
  .qcall f_magpielaw00_Place [(.int .i64 p0), (.int .i64 6)] (.one (.leaf (.int .i64))) fun x16 =>
  .call f_magpielaw12_make1 [(.int .i64 (w64 (1 + x16))), (.int .i64 4)] (.tup [(.leaf .ptr), (.agg [(.int .i64), (.int .i64), (.int .i64), (.int .i64), (.int .i64)]), (.agg [(.int .i64), (.int .i64)]), (.leaf .slice)]) fun x20 =>
  .newP (.cells #[(.int .i64 0), (.int .i64 0), (.int .i64 0), (.int .i64 0), (.int .i64 0)] ty_free_Place) fun x7 =>
  .newP (.cells #[(.int .i64 0), (.int .i64 0)] ty_hazard_Table) fun x8 =>
  .stA x7 [(.int .i64 x20.2.1.1), (.int .i64 x20.2.1.2.1), (.int .i64 x20.2.1.2.2.1), (.int .i64 x20.2.1.2.2.2.1), (.int .i64 x20.2.1.2.2.2.2.1)] <|
  .stA x8 [(.int .i64 x20.2.2.1.1), (.int .i64 x20.2.2.1.2.1)] <|
  .look (opS Try.prog (.binOp .eql ty_p_arena_Arena (.tmp 0) (.const (.pointer none)) ty_p_arena_Arena) ty_bool [(.pointer x20.1)]) (.one (.leaf .bool)) fun x26 =>
  bif x26 then (
    .ret (.bool false))
  else (
    bif ((((x20.2.2.2.1.len : Nat) : Int) : Int) != 4) then (
      .ret (.bool false))
    else (
      .loop 385 t_magpielaw12_HazardOthers_L1_sh [(.int .i64 0)] (t_magpielaw12_HazardOthers_L1 p1 x16 x20 x7 x8)))
theorem t_magpielaw12_HazardOthers_eq (p0 : Int) (p1 : Sl) : funcTree Try.prog { quiet := [16, 22, 23, 34, 35, 48, 49, 53, 57, 58, 59, 62, 105], quietTmp := true, fncs := [], ifcs := [] } Try.f8 [(.int .i64 p0), (.slice p1.a p1.len p1.cap)] = t_magpielaw12_HazardOthers p0 p1 := by kernel_rfl
theorem t_magpielaw12_HazardOthers_spec {p0 : Int} {p1 : Sl} {H : Heap} {R : Value → Heap → Prop} (h : ∀ L, wp Try.prog (t_magpielaw12_HazardOthers p0 p1) L H R) : SpecF Try.prog f_magpielaw12_HazardOthers #[(.int .i64 p0), (.slice p1.a p1.len p1.cap)] H R :=
  spec_of_tree (cfg := { quiet := [16, 22, 23, 34, 35, 48, 49, 53, 57, 58, 59, 62, 105], quietTmp := true, fncs := [], ifcs := [] }) Try.func8 fun L => (t_magpielaw12_HazardOthers_eq p0 p1).symm ▸ h L

/- magpie/magpielaw12.HazardTwice -/
noncomputable def t_magpielaw12_HazardTwice_J1 (x30 : HL Sh1.T [(.leaf .ptr), (.agg [(.int .i64), (.int .i64), (.int .i64), (.int .i64), (.int .i64)]), (.agg [(.int .i64), (.int .i64)]), (.leaf .slice)]) (x13 : Addr) (x48 : Int) (y2 : HL Sh1.T [(.leaf .bool), (.leaf .slice), (.leaf (.int .i64))]) (x86 : Sl) : Tree :=
  bif (decide ((y2.2.2.1 : Int) < (w64 (1 + x48)))) then (
    .ldA x13 [(.int .i64), (.int .i64)] fun x131 =>
    .qcall f_hazard_Table_Word [(.agg #[(.int .i64 x131.1), (.int .i64 x131.2.1)]), (.int .i64 y2.2.2.1), (.int .i64 (Int.tmod y2.2.2.1 2))] (.one (.leaf (.int .i64))) fun x135 =>
    .call f_arena_Arena_SetRaw [(.pointer x30.1), (.int .i64 x135), (.int .i64 0)] .unit fun _ =>
    .again 832 [(.bool y2.1), (.slice x86.a x86.len x86.cap), (.int .i64 (w64 (y2.2.2.1 + 1)))])
  else (
    .again 832 [(.bool y2.1), (.slice x86.a x86.len x86.cap), (.int .i64 (w64 (y2.2.2.1 + 1)))])

@[reducible] def t_magpielaw12_HazardTwice_L2_sh : List Sh1 := [(.leaf .bool), (.leaf .slice), (.leaf (.int .i64))]
noncomputable def t_magpielaw12_HazardTwice_L2 (x25 : Int) (x30 : HL Sh1.T [(.leaf .ptr), (.agg [(.int .i64), (.int .i64), (.int .i64), (.int .i64), (.int .i64)]), (.agg [(.int .i64), (.int .i64)]), (.leaf .slice)]) (x12 : Addr) (x13 : Addr) (x45 : Int) (x48 : Int) (y2 : HL Sh1.T t_magpielaw12_HazardTwice_L2_sh) : Tree :=
  bif (decide ((y2.2.2.1 : Int) ≤ (w64 (1 + x48)))) then (
    .ldA x13 [(.int .i64), (.int .i64)] fun x72 =>
    .ldA x12 [(.int .i64), (.int .i64), (.int .i64), (.int .i64), (.int .i64)] fun x73 =>
    .call f_hazard_NewScan [(.agg #[(.int .i64 x72.1), (.int .i64 x72.2.1)]), (.agg #[(.int .i64 x73.1), (.int .i64 x73.2.1), (.int .i64 x73.2.2.1), (.int .i64 x73.2.2.2.1), (.int .i64 x73.2.2.2.2.1)]), (.int .i64 0), (.slice y2.2.1.a y2.2.1.len y2.2.1.cap)] (.one (.leaf .ptr)) fun x75 =>
    .look (opS Try.prog (.binOp .eql ty_p_hazard_Scan (.tmp 0) (.const (.pointer none)) ty_p_hazard_Scan) ty_bool [(.pointer x75)]) (.one (.leaf .bool)) fun x77 =>
    bif x77 then (
      .ret (.bool false))
    else (
      .call f_magpielaw12_run [(.pointer x30.1), (.iface ty_p_hazard_Scan (.pointer x75))] (.one (.leaf .bool)) fun x82 =>
      bif (!x82) then (
        .ret (.bool false))
      else (
        .call f_hazard_Scan_Left [(.pointer x75)] (.one (.leaf .slice)) fun x86 =>
        bif (!(((((x86.len : Nat) : Int) : Int) == 1) == (decide ((y2.2.2.1 : Int) < (w64 (1 + x48)))))) then (
          .ret (.bool false))
        else (
          bif (decide ((((x86.len : Nat) : Int) : Int) > 1)) then (
            .ret (.bool false))
          else (
            bif ((((x86.len : Nat) : Int) : Int) == 1) then (
              .look (opS Try.prog (.indexAddr ty_s_int (.tmp 0) (.const (.int .i64 0))) ty_unit [(.slice x86.a x86.len x86.cap)]) (.one (.leaf .addr)) fun x105 =>
              .ld x105 (.int .i64) fun x106 =>
              .look (opS Try.prog (.indexAddr ty_s_int (.tmp 0) (.tmp 1)) ty_unit [(.slice x30.2.2.2.1.a x30.2.2.2.1.len x30.2.2.2.1.cap), (.int .i64 x45)]) (.one (.leaf .addr)) fun x109 =>
              .ld x109 (.int .i64) fun x110 =>
              bif ((x106 : Int) != x110) then (
                .ret (.bool false))
              else (
                .look (opS Try.prog (.indexAddr ty_s_int (.tmp 0) (.tmp 1)) ty_unit [(.slice x30.2.2.2.1.a x30.2.2.2.1.len x30.2.2.2.1.cap), (.int .i64 x45)]) (.one (.leaf .addr)) fun x118 =>
                .ld x118 (.int .i64) fun x119 =>
                .call f_arena_Arena_State [(.pointer x30.1), (.int .i64 x119)] (.one (.leaf (.int .i64))) fun x120 =>
                bif (!(((x120 : Int) == 0) == ((y2.2.2.1 : Int) == (w64 (1 + x48))))) then (
                  .ret (.bool false))
                else (
                  t_magpielaw12_HazardTwice_J1 x30 x13 x48 y2 x86)))
            else (
              .look (opS Try.prog (.indexAddr ty_s_int (.tmp 0) (.tmp 1)) ty_unit [(.slice x30.2.2.2.1.a x30.2.2.2.1.len x30.2.2.2.1.cap), (.int .i64 x45)]) (.one (.leaf .addr)) fun x118 =>
              .ld x118 (.int .i64) fun x119 =>
              .call f_arena_Arena_State [(.pointer x30.1), (.int .i64 x119)] (.one (.leaf (.int .i64))) fun x120 =>
              bif (!(((x120 : Int) == 0) == ((y2.2.2.1 : Int) == (w64 (1 + x48))))) then (
                .ret (.bool false))
              else (
                t_magpielaw12_HazardTwice_J1 x30 x13 x48 y2 x86)))))))
  else (
    .call f_arena_Arena_Fault [(.pointer x30.1)] (.one (.leaf .bool)) fun x138 =>
    bif (!x138) then (
      .call f_arena_Arena_Count [(.pointer x30.1)] (.one (.agg [(.int .i64), (.int .i64), (.int .i64), (.int .i64)])) fun x142 =>
      bif ((x142.2.2.2.1 : Int) == (w64 (8 * (w64 (1 + x25))))) then (
        .call f_magpielaw12_awake [] (.one (.leaf .bool)) fun x149 =>
        .ret (.bool x149))
      else (
        .ret (.bool false)))
    else (
      .ret (.bool false)))

@[reducible] def t_magpielaw12_HazardTwice_L1_sh : List Sh1 := [(.leaf (.int .i64))]
noncomputable def t_magpielaw12_HazardTwice_L1 (x25 : Int) (x30 : HL Sh1.T [(.leaf .ptr), (.agg [(.int .i64), (.int .i64), (.int .i64), (.int .i64), (.int .i64)]), (.agg [(.int .i64), (.int .i64)]), (.leaf .slice)]) (x12 : Addr) (x13 : Addr) (x45 : Int) (x48 : Int) (y1 : HL Sh1.T t_magpielaw12_HazardTwice_L1_sh) : Tree :=
  bif (decide ((y1.1 : Int) < (w64 (1 + x48)))) then (
    .ldA x13 [(.int .i64), (.int .i64)] fun x56 =>
    .qcall f_hazard_Table_Word [(.agg #[(.int .i64 x56.1), (.int .i64 x56.2.1)]), (.int .i64 y1.1), (.int .i64 (Int.tmod y1.1 2))] (.one (.leaf (.int .i64))) fun x60 =>
    .look (opS Try.prog (.indexAddr ty_s_int (.tmp 0) (.tmp 1)) ty_unit [(.slice x30.2.2.2.1.a x30.2.2.2.1.len x30.2.2.2.1.cap), (.int .i64 x45)]) (.one (.leaf .addr)) fun x63 =>
    .ld x63 (.int .i64) fun x64 =>
    .call f_arena_Arena_SetRaw [(.pointer x30.1), (.int .i64 x60), (.int .i64 x64)] .unit fun _ =>
    .again 512 [(.int .i64 (w64 (y1.1 + 1)))])
  else (
    .loop 832 t_magpielaw12_HazardTwice_L2_sh [(.bool false), (.slice x30.2.2.2.1.a x30.2.2.2.1.len x30.2.2.2.1.cap), (.int .i64 0)] (t_magpielaw12_HazardTwice_L2 x25 x30 x12 x13 x45 x48))
noncomputable def t_magpielaw12_HazardTwice (p0 : Int) (p1 : Int) (p2 : Int) (p3 : Int) : Tree :=
  .qcall f_magpielaw00_Place [(.int .i64 p0), (.int .i64 6)] (.one (.leaf (.int .i64))) fun x22 =>
  .qcall f_magpielaw00_Place [(.int .i64 p1), (.int .i64 10)] (.one (.leaf (.int .i64))) fun x25 =>
  .call f_magpielaw12_make1 [(.int .i64 (w64 (1 + x22))), (.int .i64 (w64 (1 + x25)))] (.tup [(.leaf .ptr), (.agg [(.int .i64), (.int .i64), (.int .i64), (.int .i64), (.int .i64)]), (.agg [(.int .i64), (.int .i64)]), (.leaf .slice)]) fun x30 =>
  .newP (.cells #[(.int .i64 0), (.int .i64 0), (.int .i64 0), (.int .i64 0), (.int .i64 0)] ty_free_Place) fun x12 =>
  .newP (.cells #[(.int .i64 0), (.int .i64 0)] ty_hazard_Table) fun x13 =>
  .stA x12 [(.int .i64 x30.2.1.1), (.int .i64 x30.2.1.2.1), (.int .i64 x30.2.1.2.2.1), (.int .i64 x30.2.1.2.2.2.1), (.int .i64 x30.2.1.2.2.2.2.1)] <|
  .stA x13 [(.int .i64 x30.2.2.1.1), (.int .i64 x30.2.2.1.2.1)] <|
  .look (opS Try.prog (.binOp .eql ty_p_arena_Arena (.tmp 0) (.const (.pointer none)) ty_p_arena_Arena) ty_bool [(.pointer x30.1)]) (.one (.leaf .bool)) fun x36 =>
  bif x36 then (
    .ret (.bool false))
  else (
    bif ((((x30.2.2.2.1.len : Nat) : Int) : Int) != (w64 (1 + x25))) then (
      .ret (.bool false))
    else (
      .qcall f_magpielaw00_Place [(.int .i64 p2), (.int .i64 (w64 (1 + x25)))] (.one (.leaf (.int .i64))) fun x45 =>
      .qcall f_magpielaw00_Place [(.int .i64 p3), (.int .i64 (w64 (1 + x22)))] (.one (.leaf (.int .i64))) fun x48 =>
      .loop 512 t_magpielaw12_HazardTwice_L1_sh [(.int .i64 0)] (t_magpielaw12_HazardTwice_L1 x25 x30 x12 x13 x45 x48)))
theorem t_magpielaw12_HazardTwice_eq (p0 : Int) (p1 : Int) (p2 : Int) (p3 : Int) : funcTree Try.prog { quiet := [16, 22, 23, 34, 35, 48, 49, 53, 57, 58, 59, 62, 105], quietTmp := true, fncs := [], ifcs := [] } Try.f9 [(.int .i64 p0), (.int .i64 p1), (.int .i64 p2), (.int .i64 p3)] = t_magpielaw12_HazardTwice p0 p1 p2 p3 := by kernel_rfl
theorem t_magpielaw12_HazardTwice_spec {p0 : Int} {p1 : Int} {p2 : Int} {p3 : Int} {H : Heap} {R : Value → Heap → Prop} (h : ∀ L, wp Try.prog (t_magpielaw12_HazardTwice p0 p1 p2 p3) L H R) : SpecF Try.prog f_magpielaw12_HazardTwice #[(.int .i64 p0), (.int .i64 p1), (.int .i64 p2), (.int .i64 p3)] H R :=
  spec_of_tree (cfg := { quiet := [16, 22, 23, 34, 35, 48, 49, 53, 57, 58, 59, 62, 105], quietTmp := true, fncs := [], ifcs := [] }) Try.func9 fun L => (t_magpielaw12_HazardTwice_eq p0 p1 p2 p3).symm ▸ h L

/- magpie/magpielaw12.HazardScans -/
@[reducible] def t_magpielaw12_HazardScans_L3_sh : List Sh1 := [(.leaf .bool), (.leaf (.int .i64)), (.leaf (.int .i64))]
noncomputable def t_magpielaw12_HazardScans_L3 (x26 : Int) (x29 : Int) (x33 : HL Sh1.T [(.leaf .ptr), (.agg [(.int .i64), (.int .i64), (.int .i64), (.int .i64), (.int .i64)]), (.agg [(.int .i64), (.int .i64)]), (.leaf .slice)]) (x12 : Addr) (x15 : Addr) (x123 : Sl) (y3 : HL Sh1.T t_magpielaw12_HazardScans_L3_sh) : Tree :=
  bif (decide ((y3.2.2.1 : Int) < x29)) then (
    .look (opS Try.prog (.indexAddr ty_a20_bool (.tmp 0) (.tmp 1)) ty_unit [(.pointer (some x15)), (.int .i64 y3.2.2.1)]) (.one (.leaf .addr)) fun x130 =>
    .ld x130 .bool fun x131 =>
    bif x131 then (
      bif (decide ((y3.2.1 : Int) ≥ ((x123.len : Nat) : Int))) then (
        .ret (.bool false))
      else (
        .look (opS Try.prog (.indexAddr ty_s_int (.tmp 0) (.tmp 1)) ty_unit [(.slice x123.a x123.len x123.cap), (.int .i64 y3.2.1)]) (.one (.leaf .addr)) fun x139 =>
        .ld x139 (.int .i64) fun x140 =>
        .look (opS Try.prog (.indexAddr ty_s_int (.tmp 0) (.tmp 1)) ty_unit [(.slice x33.2.2.2.1.a x33.2.2.2.1.len x33.2.2.2.1.cap), (.int .i64 y3.2.2.1)]) (.one (.leaf .addr)) fun x143 =>
        .ld x143 (.int .i64) fun x144 =>
        bif ((x140 : Int) != x144) then (
          .ret (.bool false))
        else (
          .look (opS Try.prog (.indexAddr ty_s_int (.tmp 0) (.tmp 1)) ty_unit [(.slice x33.2.2.2.1.a x33.2.2.2.1.len x33.2.2.2.1.cap), (.int .i64 y3.2.2.1)]) (.one (.leaf .addr)) fun x151 =>
          .ld x151 (.int .i64) fun x152 =>
          .call f_arena_Arena_State [(.pointer x33.1), (.int .i64 x152)] (.one (.leaf (.int .i64))) fun x153 =>
          bif ((x153 : Int) != 2) then (
            .ret (.bool false))
          else (
            .again 1792 [(.bool y3.1), (.int .i64 (w64 (y3.2.1 + 1))), (.int .i64 (w64 (y3.2.2.1 + 1)))]))))
    else (
      .look (opS Try.prog (.indexAddr ty_s_int (.tmp 0) (.tmp 1)) ty_unit [(.slice x33.2.2.2.1.a x33.2.2.2.1.len x33.2.2.2.1.cap), (.int .i64 y3.2.2.1)]) (.one (.leaf .addr)) fun x161 =>
      .ld x161 (.int .i64) fun x162 =>
      .call f_arena_Arena_State [(.pointer x33.1), (.int .i64 x162)] (.one (.leaf (.int .i64))) fun x163 =>
      bif ((x163 : Int) != 0) then (
        .ret (.bool false))
      else (
        .again 1792 [(.bool y3.1), (.int .i64 y3.2.1), (.int .i64 (w64 (y3.2.2.1 + 1)))])))
  else (
    bif ((y3.2.1 : Int) == ((x123.len : Nat) : Int)) then (
      .ldA x12 [(.int .i64), (.int .i64), (.int .i64), (.int .i64), (.int .i64)] fun x171 =>
      .call f_free_List [(.pointer x33.1), (.agg #[(.int .i64 x171.1), (.int .i64 x171.2.1), (.int .i64 x171.2.2.1), (.int .i64 x171.2.2.2.1), (.int .i64 x171.2.2.2.2.1)]), (.int .i64 (w64 ((w64 (1 + x26)) - 1))), (.int .i64 0)] (.one (.leaf .slice)) fun x174 =>
      bif ((((x174.len : Nat) : Int) : Int) == (w64 (x29 - y3.2.1))) then (
        .call f_arena_Arena_Fault [(.pointer x33.1)] (.one (.leaf .bool)) fun x183 =>
        bif (!x183) then (
          .call f_magpielaw12_awake [] (.one (.leaf .bool)) fun x187 =>
          .ret (.bool x187))
        else (
          .ret (.bool false)))
      else (
        .ret (.bool false)))
    else (
      .ret (.bool false)))

@[reducible] def t_magpielaw12_HazardScans_L2_sh : List Sh1 := [(.leaf .bool), (.leaf (.int .i64))]
noncomputable def t_magpielaw12_HazardScans_L2 (x26 : Int) (x29 : Int) (x33 : HL Sh1.T [(.leaf .ptr), (.agg [(.int .i64), (.int .i64), (.int .i64), (.int .i64), (.int .i64)]), (.agg [(.int .i64), (.int .i64)]), (.leaf .slice)]) (x12 : Addr) (x15 : Addr) (x93 : Option Addr) (x97 : Int) (y2 : HL Sh1.T t_magpielaw12_HazardScans_L2_sh) : Tree :=
  bif (decide (((w64 (y2.2.1 + 1)) : Int) < (w64 ((w64 (1 + x26)) * 2)))) then (
    .call f_hazard_Scan_Step [(.pointer x93), (.pointer x33.1)] (.one (.leaf .bool)) fun x107 =>
    bif x107 then (
      .ret (.bool false))
    else (
      .again 1216 [(.bool y2.1), (.int .i64 (w64 (y2.2.1 + 1)))]))
  else (
    .call f_magpielaw12_run [(.pointer x33.1), (.iface ty_p_hazard_Scan (.pointer x93))] (.one (.leaf .bool)) fun x111 =>
    bif (!x111) then (
      .ret (.bool false))
    else (
      .call f_arena_Arena_Uses [(.pointer x33.1)] (.one (.leaf (.int .i64))) fun x115 =>
      bif (decide ((x115 : Int) < (w64 (x97 + (w64 ((w64 (1 + x26)) * 2)))))) then (
        .ret (.bool false))
      else (
        .call f_hazard_Scan_Left [(.pointer x93)] (.one (.leaf .slice)) fun x123 =>
        .loop 1792 t_magpielaw12_HazardScans_L3_sh [(.bool y2.1), (.int .i64 0), (.int .i64 0)] (t_magpielaw12_HazardScans_L3 x26 x29 x33 x12 x15 x123))))

noncomputable def t_magpielaw12_HazardScans_J11 (x26 : Int) (x29 : Int) (x33 : HL Sh1.T [(.leaf .ptr), (.agg [(.int .i64), (.int .i64), (.int .i64), (.int .i64), (.int .i64)]), (.agg [(.int .i64), (.int .i64)]), (.leaf .slice)]) (x12 : Addr) (x13 : Addr) (x15 : Addr) : Tree :=
  .ldA x13 [(.int .i64), (.int .i64)] fun x87 =>
  .ldA x12 [(.int .i64), (.int .i64), (.int .i64), (.int .i64), (.int .i64)] fun x88 =>
  .act (opS Try.prog (.call { callee := .builtin .append, args := #[(.const (.slice none 0 0)), (.tmp 0)], argTypes := #[ty_s_int, ty_s_int] }) ty_s_int [(.slice x33.2.2.2.1.a x33.2.2.2.1.len x33.2.2.2.1.cap)]) (.one (.leaf .slice)) fun x92 =>
  .check (ldAS x12 5 0 #[]) (.agg #[(.int .i64 x88.1), (.int .i64 x88.2.1), (.int .i64 x88.2.2.1), (.int .i64 x88.2.2.2.1), (.int .i64 x88.2.2.2.2.1)]) <|
  .check (ldAS x13 2 0 #[]) (.agg #[(.int .i64 x87.1), (.int .i64 x87.2.1)]) <|
  .call f_hazard_NewScan [(.agg #[(.int .i64 x87.1), (.int .i64 x87.2.1)]), (.agg #[(.int .i64 x88.1), (.int .i64 x88.2.1), (.int .i64 x88.2.2.1), (.int .i64 x88.2.2.2.1), (.int .i64 x88.2.2.2.2.1)]), (.int .i64 (w64 ((w64 (1 + x26)) - 1))), (.slice x92.a x92.len x92.cap)] (.one (.leaf .ptr)) fun x93 =>
  .look (opS Try.prog (.binOp .eql ty_p_hazard_Scan (.tmp 0) (.const (.pointer none)) ty_p_hazard_Scan) ty_bool [(.pointer x93)]) (.one (.leaf .bool)) fun x95 =>
  bif x95 then (
    .ret (.bool false))
  else (
    .call f_arena_Arena_Uses [(.pointer x33.1)] (.one (.leaf (.int .i64))) fun x97 =>
    .loop 1216 t_magpielaw12_HazardScans_L2_sh [(.bool false), (.int .i64 0)] (t_magpielaw12_HazardScans_L2 x26 x29 x33 x12 x15 x93 x97))

@[reducible] def t_magpielaw12_HazardScans_L1_sh : List Sh1 := [(.leaf (.int .i64))]
noncomputable def t_magpielaw12_HazardScans_L1 (p2 : Sl) (x26 : Int) (x29 : Int) (x33 : HL Sh1.T [(.leaf .ptr), (.agg [(.int .i64), (.int .i64), (.int .i64), (.int .i64), (.int .i64)]), (.agg [(.int .i64), (.int .i64)]), (.leaf .slice)]) (x12 : Addr) (x13 : Addr) (x15 : Addr) (y1 : HL Sh1.T t_magpielaw12_HazardScans_L1_sh) : Tree :=
  bif (decide ((y1.1 : Int) < ((p2.len : Nat) : Int))) then (
    bif (decide ((y1.1 : Int) < (w64 ((w64 (1 + x26)) * 2)))) then (
      .look (opS Try.prog (.indexAddr ty_s_int (.tmp 0) (.tmp 1)) ty_unit [(.slice p2.a p2.len p2.cap), (.int .i64 y1.1)]) (.one (.leaf .addr)) fun x63 =>
      .ld x63 (.int .i64) fun x64 =>
      .qcall f_magpielaw00_Place [(.int .i64 x64), (.int .i64 1048576)] (.one (.leaf (.int .i64))) fun x65 =>
      bif (((Int.tmod x65 2) : Int) == 0) then (
        .look (opS Try.prog (.binOp .rem ty_int (.tmp 0) (.tmp 1) ty_int) ty_int [(.int .i64 (w64 (Int.tdiv x65 2))), (.int .i64 x29)]) (.one (.leaf (.int .i64))) fun x72 =>
        .look (opS Try.prog (.indexAddr ty_a20_bool (.tmp 0) (.tmp 1)) ty_unit [(.pointer (some x15)), (.int .i64 x72)]) (.one (.leaf .addr)) fun x74 =>
        .st x74 (.bool true) <|
        .ldA x13 [(.int .i64), (.int .i64)] fun x76 =>
        .qcall f_hazard_Table_Word [(.agg #[(.int .i64 x76.1), (.int .i64 x76.2.1)]), (.int .i64 (w64 (Int.tdiv y1.1 2))), (.int .i64 (Int.tmod y1.1 2))] (.one (.leaf (.int .i64))) fun x81 =>
        .look (opS Try.prog (.indexAddr ty_s_int (.tmp 0) (.tmp 1)) ty_unit [(.slice x33.2.2.2.1.a x33.2.2.2.1.len x33.2.2.2.1.cap), (.int .i64 x72)]) (.one (.leaf .addr)) fun x84 =>
        .ld x84 (.int .i64) fun x85 =>
        .call f_arena_Arena_SetRaw [(.pointer x33.1), (.int .i64 x81), (.int .i64 x85)] .unit fun _ =>
        .again 448 [(.int .i64 (w64 (y1.1 + 1)))])
      else (
        .again 448 [(.int .i64 (w64 (y1.1 + 1)))]))
    else (
      t_magpielaw12_HazardScans_J11 x26 x29 x33 x12 x13 x15))
  else (
    t_magpielaw12_HazardScans_J11 x26 x29 x33 x12 x13 x15)
noncomputable def t_magpielaw12_HazardScans (p0 : Int) (p1 : Int) (p2 : Sl) (p3 : Bool) : Tree :=
  .qcall f_magpielaw00_Place [(.int .i64 p0), (.int .i64 8)] (.one (.leaf (.int .i64))) fun x26 =>
  .qcall f_magpielaw00_Place [(.int .i64 p1), (.int .i64 20)] (.one (.leaf (.int .i64))) fun x29 =>
  .call f_magpielaw12_make1 [(.int .i64 (w64 (1 + x26))), (.int .i64 x29)] (.tup [(.leaf .ptr), (.agg [(.int .i64), (.int .i64), (.int .i64), (.int .i64), (.int .i64)]), (.agg [(.int .i64), (.int .i64)]), (.leaf .slice)]) fun x33 =>
  .newP (.cells #[(.int .i64 0), (.int .i64 0), (.int .i64 0), (.int .i64 0), (.int .i64 0)] ty_free_Place) fun x12 =>
  .newP (.cells #[(.int .i64 0), (.int .i64 0)] ty_hazard_Table) fun x13 =>
  .stA x12 [(.int .i64 x33.2.1.1), (.int .i64 x33.2.1.2.1), (.int .i64 x33.2.1.2.2.1), (.int .i64 x33.2.1.2.2.2.1), (.int .i64 x33.2.1.2.2.2.2.1)] <|
  .stA x13 [(.int .i64 x33.2.2.1.1), (.int .i64 x33.2.2.1.2.1)] <|
  bif ((x29 : Int) == 0) then (
    bif ((x29 : Int) == 0) then (
      .call f_magpielaw12_awake [] (.one (.leaf .bool)) fun x47 =>
      .ret (.bool x47))
    else (
      .ret (.bool false)))
  else (
    .look (opS Try.prog (.binOp .eql ty_p_arena_Arena (.tmp 0) (.const (.pointer none)) ty_p_arena_Arena) ty_bool [(.pointer x33.1)]) (.one (.leaf .bool)) fun x42 =>
    bif x42 then (
      bif ((x29 : Int) == 0) then (
        .call f_magpielaw12_awake [] (.one (.leaf .bool)) fun x47 =>
        .ret (.bool x47))
      else (
        .ret (.bool false)))
    else (
      .newP (.cells #[(.bool false), (.bool false), (.bool false), (.bool false), (.bool false), (.bool false), (.bool false), (.bool false), (.bool false), (.bool false), (.bool false), (.bool false), (.bool false), (.bool false), (.bool false), (.bool false), (.bool false), (.bool false), (.bool false), (.bool false)] ty_a20_bool) fun x15 =>
      .loop 448 t_magpielaw12_HazardScans_L1_sh [(.int .i64 0)] (t_magpielaw12_HazardScans_L1 p2 x26 x29 x33 x12 x13 x15)))
theorem t_magpielaw12_HazardScans_eq (p0 : Int) (p1 : Int) (p2 : Sl) (p3 : Bool) : funcTree Try.prog { quiet := [16, 22, 23, 34, 35, 48, 49, 53, 57, 58, 59, 62, 105], quietTmp := true, fncs := [], ifcs := [] } Try.f10 [(.int .i64 p0), (.int .i64 p1), (.slice p2.a p2.len p2.cap), (.bool p3)] = t_magpielaw12_HazardScans p0 p1 p2 p3 := by kernel_rfl
theorem t_magpielaw12_HazardScans_spec {p0 : Int} {p1 : Int} {p2 : Sl} {p3 : Bool} {H : Heap} {R : Value → Heap → Prop} (h : ∀ L, wp Try.prog (t_magpielaw12_HazardScans p0 p1 p2 p3) L H R) : SpecF Try.prog f_magpielaw12_HazardScans #[(.int .i64 p0), (.int .i64 p1), (.slice p2.a p2.len p2.cap), (.bool p3)] H R :=
  spec_of_tree (cfg := { quiet := [16, 22, 23, 34, 35, 48, 49, 53, 57, 58, 59, 62, 105], quietTmp := true, fncs := [], ifcs := [] }) Try.func10 fun L => (t_magpielaw12_HazardScans_eq p0 p1 p2 p3).symm ▸ h L

/- magpie/magpielaw12.HazardKeeps -/
noncomputable def t_magpielaw12_HazardKeeps_J1 (y1 : HL Sh1.T [(.leaf .bool), (.leaf .ptr), (.leaf .ptr), (.leaf .slice), (.leaf (.int .i64))]) (x210 : Bool) : Tree :=
  bif x210 then (
    .ret (.bool false))
  else (
    .again 896 [(.bool y1.1), (.pointer y1.2.1), (.pointer y1.2.2.1), (.slice y1.2.2.2.1.a y1.2.2.2.1.len y1.2.2.2.1.cap), (.int .i64 (w64 (y1.2.2.2.2.1 + 1)))])

noncomputable def t_magpielaw12_HazardKeeps_J4 (y1 : HL Sh1.T [(.leaf .bool), (.leaf .ptr), (.leaf .ptr), (.leaf .slice), (.leaf (.int .i64))]) (x129 : Sl) (x140 : Option Addr) (x210 : Bool) : Tree :=
  bif x210 then (
    .ret (.bool false))
  else (
    .again 896 [(.bool y1.1), (.pointer none), (.pointer x140), (.slice x129.a x129.len x129.cap), (.int .i64 (w64 (y1.2.2.2.2.1 + 1)))])

noncomputable def t_magpielaw12_HazardKeeps_J8 (y1 : HL Sh1.T [(.leaf .bool), (.leaf .ptr), (.leaf .ptr), (.leaf .slice), (.leaf (.int .i64))]) (x140 : Option Addr) (x210 : Bool) : Tree :=
  bif x210 then (
    .ret (.bool false))
  else (
    .again 896 [(.bool y1.1), (.pointer none), (.pointer x140), (.slice y1.2.2.2.1.a y1.2.2.2.1.len y1.2.2.2.1.cap), (.int .i64 (w64 (y1.2.2.2.2.1 + 1)))])

noncomputable def t_magpielaw12_HazardKeeps_J9 (x6 : Addr) (x8 : Addr) (x41 : Option Addr) (y1 : HL Sh1.T [(.leaf .bool), (.leaf .ptr), (.leaf .ptr), (.leaf .slice), (.leaf (.int .i64))]) : Tree :=
  .ldA x8 [(.int .i64), (.int .i64)] fun x137 =>
  .ldA x6 [(.int .i64), (.int .i64), (.int .i64), (.int .i64), (.int .i64)] fun x138 =>
  .call f_hazard_NewScan [(.agg #[(.int .i64 x137.1), (.int .i64 x137.2.1)]), (.agg #[(.int .i64 x138.1), (.int .i64 x138.2.1), (.int .i64 x138.2.2.1), (.int .i64 x138.2.2.2.1), (.int .i64 x138.2.2.2.2.1)]), (.int .i64 0), (.slice y1.2.2.2.1.a y1.2.2.2.1.len y1.2.2.2.1.cap)] (.one (.leaf .ptr)) fun x140 =>
  .call f_arena_Arena_Fault [(.pointer x41)] (.one (.leaf .bool)) fun x210 =>
  t_magpielaw12_HazardKeeps_J8 y1 x140 x210

noncomputable def t_magpielaw12_HazardKeeps_J11 (x6 : Addr) (x8 : Addr) (x41 : Option Addr) (y1 : HL Sh1.T [(.leaf .bool), (.leaf .ptr), (.leaf .ptr), (.leaf .slice), (.leaf (.int .i64))]) (x104 : HL Sh1.T [(.leaf (.int .i64)), (.leaf .bool)]) : Tree :=
  bif (!x104.2.1) then (
    .ldA x8 [(.int .i64), (.int .i64)] fun x137 =>
    .ldA x6 [(.int .i64), (.int .i64), (.int .i64), (.int .i64), (.int .i64)] fun x138 =>
    .call f_hazard_NewScan [(.agg #[(.int .i64 x137.1), (.int .i64 x137.2.1)]), (.agg #[(.int .i64 x138.1), (.int .i64 x138.2.1), (.int .i64 x138.2.2.1), (.int .i64 x138.2.2.2.1), (.int .i64 x138.2.2.2.2.1)]), (.int .i64 0), (.slice y1.2.2.2.1.a y1.2.2.2.1.len y1.2.2.2.1.cap)] (.one (.leaf .ptr)) fun x140 =>
    .call f_arena_Arena_Fault [(.pointer x41)] (.one (.leaf .bool)) fun x210 =>
    t_magpielaw12_HazardKeeps_J8 y1 x140 x210)
  else (
    .call f_arena_Arena_Fault [(.pointer x41)] (.one (.leaf .bool)) fun x210 =>
    bif x210 then (
      .ret (.bool false))
    else (
      .again 896 [(.bool y1.1), (.pointer none), (.pointer y1.2.2.1), (.slice y1.2.2.2.1.a y1.2.2.2.1.len y1.2.2.2.1.cap), (.int .i64 (w64 (y1.2.2.2.2.1 + 1)))]))

noncomputable def t_magpielaw12_HazardKeeps_J26 (x28 : HL Sh1.T [(.agg [(.int .i64), (.int .i64), (.int .i64), (.int .i64), (.int .i64)]), (.leaf (.int .i64))]) (x6 : Addr) (x34 : HL Sh1.T [(.agg [(.int .i64), (.int .i64)]), (.leaf (.int .i64))]) (x8 : Addr) (x41 : Option Addr) (x12 : Addr) (x13 : Addr) (y1 : HL Sh1.T [(.leaf .bool), (.leaf .ptr), (.leaf .ptr), (.leaf .slice), (.leaf (.int .i64))]) (x66 : Int) : Tree :=
  bif ((x66 : Int) == 0) then (
    .call f_slab_Alloc_Step [(.pointer y1.2.1), (.pointer x41)] (.one (.leaf .bool)) fun x100 =>
    bif (!x100) then (
      .again 896 [(.bool y1.1), (.pointer y1.2.1), (.pointer y1.2.2.1), (.slice y1.2.2.2.1.a y1.2.2.2.1.len y1.2.2.2.1.cap), (.int .i64 (w64 (y1.2.2.2.2.1 + 1)))])
    else (
      .call f_slab_Alloc_Handle [(.pointer y1.2.1)] (.tup [(.leaf (.int .i64)), (.leaf .bool)]) fun x104 =>
      bif x104.2.1 then (
        .call f_arena_Arena_Store [(.pointer x41), (.int .i64 x104.1), (.int .i64 0), (.int .i64 x104.1)] .unit fun _ =>
        .call f_arena_Arena_Raw [(.pointer x41), (.int .i64 (w64 (x28.2.1 + x34.2.1)))] (.one (.leaf (.int .i64))) fun x114 =>
        .call f_arena_Arena_SetRaw [(.pointer x41), (.int .i64 (w64 (x28.2.1 + x34.2.1))), (.int .i64 x104.1)] .unit fun _ =>
        bif ((x114 : Int) != 0) then (
          .call f_arena_Arena_Retire [(.pointer x41), (.int .i64 x114)] (.one (.leaf .bool)) fun x124 =>
          bif x124 then (
            .newS (.cells #[(.int .i64 x114)] ty_int) 1 fun x128 =>
            .act (opS Try.prog (.call { callee := .builtin .append, args := #[(.tmp 0), (.tmp 1)], argTypes := #[ty_s_int, ty_s_int] }) ty_s_int [(.slice y1.2.2.2.1.a y1.2.2.2.1.len y1.2.2.2.1.cap), (.slice x128.a x128.len x128.cap)]) (.one (.leaf .slice)) fun x129 =>
            bif (decide ((((x129.len : Nat) : Int) : Int) > 3)) then (
              .ldA x8 [(.int .i64), (.int .i64)] fun x137 =>
              .ldA x6 [(.int .i64), (.int .i64), (.int .i64), (.int .i64), (.int .i64)] fun x138 =>
              .call f_hazard_NewScan [(.agg #[(.int .i64 x137.1), (.int .i64 x137.2.1)]), (.agg #[(.int .i64 x138.1), (.int .i64 x138.2.1), (.int .i64 x138.2.2.1), (.int .i64 x138.2.2.2.1), (.int .i64 x138.2.2.2.2.1)]), (.int .i64 0), (.slice x129.a x129.len x129.cap)] (.one (.leaf .ptr)) fun x140 =>
              .call f_arena_Arena_Fault [(.pointer x41)] (.one (.leaf .bool)) fun x210 =>
              t_magpielaw12_HazardKeeps_J4 y1 x129 x140 x210)
            else (
              bif (!x104.2.1) then (
                .ldA x8 [(.int .i64), (.int .i64)] fun x137 =>
                .ldA x6 [(.int .i64), (.int .i64), (.int .i64), (.int .i64), (.int .i64)] fun x138 =>
                .call f_hazard_NewScan [(.agg #[(.int .i64 x137.1), (.int .i64 x137.2.1)]), (.agg #[(.int .i64 x138.1), (.int .i64 x138.2.1), (.int .i64 x138.2.2.1), (.int .i64 x138.2.2.2.1), (.int .i64 x138.2.2.2.2.1)]), (.int .i64 0), (.slice x129.a x129.len x129.cap)] (.one (.leaf .ptr)) fun x140 =>
                .call f_arena_Arena_Fault [(.pointer x41)] (.one (.leaf .bool)) fun x210 =>
                t_magpielaw12_HazardKeeps_J4 y1 x129 x140 x210)
              else (
                .call f_arena_Arena_Fault [(.pointer x41)] (.one (.leaf .bool)) fun x210 =>
                bif x210 then (
                  .ret (.bool false))
                else (
                  .again 896 [(.bool y1.1), (.pointer none), (.pointer y1.2.2.1), (.slice x129.a x129.len x129.cap), (.int .i64 (w64 (y1.2.2.2.2.1 + 1)))]))))
          else (
            bif (decide ((((y1.2.2.2.1.len : Nat) : Int) : Int) > 3)) then (
              t_magpielaw12_HazardKeeps_J9 x6 x8 x41 y1)
            else (
              t_magpielaw12_HazardKeeps_J11 x6 x8 x41 y1 x104)))
        else (
          bif (decide ((((y1.2.2.2.1.len : Nat) : Int) : Int) > 3)) then (
            t_magpielaw12_HazardKeeps_J9 x6 x8 x41 y1)
          else (
            t_magpielaw12_HazardKeeps_J11 x6 x8 x41 y1 x104)))
      else (
        bif (decide ((((y1.2.2.2.1.len : Nat) : Int) : Int) > 3)) then (
          t_magpielaw12_HazardKeeps_J9 x6 x8 x41 y1)
        else (
          t_magpielaw12_HazardKeeps_J11 x6 x8 x41 y1 x104))))
  else (
    .look (opS Try.prog (.indexAddr ty_a7_int (.tmp 0) (.tmp 1)) ty_unit [(.pointer (some x12)), (.int .i64 x66)]) (.one (.leaf .addr)) fun x143 =>
    .ld x143 (.int .i64) fun x144 =>
    bif ((x144 : Int) == 0) then (
      .call f_arena_Arena_Raw [(.pointer x41), (.int .i64 (w64 (x28.2.1 + x34.2.1)))] (.one (.leaf (.int .i64))) fun x149 =>
      .look (opS Try.prog (.indexAddr ty_a7_int (.tmp 0) (.tmp 1)) ty_unit [(.pointer (some x13)), (.int .i64 x66)]) (.one (.leaf .addr)) fun x150 =>
      .st x150 (.int .i64 x149) <|
      .look (opS Try.prog (.indexAddr ty_a7_int (.tmp 0) (.tmp 1)) ty_unit [(.pointer (some x12)), (.int .i64 x66)]) (.one (.leaf .addr)) fun x152 =>
      .st x152 (.int .i64 1) <|
      .call f_arena_Arena_Fault [(.pointer x41)] (.one (.leaf .bool)) fun x210 =>
      t_magpielaw12_HazardKeeps_J1 y1 x210)
    else (
      .look (opS Try.prog (.indexAddr ty_a7_int (.tmp 0) (.tmp 1)) ty_unit [(.pointer (some x12)), (.int .i64 x66)]) (.one (.leaf .addr)) fun x155 =>
      .ld x155 (.int .i64) fun x156 =>
      bif ((x156 : Int) == 1) then (
        .ldA x8 [(.int .i64), (.int .i64)] fun x159 =>
        .qcall f_hazard_Table_Word [(.agg #[(.int .i64 x159.1), (.int .i64 x159.2.1)]), (.int .i64 x66), (.int .i64 0)] (.one (.leaf (.int .i64))) fun x161 =>
        .look (opS Try.prog (.indexAddr ty_a7_int (.tmp 0) (.tmp 1)) ty_unit [(.pointer (some x13)), (.int .i64 x66)]) (.one (.leaf .addr)) fun x163 =>
        .ld x163 (.int .i64) fun x164 =>
        .call f_arena_Arena_SetRaw [(.pointer x41), (.int .i64 x161), (.int .i64 x164)] .unit fun _ =>
        .look (opS Try.prog (.indexAddr ty_a7_int (.tmp 0) (.tmp 1)) ty_unit [(.pointer (some x12)), (.int .i64 x66)]) (.one (.leaf .addr)) fun x167 =>
        .st x167 (.int .i64 2) <|
        .call f_arena_Arena_Fault [(.pointer x41)] (.one (.leaf .bool)) fun x210 =>
        t_magpielaw12_HazardKeeps_J1 y1 x210)
      else (
        .look (opS Try.prog (.indexAddr ty_a7_int (.tmp 0) (.tmp 1)) ty_unit [(.pointer (some x12)), (.int .i64 x66)]) (.one (.leaf .addr)) fun x170 =>
        .ld x170 (.int .i64) fun x171 =>
        bif ((x171 : Int) == 2) then (
          .look (opS Try.prog (.indexAddr ty_a7_int (.tmp 0) (.tmp 1)) ty_unit [(.pointer (some x12)), (.int .i64 x66)]) (.one (.leaf .addr)) fun x174 =>
          .st x174 (.int .i64 0) <|
          .look (opS Try.prog (.indexAddr ty_a7_int (.tmp 0) (.tmp 1)) ty_unit [(.pointer (some x13)), (.int .i64 x66)]) (.one (.leaf .addr)) fun x179 =>
          .ld x179 (.int .i64) fun x180 =>
          .call f_arena_Arena_Raw [(.pointer x41), (.int .i64 (w64 (x28.2.1 + x34.2.1)))] (.one (.leaf (.int .i64))) fun x177 =>
          .check (ldS x179) (.int .i64 x180) <|
          .check (opS Try.prog (.indexAddr ty_a7_int (.tmp 0) (.tmp 1)) ty_unit [(.pointer (some x13)), (.int .i64 x66)]) (.pointer (some x179)) <|
          bif ((x177 : Int) == x180) then (
            .look (opS Try.prog (.indexAddr ty_a7_int (.tmp 0) (.tmp 1)) ty_unit [(.pointer (some x13)), (.int .i64 x66)]) (.one (.leaf .addr)) fun x184 =>
            .ld x184 (.int .i64) fun x185 =>
            bif ((x185 : Int) != 0) then (
              .look (opS Try.prog (.indexAddr ty_a7_int (.tmp 0) (.tmp 1)) ty_unit [(.pointer (some x12)), (.int .i64 x66)]) (.one (.leaf .addr)) fun x189 =>
              .st x189 (.int .i64 3) <|
              .call f_arena_Arena_Fault [(.pointer x41)] (.one (.leaf .bool)) fun x210 =>
              t_magpielaw12_HazardKeeps_J1 y1 x210)
            else (
              .call f_arena_Arena_Fault [(.pointer x41)] (.one (.leaf .bool)) fun x210 =>
              t_magpielaw12_HazardKeeps_J1 y1 x210))
          else (
            .call f_arena_Arena_Fault [(.pointer x41)] (.one (.leaf .bool)) fun x210 =>
            t_magpielaw12_HazardKeeps_J1 y1 x210))
        else (
          .look (opS Try.prog (.indexAddr ty_a7_int (.tmp 0) (.tmp 1)) ty_unit [(.pointer (some x12)), (.int .i64 x66)]) (.one (.leaf .addr)) fun x192 =>
          .ld x192 (.int .i64) fun x193 =>
          bif (decide ((x193 : Int) < 6)) then (
            .look (opS Try.prog (.indexAddr ty_a7_int (.tmp 0) (.tmp 1)) ty_unit [(.pointer (some x13)), (.int .i64 x66)]) (.one (.leaf .addr)) fun x197 =>
            .ld x197 (.int .i64) fun x198 =>
            .look (opS Try.prog (.indexAddr ty_a7_int (.tmp 0) (.tmp 1)) ty_unit [(.pointer (some x13)), (.int .i64 x66)]) (.one (.leaf .addr)) fun x201 =>
            .ld x201 (.int .i64) fun x202 =>
            .call f_arena_Arena_Load [(.pointer x41), (.int .i64 x198), (.int .i64 0)] (.one (.leaf (.int .i64))) fun x199 =>
            .check (ldS x201) (.int .i64 x202) <|
            .check (opS Try.prog (.indexAddr ty_a7_int (.tmp 0) (.tmp 1)) ty_unit [(.pointer (some x13)), (.int .i64 x66)]) (.pointer (some x201)) <|
            bif ((x199 : Int) != x202) then (
              .ret (.bool false))
            else (
              .look (opS Try.prog (.indexAddr ty_a7_int (.tmp 0) (.tmp 1)) ty_unit [(.pointer (some x12)), (.int .i64 x66)]) (.one (.leaf .addr)) fun x205 =>
              .ld x205 (.int .i64) fun x206 =>
              .look (opS Try.prog (.indexAddr ty_a7_int (.tmp 0) (.tmp 1)) ty_unit [(.pointer (some x12)), (.int .i64 x66)]) (.one (.leaf .addr)) fun x208 =>
              .st x208 (.int .i64 (w64 (x206 + 1))) <|
              .call f_arena_Arena_Fault [(.pointer x41)] (.one (.leaf .bool)) fun x210 =>
              t_magpielaw12_HazardKeeps_J1 y1 x210))
          else (
            .ldA x8 [(.int .i64), (.int .i64)] fun x68 =>
            .qcall f_hazard_Table_Word [(.agg #[(.int .i64 x68.1), (.int .i64 x68.2.1)]), (.int .i64 x66), (.int .i64 0)] (.one (.leaf (.int .i64))) fun x70 =>
            .call f_arena_Arena_SetRaw [(.pointer x41), (.int .i64 x70), (.int .i64 0)] .unit fun _ =>
            .look (opS Try.prog (.indexAddr ty_a7_int (.tmp 0) (.tmp 1)) ty_unit [(.pointer (some x12)), (.int .i64 x66)]) (.one (.leaf .addr)) fun x73 =>
            .st x73 (.int .i64 0) <|
            .call f_arena_Arena_Fault [(.pointer x41)] (.one (.leaf .bool)) fun x210 =>
            t_magpielaw12_HazardKeeps_J1 y1 x210)))))

noncomputable def t_magpielaw12_HazardKeeps_J27 (x28 : HL Sh1.T [(.agg [(.int .i64), (.int .i64), (.int .i64), (.int .i64), (.int .i64)]), (.leaf (.int .i64))]) (x6 : Addr) (x34 : HL Sh1.T [(.agg [(.int .i64), (.int .i64)]), (.leaf (.int .i64))]) (x8 : Addr) (x41 : Option Addr) (x12 : Addr) (x13 : Addr) (y1 : HL Sh1.T [(.leaf .bool), (.leaf .ptr), (.leaf .ptr), (.leaf .slice), (.leaf (.int .i64))]) (x66 : Int) (x91 : Bool) : Tree :=
  bif x91 then (
    .ldA x6 [(.int .i64), (.int .i64), (.int .i64), (.int .i64), (.int .i64)] fun x93 =>
    .call f_slab_NewAlloc [(.agg #[(.int .i64 x93.1), (.int .i64 x93.2.1), (.int .i64 x93.2.2.1), (.int .i64 x93.2.2.2.1), (.int .i64 x93.2.2.2.2.1)]), (.int .i64 0), (.int .i64 0)] (.one (.leaf .ptr)) fun x94 =>
    .call f_arena_Arena_Fault [(.pointer x41)] (.one (.leaf .bool)) fun x210 =>
    bif x210 then (
      .ret (.bool false))
    else (
      .again 896 [(.bool y1.1), (.pointer x94), (.pointer y1.2.2.1), (.slice y1.2.2.2.1.a y1.2.2.2.1.len y1.2.2.2.1.cap), (.int .i64 (w64 (y1.2.2.2.2.1 + 1)))]))
  else (
    t_magpielaw12_HazardKeeps_J26 x28 x6 x34 x8 x41 x12 x13 y1 x66)

noncomputable def t_magpielaw12_HazardKeeps_J32 (y1 : HL Sh1.T [(.leaf .bool), (.leaf .ptr), (.leaf .ptr), (.leaf .slice), (.leaf (.int .i64))]) : Tree :=
  bif (decide ((((y1.2.2.2.1.len : Nat) : Int) : Int) < 50)) then (
    .call f_magpielaw12_awake [] (.one (.leaf .bool)) fun x215 =>
    .ret (.bool x215))
  else (
    .ret (.bool false))

@[reducible] def t_magpielaw12_HazardKeeps_L1_sh : List Sh1 := [(.leaf .bool), (.leaf .ptr), (.leaf .ptr), (.leaf .slice), (.leaf (.int .i64))]
noncomputable def t_magpielaw12_HazardKeeps_L1 (p1 : Sl) (x24 : Int) (x28 : HL Sh1.T [(.agg [(.int .i64), (.int .i64), (.int .i64), (.int .i64), (.int .i64)]), (.leaf (.int .i64))]) (x6 : Addr) (x34 : HL Sh1.T [(.agg [(.int .i64), (.int .i64)]), (.leaf (.int .i64))]) (x8 : Addr) (x41 : Option Addr) (x12 : Addr) (x13 : Addr) (y1 : HL Sh1.T t_magpielaw12_HazardKeeps_L1_sh) : Tree :=
  bif (decide ((y1.2.2.2.2.1 : Int) < ((p1.len : Nat) : Int))) then (
    bif (decide ((y1.2.2.2.2.1 : Int) < 600)) then (
      .look (opS Try.prog (.indexAddr ty_s_int (.tmp 0) (.tmp 1)) ty_unit [(.slice p1.a p1.len p1.cap), (.int .i64 y1.2.2.2.2.1)]) (.one (.leaf .addr)) fun x61 =>
      .ld x61 (.int .i64) fun x62 =>
      .qcall f_magpielaw00_Place [(.int .i64 x62), (.int .i64 1048576)] (.one (.leaf (.int .i64))) fun x63 =>
      .look (opS Try.prog (.binOp .rem ty_int (.tmp 0) (.tmp 1) ty_int) ty_int [(.int .i64 x63), (.int .i64 (w64 (2 + x24)))]) (.one (.leaf (.int .i64))) fun x66 =>
      bif ((x66 : Int) == 0) then (
        .look (opS Try.prog (.binOp .neq ty_p_hazard_Scan (.tmp 0) (.const (.pointer none)) ty_p_hazard_Scan) ty_bool [(.pointer y1.2.2.1)]) (.one (.leaf .bool)) fun x79 =>
        bif x79 then (
          .call f_hazard_Scan_Step [(.pointer y1.2.2.1), (.pointer x41)] (.one (.leaf .bool)) fun x83 =>
          bif x83 then (
            .call f_hazard_Scan_Left [(.pointer y1.2.2.1)] (.one (.leaf .slice)) fun x85 =>
            .call f_arena_Arena_Fault [(.pointer x41)] (.one (.leaf .bool)) fun x210 =>
            bif x210 then (
              .ret (.bool false))
            else (
              .again 896 [(.bool y1.1), (.pointer y1.2.1), (.pointer none), (.slice x85.a x85.len x85.cap), (.int .i64 (w64 (y1.2.2.2.2.1 + 1)))]))
          else (
            .call f_arena_Arena_Fault [(.pointer x41)] (.one (.leaf .bool)) fun x210 =>
            t_magpielaw12_HazardKeeps_J1 y1 x210))
        else (
          bif ((x66 : Int) == 0) then (
            .look (opS Try.prog (.binOp .eql ty_p_slab_Alloc (.tmp 0) (.const (.pointer none)) ty_p_slab_Alloc) ty_bool [(.pointer y1.2.1)]) (.one (.leaf .bool)) fun x91 =>
            t_magpielaw12_HazardKeeps_J27 x28 x6 x34 x8 x41 x12 x13 y1 x66 x91)
          else (
            t_magpielaw12_HazardKeeps_J26 x28 x6 x34 x8 x41 x12 x13 y1 x66)))
      else (
        bif ((x66 : Int) == 0) then (
          .look (opS Try.prog (.binOp .eql ty_p_slab_Alloc (.tmp 0) (.const (.pointer none)) ty_p_slab_Alloc) ty_bool [(.pointer y1.2.1)]) (.one (.leaf .bool)) fun x91 =>
          t_magpielaw12_HazardKeeps_J27 x28 x6 x34 x8 x41 x12 x13 y1 x66 x91)
        else (
          t_magpielaw12_HazardKeeps_J26 x28 x6 x34 x8 x41 x12 x13 y1 x66)))
    else (
      t_magpielaw12_HazardKeeps_J32 y1))
  else (
    t_magpielaw12_HazardKeeps_J32 y1)
noncomputable def t_magpielaw12_HazardKeeps (p0 : Int) (p1 : Sl) : Tree :=
  .qcall f_magpielaw00_Place [(.int .i64 p0), (.int .i64 5)] (.one (.leaf (.int .i64))) fun x24 =>
  .call f_free_Raw [(.int .i64 (w64 (2 + x24))), (.int .i64 400)] (.tup [(.agg [(.int .i64), (.int .i64), (.int .i64), (.int .i64), (.int .i64)]), (.leaf (.int .i64))]) fun x28 =>
  .newP (.cells #[(.int .i64 0), (.int .i64 0), (.int .i64 0), (.int .i64 0), (.int .i64 0)] ty_free_Place) fun x6 =>
  .stA x6 [(.int .i64 x28.1.1), (.int .i64 x28.1.2.1), (.int .i64 x28.1.2.2.1), (.int .i64 x28.1.2.2.2.1), (.int .i64 x28.1.2.2.2.2.1)] <|
  .qcall f_hazard_Raw [(.int .i64 (w64 (2 + x24))), (.int .i64 x28.2.1)] (.tup [(.agg [(.int .i64), (.int .i64)]), (.leaf (.int .i64))]) fun x34 =>
  .newP (.cells #[(.int .i64 0), (.int .i64 0)] ty_hazard_Table) fun x8 =>
  .stA x8 [(.int .i64 x34.1.1), (.int .i64 x34.1.2.1)] <|
  .call f_arena_New [(.int .i64 (w64 ((w64 (x28.2.1 + x34.2.1)) + 1))), (.int .i64 400), (.bool false)] (.one (.leaf .ptr)) fun x41 =>
  .look (opS Try.prog (.binOp .eql ty_p_arena_Arena (.tmp 0) (.const (.pointer none)) ty_p_arena_Arena) ty_bool [(.pointer x41)]) (.one (.leaf .bool)) fun x46 =>
  bif x46 then (
    .ret (.bool false))
  else (
    .newP (.cells #[(.int .i64 0), (.int .i64 0), (.int .i64 0), (.int .i64 0), (.int .i64 0), (.int .i64 0), (.int .i64 0)] ty_a7_int) fun x12 =>
    .stA x12 [(.int .i64 0), (.int .i64 0), (.int .i64 0), (.int .i64 0), (.int .i64 0), (.int .i64 0), (.int .i64 0)] <|
    .newP (.cells #[(.int .i64 0), (.int .i64 0), (.int .i64 0), (.int .i64 0), (.int .i64 0), (.int .i64 0), (.int .i64 0)] ty_a7_int) fun x13 =>
    .stA x13 [(.int .i64 0), (.int .i64 0), (.int .i64 0), (.int .i64 0), (.int .i64 0), (.int .i64 0), (.int .i64 0)] <|
    .loop 896 t_magpielaw12_HazardKeeps_L1_sh [(.bool false), (.pointer none), (.pointer none), (.slice none 0 0), (.int .i64 0)] (t_magpielaw12_HazardKeeps_L1 p1 x24 x28 x6 x34 x8 x41 x12 x13))
theorem t_magpielaw12_HazardKeeps_eq (p0 : Int) (p1 : Sl) : funcTree Try.prog { quiet := [16, 22, 23, 34, 35, 48, 49, 53, 57, 58, 59, 62, 105], quietTmp := true, fncs := [], ifcs := [] } Try.f11 [(.int .i64 p0), (.slice p1.a p1.len p1.cap)] = t_magpielaw12_HazardKeeps p0 p1 := by kernel_rfl
theorem t_magpielaw12_HazardKeeps_spec {p0 : Int} {p1 : Sl} {H : Heap} {R : Value → Heap → Prop} (h : ∀ L, wp Try.prog (t_magpielaw12_HazardKeeps p0 p1) L H R) : SpecF Try.prog f_magpielaw12_HazardKeeps #[(.int .i64 p0), (.slice p1.a p1.len p1.cap)] H R :=
  spec_of_tree (cfg := { quiet := [16, 22, 23, 34, 35, 48, 49, 53, 57, 58, 59, 62, 105], quietTmp := true, fncs := [], ifcs := [] }) Try.func11 fun L => (t_magpielaw12_HazardKeeps_eq p0 p1).symm ▸ h L

end Go.Proofs.Ytfphgiipekkgdaa

set_option linter.unusedVariables false
set_option linter.unusedSimpArgs false
set_option maxRecDepth 20000
namespace Go.Proofs.Ytfphgiipekkgdaa
open Go Go.Fw

def alB : Option (Al × Tr3) → Bl
  | some (x, j) => x.bl j
  | none => []
def alP : Option (Al × Tr3) → Option Addr
  | some (_, j) => some ⟨j.1, 0, none⟩
  | none => none
def scB : Option (Sc × ScJ) → Bl
  | some (x, j) => x.bl j
  | none => []
def scP : Option (Sc × ScJ) → Option Addr
  | some (_, j) => some ⟨j.q, 0, none⟩
  | none => none

/-- A reader. -/
structure RdI (A : Ar) (w : Int) (sc : Option (Sc × ScJ)) (r ph hd : Int) : Prop where
  p0 : 0 ≤ ph ∧ ph ≤ 6
  pub : 2 ≤ ph → A.rawF (4 * w + 101 + 2 * r) = hd
  prot : 3 ≤ ph → A.stF hd ≠ 0 ∧ ∀ x j, sc = some (x, j) → Safe x r hd

structure HK (I : List Nat) (A : Ar) (w : Int) (S : Sg) (al : Option (Al × Tr3)) (sc : Option (Sc × ScJ)) (rs : List Int) (ph hd : Nat → Int) (n : Int) : Prop where
  wb : 2 ≤ w ∧ w ≤ 6
  aw : Aw I A
  sl : SL A (plOf w 400) w 400 S
  fa : A.fault = false
  rl : (A.raw.length : Int) = 4 * w + 101 + 2 * w + 1
  us : A.uses ≤ 6 * n
  nR : A.nR ≤ 8 * A.uses
  nL : -(8 * A.uses) ≤ A.nL
  cell : A.rawF (4 * w + 101 + 2 * w) = 0 ∨ A.stF (A.rawF (4 * w + 101 + 2 * w)) = 1
  body : ∀ h, A.stF h ≠ 0 → opC h = 0 ∧ A.words.getD (pos h 0) 0 = h
  one : al = none ∨ sc = none
  alI : ∀ x j, al = some (x, j) → AlI (plOf w 400) w 400 x A S ∧ x.cls = 0
  scI : ∀ x j, sc = some (x, j) → ScI (plOf w 400) w 400 (4 * w + 101) x A S ∧ x.rep j
  rsI : sc = none → rs.Nodup ∧ (∀ h ∈ rs, A.stF h = 2) ∧ rs.length ≤ 12
  rsl : rs.length ≤ 13
  rd : ∀ r : Nat, 1 ≤ r → (r : Int) < w → RdI A w sc r (ph r) (hd r)

abbrev kpB (x6 x8 x12 x13 : Nat) (w : Int) (ph hd : Nat → Int) (al : Option (Al × Tr3)) (sc : Option (Sc × ScJ)) (tl : Bl) : Bl :=
  (x13, oc ty_a7_int (arrC 7 fun i => .int .i64 (hd i))) :: (x12, oc ty_a7_int (arrC 7 fun i => .int .i64 (ph i))) :: (x8, oc ty_hazard_Table (tbC w (4 * w + 101))) :: (x6, oc ty_free_Place (plCells (plOf w 400))) :: (alB al ++ (scB sc ++ tl))

section
variable {L : Hands} {R : Value → Heap → Prop} {H : Heap} {I : List Nat} {A B : Ar} {w n : Int} {S S' : Sg} {al : Option (Al × Tr3)} {sc : Option (Sc × ScJ)} {rs : List Int} {ph hd : Nat → Int} {tl : Bl} {x6 x8 x12 x13 : Nat}

theorem RdI.keep {r p h : Int} (h0 : RdI A w sc r p h) {sc' : Option (Sc × ScJ)} (hr : B.rawF (4 * w + 101 + 2 * r) = A.rawF (4 * w + 101 + 2 * r)) (hs : 3 ≤ p → A.stF h ≠ 0 → B.stF h ≠ 0) (hsf : 3 ≤ p → A.stF h ≠ 0 → (∀ x j, sc = some (x, j) → Safe x r h) → ∀ x j, sc' = some (x, j) → Safe x r h) : RdI B w sc' r p h :=
  ⟨h0.p0, fun e => by rw [hr]; exact h0.pub e, fun e => ⟨hs e (h0.prot e).1, hsf e (h0.prot e).1 (h0.prot e).2⟩⟩

/-- Only uses. -/
theorem HK.later (K : HK I A w S al sc rs ph hd n) {k : Int} (hk : 0 ≤ k ∧ k ≤ 6) : HK I (A.later k) w S al sc rs ph hd (n + 1) := by
  have us := K.us
  have nR := K.nR
  have nL := K.nL
  have E := Ev.later K.sl (n := k) (mine := -1) hk.1
  refine ⟨K.wb, later_aw K.aw k, K.sl.later hk.1, K.fa, K.rl, by show A.uses + k ≤ _; omega, by show A.nR ≤ 8 * (A.uses + k); omega, by show -(8 * (A.uses + k)) ≤ A.nL; omega, K.cell, K.body, K.one, fun x j h => ?_, fun x j h => ?_, K.rsI, K.rsl, fun r r0 r1 => (K.rd r r0 r1).keep rfl (fun _ h => h) fun _ _ h => h⟩
  · obtain ⟨a, b⟩ := K.alI x j h
    exact ⟨a.keep K.sl E (neg1_nin K.sl) (fun e e2 => by have := K.sl.blk _ (a.bears e).1.1; omega), b⟩
  · obtain ⟨a, b⟩ := K.scI x j h
    exact ⟨a.keep E (fun h' hh e => by have := K.sl.act h' (by rw [hh]; decide); have := K.sl.blk _ (show S.cl (opB h') ≠ -1 by have := (opC_nat h').1; omega); omega), b⟩

/-- A word beyond the slab's is stored: a reader's own. -/
theorem HK.pub (K : HK I A w S al sc rs ph hd n) {r : Nat} (r0 : 1 ≤ r) (r1 : (r : Int) < w) {v p : Int} (p0 : p = 2 ∧ v = hd r ∨ p = 0) (hp : ph r ≤ 1 ∨ 6 ≤ ph r) (hn : n ≤ 600) : HK I (A.storeR (4 * w + 101 + 2 * r) v) w S al sc rs (fun j => if j = r then p else ph j) hd (n + 1) ∧ (A.storeR (4 * w + 101 + 2 * r) v).uses = A.uses + 1 := by
  have wb := K.wb
  have us := K.us
  have rl := K.rl
  have nR := K.nR
  have nL := K.nL
  have cd : (plOf w 400).carved = 4 * w + 100 := by show 4 * w + 2 * ((400 + 7) / 8) = _; omega
  obtain ⟨q1, q2, q3, q4, q5, q6, q7, q8, q9, q10⟩ := Qu.storeR K.sl (by omega) (i := 4 * w + 101 + 2 * r) (v := v) ⟨by omega, by omega⟩
  have hB := K.aw.storeR (4 * w + 101 + 2 * r) v
  generalize A.storeR (4 * w + 101 + 2 * r) v = B at *
  refine ⟨⟨K.wb, hB, q1, q7.trans K.fa, by rw [q9]; exact rl, by omega, by rw [q5]; omega, by rw [q4]; omega, ?_, ?_, K.one, fun x j h => ?_, fun x j h => ?_, fun h => ?_, K.rsl, fun q k0 k1 => ?_⟩, q8⟩
  · rw [q10, if_neg (by omega), q3]; exact K.cell
  · intro h hh; rw [q3] at hh; rw [q6]; exact K.body h hh
  · obtain ⟨a, b⟩ := K.alI x j h
    refine ⟨⟨a.pl, a.who, a.cls, a.lst, a.wh, fun e => ?_, a.swaps, fun e => ?_, a.h0⟩, b⟩
    · obtain ⟨l0, k, k0, k1, k2, P⟩ := a.pops e
      exact ⟨l0, k, k0, k1, k2, P.keep K.sl.F k0 k1 (neg1_nin K.sl) q2⟩
    · obtain ⟨o, c⟩ := a.bears e
      exact ⟨⟨o.1, o.2.1, fun h hh => o.2.2 h (by rw [← q3]; exact hh)⟩, c⟩
  · obtain ⟨a, b⟩ := K.scI x j h
    refine ⟨⟨a.tw, a.ta, a.pl, a.work, a.ll, a.wd, a.en, ?_⟩, b⟩
    rcases a.st with ⟨a1, a2, a3, a4, a5, a6, a7⟩ | ⟨a1, a2, a3, a4, a5, a6, a7, a8⟩
    · exact .inl ⟨a1, a2, a3, a4, a5, fun h hh => by rw [q3]; exact a6 h hh, a7⟩
    · refine .inr ⟨a1, a2, a3, ?_, a5, a6, fun h hh => ⟨by rw [q3]; exact (a7 h hh).1, (a7 h hh).2⟩, a8⟩
      cases hf : x.frees with
      | nil => trivial
      | cons f fs =>
        rw [hf] at a4
        have bb := a4.1.pu.bb
        exact ⟨⟨by rw [q3]; exact a4.1.st, a4.1.nd, a4.1.pu.keep (by omega) q2⟩, fun g hg => ⟨(a4.2 g hg).1, by rw [q3]; exact (a4.2 g hg).2⟩⟩
  · obtain ⟨a, b, c⟩ := K.rsI h
    exact ⟨a, fun h hh => by rw [q3]; exact b h hh, c⟩
  · have rq := K.rd q k0 k1
    by_cases e : q = r
    · subst e
      rw [if_pos rfl]
      refine ⟨by omega, fun h => ?_, fun h => by omega⟩
      rw [q10, if_pos rfl]; omega
    · rw [if_neg e]
      exact rq.keep (by rw [q10, if_neg (by omega)]) (fun _ h => by rw [q3]; exact h) fun _ _ h => h
end
end Go.Proofs.Ytfphgiipekkgdaa

set_option linter.unusedVariables false
set_option linter.unusedSimpArgs false
set_option maxRecDepth 20000
namespace Go.Proofs.Ytfphgiipekkgdaa
open Go Go.Fw

section
variable {L : Hands} {R : Value → Heap → Prop} {H : Heap} {I : List Nat} {A B : Ar} {w n : Int} {S S' : Sg} {al : Option (Al × Tr3)} {sc : Option (Sc × ScJ)} {rs : List Int} {ph hd : Nat → Int} {tl : Bl} {x6 x8 x12 x13 : Nat}

theorem HK.cd (K : HK I A w S al sc rs ph hd n) : (plOf w 400).carved = 4 * w + 100 := by show 4 * w + 2 * ((400 + 7) / 8) = _; omega

/-- The scan steps. -/
theorem HK.scan {x : Sc} {j : ScJ} (K : HK I A w S none (some (x, j)) rs ph hd n) (hn : n ≤ 600) : mSc.inv x A ∧ ∃ S', ScS (plOf w 400) w 400 (4 * w + 101) x A S (x.step A).1 (x.step A).2 S' ∧
    (Aw I (x.step A).2 → (x.step A).1.ended = false → ∀ j', (x.step A).1.rep j' → HK I (x.step A).2 w S' none (some ((x.step A).1, j')) rs ph hd (n + 1)) ∧
    (Aw I (x.step A).2 → (x.step A).1.ended = true → HK I (x.step A).2 w S' none none (x.step A).1.left ph hd (n + 1)) := by
  have wb := K.wb
  have us := K.us
  have rl := K.rl
  have nR := K.nR
  have nL := K.nL
  have cd := K.cd
  obtain ⟨sI, -⟩ := K.scI x j rfl
  obtain ⟨inv, S', Z⟩ := sI.step K.sl K.aw.wf (by omega) ⟨by omega, by omega⟩ (by omega)
  refine ⟨inv, S', Z, ?_⟩
  generalize (x.step A).1 = y at *
  generalize (x.step A).2 = B at *
  have zus := Z.us
  have znR := Z.nR
  have znL := Z.nL
  have cell : B.rawF (4 * w + 101 + 2 * w) = 0 ∨ B.stF (B.rawF (4 * w + 101 + 2 * w)) = 1 := by
    rw [Z.rw _ (by omega)]
    rcases K.cell with h | h
    · exact .inl h
    · right
      rcases Z.st (A.rawF (4 * w + 101 + 2 * w)) with e | e
      · rw [e]; exact h
      · omega
  have body : ∀ h, B.stF h ≠ 0 → opC h = 0 ∧ B.words.getD (pos h 0) 0 = h := fun h hh => by
    rw [Z.wd]
    refine K.body h ?_
    rcases Z.st h with e | e
    · rw [← e]; exact hh
    · omega
  refine ⟨fun hB he j' rp => ⟨wb, hB, Z.sl, Z.fa.trans K.fa, by rw [Z.rl]; exact rl, by omega, by omega, by omega, cell, body, .inl rfl, fun _ _ h => (by cases h), fun x' j'' h => (by cases h; exact ⟨Z.go he, rp⟩), fun h => (by cases h), K.rsl, fun r r0 r1 => ?_⟩,
    fun hB he => ⟨wb, hB, Z.sl, Z.fa.trans K.fa, by rw [Z.rl]; exact rl, by omega, by omega, by omega, cell, body, .inl rfl, fun _ _ h => (by cases h), fun _ _ h => (by cases h), fun _ => ?_, ?_, fun r r0 r1 => ?_⟩⟩
  · have rq := K.rd r r0 r1
    refine ⟨rq.p0, fun e => by rw [Z.rw _ (by omega)]; exact rq.pub e, fun e => ?_⟩
    obtain ⟨p1, p2⟩ := rq.prot e
    obtain ⟨s1, s2⟩ := Z.safe r (hd r) (by omega) (by omega) (rq.pub (by omega)) p1 (p2 x j rfl)
    exact ⟨by rw [s1]; exact p1, fun x' j'' h => by cases h; exact s2 he⟩
  · obtain ⟨f1, f2, f3⟩ := Z.fin he
    exact ⟨f1, f2, by omega⟩
  · obtain ⟨f1, f2, f3⟩ := Z.fin he
    omega
  · have rq := K.rd r r0 r1
    refine ⟨rq.p0, fun e => by rw [Z.rw _ (by omega)]; exact rq.pub e, fun e => ?_⟩
    obtain ⟨p1, p2⟩ := rq.prot e
    obtain ⟨s1, s2⟩ := Z.safe r (hd r) (by omega) (by omega) (rq.pub (by omega)) p1 (p2 x j rfl)
    exact ⟨by rw [s1]; exact p1, fun _ _ h => by cases h⟩

/-- A scan is made. -/
theorem HK.newScan (K : HK I A w S none none rs ph hd n) {j : ScJ} (rp : (newSc w (4 * w + 101) (plOf w 400) 0 rs).rep j) : HK I A w S none (some (newSc w (4 * w + 101) (plOf w 400) 0 rs, j)) rs ph hd n := by
  have wb := K.wb
  obtain ⟨r1, r2, r3⟩ := K.rsI rfl
  obtain ⟨a, b⟩ := ScI.new (A := A) K.sl (ta := 4 * w + 101) (by omega) (xs := rs) (by omega) r1 r2
  refine ⟨wb, K.aw, K.sl, K.fa, K.rl, K.us, K.nR, K.nL, K.cell, K.body, .inl rfl, fun _ _ h => (by cases h), fun x' j' h => (by cases h; exact ⟨a, rp⟩), fun h => (by cases h), K.rsl, fun r r0 r1 => ?_⟩
  have rq := K.rd r r0 r1
  exact ⟨rq.p0, rq.pub, fun e => ⟨(rq.prot e).1, fun x' j' h => by cases h; exact b _ _ (by omega)⟩⟩
/-- The same with a scan of more. -/
theorem HK.newScan2 {x : Int} (K : HK I A w S none none rs ph hd n) (h2 : A.stF x = 2) (hx : x ∉ rs) {j : ScJ} (rp : (newSc w (4 * w + 101) (plOf w 400) 0 (rs ++ [x])).rep j) : HK I A w S none (some (newSc w (4 * w + 101) (plOf w 400) 0 (rs ++ [x]), j)) (rs ++ [x]) ph hd n := by
  have wb := K.wb
  obtain ⟨r1, r2, r3⟩ := K.rsI rfl
  obtain ⟨a, b⟩ := ScI.new (A := A) K.sl (ta := 4 * w + 101) (by omega) (xs := rs ++ [x]) (by rw [List.length_append, List.length_singleton]; omega) (List.nodup_append.2 ⟨r1, by simp, fun p hp q hq e => hx (by have := List.mem_singleton.1 hq; rw [← this, ← e]; exact hp)⟩) (fun h hh => by
    rcases List.mem_append.1 hh with e | e
    · exact r2 h e
    · rw [List.mem_singleton.1 e]; exact h2)
  refine ⟨wb, K.aw, K.sl, K.fa, K.rl, K.us, K.nR, K.nL, K.cell, K.body, .inl rfl, fun _ _ h => (by cases h), fun x' j' h => (by cases h; exact ⟨a, rp⟩), fun h => (by cases h), by rw [List.length_append, List.length_singleton]; omega, fun r r0 r1 => ?_⟩
  have rq := K.rd r r0 r1
  exact ⟨rq.p0, rq.pub, fun e => ⟨(rq.prot e).1, fun x' j' h => by cases h; exact b _ _ (by omega)⟩⟩
/-- One more waits. -/
theorem HK.more {x : Int} (K : HK I A w S none none rs ph hd n) (h2 : A.stF x = 2) (hx : x ∉ rs) (hl : rs.length ≤ 11) : HK I A w S none none (rs ++ [x]) ph hd n := by
  obtain ⟨r1, r2, r3⟩ := K.rsI rfl
  refine ⟨K.wb, K.aw, K.sl, K.fa, K.rl, K.us, K.nR, K.nL, K.cell, K.body, .inl rfl, fun _ _ h => (by cases h), fun _ _ h => (by cases h), fun _ => ⟨List.nodup_append.2 ⟨r1, by simp, fun p hp q hq e => hx (by have := List.mem_singleton.1 hq; rw [← this, ← e]; exact hp)⟩, fun h hh => ?_, by rw [List.length_append, List.length_singleton]; omega⟩, by rw [List.length_append, List.length_singleton]; omega, K.rd⟩
  rcases List.mem_append.1 hh with e | e
  · exact r2 h e
  · rw [List.mem_singleton.1 e]; exact h2
/-- An alloc is made. -/
theorem HK.newAl (K : HK I A w S none none rs ph hd n) {j : Tr3} : HK I A w S (some (newAl (plOf w 400) 0 0, j)) none rs ph hd n := by
  have wb := K.wb
  exact ⟨wb, K.aw, K.sl, K.fa, K.rl, K.us, K.nR, K.nL, K.cell, K.body, .inr rfl, fun x' j' h => (by cases h; exact ⟨AlI.new K.sl ⟨by omega, by omega⟩ ⟨by omega, by omega⟩, rfl⟩), fun _ _ h => (by cases h), K.rsI, K.rsl, K.rd⟩
/-- One pick more. -/
theorem HK.up (K : HK I A w S al sc rs ph hd n) : HK I A w S al sc rs ph hd (n + 1) :=
  ⟨K.wb, K.aw, K.sl, K.fa, K.rl, by have := K.us; omega, K.nR, K.nL, K.cell, K.body, K.one, K.alI, K.scI, K.rsI, K.rsl, K.rd⟩

theorem HK.down (K : HK I A w S al sc rs ph hd (n + 1)) (h : A.uses ≤ 6 * n) : HK I A w S al sc rs ph hd n :=
  ⟨K.wb, K.aw, K.sl, K.fa, K.rl, h, K.nR, K.nL, K.cell, K.body, K.one, K.alI, K.scI, K.rsI, K.rsl, K.rd⟩
/-- The alloc steps: it goes on, or has none. -/
theorem HK.alStep {x : Al} {j : Tr3} (K : HK I A w S (some (x, j)) none rs ph hd n) (hn : n ≤ 600) : ∃ S', AlS (plOf w 400) w 400 x A S (x.step A).1 (x.step A).2 S' ∧
    (Aw I (x.step A).2 → (x.step A).1.what ≠ 4 → ∀ j', HK I (x.step A).2 w S' (some ((x.step A).1, j')) none rs ph hd (n + 1)) ∧
    (Aw I (x.step A).2 → (x.step A).1.h = 0 → HK I (x.step A).2 w S' none none rs ph hd (n + 1)) := by
  have wb := K.wb
  have us := K.us
  have rl := K.rl
  have nR := K.nR
  have nL := K.nL
  have cd := K.cd
  obtain ⟨aI, ac⟩ := K.alI x j rfl
  obtain ⟨S', Z⟩ := aI.step K.sl K.aw.wf (by omega)
  refine ⟨S', Z, ?_⟩
  generalize (x.step A).1 = y at *
  generalize (x.step A).2 = B at *
  have zus := Z.us
  have znR := Z.nR
  have same : y.h = 0 → (∀ k, B.stF k = A.stF k) ∧ B.nL = A.nL := fun h => by
    rcases Z.res with ⟨r1, r2, r3⟩ | ⟨_, _, r3, _⟩
    · exact ⟨r2, r3⟩
    · exact (r3 h).elim
  have rw := Z.ev.rw
  have fin : Aw I B → y.h = 0 → ∀ al', (∀ x' j', al' = some (x', j') → AlI (plOf w 400) w 400 x' B S' ∧ x'.cls = 0) → HK I B w S' al' none rs ph hd (n + 1) := fun hB h0 al' ha => by
    obtain ⟨st, zL⟩ := same h0
    refine ⟨wb, hB, Z.sl, Z.ev.fa.trans K.fa, by rw [Z.ev.rl]; exact rl, by omega, by omega, by omega, ?_, fun h hh => ?_, .inr rfl, ha, fun _ _ h => (by cases h), fun _ => ?_, K.rsl, fun r r0 r1 => ?_⟩
    · rw [rw _ (by omega), st]; exact K.cell
    · rw [st] at hh; rw [Z.wd]; exact K.body h hh
    · obtain ⟨q1, q2, q3⟩ := K.rsI rfl
      exact ⟨q1, fun h hh => by rw [st]; exact q2 h hh, q3⟩
    · exact (K.rd r r0 r1).keep (rw _ (by omega)) (fun _ h => by rw [st]; exact h) fun _ _ _ x j h => (by cases h)
  refine ⟨fun hB h4 j' => ?_, fun hB h0 => fin hB h0 none fun _ _ h => (by cases h)⟩
  have i := Z.inv h4
  exact fin hB i.h0 _ fun x' j'' h => by cases h; exact ⟨i, by rw [Z.cls]; exact ac⟩
/-- It has one: its body is written. -/
theorem HK.alBorn {x : Al} {j : Tr3} (K : HK I A w S (some (x, j)) none rs ph hd n) (hn : n ≤ 600) {y : Al} {S' : Sg} (Z : AlS (plOf w 400) w 400 x A S y B S') (hB : Aw I B) (h0 : y.h ≠ 0) :
    HK I (B.storeF y.h 0 y.h) w S' none none rs ph hd (n + 1) ∧ (B.storeF y.h 0 y.h).stF y.h = 1 ∧ A.stF y.h = 0 ∧ (B.storeF y.h 0 y.h).uses = A.uses + 2 ∧ (∀ h, A.stF h ≠ 0 → (B.storeF y.h 0 y.h).stF h = A.stF h) ∧ (B.storeF y.h 0 y.h).nR = A.nR ∧ (∀ i, 4 * w + 100 < i → (B.storeF y.h 0 y.h).rawF i = A.rawF i) ∧ -(8 * A.uses) ≤ (B.storeF y.h 0 y.h).nL := by
  have wb := K.wb
  have us := K.us
  have rl := K.rl
  have nR := K.nR
  have nL := K.nL
  have cd := K.cd
  obtain ⟨aI, ac⟩ := K.alI x j rfl
  have zus := Z.us
  have znR := Z.nR
  rcases Z.res with ⟨r1, _⟩ | ⟨r1, r2, r3, r4, r5, r6, r7, r8, r9⟩
  · exact (h0 r1).elim
  have szh : sizeF (opC y.h) = 8 := by rw [r5, ac]; rfl
  have inok : B.inOk y.h 0 := ⟨by rw [r8, if_pos rfl]; decide, by omega, by omega⟩
  obtain ⟨Q, qu⟩ := Qu.store Z.sl (by omega) (h := y.h) (off := 0) (v := y.h) inok
  have hC := hB.storeF y.h 0 y.h
  have ew : (B.storeF y.h 0 y.h).words = B.words.set (pos y.h 0) y.h := by rw [storeF_yes inok]; rfl
  have pl := pos_lt hB.wf inok
  have er : ∀ i, (B.storeF y.h 0 y.h).rawF i = B.rawF i := fun i => by rw [storeF_yes inok]; exact rawF_congr rfl i
  generalize B.storeF y.h 0 y.h = C at *
  have st : ∀ h, C.stF h = if h = y.h then 1 else A.stF h := fun h => by rw [Q.st, r8]
  have sta : ∀ h, A.stF h ≠ 0 → C.stF h = A.stF h := fun h hh => by rw [st, if_neg]; intro e; rw [e, r7] at hh; exact hh rfl
  have s8 : sizeF x.cls = 8 := by rw [ac]; rfl
  have rwC : ∀ i, 4 * w + 100 < i → C.rawF i = A.rawF i := fun i hi => by rw [er]; exact Z.ev.rw i (by omega)
  refine ⟨⟨wb, hC, Q.sl, Q.ev.fa.trans (Z.ev.fa.trans K.fa), by rw [Q.ev.rl, Z.ev.rl]; exact rl, by omega, by rw [Q.nR]; omega, by rw [Q.nL, r9]; omega, ?_, fun h hh => ?_, .inl rfl, fun _ _ h => (by cases h), fun _ _ h => (by cases h), fun _ => ?_, K.rsl, fun r r0 r1' => ?_⟩, by rw [st, if_pos rfl], r7, by omega, sta, by rw [Q.nR, znR], rwC, by rw [Q.nL, r9]; omega⟩
  · rw [rwC _ (by omega)]
    rcases K.cell with h | h
    · exact .inl h
    · right; rw [sta _ (by rw [h]; decide)]; exact h
  · rw [ew]
    rw [st] at hh
    by_cases e : h = y.h
    · subst e
      refine ⟨by rw [r5]; exact ac, ?_⟩
      rw [List.getD_eq_getElem?_getD, List.getElem?_set_self pl]; rfl
    · rw [if_neg e] at hh
      obtain ⟨b1, b2⟩ := K.body h hh
      refine ⟨b1, ?_⟩
      have hne : opB h ≠ opB y.h := fun e2 => by
        have h1 : B.stF y.h ≠ 0 := by rw [r8, if_pos rfl]; decide
        have h2 := stF_one (A := B) (h := y.h) (k := h) h1 e2 e
        rw [r8, if_neg e] at h2; exact hh h2
      have hbn := opB_nat h
      have hyn := opB_nat y.h
      have : pos y.h 0 ≠ pos h 0 := by unfold pos; omega
      rw [List.getD_eq_getElem?_getD, List.getElem?_set_ne this, ← List.getD_eq_getElem?_getD, Z.wd]; exact b2
  · obtain ⟨q1, q2, q3⟩ := K.rsI rfl
    exact ⟨q1, fun h hh => by rw [sta h (by rw [q2 h hh]; decide)]; exact q2 h hh, q3⟩
  · exact (K.rd r r0 r1').keep (rwC _ (by omega)) (fun _ h => by rw [sta _ h]; exact h) fun _ _ _ x j h => (by cases h)
/-- The cell names another one. -/
theorem HK.turn (K : HK I A w S none none rs ph hd n) (hn : n ≤ 601) {h : Int} (hs : A.stF h = 1) (hu : A.uses + 1 ≤ 6 * n) :
    HK I (A.storeR (4 * w + 101 + 2 * w) h) w S none none rs ph hd n ∧ (∀ k, (A.storeR (4 * w + 101 + 2 * w) h).stF k = A.stF k) ∧ (A.storeR (4 * w + 101 + 2 * w) h).uses = A.uses + 1 ∧ (A.storeR (4 * w + 101 + 2 * w) h).nR = A.nR ∧ (A.storeR (4 * w + 101 + 2 * w) h).rawF (4 * w + 101 + 2 * w) = h ∧ (A.storeR (4 * w + 101 + 2 * w) h).nL = A.nL := by
  have wb := K.wb
  have us := K.us
  have rl := K.rl
  have nR := K.nR
  have nL := K.nL
  have cd := K.cd
  obtain ⟨q1, q2, q3, q4, q5, q6, q7, q8, q9, q10⟩ := Qu.storeR K.sl (by omega) (i := 4 * w + 101 + 2 * w) (v := h) ⟨by omega, by omega⟩
  have hB := K.aw.storeR (4 * w + 101 + 2 * w) h
  generalize A.storeR (4 * w + 101 + 2 * w) h = B at *
  refine ⟨⟨wb, hB, q1, q7.trans K.fa, by rw [q9]; exact rl, by omega, by rw [q5]; omega, by rw [q4]; omega, ?_, ?_, .inl rfl, fun _ _ h => (by cases h), fun _ _ h => (by cases h), fun h => ?_, K.rsl, fun q k0 k1 => ?_⟩, q3, q8, q5, by rw [q10, if_pos rfl], q4⟩
  · right; rw [q10, if_pos rfl, q3]; exact hs
  · intro h hh; rw [q3] at hh; rw [q6]; exact K.body h hh
  · obtain ⟨a, b, c⟩ := K.rsI h
    exact ⟨a, fun h hh => by rw [q3]; exact b h hh, c⟩
  · exact (K.rd q k0 k1).keep (by rw [q10, if_neg (by omega)]) (fun _ h => by rw [q3]; exact h) fun _ _ h => h
/-- What it named is retired. -/
theorem HK.retire (K : HK I A w S none none rs ph hd n) (hn : n ≤ 601) {h : Int} (hs : A.stF h = 1) (hc : A.rawF (4 * w + 101 + 2 * w) ≠ h) (hR : A.nR + 8 ≤ 8 * A.uses) (hL : -(8 * A.uses) + 8 ≤ A.nL) :
    HK I (A.retireF h) w S none none rs ph hd n ∧ (A.retireF h).stF h = 2 ∧ h ∉ rs ∧ (A.retireF h).uses = A.uses ∧ A.turnB h 1 = true := by
  have wb := K.wb
  have us := K.us
  have rl := K.rl
  have nR := K.nR
  have nL := K.nL
  have cd := K.cd
  have us0 := K.sl.F.us
  obtain ⟨b1, b2⟩ := K.body h (by rw [hs]; decide)
  have s8 : sizeF (opC h) = 8 := by rw [b1]; rfl
  obtain ⟨Y, st, yL, yR, E, -, u, wd, fa⟩ := Ev.retire K.sl K.aw.wf (by omega) hs ⟨by omega, by omega⟩
  have hB := K.aw.retireF h
  have hnr : h ∉ rs := fun e => by have := (K.rsI rfl).2.1 h e; omega
  generalize A.retireF h = B at *
  have stn : ∀ k, A.stF k ≠ 0 → B.stF k ≠ 0 := fun k hk => by rw [st]; split; decide; exact hk
  refine ⟨⟨wb, hB, Y, fa.trans K.fa, by rw [E.rl]; exact rl, by omega, by omega, by omega, ?_, fun k hk => ?_, .inl rfl, fun _ _ h => (by cases h), fun _ _ h => (by cases h), fun _ => ?_, K.rsl, fun q k0 k1 => ?_⟩, by rw [st, if_pos rfl], hnr, u, decide_eq_true hs⟩
  · rw [E.rw _ (by omega), st, if_neg hc]; exact K.cell
  · rw [wd]
    refine K.body k fun e => hk ?_
    rw [st, if_neg (fun e2 => by rw [e2, hs] at e; cases e)]; exact e
  · obtain ⟨a, b, c⟩ := K.rsI rfl
    exact ⟨a, fun k hk => by rw [st, if_neg (fun e => hnr (by rw [← e]; exact hk))]; exact b k hk, c⟩
  · exact (K.rd q k0 k1).keep (E.rw _ (by omega)) (fun _ h => stn _ h) fun _ _ _ x j h => (by cases h)
/-- A reader's place and what it holds turn, no word does. -/
theorem HK.read (K : HK I A w S al sc rs ph hd n) {r : Nat} (r0 : 1 ≤ r) (r1 : (r : Int) < w) {p h : Int} (hr : RdI A w sc r p h) : HK I A w S al sc rs (fun j => if j = r then p else ph j) (fun j => if j = r then h else hd j) n := by
  refine ⟨K.wb, K.aw, K.sl, K.fa, K.rl, K.us, K.nR, K.nL, K.cell, K.body, K.one, K.alI, K.scI, K.rsI, K.rsl, fun q k0 k1 => ?_⟩
  by_cases e : q = r
  · subst e; rw [if_pos rfl, if_pos rfl]; exact hr
  · rw [if_neg e, if_neg e]; exact K.rd q k0 k1
/-- What the cell names, no scan frees. -/
theorem HK.cellSafe (K : HK I A w S al sc rs ph hd n) {h r : Int} (hs : A.stF h = 1) : ∀ x j, sc = some (x, j) → Safe x r h := fun x j e => by
  obtain ⟨s, -⟩ := K.scI x j e
  unfold Safe
  rcases s.st with ⟨a1, a2, a3, a4, a5, a6, a7⟩ | ⟨a1, a2, a3, a4, a5, a6, a7, a8⟩
  · rw [if_neg (by rw [a1]; simp)]
    intro hl; have := a6 h hl; omega
  · rw [if_pos a1]
    intro hm
    obtain ⟨f, hf, rfl⟩ := List.mem_map.1 hm
    cases hfr : x.frees with
    | nil => rw [hfr] at hf; cases hf
    | cons g gs =>
      rw [hfr] at hf a4
      rcases List.mem_cons.1 hf with e | e
      · subst e; have := a4.1.st; omega
      · have := (a4.2 f e).2; omega
end
end Go.Proofs.Ytfphgiipekkgdaa

set_option linter.unusedVariables false
set_option linter.unusedSimpArgs false
set_option maxRecDepth 20000
namespace Go.Proofs.Ytfphgiipekkgdaa
open Go Go.Fw

theorem arrI {N k : Nat} {v : Int} {g : Nat → Int} : (arrC N fun j => if j = k then Value.int .i64 v else .int .i64 (g j)) = arrC N fun j => .int .i64 (if j = k then v else g j) := by
  congr 1; funext j; split <;> rfl
theorem ifself {k : Nat} {g : Nat → Int} : (fun j => if j = k then g k else g j) = g := by
  funext j
  by_cases e : j = k
  · rw [if_pos e, e]
  · rw [if_neg e]

section
variable {L : Hands} {R : Value → Heap → Prop} {H : Heap} {I : List Nat} {A B : Ar} {w n : Int} {S S' : Sg} {al : Option (Al × Tr3)} {sc : Option (Sc × ScJ)} {rs : List Int} {ph hd : Nat → Int} {tl : Bl} {x6 x8 x12 x13 : Nat} {q : Bool} {s : Sl}

abbrev KpC (I : List Nat) (H : Heap) (L : Hands) (R : Value → Heap → Prop) (x6 x8 x12 x13 : Nat) (w n : Int) (q : Bool) : Prop :=
  ∀ A S al sc rs ph hd s tl, HK I A w S al sc rs ph hd (n + 1) → SlOf tl ty_int eI s rs → Ok I H (keys (kpB x6 x8 x12 x13 w ph hd al sc tl)) → wp Try.prog (.again 896 [.bool q, .pointer (alP al), .pointer (scP sc), .slice s.a s.len s.cap, .int .i64 (n + 1)]) L (own A (kpB x6 x8 x12 x13 w ph hd al sc tl) H) R

theorem kp_J1 (K : HK I A w S al sc rs ph hd (n + 1)) (hs : SlOf tl ty_int eI s rs) (hn : 0 ≤ n ∧ n ≤ 600) (ok : Ok I H (keys (kpB x6 x8 x12 x13 w ph hd al sc tl))) (hC : KpC I H L R x6 x8 x12 x13 w n q) :
    wp Try.prog (.call f_arena_Arena_Fault [(.pointer (aI I))] (.one (.leaf .bool)) fun x210 => t_magpielaw12_HazardKeeps_J1 (q, alP al, scP sc, s, n, ()) x210) L (own A (kpB x6 x8 x12 x13 w ph hd al sc tl) H) R := by
  refine w_Fault K.aw ?_
  unfold t_magpielaw12_HazardKeeps_J1
  refine wp_false K.fa ?_
  dsimp only
  rw [w64_in (x := n + 1) (by omega) (by omega)]
  exact hC A S al sc rs ph hd s tl K hs ok

theorem kp_r12 {r : Nat} (hA : Aw I A) (r1 : (r : Int) < 7) (ok : Ok I H (keys (kpB x6 x8 x12 x13 w ph hd al sc tl))) {t' : Addr → Int → Tree} (h : wp Try.prog (t' ⟨x12, 0 + ((r : Int)).toNat, none⟩ (ph r)) L (own A (kpB x6 x8 x12 x13 w ph hd al sc tl) H) R) :
    wp Try.prog (.look (opS Try.prog (.indexAddr ty_a7_int (.tmp 0) (.tmp 1)) ty_unit [(.pointer (some ⟨x12, 0, none⟩)), (.int .i64 (r : Int))]) (.one (.leaf .addr)) fun y => .ld y (.int .i64) (t' y)) L (own A (kpB x6 x8 x12 x13 w ph hd al sc tl) H) R :=
  w_arn (N := 7) (g := fun i => .int .i64 (ph i)) (x := ph r) (lf := .int .i64) (e := ty_int) hA ok (List.mem_cons_of_mem _ List.mem_cons_self) rfl rfl rfl (by omega) r1 (by rw [Int.toNat_natCast]; rfl) h
theorem kp_r13 {r : Nat} (hA : Aw I A) (r1 : (r : Int) < 7) (ok : Ok I H (keys (kpB x6 x8 x12 x13 w ph hd al sc tl))) {t' : Addr → Int → Tree} (h : wp Try.prog (t' ⟨x13, 0 + ((r : Int)).toNat, none⟩ (hd r)) L (own A (kpB x6 x8 x12 x13 w ph hd al sc tl) H) R) :
    wp Try.prog (.look (opS Try.prog (.indexAddr ty_a7_int (.tmp 0) (.tmp 1)) ty_unit [(.pointer (some ⟨x13, 0, none⟩)), (.int .i64 (r : Int))]) (.one (.leaf .addr)) fun y => .ld y (.int .i64) (t' y)) L (own A (kpB x6 x8 x12 x13 w ph hd al sc tl) H) R :=
  w_arn (N := 7) (g := fun i => .int .i64 (hd i)) (x := hd r) (lf := .int .i64) (e := ty_int) hA ok List.mem_cons_self rfl rfl rfl (by omega) r1 (by rw [Int.toNat_natCast]; rfl) h
theorem kp_s12 {r : Nat} {v : Int} {t' : Tree} (hA : Aw I A) (r1 : (r : Int) < 7) (ok : Ok I H (keys (kpB x6 x8 x12 x13 w ph hd al sc tl))) (h : Ok I H (keys (kpB x6 x8 x12 x13 w (fun j => if j = r then v else ph j) hd al sc tl)) → wp Try.prog t' L (own A (kpB x6 x8 x12 x13 w (fun j => if j = r then v else ph j) hd al sc tl) H) R) :
    wp Try.prog (.look (opS Try.prog (.indexAddr ty_a7_int (.tmp 0) (.tmp 1)) ty_unit [(.pointer (some ⟨x12, 0, none⟩)), (.int .i64 (r : Int))]) (.one (.leaf .addr)) fun y => .st y (.int .i64 v) t') L (own A (kpB x6 x8 x12 x13 w ph hd al sc tl) H) R := by
  refine w_arnS (N := 7) 1 (g := fun i => .int .i64 (ph i)) (e := ty_int) hA ok rfl rfl rfl rfl (by omega) r1 rfl ?_
  rw [Int.toNat_natCast, arrI]
  exact h (by exact ok)
theorem kp_s13 {r : Nat} {v : Int} {t' : Tree} (hA : Aw I A) (r1 : (r : Int) < 7) (ok : Ok I H (keys (kpB x6 x8 x12 x13 w ph hd al sc tl))) (h : Ok I H (keys (kpB x6 x8 x12 x13 w ph (fun j => if j = r then v else hd j) al sc tl)) → wp Try.prog t' L (own A (kpB x6 x8 x12 x13 w ph (fun j => if j = r then v else hd j) al sc tl) H) R) :
    wp Try.prog (.look (opS Try.prog (.indexAddr ty_a7_int (.tmp 0) (.tmp 1)) ty_unit [(.pointer (some ⟨x13, 0, none⟩)), (.int .i64 (r : Int))]) (.one (.leaf .addr)) fun y => .st y (.int .i64 v) t') L (own A (kpB x6 x8 x12 x13 w ph hd al sc tl) H) R := by
  refine w_arnS (N := 7) 0 (g := fun i => .int .i64 (hd i)) (e := ty_int) hA ok rfl rfl rfl rfl (by omega) r1 rfl ?_
  rw [Int.toNat_natCast, arrI]
  exact h (by exact ok)

set_option maxHeartbeats 4000000 in
/-- A reader's pick. -/
theorem kp_read {r : Nat} {x28 : HL Sh1.T [(.agg [(.int .i64), (.int .i64), (.int .i64), (.int .i64), (.int .i64)]), (.leaf (.int .i64))]} {x34 : HL Sh1.T [(.agg [(.int .i64), (.int .i64)]), (.leaf (.int .i64))]} (h28 : x28.2.1 = 4 * w + 101) (h34 : x34.2.1 = 2 * w) (r0 : 1 ≤ r) (r1 : (r : Int) < w) (K : HK I A w S al sc rs ph hd n) (hs : SlOf tl ty_int eI s rs) (hn : 0 ≤ n ∧ n < 600) (ok : Ok I H (keys (kpB x6 x8 x12 x13 w ph hd al sc tl))) (hC : KpC I H L R x6 x8 x12 x13 w n q) :
    wp Try.prog (t_magpielaw12_HazardKeeps_J26 x28 ⟨x6, 0, none⟩ x34 ⟨x8, 0, none⟩ (aI I) ⟨x12, 0, none⟩ ⟨x13, 0, none⟩ (q, alP al, scP sc, s, n, ()) (r : Int)) L (own A (kpB x6 x8 x12 x13 w ph hd al sc tl) H) R := by
  have hA := K.aw
  have wb := K.wb
  have us0 := K.sl.F.us
  have us := K.us
  have rl := K.rl
  have rq := K.rd r r0 r1
  have p0 := rq.p0
  have r7 : (r : Int) < 7 := by omega
  have ec : w64 (x28.2.1 + x34.2.1) = 4 * w + 101 + 2 * w := by rw [h28, h34]; exact w64_in (by omega) (by omega)
  have tch : A.touchR (4 * w + 101 + 2 * w) = A.later 1 := by rw [touchR_yes (show A.rawOk (4 * w + 101 + 2 * w) from ⟨by omega, by omega⟩), tick_uses us0 (by omega)]
  unfold t_magpielaw12_HazardKeeps_J26
  refine wp_false (ibef (by omega)) ?_
  rw [ec]
  refine kp_r12 hA r7 ok ?_
  by_cases c0 : ph r = 0
  · refine wp_true (ibeq c0) ?_
    refine w_Raw hA fun hB => ?_
    rw [tch] at hB ⊢
    have K1 := (K.later (k := 1) ⟨by omega, by omega⟩).read r0 r1 (p := 1) (h := A.rawF (4 * w + 101 + 2 * w)) ⟨by omega, fun h => by omega, fun h => by omega⟩
    refine kp_s13 hB r7 ok fun ok1 => ?_
    refine kp_s12 hB r7 ok1 fun ok2 => ?_
    exact kp_J1 K1 hs ⟨hn.1, by omega⟩ ok2 hC
  refine wp_false (ibef c0) ?_
  refine kp_r12 hA r7 ok ?_
  by_cases c1 : ph r = 1
  · refine wp_true (ibeq c1) ?_
    refine w_ldA 2 hA ok rfl rfl rfl ?_
    refine wq_Word (tw := w) (ta := 4 * w + 101) ⟨by omega, by omega, by omega, by omega, by omega, by omega⟩ ?_
    rw [Int.add_zero]
    refine kp_r13 hA r7 ok ?_
    refine w_SetRaw hA fun hB => ?_
    obtain ⟨K1, u1⟩ := K.pub r0 r1 (v := hd r) (p := 2) (.inl ⟨rfl, rfl⟩) (.inl (by omega)) (by omega)
    refine kp_s12 hB r7 ok fun ok2 => ?_
    exact kp_J1 K1 hs ⟨hn.1, by omega⟩ ok2 hC
  refine wp_false (ibef c1) ?_
  refine kp_r12 hA r7 ok ?_
  by_cases c2 : ph r = 2
  · refine wp_true (ibeq c2) ?_
    refine kp_s12 hA r7 ok fun ok1 => ?_
    have ck : ∀ {D : Ar} {ph' : Nat → Int}, Aw I D → Ok I H (keys (kpB x6 x8 x12 x13 w ph' hd al sc tl)) → ∀ {t : Tree} {L' : Hands}, wp Try.prog t L' (own D (kpB x6 x8 x12 x13 w ph' hd al sc tl) H) R → wp Try.prog (.check (ldS ⟨x13, 0 + ((r : Int)).toNat, none⟩) (.int .i64 (hd r)) <| .check (opS Try.prog (.indexAddr ty_a7_int (.tmp 0) (.tmp 1)) ty_unit [(.pointer (some ⟨x13, 0, none⟩)), (.int .i64 (r : Int))]) (.pointer (some ⟨x13, 0 + ((r : Int)).toNat, none⟩)) t) L' (own D (kpB x6 x8 x12 x13 w ph' hd al sc tl) H) R := fun {D ph'} hD okD {t L'} h => by
      refine ck_arn (N := 7) (g := fun i => .int .i64 (hd i)) hD okD List.mem_cons_self (by omega) r7 (by rw [Int.toNat_natCast]) ?_
      exact ck_aix (N := 7) (e := ty_int) rfl rfl rfl (by omega) r7 h
    refine kp_r13 hA r7 ok1 ?_
    refine w_Raw hA fun hB => ?_
    rw [tch] at hB ⊢
    refine ck hB ok1 ?_
    have KL := K.later (k := 1) ⟨by omega, by omega⟩
    have K0 := KL.read r0 r1 (p := 0) (h := hd r) ⟨by omega, fun h => by omega, fun h => by omega⟩
    rw [ifself] at K0
    by_cases c3 : A.rawF (4 * w + 101 + 2 * w) = hd r
    · refine wp_true (ibeq c3) ?_
      refine kp_r13 hB r7 ok1 ?_
      by_cases c4 : hd r = 0
      · refine wp_false (ibnf c4) ?_
        exact kp_J1 K0 hs ⟨hn.1, by omega⟩ ok1 hC
      · refine wp_true (ibne c4) ?_
        have st1 : A.stF (hd r) = 1 := by
          rcases K.cell with h | h
          · rw [c3] at h; exact (c4 h).elim
          · rw [c3] at h; exact h
        have K3 := KL.read r0 r1 (p := 3) (h := hd r) ⟨by omega, fun _ => rq.pub (by omega), fun _ => ⟨by show A.stF (hd r) ≠ 0; rw [st1]; decide, K.cellSafe st1⟩⟩
        rw [ifself] at K3
        refine kp_s12 hB r7 ok1 fun ok2 => ?_
        have e : (fun j => if j = r then (3 : Int) else if j = r then 0 else ph j) = fun j => if j = r then 3 else ph j := by
          funext j
          by_cases h : j = r
          · rw [if_pos h, if_pos h]
          · rw [if_neg h, if_neg h, if_neg h]
        rw [e] at ok2 ⊢
        exact kp_J1 K3 hs ⟨hn.1, by omega⟩ ok2 hC
    · refine wp_false (ibef c3) ?_
      exact kp_J1 K0 hs ⟨hn.1, by omega⟩ ok1 hC
  refine wp_false (ibef c2) ?_
  refine kp_r12 hA r7 ok ?_
  by_cases c6 : ph r < 6
  · refine wp_true (decide_eq_true c6) ?_
    refine kp_r13 hA r7 ok ?_
    refine kp_r13 hA r7 ok ?_
    obtain ⟨s0, sf⟩ := rq.prot (by omega)
    obtain ⟨b1, b2⟩ := K.body _ s0
    have io : A.inOk (hd r) 0 := ⟨s0, by omega, by rw [b1]; decide⟩
    refine w_Load hA fun hB => ?_
    have et : A.touch (hd r) 0 = A.later 1 := by rw [touch_yes io, tick_uses us0 (by omega)]
    rw [et] at hB ⊢
    refine ck_arn (N := 7) (g := fun i => .int .i64 (hd i)) hB ok List.mem_cons_self (by omega) r7 (by rw [Int.toNat_natCast]) ?_
    refine ck_aix (N := 7) (e := ty_int) rfl rfl rfl (by omega) r7 ?_
    refine wp_false (ibnf (by unfold Ar.loadF; rw [if_pos io]; exact b2)) ?_
    refine kp_r12 hB r7 ok ?_
    rw [w64_in (x := ph r + 1) (by omega) (by omega)]
    have K1 := (K.later (k := 1) ⟨by omega, by omega⟩).read r0 r1 (p := ph r + 1) (h := hd r) ⟨by omega, fun _ => rq.pub (by omega), fun _ => ⟨s0, sf⟩⟩
    rw [ifself] at K1
    refine kp_s12 hB r7 ok fun ok2 => ?_
    exact kp_J1 K1 hs ⟨hn.1, by omega⟩ ok2 hC
  refine wp_false (decide_eq_false c6) ?_
  refine w_ldA 2 hA ok rfl rfl rfl ?_
  refine wq_Word (tw := w) (ta := 4 * w + 101) ⟨by omega, by omega, by omega, by omega, by omega, by omega⟩ ?_
  rw [Int.add_zero]
  refine w_SetRaw hA fun hB => ?_
  obtain ⟨K1, u1⟩ := K.pub r0 r1 (v := 0) (p := 0) (.inr rfl) (.inr (by omega)) (by omega)
  refine kp_s12 hB r7 ok fun ok2 => ?_
  exact kp_J1 K1 hs ⟨hn.1, by omega⟩ ok2 hC
end
end Go.Proofs.Ytfphgiipekkgdaa

set_option linter.unusedVariables false
set_option linter.unusedSimpArgs false
set_option maxRecDepth 20000
namespace Go.Proofs.Ytfphgiipekkgdaa
open Go Go.Fw

section
variable {L : Hands} {R : Value → Heap → Prop} {H : Heap} {I : List Nat} {A B : Ar} {w n : Int} {S S' : Sg} {al : Option (Al × Tr3)} {sc : Option (Sc × ScJ)} {rs : List Int} {ph hd : Nat → Int} {tl : Bl} {x6 x8 x12 x13 : Nat} {q : Bool} {s : Sl}

abbrev kp4 (x6 x8 x12 x13 : Nat) (w : Int) (ph hd : Nat → Int) : Bl :=
  [(x13, oc ty_a7_int (arrC 7 fun i => .int .i64 (hd i))), (x12, oc ty_a7_int (arrC 7 fun i => .int .i64 (ph i))), (x8, oc ty_hazard_Table (tbC w (4 * w + 101))), (x6, oc ty_free_Place (plCells (plOf w 400)))]

set_option maxHeartbeats 4000000 in
/-- A pick of the scan. -/
theorem kp_scan {x : Sc} {j : ScJ} (K : HK I A w S none (some (x, j)) rs ph hd n) (hs : SlOf tl ty_int eI s rs) (hn : 0 ≤ n ∧ n < 600) (ok : Ok I H (keys (kpB x6 x8 x12 x13 w ph hd none (some (x, j)) tl))) (hC : KpC I H L R x6 x8 x12 x13 w n q) :
    wp Try.prog (.call f_hazard_Scan_Step [(.pointer (some ⟨j.q, 0, none⟩)), (.pointer (aI I))] (.one (.leaf .bool)) fun x83 =>
          bif x83 then (
            .call f_hazard_Scan_Left [(.pointer (some ⟨j.q, 0, none⟩))] (.one (.leaf .slice)) fun x85 =>
            .call f_arena_Arena_Fault [(.pointer (aI I))] (.one (.leaf .bool)) fun x210 =>
            bif x210 then (
              .ret (.bool false))
            else (
              .again 896 [(.bool q), (.pointer (alP none)), (.pointer none), (.slice x85.a x85.len x85.cap), (.int .i64 (w64 (n + 1)))]))
          else (
            .call f_arena_Arena_Fault [(.pointer (aI I))] (.one (.leaf .bool)) fun x210 =>
            t_magpielaw12_HazardKeeps_J1 (q, alP none, some ⟨j.q, 0, none⟩, s, n, ()) x210)) L (own A (kpB x6 x8 x12 x13 w ph hd none (some (x, j)) tl) H) R := by
  have hA := K.aw
  obtain ⟨inv, S', Z, k1, k2⟩ := K.scan (by omega)
  obtain ⟨-, rp⟩ := K.scI x j rfl
  obtain ⟨p1, ok1⟩ := own_perm (A := A) (l' := x.bl j ++ (kp4 x6 x8 x12 x13 w ph hd ++ tl)) ok (perm_by fun c d c0 cd ca => by simp only [kpB, kp4, alB, scB, cd, ca, c0]; omega)
  rw [p1]
  have ok2 : Ok I H (keys (x.bl j) ++ keys (kp4 x6 x8 x12 x13 w ph hd ++ tl)) := by rw [← keys_append]; exact ok1
  obtain ⟨o1, o2⟩ := ok2.split
  refine w_sub (mSc_ok I A _ x j hA o1 rp inv) ?_
  rintro v K' ⟨j', rfl, rfl, ej, o3, rp', hB⟩
  refine ⟨(x.step A).1.ended, rfl, ?_⟩
  show wp Try.prog _ L (own (x.step A).2 ((x.step A).1.bl j') (putL _ H)) _
  rw [← own_append]
  have ok3 : Ok I H (keys ((x.step A).1.bl j' ++ (kp4 x6 x8 x12 x13 w ph hd ++ tl))) := by rw [keys_append]; exact o3.join o2
  have hB : Aw I (x.step A).2 := hB
  have rp' : (x.step A).1.rep j' := rp'
  have ej : j'.q = j.q := ej
  generalize (x.step A).1 = y at *
  generalize (x.step A).2 = B at *
  cases he : y.ended with
  | false =>
    refine wp_false rfl ?_
    have K1 := k1 hB he j' rp'
    obtain ⟨p2, ok4⟩ := own_perm (A := B) (l' := kpB x6 x8 x12 x13 w ph hd none (some (y, j')) tl) ok3 (perm_by fun c d c0 cd ca => by simp only [kpB, kp4, alB, scB, cd, ca, c0]; omega)
    rw [p2, ← ej]
    exact kp_J1 K1 hs ⟨hn.1, by omega⟩ ok4 hC
  | true =>
    refine wp_true rfl ?_
    have K2 := k2 hB he
    rw [← ej]
    refine w_Left hB ok3 rp' he Z.l fun s' tl' hs' ok4 => ?_
    refine w_Fault hB ?_
    refine wp_false K2.fa ?_
    rw [w64_in (x := n + 1) (by omega) (by omega)]
    obtain ⟨p2, ok5⟩ := own_perm (A := B) (l' := kpB x6 x8 x12 x13 w ph hd none none (tl' ++ (y.bl j' ++ tl))) ok4 (perm_by fun c d c0 cd ca => by simp only [kpB, kp4, alB, scB, cd, ca, c0]; omega)
    rw [p2]
    exact hC _ _ none none _ _ _ s' _ K2 (hs'.mono fun p hp => List.mem_append_left _ hp) ok5

/-- A scan is begun. -/
theorem kp_new {rs' : List Int} {s' : Sl} {T : Option Addr → Tree} (hA : Aw I A) (hl : rs'.length ≤ 1000) (hs : SlOf tl ty_int eI s' rs') (ok : Ok I H (keys (kpB x6 x8 x12 x13 w ph hd none none tl)))
    (h : ∀ j : ScJ, (newSc w (4 * w + 101) (plOf w 400) 0 rs').rep j → Ok I H (keys (kpB x6 x8 x12 x13 w ph hd none (some (newSc w (4 * w + 101) (plOf w 400) 0 rs', j)) tl)) → wp Try.prog (T (some ⟨j.q, 0, none⟩)) L (own A (kpB x6 x8 x12 x13 w ph hd none (some (newSc w (4 * w + 101) (plOf w 400) 0 rs', j)) tl) H) R) :
    wp Try.prog (.ldA ⟨x8, 0, none⟩ [(.int .i64), (.int .i64)] fun x137 =>
              .ldA ⟨x6, 0, none⟩ [(.int .i64), (.int .i64), (.int .i64), (.int .i64), (.int .i64)] fun x138 =>
              .call f_hazard_NewScan [(.agg #[(.int .i64 x137.1), (.int .i64 x137.2.1)]), (.agg #[(.int .i64 x138.1), (.int .i64 x138.2.1), (.int .i64 x138.2.2.1), (.int .i64 x138.2.2.2.1), (.int .i64 x138.2.2.2.2.1)]), (.int .i64 0), (.slice s'.a s'.len s'.cap)] (.one (.leaf .ptr)) fun x140 => T x140) L (own A (kpB x6 x8 x12 x13 w ph hd none none tl) H) R := by
  refine w_ldA 2 hA ok rfl rfl rfl (w_ldA 3 hA ok rfl rfl rfl ?_)
  have hr : SlOf (kpB x6 x8 x12 x13 w ph hd none none tl) ty_int eI s' rs' := hs.mono fun p hp => List.mem_cons_of_mem _ (List.mem_cons_of_mem _ (List.mem_cons_of_mem _ (List.mem_cons_of_mem _ hp)))
  refine w_NewScan (tw := w) (ta := 4 * w + 101) (p := plOf w 400) hA ok (hr.row hA ok) hr.len hl fun j ok1 rp => ?_
  obtain ⟨p2, ok2⟩ := own_perm (A := A) (l' := kpB x6 x8 x12 x13 w ph hd none (some (newSc w (4 * w + 101) (plOf w 400) 0 rs', j)) tl) ok1 (perm_by fun c d c0 cd ca => by simp only [kpB, alB, scB, cd, ca, c0]; omega)
  rw [p2]
  exact h j rp ok2
end
end Go.Proofs.Ytfphgiipekkgdaa

set_option linter.unusedVariables false
set_option linter.unusedSimpArgs false
set_option maxRecDepth 20000
namespace Go.Proofs.Ytfphgiipekkgdaa
open Go Go.Fw

section
variable {L : Hands} {R : Value → Heap → Prop} {H : Heap} {I : List Nat} {A B : Ar} {w n : Int} {S S' : Sg} {al : Option (Al × Tr3)} {sc : Option (Sc × ScJ)} {rs : List Int} {ph hd : Nat → Int} {tl : Bl} {x6 x8 x12 x13 : Nat} {q : Bool} {s : Sl}

/-- A scan of what there is, and on. -/
theorem kp_J9 {al0 : Option Addr} (K : HK I A w S none none rs ph hd (n + 1)) (hs : SlOf tl ty_int eI s rs) (hn : 0 ≤ n ∧ n < 600) (ok : Ok I H (keys (kpB x6 x8 x12 x13 w ph hd none none tl))) (hC : KpC I H L R x6 x8 x12 x13 w n q) :
    wp Try.prog (t_magpielaw12_HazardKeeps_J9 ⟨x6, 0, none⟩ ⟨x8, 0, none⟩ (aI I) (q, al0, none, s, n, ())) L (own A (kpB x6 x8 x12 x13 w ph hd none none tl) H) R := by
  have rl := K.rsl
  unfold t_magpielaw12_HazardKeeps_J9
  refine kp_new (rs' := rs) (s' := s) (T := fun x140 => .call f_arena_Arena_Fault [(.pointer (aI I))] (.one (.leaf .bool)) fun x210 => t_magpielaw12_HazardKeeps_J8 (q, al0, none, s, n, ()) x140 x210) K.aw (by omega) hs ok fun j rp ok1 => ?_
  have K1 := K.newScan rp
  refine w_Fault K1.aw ?_
  unfold t_magpielaw12_HazardKeeps_J8
  refine wp_false K1.fa ?_
  dsimp only
  rw [w64_in (x := n + 1) (by omega) (by omega)]
  exact hC _ _ none _ _ _ _ s _ K1 hs ok1

theorem kp_J11 {h : Int} {al0 : Option Addr} {b : Bool} (K : HK I A w S none none rs ph hd (n + 1)) (hs : SlOf tl ty_int eI s rs) (hn : 0 ≤ n ∧ n < 600) (ok : Ok I H (keys (kpB x6 x8 x12 x13 w ph hd none none tl))) (hC : KpC I H L R x6 x8 x12 x13 w n q) :
    wp Try.prog (bif (decide ((((s.len : Nat) : Int) : Int) > 3)) then (
            t_magpielaw12_HazardKeeps_J9 ⟨x6, 0, none⟩ ⟨x8, 0, none⟩ (aI I) (q, al0, none, s, n, ()))
          else (
            t_magpielaw12_HazardKeeps_J11 ⟨x6, 0, none⟩ ⟨x8, 0, none⟩ (aI I) (q, al0, none, s, n, ()) (h, b, ()))) L (own A (kpB x6 x8 x12 x13 w ph hd none none tl) H) R := by
  by_cases d : (((s.len : Nat) : Int) : Int) > 3
  · exact wp_true (decide_eq_true d) (kp_J9 K hs hn ok hC)
  refine wp_false (decide_eq_false d) ?_
  unfold t_magpielaw12_HazardKeeps_J11
  cases b with
  | false => exact wp_true rfl (kp_J9 (al0 := al0) K hs hn ok hC)
  | true =>
    refine wp_false rfl ?_
    refine w_Fault K.aw ?_
    refine wp_false K.fa ?_
    dsimp only
    rw [w64_in (x := n + 1) (by omega) (by omega)]
    exact hC _ _ none none _ _ _ s _ K hs ok

set_option maxHeartbeats 4000000 in
/-- A pick of the alloc. -/
theorem kp_alloc {x28 : HL Sh1.T [(.agg [(.int .i64), (.int .i64), (.int .i64), (.int .i64), (.int .i64)]), (.leaf (.int .i64))]} {x34 : HL Sh1.T [(.agg [(.int .i64), (.int .i64)]), (.leaf (.int .i64))]} (h28 : x28.2.1 = 4 * w + 101) (h34 : x34.2.1 = 2 * w) {x : Al} {j : Tr3} (K : HK I A w S (some (x, j)) none rs ph hd n) (hs : SlOf tl ty_int eI s rs) (hn : 0 ≤ n ∧ n < 600) (ok : Ok I H (keys (kpB x6 x8 x12 x13 w ph hd (some (x, j)) none tl))) (hC : KpC I H L R x6 x8 x12 x13 w n q) :
    wp Try.prog (t_magpielaw12_HazardKeeps_J26 x28 ⟨x6, 0, none⟩ x34 ⟨x8, 0, none⟩ (aI I) ⟨x12, 0, none⟩ ⟨x13, 0, none⟩ (q, some ⟨j.1, 0, none⟩, none, s, n, ()) 0) L (own A (kpB x6 x8 x12 x13 w ph hd (some (x, j)) none tl) H) R := by
  have hA := K.aw
  have wb := K.wb
  have us0 := K.sl.F.us
  have us := K.us
  have rl := K.rl
  have nR := K.nR
  have rsl := K.rsl
  have en : w64 (n + 1) = n + 1 := w64_in (by omega) (by omega)
  have ec : w64 (x28.2.1 + x34.2.1) = 4 * w + 101 + 2 * w := by rw [h28, h34]; exact w64_in (by omega) (by omega)
  obtain ⟨S', Z, k1, k2⟩ := K.alStep (by omega)
  have kb := fun hB h0 => K.alBorn (B := (x.step A).2) (by omega) Z hB h0
  obtain ⟨IA, ac⟩ := K.alI x j rfl
  have lst := IA.lst
  unfold t_magpielaw12_HazardKeeps_J26
  refine wp_true rfl ?_
  obtain ⟨p1, ok1⟩ := own_perm (A := A) (l' := x.bl j ++ (kp4 x6 x8 x12 x13 w ph hd ++ tl)) ok (perm_by fun c d c0 cd ca => by simp only [kpB, kp4, alB, scB, cd, ca, c0]; omega)
  rw [p1]
  have ok2 : Ok I H (keys (x.bl j) ++ keys (kp4 x6 x8 x12 x13 w ph hd ++ tl)) := by rw [← keys_append]; exact ok1
  obtain ⟨o1, o2⟩ := ok2.split
  refine w_sub (mAl_ok I A _ x j hA o1 ⟨lst.1, by omega⟩) ?_
  rintro v K' ⟨j', rfl, rfl, ej, o3, hB⟩
  refine ⟨(x.step A).1.what == 4, rfl, ?_⟩
  show wp Try.prog _ L (own (x.step A).2 ((x.step A).1.bl j') (putL _ H)) _
  rw [← own_append]
  have ok3 : Ok I H (keys ((x.step A).1.bl j' ++ (kp4 x6 x8 x12 x13 w ph hd ++ tl))) := by rw [keys_append]; exact o3.join o2
  have hB : Aw I (x.step A).2 := hB
  have ej : j'.1 = j.1 := ej
  generalize (x.step A).1 = y at *
  generalize (x.step A).2 = B at *
  dsimp only
  rw [en]
  by_cases h4 : y.what = 4
  case neg =>
    refine wp_true (by simp [h4]) ?_
    have K1 := k1 hB h4 j'
    obtain ⟨p2, ok4⟩ := own_perm (A := B) (l' := kpB x6 x8 x12 x13 w ph hd (some (y, j')) none tl) ok3 (perm_by fun c d c0 cd ca => by simp only [kpB, kp4, alB, scB, cd, ca, c0]; omega)
    rw [p2, ← ej]
    exact hC _ _ (some (y, j')) none _ _ _ s _ K1 hs ok4
  refine wp_false (by rw [h4]; rfl) ?_
  rw [← ej]
  refine w_Handle 0 (x := y) hB ok3 rfl ?_
  obtain ⟨p2, ok4⟩ := own_perm (A := B) (l' := kpB x6 x8 x12 x13 w ph hd none none (y.bl j' ++ tl)) ok3 (perm_by fun c d c0 cd ca => by simp only [kpB, kp4, alB, scB, cd, ca, c0]; omega)
  rw [p2]
  have hs4 : SlOf (y.bl j' ++ tl) ty_int eI s rs := hs.mono fun p hp => List.mem_append_right _ hp
  by_cases h0 : y.h = 0
  · refine wp_false (by show ((y.h : Int) != 0) = false; rw [h0]; rfl) ?_
    have eb : ((y.h : Int) != 0) = false := by rw [h0]; rfl
    exact kp_J11 (k2 hB h0) hs4 hn ok4 hC
  have eb : ((y.h : Int) != 0) = true := bne_iff_ne.2 h0
  refine wp_true eb ?_
  obtain ⟨KC, sy, sy0, uC, sta, nRC, rwC, nLC⟩ := kb hB h0
  dsimp only
  rw [ec]
  refine w_Store hB fun hC1 => ?_
  generalize B.storeF y.h 0 y.h = C at *
  have rlC := KC.rl
  have tch : C.touchR (4 * w + 101 + 2 * w) = C.later 1 := by rw [touchR_yes (show C.rawOk (4 * w + 101 + 2 * w) from ⟨by omega, by omega⟩), tick_uses KC.sl.F.us (by omega)]
  refine w_Raw hC1 fun hD => ?_
  rw [tch] at hD ⊢
  have uD : (C.later 1).uses = C.uses + 1 := rfl
  have KD := (KC.later (k := 1) ⟨by omega, by omega⟩).down (by rw [uD]; omega)
  obtain ⟨KE, stE, uE, nRE, cE, nLE⟩ := KD.turn (by omega) (h := y.h) sy (by rw [uD]; omega)
  refine w_SetRaw hD fun hE => ?_
  have nRD : (C.later 1).nR = C.nR := rfl
  have nLD : (C.later 1).nL = C.nL := rfl
  have stD : ∀ h, (C.later 1).stF h = C.stF h := fun _ => rfl
  have rC := rwC (4 * w + 101 + 2 * w) (by omega)
  generalize (C.later 1).storeR (4 * w + 101 + 2 * w) y.h = E at *
  by_cases cx : C.rawF (4 * w + 101 + 2 * w) = 0
  · refine wp_false (ibnf cx) ?_
    exact kp_J11 KE hs4 hn ok4 hC
  refine wp_true (ibne cx) ?_
  have sx : A.stF (C.rawF (4 * w + 101 + 2 * w)) = 1 := by
    rw [rC] at cx ⊢
    rcases K.cell with h | h
    · exact (cx h).elim
    · exact h
  generalize C.rawF (4 * w + 101 + 2 * w) = o at *
  have hyo : E.rawF (4 * w + 101 + 2 * w) ≠ o := by rw [cE]; intro e; rw [e, sx] at sy0; cases sy0
  obtain ⟨KF, sF, nF, uF, tF⟩ := KE.retire (by omega) (h := o) (by rw [stE, stD, sta o (by rw [sx]; decide)]; exact sx) hyo (by omega) (by omega)
  refine w_Retire hE fun hF => ?_
  refine wp_true tF ?_
  generalize E.retireF o = F at *
  refine w_app1 (pre := kp4 x6 x8 x12 x13 w ph hd) hF ok4 hs4 (by omega) fun s' tl' hs' ok5 _ => ?_
  have ok5 : Ok I H (keys (kpB x6 x8 x12 x13 w ph hd none none tl')) := ok5
  show wp Try.prog _ L (own F (kpB x6 x8 x12 x13 w ph hd none none tl') H) R
  have sl := hs'.len
  rw [List.length_append, List.length_singleton] at sl
  by_cases d : ((s'.len : Nat) : Int) > 3
  · refine wp_true (decide_eq_true d) ?_
    refine kp_new (rs' := rs ++ [o]) (s' := s') (T := fun x140 => .call f_arena_Arena_Fault [(.pointer (aI I))] (.one (.leaf .bool)) fun x210 => t_magpielaw12_HazardKeeps_J4 (q, some ⟨j'.1, 0, none⟩, none, s, n, ()) s' x140 x210) hF (by rw [List.length_append, List.length_singleton]; omega) hs' ok5 fun jj rp ok6 => ?_
    have K1 := KF.newScan2 sF nF rp
    refine w_Fault K1.aw ?_
    unfold t_magpielaw12_HazardKeeps_J4
    refine wp_false K1.fa ?_
    dsimp only
    rw [en]
    exact hC _ _ none _ _ _ _ s' _ K1 hs' ok6
  · refine wp_false (decide_eq_false d) ?_
    refine wp_false (by rw [eb]; rfl) ?_
    have K1 := KF.more sF nF (by omega)
    refine w_Fault K1.aw ?_
    refine wp_false K1.fa ?_
    exact hC _ _ none none _ _ _ s' _ K1 hs' ok5
end

theorem eqA12 (a : Addr) : opS Try.prog (.binOp .eql ty_p_arena_Arena (.tmp 0) (.const (.pointer none)) ty_p_arena_Arena) ty_bool [(.pointer (some a))] = .pure (.value (.bool false)) := by kernel_rfl
theorem ea_none : opS Try.prog (.binOp .eql ty_p_slab_Alloc (.tmp 0) (.const (.pointer none)) ty_p_slab_Alloc) ty_bool [(.pointer none)] = .pure (.value (.bool true)) := by kernel_rfl
theorem nnS_none : opS Try.prog (.binOp .neq ty_p_hazard_Scan (.tmp 0) (.const (.pointer none)) ty_p_hazard_Scan) ty_bool [(.pointer none)] = .pure (.value (.bool false)) := by kernel_rfl
end Go.Proofs.Ytfphgiipekkgdaa

