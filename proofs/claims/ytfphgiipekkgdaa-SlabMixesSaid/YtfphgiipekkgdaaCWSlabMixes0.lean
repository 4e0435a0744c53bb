/- Texts of this claim, one behind the other. -/
import Derived.Test.YtfphgiipekkgdaaB3
set_option linter.unusedSimpArgs false
set_option linter.unusedVariables false
set_option linter.unusedVariables false
set_option linter.unusedSimpArgs false
set_option maxRecDepth 20000
namespace Go.Proofs.Ytfphgiipekkgdaa
open Go Go.Fw

/-! ### Machines of lists, whatever falls between their steps -/

theorem rawF_set1 {A : Ar} {i j v : Int} (hi : A.rawOk i) : (A.setR i.toNat v).rawF j = if j = i then v else A.rawF j := by
  unfold Ar.rawOk at hi
  by_cases hj : A.rawOk j
  · have hj' : (A.setR i.toNat v).rawOk j := by unfold Ar.rawOk Ar.setR at *; simpa using hj
    rw [← getD_rawF hj', ← getD_rawF hj]
    unfold Ar.rawOk at hj
    show (A.raw.set i.toNat v).getD j.toNat 0 = _
    rw [List.getD_eq_getElem?_getD, List.getElem?_set]
    by_cases e : j = i
    · rw [if_pos e, if_pos (by rw [e]), if_pos (by omega)]; rfl
    · rw [if_neg e, if_neg (by omega), List.getD_eq_getElem?_getD]
  · have hj' : ¬ (A.setR i.toNat v).rawOk j := by unfold Ar.rawOk Ar.setR at *; simpa using hj
    have e : ¬ j = i := fun e => hj (e ▸ hi)
    rw [if_neg e]; unfold Ar.rawF; rw [if_neg hj, if_neg hj']

theorem set_self {l : List Int} {i : Nat} {v : Int} (hi : i < l.length) (h : l.getD i 0 = v) : l.set i v = l := by
  rw [List.getD_eq_getElem?_getD, List.getElem?_eq_getElem hi] at h
  have h : l[i] = v := h
  rw [← h]; exact List.set_getElem_self hi

/-- Words turned, one use. -/
structure RStep (w n : Int) (A B : Ar) : Prop where
  eq : ∃ r : List Int, B = { A with raw := r, uses := A.uses + 1 } ∧ r.length = A.raw.length
  up : ∀ i, 4 * w + n ≤ i → B.rawF i = A.rawF i

/-- What the step of another one leaves; mb: the base whose link it may turn. -/
structure FEv (w n : Int) (A B : Ar) (mb : Int) : Prop where
  hd : ∀ k, 0 ≤ k → k < 4 * w → A.rawF k / 131072 ≤ B.rawF k / 131072 ∧ (A.rawF k / 131072 = B.rawF k / 131072 → B.rawF k = A.rawF k)
  lk : ∀ b, 0 ≤ b → b % 8 = 0 → b / 8 < n → b ≠ mb → B.rawF (4 * w + b / 8) = A.rawF (4 * w + b / 8)

section
variable {A B : Ar} {p : Pl} {w n k b : Int} {ch : Int → List Int}

theorem FEv.same {mb : Int} (h : ∀ i, 0 ≤ i → i < 4 * w + n → B.rawF i = A.rawF i) (wb : 0 ≤ w) (nb : 0 ≤ n) : FEv w n A B mb :=
  ⟨fun k h0 h1 => by rw [h k h0 (by omega)]; exact ⟨Int.le_refl _, fun _ => rfl⟩, fun b h0 h1 h2 _ => h _ (by omega) (by omega)⟩
theorem FEv.trans {C : Ar} {mb : Int} (h : FEv w n A B mb) (g : FEv w n B C mb) : FEv w n A C mb :=
  ⟨fun k h0 h1 => by
    obtain ⟨a1, a2⟩ := h.hd k h0 h1
    obtain ⟨b1, b2⟩ := g.hd k h0 h1
    exact ⟨by omega, fun e => by rw [b2 (by omega), a2 (by omega)]⟩, fun b h0 h1 h2 h3 => by rw [g.lk b h0 h1 h2 h3, h.lk b h0 h1 h2 h3]⟩

theorem FL.same (F : FL B p w n ch) (hr : ∀ i, A.rawF i = B.rawF i) (hl : A.raw.length = B.raw.length) (us : 0 ≤ A.uses) (hd : ∀ k, 0 ≤ k → k < 4 * w → A.rawF k / 131072 ≤ A.uses) : FL A p w n ch where
  heads := F.heads
  links := F.links
  wb := F.wb
  nb := F.nb
  len := by rw [hl]; exact F.len
  us := us
  hd k h0 h1 := ⟨by rw [hr]; exact (F.hd k h0 h1).1, hd k h0 h1⟩
  chn k h0 h1 := by
    rw [hr]
    exact chain_frame (fun i => by unfold Ar.rawOk; rw [hl]) _ _ (fun x _ => hr _) (F.chn k h0 h1)
  mem := F.mem
  nd := F.nd
  dj := F.dj
  rg := F.rg

theorem FL.tick (F : FL A p w n ch) : FL (A.later 1) p w n ch := F.congr (fun _ _ _ => rfl) rfl (by show A.uses ≤ A.uses + 1; omega)

/-- A head that was swapped. -/
theorem FL.pop1 (F : FL A p w n ch) (hu : A.uses ≤ 1000000000) {l : List Int} (hk : ch k = b :: l) :
    FL ((A.later 1).setR k.toNat (nextF (A.rawF k) (A.rawF (4 * w + b / 8)))) p w n (upd ch k l) ∧ FEv w n A ((A.later 1).setR k.toNat (nextF (A.rawF k) (A.rawF (4 * w + b / 8)))) (-1) := by
  obtain ⟨h0, h1⟩ := F.rg k (by rw [hk]; simp)
  have wb := F.wb
  have nb := F.nb
  have us := F.us
  have o1 := F.hdOk h0 h1
  have hkd := F.hd k h0 h1
  have hch := F.chn k h0 h1
  rw [hk] at hch
  have hc := chain_pop (A := A) (lk := 4 * w) (hd := k) (b := b) (l := l) (by rw [mod17]; exact hch) o1 (by omega) (fun x hx => by
    obtain ⟨a1, a2, a3⟩ := F.mem k x (by rw [hk]; exact hx)
    exact ⟨a2, a1, by omega, F.lkOk a1 a3, by omega⟩)
  have rf : ∀ j, ((A.later 1).setR k.toNat (nextF (A.rawF k) (A.rawF (4 * w + b / 8)))).rawF j = if j = k then nextF (A.rawF k) (A.rawF (4 * w + b / 8)) else A.rawF j := fun j => rawF_set1 (A := A.later 1) o1
  have nx : nextF (A.rawF k) (A.rawF (4 * w + b / 8)) = (A.rawF k / 131072 + 1) * 131072 + A.rawF (4 * w + b / 8) := nextF_eq (by omega) (by omega) hc.2.2.2.1 hc.2.2.2.2
  have b0 := hc.2.2.2.1
  have b1 := hc.2.2.2.2
  refine ⟨(F.pop hu hk).same (fun i => rawF_congr rfl i) (by show (A.raw.set _ _).length = (A.raw.set _ _).length; rw [List.length_set]) (by show 0 ≤ A.uses + 1; omega) fun j j0 j1 => ?_, fun j j0 j1 => ?_, fun c c0 c1 c2 _ => ?_⟩
  · rw [rf]
    show _ ≤ A.uses + 1
    by_cases e : j = k
    · rw [if_pos e, nx]; omega
    · rw [if_neg e]; have := F.hd j j0 j1; omega
  · rw [rf]
    by_cases e : j = k
    · rw [if_pos e, nx, e]; exact ⟨by omega, fun h => by omega⟩
    · rw [if_neg e]; exact ⟨Int.le_refl _, fun _ => rfl⟩
  · rw [rf, if_neg (by omega)]

theorem FL.push1 (F : FL A p w n ch) (hu : A.uses ≤ 1000000000) (h0 : 0 ≤ k) (h1 : k < 4 * w) (hb : 0 ≤ b ∧ b % 8 = 0 ∧ b / 8 < n) (hn : ∀ j, b ∉ ch j) (hl : A.rawF (4 * w + b / 8) = A.rawF k % 131072) :
    FL ((A.later 1).setR k.toNat (nextF (A.rawF k) (b / 8 + 1))) p w n (upd ch k (b :: ch k)) ∧ FEv w n A ((A.later 1).setR k.toNat (nextF (A.rawF k) (b / 8 + 1))) (-1) := by
  have wb := F.wb
  have nb := F.nb
  have us := F.us
  have o1 := F.hdOk h0 h1
  have o2 := F.lkOk hb.1 hb.2.2
  have hkd := F.hd k h0 h1
  have td : Int.tdiv b 8 = b / 8 := Int.tdiv_eq_ediv_of_nonneg hb.1
  have e1 : w64 (w64 (Int.tdiv b 8) + 1) = b / 8 + 1 := by rw [td, w64_in (x := b / 8) (by omega) (by omega), w64_in (by omega) (by omega)]
  have rf : ∀ j, ((A.later 1).setR k.toNat (nextF (A.rawF k) (b / 8 + 1))).rawF j = if j = k then nextF (A.rawF k) (b / 8 + 1) else A.rawF j := fun j => rawF_set1 (A := A.later 1) o1
  have nx : nextF (A.rawF k) (b / 8 + 1) = (A.rawF k / 131072 + 1) * 131072 + (b / 8 + 1) := nextF_eq (by omega) (by omega) (by omega) (by omega)
  have hraw : ((A.later 1).setR k.toNat (nextF (A.rawF k) (b / 8 + 1))).raw = (A.pushed k (4 * w + b / 8) b).raw := by
    show A.raw.set k.toNat _ = (A.raw.set (4 * w + b / 8).toNat (iand (A.rawF k) 131071)).set k.toNat (nextF (A.rawF k) (w64 (w64 (Int.tdiv b 8) + 1)))
    rw [e1, set_self (l := A.raw) (i := (4 * w + b / 8).toNat) (v := iand (A.rawF k) 131071) (by unfold Ar.rawOk at o2; omega) (by rw [getD_rawF o2, hl, mod17])]
  refine ⟨(F.push hu h0 h1 hb hn).same (fun i => rawF_congr hraw i) (by rw [hraw]) (by show 0 ≤ A.uses + 1; omega) fun j j0 j1 => ?_, fun j j0 j1 => ?_, fun c c0 c1 c2 _ => ?_⟩
  · rw [rf]
    show _ ≤ A.uses + 1
    by_cases e : j = k
    · rw [if_pos e, nx]; omega
    · rw [if_neg e]; have := F.hd j j0 j1; omega
  · rw [rf]
    by_cases e : j = k
    · rw [if_pos e, nx, e]; exact ⟨by omega, fun h => by omega⟩
    · rw [if_neg e]; exact ⟨Int.le_refl _, fun _ => rfl⟩
  · rw [rf, if_neg (by omega)]

/-- The link of a base that is in no list. -/
theorem FL.link1 (F : FL A p w n ch) (hb : 0 ≤ b ∧ b % 8 = 0 ∧ b / 8 < n) (hn : ∀ j, b ∉ ch j) (v : Int) :
    FL ((A.later 1).setR (4 * w + b / 8).toNat v) p w n ch ∧ FEv w n A ((A.later 1).setR (4 * w + b / 8).toNat v) b := by
  have wb := F.wb
  have nb := F.nb
  have us := F.us
  have o2 := F.lkOk hb.1 hb.2.2
  have rf : ∀ j, ((A.later 1).setR (4 * w + b / 8).toNat v).rawF j = if j = 4 * w + b / 8 then v else A.rawF j := fun j => rawF_set1 (A := A.later 1) o2
  refine ⟨⟨F.heads, F.links, F.wb, F.nb, by show _ ≤ ((A.raw.set _ _).length : Int); rw [List.length_set]; exact F.len, by show 0 ≤ A.uses + 1; omega, fun j j0 j1 => ?_, fun j j0 j1 => ?_, F.mem, F.nd, F.dj, F.rg⟩, fun j j0 j1 => ?_, fun c c0 c1 c2 c3 => ?_⟩
  · rw [rf, if_neg (by omega)]
    show _ ∧ _ ≤ A.uses + 1
    have := F.hd j j0 j1; omega
  · rw [rf, if_neg (by omega)]
    refine chain_frame (fun i => by unfold Ar.rawOk; show _ ∧ i < ((A.raw.set _ _).length : Int) ↔ _; rw [List.length_set]) _ _ (fun x hx => ?_) (F.chn j j0 j1)
    obtain ⟨a1, a2, a3⟩ := F.mem j x hx
    have : x ≠ b := fun e => hn j (e ▸ hx)
    rw [rf, if_neg (by omega)]
  · rw [rf, if_neg (by omega)]; exact ⟨Int.le_refl _, fun _ => rfl⟩
  · rw [rf, if_neg (by omega)]

/-- A pop under way. -/
structure PoI (p : Pl) (w n k : Int) (x : Po) (A : Ar) : Prop where
  pl : x.pl = p
  hd : x.head = k
  ok : x.ok = false
  ph : x.at' = 0 ∨ x.at' = 1 ∨ x.at' = 2
  was : x.at' ≠ 0 → 0 ≤ x.was ∧ x.was % 131072 ≠ 0 ∧ x.was % 131072 ≤ n ∧ x.was / 131072 ≤ A.rawF k / 131072 ∧ (x.was / 131072 = A.rawF k / 131072 → A.rawF k = x.was)
  link : x.at' = 2 → A.rawF k = x.was → x.link = A.rawF (4 * w + (x.was % 131072 - 1))

theorem PoI.new (hp : p.heads = 0) (wb : 0 ≤ w ∧ w ≤ 1000) {who c : Int} (h : headF p who c = k) : PoI p w n k ⟨p, headF p who c, 0, 0, 0, 0, false⟩ A := ⟨rfl, h, rfl, .inl rfl, fun h => (h rfl).elim, fun h => by cases h⟩

theorem PoI.keep {x : Po} (P : PoI p w n k x A) (F : FL A p w n ch) (h0 : 0 ≤ k) (h1 : k < 4 * w) {mb : Int} (hm : ∀ j, mb ∉ ch j) (E : FEv w n A B mb) : PoI p w n k x B := by
  obtain ⟨e1, e2⟩ := E.hd k h0 h1
  refine ⟨P.pl, P.hd, P.ok, P.ph, fun h => ?_, fun h hb => ?_⟩
  · obtain ⟨a1, a2, a3, a4, a5⟩ := P.was h
    exact ⟨a1, a2, a3, by omega, fun e => by rw [e2 (by omega)]; exact a5 (by omega)⟩
  · obtain ⟨a1, a2, a3, a4, a5⟩ := P.was (by omega)
    have t : A.rawF k / 131072 = B.rawF k / 131072 := by rw [hb] at e1 ⊢; omega
    have hA : A.rawF k = x.was := by rw [← hb]; exact (e2 t).symm
    rw [P.link h hA]
    obtain ⟨b, l, hbl⟩ : ∃ b l, ch k = b :: l := by
      cases hc : ch k with
      | nil => exact (a2 (by rw [← hA]; exact F.first_nil h0 h1 hc)).elim
      | cons b l => exact ⟨b, l, rfl⟩
    have hf := F.first_cons h0 h1 hbl
    rw [hA] at hf
    have hmem : b ∈ ch k := by rw [hbl]; simp
    obtain ⟨m1, m2, m3⟩ := F.mem k b hmem
    rw [hf, show b / 8 + 1 - 1 = b / 8 by omega]
    exact (E.lk b m1 m2 m3 fun e => hm k (e ▸ hmem)).symm

theorem rstep_later {w n : Int} {A : Ar} : RStep w n A (A.later 1) := ⟨⟨A.raw, rfl, rfl⟩, fun _ _ => rfl⟩
theorem rstep_set {i v : Int} (o : A.rawOk i) (h : i < 4 * w + n) : RStep w n A ((A.later 1).setR i.toNat v) := ⟨⟨A.raw.set i.toNat v, rfl, by rw [List.length_set]⟩, fun j hj => by rw [rawF_set1 (A := A.later 1) o, if_neg (by omega)]; rfl⟩

/-- A step of a pop: it goes on; it ends with nothing; it ends with a base. -/
theorem PoI.step {x : Po} (P : PoI p w n k x A) (F : FL A p w n ch) (hu : A.uses ≤ 1000000000) (h0 : 0 ≤ k) (h1 : k < 4 * w) :
    (x.stepB A = false ∧ x.stepA A = A.later 1 ∧ PoI p w n k (x.stepM A) (A.later 1)) ∨
    (x.stepB A = true ∧ x.stepA A = A.later 1 ∧ (x.stepM A).ok = false ∧ ch k = []) ∨
    (x.stepB A = true ∧ (x.stepM A).ok = true ∧ ∃ b l, ch k = b :: l ∧ (x.stepM A).base = b ∧ x.stepA A = (A.later 1).setR k.toNat (nextF (A.rawF k) (A.rawF (4 * w + b / 8)))) := by
  have us := F.us
  have wb := F.wb
  have nb := F.nb
  have o1 := F.hdOk h0 h1
  have hkd := F.hd k h0 h1
  have tk : A.tick = A.later 1 := tick_uses us (by omega)
  have eh := P.hd
  rcases P.ph with h | h | h
  · have s := Po.s0 (A := A) h (by rw [eh]; exact o1)
    rw [eh, tk] at s
    obtain ⟨s1, s2⟩ := Prod.mk.inj s
    have sb : x.stepB A = decide (A.rawF k % 131072 = 0) := by
      unfold Po.stepB; rw [if_neg (by omega), if_neg (by omega), if_neg (by omega), eh, mod17]
    by_cases c : A.rawF k % 131072 = 0
    · right; left
      refine ⟨by rw [sb, decide_eq_true c], s2, by rw [s1]; exact P.ok, ?_⟩
      cases hc : ch k with
      | nil => rfl
      | cons b l =>
        have := F.first_cons h0 h1 hc
        have := F.mem k b (by rw [hc]; simp)
        omega
    · left
      refine ⟨by rw [sb, decide_eq_false c], s2, ?_⟩
      rw [s1, if_neg c]
      obtain ⟨b, l, hbl⟩ : ∃ b l, ch k = b :: l := by
        cases hc : ch k with
        | nil => exact (c (F.first_nil h0 h1 hc)).elim
        | cons b l => exact ⟨b, l, rfl⟩
      have hf := F.first_cons h0 h1 hbl
      obtain ⟨m1, m2, m3⟩ := F.mem k b (by rw [hbl]; simp)
      exact ⟨P.pl, rfl, P.ok, .inr (.inl rfl), fun _ => ⟨hkd.1, c, by show A.rawF k % 131072 ≤ n; omega, Int.le_refl _, fun _ => rfl⟩, fun h => by cases h⟩
  · left
    obtain ⟨a1, a2, a3, a4, a5⟩ := P.was (by omega)
    have el : w64 (w64 (x.pl.links + x.was % 131072) - 1) = 4 * w + (x.was % 131072 - 1) := by
      rw [P.pl, F.links, w64_in (x := 4 * w + x.was % 131072) (by omega) (by omega), w64_in (by omega) (by omega)]; omega
    have o2 : A.rawOk (4 * w + (x.was % 131072 - 1)) := ⟨by omega, by have := F.len; omega⟩
    have s := Po.s1 (A := A) h el o2
    rw [tk] at s
    obtain ⟨s1, s2⟩ := Prod.mk.inj s
    refine ⟨by unfold Po.stepB; rw [if_pos h], s2, ?_⟩
    rw [s1]
    exact ⟨P.pl, P.hd, P.ok, .inr (.inr rfl), fun _ => ⟨a1, a2, a3, a4, a5⟩, fun _ _ => rfl⟩
  · obtain ⟨a1, a2, a3, a4, a5⟩ := P.was (by omega)
    have sb : x.stepB A = A.swapRb x.head x.was := by unfold Po.stepB; rw [if_neg (by omega), if_pos h]
    by_cases c : A.rawF k = x.was
    · right; right
      have s := Po.s2y (A := A) h (by rw [eh]; exact o1) (by rw [eh]; exact c)
      rw [eh, tk] at s
      obtain ⟨s1, s2⟩ := Prod.mk.inj s
      have sw : A.swapRb x.head x.was = true := by rw [eh]; exact decide_eq_true ⟨o1, by rw [getD_rawF o1]; exact c⟩
      obtain ⟨b, l, hbl⟩ : ∃ b l, ch k = b :: l := by
        cases hc : ch k with
        | nil => exact (a2 (by rw [← c]; exact F.first_nil h0 h1 hc)).elim
        | cons b l => exact ⟨b, l, rfl⟩
      have hf := F.first_cons h0 h1 hbl
      rw [c] at hf
      obtain ⟨m1, m2, m3⟩ := F.mem k b (by rw [hbl]; simp)
      refine ⟨by rw [sb, sw], by rw [s1], b, l, hbl, ?_, ?_⟩
      · rw [s1]
        show w64 (w64 (x.was % 131072 - 1) * 8) = b
        rw [hf, w64_in (x := b / 8 + 1 - 1) (by omega) (by omega), w64_in (by omega) (by omega)]; omega
      · rw [s2, P.link h c, c, hf, show b / 8 + 1 - 1 = b / 8 by omega]
    · left
      have s := Po.s2n (A := A) h (by rw [eh]; exact o1) (by rw [eh]; exact c)
      rw [tk] at s
      obtain ⟨s1, s2⟩ := Prod.mk.inj s
      have sw : A.swapRb x.head x.was = false := by rw [eh]; exact decide_eq_false fun e => c (by rw [← getD_rawF o1]; exact e.2)
      refine ⟨by rw [sb, sw], s2, ?_⟩
      rw [s1]
      exact ⟨P.pl, P.hd, P.ok, .inl rfl, fun h => (h rfl).elim, fun h => by cases h⟩

/-- A push under way. -/
structure PuI (p : Pl) (w n k b : Int) (x : Pu) (A : Ar) : Prop where
  pl : x.pl = p
  hd : x.head = k
  ba : x.base = b
  bb : 0 ≤ b ∧ b % 8 = 0 ∧ b / 8 < n
  ph : x.at' = 0 ∨ x.at' = 1 ∨ x.at' = 2
  was : x.at' ≠ 0 → 0 ≤ x.was
  link : x.at' = 2 → A.rawF (4 * w + b / 8) = x.was % 131072

theorem PuI.new {who c : Int} (h : headF p who c = k) (hb : 0 ≤ b ∧ b % 8 = 0 ∧ b / 8 < n) : PuI p w n k b ⟨p, headF p who c, 0, 0, b⟩ A := ⟨rfl, h, rfl, hb, .inl rfl, fun h => (h rfl).elim, fun h => by cases h⟩
theorem PuI.keep {x : Pu} (P : PuI p w n k b x A) {mb : Int} (hm : b ≠ mb) (E : FEv w n A B mb) : PuI p w n k b x B :=
  ⟨P.pl, P.hd, P.ba, P.bb, P.ph, P.was, fun h => by rw [E.lk b P.bb.1 P.bb.2.1 P.bb.2.2 hm]; exact P.link h⟩

theorem PuI.step {x : Pu} (P : PuI p w n k b x A) (F : FL A p w n ch) (hu : A.uses ≤ 1000000000) (h0 : 0 ≤ k) (h1 : k < 4 * w) (hn : ∀ j, b ∉ ch j) :
    (x.stepB A = false ∧ PuI p w n k b (x.stepM A) (x.stepA A) ∧ FL (x.stepA A) p w n ch ∧ FEv w n A (x.stepA A) b ∧ RStep w n A (x.stepA A)) ∨
    (x.stepB A = true ∧ FL (x.stepA A) p w n (upd ch k (b :: ch k)) ∧ FEv w n A (x.stepA A) b ∧ RStep w n A (x.stepA A)) := by
  have us := F.us
  have wb := F.wb
  have nb := F.nb
  have o1 := F.hdOk h0 h1
  have o2 := F.lkOk P.bb.1 P.bb.2.2
  have bb := P.bb
  have hkd := F.hd k h0 h1
  have tk : A.tick = A.later 1 := tick_uses us (by omega)
  have eh := P.hd
  have same : FEv w n A (A.later 1) b := FEv.same (fun _ _ _ => rfl) wb.1 nb.1
  have td : Int.tdiv b 8 = b / 8 := Int.tdiv_eq_ediv_of_nonneg bb.1
  rcases P.ph with h | h | h
  · left
    have s := Pu.s0 (A := A) h (by rw [eh]; exact o1)
    rw [eh, tk] at s
    obtain ⟨s1, s2⟩ := Prod.mk.inj s
    refine ⟨by unfold Pu.stepB; rw [if_neg (by omega), decide_eq_false (by omega)], ?_⟩
    rw [s1, s2]
    exact ⟨⟨P.pl, rfl, P.ba, bb, .inr (.inl rfl), fun _ => hkd.1, fun h => by cases h⟩, F.tick, same, rstep_later⟩
  · left
    have el : w64 (x.pl.links + w64 (Int.tdiv x.base 8)) = 4 * w + b / 8 := by
      rw [P.pl, P.ba, F.links, td, w64_in (x := b / 8) (by omega) (by omega), w64_in (by omega) (by omega)]
    have s := Pu.s1 (A := A) h el o2
    rw [tk, mod17] at s
    obtain ⟨s1, s2⟩ := Prod.mk.inj s
    obtain ⟨f1, f2⟩ := F.link1 bb hn (x.was % 131072)
    refine ⟨by unfold Pu.stepB; rw [if_neg (by omega), decide_eq_false (by omega)], ?_⟩
    rw [s1, s2]
    exact ⟨⟨P.pl, P.hd, P.ba, bb, .inr (.inr rfl), fun _ => P.was (by omega), fun _ => by rw [rawF_set1 (A := A.later 1) o2, if_pos rfl]⟩, f1, f2, rstep_set o2 (by omega)⟩
  · have sb : x.stepB A = A.swapRb x.head x.was := by unfold Pu.stepB; rw [if_pos h]
    have w0 := P.was (by omega)
    by_cases c : A.rawF k = x.was
    · right
      have s := Pu.s2y (A := A) h (by rw [eh]; exact o1) (by rw [eh]; exact c)
      rw [eh, tk, P.ba, td] at s
      obtain ⟨s1, s2⟩ := Prod.mk.inj s
      have sw : A.swapRb x.head x.was = true := by rw [eh]; exact decide_eq_true ⟨o1, by rw [getD_rawF o1]; exact c⟩
      have e1 : w64 (w64 (b / 8) + 1) = b / 8 + 1 := by rw [w64_in (x := b / 8) (by omega) (by omega), w64_in (by omega) (by omega)]
      rw [e1, ← c] at s2
      obtain ⟨f1, f2⟩ := F.push1 hu h0 h1 bb hn (by rw [c]; exact P.link h)
      refine ⟨by rw [sb, sw], ?_⟩
      rw [s2]
      exact ⟨f1, ⟨f2.hd, fun c c0 c1 c2 _ => f2.lk c c0 c1 c2 (by omega)⟩, rstep_set o1 (by omega)⟩
    · left
      have s := Pu.s2n (A := A) h (by rw [eh]; exact o1) (by rw [eh]; exact c)
      rw [tk] at s
      obtain ⟨s1, s2⟩ := Prod.mk.inj s
      have sw : A.swapRb x.head x.was = false := by rw [eh]; exact decide_eq_false fun e => c (by rw [← getD_rawF o1]; exact e.2)
      refine ⟨by rw [sb, sw], ?_⟩
      rw [s1, s2]
      exact ⟨⟨P.pl, P.hd, P.ba, bb, .inl rfl, fun h => (h rfl).elim, fun h => by cases h⟩, F.tick, same, rstep_later⟩
end
end Go.Proofs.Ytfphgiipekkgdaa

set_option linter.unusedVariables false
set_option linter.unusedSimpArgs false
set_option maxRecDepth 20000
namespace Go.Proofs.Ytfphgiipekkgdaa
open Go Go.Fw

/-! ### The slab's machines, whatever falls between their steps -/

section
variable {A B C : Ar} {p : Pl} {w m : Int} {S S' S2 : Sg}

/-- The lists' words turned. -/
theorem SL.ofRaw (X : SL A p w m S) {r : List Int} {ch' : Int → List Int} (hl : r.length = A.raw.length) (up : ∀ i, 4 * w + (m + 7) / 8 ≤ i → ({ A with raw := r } : Ar).rawF i = A.rawF i) (F : FL { A with raw := r } p w ((m + 7) / 8) ch')
    (hc : ∀ k b, b ∈ ch' k → S.cl b = k % 4) (ha : ∀ h, A.stF h ≠ 0 → ∀ k, opB h ∉ ch' k) : SL { A with raw := r } p w m { S with ch := ch' } := by
  obtain ⟨p1, p2, p3, p4, p5⟩ := X.places
  have wb := X.wb
  have mb := X.mb
  have st : ∀ h, ({ A with raw := r } : Ar).stF h = A.stF h := fun h => stF_slots rfl h
  refine ⟨F, X.pl, X.wb, X.mb, by show p.carved < (r.length : Int); rw [hl]; exact X.rl, X.wl, X.fr, ?_, X.cvb, ?_, X.gnb, X.gnz, X.blk, X.dis, hc, ?_, ?_, X.cr1, X.cr2, X.cnt, X.ncb, X.cnb⟩
  · rw [up _ (by omega)]; exact X.cvr
  · intro b h0 h1 h2; rw [up _ (by omega)]; exact X.gnr b h0 h1 h2
  · intro h hh
    rw [st] at hh
    exact ⟨(X.act h hh).1, ha h hh⟩
  · intro i hi
    obtain ⟨h, h1, h2, h3⟩ := X.bz i hi
    exact ⟨h, by rw [st]; exact h1, h2, h3⟩

/-- A base in nobody's list, that is not alive: somebody has it in hand. -/
def Ow (A : Ar) (S : Sg) (b : Int) : Prop := S.cl b ≠ -1 ∧ (∀ k, b ∉ S.ch k) ∧ ∀ h, A.stF h ≠ 0 → opB h ≠ b

/-- What a step leaves; mine: the base that the one who steps has in hand. -/
structure Ev (p : Pl) (w m : Int) (A : Ar) (S : Sg) (B : Ar) (S' : Sg) (mine : Int) : Prop where
  fe : FEv w ((m + 7) / 8) A B mine
  cl : ∀ b, S.cl b ≠ -1 → S'.cl b = S.cl b
  ow : ∀ b, Ow A S b → b ≠ mine → Ow B S' b
  st : ∀ h, opB h ≠ mine → B.stF h = A.stF h
  fa : B.fault = A.fault
  rl : B.raw.length = A.raw.length
  rw : ∀ i, p.carved < i → B.rawF i = A.rawF i
  us : A.uses ≤ B.uses

theorem Ev.later (X : SL A p w m S) {n mine : Int} (hn : 0 ≤ n) : Ev p w m A S (A.later n) S mine :=
  ⟨FEv.same (fun _ _ _ => rfl) X.F.wb.1 X.F.nb.1, fun _ _ => rfl, fun _ h _ => h, fun _ _ => rfl, rfl, rfl, fun _ _ => rfl, by show A.uses ≤ A.uses + n; omega⟩

theorem Ev.refl {mine : Int} : Ev p w m A S A S mine := ⟨⟨fun _ _ _ => ⟨Int.le_refl _, fun _ => rfl⟩, fun _ _ _ _ _ => rfl⟩, fun _ _ => rfl, fun _ h _ => h, fun _ _ => rfl, rfl, rfl, fun _ _ => rfl, Int.le_refl _⟩

/-- An alloc under way. -/
structure AlI (p : Pl) (w m : Int) (x : Al) (A : Ar) (S : Sg) : Prop where
  pl : x.pl = p
  who : 0 ≤ x.work ∧ x.work < w
  cls : 0 ≤ x.cls ∧ x.cls < 4
  lst : 0 ≤ x.lst ∧ x.lst ≤ w
  wh : x.what = 0 ∨ x.what = 1 ∨ x.what = 2 ∨ x.what = 3
  pops : x.what = 0 → x.lst < w ∧ ∃ k, 0 ≤ k ∧ k < 4 * w ∧ k % 4 = x.cls ∧ PoI p w ((m + 7) / 8) k x.po A
  swaps : x.what = 2 → 0 ≤ x.base ∧ x.base + sizeF x.cls ≤ m
  bears : x.what = 3 → Ow A S x.base ∧ S.cl x.base = x.cls
  h0 : x.h = 0
def Al.mine (x : Al) : Int := if x.what = 3 then x.base else -1

theorem AlI.new (X : SL A p w m S) {who c : Int} (wh : 0 ≤ who ∧ who < w) (hc : 0 ≤ c ∧ c < 4) : AlI p w m (newAl p who c) A S := by
  obtain ⟨p1, p2, p3, p4, p5⟩ := X.places
  have wb := X.wb
  have e := headF_eq (p := p) (w := who) (c := c) p1 ⟨wh.1, by omega⟩ hc
  exact ⟨rfl, wh, hc, ⟨Int.le_refl 0, by show 0 ≤ w; omega⟩, .inl rfl, fun _ => ⟨by show 0 < w; omega, 4 * who + c, by omega, by omega, by show (4 * who + c) % 4 = c; omega, PoI.new p1 ⟨by omega, by omega⟩ e⟩, fun h => (by cases h), fun h => (by cases h), rfl⟩

theorem AlI.keep {x : Al} (I : AlI p w m x A S) (X : SL A p w m S) {mine : Int} (E : Ev p w m A S B S' mine) (hm : ∀ j, mine ∉ S.ch j) (hb : x.what = 3 → x.base ≠ mine) : AlI p w m x B S' := by
  refine ⟨I.pl, I.who, I.cls, I.lst, I.wh, fun h => ?_, I.swaps, fun h => ?_, I.h0⟩
  · obtain ⟨a, k, k0, k1, k2, P⟩ := I.pops h
    exact ⟨a, k, k0, k1, k2, P.keep X.F k0 k1 hm E.fe⟩
  · obtain ⟨o, c⟩ := I.bears h
    exact ⟨E.ow _ o (hb h), by rw [E.cl _ o.1]; exact c⟩

theorem runs_one {M J : Type} {X : Mch M J} {x x' : M} {D D' : Ar} (h : X.Runs 1 x D x' D') : X.step x D = (x', D') := by
  cases h with
  | one h1 h2 h3 => rfl
  | more h1 h2 h3 h4 => cases h4

theorem count_setN : ∀ (n : Nat) {l : List Bool} {b : Nat}, b + n ≤ l.length → (setN l b true n).count true = l.count true + newsN l b n
  | 0, l, b, _ => rfl
  | n + 1, l, b, h => by
    have ih := count_setN n (l := l) (b := b) (by omega)
    show ((setN l b true n).set (b + n) true).count true = l.count true + newsN l b (n + 1)
    have hl : b + n < (setN l b true n).length := by rw [setN_length]; omega
    rw [List.count_set hl, ih]
    have hg : (setN l b true n)[b + n] = l.getD (b + n) false := by
      have := setN_get l b true n (b + n)
      rw [if_neg (by omega), List.getElem?_eq_getElem hl, List.getElem?_eq_getElem (by omega)] at this
      rw [List.getD_eq_getElem?_getD, List.getElem?_eq_getElem (by omega)]
      simpa using this
    rw [hg, show newsN l b (n + 1) = newsN l b n + (if l.getD (b + n) false then 0 else 1) from rfl]
    have hc : l.getD (b + n) false = true → 0 < l.count true + newsN l b n := fun e => by
      have : 0 < l.count true := by
        refine List.count_pos_iff.2 ?_
        rw [List.getD_eq_getElem?_getD, List.getElem?_eq_getElem (by omega)] at e
        rw [← (show l[b + n] = true from e)]; exact List.getElem_mem _
      omega
    cases e : l.getD (b + n) false
    · simp; omega
    · have := hc e
      simp; omega
theorem bornF_cc {A : Ar} (hw : A.wf) {h : Int} (hf : opB h + sizeF (opC h) ≤ A.words.length) (hc : A.nC = A.carved.count true) : (A.bornF h).nC = (A.bornF h).carved.count true := by
  have o := opC_nat h
  have hb := opB_nat h
  have szc := sz_pos (c := opC h) (by omega) (by omega)
  rw [(bornF_counts A hw h).1, bornF_carved, count_setN _ (by rw [hw.carved]; omega), hc]
  have : (A.carved.count true + newsN A.carved (opB h).toNat (sizeF (opC h)).toNat) ≤ 65536 := by
    rw [← count_setN _ (by rw [hw.carved]; omega)]
    refine Nat.le_trans List.count_le_length ?_
    rw [setN_length, hw.carved]; exact hw.words
  rw [w64_in (by omega) (by omega)]; omega

/-- How an alloc's step goes. -/
structure AlS (p : Pl) (w m : Int) (x : Al) (A : Ar) (S : Sg) (y : Al) (B : Ar) (S' : Sg) : Prop where
  wd : B.words = A.words
  sl : SL B p w m S'
  ev : Ev p w m A S B S' x.mine
  us : B.uses = A.uses + 1
  inv : y.what ≠ 4 → AlI p w m y B S'
  cls : y.cls = x.cls
  work : y.work = x.work
  acq : y.what = 3 → S.cl y.base = -1 ∨ ∃ k, y.base ∈ S.ch k
  nR : B.nR = A.nR
  cc : A.nC = A.carved.count true → B.nC = B.carved.count true
  res : (y.h = 0 ∧ (∀ k, B.stF k = A.stF k) ∧ B.nL = A.nL) ∨ (y.what = 4 ∧ x.what = 3 ∧ y.h ≠ 0 ∧ opB y.h = x.base ∧ opC y.h = x.cls ∧ openOk y.h = true ∧ A.stF y.h = 0 ∧ (∀ k, B.stF k = if k = y.h then 1 else A.stF k) ∧ B.nL = A.nL + sizeF x.cls)

theorem AlI.step {x : Al} (I : AlI p w m x A S) (X : SL A p w m S) (hwf : A.wf) (hu : A.uses ≤ 1000000) : ∃ S', AlS p w m x A S (x.step A).1 (x.step A).2 S' := by
  obtain ⟨p1, p2, p3, p4, p5⟩ := X.places
  have wb := X.wb
  have mb := X.mb
  have us := X.F.us
  have cvb := X.cvb
  have sz := sz_pos I.cls.1 I.cls.2
  have X1 := X.later (n := 1) (by omega)
  have E1 : ∀ mine, Ev p w m A S (A.later 1) S mine := fun mine => Ev.later X (by omega)
  have m0 : x.what ≠ 3 → x.mine = -1 := fun h => if_neg h
  rcases I.wh with h | h | h | h
  · obtain ⟨l0, k, k0, k1, k2, P⟩ := I.pops h
    have lst := I.lst
    have stp : x.step A = (if x.po.stepB A then Al.popd { x with po := x.po.stepM A } else { x with po := x.po.stepM A }, x.po.stepA A) := by unfold Al.step; rw [if_pos h]
    rw [stp]
    have el : w64 (x.lst + 1) = x.lst + 1 := w64_in (by omega) (by omega)
    rcases P.step X.F (by omega) k0 k1 with ⟨s1, s2, s3⟩ | ⟨s1, s2, s3, s4⟩ | ⟨s1, s2, b, l, s3, s4, s5⟩
    · rw [s1, s2, if_neg (by simp)]
      exact ⟨S, rfl, X1, E1 _, rfl, fun _ => ⟨I.pl, I.who, I.cls, I.lst, I.wh, fun _ => ⟨l0, k, k0, k1, k2, s3⟩, fun h2 => (by rw [show ({ x with po := x.po.stepM A } : Al).what = x.what from rfl, h] at h2; cases h2), fun h2 => (by rw [show ({ x with po := x.po.stepM A } : Al).what = x.what from rfl, h] at h2; cases h2), I.h0⟩, rfl, rfl, fun h2 => (by rw [show ({ x with po := x.po.stepM A } : Al).what = x.what from rfl, h] at h2; cases h2), rfl, fun h => h, .inl ⟨I.h0, fun _ => rfl, rfl⟩⟩
    · rw [s1, s2, if_pos rfl]
      unfold Al.popd
      rw [if_neg (by rw [s3]; simp)]
      dsimp only
      rw [el, I.pl, p5]
      have ei : imax w 1 = w := by unfold imax; split <;> omega
      rw [ei]
      by_cases c : x.lst + 1 ≥ w
      · rw [if_pos c]
        refine ⟨S, rfl, X1, E1 _, rfl, fun _ => ⟨rfl, I.who, I.cls, ⟨by show 0 ≤ x.lst + 1; omega, by show x.lst + 1 ≤ w; omega⟩, .inr (.inl rfl), fun h => (by cases h), fun h => (by cases h), fun h => (by cases h), I.h0⟩, rfl, rfl, fun h => (by cases h), rfl, fun h => h, .inl ⟨I.h0, fun _ => rfl, rfl⟩⟩
      · rw [if_neg c]
        have wh := I.who
        have ew : w64 (x.work + (x.lst + 1)) = x.work + (x.lst + 1) := w64_in (by omega) (by omega)
        rw [ew, Int.tmod_eq_emod_of_nonneg (by omega)]
        have q0 := Int.emod_nonneg (x.work + (x.lst + 1)) (b := w) (by omega)
        have q1 := Int.emod_lt_of_pos (x.work + (x.lst + 1)) (b := w) (by omega)
        have e := headF_eq (p := p) (w := (x.work + (x.lst + 1)) % w) (c := x.cls) p1 ⟨q0, by omega⟩ I.cls
        have cl := I.cls
        refine ⟨S, rfl, X1, E1 _, rfl, fun _ => ⟨rfl, I.who, I.cls, ⟨by show 0 ≤ x.lst + 1; omega, by show x.lst + 1 ≤ w; omega⟩, .inl h, fun _ => ⟨by show x.lst + 1 < w; omega, 4 * ((x.work + (x.lst + 1)) % w) + x.cls, by omega, by omega, by show (4 * ((x.work + (x.lst + 1)) % w) + x.cls) % 4 = x.cls; omega, PoI.new p1 ⟨by omega, by omega⟩ e⟩, fun h2 => (by rw [show x.what = 2 from h2] at h; cases h), fun h2 => (by rw [show x.what = 3 from h2] at h; cases h), I.h0⟩, rfl, rfl, fun h2 => (by rw [show x.what = 3 from h2] at h; cases h), rfl, fun h => h, .inl ⟨I.h0, fun _ => rfl, rfl⟩⟩
    · rw [s1, if_pos rfl]
      unfold Al.popd
      rw [if_pos s2]
      dsimp only
      rw [el, s4, s5]
      obtain ⟨F, fe⟩ := X.F.pop1 (by omega) s3
      have hmem : b ∈ S.ch k := by rw [s3]; simp
      have hcl := X.chc k b hmem
      have hsub : ∀ j y, y ∈ upd S.ch k l j → y ∈ S.ch j := fun j y hy => by
        unfold upd at hy; split at hy
        · rename_i e; rw [e, s3]; exact List.mem_cons_of_mem _ hy
        · exact hy
      have Y := X1.ofRaw (r := A.raw.set k.toNat (nextF (A.rawF k) (A.rawF (4 * w + b / 8)))) (ch' := upd S.ch k l) (by rw [List.length_set]; rfl) (fun i hi => by
        have := rawF_set1 (A := A.later 1) (i := k) (j := i) (v := nextF (A.rawF k) (A.rawF (4 * w + b / 8))) (X.F.hdOk k0 k1)
        rw [if_neg (by have := X.F.nb; omega)] at this
        exact this) F (fun j y hy => X.chc j y (hsub j y hy)) fun h hh j hj => (X.act h hh).2 j (hsub j _ hj)
      have hact : ∀ h, A.stF h ≠ 0 → opB h ≠ b := fun h hh e => (X.act h hh).2 k (by rw [e]; exact hmem)
      have hnin : ∀ j, b ∉ upd S.ch k l j := fun j hj => by
        unfold upd at hj; split at hj
        · have := X.F.nd k; rw [s3] at this; exact (List.nodup_cons.1 this).1 hj
        · rename_i e; exact e (X.F.dj j k b hj hmem)
      have lst := I.lst
      refine ⟨_, rfl, Y, ⟨?_, fun _ _ => rfl, fun c oc _ => ⟨oc.1, fun j hj => oc.2.1 j (hsub j c hj), oc.2.2⟩, fun _ _ => rfl, rfl, by show (A.raw.set _ _).length = _; rw [List.length_set], fun i hi => ?_, by show A.uses ≤ A.uses + 1; omega⟩, rfl, fun _ => ⟨I.pl, I.who, I.cls, ⟨by show 0 ≤ x.lst + 1; omega, by show x.lst + 1 ≤ w; omega⟩, .inr (.inr (.inr rfl)), fun h => (by cases h), fun h => (by cases h), fun _ => ⟨⟨by show S.cl b ≠ -1; omega, hnin, hact⟩, by show S.cl b = x.cls; omega⟩, I.h0⟩, rfl, rfl, fun _ => .inr ⟨k, hmem⟩, rfl, fun h => h, .inl ⟨I.h0, fun _ => rfl, rfl⟩⟩
      · rw [m0 (by omega)]; exact fe
      · have := rawF_set1 (A := A.later 1) (i := k) (j := i) (v := nextF (A.rawF k) (A.rawF (4 * w + b / 8))) (X.F.hdOk k0 k1)
        rw [if_neg (by omega)] at this
        exact this
  · have stp : x.step A = ({ x with base := A.rawF x.pl.carved, what := if A.rawF x.pl.carved > w64 (A.words.length - sizeF x.cls) then 4 else 2 }, A.touchR x.pl.carved) := by unfold Al.step; rw [if_neg (by omega), if_pos h]
    rw [stp, I.pl, X.cvr, X.wl, w64_in (x := m - sizeF x.cls) (by omega) (by omega), touchR_yes (show A.rawOk p.carved from ⟨by omega, X.rl⟩), tick_uses us (by omega)]
    by_cases c : S.cv > m - sizeF x.cls
    · rw [if_pos c]
      exact ⟨S, rfl, X1, E1 _, rfl, fun h => (h rfl).elim, rfl, rfl, fun h => (by cases h), rfl, fun h => h, .inl ⟨I.h0, fun _ => rfl, rfl⟩⟩
    · rw [if_neg c]
      exact ⟨S, rfl, X1, E1 _, rfl, fun _ => ⟨rfl, I.who, I.cls, I.lst, .inr (.inr (.inl rfl)), fun h => (by cases h), fun _ => ⟨cvb.1, by show S.cv + sizeF x.cls ≤ m; omega⟩, fun h => (by cases h), I.h0⟩, rfl, rfl, fun h => (by cases h), rfl, fun h => h, .inl ⟨I.h0, fun _ => rfl, rfl⟩⟩
  · obtain ⟨b0, b1⟩ := I.swaps h
    have stp : x.step A = ({ x with what := if A.swapRb x.pl.carved x.base then 3 else 1 }, A.swapR x.pl.carved x.base (w64 (x.base + sizeF x.cls))) := by unfold Al.step; rw [if_neg (by omega), if_neg (by omega), if_pos h]
    have okc : A.rawOk p.carved := ⟨by omega, X.rl⟩
    have tk : A.tick = A.later 1 := tick_uses us (by omega)
    rw [stp, I.pl, w64_in (x := x.base + sizeF x.cls) (by omega) (by omega)]
    by_cases c : A.rawF p.carved = x.base
    · have sw : A.swapRb p.carved x.base = true := decide_eq_true ⟨okc, by rw [getD_rawF okc]; exact c⟩
      have sa : A.swapR p.carved x.base (x.base + sizeF x.cls) = (A.later 1).setR p.carved.toNat (S.cv + sizeF x.cls) := by
        unfold Ar.swapR; rw [if_pos okc, if_pos (by rw [getD_rawF okc]; exact c), tk, ← c, X.cvr]
      rw [sw, sa, if_pos rfl]
      have ec : x.base = S.cv := by rw [← c]; exact X.cvr
      have Y := X.carve (by omega) I.cls.1 I.cls.2 (by omega)
      have hcl : S.cl S.cv = -1 := by
        by_cases h : S.cl S.cv = -1
        · exact h
        · have := X.blk _ h; have := sz_pos this.1 this.2.1; omega
      have hr : ∀ i, ((A.later 1).setR p.carved.toNat (S.cv + sizeF x.cls)).rawF i = if i = p.carved then S.cv + sizeF x.cls else A.rawF i := fun i => rawF_set1 (A := A.later 1) okc
      have nin : ∀ j, S.cv ∉ S.ch j := fun j hj => by
        have := X.chc j _ hj
        have := X.F.rg j (by intro e; rw [e] at hj; cases hj); omega
      have nac : ∀ h, A.stF h ≠ 0 → opB h ≠ S.cv := fun h hh e => by
        have := (X.act h hh).1
        rw [e, hcl] at this
        have := (opC_nat h).1; omega
      refine ⟨_, rfl, Y, ⟨?_, fun d hd => ?_, fun d od _ => ⟨?_, od.2.1, od.2.2⟩, fun _ _ => rfl, rfl, by show (A.raw.set _ _).length = _; rw [List.length_set], fun i hi => by rw [hr, if_neg (by omega)], by show A.uses ≤ A.uses + 1; omega⟩, rfl, fun _ => ⟨rfl, I.who, I.cls, I.lst, .inr (.inr (.inr rfl)), fun h => (by cases h), fun h => (by cases h), fun _ => ⟨⟨?_, ?_, ?_⟩, ?_⟩, I.h0⟩, rfl, rfl, fun _ => .inl ?_, rfl, fun h => h, .inl ⟨I.h0, fun _ => rfl, rfl⟩⟩
      · exact FEv.same (fun i i0 i1 => by rw [hr, if_neg (by omega)]) (by omega) (by omega)
      · show updI S.cl S.cv x.cls d = _
        unfold updI; rw [if_neg (fun e => hd (by rw [e]; exact hcl))]
      · show updI S.cl S.cv x.cls d ≠ -1
        unfold updI; rw [if_neg (fun e => od.1 (by rw [e]; exact hcl))]; exact od.1
      · show updI S.cl S.cv x.cls x.base ≠ -1
        rw [ec]; unfold updI; rw [if_pos rfl]; have := I.cls; omega
      · show ∀ j, x.base ∉ S.ch j
        rw [ec]; exact nin
      · show ∀ h, A.stF h ≠ 0 → opB h ≠ x.base
        rw [ec]; exact nac
      · show updI S.cl S.cv x.cls x.base = _
        rw [ec]; unfold updI; rw [if_pos rfl]
      · show S.cl x.base = -1
        rw [ec]; exact hcl
    · have sw : A.swapRb p.carved x.base = false := decide_eq_false fun e => c (by rw [← getD_rawF okc]; exact e.2)
      have sa : A.swapR p.carved x.base (x.base + sizeF x.cls) = A.later 1 := by
        unfold Ar.swapR; rw [if_pos okc, if_neg (by rw [getD_rawF okc]; exact c), tk]
      rw [sw, sa, if_neg (by simp)]
      exact ⟨S, rfl, X1, E1 _, rfl, fun _ => ⟨rfl, I.who, I.cls, I.lst, .inr (.inl rfl), fun h => (by cases h), fun h => (by cases h), fun h => (by cases h), I.h0⟩, rfl, rfl, fun h => (by cases h), rfl, fun h => h, .inl ⟨I.h0, fun _ => rfl, rfl⟩⟩
  · obtain ⟨o, oc⟩ := I.bears h
    have hx0 := I.h0
    have lst := I.lst
    have hc1 : x.cls ≠ -1 := by have := I.cls; omega
    obtain ⟨v1, ⟨v2, v3, v4, v5⟩, bo, Y, yst, ynL⟩ := X.bear hwf (by omega) oc hc1 o.2.1 o.2.2
    have ipl := I.pl
    obtain ⟨xpl, xwork, xcls, xlst, xwhat, xbase, xh, xpo⟩ := x
    simp only at h hx0 ipl oc hc1 v1 v2 v3 v4 v5 bo Y yst ynL lst o
    subst h; subst hx0; subst ipl
    have r1 := bear_last X (by omega) (who := xwork) (j := xlst) (y := xpo) ⟨lst.1, by omega⟩ oc hc1 bo
    have stp : Al.step ⟨xpl, xwork, xcls, xlst, 3, xbase, 0, xpo⟩ A = _ := runs_one r1
    rw [stp]
    have gb := X.gnb xbase
    have hne : packF xbase (S.gn xbase + 1) xcls ≠ 0 := fun e => by
      rw [e] at v3
      have : opG 0 = 0 := by decide
      omega
    have off : Off xpl.carved 0 ((A.later 1).setR (xpl.gens + xbase / 8).toNat (S.gn xbase + 1)) (((A.later 1).setR (xpl.gens + xbase / 8).toNat (S.gn xbase + 1)).bornF (packF xbase (S.gn xbase + 1) xcls)) :=
      Off.bornF (setR_wf (later_wf hwf 1) _ _) X.fr bo.2.1
    have blk := X.blk xbase (by rw [oc]; exact hc1)
    have szb := sz_pos blk.1 blk.2.1
    have okg : (A.later 1).rawOk (xpl.gens + xbase / 8) := ⟨by omega, by have := X.rl; show _ < (A.raw.length : Int); omega⟩
    have hr : ∀ i, ((A.later 1).setR (xpl.gens + xbase / 8).toNat (S.gn xbase + 1)).rawF i = if i = xpl.gens + xbase / 8 then S.gn xbase + 1 else A.rawF i := fun i => rawF_set1 okg
    have rb : ∀ i, (((A.later 1).setR (xpl.gens + xbase / 8).toNat (S.gn xbase + 1)).bornF (packF xbase (S.gn xbase + 1) xcls)).rawF i = if i = xpl.gens + xbase / 8 then S.gn xbase + 1 else A.rawF i := fun i => by
      rw [rawF_congr (bornF_raw _ _) i, hr]
    have hs0 : A.stF (packF xbase (S.gn xbase + 1) xcls) = 0 := by
      by_cases e : A.stF (packF xbase (S.gn xbase + 1) xcls) = 0
      · exact e
      · exact (o.2.2 _ e v2).elim
    refine ⟨_, by rw [off.wd]; rfl, Y, ⟨?_, fun _ _ => rfl, fun d od hd => ⟨od.1, od.2.1, fun h hh => ?_⟩, fun h hh => ?_, ?_, ?_, fun i hi => ?_, ?_⟩, ?_, fun h => (h rfl).elim, rfl, rfl, fun h => (by cases h), ?_, fun h => ?_, .inr ⟨rfl, rfl, hne, v2, v4, v5, hs0, yst, ynL⟩⟩
    · exact FEv.same (fun i i0 i1 => by rw [rb, if_neg (by omega)]) (by omega) (by omega)
    · rw [yst] at hh
      split at hh
      · rename_i e; rw [e, v2]
        intro e2; exact hd (by show d = if (3 : Int) = 3 then xbase else -1; rw [if_pos rfl]; exact e2.symm)
      · exact od.2.2 h hh
    · rw [yst, if_neg]
      intro e
      rw [e, v2] at hh
      exact hh (by show xbase = if (3 : Int) = 3 then xbase else -1; rw [if_pos rfl])
    · rw [off.fa]; rfl
    · rw [off.rl]; show (A.raw.set _ _).length = _; rw [List.length_set]
    · rw [rb, if_neg (by omega)]
    · rw [off.us]; show A.uses ≤ A.uses + 1 + 0; omega
    · rw [off.us]; show A.uses + 1 + 0 = _; omega
    · exact (bornF_counts _ (setR_wf (later_wf hwf 1) _ _) _).2.2.2
    · exact bornF_cc (setR_wf (later_wf hwf 1) _ _) bo.2.1 h

/-- A free under way. -/
structure FeI (p : Pl) (w m who : Int) (x : Fe) (A : Ar) (S : Sg) : Prop where
  st : A.stF x.h = 2
  nd : x.done = false
  pu : PuI p w ((m + 7) / 8) (4 * who + opC x.h) (opB x.h) x.pu A

theorem FeI.new (X : SL A p w m S) {who h : Int} (wh : 0 ≤ who ∧ who < w) (hs : A.stF h = 2) : FeI p w m who (newFe p who h) A S := by
  obtain ⟨p1, p2, p3, p4, p5⟩ := X.places
  have wb := X.wb
  have mb := X.mb
  have hC := opC_nat h
  obtain ⟨a1, a2⟩ := X.act h (by rw [hs]; decide)
  obtain ⟨b1, b2, b3, b4, b5⟩ := X.blk (opB h) (by omega)
  have sz := sz_pos b1 b2
  have cvb := X.cvb
  have e := headF_eq (p := p) (w := who) (c := opC h) p1 ⟨wh.1, by omega⟩ ⟨by omega, by omega⟩
  exact ⟨hs, rfl, PuI.new e ⟨b3, b4, by show opB h / 8 < (m + 7) / 8; omega⟩⟩
theorem FeI.keep {who : Int} {x : Fe} (I : FeI p w m who x A S) {mine : Int} (E : Ev p w m A S B S' mine) (hm : opB x.h ≠ mine) : FeI p w m who x B S' :=
  ⟨by rw [E.st _ hm]; exact I.st, I.nd, I.pu.keep hm E.fe⟩

structure FeS (p : Pl) (w m who : Int) (x : Fe) (A : Ar) (S : Sg) (y : Fe) (B : Ar) (S' : Sg) : Prop where
  wd : B.words = A.words
  sl : SL B p w m S'
  ev : Ev p w m A S B S' (opB x.h)
  us : B.uses = A.uses + 1
  h : y.h = x.h
  nL : B.nL = A.nL
  cc : A.nC = A.carved.count true → B.nC = B.carved.count true
  res : (y.done = false ∧ FeI p w m who y B S' ∧ (∀ k, B.stF k = A.stF k) ∧ B.nR = A.nR) ∨ (y.done = true ∧ (∀ k, B.stF k = if k = x.h then 0 else A.stF k) ∧ B.nR = A.nR - sizeF (opC x.h))

theorem diedF_parts (A : Ar) (h : Int) : (A.diedF h).raw = A.raw ∧ (A.diedF h).words = A.words ∧ (A.diedF h).fault = A.fault ∧ (A.diedF h).uses = A.uses ∧ (A.diedF h).nC = A.nC ∧ (A.diedF h).carved = A.carved := by
  unfold Ar.diedF Ar.turnF; split <;> exact ⟨rfl, rfl, rfl, rfl, rfl, rfl⟩
theorem died_raw (A : Ar) (r : List Int) (h : Int) : ({ A with raw := r } : Ar).diedF h = { A.diedF h with raw := r } := by
  have e : ({ A with raw := r } : Ar).stF h = A.stF h := stF_slots rfl h
  unfold Ar.diedF Ar.turnF Ar.turnN
  rw [e]
  by_cases hs : A.stF h = 2
  · simp only [if_pos hs]; rfl
  · simp only [if_neg hs]; rfl

theorem FeI.step {who : Int} {x : Fe} (I : FeI p w m who x A S) (X : SL A p w m S) (hwf : A.wf) (hu : A.uses ≤ 1000000) (wh : 0 ≤ who ∧ who < w) : ∃ S', FeS p w m who x A S (x.step A).1 (x.step A).2 S' := by
  obtain ⟨p1, p2, p3, p4, p5⟩ := X.places
  have wb := X.wb
  have mb := X.mb
  have us := X.F.us
  have hC := opC_nat x.h
  obtain ⟨a1, a2⟩ := X.act x.h (by rw [I.st]; decide)
  have szh := sz_pos (c := opC x.h) (by omega) (by omega)
  have X1 := X.later (n := 1) (by omega)
  have k0 : 0 ≤ 4 * who + opC x.h := by omega
  have k1 : 4 * who + opC x.h < 4 * w := by omega
  rcases I.pu.step X.F (by omega) k0 k1 a2 with ⟨s1, s2, s3, s4, s5⟩ | ⟨s1, s3, s4, s5⟩
  · have stp : x.step A = ({ x with pu := x.pu.stepM A }, x.pu.stepA A) := by unfold Fe.step; rw [if_neg (by rw [I.nd]; simp), if_neg (by rw [s1]; simp)]
    rw [stp]
    obtain ⟨r, er, hl⟩ := s5.eq
    have up := s5.up
    dsimp only
    rw [er] at s2 s3 s4 up ⊢
    have Y := X1.ofRaw (r := r) (ch' := S.ch) hl up s3 X.chc fun h hh => (X.act h hh).2
    exact ⟨_, rfl, Y, ⟨s4, fun _ _ => rfl, fun _ h _ => h, fun _ _ => rfl, rfl, hl, fun i hi => up i (by omega), by show A.uses ≤ A.uses + 1; omega⟩, rfl, rfl, rfl, fun h => h, .inl ⟨I.nd, ⟨I.st, I.nd, s2⟩, fun _ => rfl, rfl⟩⟩
  · have stp : x.step A = ({ x with pu := x.pu.stepM A, done := true }, (x.pu.stepA A).diedF x.h) := by unfold Fe.step; rw [if_neg (by rw [I.nd]; simp), if_pos s1]
    rw [stp]
    obtain ⟨r, er, hl⟩ := s5.eq
    have up := s5.up
    dsimp only
    rw [er] at s3 s4 up ⊢
    have cnb := X.cnb
    obtain ⟨D, dst, dL, dR⟩ := X1.die (later_wf hwf 1) (by show A.uses + 1 ≤ _; omega) (h := x.h) I.st (by show -(64 * (A.uses + 1 + 1)) ≤ A.nR - _; omega)
    have parts := diedF_parts (A.later 1) x.h
    obtain ⟨q1, q2, q3, q4, q5, q6⟩ := parts
    have q1 : ((A.later 1).diedF x.h).raw = A.raw := q1
    have q2 : ((A.later 1).diedF x.h).words = A.words := q2
    have q3 : ((A.later 1).diedF x.h).fault = A.fault := q3
    have q4 : ((A.later 1).diedF x.h).uses = A.uses + 1 := q4
    have q5 : ((A.later 1).diedF x.h).nC = A.nC := q5
    have q6 : ((A.later 1).diedF x.h).carved = A.carved := q6
    have eD : ({ A with raw := r, uses := A.uses + 1 } : Ar).diedF x.h = { (A.later 1).diedF x.h with raw := r } := died_raw (A.later 1) r x.h
    rw [eD]
    clear eD
    have dst : ∀ k, ((A.later 1).diedF x.h).stF k = if k = x.h then 0 else A.stF k := dst
    have dL : ((A.later 1).diedF x.h).nL = A.nL := dL
    have dR : ((A.later 1).diedF x.h).nR = A.nR - sizeF (opC x.h) := dR
    generalize (A.later 1).diedF x.h = D0 at *
    have F2 : FL { D0 with raw := r } p w ((m + 7) / 8) (upd S.ch (4 * who + opC x.h) (opB x.h :: S.ch (4 * who + opC x.h))) :=
      s3.same (fun i => rawF_congr rfl i) rfl (by show 0 ≤ (D0).uses; rw [q4]; omega) fun k h0 h1 => by
        show _ ≤ (D0).uses
        rw [q4]
        exact (s3.hd k h0 h1).2
    have rr : ∀ i, ({ D0 with raw := r } : Ar).rawF i = ({ A with raw := r, uses := A.uses + 1 } : Ar).rawF i := fun i => rawF_congr rfl i
    have noact : ∀ h, (D0).stF h ≠ 0 → opB h ≠ opB x.h := fun h hh e => by
      rw [dst] at hh
      split at hh
      · exact hh rfl
      · rename_i hn
        exact hh (stF_one (A := A) (h := x.h) (k := h) (by rw [I.st]; decide) e hn)
    have Y := D.ofRaw (r := r) (by rw [q1]; exact hl) (fun i hi => by
      rw [rr, up i hi]; exact (rawF_congr q1 i).symm) F2 (fun k b hb => by
        unfold upd at hb; split at hb
        · rename_i e
          rcases List.mem_cons.1 hb with rfl | hb
          · rw [a1, e]; omega
          · rw [e]; exact X.chc _ b hb
        · exact X.chc k b hb) fun h hh k hk => by
        have hh' : A.stF h ≠ 0 := fun e => hh (by rw [dst]; split; rfl; exact e)
        unfold upd at hk; split at hk
        · rcases List.mem_cons.1 hk with e | hk
          · exact noact h hh e
          · exact (X.act h hh').2 _ hk
        · exact (X.act h hh').2 _ hk
    have yst : ∀ k, ({ D0 with raw := r } : Ar).stF k = if k = x.h then 0 else A.stF k := fun k => by
      rw [show ({ D0 with raw := r } : Ar).stF k = (D0).stF k from stF_slots rfl k, dst]
    refine ⟨_, q2, Y, ⟨⟨fun k h0 h1 => by rw [rr]; exact s4.hd k h0 h1, fun b h0 h1 h2 h3 => by rw [rr]; exact s4.lk b h0 h1 h2 h3⟩, fun _ _ => rfl, fun b ob hb => ⟨ob.1, fun k hk => ?_, fun h hh => ?_⟩, fun h hh => ?_, q3, hl, fun i hi => by rw [rr]; exact up i (by omega), by show A.uses ≤ (D0).uses; rw [q4]; omega⟩, q4, rfl, dL, fun h => ?_, .inr ⟨rfl, yst, dR⟩⟩
    · have hk : b ∈ upd S.ch (4 * who + opC x.h) (opB x.h :: S.ch (4 * who + opC x.h)) k := hk
      unfold upd at hk; split at hk
      · rcases List.mem_cons.1 hk with e | hk
        · exact hb e
        · exact ob.2.1 _ hk
      · exact ob.2.1 _ hk
    · rw [yst] at hh
      split at hh
      · exact (hh rfl).elim
      · exact ob.2.2 h hh
    · rw [yst, if_neg (fun e => hh (by rw [e]))]
    · show D0.nC = D0.carved.count true
      rw [q5, q6]; exact h
end
end Go.Proofs.Ytfphgiipekkgdaa

set_option linter.unusedVariables false
set_option linter.unusedSimpArgs false
set_option maxRecDepth 20000
namespace Go.Proofs.Ytfphgiipekkgdaa
open Go Go.Fw

section
variable {A B : Ar} {p : Pl} {w m : Int} {S S' : Sg}

/-- Nothing of the slab was turned. -/
structure Qu (p : Pl) (w m : Int) (A : Ar) (S : Sg) (B : Ar) : Prop where
  sl : SL B p w m S
  ev : Ev p w m A S B S (-1)
  st : ∀ h, B.stF h = A.stF h
  nL : B.nL = A.nL
  nR : B.nR = A.nR
  cc : A.nC = A.carved.count true → B.nC = B.carved.count true

theorem Qu.later (X : SL A p w m S) {n : Int} (hn : 0 ≤ n) : Qu p w m A S (A.later n) := ⟨X.later hn, Ev.later X hn, fun _ => rfl, rfl, rfl, fun h => h⟩

/-- A slot's word. -/
theorem Qu.store (X : SL A p w m S) (hu : A.uses ≤ 1000000000) {h off v : Int} (hi : A.inOk h off) : Qu p w m A S (A.storeF h off v) ∧ (A.storeF h off v).uses = A.uses + 1 := by
  have us := X.F.us
  have e : A.storeF h off v = (A.later 1).setW (pos h off) v := by rw [storeF_yes hi, tick_uses us (by omega)]
  rw [e]
  have st : ∀ k, ((A.later 1).setW (pos h off) v).stF k = A.stF k := fun k => stF_slots rfl k
  have X2 : SL ((A.later 1).setW (pos h off) v) p w m S := X.congr (fun _ _ _ => rfl) rfl (by show A.uses ≤ A.uses + 1; omega) (by show (A.words.set _ _).length = _; rw [List.length_set]) st rfl rfl rfl rfl rfl rfl rfl rfl
  exact ⟨⟨X2, ⟨FEv.same (fun _ _ _ => rfl) X.F.wb.1 X.F.nb.1, fun _ _ => rfl, fun b o _ => ⟨o.1, o.2.1, fun k hk => o.2.2 k (by rw [← st k]; exact hk)⟩, fun k _ => st k, rfl, rfl, fun _ _ => rfl, by show A.uses ≤ A.uses + 1; omega⟩, st, rfl, rfl, fun h => h⟩, rfl⟩

/-- A raw word behind the slab's. -/
theorem Qu.storeR (X : SL A p w m S) (hu : A.uses ≤ 1000000000) {i v : Int} (h : p.carved < i ∧ i < A.raw.length) :
    SL (A.storeR i v) p w m S ∧ FEv w ((m + 7) / 8) A (A.storeR i v) (-1) ∧ (∀ h, (A.storeR i v).stF h = A.stF h) ∧ (A.storeR i v).nL = A.nL ∧ (A.storeR i v).nR = A.nR ∧ (A.storeR i v).words = A.words ∧ (A.storeR i v).fault = A.fault ∧ (A.storeR i v).uses = A.uses + 1 ∧ (A.storeR i v).raw.length = A.raw.length ∧ ∀ j, (A.storeR i v).rawF j = if j = i then v else A.rawF j := by
  obtain ⟨p1, p2, p3, p4, p5⟩ := X.places
  have wb := X.wb
  have mb := X.mb
  have us := X.F.us
  have ok : A.rawOk i := ⟨by omega, h.2⟩
  have e : A.storeR i v = (A.later 1).setR i.toNat v := by
    unfold Ar.storeR
    rw [if_pos ok, tick_uses us (by omega)]
  rw [e]
  have rf : ∀ j, ((A.later 1).setR i.toNat v).rawF j = if j = i then v else A.rawF j := fun j => rawF_set1 (A := A.later 1) ok
  refine ⟨X.congr (fun j h0 h1 => by rw [rf, if_neg (by omega)]) (by show (A.raw.set _ _).length = _; rw [List.length_set]) (by show A.uses ≤ A.uses + 1; omega) rfl (fun h => stF_slots rfl h) rfl rfl rfl rfl rfl rfl rfl rfl,
    FEv.same (fun j j0 j1 => by rw [rf, if_neg (by omega)]) (by omega) (by omega), fun h => stF_slots rfl h, rfl, rfl, rfl, rfl, rfl, by show (A.raw.set _ _).length = _; rw [List.length_set], rf⟩

/-- One is retired. -/
theorem Ev.retire (X : SL A p w m S) (hwf : A.wf) (hu : A.uses ≤ 1000000000) {h : Int} (hs : A.stF h = 1) (cn : -(64 * (A.uses + 1)) ≤ A.nL - sizeF (opC h) ∧ A.nR + sizeF (opC h) ≤ 64 * (A.uses + 1)) :
    SL (A.retireF h) p w m S ∧ (∀ k, (A.retireF h).stF k = if k = h then 2 else A.stF k) ∧ (A.retireF h).nL = A.nL - sizeF (opC h) ∧ (A.retireF h).nR = A.nR + sizeF (opC h) ∧ Ev p w m A S (A.retireF h) S (opB h) ∧
      (A.nC = A.carved.count true → (A.retireF h).nC = (A.retireF h).carved.count true) ∧ (A.retireF h).uses = A.uses ∧ (A.retireF h).words = A.words ∧ (A.retireF h).fault = A.fault := by
  obtain ⟨Y, yst, yL, yR⟩ := X.retire hu hs cn
  have parts : (A.retireF h).raw = A.raw ∧ (A.retireF h).words = A.words ∧ (A.retireF h).fault = A.fault ∧ (A.retireF h).uses = A.uses ∧ (A.retireF h).nC = A.nC ∧ (A.retireF h).carved = A.carved := by
    unfold Ar.retireF Ar.turnF; split <;> exact ⟨rfl, rfl, rfl, rfl, rfl, rfl⟩
  obtain ⟨q1, q2, q3, q4, q5, q6⟩ := parts
  refine ⟨Y, yst, yL, yR, ⟨FEv.same (fun i _ _ => rawF_congr q1 i) X.F.wb.1 X.F.nb.1, fun _ _ => rfl, fun b o hb => ⟨o.1, o.2.1, fun k hk => ?_⟩, fun k hk => ?_, q3, by rw [q1], fun i _ => rawF_congr q1 i, by rw [q4]; exact Int.le_refl _⟩, fun h => by rw [q5, q6]; exact h, q4, q2, q3⟩
  · rw [yst] at hk
    split at hk
    · rename_i e; rw [e]; exact fun e2 => hb e2.symm
    · exact o.2.2 k hk
  · rw [yst, if_neg (fun e => hk (by rw [e]))]
end
end Go.Proofs.Ytfphgiipekkgdaa

set_option linter.unusedVariables false
set_option maxRecDepth 20000
namespace Go.Proofs.Ytfphgiipekkgdaa
open Go Go.Fw

section
variable {L : Hands} {R : Value → Heap → Prop} {A : Ar} {I : List Nat} {l l' : Bl} {G : Heap}

theorem SlAt.row {α : Type} {E : Enc α} {e : TypeId} {s : Sl} {xs : List α} (hA : Aw I A) (ok : Ok I G (keys l)) (h : SlAt l e E s xs) : Row (own A l G) s.a (E.all xs) := by
  rcases h with ⟨rfl, rfl⟩ | ⟨b, pre, rest, r, rfl, h2, h3⟩
  · intro i hi; simp [Enc.all] at hi
  · refine cell_row hA ok h3 pre.length ?_
    rw [List.append_assoc, List.drop_left, List.take_left]
theorem SlAt.nil (l : Bl) {α : Type} (e : TypeId) (E : Enc α) : SlAt l e E ⟨none, 0, 0⟩ [] := .inl ⟨rfl, rfl⟩

/-- Append to a slice that lies in the middle part. -/
theorem w_appA {sT e u : TypeId} {α : Type} {E : Enc α} (hE : ElOk sT e E.sz) {xs ys : List α} {s t : Sl} {k : Sl → Tree} (pre : Bl) {mid post : Bl} (hA : Aw I A) (ok : Ok I G (keys (pre ++ (mid ++ post)))) (hs : SlAt mid e E s xs)
    (ht : Row (own A (pre ++ (mid ++ post)) G) t.a (E.all ys)) (htl : t.len = ys.length) (hm : xs.length + ys.length ≤ 1048576)
    (h : ∀ s' mid', SlAt mid' e E s' (xs ++ ys) → Ok I G (keys (pre ++ (mid' ++ post))) → wp Try.prog (k s') L (own A (pre ++ (mid' ++ post)) G) R) :
    wp Try.prog (.act (opS Try.prog (.call { callee := .builtin .append, args := #[(.tmp 0), (.tmp 1)], argTypes := #[sT, sT] }) u [(.slice s.a s.len s.cap), (.slice t.a t.len t.cap)]) (.one (.leaf .slice)) k) L (own A (pre ++ (mid ++ post)) G) R := by
  obtain ⟨info, z, i1, i2, i3, i4, i5, i6, i7⟩ := hE.ex
  have hln := hs.len
  have hsw : SlAt (pre ++ (mid ++ post)) e E s xs := hs.mono fun p hp => List.mem_append_right _ (List.mem_append_left _ hp)
  refine append_gen2 (info := info) (z := z) (old := E.all xs) (new := E.all ys) i1 i2 i4 i5 i6 (i7.trans i3.symm) (hsw.row hA ok) (by rw [E.all_len, hln, i3]) ht (by rw [E.all_len, htl, i3]) (by omega) ?_ ?_
  · intro hc
    by_cases hy : ys = []
    · subst hy
      refine .inl ⟨htl, s, rfl, ?_⟩
      exact h s mid (by rw [List.append_nil]; exact hs) ok
    · rcases hs with ⟨rfl, rfl⟩ | ⟨b, pr, rest, r, rfl, h2, h3⟩
      · have : ys.length = 0 := by rw [htl] at hc; have : 0 + ys.length ≤ 0 := hc; omega
        exact (hy (List.eq_nil_of_length_eq_zero this)).elim
      · have hr : ys.length ≤ r := by
          have : xs.length + t.len ≤ xs.length + r := hc
          omega
        have hmul : ys.length * E.sz ≤ r * E.sz := Nat.mul_le_mul_right _ hr
        have hmem : (b, oc e (pr ++ E.all xs ++ rest)) ∈ pre ++ (mid ++ post) := List.mem_append_right _ (List.mem_append_left _ h3)
        refine .inr ⟨b, pr.length, _, e, rfl, own_mem hA ok hmem, ?_, E.all_sg ys, ⟨some ⟨b, pr.length, none⟩, xs.length + t.len, xs.length + r⟩, rfl, ?_⟩
        · show pr.length + (xs.length + t.len) * info.size ≤ _
          rw [i3, htl, Nat.add_mul]; simp only [List.size_toArray, List.length_append, E.all_len]; omega
        · have e1 : putAll (pr ++ E.all xs ++ rest).toArray (pr.length + xs.length * info.size) (E.all ys) = (pr ++ E.all (xs ++ ys) ++ rest.drop (ys.length * E.sz)).toArray := by
            have := putAll_mid (E.all ys) (pr ++ E.all xs) (rest.take (ys.length * E.sz)) (rest.drop (ys.length * E.sz)) (by rw [E.all_len, List.length_take]; omega)
            rw [List.append_assoc, List.take_append_drop, List.length_append, E.all_len] at this
            rw [i3, this, E.all_append]
            simp
          have e2 := own_bset (G := G) hA ok (oc e (pr ++ E.all (xs ++ ys) ++ rest.drop (ys.length * E.sz))) hmem
          have nd := ok.nd
          simp only [keys_append] at nd
          have n1 := List.nodup_append.1 nd
          have n2 := List.nodup_append.1 n1.2.1
          have hbm : b ∈ keys mid := List.mem_map.2 ⟨_, h3, rfl⟩
          have b1 : b ∉ keys pre := fun hp => n1.2.2 b hp b (List.mem_append_left _ hbm) rfl
          have b2 : b ∉ keys post := fun hp => n2.2.2 b hbm b hp rfl
          rw [bset_append, bset_append, bset_out b1, bset_out b2] at e2
          unfold oc at e2
          show wp Try.prog _ L ((own A (pre ++ (mid ++ post)) G).set b (.cells (putAll (pr ++ E.all xs ++ rest).toArray (pr.length + xs.length * info.size) (E.all ys)) e (0, 0))) R
          rw [e1, e2]
          refine h _ _ (.inr ⟨b, pr, rest.drop (ys.length * E.sz), r - ys.length, ?_, ?_, mem_bset h3⟩) ?_
          · simp only [List.length_append, Sl.mk.injEq, true_and]; omega
          · rw [List.length_drop, Nat.sub_mul]; omega
          · simp only [keys_append, keys_bset]; simp only [keys_append] at ok; exact ok
  · intro hc b rest r hb hr
    obtain ⟨o1, o2⟩ := own_new hA ok hb (oc e (E.all xs ++ E.all ys ++ rest))
    refine ⟨⟨some ⟨b, 0, none⟩, s.len + t.len, s.len + t.len + r⟩, rfl, ?_⟩
    show wp Try.prog _ L ((own A (pre ++ (mid ++ post)) G).set b (oc e (E.all xs ++ E.all ys ++ rest))) R
    rw [o2]
    have hp : ((b, oc e (E.all xs ++ E.all ys ++ rest)) :: (pre ++ (mid ++ post))).Perm (pre ++ (((b, oc e (E.all xs ++ E.all ys ++ rest)) :: mid) ++ post)) := List.perm_middle.symm
    obtain ⟨p1, p2⟩ := own_perm (A := A) o1 hp
    rw [p1]
    refine h _ _ (.inr ⟨b, [], rest, r, ?_, by rw [hr, i3]; exact Nat.le_refl _, ?_⟩) p2
    · rw [hln, htl, List.length_append]; rfl
    · rw [E.all_append]; exact List.mem_cons_self

/-- An element of a slice of numbers. -/
theorem rdA {s : Sl} {xs : List Int} {i : Int} {u : TypeId} {k : Int → Tree} (hA : Aw I A) (ok : Ok I G (keys l)) (hs : SlAt l ty_int eI s xs) (h0 : 0 ≤ i) (h1 : i < xs.length) (h : wp Try.prog (k (xs.getD i.toNat 0)) L (own A l G) R) :
    wp Try.prog (.look (opS Try.prog (.indexAddr ty_s_int (.tmp 0) (.tmp 1)) u [.slice s.a s.len s.cap, .int .i64 i]) (.one (.leaf .addr)) fun x => .ld x (.int .i64) k) L (own A l G) R := by
  rcases hs with ⟨rfl, rfl⟩ | ⟨b, pre, rest, r, rfl, h2, h3⟩
  · have : (([] : List Int).length : Int) = 0 := rfl
    omega
  · refine w_ixS (e := ty_int) rfl rfl rfl h0 h1 ?_
    refine w_ldm (x := xs.getD i.toNat 0) hA ok rfl h3 ?_ h
    have hl : i.toNat < xs.length := by omega
    rw [List.append_assoc, List.getElem?_append_right (by omega), eI_all, show pre.length + i.toNat - pre.length = i.toNat by omega, List.getElem?_append_left (by simpa using hl), List.getElem?_map, List.getElem?_eq_getElem hl]
    show some _ = _
    rw [List.getD_eq_getElem?_getD, List.getElem?_eq_getElem hl]; rfl

/-- The rest of a slice, behind its first element. -/
theorem SlAt.tailI {e : TypeId} {s : Sl} {x : Int} {xs : List Int} (h : SlAt l e eI s (x :: xs)) : SlAt l e eI (loSl s 1) xs ∧ (1 : Int) ≤ (s.len : Int) := by
  rcases h with ⟨_, h⟩ | ⟨b, pre, rest, r, rfl, h2, h3⟩
  · cases h
  · refine ⟨?_, by show (1 : Int) ≤ ((xs.length + 1 : Nat) : Int); omega⟩
    unfold loSl
    dsimp only
    by_cases e : (x :: xs).length + r = 1
    · rw [if_pos e]
      have hx : xs = [] := by simp only [List.length_cons] at e; exact List.eq_nil_of_length_eq_zero (by omega)
      have hr : r = 0 := by simp only [List.length_cons] at e; omega
      subst hx; subst hr
      exact .inr ⟨b, pre, eI.all [x] ++ rest, 0, rfl, by omega, by rw [show eI.all ([] : List Int) = [] from rfl, List.append_nil, ← List.append_assoc]; exact h3⟩
    · rw [if_neg e]
      refine .inr ⟨b, pre ++ [.int .i64 x], rest, r, ?_, h2, ?_⟩
      · show Sl.mk (some ((Addr.mk b pre.length none).add 1)) _ _ = _
        rw [Addr.add_mk, List.length_append]
        simp only [List.length_cons, List.length_nil, Sl.mk.injEq, true_and]
        omega
      · have : eI.all (x :: xs) = [.int .i64 x] ++ eI.all xs := rfl
        rw [this] at h3
        simpa using h3
end
end Go.Proofs.Ytfphgiipekkgdaa

set_option linter.unusedVariables false
set_option linter.unusedSimpArgs false
set_option maxRecDepth 20000
namespace Go.Proofs.Ytfphgiipekkgdaa
open Go Go.Fw

/-! ### Actors -/

abbrev Tr3 := Nat × Nat × Nat
inductive Mc where
  | idle
  | al (x : Al) (j : Tr3)
  | fe (x : Fe) (j : Tr3)
def Mc.bl : Mc → Bl
  | .idle => []
  | .al x j => x.bl j
  | .fe x j => x.bl j
def Mc.ifv : Mc → Value
  | .idle => .nilIface
  | .al _ j => .iface ty_p_slab_Alloc (.pointer (some ⟨j.1, 0, none⟩))
  | .fe _ j => .iface ty_p_slab_Free (.pointer (some ⟨j.1, 0, none⟩))
def Mc.ptr : Mc → Option Addr
  | .al _ j => some ⟨j.1, 0, none⟩
  | _ => none
def Mc.hold : Mc → Option Int
  | .idle => none
  | .al x _ => if x.what = 3 then some x.base else none
  | .fe x _ => some (opB x.h)
def McI (p : Pl) (w m : Int) (i : Nat) (A : Ar) (S : Sg) : Mc → Prop
  | .idle => True
  | .al x _ => AlI p w m x A S
  | .fe x _ => FeI p w m i x A S
structure Ac where
  mc : Mc
  xs : List Int
  s : Sl
  hb : Bl
def Ac.bl (a : Ac) : Bl := a.mc.bl ++ a.hb

def allBl (f : Nat → Ac) : Nat → Bl
  | 0 => []
  | n + 1 => allBl f n ++ (f n).bl
def restBl (f : Nat → Ac) (w : Nat) : Nat → Bl
  | 0 => []
  | n + 1 => restBl f w n ++ (if n = w then [] else (f n).bl)
def allXs (f : Nat → Ac) : Nat → List Int
  | 0 => []
  | n + 1 => allXs f n ++ (f n).xs
def restXs (f : Nat → Ac) (w : Nat) : Nat → List Int
  | 0 => []
  | n + 1 => restXs f w n ++ (if n = w then [] else (f n).xs)
def updA (f : Nat → Ac) (w : Nat) (a : Ac) : Nat → Ac := fun j => if j = w then a else f j
theorem updA_same (f : Nat → Ac) (w : Nat) (a : Ac) : updA f w a w = a := if_pos rfl
theorem updA_ne (f : Nat → Ac) {w j : Nat} (a : Ac) (h : j ≠ w) : updA f w a j = f j := if_neg h

theorem restBl_le (f : Nat → Ac) (w : Nat) : ∀ n, n ≤ w → restBl f w n = allBl f n
  | 0, _ => rfl
  | n + 1, h => by show restBl f w n ++ _ = allBl f n ++ _; rw [restBl_le f w n (by omega), if_neg (by omega)]
theorem restXs_le (f : Nat → Ac) (w : Nat) : ∀ n, n ≤ w → restXs f w n = allXs f n
  | 0, _ => rfl
  | n + 1, h => by show restXs f w n ++ _ = allXs f n ++ _; rw [restXs_le f w n (by omega), if_neg (by omega)]
theorem allBl_c {c : Bl → Nat} (c0 : c [] = 0) (ca : ∀ a b, c (a ++ b) = c a + c b) (f : Nat → Ac) {w : Nat} : ∀ {n : Nat}, w < n → c (allBl f n) = c (f w).mc.bl + c (f w).hb + c (restBl f w n)
  | 0, h => by omega
  | n + 1, h => by
    show c (allBl f n ++ (f n).bl) = _ + c (restBl f w n ++ _)
    rw [ca, ca]
    by_cases e : n = w
    · rw [if_pos e, c0, ← e, restBl_le f n n (Nat.le_refl _)]
      show _ + c ((f n).mc.bl ++ (f n).hb) = _
      rw [ca]; omega
    · rw [if_neg e, allBl_c c0 ca f (w := w) (n := n) (by omega)]; omega
theorem allXs_perm (f : Nat → Ac) {w : Nat} : ∀ {n : Nat}, w < n → (allXs f n).Perm ((f w).xs ++ restXs f w n)
  | 0, h => by omega
  | n + 1, h => by
    show (allXs f n ++ (f n).xs).Perm ((f w).xs ++ (restXs f w n ++ _))
    by_cases e : n = w
    · rw [if_pos e, ← e, restXs_le f n n (Nat.le_refl _), List.append_nil]; exact List.perm_append_comm
    · rw [if_neg e, ← List.append_assoc]; exact (allXs_perm f (n := n) (by omega)).append_right _
theorem restBl_upd (f : Nat → Ac) (w : Nat) (a : Ac) : ∀ n, restBl (updA f w a) w n = restBl f w n
  | 0 => rfl
  | n + 1 => by
    show restBl (updA f w a) w n ++ _ = restBl f w n ++ _
    rw [restBl_upd f w a n]
    by_cases e : n = w
    · rw [if_pos e, if_pos e]
    · rw [if_neg e, if_neg e, updA_ne f a e]
theorem restXs_upd (f : Nat → Ac) (w : Nat) (a : Ac) : ∀ n, restXs (updA f w a) w n = restXs f w n
  | 0 => rfl
  | n + 1 => by
    show restXs (updA f w a) w n ++ _ = restXs f w n ++ _
    rw [restXs_upd f w a n]
    by_cases e : n = w
    · rw [if_pos e, if_pos e]
    · rw [if_neg e, if_neg e, updA_ne f a e]
def szs (l : List Int) : Int := (l.map fun h => sizeF (opC h)).sum
theorem szs_append (l k : List Int) : szs (l ++ k) = szs l + szs k := by unfold szs; rw [List.map_append, List.sum_append]
theorem szs_cons (h : Int) (l : List Int) : szs (h :: l) = sizeF (opC h) + szs l := rfl
theorem szs_nn : ∀ l : List Int, 0 ≤ szs l
  | [] => Int.le_refl _
  | h :: l => by
    have := szs_nn l
    have := opC_nat h
    have := sz_pos (c := opC h) (by omega) (by omega)
    rw [szs_cons]; omega
theorem szs_perm {l k : List Int} (h : l.Perm k) : szs l = szs k := by
  induction h with
  | nil => rfl
  | cons x _ ih => rw [szs_cons, szs_cons, ih]
  | swap x y l => rw [szs_cons, szs_cons, szs_cons, szs_cons]; omega
  | trans _ _ a b => exact a.trans b
theorem allXs_mem {f : Nat → Ac} {h : Int} : ∀ {n : Nat}, h ∈ allXs f n ↔ ∃ i, i < n ∧ h ∈ (f i).xs
  | 0 => by constructor
            · intro h; cases h
            · rintro ⟨i, h, _⟩; omega
  | n + 1 => by
    show h ∈ allXs f n ++ (f n).xs ↔ _
    rw [List.mem_append, allXs_mem (n := n)]
    constructor
    · rintro (⟨i, h1, h2⟩ | h1)
      · exact ⟨i, by omega, h2⟩
      · exact ⟨n, by omega, h1⟩
    · rintro ⟨i, h1, h2⟩
      by_cases e : i = n
      · subst e; exact .inr h2
      · exact .inl ⟨i, by omega, h2⟩

/-- The world at a pick. -/
structure MX (I : List Nat) (A : Ar) (w m : Int) (S : Sg) (f : Nat → Ac) (n : Int) : Prop where
  aw : Aw I A
  sl : SL A (plOf w m) w m S
  fa : A.fault = false
  cc : A.nC = A.carved.count true
  us : n ≤ A.uses + 1 ∧ A.uses ≤ 4 * n
  nL : A.nL = szs (allXs f 5)
  bL : A.nL ≤ 64 * n
  bal : A.nL + A.nR ≤ 64 * n
  st : ∀ h ∈ allXs f 5, A.stF h = 1
  nd : (allXs f 5).Nodup
  sls : ∀ i, i < 5 → SlAt (f i).hb ty_int eI (f i).s (f i).xs
  ln : ∀ i, i < 5 → ((f i).xs.length : Int) ≤ n
  mc : ∀ i, i < 5 → McI (plOf w m) w m i A S (f i).mc
  hd : ∀ i j, i < 5 → j < 5 → i ≠ j → ∀ b, (f i).mc.hold = some b → (f j).mc.hold ≠ some b

/-- What is in hand: it is in no list. -/
theorem McI.nin {p : Pl} {w m : Int} {i : Nat} {A : Ar} {S : Sg} {x : Mc} (X : SL A p w m S) (h : McI p w m i A S x) {b : Int} (hb : x.hold = some b) : (∀ k, b ∉ S.ch k) ∧ S.cl b ≠ -1 := by
  cases x with
  | idle => cases hb
  | al x j =>
    have h : AlI p w m x A S := h
    have hb : (if x.what = 3 then some x.base else none) = some b := hb
    by_cases e : x.what = 3
    · rw [if_pos e] at hb
      have : x.base = b := by simpa using hb
      subst this
      exact ⟨(h.bears e).1.2.1, (h.bears e).1.1⟩
    · rw [if_neg e] at hb; cases hb
  | fe x j =>
    have h : FeI p w m i x A S := h
    have : opB x.h = b := by simpa [Mc.hold] using hb
    subst this
    obtain ⟨a1, a2⟩ := X.act x.h (by rw [h.st]; decide)
    exact ⟨a2, by have := (opC_nat x.h).1; omega⟩
/-- Others stay as they are. -/
theorem McI.keep {p : Pl} {w m : Int} {i : Nat} {A B : Ar} {S S' : Sg} {x : Mc} (X : SL A p w m S) (h : McI p w m i A S x) {mine : Int} (E : Ev p w m A S B S' mine) (hm : ∀ k, mine ∉ S.ch k) (hb : x.hold ≠ some mine) : McI p w m i B S' x := by
  cases x with
  | idle => trivial
  | al x j =>
    have h : AlI p w m x A S := h
    refine AlI.keep h X E hm fun e e2 => hb ?_
    show (if x.what = 3 then some x.base else none) = _
    rw [if_pos e, e2]
  | fe x j =>
    have h : FeI p w m i x A S := h
    exact FeI.keep h E fun e => hb (by show some (opB x.h) = _; rw [e])
theorem neg1_nin {p : Pl} {w m : Int} {A : Ar} {S : Sg} (X : SL A p w m S) (k : Int) : (-1 : Int) ∉ S.ch k := fun h => by have := (X.F.mem k _ h).1; omega
theorem hold_pos {p : Pl} {w m : Int} {i : Nat} {A : Ar} {S : Sg} {x : Mc} (X : SL A p w m S) (h : McI p w m i A S x) : x.hold ≠ some (-1) := fun e => by
  have := X.blk _ (h.nin X e).2; omega

/-- One actor steps, all others stay. -/
theorem MX.step {I : List Nat} {A B : Ar} {w m n : Int} {S S' : Sg} {f : Nat → Ac} (M : MX I A w m S f n) {i : Nat} (hi : i < 5) {a : Ac} {mine : Int} (hB : Aw I B) (X' : SL B (plOf w m) w m S') (E : Ev (plOf w m) w m A S B S' mine) (hm : mine = -1 ∨ (f i).mc.hold = some mine ∨ ((f i).mc.hold = none ∧ (∀ k, mine ∉ S.ch k) ∧ ∀ j, j < 5 → (f j).mc.hold ≠ some mine))
    (cc : B.nC = B.carved.count true) (us : n + 1 ≤ B.uses + 1 ∧ B.uses ≤ 4 * (n + 1)) (nL : B.nL = szs (allXs (updA f i a) 5)) (bL : B.nL ≤ 64 * (n + 1)) (bal : B.nL + B.nR ≤ 64 * (n + 1)) (st : ∀ h ∈ allXs (updA f i a) 5, B.stF h = 1) (nd : (allXs (updA f i a) 5).Nodup)
    (sl : SlAt a.hb ty_int eI a.s a.xs) (ln : (a.xs.length : Int) ≤ n + 1) (mc : McI (plOf w m) w m i B S' a.mc) (hd : ∀ b, a.mc.hold = some b → ∀ j, j < 5 → j ≠ i → (f j).mc.hold ≠ some b) : MX I B w m S' (updA f i a) (n + 1) := by
  have hmn : ∀ k, mine ∉ S.ch k := by
    rcases hm with h | h | h
    · rw [h]; exact neg1_nin M.sl
    · exact ((M.mc i hi).nin M.sl h).1
    · exact h.2.1
  have hmo : ∀ j, j < 5 → j ≠ i → (f j).mc.hold ≠ some mine := fun j hj hne => by
    rcases hm with h | h | h
    · rw [h]; exact hold_pos M.sl (M.mc j hj)
    · exact M.hd i j hi hj (fun e => hne e.symm) mine h
    · exact h.2.2 j hj
  refine ⟨hB, X', E.fa.trans M.fa, cc, us, nL, bL, bal, st, nd, fun j hj => ?_, fun j hj => ?_, fun j hj => ?_, fun j k hj hk hne b hb => ?_⟩
  · by_cases e : j = i
    · subst e; rw [updA_same]; exact sl
    · rw [updA_ne f a e]; exact M.sls j hj
  · by_cases e : j = i
    · subst e; rw [updA_same]; exact ln
    · rw [updA_ne f a e]; have := M.ln j hj; omega
  · by_cases e : j = i
    · subst e; rw [updA_same]; exact mc
    · rw [updA_ne f a e]; exact (M.mc j hj).keep M.sl E hmn (hmo j hj e)
  · by_cases e : j = i
    · subst e
      rw [updA_same] at hb
      rw [updA_ne f a (fun e => hne e.symm)]
      exact hd b hb k hk fun e => hne e.symm
    · rw [updA_ne f a e] at hb
      by_cases e2 : k = i
      · subst e2
        rw [updA_same]
        intro h2
        exact hd b h2 j hj e hb
      · rw [updA_ne f a e2]; exact M.hd j k hj hk hne b hb

/-- Its use of a raw word. -/
theorem MX.later {I : List Nat} {A : Ar} {w m n : Int} {S : Sg} {f : Nat → Ac} (M : MX I A w m S f n) (h : A.uses + 1 ≤ 4 * n) : MX I (A.later 1) w m S f n := by
  have E := Ev.later M.sl (n := 1) (mine := -1) (by omega)
  have us := M.us
  exact ⟨later_aw M.aw 1, M.sl.later (by omega), M.fa, M.cc, ⟨by show n ≤ A.uses + 1 + 1; omega, h⟩, M.nL, M.bL, M.bal, M.st, M.nd, M.sls, M.ln, fun i hi => (M.mc i hi).keep M.sl E (neg1_nin M.sl) (hold_pos M.sl (M.mc i hi)), M.hd⟩

abbrev mxB (x9 x12 x13 x14 : Nat) (w m : Int) (f : Nat → Ac) (tl : Bl) : Bl :=
  (x9, oc ty_free_Place (plCells (plOf w m))) :: (x12, oc ty_a5_s_int (arrC 5 fun i => slV (f i).s)) :: (x13, oc ty_a5_magpielaw11_mach (arrC 5 fun i => (f i).mc.ifv)) :: (x14, oc ty_a5_p_slab_Alloc (arrC 5 fun i => .pointer (f i).mc.ptr)) :: (allBl f 5 ++ tl)

theorem arr_upd {g : Ac → Value} {f : Nat → Ac} {i : Nat} {a : Ac} : (arrC 5 fun j => g (f j)).set i (g a) = arrC 5 fun j => g (updA f i a j) := by
  rw [arrC_set]
  congr 1
  funext j
  unfold updA
  split <;> rfl
theorem arr_keep {g : Ac → Value} {f : Nat → Ac} {i : Nat} {a : Ac} (h : g a = g (f i)) : (arrC 5 fun j => g (f j)) = arrC 5 fun j => g (updA f i a j) := by
  congr 1
  funext j
  unfold updA
  split
  · rename_i e; rw [e, h]
  · rfl

section
variable {L : Hands} {R : Value → Heap → Prop} {H : Heap} {I : List Nat} {A : Ar} {w m n : Int} {S : Sg} {f : Nat → Ac} {tl : Bl} {x9 x12 x13 x14 : Nat}
set_option maxHeartbeats 1000000 in
theorem mx_J3 {x36 was : Int} {b : Bool} (hx : m = 8 * x36) (xb : 0 ≤ x36 ∧ x36 < 30) (M : MX I A w m S f (n + 1)) (n0 : 0 ≤ n ∧ n ≤ 500) (hw : 0 ≤ was ∧ A.uses ≤ was + 2 ∧ was ≤ 4 * n) (ok : Ok I H (keys (mxB x9 x12 x13 x14 w m f tl)))
    (h : ∀ A' tl', n + 1 ≤ A'.uses → MX I A' w m S f (n + 1) → Ok I H (keys (mxB x9 x12 x13 x14 w m f tl')) → wp Try.prog (.again 640 [(.bool b), (.int .i64 (n + 1))]) L (own A' (mxB x9 x12 x13 x14 w m f tl') H) R) :
    wp Try.prog (t_magpielaw11_SlabMixes_J3 x36 ⟨x9, 0, none⟩ (aI I) (b, n, ()) was) L (own A (mxB x9 x12 x13 x14 w m f tl) H) R := by
  have hA := M.aw
  have X := M.sl
  obtain ⟨p1, p2, p3, p4, p5⟩ := X.places
  have wb := X.wb
  have mb := X.mb
  have cvb := X.cvb
  have cnb := X.cnb
  have ncb := X.ncb
  have us := M.us
  unfold t_magpielaw11_SlabMixes_J3
  have e8 : w64 (8 * x36) = m := by rw [hx]; exact w64_in (by omega) (by omega)
  rw [e8]
  refine w_Uses hA ?_
  refine wp_false (decide_eq_false (by show ¬ A.uses > w64 (was + 2); rw [w64_in (by omega) (by omega)]; omega)) ?_
  refine w_ld 0 hA ok rfl rfl rfl ?_
  refine w_Raw hA fun hA1 => ?_
  have M1 := M.later (by omega)
  have t1 : A.touchR (4 * w + 2 * ((m + 7) / 8)) = A.later 1 := by
    rw [touchR_yes (show A.rawOk (4 * w + 2 * ((m + 7) / 8)) from ⟨by omega, by have := X.rl; omega⟩), tick_uses X.F.us (by omega)]
  have t2 : A.rawF (4 * w + 2 * ((m + 7) / 8)) = S.cv := by rw [← p4]; exact X.cvr
  have hA1 : Aw I (A.touchR (4 * w + 2 * ((m + 7) / 8))) := hA1
  show wp Try.prog (bif (decide (A.rawF (4 * w + 2 * ((m + 7) / 8)) > m)) then _ else _) L (own (A.touchR (4 * w + 2 * ((m + 7) / 8))) _ _) R
  rw [t1] at hA1 ⊢
  rw [t2]
  refine wp_false (decide_eq_false (by omega)) ?_
  refine w_Count hA1 ?_
  refine w_newP hA1 ok fun x23 ok => ?_
  refine w_stA 0 hA1 ok rfl rfl rfl rfl ?_
  refine w_ld 0 hA1 ok rfl rfl rfl ?_
  have ncm : A.nC ≤ m := by
    have h1 : A.carved.count true ≤ A.carved.length := List.count_le_length
    have h2 := hA.wf.carved
    have h3 := X.wl
    rw [M.cc]; omega
  have cnt := X.cnt
  refine wp_false (decide_eq_false (by show ¬ A.nC > m; omega)) ?_
  refine w_ld 0 hA1 ok rfl rfl rfl ?_
  refine w_ld 0 hA1 ok rfl rfl rfl ?_
  refine w_ld 0 hA1 ok rfl rfl rfl ?_
  refine w_ld 0 hA1 ok rfl rfl rfl ?_
  refine wp_false (ibnf (by show w64 (w64 (A.nL + A.nR) + A.nF) = A.nC; rw [w64_in (x := A.nL + A.nR) (by omega) (by omega), w64_in (by omega) (by omega)]; omega)) ?_
  have en : w64 (n + 1) = n + 1 := w64_in (by omega) (by omega)
  dsimp only
  rw [en]
  have ok : Ok I H (keys ((x23, oc ty_api_Count [.int .i64 A.nC, .int .i64 A.nL, .int .i64 A.nR, .int .i64 A.nF]) :: mxB x9 x12 x13 x14 w m f tl)) := ok
  obtain ⟨q1, q2⟩ := own_perm (A := A.later 1) (l' := mxB x9 x12 x13 x14 w m f ((x23, oc ty_api_Count [.int .i64 A.nC, .int .i64 A.nL, .int .i64 A.nR, .int .i64 A.nF]) :: tl)) ok (perm_by fun c d c0 cd ca => by simp only [cd, ca, c0]; omega)
  show wp Try.prog _ _ (own (A.later 1) ((x23, oc ty_api_Count [.int .i64 A.nC, .int .i64 A.nL, .int .i64 A.nR, .int .i64 A.nF]) :: mxB x9 x12 x13 x14 w m f tl) H) _
  rw [q1]
  exact h _ _ (by show n + 1 ≤ A.uses + 1; omega) M1 q2
end
end Go.Proofs.Ytfphgiipekkgdaa

set_option linter.unusedVariables false
set_option linter.unusedSimpArgs false
set_option maxRecDepth 20000
namespace Go.Proofs.Ytfphgiipekkgdaa
open Go Go.Fw

theorem nI_al (a : Addr) : opS Try.prog (.binOp .neq ty_magpielaw11_mach (.tmp 0) (.const .nilIface) ty_magpielaw11_mach) ty_bool [.iface ty_p_slab_Alloc (.pointer (some a))] = .pure (.value (.bool true)) := by kernel_rfl
theorem nI_fe (a : Addr) : opS Try.prog (.binOp .neq ty_magpielaw11_mach (.tmp 0) (.const .nilIface) ty_magpielaw11_mach) ty_bool [.iface ty_p_slab_Free (.pointer (some a))] = .pure (.value (.bool true)) := by kernel_rfl
theorem nI_no : opS Try.prog (.binOp .neq ty_magpielaw11_mach (.tmp 0) (.const .nilIface) ty_magpielaw11_mach) ty_bool [.nilIface] = .pure (.value (.bool false)) := by kernel_rfl
theorem na_some (a : Addr) : opS Try.prog (.binOp .neq ty_p_slab_Alloc (.tmp 0) (.const (.pointer none)) ty_p_slab_Alloc) ty_bool [(.pointer (some a))] = .pure (.value (.bool true)) := by kernel_rfl
theorem na_none : opS Try.prog (.binOp .neq ty_p_slab_Alloc (.tmp 0) (.const (.pointer none)) ty_p_slab_Alloc) ty_bool [(.pointer none)] = .pure (.value (.bool false)) := by kernel_rfl

section
variable {L : Hands} {R : Value → Heap → Prop} {H : Heap} {I : List Nat} {A : Ar} {w m n : Int} {S : Sg} {f : Nat → Ac} {tl rest : Bl} {x9 x12 x13 x14 : Nat}

abbrev mxH (x9 x12 x13 x14 : Nat) (w m : Int) (c12 c13 c14 : List Value) (rest : Bl) : Bl :=
  (x9, oc ty_free_Place (plCells (plOf w m))) :: (x12, oc ty_a5_s_int c12) :: (x13, oc ty_a5_magpielaw11_mach c13) :: (x14, oc ty_a5_p_slab_Alloc c14) :: rest

theorem w_arr {t e u T : TypeId} {b : Nat} {g : Nat → Value} {k : Int} {lf : Leaf} {x : lf.T} {t' : Addr → lf.T → Tree} {l : Bl} {info : TypeInfo} (hA : Aw I A) (ok : Ok I H (keys l)) (hb : (b, oc T (arrC 5 g)) ∈ l) (hu : Try.prog.underlying t = some (.array 5 e)) (hi : Try.prog.info? e = some info) (hs : info.size = 1) (k0 : 0 ≤ k) (k1 : k < 5)
    (hx : Lf.dec lf (g k.toNat) = some x) (h : wp Try.prog (t' ⟨b, 0 + k.toNat, none⟩ x) L (own A l H) R) :
    wp Try.prog (.look (opS Try.prog (.indexAddr t (.tmp 0) (.tmp 1)) u [.pointer (some ⟨b, 0, none⟩), .int .i64 k]) (.one (.leaf .addr)) fun y => .ld y lf (t' y)) L (own A l H) R := by
  refine w_ix (A := A) (e := e) (n := 5) hu hi hs k0 (by omega) ?_
  refine w_ldm (x := x) hA ok rfl hb ?_ h
  rw [Nat.zero_add, arrC_get (by omega)]; exact hx

theorem w_arrS (ix : Nat) {t e u T : TypeId} {b : Nat} {g : Nat → Value} {k : Int} {v : Value} {t' : Tree} {l : Bl} {info : TypeInfo} (hA : Aw I A) (ok : Ok I H (keys l)) (hb : l[ix]? = some (b, oc T (arrC 5 g))) (hu : Try.prog.underlying t = some (.array 5 e)) (hi : Try.prog.info? e = some info) (hs : info.size = 1) (k0 : 0 ≤ k) (k1 : k < 5) (hv : Value.single v = true)
    (h : wp Try.prog t' L (own A (l.set ix (b, oc T ((arrC 5 g).set k.toNat v))) H) R) :
    wp Try.prog (.look (opS Try.prog (.indexAddr t (.tmp 0) (.tmp 1)) u [.pointer (some ⟨b, 0, none⟩), .int .i64 k]) (.one (.leaf .addr)) fun y => .st y v t') L (own A l H) R := by
  refine w_ix (A := A) (e := e) (n := 5) hu hi hs k0 (by omega) ?_
  refine w_st ix hA ok rfl hb hv (by rw [arrC_len]; exact decide_eq_true (by omega)) ?_
  rw [Nat.zero_add]; exact h

theorem mx_J4 {x36 k was : Int} {b : Bool} {a : Ac} (ha : a.mc = .idle) (hA : Aw I A) (k0 : 0 ≤ k) (k1 : k < 5) {c12 : List Value} (ok : Ok I H (keys (mxH x9 x12 x13 x14 w m c12 (arrC 5 fun i => (f i).mc.ifv) (arrC 5 fun i => .pointer (f i).mc.ptr) rest)))
    (h : wp Try.prog (t_magpielaw11_SlabMixes_J3 x36 ⟨x9, 0, none⟩ (aI I) (b, n, ()) was) L (own A (mxH x9 x12 x13 x14 w m c12 (arrC 5 fun i => (updA f k.toNat a i).mc.ifv) (arrC 5 fun i => .pointer (updA f k.toNat a i).mc.ptr) rest) H) R) :
    wp Try.prog (t_magpielaw11_SlabMixes_J4 x36 ⟨x9, 0, none⟩ (aI I) ⟨x13, 0, none⟩ ⟨x14, 0, none⟩ (b, n, ()) k was) L (own A (mxH x9 x12 x13 x14 w m c12 (arrC 5 fun i => (f i).mc.ifv) (arrC 5 fun i => .pointer (f i).mc.ptr) rest) H) R := by
  unfold t_magpielaw11_SlabMixes_J4
  refine w_arrS 2 (e := ty_magpielaw11_mach) hA ok rfl rfl rfl rfl k0 k1 rfl ?_
  have e1 : (arrC 5 fun i => (f i).mc.ifv).set k.toNat .nilIface = arrC 5 fun i => (updA f k.toNat a i).mc.ifv := by
    have := arr_upd (g := fun a => a.mc.ifv) (f := f) (i := k.toNat) (a := a)
    rw [show a.mc.ifv = .nilIface by rw [ha]; rfl] at this
    exact this
  have e2 : (arrC 5 fun i => Value.pointer (f i).mc.ptr).set k.toNat (.pointer none) = arrC 5 fun i => .pointer (updA f k.toNat a i).mc.ptr := by
    have := arr_upd (g := fun a => .pointer a.mc.ptr) (f := f) (i := k.toNat) (a := a)
    rw [show a.mc.ptr = none by rw [ha]; rfl] at this
    exact this
  rw [e1]
  have ok : Ok I H (keys (mxH x9 x12 x13 x14 w m c12 (arrC 5 fun i => (updA f k.toNat a i).mc.ifv) (arrC 5 fun i => .pointer (f i).mc.ptr) rest)) := ok
  show wp Try.prog _ L (own A (mxH x9 x12 x13 x14 w m c12 (arrC 5 fun i => (updA f k.toNat a i).mc.ifv) (arrC 5 fun i => .pointer (f i).mc.ptr) rest) H) R
  refine w_arrS 3 (e := ty_p_slab_Alloc) hA ok rfl rfl rfl rfl k0 k1 rfl ?_
  rw [e2]
  exact h

/-- An actor's step through its machine: the blocks in front. -/
theorem mx_front (ok : Ok I H (keys (mxB x9 x12 x13 x14 w m f tl))) {i : Nat} (hi : i < 5) :
    own A (mxB x9 x12 x13 x14 w m f tl) H = own A ((f i).mc.bl ++ (mxH x9 x12 x13 x14 w m (arrC 5 fun i => slV (f i).s) (arrC 5 fun i => (f i).mc.ifv) (arrC 5 fun i => .pointer (f i).mc.ptr) ((f i).hb ++ (restBl f i 5 ++ tl)))) H ∧
    Ok I H (keys ((f i).mc.bl ++ (mxH x9 x12 x13 x14 w m (arrC 5 fun i => slV (f i).s) (arrC 5 fun i => (f i).mc.ifv) (arrC 5 fun i => .pointer (f i).mc.ptr) ((f i).hb ++ (restBl f i 5 ++ tl))))) := by
  refine own_perm (A := A) ok (perm_by fun c d c0 cd ca => ?_)
  have := allBl_c c0 ca f hi
  simp only [mxB, mxH, cd, ca]
  omega
theorem mx_back {a : Ac} {i : Nat} (hi : i < 5) {g : Bl} {c12 c13 c14 : List Value} (h12 : c12 = arrC 5 fun j => slV (updA f i a j).s) (h13 : c13 = arrC 5 fun j => (updA f i a j).mc.ifv) (h14 : c14 = arrC 5 fun j => .pointer (updA f i a j).mc.ptr)
    {l : Bl} (hl : l.Perm (mxH x9 x12 x13 x14 w m c12 c13 c14 (a.mc.bl ++ (a.hb ++ (restBl f i 5 ++ (g ++ tl)))))) (ok : Ok I H (keys l)) :
    own A l H = own A (mxB x9 x12 x13 x14 w m (updA f i a) (g ++ tl)) H ∧ Ok I H (keys (mxB x9 x12 x13 x14 w m (updA f i a) (g ++ tl))) := by
  refine own_perm (A := A) ok (hl.trans ?_)
  subst h12; subst h13; subst h14
  refine perm_by fun c d c0 cd ca => ?_
  have := allBl_c c0 ca (updA f i a) hi
  rw [restBl_upd, updA_same] at this
  simp only [mxB, mxH, cd, ca]
  omega

theorem w64n {n : Int} (h : 0 ≤ n ∧ n ≤ 500) : w64 (n + 1) = n + 1 := w64_in (by omega) (by omega)

set_option maxHeartbeats 4000000 in
/-- A pick of one whose alloc is under way. -/
theorem mx_al {p2 : Sl} {x33 x36 k : Int} {b : Bool} (hx : m = 8 * x36) (xb : 0 ≤ x36 ∧ x36 < 30) (M : MX I A w m S f n) (n0 : 0 ≤ n ∧ n < 500) (ok : Ok I H (keys (mxB x9 x12 x13 x14 w m f tl))) (k0 : 0 ≤ k) (k1 : k < 5) (kw : k < w) {x : Al} {j : Tr3} (hmc : (f k.toNat).mc = .al x j)
    (h : ∀ A' S' f' tl', n + 1 ≤ A'.uses → MX I A' w m S' f' (n + 1) → Ok I H (keys (mxB x9 x12 x13 x14 w m f' tl')) → wp Try.prog (.again 640 [(.bool b), (.int .i64 (n + 1))]) L (own A' (mxB x9 x12 x13 x14 w m f' tl') H) R) :
    wp Try.prog (
        .look (opS Try.prog (.indexAddr ty_a5_magpielaw11_mach (.tmp 0) (.tmp 1)) ty_unit [(.pointer (some ⟨x13, 0, none⟩)), (.int .i64 k)]) (.one (.leaf .addr)) fun x90 =>
        .ld x90 .val fun x91 =>
        .act (opS Try.prog (.call { callee := .invoke (.tmp 0) "Step", args := #[(.tmp 1)], argTypes := #[ty_p_arena_Arena] }) ty_bool [x91, (.pointer (aI I))]) (.one (.leaf .bool)) fun x93 =>
        bif x93 then (
          .look (opS Try.prog (.indexAddr ty_a5_p_slab_Alloc (.tmp 0) (.tmp 1)) ty_unit [(.pointer (some ⟨x14, 0, none⟩)), (.int .i64 k)]) (.one (.leaf .addr)) fun x95 =>
          .ld x95 .ptr fun x96 =>
          .look (opS Try.prog (.binOp .neq ty_p_slab_Alloc (.tmp 0) (.const (.pointer none)) ty_p_slab_Alloc) ty_bool [(.pointer x96)]) (.one (.leaf .bool)) fun x97 =>
          bif x97 then (
            .look (opS Try.prog (.indexAddr ty_a5_p_slab_Alloc (.tmp 0) (.tmp 1)) ty_unit [(.pointer (some ⟨x14, 0, none⟩)), (.int .i64 k)]) (.one (.leaf .addr)) fun x100 =>
            .ld x100 .ptr fun x101 =>
            .call f_slab_Alloc_Handle [(.pointer x101)] (.tup [(.leaf (.int .i64)), (.leaf .bool)]) fun x102 =>
            bif x102.2.1 then (
              .look (opS Try.prog (.indexAddr ty_a5_s_int (.tmp 0) (.tmp 1)) ty_unit [(.pointer (some ⟨x12, 0, none⟩)), (.int .i64 k)]) (.one (.leaf .addr)) fun x108 =>
              .ld x108 .slice fun x109 =>
              .newS (.cells #[(.int .i64 x102.1)] ty_int) 1 fun x111 =>
              .act (opS Try.prog (.call { callee := .builtin .append, args := #[(.tmp 0), (.tmp 1)], argTypes := #[ty_s_int, ty_s_int] }) ty_s_int [(.slice x109.a x109.len x109.cap), (.slice x111.a x111.len x111.cap)]) (.one (.leaf .slice)) fun x112 =>
              .look (opS Try.prog (.indexAddr ty_a5_s_int (.tmp 0) (.tmp 1)) ty_unit [(.pointer (some ⟨x12, 0, none⟩)), (.int .i64 k)]) (.one (.leaf .addr)) fun x113 =>
              .st x113 (.slice x112.a x112.len x112.cap) <|
              .look (opS Try.prog (.indexAddr ty_a5_s_int (.tmp 0) (.tmp 1)) ty_unit [(.pointer (some ⟨x12, 0, none⟩)), (.int .i64 k)]) (.one (.leaf .addr)) fun x119 =>
              .ld x119 .slice fun x120 =>
              .call f_arena_Arena_Store [(.pointer (aI I)), (.int .i64 x102.1), (.int .i64 7), (.int .i64 (w64 ((w64 (1000 * k)) + ((x120.len : Nat) : Int))))] .unit fun _ =>
              t_magpielaw11_SlabMixes_J4 x36 ⟨x9, 0, none⟩ (aI I) ⟨x13, 0, none⟩ ⟨x14, 0, none⟩ (b, n, ()) k A.uses)
            else (
              t_magpielaw11_SlabMixes_J4 x36 ⟨x9, 0, none⟩ (aI I) ⟨x13, 0, none⟩ ⟨x14, 0, none⟩ (b, n, ()) k A.uses))
          else (
            t_magpielaw11_SlabMixes_J4 x36 ⟨x9, 0, none⟩ (aI I) ⟨x13, 0, none⟩ ⟨x14, 0, none⟩ (b, n, ()) k A.uses))
        else (
          t_magpielaw11_SlabMixes_J3 x36 ⟨x9, 0, none⟩ (aI I) (b, n, ()) A.uses)) L (own A (mxB x9 x12 x13 x14 w m f tl) H) R := by
  have hA := M.aw
  have X := M.sl
  have us := M.us
  have us0 := X.F.us
  have hi : k.toNat < 5 := by omega
  obtain ⟨i, ei⟩ : ∃ i, i = k.toNat := ⟨_, rfl⟩
  have IA : AlI (plOf w m) w m x A S := by have := M.mc k.toNat hi; rw [hmc] at this; exact this
  refine w_arr (g := fun i => (f i).mc.ifv) (x := (f k.toNat).mc.ifv) (e := ty_magpielaw11_mach) hA ok (List.mem_cons_of_mem _ (List.mem_cons_of_mem _ List.mem_cons_self)) rfl rfl rfl k0 k1 rfl ?_
  rw [hmc]
  refine act_enter (mAl_inv _ _) ?_
  obtain ⟨p1, ok1⟩ := mx_front (A := A) ok hi
  rw [p1]
  rw [hmc] at ok1 ⊢
  have ok2 : Ok I H (keys (x.bl j) ++ keys (mxH x9 x12 x13 x14 w m (arrC 5 fun i => slV (f i).s) (arrC 5 fun i => (f i).mc.ifv) (arrC 5 fun i => .pointer (f i).mc.ptr) ((f k.toNat).hb ++ (restBl f k.toNat 5 ++ tl)))) := by rw [← keys_append]; exact ok1
  obtain ⟨o1, o2⟩ := ok2.split
  have lst := IA.lst
  have wb := X.wb
  refine w_sub (mAl_ok I A _ x j hA o1 ⟨lst.1, by omega⟩) ?_
  rintro v K ⟨j', rfl, rfl, ej, o3, hB⟩
  refine ⟨(x.step A).1.what == 4, rfl, ?_⟩
  obtain ⟨S', Z⟩ := IA.step X hA.wf (by omega)
  show wp Try.prog _ L (own (x.step A).2 ((x.step A).1.bl j') (putL _ H)) _
  rw [← own_append]
  have ok3 : Ok I H (keys ((x.step A).1.bl j' ++ (mxH x9 x12 x13 x14 w m (arrC 5 fun i => slV (f i).s) (arrC 5 fun i => (f i).mc.ifv) (arrC 5 fun i => .pointer (f i).mc.ptr) ((f k.toNat).hb ++ (restBl f k.toNat 5 ++ tl))))) := by rw [keys_append]; exact o3.join o2
  have hB : Aw I (x.step A).2 := hB
  have ej : j'.1 = j.1 := ej
  generalize (x.step A).1 = y at *
  generalize (x.step A).2 = B at *
  have zus := Z.us
  have hmine : x.mine = -1 ∨ (f k.toNat).mc.hold = some x.mine ∨ ((f k.toNat).mc.hold = none ∧ (∀ q, x.mine ∉ S.ch q) ∧ ∀ q, q < 5 → (f q).mc.hold ≠ some x.mine) := by
    unfold Al.mine
    by_cases e : x.what = 3
    · right; left
      rw [hmc, if_pos e]
      show (if x.what = 3 then some x.base else none) = _
      rw [if_pos e]
    · left; rw [if_neg e]
  have perm0 := allXs_perm f hi
  by_cases hd : y.what = 4
  case neg =>
    refine wp_false (ibef hd) ?_
    rcases Z.res with ⟨r1, r2, r3⟩ | ⟨r1, _⟩
    rotate_left
    · exact (hd r1).elim
    have M' : MX I B w m S' (updA f k.toNat { f k.toNat with mc := .al y j' }) (n + 1) := by
      have perm1 := allXs_perm (updA f k.toNat { f k.toNat with mc := .al y j' }) hi
      rw [restXs_upd, updA_same] at perm1
      have pp := perm1.trans perm0.symm
      refine M.step hi hB Z.sl Z.ev hmine (Z.cc M.cc) ⟨by omega, by omega⟩ (by rw [r3, szs_perm pp]; exact M.nL) (by rw [r3]; have := M.bL; omega) (by rw [r3, Z.nR]; have := M.bal; omega) (fun h hh => by rw [r2]; exact M.st h (pp.subset hh)) (pp.nodup_iff.2 M.nd) (M.sls _ hi) (by have := M.ln _ hi; show ((f k.toNat).xs.length : Int) ≤ _; omega) (Z.inv hd) fun b' hb' q hq hqn => ?_
      have hb' : (if y.what = 3 then some y.base else none) = some b' := hb'
      by_cases e : y.what = 3
      · rw [if_pos e] at hb'
        have eb : y.base = b' := by simpa using hb'
        intro hq2
        have nin := (M.mc q hq).nin X hq2
        by_cases e3 : x.what = 3
        · have hown := M.hd k.toNat q hi hq (fun e => hqn e.symm) x.base (by rw [hmc]; show (if x.what = 3 then some x.base else none) = _; rw [if_pos e3])
          -- a bears step ends
          exfalso
          have := Z.acq e
          rcases this with h1 | ⟨q', h1⟩
          · exact nin.2 (by rw [← eb]; exact h1)
          · exact nin.1 q' (by rw [← eb]; exact h1)
        · rcases Z.acq e with h1 | ⟨q', h1⟩
          · exact nin.2 (by rw [← eb]; exact h1)
          · exact nin.1 q' (by rw [← eb]; exact h1)
      · rw [if_neg e] at hb'; cases hb'
    obtain ⟨q1, q2⟩ := mx_back (A := B) (x9 := x9) (x12 := x12) (x13 := x13) (x14 := x14) (w := w) (m := m) (f := f) (tl := tl) (g := []) (a := { f k.toNat with mc := .al y j' }) hi (c12 := arrC 5 fun i => slV (f i).s) (c13 := arrC 5 fun i => (f i).mc.ifv) (c14 := arrC 5 fun i => .pointer (f i).mc.ptr) (arr_keep (g := fun a => slV a.s) rfl) (arr_keep (g := fun a => a.mc.ifv) (by
        show Value.iface ty_p_slab_Alloc (.pointer (some ⟨j'.1, 0, none⟩)) = (f k.toNat).mc.ifv
        rw [hmc, ej]; rfl)) (arr_keep (g := fun a => .pointer a.mc.ptr) (by
        show Value.pointer (some ⟨j'.1, 0, none⟩) = .pointer (f k.toNat).mc.ptr
        rw [hmc, ej]; rfl)) (l := y.bl j' ++ (mxH x9 x12 x13 x14 w m (arrC 5 fun i => slV (f i).s) (arrC 5 fun i => (f i).mc.ifv) (arrC 5 fun i => .pointer (f i).mc.ptr) ((f k.toNat).hb ++ (restBl f k.toNat 5 ++ tl)))) (perm_by fun c d c0 cd ca => by
        show _ = c (mxH _ _ _ _ _ _ _ _ _ (y.bl j' ++ ((f k.toNat).hb ++ (restBl f k.toNat 5 ++ ([] ++ tl)))))
        simp only [mxH, cd, ca, c0]; omega) ok3
    rw [q1]
    exact mx_J3 hx xb M' ⟨by omega, by omega⟩ ⟨us0, by omega, by omega⟩ q2 fun A' tl' u M2 o => h A' S' _ tl' u M2 o
  refine wp_true (ibeq hd) ?_
  have c14 : (x14, oc ty_a5_p_slab_Alloc (arrC 5 fun i => .pointer (f i).mc.ptr)) ∈ y.bl j' ++ (mxH x9 x12 x13 x14 w m (arrC 5 fun i => slV (f i).s) (arrC 5 fun i => (f i).mc.ifv) (arrC 5 fun i => .pointer (f i).mc.ptr) ((f k.toNat).hb ++ (restBl f k.toNat 5 ++ tl))) :=
    List.mem_append_right _ (List.mem_cons_of_mem _ (List.mem_cons_of_mem _ (List.mem_cons_of_mem _ List.mem_cons_self)))
  have ep : (f k.toNat).mc.ptr = some ⟨j'.1, 0, none⟩ := by rw [hmc, ej]; rfl
  refine w_arr (g := fun i => .pointer (f i).mc.ptr) (x := (f k.toNat).mc.ptr) (e := ty_p_slab_Alloc) hB ok3 c14 rfl rfl rfl k0 k1 rfl ?_
  rw [ep]
  refine look_val (x := true) (na_some _) (wp_true rfl ?_)
  refine w_arr (g := fun i => .pointer (f i).mc.ptr) (x := (f k.toNat).mc.ptr) (e := ty_p_slab_Alloc) hB ok3 c14 rfl rfl rfl k0 k1 rfl ?_
  rw [ep]
  refine w_Handle 0 (x := y) hB ok3 rfl ?_
  rcases Z.res with ⟨r1, r2, r3⟩ | ⟨r1, r2, r3, r4, r5, r6, r7, r8, r9⟩
  · refine wp_false (by show ((y.h : Int) != 0) = false; rw [r1]; rfl) ?_
    have perm1 := allXs_perm (updA f k.toNat { f k.toNat with mc := .idle }) hi
    rw [restXs_upd, updA_same] at perm1
    have pp := perm1.trans perm0.symm
    have M' : MX I B w m S' (updA f k.toNat { f k.toNat with mc := .idle }) (n + 1) :=
      M.step hi hB Z.sl Z.ev hmine (Z.cc M.cc) ⟨by omega, by omega⟩ (by rw [r3, szs_perm pp]; exact M.nL) (by rw [r3]; have := M.bL; omega) (by rw [r3, Z.nR]; have := M.bal; omega) (fun h hh => by rw [r2]; exact M.st h (pp.subset hh)) (pp.nodup_iff.2 M.nd) (M.sls _ hi) (by have := M.ln _ hi; show ((f k.toNat).xs.length : Int) ≤ _; omega) trivial fun b' hb' => by cases hb'
    obtain ⟨q1, q2⟩ := own_perm (A := B) (l' := mxH x9 x12 x13 x14 w m (arrC 5 fun i => slV (f i).s) (arrC 5 fun i => (f i).mc.ifv) (arrC 5 fun i => .pointer (f i).mc.ptr) (y.bl j' ++ ((f k.toNat).hb ++ (restBl f k.toNat 5 ++ tl)))) ok3 (perm_by fun c d c0 cd ca => by simp only [cd, ca, c0]; omega)
    rw [q1]
    refine mx_J4 (a := { f k.toNat with mc := .idle }) rfl hB k0 k1 q2 ?_
    obtain ⟨q3, q4⟩ := mx_back (A := B) (x9 := x9) (x12 := x12) (x13 := x13) (x14 := x14) (w := w) (m := m) (f := f) (tl := tl) (g := y.bl j') (a := { f k.toNat with mc := .idle }) hi (c12 := arrC 5 fun i => slV (f i).s) (arr_keep (g := fun a => slV a.s) rfl) rfl rfl (l := mxH x9 x12 x13 x14 w m (arrC 5 fun i => slV (f i).s) (arrC 5 fun i => (updA f k.toNat { f k.toNat with mc := .idle } i).mc.ifv) (arrC 5 fun i => .pointer (updA f k.toNat { f k.toNat with mc := .idle } i).mc.ptr) (y.bl j' ++ ((f k.toNat).hb ++ (restBl f k.toNat 5 ++ tl)))) (perm_by fun c d c0 cd ca => by
      show _ = c (mxH _ _ _ _ _ _ _ _ _ ([] ++ ((f k.toNat).hb ++ (restBl f k.toNat 5 ++ (y.bl j' ++ tl)))))
      simp only [mxH, cd, ca, c0]; omega) q2
    rw [q3]
    exact mx_J3 hx xb M' ⟨by omega, by omega⟩ ⟨us0, by omega, by omega⟩ q4 fun A' tl' u M2 o => h A' S' _ tl' u M2 o
  · refine wp_true (by show ((y.h : Int) != 0) = true; exact bne_iff_ne.2 r3) ?_
    have c12 : (x12, oc ty_a5_s_int (arrC 5 fun i => slV (f i).s)) ∈ y.bl j' ++ (mxH x9 x12 x13 x14 w m (arrC 5 fun i => slV (f i).s) (arrC 5 fun i => (f i).mc.ifv) (arrC 5 fun i => .pointer (f i).mc.ptr) ((f k.toNat).hb ++ (restBl f k.toNat 5 ++ tl))) :=
      List.mem_append_right _ (List.mem_cons_of_mem _ List.mem_cons_self)
    refine w_arr (g := fun i => slV (f i).s) (x := (f k.toNat).s) (e := ty_s_int) hB ok3 c12 rfl rfl rfl k0 k1 rfl ?_
    refine w_newS hB ok3 fun g ok4 => ?_
    obtain ⟨p5, ok5⟩ := own_perm (A := B) (l' := (y.bl j' ++ mxH x9 x12 x13 x14 w m (arrC 5 fun i => slV (f i).s) (arrC 5 fun i => (f i).mc.ifv) (arrC 5 fun i => .pointer (f i).mc.ptr) []) ++ (((g, oc ty_int [.int .i64 y.h]) :: (f k.toNat).hb) ++ (restBl f k.toNat 5 ++ tl))) ok4 (perm_by fun c d c0 cd ca => by simp only [cd, ca, c0]; omega)
    rw [p5]
    have lnk := M.ln _ hi
    refine w_appA (E := eI) elI _ (xs := (f k.toNat).xs) (ys := [y.h]) (t := ⟨some ⟨g, 0, none⟩, 1, 1⟩) hB ok5 ((M.sls _ hi).mono fun p hp => List.mem_cons_of_mem _ hp) ?_ rfl (by simp only [List.length_cons, List.length_nil]; omega) fun s' mid' hs' ok6 => ?_
    · exact cell_row (c := [.int .i64 y.h]) hB ok5 (List.mem_append_right _ (List.mem_append_left _ List.mem_cons_self)) 0 rfl
    obtain ⟨p7, ok7⟩ := own_perm (A := B) (l' := mxH x9 x12 x13 x14 w m (arrC 5 fun i => slV (f i).s) (arrC 5 fun i => (f i).mc.ifv) (arrC 5 fun i => .pointer (f i).mc.ptr) (y.bl j' ++ (mid' ++ (restBl f k.toNat 5 ++ tl)))) ok6 (perm_by fun c d c0 cd ca => by simp only [cd, ca, c0]; omega)
    rw [p7]
    refine w_arrS 1 (g := fun i => slV (f i).s) (e := ty_s_int) hB ok7 rfl rfl rfl rfl k0 k1 rfl ?_
    have e1 : (arrC 5 fun i => slV (f i).s).set k.toNat (.slice s'.a s'.len s'.cap) = arrC 5 fun i => slV (updA f k.toNat ⟨.idle, (f k.toNat).xs ++ [y.h], s', mid'⟩ i).s := arr_upd (g := fun a => slV a.s) (f := f) (i := k.toNat) (a := ⟨.idle, (f k.toNat).xs ++ [y.h], s', mid'⟩)
    rw [e1]
    have ok8 : Ok I H (keys (mxH x9 x12 x13 x14 w m (arrC 5 fun i => slV (updA f k.toNat ⟨.idle, (f k.toNat).xs ++ [y.h], s', mid'⟩ i).s) (arrC 5 fun i => (f i).mc.ifv) (arrC 5 fun i => .pointer (f i).mc.ptr) (y.bl j' ++ (mid' ++ (restBl f k.toNat 5 ++ tl))))) := ok7
    show wp Try.prog _ L (own B (mxH x9 x12 x13 x14 w m (arrC 5 fun i => slV (updA f k.toNat ⟨.idle, (f k.toNat).xs ++ [y.h], s', mid'⟩ i).s) (arrC 5 fun i => (f i).mc.ifv) (arrC 5 fun i => .pointer (f i).mc.ptr) (y.bl j' ++ (mid' ++ (restBl f k.toNat 5 ++ tl)))) H) R
    refine w_arr (g := fun i => slV (updA f k.toNat ⟨.idle, (f k.toNat).xs ++ [y.h], s', mid'⟩ i).s) (x := s') (e := ty_s_int) hB ok8 (List.mem_cons_of_mem _ List.mem_cons_self) rfl rfl rfl k0 k1 (by rw [updA_same]; rfl) ?_
    refine w_Store hB fun hC => ?_
    generalize w64 (w64 (1000 * k) + ((s'.len : Nat) : Int)) = val at *
    have szh := sz_pos IA.cls.1 IA.cls.2
    have inok : B.inOk y.h 7 := by
      refine ⟨by rw [r8, if_pos rfl]; decide, by omega, ?_⟩
      rw [r5]; omega
    obtain ⟨Q, qu⟩ := Qu.store Z.sl (by omega) (h := y.h) (off := 7) (v := val) inok
    generalize B.storeF y.h 7 val = C at *
    have perm1 := allXs_perm (updA f k.toNat ⟨.idle, (f k.toNat).xs ++ [y.h], s', mid'⟩) hi
    rw [restXs_upd, updA_same] at perm1
    have pp : (allXs (updA f k.toNat ⟨.idle, (f k.toNat).xs ++ [y.h], s', mid'⟩) 5).Perm (y.h :: allXs f 5) := by
      refine perm1.trans ?_
      show ((f k.toNat).xs ++ [y.h] ++ restXs f k.toNat 5).Perm _
      rw [List.append_assoc]
      exact List.perm_middle.trans (perm0.symm.cons _)
    have hnew : y.h ∉ allXs f 5 := fun hh => by have := M.st _ hh; rw [r7] at this; cases this
    have E2 : Ev (plOf w m) w m A S C S' x.mine := by
      have E := Z.ev
      have F := Q.ev
      refine ⟨E.fe.trans ⟨F.fe.hd, fun b' b0 b1 b2 b3 => F.fe.lk b' b0 b1 b2 (by omega)⟩, fun b' hb' => E.cl b' hb', fun b' ob hb' => F.ow b' (E.ow b' ob hb') ?_, fun h' hh' => by rw [Q.st]; exact E.st h' hh', F.fa.trans E.fa, F.rl.trans E.rl, fun i' hi' => by rw [F.rw i' hi']; exact E.rw i' hi', by rw [qu]; have := E.us; omega⟩
      intro e; have := (E.ow b' ob hb').1
      have := Z.sl.blk b' this; omega
    have M' : MX I C w m S' (updA f k.toNat ⟨.idle, (f k.toNat).xs ++ [y.h], s', mid'⟩) (n + 1) := by
      have szs1 : szs (allXs (updA f k.toNat ⟨.idle, (f k.toNat).xs ++ [y.h], s', mid'⟩) 5) = sizeF x.cls + szs (allXs f 5) := by rw [szs_perm pp, szs_cons, r5]
      have mnL := M.nL
      have mbL := M.bL
      have mbal := M.bal
      have znR := Z.nR
      refine M.step hi hC Q.sl E2 hmine (Q.cc (Z.cc M.cc)) ⟨by omega, by omega⟩ (by rw [Q.nL, r9, szs1, mnL]; omega) (by rw [Q.nL, r9]; omega) (by rw [Q.nL, Q.nR, r9]; omega) (fun h' hh' => ?_) (pp.nodup_iff.2 (List.nodup_cons.2 ⟨hnew, M.nd⟩)) hs' (by rw [List.length_append]; show (((f k.toNat).xs.length + 1 : Nat) : Int) ≤ _; omega) trivial fun b' hb' => by cases hb'
      rw [Q.st, r8]
      rcases List.mem_cons.1 (pp.subset hh') with e | e
      · rw [if_pos e]
      · rw [if_neg (fun e2 => hnew (by rw [← e2]; exact e))]; exact M.st h' e
    refine mx_J4 (a := ⟨.idle, (f k.toNat).xs ++ [y.h], s', mid'⟩) rfl hC k0 k1 ok8 ?_
    obtain ⟨q3, q4⟩ := mx_back (A := C) (x9 := x9) (x12 := x12) (x13 := x13) (x14 := x14) (w := w) (m := m) (f := f) (tl := tl) (g := y.bl j') (a := ⟨.idle, (f k.toNat).xs ++ [y.h], s', mid'⟩) hi rfl rfl rfl (l := mxH x9 x12 x13 x14 w m (arrC 5 fun i => slV (updA f k.toNat ⟨.idle, (f k.toNat).xs ++ [y.h], s', mid'⟩ i).s) (arrC 5 fun i => (updA f k.toNat ⟨.idle, (f k.toNat).xs ++ [y.h], s', mid'⟩ i).mc.ifv) (arrC 5 fun i => .pointer (updA f k.toNat ⟨.idle, (f k.toNat).xs ++ [y.h], s', mid'⟩ i).mc.ptr) (y.bl j' ++ (mid' ++ (restBl f k.toNat 5 ++ tl)))) (perm_by fun c d c0 cd ca => by
      show _ = c (mxH _ _ _ _ _ _ _ _ _ ([] ++ (mid' ++ (restBl f k.toNat 5 ++ (y.bl j' ++ tl)))))
      simp only [mxH, cd, ca, c0]; omega) ok8
    rw [q3]
    exact mx_J3 hx xb M' ⟨by omega, by omega⟩ ⟨us0, by omega, by omega⟩ q4 fun A' tl' u M2 o => h A' S' _ tl' u M2 o
end
end Go.Proofs.Ytfphgiipekkgdaa

set_option linter.unusedVariables false
set_option linter.unusedSimpArgs false
set_option maxRecDepth 20000
namespace Go.Proofs.Ytfphgiipekkgdaa
open Go Go.Fw

section
variable {L : Hands} {R : Value → Heap → Prop} {H : Heap} {I : List Nat} {A : Ar} {w m n : Int} {S : Sg} {f : Nat → Ac} {tl rest : Bl} {x9 x12 x13 x14 : Nat}

set_option maxHeartbeats 4000000 in
/-- A pick of one whose free is under way. -/
theorem mx_fe {x36 k : Int} {b : Bool} {kk : Tree} (hx : m = 8 * x36) (xb : 0 ≤ x36 ∧ x36 < 30) (M : MX I A w m S f n) (n0 : 0 ≤ n ∧ n < 500) (ok : Ok I H (keys (mxB x9 x12 x13 x14 w m f tl))) (k0 : 0 ≤ k) (k1 : k < 5) (kw : k < w) {x : Fe} {j : Tr3} (hmc : (f k.toNat).mc = .fe x j)
    (h : ∀ A' S' f' tl', n + 1 ≤ A'.uses → MX I A' w m S' f' (n + 1) → Ok I H (keys (mxB x9 x12 x13 x14 w m f' tl')) → wp Try.prog (.again 640 [(.bool b), (.int .i64 (n + 1))]) L (own A' (mxB x9 x12 x13 x14 w m f' tl') H) R) :
    wp Try.prog (
        .look (opS Try.prog (.indexAddr ty_a5_magpielaw11_mach (.tmp 0) (.tmp 1)) ty_unit [(.pointer (some ⟨x13, 0, none⟩)), (.int .i64 k)]) (.one (.leaf .addr)) fun x90 =>
        .ld x90 .val fun x91 =>
        .act (opS Try.prog (.call { callee := .invoke (.tmp 0) "Step", args := #[(.tmp 1)], argTypes := #[ty_p_arena_Arena] }) ty_bool [x91, (.pointer (aI I))]) (.one (.leaf .bool)) fun x93 =>
        bif x93 then (
          .look (opS Try.prog (.indexAddr ty_a5_p_slab_Alloc (.tmp 0) (.tmp 1)) ty_unit [(.pointer (some ⟨x14, 0, none⟩)), (.int .i64 k)]) (.one (.leaf .addr)) fun x95 =>
          .ld x95 .ptr fun x96 =>
          .look (opS Try.prog (.binOp .neq ty_p_slab_Alloc (.tmp 0) (.const (.pointer none)) ty_p_slab_Alloc) ty_bool [(.pointer x96)]) (.one (.leaf .bool)) fun x97 =>
          bif x97 then kk
          else (
            t_magpielaw11_SlabMixes_J4 x36 ⟨x9, 0, none⟩ (aI I) ⟨x13, 0, none⟩ ⟨x14, 0, none⟩ (b, n, ()) k A.uses))
        else (
          t_magpielaw11_SlabMixes_J3 x36 ⟨x9, 0, none⟩ (aI I) (b, n, ()) A.uses)) L (own A (mxB x9 x12 x13 x14 w m f tl) H) R := by
  have hA := M.aw
  have X := M.sl
  have us := M.us
  have us0 := X.F.us
  have hi : k.toNat < 5 := by omega
  have IA : FeI (plOf w m) w m ((k.toNat : Nat) : Int) x A S := by have := M.mc k.toNat hi; rw [hmc] at this; exact this
  refine w_arr (g := fun i => (f i).mc.ifv) (x := (f k.toNat).mc.ifv) (e := ty_magpielaw11_mach) hA ok (List.mem_cons_of_mem _ (List.mem_cons_of_mem _ List.mem_cons_self)) rfl rfl rfl k0 k1 rfl ?_
  rw [hmc]
  refine act_enter (mFe_inv _ _) ?_
  obtain ⟨p1, ok1⟩ := mx_front (A := A) ok hi
  rw [p1]
  rw [hmc] at ok1 ⊢
  have ok2 : Ok I H (keys (x.bl j) ++ keys (mxH x9 x12 x13 x14 w m (arrC 5 fun i => slV (f i).s) (arrC 5 fun i => (f i).mc.ifv) (arrC 5 fun i => .pointer (f i).mc.ptr) ((f k.toNat).hb ++ (restBl f k.toNat 5 ++ tl)))) := by rw [← keys_append]; exact ok1
  obtain ⟨o1, o2⟩ := ok2.split
  refine w_sub (mFe_ok I A _ x j hA o1 trivial) ?_
  rintro v K ⟨j', rfl, rfl, ej, o3, hB⟩
  refine ⟨(x.step A).1.done, rfl, ?_⟩
  obtain ⟨S', Z⟩ := IA.step X hA.wf (by omega) ⟨by omega, by omega⟩
  show wp Try.prog _ L (own (x.step A).2 ((x.step A).1.bl j') (putL _ H)) _
  rw [← own_append]
  have ok3 : Ok I H (keys ((x.step A).1.bl j' ++ (mxH x9 x12 x13 x14 w m (arrC 5 fun i => slV (f i).s) (arrC 5 fun i => (f i).mc.ifv) (arrC 5 fun i => .pointer (f i).mc.ptr) ((f k.toNat).hb ++ (restBl f k.toNat 5 ++ tl))))) := by rw [keys_append]; exact o3.join o2
  have hB : Aw I (x.step A).2 := hB
  have ej : j'.1 = j.1 := ej
  generalize (x.step A).1 = y at *
  generalize (x.step A).2 = B at *
  have zus := Z.us
  have hmine : opB x.h = -1 ∨ (f k.toNat).mc.hold = some (opB x.h) ∨ ((f k.toNat).mc.hold = none ∧ (∀ q, opB x.h ∉ S.ch q) ∧ ∀ q, q < 5 → (f q).mc.hold ≠ some (opB x.h)) := by
    right; left; rw [hmc]; rfl
  have perm0 := allXs_perm f hi
  have mnL := M.nL
  have mbL := M.bL
  have mbal := M.bal
  have mln := M.ln _ hi
  have znL := Z.nL
  have hxn : x.h ∉ allXs f 5 := fun hh => by have := M.st _ hh; rw [IA.st] at this; cases this
  rcases Z.res with ⟨r1, r2, r3, r4⟩ | ⟨r1, r3, r4⟩
  · refine wp_false r1 ?_
    have perm1 := allXs_perm (updA f k.toNat { f k.toNat with mc := .fe y j' }) hi
    rw [restXs_upd, updA_same] at perm1
    have pp := perm1.trans perm0.symm
    have M' : MX I B w m S' (updA f k.toNat { f k.toNat with mc := .fe y j' }) (n + 1) :=
      M.step hi hB Z.sl Z.ev hmine (Z.cc M.cc) ⟨by omega, by omega⟩ (by rw [znL, szs_perm pp]; exact mnL) (by omega) (by omega) (fun h hh => by rw [r3]; exact M.st h (pp.subset hh)) (pp.nodup_iff.2 M.nd) (M.sls _ hi) (by show ((f k.toNat).xs.length : Int) ≤ _; omega) r2 fun b' hb' q hq hqn => by
        have hb' : some (opB y.h) = some b' := hb'
        rw [Z.h] at hb'
        exact M.hd k.toNat q hi hq (fun e => hqn e.symm) b' (by rw [hmc]; exact hb')
    obtain ⟨q1, q2⟩ := mx_back (A := B) (x9 := x9) (x12 := x12) (x13 := x13) (x14 := x14) (w := w) (m := m) (f := f) (tl := tl) (g := []) (a := { f k.toNat with mc := .fe y j' }) hi (c12 := arrC 5 fun i => slV (f i).s) (c13 := arrC 5 fun i => (f i).mc.ifv) (c14 := arrC 5 fun i => .pointer (f i).mc.ptr) (arr_keep (g := fun a => slV a.s) rfl) (arr_keep (g := fun a => a.mc.ifv) (by
        show Value.iface ty_p_slab_Free (.pointer (some ⟨j'.1, 0, none⟩)) = (f k.toNat).mc.ifv
        rw [hmc, ej]; rfl)) (arr_keep (g := fun a => .pointer a.mc.ptr) (by
        show Value.pointer none = .pointer (f k.toNat).mc.ptr
        rw [hmc]; rfl)) (l := y.bl j' ++ (mxH x9 x12 x13 x14 w m (arrC 5 fun i => slV (f i).s) (arrC 5 fun i => (f i).mc.ifv) (arrC 5 fun i => .pointer (f i).mc.ptr) ((f k.toNat).hb ++ (restBl f k.toNat 5 ++ tl)))) (perm_by fun c d c0 cd ca => by
        show _ = c (mxH _ _ _ _ _ _ _ _ _ (y.bl j' ++ ((f k.toNat).hb ++ (restBl f k.toNat 5 ++ ([] ++ tl)))))
        simp only [mxH, cd, ca, c0]; omega) ok3
    rw [q1]
    exact mx_J3 hx xb M' ⟨by omega, by omega⟩ ⟨us0, by omega, by omega⟩ q2 fun A' tl' u M2 o => h A' S' _ tl' u M2 o
  · refine wp_true r1 ?_
    have c14 : (x14, oc ty_a5_p_slab_Alloc (arrC 5 fun i => .pointer (f i).mc.ptr)) ∈ y.bl j' ++ (mxH x9 x12 x13 x14 w m (arrC 5 fun i => slV (f i).s) (arrC 5 fun i => (f i).mc.ifv) (arrC 5 fun i => .pointer (f i).mc.ptr) ((f k.toNat).hb ++ (restBl f k.toNat 5 ++ tl))) :=
      List.mem_append_right _ (List.mem_cons_of_mem _ (List.mem_cons_of_mem _ (List.mem_cons_of_mem _ List.mem_cons_self)))
    refine w_arr (g := fun i => .pointer (f i).mc.ptr) (x := (f k.toNat).mc.ptr) (e := ty_p_slab_Alloc) hB ok3 c14 rfl rfl rfl k0 k1 rfl ?_
    have ep : (f k.toNat).mc.ptr = none := by rw [hmc]; rfl
    rw [ep]
    refine look_val (x := false) na_none (wp_false rfl ?_)
    have perm1 := allXs_perm (updA f k.toNat { f k.toNat with mc := .idle }) hi
    rw [restXs_upd, updA_same] at perm1
    have pp := perm1.trans perm0.symm
    have szx := sz_pos (c := opC x.h) (opC_nat x.h).1 (opC_nat x.h).2
    have M' : MX I B w m S' (updA f k.toNat { f k.toNat with mc := .idle }) (n + 1) :=
      M.step hi hB Z.sl Z.ev hmine (Z.cc M.cc) ⟨by omega, by omega⟩ (by rw [znL, szs_perm pp]; exact mnL) (by omega) (by omega) (fun h hh => by rw [r3, if_neg (fun e => hxn (by rw [← e]; exact pp.subset hh))]; exact M.st h (pp.subset hh)) (pp.nodup_iff.2 M.nd) (M.sls _ hi) (by show ((f k.toNat).xs.length : Int) ≤ _; omega) trivial fun b' hb' => by cases hb'
    obtain ⟨q1, q2⟩ := own_perm (A := B) (l' := mxH x9 x12 x13 x14 w m (arrC 5 fun i => slV (f i).s) (arrC 5 fun i => (f i).mc.ifv) (arrC 5 fun i => .pointer (f i).mc.ptr) (y.bl j' ++ ((f k.toNat).hb ++ (restBl f k.toNat 5 ++ tl)))) ok3 (perm_by fun c d c0 cd ca => by simp only [cd, ca, c0]; omega)
    rw [q1]
    refine mx_J4 (a := { f k.toNat with mc := .idle }) rfl hB k0 k1 q2 ?_
    obtain ⟨q3, q4⟩ := mx_back (A := B) (x9 := x9) (x12 := x12) (x13 := x13) (x14 := x14) (w := w) (m := m) (f := f) (tl := tl) (g := y.bl j') (a := { f k.toNat with mc := .idle }) hi (c12 := arrC 5 fun i => slV (f i).s) (arr_keep (g := fun a => slV a.s) rfl) rfl rfl (l := mxH x9 x12 x13 x14 w m (arrC 5 fun i => slV (f i).s) (arrC 5 fun i => (updA f k.toNat { f k.toNat with mc := .idle } i).mc.ifv) (arrC 5 fun i => .pointer (updA f k.toNat { f k.toNat with mc := .idle } i).mc.ptr) (y.bl j' ++ ((f k.toNat).hb ++ (restBl f k.toNat 5 ++ tl)))) (perm_by fun c d c0 cd ca => by
      show _ = c (mxH _ _ _ _ _ _ _ _ _ ([] ++ ((f k.toNat).hb ++ (restBl f k.toNat 5 ++ (y.bl j' ++ tl)))))
      simp only [mxH, cd, ca, c0]; omega) q2
    rw [q3]
    exact mx_J3 hx xb M' ⟨by omega, by omega⟩ ⟨us0, by omega, by omega⟩ q4 fun A' tl' u M2 o => h A' S' _ tl' u M2 o

set_option maxHeartbeats 4000000 in
/-- A new alloc. -/
theorem mx_new {x36 k c : Int} {b : Bool} (hx : m = 8 * x36) (xb : 0 ≤ x36 ∧ x36 < 30) (M : MX I A w m S f n) (n0 : 0 ≤ n ∧ n < 500) (ok : Ok I H (keys (mxB x9 x12 x13 x14 w m f tl))) (k0 : 0 ≤ k) (k1 : k < 5) (kw : k < w) (un : n ≤ A.uses) (hmc : (f k.toNat).mc = .idle) (hc : 0 ≤ c ∧ c < 3)
    (h : ∀ A' S' f' tl', n + 1 ≤ A'.uses → MX I A' w m S' f' (n + 1) → Ok I H (keys (mxB x9 x12 x13 x14 w m f' tl')) → wp Try.prog (.again 640 [(.bool b), (.int .i64 (n + 1))]) L (own A' (mxB x9 x12 x13 x14 w m f' tl') H) R) :
    wp Try.prog (.call f_slab_NewAlloc [(plOf w m).val, (.int .i64 k), (.int .i64 c)] (.one (.leaf .ptr)) fun x76 =>
            t_magpielaw11_SlabMixes_J11 x36 ⟨x9, 0, none⟩ (aI I) ⟨x13, 0, none⟩ ⟨x14, 0, none⟩ (b, n, ()) k A.uses x76) L (own A (mxB x9 x12 x13 x14 w m f tl) H) R := by
  have hA := M.aw
  have X := M.sl
  have us := M.us
  have us0 := X.F.us
  have hi : k.toNat < 5 := by omega
  have sz := sz_pos (c := c) (by omega) (by omega)
  refine w_NewAlloc (p := plOf w m) hA ok (by omega) fun j okj => ?_
  unfold t_magpielaw11_SlabMixes_J11
  obtain ⟨q1, q2⟩ := own_perm (A := A) (l' := mxH x9 x12 x13 x14 w m (arrC 5 fun i => slV (f i).s) (arrC 5 fun i => (f i).mc.ifv) (arrC 5 fun i => .pointer (f i).mc.ptr) ((newAl (plOf w m) k c).bl j ++ ((f k.toNat).hb ++ (restBl f k.toNat 5 ++ tl)))) okj (perm_by fun c' d c0 cd ca => by
      have := allBl_c c0 ca f hi
      rw [hmc] at this
      have e0 : c' (Mc.bl .idle) = 0 := c0
      simp only [mxB, mxH, cd, ca]
      omega)
  rw [q1]
  refine w_arrS 2 (g := fun i => (f i).mc.ifv) (e := ty_magpielaw11_mach) hA q2 rfl rfl rfl rfl k0 k1 rfl ?_
  have e1 : (arrC 5 fun i => (f i).mc.ifv).set k.toNat (.iface ty_p_slab_Alloc (.pointer (some ⟨j.1, 0, none⟩))) = arrC 5 fun i => (updA f k.toNat { f k.toNat with mc := .al (newAl (plOf w m) k c) j } i).mc.ifv := arr_upd (g := fun a => a.mc.ifv) (f := f) (i := k.toNat) (a := { f k.toNat with mc := .al (newAl (plOf w m) k c) j })
  have e2 : (arrC 5 fun i => Value.pointer (f i).mc.ptr).set k.toNat (.pointer (some ⟨j.1, 0, none⟩)) = arrC 5 fun i => .pointer (updA f k.toNat { f k.toNat with mc := .al (newAl (plOf w m) k c) j } i).mc.ptr := arr_upd (g := fun a => .pointer a.mc.ptr) (f := f) (i := k.toNat) (a := { f k.toNat with mc := .al (newAl (plOf w m) k c) j })
  rw [e1]
  have q3 : Ok I H (keys (mxH x9 x12 x13 x14 w m (arrC 5 fun i => slV (f i).s) (arrC 5 fun i => (updA f k.toNat { f k.toNat with mc := .al (newAl (plOf w m) k c) j } i).mc.ifv) (arrC 5 fun i => .pointer (f i).mc.ptr) ((newAl (plOf w m) k c).bl j ++ ((f k.toNat).hb ++ (restBl f k.toNat 5 ++ tl))))) := q2
  show wp Try.prog _ L (own A (mxH x9 x12 x13 x14 w m (arrC 5 fun i => slV (f i).s) (arrC 5 fun i => (updA f k.toNat { f k.toNat with mc := .al (newAl (plOf w m) k c) j } i).mc.ifv) (arrC 5 fun i => .pointer (f i).mc.ptr) ((newAl (plOf w m) k c).bl j ++ ((f k.toNat).hb ++ (restBl f k.toNat 5 ++ tl)))) H) R
  refine w_arrS 3 (g := fun i => .pointer (f i).mc.ptr) (e := ty_p_slab_Alloc) hA q3 rfl rfl rfl rfl k0 k1 rfl ?_
  rw [e2]
  have q4 : Ok I H (keys (mxH x9 x12 x13 x14 w m (arrC 5 fun i => slV (f i).s) (arrC 5 fun i => (updA f k.toNat { f k.toNat with mc := .al (newAl (plOf w m) k c) j } i).mc.ifv) (arrC 5 fun i => .pointer (updA f k.toNat { f k.toNat with mc := .al (newAl (plOf w m) k c) j } i).mc.ptr) ((newAl (plOf w m) k c).bl j ++ ((f k.toNat).hb ++ (restBl f k.toNat 5 ++ tl))))) := q3
  show wp Try.prog _ L (own A (mxH x9 x12 x13 x14 w m (arrC 5 fun i => slV (f i).s) (arrC 5 fun i => (updA f k.toNat { f k.toNat with mc := .al (newAl (plOf w m) k c) j } i).mc.ifv) (arrC 5 fun i => .pointer (updA f k.toNat { f k.toNat with mc := .al (newAl (plOf w m) k c) j } i).mc.ptr) ((newAl (plOf w m) k c).bl j ++ ((f k.toNat).hb ++ (restBl f k.toNat 5 ++ tl)))) H) R
  have perm0 := allXs_perm f hi
  have perm1 := allXs_perm (updA f k.toNat { f k.toNat with mc := .al (newAl (plOf w m) k c) j }) hi
  rw [restXs_upd, updA_same] at perm1
  have pp := perm1.trans perm0.symm
  have mln := M.ln _ hi
  have mbL := M.bL
  have mbal := M.bal
  have M' : MX I A w m S (updA f k.toNat { f k.toNat with mc := .al (newAl (plOf w m) k c) j }) (n + 1) :=
    M.step hi hA X (Ev.refl (mine := -1)) (.inl rfl) M.cc ⟨by omega, by omega⟩ (by rw [szs_perm pp]; exact M.nL) (by omega) (by omega) (fun h hh => M.st h (pp.subset hh)) (pp.nodup_iff.2 M.nd) (M.sls _ hi) (by show ((f k.toNat).xs.length : Int) ≤ _; omega) (AlI.new X ⟨k0, kw⟩ ⟨hc.1, by omega⟩) fun b' hb' => by
      have hb' : (if (newAl (plOf w m) k c).what = 3 then some (newAl (plOf w m) k c).base else none) = some b' := hb'
      rw [if_neg (show ¬ (newAl (plOf w m) k c).what = 3 by show ¬ (0 : Int) = 3; decide)] at hb'; cases hb'
  obtain ⟨q5, q6⟩ := mx_back (A := A) (x9 := x9) (x12 := x12) (x13 := x13) (x14 := x14) (w := w) (m := m) (f := f) (tl := tl) (g := []) (a := { f k.toNat with mc := .al (newAl (plOf w m) k c) j }) hi (c12 := arrC 5 fun i => slV (f i).s) (arr_keep (g := fun a => slV a.s) rfl) rfl rfl (l := mxH x9 x12 x13 x14 w m (arrC 5 fun i => slV (f i).s) (arrC 5 fun i => (updA f k.toNat { f k.toNat with mc := .al (newAl (plOf w m) k c) j } i).mc.ifv) (arrC 5 fun i => .pointer (updA f k.toNat { f k.toNat with mc := .al (newAl (plOf w m) k c) j } i).mc.ptr) ((newAl (plOf w m) k c).bl j ++ ((f k.toNat).hb ++ (restBl f k.toNat 5 ++ tl)))) (.refl _) q4
  rw [q5]
  exact mx_J3 hx xb M' ⟨by omega, by omega⟩ ⟨us0, by omega, by omega⟩ q6 fun A' tl' u M2 o => h A' S _ tl' u M2 o

set_option maxHeartbeats 4000000 in
/-- One that is held is retired; a free begins. -/
theorem mx_give {x36 k : Int} {b : Bool} (hx : m = 8 * x36) (xb : 0 ≤ x36 ∧ x36 < 30) (M : MX I A w m S f n) (n0 : 0 ≤ n ∧ n < 500) (un : n ≤ A.uses) (ok : Ok I H (keys (mxB x9 x12 x13 x14 w m f tl))) (k0 : 0 ≤ k) (k1 : k < 5) (kw : k < w) (hmc : (f k.toNat).mc = .idle) {x : Int} {xs : List Int} (hxs : (f k.toNat).xs = x :: xs)
    (h : ∀ A' S' f' tl', n + 1 ≤ A'.uses → MX I A' w m S' f' (n + 1) → Ok I H (keys (mxB x9 x12 x13 x14 w m f' tl')) → wp Try.prog (.again 640 [(.bool b), (.int .i64 (n + 1))]) L (own A' (mxB x9 x12 x13 x14 w m f' tl') H) R) :
    wp Try.prog (
            .look (opS Try.prog (.indexAddr ty_a5_s_int (.tmp 0) (.tmp 1)) ty_unit [(.pointer (some ⟨x12, 0, none⟩)), (.int .i64 k)]) (.one (.leaf .addr)) fun x142 =>
            .ld x142 .slice fun x143 =>
            .look (opS Try.prog (.indexAddr ty_s_int (.tmp 0) (.const (.int .i64 0))) ty_unit [(.slice x143.a x143.len x143.cap)]) (.one (.leaf .addr)) fun x144 =>
            .ld x144 (.int .i64) fun x145 =>
            .look (opS Try.prog (.indexAddr ty_a5_s_int (.tmp 0) (.tmp 1)) ty_unit [(.pointer (some ⟨x12, 0, none⟩)), (.int .i64 k)]) (.one (.leaf .addr)) fun x148 =>
            .ld x148 .slice fun x149 =>
            .look (opS Try.prog (.slice ty_s_int (.tmp 0) (some (.const (.int .i64 1))) none none) ty_s_int [(.slice x149.a x149.len x149.cap)]) (.one (.leaf .slice)) fun x150 =>
            .look (opS Try.prog (.indexAddr ty_a5_s_int (.tmp 0) (.tmp 1)) ty_unit [(.pointer (some ⟨x12, 0, none⟩)), (.int .i64 k)]) (.one (.leaf .addr)) fun x151 =>
            .st x151 (.slice x150.a x150.len x150.cap) <|
            .call f_arena_Arena_Retire [(.pointer (aI I)), (.int .i64 x145)] (.one (.leaf .bool)) fun x154 =>
            bif (!x154) then (
              .ret (.bool false))
            else (
              .ldA ⟨x9, 0, none⟩ [(.int .i64), (.int .i64), (.int .i64), (.int .i64), (.int .i64)] fun x157 =>
              .call f_slab_NewFree [(.agg #[(.int .i64 x157.1), (.int .i64 x157.2.1), (.int .i64 x157.2.2.1), (.int .i64 x157.2.2.2.1), (.int .i64 x157.2.2.2.2.1)]), (.int .i64 k), (.int .i64 x145)] (.one (.leaf .ptr)) fun x160 =>
              .look (opS Try.prog (.indexAddr ty_a5_magpielaw11_mach (.tmp 0) (.tmp 1)) ty_unit [(.pointer (some ⟨x13, 0, none⟩)), (.int .i64 k)]) (.one (.leaf .addr)) fun x162 =>
              .st x162 (.iface ty_p_slab_Free (.pointer x160)) <|
              t_magpielaw11_SlabMixes_J3 x36 ⟨x9, 0, none⟩ (aI I) (b, n, ()) A.uses)) L (own A (mxB x9 x12 x13 x14 w m f tl) H) R := by
  have hA := M.aw
  have X := M.sl
  have us := M.us
  have us0 := X.F.us
  have hi : k.toNat < 5 := by omega
  have m12 : (x12, oc ty_a5_s_int (arrC 5 fun i => slV (f i).s)) ∈ mxB x9 x12 x13 x14 w m f tl := List.mem_cons_of_mem _ List.mem_cons_self
  refine w_arr (g := fun i => slV (f i).s) (x := (f k.toNat).s) (e := ty_s_int) hA ok m12 rfl rfl rfl k0 k1 rfl ?_
  rw [opS_ix0]
  have hsl := M.sls _ hi
  have hall : ∀ p, p ∈ (f k.toNat).hb → p ∈ mxB x9 x12 x13 x14 w m f tl := fun p hp => by
    refine List.mem_cons_of_mem _ (List.mem_cons_of_mem _ (List.mem_cons_of_mem _ (List.mem_cons_of_mem _ (List.mem_append_left _ ?_))))
    have : ∀ (q : Nat), k.toNat < q → p ∈ allBl f q := fun q hq => by
      induction q with
      | zero => omega
      | succ q ih =>
        show p ∈ allBl f q ++ (f q).bl
        by_cases e : q = k.toNat
        · rw [e]; exact List.mem_append_right _ (List.mem_append_right _ hp)
        · exact List.mem_append_left _ (ih (by omega))
    exact this 5 hi
  have hsw := hsl.mono hall
  rw [hxs] at hsw hsl
  refine rdA hA ok hsw (Int.le_refl 0) (by simp only [List.length_cons]; omega) ?_
  refine w_arr (g := fun i => slV (f i).s) (x := (f k.toNat).s) (e := ty_s_int) hA ok m12 rfl rfl rfl k0 k1 rfl ?_
  obtain ⟨tl1, tl2⟩ := hsl.tailI
  rw [opS_lo1]
  refine look_val (x := loSl (f k.toNat).s 1) (opS_sliceLo (e := ty_int) rfl rfl rfl (by omega) tl2) ?_
  obtain ⟨a, ea⟩ : ∃ a : Ac, a = ⟨.idle, xs, loSl (f k.toNat).s 1, (f k.toNat).hb⟩ := ⟨_, rfl⟩
  refine w_arrS 1 (g := fun i => slV (f i).s) (e := ty_s_int) hA ok rfl rfl rfl rfl k0 k1 rfl ?_
  have e1 : (arrC 5 fun i => slV (f i).s).set k.toNat (.slice (loSl (f k.toNat).s 1).a (loSl (f k.toNat).s 1).len (loSl (f k.toNat).s 1).cap) = arrC 5 fun i => slV (updA f k.toNat a i).s := by
    have := arr_upd (g := fun a => slV a.s) (f := f) (i := k.toNat) (a := a)
    rw [show slV a.s = .slice (loSl (f k.toNat).s 1).a (loSl (f k.toNat).s 1).len (loSl (f k.toNat).s 1).cap by rw [ea]; rfl] at this
    exact this
  rw [e1]
  have ok1 : Ok I H (keys (mxH x9 x12 x13 x14 w m (arrC 5 fun i => slV (updA f k.toNat a i).s) (arrC 5 fun i => (f i).mc.ifv) (arrC 5 fun i => .pointer (f i).mc.ptr) (allBl f 5 ++ tl))) := ok
  show wp Try.prog _ L (own A (mxH x9 x12 x13 x14 w m (arrC 5 fun i => slV (updA f k.toNat a i).s) (arrC 5 fun i => (f i).mc.ifv) (arrC 5 fun i => .pointer (f i).mc.ptr) (allBl f 5 ++ tl)) H) R
  show wp Try.prog (.call f_arena_Arena_Retire [.pointer (aI I), .int .i64 x] _ _) L _ R
  have hx1 : x ∈ allXs f 5 := (allXs_perm f hi).symm.subset (List.mem_append_left _ (by rw [hxs]; exact List.mem_cons_self))
  have hst := M.st x hx1
  have perm0 := allXs_perm f hi
  rw [hxs] at perm0
  have sz0 := szs_perm perm0
  have nLx : szs (allXs f 5) = sizeF (opC x) + szs (xs ++ restXs f k.toNat 5) := by rw [sz0]; exact szs_cons _ _
  have nn := szs_nn (xs ++ restXs f k.toNat 5)
  have mnL := M.nL
  have mbL := M.bL
  have mbal := M.bal
  have szx := sz_pos (c := opC x) (opC_nat x).1 (opC_nat x).2
  obtain ⟨Y, yst, yL, yR, yE, ycc, yu, yw, yf⟩ := Ev.retire X hA.wf (by omega) hst ⟨by omega, by omega⟩
  refine w_Retire hA fun hB => ?_
  have tb : A.turnB x 1 = true := decide_eq_true hst
  rw [tb]
  refine wp_false rfl ?_
  have hB : Aw I (A.retireF x) := hB
  generalize A.retireF x = B at *
  refine w_ldA 0 hB ok1 rfl rfl rfl ?_
  refine w_NewFree (p := plOf w m) (w := k) (b := x) hB ok1 fun j okj => ?_
  obtain ⟨f1, ef1⟩ : ∃ f1, f1 = updA f k.toNat { a with mc := .fe (newFe (plOf w m) k x) j } := ⟨_, rfl⟩
  obtain ⟨q1, q2⟩ := own_perm (A := B) (l' := mxH x9 x12 x13 x14 w m (arrC 5 fun i => slV (updA f k.toNat a i).s) (arrC 5 fun i => (f i).mc.ifv) (arrC 5 fun i => .pointer (f i).mc.ptr) ((newFe (plOf w m) k x).bl j ++ ((f k.toNat).hb ++ (restBl f k.toNat 5 ++ tl)))) okj (perm_by fun c' d c0 cd ca => by
      have := allBl_c c0 ca f hi
      rw [hmc] at this
      have e0 : c' (Mc.bl .idle) = 0 := c0
      simp only [mxB, mxH, cd, ca]
      omega)
  rw [q1]
  refine w_arrS 2 (g := fun i => (f i).mc.ifv) (e := ty_magpielaw11_mach) hB q2 rfl rfl rfl rfl k0 k1 rfl ?_
  have e2 : (arrC 5 fun i => (f i).mc.ifv).set k.toNat (.iface ty_p_slab_Free (.pointer (some ⟨j.1, 0, none⟩))) = arrC 5 fun i => (updA f k.toNat { a with mc := .fe (newFe (plOf w m) k x) j } i).mc.ifv := arr_upd (g := fun a => a.mc.ifv) (f := f) (i := k.toNat) (a := { a with mc := .fe (newFe (plOf w m) k x) j })
  rw [e2]
  have q4 : Ok I H (keys (mxH x9 x12 x13 x14 w m (arrC 5 fun i => slV (updA f k.toNat a i).s) (arrC 5 fun i => (updA f k.toNat { a with mc := .fe (newFe (plOf w m) k x) j } i).mc.ifv) (arrC 5 fun i => .pointer (f i).mc.ptr) ((newFe (plOf w m) k x).bl j ++ ((f k.toNat).hb ++ (restBl f k.toNat 5 ++ tl))))) := q2
  show wp Try.prog _ L (own B (mxH x9 x12 x13 x14 w m (arrC 5 fun i => slV (updA f k.toNat a i).s) (arrC 5 fun i => (updA f k.toNat { a with mc := .fe (newFe (plOf w m) k x) j } i).mc.ifv) (arrC 5 fun i => .pointer (f i).mc.ptr) ((newFe (plOf w m) k x).bl j ++ ((f k.toNat).hb ++ (restBl f k.toNat 5 ++ tl)))) H) R
  have perm1 : (allXs (updA f k.toNat { a with mc := .fe (newFe (plOf w m) k x) j }) 5).Perm (xs ++ restXs f k.toNat 5) := by
    have h := allXs_perm (updA f k.toNat { a with mc := .fe (newFe (plOf w m) k x) j }) hi
    rw [restXs_upd, updA_same] at h
    exact h.trans (by show (a.xs ++ _).Perm _; rw [ea])
  have axs : ({ a with mc := .fe (newFe (plOf w m) k x) j } : Ac).xs = xs := by rw [ea]
  have asl : ({ a with mc := .fe (newFe (plOf w m) k x) j } : Ac).s = loSl (f k.toNat).s 1 := by rw [ea]
  have ahb : ({ a with mc := .fe (newFe (plOf w m) k x) j } : Ac).hb = (f k.toNat).hb := by rw [ea]
  have nd0 : (x :: (xs ++ restXs f k.toNat 5)).Nodup := perm0.nodup_iff.1 M.nd
  have mln := M.ln _ hi
  rw [hxs] at mln
  have M' : MX I B w m S (updA f k.toNat { a with mc := .fe (newFe (plOf w m) k x) j }) (n + 1) := by
    refine M.step hi hB Y yE (.inr (.inr ⟨by rw [hmc]; rfl, (X.act x (by rw [hst]; decide)).2, fun q hq hq2 => ?_⟩)) (ycc M.cc) ⟨by omega, by omega⟩ (by rw [szs_perm perm1, yL]; omega) (by omega) (by omega) (fun h' hh => ?_) (perm1.nodup_iff.2 (List.nodup_cons.1 nd0).2) (by rw [asl, ahb, axs]; exact tl1) (by rw [axs]; simp only [List.length_cons] at mln; omega) (by
      show FeI (plOf w m) w m ((k.toNat : Nat) : Int) (newFe (plOf w m) k x) B S
      rw [show ((k.toNat : Nat) : Int) = k by omega]; exact FeI.new Y ⟨k0, kw⟩ (by rw [yst, if_pos rfl])) fun b' hb' q hq hqn hq2 => ?_
    · have := M.mc q hq
      cases hm : (f q).mc with
      | idle => rw [hm] at hq2; cases hq2
      | al y j' =>
        rw [hm] at hq2 this
        have this : AlI (plOf w m) w m y A S := this
        have hq2 : (if y.what = 3 then some y.base else none) = some (opB x) := hq2
        by_cases e : y.what = 3
        · rw [if_pos e] at hq2
          have e2 : y.base = opB x := by simpa using hq2
          exact (this.bears e).1.2.2 x (by rw [hst]; decide) e2.symm
        · rw [if_neg e] at hq2; cases hq2
      | fe y j' =>
        rw [hm] at hq2 this
        have this : FeI (plOf w m) w m q y A S := this
        have e2 : opB y.h = opB x := by simpa [Mc.hold] using hq2
        have ne : y.h ≠ x := fun e => by have := this.st; rw [e, hst] at this; cases this
        have := stF_one (A := A) (h := x) (k := y.h) (by rw [hst]; decide) e2 ne
        rw [FeI.st ‹_›] at this; cases this
    · have hh' := perm1.subset hh
      rw [yst, if_neg (fun e => (List.nodup_cons.1 nd0).1 (by rw [← e]; exact hh'))]
      exact M.st h' (perm0.symm.subset (List.mem_cons_of_mem _ hh'))
    · have hb' : some (opB x) = some b' := hb'
      have hb'' : opB x = b' := by simpa using hb'
      rw [← hb''] at hq2
      have := M.mc q hq
      cases hm : (f q).mc with
      | idle => rw [hm] at hq2; cases hq2
      | al y j' =>
        rw [hm] at hq2 this
        have this : AlI (plOf w m) w m y A S := this
        have hq2 : (if y.what = 3 then some y.base else none) = some (opB x) := hq2
        by_cases e : y.what = 3
        · rw [if_pos e] at hq2
          have e2 : y.base = opB x := by simpa using hq2
          exact (this.bears e).1.2.2 x (by rw [hst]; decide) e2.symm
        · rw [if_neg e] at hq2; cases hq2
      | fe y j' =>
        rw [hm] at hq2 this
        have this : FeI (plOf w m) w m q y A S := this
        have e2 : opB y.h = opB x := by simpa [Mc.hold] using hq2
        have ne : y.h ≠ x := fun e => by have := this.st; rw [e, hst] at this; cases this
        have := stF_one (A := A) (h := x) (k := y.h) (by rw [hst]; decide) e2 ne
        rw [FeI.st ‹_›] at this; cases this
  have as2 : (arrC 5 fun i => slV (updA f k.toNat a i).s) = arrC 5 fun i => slV (updA f k.toNat { a with mc := .fe (newFe (plOf w m) k x) j } i).s := by
    congr 1; funext q; unfold updA; split <;> rfl
  obtain ⟨q5, q6⟩ := mx_back (A := B) (x9 := x9) (x12 := x12) (x13 := x13) (x14 := x14) (w := w) (m := m) (f := f) (tl := tl) (g := []) (a := { a with mc := .fe (newFe (plOf w m) k x) j }) hi as2 rfl (c14 := arrC 5 fun i => .pointer (f i).mc.ptr) (arr_keep (g := fun a => .pointer a.mc.ptr) (by rw [hmc]; rfl)) (l := mxH x9 x12 x13 x14 w m (arrC 5 fun i => slV (updA f k.toNat a i).s) (arrC 5 fun i => (updA f k.toNat { a with mc := .fe (newFe (plOf w m) k x) j } i).mc.ifv) (arrC 5 fun i => .pointer (f i).mc.ptr) ((newFe (plOf w m) k x).bl j ++ ((f k.toNat).hb ++ (restBl f k.toNat 5 ++ tl)))) (by rw [ahb]; exact .refl _) q4
  rw [q5]
  exact mx_J3 hx xb M' ⟨by omega, by omega⟩ ⟨us0, by omega, by omega⟩ q6 fun A' tl' u M2 o => h A' S _ tl' u M2 o
end
end Go.Proofs.Ytfphgiipekkgdaa

set_option linter.unusedVariables false
set_option linter.unusedSimpArgs false
set_option maxRecDepth 20000
namespace Go.Proofs.Ytfphgiipekkgdaa
open Go Go.Fw

def f00 : Nat → Ac := fun _ => ⟨.idle, [], sl0, []⟩
theorem count_none {l : List Bool} (h : ∀ i : Nat, l.getD i false = false) : l.count true = 0 := by
  refine List.count_eq_zero.2 fun hm => ?_
  obtain ⟨i, hi, e⟩ := List.getElem_of_mem hm
  have := h i
  rw [List.getD_eq_getElem?_getD, List.getElem?_eq_getElem hi] at this
  rw [e] at this; cases this
theorem szs_allXs_mono (f : Nat → Ac) {a b : Nat} (h : a ≤ b) : szs (allXs f a) ≤ szs (allXs f b) := by
  induction b with
  | zero => rw [show a = 0 by omega]; exact Int.le_refl _
  | succ b ih =>
    by_cases e : a = b + 1
    · rw [e]; exact Int.le_refl _
    · have := ih (by omega)
      show _ ≤ szs (allXs f b ++ (f b).xs)
      rw [szs_append]
      have := szs_nn (f b).xs
      omega

set_option maxHeartbeats 4000000 in
theorem SlabMixes_det (p0 p1 : Int) (s : Sl) (zs : List Int) (H : Heap) (hz : RowOf H s.a s.len zs) : Det Try.prog f_magpielaw11_SlabMixes [.int .i64 p0, .int .i64 p1, .slice s.a s.len s.cap] H (.bool true) H := by
  refine t_magpielaw11_SlabMixes_spec (p0 := p0) (p1 := p1) (p2 := s) fun L => ?_
  unfold t_magpielaw11_SlabMixes
  refine w_Place (by omega) (by omega) (w_Place (by omega) (by omega) ?_)
  have a0 := Int.emod_nonneg p0 (b := 5) (by omega)
  have a1 := Int.emod_lt_of_pos p0 (b := 5) (by omega)
  have c0 := Int.emod_nonneg p1 (b := 30) (by omega)
  have c1 := Int.emod_lt_of_pos p1 (b := 30) (by omega)
  generalize p0 % 5 = a at *
  generalize p1 % 30 = x36 at *
  have e1 : w64 (1 + a) = 1 + a := w64_in (by omega) (by omega)
  have e8 : w64 (8 * x36) = 8 * x36 := w64_in (by omega) (by omega)
  obtain ⟨w, ew⟩ : ∃ w, w = 1 + a := ⟨_, rfl⟩
  obtain ⟨m, em⟩ : ∃ m, m = 8 * x36 := ⟨_, rfl⟩
  rw [e1, e8, ← ew, ← em]
  refine w_places (w := w) (m := m) ⟨by omega, by omega⟩ ⟨by omega, by omega⟩ fun A x9 hA hI ok X fa us nl nr => ?_
  refine look_val (x := false) (np_some _) (wp_false rfl ?_)
  refine w_newP (c := arrC 5 fun i => slV (f00 i).s) hA ok fun x12 ok => ?_
  refine w_newP (c := arrC 5 fun i => (f00 i).mc.ifv) hA ok fun x13 ok => ?_
  refine w_newP (c := arrC 5 fun i => .pointer (f00 i).mc.ptr) hA ok fun x14 ok => ?_
  obtain ⟨p1, ok1⟩ := own_perm (A := A) (l' := mxB x9 x12 x13 x14 w m f00 []) ok (perm_by fun c d c0 cd ca => by
    have e : c (allBl f00 5) = 0 := c0
    simp only [mxB, cd, ca, c0, e]; omega)
  rw [p1]
  have M0 : MX A.ids A w m _ f00 0 := ⟨hA, X, fa, by
      rw [X.cnt.1, count_none fun i => X.cr1 i (by show (0 : Int) ≤ i; omega)]; rfl, ⟨by omega, by omega⟩, by rw [nl]; rfl, by omega, by omega, fun h hh => (by cases hh), .nil, fun i _ => .inl ⟨rfl, rfl⟩, fun i _ => Int.le_refl 0, fun i _ => trivial, fun i j _ _ _ b hb => by cases hb⟩
  -- the end
  have fin : ∀ {L : Hands} {b : Bool} {A' : Ar} {S' : Sg} {f : Nat → Ac} {tl : Bl} {n : Int}, n ≤ 500 → MX A.ids A' w m S' f n → Ok A.ids H (keys (mxB x9 x12 x13 x14 w m f tl)) →
      wp Try.prog (.loop 2433 t_magpielaw11_SlabMixes_L2_sh [(.bool b), (.int .i64 0), (.int .i64 0)] (t_magpielaw11_SlabMixes_L2 a (aI A.ids) ⟨x12, 0, none⟩)) L (own A' (mxB x9 x12 x13 x14 w m f tl) H) (fun u K => u = .bool true ∧ K = H) := by
    intro L b A' S' f tl n n5 M ok
    have hA' := M.aw
    have tot : szs (allXs f 5) ≤ 32000 := by have := M.nL; have := M.bL; omega
    refine wl_bii (fun _ v i K => 0 ≤ i ∧ i ≤ w ∧ v = szs (allXs f i.toNat) ∧ K = own A' (mxB x9 x12 x13 x14 w m f tl) H) (fun _ _ i => (w - i).toNat) b 0 0 ⟨by omega, by omega, rfl, rfl⟩ ?_
    rintro q v i K ⟨i0, i1, rfl, rfl⟩
    rw [t_magpielaw11_SlabMixes_L2, e1, ← ew]
    by_cases ci : i < w
    · refine wp_true (decide_eq_true ci) ?_
      have hi : i.toNat < 5 := by omega
      refine w_arr (k := i) (g := fun i => slV (f i).s) (x := (f i.toNat).s) (e := ty_s_int) hA' ok (List.mem_cons_of_mem _ List.mem_cons_self) rfl rfl rfl i0 (show i < 5 by omega) rfl ?_
      have hall : ∀ p, p ∈ (f i.toNat).hb → p ∈ mxB x9 x12 x13 x14 w m f tl := fun p hp => by
        refine List.mem_cons_of_mem _ (List.mem_cons_of_mem _ (List.mem_cons_of_mem _ (List.mem_cons_of_mem _ (List.mem_append_left _ ?_))))
        have : ∀ (q : Nat), i.toNat < q → p ∈ allBl f q := fun q hq => by
          induction q with
          | zero => omega
          | succ q ih =>
            show p ∈ allBl f q ++ (f q).bl
            by_cases e : q = i.toNat
            · rw [e]; exact List.mem_append_right _ (List.mem_append_right _ hp)
            · exact List.mem_append_left _ (ih (by omega))
        exact this 5 hi
      have hsw := (M.sls _ hi).mono hall
      have hlen := hsw.len
      refine wl_bii (fun _ v j K => 0 ≤ j ∧ j ≤ ((f i.toNat).xs.length : Int) ∧ v = szs (allXs f i.toNat) + szs ((f i.toNat).xs.take j.toNat) ∧ K = own A' (mxB x9 x12 x13 x14 w m f tl) H) (fun _ _ j => ((f i.toNat).xs.length - j).toNat) q (szs (allXs f i.toNat)) 0 ⟨by omega, by omega, by show szs (allXs f i.toNat) = szs (allXs f i.toNat) + (0 : Int); omega, rfl⟩ ?_
      rintro q v j K ⟨j0, j1, rfl, rfl⟩
      rw [t_magpielaw11_SlabMixes_L3]
      by_cases cj : j < ((f i.toNat).xs.length : Int)
      · refine wp_true (decide_eq_true (by show j < (((f i.toNat).s.len : Nat) : Int); rw [hlen]; exact cj)) ?_
        refine rdA hA' ok hsw j0 cj ?_
        have hjl : j.toNat < (f i.toNat).xs.length := by omega
        have hmem : (f i.toNat).xs.getD j.toNat 0 ∈ (f i.toNat).xs := by
          rw [List.getD_eq_getElem?_getD, List.getElem?_eq_getElem hjl]; exact List.getElem_mem _
        have hst := M.st _ (allXs_mem.2 ⟨i.toNat, hi, hmem⟩)
        have etk : (f i.toNat).xs.take (j.toNat + 1) = (f i.toNat).xs.take j.toNat ++ [(f i.toNat).xs.getD j.toNat 0] := by
          rw [List.take_add_one, List.getD_eq_getElem?_getD, List.getElem?_eq_getElem hjl]; rfl
        have hle : szs (allXs f i.toNat) + szs ((f i.toNat).xs.take (j.toNat + 1)) ≤ 32000 := by
          have h1 := szs_allXs_mono f (a := i.toNat + 1) (b := 5) (by omega)
          have h2 : szs (allXs f (i.toNat + 1)) = szs (allXs f i.toNat) + szs (f i.toNat).xs := szs_append _ _
          have h3 : szs (f i.toNat).xs = szs ((f i.toNat).xs.take (j.toNat + 1)) + szs ((f i.toNat).xs.drop (j.toNat + 1)) := by
            rw [← szs_append, List.take_append_drop]
          have := szs_nn ((f i.toNat).xs.drop (j.toNat + 1))
          omega
        have e0 := szs_nn (allXs f i.toNat)
        have e3 := szs_nn ((f i.toNat).xs.take j.toNat)
        generalize (f i.toNat).xs.getD j.toNat 0 = h at *
        refine wq_Open ?_
        refine wp_false (by show (!openOk h) = false; rw [stF_ok (by rw [hst]; decide)]; rfl) ?_
        refine w_State hA' ?_
        refine wp_false (ibnf hst) ?_
        refine wq_Size ?_
        have e4 : szs ((f i.toNat).xs.take (j.toNat + 1)) = szs ((f i.toNat).xs.take j.toNat) + sizeF (opC h) := by
          rw [etk, szs_append]; show _ + (sizeF (opC h) + 0) = _; omega
        have szh := sz_pos (c := opC h) (opC_nat h).1 (opC_nat h).2
        have mln := M.ln _ hi
        have en1 : w64 (szs (allXs f i.toNat) + szs ((f i.toNat).xs.take j.toNat) + sizeF (opC h)) = szs (allXs f i.toNat) + szs ((f i.toNat).xs.take j.toNat) + sizeF (opC h) := w64_in (by omega) (by omega)
        have en2 : w64 (j + 1) = j + 1 := w64_in (by omega) (by omega)
        dsimp only
        rw [en1, en2]
        exact wp_again ⟨q, _, j + 1, rfl, ⟨by omega, by omega, by rw [show (j + 1).toNat = j.toNat + 1 by omega, e4]; omega, rfl⟩, by omega⟩
      · refine wp_false (decide_eq_false (by show ¬ j < (((f i.toNat).s.len : Nat) : Int); rw [hlen]; exact cj)) ?_
        have en2 : w64 (i + 1) = i + 1 := w64_in (by omega) (by omega)
        refine wp_again_up (by decide) (wp_again ⟨q, _, i + 1, by dsimp only; rw [en2], ⟨by omega, by omega, ?_, rfl⟩, by omega⟩)
        rw [show (i + 1).toNat = i.toNat + 1 by omega, List.take_of_length_le (by omega)]
        exact (szs_append _ _).symm
    · refine wp_false (decide_eq_false ci) ?_
      refine w_Fault hA' ?_
      refine wp_true (by rw [M.fa]; rfl) ?_
      refine w_Count hA' ?_
      have h1 := szs_allXs_mono f (a := i.toNat) (b := 5) (by omega)
      have := M.nL
      refine wp_true (decide_eq_true (by show szs (allXs f i.toNat) ≤ A'.nL; omega)) ?_
      refine wp_true (decide_eq_true (by show szs (allXs f i.toNat) ≤ 65536; omega)) ?_
      refine wp_call_det (x := true) (awake11_det _) ?_
      exact ⟨H, own_end hA' ok hI, rfl, rfl⟩
  refine wl_bi (fun _ n K => 0 ≤ n ∧ n ≤ 500 ∧ ∃ A' S' f tl, n ≤ A'.uses ∧ MX A.ids A' w m S' f n ∧ Ok A.ids H (keys (mxB x9 x12 x13 x14 w m f tl)) ∧ K = own A' (mxB x9 x12 x13 x14 w m f tl) H) (fun _ n => (500 - n).toNat) false 0 ⟨by omega, by omega, A, _, f00, [], by omega, M0, ok1, rfl⟩ ?_
  rintro q n K ⟨n0, n1, A', S', f, tl, un, M, ok2, rfl⟩
  have hA' := M.aw
  rw [t_magpielaw11_SlabMixes_L1]
  by_cases d1 : n < ((s.len : Nat) : Int)
  case neg => exact wp_false (decide_eq_false d1) (fin n1 M ok2)
  refine wp_true (decide_eq_true d1) ?_
  by_cases d2 : n < 500
  case neg => exact wp_false (decide_eq_false d2) (fin n1 M ok2)
  refine wp_true (decide_eq_true d2) ?_
  refine wp_row hz (own_end hA' ok2 hI) n0 d1 ?_
  refine w_Place (by omega) (by omega) ?_
  have v0 := Int.emod_nonneg (zs.getD n.toNat 0) (b := 1048576) (by omega)
  have v1 := Int.emod_lt_of_pos (zs.getD n.toNat 0) (b := 1048576) (by omega)
  generalize zs.getD n.toNat 0 % 1048576 = v at *
  rw [e1, ← ew]
  refine look_val (x := Int.tmod v w) (opS_rem (by omega)) ?_
  rw [Int.tmod_eq_emod_of_nonneg v0]
  have k0 := Int.emod_nonneg v (b := w) (by omega)
  have k1 := Int.emod_lt_of_pos v (b := w) (by omega)
  generalize v % w = k at *
  refine w_Uses hA' ?_
  have hi : k.toNat < 5 := by omega
  have c13 : (x13, oc ty_a5_magpielaw11_mach (arrC 5 fun i => (f i).mc.ifv)) ∈ mxB x9 x12 x13 x14 w m f tl := List.mem_cons_of_mem _ (List.mem_cons_of_mem _ List.mem_cons_self)
  refine w_arr (g := fun i => (f i).mc.ifv) (x := (f k.toNat).mc.ifv) (e := ty_magpielaw11_mach) hA' ok2 c13 rfl rfl rfl k0 (by omega) rfl ?_
  have again : ∀ A2 S2 f2 tl2, n + 1 ≤ A2.uses → MX A.ids A2 w m S2 f2 (n + 1) → Ok A.ids H (keys (mxB x9 x12 x13 x14 w m f2 tl2)) → ∀ {C : List Value → Heap → Prop}, (∀ vals K, (∃ y0 y1, vals = [.bool y0, .int .i64 y1] ∧ (0 ≤ y1 ∧ y1 ≤ 500 ∧ ∃ A' S' f tl, y1 ≤ A'.uses ∧ MX A.ids A' w m S' f y1 ∧ Ok A.ids H (keys (mxB x9 x12 x13 x14 w m f tl)) ∧ K = own A' (mxB x9 x12 x13 x14 w m f tl) H) ∧ (500 - y1).toNat < (500 - n).toNat) → C vals K) →
      C [(.bool q), (.int .i64 (n + 1))] (own A2 (mxB x9 x12 x13 x14 w m f2 tl2) H) := fun A2 S2 f2 tl2 hu M2 ok2 C hC => hC _ _ ⟨q, n + 1, rfl, ⟨by omega, by omega, A2, S2, f2, tl2, hu, M2, ok2, rfl⟩, by omega⟩
  cases hmc : (f k.toNat).mc with
  | al x j =>
    refine look_val (x := true) (nI_al _) (wp_true rfl ?_)
    exact mx_al (p2 := s) (x33 := a) em ⟨c0, c1⟩ M ⟨n0, d2⟩ ok2 k0 (by omega) k1 hmc fun A2 S2 f2 tl2 hu M2 ok3 => wp_again (again A2 S2 f2 tl2 hu M2 ok3 fun _ _ h => h)
  | fe x j =>
    refine look_val (x := true) (nI_fe _) (wp_true rfl ?_)
    exact mx_fe em ⟨c0, c1⟩ M ⟨n0, d2⟩ ok2 k0 (by omega) k1 hmc fun A2 S2 f2 tl2 hu M2 ok3 => wp_again (again A2 S2 f2 tl2 hu M2 ok3 fun _ _ h => h)
  | idle =>
    refine look_val (x := false) nI_no (wp_false rfl ?_)
    have eq : w64 (Int.tdiv v w) = v / w := by
      rw [Int.tdiv_eq_ediv_of_nonneg v0]
      have := Int.ediv_le_self w v0
      have := Int.ediv_nonneg v0 (show (0 : Int) ≤ w by omega)
      exact w64_in (by omega) (by omega)
    refine look_val (x := w64 (Int.tdiv v w)) (opS_quo (by omega)) ?_
    rw [eq]
    have y0 := Int.ediv_nonneg v0 (show (0 : Int) ≤ w by omega)
    have y1 := Int.ediv_le_self w v0
    rw [Int.tmod_eq_emod_of_nonneg y0]
    generalize hy : v / w = y at *
    have eq3 : w64 (Int.tdiv y 3) = y / 3 := by rw [Int.tdiv_eq_ediv_of_nonneg y0]; exact w64_in (by omega) (by omega)
    have new : ∀ L, (∀ A2 S2 f2 tl2, n + 1 ≤ A2.uses → MX A.ids A2 w m S2 f2 (n + 1) → Ok A.ids H (keys (mxB x9 x12 x13 x14 w m f2 tl2)) → wp Try.prog (.again 640 [(.bool q), (.int .i64 (n + 1))]) L (own A2 (mxB x9 x12 x13 x14 w m f2 tl2) H) (fun u K => u = .bool true ∧ K = H)) → wp Try.prog (
          .ldA ⟨x9, 0, none⟩ [(.int .i64), (.int .i64), (.int .i64), (.int .i64), (.int .i64)] fun x69 =>
          .look (opS Try.prog (.binOp .quo ty_int (.tmp 0) (.tmp 1) ty_int) ty_int [(.int .i64 v), (.int .i64 w)]) (.one (.leaf (.int .i64))) fun x73 =>
          .call f_slab_NewAlloc [(.agg #[(.int .i64 x69.1), (.int .i64 x69.2.1), (.int .i64 x69.2.2.1), (.int .i64 x69.2.2.2.1), (.int .i64 x69.2.2.2.2.1)]), (.int .i64 k), (.int .i64 (Int.tmod (w64 (Int.tdiv x73 3)) 3))] (.one (.leaf .ptr)) fun x76 =>
          t_magpielaw11_SlabMixes_J11 x36 ⟨x9, 0, none⟩ (aI A.ids) ⟨x13, 0, none⟩ ⟨x14, 0, none⟩ (q, n, ()) k A'.uses x76) L (own A' (mxB x9 x12 x13 x14 w m f tl) H) (fun u K => u = .bool true ∧ K = H) := by
      intro L hL
      refine w_ldA 0 hA' ok2 rfl rfl rfl ?_
      refine look_val (x := w64 (Int.tdiv v w)) (opS_quo (by omega)) ?_
      rw [Int.tdiv_eq_ediv_of_nonneg v0, hy, w64_in (x := y) (by omega) (by omega), eq3, Int.tmod_eq_emod_of_nonneg (by omega)]
      exact mx_new em ⟨c0, c1⟩ M ⟨n0, d2⟩ ok2 k0 (by omega) k1 un hmc ⟨Int.emod_nonneg _ (by decide), Int.emod_lt_of_pos _ (by decide)⟩ hL
    by_cases c3 : y % 3 = 0
    · refine wp_true (ibeq c3) ?_
      have m12 : (x12, oc ty_a5_s_int (arrC 5 fun i => slV (f i).s)) ∈ mxB x9 x12 x13 x14 w m f tl := List.mem_cons_of_mem _ List.mem_cons_self
      refine w_arr (g := fun i => slV (f i).s) (x := (f k.toNat).s) (e := ty_s_int) hA' ok2 m12 rfl rfl rfl k0 (by omega) rfl ?_
      have hlen := (M.sls _ hi).len
      cases hxs : (f k.toNat).xs with
      | nil =>
        rw [hxs] at hlen
        refine wp_false (decide_eq_false (by show ¬ (((f k.toNat).s.len : Nat) : Int) > 0; rw [hlen]; decide)) ?_
        exact new _ fun A2 S2 f2 tl2 hu M2 ok3 => wp_again (again A2 S2 f2 tl2 hu M2 ok3 fun _ _ h => h)
      | cons x xs =>
        rw [hxs] at hlen
        refine wp_true (decide_eq_true (by show (((f k.toNat).s.len : Nat) : Int) > 0; rw [hlen]; simp only [List.length_cons]; omega)) ?_
        exact mx_give em ⟨c0, c1⟩ M ⟨n0, d2⟩ un ok2 k0 (by omega) k1 hmc hxs fun A2 S2 f2 tl2 hu M2 ok3 => wp_again (again A2 S2 f2 tl2 hu M2 ok3 fun _ _ h => h)
    · refine wp_false (ibef c3) ?_
      exact new _ fun A2 S2 f2 tl2 hu M2 ok3 => wp_again (again A2 S2 f2 tl2 hu M2 ok3 fun _ _ h => h)
end Go.Proofs.Ytfphgiipekkgdaa

