import Derived.Test.YtgnifhkjpekkdaaSaCFreeM
import Derived.Test.YtgnifhkjpekkdaaSaPFree
set_option linter.unusedVariables false
set_option maxRecDepth 20000
namespace Go.Proofs.Ytgnifhkjpekkdaa
open Go Go.Fw

/-! ### Lists of free slots, by what they have -/

def upd (ch : Int → List Int) (k : Int) (l : List Int) : Int → List Int := fun j => if j = k then l else ch j

/-- Each list's words: heads, links. -/
structure FL (A : Ar) (p : Pl) (w n : Int) (ch : Int → List Int) : Prop where
  heads : p.heads = 0
  links : p.links = 4 * w
  wb : 0 ≤ w ∧ w ≤ 1000
  nb : 0 ≤ n ∧ n ≤ 10000
  len : 4 * w + n ≤ A.raw.length
  us : 0 ≤ A.uses
  hd : ∀ k, 0 ≤ k → k < 4 * w → 0 ≤ A.rawF k ∧ A.rawF k / 131072 ≤ A.uses
  chn : ∀ k, 0 ≤ k → k < 4 * w → chain A (4 * w) (A.rawF k % 131072) (ch k)
  mem : ∀ k b, b ∈ ch k → 0 ≤ b ∧ b % 8 = 0 ∧ b / 8 < n
  nd : ∀ k, (ch k).Nodup
  dj : ∀ k j b, b ∈ ch k → b ∈ ch j → k = j
  rg : ∀ k, ch k ≠ [] → 0 ≤ k ∧ k < 4 * w

section
variable {A B : Ar} {p : Pl} {w n : Int} {ch : Int → List Int}

theorem FL.hdOk (F : FL A p w n ch) {k : Int} (h0 : 0 ≤ k) (h1 : k < 4 * w) : A.rawOk k := ⟨h0, by have := F.len; have := F.nb; omega⟩
theorem FL.lkOk (F : FL A p w n ch) {b : Int} (h0 : 0 ≤ b) (h1 : b / 8 < n) : A.rawOk (4 * w + b / 8) := ⟨by have := F.wb; omega, by have := F.len; omega⟩
theorem FL.first_nil (F : FL A p w n ch) {k : Int} (h0 : 0 ≤ k) (h1 : k < 4 * w) (h : ch k = []) : A.rawF k % 131072 = 0 := by
  have := F.chn k h0 h1; rw [h] at this; exact this
theorem FL.first_cons (F : FL A p w n ch) {k b : Int} {l : List Int} (h0 : 0 ≤ k) (h1 : k < 4 * w) (h : ch k = b :: l) : A.rawF k % 131072 = b / 8 + 1 := by
  have := F.chn k h0 h1; rw [h] at this; exact chain_head this

/-- Words elsewhere. -/
theorem FL.congr (F : FL A p w n ch) (hr : ∀ i, 0 ≤ i → i < 4 * w + n → B.rawF i = A.rawF i) (hl : B.raw.length = A.raw.length) (hu : A.uses ≤ B.uses) : FL B p w n ch where
  heads := F.heads
  links := F.links
  wb := F.wb
  nb := F.nb
  len := by rw [hl]; exact F.len
  us := by have := F.us; omega
  hd k h0 h1 := by
    have := F.hd k h0 h1
    have := F.nb
    rw [hr k h0 (by omega)]; omega
  chn k h0 h1 := by
    have := F.nb
    rw [hr k h0 (by omega)]
    refine chain_frame (fun i => by unfold Ar.rawOk; rw [hl]) _ _ (fun x hx => ?_) (F.chn k h0 h1)
    obtain ⟨a, b, c⟩ := F.mem k x hx
    have := F.wb
    exact hr _ (by omega) (by omega)
  mem := F.mem
  nd := F.nd
  dj := F.dj
  rg := F.rg

theorem mod17 {x : Int} : iand x 131071 = x % 131072 := mask17 x

/-- A base is put on a list. -/
theorem FL.push (F : FL A p w n ch) (hu : A.uses ≤ 1000000000) {k b : Int} (h0 : 0 ≤ k) (h1 : k < 4 * w) (hb : 0 ≤ b ∧ b % 8 = 0 ∧ b / 8 < n) (hn : ∀ j, b ∉ ch j) :
    FL (A.pushed k (4 * w + b / 8) b) p w n (upd ch k (b :: ch k)) := by
  have wb := F.wb
  have nb := F.nb
  have o1 := F.hdOk h0 h1
  have o2 := F.lkOk hb.1 hb.2.2
  have hk := F.hd k h0 h1
  have us := F.us
  have td : Int.tdiv b 8 = b / 8 := Int.tdiv_eq_ediv_of_nonneg hb.1
  have e1 : w64 (w64 (Int.tdiv b 8) + 1) = b / 8 + 1 := by rw [td, w64_in (x := b / 8) (by omega) (by omega), w64_in (by omega) (by omega)]
  have hc := chain_push (A := A) (lk := 4 * w) (hd := k) (b := b) (f := A.rawF k % 131072) (l := ch k) (F.chn k h0 h1) mod17 (by omega) (by omega) o1 o2 (by omega) (by omega) (fun x hx => by
    obtain ⟨a1, a2, a3⟩ := F.mem k x hx
    exact ⟨fun e => hn k (e ▸ hx), a2, F.lkOk a1 a3, by omega⟩)
  have hother : ∀ i, i ≠ k → i ≠ 4 * w + b / 8 → A.rawOk i → (A.pushed k (4 * w + b / 8) b).rawF i = A.rawF i := fun i i1 i2 io => by rw [rawF_pushed o1 o2 io, if_neg i1, if_neg i2]
  refine ⟨F.heads, F.links, F.wb, F.nb, ?_, ?_, ?_, ?_, ?_, ?_, ?_, ?_⟩
  · have := F.len; unfold Ar.pushed; simp only [List.length_set]; exact this
  · show 0 ≤ A.uses + 3; omega
  · intro j j0 j1
    show _ ∧ _ ≤ A.uses + 3
    by_cases e : j = k
    · subst e; rw [hc.2]; omega
    · rw [hother j e (by omega) (F.hdOk j0 j1)]; have := F.hd j j0 j1; omega
  · intro j j0 j1
    unfold upd
    by_cases e : j = k
    · subst e; rw [if_pos rfl]; have := hc.1; rw [mod17] at this; exact this
    · rw [if_neg e, hother j e (by omega) (F.hdOk j0 j1)]
      refine chain_frame (fun i => pushed_ok) _ _ (fun x hx => ?_) (F.chn j j0 j1)
      obtain ⟨a1, a2, a3⟩ := F.mem j x hx
      exact hother _ (by omega) (by
        have : x ≠ b := fun e => hn j (e ▸ hx)
        omega) (F.lkOk a1 a3)
  · intro j x hx
    unfold upd at hx
    split at hx
    · rcases List.mem_cons.1 hx with rfl | hx
      · exact hb
      · exact F.mem k x hx
    · exact F.mem j x hx
  · intro j
    unfold upd
    split
    · exact List.nodup_cons.2 ⟨hn k, F.nd k⟩
    · exact F.nd j
  · intro i j x hi hj
    unfold upd at hi hj
    split at hi
    · rename_i ei
      split at hj
      · rename_i ej; omega
      · rcases List.mem_cons.1 hi with rfl | hi
        · exact (hn j hj).elim
        · rw [ei]; exact F.dj k j x hi hj
    · split at hj
      · rename_i ej
        rcases List.mem_cons.1 hj with rfl | hj
        · exact (hn i hi).elim
        · rw [ej]; exact F.dj i k x hi hj
      · exact F.dj i j x hi hj
  · intro j hj
    unfold upd at hj
    split at hj
    · rename_i e; rw [e]; exact ⟨h0, h1⟩
    · exact F.rg j hj

/-- A base is taken from a list. -/
theorem FL.pop (F : FL A p w n ch) (hu : A.uses ≤ 1000000000) {k b : Int} {l : List Int} (hk : ch k = b :: l) :
    FL (A.popped k (4 * w + b / 8)) p w n (upd ch k l) := by
  obtain ⟨h0, h1⟩ := F.rg k (by rw [hk]; simp)
  have wb := F.wb
  have nb := F.nb
  have o1 := F.hdOk h0 h1
  have hm := F.mem k b (by rw [hk]; simp)
  have o2 := F.lkOk hm.1 hm.2.2
  have hkd := F.hd k h0 h1
  have us := F.us
  have hch := F.chn k h0 h1
  rw [hk] at hch
  have hc := chain_pop (A := A) (lk := 4 * w) (hd := k) (b := b) (l := l) (by rw [mod17]; exact hch) o1 (by omega) (fun x hx => by
    obtain ⟨a1, a2, a3⟩ := F.mem k x (by rw [hk]; exact hx)
    exact ⟨a2, a1, by omega, F.lkOk a1 a3, by omega⟩)
  have hother : ∀ i, i ≠ k → A.rawOk i → (A.popped k (4 * w + b / 8)).rawF i = A.rawF i := fun i i1 io => by rw [rawF_popped o1 io, if_neg i1]
  have hsub : ∀ j x, x ∈ upd ch k l j → x ∈ ch j := fun j x hx => by
    unfold upd at hx; split at hx
    · rename_i e; rw [e, hk]; exact List.mem_cons_of_mem _ hx
    · exact hx
  refine ⟨F.heads, F.links, F.wb, F.nb, ?_, ?_, ?_, ?_, ?_, ?_, ?_, ?_⟩
  · have := F.len; unfold Ar.popped; simp only [List.length_set]; exact this
  · show 0 ≤ A.uses + 3; omega
  · intro j j0 j1
    show _ ∧ _ ≤ A.uses + 3
    by_cases e : j = k
    · subst e; rw [hc.2.2.1]; omega
    · rw [hother j e (F.hdOk j0 j1)]; have := F.hd j j0 j1; omega
  · intro j j0 j1
    unfold upd
    by_cases e : j = k
    · subst e; rw [if_pos rfl]; have := hc.2.1; rw [mod17] at this; exact this
    · rw [if_neg e, hother j e (F.hdOk j0 j1)]
      refine chain_frame (fun i => popped_ok) _ _ (fun x hx => ?_) (F.chn j j0 j1)
      obtain ⟨a1, a2, a3⟩ := F.mem j x hx
      exact hother _ (by omega) (F.lkOk a1 a3)
  · exact fun j x hx => F.mem j x (hsub j x hx)
  · intro j
    unfold upd
    split
    · have := F.nd k; rw [hk] at this; exact (List.nodup_cons.1 this).2
    · exact F.nd j
  · exact fun i j x hi hj => F.dj i j x (hsub i x hi) (hsub j x hj)
  · intro j hj
    unfold upd at hj
    split at hj
    · rename_i e; rw [e]; exact ⟨h0, h1⟩
    · exact F.rg j hj

/-- What turns while a base is put on, or taken from, a list. -/
theorem FL.push_other (F : FL A p w n ch) {k b i : Int} (h0 : 0 ≤ k) (h1 : k < 4 * w) (hb : 0 ≤ b ∧ b % 8 = 0 ∧ b / 8 < n) (hi : 4 * w + n ≤ i) : (A.pushed k (4 * w + b / 8) b).rawF i = A.rawF i := by
  have wb := F.wb
  by_cases io : A.rawOk i
  · rw [rawF_pushed (F.hdOk h0 h1) (F.lkOk hb.1 hb.2.2) io, if_neg (by have := F.nb; omega), if_neg (by omega)]
  · unfold Ar.rawF; rw [if_neg io, if_neg (fun h => io (pushed_ok.1 h))]
theorem FL.pop_other (F : FL A p w n ch) {k b i : Int} (h0 : 0 ≤ k) (h1 : k < 4 * w) (hi : 4 * w + n ≤ i) : (A.popped k (4 * w + b / 8)).rawF i = A.rawF i := by
  by_cases io : A.rawOk i
  · rw [rawF_popped (F.hdOk h0 h1) io, if_neg (by have := F.nb; omega)]
  · unfold Ar.rawF; rw [if_neg io, if_neg (fun h => io (popped_ok.1 h))]
end
end Go.Proofs.Ytgnifhkjpekkdaa
