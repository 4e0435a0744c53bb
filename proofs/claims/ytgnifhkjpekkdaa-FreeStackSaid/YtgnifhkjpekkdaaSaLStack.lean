import Derived.Test.YtgnifhkjpekkdaaSaCLaw
import Derived.Test.YtgnifhkjpekkdaaSaPSolo
import Derived.Test.YtgnifhkjpekkdaaSaCRun10
import Derived.Test.YtgnifhkjpekkdaaSaLFree2
import Derived.Test.YtgnifhkjpekkdaaSaTrFree10b
set_option linter.unusedVariables false
set_option maxRecDepth 20000
namespace Go.Proofs.Ytgnifhkjpekkdaa
open Go Go.Fw

/-- Twelve lists, as the arena has them. -/
def chS (xs : Nat → List Int) : Int → List Int := fun k => if 0 ≤ k ∧ k < 12 then (xs k.toNat).reverse else []

structure FS (A : Ar) (xs : Nat → List Int) (inn : Nat → Bool) (n : Int) : Prop where
  F : FL A (plOf 3 256) 3 32 (chS xs)
  fa : A.fault = false
  us : A.uses ≤ 100 * n
  inn : ∀ b k : Nat, b < 32 → k < 12 → (8 * (b : Int)) ∈ xs k → inn b = true

theorem chS_get {xs : Nat → List Int} {k : Int} (h0 : 0 ≤ k) (h1 : k < 12) : chS xs k = (xs k.toNat).reverse := by unfold chS; rw [if_pos ⟨h0, h1⟩]
theorem chS_upd {xs : Nat → List Int} {k : Int} (h0 : 0 ≤ k) (h1 : k < 12) (l : List Int) : upd (chS xs) k l.reverse = chS fun j => if j = k.toNat then l else xs j := by
  funext j
  unfold upd chS
  by_cases e : j = k
  · rw [if_pos e, if_pos (by omega)]; dsimp only; rw [if_pos (by omega)]
  · rw [if_neg e]
    by_cases c : 0 ≤ j ∧ j < 12
    · rw [if_pos c, if_pos c]; dsimp only; rw [if_neg (by omega)]
    · rw [if_neg c, if_neg c]

theorem mem_chS {xs : Nat → List Int} {j b : Int} (h : b ∈ chS xs j) : 0 ≤ j ∧ j < 12 ∧ b ∈ xs j.toNat := by
  unfold chS at h
  split at h
  · rename_i e; exact ⟨e.1, e.2, List.mem_reverse.1 h⟩
  · cases h

theorem FS.push {A : Ar} {xs : Nat → List Int} {inn : Nat → Bool} {n : Int} (S : FS A xs inn n) (h0 : 0 ≤ n) (hn : n ≤ 60) {k b : Nat} (hk : k < 12) (hb : b < 32) (hi : inn b = false) :
    FS (A.pushed k (12 + b) (8 * b)) (fun j => if j = k then xs k ++ [(8 * b : Int)] else xs j) (fun j => if j = b then true else inn j) (n + 1) ∧
    ∃ y : Pu, mPu.Runs 3 ⟨plOf 3 256, k, 0, 0, 8 * b⟩ A y (A.pushed k (12 + b) (8 * b)) := by
  have us := S.us
  have e8 : (8 * (b : Int)) / 8 = b := by omega
  have hnot : ∀ j, (8 * (b : Int)) ∉ chS xs j := fun j hm => by
    obtain ⟨j0, j1, hx⟩ := mem_chS hm
    have := S.inn b j.toNat hb (by omega) hx
    rw [hi] at this; cases this
  have F := S.F.push (by omega) (k := k) (b := 8 * b) (by omega) (by omega) ⟨by omega, by omega, by omega⟩ hnot
  have e4 : (4 * 3 + (8 * (b : Int)) / 8) = 12 + b := by omega
  rw [e4] at F
  obtain ⟨y, _, _, hr⟩ := Pu.solo S.F (by omega) (k := k) (b := 8 * b) (by omega) (by omega) ⟨by omega, by omega, by omega⟩
  rw [e4] at hr
  have hk' : ((k : Int)).toNat = k := by omega
  refine ⟨⟨?_, S.fa, ?_, ?_⟩, y, hr⟩
  · have e := chS_upd (xs := xs) (k := k) (by omega) (by omega) (xs k ++ [(8 * b : Int)])
    rw [hk'] at e
    rw [← e, List.reverse_append]
    rw [chS_get (by omega) (by omega), hk'] at F
    exact F
  · show A.uses + 3 ≤ _; omega
  · intro b' k' hb' hk' hm
    by_cases e : b' = b
    · rw [if_pos e]
    · rw [if_neg e]
      by_cases e2 : k' = k
      · rw [if_pos e2] at hm
        rcases List.mem_append.1 hm with hm | hm
        · exact S.inn b' k hb' hk hm
        · simp only [List.mem_singleton] at hm; omega
      · rw [if_neg e2] at hm; exact S.inn b' k' hb' hk' hm

theorem FS.none {A : Ar} {xs : Nat → List Int} {inn : Nat → Bool} {n : Int} (S : FS A xs inn n) (h0 : 0 ≤ n) (hn : n ≤ 60) {k : Nat} (hk : k < 12) (hx : xs k = []) :
    FS (A.later 1) xs inn (n + 1) ∧ ∃ y : Po, y.base = 0 ∧ y.ok = false ∧ mPo.Runs 1 ⟨plOf 3 256, k, 0, 0, 0, 0, false⟩ A y (A.later 1) := by
  have us := S.us
  have hk' : ((k : Int)).toNat = k := by omega
  obtain ⟨y, _, h1, h2, hr⟩ := Po.solo_none S.F (by omega) (k := k) (by omega) (by omega) (by rw [chS_get (by omega) (by omega), hk', hx]; rfl)
  refine ⟨⟨S.F.congr (fun _ _ _ => rfl) rfl (by show A.uses ≤ A.uses + 1; omega), S.fa, by show A.uses + 1 ≤ _; omega, S.inn⟩, y, h1, h2, hr⟩

theorem FS.some {A : Ar} {xs : Nat → List Int} {inn : Nat → Bool} {n : Int} (S : FS A xs inn n) (h0 : 0 ≤ n) (hn : n ≤ 60) {k : Nat} (hk : k < 12) {l : List Int} {b : Int} (hx : xs k = l ++ [b]) :
    0 ≤ b ∧ b % 8 = 0 ∧ b / 8 < 32 ∧ FS (A.popped k (12 + b / 8)) (fun j => if j = k then l else xs j) (fun j => if j = (b / 8).toNat then false else inn j) (n + 1) ∧
    ∃ y : Po, y.base = b ∧ y.ok = true ∧ mPo.Runs 3 ⟨plOf 3 256, k, 0, 0, 0, 0, false⟩ A y (A.popped k (12 + b / 8)) := by
  have us := S.us
  have hk' : ((k : Int)).toNat = k := by omega
  have hc : chS xs k = b :: l.reverse := by rw [chS_get (by omega) (by omega), hk', hx]; simp
  obtain ⟨m1, m2, m3⟩ := S.F.mem k b (by rw [hc]; simp)
  obtain ⟨y, _, h1, h2, hr⟩ := Po.solo_some S.F (by omega) hc
  have F := S.F.pop (by omega) hc
  have e4 : (4 * 3 : Int) = 12 := rfl
  rw [e4] at F hr
  have nd := S.F.nd k
  rw [hc] at nd
  have hbl : b ∉ l := fun h => (List.nodup_cons.1 nd).1 (List.mem_reverse.2 h)
  refine ⟨m1, m2, m3, ⟨?_, S.fa, ?_, ?_⟩, y, h1, h2, hr⟩
  · have e := chS_upd (xs := xs) (k := k) (by omega) (by omega) l
    rw [hk'] at e
    rw [← e]; exact F
  · show A.uses + 3 ≤ _; omega
  · intro b' k' hb' hk2 hm
    have hb2 : (8 * (b' : Int)) ∈ xs k' := by
      by_cases e2 : k' = k
      · rw [if_pos e2] at hm; rw [e2, hx]; exact List.mem_append_left _ hm
      · rw [if_neg e2] at hm; exact hm
    rw [if_neg]
    · exact S.inn b' k' hb' hk2 hb2
    · intro e
      have eb : 8 * (b' : Int) = b := by omega
      rw [eb] at hb2 hm
      by_cases e2 : k' = k
      · rw [if_pos e2] at hm; exact hbl hm
      · have := S.F.dj k k' b (by rw [hc]; simp) (by
          rw [chS_get (by omega) (by omega)]
          have : ((k' : Int)).toNat = k' := by omega
          rw [this]; exact List.mem_reverse.2 hb2)
        omega
end Go.Proofs.Ytgnifhkjpekkdaa
