import Derived.Test.YtgnifhkjpekkdaaSaCFree6
set_option linter.unusedVariables false
set_option maxRecDepth 20000
namespace Go.Proofs.Ytgnifhkjpekkdaa
open Go Go.Fw

/-- A list whose links are as they were. -/
theorem chain_frame {A B : Ar} {lk : Int} (hr : ∀ i, B.rawOk i ↔ A.rawOk i) : ∀ (l : List Int) (f : Int), (∀ x ∈ l, B.rawF (lk + x / 8) = A.rawF (lk + x / 8)) → chain A lk f l → chain B lk f l
  | [], f, _, hc => hc
  | b :: l, f, h, hc => by
    obtain ⟨h1, h2, h3, h4, h5⟩ := hc
    have e : lk + f - 1 = lk + b / 8 := by omega
    refine ⟨h1, h2, h3, (hr _).2 h4, ?_⟩
    have hb := h b List.mem_cons_self
    rw [← e] at hb
    rw [hb]
    exact chain_frame hr l _ (fun x hx => h x (List.mem_cons_of_mem _ hx)) h5

theorem chain_head {A : Ar} {lk f : Int} {l : List Int} (h : chain A lk f l) : f = match l with | [] => 0 | b :: _ => b / 8 + 1 := by
  cases l with
  | nil => exact h
  | cons b l => obtain ⟨h1, h2, h3, _⟩ := h; show f = b / 8 + 1; omega

/-- A base is pushed. -/
theorem chain_push {A : Ar} {lk hd b f : Int} {l : List Int} (hc : chain A lk f l) (hf : iand (A.rawF hd) 131071 = f) (f0 : 0 ≤ f ∧ f < 131072) (b0 : 0 ≤ b ∧ b ≤ 800000 ∧ b % 8 = 0) (o1 : A.rawOk hd) (o2 : A.rawOk (lk + b / 8)) (hne : hd ≠ lk + b / 8) (h0 : 0 ≤ A.rawF hd ∧ A.rawF hd < 4611686018427387904)
    (hl : ∀ x ∈ l, x ≠ b ∧ x % 8 = 0 ∧ A.rawOk (lk + x / 8) ∧ lk + x / 8 ≠ hd) :
    chain (A.pushed hd (lk + b / 8) b) lk (iand ((A.pushed hd (lk + b / 8) b).rawF hd) 131071) (b :: l) ∧ (A.pushed hd (lk + b / 8) b).rawF hd = (A.rawF hd / 131072 + 1) * 131072 + (b / 8 + 1) := by
  have td : Int.tdiv b 8 = b / 8 := Int.tdiv_eq_ediv_of_nonneg b0.1
  have e1 : w64 (w64 (Int.tdiv b 8) + 1) = b / 8 + 1 := by rw [td, w64_in (x := b / 8) (by omega) (by omega), w64_in (by omega) (by omega)]
  have eh : (A.pushed hd (lk + b / 8) b).rawF hd = (A.rawF hd / 131072 + 1) * 131072 + (b / 8 + 1) := by
    rw [rawF_pushed o1 o2 o1, if_pos rfl, e1, nextF_eq h0.1 h0.2 (by omega) (by omega)]
  refine ⟨?_, eh⟩
  rw [eh, mask17]
  have em : ((A.rawF hd / 131072 + 1) * 131072 + (b / 8 + 1)) % 131072 = b / 8 + 1 := by omega
  rw [em]
  have el : (A.pushed hd (lk + b / 8) b).rawF (lk + b / 8) = f := by
    rw [rawF_pushed o1 o2 o2, if_neg (Ne.symm hne), if_pos rfl, hf]
  refine ⟨by omega, by omega, by omega, ?_, ?_⟩
  · rw [show lk + (b / 8 + 1) - 1 = lk + b / 8 by omega]; exact pushed_ok.2 o2
  · rw [show lk + (b / 8 + 1) - 1 = lk + b / 8 by omega, el]
    refine chain_frame (fun i => pushed_ok) l f (fun x hx => ?_) hc
    obtain ⟨h1, h2, h3, h4⟩ := hl x hx
    rw [rawF_pushed o1 o2 h3, if_neg h4, if_neg (by omega)]

/-- The first base is popped. -/
theorem chain_pop {A : Ar} {lk hd b : Int} {l : List Int} (hc : chain A lk (iand (A.rawF hd) 131071) (b :: l)) (o1 : A.rawOk hd) (h0 : 0 ≤ A.rawF hd ∧ A.rawF hd < 4611686018427387904)
    (hl : ∀ x ∈ b :: l, x % 8 = 0 ∧ 0 ≤ x ∧ x ≤ 800000 ∧ A.rawOk (lk + x / 8) ∧ lk + x / 8 ≠ hd) :
    iand (A.rawF hd) 131071 = b / 8 + 1 ∧ chain (A.popped hd (lk + b / 8)) lk (iand ((A.popped hd (lk + b / 8)).rawF hd) 131071) l ∧
    (A.popped hd (lk + b / 8)).rawF hd = (A.rawF hd / 131072 + 1) * 131072 + A.rawF (lk + b / 8) ∧ 0 ≤ A.rawF (lk + b / 8) ∧ A.rawF (lk + b / 8) < 131072 := by
  obtain ⟨h1, h2, h3, h4, h5⟩ := hc
  have hf : iand (A.rawF hd) 131071 = b / 8 + 1 := by omega
  have ei : lk + iand (A.rawF hd) 131071 - 1 = lk + b / 8 := by omega
  rw [ei] at h4 h5
  have hh := chain_head h5
  have bd : 0 ≤ A.rawF (lk + b / 8) ∧ A.rawF (lk + b / 8) < 131072 := by
    cases l with
    | nil => rw [show A.rawF (lk + b / 8) = 0 from hh]; omega
    | cons y l =>
      have := hl y (by simp)
      rw [show A.rawF (lk + b / 8) = y / 8 + 1 from hh]; omega
  have eh : (A.popped hd (lk + b / 8)).rawF hd = (A.rawF hd / 131072 + 1) * 131072 + A.rawF (lk + b / 8) := by
    rw [rawF_popped o1 o1, if_pos rfl, nextF_eq h0.1 h0.2 bd.1 bd.2]
  refine ⟨hf, ?_, eh, bd.1, bd.2⟩
  rw [eh, mask17]
  have em : ((A.rawF hd / 131072 + 1) * 131072 + A.rawF (lk + b / 8)) % 131072 = A.rawF (lk + b / 8) := by omega
  rw [em]
  refine chain_frame (fun i => popped_ok) l _ (fun x hx => ?_) h5
  obtain ⟨g1, g2, g3, g4, g5⟩ := hl x (List.mem_cons_of_mem _ hx)
  rw [rawF_popped o1 g4, if_neg g5]
end Go.Proofs.Ytgnifhkjpekkdaa
