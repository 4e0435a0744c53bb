import Derived.Test.YtgnifhkjpekkdaaSaCHandle3
set_option linter.unusedVariables false
set_option maxRecDepth 20000
namespace Go.Proofs.Ytgnifhkjpekkdaa
open Go Go.Fw

theorem Open_at {h : Int} {v : Value} (H : Heap) (e : openV h = v) : Det Try.prog f_handle_Open [.int .i64 h] H v H := e ▸ Open_det h H
theorem Pack_at {b g c v : Int} (H : Heap) (e : packF b g c = v) : Det Try.prog f_handle_Pack [.int .i64 b, .int .i64 g, .int .i64 c] H (.int .i64 v) H := e ▸ Pack_det b g c H
theorem Size_at {c v : Int} (H : Heap) (e : sizeF c = v) : Det Try.prog f_handle_Size [.int .i64 c] H (.int .i64 v) H := e ▸ Size_det c H

theorem openV_pack {b g c : Int} (h : validN b g c) : openV (packF b g c) = .tuple #[.int .i64 b, .int .i64 g, .int .i64 c, .bool true] := by
  obtain ⟨h1, h2, h3, h4⟩ := open_pack h
  rw [packF, if_pos h, openV, if_pos h4, h1, h2, h3]

theorem openV_bad {h : Int} (hk : openOk h = false) : openV h = .tuple #[.int .i64 0, .int .i64 0, .int .i64 0, .bool false] := by
  rw [openV, hk]; rfl

theorem packN_pos {b g c : Int} (h : validN b g c) : 0 < packN b g c := by obtain ⟨_, _, _, _, _, _⟩ := h; unfold packN; omega

theorem open_neg {h : Int} (h0 : h ≤ 0) : openOk h = false := by
  cases hk : openOk h with
  | false => rfl
  | true =>
    obtain ⟨h1, h2⟩ := open_ok hk
    have := packN_pos h1
    omega

theorem packN_inj {b g c b' g' c' : Int} (h : validN b g c) (h' : validN b' g' c') : packN b g c = packN b' g' c' ↔ b = b' ∧ g = g' ∧ c = c' := by
  constructor
  · intro e
    obtain ⟨h1, h2, h3, _⟩ := open_pack h
    obtain ⟨k1, k2, k3, _⟩ := open_pack h'
    rw [e] at h1 h2 h3
    exact ⟨h1.symm.trans k1, h2.symm.trans k2, h3.symm.trans k3⟩
  · rintro ⟨rfl, rfl, rfl⟩; rfl

end Go.Proofs.Ytgnifhkjpekkdaa
