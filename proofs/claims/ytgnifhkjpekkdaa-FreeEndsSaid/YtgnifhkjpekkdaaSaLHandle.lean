import Derived.Test.YtgnifhkjpekkdaaSaCHandle3
set_option linter.unusedVariables false
namespace Go.Proofs.Ytgnifhkjpekkdaa
open Go Go.Fw

theorem Open_at {h : Int} {v : Value} (H : Heap) (e : openV h = v) : Det Try.prog f_handle_Open [.int .i64 h] H v H := e ▸ Open_det h H
theorem Pack_at {b g c v : Int} (H : Heap) (e : packF b g c = v) : Det Try.prog f_handle_Pack [.int .i64 b, .int .i64 g, .int .i64 c] H (.int .i64 v) H := e ▸ Pack_det b g c H
theorem Size_at {c v : Int} (H : Heap) (e : sizeF c = v) : Det Try.prog f_handle_Size [.int .i64 c] H (.int .i64 v) H := e ▸ Size_det c H

theorem awake08_det (H : Heap) : Det Try.prog f_magpielaw08_awake [] H (.bool true) H := by
  refine t_magpielaw08_awake_spec fun L => ?_
  unfold t_magpielaw08_awake
  refine wp_qcall_det (x := (1126174784749582 : Int)) (Pack_at H (by kernel_rfl)) ?_
  refine wp_qcall_det (x := (64, 3, 2, true, ())) (Open_at H (by kernel_rfl)) ?_
  refine wp_qcall_det (x := (0, 0, 0, false, ())) (Open_at H (by kernel_rfl)) ?_
  refine wp_qcall_det (x := (64 : Int)) (Size_at H (by kernel_rfl)) ?_
  exact wp_ret_of ⟨rfl, rfl⟩

theorem openV_pack {b g c : Int} (h : validN b g c) : openV (packF b g c) = .tuple #[.int .i64 b, .int .i64 g, .int .i64 c, .bool true] := by
  obtain ⟨h1, h2, h3, h4⟩ := open_pack h
  rw [packF, if_pos h, openV, if_pos h4, h1, h2, h3]

theorem openV_bad {h : Int} (hk : openOk h = false) : openV h = .tuple #[.int .i64 0, .int .i64 0, .int .i64 0, .bool false] := by
  rw [openV, hk]; rfl

theorem packN_pos {b g c : Int} (h : validN b g c) : 0 < packN b g c := by obtain ⟨_, _, _, _, _, _⟩ := h; unfold packN; omega

theorem open_neg {h : Int} (h0 : h ≤ 0) : openOk h = false := by
  cases hk : openOk h with
  | false => rfl
  | true =>
    obtain ⟨h1, h2⟩ := open_ok hk
    have := packN_pos h1
    omega

theorem packN_inj {b g c b' g' c' : Int} (h : validN b g c) (h' : validN b' g' c') : packN b g c = packN b' g' c' ↔ b = b' ∧ g = g' ∧ c = c' := by
  constructor
  · intro e
    obtain ⟨h1, h2, h3, _⟩ := open_pack h
    obtain ⟨k1, k2, k3, _⟩ := open_pack h'
    rw [e] at h1 h2 h3
    exact ⟨h1.symm.trans k1, h2.symm.trans k2, h3.symm.trans k3⟩
  · rintro ⟨rfl, rfl, rfl⟩; rfl

theorem HandleBack_det (a b c d e f : Int) (H : Heap) : Det Try.prog f_magpielaw08_HandleBack [.int .i64 a, .int .i64 b, .int .i64 c, .int .i64 d, .int .i64 e, .int .i64 f] H (.bool true) H := by
  refine t_magpielaw08_HandleBack_spec fun L => ?_
  unfold t_magpielaw08_HandleBack
  refine wp_qcall_det (Place_det _ _ (by omega) (by omega) _) ?_
  refine wp_qcall_det (Place_det _ _ (by omega) (by omega) _) ?_
  refine wp_qcall_det (Place_det _ _ (by omega) (by omega) _) ?_
  refine wp_qcall_det (Place_det _ _ (by omega) (by omega) _) ?_
  refine wp_qcall_det (Place_det _ _ (by omega) (by omega) _) ?_
  refine wp_qcall_det (Place_det _ _ (by omega) (by omega) _) ?_
  have b1 := Int.emod_nonneg a (b := 65536) (by omega)
  have b2 := Int.emod_lt_of_pos a (b := 65536) (by omega)
  have b3 := Int.emod_nonneg b (b := 1073741823) (by omega)
  have b4 := Int.emod_lt_of_pos b (b := 1073741823) (by omega)
  have b5 := Int.emod_nonneg c (b := 4) (by omega)
  have b6 := Int.emod_lt_of_pos c (b := 4) (by omega)
  have b7 := Int.emod_nonneg d (b := 65536) (by omega)
  have b8 := Int.emod_lt_of_pos d (b := 65536) (by omega)
  have b9 := Int.emod_nonneg e (b := 1073741823) (by omega)
  have b10 := Int.emod_lt_of_pos e (b := 1073741823) (by omega)
  have b11 := Int.emod_nonneg f (b := 4) (by omega)
  have b12 := Int.emod_lt_of_pos f (b := 4) (by omega)
  generalize a % 65536 = x at *
  generalize b % 1073741823 = y at *
  generalize c % 4 = z at *
  generalize d % 65536 = p at *
  generalize e % 1073741823 = q at *
  generalize f % 4 = r at *
  rw [w64_in (x := 1 + y) (by omega) (by omega), w64_in (x := 1 + q) (by omega) (by omega)]
  have v1 : validN x (1 + y) z := by unfold validN; omega
  have v2 : validN p (1 + q) r := by unfold validN; omega
  have e1 : packF x (1 + y) z = packN x (1 + y) z := by rw [packF, if_pos v1]
  have e2 : packF p (1 + q) r = packN p (1 + q) r := by rw [packF, if_pos v2]
  have pos := packN_pos v1
  have inj := packN_inj v1 v2
  refine wp_qcall_det (Pack_at H e1) ?_
  refine wp_qcall_det (Pack_at H e2) ?_
  refine wp_qcall_det (x := (x, 1 + y, z, true, ())) (Open_at H (by rw [← e1]; exact openV_pack v1)) ?_
  have hup : packN x (1 + y) z < 9223372036854775807 := by unfold packN; omega
  rw [w64_in (x := 0 - packN x (1 + y) z) (by omega) (by omega)]
  refine wp_qcall_det (x := (0, 0, 0, false, ())) (Open_at H (openV_bad (open_neg (by omega)))) ?_
  have n1 : packF (w64 ((-1) - x)) (1 + y) z = 0 := by rw [w64_in (by omega) (by omega), packF, if_neg (by unfold validN; omega)]
  have n2 : packF x (w64 (1 - (1 + y))) z = 0 := by rw [w64_in (by omega) (by omega), packF, if_neg (by unfold validN; omega)]
  have n3 : packF x (1 + y) (w64 (4 + z)) = 0 := by rw [w64_in (by omega) (by omega), packF, if_neg (by unfold validN; omega)]
  have last : wp Try.prog (.qcall f_handle_Pack [(.int .i64 (w64 ((-1) - x))), (.int .i64 (1 + y)), (.int .i64 z)] (.one (.leaf (.int .i64))) fun x114 =>
                    bif ((x114 : Int) == 0) then (
                      .qcall f_handle_Pack [(.int .i64 x), (.int .i64 (w64 (1 - (1 + y)))), (.int .i64 z)] (.one (.leaf (.int .i64))) fun x122 =>
                      bif ((x122 : Int) == 0) then (
                        .qcall f_handle_Pack [(.int .i64 x), (.int .i64 (1 + y)), (.int .i64 (w64 (4 + z)))] (.one (.leaf (.int .i64))) fun x130 =>
                        bif ((x130 : Int) == 0) then (
                          .call f_magpielaw08_awake [] (.one (.leaf .bool)) fun x134 =>
                          .ret (.bool x134))
                        else (
                          .ret (.bool false)))
                      else (
                        .ret (.bool false)))
                    else (
                      .ret (.bool false))) L H (fun u K => u = .bool true ∧ K = H) := by
    refine wp_qcall_det (Pack_at H n1) ?_
    refine wp_qcall_det (Pack_at H n2) ?_
    refine wp_qcall_det (Pack_at H n3) ?_
    refine wp_call_det (awake08_det H) ?_
    exact wp_ret_of ⟨rfl, rfl⟩
  rw [show decide (packN x (1 + y) z > 0) = true by simpa using pos]
  simp only [cond_true, beq_self_eq_true, Bool.not_false, wp_bif]
  refine ⟨fun h1 => ⟨fun h2 => ⟨fun h3 => last, fun h3 => ?_⟩, fun h2 => ⟨fun h3 => last, fun h3 => ?_⟩⟩, fun h1 => ⟨fun h3 => last, fun h3 => ?_⟩⟩
  · exfalso
    simp only [beq_iff_eq] at h1 h2
    by_cases hz : z = r
    · have := inj.2 ⟨h1, h2, hz⟩
      rw [beq_iff_eq.2 this, beq_iff_eq.2 hz] at h3; cases h3
    · have h4 : ¬ packN x (1 + y) z = packN p (1 + q) r := fun e => hz (inj.1 e).2.2
      rw [beq_eq_false_iff_ne.2 h4, beq_eq_false_iff_ne.2 hz] at h3; cases h3
  · exfalso
    simp only [beq_eq_false_iff_ne] at h2
    have h4 : ¬ packN x (1 + y) z = packN p (1 + q) r := fun e => h2 (inj.1 e).2.1
    rw [beq_eq_false_iff_ne.2 h4] at h3; cases h3
  · exfalso
    simp only [beq_eq_false_iff_ne] at h1
    have h4 : ¬ packN x (1 + y) z = packN p (1 + q) r := fun e => h1 (inj.1 e).1
    rw [beq_eq_false_iff_ne.2 h4] at h3; cases h3
end Go.Proofs.Ytgnifhkjpekkdaa
