import Derived.Test.YtgnifhkjpekkdaaSaLHandle
set_option linter.unusedVariables false
namespace Go.Proofs.Ytgnifhkjpekkdaa
open Go Go.Fw

theorem HandleOrder_det (a b c : Int) (H : Heap) : Det Try.prog f_magpielaw08_HandleOrder [.int .i64 a, .int .i64 b, .int .i64 c] H (.bool true) H := by
  refine t_magpielaw08_HandleOrder_spec fun L => ?_
  unfold t_magpielaw08_HandleOrder
  refine wp_qcall_det (Place_det _ _ (by omega) (by omega) _) ?_
  refine wp_qcall_det (Place_det _ _ (by omega) (by omega) _) ?_
  refine wp_qcall_det (Place_det _ _ (by omega) (by omega) _) ?_
  have b1 := Int.emod_nonneg a (b := 65536) (by omega)
  have b2 := Int.emod_lt_of_pos a (b := 65536) (by omega)
  have b3 := Int.emod_nonneg b (b := 1073741822) (by omega)
  have b4 := Int.emod_lt_of_pos b (b := 1073741822) (by omega)
  have b5 := Int.emod_nonneg c (b := 4) (by omega)
  have b6 := Int.emod_lt_of_pos c (b := 4) (by omega)
  generalize a % 65536 = x at *
  generalize b % 1073741822 = y at *
  generalize c % 4 = z at *
  rw [w64_in (x := 1 + y) (by omega) (by omega), w64_in (x := 1 + y + 1) (by omega) (by omega), w64_in (x := -1 - z) (by omega) (by omega), w64_in (x := 4 + z) (by omega) (by omega),
    w64_in (x := 65536 + x) (by omega) (by omega)]
  have v1 : validN x (1 + y) z := by unfold validN; omega
  have v2 : validN x (1 + y + 1) z := by unfold validN; omega
  have e1 : packF x (1 + y) z = packN x (1 + y) z := by rw [packF, if_pos v1]
  have e2 : packF x (1 + y + 1) z = packN x (1 + y + 1) z := by rw [packF, if_pos v2]
  have pos := packN_pos v1
  refine wp_qcall_det (Pack_at H e1) ?_
  refine wp_qcall_det (Pack_at H e2) ?_
  refine wp_qcall_det (x := (x, 1 + y + 1, z, true, ())) (Open_at H (by rw [← e2]; exact openV_pack v2)) ?_
  refine wp_true (ibne (by omega)) ?_
  refine wp_true (ilt (by unfold packN; omega)) ?_
  refine wp_true rfl ?_
  refine wp_qcall_det (Size_det z H) ?_
  have hz : z = 0 ∨ z = 1 ∨ z = 2 ∨ z = 3 := by omega
  refine look_val (x := sizeF z) (by rcases hz with rfl | rfl | rfl | rfl <;> kernel_rfl) ?_
  refine wp_true (by simp) ?_
  refine wp_qcall_det (Size_at H (v := 0) (by unfold sizeF; rw [if_pos (by omega)])) ?_
  refine wp_true rfl ?_
  refine wp_qcall_det (Size_at H (v := 0) (by unfold sizeF; rw [if_neg (by omega), if_pos (by omega)])) ?_
  refine wp_true rfl ?_
  refine wp_qcall_det (Pack_at H (v := 0) (by rw [packF, if_neg (by unfold validN; omega)])) ?_
  refine wp_true rfl ?_
  refine wp_qcall_det (Pack_at H (v := 0) (by rw [packF, if_neg (by unfold validN; omega)])) ?_
  refine wp_true rfl ?_
  exact wp_call_det (awake08_det H) (wp_ret_of ⟨rfl, rfl⟩)

theorem none_bad {x y z h : Int} (v : validN x y z) (hh : h = packN x y z - 4 * y ∨ h = packN x y z + 1125899906842624 ∨ h = packN x y z - 1125899906842624 ∨ h = 0 - packN x y z ∨ h = packN x y z + 281474976710656) : openOk h = false := by
  cases hk : openOk h with
  | false => rfl
  | true =>
    exfalso
    obtain ⟨⟨h1, h2, h3, h4, h5, h6⟩, h7⟩ := open_ok hk
    obtain ⟨k1, k2, k3, k4, k5, k6⟩ := v
    unfold packN at *
    omega

theorem HandleNone_det (a b c d : Int) (H : Heap) : Det Try.prog f_magpielaw08_HandleNone [.int .i64 a, .int .i64 b, .int .i64 c, .int .i64 d] H (.bool true) H := by
  refine t_magpielaw08_HandleNone_spec fun L => ?_
  unfold t_magpielaw08_HandleNone
  refine wp_qcall_det (Place_det _ _ (by omega) (by omega) _) ?_
  refine wp_qcall_det (Place_det _ _ (by omega) (by omega) _) ?_
  refine wp_qcall_det (Place_det _ _ (by omega) (by omega) _) ?_
  have b1 := Int.emod_nonneg a (b := 65536) (by omega)
  have b2 := Int.emod_lt_of_pos a (b := 65536) (by omega)
  have b3 := Int.emod_nonneg b (b := 1073741823) (by omega)
  have b4 := Int.emod_lt_of_pos b (b := 1073741823) (by omega)
  have b5 := Int.emod_nonneg c (b := 4) (by omega)
  have b6 := Int.emod_lt_of_pos c (b := 4) (by omega)
  have b7 := Int.emod_nonneg d (b := 5) (by omega)
  have b8 := Int.emod_lt_of_pos d (b := 5) (by omega)
  generalize a % 65536 = x at *
  generalize b % 1073741823 = y at *
  generalize c % 4 = z at *
  rw [w64_in (x := 1 + y) (by omega) (by omega)]
  have v1 : validN x (1 + y) z := by unfold validN; omega
  have e1 : packF x (1 + y) z = packN x (1 + y) z := by rw [packF, if_pos v1]
  have pos := packN_pos v1
  have up : packN x (1 + y) z < 2251799813685248 := by unfold packN; omega
  refine wp_qcall_det (Pack_at H e1) ?_
  refine wp_qcall_det (Place_det d 5 (by omega) (by omega) _) ?_
  have nb := @none_bad x (1 + y) z
  generalize d % 5 = k at *
  generalize packN x (1 + y) z = h at *
  have fin : ∀ v : Int, openOk v = false → wp Try.prog (.qcall f_handle_Open [(.int .i64 v)] (.tup [(.leaf (.int .i64)), (.leaf (.int .i64)), (.leaf (.int .i64)), (.leaf .bool)]) fun x47 =>
  bif (decide ((h : Int) > 0)) then (
    bif (!x47.2.2.2.1) then (
      bif ((x47.1 : Int) == 0) then (
        bif ((x47.2.1 : Int) == 0) then (
          bif ((x47.2.2.1 : Int) == 0) then (
            .call f_magpielaw08_awake [] (.one (.leaf .bool)) fun x71 =>
            .ret (.bool x71))
          else (
            .ret (.bool false)))
        else (
          .ret (.bool false)))
      else (
        .ret (.bool false)))
    else (
      .ret (.bool false)))
  else (
    .ret (.bool false))) L H (fun u K => u = .bool true ∧ K = H) := fun v hv => by
    refine wp_qcall_det (x := (0, 0, 0, false, ())) (Open_at H (openV_bad hv)) ?_
    refine wp_true (by rw [decide_eq_true_eq]; omega) ?_
    exact wp_call_det (awake08_det H) (wp_ret_of ⟨rfl, rfl⟩)
  have hk : k = 0 ∨ k = 1 ∨ k = 2 ∨ k = 3 ∨ k = 4 := by omega
  rcases hk with rfl | rfl | rfl | rfl | rfl
  · refine look_val (x := w64 (h - w64 (4 * (1 + y)))) (by kernel_rfl) (fin _ (nb v1 ?_))
    rw [w64_in (x := 4 * (1 + y)) (by omega) (by omega), w64_in (by omega) (by omega)]; exact .inl rfl
  · refine look_val (x := w64 (h + 1125899906842624)) (by kernel_rfl) (fin _ (nb v1 ?_))
    rw [w64_in (by omega) (by omega)]; exact .inr (.inl rfl)
  · refine look_val (x := w64 (h - 1125899906842624)) (by kernel_rfl) (fin _ (nb v1 ?_))
    rw [w64_in (by omega) (by omega)]; exact .inr (.inr (.inl rfl))
  · refine look_val (x := w64 (0 - h)) (by kernel_rfl) (fin _ (nb v1 ?_))
    rw [w64_in (by omega) (by omega)]; exact .inr (.inr (.inr (.inl rfl)))
  · refine look_val (x := w64 (h + 281474976710656)) (by kernel_rfl) (fin _ (nb v1 ?_))
    rw [w64_in (by omega) (by omega)]; exact .inr (.inr (.inr (.inr rfl)))
end Go.Proofs.Ytgnifhkjpekkdaa
