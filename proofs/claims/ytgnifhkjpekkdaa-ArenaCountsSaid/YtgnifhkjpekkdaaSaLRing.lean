import Derived.Test.YtgnifhkjpekkdaaSaCRing
import Derived.Test.YtgnifhkjpekkdaaSaTrRing15
set_option linter.unusedVariables false
namespace Go.Proofs.Ytgnifhkjpekkdaa
open Go Go.Fw

theorem awake15_det (H : Heap) : Det Try.prog f_magpielaw15_awake [] H (.bool true) H := by
  refine t_magpielaw15_awake_spec fun L => ?_
  unfold t_magpielaw15_awake
  refine wp_qcall_det (x := (1125934266580996 : Int)) (Pack_at H (by kernel_rfl)) ?_
  refine wp_qcall_det (x := (8 : Int)) (Room_at H (by kernel_rfl)) ?_
  refine wp_true rfl ?_
  refine wp_call_det (x := (1 : Int)) (Word_at H (by kernel_rfl)) ?_
  refine wp_true rfl ?_
  refine wp_call_det (x := (0 : Int)) (Word_at H (by kernel_rfl)) ?_
  exact wp_ret_of ⟨rfl, rfl⟩

theorem RingWords_det (h i : Int) (H : Heap) : Det Try.prog f_magpielaw15_RingWords [.int .i64 h, .int .i64 i] H (.bool true) H := by
  refine t_magpielaw15_RingWords_spec fun L => ?_
  unfold t_magpielaw15_RingWords
  refine wp_qcall_det (Room_det _ _) ?_
  cases hk : openOk h with
  | false =>
    have h0 : roomF h = 0 := by unfold roomF; rw [hk]; rfl
    refine wp_qcall_det (x := (0, 0, 0, false, ())) (Open_at H (openV_bad hk)) ?_
    refine wp_true rfl ?_
    refine wp_true (ibeq h0) ?_
    refine wp_call_det (x := (0 : Int)) (Word_at H (by unfold wordF; rw [if_pos h0])) ?_
    refine wp_true rfl ?_
    exact wp_call_det (awake15_det H) (wp_ret_of ⟨rfl, rfl⟩)
  | true =>
    have h0 : roomF h = sizeF (oClass h) := by unfold roomF; rw [hk]; rfl
    have hv := (open_ok hk).1
    have hs : sizeF (oClass h) = 8 ∨ sizeF (oClass h) = 16 ∨ sizeF (oClass h) = 32 ∨ sizeF (oClass h) = 64 := by
      obtain ⟨_, _, _, _, h5, h6⟩ := hv
      have := sizeF_cases h5 h6
      omega
    refine wp_qcall_det (x := (oBase h, oGen h, oClass h, true, ())) (Open_at H (by unfold openV; rw [hk]; rfl)) ?_
    refine wp_false rfl ?_
    refine wp_qcall_det (Place_det _ _ (by omega) (by omega) _) ?_
    refine wp_qcall_det (Size_det _ _) ?_
    have b1 := Int.emod_nonneg i (b := 1099511627776) (by omega)
    have b2 := Int.emod_lt_of_pos i (b := 1099511627776) (by omega)
    generalize i % 1099511627776 = k at *
    have wf : ∀ j, wordF h j = j % roomF h := fun j => by unfold wordF; rw [if_neg (by omega)]
    have hn : roomF h = 8 ∨ roomF h = 16 ∨ roomF h = 32 ∨ roomF h = 64 := by omega
    rw [h0]
    refine wp_true (ibeq rfl) ?_
    rw [← h0]
    refine wp_true (ilt (by omega)) ?_
    have e1 : Int.tmod k (roomF h) = k % roomF h := Int.tmod_eq_emod_of_nonneg b1
    refine look_val (x := k % roomF h) (by rw [opS_rem (by omega), e1]) ?_
    refine wp_call_det (Word_det _ _ _) ?_
    refine check_val (by rw [opS_rem (by omega), e1]) ?_
    refine wp_true (ibeq (wf _)) ?_
    refine look_val (x := k % roomF h) (by rw [opS_rem (by omega), e1]) ?_
    refine wp_call_det (Word_det _ _ _) ?_
    refine check_val (by rw [opS_rem (by omega), e1]) ?_
    refine wp_true (ibeq ?_) ?_
    · have q1 := Int.emod_nonneg k (by omega : roomF h ≠ 0)
      have q2 := Int.emod_lt_of_pos k (by omega : 0 < roomF h)
      rw [wf, w64_in (x := -1 - k) (by omega) (by omega), w64_in (x := roomF h - 1) (by omega) (by omega), w64_in (by omega) (by omega)]
      rcases hn with e | e | e | e <;> rw [e] <;> omega
    refine wp_call_det (Word_det _ _ _) ?_
    refine wp_true (ile ?_) ?_
    · rw [wf]; exact Int.emod_nonneg _ (by omega)
    refine wp_call_det (Word_det _ _ _) ?_
    refine wp_true (ilt ?_) ?_
    · rw [wf]; exact Int.emod_lt_of_pos _ (by omega)
    exact wp_call_det (awake15_det H) (wp_ret_of ⟨rfl, rfl⟩)

theorem RingRounds_det (c i j : Int) (H : Heap) : Det Try.prog f_magpielaw15_RingRounds [.int .i64 c, .int .i64 i, .int .i64 j] H (.bool true) H := by
  refine t_magpielaw15_RingRounds_spec fun L => ?_
  unfold t_magpielaw15_RingRounds
  refine wp_qcall_det (Place_det _ _ (by omega) (by omega) _) ?_
  have b5 := Int.emod_nonneg c (b := 4) (by omega)
  have b6 := Int.emod_lt_of_pos c (b := 4) (by omega)
  generalize c % 4 = z at *
  have v1 : validN 64 5 z := by unfold validN; omega
  have e1 : packF 64 5 z = packN 64 5 z := by rw [packF, if_pos v1]
  obtain ⟨_, _, o3, o4⟩ := open_pack v1
  refine wp_qcall_det (Pack_at H e1) ?_
  generalize packN 64 5 z = h at *
  refine wp_qcall_det (Room_det _ _) ?_
  have h0 : roomF h = sizeF z := by unfold roomF; rw [o4, o3]; rfl
  have hn : roomF h = 8 ∨ roomF h = 16 ∨ roomF h = 32 ∨ roomF h = 64 := by have := sizeF_cases b5 b6; omega
  refine wp_qcall_det (Place_det _ _ (by omega) (by omega) _) ?_
  refine wp_qcall_det (Place_det _ _ (by omega) (by omega) _) ?_
  refine wp_qcall_det (Size_det _ _) ?_
  have b1 := Int.emod_nonneg i (b := 1099511627776) (by omega)
  have b2 := Int.emod_lt_of_pos i (b := 1099511627776) (by omega)
  generalize i % 1099511627776 = k at *
  have b3 := Int.emod_nonneg j (b := 200) (by omega)
  have b4 := Int.emod_lt_of_pos j (b := 200) (by omega)
  generalize j % 200 = m at *
  have wf : ∀ j, wordF h j = j % roomF h := fun j => by unfold wordF; rw [if_neg (by omega)]
  refine wp_true (ibeq h0) ?_
  refine wp_true (ilt (by omega)) ?_
  have e2 : Int.tmod m (roomF h) = m % roomF h := Int.tmod_eq_emod_of_nonneg b3
  refine look_val (x := m % roomF h) (by rw [opS_rem (by omega), e2]) ?_
  refine wp_call_det (Word_det _ _ _) ?_
  refine check_val (by rw [opS_rem (by omega), e2]) ?_
  refine wp_call_det (Word_det _ _ _) ?_
  refine check_val (by rw [opS_rem (by omega), e2]) ?_
  rw [w64_in (x := k + m) (by omega) (by omega), w64_in (x := k + 1) (by omega) (by omega)]
  have key : (wordF h k = wordF h (k + m)) ↔ (m % roomF h = 0) := by
    rw [wf, wf]; rcases hn with e | e | e | e <;> rw [e] <;> omega
  refine wp_true ?_ ?_
  · by_cases hx : m % roomF h = 0
    · rw [ibeq (key.2 hx), ibeq hx]; rfl
    · rw [ibef (fun e => hx (key.1 e)), ibef hx]; rfl
  refine wp_call_det (Word_det _ _ _) ?_
  refine wp_call_det (Word_det _ _ _) ?_
  have w0 : 0 ≤ wordF h k ∧ wordF h k < 64 := by rw [wf]; rcases hn with e | e | e | e <;> rw [e] <;> omega
  refine look_val (x := (wordF h k + 1) % roomF h) (by rw [opS_rem (by omega), w64_in (by omega) (by omega), Int.tmod_eq_emod_of_nonneg (by omega)]) ?_
  refine wp_true (ibeq ?_) ?_
  · rw [wf, wf]; rcases hn with e | e | e | e <;> rw [e] <;> omega
  exact wp_call_det (awake15_det H) (wp_ret_of ⟨rfl, rfl⟩)
end Go.Proofs.Ytgnifhkjpekkdaa
