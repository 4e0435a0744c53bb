import Derived.Test.YtgnifhkjpekkdaaSaTrRing
import Derived.Test.YtgnifhkjpekkdaaSaCHandle4
set_option linter.unusedVariables false
namespace Go.Proofs.Ytgnifhkjpekkdaa
open Go Go.Fw

def roomF (h : Int) : Int := if openOk h then sizeF (oClass h) else 0
def wordF (h i : Int) : Int := if roomF h = 0 then 0 else i % roomF h

theorem roomF_of (h : Int) : roomF h = 0 ∨ roomF h = 8 ∨ roomF h = 16 ∨ roomF h = 32 ∨ roomF h = 64 := by
  unfold roomF
  split
  · rename_i hk
    have hv := (open_ok hk).1
    obtain ⟨_, _, _, _, h5, h6⟩ := hv
    have := sizeF_cases h5 h6
    omega
  · exact .inl rfl

theorem Room_det (h : Int) (H : Heap) : Det Try.prog f_ring_Room [.int .i64 h] H (.int .i64 (roomF h)) H := by
  refine t_ring_Room_spec fun L => ?_
  unfold t_ring_Room
  cases hk : openOk h with
  | false =>
    refine wp_qcall_det (x := (0, 0, 0, false, ())) (Open_at H (openV_bad hk)) ?_
    refine wp_true rfl ?_
    exact wp_ret_of ⟨by unfold roomF; rw [hk]; rfl, rfl⟩
  | true =>
    refine wp_qcall_det (x := (oBase h, oGen h, oClass h, true, ())) (Open_at H (by unfold openV; rw [hk]; rfl)) ?_
    refine wp_false rfl ?_
    refine wp_qcall_det (Size_det _ _) ?_
    exact wp_ret_of ⟨by unfold roomF; rw [hk]; rfl, rfl⟩

theorem word_spec (h : Int) (H : Heap) : SpecF Try.prog f_ring_word #[.int .i64 h] H fun v K => ∃ b, H b = none ∧ v = .func (.func f_ring_word_1) #[] #[.pointer (some ⟨b, 0, none⟩)] ∧ K = H.set b (.cells #[.int .i64 (roomF h)] ty_int (0, 0)) := by
  refine t_ring_word_spec fun L => ?_
  unfold t_ring_word
  refine wp_qcall_det (Room_det _ _) ?_
  refine wp_newP fun b hb => ?_
  refine wp_st_of (Heap.set_same _ _ _) rfl rfl ?_
  rw [Heap.set_set]
  exact wp_ret_of ⟨b, hb, rfl, rfl⟩

theorem word1_det {r i : Int} {b T : Nat} {H : Heap} (hb : H b = some (.cells #[.int .i64 r] T (0, 0))) (hr : 0 ≤ r ∧ r ≤ 64) :
    Det Try.prog f_ring_word_1 [.int .i64 i, .pointer (some ⟨b, 0, none⟩)] H (.int .i64 (if r = 0 then 0 else i % r)) H := by
  refine t_ring_word_1_spec fun L => ?_
  unfold t_ring_word_1
  have ld : H.cell? ⟨b, 0, none⟩ = some (.int .i64 r) := by rw [Heap.cell_of hb]; rfl
  refine wp_ld_of (x := r) ld ?_
  by_cases h0 : r = 0
  · refine wp_true (ibeq h0) ?_
    rw [if_pos h0]; exact wp_ret_of ⟨rfl, rfl⟩
  · refine wp_false (ibef h0) ?_
    rw [if_neg h0]
    refine wp_ld_of (x := r) ld ?_
    refine look_val (x := i.tmod r) (opS_rem h0) ?_
    refine wp_ld_of (x := r) ld ?_
    refine wp_ld_of (x := r) ld ?_
    refine look_val (x := (w64 (i.tmod r + r)).tmod r) (opS_rem h0) ?_
    refine wp_ret_of ⟨?_, rfl⟩
    have hp : 0 < r := by omega
    have h1 := tmod_place i r hp
    have h2 := Int.emod_nonneg i (by omega : r ≠ 0)
    have h3 := Int.emod_lt_of_pos i hp
    have h4 : 0 ≤ i.tmod r + r ∧ i.tmod r + r < 2 * r := by
      split at h1 <;> omega
    rw [w64_in (by omega) (by omega), Int.tmod_eq_emod_of_nonneg h4.1, Int.add_emod_right]
    congr 1
    split at h1
    · have h5 := Int.emod_eq_of_lt h4.1 (by omega : i.tmod r + r < r)
      rw [Int.add_emod_right] at h5
      rw [h5, h1]
    · rw [h1]; exact Int.emod_emod_of_dvd _ (Int.dvd_refl _)

theorem call_word (i : Int) (a : Addr) : opS Try.prog (.call { callee := .value (.tmp 0), args := #[(.tmp 1)], argTypes := #[ty_int] }) ty_int [(.func (.func f_ring_word_1) #[] #[.pointer (some a)]), (.int .i64 i)] =
    .pure (.enter f_ring_word_1 [.int .i64 i, .pointer (some a)].toArray) := by kernel_rfl

theorem Word_det (h i : Int) (H : Heap) : Det Try.prog f_ring_Word [.int .i64 h, .int .i64 i] H (.int .i64 (wordF h i)) H := by
  refine t_ring_Word_spec fun L => ?_
  unfold t_ring_Word
  refine wp_call_of (word_spec h H) ?_
  rintro v K ⟨b, hb, rfl, rfl⟩
  refine ⟨⟨.func f_ring_word_1, #[], #[.pointer (some ⟨b, 0, none⟩)]⟩, rfl, ?_⟩
  have hr := roomF_of h
  refine look_enter (call_word _ _) (word1_det (Heap.set_same _ _ _) (by omega)) ?_
  exact ⟨H, Heap.le_set_new _ hb, rfl, rfl⟩

theorem Word_at {h i v : Int} (H : Heap) (e : wordF h i = v) : Det Try.prog f_ring_Word [.int .i64 h, .int .i64 i] H (.int .i64 v) H := e ▸ Word_det h i H
theorem Room_at {h v : Int} (H : Heap) (e : roomF h = v) : Det Try.prog f_ring_Room [.int .i64 h] H (.int .i64 v) H := e ▸ Room_det h H

end Go.Proofs.Ytgnifhkjpekkdaa
