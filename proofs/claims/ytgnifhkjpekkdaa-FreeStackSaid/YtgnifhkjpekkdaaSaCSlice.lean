import Derived.Test.YtgnifhkjpekkdaaSaLArena
import Derived.Test.YtgnifhkjpekkdaaFwAppend
set_option linter.unusedVariables false
set_option maxRecDepth 20000
namespace Go.Proofs.Ytgnifhkjpekkdaa
open Go Go.Fw

/-- A slice of numbers that begins its block. -/
def IsSl (H : Heap) (s : Sl) (xs : List Int) : Prop :=
  (s = ⟨none, 0, 0⟩ ∧ xs = []) ∨ ∃ (b : Nat) (rest : Array Value), s = ⟨some ⟨b, 0, none⟩, xs.length, xs.length + rest.size⟩ ∧ H b = some (.cells (ints xs ++ rest) ty_int (0, 0))

theorem IsSl.len {H : Heap} {s : Sl} {xs : List Int} (h : IsSl H s xs) : s.len = xs.length := by
  rcases h with ⟨rfl, rfl⟩ | ⟨b, rest, rfl, _⟩ <;> rfl
theorem IsSl.nil (H : Heap) : IsSl H ⟨none, 0, 0⟩ [] := .inl ⟨rfl, rfl⟩
theorem IsSl.le {H K : Heap} (hk : H.le K) {s : Sl} {xs : List Int} (h : IsSl H s xs) : IsSl K s xs := by
  rcases h with h | ⟨b, rest, h1, h2⟩
  · exact .inl h
  · exact .inr ⟨b, rest, h1, hk _ _ h2⟩

theorem ints_size (xs : List Int) : (ints xs).size = xs.length := by simp [ints]
theorem ints_push (xs : List Int) (v : Int) : ints (xs ++ [v]) = ints xs ++ #[.int .i64 v] := by simp [ints]

/-- One more. -/
theorem wp_append_int {L : Hands} {H : Heap} {R : Value → Heap → Prop} {s : Sl} {xs : List Int} {v : Int} {k : Sl → Tree} (hs : IsSl H s xs) (hm : xs.length ≤ 1099511627776)
    (h : ∀ (q b : Nat) (rest : Array Value), H q = none → (b ≠ q ∧ (H b = none ∨ s.a = some ⟨b, 0, none⟩)) →
      wp Try.prog (k ⟨some ⟨b, 0, none⟩, (xs ++ [v]).length, (xs ++ [v]).length + rest.size⟩) L ((H.set q (.cells #[.int .i64 v] ty_int (0, 0))).set b (.cells (ints (xs ++ [v]) ++ rest) ty_int (0, 0))) R) :
    wp Try.prog (.newS (.cells #[.int .i64 v] ty_int) 1 fun x => .act (opS Try.prog (.call { callee := .builtin .append, args := #[(.tmp 0), (.tmp 1)], argTypes := #[ty_s_int, ty_s_int] }) ty_s_int [(.slice s.a s.len s.cap), (.slice x.a x.len x.cap)]) (.one (.leaf .slice)) k) L H R := by
  refine wp_newS fun q hq => ?_
  have hQ := Heap.set_same H q (.cells #[.int .i64 v] ty_int (0, 0))
  have hl : (xs ++ [v]).length = xs.length + 1 := by simp
  rcases hs with ⟨rfl, rfl⟩ | ⟨b, rest, rfl, hb⟩
  · refine append_grow (e := ty_int) rfl rfl rfl (by exact Nat.le_refl 8) (by exact Nat.succ_ne_zero 7) rfl rfl hQ (.inl ⟨rfl, rfl, rfl⟩) (by exact Nat.lt_succ_self 0) (by exact Nat.zero_le _) fun b rest hb => ?_
    obtain ⟨h1, h2⟩ := set_none hb
    exact ⟨⟨some ⟨b, 0, none⟩, 1, 1 + rest.size⟩, rfl, h q b rest hq ⟨h1, .inl h2⟩⟩
  · have hqb : b ≠ q := fun e => by rw [e, hq] at hb; cases hb
    have hB : (H.set q (.cells #[.int .i64 v] ty_int (0, 0))) b = some (.cells (ints xs ++ rest) ty_int (0, 0)) := by rw [Heap.set_ne _ _ hqb]; exact hb
    by_cases hr : rest.size = 0
    · have hr' : rest = #[] := Array.eq_empty_of_size_eq_zero hr
      subst hr'
      refine append_grow (e := ty_int) rfl rfl rfl (by exact Nat.le_refl 8) (by exact Nat.succ_ne_zero 7) rfl rfl hQ (.inr ⟨b, _, _, _, rfl, hB, ?_, rfl⟩) (by exact Nat.lt_succ_self _) hm fun b' rest' hb' => ?_
      · simp [ints_size]
      · obtain ⟨h1, h2⟩ := set_none hb'
        have := h q b' rest' hq ⟨h1, .inl h2⟩
        have hx : ((ints xs ++ #[] : Array Value).extract 0 xs.length) = ints xs := by
          rw [Array.append_empty, ← ints_size xs]; simp
        rw [hx, ← ints_push]
        exact ⟨⟨some ⟨b', 0, none⟩, xs.length + 1, xs.length + 1 + rest'.size⟩, rfl, by rw [← hl]; exact this⟩
    · have hw := h q b (rest.extract 1 rest.size) hq ⟨hqb, .inr rfl⟩
      refine append_room (e := ty_int) rfl rfl rfl hQ hB (by simp [ints_size]; omega) (by show xs.length + 1 ≤ xs.length + rest.size; omega) rfl ?_
      have e1 : (ints xs ++ rest).setIfInBounds xs.length (.int .i64 v) = ints (xs ++ [v]) ++ rest.extract 1 rest.size := by
        obtain ⟨l⟩ := rest
        cases l with
        | nil => exact (hr rfl).elim
        | cons r l =>
          apply Array.ext'
          rw [Array.toList_setIfInBounds, Array.toList_append, List.set_append_right _ _ (by simp [ints])]
          simp [ints]
      rw [e1]
      refine ⟨⟨some ⟨b, 0, none⟩, xs.length + 1, xs.length + rest.size⟩, rfl, ?_⟩
      have e2 : xs.length + rest.size = (xs ++ [v]).length + (rest.extract 1 rest.size).size := by simp; omega
      rw [e2, ← hl]
      exact hw
end Go.Proofs.Ytgnifhkjpekkdaa
