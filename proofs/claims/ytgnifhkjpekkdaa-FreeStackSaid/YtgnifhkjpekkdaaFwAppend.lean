/- Append of one, of one-cell elements. -/
import Derived.Test.YtgnifhkjpekkdaaFwSlice
namespace Go.Fw
open Go

section
variable {P : Program} {L : Hands} {H : Heap} {R : Value → Heap → Prop}

theorem growBy_le (n : Nat) : ∀ (r c : Nat), Builtin.growBy n r c ≤ (c + 768) * 2 ^ r
  | 0, c => by unfold Builtin.growBy; omega
  | r + 1, c => by
    unfold Builtin.growBy
    have h := growBy_le n r (c + (c + 768) / 4)
    have h1 : (c + (c + 768) / 4 + 768) * 2 ^ r ≤ (c + 768) * 2 * 2 ^ r := Nat.mul_le_mul_right _ (by omega)
    have h2 : (c + 768) * 2 ^ (r + 1) = (c + 768) * 2 * 2 ^ r := by rw [Nat.pow_succ]; rw [Nat.mul_comm (2 ^ r) 2, Nat.mul_assoc]
    have h3 : c + 768 ≤ (c + 768) * 2 ^ (r + 1) := Nat.le_mul_of_pos_right _ (Nat.two_pow_pos _)
    split <;> omega

theorem nextslicecap_le (n c : Nat) : Builtin.nextslicecap n c ≤ n + 16 * (c + 768) := by
  have h : Builtin.growBy n 4 c ≤ (c + 768) * 16 := growBy_le n 4 c
  by_cases h1 : n > 2 * c
  · have : Builtin.nextslicecap n c = n := by unfold Builtin.nextslicecap; rw [if_pos h1]
    omega
  · by_cases h2 : c < 256
    · have : Builtin.nextslicecap n c = 2 * c := by unfold Builtin.nextslicecap; rw [if_neg h1, if_pos h2]
      omega
    · have : Builtin.nextslicecap n c = Builtin.growBy n 4 c := by unfold Builtin.nextslicecap; rw [if_neg h1, if_neg h2]
      omega

theorem still_loadCells {b n T : Nat} {f : Nat × Nat} {c : Array Value} {Q : Array Value → Prop} (hb : H b = some (.cells c T f)) : ∀ (m i : Nat) (acc : Array Value), n + i + m ≤ c.size →
    Q (acc ++ c.extract (n + i) (n + i + m)) → astill P (loadCellsFrom ⟨b, n, none⟩ i m acc) H Q
  | 0, i, acc, _, h => by
    have e : acc ++ c.extract (n + i) (n + i + 0) = acc := by simp; omega
    rw [e] at h; exact h
  | m + 1, i, acc, hn, h => by
    have hlt : n + i < c.size := by omega
    refine ⟨c[n + i], by rw [Addr.add_mk, Heap.cell_of hb]; simp [hlt], ?_⟩
    refine still_loadCells hb m (i + 1) (acc.push c[n + i]) (by omega) ?_
    have e : acc ++ c.extract (n + i) (n + i + (m + 1)) = acc.push c[n + i] ++ c.extract (n + (i + 1)) (n + (i + 1) + m) := by
      apply Array.ext'
      simp only [Array.toList_append, Array.toList_push, List.append_assoc, Array.toList_extract]
      congr 1
      simp only [List.extract_eq_take_drop]
      rw [show n + i + (m + 1) - (n + i) = m + 1 by omega, show n + (i + 1) + m - (n + (i + 1)) = m by omega, List.drop_eq_getElem_cons (by simpa using hlt)]
      simp [List.take_succ_cons, Nat.add_assoc]
    rw [← e]; exact h

theorem run_askRoom {n : Nat} {Q : Unit → Heap → Prop} (h : Q () H) : arun P (askRoom n) H Q := by unfold askRoom; split; exact h; exact h

/-- Where there is room. -/
theorem append_room {sT u e : TypeId} {b len cap q T T' : Nat} {f : Nat × Nat} {c : Array Value} {v : Value} {info : TypeInfo} {Q : Next → Heap → Prop} (hs : P.underlying sT = some (.slice e)) (hi : P.info? e = some info) (h1 : info.size = 1)
    (hq : H q = some (.cells #[v] T' f)) (hb : H b = some (.cells c T (0, 0))) (hl : len < c.size) (hc : len + 1 ≤ cap) (hv : Value.single v = true) (h : Q (.value (.slice (some ⟨b, 0, none⟩) (len + 1) cap)) (H.set b (.cells (c.setIfInBounds len v) T (0, 0)))) :
    arun P (opS P (.call { callee := .builtin .append, args := #[.tmp 0, .tmp 1], argTypes := #[sT, sT] }) u [.slice (some ⟨b, 0, none⟩) len cap, .slice (some ⟨q, 0, none⟩) 1 1]) H Q := by
  refine nf_arun _ ?_
  simp only [execOp, resolve, invoke, builtin, envOf, List.map_toArray, List.map_cons, List.map_nil, List.getD_cons_zero, List.getD_cons_succ, bind, pure, Sem.bind]
  unfold Builtin.append_
  simp only [bind, pure, Sem.bind, List.getElem?_toArray, List.getElem?_cons_zero, List.getElem?_cons_succ]
  refine arun_bind _ _ ?_
  refine arun_bind _ _ (run_still _ (still_underlying hs ?_))
  refine arun_bind _ _ (arun_bind _ _ (run_still _ (still_typeInfo hi ?_)))
  refine arun_bind _ _ (run_still _ (still_underlying hs ?_))
  simp only [Bool.false_eq_true, if_false, Builtin.lenOf, pure, Sem.bind, Bool.not_false, if_true]
  rw [if_pos hc]
  simp only [Builtin.firstCells, h1, Nat.mul_one]
  refine arun_bind _ _ (run_still _ (still_loadCells hq 1 0 #[] (by exact Nat.le_refl 1) ?_))
  have hx : (#[] ++ (#[v] : Array Value).extract (0 + 0) (0 + 0 + 1)) = #[v] := by simp
  rw [hx]
  have ha : (((Addr.mk b 0 none).add len).add 0) = ⟨b, len, none⟩ := by rw [Addr.add_mk, Addr.add_mk, Nat.zero_add, Nat.add_zero]
  show arun P (Sem.store .plain (((Addr.mk b 0 none).add len).add 0) v (Sem.pure (Value.slice (some ⟨b, 0, none⟩) (len + 1) cap))) H _
  rw [ha]
  have hcell : H.cell? ⟨b, len, none⟩ = some c[len] := by rw [Heap.cell_of hb]; simp [hl]
  refine ⟨hv, ⟨_, hcell⟩, Heap.frozen_of hb _, ?_⟩
  show Q (.value (.slice (some ⟨b, 0, none⟩) (len + 1) cap)) (H.setCell ⟨b, len, none⟩ v)
  rw [setCell_put hcell]
  show Q _ (H.set b (Obj.put ⟨b, len, none⟩ v (H.get b)))
  rw [Heap.get_of hb, put_cells]
  exact h

/-- Where there is none. -/
theorem append_grow {sT u e : TypeId} {a : Option Addr} {len cap q T' : Nat} {f : Nat × Nat} {xs : Array Value} {v z : Value} {info : TypeInfo} {Q : Next → Heap → Prop} (hs : P.underlying sT = some (.slice e)) (hi : P.info? e = some info) (h1 : info.size = 1)
    (hbt : info.bytes ≤ 8) (hby : info.bytes ≠ 0) (hz : info.zero = some z) (hzc : z.cells = #[z]) (hq : H q = some (.cells #[v] T' f))
    (hold : (a = none ∧ len = 0 ∧ xs = #[]) ∨ ∃ b T g c, a = some ⟨b, 0, none⟩ ∧ H b = some (.cells c T g) ∧ len ≤ c.size ∧ xs = c.extract 0 len) (hc : cap < len + 1) (hm : len ≤ 1099511627776)
    (h : ∀ (b : Nat) (rest : Array Value), H b = none → Q (.value (.slice (some ⟨b, 0, none⟩) (len + 1) (len + 1 + rest.size))) (H.set b (.cells (xs ++ #[v] ++ rest) e (0, 0)))) :
    arun P (opS P (.call { callee := .builtin .append, args := #[.tmp 0, .tmp 1], argTypes := #[sT, sT] }) u [.slice a len cap, .slice (some ⟨q, 0, none⟩) 1 1]) H Q := by
  refine nf_arun _ ?_
  simp only [execOp, resolve, invoke, builtin, envOf, List.map_toArray, List.map_cons, List.map_nil, List.getD_cons_zero, List.getD_cons_succ, bind, pure, Sem.bind]
  unfold Builtin.append_
  simp only [bind, pure, Sem.bind, List.getElem?_toArray, List.getElem?_cons_zero, List.getElem?_cons_succ]
  refine arun_bind _ _ ?_
  refine arun_bind _ _ (run_still _ (still_underlying hs ?_))
  refine arun_bind _ _ (arun_bind _ _ (run_still _ (still_typeInfo hi ?_)))
  refine arun_bind _ _ (run_still _ (still_underlying hs ?_))
  simp only [Bool.false_eq_true, if_false, Builtin.lenOf, pure, Sem.bind, Bool.not_false, if_true]
  rw [if_neg (by omega)]
  refine arun_bind _ _ (run_still _ (still_typeInfo hi ?_))
  rw [if_neg (by simp [hby])]
  refine arun_bind _ _ (run_still _ (still_typeInfo hi ?_))
  have hn := nextslicecap_le (len + 1) cap
  have hmul : Builtin.nextslicecap (len + 1) cap * info.bytes ≤ (len + 1 + 16 * (cap + 768)) * 8 := Nat.mul_le_mul hn hbt
  rw [if_neg (by
    have : (2 : Nat) ^ 48 = 281474976710656 := by decide
    omega)]
  refine ⟨fun hf => by simp [Question.forced] at hf, fun _ t => ?_⟩
  show arun P (Sem.bind (typeInfo e) fun i => Sem.bind (askRoom ((len + 1 + t % (2 ^ 63 - (len + 1))) * i.bytes)) fun _ =>
    Sem.bind (Builtin.firstCells info.size len (Value.slice a len cap)) fun old =>
    Sem.bind (Builtin.firstCells info.size 1 (Value.slice (some { block := q, off := 0 }) 1 1)) fun new =>
    Sem.bind (zeroValue e) fun zv => Sem.bind (newRow e (old ++ new ++ Builtin.zeroCells zv.cells (len + 1 + t % (2 ^ 63 - (len + 1)) - (len + 1)))) fun p => Sem.pure (Value.slice (some p) (len + 1) (len + 1 + t % (2 ^ 63 - (len + 1))))) H _
  generalize t % (2 ^ 63 - (len + 1)) = r
  refine arun_bind _ _ (run_still _ (still_typeInfo hi ?_))
  refine arun_bind _ _ (run_askRoom ?_)
  refine arun_bind _ _ ?_
  have hx : (#[] ++ (#[v] : Array Value).extract (0 + 0) (0 + 0 + 1)) = #[v] := by simp
  have rest : arun P (Sem.bind (Builtin.firstCells info.size 1 (Value.slice (some { block := q, off := 0 }) 1 1)) fun new =>
      Sem.bind (zeroValue e) fun zv => Sem.bind (newRow e (xs ++ new ++ Builtin.zeroCells zv.cells (len + 1 + r - (len + 1)))) fun p => Sem.pure (Value.slice (some p) (len + 1) (len + 1 + r))) H
      (fun a H' => arun P (Sem.pure (Next.value a)) H' Q) := by
    refine arun_bind _ _ ?_
    simp only [Builtin.firstCells, h1, Nat.mul_one]
    refine run_still _ (still_loadCells hq 1 0 #[] (by exact Nat.le_refl 1) ?_)
    rw [hx]
    refine arun_bind _ _ ?_
    show arun P (Sem.bind (typeInfo e) _) H _
    refine arun_bind _ _ (run_still _ (still_typeInfo hi ?_))
    rw [hz]
    show arun P (Sem.bind (newRow e (xs ++ #[v] ++ Builtin.zeroCells z.cells (len + 1 + r - (len + 1)))) _) H _
    refine arun_bind _ _ ?_
    refine ⟨rfl, fun b hb => ?_⟩
    have hsz : (Builtin.zeroCells z.cells (len + 1 + r - (len + 1))).size = r := by
      unfold Builtin.zeroCells; rw [hzc]; simp
    have := h b (Builtin.zeroCells z.cells (len + 1 + r - (len + 1))) hb
    rw [hsz] at this
    exact this
  rcases hold with ⟨rfl, rfl, rfl⟩ | ⟨b, T, g, c, rfl, hb, hl, rfl⟩
  · exact rest
  · simp only [Builtin.firstCells, h1, Nat.mul_one] at rest ⊢
    refine run_still _ (still_loadCells hb len 0 #[] (by omega) ?_)
    have hy : (#[] ++ c.extract (0 + 0) (0 + 0 + len)) = c.extract 0 len := by simp
    rw [hy]
    exact rest
end
end Go.Fw
