/- Append of any many, of elements of any size. -/
import Derived.Test.YtgnifhkjpekkdaaFwAppend
namespace Go.Fw
open Go

section
variable {P : Program} {L : Hands} {H : Heap} {R : Value → Heap → Prop}

/-- Cells one behind the other. -/
def Row (H : Heap) (a : Option Addr) (cs : List Value) : Prop := ∀ i, i < cs.length → ∃ x, a = some x ∧ H.cell? (x.add i) = cs[i]?

theorem still_loadRow {x : Addr} {cs : List Value} {Q : Array Value → Prop} : ∀ (m i : Nat) (acc : Array Value), i + m = cs.length → (∀ j, j < cs.length → H.cell? (x.add j) = cs[j]?) →
    Q (acc ++ (cs.drop i).toArray) → astill P (loadCellsFrom x i m acc) H Q
  | 0, i, acc, hm, _, h => by
    have e : acc ++ (cs.drop i).toArray = acc := by rw [List.drop_eq_nil_of_le (by omega)]; simp
    rw [e] at h; exact h
  | m + 1, i, acc, hm, hc, h => by
    have hlt : i < cs.length := by omega
    refine ⟨cs[i], by rw [hc i hlt]; simp [hlt], ?_⟩
    refine still_loadRow m (i + 1) (acc.push cs[i]) (by omega) hc ?_
    have e : acc ++ (cs.drop i).toArray = acc.push cs[i] ++ (cs.drop (i + 1)).toArray := by
      rw [List.drop_eq_getElem_cons hlt]
      apply Array.ext'; simp
    rw [← e]; exact h

theorem still_first {a : Option Addr} {cs : List Value} {n size l c : Nat} {Q : Array Value → Prop} (hr : Row H a cs) (hl : cs.length = n * size) (h : Q cs.toArray) : astill P (Builtin.firstCells size n (.slice a l c)) H Q := by
  cases a with
  | none =>
    have : cs = [] := by
      cases cs with
      | nil => rfl
      | cons v cs => obtain ⟨x, hx, _⟩ := hr 0 (by simp); cases hx
    subst this; exact h
  | some x =>
    refine still_loadRow (cs := cs) (n * size) 0 #[] (by omega) (fun j hj => ?_) (by simpa using h)
    obtain ⟨y, hy, hc⟩ := hr j hj
    cases hy; exact hc

theorem run_storeCells {b n T : Nat} {Q : Unit → Heap → Prop} : ∀ (vs : List Value) (i : Nat) (c : Array Value) (H : Heap), H b = some (.cells c T (0, 0)) → n + i + vs.length ≤ c.size → (∀ v ∈ vs, Value.single v = true) →
    Q () (H.set b (.cells (putAll c (n + i) vs) T (0, 0))) → arun P (storeCells ⟨b, n, none⟩ vs i) H Q
  | [], i, c, H, hb, _, _, h => by
    show Q () H
    rw [← Heap.set_self hb]; exact h
  | v :: vs, i, c, H, hb, hn, hs, h => by
    simp only [List.length_cons] at hn
    have hlt : n + i < c.size := by omega
    have hc : H.cell? ((Addr.mk b n none).add i) = some c[n + i] := by rw [Addr.add_mk, Heap.cell_of hb]; simp [hlt]
    show arun P (Sem.bind (Sem.store .plain ((Addr.mk b n none).add i) v (Sem.pure ())) fun _ => storeCells ⟨b, n, none⟩ vs (i + 1)) H Q
    refine ⟨hs v List.mem_cons_self, ⟨_, hc⟩, by rw [Addr.add_mk]; exact Heap.frozen_of hb _, ?_⟩
    rw [setCell_put hc, Addr.add_mk]
    show arun P (storeCells ⟨b, n, none⟩ vs (i + 1)) (H.set b (Obj.put ⟨b, n + i, none⟩ v (H.get b))) Q
    rw [Heap.get_of hb, put_cells]
    refine run_storeCells vs (i + 1) (c.setIfInBounds (n + i) v) _ (Heap.set_same _ _ _) (by simp; omega) (fun u hu => hs u (List.mem_cons_of_mem _ hu)) ?_
    rw [Heap.set_set]; exact h

theorem append_gen {sT u e : TypeId} {a ta : Option Addr} {len cap n tcap : Nat} {old new : List Value} {info : TypeInfo} {z : Value} {Q : Next → Heap → Prop} (hs : P.underlying sT = some (.slice e)) (hi : P.info? e = some info)
    (hbt : info.bytes ≤ 64) (hby : info.bytes ≠ 0) (hz : info.zero = some z) (hzc : z.cells.size = info.size) (hold : Row H a old) (hol : old.length = len * info.size) (hnew : Row H ta new) (hnl : new.length = n * info.size) (hm : len + n ≤ 1048576)
    (hin : len + n ≤ cap → (n = 0 ∧ Q (.value (.slice a len cap)) H) ∨ ∃ b c T, a = some ⟨b, 0, none⟩ ∧ H b = some (.cells c T (0, 0)) ∧ (len + n) * info.size ≤ c.size ∧ (∀ v ∈ new, Value.single v = true) ∧ Q (.value (.slice a (len + n) cap)) (H.set b (.cells (putAll c (len * info.size) new) T (0, 0))))
    (hout : cap < len + n → ∀ (b : Nat) (rest : List Value) (r : Nat), H b = none → rest.length = r * info.size → Q (.value (.slice (some ⟨b, 0, none⟩) (len + n) (len + n + r))) (H.set b (.cells (old ++ new ++ rest).toArray e (0, 0)))) :
    arun P (opS P (.call { callee := .builtin .append, args := #[.tmp 0, .tmp 1], argTypes := #[sT, sT] }) u [.slice a len cap, .slice ta n tcap]) H Q := by
  refine nf_arun _ ?_
  simp only [execOp, resolve, invoke, builtin, envOf, List.map_toArray, List.map_cons, List.map_nil, List.getD_cons_zero, List.getD_cons_succ, bind, pure, Sem.bind]
  unfold Builtin.append_
  simp only [bind, pure, Sem.bind, List.getElem?_toArray, List.getElem?_cons_zero, List.getElem?_cons_succ]
  refine arun_bind _ _ ?_
  refine arun_bind _ _ (run_still _ (still_underlying hs ?_))
  refine arun_bind _ _ (arun_bind _ _ (run_still _ (still_typeInfo hi ?_)))
  refine arun_bind _ _ (run_still _ (still_underlying hs ?_))
  simp only [Bool.false_eq_true, if_false, Builtin.lenOf, pure, Sem.bind, Bool.not_false, if_true]
  by_cases hc : len + n ≤ cap
  · rw [if_pos hc]
    refine arun_bind _ _ (run_still _ (still_first hnew hnl ?_))
    rcases hin hc with ⟨h0, hq⟩ | ⟨b, c, T, rfl, hb, hsz, hv, hq⟩
    · subst h0
      have : new = [] := List.eq_nil_of_length_eq_zero (by simpa using hnl)
      subst this
      cases a with
      | none => exact hq
      | some x => exact hq
    · show arun P ((storeCells ((Addr.mk b 0 none).add (len * info.size)) new).bind fun _ => Sem.pure (Value.slice (some ⟨b, 0, none⟩) (len + n) cap)) H _
      refine arun_bind _ _ ?_
      rw [Addr.add_mk, Nat.zero_add]
      refine run_storeCells new 0 c H hb ?_ hv ?_
      · rw [hnl, Nat.add_zero, ← Nat.add_mul]; exact hsz
      · exact hq
  · rw [if_neg hc]
    refine arun_bind _ _ (run_still _ (still_typeInfo hi ?_))
    rw [if_neg (by simp [hby])]
    refine arun_bind _ _ (run_still _ (still_typeInfo hi ?_))
    have hn := nextslicecap_le (len + n) cap
    have hmul : Builtin.nextslicecap (len + n) cap * info.bytes ≤ (len + n + 16 * (cap + 768)) * 64 := Nat.mul_le_mul hn hbt
    rw [if_neg (by
      have : (2 : Nat) ^ 48 = 281474976710656 := by decide
      omega)]
    refine ⟨fun hf => by simp [Question.forced] at hf, fun _ t => ?_⟩
    show arun P (Sem.bind (typeInfo e) fun i => Sem.bind (askRoom ((len + n + t % (2 ^ 63 - (len + n))) * i.bytes)) fun _ =>
      Sem.bind (Builtin.firstCells info.size len (Value.slice a len cap)) fun old =>
      Sem.bind (Builtin.firstCells info.size n (Value.slice ta n tcap)) fun new =>
      Sem.bind (zeroValue e) fun zv => Sem.bind (newRow e (old ++ new ++ Builtin.zeroCells zv.cells (len + n + t % (2 ^ 63 - (len + n)) - (len + n)))) fun p => Sem.pure (Value.slice (some p) (len + n) (len + n + t % (2 ^ 63 - (len + n))))) H _
    generalize t % (2 ^ 63 - (len + n)) = r
    refine arun_bind _ _ (run_still _ (still_typeInfo hi ?_))
    refine arun_bind _ _ (run_askRoom ?_)
    refine arun_bind _ _ (run_still _ (still_first hold hol ?_))
    refine arun_bind _ _ (run_still _ (still_first hnew hnl ?_))
    refine arun_bind _ _ ?_
    show arun P (Sem.bind (typeInfo e) _) H _
    refine arun_bind _ _ (run_still _ (still_typeInfo hi ?_))
    rw [hz]
    show arun P (Sem.bind (newRow e (old.toArray ++ new.toArray ++ Builtin.zeroCells z.cells (len + n + r - (len + n)))) _) H _
    refine arun_bind _ _ ?_
    refine ⟨rfl, fun b hb => ?_⟩
    have e1 : len + n + r - (len + n) = r := by omega
    have hsz : (Builtin.zeroCells z.cells r).toList.length = r * info.size := by
      unfold Builtin.zeroCells; rw [hzc]; simp
    have := hout (by omega) b (Builtin.zeroCells z.cells r).toList r hb hsz
    rw [e1]
    have e2 : (old ++ new ++ (Builtin.zeroCells z.cells r).toList).toArray = old.toArray ++ new.toArray ++ Builtin.zeroCells z.cells r := by apply Array.ext'; simp
    rw [e2] at this
    exact this
end
end Go.Fw
