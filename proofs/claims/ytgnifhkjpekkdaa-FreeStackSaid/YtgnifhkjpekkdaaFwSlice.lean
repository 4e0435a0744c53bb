/- Slices: made, cut, appended to. -/
import Derived.Test.YtgnifhkjpekkdaaFwMem
namespace Go.Fw
open Go

section
variable {P : Program} {L : Hands} {H : Heap} {R : Value → Heap → Prop}

/-- A meaning that comes to a, without memory. -/
def apure (P : Program) {α : Type} : Sem α → α → Prop
  | .pure u, a => u = a
  | .program k, a => apure P (k P) a
  | .mark _ k, a => apure P k a
  | _, _ => False

theorem amake_bind {α : Type} (s : Sem α) (k : α → Sem Next) {a : α} {o : Obj} {val : Nat → Value} : apure P s a → amake P (k a) o val → amake P (s.bind k) o val := by
  induction s with
  | pure u => intro h hk; simp only [apure] at h; subst h; exact hk
  | program j ih => intro h hk; exact ih P h hk
  | mark m j ih => intro h hk; exact ih h hk
  | _ => intro h; exact h.elim

theorem apure_bind {α β : Type} (s : Sem α) (k : α → Sem β) {a : α} {b : β} : apure P s a → apure P (k a) b → apure P (s.bind k) b := by
  induction s with
  | pure u => intro h hk; simp only [apure] at h; subst h; exact hk
  | program j ih => intro h hk; exact ih P h hk
  | mark m j ih => intro h hk; exact ih h hk
  | _ => intro h; exact h.elim

theorem nf_amade (s : Sem Next) {v : Value} : amade P s v → amade P (nf P s) v := by
  induction s with
  | pure a => intro h; exact h
  | program k ih => intro h; exact ih P h
  | mark m k ih => intro h; exact ih h
  | _ => intro h; exact h.elim

theorem nf_amake (s : Sem Next) {o : Obj} {val : Nat → Value} : amake P s o val → amake P (nf P s) o val := by
  induction s with
  | new o' k ih => intro h; exact ⟨h.1, fun b => nf_amade _ (h.2 b)⟩
  | program k ih => intro h; exact ih P h
  | mark m k ih => intro h; exact ih h
  | _ => intro h; exact h.elim

theorem pure_underlying {t : TypeId} {d : TypeDesc} (h : P.underlying t = some d) : apure P (underlying t) d := by
  show apure P (match P.underlying t with | some d => pure d | none => stuck "no such type" : Sem TypeDesc) _
  rw [h]; exact rfl

theorem pure_typeInfo {t : TypeId} {d : TypeInfo} (h : P.info? t = some d) : apure P (typeInfo t) d := by
  show apure P (match P.info? t with | some d => pure d | none => stuck "no such type" : Sem TypeInfo) _
  rw [h]; exact rfl

theorem range_map_const (n : Nat) (z : Value) : (Array.range n).map (fun i => (#[z] : Array Value)[i % (#[z] : Array Value).size]!) = Array.replicate n z := by
  apply Array.ext
  · simp
  · intro i h1 h2; simp [Nat.mod_one]

/-- A slice is made, of one-cell elements. -/
theorem make_slice {t u e : TypeId} {n : Int} {i : TypeInfo} {z : Value} (ht : P.underlying t = some (.slice e)) (hi : P.info? e = some i) (h1 : i.size = 1) (hb : i.bytes ≤ 8) (hz : i.zero = some z) (hc : z.cells = #[z]) (h0 : 0 ≤ n) (hn : n ≤ 1048576) :
    amake P (opS P (.makeSlice t (.tmp 0) (.tmp 1)) u [.int .i64 n, .int .i64 n]) (.cells (Array.replicate n.toNat z) e) (fun b => .slice (some ⟨b, 0, none⟩) n.toNat n.toNat) := by
  refine nf_amake _ ?_
  show amake P (Sem.bind (Instr.makeSlice t (.int .i64 n) (.int .i64 n)) fun v => (Sem.pure (Next.value v) : Sem Next)) _ _
  have hw : IntKind.i64.wrap n = n := w64_in (by omega) (by omega)
  have hbn : (i.bytes : Int) * n ≤ 8388608 := by
    have : (i.bytes : Int) * n ≤ 8 * n := Int.mul_le_mul_of_nonneg_right (by omega) h0
    omega
  have hb1 : ¬ n < 0 := by omega
  have hb2 : ¬ (i.bytes : Int) * n > 2 ^ 48 := by omega
  have hz1 : ∀ (k : Value → Sem Next) (o : Obj) (val : Nat → Value), amake P (k z) o val → amake P (Sem.bind (zeroValue e) k) o val := fun k o val h =>
    amake_bind _ _ (apure_bind _ _ (pure_typeInfo hi) (by rw [hz]; exact rfl)) h
  simp only [Instr.makeSlice, underlying, program, bind, pure, Sem.bind, amake, ht, asInt, asIntOf, typeInfo, hi, hw, hb1, hb2, decide_false, Bool.or_self, Bool.false_eq_true, if_false, gt_iff_lt, Int.lt_irrefl]
  have hroom : askRoom (n.toNat * i.bytes) = Sem.pure () := by
    unfold askRoom
    rw [if_neg (by
      have : n.toNat * i.bytes ≤ 1048576 * 8 := Nat.mul_le_mul (by omega) hb
      unfold roomBytes; omega)]; rfl
  rw [hroom]
  have hrow : ∀ cs, newRow e cs = Sem.new (.cells cs e) fun b => Sem.pure ⟨b, 0, none⟩ := fun _ => rfl
  simp only [Sem.bind, sizeOf, typeInfo, program, bind, pure, amake, hi, h1, Nat.mul_one]
  by_cases hn0 : n.toNat = 0
  · rw [if_pos hn0]
    simp only [hrow, Sem.bind, hn0]
    exact ⟨⟨by simp, rfl⟩, fun b => rfl⟩
  · rw [if_neg hn0]
    have hzv : zeroValue e = Sem.bind (typeInfo e) (fun i => match i.zero with | some v => Sem.pure v | none => unsupported (.resourceLimit "a value of more than 2^22 cells")) := rfl
    simp only [hzv, hrow, Sem.bind, typeInfo, program, bind, pure, amake, hi, hz, hc, range_map_const]
    exact ⟨⟨trivial, rfl⟩, fun b => rfl⟩

theorem wp_make {s : Sem Next} {sh : Sh} {k : sh.T → Tree} {o : Obj} {val : Nat → Value} {x : Nat → sh.T} (hm : amake P s o val) (hx : ∀ b, val b = sh.toVal (x b)) (h : ∀ b, H b = none → wp P (k (x b)) L (H.set b o) R) :
    wp P (.make s sh k) L H R := ⟨o, val, hm, fun b hb => ⟨x b, hx b, h b hb⟩⟩

theorem opS_slice3 {t u e : TypeId} {a : Option Addr} {len cap : Nat} {lo hi : Int} {i : TypeInfo} (ht : P.underlying t = some (.slice e)) (hi' : P.info? e = some i) (h1 : i.size = 1) (h0 : 0 ≤ lo) (hlh : lo ≤ hi) (hc : hi ≤ cap) :
    opS P (.slice t (.tmp 0) (some (.tmp 1)) (some (.tmp 2)) (some (.tmp 3))) u [.slice a len cap, .int .i64 lo, .int .i64 hi, .int .i64 hi] =
      .pure (.value (.slice (if hi.toNat = lo.toNat then a else a.map (·.add lo.toNat)) (hi.toNat - lo.toNat) (hi.toNat - lo.toNat))) := by
  have e1 : (0 ≤ hi ∧ hi ≤ (cap : Int)) := by omega
  have e2 : (0 ≤ hi ∧ hi ≤ (hi.toNat : Int)) := by omega
  have e3 : (0 ≤ lo ∧ lo ≤ (hi.toNat : Int)) := by omega
  simp only [opS, execOp, envOf, List.getD_cons_zero, List.getD_cons_succ, Option.map_some, Instr.sliceAt, Instr.slice, Instr.sliceBounds, Instr.sliceBound, asIntOf, underlying, program, bind, pure, Sem.bind, nf, ht, e1, e2, e3, and_self, if_true,
    sizeOf, typeInfo, hi', h1, Nat.mul_one]

theorem opS_sliceHi {t u e : TypeId} {a : Option Addr} {len cap : Nat} {hi : Int} {i : TypeInfo} (ht : P.underlying t = some (.slice e)) (hi' : P.info? e = some i) (h1 : i.size = 1) (h0 : 0 ≤ hi) (hc : hi ≤ cap) :
    opS P (.slice t (.tmp 0) none (some (.tmp 1)) none) u [.slice a len cap, .int .i64 hi] = .pure (.value (.slice a hi.toNat cap)) := by
  have e1 : (0 ≤ hi ∧ hi ≤ (cap : Int)) := by omega
  have e2 : (a.map (·.add 0)) = a := by cases a <;> simp [Addr.add]
  simp only [opS, execOp, envOf, List.getD_cons_zero, List.getD_cons_succ, Option.map_some, Option.map_none, Instr.sliceAt, Instr.slice, Instr.sliceBounds, Instr.sliceBound, asIntOf, underlying, program, bind, pure, Sem.bind, nf, ht, e1, and_self, if_true,
    sizeOf, typeInfo, hi', h1, Nat.mul_one, e2, ite_self, Nat.sub_zero]

theorem opS_sliceLo {t u e : TypeId} {a : Option Addr} {len cap : Nat} {lo : Int} {i : TypeInfo} (ht : P.underlying t = some (.slice e)) (hi' : P.info? e = some i) (h1 : i.size = 1) (h0 : 0 ≤ lo) (hc : lo ≤ len) :
    opS P (.slice t (.tmp 0) (some (.tmp 1)) none none) u [.slice a len cap, .int .i64 lo] = .pure (.value (.slice (if cap = lo.toNat then a else a.map (·.add lo.toNat)) (len - lo.toNat) (cap - lo.toNat))) := by
  have e1 : (0 ≤ lo ∧ lo ≤ (len : Int)) := by omega
  simp [opS, execOp, envOf, Instr.sliceAt, Instr.slice, Instr.sliceBounds, Instr.sliceBound, asIntOf, underlying, program, bind, pure, Sem.bind, nf, ht, e1, sizeOf, typeInfo, hi', h1]
end
end Go.Fw
