/- What each word of a printed tree asks. -/
import Derived.Test.YtgnifhkjpekkdaaFwOps
namespace Go.Fw
open Go

section
variable {P : Program} {L : Hands} {H : Heap} {R : Value → Heap → Prop}

def Heap.get (H : Heap) (b : Nat) : Obj := (H b).getD default

theorem Heap.le_refl (H : Heap) : H.le H := fun _ _ h => h
theorem Heap.le_trans {H K M : Heap} (h : H.le K) (k : K.le M) : H.le M := fun b o e => k b o (h b o e)
theorem Heap.set_same (H : Heap) (b : Nat) (o : Obj) : (H.set b o) b = some o := by simp [Heap.set]
theorem Heap.set_ne (H : Heap) {b c : Nat} (o : Obj) (h : c ≠ b) : (H.set b o) c = H c := by simp [Heap.set, h]
theorem Heap.get_same (H : Heap) (b : Nat) (o : Obj) : (H.set b o).get b = o := by simp [Heap.get, Heap.set]
theorem Heap.get_ne (H : Heap) {b c : Nat} (o : Obj) (h : c ≠ b) : (H.set b o).get c = H.get c := by simp [Heap.get, Heap.set, h]
theorem Heap.get_of {H : Heap} {b : Nat} {o : Obj} (h : H b = some o) : H.get b = o := by simp [Heap.get, h]
theorem Heap.set_set (H : Heap) (b : Nat) (o o' : Obj) : (H.set b o).set b o' = H.set b o' := by funext c; simp only [Heap.set]; split <;> rfl
theorem Heap.set_comm (H : Heap) {b c : Nat} (o o' : Obj) (h : b ≠ c) : (H.set b o).set c o' = (H.set c o').set b o := by
  funext d; simp only [Heap.set]
  by_cases h1 : d = c
  · rw [if_pos h1, if_neg (fun e => h (e.symm.trans h1)), if_pos h1]
  · rw [if_neg h1, if_neg h1]
theorem Heap.set_self {H : Heap} {b : Nat} {o : Obj} (h : H b = some o) : H.set b o = H := by
  funext c; simp only [Heap.set]; split
  · rename_i e; rw [e, h]
  · rfl
theorem Heap.le_set_new {H : Heap} {b : Nat} (o : Obj) (h : H b = none) : H.le (H.set b o) := fun c o' e => by
  by_cases hc : c = b
  · subst hc; rw [h] at e; cases e
  · rw [Heap.set_ne _ _ hc]; exact e

theorem Heap.cell_set {H : Heap} {b : Nat} {c : Array Value} {T : TypeId} {f : Nat × Nat} (n : Nat) : (H.set b (.cells c T f)).cell? ⟨b, n, none⟩ = c[n]? := by
  simp [Heap.cell?, Heap.set]
theorem Heap.cell_of {H : Heap} {b : Nat} {c : Array Value} {T : TypeId} {f : Nat × Nat} (h : H b = some (.cells c T f)) (n : Nat) : H.cell? ⟨b, n, none⟩ = c[n]? := by
  simp [Heap.cell?, h]
theorem Heap.cell_ne {H : Heap} {b d : Nat} {o : Obj} (h : d ≠ b) (n : Nat) : (H.set b o).cell? ⟨d, n, none⟩ = H.cell? ⟨d, n, none⟩ := by
  simp [Heap.cell?, Heap.set, h]
theorem Heap.frozen_set {H : Heap} {b : Nat} {c : Array Value} {T : TypeId} (n : Nat) : (H.set b (.cells c T (0, 0))).frozen? ⟨b, n, none⟩ = false := by
  simp [Heap.frozen?, Heap.set]
theorem Heap.frozen_of {H : Heap} {b : Nat} {c : Array Value} {T : TypeId} (h : H b = some (.cells c T (0, 0))) (n : Nat) : H.frozen? ⟨b, n, none⟩ = false := by
  simp [Heap.frozen?, h]
theorem Heap.frozen_ne {H : Heap} {b d : Nat} {o : Obj} (h : d ≠ b) (n : Nat) : (H.set b o).frozen? ⟨d, n, none⟩ = H.frozen? ⟨d, n, none⟩ := by
  simp [Heap.frozen?, Heap.set, h]

theorem Addr.add_mk (b o n : Nat) : (Addr.mk b o none).add n = ⟨b, o + n, none⟩ := by
  unfold Addr.add; split
  · rename_i h; simp [h]
  · rfl

theorem setCell_put {H : Heap} {a : Addr} {v u : Value} (h : H.cell? a = some u) : H.setCell a v = H.set a.block (Obj.put a v (H.get a.block)) := by
  funext c
  unfold Heap.setCell Heap.set
  split
  · rename_i e; subst e
    unfold Heap.cell? at h
    split at h
    · rename_i x t f hx; simp [hx, Heap.get]
    · cases h
  · rfl

theorem put_cells (b n : Nat) (v : Value) (c : Array Value) (T : TypeId) (f : Nat × Nat) : Obj.put ⟨b, n, none⟩ v (.cells c T f) = .cells (c.setIfInBounds n v) T f := rfl

theorem wp_ret {v : Value} : wp P (.ret v) L H R ↔ ∃ H' : Heap, H'.le H ∧ R v H' := Iff.rfl

theorem wp_ret_of {v : Value} (h : R v H) : wp P (.ret v) L H R := ⟨H, Heap.le_refl H, h⟩

theorem wp_bif {b : Bool} {s t : Tree} : wp P (bif b then s else t) L H R ↔ (b = true → wp P s L H R) ∧ (b = false → wp P t L H R) := by cases b <;> simp

theorem wp_true {b : Bool} {s t : Tree} (hb : b = true) (h : wp P s L H R) : wp P (bif b then s else t) L H R := by rw [hb]; exact h
theorem wp_false {b : Bool} {s t : Tree} (hb : b = false) (h : wp P t L H R) : wp P (bif b then s else t) L H R := by rw [hb]; exact h

theorem wp_ld {a : Addr} {l : Leaf} {k : l.T → Tree} : wp P (.ld a l k) L H R ↔ ∃ x, H.cell? a = some (l.toVal x) ∧ wp P (k x) L H R := by
  constructor
  · rintro ⟨x, ⟨v, hv, hx⟩, h⟩; exact ⟨x, by rw [hv]; exact congrArg some hx, h⟩
  · rintro ⟨x, hv, h⟩; exact ⟨x, ⟨_, hv, rfl⟩, h⟩

theorem wp_ld_of {a : Addr} {l : Leaf} {k : l.T → Tree} {x : l.T} (hx : H.cell? a = some (l.toVal x)) (h : wp P (k x) L H R) : wp P (.ld a l k) L H R := wp_ld.2 ⟨x, hx, h⟩

theorem wp_st {a : Addr} {v : Value} {k : Tree} : wp P (.st a v k) L H R ↔ Value.single v = true ∧ (∃ u, H.cell? a = some u) ∧ H.frozen? a = false ∧ wp P k L (H.set a.block (Obj.put a v (H.get a.block))) R := by
  constructor
  · rintro ⟨h1, ⟨u, h2⟩, h3, x, _, h4⟩
    exact ⟨h1, ⟨u, h2⟩, h3, by rw [← setCell_put h2]; exact h4⟩
  · rintro ⟨h1, ⟨u, h2⟩, h3, h4⟩
    exact ⟨h1, ⟨u, h2⟩, h3, (), rfl, by rw [setCell_put h2]; exact h4⟩

theorem wp_st_of {b n : Nat} {v u : Value} {k : Tree} {c : Array Value} {T : TypeId} (hb : H b = some (.cells c T (0, 0))) (hn : c[n]? = some u) (hs : Value.single v = true)
    (h : wp P k L (H.set b (.cells (c.setIfInBounds n v) T (0, 0))) R) : wp P (.st ⟨b, n, none⟩ v k) L H R := by
  refine wp_st.2 ⟨hs, ⟨u, by rw [Heap.cell_of hb]; exact hn⟩, Heap.frozen_of hb n, ?_⟩
  show wp P k L (H.set b (Obj.put ⟨b, n, none⟩ v (H.get b))) R
  rw [Heap.get_of hb, put_cells]; exact h

def putAll (c : Array Value) : Nat → List Value → Array Value
  | _, [] => c
  | n, v :: l => putAll (c.setIfInBounds n v) (n + 1) l

theorem stAS_run {b n T : Nat} {k : Next → Heap → Prop} : ∀ (vs : List Value) (i : Nat) (c : Array Value) (H : Heap), H b = some (.cells c T (0, 0)) → n + i + vs.length ≤ c.size → (∀ v ∈ vs, Value.single v = true) →
    k .skip (H.set b (.cells (putAll c (n + i) vs) T (0, 0))) → arun P (stAS ⟨b, n, none⟩ vs i) H k
  | [], i, c, H, hb, _, _, h => by
    show k .skip H
    rw [← Heap.set_self hb]; exact h
  | v :: vs, i, c, H, hb, hn, hs, h => by
    simp only [List.length_cons] at hn
    have hlt : n + i < c.size := by omega
    have hc : H.cell? ((Addr.mk b n none).add i) = some c[n + i] := by rw [Addr.add_mk, Heap.cell_of hb]; simp [hlt]
    refine ⟨hs v List.mem_cons_self, ⟨_, hc⟩, by rw [Addr.add_mk]; exact Heap.frozen_of hb _, ?_⟩
    rw [setCell_put hc, Addr.add_mk]
    show arun P (stAS ⟨b, n, none⟩ vs (i + 1)) (H.set b (Obj.put ⟨b, n + i, none⟩ v (H.get b))) k
    rw [Heap.get_of hb, put_cells]
    refine stAS_run vs (i + 1) (c.setIfInBounds (n + i) v) _ (Heap.set_same _ _ _) (by simp; omega) (fun u hu => hs u (List.mem_cons_of_mem _ hu)) ?_
    rw [Heap.set_set]; exact h

theorem wp_stA_of {b n : Nat} {vs : List Value} {k : Tree} {c : Array Value} {T : TypeId} (hb : H b = some (.cells c T (0, 0))) (hn : n + vs.length ≤ c.size) (hs : ∀ v ∈ vs, Value.single v = true)
    (h : wp P k L (H.set b (.cells (putAll c n vs) T (0, 0))) R) : wp P (.stA ⟨b, n, none⟩ vs k) L H R :=
  stAS_run (P := P) vs 0 c H hb (by simpa using hn) hs ⟨(), rfl, h⟩

theorem ldK_still {b n T : Nat} {f : Nat × Nat} {c : Array Value} {k : Array Value → Sem Next} {Q : Next → Prop} (hb : H b = some (.cells c T f)) : ∀ (m i : Nat) (acc : Array Value), n + i + m ≤ c.size →
    astill P (k (acc ++ c.extract (n + i) (n + i + m))) H Q → astill P (ldK ⟨b, n, none⟩ m i acc k) H Q
  | 0, i, acc, _, h => by
    have e : acc ++ c.extract (n + i) (n + i + 0) = acc := by simp; omega
    rw [e] at h; exact h
  | m + 1, i, acc, hn, h => by
    have hlt : n + i < c.size := by omega
    refine ⟨c[n + i], by rw [Addr.add_mk, Heap.cell_of hb]; simp [hlt], ?_⟩
    refine ldK_still hb m (i + 1) (acc.push c[n + i]) (by omega) ?_
    have e : acc ++ c.extract (n + i) (n + i + (m + 1)) = acc.push c[n + i] ++ c.extract (n + (i + 1)) (n + (i + 1) + m) := by
      apply Array.ext'
      simp only [Array.toList_append, Array.toList_push, List.append_assoc, Array.toList_extract]
      congr 1
      simp only [List.extract_eq_take_drop]
      rw [show n + i + (m + 1) - (n + i) = m + 1 by omega, show n + (i + 1) + m - (n + (i + 1)) = m by omega, List.drop_eq_getElem_cons (by simpa using hlt)]
      simp [List.take_succ_cons, Nat.add_assoc]
    rw [← e]; exact h

theorem ldAS_eq (a : Addr) : ∀ (n i : Nat) (acc : Array Value), ldAS a n i acc = ldK a n i acc fun c => .pure (.value (.agg c))
  | 0, _, _ => rfl
  | n + 1, i, acc => by simp only [ldAS, ldK, ldAS_eq a n]

theorem wp_ldA_of {b n T : Nat} {f : Nat × Nat} {ls : List Leaf} {k : HL Leaf.T ls → Tree} {c : Array Value} {x : HL Leaf.T ls} (hb : H b = some (.cells c T f)) (hn : n + ls.length ≤ c.size)
    (hx : c.extract n (n + ls.length) = (HL.vals Leaf.toVal ls x).toArray) (h : wp P (k x) L H R) : wp P (.ldA ⟨b, n, none⟩ ls k) L H R := by
  refine ⟨x, ?_, h⟩
  rw [ldAS_eq]
  refine ldK_still hb _ 0 #[] (by simpa using hn) ?_
  show (Value.agg (#[] ++ c.extract n (n + ls.length)) : Value) = _
  rw [hx]; simp

theorem wp_newP {o : Obj} {k : Addr → Tree} (h : ∀ b, H b = none → wp P (k ⟨b, 0, none⟩) L (H.set b o) R) (hp : Obj.plain o = true := by rfl) : wp P (.newP o k) L H R :=
  ⟨o, fun b => .pointer (some ⟨b, 0, none⟩), ⟨⟨rfl, hp⟩, fun _ => rfl⟩, fun b hb => ⟨⟨b, 0, none⟩, rfl, h b hb⟩⟩

theorem wp_newS {o : Obj} {n : Nat} {k : Sl → Tree} (h : ∀ b, H b = none → wp P (k ⟨some ⟨b, 0, none⟩, n, n⟩) L (H.set b o) R) (hp : Obj.plain o = true := by rfl) : wp P (.newS o n k) L H R :=
  ⟨o, fun b => .slice (some ⟨b, 0, none⟩) n n, ⟨⟨rfl, hp⟩, fun _ => rfl⟩, fun b hb => ⟨⟨some ⟨b, 0, none⟩, n, n⟩, rfl, h b hb⟩⟩

theorem wp_newM {k : Option Nat → Tree} (h : ∀ b, H b = none → wp P (k (some b)) L (H.set b (.map #[] 0)) R) : wp P (.newM k) L H R :=
  ⟨.map #[] 0, fun b => .map (some b), ⟨⟨rfl, rfl⟩, fun _ => rfl⟩, fun b hb => ⟨some b, rfl, h b hb⟩⟩

theorem wp_call {f : FuncId} {args : List Value} {sh : Sh} {k : sh.T → Tree} : wp P (.call f args sh k) L H R ↔ SpecF P f args.toArray H fun v H' => ∃ x, v = sh.toVal x ∧ wp P (k x) L H' R := Iff.rfl

theorem wp_call_of {f : FuncId} {args : List Value} {sh : Sh} {k : sh.T → Tree} {R0 : Value → Heap → Prop} (h : SpecF P f args.toArray H R0)
    (hk : ∀ v H', R0 v H' → ∃ x, v = sh.toVal x ∧ wp P (k x) L H' R) : wp P (.call f args sh k) L H R := SpecF.mono h hk

/-- A function that answers v, and leaves H' at least. -/
def Det (P : Program) (f : FuncId) (args : List Value) (H : Heap) (v : Value) (H' : Heap) : Prop := SpecF P f args.toArray H fun u K => u = v ∧ K = H'

theorem wp_call_det {f : FuncId} {args : List Value} {sh : Sh} {k : sh.T → Tree} {x : sh.T} {H' : Heap} (h : Det P f args H (sh.toVal x) H')
    (hk : wp P (k x) L H' R) : wp P (.call f args sh k) L H R := SpecF.mono h fun v K ⟨hv, hK⟩ => ⟨x, hv, by rw [hK]; exact hk⟩

theorem wp_qcall_det {f : FuncId} {args : List Value} {sh : Sh} {k : sh.T → Tree} {x : sh.T} (h : Det P f args H (sh.toVal x) H)
    (hk : wp P (k x) L H R) : wp P (.qcall f args sh k) L H R := ⟨x, SpecF.mono h fun v K ⟨hv, hK⟩ => ⟨hv, by rw [hK]; exact Heap.le_refl H⟩, hk⟩

theorem wp_nil {a : Addr} {t : TypeId} {k : Addr → Tree} : wp P (.look (opS P (.nilCheck (.tmp 0)) t [.pointer (some a)]) (.one (.leaf .addr)) k) L H R ↔ wp P (k a) L H R := by
  constructor
  · rintro ⟨x, hx, h⟩
    have : x = a := by
      have h1 : (.pointer (some a) : Value) = .pointer (some x) := hx
      simpa using h1.symm
    subst this; exact h
  · intro h; exact ⟨a, rfl, h⟩

theorem look_val {s : Sem Next} {sh : Sh} {k : sh.T → Tree} {x : sh.T} (hs : s = .pure (.value (sh.toVal x))) (h : wp P (k x) L H R) : wp P (.look s sh k) L H R := by
  subst hs; exact ⟨x, rfl, h⟩

theorem look_enter {s : Sem Next} {f : FuncId} {args : List Value} {sh : Sh} {k : sh.T → Tree} {x : sh.T} (hs : s = .pure (.enter f args.toArray)) (h : Det P f args H (sh.toVal x) H) (hk : wp P (k x) L H R) : wp P (.look s sh k) L H R := by
  subst hs; exact wp_qcall_det h hk

theorem act_enter {s : Sem Next} {f : FuncId} {args : List Value} {sh : Sh} {k : sh.T → Tree} (hs : s = .pure (.enter f args.toArray)) (hk : wp P (.call f args sh k) L H R) : wp P (.act s sh k) L H R := by
  subst hs; exact hk

theorem check_val {s : Sem Next} {v : Value} {t : Tree} (hs : s = .pure (.value v)) (h : wp P t L H R) : wp P (.check s v t) L H R := by
  subst hs; exact ⟨rfl, h⟩

theorem opS_idx {t u : TypeId} {n e : Nat} {i : Int} {a : Addr} {info : TypeInfo} (hu : P.underlying t = some (.array n e)) (hi : P.info? e = some info) (h0 : 0 ≤ i) (h1 : i < n) :
    opS P (.indexAddr t (.tmp 0) (.tmp 1)) u [.pointer (some a), .int .i64 i] = .pure (.value (.pointer (some (a.add (i.toNat * info.size))))) := by
  simp [opS, execOp, envOf, Instr.indexAt, asIntOf, underlying, program, nf, hu, hi, h0, h1, Instr.sureAddr, sizeOf, typeInfo, bind, pure, Sem.bind]

theorem opS_idxS {t u : TypeId} {e l c : Nat} {i : Int} {a : Addr} {info : TypeInfo} (hu : P.underlying t = some (.slice e)) (hi : P.info? e = some info) (h0 : 0 ≤ i) (h1 : i < l) :
    opS P (.indexAddr t (.tmp 0) (.tmp 1)) u [.slice (some a) l c, .int .i64 i] = .pure (.value (.pointer (some (a.add (i.toNat * info.size))))) := by
  simp [opS, execOp, envOf, Instr.indexAt, asIntOf, underlying, program, nf, hu, hi, h0, h1, sizeOf, typeInfo, bind, pure, Sem.bind]

theorem opS_rem {t t' u : TypeId} {x y : Int} (hy : y ≠ 0) : opS P (.binOp .rem t (.tmp 0) (.tmp 1) t') u [.int .i64 x, .int .i64 y] = .pure (.value (.int .i64 (Int.tmod x y))) := by
  simp [opS, execOp, envOf, nf, eqGuard, binOp, Op.intDiv, hy, bind, pure, Sem.bind]

theorem opS_quo {t t' u : TypeId} {x y : Int} (hy : y ≠ 0) : opS P (.binOp .quo t (.tmp 0) (.tmp 1) t') u [.int .i64 x, .int .i64 y] = .pure (.value (.int .i64 (w64 (Int.tdiv x y)))) := by
  simp [opS, execOp, envOf, nf, eqGuard, binOp, Op.intDiv, hy, bind, pure, Sem.bind, w64]

theorem opS_shl {t t' u : TypeId} {x y : Int} (hy : 0 ≤ y) : opS P (.binOp .shl t (.tmp 0) (.tmp 1) t') u [.int .i64 x, .int .i64 y] = .pure (.value (.int .i64 (w64 (x * 2 ^ (min y.toNat 64))))) := by
  have : ¬ y < 0 := by omega
  simp [opS, execOp, envOf, nf, eqGuard, binOp, Op.shift, this, bind, pure, Sem.bind, w64, IntKind.bits]

theorem opS_shr {t t' u : TypeId} {x y : Int} (hy : 0 ≤ y) : opS P (.binOp .shr t (.tmp 0) (.tmp 1) t') u [.int .i64 x, .int .i64 y] = .pure (.value (.int .i64 (x.fdiv (2 ^ (min y.toNat 64))))) := by
  have : ¬ y < 0 := by omega
  simp [opS, execOp, envOf, nf, eqGuard, binOp, Op.shift, this, bind, pure, Sem.bind, IntKind.bits]

/-- A loop, by what holds at its head. -/
theorem wp_loop_inv {n : Nat} {shs : List Sh1} {init : List Value} {body : HL Sh1.T shs → Tree} (I : HL Sh1.T shs → Heap → Prop) (m : HL Sh1.T shs → Heap → Nat) (x0 : HL Sh1.T shs)
    (h0 : init = toVals shs x0) (hI : I x0 H) (hstep : ∀ x H', I x H' → wp P (body x) (L.set n fun vals H'' => ∃ x', vals = toVals shs x' ∧ I x' H'' ∧ m x' H'' < m x H') H' R) :
    wp P (.loop n shs init body) L H R := by
  refine ⟨x0, h0, fun C hC => ?_⟩
  have key : ∀ (d : Nat) x H', m x H' = d → I x H' → C x H' := by
    intro d
    induction d using Nat.strongRecOn with
    | _ d ih =>
      intro x H' hd hx
      refine hC x H' (wp_mono _ (hstep x H' hx) (fun k vals H'' hk => ?_) (fun _ _ h => h))
      unfold Hands.set at *
      split at hk
      · rename_i e; rw [if_pos e]; obtain ⟨x', h1, h2, h3⟩ := hk; exact ⟨x', h1, ih _ (hd ▸ h3) x' H'' rfl h2⟩
      · rename_i e; rw [if_neg e]; exact hk
  exact key _ x0 H rfl hI

/-- One round of a loop, then the loop. -/
theorem wp_loop_unroll {n : Nat} {shs : List Sh1} {init : List Value} {body : HL Sh1.T shs → Tree} (x0 : HL Sh1.T shs) (h0 : init = toVals shs x0)
    (h : wp P (body x0) (L.set n fun vals H'' => wp P (.loop n shs vals body) L H'' R) H R) : wp P (.loop n shs init body) L H R := by
  refine ⟨x0, h0, fun C hC => hC x0 H (wp_mono _ h (fun k vals H'' hk => ?_) (fun _ _ h => h))⟩
  unfold Hands.set at *
  split at hk
  · rename_i e; rw [if_pos e]
    obtain ⟨x', h1, h2⟩ := hk
    exact ⟨x', h1, h2 C hC⟩
  · rename_i e; rw [if_neg e]; exact hk

theorem wp_again {n : Nat} {vals : List Value} {C : List Value → Heap → Prop} (h : C vals H) : wp P (.again n vals) (L.set n C) H R := by
  show (L.set n C) n vals H
  unfold Hands.set; rw [if_pos rfl]; exact h
end

theorem ibne {a b : Int} (h : a ≠ b) : (a != b) = true := bne_iff_ne.2 h
theorem ibnf {a b : Int} (h : a = b) : (a != b) = false := by subst h; simp
theorem ibeq {a b : Int} (h : a = b) : (a == b) = true := beq_iff_eq.2 h
theorem ibef {a b : Int} (h : a ≠ b) : (a == b) = false := beq_eq_false_iff_ne.2 h
theorem ilt {a b : Int} (h : a < b) : decide (a < b) = true := decide_eq_true h
theorem inlt {a b : Int} (h : b ≤ a) : decide (a < b) = false := decide_eq_false (by omega)
theorem ile {a b : Int} (h : a ≤ b) : decide (a ≤ b) = true := decide_eq_true h
theorem inle {a b : Int} (h : b < a) : decide (a ≤ b) = false := decide_eq_false (by omega)

theorem w64_in {x : Int} (h0 : -9223372036854775808 ≤ x) (h1 : x ≤ 9223372036854775807) : w64 x = x := by
  unfold w64; rw [IntKind.wrap_i64]; omega
end Go.Fw
