/- The code does what its tree does. -/
import Derived.Test.YtgnifhkjpekkdaaFwTree
namespace Go.Fw
open Go

def Fr.has : Fr → Nat → Prop
  | .leaf, _ => False
  | .node l _ r, t => if t = 0 then True else if t % 2 = 1 then l.has (t / 2) else r.has (t / 2 - 1)

theorem beq_nat (a b : Nat) : Nat.beq a b = decide (a = b) := by
  by_cases h : a = b
  · subst h; simp
  · rw [decide_eq_false h]; cases hc : Nat.beq a b with
    | false => rfl
    | true => exact (h (Nat.eq_of_beq_eq_true hc)).elim

theorem Fr.has_mk : ∀ (d n t : Nat), (Fr.mkF d n).has t → t < n
  | 0, _, _, h => h.elim
  | d + 1, n, t, h => by
    unfold Fr.mkF at h
    rw [beq_nat] at h
    by_cases hn : n = 0
    · rw [decide_eq_true hn] at h; exact h.elim
    · rw [decide_eq_false hn] at h
      simp only [cond_false, Fr.has] at h
      by_cases ht : t = 0
      · omega
      · rw [if_neg ht] at h
        split at h
        · have := Fr.has_mk d _ _ h; omega
        · have := Fr.has_mk d _ _ h; omega

theorem Fr.get_mk : ∀ (d n t : Nat), (Fr.mkF d n).get t = none
  | 0, _, _ => rfl
  | d + 1, n, t => by
    unfold Fr.mkF
    cases Nat.beq n 0 with
    | true => rfl
    | false =>
      simp only [cond_false, Fr.get]
      cases Nat.beq t 0 with
      | true => rfl
      | false =>
        simp only [cond_false]
        cases Nat.beq (t % 2) 1 with
        | true => exact Fr.get_mk d _ _
        | false => exact Fr.get_mk d _ _

theorem Fr.has_upd : ∀ (fr : Fr) (t s : Nat) (v : Option Value), (fr.upd t v).has s → fr.has s
  | .leaf, _, _, _, h => h
  | .node l x r, t, s, v, h => by
    unfold Fr.upd at h
    rw [beq_nat, beq_nat] at h
    by_cases ht : t = 0
    · rw [decide_eq_true ht] at h; exact h
    · rw [decide_eq_false ht] at h
      by_cases ho : t % 2 = 1
      · rw [decide_eq_true ho] at h
        simp only [cond_false, cond_true, Fr.has] at h ⊢
        split
        · trivial
        · rename_i hs; rw [if_neg hs] at h
          split
          · rename_i h2; rw [if_pos h2] at h; exact Fr.has_upd l _ _ _ h
          · rename_i h2; rw [if_neg h2] at h; exact h
      · rw [decide_eq_false ho] at h
        simp only [cond_false, Fr.has] at h ⊢
        split
        · trivial
        · rename_i hs; rw [if_neg hs] at h
          split
          · rename_i h2; rw [if_pos h2] at h; exact h
          · rename_i h2; rw [if_neg h2] at h; exact Fr.has_upd r _ _ _ h

theorem Fr.get_upd : ∀ (fr : Fr) (t s : Nat) (v : Option Value) (u : Value), (fr.upd t v).get s = some u → (s = t ∧ v = some u ∧ fr.has t) ∨ (s ≠ t ∧ fr.get s = some u)
  | .leaf, _, _, _, _, h => by cases h
  | .node l x r, t, s, v, u, h => by
    unfold Fr.upd at h
    rw [beq_nat, beq_nat] at h
    by_cases ht : t = 0
    · rw [decide_eq_true ht] at h
      simp only [cond_true, Fr.get, beq_nat] at h
      by_cases hs : s = 0
      · rw [decide_eq_true hs] at h
        refine .inl ⟨by omega, h, ?_⟩
        simp only [Fr.has, if_pos ht]
      · rw [decide_eq_false hs] at h
        refine .inr ⟨by omega, ?_⟩
        simp only [Fr.get, beq_nat]; rw [decide_eq_false hs]; exact h
    · rw [decide_eq_false ht] at h
      by_cases ho : t % 2 = 1
      · rw [decide_eq_true ho] at h
        simp only [cond_true, cond_false, Fr.get, beq_nat] at h ⊢
        by_cases hs : s = 0
        · rw [decide_eq_true hs] at h ⊢
          exact .inr ⟨by omega, h⟩
        · rw [decide_eq_false hs] at h ⊢
          simp only [cond_false] at h ⊢
          by_cases h2 : s % 2 = 1
          · rw [decide_eq_true h2] at h ⊢
            rcases Fr.get_upd l _ _ _ _ h with ⟨e1, e2, e3⟩ | ⟨e1, e2⟩
            · refine .inl ⟨by omega, e2, ?_⟩
              simp only [Fr.has, if_neg ht, if_pos ho]; exact e3
            · exact .inr ⟨by omega, e2⟩
          · rw [decide_eq_false h2] at h ⊢
            exact .inr ⟨by omega, h⟩
      · rw [decide_eq_false ho] at h
        simp only [cond_false, Fr.get, beq_nat] at h ⊢
        by_cases hs : s = 0
        · rw [decide_eq_true hs] at h ⊢
          exact .inr ⟨by omega, h⟩
        · rw [decide_eq_false hs] at h ⊢
          simp only [cond_false] at h ⊢
          by_cases h2 : s % 2 = 1
          · rw [decide_eq_true h2] at h ⊢
            exact .inr ⟨by omega, h⟩
          · rw [decide_eq_false h2] at h ⊢
            rcases Fr.get_upd r _ _ _ _ h with ⟨e1, e2, e3⟩ | ⟨e1, e2⟩
            · refine .inl ⟨by omega, e2, ?_⟩
              simp only [Fr.has, if_neg ht, if_neg ho]; exact e3
            · exact .inr ⟨by omega, e2⟩

structure Frok (fr : Fr) (a : Act) : Prop where
  size : ∀ t, fr.has t → t < a.tmps.size
  val : ∀ (i : Nat) (v : Value), fr.get i = some v → a.tmps[i]? = some v

/-- The same slots but for those of W. -/
structure Same (W : List Nat) (a' a : Act) : Prop where
  size : a'.tmps.size = a.tmps.size
  val : ∀ i, i ∉ W → a'.tmps[i]? = a.tmps[i]?

theorem Same.refl (W : List Nat) (a : Act) : Same W a a := ⟨rfl, fun _ _ => rfl⟩
theorem Same.mono {W W' : List Nat} {a a' : Act} (h : Same W a' a) (hw : ∀ i, i ∈ W → i ∈ W') : Same W' a' a := ⟨h.size, fun i hi => h.val i fun hm => hi (hw i hm)⟩
theorem Same.trans {W : List Nat} {a a' a2 : Act} (h : Same W a2 a') (k : Same W a' a) : Same W a2 a := ⟨h.size.trans k.size, fun i hi => (h.val i hi).trans (k.val i hi)⟩

theorem Frok.get {fr : Fr} {a : Act} (h : Frok fr a) {t : Nat} {v : Value} (hg : fr.get t = some v) : a.tmps[t]? = some v := h.val _ _ hg

theorem Frok.eval {fr : Fr} {a : Act} (h : Frok fr a) {x : Operand} {v : Value} (hx : fr.eval x = some v) : a.eval x = v := by
  cases x with
  | tmp t => simp only [Fr.eval] at hx; simp only [Act.eval]; rw [Array.getD_eq_getD_getElem?, h.get hx]; rfl
  | const u => simp only [Fr.eval, Option.some.injEq] at hx; exact hx
  | global g => simp only [Fr.eval, Option.some.injEq] at hx; exact hx
  | func f => simp only [Fr.eval, Option.some.injEq] at hx; exact hx

theorem Frok.set {fr : Fr} {a : Act} (h : Frok fr a) (t : Nat) (v : Value) : Frok (fr.upd t (some v)) { a with tmps := a.tmps.setIfInBounds t v } := by
  refine ⟨fun s hs => by simpa using h.size s (Fr.has_upd _ _ _ _ hs), fun i u hi => ?_⟩
  simp only [Array.getElem?_setIfInBounds]
  rcases Fr.get_upd _ _ _ _ _ hi with ⟨e1, e2, e3⟩ | ⟨e1, e2⟩
  · rw [if_pos e1.symm, if_pos (h.size t e3), e2]
  · rw [if_neg (fun e => e1 e.symm)]; exact h.val i u e2

theorem Frok.put {fr : Fr} {a : Act} (h : Frok fr a) (d : Option Tmp) (v : Value) : Frok (fr.put d v) (a.put d v) := by
  cases d with
  | none => exact h
  | some t => exact h.set t v

theorem Frok.same {fr : Fr} {a : Act} (h : Frok fr a) {t : Nat} {v : Value} (hv : fr.get t = some v) : Frok (fr.upd t (some v)) a := by
  refine ⟨fun s hs => h.size s (Fr.has_upd _ _ _ _ hs), fun i u hi => ?_⟩
  rcases Fr.get_upd _ _ _ _ _ hi with ⟨e1, e2, e3⟩ | ⟨e1, e2⟩
  · rw [e1, ← e2]; exact h.get hv
  · exact h.val i u e2

theorem put_other {a : Act} {d : Option Tmp} {v : Value} {i : Nat} (h : d ≠ some i) : (a.put d v).tmps[i]? = a.tmps[i]? := by
  cases d with
  | none => rfl
  | some t =>
    have : t ≠ i := fun e => h (by rw [e])
    simp [Act.put, Array.getElem?_setIfInBounds_ne this]

theorem put_size (a : Act) (d : Option Tmp) (v : Value) : (a.put d v).tmps.size = a.tmps.size := by
  cases d with
  | none => rfl
  | some t => simp [Act.put]

theorem put_defers (a : Act) (d : Option Tmp) (v : Value) : (a.put d v).defers = a.defers := by cases d <;> rfl

theorem notSelect {op : Op} (h : Op.isSelect op = false) : ∀ cs b, op ≠ .select cs b := by
  intro cs b e
  subst e
  simp [Op.isSelect] at h

theorem arun_nf {P : Program} {α : Type} (s : Sem α) : ∀ {H : Heap} {Q : α → Heap → Prop}, arun P (nf P s) H Q → arun P s H Q := by
  induction s with
  | pure a => intro H Q h; exact h
  | load m a k ih => intro H Q h; obtain ⟨v, hc, h⟩ := h; exact ⟨v, hc, ih v h⟩
  | store m a v k ih => intro H Q h; exact ⟨h.1, h.2.1, h.2.2.1, ih h.2.2.2⟩
  | new o k ih => intro H Q h; exact ⟨h.1, fun b hb => ih b (h.2 b hb)⟩
  | shape r k ih => intro H Q h; exact ⟨h.1, ih _ h.2⟩
  | frozen a k ih => intro H Q h; exact ⟨h.1, ih _ h.2⟩
  | getObj r k ih => intro H Q h; obtain ⟨o, h1, h2, h3⟩ := h; exact ⟨o, h1, h2, ih _ h3⟩
  | setObj r o k ih => intro H Q h; exact ⟨h.1, h.2.1, ih h.2.2⟩
  | choose q k ih => intro H Q h; exact ⟨fun e => ih _ (h.1 e), fun e t => ih _ (h.2 e t)⟩
  | program k ih => intro H Q h; exact ih P h
  | mark m k ih => intro H Q h; exact ih h
  | _ => intro H Q h; exact h.elim

theorem astill_nf {P : Program} {α : Type} (s : Sem α) : ∀ {H : Heap} {Q : α → Prop}, astill P (nf P s) H Q → astill P s H Q := by
  induction s with
  | pure a => intro H Q h; exact h
  | load m a k ih => intro H Q h; obtain ⟨v, hc, h⟩ := h; exact ⟨v, hc, ih v h⟩
  | shape r k ih => intro H Q h; exact ⟨h.1, ih _ h.2⟩
  | frozen a k ih => intro H Q h; exact ⟨h.1, ih _ h.2⟩
  | getObj r k ih => intro H Q h; obtain ⟨o, h1, h2, h3⟩ := h; exact ⟨o, h1, h2, ih _ h3⟩
  | program k ih => intro H Q h; exact ih P h
  | mark m k ih => intro H Q h; exact ih h
  | _ => intro H Q h; exact h.elim

theorem nf_astill {P : Program} {α : Type} (s : Sem α) : ∀ {H : Heap} {Q : α → Prop}, astill P s H Q → astill P (nf P s) H Q := by
  induction s with
  | pure a => intro H Q h; exact h
  | load m a k ih => intro H Q h; obtain ⟨v, hc, h⟩ := h; exact ⟨v, hc, ih v h⟩
  | shape r k ih => intro H Q h; exact ⟨h.1, ih _ h.2⟩
  | frozen a k ih => intro H Q h; exact ⟨h.1, ih _ h.2⟩
  | getObj r k ih => intro H Q h; obtain ⟨o, h1, h2, h3⟩ := h; exact ⟨o, h1, h2, ih _ h3⟩
  | program k ih => intro H Q h; exact ih P h
  | mark m k ih => intro H Q h; exact ih h
  | _ => intro H Q h; exact h.elim

theorem arun_of_astill {P : Program} {α : Type} (s : Sem α) : ∀ {H : Heap} {Q : α → Prop}, astill P s H Q → arun P s H (fun a H' => Q a ∧ H' = H) := by
  induction s with
  | pure a => intro H Q h; exact ⟨h, rfl⟩
  | load m a k ih => intro H Q h; obtain ⟨v, hc, h⟩ := h; exact ⟨v, hc, ih v h⟩
  | shape r k ih => intro H Q h; exact ⟨h.1, ih _ h.2⟩
  | frozen a k ih => intro H Q h; exact ⟨h.1, ih _ h.2⟩
  | getObj r k ih => intro H Q h; obtain ⟨o, h1, h2, h3⟩ := h; exact ⟨o, h1, h2, ih _ h3⟩
  | program k ih => intro H Q h; exact ih P h
  | mark m k ih => intro H Q h; exact ih h
  | _ => intro H Q h; exact h.elim

theorem astill_of_pure {P : Program} (s : Sem Next) : ∀ {v : Value} (H : Heap), pureRun P s = some v → astill P s H (fun n => nextL P n H v) := by
  induction s with
  | pure a => intro v H h; cases a <;> simp only [pureRun] at h <;> first | (cases h; done) | (cases h; rfl)
  | program k ih => intro v H h; exact ih P H h
  | mark m k ih => intro v H h; exact ih H h
  | _ => intro v H h; simp only [pureRun] at h; cases h

theorem arun_of_amade {P : Program} (s : Sem Next) : ∀ {v : Value} {H : Heap} {R : Value → Heap → Prop}, amade P s v → R v H → arun P s H (fun n H' => nextW P n H' R) := by
  induction s with
  | pure a => intro v H R h hR; cases a <;> simp only [amade] at h <;> first | exact h.elim | (subst h; exact hR)
  | program k ih => intro v H R h hR; exact ih P h hR
  | mark m k ih => intro v H R h hR; exact ih h hR
  | _ => intro v H R h; exact h.elim

theorem arun_of_amake {P : Program} (s : Sem Next) : ∀ {o : Obj} {val : Nat → Value} {H : Heap} {R : Value → Heap → Prop}, amake P s o val → (∀ b, H b = none → R (val b) (H.set b o)) →
    arun P s H (fun n H' => nextW P n H' R) := by
  induction s with
  | new o' k ih => intro o val H R h hR; obtain ⟨⟨rfl, hp⟩, h⟩ := h; exact ⟨hp, fun b hb => arun_of_amade _ (h b) (hR b hb)⟩
  | program k ih => intro o val H R h hR; exact ih P h hR
  | mark m k ih => intro o val H R h hR; exact ih h hR
  | _ => intro o val H R h; exact h.elim

theorem nextW_of_nextL {P : Program} {n : Next} {H : Heap} {v : Value} {R : Value → Heap → Prop} (h : nextL P n H v) (hR : R v H) : nextW P n H R := by
  cases n <;> simp only [nextL] at h <;> simp only [nextW] <;> first | exact h.elim | skip
  · subst h; exact hR
  · exact h.less fun u H' ⟨hu, hl⟩ => ⟨H, hl, by subst hu; exact hR⟩

/-! ### Makers -/

def Dead (P : Program) {α : Type} : Sem α → Prop
  | .program k => Dead P (k P)
  | .mark _ k => Dead P k
  | .choose _ k => ∀ n, Dead P (k n)
  | .halt _ => True
  | _ => False

def NoH (P : Program) {α : Type} : Sem α → Prop
  | .pure _ => True
  | .program k => NoH P (k P)
  | .mark _ k => NoH P k
  | .halt _ => True
  | _ => False

def Hl (P : Program) : Sem Next → Prop
  | .pure n => ∃ v, n = .value v
  | .program k => Hl P (k P)
  | .mark _ k => Hl P k
  | .choose _ k => ∀ n, Dead P (k n)
  | .halt _ => True
  | .new _ k => ∀ b, ∃ v, amade P (k b) v
  | _ => False

theorem dead_bind {P : Program} {α β : Type} (s : Sem α) (k : α → Sem β) : Dead P s → Dead P (s.bind k) := by
  induction s with
  | program j ih => intro h; exact ih P h
  | mark m j ih => intro h; exact ih h
  | choose q j ih => intro h n; exact ih n (h n)
  | halt x => intro _; trivial
  | _ => intro h; exact h.elim

theorem dead_hl {P : Program} (s : Sem Next) : Dead P s → Hl P s := by
  induction s with
  | program j ih => intro h; exact ih P h
  | mark m j ih => intro h; exact ih h
  | choose q j ih => intro h n; exact h n
  | halt x => intro _; trivial
  | _ => intro h; exact h.elim

theorem hl_bind {P : Program} {α : Type} (s : Sem α) (k : α → Sem Next) : NoH P s → (∀ a, Hl P (k a)) → Hl P (s.bind k) := by
  induction s with
  | pure a => intro _ hk; exact hk a
  | program j ih => intro h hk; exact ih P h hk
  | mark m j ih => intro h hk; exact ih h hk
  | halt x => intro _ _; trivial
  | _ => intro h; exact h.elim

theorem noh_bind {P : Program} {α β : Type} (s : Sem α) (k : α → Sem β) : NoH P s → (∀ a, NoH P (k a)) → NoH P (s.bind k) := by
  induction s with
  | pure a => intro _ hk; exact hk a
  | program j ih => intro h hk; exact ih P h hk
  | mark m j ih => intro h hk; exact ih h hk
  | halt x => intro _ _; trivial
  | _ => intro h; exact h.elim

theorem dead_run {P : Program} {α : Type} (s : Sem α) : ∀ {H : Heap} {Q : α → Heap → Prop}, Dead P s → ¬ arun P s H Q := by
  induction s with
  | program j ih => intro H Q h; exact ih P h
  | mark m j ih => intro H Q h; exact ih h
  | choose q j ih =>
    intro H Q h ha
    cases hq : q.forced with
    | true => exact ih _ (h _) (ha.1 hq)
    | false => exact ih _ (h _) (ha.2 hq 0)
  | halt x => intro H Q _ h; exact h
  | _ => intro H Q h; exact h.elim

theorem hl_form {P : Program} (s : Sem Next) : ∀ {H : Heap} {Q : Next → Heap → Prop}, Hl P s → arun P s H Q → (∃ v, amade P s v) ∨ ∃ o val, amake P s o val := by
  induction s with
  | pure a => intro H Q h _; obtain ⟨v, rfl⟩ := h; exact .inl ⟨v, rfl⟩
  | program j ih => intro H Q h ha; exact ih P h ha
  | mark m j ih => intro H Q h ha; exact ih h ha
  | choose q j ih =>
    intro H Q h ha
    exfalso
    cases hq : q.forced with
    | true => exact dead_run _ (h _) (ha.1 hq)
    | false => exact dead_run _ (h _) (ha.2 hq 0)
  | new o k ih => intro H Q h ha; exact .inr ⟨o, fun b => Classical.choose (h b), ⟨rfl, ha.1⟩, fun b => Classical.choose_spec (h b)⟩
  | halt x => intro H Q _ h; exact h.elim
  | _ => intro H Q h; exact h.elim

theorem amade_arun {P : Program} (s : Sem Next) : ∀ {v : Value} {H : Heap} {R : Value → Heap → Prop}, amade P s v → arun P s H (fun n H' => nextW P n H' R) → R v H := by
  induction s with
  | pure a => intro v H R h hR; cases a <;> simp only [amade] at h <;> first | exact h.elim | (subst h; exact hR)
  | program k ih => intro v H R h hR; exact ih P h hR
  | mark m k ih => intro v H R h hR; exact ih h hR
  | _ => intro v H R h; exact h.elim

theorem amake_arun {P : Program} (s : Sem Next) : ∀ {o : Obj} {val : Nat → Value} {H : Heap} {R : Value → Heap → Prop}, amake P s o val → arun P s H (fun n H' => nextW P n H' R) →
    ∀ b, H b = none → R (val b) (H.set b o) := by
  induction s with
  | new o' k ih => intro o val H R h hR b hb; obtain ⟨⟨rfl, _⟩, h⟩ := h; exact amade_arun _ (h b) (hR.2 b hb)
  | program k ih => intro o val H R h hR; exact ih P h hR
  | mark m k ih => intro o val H R h hR; exact ih h hR
  | _ => intro o val H R h; exact h.elim

theorem amake_nf {P : Program} (s : Sem Next) : ∀ {o : Obj} {val : Nat → Value}, amake P (nf P s) o val → amake P s o val := by
  have made : ∀ (s : Sem Next) {v : Value}, amade P (nf P s) v → amade P s v := by
    intro s
    induction s with
    | pure a => intro v h; exact h
    | program k ih => intro v h; exact ih P h
    | mark m k ih => intro v h; exact ih h
    | _ => intro v h; exact h.elim
  induction s with
  | new o' k ih => intro o val h; exact ⟨h.1, fun b => made _ (h.2 b)⟩
  | program k ih => intro o val h; exact ih P h
  | mark m k ih => intro o val h; exact ih h
  | _ => intro o val h; exact h.elim

theorem noh_typeInfo {P : Program} (t : TypeId) : NoH P (typeInfo t) := by
  show NoH P (match P.info? t with | some i => pure i | none => stuck "no such type" : Sem TypeInfo)
  split <;> trivial

theorem noh_underlying {P : Program} (t : TypeId) : NoH P (underlying t) := by
  show NoH P (match P.underlying t with | some d => pure d | none => stuck "no such type" : Sem TypeDesc)
  split <;> trivial

theorem noh_zeroValue {P : Program} (t : TypeId) : NoH P (zeroValue t) := by
  refine noh_bind _ _ (noh_typeInfo t) fun i => ?_
  split <;> trivial

theorem noh_sizeOf {P : Program} (t : TypeId) : NoH P (sizeOf t) := noh_bind _ _ (noh_typeInfo t) fun _ => trivial

theorem noh_asInt {P : Program} (v : Value) : NoH P (asInt v) := by
  refine noh_bind _ _ ?_ fun _ => trivial
  cases v <;> first | trivial | skip
  rename_i a
  cases a <;> trivial

theorem dead_error {P : Program} {α : Type} (m : String) : Dead P (runtimePanic (.error m) : Sem α) := trivial

/-- One operation, said of views. -/
def aStep (P : Program) (o : Oper) (a : Act) (H : Heap) (R : Value → Heap → Prop) : Prop := arun P (execOp a.eval o) H fun n H' => nextW P n H' R

theorem aStep_mono {P : Program} {o : Oper} {a : Act} {H : Heap} {R R' : Value → Heap → Prop} (h : aStep P o a H R) (hr : ∀ v H', R v H' → R' v H') : aStep P o a H R' :=
  arun_mono _ h fun _ _ hn => nextW_mono hn hr

theorem aStep_sound {w0 : World} {P : Program} {o : Oper} {a : Act} {H : Heap} {R : Value → Heap → Prop} {w : World} {N : Act → World → Prop} {Q : Exit → Act → World → Prop}
    (h : aStep P o a H R) (hw : Holds w0 w H) (hN : ∀ v w' H', Holds w0 w' H' → R v H' → N (a.put o.dst v) w') : o.wp P a w N Q := by
  obtain ⟨n, w1, H1, hr, hh, hn⟩ := arun_sound P _ _ _ _ hw h
  unfold Oper.wp
  rw [hr]
  cases n <;> simp only [nextW] at hn <;> simp only [Oper.upon] <;> first | exact hn.elim | skip
  case value v => exact hN _ _ _ hh hn
  case skip => exact hN _ _ _ hh hn
  case enter f args =>
    refine (hn w0 w1 hh).mono fun e w' ⟨v, H', he, hh', hv⟩ => ?_
    subst he
    exact hN _ _ _ hh' hv

section
variable {w0 : World} {P : Program} {cfg : Cfg}

theorem known_eval {o : Oper} {fr : Fr} {a : Act} (hf : Frok fr a) (hsel : Op.isSelect o.op = false) (hall : o.op.operands.all (fun x => (fr.eval x).isSome) = true) :
    execOp a.eval o = execOp fr.ev o := by
  refine execOp_congr o (notSelect hsel) fun x hx => ?_
  have := Array.all_eq_true_iff_forall_mem.1 hall x hx
  obtain ⟨v, hv⟩ := Option.isSome_iff_exists.1 this
  rw [hf.eval hv]; unfold Fr.ev; rw [hv]; rfl

theorem pick_pure {o : Oper} {a : Act} {c x y : Operand} {t : Bool} (hop : o.op = .pick c x y) (hc : a.eval c = .bool t) : pureRun P (execOp a.eval o) = some (if t then a.eval x else a.eval y) := by
  unfold execOp; rw [hop]; simp only [hc, asBool]; rfl

theorem goOp_abs {o : Oper} {fr : Fr} {K : Fr → Tree} {L : Hands} {H : Heap} {R : Value → Heap → Prop} {a : Act}
    (hf : Frok fr a) (h : wp P (goOp P cfg o fr K) L H R) : aStep P o a H fun v H' => wp P (K (fr.put o.dst v)) L H' R := by
  unfold aStep
  unfold goOp at h
  split at h
  · rename_i c x y hop
    split at h
    · rename_i t hc
      have hp := pick_pure (P := P) hop (hf.eval hc)
      refine arun_mono _ (arun_of_astill _ (astill_of_pure _ H hp)) fun n H' ⟨hn, hH⟩ => ?_
      subst hH
      refine nextW_of_nextL hn ?_
      cases t with
      | true =>
        simp only [cond_true] at h
        split at h
        · rename_i v hv; rw [if_pos rfl, hf.eval hv]; exact h
        · exact h.elim
      | false =>
        simp only [cond_false] at h
        split at h
        · rename_i v hv; simp only [Bool.false_eq_true, if_false]; rw [hf.eval hv]; exact h
        · exact h.elim
    · exact h.elim
  · rename_i op hop
    split at h
    · exact h.elim
    · rename_i hsel
      split at h
      · rename_i hall
        rw [known_eval hf (by simpa using hsel) hall]
        split at h
        · split at h
          · rename_i v hv
            refine arun_mono _ (arun_of_astill _ (astill_of_pure _ H hv)) fun n H' ⟨hn, hH⟩ => ?_
            subst hH
            exact nextW_of_nextL hn h
          · exact h.elim
        · obtain ⟨x, hx, h⟩ := h
          refine arun_mono _ (arun_of_astill _ (astill_nf _ hx)) fun n H' ⟨hn, hH⟩ => ?_
          subst hH
          exact nextW_of_nextL hn h
        · exact arun_mono _ (arun_nf _ h) fun n H' hn => nextW_mono hn fun v H'' ⟨x, hx, h⟩ => by subst hx; exact h
        · obtain ⟨ob, val, hm, h⟩ := h
          exact arun_nf _ (arun_of_amake _ hm fun b hb => by obtain ⟨x, hx, h⟩ := h b hb; rw [hx]; exact h)
      · exact h.elim

/-- An operation that only looks, or does not even that. -/
theorem goOp_still {o : Oper} {fr : Fr} {K : Fr → Tree} {L : Hands} {H : Heap} {R : Value → Heap → Prop} {a : Act}
    (hf : Frok fr a) (ht : tag P cfg o = 0 ∨ tag P cfg o = 1) (h : wp P (goOp P cfg o fr K) L H R) :
    ∃ v, astill P (execOp a.eval o) H (fun n => nextL P n H v) ∧ wp P (K (fr.put o.dst v)) L H R ∧
      (tag P cfg o = 0 → ∀ H', astill P (execOp a.eval o) H' (fun n => nextL P n H' v)) ∧ (tag P cfg o = 1 → execOp a.eval o = execOp fr.ev o) := by
  unfold goOp at h
  split at h
  · rename_i c x y hop
    split at h
    · rename_i t hc
      have hp := pick_pure (P := P) hop (hf.eval hc)
      refine ⟨_, astill_of_pure _ H hp, ?_, fun _ H' => astill_of_pure _ H' hp, fun h1 => by simp [tag, hop] at h1⟩
      cases t with
      | true =>
        simp only [cond_true] at h
        split at h
        · rename_i v hv; rw [if_pos rfl, hf.eval hv]; exact h
        · exact h.elim
      | false =>
        simp only [cond_false] at h
        split at h
        · rename_i v hv; simp only [Bool.false_eq_true, if_false]; rw [hf.eval hv]; exact h
        · exact h.elim
    · exact h.elim
  · rename_i op hop
    have htag : tag P cfg o = match kindOf P cfg o with | .pure => 0 | .look _ => 1 | _ => 2 := by
      unfold tag
      split
      · rename_i c x y h1; exact absurd h1 (hop c x y)
      · rfl
    split at h
    · exact h.elim
    · rename_i hsel
      split at h
      · rename_i hall
        have hex := known_eval hf (by simpa using hsel) hall
        split at h
        · split at h
          · rename_i hk _ v hv
            rw [hex]
            exact ⟨v, astill_of_pure _ H hv, h, fun _ H' => astill_of_pure _ H' hv, fun _ => rfl⟩
          · exact h.elim
        · rename_i sh hk
          obtain ⟨x, hx, h⟩ := h
          rw [hex]
          refine ⟨_, astill_nf _ hx, h, fun h0 => ?_, fun _ => rfl⟩
          rw [htag, hk] at h0; cases h0
        · rename_i sh hk; rw [htag, hk] at ht; rcases ht with ht | ht <;> cases ht
        · rename_i sh hk; rw [htag, hk] at ht; rcases ht with ht | ht <;> cases ht
      · exact h.elim

theorem goOp_make {o : Oper} {fr : Fr} {K : Fr → Tree} {L : Hands} {H : Heap} {R : Value → Heap → Prop} {a : Act}
    (hf : Frok fr a) (hk : isMakeKind P cfg o = true) (h : wp P (goOp P cfg o fr K) L H R) :
    ∃ ob val, amake P (execOp a.eval o) ob val ∧ ∀ b, H b = none → wp P (K (fr.put o.dst (val b))) L (H.set b ob) R := by
  unfold goOp at h
  split at h
  · rename_i c x y hop; simp [isMakeKind, hop] at hk
  · rename_i op hop
    split at h
    · exact h.elim
    · rename_i hsel
      split at h
      · rename_i hall
        have hex := known_eval hf (by simpa using hsel) hall
        have hk' : ∃ sh, kindOf P cfg o = .make sh := by
          unfold isMakeKind at hk
          split at hk
          · cases hk
          · split at hk
            · rename_i sh hs; exact ⟨sh, hs⟩
            · cases hk
        obtain ⟨sh, hs⟩ := hk'
        rw [hs] at h
        obtain ⟨ob, val, hm, h⟩ := h
        refine ⟨ob, val, by rw [hex]; exact amake_nf _ hm, fun b hb => ?_⟩
        obtain ⟨x, hx, h⟩ := h b hb
        rw [hx]; exact h
      · exact h.elim

theorem yielded_bool {ops : Array Oper} {j t : Nat} {a : Act} {b : Bool} (ht : (ops[j]?).bind (·.dst) = some t) (hv : a.tmps[t]? = some (.bool b)) : yielded ops a.tmps j = some b := by
  unfold yielded; rw [ht, Option.bind_some, hv]

theorem yielded_tuple {ops : Array Oper} {j t : Nat} {a : Act} {vs : Array Value} (ht : (ops[j]?).bind (·.dst) = some t) (hv : a.tmps[t]? = some (.tuple vs)) : yielded ops a.tmps j = none := by
  unfold yielded; rw [ht, Option.bind_some, hv]

/-- What comes of an operation with its guard: the frame in which it is carried out, or passed over. -/
theorem oneOp_cases {ops : Array Oper} {o : Oper} {fr : Fr} {K : Fr → Tree} {L : Hands} {H : Heap} {R : Value → Heap → Prop} {a : Act}
    (hf : Frok fr a) (h : wp P (oneOp P cfg ops o fr K) L H R) :
    (Region.wanted o (yielded ops a.tmps) = true ∧ ∃ fr1, Frok fr1 a ∧ wp P (goOp P cfg o fr1 K) L H R) ∨
    (Region.wanted o (yielded ops a.tmps) = false ∧ ∃ fr1, Frok fr1 (a.put o.dst undef) ∧ wp P (K fr1) L H R) := by
  unfold oneOp at h
  split at h
  · rename_i hg
    exact .inl ⟨by simp [Region.wanted, hg], fr, hf, h⟩
  · rename_i j want hg
    split at h
    · exact h.elim
    · rename_i t ht
      split at h
      · rename_i b hb
        have hy := yielded_bool ht (hf.get hb)
        have hwt : Region.wanted o (yielded ops a.tmps) = (b == want) := by
          simp only [Region.wanted, hg, hy]; cases b <;> cases want <;> rfl
        have hf' := hf.same hb
        cases b <;> cases want <;> simp only [cond_true, cond_false] at h <;> rw [hwt]
        · exact .inl ⟨rfl, _, hf', h⟩
        · exact .inr ⟨rfl, _, hf'.put _ _, h⟩
        · exact .inr ⟨rfl, _, hf'.put _ _, h⟩
        · exact .inl ⟨rfl, _, hf', h⟩
      · rename_i vs hb
        have hy := yielded_tuple ht (hf.get hb)
        have hwt : Region.wanted o (yielded ops a.tmps) = false := by
          simp only [Region.wanted, hg, hy]; cases want <;> rfl
        exact .inr ⟨hwt, _, hf.put _ _, h⟩
      · exact h.elim

theorem oneOp_abs {ops : Array Oper} {o : Oper} {fr : Fr} {K : Fr → Tree} {L : Hands} {H : Heap} {R : Value → Heap → Prop} {a : Act} {N : Act → Heap → Prop}
    (hf : Frok fr a) (h : wp P (oneOp P cfg ops o fr K) L H R)
    (hK : ∀ v fr' H', Frok fr' (a.put o.dst v) → wp P (K fr') L H' R → N (a.put o.dst v) H') :
    if Region.wanted o (yielded ops a.tmps) then aStep P o a H (fun v H' => N (a.put o.dst v) H') else N (a.put o.dst undef) H := by
  rcases oneOp_cases hf h with ⟨hwt, fr1, hf1, h1⟩ | ⟨hwt, fr1, hf1, h1⟩
  · rw [if_pos hwt]
    exact aStep_mono (goOp_abs hf1 h1) fun v H' hk => hK v _ H' (hf1.put _ _) hk
  · rw [if_neg (by rw [hwt]; decide)]
    exact hK _ _ _ hf1 h1

theorem oneOp_sound {ops : Array Oper} {o : Oper} {fr : Fr} {K : Fr → Tree} {L : Hands} {H : Heap} {R : Value → Heap → Prop} {a : Act} {w : World} {N : Act → World → Prop} {Q : Exit → Act → World → Prop}
    (hf : Frok fr a) (hw : Holds w0 w H) (h : wp P (oneOp P cfg ops o fr K) L H R)
    (hK : ∀ v fr' w' H', Frok fr' (a.put o.dst v) → Holds w0 w' H' → wp P (K fr') L H' R → N (a.put o.dst v) w') :
    if Region.wanted o (yielded ops a.tmps) then o.wp P a w N Q else N (a.put o.dst undef) w := by
  have h1 := oneOp_abs (N := fun a' H' => ∃ fr', Frok fr' a' ∧ wp P (K fr') L H' R) hf h fun v fr' H' hf' hk => ⟨fr', hf', hk⟩
  split
  · rename_i hwt
    rw [if_pos hwt] at h1
    exact aStep_sound h1 hw fun v w' H' hw' ⟨fr', hf', hk⟩ => hK v fr' w' H' hf' hw' hk
  · rename_i hwt
    rw [if_neg hwt] at h1
    obtain ⟨fr', hf', hk⟩ := h1
    exact hK _ fr' w H hf' hw hk

theorem opsTree_sound {ops : Array Oper} {K : Fr → Tree} {L : Hands} {R : Value → Heap → Prop} {Q : Exit → Act → World → Prop} : ∀ (l : List Oper) (fr : Fr) (H : Heap) (a : Act) (w : World),
    Frok fr a → a.defers = [] → Holds w0 w H → wp P (opsTree P cfg ops l fr K) L H R →
    (∀ fr' a' w' H', Frok fr' a' → a'.defers = [] → Holds w0 w' H' → Same (l.filterMap (·.dst)) a' a → wp P (K fr') L H' R → Q .normal a' w') →
    wpList P ops Q l a w
  | [], fr, H, a, w, hf, hd, hw, h, hK => hK fr a w H hf hd hw (Same.refl _ _) h
  | o :: l, fr, H, a, w, hf, hd, hw, h, hK => by
    have h1 := oneOp_sound (Q := Q) (N := wpList P ops Q l) hf hw h fun v fr' w' H' hf' hw' hk =>
      opsTree_sound l fr' H' _ w' hf' (by rw [put_defers]; exact hd) hw' hk fun fr2 a2 w2 H2 hf2 hd2 hw2 hs hk2 =>
        hK fr2 a2 w2 H2 hf2 hd2 hw2 ((hs.mono fun i hm => by
            rw [List.mem_filterMap] at hm ⊢
            obtain ⟨x, hx, hxi⟩ := hm
            exact ⟨x, List.mem_cons_of_mem _ hx, hxi⟩).trans
          ⟨put_size _ _ _, fun i hi => put_other fun e => hi (by rw [List.mem_filterMap]; exact ⟨o, List.mem_cons_self, e⟩)⟩) hk2
    unfold wpList
    split
    · rename_i hwt; rw [if_pos hwt] at h1; exact .inl h1
    · rename_i hwt; rw [if_neg hwt] at h1; exact h1

/-! ### Regions whose order is open -/

def aOp (P : Program) (ops : Array Oper) (i : Nat) (K : Act → Heap → Prop) (a : Act) (H : Heap) : Prop :=
  match ops[i]? with
  | none => K a H
  | some o => if Region.wanted o (yielded ops a.tmps) then aStep P o a H (fun v H' => K (a.put o.dst v) H') else K (a.put o.dst undef) H

structure Pd where
  i : Nat
  St : Heap → Prop

def Pd.after (ops : Array Oper) (j : Nat) (l : List Pd) : List Pd := l.filter fun p => !reach ops ops.size j p.i

def Fin (H : Heap) : Prop := ∃ N, ∀ b, N ≤ b → H b = none

theorem Holds.fin {w0 w : World} {H : Heap} (h : Holds w0 w H) : Fin H := ⟨w.heap.size, fun b hb => by
  cases hH : H b with
  | none => rfl
  | some o => have := h.blk _ _ hH; rw [Array.getElem?_eq_none hb] at this; cases this⟩

theorem Fin.set {H : Heap} (h : Fin H) (b : Nat) (o : Obj) : Fin (H.set b o) := by
  obtain ⟨N, hN⟩ := h
  refine ⟨max N (b + 1), fun c hc => ?_⟩
  unfold Heap.set
  rw [if_neg (by omega)]
  exact hN c (by omega)

/-- Whatever order is taken from here on; what was looked at ahead of its turn stays as it was. -/
def dwp (P : Program) (ops : Array Oper) (Q : Act → Heap → Prop) : Nat → Array Bool → List Pd → Act → Heap → Prop
  | 0, listed, _, a, H => Region.ready .any ops listed = [] ∧ Q a H
  | f + 1, listed, pend, a, H => Fin H → (Region.ready .any ops listed = [] → Q a H) ∧ ∀ i ∈ Region.ready .any ops listed,
      aOp P ops i (fun a' H' => (∀ p ∈ Pd.after ops i pend, p.St H') ∧ dwp P ops Q f (listed.setIfInBounds i true) (Pd.after ops i pend) a' H') a H

theorem aOp_mono {ops : Array Oper} {i : Nat} {K K' : Act → Heap → Prop} {a : Act} {H : Heap} (h : aOp P ops i K a H) (hk : ∀ a H, K a H → K' a H) : aOp P ops i K' a H := by
  unfold aOp at *
  split
  · rename_i ho; simp only [ho] at h; exact hk _ _ h
  · rename_i o ho
    simp only [ho] at h
    split
    · rename_i hw; rw [if_pos hw] at h; exact aStep_mono h fun _ _ => hk _ _
    · rename_i hw; rw [if_neg hw] at h; exact hk _ _ h

theorem aOp_sound {ops : Array Oper} {i : Nat} {K : Act → Heap → Prop} {a : Act} {H : Heap} {w : World} {N : Act → World → Prop} {Q : Exit → Act → World → Prop} (h : aOp P ops i K a H) (hw : Holds w0 w H)
    (hk : ∀ a w H, Holds w0 w H → K a H → N a w) : wpOp P ops Q i N a w := by
  unfold aOp at h
  unfold wpOp
  split at h
  · rename_i ho; simp only [ho]; exact hk _ _ _ hw h
  · rename_i o ho
    simp only [ho]
    split at h
    · rename_i hwt; rw [if_pos hwt]; exact .inl (aStep_sound h hw fun v w' H' hw' hk' => hk _ _ _ hw' hk')
    · rename_i hwt; rw [if_neg hwt]; exact hk _ _ _ hw h

theorem dwp_sound {ops : Array Oper} {QA : Act → Heap → Prop} {Q : Exit → Act → World → Prop} (hQ : ∀ a w H, Holds w0 w H → QA a H → Q .normal a w) : ∀ (f : Nat) (listed : Array Bool) (pend : List Pd) (a : Act) (H : Heap) (w : World),
    dwp P ops QA f listed pend a H → Holds w0 w H → wpAny P .any ops Q f listed a w
  | 0, _, _, _, _, _, h, hw => ⟨h.1, hQ _ _ _ hw h.2⟩
  | f + 1, _, _, _, _, _, h, hw => ⟨fun h0 => hQ _ _ _ hw ((h hw.fin).1 h0), fun i hi => aOp_sound ((h hw.fin).2 i hi) hw fun a' w' H' hw' hk => dwp_sound hQ f _ _ a' H' w' hk.2 hw'⟩

theorem dwp_mono {ops : Array Oper} {QA : Act → Heap → Prop} : ∀ (f : Nat) (listed : Array Bool) (pend pend' : List Pd) (a : Act) (H : Heap), (∀ p ∈ pend', p ∈ pend) →
    dwp P ops QA f listed pend a H → dwp P ops QA f listed pend' a H
  | 0, _, _, _, _, _, _, h => h
  | f + 1, listed, pend, pend', a, H, hs, h => by
    have hs' : ∀ i, ∀ p ∈ Pd.after ops i pend', p ∈ Pd.after ops i pend := fun i p hp => by
      unfold Pd.after at *; rw [List.mem_filter] at *; exact ⟨hs p hp.1, hp.2⟩
    exact fun hF => ⟨(h hF).1, fun i hi => aOp_mono ((h hF).2 i hi) fun a' H' hk => ⟨fun p hp => hk.1 p (hs' i p hp), dwp_mono f _ _ _ a' H' (hs' i) hk.2⟩⟩

theorem dwp_true {ops : Array Oper} {QA : Act → Heap → Prop} (k : Nat) : ∀ (f : Nat) (listed : Array Bool) (pend : List Pd) (a : Act) (H : Heap),
    dwp P ops QA f listed pend a H → dwp P ops QA f listed (⟨k, fun _ => True⟩ :: pend) a H
  | 0, _, _, _, _, h => h
  | f + 1, listed, pend, a, H, h => by
    refine fun hF => ⟨(h hF).1, fun i hi => aOp_mono ((h hF).2 i hi) fun a' H' hk => ?_⟩
    by_cases hr : reach ops ops.size i k = true
    · have e : Pd.after ops i (⟨k, fun _ => True⟩ :: pend) = Pd.after ops i pend := by unfold Pd.after; rw [List.filter_cons_of_neg (by simp [hr])]
      rw [e]; exact hk
    · have e : Pd.after ops i (⟨k, fun _ => True⟩ :: pend) = ⟨k, fun _ => True⟩ :: Pd.after ops i pend := by unfold Pd.after; rw [List.filter_cons_of_pos (by simp [hr])]
      rw [e]
      refine ⟨fun p hp => ?_, dwp_true k f _ _ a' H' hk.2⟩
      rcases List.mem_cons.1 hp with h1 | h1
      · rw [h1]; trivial
      · exact hk.1 p h1

def Closed (ops : Array Oper) (listed : Array Bool) : Prop :=
  ∀ j oj, ops[j]? = some oj → listed.getD j false = true → ∀ e ∈ oj.after, Region.binds .any e = true → listed.getD e.on false = true

theorem Closed.set {ops : Array Oper} {listed : Array Bool} {i : Nat} (h : Closed ops listed) (hi : i ∈ Region.ready .any ops listed) : Closed ops (listed.setIfInBounds i true) := by
  intro j oj hj hl e he hb
  obtain ⟨_, oi, hoi, hall⟩ := mem_ready.1 hi
  by_cases hij : i = j
  · subst hij
    have : oj = oi := Option.some.inj (hj.symm.trans hoi)
    subst this
    exact getD_set_true (hall e he hb)
  · rw [getD_set_ne false hij] at hl
    exact getD_set_true (h j oj hj hl e he hb)

theorem behind_listed {ops : Array Oper} {listed : Array Bool} (h : Closed ops listed) {j : Nat} (hl : listed.getD j false = true) : ∀ x ∈ behind ops j, listed.getD x false = true := by
  intro x hx
  unfold behind at hx
  split at hx
  · rename_i o ho
    obtain ⟨e, he, rfl⟩ := List.mem_map.1 hx
    obtain ⟨h1, h2⟩ := List.mem_filter.1 he
    exact h j o ho hl e (Array.mem_toList_iff.1 h1) h2
  · cases hx

theorem ancs_listed {ops : Array Oper} {listed : Array Bool} (h : Closed ops listed) : ∀ (f : Nat) (w seen : List Nat), (∀ x ∈ w, listed.getD x false = true) → (∀ x ∈ seen, listed.getD x false = true) → ∀ x ∈ ancs ops f w seen, listed.getD x false = true
  | 0, _, _, _, hs, x, hx => hs x hx
  | _ + 1, [], _, _, hs, x, hx => hs x hx
  | f + 1, y :: w, seen, hw, hs, x, hx => by
    unfold ancs at hx
    cases hc : seen.any (Nat.beq y) with
    | true =>
      rw [hc] at hx
      exact ancs_listed h f w seen (fun z hz => hw z (List.mem_cons_of_mem _ hz)) hs x hx
    | false =>
      rw [hc] at hx
      refine ancs_listed h f _ _ (fun z hz => ?_) (fun z hz => ?_) x hx
      · rcases List.mem_append.1 hz with hz | hz
        · exact behind_listed h (hw y List.mem_cons_self) z hz
        · exact hw z (List.mem_cons_of_mem _ hz)
      · rcases List.mem_cons.1 hz with rfl | hz
        · exact hw _ List.mem_cons_self
        · exact hs z hz

theorem reach_ready {ops : Array Oper} {listed : Array Bool} (h : Closed ops listed) {j i : Nat} (hj : j ∈ Region.ready .any ops listed) (f : Nat) (hr : reach ops f j i = true) : listed.getD i false = true := by
  obtain ⟨_, oj, hoj, hall⟩ := mem_ready.1 hj
  unfold reach at hr
  obtain ⟨x, hx, hb⟩ := List.any_eq_true.1 hr
  have e := Nat.eq_of_beq_eq_true hb
  subst e
  refine ancs_listed h _ _ _ (fun z hz => ?_) (fun z hz => by cases hz) _ hx
  unfold behind at hz
  rw [hoj] at hz
  obtain ⟨e, he, rfl⟩ := List.mem_map.1 hz
  obtain ⟨h1, h2⟩ := List.mem_filter.1 he
  exact hall e (Array.mem_toList_iff.1 h1) h2

theorem getD_false_of_true {listed : Array Bool} {i : Nat} (h : listed.getD i true = false) : listed.getD i false = false := by
  rcases Nat.lt_or_ge i listed.size with h' | h'
  · simp [h'] at h ⊢; exact h
  · simp [Array.getElem?_eq_none h'] at h

/-- In frame a operation o yields v wherever St, and turns nothing. -/
def StillIn (P : Program) (ops : Array Oper) (o : Oper) (v : Value) (St : Heap → Prop) (a : Act) : Prop :=
  (Region.wanted o (yielded ops a.tmps) = true ∧ ∀ H, St H → astill P (execOp a.eval o) H (fun n => nextL P n H v)) ∨ (Region.wanted o (yielded ops a.tmps) = false ∧ v = undef)

theorem StillIn.put {ops : Array Oper} {oi oj : Oper} {v : Value} {St : Heap → Prop} {a : Act} (h : StillIn P ops oi v St a) (hsi : ∀ cs b, oi.op ≠ .select cs b)
    (h3 : ∀ d, oj.dst = some d → d ∉ oi.looksAt ops) (u : Value) : StillIn P ops oi v St (a.put oj.dst u) := by
  unfold StillIn at *
  rw [execOp_put oi hsi a oj.dst u h3, wanted_put oi a oj.dst u h3]
  exact h

theorem StillIn.aOp {ops : Array Oper} {i : Nat} {oi : Oper} {v : Value} {St : Heap → Prop} {a : Act} {H : Heap} {K : Act → Heap → Prop} (hi : ops[i]? = some oi) (hs : StillIn P ops oi v St a) (hSt : St H)
    (h : K (a.put oi.dst v) H) : Go.Fw.aOp P ops i K a H := by
  unfold Go.Fw.aOp
  simp only [hi]
  rcases hs with ⟨hw, hv⟩ | ⟨hw, rfl⟩
  · rw [if_pos hw]
    refine arun_mono _ (arun_of_astill _ (hv H hSt)) fun n H' ⟨hn, hH⟩ => ?_
    subst hH
    exact nextW_of_nextL hn h
  · rw [if_neg (by rw [hw]; decide)]; exact h

theorem aOp_put {ops : Array Oper} {j : Nat} {oi oj : Oper} {v : Value} (hj : ops[j]? = some oj) (hap : oi.apart ops oj = true) (hsi : ∀ cs b, oi.op ≠ .select cs b) (hsj : ∀ cs b, oj.op ≠ .select cs b)
    {K : Act → Heap → Prop} {a : Act} {H : Heap} {St : Heap → Prop} (hy : StillIn P ops oi v St a) (h : aOp P ops j K (a.put oi.dst v) H) :
    aOp P ops j (fun a' H' => StillIn P ops oi v St a' ∧ K (a'.put oi.dst v) H') a H := by
  obtain ⟨h1, h2, h3⟩ := Oper.apart_spec hap
  unfold aOp at *
  simp only [hj] at *
  rw [wanted_put oj a oi.dst v h1] at h
  split
  · rename_i hw
    rw [if_pos hw] at h
    unfold aStep at *
    rw [execOp_put oj hsj a oi.dst v h1] at h
    exact arun_mono _ h fun n H' hn => nextW_mono hn fun u H'' hk => ⟨hy.put hsi h3 u, by rw [← Act.put_comm a v u h2]; exact hk⟩
  · rename_i hw
    rw [if_neg hw] at h
    exact ⟨hy.put hsi h3 _, by rw [← Act.put_comm a v undef h2]; exact h⟩

theorem dwp_take {ops : Array Oper} {QA : Act → Heap → Prop} {i : Nat} {oi : Oper} {v : Value} {St : Heap → Prop} (hi : ops[i]? = some oi) (hsel : ∀ (j : Nat) (o : Oper) cs b, ops[j]? = some o → o.op ≠ .select cs b) :
    ∀ (f : Nat) (listed : Array Bool) (pend : List Pd) (a : Act) (H : Heap), Closed ops listed →
      (∀ j oj, ops[j]? = some oj → j ≠ i → listed.getD j true = false → (∀ e ∈ oj.after, Region.binds .any e = true → e.on ≠ i) → oi.apart ops oj = true) →
      i ∈ Region.ready .any ops listed → StillIn P ops oi v St a → St H → (∀ p ∈ pend, p.St H) →
      dwp P ops QA f (listed.setIfInBounds i true) (⟨i, St⟩ :: pend) (a.put oi.dst v) H → dwp P ops QA (f + 1) listed pend a H := by
  intro f
  induction f with
  | zero =>
    intro listed pend a H _ _ hr hy hSt hp h
    refine fun _ => ⟨fun e => (by rw [e] at hr; cases hr), fun j hj => ?_⟩
    by_cases hji : j = i
    · subst hji
      exact hy.aOp hi hSt ⟨fun p hm => hp p (List.mem_filter.1 hm).1, h.1, h.2⟩
    · have := ready_mono hj hji
      rw [h.1] at this; cases this
  | succ f ih =>
    intro listed pend a H hc hfree hr hy hSt hp h
    refine fun hF => ⟨fun e => (by rw [e] at hr; cases hr), fun j hj => ?_⟩
    by_cases hji : j = i
    · subst hji
      refine hy.aOp hi hSt ⟨fun p hm => hp p (List.mem_filter.1 hm).1, dwp_mono _ _ _ _ _ _ (fun p hm => List.mem_cons_of_mem _ (List.mem_filter.1 hm).1) h⟩
    · have h1 := (h hF).2 j (ready_mono hj hji)
      obtain ⟨hjun, oj, hoj, hall⟩ := mem_ready.1 hj
      have hiun : listed.getD i false = false := getD_false_of_true (mem_ready.1 hr).1
      have hnr : reach ops ops.size j i = false := by
        cases hx : reach ops ops.size j i with
        | false => rfl
        | true => have := reach_ready hc hj _ hx; rw [hiun] at this; cases this
      have hnot : ∀ e ∈ oj.after, Region.binds .any e = true → e.on ≠ i := fun e he hb heq => by
        have h1 := hall e he hb
        rw [heq, hiun] at h1; cases h1
      have h2 := aOp_put hoj (hfree j oj hoj hji hjun hnot) (fun cs b => hsel i oi cs b hi) (fun cs b => hsel j oj cs b hoj) hy h1
      have hfree' : ∀ k ok, ops[k]? = some ok → k ≠ i → (listed.setIfInBounds j true).getD k true = false →
          (∀ e ∈ ok.after, Region.binds .any e = true → e.on ≠ i) → oi.apart ops ok = true := fun k ok hk hki hun hno => by
        refine hfree k ok hk hki ?_ hno
        by_cases hjk : j = k
        · subst hjk; exact hjun
        · rw [getD_set_ne true hjk] at hun; exact hun
      have e1 : Pd.after ops j (⟨i, St⟩ :: pend) = ⟨i, St⟩ :: Pd.after ops j pend := by unfold Pd.after; rw [List.filter_cons_of_pos (by simp [hnr])]
      rw [e1] at h2
      refine aOp_mono h2 fun a' H' ⟨hy', hob, h3⟩ => ⟨fun p hm => hob p (List.mem_cons_of_mem _ hm), ?_⟩
      refine ih (listed.setIfInBounds j true) (Pd.after ops j pend) a' H' (hc.set hj) hfree' (ready_mono hr (Ne.symm hji)) hy' (hob ⟨i, St⟩ List.mem_cons_self) (fun p hm => hob p (List.mem_cons_of_mem _ hm)) ?_
      rw [Array.setIfInBounds_comm _ _ hji]
      exact h3

theorem dwp_take_pure {ops : Array Oper} {QA : Act → Heap → Prop} {i : Nat} {oi : Oper} {v : Value} (hi : ops[i]? = some oi) (hsel : ∀ (j : Nat) (o : Oper) cs b, ops[j]? = some o → o.op ≠ .select cs b)
    (f : Nat) (listed : Array Bool) (pend : List Pd) (a : Act) (H : Heap) (hc : Closed ops listed) (hfree : Region.free .any ops listed i = true)
    (hr : i ∈ Region.ready .any ops listed) (hy : StillIn P ops oi v (fun _ => True) a) (hp : ∀ p ∈ pend, p.St H)
    (h : dwp P ops QA f (listed.setIfInBounds i true) pend (a.put oi.dst v) H) : dwp P ops QA (f + 1) listed pend a H :=
  dwp_take hi hsel f listed pend a H hc (Region.free_spec hi hfree) hr hy trivial hp (dwp_true i f _ _ _ _ h)

def madeA (P : Program) {α : Type} : Sem α → α → Prop
  | .pure u, v => u = v
  | .program k, v => madeA P (k P) v
  | .mark _ k, v => madeA P k v
  | _, _ => False

def HlA (P : Program) {α : Type} : Sem α → Prop
  | .pure _ => True
  | .program k => HlA P (k P)
  | .mark _ k => HlA P k
  | .choose _ k => ∀ n, Dead P (k n)
  | .halt _ => True
  | .new _ k => ∀ b, ∃ v, madeA P (k b) v
  | _ => False

theorem madeA_value {P : Program} (s : Sem Value) : ∀ {v : Value}, madeA P s v → amade P (s.bind fun x => Sem.pure (Next.value x)) v := by
  induction s with
  | pure a => intro v h; exact h
  | program k ih => intro v h; exact ih P h
  | mark m k ih => intro v h; exact ih h
  | _ => intro v h; exact h.elim

theorem hlA_value {P : Program} (s : Sem Value) : HlA P s → Hl P (s.bind fun x => Sem.pure (Next.value x)) := by
  induction s with
  | pure a => intro _; exact ⟨a, rfl⟩
  | program k ih => intro h; exact ih P h
  | mark m k ih => intro h; exact ih h
  | choose q k ih => intro h n; exact dead_bind _ _ (h n)
  | halt x => intro _; trivial
  | new o k ih => intro h b; obtain ⟨v, hv⟩ := h b; exact ⟨v, madeA_value _ hv⟩
  | _ => intro h; exact h.elim

theorem hlA_bind {P : Program} {α β : Type} (s : Sem α) (k : α → Sem β) : NoH P s → (∀ a, HlA P (k a)) → HlA P (s.bind k) := by
  induction s with
  | pure a => intro _ hk; exact hk a
  | program j ih => intro h hk; exact ih P h hk
  | mark m j ih => intro h hk; exact ih h hk
  | halt x => intro _ _; trivial
  | _ => intro h; exact h.elim

theorem dead_hlA {P : Program} {α : Type} (s : Sem α) : Dead P s → HlA P s := by
  induction s with
  | program j ih => intro h; exact ih P h
  | mark m j ih => intro h; exact ih h
  | choose q j ih => intro h n; exact h n
  | halt x => intro _; trivial
  | _ => intro h; exact h.elim

theorem noh_askRoom {P : Program} (n : Nat) : NoH P (askRoom n) := by
  unfold askRoom; split <;> trivial

theorem makeSlice_hlA {P : Program} (t : TypeId) (l c : Value) : HlA P (Instr.makeSlice t l c) := by
  unfold Instr.makeSlice
  refine hlA_bind _ _ (noh_underlying t) fun d => ?_
  split
  · refine hlA_bind _ _ (noh_asInt _) fun len => ?_
    refine hlA_bind _ _ (noh_asInt _) fun cap => ?_
    refine hlA_bind _ _ (noh_typeInfo _) fun i => ?_
    dsimp only
    split
    · split
      · exact dead_hlA _ (dead_bind _ _ (dead_error _))
      · split
        · exact dead_hlA _ (dead_bind _ _ (dead_error _))
        · exact dead_hlA _ (fun n => by first | exact dead_error _ | exact dead_bind _ _ (dead_error _))
    · refine hlA_bind _ _ (noh_askRoom _) fun _ => ?_
      refine hlA_bind _ _ (noh_sizeOf _) fun sz => ?_
      split
      · exact fun b => ⟨_, rfl⟩
      · refine hlA_bind _ _ ?_ fun z => ?_
        · exact noh_zeroValue _
        · exact fun b => ⟨_, rfl⟩
  · trivial

theorem makerOp_hl {P : Program} {o : Oper} (ρ : Operand → Value) (h : makerOp o = true) : Hl P (execOp ρ o) := by
  unfold makerOp at h
  simp only [Bool.and_eq_true] at h
  obtain ⟨_, h⟩ := h
  split at h <;> try cases h
  all_goals rename_i hop
  all_goals unfold execOp
  all_goals rw [hop]
  · exact ⟨_, rfl⟩
  · exact ⟨_, rfl⟩
  · exact fun b => ⟨_, rfl⟩
  · exact fun b => ⟨_, rfl⟩
  · rename_i t l c
    show Hl P ((Instr.makeSlice t (ρ l) (ρ c)).bind fun x => Sem.pure (Next.value x))
    exact hlA_value _ (makeSlice_hlA t _ _)

theorem dwp_make {ops : Array Oper} {QA : Act → Heap → Prop} {i : Nat} {oi : Oper} {ob : Obj} {val : Nat → Value} (hi : ops[i]? = some oi) (hsel : ∀ (j : Nat) (o : Oper) cs b, ops[j]? = some o → o.op ≠ .select cs b) (hg : oi.guard = none) :
    ∀ (f : Nat) (listed : Array Bool) (pend : List Pd) (a : Act) (H : Heap), Closed ops listed →
      (∀ j oj, ops[j]? = some oj → j ≠ i → listed.getD j true = false → (∀ e ∈ oj.after, Region.binds .any e = true → e.on ≠ i) → oi.apart ops oj = true) →
      i ∈ Region.ready .any ops listed → amake P (execOp a.eval oi) ob val →
      (∀ p ∈ pend, reach ops ops.size i p.i = true) →
      (∀ j oj, ops[j]? = some oj → j ≠ i → listed.getD j true = false → reach ops ops.size j i = false → makerOp oj = true ∧ ∀ p ∈ pend, reach ops ops.size j p.i = true) →
      (∀ b, H b = none → dwp P ops QA f (listed.setIfInBounds i true) [] (a.put oi.dst (val b)) (H.set b ob)) → dwp P ops QA (f + 1) listed pend a H := by
  have nil_after : ∀ (j : Nat) (pend : List Pd), (∀ p ∈ pend, reach ops ops.size j p.i = true) → Pd.after ops j pend = [] := fun j pend h => by
    unfold Pd.after; rw [List.filter_eq_nil_iff]; intro p hp; simp [h p hp]
  have first : ∀ (f : Nat) (listed : Array Bool) (pend : List Pd) (a : Act) (H : Heap), amake P (execOp a.eval oi) ob val → (∀ p ∈ pend, reach ops ops.size i p.i = true) →
      (∀ b, H b = none → dwp P ops QA f (listed.setIfInBounds i true) [] (a.put oi.dst (val b)) (H.set b ob)) →
      aOp P ops i (fun a' H' => (∀ p ∈ Pd.after ops i pend, p.St H') ∧ dwp P ops QA f (listed.setIfInBounds i true) (Pd.after ops i pend) a' H') a H := fun f listed pend a H hm hp h => by
    unfold aOp
    simp only [hi]
    rw [if_pos (by simp [Region.wanted, hg])]
    rw [nil_after i pend hp]
    exact arun_of_amake _ hm fun b hb => ⟨fun p hp' => by (cases hp'), h b hb⟩
  intro f
  induction f with
  | zero =>
    intro listed pend a H _ _ hr hm hp _ h
    refine fun hF => ⟨fun e => (by rw [e] at hr; cases hr), fun j hj => ?_⟩
    by_cases hji : j = i
    · subst hji; exact first 0 listed pend a H hm hp h
    · have := ready_mono hj hji
      obtain ⟨N, hN⟩ := hF
      rw [(h N (hN N (Nat.le_refl _))).1] at this; cases this
  | succ f ih =>
    intro listed pend a H hc hfree hr hm hp hhl h
    refine fun hF => ⟨fun e => (by rw [e] at hr; cases hr), fun j hj => ?_⟩
    by_cases hji : j = i
    · subst hji; exact first (f + 1) listed pend a H hm hp h
    · obtain ⟨hjun, oj, hoj, hall⟩ := mem_ready.1 hj
      have hiun : listed.getD i false = false := getD_false_of_true (mem_ready.1 hr).1
      have hnr : reach ops ops.size j i = false := by
        cases hx : reach ops ops.size j i with
        | false => rfl
        | true => have := reach_ready hc hj _ hx; rw [hiun] at this; cases this
      obtain ⟨hmk, hpj⟩ := hhl j oj hoj hji hjun hnr
      have hgj : oj.guard = none := by
        unfold makerOp at hmk
        simp only [Bool.and_eq_true, Option.isNone_iff_eq_none] at hmk
        exact hmk.1
      have hnot : ∀ e ∈ oj.after, Region.binds .any e = true → e.on ≠ i := fun e he hb heq => by
        have h1 := hall e he hb
        rw [heq, hiun] at h1; cases h1
      have hap := hfree j oj hoj hji hjun hnot
      obtain ⟨h1, h2, h3⟩ := Oper.apart_spec hap
      have hnil := nil_after j pend hpj
      have run : ∀ b, H b = none → aStep P oj a (H.set b ob) (fun v H' => dwp P ops QA f ((listed.setIfInBounds i true).setIfInBounds j true) [] ((a.put oi.dst (val b)).put oj.dst v) H') := fun b hb => by
        have hx := (h b hb (hF.set b ob)).2 j (ready_mono hj hji)
        unfold aOp at hx
        simp only [hoj] at hx
        rw [if_pos (by simp [Region.wanted, hgj])] at hx
        unfold aStep at hx ⊢
        rw [execOp_put oj (fun cs b => hsel j oj cs b hoj) a oi.dst (val b) h1] at hx
        exact arun_mono _ hx fun n H' hn => nextW_mono hn fun v H'' hk => hk.2
      have hfree' : ∀ k ok, ops[k]? = some ok → k ≠ i → (listed.setIfInBounds j true).getD k true = false →
          (∀ e ∈ ok.after, Region.binds .any e = true → e.on ≠ i) → oi.apart ops ok = true := fun k ok hk hki hun hno => by
        refine hfree k ok hk hki ?_ hno
        by_cases hjk : j = k
        · subst hjk; exact hjun
        · rw [getD_set_ne true hjk] at hun; exact hun
      have hhl' : ∀ k ok, ops[k]? = some ok → k ≠ i → (listed.setIfInBounds j true).getD k true = false → reach ops ops.size k i = false → makerOp ok = true ∧ ∀ p ∈ ([] : List Pd), reach ops ops.size k p.i = true := fun k ok hk hki hun hnr' => by
        refine ⟨(hhl k ok hk hki ?_ hnr').1, fun p hp => by cases hp⟩
        by_cases hjk : j = k
        · subst hjk; exact hjun
        · rw [getD_set_ne true hjk] at hun; exact hun
      have hm' : ∀ u, amake P (execOp (a.put oj.dst u).eval oi) ob val := fun u => by rw [execOp_put oi (fun cs b => hsel i oi cs b hi) a oj.dst u h3]; exact hm
      obtain ⟨N, hN⟩ := hF
      have hform := hl_form _ (makerOp_hl (P := P) a.eval hmk) (run N (hN N (Nat.le_refl _)))
      have goal : aStep P oj a H (fun v H' => (∀ p ∈ Pd.after ops j pend, p.St H') ∧ dwp P ops QA (f + 1) (listed.setIfInBounds j true) (Pd.after ops j pend) (a.put oj.dst v) H') := by
        rw [hnil]
        rcases hform with ⟨v, hv⟩ | ⟨oo, vv, hv⟩
        · refine arun_of_amade _ hv ⟨fun p hp => by (cases hp), ?_⟩
          refine ih (listed.setIfInBounds j true) [] (a.put oj.dst v) H (hc.set hj) hfree' (ready_mono hr (Ne.symm hji)) (hm' v) (fun p hp => by cases hp) hhl' fun b hb => ?_
          have := amade_arun _ hv (run b hb)
          rw [Array.setIfInBounds_comm _ _ hji, ← Act.put_comm a (val b) v h2]
          exact this
        · refine arun_of_amake _ hv fun bj hbj => ⟨fun p hp => by (cases hp), ?_⟩
          refine ih (listed.setIfInBounds j true) [] (a.put oj.dst (vv bj)) (H.set bj oo) (hc.set hj) hfree' (ready_mono hr (Ne.symm hji)) (hm' _) (fun p hp => by cases hp) hhl' fun b hb => ?_
          have hne : b ≠ bj := fun e => by subst e; simp [Heap.set] at hb
          have hb' : H b = none := by unfold Heap.set at hb; rwa [if_neg hne] at hb
          have hbj' : (H.set b ob) bj = none := by unfold Heap.set; rw [if_neg (fun e => hne e.symm)]; exact hbj
          have := amake_arun _ hv (run b hb') bj hbj'
          have hcomm : (H.set bj oo).set b ob = (H.set b ob).set bj oo := by
            funext c
            unfold Heap.set
            by_cases h1 : c = b
            · rw [if_pos h1, if_neg (fun e => hne (h1.symm.trans e)), if_pos h1]
            · rw [if_neg h1, if_neg h1]
          rw [Array.setIfInBounds_comm _ _ hji, ← Act.put_comm a (val b) (vv bj) h2, hcomm]
          exact this
      unfold aOp
      simp only [hoj]
      rw [if_pos (by simp [Region.wanted, hgj])]
      exact goal

def pdOf (P : Program) (p : Pend) : Pd := ⟨p.i, fun H => astill P p.s H (fun n => nextL P n H p.v)⟩

theorem after_map (ops : Array Oper) (j : Nat) (l : List Pend) : Pd.after ops j (l.map (pdOf P)) = (Pend.after ops j l).map (pdOf P) := by
  unfold Pd.after Pend.after
  rw [List.filter_map]
  rfl

theorem checks_wp {L : Hands} {H : Heap} {R : Value → Heap → Prop} {t : Tree} : ∀ {l : List Pend}, wp P (checks l t) L H R → (∀ p ∈ l.map (pdOf P), p.St H) ∧ wp P t L H R
  | [], h => ⟨fun p hp => by simp at hp, h⟩
  | p :: l, h => by
    obtain ⟨h1, h2⟩ := h
    obtain ⟨h3, h4⟩ := checks_wp h2
    refine ⟨fun q hq => ?_, h4⟩
    rcases List.mem_cons.1 hq with e | e
    · rw [e]; exact h1
    · exact h3 q e

theorem findReady_spec {ops : Array Oper} {listed : Array Bool} {k i : Nat} : ∀ {l : List Nat}, findReady P cfg ops listed k l = some i → i ∈ l ∧ ∃ o, ops[i]? = some o ∧ tag P cfg o = k ∧ Region.free .any ops listed i = true
  | [], h => by simp [findReady] at h
  | j :: l, h => by
    unfold findReady at h
    split at h
    · rename_i o ho
      split at h
      · rename_i hc
        simp only [Bool.and_eq_true, beq_iff_eq] at hc
        simp only [Option.some.injEq] at h
        subst h
        exact ⟨List.mem_cons_self, o, ho, hc.1, hc.2⟩
      · obtain ⟨h1, h2⟩ := findReady_spec h; exact ⟨List.mem_cons_of_mem _ h1, h2⟩
    · obtain ⟨h1, h2⟩ := findReady_spec h; exact ⟨List.mem_cons_of_mem _ h1, h2⟩

theorem bothAll_wp {L : Hands} {H : Heap} {R : Value → Heap → Prop} : ∀ {l : List Tree}, wp P (bothAll l) L H R → ∀ t ∈ l, wp P t L H R
  | [], h, _, _ => h.elim
  | [t], h, u, hu => by rw [List.mem_singleton.1 hu]; exact h
  | t :: u :: l, h, x, hx => by
    rcases List.mem_cons.1 hx with e | e
    · rw [e]; exact h.1
    · exact bothAll_wp (l := u :: l) h.2 x e

theorem oneOp_still {ops : Array Oper} {o : Oper} {fr : Fr} {K : Fr → Tree} {L : Hands} {H : Heap} {R : Value → Heap → Prop} {a : Act}
    (hf : Frok fr a) (ht : tag P cfg o = 0 ∨ tag P cfg o = 1) (h : wp P (oneOp P cfg ops o fr K) L H R) :
    ∃ v fr', Frok fr' (a.put o.dst v) ∧ wp P (K fr') L H R ∧
      ((Region.wanted o (yielded ops a.tmps) = true ∧ astill P (execOp a.eval o) H (fun n => nextL P n H v) ∧
          (tag P cfg o = 0 → ∀ H', astill P (execOp a.eval o) H' (fun n => nextL P n H' v)) ∧ (tag P cfg o = 1 → ∃ fr1, Frok fr1 a ∧ fr' = fr1.put o.dst v ∧ execOp a.eval o = execOp fr1.ev o)) ∨
       (Region.wanted o (yielded ops a.tmps) = false ∧ v = undef)) := by
  rcases oneOp_cases hf h with ⟨hwt, fr1, hf1, h1⟩ | ⟨hwt, fr1, hf1, h1⟩
  · obtain ⟨v, hv, hk, h0, he⟩ := goOp_still hf1 ht h1
    exact ⟨v, _, hf1.put _ _, hk, .inl ⟨hwt, hv, h0, fun h => ⟨fr1, hf1, rfl, he h⟩⟩⟩
  · exact ⟨undef, fr1, hf1, h1, .inr ⟨hwt, rfl⟩⟩

theorem noSelect_at {ops : Array Oper} (hns : Region.noSelect ops = true) {i : Nat} {o : Oper} (ho : ops[i]? = some o) : Op.isSelect o.op = false := by
  cases hx : Op.isSelect o.op with
  | false => rfl
  | true =>
    exfalso
    unfold Op.isSelect at hx
    split at hx
    · rename_i cs b h1; exact Region.noSelect_spec hns i o cs b ho h1
    · cases hx

/-- The frame has turned at the region's own slots alone. -/
def Mine (ops : Array Oper) (a0 a : Act) : Prop := a.defers = a0.defers ∧ Same (ops.toList.filterMap (·.dst)) a a0

theorem Mine.put {ops : Array Oper} {a0 a : Act} (h : Mine ops a0 a) {i : Nat} {o : Oper} (ho : ops[i]? = some o) (v : Value) : Mine ops a0 (a.put o.dst v) :=
  ⟨by rw [put_defers]; exact h.1, Same.trans ⟨put_size _ _ _, fun j hj => put_other fun e => hj (by
    rw [List.mem_filterMap]; exact ⟨o, Array.mem_toList_iff.2 (Array.mem_of_getElem? ho), e⟩)⟩ h.2⟩

theorem wantedAs_of {ops : Array Oper} {o : Oper} {fr : Fr} {a : Act} {x : Bool} (hf : Frok fr a) (h : wantedAs ops o fr = some x) : Region.wanted o (yielded ops a.tmps) = x := by
  unfold wantedAs at h
  split at h
  · rename_i hg
    simp only [Option.some.injEq] at h; subst h
    simp [Region.wanted, hg]
  · rename_i j want hg
    split at h
    · cases h
    · rename_i t ht
      split at h
      · rename_i b hb
        simp only [Option.some.injEq] at h; subst h
        simp only [Region.wanted, hg, yielded_bool ht (hf.get hb)]
        cases b <;> cases want <;> rfl
      · rename_i vs hb
        simp only [Option.some.injEq] at h; subst h
        simp only [Region.wanted, hg, yielded_tuple ht (hf.get hb)]
        cases want <;> rfl
      · cases h

theorem drawFrom_sound {a0 : Act} {ops : Array Oper} (hns : Region.noSelect ops = true) {K : Fr → Tree} {L : Hands} {R : Value → Heap → Prop} : ∀ (f : Nat) (listed : Array Bool) (pend : List Pend) (fr : Fr) (a : Act) (H : Heap),
    Frok fr a → Mine ops a0 a → Closed ops listed → (∀ p ∈ pend.map (pdOf P), p.St H) → wp P (drawFrom P cfg ops f listed pend fr K) L H R →
    dwp P ops (fun a' H' => ∃ fr', Frok fr' a' ∧ Mine ops a0 a' ∧ wp P (K fr') L H' R) f listed (pend.map (pdOf P)) a H
  | 0, listed, pend, fr, a, H, hf, hm, _, _, h => by
    unfold drawFrom at h
    split at h
    · rename_i he; exact ⟨he, fr, hf, hm, h⟩
    · exact h.elim
  | f + 1, listed, pend, fr, a, H, hf, hm, hc, hp, h => by
    unfold drawFrom at h
    dsimp only at h
    split at h
    · rename_i he
      exact fun _ => ⟨fun _ => ⟨fr, hf, hm, h⟩, fun i hi => by rw [he] at hi; cases hi⟩
    · rename_i hne
      split at h
      · rename_i i hi
        obtain ⟨hr, o, ho, ht, hfree⟩ := findReady_spec hi
        simp only [ho] at h
        obtain ⟨v, fr', hf', hk, hc'⟩ := oneOp_still hf (.inl ht) h
        refine dwp_take_pure ho (Region.noSelect_spec hns) f listed _ a H hc hfree hr (v := v) ?_ hp (drawFrom_sound hns f _ pend fr' _ H hf' (hm.put ho _) (hc.set hr) hp hk)
        rcases hc' with ⟨hw, _, h0, _⟩ | ⟨hw, hv⟩
        · exact .inl ⟨hw, fun H' _ => h0 ht H'⟩
        · exact .inr ⟨hw, hv⟩
      · split at h
        · rename_i i hi
          obtain ⟨hr, o, ho, ht, hfree⟩ := findReady_spec hi
          simp only [ho] at h
          obtain ⟨v, fr', hf', hk, hc'⟩ := oneOp_still hf (.inr ht) h
          have hw1 : ∀ x, wantedAs ops o fr' = some x → (∀ d, o.dst = some d → d ∉ o.looksAt ops) → Region.wanted o (yielded ops a.tmps) = x := fun x hx hnl => by
            have h1 := wantedAs_of hf' hx
            rwa [wanted_put o a o.dst v hnl] at h1
          split at hk
          · rename_i hwa
            split at hk
            · rename_i d hd
              split at hk
              · rename_i v' hv'
                split at hk
                · rename_i hchk
                  simp only [Bool.and_eq_true, Bool.not_eq_true', List.contains_eq_mem, decide_eq_false_iff_not] at hchk
                  obtain ⟨hnl, hall⟩ := hchk
                  have hlk : ∀ d', o.dst = some d' → d' ∉ o.looksAt ops := fun d' hd' => by rw [hd] at hd'; cases hd'; exact hnl
                  have hvv : v = v' := by
                    have h1 := hf'.get hv'
                    rw [hd] at h1
                    simp only [Act.put, Array.getElem?_setIfInBounds] at h1
                    split at h1
                    · split at h1
                      · exact Option.some.inj h1
                      · cases h1
                    · rename_i hne'; exact absurd trivial hne'
                  subst hvv
                  have hex : execOp a.eval o = execOp fr'.ev o := by
                    rw [← known_eval hf' (noSelect_at hns ho) hall, execOp_put o (notSelect (noSelect_at hns ho)) a o.dst v hlk]
                  have hwt := hw1 true hwa hlk
                  have hst : astill P (nf P (execOp fr'.ev o)) H (fun n => nextL P n H v) := by
                    rcases hc' with ⟨_, h0, _⟩ | ⟨h0, _⟩
                    · rw [hex] at h0; exact nf_astill _ h0
                    · rw [hwt] at h0; cases h0
                  refine dwp_take ho (Region.noSelect_spec hns) f listed _ a H hc (Region.free_spec ho hfree) hr (v := v) (St := (pdOf P ⟨i, nf P (execOp fr'.ev o), v⟩).St) ?_ hst hp ?_
                  · exact .inl ⟨hwt, fun H' hH' => by rw [hex]; exact astill_nf _ hH'⟩
                  · refine drawFrom_sound hns f _ (⟨i, nf P (execOp fr'.ev o), v⟩ :: pend) fr' _ H hf' (hm.put ho _) (hc.set hr) (fun p hp' => ?_) hk
                    rcases List.mem_cons.1 hp' with e | e
                    · rw [e]; exact hst
                    · exact hp p e
                · exact hk.elim
              · exact hk.elim
            · exact hk.elim
          · rename_i hwa
            split at hk
            · rename_i hchk
              have hlk : ∀ d, o.dst = some d → d ∉ o.looksAt ops := fun d hd => by
                unfold dstFree at hchk
                rw [hd] at hchk
                simpa using hchk
              have hwf := hw1 false hwa hlk
              rcases hc' with ⟨hwt, _⟩ | ⟨hwt, hv⟩
              · rw [hwt] at hwf; cases hwf
              · exact dwp_take_pure ho (Region.noSelect_spec hns) f listed _ a H hc hfree hr (v := v) (.inr ⟨hwt, hv⟩) hp (drawFrom_sound hns f _ pend fr' _ H hf' (hm.put ho _) (hc.set hr) hp hk)
            · exact hk.elim
          · exact hk.elim
        · split at h
          · rename_i i hi
            have hmf := List.find?_some hi
            have hr := List.mem_of_find?_eq_some hi
            obtain ⟨_, o, ho, _⟩ := mem_ready.1 hr
            unfold makeFirst at hmf
            simp only [ho, Bool.and_eq_true, List.all_eq_true, List.mem_range, Bool.or_eq_true, beq_iff_eq] at hmf h
            obtain ⟨⟨⟨⟨hk, hmo⟩, hfree⟩, hpi⟩, hall⟩ := hmf
            have hg : o.guard = none := by
              unfold makerOp at hmo
              simp only [Bool.and_eq_true, Option.isNone_iff_eq_none] at hmo
              exact hmo.1
            obtain ⟨ob, val, hm', hgo⟩ := goOp_make hf hk h
            refine dwp_make ho (Region.noSelect_spec hns) hg f listed _ a H hc (Region.free_spec ho hfree) hr hm' (fun p hp' => ?_) (fun j oj hoj hji hun hnr => ?_) fun b hb => ?_
            · obtain ⟨q, hq, rfl⟩ := List.mem_map.1 hp'
              exact hpi q hq
            · have hjlt : j < ops.size := (Array.getElem?_eq_some_iff.1 hoj).1
              rcases hall j hjlt with ((h1 | h1) | h1) | h1
              · exact absurd h1 hji
              · rw [hun] at h1; cases h1
              · rw [hnr] at h1; cases h1
              · simp only [hoj, Bool.and_eq_true, List.all_eq_true] at h1
                exact ⟨h1.1, fun p hp' => by obtain ⟨q, hq, rfl⟩ := List.mem_map.1 hp'; exact h1.2 q hq⟩
            · exact drawFrom_sound hns f _ [] _ _ _ (hf.put _ _) (hm.put ho _) (hc.set hr) (fun p hp' => by cases hp') (hgo b hb)
          refine fun _ => ⟨fun e => absurd e hne, fun i hi => ?_⟩
          obtain ⟨_, o, ho, _⟩ := mem_ready.1 hi
          have h1 := bothAll_wp h _ (List.mem_map.2 ⟨i, hi, rfl⟩)
          simp only [ho] at h1
          have h2 := oneOp_abs (N := fun a' H' => (∀ p ∈ Pd.after ops i (pend.map (pdOf P)), p.St H') ∧
            dwp P ops (fun a' H' => ∃ fr', Frok fr' a' ∧ Mine ops a0 a' ∧ wp P (K fr') L H' R) f (listed.setIfInBounds i true) (Pd.after ops i (pend.map (pdOf P))) a' H') hf h1 (fun v fr' H' hf' hk => by
              obtain ⟨h3, h4⟩ := checks_wp hk
              rw [after_map]
              exact ⟨h3, drawFrom_sound hns f _ _ fr' _ H' hf' (hm.put ho _) (hc.set hi) h3 h4⟩)
          unfold aOp
          simp only [ho]
          exact h2

theorem drawTree_sound {id : Nat} {ops : Array Oper} {fr : Fr} {K : Fr → Tree} {L : Hands} {H : Heap} {R : Value → Heap → Prop} {a : Act} {w : World} {Q : Exit → Act → World → Prop}
    (hf : Frok fr a) (hd : a.defers = []) (hw : Holds w0 w H) (h : wp P (drawTree P cfg ops fr K) L H R)
    (hK : ∀ fr' a' w' H', Frok fr' a' → a'.defers = [] → Holds w0 w' H' → Same (ops.toList.filterMap (·.dst)) a' a → wp P (K fr') L H' R → Q .normal a' w') :
    (Code.region id ops true).wp P Q a w := by
  unfold drawTree at h
  split at h
  · rename_i hc
    simp only [Bool.and_eq_true] at hc
    have hd := drawFrom_sound (a0 := a) hc.2 (L := L) (R := R) (K := K) ops.size (Array.replicate ops.size false) [] fr a H hf ⟨rfl, Same.refl _ _⟩ (fun j oj _ hl => by
      exfalso
      rcases Nat.lt_or_ge j ops.size with h | h
      · simp [h] at hl
      · simp [h] at hl) (fun p hp => by simp at hp) h
    refine wp_region_any hc.1 (dwp_sound (fun a' w' H' hw' ⟨fr', hf', hm, hk⟩ => hK fr' a' w' H' hf' (by rw [hm.1]; assumption) hw' hm.2 hk) _ _ _ _ H _ hd (hw.drawn _))
  · exact h.elim

theorem Hands.set_same (L : Hands) (n : Nat) (C : List Value → Heap → Prop) : (L.set n C) n = C := by simp [Hands.set]
theorem Hands.set_ne (L : Hands) {n m : Nat} (C : List Value → Heap → Prop) (h : m ≠ n) : (L.set n C) m = L m := by simp [Hands.set, h]

theorem getAll_spec {fr : Fr} : ∀ {is : List Nat} {vs : List Value}, fr.getAll is = some vs → is.length = vs.length ∧ ∀ (k i : Nat) v, is[k]? = some i → vs[k]? = some v → fr.get i = some v
  | [], vs, h => by
    simp only [Fr.getAll, Option.some.injEq] at h; subst h
    exact ⟨rfl, fun k i v hk => by simp at hk⟩
  | i :: is, vs, h => by
    simp only [Fr.getAll] at h
    split at h
    · rename_i v hv
      split at h
      · rename_i vs' hvs
        simp only [Option.some.injEq] at h; subst h
        obtain ⟨hl, hg⟩ := getAll_spec hvs
        refine ⟨by simp [hl], fun k j u hk hu => ?_⟩
        cases k with
        | zero => simp at hk hu; subst hk; subst hu; exact hv
        | succ k => simp at hk hu; exact hg k j u hk hu
      · cases h
    · cases h

theorem setAll_ok {a : Act} : ∀ {is : List Nat} {vs : List Value} {fr : Fr}, Frok fr a → (∀ (k i : Nat) v, is[k]? = some i → vs[k]? = some v → a.tmps[i]? = some v) → Frok (fr.setAll is vs) a
  | [], vs, fr, h, _ => by unfold Fr.setAll; exact h
  | i :: is, [], fr, h, _ => by unfold Fr.setAll; exact h
  | i :: is, v :: vs, fr, h, hv => by
    unfold Fr.setAll
    refine setAll_ok ?_ fun k j u hk hu => hv (k + 1) j u (by simpa using hk) (by simpa using hu)
    refine ⟨fun s hs => h.size s (Fr.has_upd _ _ _ _ hs), fun j u hj => ?_⟩
    rcases Fr.get_upd _ _ _ _ _ hj with ⟨e1, e2, e3⟩ | ⟨e1, e2⟩
    · rw [e1, ← e2]; exact hv 0 i v (by simp) (by simp)
    · exact h.val j u e2

theorem Fr.get_forget : ∀ (W : List Nat) (fr : Fr) (i : Nat) (v : Value), (fr.forget W).get i = some v → i ∉ W ∧ fr.get i = some v
  | [], fr, i, v, h => ⟨by simp, h⟩
  | j :: W, fr, i, v, h => by
    obtain ⟨h1, h2⟩ := Fr.get_forget W (fr.upd j none) i v h
    rcases Fr.get_upd _ _ _ _ _ h2 with ⟨e1, e2, e3⟩ | ⟨e1, e2⟩
    · cases e2
    · exact ⟨by simp only [List.mem_cons, not_or]; exact ⟨e1, h1⟩, e2⟩
theorem Fr.has_forget : ∀ (W : List Nat) (fr : Fr) (i : Nat), (fr.forget W).has i → fr.has i
  | [], fr, i, h => h
  | j :: W, fr, i, h => Fr.has_upd _ _ _ _ (Fr.has_forget W (fr.upd j none) i h)

theorem forget_ok {fr : Fr} {a a' : Act} {W : List Nat} (h : Frok fr a) (ho : Same W a' a) : Frok (fr.forget W) a' := by
  refine ⟨fun s hs => by rw [ho.size]; exact h.size s (Fr.has_forget W fr s hs), fun i v hi => ?_⟩
  obtain ⟨h1, h2⟩ := Fr.get_forget W fr i v hi
  rw [ho.val i h1]; exact h.val i v h2

/-- The code's tree is sound at fuel f. -/
def Snd (w0 : World) (P : Program) (_cfg : Cfg) (den : Code → Fr → (Ex → Fr → Tree) → Tree) : Prop :=
  ∀ (c : Code) (fr : Fr) (K : Ex → Fr → Tree) (L : Hands) (H : Heap) (R : Value → Heap → Prop) (a : Act) (w : World) (Q : Exit → Act → World → Prop),
    Frok fr a → a.defers = [] → Holds w0 w H → wp P (den c fr K) L H R →
    (∀ (e : Ex) fr' a' w' H' L', Frok fr' a' → a'.defers = [] → Holds w0 w' H' → Same (writes c) a' a → (∀ n, n ∉ names c → L' n = L n) →
      wp P (K e fr') L' H' R → Q e.toExit a' w') → c.wp P Q a w

/-- Code that runs inside a scope. -/
def InScope (P : Program) (c code : Code) (Q : Exit → Act → World → Prop) (a : Act) (w : World) : Prop :=
  ∀ (b : Frame) (k : List Item) (cs : List Frame), ∃ e a' w', Q e a' w' ∧ Arrives P (lone (b.at a (.code code :: .inScope c :: k)) cs w) b k cs e a' w'

theorem inScope_of {c code : Code} {Q Q1 : Exit → Act → World → Prop} {a : Act} {w : World} (h : code.wp P Q1 a w)
    (hn : ∀ a' w', Q1 .normal a' w' → Q .normal a' w') (he : ∀ i a' w', Q1 (.exit i) a' w' → Q (.exit i) a' w') (hr : ∀ a' w', Q1 .ret a' w' → Q .ret a' w')
    (hp : ∀ ch a' w', Q1 (.panic ch) a' w' → Q (.panic ch) a' w') (ho : ∀ a' w', Q1 .outgrown a' w' → Q .outgrown a' w')
    (hg : ∀ l a' w', Q1 (.goto l) a' w' → ∃ rest, findLabel c l = some rest ∧ InScope P c rest Q a' w') : InScope P c code Q a w := by
  intro b k cs
  obtain ⟨e, a₁, w₁, hq, harr⟩ := h b (.inScope c :: k) cs
  cases e with
  | normal => exact ⟨.normal, a₁, w₁, hn _ _ hq, Steps.trans harr (.one step_inScope)⟩
  | exit id => exact ⟨.exit id, a₁, w₁, he _ _ _ hq, fun k' hk => harr k' (by simp [exitTo, hk])⟩
  | goto l =>
    obtain ⟨rest, hf, hin⟩ := hg _ _ _ hq
    obtain ⟨e₂, a₂, w₂, hq₂, harr₂⟩ := hin b k cs
    exact ⟨e₂, a₂, w₂, hq₂, .of_steps (harr _ (by simp [gotoIn, hf])) harr₂⟩
  | ret => exact ⟨_, a₁, w₁, hr _ _ hq, harr⟩
  | panic ch => exact ⟨_, a₁, w₁, hp _ _ _ hq, harr⟩
  | outgrown => exact ⟨_, a₁, w₁, ho _ _ hq, harr⟩

theorem wp_of_inScope {c : Code} {Q : Exit → Act → World → Prop} {a : Act} {w : World} (h : InScope P c c Q a w) : (Code.scope c).wp P Q a w :=
  fun b k cs => let ⟨e, a', w', q, r⟩ := h b k cs; ⟨e, a', w', q, .of_steps (.one step_scope) r⟩

/-- The exits that a tree speaks of. -/
def exQ (Q : Ex → Act → World → Prop) : Exit → Act → World → Prop
  | .normal, a, w => Q .normal a w
  | .exit i, a, w => Q (.exit i) a w
  | .goto l, a, w => Q (.goto l) a w
  | .ret, a, w => Q .ret a w
  | _, _, _ => False

theorem exQ_to {Q : Ex → Act → World → Prop} {e : Ex} {a : Act} {w : World} (h : Q e a w) : exQ Q e.toExit a w := by cases e <;> exact h

theorem inScopeTree_sound {den : Code → Fr → (Ex → Fr → Tree) → Tree} (hden : Snd w0 P cfg den) {c : Code} {K : Ex → Fr → Tree} {L : Hands} {R : Value → Heap → Prop} {Q : Exit → Act → World → Prop} {a0 : Act} :
    ∀ (g : Nat) (code : Code) (fr : Fr) (L1 : Hands) (H : Heap) (a : Act) (w : World), Frok fr a → a.defers = [] → Holds w0 w H → wp P (inScopeTree den c g code fr K) L1 H R →
    Same (writes c) a a0 → (∀ n, n ∉ names c → L1 n = L n) → (∀ i, i ∈ writes code → i ∈ writes c) → (∀ i, i ∈ names code → i ∈ names c) →
    (∀ (e : Ex) fr' a' w' H' L', Frok fr' a' → a'.defers = [] → Holds w0 w' H' → Same (writes c) a' a0 → (∀ n, n ∉ names c → L' n = L n) →
      wp P (K e fr') L' H' R → Q e.toExit a' w') → InScope P c code Q a w
  | 0, _, _, _, _, _, _, _, _, _, h, _, _, _, _, _ => h.elim
  | g + 1, code, fr, L1, H, a, w, hf, hd, hw, h, hs, hL, hW, hN, hK => by
    unfold inScopeTree at h
    have h1 := hden code fr _ L1 H R a w (exQ fun e a' w' => match e with
      | .goto l => ∃ rest, findLabel c l = some rest ∧ InScope P c rest Q a' w'
      | e => Q e.toExit a' w') hf hd hw h (fun e fr' a' w' H' L' hf' hd' hw' hs' hL' hk => exQ_to (by
        have hs2 : Same (writes c) a' a0 := (hs'.mono hW).trans hs
        have hL2 : ∀ n, n ∉ names c → L' n = L n := fun n hn => by rw [hL' n (fun hm => hn (hN n hm)), hL n hn]
        cases e with
        | goto l =>
          dsimp only at hk ⊢
          split at hk
          · rename_i rest hrest
            split at hk
            · rename_i hall
              simp only [Bool.and_eq_true, List.all_eq_true, List.contains_iff_mem] at hall
              exact ⟨rest, hrest, inScopeTree_sound hden g rest fr' L' H' a' w' hf' hd' hw' hk hs2 hL2 hall.1 hall.2 hK⟩
            · exact hk.elim
          · exact hk.elim
        | normal => exact hK .normal fr' a' w' H' L' hf' hd' hw' hs2 hL2 hk
        | exit i => exact hK (.exit i) fr' a' w' H' L' hf' hd' hw' hs2 hL2 hk
        | ret => exact hK .ret fr' a' w' H' L' hf' hd' hw' hs2 hL2 hk))
    exact inScope_of h1 (fun _ _ hq => hq) (fun _ _ _ hq => hq) (fun _ _ hq => hq) (fun _ _ _ hq => hq.elim) (fun _ _ hq => hq.elim) (fun _ _ _ hq => hq)

/-- What a loop does, from its body's head on. -/
def AtHead (P : Program) (c : Code) (Q : Exit → Act → World → Prop) (a : Act) (w : World) : Prop :=
  ∀ (b : Frame) (k : List Item) (cs : List Frame), ∃ e a' w', Q e a' w' ∧ Arrives P (lone (b.at a (.code c :: .inLoop c :: k)) cs w) b k cs e a' w'

theorem atHead_of {c : Code} {Q : Exit → Act → World → Prop} {a : Act} {w : World} (h : c.wp P (Exit.then (AtHead P c Q) Q) a w) : AtHead P c Q a w := by
  intro b k cs
  obtain ⟨e, a₁, w₁, hq, harr⟩ := h b (.inLoop c :: k) cs
  cases e with
  | normal =>
    obtain ⟨e₂, a₂, w₂, hq₂, harr₂⟩ := hq b k cs
    exact ⟨e₂, a₂, w₂, hq₂, .of_steps (Steps.trans harr (.one step_inLoop)) harr₂⟩
  | exit id => exact ⟨_, a₁, w₁, hq, .pass (x := .inLoop c) rfl (fun _ _ => .inl (by simp)) harr⟩
  | goto l => exact ⟨_, a₁, w₁, hq, .pass (x := .inLoop c) rfl (fun _ _ => .inl (by simp)) harr⟩
  | ret => exact ⟨_, a₁, w₁, hq, .pass (x := .inLoop c) rfl (fun _ _ => .inl (by simp)) harr⟩
  | panic ch => exact ⟨_, a₁, w₁, hq, .pass (x := .inLoop c) rfl (fun _ _ => .inl (by simp)) harr⟩
  | outgrown => exact ⟨_, a₁, w₁, hq, .pass (x := .inLoop c) rfl (fun _ _ => .inl (by simp)) harr⟩

theorem wp_of_atHead {c : Code} {Q : Exit → Act → World → Prop} {a : Act} {w : World} (h : AtHead P c Q a w) : (Code.loop c).wp P Q a w :=
  fun b k cs => let ⟨e, a', w', q, r⟩ := h b k cs; ⟨e, a', w', q, .of_steps (.one step_loop) r⟩

theorem codeTree_sound : ∀ f : Nat, Snd w0 P cfg (codeTree P cfg f)
  | 0 => fun _ _ _ _ _ _ _ _ _ _ _ _ h => h.elim
  | f + 1 => by
    have ih := codeTree_sound f
    intro c fr K L H R a w Q hf hd hw h hK
    unfold codeTree at h
    split at h
    · exact wp_skip (hK .normal fr a w H L hf hd hw (Same.refl _ _) (fun _ _ => rfl) h)
    · exact wp_label (hK .normal fr a w H L hf hd hw (Same.refl _ _) (fun _ _ => rfl) h)
    · rename_i id ops draw
      cases draw with
      | true =>
        exact drawTree_sound (cfg := cfg) hf hd hw h fun fr' a' w' H' hf' hd' hw' hs hk => hK .normal fr' a' w' H' L hf' hd' hw' hs (fun _ _ => rfl) hk
      | false =>
        exact wp_region_list (opsTree_sound _ fr H a w hf hd hw h fun fr' a' w' H' hf' hd' hw' hs hk => hK .normal fr' a' w' H' L hf' hd' hw' hs (fun _ _ => rfl) hk)
    · rename_i x y
      have h1 := ih x fr _ L H R a w (exQ fun e a' w' => match e with
        | .normal => y.wp P Q a' w'
        | e => Q e.toExit a' w') hf hd hw h (fun e fr' a' w' H' L' hf' hd' hw' hs' hL' hk => exQ_to (by
          have hsub : Same (writes (.seq x y)) a' a := hs'.mono fun i hm => by simp only [writes, List.mem_append]; exact .inl hm
          have hnub : ∀ i, i ∉ names (.seq x y) → i ∉ names x := fun i hi hm => hi (by simp only [names, List.mem_append]; exact .inl hm)
          cases e with
          | normal =>
            exact ih y fr' K L' H' R a' w' Q hf' hd' hw' hk fun e fr2 a2 w2 H2 L2 hf2 hd2 hw2 hs2 hL2 hk2 =>
              hK e fr2 a2 w2 H2 L2 hf2 hd2 hw2
                ((hs2.mono fun i hm => by simp only [writes, List.mem_append]; exact .inr hm).trans hsub)
                (fun i hi => by rw [hL2 i (fun hm => hi (by simp only [names, List.mem_append]; exact .inr hm)), hL' i (hnub i hi)]) hk2
          | exit i => exact hK (.exit i) fr' a' w' H' L' hf' hd' hw' hsub (fun i hi => hL' i (hnub i hi)) hk
          | goto l => exact hK (.goto l) fr' a' w' H' L' hf' hd' hw' hsub (fun i hi => hL' i (hnub i hi)) hk
          | ret => exact hK .ret fr' a' w' H' L' hf' hd' hw' hsub (fun i hi => hL' i (hnub i hi)) hk))
      refine wp_seq (Go.wp_mono h1 fun e a' w' hq => ?_)
      cases e <;> first | exact hq | exact hq.elim
    · rename_i co x y
      split at h
      · rename_i t hc
        refine wp_cond (hf.eval hc) ?_
        cases t with
        | true =>
          exact ih x fr K L H R a w Q hf hd hw h fun e fr' a' w' H' L' hf' hd' hw' hs' hL' hk => hK e fr' a' w' H' L' hf' hd' hw'
            (hs'.mono fun i hm => by simp only [writes, List.mem_append]; exact .inl hm)
            (fun i hi => hL' i (fun hm => hi (by simp only [names, List.mem_append]; exact .inl hm))) hk
        | false =>
          exact ih y fr K L H R a w Q hf hd hw h fun e fr' a' w' H' L' hf' hd' hw' hs' hL' hk => hK e fr' a' w' H' L' hf' hd' hw'
            (hs'.mono fun i hm => by simp only [writes, List.mem_append]; exact .inr hm)
            (fun i hi => hL' i (fun hm => hi (by simp only [names, List.mem_append]; exact .inr hm))) hk
      · exact h.elim
    · rename_i id x
      have h1 := ih x fr _ L H R a w (Exit.inBlock id Q) hf hd hw h (fun e fr' a' w' H' L' hf' hd' hw' hs' hL' hk => by
        cases e with
        | exit i =>
          dsimp only at hk
          simp only [Exit.inBlock]
          split at hk
          · rename_i hi; rw [if_pos hi]; exact hK .normal fr' a' w' H' L' hf' hd' hw' hs' hL' hk
          · rename_i hi; rw [if_neg hi]; exact hK (.exit i) fr' a' w' H' L' hf' hd' hw' hs' hL' hk
        | normal => exact hK .normal fr' a' w' H' L' hf' hd' hw' hs' hL' hk
        | goto l => exact hK (.goto l) fr' a' w' H' L' hf' hd' hw' hs' hL' hk
        | ret => exact hK .ret fr' a' w' H' L' hf' hd' hw' hs' hL' hk)
      exact wp_block h1
    · rename_i x
      split at h
      · exact h.elim
      · rename_i hnm
        split at h
        · exact h.elim
        · rename_i vs hvs
          obtain ⟨x0, hx0, hC⟩ := h
          obtain ⟨hlen, hget⟩ := getAll_spec hvs
          refine wp_of_atHead ?_
          refine hC (fun y H' => ∀ (a' : Act) (w' : World), a'.defers = [] → Holds w0 w' H' → Same (writes x) a' a →
            (∀ (k i : Nat) v, (slotsOf fr (writes x))[k]? = some i → (toVals (vs.map shOf) y)[k]? = some v → a'.tmps[i]? = some v) → AtHead P x Q a' w') ?_ a w hd hw (Same.refl _ _) ?_
          · intro y H' hbody a' w' hd' hw' hsame hslots
            refine atHead_of ?_
            have hfr : Frok (Fr.setAll (fr.forget (writes x)) (slotsOf fr (writes x)) (toVals (vs.map shOf) y)) a' := setAll_ok (forget_ok hf hsame) hslots
            have h1 := ih x _ _ _ H' R a' w' (exQ fun e a2 w2 => match e with
              | .normal => AtHead P x Q a2 w2
              | e => Q e.toExit a2 w2) hfr hd' hw' hbody (fun e fr2 a2 w2 H2 L2 hf2 hd2 hw2 hs2 hL2 hk => exQ_to (by
                have hs3 : Same (writes x) a2 a := hs2.trans hsame
                have hL3 : ∀ n, n ∉ names (.loop x) → L2 n = L n := fun n hn => by
                  simp only [names, List.mem_cons, not_or] at hn
                  rw [hL2 n hn.2, Hands.set_ne _ _ hn.1]
                cases e with
                | normal =>
                  dsimp only at hk ⊢
                  split at hk
                  · rename_i vs2 hvs2
                    have hn : loopName x ∉ names x := by simpa using hnm
                    change L2 (loopName x) vs2 H2 at hk
                    rw [hL2 _ hn, Hands.set_same] at hk
                    obtain ⟨x2, hx2, hgo⟩ := hk
                    exact hgo a2 w2 hd2 hw2 hs3 (by
                      obtain ⟨_, hg2⟩ := getAll_spec hvs2
                      intro k i v hk hv
                      rw [← hx2] at hv
                      exact hf2.get (hg2 k i v hk hv))
                  · exact hk.elim
                | exit i => exact hK (.exit i) fr2 a2 w2 H2 L2 hf2 hd2 hw2 hs3 hL3 hk
                | goto l => exact hK (.goto l) fr2 a2 w2 H2 L2 hf2 hd2 hw2 hs3 hL3 hk
                | ret => exact hK .ret fr2 a2 w2 H2 L2 hf2 hd2 hw2 hs3 hL3 hk))
            refine Go.wp_mono h1 fun e a2 w2 hq => ?_
            cases e <;> first | exact hq | exact hq.elim
          · intro k i v hk hv
            rw [← hx0] at hv
            exact hf.get (hget k i v hk hv)
    · rename_i x
      exact wp_of_inScope (inScopeTree_sound ih 20 x fr L H a w hf hd hw h (Same.refl _ _) (fun _ _ => rfl) (fun _ hi => hi) (fun _ hi => hi) hK)
    · exact wp_exit (hK (.exit _) fr a w H L hf hd hw (Same.refl _ _) (fun _ _ => rfl) h)
    · exact wp_goto (hK (.goto _) fr a w H L hf hd hw (Same.refl _ _) (fun _ _ => rfl) h)
    · exact wp_ret (hK .ret fr a w H L hf hd hw (Same.refl _ _) (fun _ _ => rfl) h)
    · exact h.elim

theorem mapM_congr {α β : Type} {f g : α → Sem β} : ∀ (l : List α), (∀ x ∈ l, f x = g x) → l.mapM f = l.mapM g
  | [], _ => rfl
  | x :: l, h => by
    rw [List.mapM_cons, List.mapM_cons, h x List.mem_cons_self, mapM_congr l fun y hy => h y (List.mem_cons_of_mem _ hy)]

theorem slot_le {l : List ResultVar} {r : ResultVar} (h : r ∈ l) : resSlot r ≤ (l.map resSlot).sum := by
  induction l with
  | nil => cases h
  | cons x l ih =>
    simp only [List.map_cons, List.sum_cons]
    rcases List.mem_cons.1 h with rfl | h
    · omega
    · have := ih h; omega

theorem results_same {fn : Func} {fr : Fr} {a : Act} (hf : Frok fr a) (h : fn.results.all (fun r => (fr.get (resSlot r)).isSome) = true) : results fn a.tmps = results fn (fr.arr (resMost fn)) := by
  have slot : ∀ r ∈ fn.results.toList, a.tmps.getD (resSlot r) undef = (fr.arr (resMost fn)).getD (resSlot r) undef := fun r hr => by
    have := Array.all_eq_true_iff_forall_mem.1 h r (Array.mem_toList_iff.1 hr)
    obtain ⟨v, hv⟩ := Option.isSome_iff_exists.1 this
    have hlt : resSlot r < resMost fn := by have := slot_le hr; unfold resMost; omega
    rw [Array.getD_eq_getD_getElem?, hf.get hv, Array.getD_eq_getD_getElem?]
    simp only [Fr.arr, List.getElem?_toArray, List.getElem?_map, List.getElem?_range hlt, Option.map_some, hv]
    rfl
  unfold results
  rw [← Array.toArray_toList (xs := fn.results)] 
  simp only [List.mapM_toArray]
  rw [mapM_congr fn.results.toList fun r hr => ?_]
  have := slot r hr
  cases r <;> simp only [resSlot] at this <;> simp only [this]

theorem run_bind {α β : Type} (P : Program) (s : Sem α) (k : α → Sem β) : ∀ w, (s.bind k).run P w = match s.run P w with
    | .ok a w' => (k a).run P w'
    | .halt h w' => .halt h w' := by
  induction s with
  | pure a => intro w; rfl
  | load m a j ih =>
    intro w
    simp only [Sem.bind, Sem.run]
    split
    · exact ih _ w
    · split
      · exact ih _ w
      · rfl
  | store m a v j ih =>
    intro w
    cases v <;> simp only [Sem.bind, Sem.run, ih] <;> first | rfl | (cases w.cell? a <;> dsimp only <;> split <;> rfl)
  | new o j ih => intro w; exact ih _ _
  | shape r j ih => intro w; exact ih _ _
  | freeze a n j ih => intro w; exact ih _
  | frozen a j ih => intro w; exact ih _ _
  | getObj r j ih =>
    intro w
    simp only [Sem.bind, Sem.run]
    split
    · rfl
    · exact ih _ w
    · rfl
  | setObj r o j ih =>
    intro w
    simp only [Sem.bind, Sem.run]
    split
    · rfl
    · exact ih _
    · rfl
  | choose q j ih =>
    intro w
    simp only [Sem.bind, Sem.run]
    split
    · exact ih _ w
    · exact ih _ _
  | sys c j ih => intro w; exact ih _ _
  | program j ih => intro w; exact ih _ _
  | mark m j ih => intro w; exact ih _
  | halt x => intro w; rfl

theorem run_of_resSem {fn : Func} {tmps : Array Value} {v : Value} {w : World} (h : (resSem fn tmps).run P w = .ok (.value v) w) : (results fn tmps).run P w = .ok v w := by
  have h1 := run_bind P (results fn tmps) (fun v => (Sem.pure (Next.value v) : Sem Next)) w
  change ((results fn tmps).bind (fun v => (Sem.pure (Next.value v) : Sem Next))).run P w = _ at h
  rw [h1] at h
  generalize (results fn tmps).run P w = r at h
  cases r with
  | ok a w' => simp only [Sem.run, Result.ok.injEq, Next.value.injEq] at h; rw [h.1, h.2]
  | halt x w' => cases h

theorem resSem_enter {fn : Func} {tmps : Array Value} {w : World} (f : FuncId) (args : Array Value) : (resSem fn tmps).run P w ≠ .ok (.enter f args) w := by
  intro h
  have h1 := run_bind P (results fn tmps) (fun v => (Sem.pure (Next.value v) : Sem Next)) w
  change ((results fn tmps).bind (fun v => (Sem.pure (Next.value v) : Sem Next))).run P w = _ at h
  rw [h1] at h
  generalize (results fn tmps).run P w = r at h
  cases r with
  | ok a w' => simp only [Sem.run, Result.ok.injEq] at h; cases h.1
  | halt x w' => cases h

theorem spec_of_tree {f : FuncId} {fn : Func} {args : Array Value} {H : Heap} {R : Value → Heap → Prop} (hf : P.funcs[f]? = some fn) 
    (h : ∀ L, wp P (funcTree P cfg fn args.toList) L H R) : SpecF P f args H R := by
  intro w0 w hw
  have h := h (fun _ _ _ => False)
  unfold funcTree at h
  split at h
  · rename_i c hc
    refine calls_of_wp hf hc ?_
    refine codeTree_sound (w0 := w0) 400 c _ _ _ H R _ w _ ?_ rfl hw h ?_
    · refine setAll_ok ⟨fun t ht => ?_, fun i v hi => ?_⟩ fun k i v hk hv => ?_
      · have := Fr.has_mk _ _ _ ht
        simpa using this
      · rw [Fr.get_mk] at hi; cases hi
      · have hlt : k < args.toList.length := by
          have := List.getElem?_eq_some_iff.1 hv
          exact this.1
        rw [List.getElem?_range hlt] at hk
        cases hk
        rw [Array.getElem?_append, if_pos (by simpa using hlt)]
        simpa using hv
    · intro e fr' a' w' H' L' hf' hd' hw' _ _ hk
      have main : wp P (endTree P fn .ret fr') L' H' R → bodyPost P fn (fun e w' => ∃ v H', e = .returned v ∧ Holds w0 w' H' ∧ R v H') .ret a' w' := fun hk => by
        unfold endTree at hk
        dsimp only at hk
        split at hk
        · rename_i hall
          have hres := results_same hf' hall
          split at hk
          · rename_i v hv
            have hr := pureRun_sound P _ _ hv w'
            obtain ⟨H2, hl, hR⟩ := hk
            refine ⟨hd', v, ?_, v, H2, rfl, hw'.le hl, hR⟩
            rw [hres]
            exact run_of_resSem hr
          · obtain ⟨x, hx, H2, hl, hR⟩ := hk
            obtain ⟨n, hn, hr⟩ := astill_sound P _ _ _ hx
            have hr' := hr w0 w' hw'
            rw [nf_run] at hr'
            cases n <;> simp only [nextL] at hn <;> first | exact hn.elim | skip
            · subst hn
              refine ⟨hd', _, ?_, _, H2, rfl, hw'.le hl, hR⟩
              rw [hres]
              exact run_of_resSem hr'
            · exact absurd hr' (resSem_enter _ _)
        · exact hk.elim
      cases e with
      | normal => exact main hk
      | ret => exact main hk
      | exit i => exact hk.elim
      | goto l => exact hk.elim
  · exact h.elim
end
end Go.Fw
