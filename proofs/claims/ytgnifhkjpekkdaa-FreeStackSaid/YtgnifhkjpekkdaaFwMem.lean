/- Operations on maps, slices and pointers, said of views. -/
import Derived.Test.YtgnifhkjpekkdaaFwWp
namespace Go.Fw
open Go

section
variable {P : Program} {L : Hands} {H : Heap} {R : Value → Heap → Prop}

theorem astill_bind {α β : Type} (s : Sem α) (k : α → Sem β) {Q : β → Prop} : astill P s H (fun a => astill P (k a) H Q) → astill P (s.bind k) H Q := by
  induction s with
  | pure a => intro h; exact h
  | load m a j ih => intro h; obtain ⟨v, hc, h⟩ := h; exact ⟨v, hc, ih v h⟩
  | shape r j ih => intro h; exact ⟨h.1, ih _ h.2⟩
  | frozen a j ih => intro h; exact ⟨h.1, ih _ h.2⟩
  | getObj r j ih => intro h; obtain ⟨o, h1, h2, h3⟩ := h; exact ⟨o, h1, h2, ih _ h3⟩
  | program j ih => intro h; exact ih P h
  | mark m j ih => intro h; exact ih h
  | _ => intro h; exact h.elim

theorem arun_bind {α β : Type} (s : Sem α) (k : α → Sem β) : ∀ {H : Heap} {Q : β → Heap → Prop}, arun P s H (fun a H' => arun P (k a) H' Q) → arun P (s.bind k) H Q := by
  induction s with
  | pure a => intro H Q h; exact h
  | load m a j ih => intro H Q h; obtain ⟨v, hc, h⟩ := h; exact ⟨v, hc, ih v h⟩
  | store m a v j ih => intro H Q h; exact ⟨h.1, h.2.1, h.2.2.1, ih h.2.2.2⟩
  | new o j ih => intro H Q h; exact ⟨h.1, fun b hb => ih b (h.2 b hb)⟩
  | shape r j ih => intro H Q h; exact ⟨h.1, ih _ h.2⟩
  | frozen a j ih => intro H Q h; exact ⟨h.1, ih _ h.2⟩
  | getObj r j ih => intro H Q h; obtain ⟨o, h1, h2, h3⟩ := h; exact ⟨o, h1, h2, ih _ h3⟩
  | setObj r o j ih => intro H Q h; exact ⟨h.1, h.2.1, ih h.2.2⟩
  | choose q j ih => intro H Q h; exact ⟨fun e => ih _ (h.1 e), fun e t => ih _ (h.2 e t)⟩
  | program j ih => intro H Q h; exact ih P h
  | mark m j ih => intro H Q h; exact ih h
  | _ => intro H Q h; exact h.elim

theorem nf_arun {α : Type} (s : Sem α) : ∀ {H : Heap} {Q : α → Heap → Prop}, arun P s H Q → arun P (nf P s) H Q := by
  induction s with
  | pure a => intro H Q h; exact h
  | load m a k ih => intro H Q h; obtain ⟨v, hc, h⟩ := h; exact ⟨v, hc, ih v h⟩
  | store m a v k ih => intro H Q h; exact ⟨h.1, h.2.1, h.2.2.1, ih h.2.2.2⟩
  | new o k ih => intro H Q h; exact ⟨h.1, fun b hb => ih b (h.2 b hb)⟩
  | shape r k ih => intro H Q h; exact ⟨h.1, ih _ h.2⟩
  | frozen a k ih => intro H Q h; exact ⟨h.1, ih _ h.2⟩
  | getObj r k ih => intro H Q h; obtain ⟨o, h1, h2, h3⟩ := h; exact ⟨o, h1, h2, ih _ h3⟩
  | setObj r o k ih => intro H Q h; exact ⟨h.1, h.2.1, ih h.2.2⟩
  | choose q k ih => intro H Q h; exact ⟨fun e => ih _ (h.1 e), fun e t => ih _ (h.2 e t)⟩
  | program k ih => intro H Q h; exact ih P h
  | mark m k ih => intro H Q h; exact ih h
  | _ => intro H Q h; exact h.elim

theorem astill_mono {α : Type} (s : Sem α) {Q Q' : α → Prop} (h : astill P s H Q) (hq : ∀ a, Q a → Q' a) : astill P s H Q' := by
  induction s with
  | pure a => exact hq _ h
  | load m a k ih => obtain ⟨v, hc, h⟩ := h; exact ⟨v, hc, ih v h⟩
  | shape r k ih => exact ⟨h.1, ih _ h.2⟩
  | frozen a k ih => exact ⟨h.1, ih _ h.2⟩
  | getObj r k ih => obtain ⟨o, h1, h2, h3⟩ := h; exact ⟨o, h1, h2, ih _ h3⟩
  | program k ih => exact ih P h
  | mark m k ih => exact ih h
  | _ => exact h.elim

/-! ### Maps from whole numbers -/

def mapEs {V : Type} (enc : V → Value) : List (Int × V) → Nat → List MapEntry
  | [], _ => []
  | (k, v) :: l, i => { key := .int .i64 k, val := enc v, born := i } :: mapEs enc l (i + 1)

def mapObj {V : Type} (enc : V → Value) (l : List (Int × V)) : Obj := .map (mapEs enc l 0).toArray l.length

def alGet {V : Type} : List (Int × V) → Int → Option V
  | [], _ => none
  | (k, v) :: l, x => if x = k then some v else alGet l x

def alPut {V : Type} : List (Int × V) → Int → V → List (Int × V)
  | [], x, u => [(x, u)]
  | (k, v) :: l, x, u => if x = k then (k, u) :: l else (k, v) :: alPut l x u

theorem alGet_put {V : Type} (l : List (Int × V)) (x : Int) (u : V) (y : Int) : alGet (alPut l x u) y = if y = x then some u else alGet l y := by
  induction l with
  | nil => simp [alPut, alGet]
  | cons p l ih =>
    obtain ⟨k, v⟩ := p
    unfold alPut
    split
    · rename_i h; subst h; simp only [alGet]; split <;> rfl
    · rename_i h
      simp only [alGet, ih]
      by_cases h1 : y = k
      · subst h1; rw [if_pos rfl, if_neg (fun e => h e.symm), if_pos rfl]
      · rw [if_neg h1, if_neg h1]

theorem mapEs_length {V : Type} (enc : V → Value) (l : List (Int × V)) : ∀ i, (mapEs enc l i).length = l.length := by
  induction l with
  | nil => intro i; rfl
  | cons p l ih => intro i; obtain ⟨k, v⟩ := p; simp only [mapEs, List.length_cons, ih]

theorem findNow_get {V : Type} (enc : V → Value) (x : Int) (l : List (Int × V)) : ∀ i j, ∃ r, Instr.findNow (.int .i64) (.int .i64 x) (mapEs enc l i) j = some r ∧
    (match alGet l x with | some v => ∃ n, r = some (j + n, enc v) ∧ n < l.length ∧ (l[n]?).map (·.1) = some x ∧ (∀ m, m < n → (l[m]?).map (·.1) ≠ some x) | none => r = none) := by
  induction l with
  | nil => intro i j; exact ⟨none, rfl, rfl⟩
  | cons p l ih =>
    intro i j
    obtain ⟨k, v⟩ := p
    simp only [mapEs, Instr.findNow, Instr.sameNow, if_true, alGet]
    by_cases h : x = k
    · subst h
      simp only [beq_self_eq_true, if_true]
      exact ⟨_, rfl, 0, rfl, by simp, by simp, fun m hm => by omega⟩
    · have hb : (x == k) = false := by simpa using h
      simp only [hb, h, if_false]
      obtain ⟨r, hr, hc⟩ := ih (i + 1) (j + 1)
      refine ⟨r, hr, ?_⟩
      cases hg : alGet l x with
      | none => rw [hg] at hc; exact hc
      | some u =>
        rw [hg] at hc
        obtain ⟨n, h1, h2, h3, h4⟩ := hc
        refine ⟨n + 1, by rw [h1]; congr 2; omega, by simp; omega, by simpa using h3, fun m hm => ?_⟩
        cases m with
        | zero => simp; exact fun e => h e.symm
        | succ m => simpa using h4 m (by omega)

theorem checkKey_int (empty : Bool) (kt : TypeId) (x : Int) (hk : P.underlying kt = some (.int .i64)) (n : Nat) {Q : Unit → Prop} (h : Q ()) : astill P (Instr.checkKey empty (n + 1) kt (.int .i64 x)) H Q := by
  show astill P (Sem.bind (underlying kt) _) H Q
  refine astill_bind _ _ ?_
  show astill P (match P.underlying kt with | some d => pure d | none => stuck "no such type" : Sem TypeDesc) H _
  rw [hk]
  exact h

theorem still_underlying {t : TypeId} {d : TypeDesc} (h : P.underlying t = some d) {Q : TypeDesc → Prop} (hq : Q d) : astill P (underlying t) H Q := by
  show astill P (match P.underlying t with | some d => pure d | none => stuck "no such type" : Sem TypeDesc) H _
  rw [h]; exact hq

theorem still_typeInfo {t : TypeId} {d : TypeInfo} (h : P.info? t = some d) {Q : TypeInfo → Prop} (hq : Q d) : astill P (typeInfo t) H Q := by
  show astill P (match P.info? t with | some d => pure d | none => stuck "no such type" : Sem TypeInfo) H _
  rw [h]; exact hq

theorem run_still {α : Type} (s : Sem α) {Q : α → Heap → Prop} (h : astill P s H (fun a => Q a H)) : arun P s H Q :=
  arun_mono _ (arun_of_astill _ h) fun _ _ ⟨h1, h2⟩ => by subst h2; exact h1

/-- A look-up. -/
theorem still_lookup {V : Type} {enc : V → Value} {l : List (Int × V)} {s kt et t u : TypeId} {x : Int} {i : TypeInfo} {z : Value} (hs : H s = some (mapObj enc l)) (ht : P.underlying t = some (.map kt et)) (hk : P.underlying kt = some (.int .i64))
    (hi : P.info? et = some i) (hz : i.zero = some z) :
    astill P (opS P (.lookup t (.tmp 0) (.tmp 1) false) u [.map (some s), .int .i64 x]) H (fun n => nextL P n H (match alGet l x with | some v => enc v | none => z)) := by
  refine nf_astill _ ?_
  show astill P (Sem.bind (Instr.lookup t (.map (some s)) (.int .i64 x) false) fun v => (Sem.pure (Next.value v) : Sem Next)) H _
  refine astill_bind _ _ ?_
  show astill P (Sem.bind (underlying t) _) H _
  refine astill_bind _ _ (still_underlying ht ?_)
  refine ⟨_, hs, rfl, ?_⟩
  show astill P (Sem.bind (Instr.checkKey _ 10000 kt (.int .i64 x)) _) H _
  refine astill_bind _ _ (checkKey_int _ kt x hk 9999 ?_)
  show astill P (Sem.bind (Instr.findKey kt (.int .i64 x) (mapEs enc l 0)) _) H _
  obtain ⟨r, hr, hc⟩ := findNow_get enc x l 0 0
  have hfk : ∀ {Q : Option (Nat × Value) → Prop}, Q r → astill P (Instr.findKey kt (.int .i64 x) (mapEs enc l 0)) H Q := fun hq => by
    show astill P (Sem.bind (underlying kt) _) H _
    refine astill_bind _ _ (still_underlying hk ?_)
    rw [hr]; exact hq
  refine astill_bind _ _ (hfk ?_)
  cases hg : alGet l x with
  | some v =>
    rw [hg] at hc
    obtain ⟨n, h1, _⟩ := hc
    rw [h1]; exact rfl
  | none =>
    rw [hg] at hc
    rw [hc]
    show astill P (Sem.bind (zeroValue et) _) H _
    refine astill_bind _ _ ?_
    show astill P (Sem.bind (typeInfo et) _) H _
    refine astill_bind _ _ (still_typeInfo hi ?_)
    rw [hz]; exact rfl

theorem still_findKey {V : Type} {enc : V → Value} {l : List (Int × V)} {kt : TypeId} {x : Int} (hk : P.underlying kt = some (.int .i64)) {Q : Option (Nat × Value) → Prop}
    (h : ∀ r, (match alGet l x with | some v => ∃ n, r = some (n, enc v) ∧ n < l.length ∧ (l[n]?).map (·.1) = some x ∧ (∀ m, m < n → (l[m]?).map (·.1) ≠ some x) | none => r = none) → Q r) :
    astill P (Instr.findKey kt (.int .i64 x) (mapEs enc l 0)) H Q := by
  obtain ⟨r, hr, hc⟩ := findNow_get enc x l 0 0
  show astill P (Sem.bind (underlying kt) _) H _
  refine astill_bind _ _ (still_underlying hk ?_)
  rw [hr]
  refine h r ?_
  cases hg : alGet l x with
  | none => rw [hg] at hc; exact hc
  | some v => rw [hg] at hc; obtain ⟨n, h1, h2⟩ := hc; exact ⟨n, by rw [h1, Nat.zero_add], h2⟩

theorem alPut_at {V : Type} (enc : V → Value) (x : Int) (u : V) (l : List (Int × V)) : ∀ (n i : Nat), n < l.length → (l[n]?).map (·.1) = some x → (∀ m, m < n → (l[m]?).map (·.1) ≠ some x) →
    (mapEs enc l i).modify n (fun e => { e with key := .int .i64 x, val := enc u }) = mapEs enc (alPut l x u) i := by
  induction l with
  | nil => intro n i hn; simp at hn
  | cons p l ih =>
    intro n i hn hx hlt
    obtain ⟨k, v⟩ := p
    cases n with
    | zero =>
      simp at hx; subst hx
      simp [mapEs, alPut]
    | succ n =>
      have hne : x ≠ k := fun e => hlt 0 (by omega) (by simp [e])
      simp only [mapEs, alPut, if_neg hne, List.modify_succ_cons]
      rw [ih n (i + 1) (by simpa using hn) (by simpa using hx) fun m hm => by simpa using hlt (m + 1) (by omega)]

theorem alPut_push {V : Type} (enc : V → Value) (x : Int) (u : V) (l : List (Int × V)) : ∀ (i : Nat), alGet l x = none →
    mapEs enc l i ++ [{ key := .int .i64 x, val := enc u, born := i + l.length }] = mapEs enc (alPut l x u) i := by
  induction l with
  | nil => intro i _; simp [mapEs, alPut]
  | cons p l ih =>
    intro i h
    obtain ⟨k, v⟩ := p
    simp only [alGet] at h
    have hne : x ≠ k := fun e => by rw [if_pos e] at h; cases h
    rw [if_neg hne] at h
    simp only [mapEs, alPut, if_neg hne, List.cons_append]
    rw [← ih (i + 1) h]
    simp; omega

theorem alPut_length {V : Type} (x : Int) (u : V) (l : List (Int × V)) : (alPut l x u).length = match alGet l x with | some _ => l.length | none => l.length + 1 := by
  induction l with
  | nil => rfl
  | cons p l ih =>
    obtain ⟨k, v⟩ := p
    simp only [alPut, alGet]
    split
    · rfl
    · simp only [List.length_cons, ih]; cases alGet l x <;> rfl

theorem keyStays {x : Int} {Q : Value → Heap → Prop} (h : Q (.int .i64 x) H) : arun P (Instr.keyThatStays (.int .i64 x) (.int .i64 x)) H Q := by
  unfold Instr.keyThatStays
  rw [if_pos (by simp [Instr.sameBits])]
  exact h

theorem mapEs_key {V : Type} (enc : V → Value) (l : List (Int × V)) {x : Int} : ∀ (n i : Nat), n < l.length → (l[n]?).map (·.1) = some x → ((mapEs enc l i)[n]?).map (·.key) = some (.int .i64 x) := by
  induction l with
  | nil => intro n i hn; simp at hn
  | cons p l ih =>
    intro n i hn hx
    obtain ⟨k, v⟩ := p
    cases n with
    | zero => simp at hx; simp [mapEs, hx]
    | succ n => simp only [mapEs, List.getElem?_cons_succ]; exact ih n (i + 1) (by simpa using hn) (by simpa using hx)

theorem mapEs_born {V : Type} (enc : V → Value) (l : List (Int × V)) : ∀ (n i : Nat), n < l.length → ((mapEs enc l i)[n]?).map (·.born) = some (i + n) := by
  induction l with
  | nil => intro n i hn; simp at hn
  | cons p l ih =>
    intro n i hn
    obtain ⟨k, v⟩ := p
    cases n with
    | zero => simp [mapEs]
    | succ n => simp only [mapEs, List.getElem?_cons_succ]; rw [ih n (i + 1) (by simpa using hn)]; congr 1; omega

/-- A store into a map. -/
theorem run_mapUpdate {V : Type} {enc : V → Value} {l : List (Int × V)} {s kt et t u : TypeId} {x : Int} {v : V} {Q : Next → Heap → Prop} (hs : H s = some (mapObj enc l)) (ht : P.underlying t = some (.map kt et)) (hk : P.underlying kt = some (.int .i64))
    (h : Q .skip (H.set s (mapObj enc (alPut l x v)))) :
    arun P (opS P (.mapUpdate t (.tmp 0) (.tmp 1) (.tmp 2)) u [.map (some s), .int .i64 x, enc v]) H Q := by
  refine nf_arun _ ?_
  show arun P (Sem.bind (Instr.mapUpdate t (.map (some s)) (.int .i64 x) (enc v)) fun _ => (Sem.pure Next.skip : Sem Next)) H Q
  refine arun_bind _ _ ?_
  show arun P (Sem.bind (underlying t) _) H _
  refine arun_bind _ _ (run_still _ (still_underlying ht ?_))
  refine ⟨_, hs, rfl, ?_⟩
  show arun P (Sem.bind (Instr.checkKey false 10000 kt (.int .i64 x)) _) H _
  refine arun_bind _ _ (run_still _ (checkKey_int _ kt x hk 9999 ?_))
  show arun P (Sem.bind (Instr.findKey kt (.int .i64 x) (mapEs enc l 0)) _) H _
  refine arun_bind _ _ (run_still _ (still_findKey hk fun r hr => ?_))
  cases hg : alGet l x with
  | some w =>
    rw [hg] at hr
    obtain ⟨n, rfl, h2, h3, h4⟩ := hr
    have hkey : ((((mapEs enc l 0).toArray)[n]?).map (·.key)).getD (.int .i64 x) = .int .i64 x := by
      rw [List.getElem?_toArray, mapEs_key enc l n 0 h2 h3]; rfl
    show arun P (Sem.bind (Instr.keyThatStays ((((mapEs enc l 0).toArray)[n]?).map (·.key) |>.getD (.int .i64 x)) (.int .i64 x)) _) H _
    rw [hkey]
    refine arun_bind _ _ (keyStays ?_)
    refine ⟨⟨_, hs, rfl⟩, rfl, ?_⟩
    have e : (mapEs enc l 0).toArray.modify n (fun e => { e with key := .int .i64 x, val := enc v }) = (mapEs enc (alPut l x v) 0).toArray := by
      rw [List.modify_toArray, alPut_at enc x v l n 0 h2 h3 h4]
    have e2 : (alPut l x v).length = l.length := by rw [alPut_length, hg]
    show Q .skip (H.set s (.map ((mapEs enc l 0).toArray.modify n (fun e => { e with key := .int .i64 x, val := enc v })) l.length))
    rw [e, ← e2]; exact h
  | none =>
    rw [hg] at hr; subst hr
    refine ⟨⟨_, hs, rfl⟩, rfl, ?_⟩
    have e : (mapEs enc l 0).toArray.push { key := .int .i64 x, val := enc v, born := l.length } = (mapEs enc (alPut l x v) 0).toArray := by
      rw [← alPut_push enc x v l 0 hg]; simp
    have e2 : (alPut l x v).length = l.length + 1 := by rw [alPut_length, hg]
    show Q .skip (H.set s (.map ((mapEs enc l 0).toArray.push { key := .int .i64 x, val := enc v, born := l.length }) (l.length + 1)))
    rw [e, ← e2]; exact h

theorem wp_mapUpdate {V : Type} {enc : V → Value} {l : List (Int × V)} {s kt et t u : TypeId} {x : Int} {v : V} {k : Unit → Tree} (hs : H s = some (mapObj enc l)) (ht : P.underlying t = some (.map kt et)) (hk : P.underlying kt = some (.int .i64))
    (h : wp P (k ()) L (H.set s (mapObj enc (alPut l x v))) R) : wp P (.act (opS P (.mapUpdate t (.tmp 0) (.tmp 1) (.tmp 2)) u [.map (some s), .int .i64 x, enc v]) .unit k) L H R :=
  run_mapUpdate hs ht hk ⟨(), rfl, h⟩

/-- The place of a key. -/
def alIdx {V : Type} : List (Int × V) → Int → Nat
  | [], _ => 0
  | (k, _) :: l, x => if x = k then 0 else alIdx l x + 1

theorem alIdx_of {V : Type} (x : Int) (l : List (Int × V)) : ∀ n, n < l.length → (l[n]?).map (·.1) = some x → (∀ m, m < n → (l[m]?).map (·.1) ≠ some x) → alIdx l x = n := by
  induction l with
  | nil => intro n hn; simp at hn
  | cons p l ih =>
    intro n hn hx hlt
    obtain ⟨k, v⟩ := p
    cases n with
    | zero => simp at hx; simp [alIdx, hx]
    | succ n =>
      have hne : x ≠ k := fun e => hlt 0 (by omega) (by simp [e])
      simp only [alIdx, if_neg hne]
      rw [ih n (by simpa using hn) (by simpa using hx) fun m hm => by simpa using hlt (m + 1) (by omega)]

theorem alIdx_none {V : Type} (x : Int) (l : List (Int × V)) : alGet l x = none → alIdx l x = l.length := by
  induction l with
  | nil => intro _; rfl
  | cons p l ih =>
    intro h
    obtain ⟨k, v⟩ := p
    simp only [alGet] at h
    have hne : x ≠ k := fun e => by rw [if_pos e] at h; cases h
    rw [if_neg hne] at h
    simp only [alIdx, if_neg hne, List.length_cons, ih h]

/-- The entry of a key, to be stored into. -/
theorem run_mapEntry {V : Type} {enc : V → Value} {l : List (Int × V)} {s kt et t u : TypeId} {x : Int} {z : V} {i : TypeInfo} {Q : Next → Heap → Prop} (hs : H s = some (mapObj enc l)) (ht : P.underlying t = some (.map kt et)) (hk : P.underlying kt = some (.int .i64))
    (hi : P.info? et = some i) (hz : i.zero = some (enc z))
    (h : Q (.value (.tuple #[enc ((alGet l x).getD z), .int .i64 (alIdx l x)])) (H.set s (mapObj enc (alPut l x ((alGet l x).getD z))))) :
    arun P (opS P (.mapEntry t (.tmp 0) (.tmp 1)) u [.map (some s), .int .i64 x]) H Q := by
  refine nf_arun _ ?_
  show arun P (Sem.bind (Instr.mapEntry t (.map (some s)) (.int .i64 x)) fun v => (Sem.pure (Next.value v) : Sem Next)) H Q
  refine arun_bind _ _ ?_
  show arun P (Sem.bind (underlying t) _) H _
  refine arun_bind _ _ (run_still _ (still_underlying ht ?_))
  refine ⟨_, hs, rfl, ?_⟩
  show arun P (Sem.bind (Instr.checkKey false 10000 kt (.int .i64 x)) _) H _
  refine arun_bind _ _ (run_still _ (checkKey_int _ kt x hk 9999 ?_))
  show arun P (Sem.bind (Instr.findKey kt (.int .i64 x) (mapEs enc l 0)) _) H _
  refine arun_bind _ _ (run_still _ (still_findKey hk fun r hr => ?_))
  cases hg : alGet l x with
  | some w =>
    rw [hg] at hr h
    obtain ⟨n, rfl, h2, h3, h4⟩ := hr
    have hkey : ((((mapEs enc l 0).toArray)[n]?).map (·.key)).getD (.int .i64 x) = .int .i64 x := by
      rw [List.getElem?_toArray, mapEs_key enc l n 0 h2 h3]; rfl
    have hborn : ((((mapEs enc l 0).toArray)[n]?).map (fun x => (x.born : Int))).getD 0 = (n : Int) := by
      have hb := mapEs_born enc l n 0 h2
      rw [List.getElem?_toArray]
      cases hx : (mapEs enc l 0)[n]? with
      | none => rw [hx] at hb; simp at hb
      | some e => rw [hx] at hb; simp at hb; simp [hb]
    show arun P (Sem.bind (Instr.keyThatStays ((((mapEs enc l 0).toArray)[n]?).map (·.key) |>.getD (.int .i64 x)) (.int .i64 x)) _) H _
    rw [hkey]
    refine arun_bind _ _ (keyStays ?_)
    refine ⟨⟨_, hs, rfl⟩, rfl, ?_⟩
    have hsame : ∀ (l : List (Int × V)) (n i : Nat), n < l.length → (l[n]?).map (·.1) = some x → (∀ m, m < n → (l[m]?).map (·.1) ≠ some x) → alGet l x = some w → (mapEs enc l i).modify n (fun e => { e with key := .int .i64 x }) = mapEs enc (alPut l x w) i := by
      intro l
      induction l with
      | nil => intro n i hn; simp at hn
      | cons p l ih =>
        intro n i hn hx hlt hgw
        obtain ⟨k, v⟩ := p
        cases n with
        | zero => simp at hx; subst hx; simp [alGet] at hgw; subst hgw; simp [mapEs, alPut]
        | succ n =>
          have hne : x ≠ k := fun e => hlt 0 (by omega) (by simp [e])
          simp only [alGet, if_neg hne] at hgw
          simp only [mapEs, alPut, if_neg hne, List.modify_succ_cons]
          rw [ih n (i + 1) (by simpa using hn) (by simpa using hx) (fun m hm => by simpa using hlt (m + 1) (by omega)) hgw]
    have e : (mapEs enc l 0).toArray.modify n (fun e => { e with key := .int .i64 x }) = (mapEs enc (alPut l x w) 0).toArray := by
      rw [List.modify_toArray, hsame l n 0 h2 h3 h4 hg]
    have e2 : (alPut l x w).length = l.length := by rw [alPut_length, hg]
    show Q (.value (.tuple #[enc w, .int .i64 (((((mapEs enc l 0).toArray)[n]?).map (fun x => (x.born : Int))).getD 0)])) (H.set s (.map ((mapEs enc l 0).toArray.modify n (fun e => { e with key := .int .i64 x })) l.length))
    rw [hborn, e, ← e2, ← alIdx_of x l n h2 h3 h4]; exact h
  | none =>
    rw [hg] at hr h; subst hr
    show arun P (Sem.bind (zeroValue et) _) H _
    have hzv : ∀ {Q : Value → Prop}, Q (enc z) → astill P (zeroValue et) H Q := fun hq => by
      show astill P (Sem.bind (typeInfo et) _) H _
      refine astill_bind _ _ (still_typeInfo hi ?_)
      rw [hz]; exact hq
    refine arun_bind _ _ (run_still _ (hzv ?_))
    refine ⟨⟨_, hs, rfl⟩, rfl, ?_⟩
    have e : (mapEs enc l 0).toArray.push { key := .int .i64 x, val := enc z, born := l.length } = (mapEs enc (alPut l x z) 0).toArray := by
      rw [← alPut_push enc x z l 0 hg]; simp
    have e2 : (alPut l x z).length = l.length + 1 := by rw [alPut_length, hg]
    show Q (.value (.tuple #[enc z, .int .i64 (l.length : Nat)])) (H.set s (.map ((mapEs enc l 0).toArray.push { key := .int .i64 x, val := enc z, born := l.length }) (l.length + 1)))
    rw [e, ← e2, ← alIdx_none x l hg]; exact h

theorem alIdx_put {V : Type} (x : Int) (u : V) (l : List (Int × V)) : alIdx (alPut l x u) x = alIdx l x := by
  induction l with
  | nil => simp [alPut, alIdx]
  | cons p l ih =>
    obtain ⟨k, v⟩ := p
    simp only [alPut]
    split
    · rename_i h; simp [alIdx, h]
    · rename_i h; simp only [alIdx, if_neg h, ih]

theorem alIdx_lt {V : Type} (x : Int) (l : List (Int × V)) {w : V} : alGet l x = some w → alIdx l x < l.length := by
  induction l with
  | nil => intro h; cases h
  | cons p l ih =>
    intro h
    obtain ⟨k, v⟩ := p
    simp only [alGet] at h
    simp only [alIdx]
    split
    · simp
    · rename_i hne; rw [if_neg hne] at h; simp; exact ih h

theorem alPut_put {V : Type} (x : Int) (u v : V) (l : List (Int × V)) : alPut (alPut l x u) x v = alPut l x v := by
  induction l with
  | nil => simp [alPut]
  | cons p l ih =>
    obtain ⟨k, w⟩ := p
    simp only [alPut]
    split
    · rename_i h; simp [alPut, h]
    · rename_i h; simp only [alPut, if_neg h, ih]

theorem mapEs_find {V : Type} (enc : V → Value) (l : List (Int × V)) : ∀ (n i : Nat), n < l.length → (mapEs enc l i).findIdx? (fun e => (e.born : Int) == ((i + n : Nat) : Int)) = some n := by
  induction l with
  | nil => intro n i hn; simp at hn
  | cons p l ih =>
    intro n i hn
    obtain ⟨k, v⟩ := p
    simp only [mapEs, List.findIdx?_cons]
    cases n with
    | zero => simp
    | succ n =>
      have : ((i : Int) == ((i + (n + 1) : Nat) : Int)) = false := by rw [beq_eq_false_iff_ne]; omega
      rw [this]
      have h := ih n (i + 1) (by simpa using hn)
      rw [show i + 1 + n = i + (n + 1) by omega] at h
      rw [if_neg (by decide), h]; rfl

theorem alPut_mod {V : Type} (enc : V → Value) (x : Int) (u : V) (l : List (Int × V)) {w : V} : ∀ i, alGet l x = some w → (mapEs enc l i).modify (alIdx l x) (fun e => { e with val := enc u }) = mapEs enc (alPut l x u) i := by
  induction l with
  | nil => intro i h; cases h
  | cons p l ih =>
    intro i h
    obtain ⟨k, v⟩ := p
    simp only [alGet] at h
    by_cases hk : x = k
    · subst hk; simp [mapEs, alPut, alIdx]
    · rw [if_neg hk] at h
      simp only [mapEs, alPut, alIdx, if_neg hk, List.modify_succ_cons, ih (i + 1) h]

/-- A store into an entry. -/
theorem run_entryStore {V : Type} {enc : V → Value} {l : List (Int × V)} {s t u : TypeId} {x : Int} {v w : V} {Q : Next → Heap → Prop} (hs : H s = some (mapObj enc l)) (hg : alGet l x = some w)
    (h : Q .skip (H.set s (mapObj enc (alPut l x v)))) :
    arun P (opS P (.entryStore t (.tmp 0) (.tmp 1) (.tmp 2)) u [.map (some s), .int .i64 (alIdx l x), enc v]) H Q := by
  refine nf_arun _ ?_
  show arun P (Sem.bind (Instr.entryStore t (.map (some s)) (.int .i64 (alIdx l x)) (enc v)) fun _ => (Sem.pure Next.skip : Sem Next)) H Q
  refine arun_bind _ _ ?_
  refine ⟨_, hs, rfl, ?_⟩
  have hlt := alIdx_lt x l hg
  have hf : (mapEs enc l 0).toArray.findIdx? (fun e => (e.born : Int) == ((alIdx l x : Nat) : Int)) = some (alIdx l x) := by
    have := mapEs_find enc l (alIdx l x) 0 hlt
    rw [Nat.zero_add] at this
    rw [List.findIdx?_toArray]; exact this
  show arun P (match (mapEs enc l 0).toArray.findIdx? (fun e => (e.born : Int) == ((alIdx l x : Nat) : Int)) with
    | some i => setObj s (.map ((mapEs enc l 0).toArray.modify i fun e => { e with val := enc v }) l.length)
    | none => unsupported (.noEntry "instr/MapEntry.the entry is gone")) H _
  rw [hf]
  refine ⟨⟨_, hs, rfl⟩, rfl, ?_⟩
  have e : (mapEs enc l 0).toArray.modify (alIdx l x) (fun e => { e with val := enc v }) = (mapEs enc (alPut l x v) 0).toArray := by
    rw [List.modify_toArray, alPut_mod enc x v l 0 hg]
  have e2 : (alPut l x v).length = l.length := by rw [alPut_length, hg]
  show Q .skip (H.set s (.map ((mapEs enc l 0).toArray.modify (alIdx l x) (fun e => { e with val := enc v })) l.length))
  rw [e, ← e2]; exact h

theorem wp_lookup {V : Type} {enc : V → Value} {l : List (Int × V)} {s kt et t u : TypeId} {x : Int} {i : TypeInfo} {z : Value} {sh : Sh} {k : sh.T → Tree} {y : sh.T} (hs : H s = some (mapObj enc l)) (ht : P.underlying t = some (.map kt et))
    (hk : P.underlying kt = some (.int .i64)) (hi : P.info? et = some i) (hz : i.zero = some z) (hy : (match alGet l x with | some v => enc v | none => z) = sh.toVal y) (h : wp P (k y) L H R) :
    wp P (.look (opS P (.lookup t (.tmp 0) (.tmp 1) false) u [.map (some s), .int .i64 x]) sh k) L H R :=
  ⟨y, hy ▸ still_lookup hs ht hk hi hz, h⟩
end
end Go.Fw
