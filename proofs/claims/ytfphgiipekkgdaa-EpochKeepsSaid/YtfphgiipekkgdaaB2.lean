/- Texts of this claim, one behind the other. -/
import Derived.Test.YtfphgiipekkgdaaB1
set_option linter.unusedSimpArgs false
set_option linter.unusedVariables false
set_option linter.unusedVariables false
set_option maxRecDepth 20000
namespace Go.Proofs.Ytfphgiipekkgdaa
open Go Go.Fw

/-! ### Slices among blocks -/

theorem mem_idx {l : Bl} {p : Nat × Obj} (h : p ∈ l) : ∃ i : Nat, l[i]? = some p := List.mem_iff_getElem?.1 h

def bset (l : Bl) (b : Nat) (o : Obj) : Bl := l.map fun p => if p.1 = b then (b, o) else p
theorem keys_bset (l : Bl) (b : Nat) (o : Obj) : keys (bset l b o) = keys l := by
  unfold keys bset
  rw [List.map_map]
  refine List.map_congr_left fun p _ => ?_
  show (if p.1 = b then (b, o) else p).1 = p.1
  split
  · rename_i e; exact e.symm
  · rfl
theorem bset_append (l k : Bl) (b : Nat) (o : Obj) : bset (l ++ k) b o = bset l b o ++ bset k b o := by simp [bset]
theorem bset_out {l : Bl} {b : Nat} {o : Obj} (h : b ∉ keys l) : bset l b o = l := by
  unfold bset
  refine (List.map_congr_left fun p hp => ?_).trans (List.map_id l)
  rw [if_neg (fun e => h (List.mem_map.2 ⟨p, hp, e⟩))]; rfl
theorem mem_bset {l : Bl} {b : Nat} {o o' : Obj} (h : (b, o) ∈ l) : (b, o') ∈ bset l b o' := List.mem_map.2 ⟨(b, o), h, if_pos rfl⟩
theorem mem_bset_ne {l : Bl} {b c : Nat} {o o' : Obj} (h : (c, o) ∈ l) (hn : c ≠ b) : (c, o) ∈ bset l b o' := List.mem_map.2 ⟨(c, o), h, if_neg hn⟩
theorem bset_set {l : Bl} : ∀ {i : Nat} {b : Nat} {o o' : Obj}, (keys l).Nodup → l[i]? = some (b, o) → l.set i (b, o') = bset l b o' := by
  induction l with
  | nil => intro i b o o' _ h; simp at h
  | cons p l ih =>
    intro i b o o' hn h
    simp only [keys, List.map_cons, List.nodup_cons] at hn
    cases i with
    | zero =>
      simp only [List.getElem?_cons_zero, Option.some.injEq] at h
      subst h
      show (b, o') :: l = _
      unfold bset
      rw [List.map_cons, if_pos rfl]
      congr 1
      exact (bset_out (o := o') hn.1).symm
    | succ i =>
      simp only [List.getElem?_cons_succ] at h
      have hm : b ∈ keys l := List.mem_map.2 ⟨(b, o), List.mem_of_getElem? h, rfl⟩
      show p :: l.set i (b, o') = _
      unfold bset
      rw [List.map_cons, if_neg (fun e => hn.1 (by rw [e]; exact hm)), ih hn.2 h]; rfl

/-- Elements of a row: how many cells, which. -/
structure ElOk (sT e : TypeId) (sz : Nat) : Prop where
  ex : ∃ info z, Try.prog.underlying sT = some (.slice e) ∧ Try.prog.info? e = some info ∧ info.size = sz ∧ info.bytes ≤ 64 ∧ info.bytes ≠ 0 ∧ info.zero = some z ∧ z.cells.size = sz

structure Enc (α : Type) where
  sz : Nat
  enc : α → List Value
  len : ∀ x, (enc x).length = sz
  sg : ∀ x v, v ∈ enc x → Value.single v = true

def eI : Enc Int := ⟨1, fun n => [.int .i64 n], fun _ => rfl, fun x v h => by simp at h; subst h; rfl⟩
def Enc.all {α : Type} (E : Enc α) (xs : List α) : List Value := xs.flatMap E.enc
theorem Enc.all_len {α : Type} (E : Enc α) (xs : List α) : (E.all xs).length = xs.length * E.sz := by
  induction xs with
  | nil => simp [Enc.all]
  | cons x xs ih =>
    have : E.all (x :: xs) = E.enc x ++ E.all xs := rfl
    rw [this, List.length_append, ih, E.len]; simp only [List.length_cons]
    rw [Nat.add_mul]; omega
theorem Enc.all_append {α : Type} (E : Enc α) (xs ys : List α) : E.all (xs ++ ys) = E.all xs ++ E.all ys := by simp [Enc.all]
theorem Enc.all_sg {α : Type} (E : Enc α) (xs : List α) : ∀ v ∈ E.all xs, Value.single v = true := by
  intro v hv
  obtain ⟨x, _, h⟩ := List.mem_flatMap.1 hv
  exact E.sg x v h
/-- A slice that begins its block. -/
def SlOf {α : Type} (l : Bl) (e : TypeId) (E : Enc α) (s : Sl) (xs : List α) : Prop :=
  (s = ⟨none, 0, 0⟩ ∧ xs = []) ∨ ∃ (b : Nat) (rest : List Value) (r : Nat), s = ⟨some ⟨b, 0, none⟩, xs.length, xs.length + r⟩ ∧ rest.length = r * E.sz ∧ (b, oc e (E.all xs ++ rest)) ∈ l

section
variable {α : Type} {E : Enc α} {e : TypeId} {s t : Sl} {xs ys : List α} {l l' : Bl}
theorem SlOf.len (h : SlOf l e E s xs) : s.len = xs.length := by
  rcases h with ⟨rfl, rfl⟩ | ⟨b, rest, r, rfl, _⟩ <;> rfl
theorem SlOf.nil (l : Bl) (e : TypeId) (E : Enc α) : SlOf l e E ⟨none, 0, 0⟩ [] := .inl ⟨rfl, rfl⟩
theorem SlOf.mono (h : SlOf l e E s xs) (hm : ∀ p, p ∈ l → p ∈ l') : SlOf l' e E s xs := by
  rcases h with h | ⟨b, rest, r, h1, h2, h3⟩
  · exact .inl h
  · exact .inr ⟨b, rest, r, h1, h2, hm _ h3⟩
theorem SlOf.keep (h : SlOf l e E s xs) {b : Nat} {o : Obj} (hn : ∀ a, s.a = some a → a.block ≠ b) : SlOf (bset l b o) e E s xs := by
  rcases h with h | ⟨c, rest, r, h1, h2, h3⟩
  · exact .inl h
  · exact .inr ⟨c, rest, r, h1, h2, mem_bset_ne h3 (hn ⟨c, 0, none⟩ (by rw [h1]))⟩

/-- The first n. -/
theorem SlOf.take (h : SlOf l e E s xs) {n : Nat} (hn : n ≤ xs.length) : SlOf l e E ⟨s.a, n, s.cap⟩ (xs.take n) := by
  rcases h with ⟨rfl, rfl⟩ | ⟨b, rest, r, rfl, h2, h3⟩
  · have : n = 0 := by simpa using hn
    subst this; exact .inl ⟨rfl, rfl⟩
  · refine .inr ⟨b, E.all (xs.drop n) ++ rest, xs.length - n + r, ?_, ?_, ?_⟩
    · simp only [List.length_take, Sl.mk.injEq, true_and]
      exact ⟨by omega, by omega⟩
    · rw [List.length_append, E.all_len, h2, List.length_drop, Nat.add_mul]
    · rw [← List.append_assoc, ← E.all_append, List.take_append_drop]; exact h3
end

section
variable {L : Hands} {R : Value → Heap → Prop} {A : Ar} {I : List Nat} {l : Bl} {G : Heap}

theorem own_mem (hA : Aw I A) (ok : Ok I G (keys l)) {b : Nat} {o : Obj} (h : (b, o) ∈ l) : own A l G b = some o := by
  obtain ⟨i, hi⟩ := mem_idx h; exact own_get hA ok hi
theorem own_bset (hA : Aw I A) (ok : Ok I G (keys l)) {b : Nat} {o : Obj} (o' : Obj) (h : (b, o) ∈ l) : (own A l G).set b o' = own A (bset l b o') G := by
  obtain ⟨i, hi⟩ := mem_idx h; rw [own_set hA ok o' hi, bset_set ok.nd hi]

theorem keys_append' (l k : Bl) : keys (l ++ k) = keys l ++ keys k := by simp [keys]

/-- One behind the first ones. -/
theorem own_mid {pre tl : Bl} {p : Nat × Obj} (ok : Ok I G (keys (p :: (pre ++ tl)))) : own A (p :: (pre ++ tl)) G = own A (pre ++ p :: tl) G ∧ Ok I G (keys (pre ++ p :: tl)) := by
  have e : ∀ ks : List Nat, (p.1 :: (keys pre ++ ks)).Nodup → (keys pre ++ p.1 :: ks).Nodup := fun ks h => (List.perm_middle.nodup_iff).2 h
  have ok1 : Ok I G (keys (pre ++ p :: tl)) := by
    have hk : keys (p :: (pre ++ tl)) = p.1 :: (keys pre ++ keys tl) := by simp [keys]
    have hk2 : keys (pre ++ p :: tl) = keys pre ++ p.1 :: keys tl := by simp [keys]
    rw [hk] at ok; rw [hk2]
    exact ok.sub (e _ ok.nd) fun b hb => by
      simp only [List.mem_append, List.mem_cons] at hb ⊢
      rcases hb with h | h | h
      · exact .inr (.inl h)
      · exact .inl h
      · exact .inr (.inr h)
  refine ⟨?_, ok1⟩
  have hget : (pre ++ p :: tl)[pre.length]? = some p := by simp
  have := own_front (A := A) ok1 hget
  rw [this]
  have h2 : (pre ++ p :: tl).eraseIdx pre.length = pre ++ tl := by
    rw [List.eraseIdx_append_of_length_le (Nat.le_refl _)]; simp
  rw [h2]

theorem cell_row {b : Nat} {T : TypeId} {c : List Value} (hA : Aw I A) (ok : Ok I G (keys l)) (h : (b, oc T c) ∈ l) (o : Nat) {cs : List Value} (hc : cs = (c.drop o).take cs.length) : Row (own A l G) (some ⟨b, o, none⟩) cs := by
  intro i hi
  refine ⟨_, rfl, ?_⟩
  rw [Addr.add_mk, Heap.cell_of (own_mem hA ok h), List.getElem?_toArray, hc, List.getElem?_take_of_lt (by rw [hc] at hi; simp at hi ⊢; omega), List.getElem?_drop]

theorem SlOf.row {α : Type} {E : Enc α} {e : TypeId} {s : Sl} {xs : List α} (hA : Aw I A) (ok : Ok I G (keys l)) (h : SlOf l e E s xs) : Row (own A l G) s.a (E.all xs) := by
  rcases h with ⟨rfl, rfl⟩ | ⟨b, rest, r, rfl, h2, h3⟩
  · intro i hi; simp [Enc.all] at hi
  · exact cell_row hA ok h3 0 (by simp)

inductive App (l : Bl) (s : Sl) (l' : Bl) (s' : Sl) : Prop
  | same : l' = l → s' = s → App l s l' s'
  | inpl (b : Nat) (o : Obj) : s.a = some ⟨b, 0, none⟩ → s'.a = s.a → l' = bset l b o → b ∈ keys l → App l s l' s'
  | new (b : Nat) (o : Obj) : s'.a = some ⟨b, 0, none⟩ → l' = (b, o) :: l → b ∉ keys l → App l s l' s'

theorem putAll_mid (x : List Value) : ∀ (pre mid post : List Value), mid.length = x.length → putAll (pre ++ mid ++ post).toArray pre.length x = (pre ++ x ++ post).toArray := by
  induction x with
  | nil => intro pre mid post h; have : mid = [] := List.eq_nil_of_length_eq_zero h; subst this; rfl
  | cons v x ih =>
    intro pre mid post h
    cases mid with
    | nil => simp at h
    | cons m mid =>
      have h' : mid.length = x.length := by simpa using h
      show putAll ((pre ++ m :: mid ++ post).toArray.setIfInBounds pre.length v) (pre.length + 1) x = _
      have e : (pre ++ m :: mid ++ post).toArray.setIfInBounds pre.length v = ((pre ++ [v]) ++ mid ++ post).toArray := by
        apply Array.ext'
        rw [Array.toList_setIfInBounds]
        simp
      rw [e]
      have := ih (pre ++ [v]) mid post h'
      rw [List.length_append] at this
      rw [show pre.length + 1 = pre.length + [v].length from rfl, this]
      simp

/-- Append. -/
theorem w_app {sT e u : TypeId} {α : Type} {E : Enc α} (hE : ElOk sT e E.sz) {xs ys : List α} {s t : Sl} {k : Sl → Tree} (hA : Aw I A) (ok : Ok I G (keys l)) (hs : SlOf l e E s xs) (ht : Row (own A l G) t.a (E.all ys)) (htl : t.len = ys.length) (hm : xs.length + ys.length ≤ 1048576)
    (h : ∀ s' l', SlOf l' e E s' (xs ++ ys) → Ok I G (keys l') → App l s l' s' → wp Try.prog (k s') L (own A l' G) R) :
    wp Try.prog (.act (opS Try.prog (.call { callee := .builtin .append, args := #[(.tmp 0), (.tmp 1)], argTypes := #[sT, sT] }) u [(.slice s.a s.len s.cap), (.slice t.a t.len t.cap)]) (.one (.leaf .slice)) k) L (own A l G) R := by
  obtain ⟨info, z, i1, i2, i3, i4, i5, i6, i7⟩ := hE.ex
  have hln := hs.len
  refine append_gen (info := info) (z := z) (old := E.all xs) (new := E.all ys) i1 i2 i4 i5 i6 (i7.trans i3.symm) (hs.row hA ok) (by rw [E.all_len, hln, i3]) ht (by rw [E.all_len, htl, i3]) (by omega) ?_ ?_
  · intro hc
    by_cases hy : ys = []
    · subst hy
      refine .inl ⟨htl, s, rfl, ?_⟩
      exact h s l (by rw [List.append_nil]; exact hs) ok (.same rfl rfl)
    · rcases hs with ⟨rfl, rfl⟩ | ⟨b, rest, r, rfl, h2, h3⟩
      · have : ys.length = 0 := by rw [htl] at hc; have : 0 + ys.length ≤ 0 := hc; omega
        exact (hy (List.eq_nil_of_length_eq_zero this)).elim
      · have hr : ys.length ≤ r := by
          have : xs.length + t.len ≤ xs.length + r := hc
          omega
        have hmul : ys.length * E.sz ≤ r * E.sz := Nat.mul_le_mul_right _ hr
        refine .inr ⟨b, _, e, rfl, own_mem hA ok h3, ?_, E.all_sg ys, ⟨some ⟨b, 0, none⟩, xs.length + t.len, xs.length + r⟩, rfl, ?_⟩
        · show (xs.length + t.len) * info.size ≤ _
          rw [i3, htl, Nat.add_mul]; simp only [List.size_toArray, List.length_append, E.all_len, h2]; omega
        · have e1 : putAll (E.all xs ++ rest).toArray (xs.length * info.size) (E.all ys) = (E.all (xs ++ ys) ++ rest.drop (ys.length * E.sz)).toArray := by
            have := putAll_mid (E.all ys) (E.all xs) (rest.take (ys.length * E.sz)) (rest.drop (ys.length * E.sz)) (by rw [E.all_len, List.length_take]; omega)
            rw [List.append_assoc, List.take_append_drop, E.all_len] at this
            rw [i3, this, E.all_append]
          have e2 := own_bset (G := G) hA ok (oc e (E.all (xs ++ ys) ++ rest.drop (ys.length * E.sz))) h3
          unfold oc at e2
          show wp Try.prog _ L ((own A l G).set b (.cells (putAll (E.all xs ++ rest).toArray (xs.length * info.size) (E.all ys)) e (0, 0))) R
          rw [e1, e2]
          refine h _ _ (.inr ⟨b, rest.drop (ys.length * E.sz), r - ys.length, ?_, ?_, mem_bset h3⟩) (by rw [keys_bset]; exact ok) (.inpl b _ rfl rfl rfl (List.mem_map.2 ⟨_, h3, rfl⟩))
          · simp only [List.length_append, Sl.mk.injEq, true_and]; omega
          · rw [List.length_drop, h2, ← Nat.sub_mul]
  · intro hc b rest r hb hr
    obtain ⟨o1, o2⟩ := own_new hA ok hb (oc e (E.all xs ++ E.all ys ++ rest))
    refine ⟨⟨some ⟨b, 0, none⟩, s.len + t.len, s.len + t.len + r⟩, rfl, ?_⟩
    show wp Try.prog _ L ((own A l G).set b (oc e (E.all xs ++ E.all ys ++ rest))) R
    rw [o2]
    refine h _ _ (.inr ⟨b, rest, r, ?_, by rw [hr, i3], ?_⟩) o1 (.new b _ rfl rfl (own_none hA hb).2.1)
    · rw [hln, htl, List.length_append]
    · rw [E.all_append]; exact List.mem_cons_self

/-- Append, of a slice behind the first blocks. -/
theorem w_appT {sT e u : TypeId} {α : Type} {E : Enc α} (hE : ElOk sT e E.sz) {xs ys : List α} {s t : Sl} {k : Sl → Tree} {pre tl : Bl} (hA : Aw I A) (ok : Ok I G (keys (pre ++ tl))) (hs : SlOf tl e E s xs) (ht : Row (own A (pre ++ tl) G) t.a (E.all ys)) (htl : t.len = ys.length) (hm : xs.length + ys.length ≤ 1048576)
    (h : ∀ s' tl', SlOf tl' e E s' (xs ++ ys) → Ok I G (keys (pre ++ tl')) → App tl s tl' s' → wp Try.prog (k s') L (own A (pre ++ tl') G) R) :
    wp Try.prog (.act (opS Try.prog (.call { callee := .builtin .append, args := #[(.tmp 0), (.tmp 1)], argTypes := #[sT, sT] }) u [(.slice s.a s.len s.cap), (.slice t.a t.len t.cap)]) (.one (.leaf .slice)) k) L (own A (pre ++ tl) G) R := by
  have okt : (keys pre ++ keys tl).Nodup := by rw [← keys_append']; exact ok.nd
  refine w_app hE hA ok (hs.mono fun p hp => List.mem_append_right _ hp) ht htl hm fun s' l' hs' ok' ap => ?_
  cases ap with
  | same h1 h2 =>
    subst h1; subst h2
    refine h s' tl ?_ ok (.same rfl rfl)
    rcases hs with ⟨q1, q2⟩ | ⟨b, rest, r, q1, q2, q3⟩
    · subst q1; subst q2
      rcases hs' with h | ⟨b, rest, r, h1, _⟩
      · exact .inl h
      · cases h1
    · have hl := hs'.len
      have : (xs ++ ys).length = xs.length := by rw [← hl, q1]
      have hy : ys = [] := by simp at this; exact this
      subst hy; rw [List.append_nil]; exact .inr ⟨b, rest, r, q1, q2, q3⟩
  | inpl b o h1 h2 h3 h4 =>
    have hbt : b ∈ keys tl := by
      rcases hs with ⟨q1, _⟩ | ⟨c, rest, r, q1, q2, q3⟩
      · rw [q1] at h1; cases h1
      · rw [q1] at h1; cases h1; exact List.mem_map.2 ⟨_, q3, rfl⟩
    have hbp : b ∉ keys pre := fun hp => (List.nodup_append.1 okt).2.2 b hp b hbt rfl
    rw [bset_append, bset_out hbp] at h3
    subst h3
    refine h s' _ ?_ ok' (.inpl b o h1 h2 rfl hbt)
    rcases hs' with q | ⟨c, rest, r, q1, q2, q3⟩
    · exact .inl q
    · refine .inr ⟨c, rest, r, q1, q2, ?_⟩
      rcases List.mem_append.1 q3 with m | m
      · exfalso
        have : c = b := by rw [q1, h1] at h2; cases h2; rfl
        exact hbp (this ▸ List.mem_map.2 ⟨_, m, rfl⟩)
      · exact m
  | new b o h1 h2 h3 =>
    subst h2
    obtain ⟨m1, m2⟩ := own_mid (A := A) ok'
    rw [m1]
    have hbp : b ∉ keys pre := fun hp => h3 (by rw [keys_append']; exact List.mem_append_left _ hp)
    have hbt : b ∉ keys tl := fun hp => h3 (by rw [keys_append']; exact List.mem_append_right _ hp)
    refine h s' ((b, o) :: tl) ?_ m2 (.new b o h1 rfl hbt)
    rcases hs' with q | ⟨c, rest, r, q1, q2, q3⟩
    · exact .inl q
    · refine .inr ⟨c, rest, r, q1, q2, ?_⟩
      rcases List.mem_cons.1 q3 with m | m
      · rw [m]; exact List.mem_cons_self
      · rcases List.mem_append.1 m with m | m
        · exfalso
          have : c = b := by rw [q1] at h1; cases h1; rfl
          exact hbp (this ▸ List.mem_map.2 ⟨_, m, rfl⟩)
        · exact List.mem_cons_of_mem _ m
end
end Go.Proofs.Ytfphgiipekkgdaa

set_option linter.unusedVariables false
set_option maxRecDepth 20000
namespace Go.Proofs.Ytfphgiipekkgdaa
open Go Go.Fw

/-! ### What laws use: before there is an arena, and at the end -/

structure Ok0 (G : Heap) (ks : List Nat) : Prop where
  nd : ks.Nodup
  no : ∀ b ∈ ks, G b = none

section
variable {L : Hands} {R : Value → Heap → Prop} {l : Bl} {G : Heap}

theorem p_new (ok : Ok0 G (keys l)) {b : Nat} (h : putL l G b = none) (o : Obj) : Ok0 G (keys ((b, o) :: l)) := by
  obtain ⟨h1, h2⟩ := putL_none h
  refine ⟨?_, ?_⟩
  · simp only [keys, List.map_cons, List.nodup_cons]; exact ⟨h1, ok.nd⟩
  · intro c hc
    simp only [keys, List.map_cons, List.mem_cons] at hc
    rcases hc with rfl | hc
    · exact h2
    · exact ok.no c hc

theorem p_newP {c : List Value} {T : TypeId} {k : Addr → Tree} (ok : Ok0 G (keys l)) (h : ∀ b, Ok0 G (keys ((b, oc T c) :: l)) → wp Try.prog (k ⟨b, 0, none⟩) L (putL ((b, oc T c) :: l) G) R) :
    wp Try.prog (.newP (.cells c.toArray T) k) L (putL l G) R := wp_newP fun b hb => h b (p_new ok hb _)
theorem p_stA (i : Nat) {a : Addr} {b n : Nat} {T : TypeId} {c : List Value} {vs : List Value} {k : Tree} (ok : Ok0 G (keys l)) (ha : a = ⟨b, n, none⟩) (hi : l[i]? = some (b, oc T c)) (hs : vs.all Value.single = true) (hn : (decide (n + vs.length ≤ c.length)) = true)
    (h : wp Try.prog k L (putL (l.set i (b, oc T (setAll c n vs))) G) R) : wp Try.prog (.stA a vs k) L (putL l G) R := by
  subst ha
  have hn := of_decide_eq_true hn
  refine wp_stA_of (putL_get G ok.nd hi) (by simpa using hn) (fun v hv => List.all_eq_true.1 hs v hv) ?_
  rw [putL_set G ok.nd hi, setAll_put]; exact h
theorem p_ldA (i : Nat) {a : Addr} {b n : Nat} {T : TypeId} {c : List Value} {ls : List Leaf} {k : HL Leaf.T ls → Tree} {x : HL Leaf.T ls} (ok : Ok0 G (keys l)) (ha : a = ⟨b, n, none⟩) (hi : l[i]? = some (b, oc T c)) (hx : Lf.decs ls (c.drop n) = some x)
    (h : wp Try.prog (k x) L (putL l G) R) (hn : decide (n ≤ c.length) = true := by rfl) : wp Try.prog (.ldA a ls k) L (putL l G) R := by
  subst ha
  have hn := of_decide_eq_true hn
  obtain ⟨h1, h2⟩ := Lf.decs_ok hx
  rw [List.length_drop] at h1
  refine wp_ldA_of (x := x) (putL_get G ok.nd hi) (by simp; omega) ?_ h
  rw [← h2]; simp [List.extract_eq_take_drop]
/-- An arena is made. -/
theorem w_New {n m : Int} {f : Bool} {k : Option Addr → Tree} (ok : Ok0 G (keys l)) (h0 : 0 ≤ n ∧ n ≤ 65536) (h1 : 0 ≤ m ∧ m ≤ 65536)
    (h : ∀ A : Ar, A.made n.toNat m.toNat f → Aw A.ids A → (∀ x ∈ A.ids, G x = none) → Ok A.ids G (keys l) → wp Try.prog (k (aI A.ids)) L (own A l G) R) :
    wp Try.prog (.call f_arena_New [.int .i64 n, .int .i64 m, .bool f] (.one (.leaf .ptr)) k) L (putL l G) R := by
  refine wp_call_of (New_spec n m f _ h0 h1) ?_
  rintro v K ⟨A, hm, hi, rfl, rfl⟩
  refine ⟨aI A.ids, rfl, ?_⟩
  refine h A hm ⟨made_wf hm (by omega) (by omega), rfl⟩ (fun x hx => (putL_none (hi x hx)).2) ⟨ok.nd, fun b hb hx => ?_, ok.no⟩
  exact (putL_none (hi b hx)).1 hb

theorem own_end {A : Ar} {I : List Nat} (hA : Aw I A) (ok : Ok I G (keys l)) (hI : ∀ x ∈ I, G x = none) : G.le (own A l G) := by
  intro b o hb
  unfold own
  rw [Ar.put_out, putL_out]
  · exact hb
  · intro h; rw [ok.no b h] at hb; cases hb
  · intro h; rw [hA.ids] at h; rw [hI b h] at hb; cases hb

/-- Rows of a length that does not change. -/
def arrC {α : Type} (n : Nat) (f : Nat → α) : List α := (List.range n).map f
theorem arrC_len {α : Type} (n : Nat) (f : Nat → α) : (arrC n f).length = n := by simp [arrC]
theorem arrC_get {α : Type} {n : Nat} {f : Nat → α} {i : Nat} (h : i < n) : (arrC n f)[i]? = some (f i) := by simp [arrC, h]
theorem arrC_set {α : Type} {n : Nat} {f : Nat → α} {i : Nat} {v : α} : (arrC n f).set i v = arrC n fun j => if j = i then v else f j := by
  apply List.ext_getElem?
  intro j
  rw [List.getElem?_set]
  by_cases hj : j < n
  · split
    · rename_i e; subst e; rw [arrC_len, if_pos hj, arrC_get hj, if_pos rfl]
    · rename_i e; rw [arrC_get hj, arrC_get hj, if_neg (fun h => e h.symm)]
  · have : ∀ g : Nat → α, (arrC n g)[j]? = none := fun g => by simp [arrC]; omega
    rw [this, this]
    split
    · rename_i e; rw [if_neg (by rw [arrC_len]; omega)]
    · rfl

/-- A cell of a row, by its number. -/
theorem w_ix {A : Ar} {t e u : TypeId} {n b o : Nat} {i : Int} {info : TypeInfo} {k : Addr → Tree} (hu : Try.prog.underlying t = some (.array n e)) (hi : Try.prog.info? e = some info) (hs : info.size = 1) (h0 : 0 ≤ i) (h1 : i < n) {H : Heap}
    (h : wp Try.prog (k ⟨b, o + i.toNat, none⟩) L H R) : wp Try.prog (.look (opS Try.prog (.indexAddr t (.tmp 0) (.tmp 1)) u [.pointer (some ⟨b, o, none⟩), .int .i64 i]) (.one (.leaf .addr)) k) L H R :=
  look_val (x := ⟨b, o + i.toNat, none⟩) (by
    rw [opS_idx hu hi h0 h1, Addr.add_mk, hs, Nat.mul_one]) h
theorem w_ixS {t e u : TypeId} {len cap b o : Nat} {i : Int} {info : TypeInfo} {k : Addr → Tree} (hu : Try.prog.underlying t = some (.slice e)) (hi : Try.prog.info? e = some info) (hs : info.size = 1) (h0 : 0 ≤ i) (h1 : i < (len : Int)) {H : Heap}
    (h : wp Try.prog (k ⟨b, o + i.toNat, none⟩) L H R) : wp Try.prog (.look (opS Try.prog (.indexAddr t (.tmp 0) (.tmp 1)) u [.slice (some ⟨b, o, none⟩) len cap, .int .i64 i]) (.one (.leaf .addr)) k) L H R :=
  look_val (x := ⟨b, o + i.toNat, none⟩) (by
    rw [opS_idxS hu hi h0 h1, Addr.add_mk, hs, Nat.mul_one]) h

theorem w_ldm {A : Ar} {I : List Nat} {a : Addr} {b n : Nat} {T : TypeId} {c : List Value} {lf : Leaf} {k : lf.T → Tree} {x : lf.T} (hA : Aw I A) (ok : Ok I G (keys l)) (ha : a = ⟨b, n, none⟩) (hi : (b, oc T c) ∈ l) (hx : (c[n]?).bind (Lf.dec lf) = some x)
    (h : wp Try.prog (k x) L (own A l G) R) : wp Try.prog (.ld a lf k) L (own A l G) R := by
  obtain ⟨i, hi⟩ := mem_idx hi
  exact w_ld i hA ok ha hi hx h

theorem w_Place {H : Heap} {v n : Int} {k : Int → Tree} (hn : 0 < n) (hn2 : n ≤ 4611686018427387904) (h : wp Try.prog (k (v % n)) L H R) : wp Try.prog (.qcall f_magpielaw00_Place [.int .i64 v, .int .i64 n] (.one (.leaf (.int .i64))) k) L H R := wp_qcall_det (x := v % n) (Place_det v n hn hn2 _) h
theorem w_Raw5 {H : Heap} {w m : Int} {k : HL Sh1.T [(.agg [(.int .i64), (.int .i64), (.int .i64), (.int .i64), (.int .i64)]), (.leaf (.int .i64))] → Tree} (b1 : 0 ≤ w ∧ w ≤ 100000) (b2 : 0 ≤ m ∧ m ≤ 100000)
    (h : wp Try.prog (k (((plOf w m).work, (plOf w m).heads, (plOf w m).links, (plOf w m).gens, (plOf w m).carved, ()), 4 * w + 2 * ((m + 7) / 8) + 1, ())) L H R) :
    wp Try.prog (.call f_free_Raw [.int .i64 w, .int .i64 m] (.tup [(.agg [(.int .i64), (.int .i64), (.int .i64), (.int .i64), (.int .i64)]), (.leaf (.int .i64))]) k) L H R := by
  refine wp_call_det (x := (((plOf w m).work, (plOf w m).heads, (plOf w m).links, (plOf w m).gens, (plOf w m).carved, ()), 4 * w + 2 * ((m + 7) / 8) + 1, ())) (Raw5_det w m w m ?_ ?_ b1 b2 H) h
  · unfold imax; rw [if_neg (by omega)]
  · unfold imax; rw [if_neg (by omega)]

theorem later_aw {A : Ar} {I : List Nat} (hA : Aw I A) (n : Int) : Aw I (A.later n) := hA.of (later_alike A n) (later_wf hA.wf n)

end
end Go.Proofs.Ytfphgiipekkgdaa

set_option linter.unusedVariables false
set_option maxRecDepth 20000
namespace Go.Proofs.Ytfphgiipekkgdaa
open Go Go.Fw

def sl0 : Sl := ⟨none, 0, 0⟩

/-- Several slices of numbers, each in a block of its own. -/
structure Fam (tl : Bl) (sl : Nat → Sl) (xs : Nat → List Int) : Prop where
  of : ∀ i, SlOf tl ty_int eI (sl i) (xs i)
  sep : ∀ i j, i ≠ j → ∀ a, (sl i).a = some a → (sl j).a ≠ some a

def updS {α : Type} (f : Nat → α) (i : Nat) (v : α) : Nat → α := fun j => if j = i then v else f j
theorem SlOf.mem {α : Type} {l : Bl} {e : TypeId} {E : Enc α} {s : Sl} {xs : List α} (h : SlOf l e E s xs) {a : Addr} (ha : s.a = some a) : a.block ∈ keys l ∧ a = ⟨a.block, 0, none⟩ := by
  rcases h with ⟨rfl, _⟩ | ⟨b, rest, r, rfl, _, h3⟩
  · cases ha
  · cases ha; exact ⟨List.mem_map.2 ⟨_, h3, rfl⟩, rfl⟩

theorem Fam.nil (tl : Bl) : Fam tl (fun _ => sl0) (fun _ => []) := ⟨fun _ => .inl ⟨rfl, rfl⟩, fun _ _ _ a h => by cases h⟩

/-- What an append leaves of other rows. -/
structure Apd (tl : Bl) (s : Sl) (tl' : Bl) (s' : Sl) : Prop where
  keep : ∀ b o, (b, o) ∈ tl → (∀ a, s.a = some a → a.block ≠ b) → (b, o) ∈ tl'
  at' : s'.a = s.a ∨ ∀ a, s'.a = some a → a.block ∉ keys tl

theorem Apd.mono {tl tl' tl2 : Bl} {s s' : Sl} (h : Apd tl s tl' s') (hm : ∀ p, p ∈ tl' → p ∈ tl2) : Apd tl s tl2 s' := ⟨fun b o h1 h2 => hm _ (h.keep b o h1 h2), h.at'⟩

theorem SlOf.other {α : Type} {tl tl' : Bl} {e : TypeId} {E : Enc α} {s s' t : Sl} {xs : List α} (h : SlOf tl e E t xs) (ap : Apd tl s tl' s') (hne : ∀ a, t.a = some a → s.a ≠ some a) (hz : ∀ a, s.a = some a → a = ⟨a.block, 0, none⟩) : SlOf tl' e E t xs := by
  rcases h with h | ⟨b, rest, r, rfl, h2, h3⟩
  · exact .inl h
  · refine .inr ⟨b, rest, r, rfl, h2, ap.keep _ _ h3 fun a ha e => hne ⟨b, 0, none⟩ rfl ?_⟩
    rw [ha, hz a ha, e]

/-- One of them is shorter. -/
theorem Fam.take {tl : Bl} {sl : Nat → Sl} {xs : Nat → List Int} (F : Fam tl sl xs) (i : Nat) {n : Nat} (hn : n ≤ (xs i).length) : Fam tl (updS sl i ⟨(sl i).a, n, (sl i).cap⟩) (updS xs i ((xs i).take n)) := by
  refine ⟨fun j => ?_, fun j k hn a ha => ?_⟩
  · unfold updS; split
    · exact (F.of i).take hn
    · exact F.of j
  · unfold updS at ha ⊢
    split at ha
    · rename_i hj; rw [if_neg (by omega)]; exact F.sep i k (by omega) a ha
    · split
      · rename_i hk; exact F.sep j i (by omega) a ha
      · exact F.sep j k hn a ha

theorem Fam.mono {tl tl' : Bl} {sl : Nat → Sl} {xs : Nat → List Int} (F : Fam tl sl xs) (h : ∀ p, p ∈ tl → p ∈ tl') : Fam tl' sl xs := ⟨fun i => (F.of i).mono h, F.sep⟩

section
variable {L : Hands} {R : Value → Heap → Prop} {A : Ar} {I : List Nat} {l : Bl} {G : Heap}

end
end Go.Proofs.Ytfphgiipekkgdaa

set_option linter.unusedVariables false
namespace Go.Proofs.Ytfphgiipekkgdaa
open Go Go.Fw

theorem wl_i {L : Hands} {H : Heap} {R : Value → Heap → Prop} {n : Nat} {init : List Value} {body : HL Sh1.T [.leaf (.int .i64)] → Tree} (I : Int → Heap → Prop) (m : Int → Nat) (x0 : Int) (hi : I x0 H)
    (hstep : ∀ (x0 : Int) H', I x0 H' → wp Try.prog (body (x0, ())) (L.set n fun vals H'' => ∃ (y0 : Int), vals = [.int .i64 y0] ∧ I y0 H'' ∧ m y0 < m x0) H' R) (h0 : init = [.int .i64 x0] := by rfl) :
    wp Try.prog (.loop n [.leaf (.int .i64)] init body) L H R := by
  refine wp_loop_inv (fun x K => I x.1 K) (fun x _ => m x.1) (x0, ()) h0 hi ?_
  rintro ⟨x0, u⟩ K hI
  refine Go.Fw.wp_mono _ (hstep x0 K hI) (fun k vals H'' hk => ?_) (fun _ _ h => h)
  unfold Hands.set at *
  split at hk
  · rename_i e; rw [if_pos e]; obtain ⟨y0, h1, h2, h3⟩ := hk; exact ⟨(y0, ()), h1, h2, h3⟩
  · rename_i e; rw [if_neg e]; exact hk
end Go.Proofs.Ytfphgiipekkgdaa

