/- Texts of this claim, one behind the other. -/
import Derived.Test.YtjnacjniiogjcaaGreatCWThiefLast0
set_option linter.unusedSimpArgs false
set_option linter.unusedVariables false
set_option maxRecDepth 20000
namespace Go.Proofs.YtjnacjniiogjcaaGreat
open Go Go.Fw
theorem mem_idx {l : Bl} {p : Nat × Obj} (h : p ∈ l) : ∃ i : Nat, l[i]? = some p := List.mem_iff_getElem?.1 h
def bset (l : Bl) (b : Nat) (o : Obj) : Bl := l.map fun p => if p.1 = b then (b, o) else p
theorem keys_bset (l : Bl) (b : Nat) (o : Obj) : keys (bset l b o) = keys l := by
  unfold keys bset
  rw [List.map_map]
  refine List.map_congr_left fun p _ => ?_
  show (if p.1 = b then (b, o) else p).1 = p.1
  split
  · rename_i e; exact e.symm
  · rfl
theorem bset_append (l k : Bl) (b : Nat) (o : Obj) : bset (l ++ k) b o = bset l b o ++ bset k b o := by simp [bset]
theorem bset_out {l : Bl} {b : Nat} {o : Obj} (h : b ∉ keys l) : bset l b o = l := by
  unfold bset
  refine (List.map_congr_left fun p hp => ?_).trans (List.map_id l)
  rw [if_neg (fun e => h (List.mem_map.2 ⟨p, hp, e⟩))]; rfl
theorem mem_bset {l : Bl} {b : Nat} {o o' : Obj} (h : (b, o) ∈ l) : (b, o') ∈ bset l b o' := List.mem_map.2 ⟨(b, o), h, if_pos rfl⟩
theorem mem_bset_ne {l : Bl} {b c : Nat} {o o' : Obj} (h : (c, o) ∈ l) (hn : c ≠ b) : (c, o) ∈ bset l b o' := List.mem_map.2 ⟨(c, o), h, if_neg hn⟩
theorem bset_set {l : Bl} : ∀ {i : Nat} {b : Nat} {o o' : Obj}, (keys l).Nodup → l[i]? = some (b, o) → l.set i (b, o') = bset l b o' := by
  induction l with
  | nil => intro i b o o' _ h; simp at h
  | cons p l ih =>
    intro i b o o' hn h
    simp only [keys, List.map_cons, List.nodup_cons] at hn
    cases i with
    | zero =>
      simp only [List.getElem?_cons_zero, Option.some.injEq] at h
      subst h
      show (b, o') :: l = _
      unfold bset
      rw [List.map_cons, if_pos rfl]
      congr 1
      exact (bset_out (o := o') hn.1).symm
    | succ i =>
      simp only [List.getElem?_cons_succ] at h
      have hm : b ∈ keys l := List.mem_map.2 ⟨(b, o), List.mem_of_getElem? h, rfl⟩
      show p :: l.set i (b, o') = _
      unfold bset
      rw [List.map_cons, if_neg (fun e => hn.1 (by rw [e]; exact hm)), ih hn.2 h]; rfl
structure ElOk (sT e : TypeId) (sz : Nat) : Prop where
  ex : ∃ info z, Tryz.prog.underlying sT = some (.slice e) ∧ Tryz.prog.info? e = some info ∧ info.size = sz ∧ info.bytes ≤ 64 ∧ info.bytes ≠ 0 ∧ info.zero = some z ∧ z.cells.size = sz
structure Enc (α : Type) where
  sz : Nat
  enc : α → List Value
  len : ∀ x, (enc x).length = sz
  sg : ∀ x v, v ∈ enc x → Value.single v = true
def eI : Enc Int := ⟨1, fun n => [.int .i64 n], fun _ => rfl, fun x v h => by simp at h; subst h; rfl⟩
theorem elI : ElOk ty_s_int ty_int 1 := ⟨⟨_, _, rfl, rfl, rfl, by decide, by decide, rfl, rfl⟩⟩
def Enc.all {α : Type} (E : Enc α) (xs : List α) : List Value := xs.flatMap E.enc
theorem Enc.all_len {α : Type} (E : Enc α) (xs : List α) : (E.all xs).length = xs.length * E.sz := by
  induction xs with
  | nil => simp [Enc.all]
  | cons x xs ih =>
    have : E.all (x :: xs) = E.enc x ++ E.all xs := rfl
    rw [this, List.length_append, ih, E.len]; simp only [List.length_cons]
    rw [Nat.add_mul]; omega
theorem Enc.all_append {α : Type} (E : Enc α) (xs ys : List α) : E.all (xs ++ ys) = E.all xs ++ E.all ys := by simp [Enc.all]
theorem Enc.all_sg {α : Type} (E : Enc α) (xs : List α) : ∀ v ∈ E.all xs, Value.single v = true := by
  intro v hv
  obtain ⟨x, _, h⟩ := List.mem_flatMap.1 hv
  exact E.sg x v h
theorem eI_all (xs : List Int) : eI.all xs = xs.map (Value.int .i64) := by
  induction xs with
  | nil => rfl
  | cons x xs ih => show Value.int .i64 x :: eI.all xs = _; rw [ih]; rfl
def SlOf {α : Type} (l : Bl) (e : TypeId) (E : Enc α) (s : Sl) (xs : List α) : Prop :=
  (s = ⟨none, 0, 0⟩ ∧ xs = []) ∨ ∃ (b : Nat) (rest : List Value) (r : Nat), s = ⟨some ⟨b, 0, none⟩, xs.length, xs.length + r⟩ ∧ rest.length = r * E.sz ∧ (b, oc e (E.all xs ++ rest)) ∈ l
section
variable {α : Type} {E : Enc α} {e : TypeId} {s t : Sl} {xs ys : List α} {l l' : Bl}
theorem SlOf.len (h : SlOf l e E s xs) : s.len = xs.length := by
  rcases h with ⟨rfl, rfl⟩ | ⟨b, rest, r, rfl, _⟩ <;> rfl
theorem SlOf.nil (l : Bl) (e : TypeId) (E : Enc α) : SlOf l e E ⟨none, 0, 0⟩ [] := .inl ⟨rfl, rfl⟩
theorem SlOf.mono (h : SlOf l e E s xs) (hm : ∀ p, p ∈ l → p ∈ l') : SlOf l' e E s xs := by
  rcases h with h | ⟨b, rest, r, h1, h2, h3⟩
  · exact .inl h
  · exact .inr ⟨b, rest, r, h1, h2, hm _ h3⟩
theorem SlOf.keep (h : SlOf l e E s xs) {b : Nat} {o : Obj} (hn : ∀ a, s.a = some a → a.block ≠ b) : SlOf (bset l b o) e E s xs := by
  rcases h with h | ⟨c, rest, r, h1, h2, h3⟩
  · exact .inl h
  · exact .inr ⟨c, rest, r, h1, h2, mem_bset_ne h3 (hn ⟨c, 0, none⟩ (by rw [h1]))⟩
theorem SlOf.take (h : SlOf l e E s xs) {n : Nat} (hn : n ≤ xs.length) : SlOf l e E ⟨s.a, n, s.cap⟩ (xs.take n) := by
  rcases h with ⟨rfl, rfl⟩ | ⟨b, rest, r, rfl, h2, h3⟩
  · have : n = 0 := by simpa using hn
    subst this; exact .inl ⟨rfl, rfl⟩
  · refine .inr ⟨b, E.all (xs.drop n) ++ rest, xs.length - n + r, ?_, ?_, ?_⟩
    · simp only [List.length_take, Sl.mk.injEq, true_and]
      exact ⟨by omega, by omega⟩
    · rw [List.length_append, E.all_len, h2, List.length_drop, Nat.add_mul]
    · rw [← List.append_assoc, ← E.all_append, List.take_append_drop]; exact h3
end
section
variable {L : Hands} {R : Value → Heap → Prop} {A : Ar} {I : List Nat} {l : Bl} {G : Heap}
theorem own_mem (hA : Aw I A) (ok : Ok I G (keys l)) {b : Nat} {o : Obj} (h : (b, o) ∈ l) : own A l G b = some o := by
  obtain ⟨i, hi⟩ := mem_idx h; exact own_get hA ok hi
theorem own_bset (hA : Aw I A) (ok : Ok I G (keys l)) {b : Nat} {o : Obj} (o' : Obj) (h : (b, o) ∈ l) : (own A l G).set b o' = own A (bset l b o') G := by
  obtain ⟨i, hi⟩ := mem_idx h; rw [own_set hA ok o' hi, bset_set ok.nd hi]
theorem keys_append' (l k : Bl) : keys (l ++ k) = keys l ++ keys k := by simp [keys]
theorem own_mid {pre tl : Bl} {p : Nat × Obj} (ok : Ok I G (keys (p :: (pre ++ tl)))) : own A (p :: (pre ++ tl)) G = own A (pre ++ p :: tl) G ∧ Ok I G (keys (pre ++ p :: tl)) := by
  have e : ∀ ks : List Nat, (p.1 :: (keys pre ++ ks)).Nodup → (keys pre ++ p.1 :: ks).Nodup := fun ks h => (List.perm_middle.nodup_iff).2 h
  have ok1 : Ok I G (keys (pre ++ p :: tl)) := by
    have hk : keys (p :: (pre ++ tl)) = p.1 :: (keys pre ++ keys tl) := by simp [keys]
    have hk2 : keys (pre ++ p :: tl) = keys pre ++ p.1 :: keys tl := by simp [keys]
    rw [hk] at ok; rw [hk2]
    exact ok.sub (e _ ok.nd) fun b hb => by
      simp only [List.mem_append, List.mem_cons] at hb ⊢
      rcases hb with h | h | h
      · exact .inr (.inl h)
      · exact .inl h
      · exact .inr (.inr h)
  refine ⟨?_, ok1⟩
  have hget : (pre ++ p :: tl)[pre.length]? = some p := by simp
  have := own_front (A := A) ok1 hget
  rw [this]
  have h2 : (pre ++ p :: tl).eraseIdx pre.length = pre ++ tl := by
    rw [List.eraseIdx_append_of_length_le (Nat.le_refl _)]; simp
  rw [h2]
theorem cell_row {b : Nat} {T : TypeId} {c : List Value} (hA : Aw I A) (ok : Ok I G (keys l)) (h : (b, oc T c) ∈ l) (o : Nat) {cs : List Value} (hc : cs = (c.drop o).take cs.length) : Row (own A l G) (some ⟨b, o, none⟩) cs := by
  intro i hi
  refine ⟨_, rfl, ?_⟩
  rw [Addr.add_mk, Heap.cell_of (own_mem hA ok h), List.getElem?_toArray, hc, List.getElem?_take_of_lt (by rw [hc] at hi; simp at hi ⊢; omega), List.getElem?_drop]
theorem SlOf.row {α : Type} {E : Enc α} {e : TypeId} {s : Sl} {xs : List α} (hA : Aw I A) (ok : Ok I G (keys l)) (h : SlOf l e E s xs) : Row (own A l G) s.a (E.all xs) := by
  rcases h with ⟨rfl, rfl⟩ | ⟨b, rest, r, rfl, h2, h3⟩
  · intro i hi; simp [Enc.all] at hi
  · exact cell_row hA ok h3 0 (by simp)
inductive App (l : Bl) (s : Sl) (l' : Bl) (s' : Sl) : Prop
  | same : l' = l → s' = s → App l s l' s'
  | inpl (b : Nat) (o : Obj) : s.a = some ⟨b, 0, none⟩ → s'.a = s.a → l' = bset l b o → b ∈ keys l → App l s l' s'
  | new (b : Nat) (o : Obj) : s'.a = some ⟨b, 0, none⟩ → l' = (b, o) :: l → b ∉ keys l → App l s l' s'
theorem putAll_mid (x : List Value) : ∀ (pre mid post : List Value), mid.length = x.length → putAll (pre ++ mid ++ post).toArray pre.length x = (pre ++ x ++ post).toArray := by
  induction x with
  | nil => intro pre mid post h; have : mid = [] := List.eq_nil_of_length_eq_zero h; subst this; rfl
  | cons v x ih =>
    intro pre mid post h
    cases mid with
    | nil => simp at h
    | cons m mid =>
      have h' : mid.length = x.length := by simpa using h
      show putAll ((pre ++ m :: mid ++ post).toArray.setIfInBounds pre.length v) (pre.length + 1) x = _
      have e : (pre ++ m :: mid ++ post).toArray.setIfInBounds pre.length v = ((pre ++ [v]) ++ mid ++ post).toArray := by
        apply Array.ext'
        rw [Array.toList_setIfInBounds]
        simp
      rw [e]
      have := ih (pre ++ [v]) mid post h'
      rw [List.length_append] at this
      rw [show pre.length + 1 = pre.length + [v].length from rfl, this]
      simp
theorem w_app {sT e u : TypeId} {α : Type} {E : Enc α} (hE : ElOk sT e E.sz) {xs ys : List α} {s t : Sl} {k : Sl → Tree} (hA : Aw I A) (ok : Ok I G (keys l)) (hs : SlOf l e E s xs) (ht : Row (own A l G) t.a (E.all ys)) (htl : t.len = ys.length) (hm : xs.length + ys.length ≤ 1048576)
    (h : ∀ s' l', SlOf l' e E s' (xs ++ ys) → Ok I G (keys l') → App l s l' s' → wp Tryz.prog (k s') L (own A l' G) R) :
    wp Tryz.prog (.act (opS Tryz.prog (.call { callee := .builtin .append, args := #[(.tmp 0), (.tmp 1)], argTypes := #[sT, sT] }) u [(.slice s.a s.len s.cap), (.slice t.a t.len t.cap)]) (.one (.leaf .slice)) k) L (own A l G) R := by
  obtain ⟨info, z, i1, i2, i3, i4, i5, i6, i7⟩ := hE.ex
  have hln := hs.len
  refine append_gen (info := info) (z := z) (old := E.all xs) (new := E.all ys) i1 i2 i4 i5 i6 (i7.trans i3.symm) (hs.row hA ok) (by rw [E.all_len, hln, i3]) ht (by rw [E.all_len, htl, i3]) (by omega) ?_ ?_
  · intro hc
    by_cases hy : ys = []
    · subst hy
      refine .inl ⟨htl, s, rfl, ?_⟩
      exact h s l (by rw [List.append_nil]; exact hs) ok (.same rfl rfl)
    · rcases hs with ⟨rfl, rfl⟩ | ⟨b, rest, r, rfl, h2, h3⟩
      · have : ys.length = 0 := by rw [htl] at hc; have : 0 + ys.length ≤ 0 := hc; omega
        exact (hy (List.eq_nil_of_length_eq_zero this)).elim
      · have hr : ys.length ≤ r := by
          have : xs.length + t.len ≤ xs.length + r := hc
          omega
        have hmul : ys.length * E.sz ≤ r * E.sz := Nat.mul_le_mul_right _ hr
        refine .inr ⟨b, _, e, rfl, own_mem hA ok h3, ?_, E.all_sg ys, ⟨some ⟨b, 0, none⟩, xs.length + t.len, xs.length + r⟩, rfl, ?_⟩
        · show (xs.length + t.len) * info.size ≤ _
          rw [i3, htl, Nat.add_mul]; simp only [List.size_toArray, List.length_append, E.all_len, h2]; omega
        · have e1 : putAll (E.all xs ++ rest).toArray (xs.length * info.size) (E.all ys) = (E.all (xs ++ ys) ++ rest.drop (ys.length * E.sz)).toArray := by
            have := putAll_mid (E.all ys) (E.all xs) (rest.take (ys.length * E.sz)) (rest.drop (ys.length * E.sz)) (by rw [E.all_len, List.length_take]; omega)
            rw [List.append_assoc, List.take_append_drop, E.all_len] at this
            rw [i3, this, E.all_append]
          have e2 := own_bset (G := G) hA ok (oc e (E.all (xs ++ ys) ++ rest.drop (ys.length * E.sz))) h3
          unfold oc at e2
          show wp Tryz.prog _ L ((own A l G).set b (.cells (putAll (E.all xs ++ rest).toArray (xs.length * info.size) (E.all ys)) e (0, 0))) R
          rw [e1, e2]
          refine h _ _ (.inr ⟨b, rest.drop (ys.length * E.sz), r - ys.length, ?_, ?_, mem_bset h3⟩) (by rw [keys_bset]; exact ok) (.inpl b _ rfl rfl rfl (List.mem_map.2 ⟨_, h3, rfl⟩))
          · simp only [List.length_append, Sl.mk.injEq, true_and]; omega
          · rw [List.length_drop, h2, ← Nat.sub_mul]
  · intro hc b rest r hb hr
    obtain ⟨o1, o2⟩ := own_new hA ok hb (oc e (E.all xs ++ E.all ys ++ rest))
    refine ⟨⟨some ⟨b, 0, none⟩, s.len + t.len, s.len + t.len + r⟩, rfl, ?_⟩
    show wp Tryz.prog _ L ((own A l G).set b (oc e (E.all xs ++ E.all ys ++ rest))) R
    rw [o2]
    refine h _ _ (.inr ⟨b, rest, r, ?_, by rw [hr, i3], ?_⟩) o1 (.new b _ rfl rfl (own_none hA hb).2.1)
    · rw [hln, htl, List.length_append]
    · rw [E.all_append]; exact List.mem_cons_self
theorem w_appT {sT e u : TypeId} {α : Type} {E : Enc α} (hE : ElOk sT e E.sz) {xs ys : List α} {s t : Sl} {k : Sl → Tree} {pre tl : Bl} (hA : Aw I A) (ok : Ok I G (keys (pre ++ tl))) (hs : SlOf tl e E s xs) (ht : Row (own A (pre ++ tl) G) t.a (E.all ys)) (htl : t.len = ys.length) (hm : xs.length + ys.length ≤ 1048576)
    (h : ∀ s' tl', SlOf tl' e E s' (xs ++ ys) → Ok I G (keys (pre ++ tl')) → App tl s tl' s' → wp Tryz.prog (k s') L (own A (pre ++ tl') G) R) :
    wp Tryz.prog (.act (opS Tryz.prog (.call { callee := .builtin .append, args := #[(.tmp 0), (.tmp 1)], argTypes := #[sT, sT] }) u [(.slice s.a s.len s.cap), (.slice t.a t.len t.cap)]) (.one (.leaf .slice)) k) L (own A (pre ++ tl) G) R := by
  have okt : (keys pre ++ keys tl).Nodup := by rw [← keys_append']; exact ok.nd
  refine w_app hE hA ok (hs.mono fun p hp => List.mem_append_right _ hp) ht htl hm fun s' l' hs' ok' ap => ?_
  cases ap with
  | same h1 h2 =>
    subst h1; subst h2
    refine h s' tl ?_ ok (.same rfl rfl)
    rcases hs with ⟨q1, q2⟩ | ⟨b, rest, r, q1, q2, q3⟩
    · subst q1; subst q2
      rcases hs' with h | ⟨b, rest, r, h1, _⟩
      · exact .inl h
      · cases h1
    · have hl := hs'.len
      have : (xs ++ ys).length = xs.length := by rw [← hl, q1]
      have hy : ys = [] := by simp at this; exact this
      subst hy; rw [List.append_nil]; exact .inr ⟨b, rest, r, q1, q2, q3⟩
  | inpl b o h1 h2 h3 h4 =>
    have hbt : b ∈ keys tl := by
      rcases hs with ⟨q1, _⟩ | ⟨c, rest, r, q1, q2, q3⟩
      · rw [q1] at h1; cases h1
      · rw [q1] at h1; cases h1; exact List.mem_map.2 ⟨_, q3, rfl⟩
    have hbp : b ∉ keys pre := fun hp => (List.nodup_append.1 okt).2.2 b hp b hbt rfl
    rw [bset_append, bset_out hbp] at h3
    subst h3
    refine h s' _ ?_ ok' (.inpl b o h1 h2 rfl hbt)
    rcases hs' with q | ⟨c, rest, r, q1, q2, q3⟩
    · exact .inl q
    · refine .inr ⟨c, rest, r, q1, q2, ?_⟩
      rcases List.mem_append.1 q3 with m | m
      · exfalso
        have : c = b := by rw [q1, h1] at h2; cases h2; rfl
        exact hbp (this ▸ List.mem_map.2 ⟨_, m, rfl⟩)
      · exact m
  | new b o h1 h2 h3 =>
    subst h2
    obtain ⟨m1, m2⟩ := own_mid (A := A) ok'
    rw [m1]
    have hbp : b ∉ keys pre := fun hp => h3 (by rw [keys_append']; exact List.mem_append_left _ hp)
    have hbt : b ∉ keys tl := fun hp => h3 (by rw [keys_append']; exact List.mem_append_right _ hp)
    refine h s' ((b, o) :: tl) ?_ m2 (.new b o h1 rfl hbt)
    rcases hs' with q | ⟨c, rest, r, q1, q2, q3⟩
    · exact .inl q
    · refine .inr ⟨c, rest, r, q1, q2, ?_⟩
      rcases List.mem_cons.1 q3 with m | m
      · rw [m]; exact List.mem_cons_self
      · rcases List.mem_append.1 m with m | m
        · exfalso
          have : c = b := by rw [q1] at h1; cases h1; rfl
          exact hbp (this ▸ List.mem_map.2 ⟨_, m, rfl⟩)
        · exact List.mem_cons_of_mem _ m
end
theorem Aw.Pu {I : List Nat} {A : Ar} (h : Aw I A) (x : Pu) : Aw I (x.stepA A) := by
  unfold Pu.stepA; split
  · exact h.storeR _ _
  · split
    · exact h.swapR _ _ _
    · split
      · exact h
      · exact h.touchR _
theorem Aw.Po {I : List Nat} {A : Ar} (h : Aw I A) (x : Po) : Aw I (x.stepA A) := by
  unfold Po.stepA; split
  · exact h.touchR _
  · split
    · exact h.swapR _ _ _
    · split
      · exact h
      · exact h.touchR _
theorem Pu.fin (x : Pu) (A : Ar) : decide ((x.stepM A).at' = 3) = x.stepB A := by
  unfold Pu.stepM Pu.stepB
  by_cases h1 : x.at' = 1
  · rw [if_pos h1, if_neg (by omega)]
    have : ¬ x.at' = 3 := by omega
    rw [decide_eq_false this]; rfl
  · rw [if_neg h1]
    by_cases h2 : x.at' = 2
    · rw [if_pos h2, if_pos h2]; cases A.swapRb x.head x.was <;> rfl
    · rw [if_neg h2, if_neg h2]
      by_cases h3 : x.at' = 3
      · rw [if_pos h3]
      · rw [if_neg h3, decide_eq_false h3]; rfl
theorem Po.fin (x : Po) (A : Ar) : decide ((x.stepM A).at' = 3) = x.stepB A := by
  unfold Po.stepM Po.stepB
  by_cases h1 : x.at' = 1
  · rw [if_pos h1, if_pos h1]; rfl
  · rw [if_neg h1, if_neg h1]
    by_cases h2 : x.at' = 2
    · rw [if_pos h2, if_pos h2]; cases A.swapRb x.head x.was <;> rfl
    · rw [if_neg h2, if_neg h2]
      by_cases h3 : x.at' = 3
      · rw [if_pos h3, if_pos h3, decide_eq_true h3]
      · rw [if_neg h3, if_neg h3]
        by_cases h4 : iand (A.rawF x.head) 131071 = 0
        · show decide ((if _ then (3 : Int) else 1) = 3) = _
          rw [if_pos h4, decide_eq_true h4]; rfl
        · show decide ((if _ then (3 : Int) else 1) = 3) = _
          rw [if_neg h4, decide_eq_false h4]; rfl
section
variable {L : Hands} {R : Value → Heap → Prop} {A : Ar} {I : List Nat} {l : Bl} {G : Heap}
theorem out_of (hA : Aw I A) (ok : Ok I G (keys l)) {i q : Nat} {o : Obj} (h : l[i]? = some (q, o)) : q ∉ A.ids := by
  rw [hA.ids]; exact ok.out q (List.mem_map.2 ⟨(q, o), List.mem_of_getElem? h, rfl⟩)
theorem Push_own (hA : Aw I A) (ok : Ok I G (keys l)) (x : Pu) (i0 i1 : Nat) {q0 q1 : Nat} (h0 : l[i0]? = some (q0, pushObj q1)) (h1 : l[i1]? = some (q1, x.obj)) :
    Det Tryz.prog f_free_Push_Step [.pointer (some ⟨q0, 0, none⟩), .pointer (aI I)] (own A l G) (.bool (x.stepB A)) (own (x.stepA A) (l.set i1 (q1, (x.stepM A).obj)) G) := by
  have := Push_det hA.wf x (out_of hA ok h0) (out_of hA ok h1) (putL_get G ok.nd h0) (putL_get G ok.nd h1)
  rw [putL_set G ok.nd h1] at this
  rw [hA.pA]; exact this
theorem Pop_own (hA : Aw I A) (ok : Ok I G (keys l)) (x : Po) (i0 i1 : Nat) {q0 q1 : Nat} (h0 : l[i0]? = some (q0, popObj q1)) (h1 : l[i1]? = some (q1, x.obj)) :
    Det Tryz.prog f_free_Pop_Step [.pointer (some ⟨q0, 0, none⟩), .pointer (aI I)] (own A l G) (.bool (x.stepB A)) (own (x.stepA A) (l.set i1 (q1, (x.stepM A).obj)) G) := by
  have := Pop_det hA.wf x (out_of hA ok h0) (out_of hA ok h1) (putL_get G ok.nd h0) (putL_get G ok.nd h1)
  rw [putL_set G ok.nd h1] at this
  rw [hA.pA]; exact this
theorem Base_own (hA : Aw I A) (ok : Ok I G (keys l)) (x : Po) (i0 i1 : Nat) {q0 q1 : Nat} (h0 : l[i0]? = some (q0, popObj q1)) (h1 : l[i1]? = some (q1, x.obj)) :
    Det Tryz.prog f_free_Pop_Base [.pointer (some ⟨q0, 0, none⟩)] (own A l G) (.tuple #[.int .i64 x.base, .bool x.ok]) (own A l G) :=
  Base_det x (out_of hA ok h0) (out_of hA ok h1) (putL_get G ok.nd h0) (putL_get G ok.nd h1)
theorem w_PushStep (i0 i1 : Nat) {q0 q1 : Nat} {x : Pu} {k : Bool → Tree} (hA : Aw I A) (ok : Ok I G (keys l)) (h0 : l[i0]? = some (q0, pushObj q1)) (h1 : l[i1]? = some (q1, x.obj))
    (h : Aw I (x.stepA A) → wp Tryz.prog (k (x.stepB A)) L (own (x.stepA A) (l.set i1 (q1, (x.stepM A).obj)) G) R) :
    wp Tryz.prog (.call f_free_Push_Step [.pointer (some ⟨q0, 0, none⟩), .pointer (aI I)] (.one (.leaf .bool)) k) L (own A l G) R := wp_call_det (x := x.stepB A) (Push_own hA ok x i0 i1 h0 h1) (h (hA.Pu x))
theorem w_PopStep (i0 i1 : Nat) {q0 q1 : Nat} {x : Po} {k : Bool → Tree} (hA : Aw I A) (ok : Ok I G (keys l)) (h0 : l[i0]? = some (q0, popObj q1)) (h1 : l[i1]? = some (q1, x.obj))
    (h : Aw I (x.stepA A) → wp Tryz.prog (k (x.stepB A)) L (own (x.stepA A) (l.set i1 (q1, (x.stepM A).obj)) G) R) :
    wp Tryz.prog (.call f_free_Pop_Step [.pointer (some ⟨q0, 0, none⟩), .pointer (aI I)] (.one (.leaf .bool)) k) L (own A l G) R := wp_call_det (x := x.stepB A) (Pop_own hA ok x i0 i1 h0 h1) (h (hA.Po x))
theorem w_Base (i0 i1 : Nat) {q0 q1 : Nat} {x : Po} {k : HL Sh1.T [(.leaf (.int .i64)), (.leaf .bool)] → Tree} (hA : Aw I A) (ok : Ok I G (keys l)) (h0 : l[i0]? = some (q0, popObj q1)) (h1 : l[i1]? = some (q1, x.obj))
    (h : wp Tryz.prog (k (x.base, x.ok, ())) L (own A l G) R) :
    wp Tryz.prog (.call f_free_Pop_Base [.pointer (some ⟨q0, 0, none⟩)] (.tup [(.leaf (.int .i64)), (.leaf .bool)]) k) L (own A l G) R := wp_call_det (x := (x.base, x.ok, ())) (Base_own hA ok x i0 i1 h0 h1) h
theorem ok2 (hA : Aw I A) (ok : Ok I G (keys l)) {q0 q1 : Nat} {o0 o1 : Obj} (h0 : own A l G q0 = none) (h1 : own A l G q1 = none) (hn : q0 ≠ q1) :
    Ok I G (keys ((q0, o0) :: (q1, o1) :: l)) ∧ ((own A l G).set q1 o1).set q0 o0 = own A ((q0, o0) :: (q1, o1) :: l) G := by
  obtain ⟨a1, a2⟩ := own_new hA ok h1 o1
  have : own A ((q1, o1) :: l) G q0 = none := by rw [← a2, Heap.set_ne _ _ hn]; exact h0
  obtain ⟨b1, b2⟩ := own_new hA a1 this o0
  exact ⟨b1, by rw [a2, b2]⟩
theorem w_NewPop {p : Pl} {w c : Int} {k : Option Addr → Tree} (hA : Aw I A) (ok : Ok I G (keys l)) (h : ∀ q0 q1, Ok I G (keys ((q0, popObj q1) :: (q1, Po.obj ⟨p, headF p w c, 0, 0, 0, 0, false⟩) :: l)) →
      wp Tryz.prog (k (some ⟨q0, 0, none⟩)) L (own A ((q0, popObj q1) :: (q1, Po.obj ⟨p, headF p w c, 0, 0, 0, 0, false⟩) :: l) G) R) :
    wp Tryz.prog (.call f_free_NewPop [p.val, .int .i64 w, .int .i64 c] (.one (.leaf .ptr)) k) L (own A l G) R := by
  refine wp_call_of (NewPop_spec p w c _) ?_
  rintro v K ⟨q0, q1, h0, h1, hn, rfl, rfl⟩
  obtain ⟨a, b⟩ := ok2 hA ok (o0 := popObj q1) (o1 := Po.obj ⟨p, headF p w c, 0, 0, 0, 0, false⟩) h0 h1 hn
  exact ⟨_, rfl, by rw [b]; exact h q0 q1 a⟩
theorem w_NewPush {p : Pl} {w c b : Int} {k : Option Addr → Tree} (hA : Aw I A) (ok : Ok I G (keys l)) (h : ∀ q0 q1, Ok I G (keys ((q0, pushObj q1) :: (q1, Pu.obj ⟨p, headF p w c, 0, 0, b⟩) :: l)) →
      wp Tryz.prog (k (some ⟨q0, 0, none⟩)) L (own A ((q0, pushObj q1) :: (q1, Pu.obj ⟨p, headF p w c, 0, 0, b⟩) :: l) G) R) :
    wp Tryz.prog (.call f_free_NewPush [p.val, .int .i64 w, .int .i64 c, .int .i64 b] (.one (.leaf .ptr)) k) L (own A l G) R := by
  refine wp_call_of (NewPush_spec p w c b _) ?_
  rintro v K ⟨q0, q1, h0, h1, hn, rfl, rfl⟩
  obtain ⟨a, e⟩ := ok2 hA ok (o0 := pushObj q1) (o1 := Pu.obj ⟨p, headF p w c, 0, 0, b⟩) h0 h1 hn
  exact ⟨_, rfl, by rw [e]; exact h q0 q1 a⟩
end
theorem chain_frame {A B : Ar} {lk : Int} (hr : ∀ i, B.rawOk i ↔ A.rawOk i) : ∀ (l : List Int) (f : Int), (∀ x ∈ l, B.rawF (lk + x / 8) = A.rawF (lk + x / 8)) → chain A lk f l → chain B lk f l
  | [], f, _, hc => hc
  | b :: l, f, h, hc => by
    obtain ⟨h1, h2, h3, h4, h5⟩ := hc
    have e : lk + f - 1 = lk + b / 8 := by omega
    refine ⟨h1, h2, h3, (hr _).2 h4, ?_⟩
    have hb := h b List.mem_cons_self
    rw [← e] at hb
    rw [hb]
    exact chain_frame hr l _ (fun x hx => h x (List.mem_cons_of_mem _ hx)) h5
theorem chain_head {A : Ar} {lk f : Int} {l : List Int} (h : chain A lk f l) : f = match l with | [] => 0 | b :: _ => b / 8 + 1 := by
  cases l with
  | nil => exact h
  | cons b l => obtain ⟨h1, h2, h3, _⟩ := h; show f = b / 8 + 1; omega
theorem chain_push {A : Ar} {lk hd b f : Int} {l : List Int} (hc : chain A lk f l) (hf : iand (A.rawF hd) 131071 = f) (f0 : 0 ≤ f ∧ f < 131072) (b0 : 0 ≤ b ∧ b ≤ 800000 ∧ b % 8 = 0) (o1 : A.rawOk hd) (o2 : A.rawOk (lk + b / 8)) (hne : hd ≠ lk + b / 8) (h0 : 0 ≤ A.rawF hd ∧ A.rawF hd < 4611686018427387904)
    (hl : ∀ x ∈ l, x ≠ b ∧ x % 8 = 0 ∧ A.rawOk (lk + x / 8) ∧ lk + x / 8 ≠ hd) :
    chain (A.pushed hd (lk + b / 8) b) lk (iand ((A.pushed hd (lk + b / 8) b).rawF hd) 131071) (b :: l) ∧ (A.pushed hd (lk + b / 8) b).rawF hd = (A.rawF hd / 131072 + 1) * 131072 + (b / 8 + 1) := by
  have td : Int.tdiv b 8 = b / 8 := Int.tdiv_eq_ediv_of_nonneg b0.1
  have e1 : w64 (w64 (Int.tdiv b 8) + 1) = b / 8 + 1 := by rw [td, w64_in (x := b / 8) (by omega) (by omega), w64_in (by omega) (by omega)]
  have eh : (A.pushed hd (lk + b / 8) b).rawF hd = (A.rawF hd / 131072 + 1) * 131072 + (b / 8 + 1) := by
    rw [rawF_pushed o1 o2 o1, if_pos rfl, e1, nextF_eq h0.1 h0.2 (by omega) (by omega)]
  refine ⟨?_, eh⟩
  rw [eh, mask17]
  have em : ((A.rawF hd / 131072 + 1) * 131072 + (b / 8 + 1)) % 131072 = b / 8 + 1 := by omega
  rw [em]
  have el : (A.pushed hd (lk + b / 8) b).rawF (lk + b / 8) = f := by
    rw [rawF_pushed o1 o2 o2, if_neg (Ne.symm hne), if_pos rfl, hf]
  refine ⟨by omega, by omega, by omega, ?_, ?_⟩
  · rw [show lk + (b / 8 + 1) - 1 = lk + b / 8 by omega]; exact pushed_ok.2 o2
  · rw [show lk + (b / 8 + 1) - 1 = lk + b / 8 by omega, el]
    refine chain_frame (fun i => pushed_ok) l f (fun x hx => ?_) hc
    obtain ⟨h1, h2, h3, h4⟩ := hl x hx
    rw [rawF_pushed o1 o2 h3, if_neg h4, if_neg (by omega)]
theorem chain_pop {A : Ar} {lk hd b : Int} {l : List Int} (hc : chain A lk (iand (A.rawF hd) 131071) (b :: l)) (o1 : A.rawOk hd) (h0 : 0 ≤ A.rawF hd ∧ A.rawF hd < 4611686018427387904)
    (hl : ∀ x ∈ b :: l, x % 8 = 0 ∧ 0 ≤ x ∧ x ≤ 800000 ∧ A.rawOk (lk + x / 8) ∧ lk + x / 8 ≠ hd) :
    iand (A.rawF hd) 131071 = b / 8 + 1 ∧ chain (A.popped hd (lk + b / 8)) lk (iand ((A.popped hd (lk + b / 8)).rawF hd) 131071) l ∧
    (A.popped hd (lk + b / 8)).rawF hd = (A.rawF hd / 131072 + 1) * 131072 + A.rawF (lk + b / 8) ∧ 0 ≤ A.rawF (lk + b / 8) ∧ A.rawF (lk + b / 8) < 131072 := by
  obtain ⟨h1, h2, h3, h4, h5⟩ := hc
  have hf : iand (A.rawF hd) 131071 = b / 8 + 1 := by omega
  have ei : lk + iand (A.rawF hd) 131071 - 1 = lk + b / 8 := by omega
  rw [ei] at h4 h5
  have hh := chain_head h5
  have bd : 0 ≤ A.rawF (lk + b / 8) ∧ A.rawF (lk + b / 8) < 131072 := by
    cases l with
    | nil => rw [show A.rawF (lk + b / 8) = 0 from hh]; omega
    | cons y l =>
      have := hl y (by simp)
      rw [show A.rawF (lk + b / 8) = y / 8 + 1 from hh]; omega
  have eh : (A.popped hd (lk + b / 8)).rawF hd = (A.rawF hd / 131072 + 1) * 131072 + A.rawF (lk + b / 8) := by
    rw [rawF_popped o1 o1, if_pos rfl, nextF_eq h0.1 h0.2 bd.1 bd.2]
  refine ⟨hf, ?_, eh, bd.1, bd.2⟩
  rw [eh, mask17]
  have em : ((A.rawF hd / 131072 + 1) * 131072 + A.rawF (lk + b / 8)) % 131072 = A.rawF (lk + b / 8) := by omega
  rw [em]
  refine chain_frame (fun i => popped_ok) l _ (fun x hx => ?_) h5
  obtain ⟨g1, g2, g3, g4, g5⟩ := hl x (List.mem_cons_of_mem _ hx)
  rw [rawF_popped o1 g4, if_neg g5]
def upd (ch : Int → List Int) (k : Int) (l : List Int) : Int → List Int := fun j => if j = k then l else ch j
structure FL (A : Ar) (p : Pl) (w n : Int) (ch : Int → List Int) : Prop where
  heads : p.heads = 0
  links : p.links = 4 * w
  wb : 0 ≤ w ∧ w ≤ 1000
  nb : 0 ≤ n ∧ n ≤ 10000
  len : 4 * w + n ≤ A.raw.length
  us : 0 ≤ A.uses
  hd : ∀ k, 0 ≤ k → k < 4 * w → 0 ≤ A.rawF k ∧ A.rawF k / 131072 ≤ A.uses
  chn : ∀ k, 0 ≤ k → k < 4 * w → chain A (4 * w) (A.rawF k % 131072) (ch k)
  mem : ∀ k b, b ∈ ch k → 0 ≤ b ∧ b % 8 = 0 ∧ b / 8 < n
  nd : ∀ k, (ch k).Nodup
  dj : ∀ k j b, b ∈ ch k → b ∈ ch j → k = j
  rg : ∀ k, ch k ≠ [] → 0 ≤ k ∧ k < 4 * w
section
variable {A B : Ar} {p : Pl} {w n : Int} {ch : Int → List Int}
theorem FL.hdOk (F : FL A p w n ch) {k : Int} (h0 : 0 ≤ k) (h1 : k < 4 * w) : A.rawOk k := ⟨h0, by have := F.len; have := F.nb; omega⟩
theorem FL.lkOk (F : FL A p w n ch) {b : Int} (h0 : 0 ≤ b) (h1 : b / 8 < n) : A.rawOk (4 * w + b / 8) := ⟨by have := F.wb; omega, by have := F.len; omega⟩
theorem FL.first_nil (F : FL A p w n ch) {k : Int} (h0 : 0 ≤ k) (h1 : k < 4 * w) (h : ch k = []) : A.rawF k % 131072 = 0 := by
  have := F.chn k h0 h1; rw [h] at this; exact this
theorem FL.first_cons (F : FL A p w n ch) {k b : Int} {l : List Int} (h0 : 0 ≤ k) (h1 : k < 4 * w) (h : ch k = b :: l) : A.rawF k % 131072 = b / 8 + 1 := by
  have := F.chn k h0 h1; rw [h] at this; exact chain_head this
theorem FL.congr (F : FL A p w n ch) (hr : ∀ i, 0 ≤ i → i < 4 * w + n → B.rawF i = A.rawF i) (hl : B.raw.length = A.raw.length) (hu : A.uses ≤ B.uses) : FL B p w n ch where
  heads := F.heads
  links := F.links
  wb := F.wb
  nb := F.nb
  len := by rw [hl]; exact F.len
  us := by have := F.us; omega
  hd k h0 h1 := by
    have := F.hd k h0 h1
    have := F.nb
    rw [hr k h0 (by omega)]; omega
  chn k h0 h1 := by
    have := F.nb
    rw [hr k h0 (by omega)]
    refine chain_frame (fun i => by unfold Ar.rawOk; rw [hl]) _ _ (fun x hx => ?_) (F.chn k h0 h1)
    obtain ⟨a, b, c⟩ := F.mem k x hx
    have := F.wb
    exact hr _ (by omega) (by omega)
  mem := F.mem
  nd := F.nd
  dj := F.dj
  rg := F.rg
theorem mod17 {x : Int} : iand x 131071 = x % 131072 := mask17 x
theorem FL.push (F : FL A p w n ch) (hu : A.uses ≤ 1000000000) {k b : Int} (h0 : 0 ≤ k) (h1 : k < 4 * w) (hb : 0 ≤ b ∧ b % 8 = 0 ∧ b / 8 < n) (hn : ∀ j, b ∉ ch j) :
    FL (A.pushed k (4 * w + b / 8) b) p w n (upd ch k (b :: ch k)) := by
  have wb := F.wb
  have nb := F.nb
  have o1 := F.hdOk h0 h1
  have o2 := F.lkOk hb.1 hb.2.2
  have hk := F.hd k h0 h1
  have us := F.us
  have td : Int.tdiv b 8 = b / 8 := Int.tdiv_eq_ediv_of_nonneg hb.1
  have e1 : w64 (w64 (Int.tdiv b 8) + 1) = b / 8 + 1 := by rw [td, w64_in (x := b / 8) (by omega) (by omega), w64_in (by omega) (by omega)]
  have hc := chain_push (A := A) (lk := 4 * w) (hd := k) (b := b) (f := A.rawF k % 131072) (l := ch k) (F.chn k h0 h1) mod17 (by omega) (by omega) o1 o2 (by omega) (by omega) (fun x hx => by
    obtain ⟨a1, a2, a3⟩ := F.mem k x hx
    exact ⟨fun e => hn k (e ▸ hx), a2, F.lkOk a1 a3, by omega⟩)
  have hother : ∀ i, i ≠ k → i ≠ 4 * w + b / 8 → A.rawOk i → (A.pushed k (4 * w + b / 8) b).rawF i = A.rawF i := fun i i1 i2 io => by rw [rawF_pushed o1 o2 io, if_neg i1, if_neg i2]
  refine ⟨F.heads, F.links, F.wb, F.nb, ?_, ?_, ?_, ?_, ?_, ?_, ?_, ?_⟩
  · have := F.len; unfold Ar.pushed; simp only [List.length_set]; exact this
  · show 0 ≤ A.uses + 3; omega
  · intro j j0 j1
    show _ ∧ _ ≤ A.uses + 3
    by_cases e : j = k
    · subst e; rw [hc.2]; omega
    · rw [hother j e (by omega) (F.hdOk j0 j1)]; have := F.hd j j0 j1; omega
  · intro j j0 j1
    unfold upd
    by_cases e : j = k
    · subst e; rw [if_pos rfl]; have := hc.1; rw [mod17] at this; exact this
    · rw [if_neg e, hother j e (by omega) (F.hdOk j0 j1)]
      refine chain_frame (fun i => pushed_ok) _ _ (fun x hx => ?_) (F.chn j j0 j1)
      obtain ⟨a1, a2, a3⟩ := F.mem j x hx
      exact hother _ (by omega) (by
        have : x ≠ b := fun e => hn j (e ▸ hx)
        omega) (F.lkOk a1 a3)
  · intro j x hx
    unfold upd at hx
    split at hx
    · rcases List.mem_cons.1 hx with rfl | hx
      · exact hb
      · exact F.mem k x hx
    · exact F.mem j x hx
  · intro j
    unfold upd
    split
    · exact List.nodup_cons.2 ⟨hn k, F.nd k⟩
    · exact F.nd j
  · intro i j x hi hj
    unfold upd at hi hj
    split at hi
    · rename_i ei
      split at hj
      · rename_i ej; omega
      · rcases List.mem_cons.1 hi with rfl | hi
        · exact (hn j hj).elim
        · rw [ei]; exact F.dj k j x hi hj
    · split at hj
      · rename_i ej
        rcases List.mem_cons.1 hj with rfl | hj
        · exact (hn i hi).elim
        · rw [ej]; exact F.dj i k x hi hj
      · exact F.dj i j x hi hj
  · intro j hj
    unfold upd at hj
    split at hj
    · rename_i e; rw [e]; exact ⟨h0, h1⟩
    · exact F.rg j hj
theorem FL.pop (F : FL A p w n ch) (hu : A.uses ≤ 1000000000) {k b : Int} {l : List Int} (hk : ch k = b :: l) :
    FL (A.popped k (4 * w + b / 8)) p w n (upd ch k l) := by
  obtain ⟨h0, h1⟩ := F.rg k (by rw [hk]; simp)
  have wb := F.wb
  have nb := F.nb
  have o1 := F.hdOk h0 h1
  have hm := F.mem k b (by rw [hk]; simp)
  have o2 := F.lkOk hm.1 hm.2.2
  have hkd := F.hd k h0 h1
  have us := F.us
  have hch := F.chn k h0 h1
  rw [hk] at hch
  have hc := chain_pop (A := A) (lk := 4 * w) (hd := k) (b := b) (l := l) (by rw [mod17]; exact hch) o1 (by omega) (fun x hx => by
    obtain ⟨a1, a2, a3⟩ := F.mem k x (by rw [hk]; exact hx)
    exact ⟨a2, a1, by omega, F.lkOk a1 a3, by omega⟩)
  have hother : ∀ i, i ≠ k → A.rawOk i → (A.popped k (4 * w + b / 8)).rawF i = A.rawF i := fun i i1 io => by rw [rawF_popped o1 io, if_neg i1]
  have hsub : ∀ j x, x ∈ upd ch k l j → x ∈ ch j := fun j x hx => by
    unfold upd at hx; split at hx
    · rename_i e; rw [e, hk]; exact List.mem_cons_of_mem _ hx
    · exact hx
  refine ⟨F.heads, F.links, F.wb, F.nb, ?_, ?_, ?_, ?_, ?_, ?_, ?_, ?_⟩
  · have := F.len; unfold Ar.popped; simp only [List.length_set]; exact this
  · show 0 ≤ A.uses + 3; omega
  · intro j j0 j1
    show _ ∧ _ ≤ A.uses + 3
    by_cases e : j = k
    · subst e; rw [hc.2.2.1]; omega
    · rw [hother j e (F.hdOk j0 j1)]; have := F.hd j j0 j1; omega
  · intro j j0 j1
    unfold upd
    by_cases e : j = k
    · subst e; rw [if_pos rfl]; have := hc.2.1; rw [mod17] at this; exact this
    · rw [if_neg e, hother j e (F.hdOk j0 j1)]
      refine chain_frame (fun i => popped_ok) _ _ (fun x hx => ?_) (F.chn j j0 j1)
      obtain ⟨a1, a2, a3⟩ := F.mem j x hx
      exact hother _ (by omega) (F.lkOk a1 a3)
  · exact fun j x hx => F.mem j x (hsub j x hx)
  · intro j
    unfold upd
    split
    · have := F.nd k; rw [hk] at this; exact (List.nodup_cons.1 this).2
    · exact F.nd j
  · exact fun i j x hi hj => F.dj i j x (hsub i x hi) (hsub j x hj)
  · intro j hj
    unfold upd at hj
    split at hj
    · rename_i e; rw [e]; exact ⟨h0, h1⟩
    · exact F.rg j hj
theorem FL.push_other (F : FL A p w n ch) {k b i : Int} (h0 : 0 ≤ k) (h1 : k < 4 * w) (hb : 0 ≤ b ∧ b % 8 = 0 ∧ b / 8 < n) (hi : 4 * w + n ≤ i) : (A.pushed k (4 * w + b / 8) b).rawF i = A.rawF i := by
  have wb := F.wb
  by_cases io : A.rawOk i
  · rw [rawF_pushed (F.hdOk h0 h1) (F.lkOk hb.1 hb.2.2) io, if_neg (by have := F.nb; omega), if_neg (by omega)]
  · unfold Ar.rawF; rw [if_neg io, if_neg (fun h => io (pushed_ok.1 h))]
theorem FL.pop_other (F : FL A p w n ch) {k b i : Int} (h0 : 0 ≤ k) (h1 : k < 4 * w) (hi : 4 * w + n ≤ i) : (A.popped k (4 * w + b / 8)).rawF i = A.rawF i := by
  by_cases io : A.rawOk i
  · rw [rawF_popped (F.hdOk h0 h1) io, if_neg (by have := F.nb; omega)]
  · unfold Ar.rawF; rw [if_neg io, if_neg (fun h => io (popped_ok.1 h))]
end
structure Ok0 (G : Heap) (ks : List Nat) : Prop where
  nd : ks.Nodup
  no : ∀ b ∈ ks, G b = none
section
variable {L : Hands} {R : Value → Heap → Prop} {l : Bl} {G : Heap}
theorem p_new (ok : Ok0 G (keys l)) {b : Nat} (h : putL l G b = none) (o : Obj) : Ok0 G (keys ((b, o) :: l)) := by
  obtain ⟨h1, h2⟩ := putL_none h
  refine ⟨?_, ?_⟩
  · simp only [keys, List.map_cons, List.nodup_cons]; exact ⟨h1, ok.nd⟩
  · intro c hc
    simp only [keys, List.map_cons, List.mem_cons] at hc
    rcases hc with rfl | hc
    · exact h2
    · exact ok.no c hc
theorem p_newP {c : List Value} {T : TypeId} {k : Addr → Tree} (ok : Ok0 G (keys l)) (h : ∀ b, Ok0 G (keys ((b, oc T c) :: l)) → wp Tryz.prog (k ⟨b, 0, none⟩) L (putL ((b, oc T c) :: l) G) R) :
    wp Tryz.prog (.newP (.cells c.toArray T) k) L (putL l G) R := wp_newP fun b hb => h b (p_new ok hb _)
theorem p_stA (i : Nat) {a : Addr} {b n : Nat} {T : TypeId} {c : List Value} {vs : List Value} {k : Tree} (ok : Ok0 G (keys l)) (ha : a = ⟨b, n, none⟩) (hi : l[i]? = some (b, oc T c)) (hs : vs.all Value.single = true) (hn : (decide (n + vs.length ≤ c.length)) = true)
    (h : wp Tryz.prog k L (putL (l.set i (b, oc T (setAll c n vs))) G) R) : wp Tryz.prog (.stA a vs k) L (putL l G) R := by
  subst ha
  have hn := of_decide_eq_true hn
  refine wp_stA_of (putL_get G ok.nd hi) (by simpa using hn) (fun v hv => List.all_eq_true.1 hs v hv) ?_
  rw [putL_set G ok.nd hi, setAll_put]; exact h
theorem p_ldA (i : Nat) {a : Addr} {b n : Nat} {T : TypeId} {c : List Value} {ls : List Leaf} {k : HL Leaf.T ls → Tree} {x : HL Leaf.T ls} (ok : Ok0 G (keys l)) (ha : a = ⟨b, n, none⟩) (hi : l[i]? = some (b, oc T c)) (hx : Lf.decs ls (c.drop n) = some x)
    (h : wp Tryz.prog (k x) L (putL l G) R) (hn : decide (n ≤ c.length) = true := by rfl) : wp Tryz.prog (.ldA a ls k) L (putL l G) R := by
  subst ha
  have hn := of_decide_eq_true hn
  obtain ⟨h1, h2⟩ := Lf.decs_ok hx
  rw [List.length_drop] at h1
  refine wp_ldA_of (x := x) (putL_get G ok.nd hi) (by simp; omega) ?_ h
  rw [← h2]; simp [List.extract_eq_take_drop]
theorem p_ld (i : Nat) {a : Addr} {b n : Nat} {T : TypeId} {c : List Value} {lf : Leaf} {k : lf.T → Tree} {x : lf.T} (ok : Ok0 G (keys l)) (ha : a = ⟨b, n, none⟩) (hi : l[i]? = some (b, oc T c)) (hx : (c[n]?).bind (Lf.dec lf) = some x)
    (h : wp Tryz.prog (k x) L (putL l G) R) : wp Tryz.prog (.ld a lf k) L (putL l G) R := by
  subst ha
  refine wp_ld_of (x := x) ?_ h
  rw [Heap.cell_of (putL_get G ok.nd hi), List.getElem?_toArray]
  cases hc : c[n]? with
  | none => rw [hc] at hx; cases hx
  | some v => rw [hc] at hx; exact congrArg some (Lf.dec_ok hx)
theorem w_New {n m : Int} {f : Bool} {k : Option Addr → Tree} (ok : Ok0 G (keys l)) (h0 : 0 ≤ n ∧ n ≤ 65536) (h1 : 0 ≤ m ∧ m ≤ 65536)
    (h : ∀ A : Ar, A.made n.toNat m.toNat f → Aw A.ids A → (∀ x ∈ A.ids, G x = none) → Ok A.ids G (keys l) → wp Tryz.prog (k (aI A.ids)) L (own A l G) R) :
    wp Tryz.prog (.call f_arena_New [.int .i64 n, .int .i64 m, .bool f] (.one (.leaf .ptr)) k) L (putL l G) R := by
  refine wp_call_of (New_spec n m f _ h0 h1) ?_
  rintro v K ⟨A, hm, hi, rfl, rfl⟩
  refine ⟨aI A.ids, rfl, ?_⟩
  refine h A hm ⟨made_wf hm (by omega) (by omega), rfl⟩ (fun x hx => (putL_none (hi x hx)).2) ⟨ok.nd, fun b hb hx => ?_, ok.no⟩
  exact (putL_none (hi b hx)).1 hb
theorem own_end {A : Ar} {I : List Nat} (hA : Aw I A) (ok : Ok I G (keys l)) (hI : ∀ x ∈ I, G x = none) : G.le (own A l G) := by
  intro b o hb
  unfold own
  rw [Ar.put_out, putL_out]
  · exact hb
  · intro h; rw [ok.no b h] at hb; cases hb
  · intro h; rw [hA.ids] at h; rw [hI b h] at hb; cases hb
def arrC {α : Type} (n : Nat) (f : Nat → α) : List α := (List.range n).map f
theorem arrC_len {α : Type} (n : Nat) (f : Nat → α) : (arrC n f).length = n := by simp [arrC]
theorem arrC_get {α : Type} {n : Nat} {f : Nat → α} {i : Nat} (h : i < n) : (arrC n f)[i]? = some (f i) := by simp [arrC, h]
theorem w_ixS {t e u : TypeId} {len cap b o : Nat} {i : Int} {info : TypeInfo} {k : Addr → Tree} (hu : Tryz.prog.underlying t = some (.slice e)) (hi : Tryz.prog.info? e = some info) (hs : info.size = 1) (h0 : 0 ≤ i) (h1 : i < (len : Int)) {H : Heap}
    (h : wp Tryz.prog (k ⟨b, o + i.toNat, none⟩) L H R) : wp Tryz.prog (.look (opS Tryz.prog (.indexAddr t (.tmp 0) (.tmp 1)) u [.slice (some ⟨b, o, none⟩) len cap, .int .i64 i]) (.one (.leaf .addr)) k) L H R :=
  look_val (x := ⟨b, o + i.toNat, none⟩) (by
    rw [opS_idxS hu hi h0 h1, Addr.add_mk, hs, Nat.mul_one]) h
theorem w_ldm {A : Ar} {I : List Nat} {a : Addr} {b n : Nat} {T : TypeId} {c : List Value} {lf : Leaf} {k : lf.T → Tree} {x : lf.T} (hA : Aw I A) (ok : Ok I G (keys l)) (ha : a = ⟨b, n, none⟩) (hi : (b, oc T c) ∈ l) (hx : (c[n]?).bind (Lf.dec lf) = some x)
    (h : wp Tryz.prog (k x) L (own A l G) R) : wp Tryz.prog (.ld a lf k) L (own A l G) R := by
  obtain ⟨i, hi⟩ := mem_idx hi
  exact w_ld i hA ok ha hi hx h
theorem w_rdI {A : Ar} {I : List Nat} {s : Sl} {xs : List Int} {i : Int} {u : TypeId} {k : Int → Tree} (hA : Aw I A) (ok : Ok I G (keys l)) (hs : SlOf l ty_int eI s xs) (h0 : 0 ≤ i) (h1 : i < xs.length) (h : wp Tryz.prog (k (xs.getD i.toNat 0)) L (own A l G) R) :
    wp Tryz.prog (.look (opS Tryz.prog (.indexAddr ty_s_int (.tmp 0) (.tmp 1)) u [.slice s.a s.len s.cap, .int .i64 i]) (.one (.leaf .addr)) fun x => .ld x (.int .i64) k) L (own A l G) R := by
  rcases hs with ⟨rfl, rfl⟩ | ⟨b, rest, r, rfl, h2, h3⟩
  · have : (([] : List Int).length : Int) = 0 := rfl
    omega
  · refine w_ixS (e := ty_int) rfl rfl rfl h0 h1 ?_
    refine w_ldm (x := xs.getD i.toNat 0) hA ok rfl h3 ?_ h
    have hl : i.toNat < xs.length := by omega
    rw [Nat.zero_add, eI_all, List.getElem?_append_left (by simpa using hl), List.getElem?_map, List.getElem?_eq_getElem hl]
    show some _ = _
    rw [List.getD_eq_getElem?_getD, List.getElem?_eq_getElem hl]; rfl
theorem w_Place {H : Heap} {v n : Int} {k : Int → Tree} (hn : 0 < n) (hn2 : n ≤ 4611686018427387904) (h : wp Tryz.prog (k (v % n)) L H R) : wp Tryz.prog (.qcall f_magpielaw00_Place [.int .i64 v, .int .i64 n] (.one (.leaf (.int .i64))) k) L H R := wp_qcall_det (x := v % n) (Place_det v n hn hn2 _) h
theorem w_Raw5 {H : Heap} {w m : Int} {k : HL Sh1.T [(.agg [(.int .i64), (.int .i64), (.int .i64), (.int .i64), (.int .i64)]), (.leaf (.int .i64))] → Tree} (b1 : 0 ≤ w ∧ w ≤ 100000) (b2 : 0 ≤ m ∧ m ≤ 100000)
    (h : wp Tryz.prog (k (((plOf w m).work, (plOf w m).heads, (plOf w m).links, (plOf w m).gens, (plOf w m).carved, ()), 4 * w + 2 * ((m + 7) / 8) + 1, ())) L H R) :
    wp Tryz.prog (.call f_free_Raw [.int .i64 w, .int .i64 m] (.tup [(.agg [(.int .i64), (.int .i64), (.int .i64), (.int .i64), (.int .i64)]), (.leaf (.int .i64))]) k) L H R := by
  refine wp_call_det (x := (((plOf w m).work, (plOf w m).heads, (plOf w m).links, (plOf w m).gens, (plOf w m).carved, ()), 4 * w + 2 * ((m + 7) / 8) + 1, ())) (Raw5_det w m w m ?_ ?_ b1 b2 H) h
  · unfold imax; rw [if_neg (by omega)]
  · unfold imax; rw [if_neg (by omega)]
theorem later_aw {A : Ar} {I : List Nat} (hA : Aw I A) (n : Int) : Aw I (A.later n) := hA.of (later_alike A n) (later_wf hA.wf n)
end
def slV (s : Sl) : Value := .slice s.a s.len s.cap
def sl0 : Sl := ⟨none, 0, 0⟩
structure Fam (tl : Bl) (sl : Nat → Sl) (xs : Nat → List Int) : Prop where
  of : ∀ i, SlOf tl ty_int eI (sl i) (xs i)
  sep : ∀ i j, i ≠ j → ∀ a, (sl i).a = some a → (sl j).a ≠ some a
def updS {α : Type} (f : Nat → α) (i : Nat) (v : α) : Nat → α := fun j => if j = i then v else f j
theorem SlOf.mem {α : Type} {l : Bl} {e : TypeId} {E : Enc α} {s : Sl} {xs : List α} (h : SlOf l e E s xs) {a : Addr} (ha : s.a = some a) : a.block ∈ keys l ∧ a = ⟨a.block, 0, none⟩ := by
  rcases h with ⟨rfl, _⟩ | ⟨b, rest, r, rfl, _, h3⟩
  · cases ha
  · cases ha; exact ⟨List.mem_map.2 ⟨_, h3, rfl⟩, rfl⟩
theorem Fam.nil (tl : Bl) : Fam tl (fun _ => sl0) (fun _ => []) := ⟨fun _ => .inl ⟨rfl, rfl⟩, fun _ _ _ a h => by cases h⟩
structure Apd (tl : Bl) (s : Sl) (tl' : Bl) (s' : Sl) : Prop where
  keep : ∀ b o, (b, o) ∈ tl → (∀ a, s.a = some a → a.block ≠ b) → (b, o) ∈ tl'
  at' : s'.a = s.a ∨ ∀ a, s'.a = some a → a.block ∉ keys tl
theorem App.apd {tl tl' : Bl} {s s' : Sl} (h : App tl s tl' s') : Apd tl s tl' s' := by
  cases h with
  | same h1 h2 => subst h1; subst h2; exact ⟨fun b o h _ => h, .inl rfl⟩
  | inpl b o h1 h2 h3 h4 => subst h3; exact ⟨fun c p h k => mem_bset_ne h fun e => k _ h1 e.symm, .inl h2⟩
  | new b o h1 h2 h3 => subst h2; exact ⟨fun c p h _ => List.mem_cons_of_mem _ h, .inr fun a ha => by rw [h1] at ha; cases ha; exact h3⟩
theorem Apd.mono {tl tl' tl2 : Bl} {s s' : Sl} (h : Apd tl s tl' s') (hm : ∀ p, p ∈ tl' → p ∈ tl2) : Apd tl s tl2 s' := ⟨fun b o h1 h2 => hm _ (h.keep b o h1 h2), h.at'⟩
theorem SlOf.other {α : Type} {tl tl' : Bl} {e : TypeId} {E : Enc α} {s s' t : Sl} {xs : List α} (h : SlOf tl e E t xs) (ap : Apd tl s tl' s') (hne : ∀ a, t.a = some a → s.a ≠ some a) (hz : ∀ a, s.a = some a → a = ⟨a.block, 0, none⟩) : SlOf tl' e E t xs := by
  rcases h with h | ⟨b, rest, r, rfl, h2, h3⟩
  · exact .inl h
  · refine .inr ⟨b, rest, r, rfl, h2, ap.keep _ _ h3 fun a ha e => hne ⟨b, 0, none⟩ rfl ?_⟩
    rw [ha, hz a ha, e]
theorem Fam.take {tl : Bl} {sl : Nat → Sl} {xs : Nat → List Int} (F : Fam tl sl xs) (i : Nat) {n : Nat} (hn : n ≤ (xs i).length) : Fam tl (updS sl i ⟨(sl i).a, n, (sl i).cap⟩) (updS xs i ((xs i).take n)) := by
  refine ⟨fun j => ?_, fun j k hn a ha => ?_⟩
  · unfold updS; split
    · exact (F.of i).take hn
    · exact F.of j
  · unfold updS at ha ⊢
    split at ha
    · rename_i hj; rw [if_neg (by omega)]; exact F.sep i k (by omega) a ha
    · split
      · rename_i hk; exact F.sep j i (by omega) a ha
      · exact F.sep j k hn a ha
theorem Fam.mono {tl tl' : Bl} {sl : Nat → Sl} {xs : Nat → List Int} (F : Fam tl sl xs) (h : ∀ p, p ∈ tl → p ∈ tl') : Fam tl' sl xs := ⟨fun i => (F.of i).mono h, F.sep⟩
section
variable {L : Hands} {R : Value → Heap → Prop} {A : Ar} {I : List Nat} {l : Bl} {G : Heap}
theorem w_app1 {s : Sl} {xs : List Int} {v : Int} {k : Sl → Tree} {pre tl : Bl} (hA : Aw I A) (ok : Ok I G (keys (pre ++ tl))) (hs : SlOf tl ty_int eI s xs) (hm : xs.length ≤ 1000000)
    (h : ∀ s' tl', SlOf tl' ty_int eI s' (xs ++ [v]) → Ok I G (keys (pre ++ tl')) → Apd tl s tl' s' → wp Tryz.prog (k s') L (own A (pre ++ tl') G) R) :
    wp Tryz.prog (.newS (.cells #[.int .i64 v] ty_int) 1 fun x => .act (opS Tryz.prog (.call { callee := .builtin .append, args := #[(.tmp 0), (.tmp 1)], argTypes := #[ty_s_int, ty_s_int] }) ty_s_int [(.slice s.a s.len s.cap), (.slice x.a x.len x.cap)]) (.one (.leaf .slice)) k) L (own A (pre ++ tl) G) R := by
  refine w_newS (c := [.int .i64 v]) hA ok fun q ok1 => ?_
  have ok' : Ok I G (keys (((q, oc ty_int [.int .i64 v]) :: pre) ++ tl)) := ok1
  show wp Tryz.prog _ L (own A (((q, oc ty_int [.int .i64 v]) :: pre) ++ tl) G) R
  refine w_appT (E := eI) elI (ys := [v]) (t := ⟨some ⟨q, 0, none⟩, 1, 1⟩) hA ok' hs ?_ rfl (by simp; omega) fun s' tl' hs' ok2 ap => ?_
  · exact cell_row hA ok' List.mem_cons_self 0 rfl
  · obtain ⟨m3, m4⟩ := own_mid (A := A) ok2
    show wp Tryz.prog _ L (own A ((q, oc ty_int [.int .i64 v]) :: (pre ++ tl')) G) R
    rw [m3]
    exact h s' _ (hs'.mono fun p hp => List.mem_cons_of_mem _ hp) m4 (ap.apd.mono fun p hp => List.mem_cons_of_mem _ hp)
end
theorem opS_nilapp {sT u : TypeId} (x : Value) : opS Tryz.prog (.call { callee := .builtin .append, args := #[(.const (.slice none 0 0)), (.tmp 0)], argTypes := #[sT, sT] }) u [x] =
    opS Tryz.prog (.call { callee := .builtin .append, args := #[(.tmp 0), (.tmp 1)], argTypes := #[sT, sT] }) u [.slice none 0 0, x] := by
  kernel_rfl
def loSl (s : Sl) (n : Nat) : Sl := ⟨if s.cap = n then s.a else s.a.map (·.add n), s.len - n, s.cap - n⟩
section
variable {L : Hands} {R : Value → Heap → Prop} {A : Ar} {I : List Nat} {l : Bl} {G : Heap}
theorem w_cutLo {s : Sl} {n : Int} {u : TypeId} {k : Sl → Tree} (h0 : 0 ≤ n) (h1 : n ≤ (s.len : Int)) {H : Heap} (h : wp Tryz.prog (k (loSl s n.toNat)) L H R) :
    wp Tryz.prog (.look (opS Tryz.prog (.slice ty_s_int (.tmp 0) (some (.tmp 1)) none none) u [.slice s.a s.len s.cap, .int .i64 n]) (.one (.leaf .slice)) k) L H R :=
  look_val (x := loSl s n.toNat) (opS_sliceLo (e := ty_int) rfl rfl rfl h0 h1) h
theorem Apd.none {tl tl' : Bl} {s' : Sl} (h : Apd tl sl0 tl' s') : ∀ p, p ∈ tl → p ∈ tl' := fun p hp => h.keep p.1 p.2 hp fun a ha => by cases ha
end
structure MchR (M J : Type) where
  f : FuncId
  addr : J → Nat
  bl : M → J → Bl
  rep : M → J → Prop
  inv : M → Ar → Prop
  step : M → Ar → M × Ar
  fin : M → Bool
def MchR.ok {M J : Type} (X : MchR M J) : Prop := ∀ (I : List Nat) (A : Ar) (G : Heap) (m : M) (j : J), Aw I A → Ok I G (keys (X.bl m j)) → X.rep m j → X.inv m A →
  SpecF Tryz.prog X.f #[.pointer (some ⟨X.addr j, 0, none⟩), .pointer (aI I)] (own A (X.bl m j) G) fun v K => ∃ j', v = .bool (X.fin (X.step m A).1) ∧ K = own (X.step m A).2 (X.bl (X.step m A).1 j') G ∧ X.addr j' = X.addr j ∧
    Ok I G (keys (X.bl (X.step m A).1 j')) ∧ X.rep (X.step m A).1 j' ∧ Aw I (X.step m A).2
inductive MchR.Runs {M J : Type} (X : MchR M J) : Nat → M → Ar → M → Ar → Prop
  | one {x : M} {D : Ar} {x1 : M} {D1 : Ar} : X.inv x D → X.step x D = (x1, D1) → D1.uses ≤ w64 (D.uses + 1) → X.fin x1 = true → Runs X 1 x D x1 D1
  | more {n : Nat} {x : M} {D : Ar} {x1 : M} {D1 : Ar} {x' : M} {D' : Ar} : X.inv x D → X.step x D = (x1, D1) → D1.uses ≤ w64 (D.uses + 1) → X.fin x1 = false → Runs X n x1 D1 x' D' → Runs X (n + 1) x D x' D'
def MchR.inv' {M J : Type} (X : MchR M J) (t : TypeId) : Prop := ∀ (q : Nat) (p : Option Addr), opS Tryz.prog (.call { callee := .invoke (.tmp 0) "Step", args := #[(.tmp 1)], argTypes := #[ty_p_arena_Arena] }) ty_bool [(.iface t (.pointer (some ⟨q, 0, none⟩))), (.pointer p)] =
    .pure (.enter X.f [.pointer (some ⟨q, 0, none⟩), .pointer p].toArray)
inductive MchR.Path {M J : Type} (X : MchR M J) : Nat → M → Ar → M → Ar → Prop
  | nil {x : M} {D : Ar} : Path X 0 x D x D
  | cons {n : Nat} {x : M} {D : Ar} {x1 : M} {D1 : Ar} {x' : M} {D' : Ar} : X.inv x D → X.step x D = (x1, D1) → D1.uses ≤ w64 (D.uses + 1) → X.fin x1 = false → Path X n x1 D1 x' D' → Path X (n + 1) x D x' D'
theorem MchR.Path.trans {M J : Type} {X : MchR M J} {k n : Nat} {m m1 m2 : M} {A A1 A2 : Ar} (h : X.Path k m A m1 A1) (g : X.Path n m1 A1 m2 A2) : X.Path (k + n) m A m2 A2 := by
  induction h with
  | nil => rw [Nat.zero_add]; exact g
  | @cons k m A m1 A1 m' A' h1 h2 h3 h4 _ ih =>
    have := ih g
    rw [show k + 1 + n = k + n + 1 by omega]
    exact .cons h1 h2 h3 h4 this
theorem MchR.Path.run {M J : Type} {X : MchR M J} {k n : Nat} {m m1 m2 : M} {A A1 A2 : Ar} (h : X.Path k m A m1 A1) (g : X.Runs n m1 A1 m2 A2) : X.Runs (k + n) m A m2 A2 := by
  induction h with
  | nil => rw [Nat.zero_add]; exact g
  | @cons k m A m1 A1 m' A' h1 h2 h3 h4 _ ih =>
    have := ih g
    rw [show k + 1 + n = k + n + 1 by omega]
    exact .more h1 h2 h3 h4 this
def SlAt {α : Type} (l : Bl) (e : TypeId) (E : Enc α) (s : Sl) (xs : List α) : Prop :=
  (s = ⟨none, 0, 0⟩ ∧ xs = []) ∨ ∃ (b : Nat) (pre rest : List Value) (r : Nat), s = ⟨some ⟨b, pre.length, none⟩, xs.length, xs.length + r⟩ ∧ r * E.sz ≤ rest.length ∧ (b, oc e (pre ++ E.all xs ++ rest)) ∈ l
theorem SlOf.at' {α : Type} {l : Bl} {e : TypeId} {E : Enc α} {s : Sl} {xs : List α} (h : SlOf l e E s xs) : SlAt l e E s xs := by
  rcases h with h | ⟨b, rest, r, h1, h2, h3⟩
  · exact .inl h
  · exact .inr ⟨b, [], rest, r, h1, by omega, h3⟩
theorem SlAt.len {α : Type} {l : Bl} {e : TypeId} {E : Enc α} {s : Sl} {xs : List α} (h : SlAt l e E s xs) : s.len = xs.length := by
  rcases h with ⟨rfl, rfl⟩ | ⟨b, pre, rest, r, rfl, _⟩ <;> rfl
theorem SlAt.mono {α : Type} {l l' : Bl} {e : TypeId} {E : Enc α} {s : Sl} {xs : List α} (h : SlAt l e E s xs) (hm : ∀ p, p ∈ l → p ∈ l') : SlAt l' e E s xs := by
  rcases h with h | ⟨b, pre, rest, r, h1, h2, h3⟩
  · exact .inl h
  · exact .inr ⟨b, pre, rest, r, h1, h2, hm _ h3⟩
def eP : Enc Nat := ⟨1, fun q => [.pointer (some ⟨q, 0, none⟩)], fun _ => rfl, fun x v h => by simp at h; subst h; rfl⟩
theorem eP_all (xs : List Nat) : eP.all xs = xs.map fun q => Value.pointer (some ⟨q, 0, none⟩) := by
  induction xs with
  | nil => rfl
  | cons x xs ih => show Value.pointer (some ⟨x, 0, none⟩) :: eP.all xs = _; rw [ih]; rfl
theorem SlAt.tail {l : Bl} {e : TypeId} {s : Sl} {x : Nat} {xs : List Nat} (h : SlAt l e eP s (x :: xs)) : SlAt l e eP (loSl s 1) xs ∧ (1 : Int) ≤ (s.len : Int) := by
  rcases h with ⟨_, h⟩ | ⟨b, pre, rest, r, rfl, h2, h3⟩
  · cases h
  · refine ⟨?_, by show (1 : Int) ≤ ((xs.length + 1 : Nat) : Int); omega⟩
    unfold loSl
    dsimp only
    by_cases e : (x :: xs).length + r = 1
    · rw [if_pos e]
      have hx : xs = [] := by simp only [List.length_cons] at e; exact List.eq_nil_of_length_eq_zero (by omega)
      have hr : r = 0 := by simp only [List.length_cons] at e; omega
      subst hx; subst hr
      exact .inr ⟨b, pre, eP.all [x] ++ rest, 0, rfl, by omega, by rw [show eP.all ([] : List Nat) = [] from rfl, List.append_nil, ← List.append_assoc]; exact h3⟩
    · rw [if_neg e]
      refine .inr ⟨b, pre ++ [.pointer (some ⟨x, 0, none⟩)], rest, r, ?_, h2, ?_⟩
      · show Sl.mk (some ((Addr.mk b pre.length none).add 1)) _ _ = _
        rw [Addr.add_mk, List.length_append]
        simp only [List.length_cons, List.length_nil, Sl.mk.injEq, true_and]
        omega
      · have : eP.all (x :: xs) = [.pointer (some ⟨x, 0, none⟩)] ++ eP.all xs := rfl
        rw [this] at h3
        simpa using h3
section
variable {L : Hands} {R : Value → Heap → Prop} {A : Ar} {I : List Nat} {l l' : Bl} {G : Heap}
theorem Heap.le_antisymm {H K : Heap} (h : H.le K) (k : K.le H) : H = K := by
  funext b
  cases hb : H b with
  | some o => exact (h b o hb).symm
  | none =>
    cases kb : K b with
    | none => rfl
    | some o => rw [k b o kb] at hb; cases hb
theorem own_perm (ok : Ok I G (keys l)) (h : l.Perm l') : own A l G = own A l' G ∧ Ok I G (keys l') := by
  have hk : (keys l').Perm (keys l) := (h.map Prod.fst).symm
  have ok' : Ok I G (keys l') := ok.sub (hk.nodup_iff.2 ok.nd) fun b hb => hk.subset hb
  exact ⟨Heap.le_antisymm (own_sub ok' ok.nd fun p hp => h.subset hp) (own_sub ok ok'.nd fun p hp => h.symm.subset hp), ok'⟩
theorem own_perm2 (h : l.Perm l') (ok : Ok I G (keys l)) : own A l G = own A l' G ∧ Ok I G (keys l') := own_perm ok h
theorem row_le {H K : Heap} {a : Option Addr} {cs : List Value} (h : Row H a cs) (hk : H.le K) : Row K a cs := by
  intro i hi
  obtain ⟨a', h1, h2⟩ := h i hi
  refine ⟨a', h1, ?_⟩
  rw [List.getElem?_eq_getElem hi] at h2 ⊢
  unfold Heap.cell? at h2 ⊢
  cases hb : H (a'.add i).block with
  | none => simp [hb] at h2
  | some o => rw [hb] at h2; rw [hk _ o hb]; exact h2
theorem w_appM {sT e u : TypeId} {α : Type} {E : Enc α} (hE : ElOk sT e E.sz) {xs ys : List α} {s t : Sl} {k : Sl → Tree} (pre : Bl) {mid post : Bl} (hA : Aw I A) (ok : Ok I G (keys (pre ++ (mid ++ post)))) (hs : SlOf mid e E s xs) (ht : Row (own A (pre ++ (mid ++ post)) G) t.a (E.all ys)) (htl : t.len = ys.length) (hm : xs.length + ys.length ≤ 1048576)
    (h : ∀ s' mid', SlOf mid' e E s' (xs ++ ys) → Ok I G (keys (pre ++ (mid' ++ post))) → wp Tryz.prog (k s') L (own A (pre ++ (mid' ++ post)) G) R) :
    wp Tryz.prog (.act (opS Tryz.prog (.call { callee := .builtin .append, args := #[(.tmp 0), (.tmp 1)], argTypes := #[sT, sT] }) u [(.slice s.a s.len s.cap), (.slice t.a t.len t.cap)]) (.one (.leaf .slice)) k) L (own A (pre ++ (mid ++ post)) G) R := by
  have perm : ∀ m : Bl, (pre ++ (m ++ post)).Perm ((pre ++ post) ++ m) := fun m => by
    rw [List.append_assoc]; exact List.Perm.append_left _ List.perm_append_comm
  obtain ⟨e1, o1⟩ := own_perm (A := A) ok (perm mid)
  rw [e1] at ht ⊢
  refine w_appT hE hA o1 hs ht htl hm fun s' mid' hs' ok' _ => ?_
  obtain ⟨e2, o2⟩ := own_perm (A := A) ok' (perm mid').symm
  rw [e2]
  exact h s' mid' hs' o2
theorem w_lookup (i : Nat) {V : Type} {enc : V → Value} {c : List (Int × V)} {b : Nat} {kt et t u : TypeId} {x : Int} {inf : TypeInfo} {z : Value} {sh : Sh} {k : sh.T → Tree} {y : sh.T} (hA : Aw I A) (ok : Ok I G (keys l)) (hi : l[i]? = some (b, mapObj enc c)) (ht : Tryz.prog.underlying t = some (.map kt et))
    (hk : Tryz.prog.underlying kt = some (.int .i64)) (hin : Tryz.prog.info? et = some inf) (hz : inf.zero = some z) (hy : (match alGet c x with | some v => enc v | none => z) = sh.toVal y) (h : wp Tryz.prog (k y) L (own A l G) R) :
    wp Tryz.prog (.look (opS Tryz.prog (.lookup t (.tmp 0) (.tmp 1) false) u [.map (some b), .int .i64 x]) sh k) L (own A l G) R :=
  wp_lookup (own_get hA ok hi) ht hk hin hz hy h
theorem w_mapPut (i : Nat) {V : Type} {enc : V → Value} {c : List (Int × V)} {b : Nat} {kt et t u : TypeId} {x : Int} {v : V} {k : Unit → Tree} (hA : Aw I A) (ok : Ok I G (keys l)) (hi : l[i]? = some (b, mapObj enc c)) (ht : Tryz.prog.underlying t = some (.map kt et))
    (hk : Tryz.prog.underlying kt = some (.int .i64)) (h : wp Tryz.prog (k ()) L (own A (l.set i (b, mapObj enc (alPut c x v))) G) R) :
    wp Tryz.prog (.act (opS Tryz.prog (.mapUpdate t (.tmp 0) (.tmp 1) (.tmp 2)) u [.map (some b), .int .i64 x, enc v]) .unit k) L (own A l G) R :=
  wp_mapUpdate (own_get hA ok hi) ht hk (by rw [own_set hA ok _ hi]; exact h)
theorem opS_mapTrue {t u : TypeId} (m x : Value) : opS Tryz.prog (.mapUpdate t (.tmp 0) (.tmp 1) (.const (.bool true))) u [m, x] = opS Tryz.prog (.mapUpdate t (.tmp 0) (.tmp 1) (.tmp 2)) u [m, x, .bool true] := by kernel_rfl
theorem w_clear (i : Nat) {es : Array MapEntry} {n b : Nat} {t u : TypeId} {d : TypeDesc} {k : Unit → Tree} (hA : Aw I A) (ok : Ok I G (keys l)) (hi : l[i]? = some (b, .map es n)) (ht : Tryz.prog.underlying t = some d) (h : wp Tryz.prog (k ()) L (own A (l.set i (b, .map #[] n)) G) R) :
    wp Tryz.prog (.act (opS Tryz.prog (.call { callee := .builtin .clear, args := #[.tmp 0], argTypes := #[t] }) u [.map (some b)]) .unit k) L (own A l G) R :=
  wp_clear (own_get hA ok hi) ht (by rw [own_set hA ok _ hi]; exact h)
end
theorem perm_by {l l' : Bl} (h : ∀ (c : List (Nat × Obj) → Nat) (d : Nat × Obj → Nat), c [] = 0 → (∀ a l, c (a :: l) = d a + c l) → (∀ a b, c (a ++ b) = c a + c b) → c l = c l') : l.Perm l' := by
  classical
  refine List.perm_iff_count.2 fun a => ?_
  refine h (List.count a) (fun x => List.count a [x]) rfl (fun x l => ?_) fun x y => List.count_append ..
  rw [show x :: l = [x] ++ l from rfl, List.count_append]
theorem wl_bi {L : Hands} {H : Heap} {R : Value → Heap → Prop} {n : Nat} {init : List Value} {body : HL Sh1.T [.leaf .bool, .leaf (.int .i64)] → Tree} (I : Bool → Int → Heap → Prop) (m : Bool → Int → Nat) (x0 : Bool) (x1 : Int) (hi : I x0 x1 H)
    (hstep : ∀ (x0 : Bool) (x1 : Int) H', I x0 x1 H' → wp Tryz.prog (body (x0, x1, ())) (L.set n fun vals H'' => ∃ (y0 : Bool) (y1 : Int), vals = [.bool y0, .int .i64 y1] ∧ I y0 y1 H'' ∧ m y0 y1 < m x0 x1) H' R) (h0 : init = [.bool x0, .int .i64 x1] := by rfl) :
    wp Tryz.prog (.loop n [.leaf .bool, .leaf (.int .i64)] init body) L H R := by
  refine wp_loop_inv (fun x K => I x.1 x.2.1 K) (fun x _ => m x.1 x.2.1) (x0, x1, ()) h0 hi ?_
  rintro ⟨x0, x1, u⟩ K hI
  refine Go.Fw.wp_mono _ (hstep x0 x1 K hI) (fun k vals H'' hk => ?_) (fun _ _ h => h)
  unfold Hands.set at *
  split at hk
  · rename_i e; rw [if_pos e]; obtain ⟨y0, y1, h1, h2, h3⟩ := hk; exact ⟨(y0, y1, ()), h1, h2, h3⟩
  · rename_i e; rw [if_neg e]; exact hk
theorem wl_i {L : Hands} {H : Heap} {R : Value → Heap → Prop} {n : Nat} {init : List Value} {body : HL Sh1.T [.leaf (.int .i64)] → Tree} (I : Int → Heap → Prop) (m : Int → Nat) (x0 : Int) (hi : I x0 H)
    (hstep : ∀ (x0 : Int) H', I x0 H' → wp Tryz.prog (body (x0, ())) (L.set n fun vals H'' => ∃ (y0 : Int), vals = [.int .i64 y0] ∧ I y0 H'' ∧ m y0 < m x0) H' R) (h0 : init = [.int .i64 x0] := by rfl) :
    wp Tryz.prog (.loop n [.leaf (.int .i64)] init body) L H R := by
  refine wp_loop_inv (fun x K => I x.1 K) (fun x _ => m x.1) (x0, ()) h0 hi ?_
  rintro ⟨x0, u⟩ K hI
  refine Go.Fw.wp_mono _ (hstep x0 K hI) (fun k vals H'' hk => ?_) (fun _ _ h => h)
  unfold Hands.set at *
  split at hk
  · rename_i e; rw [if_pos e]; obtain ⟨y0, h1, h2, h3⟩ := hk; exact ⟨(y0, ()), h1, h2, h3⟩
  · rename_i e; rw [if_neg e]; exact hk
theorem wl_si {L : Hands} {H : Heap} {R : Value → Heap → Prop} {n : Nat} {init : List Value} {body : HL Sh1.T [.leaf .slice, .leaf (.int .i64)] → Tree} (I : Sl → Int → Heap → Prop) (m : Sl → Int → Nat) (x0 : Sl) (x1 : Int) (hi : I x0 x1 H)
    (hstep : ∀ (x0 : Sl) (x1 : Int) H', I x0 x1 H' → wp Tryz.prog (body (x0, x1, ())) (L.set n fun vals H'' => ∃ (y0 : Sl) (y1 : Int), vals = [.slice y0.a y0.len y0.cap, .int .i64 y1] ∧ I y0 y1 H'' ∧ m y0 y1 < m x0 x1) H' R) (h0 : init = [.slice x0.a x0.len x0.cap, .int .i64 x1] := by rfl) :
    wp Tryz.prog (.loop n [.leaf .slice, .leaf (.int .i64)] init body) L H R := by
  refine wp_loop_inv (fun x K => I x.1 x.2.1 K) (fun x _ => m x.1 x.2.1) (x0, x1, ()) h0 hi ?_
  rintro ⟨x0, x1, u⟩ K hI
  refine Go.Fw.wp_mono _ (hstep x0 x1 K hI) (fun k vals H'' hk => ?_) (fun _ _ h => h)
  unfold Hands.set at *
  split at hk
  · rename_i e; rw [if_pos e]; obtain ⟨y0, y1, h1, h2, h3⟩ := hk; exact ⟨(y0, y1, ()), h1, h2, h3⟩
  · rename_i e; rw [if_neg e]; exact hk
noncomputable def t_slab_NewAlloc (p0_0 : Int) (p0_1 : Int) (p0_2 : Int) (p0_3 : Int) (p0_4 : Int) (p1 : Int) (p2 : Int) : Tree :=
 .newP (.cells #[(.int .i64 p0_0), (.int .i64 p0_1), (.int .i64 p0_2), (.int .i64 p0_3), (.int .i64 p0_4)] ty_free_Place) fun x3 =>
 .ldA x3 [(.int .i64), (.int .i64), (.int .i64), (.int .i64), (.int .i64)] fun x8 =>
 .newP (.cells #[(.pointer none), (.int .i64 x8.1), (.int .i64 x8.2.1), (.int .i64 x8.2.2.1), (.int .i64 x8.2.2.2.1), (.int .i64 x8.2.2.2.2.1), (.int .i64 p1), (.int .i64 p2), (.int .i64 0), (.int .i64 0), (.int .i64 0), (.int .i64 0)] ty_slab_Alloc) fun x12 =>
 .qcall f_handle_Size [(.int .i64 p2)] (.one (.leaf (.int .i64))) fun x14 =>
 bif ((x14 : Int) == 0) then (
 lkN (some x12) fun x17 =>
 .st (x17.add 9) (.int .i64 4) <|
 .ret (.pointer (some x12)))
 else (
 .ldA x3 [(.int .i64), (.int .i64), (.int .i64), (.int .i64), (.int .i64)] fun x20 =>
 .call f_free_NewPop [(.agg #[(.int .i64 x20.1), (.int .i64 x20.2.1), (.int .i64 x20.2.2.1), (.int .i64 x20.2.2.2.1), (.int .i64 x20.2.2.2.2.1)]), (.int .i64 p1), (.int .i64 p2)] (.one (.leaf .ptr)) fun x23 =>
 lkN (some x12) fun x24 =>
 .st x24 (.pointer x23) <|
 .ret (.pointer (some x12)))
theorem t_slab_NewAlloc_spec {p0_0 : Int} {p0_1 : Int} {p0_2 : Int} {p0_3 : Int} {p0_4 : Int} {p1 : Int} {p2 : Int} : SpT f_slab_NewAlloc #[(.agg #[(.int .i64 p0_0), (.int .i64 p0_1), (.int .i64 p0_2), (.int .i64 p0_3), (.int .i64 p0_4)]), (.int .i64 p1), (.int .i64 p2)] (t_slab_NewAlloc p0_0 p0_1 p0_2 p0_3 p0_4 p1 p2) := spT tcfg1 Tryz.func40 (by kernel_rfl)
noncomputable def t_slab_NewFree (p0_0 : Int) (p0_1 : Int) (p0_2 : Int) (p0_3 : Int) (p0_4 : Int) (p1 : Int) (p2 : Int) : Tree :=
 .newP (.cells #[(.int .i64 p0_0), (.int .i64 p0_1), (.int .i64 p0_2), (.int .i64 p0_3), (.int .i64 p0_4)] ty_free_Place) fun x3 =>
 .qcall f_handle_Open [(.int .i64 p2)] (.tup [(.leaf (.int .i64)), (.leaf (.int .i64)), (.leaf (.int .i64)), (.leaf .bool)]) fun x13 =>
 .ldA x3 [(.int .i64), (.int .i64), (.int .i64), (.int .i64), (.int .i64)] fun x18 =>
 .call f_free_NewPush [(.agg #[(.int .i64 x18.1), (.int .i64 x18.2.1), (.int .i64 x18.2.2.1), (.int .i64 x18.2.2.2.1), (.int .i64 x18.2.2.2.2.1)]), (.int .i64 p1), (.int .i64 x13.2.2.1), (.int .i64 x13.1)] (.one (.leaf .ptr)) fun x22 =>
 .newP (.cells #[(.pointer x22), (.int .i64 p2), (.bool false)] ty_slab_Free) fun x25 =>
 .ret (.pointer (some x25))
theorem t_slab_NewFree_spec {p0_0 : Int} {p0_1 : Int} {p0_2 : Int} {p0_3 : Int} {p0_4 : Int} {p1 : Int} {p2 : Int} : SpT f_slab_NewFree #[(.agg #[(.int .i64 p0_0), (.int .i64 p0_1), (.int .i64 p0_2), (.int .i64 p0_3), (.int .i64 p0_4)]), (.int .i64 p1), (.int .i64 p2)] (t_slab_NewFree p0_0 p0_1 p0_2 p0_3 p0_4 p1 p2) := spT tcfg1 Tryz.func130 (by kernel_rfl)
noncomputable def t_slab_Alloc_Step (p0 : Option Addr) (p1 : Option Addr) : Tree :=
 lkN p0 fun x7 =>
 .ld (x7.add 9) (.int .i64) fun x9 =>
 bif ((x9 : Int) == 0) then (
 lkN p0 fun x13 =>
 .ld x13 .ptr fun x15 =>
 .call f_free_Pop_Step [(.pointer x15), (.pointer p1)] (.one (.leaf .bool)) fun x17 =>
 bif x17 then (
 .call f_slab_Alloc_popped [(.pointer p0)] .unit fun _ =>
 lkN p0 fun x119 =>
 .ld (x119.add 9) (.int .i64) fun x121 =>
 .ret (.bool ((x121 : Int) == 4)))
 else (
 lkN p0 fun x119 =>
 .ld (x119.add 9) (.int .i64) fun x121 =>
 .ret (.bool ((x121 : Int) == 4))))
 else (
 bif ((x9 : Int) == 1) then (
 lkN p0 fun x25 =>
 .ld ((x25.add 1).add 4) (.int .i64) fun x28 =>
 .call f_arena_Arena_Raw [(.pointer p1), (.int .i64 x28)] (.one (.leaf (.int .i64))) fun x29 =>
 lkN p0 fun x30 =>
 .st (x30.add 10) (.int .i64 x29) <|
 lkN p0 fun x33 =>
 .st (x33.add 9) (.int .i64 2) <|
 lkN p0 fun x36 =>
 .ld (x36.add 10) (.int .i64) fun x38 =>
 lkN p0 fun x42 =>
 .ld (x42.add 7) (.int .i64) fun x44 =>
 .call f_arena_Arena_Words [(.pointer p1)] (.one (.leaf (.int .i64))) fun x40 =>
 .check (ldS (x42.add 7)) (.int .i64 x44) <|
 .check (nck p0) (.pointer (some x42)) <|
 .check (ldS (x36.add 10)) (.int .i64 x38) <|
 .check (nck p0) (.pointer (some x36)) <|
 .qcall f_handle_Size [(.int .i64 x44)] (.one (.leaf (.int .i64))) fun x45 =>
 bif (decide ((x38 : Int) > (w64 (x40 - x45)))) then (
 lkN p0 fun x49 =>
 .st (x49.add 9) (.int .i64 4) <|
 lkN p0 fun x119 =>
 .ld (x119.add 9) (.int .i64) fun x121 =>
 .ret (.bool ((x121 : Int) == 4)))
 else (
 lkN p0 fun x119 =>
 .ld (x119.add 9) (.int .i64) fun x121 =>
 .ret (.bool ((x121 : Int) == 4))))
 else (
 bif ((x9 : Int) == 2) then (
 lkN p0 fun x54 =>
 .st (x54.add 9) (.int .i64 1) <|
 lkN p0 fun x58 =>
 .ld ((x58.add 1).add 4) (.int .i64) fun x61 =>
 lkN p0 fun x63 =>
 .ld (x63.add 10) (.int .i64) fun x65 =>
 lkN p0 fun x67 =>
 .ld (x67.add 10) (.int .i64) fun x69 =>
 lkN p0 fun x71 =>
 .ld (x71.add 7) (.int .i64) fun x73 =>
 .qcall f_handle_Size [(.int .i64 x73)] (.one (.leaf (.int .i64))) fun x74 =>
 .call f_arena_Arena_SwapRaw [(.pointer p1), (.int .i64 x61), (.int .i64 x65), (.int .i64 (w64 (x69 + x74)))] (.one (.leaf .bool)) fun x76 =>
 bif x76 then (
 lkN p0 fun x78 =>
 .st (x78.add 9) (.int .i64 3) <|
 lkN p0 fun x119 =>
 .ld (x119.add 9) (.int .i64) fun x121 =>
 .ret (.bool ((x121 : Int) == 4)))
 else (
 lkN p0 fun x119 =>
 .ld (x119.add 9) (.int .i64) fun x121 =>
 .ret (.bool ((x121 : Int) == 4))))
 else (
 bif ((x9 : Int) == 3) then (
 lkN p0 fun x84 =>
 .ld ((x84.add 1).add 3) (.int .i64) fun x87 =>
 lkN p0 fun x89 =>
 .ld (x89.add 10) (.int .i64) fun x91 =>
 .call f_arena_Arena_AddRaw [(.pointer p1), (.int .i64 (w64 (x87 + (w64 (Int.tdiv x91 8))))), (.int .i64 1)] (.one (.leaf (.int .i64))) fun x94 =>
 lkN p0 fun x99 =>
 .ld (x99.add 10) (.int .i64) fun x101 =>
 lkN p0 fun x104 =>
 .ld (x104.add 7) (.int .i64) fun x106 =>
 .qcall f_handle_Pack [(.int .i64 x101), (.int .i64 (w64 (x94 + 1))), (.int .i64 x106)] (.one (.leaf (.int .i64))) fun x107 =>
 lkN p0 fun x108 =>
 .st (x108.add 11) (.int .i64 x107) <|
 lkN p0 fun x110 =>
 .st (x110.add 9) (.int .i64 4) <|
 lkN p0 fun x114 =>
 .ld (x114.add 11) (.int .i64) fun x116 =>
 .call f_arena_Arena_Born [(.pointer p1), (.int .i64 x116)] (.one (.leaf .bool)) fun x117 =>
 lkN p0 fun x119 =>
 .ld (x119.add 9) (.int .i64) fun x121 =>
 .ret (.bool ((x121 : Int) == 4)))
 else (
 lkN p0 fun x119 =>
 .ld (x119.add 9) (.int .i64) fun x121 =>
 .ret (.bool ((x121 : Int) == 4))))))
theorem t_slab_Alloc_Step_spec {p0 : Option Addr} {p1 : Option Addr} : SpT f_slab_Alloc_Step #[(.pointer p0), (.pointer p1)] (t_slab_Alloc_Step p0 p1) := spT tcfg1 Tryz.func61 (by kernel_rfl)
noncomputable def t_slab_Alloc_popped (p0 : Option Addr) : Tree :=
 lkN p0 fun x6 =>
 .ld x6 .ptr fun x8 =>
 .call f_free_Pop_Base [(.pointer x8)] (.tup [(.leaf (.int .i64)), (.leaf .bool)]) fun x9 =>
 lkN p0 fun x13 =>
 .ld (x13.add 8) (.int .i64) fun x15 =>
 lkN p0 fun x17 =>
 .st (x17.add 8) (.int .i64 (w64 (x15 + 1))) <|
 bif x9.2.1 then (
 lkN p0 fun x23 =>
 .st (x23.add 10) (.int .i64 x9.1) <|
 lkN p0 fun x25 =>
 .st (x25.add 9) (.int .i64 3) <|
 .ret (.tuple #[]))
 else (
 lkN p0 fun x28 =>
 .ld (x28.add 8) (.int .i64) fun x30 =>
 lkN p0 fun x32 =>
 .ld (x32.add 1) (.int .i64) fun x35 =>
 bif (decide ((x30 : Int) ≥ (imax x35 1))) then (
 lkN p0 fun x39 =>
 .st (x39.add 9) (.int .i64 1) <|
 .ret (.tuple #[]))
 else (
 lkN p0 fun x43 =>
 .ldA (x43.add 1) [(.int .i64), (.int .i64), (.int .i64), (.int .i64), (.int .i64)] fun x45 =>
 lkN p0 fun x47 =>
 .ld (x47.add 6) (.int .i64) fun x49 =>
 lkN p0 fun x51 =>
 .ld (x51.add 8) (.int .i64) fun x53 =>
 lkN p0 fun x56 =>
 .ld (x56.add 1) (.int .i64) fun x59 =>
 .look (opS Tryz.prog (.binOp .rem ty_int (.tmp 0) (.tmp 1) ty_int) ty_int [(.int .i64 (w64 (x49 + x53))), (.int .i64 x59)]) (.one (.leaf (.int .i64))) fun x60 =>
 lkN p0 fun x62 =>
 .ld (x62.add 7) (.int .i64) fun x64 =>
 .call f_free_NewPop [(.agg #[(.int .i64 x45.1), (.int .i64 x45.2.1), (.int .i64 x45.2.2.1), (.int .i64 x45.2.2.2.1), (.int .i64 x45.2.2.2.2.1)]), (.int .i64 x60), (.int .i64 x64)] (.one (.leaf .ptr)) fun x65 =>
 lkN p0 fun x66 =>
 .st x66 (.pointer x65) <|
 .ret (.tuple #[])))
theorem t_slab_Alloc_popped_spec {p0 : Option Addr} : SpT f_slab_Alloc_popped #[(.pointer p0)] (t_slab_Alloc_popped p0) := spT tcfg1 Tryz.func93 (by kernel_rfl)
noncomputable def t_slab_Alloc_Handle (p0 : Option Addr) : Tree :=
 lkN p0 fun x5 =>
 .ld (x5.add 11) (.int .i64) fun x7 =>
 lkN p0 fun x9 =>
 .ld (x9.add 11) (.int .i64) fun x11 =>
 .ret (.tuple #[(.int .i64 x7), (.bool ((x11 : Int) != 0))])
theorem t_slab_Alloc_Handle_spec {p0 : Option Addr} : SpT f_slab_Alloc_Handle #[(.pointer p0)] (t_slab_Alloc_Handle p0) := spT tcfg1 Tryz.func41 (by kernel_rfl)
noncomputable def t_slab_Free_Step (p0 : Option Addr) (p1 : Option Addr) : Tree :=
 lkN p0 fun x6 =>
 .ld (x6.add 2) .bool fun x8 =>
 bif (!x8) then (
 lkN p0 fun x12 =>
 .ld x12 .ptr fun x14 =>
 .call f_free_Push_Step [(.pointer x14), (.pointer p1)] (.one (.leaf .bool)) fun x16 =>
 bif x16 then (
 lkN p0 fun x19 =>
 .st (x19.add 2) (.bool true) <|
 lkN p0 fun x23 =>
 .ld (x23.add 1) (.int .i64) fun x25 =>
 .call f_arena_Arena_Died [(.pointer p1), (.int .i64 x25)] (.one (.leaf .bool)) fun x26 =>
 lkN p0 fun x28 =>
 .ld (x28.add 2) .bool fun x30 =>
 .ret (.bool x30))
 else (
 lkN p0 fun x28 =>
 .ld (x28.add 2) .bool fun x30 =>
 .ret (.bool x30)))
 else (
 lkN p0 fun x28 =>
 .ld (x28.add 2) .bool fun x30 =>
 .ret (.bool x30))
theorem t_slab_Free_Step_spec {p0 : Option Addr} {p1 : Option Addr} : SpT f_slab_Free_Step #[(.pointer p0), (.pointer p1)] (t_slab_Free_Step p0 p1) := spT tcfg1 Tryz.func133 (by kernel_rfl)
structure Al where
  pl : Pl
  work : Int
  cls : Int
  lst : Int
  what : Int
  base : Int
  h : Int
  po : Po
def Al.cells (x : Al) (q0 : Nat) : List Value := [.pointer (some ⟨q0, 0, none⟩), .int .i64 x.pl.work, .int .i64 x.pl.heads, .int .i64 x.pl.links, .int .i64 x.pl.gens, .int .i64 x.pl.carved, .int .i64 x.work, .int .i64 x.cls, .int .i64 x.lst, .int .i64 x.what, .int .i64 x.base, .int .i64 x.h]
def Al.bl (x : Al) (j : Nat × Nat × Nat) : Bl := [(j.1, oc ty_slab_Alloc (x.cells j.2.1)), (j.2.1, popObj j.2.2), (j.2.2, x.po.obj)]
def newPo (p : Pl) (w c : Int) : Po := ⟨p, headF p w c, 0, 0, 0, 0, false⟩
def Al.popd (x : Al) : Al :=
  if x.po.ok then { x with lst := w64 (x.lst + 1), base := x.po.base, what := 3 }
  else if w64 (x.lst + 1) ≥ imax x.pl.work 1 then { x with lst := w64 (x.lst + 1), what := 1 }
  else { x with lst := w64 (x.lst + 1), po := newPo x.pl (Int.tmod (w64 (x.work + w64 (x.lst + 1))) x.pl.work) x.cls }
def Al.step (x : Al) (A : Ar) : Al × Ar :=
  if x.what = 0 then (if x.po.stepB A then Al.popd { x with po := x.po.stepM A } else { x with po := x.po.stepM A }, x.po.stepA A)
  else if x.what = 1 then ({ x with base := A.rawF x.pl.carved, what := if A.rawF x.pl.carved > w64 (A.words.length - sizeF x.cls) then 4 else 2 }, A.touchR x.pl.carved)
  else if x.what = 2 then ({ x with what := if A.swapRb x.pl.carved x.base then 3 else 1 }, A.swapR x.pl.carved x.base (w64 (x.base + sizeF x.cls)))
  else if x.what = 3 then
    let i := w64 (x.pl.gens + w64 (Int.tdiv x.base 8))
    let h := packF x.base (w64 (A.rawF i + 1)) x.cls
    ({ x with h := h, what := 4 }, (A.storeR i (w64 (A.rawF i + 1))).bornX h)
  else (x, A)
def mAl : Mch Al (Nat × Nat × Nat) where
  f := f_slab_Alloc_Step
  addr := fun j => j.1
  bl := Al.bl
  inv := fun x _ => 0 ≤ x.lst ∧ x.lst ≤ 1000000
  step := Al.step
  fin := fun x => (x.what : Int) == 4
theorem popped_spec {I : List Nat} {A : Ar} {G : Heap} (x : Al) {q q0 q1 : Nat} (hA : Aw I A) (ok : Ok I G [q, q0, q1]) (hl : 0 ≤ x.lst ∧ x.lst ≤ 1000000) :
    SpecF Tryz.prog f_slab_Alloc_popped #[.pointer (some ⟨q, 0, none⟩)] (own A (x.bl (q, q0, q1)) G) fun v K => ∃ q0' q1', v = .tuple #[] ∧ K = own A (x.popd.bl (q, q0', q1')) G ∧ Ok I G [q, q0', q1'] := by
  refine t_slab_Alloc_popped_spec fun L => ?_
  unfold t_slab_Alloc_popped Al.bl Al.popd
  have e1 : w64 (x.lst + 1) = x.lst + 1 := w64_in (by omega) (by omega)
  repeat (first
  | refine wp_nil.2 ?_
  | refine w_ld 0 hA ok rfl rfl rfl ?_
  | refine w_st 0 hA ok rfl rfl rfl rfl ?_
  | refine w_Base 1 2 hA ok rfl rfl ?_)
  cases h1 : x.po.ok with
  | true =>
    repeat (first
  | refine wp_nil.2 ?_
  | refine w_st 0 hA ok rfl rfl rfl rfl ?_)
    exact wp_ret_of ⟨q0, q1, rfl, rfl, ok⟩
  | false =>
    rw [if_neg (by simp)]
    repeat (first
  | refine wp_nil.2 ?_
  | refine w_ld 0 hA ok rfl rfl rfl ?_)
    by_cases h2 : w64 (x.lst + 1) ≥ imax x.pl.work 1
    · rw [if_pos h2]
      refine wp_true (decide_eq_true h2) ?_
      repeat (first
  | refine wp_nil.2 ?_
  | refine w_st 0 hA ok rfl rfl rfl rfl ?_)
      exact wp_ret_of ⟨q0, q1, rfl, rfl, ok⟩
    · rw [if_neg h2]
      refine wp_false (decide_eq_false h2) ?_
      repeat (first
  | refine wp_nil.2 ?_
  | refine w_ld 0 hA ok rfl rfl rfl ?_
  | refine w_ldA 0 hA ok rfl rfl rfl ?_)
      have hw : x.pl.work ≠ 0 := by
        intro e; rw [e, e1] at h2; unfold imax at h2; rw [if_pos (by omega)] at h2; omega
      refine look_val (x := Int.tmod (w64 (x.work + w64 (x.lst + 1))) x.pl.work) (opS_rem hw) ?_
      repeat (first
  | refine wp_nil.2 ?_
  | refine w_ld 0 hA ok rfl rfl rfl ?_)
      refine w_NewPop (p := x.pl) hA ok fun r0 r1 ok => ?_
      repeat (first
  | refine wp_nil.2 ?_
  | refine w_st 2 hA ok rfl rfl rfl rfl ?_)
      exact w_ret [2, 0, 1] ok rfl (by decide) fun ok => ⟨r0, r1, rfl, rfl, ok⟩
theorem mAl_ok : mAl.ok := by
  rintro I A G x ⟨q, q0, q1⟩ hA ok hl
  have ok : Ok I G [q, q0, q1] := ok
  refine t_slab_Alloc_Step_spec fun L => ?_
  unfold t_slab_Alloc_Step
  show wp Tryz.prog _ L (own A (x.bl (q, q0, q1)) G) _
  show wp Tryz.prog _ L (own A [(q, oc ty_slab_Alloc (x.cells q0)), (q0, popObj q1), (q1, x.po.obj)] G) fun v K => ∃ j' : Nat × Nat × Nat, v = .bool ((x.step A).1.what == 4) ∧ K = own (x.step A).2 ((x.step A).1.bl j') G ∧ j'.1 = q ∧ Ok I G [j'.1, j'.2.1, j'.2.2] ∧ Aw I (x.step A).2
  unfold Al.step
  repeat (first
  | refine wp_nil.2 ?_
  | refine w_ld 0 hA ok rfl rfl rfl ?_)
  by_cases h0 : x.what = 0
  · rw [if_pos h0]
    refine wp_true (ibeq h0) ?_
    repeat (first
  | refine wp_nil.2 ?_
  | refine w_ld 0 hA ok rfl rfl rfl ?_
  | (refine w_PopStep 1 2 hA ok rfl rfl ?_; intro hA))
    cases hb : x.po.stepB A with
    | true =>
      refine wp_true rfl ?_
      refine wp_call_of (popped_spec (I := I) (A := x.po.stepA A) { x with po := x.po.stepM A } hA ok hl) ?_
      rintro v K ⟨r0, r1, rfl, rfl, ok⟩
      refine ⟨(), rfl, ?_⟩
      show wp Tryz.prog _ L (own (x.po.stepA A) [(q, oc ty_slab_Alloc ((Al.popd { x with po := x.po.stepM A }).cells r0)), (r0, popObj r1), (r1, (Al.popd { x with po := x.po.stepM A }).po.obj)] G) _
      repeat (first
  | refine wp_nil.2 ?_
  | refine w_ld 0 hA ok rfl rfl rfl ?_)
      exact wp_ret_of ⟨(q, r0, r1), rfl, rfl, rfl, ok, hA⟩
    | false =>
      refine wp_false rfl ?_
      repeat (first
  | refine wp_nil.2 ?_
  | refine w_ld 0 hA ok rfl rfl rfl ?_)
      exact wp_ret_of ⟨(q, q0, q1), rfl, rfl, rfl, ok, hA⟩
  · rw [if_neg h0]
    refine wp_false (ibef h0) ?_
    by_cases h1 : x.what = 1
    · rw [if_pos h1]
      refine wp_true (ibeq h1) ?_
      repeat (first
  | refine wp_nil.2 ?_
  | refine w_ld 0 hA ok rfl rfl rfl ?_
  | refine w_st 0 hA ok rfl rfl rfl rfl ?_
  | (refine w_Raw hA ?_; intro hA)
  | refine w_Words hA ?_
  | refine wq_Size ?_
  | refine w_ck 0 hA ok rfl rfl rfl ?_
  | refine w_ckn rfl ?_)
      have ew : (A.touchR x.pl.carved).words.length = A.words.length := by unfold Ar.touchR; split <;> rfl
      rw [ew]
      by_cases h2 : A.rawF x.pl.carved > w64 (A.words.length - sizeF x.cls)
      · rw [if_pos h2]
        refine wp_true (decide_eq_true h2) ?_
        repeat (first
  | refine wp_nil.2 ?_
  | refine w_ld 0 hA ok rfl rfl rfl ?_
  | refine w_st 0 hA ok rfl rfl rfl rfl ?_)
        exact wp_ret_of ⟨(q, q0, q1), rfl, rfl, rfl, ok, hA⟩
      · rw [if_neg h2]
        refine wp_false (decide_eq_false h2) ?_
        repeat (first
  | refine wp_nil.2 ?_
  | refine w_ld 0 hA ok rfl rfl rfl ?_)
        exact wp_ret_of ⟨(q, q0, q1), rfl, rfl, rfl, ok, hA⟩
    · rw [if_neg h1]
      refine wp_false (ibef h1) ?_
      by_cases h2 : x.what = 2
      · rw [if_pos h2]
        refine wp_true (ibeq h2) ?_
        repeat (first
  | refine wp_nil.2 ?_
  | refine w_ld 0 hA ok rfl rfl rfl ?_
  | refine w_st 0 hA ok rfl rfl rfl rfl ?_
  | (refine w_SwapRaw hA ?_; intro hA)
  | refine wq_Size ?_)
        cases hb : A.swapRb x.pl.carved x.base with
        | true =>
          repeat (first
  | refine wp_nil.2 ?_
  | refine w_ld 0 hA ok rfl rfl rfl ?_
  | refine w_st 0 hA ok rfl rfl rfl rfl ?_)
          exact wp_ret_of ⟨(q, q0, q1), rfl, rfl, rfl, ok, hA⟩
        | false =>
          repeat (first
  | refine wp_nil.2 ?_
  | refine w_ld 0 hA ok rfl rfl rfl ?_)
          exact wp_ret_of ⟨(q, q0, q1), rfl, rfl, rfl, ok, hA⟩
      · rw [if_neg h2]
        refine wp_false (ibef h2) ?_
        by_cases h3 : x.what = 3
        · rw [if_pos h3]
          refine wp_true (ibeq h3) ?_
          repeat (first
  | refine wp_nil.2 ?_
  | refine w_ld 0 hA ok rfl rfl rfl ?_
  | refine w_st 0 hA ok rfl rfl rfl rfl ?_
  | (refine w_AddRaw hA ?_; intro hA)
  | (refine w_Born hA ?_; intro hA)
  | refine wq_Pack ?_)
          exact wp_ret_of ⟨(q, q0, q1), rfl, rfl, rfl, ok, hA⟩
        · rw [if_neg h3]
          refine wp_false (ibef h3) ?_
          repeat (first
  | refine wp_nil.2 ?_
  | refine w_ld 0 hA ok rfl rfl rfl ?_)
          exact wp_ret_of ⟨(q, q0, q1), rfl, rfl, rfl, ok, hA⟩
theorem mAl_inv : mAl.inv' ty_p_slab_Alloc := fun q p => by
  show opS _ _ _ _ = .pure (.enter f_slab_Alloc_Step [.pointer (some ⟨q, 0, none⟩), .pointer p].toArray)
  kernel_rfl
structure Fe where
  h : Int
  done : Bool
  pu : Pu
def Fe.cells (x : Fe) (q0 : Nat) : List Value := [.pointer (some ⟨q0, 0, none⟩), .int .i64 x.h, .bool x.done]
def Fe.bl (x : Fe) (j : Nat × Nat × Nat) : Bl := [(j.1, oc ty_slab_Free (x.cells j.2.1)), (j.2.1, pushObj j.2.2), (j.2.2, x.pu.obj)]
def Fe.step (x : Fe) (A : Ar) : Fe × Ar :=
  if x.done = true then (x, A)
  else if x.pu.stepB A = true then ({ x with pu := x.pu.stepM A, done := true }, (x.pu.stepA A).diedF x.h) else ({ x with pu := x.pu.stepM A }, x.pu.stepA A)
def mFe : Mch Fe (Nat × Nat × Nat) where
  f := f_slab_Free_Step
  addr := fun j => j.1
  bl := Fe.bl
  inv := fun _ _ => True
  step := Fe.step
  fin := fun x => x.done
theorem mFe_ok : mFe.ok := by
  rintro I A G x ⟨q, q0, q1⟩ hA ok hl
  have ok : Ok I G [q, q0, q1] := ok
  refine t_slab_Free_Step_spec fun L => ?_
  unfold t_slab_Free_Step
  show wp Tryz.prog _ L (own A [(q, oc ty_slab_Free (x.cells q0)), (q0, pushObj q1), (q1, x.pu.obj)] G) fun v K => ∃ j' : Nat × Nat × Nat, v = .bool (x.step A).1.done ∧ K = own (x.step A).2 ((x.step A).1.bl j') G ∧ j'.1 = q ∧ Ok I G [j'.1, j'.2.1, j'.2.2] ∧ Aw I (x.step A).2
  unfold Fe.step
  repeat (first
  | refine wp_nil.2 ?_
  | refine w_ld 0 hA ok rfl rfl rfl ?_)
  by_cases hd : x.done = true
  · rw [if_pos hd]
    refine wp_false (by rw [hd]; rfl) ?_
    repeat (first
  | refine wp_nil.2 ?_
  | refine w_ld 0 hA ok rfl rfl rfl ?_)
    exact wp_ret_of ⟨(q, q0, q1), rfl, rfl, rfl, ok, hA⟩
  · rw [if_neg hd]
    refine wp_true (by simpa using hd) ?_
    repeat (first
  | refine wp_nil.2 ?_
  | refine w_ld 0 hA ok rfl rfl rfl ?_
  | (refine w_PushStep 1 2 hA ok rfl rfl ?_; intro hA))
    by_cases hb : x.pu.stepB A = true
    · rw [if_pos hb]
      refine wp_true hb ?_
      repeat (first
  | refine wp_nil.2 ?_
  | refine w_ld 0 hA ok rfl rfl rfl ?_
  | refine w_st 0 hA ok rfl rfl rfl rfl ?_
  | (refine w_Died hA ?_; intro hA))
      exact wp_ret_of ⟨(q, q0, q1), rfl, rfl, rfl, ok, hA⟩
    · rw [if_neg hb]
      refine wp_false (by simpa using hb) ?_
      repeat (first
  | refine wp_nil.2 ?_
  | refine w_ld 0 hA ok rfl rfl rfl ?_)
      exact wp_ret_of ⟨(q, q0, q1), rfl, rfl, rfl, ok, hA⟩
def newAl (p : Pl) (w c : Int) : Al := ⟨p, w, c, 0, 0, 0, 0, newPo p w c⟩
def newFe (p : Pl) (w h : Int) : Fe := ⟨h, false, ⟨p, headF p w (opC h), 0, 0, opB h⟩⟩
section
variable {L : Hands} {R : Value → Heap → Prop} {A : Ar} {I : List Nat} {l : Bl} {G : Heap}
theorem NewAlloc_own (p : Pl) (w c : Int) (hA : Aw I A) (hc : sizeF c ≠ 0) (G : Heap) :
    SpecF Tryz.prog f_slab_NewAlloc #[p.val, .int .i64 w, .int .i64 c] (own A [] G) fun v K => ∃ j : Nat × Nat × Nat, v = .pointer (some ⟨j.1, 0, none⟩) ∧ K = own A ((newAl p w c).bl j) G ∧ Ok I G (keys ((newAl p w c).bl j)) := by
  refine t_slab_NewAlloc_spec (p0_0 := p.work) (p0_1 := p.heads) (p0_2 := p.links) (p0_3 := p.gens) (p0_4 := p.carved) fun L => ?_
  unfold t_slab_NewAlloc
  have ok : Ok I G (keys []) := ⟨.nil, fun b h => (by cases h), fun b h => (by cases h)⟩
  refine w_newP hA ok fun e ok => ?_
  repeat (first
  | refine w_ldA 0 hA ok rfl rfl rfl ?_)
  refine w_newP hA ok fun q ok => ?_
  repeat (first
  | refine wq_Size ?_)
  refine wp_false (ibef hc) ?_
  repeat (first
  | refine w_ldA 1 hA ok rfl rfl rfl ?_)
  refine w_NewPop (p := p) hA ok fun q0 q1 ok => ?_
  repeat (first
  | refine wp_nil.2 ?_
  | refine w_st 2 hA ok rfl rfl rfl rfl ?_)
  exact w_ret [2, 0, 1] ok rfl (by decide) fun ok => ⟨(q, q0, q1), rfl, rfl, ok⟩
theorem NewFree_own (p : Pl) (w h : Int) (hA : Aw I A) (G : Heap) :
    SpecF Tryz.prog f_slab_NewFree #[p.val, .int .i64 w, .int .i64 h] (own A [] G) fun v K => ∃ j : Nat × Nat × Nat, v = .pointer (some ⟨j.1, 0, none⟩) ∧ K = own A ((newFe p w h).bl j) G ∧ Ok I G (keys ((newFe p w h).bl j)) := by
  refine t_slab_NewFree_spec (p0_0 := p.work) (p0_1 := p.heads) (p0_2 := p.links) (p0_3 := p.gens) (p0_4 := p.carved) fun L => ?_
  unfold t_slab_NewFree
  have ok : Ok I G (keys []) := ⟨.nil, fun b h => (by cases h), fun b h => (by cases h)⟩
  refine w_newP hA ok fun e ok => ?_
  repeat (first
  | refine w_ldA 0 hA ok rfl rfl rfl ?_
  | refine wq_Open ?_)
  refine w_NewPush (p := p) hA ok fun q0 q1 ok => ?_
  repeat (first
  | refine wp_nil.2 ?_
  | refine w_ld 0 hA ok rfl rfl rfl ?_
  | refine w_ld 1 hA ok rfl rfl rfl ?_
  | refine w_ld 2 hA ok rfl rfl rfl ?_
  | refine w_ld 3 hA ok rfl rfl rfl ?_
  | refine w_ld 4 hA ok rfl rfl rfl ?_
  | refine w_ld 5 hA ok rfl rfl rfl ?_
  | refine w_ld 6 hA ok rfl rfl rfl ?_
  | refine w_ld 7 hA ok rfl rfl rfl ?_
  | refine w_st 0 hA ok rfl rfl rfl rfl ?_
  | refine w_st 1 hA ok rfl rfl rfl rfl ?_
  | refine w_st 2 hA ok rfl rfl rfl rfl ?_
  | refine w_st 3 hA ok rfl rfl rfl rfl ?_
  | refine w_st 4 hA ok rfl rfl rfl rfl ?_
  | refine w_st 5 hA ok rfl rfl rfl rfl ?_
  | refine w_st 6 hA ok rfl rfl rfl rfl ?_
  | refine w_st 7 hA ok rfl rfl rfl rfl ?_
  | refine w_ldA 0 hA ok rfl rfl rfl ?_
  | refine w_ldA 1 hA ok rfl rfl rfl ?_
  | refine w_ldA 2 hA ok rfl rfl rfl ?_
  | refine w_ldA 3 hA ok rfl rfl rfl ?_
  | refine w_ldA 4 hA ok rfl rfl rfl ?_
  | refine w_ldA 5 hA ok rfl rfl rfl ?_
  | refine w_ldA 6 hA ok rfl rfl rfl ?_
  | refine w_ldA 7 hA ok rfl rfl rfl ?_
  | refine w_stA 0 hA ok rfl rfl rfl rfl ?_
  | refine w_stA 1 hA ok rfl rfl rfl rfl ?_
  | refine w_stA 2 hA ok rfl rfl rfl rfl ?_
  | refine w_stA 3 hA ok rfl rfl rfl rfl ?_
  | refine w_stA 4 hA ok rfl rfl rfl rfl ?_
  | refine w_stA 5 hA ok rfl rfl rfl rfl ?_
  | refine w_stA 6 hA ok rfl rfl rfl rfl ?_
  | refine w_stA 7 hA ok rfl rfl rfl rfl ?_
  | (refine w_Raw hA ?_; intro hA)
  | (refine w_SetRaw hA ?_; intro hA)
  | (refine w_SwapRaw hA ?_; intro hA)
  | (refine w_AddRaw hA ?_; intro hA)
  | (refine w_Load hA ?_; intro hA)
  | (refine w_Store hA ?_; intro hA)
  | (refine w_Retire hA ?_; intro hA)
  | (refine w_Died hA ?_; intro hA)
  | (refine w_Born hA ?_; intro hA)
  | refine w_State hA ?_
  | refine w_Uses hA ?_
  | refine w_Fault hA ?_
  | refine w_Words hA ?_
  | refine w_Count hA ?_
  | refine wq_Size ?_
  | refine wq_Open ?_
  | refine wq_Pack ?_
  | refine wq_head ?_
  | refine w_ck 0 hA ok rfl rfl rfl ?_
  | refine w_ck 1 hA ok rfl rfl rfl ?_
  | refine w_ck 2 hA ok rfl rfl rfl ?_
  | refine w_ck 3 hA ok rfl rfl rfl ?_
  | refine w_ck 4 hA ok rfl rfl rfl ?_
  | refine w_ck 5 hA ok rfl rfl rfl ?_
  | refine w_ck 6 hA ok rfl rfl rfl ?_
  | refine w_ck 7 hA ok rfl rfl rfl ?_
  | refine w_ckn rfl ?_
  | refine w_Base 0 1 hA ok rfl rfl ?_
  | refine w_Base 1 2 hA ok rfl rfl ?_
  | refine w_Base 2 3 hA ok rfl rfl ?_
  | refine w_Base 3 4 hA ok rfl rfl ?_
  | refine w_Base 4 5 hA ok rfl rfl ?_
  | refine w_Base 5 6 hA ok rfl rfl ?_
  | (refine w_PopStep 0 1 hA ok rfl rfl ?_; intro hA)
  | (refine w_PopStep 1 2 hA ok rfl rfl ?_; intro hA)
  | (refine w_PopStep 2 3 hA ok rfl rfl ?_; intro hA)
  | (refine w_PopStep 3 4 hA ok rfl rfl ?_; intro hA)
  | (refine w_PopStep 4 5 hA ok rfl rfl ?_; intro hA)
  | (refine w_PopStep 5 6 hA ok rfl rfl ?_; intro hA)
  | (refine w_PushStep 0 1 hA ok rfl rfl ?_; intro hA)
  | (refine w_PushStep 1 2 hA ok rfl rfl ?_; intro hA)
  | (refine w_PushStep 2 3 hA ok rfl rfl ?_; intro hA)
  | (refine w_PushStep 3 4 hA ok rfl rfl ?_; intro hA)
  | (refine w_PushStep 4 5 hA ok rfl rfl ?_; intro hA)
  | (refine w_PushStep 5 6 hA ok rfl rfl ?_; intro hA)
  | refine wp_true (by assumption) ?_
  | refine wp_false (by assumption) ?_)
  refine w_newP hA ok fun q ok => ?_
  exact w_ret [0, 1, 2] ok rfl (by decide) fun ok => ⟨(q, q0, q1), rfl, rfl, ok⟩
theorem w_NewAlloc {p : Pl} {w c : Int} {k : Option Addr → Tree} (hA : Aw I A) (ok : Ok I G (keys l)) (hc : sizeF c ≠ 0) (h : ∀ j : Nat × Nat × Nat, Ok I G (keys ((newAl p w c).bl j ++ l)) → wp Tryz.prog (k (some ⟨j.1, 0, none⟩)) L (own A ((newAl p w c).bl j ++ l) G) R) :
    wp Tryz.prog (.call f_slab_NewAlloc [p.val, .int .i64 w, .int .i64 c] (.one (.leaf .ptr)) k) L (own A l G) R := w_make (fun G => NewAlloc_own p w c hA hc G) ok h
theorem w_NewFree {p : Pl} {w b : Int} {k : Option Addr → Tree} (hA : Aw I A) (ok : Ok I G (keys l)) (h : ∀ j : Nat × Nat × Nat, Ok I G (keys ((newFe p w b).bl j ++ l)) → wp Tryz.prog (k (some ⟨j.1, 0, none⟩)) L (own A ((newFe p w b).bl j ++ l) G) R) :
    wp Tryz.prog (.call f_slab_NewFree [p.val, .int .i64 w, .int .i64 b] (.one (.leaf .ptr)) k) L (own A l G) R := w_make (fun G => NewFree_own p w b hA G) ok h
theorem w_Handle (i : Nat) {q q0 : Nat} {x : Al} {k : HL Sh1.T [(.leaf (.int .i64)), (.leaf .bool)] → Tree} (hA : Aw I A) (ok : Ok I G (keys l)) (h0 : l[i]? = some (q, oc ty_slab_Alloc (x.cells q0)))
    (h : wp Tryz.prog (k (x.h, (x.h : Int) != 0, ())) L (own A l G) R) :
    wp Tryz.prog (.call f_slab_Alloc_Handle [.pointer (some ⟨q, 0, none⟩)] (.tup [(.leaf (.int .i64)), (.leaf .bool)]) k) L (own A l G) R := by
  refine wp_call_det (x := (x.h, (x.h : Int) != 0, ())) (H' := own A l G) ?_ h
  refine t_slab_Alloc_Handle_spec fun L => ?_
  unfold t_slab_Alloc_Handle
  refine wp_nil.2 (w_ld i hA ok rfl h0 rfl (wp_nil.2 (w_ld i hA ok rfl h0 rfl ?_)))
  exact wp_ret_of ⟨rfl, rfl⟩
end
noncomputable def t_hazard_Raw (p0 : Int) (p1 : Int) : Tree :=
 .newP (.cells #[(.int .i64 0), (.int .i64 0)] ty_hazard_Table) fun x4 =>
 .stA x4 [(.int .i64 p0), (.int .i64 p1)] <|
 .look (ldK x4 2 0 #[] fun r0 => .pure (.value (.tuple #[(.agg r0), (.int .i64 (w64 (2 * (imax p0 0))))]))) (.tup [(.agg [(.int .i64), (.int .i64)]), (.leaf (.int .i64))]) fun r => .ret (Sh.toVal (.tup [(.agg [(.int .i64), (.int .i64)]), (.leaf (.int .i64))]) r)
theorem t_hazard_Raw_spec {p0 : Int} {p1 : Int} : SpT f_hazard_Raw #[(.int .i64 p0), (.int .i64 p1)] (t_hazard_Raw p0 p1) := spT tcfg1 Tryz.func107 (by kernel_rfl)
noncomputable def t_hazard_Table_Word (p0_0 : Int) (p0_1 : Int) (p1 : Int) (p2 : Int) : Tree :=
 .newP (.cells #[(.int .i64 p0_0), (.int .i64 p0_1)] ty_hazard_Table) fun x3 =>
 .ld (x3.add 1) (.int .i64) fun x8 =>
 .ret (.int .i64 (w64 ((w64 (x8 + (w64 (2 * p1)))) + p2)))
theorem t_hazard_Table_Word_spec {p0_0 : Int} {p0_1 : Int} {p1 : Int} {p2 : Int} : SpT f_hazard_Table_Word #[(.agg #[(.int .i64 p0_0), (.int .i64 p0_1)]), (.int .i64 p1), (.int .i64 p2)] (t_hazard_Table_Word p0_0 p0_1 p1 p2) := spT tcfg1 Tryz.func112 (by kernel_rfl)
noncomputable def t_hazard_NewScan (p0_0 : Int) (p0_1 : Int) (p1_0 : Int) (p1_1 : Int) (p1_2 : Int) (p1_3 : Int) (p1_4 : Int) (p2 : Int) (p3 : Sl) : Tree :=
 .newP (.cells #[(.int .i64 p0_0), (.int .i64 p0_1)] ty_hazard_Table) fun x4 =>
 .newP (.cells #[(.int .i64 p1_0), (.int .i64 p1_1), (.int .i64 p1_2), (.int .i64 p1_3), (.int .i64 p1_4)] ty_free_Place) fun x5 =>
 .ldA x4 [(.int .i64), (.int .i64)] fun x10 =>
 .ldA x5 [(.int .i64), (.int .i64), (.int .i64), (.int .i64), (.int .i64)] fun x11 =>
 .newM fun x13 =>
 .newP (.cells #[(.int .i64 x10.1), (.int .i64 x10.2.1), (.int .i64 x11.1), (.int .i64 x11.2.1), (.int .i64 x11.2.2.1), (.int .i64 x11.2.2.2.1), (.int .i64 x11.2.2.2.2.1), (.int .i64 p2), (.int .i64 0), (.slice none 0 0), (.map x13), (.slice none 0 0), (.slice none 0 0), (.bool false)] ty_hazard_Scan) fun x15 =>
 lkN (some x15) fun x18 =>
 .ld (x18.add 9) .slice fun x20 =>
 .act (opS Tryz.prog (.call { callee := .builtin .append, args := #[(.tmp 0), (.tmp 1)], argTypes := #[ty_s_int, ty_s_int] }) ty_s_int [(.slice x20.a x20.len x20.cap), (.slice p3.a p3.len p3.cap)]) (.one (.leaf .slice)) fun x22 =>
 lkN (some x15) fun x23 =>
 .st (x23.add 9) (.slice x22.a x22.len x22.cap) <|
 .ret (.pointer (some x15))
theorem t_hazard_NewScan_spec {p0_0 : Int} {p0_1 : Int} {p1_0 : Int} {p1_1 : Int} {p1_2 : Int} {p1_3 : Int} {p1_4 : Int} {p2 : Int} {p3 : Sl} : SpT f_hazard_NewScan #[(.agg #[(.int .i64 p0_0), (.int .i64 p0_1)]), (.agg #[(.int .i64 p1_0), (.int .i64 p1_1), (.int .i64 p1_2), (.int .i64 p1_3), (.int .i64 p1_4)]), (.int .i64 p2), (.slice p3.a p3.len p3.cap)] (t_hazard_NewScan p0_0 p0_1 p1_0 p1_1 p1_2 p1_3 p1_4 p2 p3) := spT tcfg1 Tryz.func117 (by kernel_rfl)
@[reducible] def t_hazard_Scan_sort_L1_sh : List Sh1 := [(.leaf (.int .i64))]
noncomputable def t_hazard_Scan_sort_L1 (p0 : Option Addr) (x7 : Sl) (y1 : HL Sh1.T t_hazard_Scan_sort_L1_sh) : Tree :=
 bif (decide ((y1.1 : Int) < ((x7.len : Nat) : Int))) then (
 .look (opS Tryz.prog (.indexAddr ty_s_int (.tmp 0) (.tmp 1)) ty_unit [(.slice x7.a x7.len x7.cap), (.int .i64 y1.1)]) (.one (.leaf .addr)) fun x11 =>
 .ld x11 (.int .i64) fun x12 =>
 lkN p0 fun x14 =>
 .ld (x14.add 10) .map fun x16 =>
 .look (opS Tryz.prog (.lookup ty_m_int_bool (.tmp 0) (.tmp 1) false) ty_bool [(.map x16), (.int .i64 x12)]) (.one (.leaf .bool)) fun x18 =>
 bif x18 then (
 lkN p0 fun x21 =>
 .ld (x21.add 12) .slice fun x23 =>
 .newS (.cells #[(.int .i64 x12)] ty_int) 1 fun x25 =>
 .act (opS Tryz.prog (.call { callee := .builtin .append, args := #[(.tmp 0), (.tmp 1)], argTypes := #[ty_s_int, ty_s_int] }) ty_s_int [(.slice x23.a x23.len x23.cap), (.slice x25.a x25.len x25.cap)]) (.one (.leaf .slice)) fun x26 =>
 lkN p0 fun x27 =>
 .st (x27.add 12) (.slice x26.a x26.len x26.cap) <|
 .again 64 [(.int .i64 (w64 (y1.1 + 1)))])
 else (
 lkN p0 fun x31 =>
 .ld (x31.add 11) .slice fun x33 =>
 lkN p0 fun x35 =>
 .ldA (x35.add 2) [(.int .i64), (.int .i64), (.int .i64), (.int .i64), (.int .i64)] fun x37 =>
 lkN p0 fun x39 =>
 .ld (x39.add 7) (.int .i64) fun x41 =>
 .call f_slab_NewFree [(.agg #[(.int .i64 x37.1), (.int .i64 x37.2.1), (.int .i64 x37.2.2.1), (.int .i64 x37.2.2.2.1), (.int .i64 x37.2.2.2.2.1)]), (.int .i64 x41), (.int .i64 x12)] (.one (.leaf .ptr)) fun x43 =>
 .check (ldS (x31.add 11)) (.slice x33.a x33.len x33.cap) <|
 .check (nck p0) (.pointer (some x31)) <|
 .newS (.cells #[(.pointer x43)] ty_p_slab_Free) 1 fun x44 =>
 .check (ldS (x31.add 11)) (.slice x33.a x33.len x33.cap) <|
 .check (nck p0) (.pointer (some x31)) <|
 .act (opS Tryz.prog (.call { callee := .builtin .append, args := #[(.tmp 0), (.tmp 1)], argTypes := #[ty_s_p_slab_Free, ty_s_p_slab_Free] }) ty_s_p_slab_Free [(.slice x33.a x33.len x33.cap), (.slice x44.a x44.len x44.cap)]) (.one (.leaf .slice)) fun x45 =>
 lkN p0 fun x46 =>
 .st (x46.add 11) (.slice x45.a x45.len x45.cap) <|
 .again 64 [(.int .i64 (w64 (y1.1 + 1)))]))
 else (
 lkN p0 fun x50 =>
 .ld (x50.add 10) .map fun x52 =>
 .act (opS Tryz.prog (.call { callee := .builtin .clear, args := #[(.tmp 0)], argTypes := #[ty_m_int_bool] }) ty_unit [(.map x52)]) .unit fun _ =>
 lkN p0 fun x55 =>
 .ld (x55.add 11) .slice fun x57 =>
 lkN p0 fun x60 =>
 .st (x60.add 13) (.bool ((((x57.len : Nat) : Int) : Int) == 0)) <|
 .ret (.tuple #[]))
noncomputable def t_hazard_Scan_sort (p0 : Option Addr) : Tree :=
 lkN p0 fun x5 =>
 .ld (x5.add 9) .slice fun x7 =>
 .loop 64 t_hazard_Scan_sort_L1_sh [(.int .i64 0)] (t_hazard_Scan_sort_L1 p0 x7)
theorem t_hazard_Scan_sort_spec {p0 : Option Addr} : SpT f_hazard_Scan_sort #[(.pointer p0)] (t_hazard_Scan_sort p0) := spT tcfg1 Tryz.func165 (by kernel_rfl)
noncomputable def t_hazard_Scan_Step (p0 : Option Addr) (p1 : Option Addr) : Tree :=
 lkN p0 fun x7 =>
 .ld x7 (.int .i64) fun x10 =>
 lkN p0 fun x15 =>
 .ld (x15.add 13) .bool fun x17 =>
 bif x17 then (
 lkN p0 fun x110 =>
 .ld (x110.add 13) .bool fun x112 =>
 .ret (.bool x112))
 else (
 lkN p0 fun x20 =>
 .ld (x20.add 8) (.int .i64) fun x22 =>
 bif (decide ((x22 : Int) < (w64 (2 * (imax x10 0))))) then (
 lkN p0 fun x26 =>
 .ld (x26.add 10) .map fun x28 =>
 lkN p0 fun x31 =>
 .ld (x31.add 1) (.int .i64) fun x34 =>
 lkN p0 fun x36 =>
 .ld (x36.add 8) (.int .i64) fun x38 =>
 .call f_arena_Arena_Raw [(.pointer p1), (.int .i64 (w64 (x34 + x38)))] (.one (.leaf (.int .i64))) fun x40 =>
 .check (ldS (x26.add 10)) (.map x28) <|
 .check (nck p0) (.pointer (some x26)) <|
 .act (opS Tryz.prog (.mapUpdate ty_m_int_bool (.tmp 0) (.tmp 1) (.const (.bool true))) ty_unit [(.map x28), (.int .i64 x40)]) .unit fun _ =>
 lkN p0 fun x42 =>
 .ld (x42.add 8) (.int .i64) fun x44 =>
 lkN p0 fun x46 =>
 .st (x46.add 8) (.int .i64 (w64 (x44 + 1))) <|
 lkN p0 fun x49 =>
 .ld (x49.add 8) (.int .i64) fun x51 =>
 bif ((x51 : Int) == (w64 (2 * (imax x10 0)))) then (
 .call f_hazard_Scan_sort [(.pointer p0)] .unit fun _ =>
 lkN p0 fun x110 =>
 .ld (x110.add 13) .bool fun x112 =>
 .ret (.bool x112))
 else (
 lkN p0 fun x110 =>
 .ld (x110.add 13) .bool fun x112 =>
 .ret (.bool x112)))
 else (
 bif (((w64 (2 * (imax x10 0))) : Int) == 0) then (
 lkN p0 fun x61 =>
 .ld (x61.add 8) (.int .i64) fun x63 =>
 bif ((x63 : Int) == 0) then (
 lkN p0 fun x67 =>
 .ld (x67.add 8) (.int .i64) fun x69 =>
 lkN p0 fun x71 =>
 .st (x71.add 8) (.int .i64 (w64 (x69 + 1))) <|
 .call f_hazard_Scan_sort [(.pointer p0)] .unit fun _ =>
 lkN p0 fun x76 =>
 .ld (x76.add 13) .bool fun x78 =>
 bif (!x78) then (
 .call f_hazard_Scan_Step [(.pointer p0), (.pointer p1)] (.one (.leaf .bool)) fun x82 =>
 .ret (.bool x82))
 else (
 lkN p0 fun x110 =>
 .ld (x110.add 13) .bool fun x112 =>
 .ret (.bool x112)))
 else (
 lkN p0 fun x85 =>
 .ld (x85.add 11) .slice fun x87 =>
 .look (opS Tryz.prog (.indexAddr ty_s_p_slab_Free (.tmp 0) (.const (.int .i64 0))) ty_unit [(.slice x87.a x87.len x87.cap)]) (.one (.leaf .addr)) fun x88 =>
 .ld x88 .ptr fun x89 =>
 .call f_slab_Free_Step [(.pointer x89), (.pointer p1)] (.one (.leaf .bool)) fun x91 =>
 bif x91 then (
 lkN p0 fun x94 =>
 .ld (x94.add 11) .slice fun x96 =>
 .look (opS Tryz.prog (.slice ty_s_p_slab_Free (.tmp 0) (some (.const (.int .i64 1))) none none) ty_s_p_slab_Free [(.slice x96.a x96.len x96.cap)]) (.one (.leaf .slice)) fun x97 =>
 lkN p0 fun x98 =>
 .st (x98.add 11) (.slice x97.a x97.len x97.cap) <|
 lkN p0 fun x102 =>
 .ld (x102.add 11) .slice fun x104 =>
 lkN p0 fun x107 =>
 .st (x107.add 13) (.bool ((((x104.len : Nat) : Int) : Int) == 0)) <|
 lkN p0 fun x110 =>
 .ld (x110.add 13) .bool fun x112 =>
 .ret (.bool x112))
 else (
 lkN p0 fun x110 =>
 .ld (x110.add 13) .bool fun x112 =>
 .ret (.bool x112))))
 else (
 lkN p0 fun x85 =>
 .ld (x85.add 11) .slice fun x87 =>
 .look (opS Tryz.prog (.indexAddr ty_s_p_slab_Free (.tmp 0) (.const (.int .i64 0))) ty_unit [(.slice x87.a x87.len x87.cap)]) (.one (.leaf .addr)) fun x88 =>
 .ld x88 .ptr fun x89 =>
 .call f_slab_Free_Step [(.pointer x89), (.pointer p1)] (.one (.leaf .bool)) fun x91 =>
 bif x91 then (
 lkN p0 fun x94 =>
 .ld (x94.add 11) .slice fun x96 =>
 .look (opS Tryz.prog (.slice ty_s_p_slab_Free (.tmp 0) (some (.const (.int .i64 1))) none none) ty_s_p_slab_Free [(.slice x96.a x96.len x96.cap)]) (.one (.leaf .slice)) fun x97 =>
 lkN p0 fun x98 =>
 .st (x98.add 11) (.slice x97.a x97.len x97.cap) <|
 lkN p0 fun x102 =>
 .ld (x102.add 11) .slice fun x104 =>
 lkN p0 fun x107 =>
 .st (x107.add 13) (.bool ((((x104.len : Nat) : Int) : Int) == 0)) <|
 lkN p0 fun x110 =>
 .ld (x110.add 13) .bool fun x112 =>
 .ret (.bool x112))
 else (
 lkN p0 fun x110 =>
 .ld (x110.add 13) .bool fun x112 =>
 .ret (.bool x112)))))
theorem t_hazard_Scan_Step_spec {p0 : Option Addr} {p1 : Option Addr} : SpT f_hazard_Scan_Step #[(.pointer p0), (.pointer p1)] (t_hazard_Scan_Step p0 p1) := spT tcfg1 Tryz.func164 (by kernel_rfl)
noncomputable def t_hazard_Scan_Left (p0 : Option Addr) : Tree :=
 lkN p0 fun x4 =>
 .ld (x4.add 13) .bool fun x6 =>
 bif (!x6) then (
 .ret (.slice none 0 0))
 else (
 lkN p0 fun x9 =>
 .ld (x9.add 12) .slice fun x11 =>
 .act (opS Tryz.prog (.call { callee := .builtin .append, args := #[(.const (.slice none 0 0)), (.tmp 0)], argTypes := #[ty_s_int, ty_s_int] }) ty_s_int [(.slice x11.a x11.len x11.cap)]) (.one (.leaf .slice)) fun x12 =>
 .ret (.slice x12.a x12.len x12.cap))
theorem t_hazard_Scan_Left_spec {p0 : Option Addr} : SpT f_hazard_Scan_Left #[(.pointer p0)] (t_hazard_Scan_Left p0) := spT tcfg1 Tryz.func157 (by kernel_rfl)
structure Sc where
  tw : Int
  ta : Int
  pl : Pl
  work : Int
  word : Int
  l : List Int
  seen : List (Int × Bool)
  sorted : Bool
  frees : List Fe
  left : List Int
  ended : Bool
abbrev Tri := Nat × Nat × Nat
structure ScJ where
  q : Nat
  mq : Nat
  ls : Sl
  fs : Sl
  ds : Sl
  fj : List Tri
  tls : Bl
  tfs : Bl
  tds : Bl
def fbl : List Fe → List Tri → Bl
  | x :: xs, j :: js => x.bl j ++ fbl xs js
  | _, _ => []
theorem fbl_snoc {x : Fe} {j : Tri} : ∀ {xs : List Fe} {js : List Tri}, xs.length = js.length → fbl (xs ++ [x]) (js ++ [j]) = fbl xs js ++ x.bl j
  | [], [], _ => by simp [fbl]
  | y :: xs, k :: js, h => by
    have := fbl_snoc (x := x) (j := j) (xs := xs) (js := js) (by simpa using h)
    simp only [List.cons_append, fbl, this, List.append_assoc]
  | [], _ :: _, h => by simp at h
  | _ :: _, [], h => by simp at h
def scC (tw ta : Int) (p : Pl) (work word : Int) (ls : Sl) (mq : Nat) (fs ds : Sl) (ended : Bool) : List Value :=
  [.int .i64 tw, .int .i64 ta, .int .i64 p.work, .int .i64 p.heads, .int .i64 p.links, .int .i64 p.gens, .int .i64 p.carved, .int .i64 work, .int .i64 word, .slice ls.a ls.len ls.cap, .map (some mq), .slice fs.a fs.len fs.cap, .slice ds.a ds.len ds.cap, .bool ended]
def Sc.cells (m : Sc) (j : ScJ) : List Value := scC m.tw m.ta m.pl m.work m.word j.ls j.mq j.fs j.ds m.ended
def Sc.map (m : Sc) (j : ScJ) : Bl := if m.sorted then [] else [(j.mq, mapObj Value.bool m.seen)]
def Sc.bl (m : Sc) (j : ScJ) : Bl := [(j.q, oc ty_hazard_Scan (m.cells j))] ++ (m.map j ++ (fbl m.frees j.fj ++ (j.tls ++ (j.tfs ++ j.tds))))
structure Sc.rep (m : Sc) (j : ScJ) : Prop where
  ls : SlOf j.tls ty_int eI j.ls m.l
  fs : SlAt j.tfs ty_p_slab_Free eP j.fs (j.fj.map (·.1))
  ds : SlOf j.tds ty_int eI j.ds m.left
  fl : m.frees.length = j.fj.length
  un : m.sorted = false → j.fs = ⟨none, 0, 0⟩ ∧ j.ds = ⟨none, 0, 0⟩ ∧ j.tfs = [] ∧ j.tds = []
theorem elF : ElOk ty_s_p_slab_Free ty_p_slab_Free 1 := ⟨⟨_, _, rfl, rfl, rfl, by decide, by decide, rfl, rfl⟩⟩
def inS (seen : List (Int × Bool)) (h : Int) : Bool := (alGet seen h).getD false
def Sc.upto (m : Sc) (n : Nat) : Sc := { m with frees := ((m.l.take n).filter fun h => !inS m.seen h).map (newFe m.pl m.work), left := (m.l.take n).filter (inS m.seen) }
def Sc.sort (m : Sc) : Sc := { m.upto m.l.length with sorted := true, ended := decide ((m.upto m.l.length).frees = []) }
theorem take_filter {p : Int → Bool} {l : List Int} {n : Nat} (h : n < l.length) : (l.take (n + 1)).filter p = (l.take n).filter p ++ if p (l.getD n 0) then [l.getD n 0] else [] := by
  have e : l.take (n + 1) = l.take n ++ [l.getD n 0] := by
    rw [List.take_add_one, List.getD_eq_getElem?_getD, List.getElem?_eq_getElem h]; rfl
  rw [e, List.filter_append]
  congr 1
  unfold List.filter
  cases p (l.getD n 0) <;> rfl
theorem Sc.bl_u {m : Sc} (j : ScJ) (h : m.sorted = false) : m.bl j = (j.q, oc ty_hazard_Scan (m.cells j)) :: (j.mq, mapObj Value.bool m.seen) :: (fbl m.frees j.fj ++ (j.tls ++ (j.tfs ++ j.tds))) := by
  unfold Sc.bl Sc.map; rw [h]; rfl
theorem Sc.bl_s {m : Sc} (j : ScJ) (h : m.sorted = true) : m.bl j = (j.q, oc ty_hazard_Scan (m.cells j)) :: (fbl m.frees j.fj ++ (j.tls ++ (j.tfs ++ j.tds))) := by
  unfold Sc.bl Sc.map; rw [h]; rfl
section
variable {L : Hands} {R : Value → Heap → Prop} {A : Ar} {I : List Nat} {G : Heap}
structure Srt (I : List Nat) (G : Heap) (A : Ar) (m : Sc) (q mq : Nat) (ls : Sl) (i : Int) (H : Heap) (j : ScJ) : Prop where
  i0 : 0 ≤ i
  i1 : i ≤ m.l.length
  eH : H = own A ((m.upto i.toNat).bl j) G
  ok : Ok I G (keys ((m.upto i.toNat).bl j))
  eq : j.q = q
  eM : j.mq = mq
  eL : j.ls = ls
  ls : SlOf j.tls ty_int eI j.ls m.l
  fs : SlOf j.tfs ty_p_slab_Free eP j.fs (j.fj.map (·.1))
  ds : SlOf j.tds ty_int eI j.ds (m.upto i.toNat).left
  fl : (m.upto i.toNat).frees.length = j.fj.length
set_option maxHeartbeats 1000000 in
theorem sort_spec (m : Sc) (j : ScJ) (hA : Aw I A) (ok : Ok I G (keys (m.bl j))) (rp : m.rep j) (hs : m.sorted = false) (hf : m.frees = []) (hd : m.left = []) (hl : m.l.length ≤ 1000) :
    SpecF Tryz.prog f_hazard_Scan_sort #[.pointer (some ⟨j.q, 0, none⟩)] (own A (m.bl j) G) fun v K => ∃ j', v = .tuple #[] ∧ K = own A (m.sort.bl j') G ∧ j'.q = j.q ∧ Ok I G (keys (m.sort.bl j')) ∧ m.sort.rep j' := by
  refine t_hazard_Scan_sort_spec fun L => ?_
  unfold t_hazard_Scan_sort
  obtain ⟨u1, u2, u3, u4⟩ := rp.un hs
  have efj : j.fj = [] := List.eq_nil_of_length_eq_zero (by rw [← rp.fl, hf]; rfl)
  have e0 : m.upto 0 = m := by cases m; simp only at hf hd; subst hf; subst hd; rfl
  repeat (first
  | refine wp_nil.2 ?_
  | refine w_ld 0 hA ok rfl rfl rfl ?_)
  refine wl_i (fun i H => ∃ j', Srt I G A m j.q j.mq j.ls i H j') (fun i => (m.l.length - i).toNat) 0 ⟨j, Int.le_refl 0, by omega, by rw [show (0 : Int).toNat = 0 from rfl, e0], by rw [show (0 : Int).toNat = 0 from rfl, e0]; exact ok, rfl, rfl, rfl, rp.ls, ?_, by rw [show (0 : Int).toNat = 0 from rfl, e0]; exact rp.ds, by rw [show (0 : Int).toNat = 0 from rfl, e0]; exact rp.fl⟩ ?_
  · rw [u1, u3, efj]; exact .inl ⟨rfl, rfl⟩
  rintro i H ⟨j1, hS⟩
  obtain ⟨i0, i1, eH, ok1, eq, eM, eL, hls, hfs, hds, hfl⟩ := hS
  subst eH
  have hsu : (m.upto i.toNat).sorted = false := hs
  have hlen := hls.len
  rw [Sc.bl_u j1 hsu] at ok1 ⊢
  have ok := ok1
  rw [t_hazard_Scan_sort_L1, ← eL, ← eq]
  by_cases hi : i < m.l.length
  · refine wp_true (decide_eq_true (by show i < ((j1.ls.len : Nat) : Int); rw [hlen]; exact hi)) ?_
    refine w_rdI hA ok (hls.mono fun p hp => ?_) i0 hi ?_
    · exact List.mem_cons_of_mem _ (List.mem_cons_of_mem _ (List.mem_append_right _ (List.mem_append_left _ hp)))
    repeat (first
  | refine wp_nil.2 ?_
  | refine w_ld 0 hA ok rfl rfl rfl ?_)
    refine w_lookup 1 (y := inS m.seen (m.l.getD i.toNat 0)) hA ok rfl rfl rfl rfl rfl ?_ ?_
    · unfold inS
      have e : alGet (m.upto i.toNat).seen (m.l.getD (Int.toNat (i, ()).fst) 0) = alGet m.seen (m.l.getD i.toNat 0) := rfl
      rw [e]
      cases alGet m.seen (m.l.getD i.toNat 0) <;> rfl
    have ht : i.toNat < m.l.length := by omega
    have e1 : w64 (i + 1) = i + 1 := w64_in (by omega) (by omega)
    have e2 : (i + 1).toNat = i.toNat + 1 := by omega
    have fl : (m.upto (i.toNat + 1)).left = (m.upto i.toNat).left ++ if inS m.seen (m.l.getD i.toNat 0) then [m.l.getD i.toNat 0] else [] := take_filter ht
    have ff : (m.upto (i.toNat + 1)).frees = (m.upto i.toNat).frees ++ if inS m.seen (m.l.getD i.toNat 0) then [] else [newFe m.pl m.work (m.l.getD i.toNat 0)] := by
      show ((m.l.take (i.toNat + 1)).filter fun h => !inS m.seen h).map (newFe m.pl m.work) = ((m.l.take i.toNat).filter fun h => !inS m.seen h).map (newFe m.pl m.work) ++ _
      rw [take_filter ht, List.map_append]
      cases inS m.seen (m.l.getD i.toNat 0) <;> rfl
    have hll : (m.upto i.toNat).left.length ≤ 1000 := Nat.le_trans (List.length_filter_le _ _) (by rw [List.length_take]; omega)
    have hlf : (m.upto i.toNat).frees.length ≤ 1000 := by
      show (((m.l.take i.toNat).filter fun h => !inS m.seen h).map (newFe m.pl m.work)).length ≤ 1000
      rw [List.length_map]
      exact Nat.le_trans (List.length_filter_le _ _) (by rw [List.length_take]; omega)
    generalize hh : m.l.getD i.toNat 0 = h at fl ff ⊢
    by_cases hin : inS m.seen h = true
    · rw [if_pos hin] at fl ff
      refine wp_true hin ?_
      repeat (first
  | refine wp_nil.2 ?_
  | refine w_ld 0 hA ok rfl rfl rfl ?_)
      refine w_newS hA ok fun g ok => ?_
      obtain ⟨p1, ok2⟩ := own_perm (A := A) (l' := (j1.q, oc ty_hazard_Scan ((m.upto i.toNat).cells j1)) :: (j1.mq, mapObj Value.bool (m.upto i.toNat).seen) :: (fbl (m.upto i.toNat).frees j1.fj ++ (j1.tls ++ j1.tfs)) ++ (((g, oc ty_int [.int .i64 h]) :: j1.tds) ++ [])) ok (perm_by fun c d c0 cd ca => by simp only [cd, ca, c0]; omega)
      rw [p1]
      have ok := ok2
      refine w_appM (E := eI) elI _ (xs := (m.upto i.toNat).left) (ys := [h]) (t := ⟨some ⟨g, 0, none⟩, 1, 1⟩) hA ok (hds.mono fun p hp => List.mem_cons_of_mem _ hp) ?_ rfl (by simp only [List.length_cons, List.length_nil]; omega) fun s' mid' hs' ok => ?_
      · exact cell_row (c := [.int .i64 h]) hA ok (List.mem_append_right _ (List.mem_append_left _ List.mem_cons_self)) 0 rfl
      repeat (first
  | refine wp_nil.2 ?_
  | refine w_st 0 hA ok rfl rfl rfl rfl ?_)
      rw [List.append_nil] at ff
      have hp : ((j1.q, oc ty_hazard_Scan ((m.upto (i.toNat + 1)).cells { j1 with ds := s', tds := mid' })) :: (j1.mq, mapObj Value.bool (m.upto (i.toNat + 1)).seen) :: (fbl (m.upto i.toNat).frees j1.fj ++ (j1.tls ++ j1.tfs)) ++ (mid' ++ [])).Perm ((m.upto (i.toNat + 1)).bl { j1 with ds := s', tds := mid' }) := by
        rw [Sc.bl_u (m := m.upto (i.toNat + 1)) _ hs, ff]
        dsimp only
        exact (perm_by fun c d c0 cd ca => by simp only [cd, ca, c0]; omega)
      refine wp_again ⟨i + 1, by rw [e1], ⟨{ j1 with ds := s', tds := mid' }, by omega, by omega, ?_, ?_, rfl, eM, rfl, hls, hfs, ?_, ?_⟩, by omega⟩
      · rw [e2]; exact (own_perm2 (A := A) hp ok).1
      · rw [e2]; exact (own_perm2 (A := A) hp ok).2
      · rw [e2, fl]; exact hs'
      · rw [e2, ff]; exact hfl
    · rw [if_neg hin] at fl ff
      rw [List.append_nil] at fl
      refine wp_false (by simpa using hin) ?_
      repeat (first
  | refine wp_nil.2 ?_
  | refine w_ld 0 hA ok rfl rfl rfl ?_
  | refine w_ldA 0 hA ok rfl rfl rfl ?_)
      refine w_NewFree (p := m.pl) (w := m.work) hA ok fun jf ok => ?_
      repeat (first
  | refine w_ck 3 hA ok rfl rfl rfl ?_
  | refine w_ckn rfl ?_)
      refine w_newS hA ok fun g ok => ?_
      repeat (first
  | refine w_ck 4 hA ok rfl rfl rfl ?_
  | refine w_ckn rfl ?_)
      obtain ⟨p1, ok2⟩ := own_perm (A := A) (l' := (j1.q, oc ty_hazard_Scan ((m.upto i.toNat).cells j1)) :: (j1.mq, mapObj Value.bool (m.upto i.toNat).seen) :: (fbl (m.upto i.toNat).frees j1.fj ++ ((newFe m.pl m.work h).bl jf ++ j1.tls)) ++ (((g, oc ty_p_slab_Free [.pointer (some ⟨jf.1, 0, none⟩)]) :: j1.tfs) ++ j1.tds)) ok (perm_by fun c d c0 cd ca => by simp only [cd, ca, c0]; omega)
      rw [p1]
      have ok := ok2
      refine w_appM (E := eP) elF _ (xs := j1.fj.map (·.1)) (ys := [jf.1]) (t := ⟨some ⟨g, 0, none⟩, 1, 1⟩) hA ok (hfs.mono fun p hp => List.mem_cons_of_mem _ hp) ?_ rfl (by simp only [List.length_cons, List.length_nil, List.length_map]; omega) fun s' mid' hs' ok => ?_
      · exact cell_row (c := [.pointer (some ⟨jf.1, 0, none⟩)]) hA ok (List.mem_append_right _ (List.mem_append_left _ List.mem_cons_self)) 0 rfl
      repeat (first
  | refine wp_nil.2 ?_
  | refine w_st 0 hA ok rfl rfl rfl rfl ?_)
      have hp : ((j1.q, oc ty_hazard_Scan ((m.upto (i.toNat + 1)).cells { j1 with fs := s', tfs := mid', fj := j1.fj ++ [jf] })) :: (j1.mq, mapObj Value.bool (m.upto (i.toNat + 1)).seen) :: (fbl (m.upto i.toNat).frees j1.fj ++ ((newFe m.pl m.work h).bl jf ++ j1.tls)) ++ (mid' ++ j1.tds)).Perm ((m.upto (i.toNat + 1)).bl { j1 with fs := s', tfs := mid', fj := j1.fj ++ [jf] }) := by
        rw [Sc.bl_u (m := m.upto (i.toNat + 1)) _ hs, ff]
        dsimp only
        rw [fbl_snoc hfl]
        exact (perm_by fun c d c0 cd ca => by simp only [cd, ca, c0]; omega)
      refine wp_again ⟨i + 1, by rw [e1], ⟨{ j1 with fs := s', tfs := mid', fj := j1.fj ++ [jf] }, by omega, by omega, ?_, ?_, rfl, eM, rfl, hls, ?_, ?_, ?_⟩, by omega⟩
      · rw [e2]; exact (own_perm2 (A := A) hp ok).1
      · rw [e2]; exact (own_perm2 (A := A) hp ok).2
      · rw [List.map_append]; exact hs'
      · rw [e2, fl]; exact hds
      · rw [e2, ff, List.length_append, List.length_append, hfl]; rfl
  · refine wp_false (decide_eq_false (by show ¬ i < ((j1.ls.len : Nat) : Int); rw [hlen]; exact hi)) ?_
    have ei : i.toNat = m.l.length := by omega
    rw [ei] at hds hfl ok ⊢
    repeat (first
  | refine wp_nil.2 ?_
  | refine w_ld 0 hA ok rfl rfl rfl ?_)
    refine w_clear 1 (es := (mapEs Value.bool m.seen 0).toArray) hA ok rfl rfl ?_
    repeat (first
  | refine wp_nil.2 ?_
  | refine w_ld 0 hA ok rfl rfl rfl ?_
  | refine w_st 0 hA ok rfl rfl rfl rfl ?_)
    have hfl2 := hfs.len
    rw [List.length_map, ← hfl] at hfl2
    have hE : scC m.tw m.ta m.pl m.work m.word j1.ls j1.mq j1.fs j1.ds (((j1.fs.len : Nat) : Int) == 0) = m.sort.cells j1 := by
      show _ = scC m.tw m.ta m.pl m.work m.word j1.ls j1.mq j1.fs j1.ds (decide ((m.upto m.l.length).frees = []))
      congr 1
      rw [hfl2]
      cases (m.upto m.l.length).frees <;> simp
      omega
    have key : ∀ L, wp Tryz.prog (.ret (.tuple #[])) L (own A ((j1.q, oc ty_hazard_Scan (m.sort.cells j1)) :: (j1.mq, .map #[] m.seen.length) :: (fbl m.sort.frees j1.fj ++ (j1.tls ++ (j1.tfs ++ j1.tds)))) G) fun v K => ∃ j', v = .tuple #[] ∧ K = own A (m.sort.bl j') G ∧ j'.q = j1.q ∧ Ok I G (keys (m.sort.bl j')) ∧ m.sort.rep j' := by
      intro L
      have ok3 : Ok I G (keys ((j1.q, oc ty_hazard_Scan (m.sort.cells j1)) :: (j1.mq, .map #[] m.seen.length) :: (fbl m.sort.frees j1.fj ++ (j1.tls ++ (j1.tfs ++ j1.tds))))) := ok
      have nd := ok3.nd
      have e3 : m.sort.bl j1 = (j1.q, oc ty_hazard_Scan (m.sort.cells j1)) :: (fbl m.sort.frees j1.fj ++ (j1.tls ++ (j1.tfs ++ j1.tds))) := Sc.bl_s j1 rfl
      have ok4 : Ok I G (keys (m.sort.bl j1)) := by
        rw [e3]
        refine ok3.sub ?_ fun b hb => ?_
        · simp only [keys, List.map_cons, List.nodup_cons, List.mem_cons, not_or] at nd ⊢
          exact ⟨nd.1.2, nd.2.2⟩
        · simp only [keys, List.map_cons, List.mem_cons] at hb ⊢
          rcases hb with h | h
          · exact .inl h
          · exact .inr (.inr h)
      refine ⟨own A (m.sort.bl j1) G, own_sub ok3 ok4.nd fun p hp => ?_, j1, rfl, rfl, rfl, ok4, ⟨hls, hfs.at', hds, hfl, fun h => by cases h⟩⟩
      rw [e3] at hp
      rcases List.mem_cons.1 hp with h | h
      · rw [h]; exact List.mem_cons_self
      · exact List.mem_cons_of_mem _ (List.mem_cons_of_mem _ h)
    rw [← hE] at key
    exact key _
end
noncomputable def t_epoch_Raw (p0 : Int) (p1 : Int) : Tree :=
 .newP (.cells #[(.int .i64 0), (.int .i64 0)] ty_epoch_Table) fun x4 =>
 .stA x4 [(.int .i64 p0), (.int .i64 p1)] <|
 .look (ldK x4 2 0 #[] fun r0 => .pure (.value (.tuple #[(.agg r0), (.int .i64 (w64 (1 + (imax p0 0))))]))) (.tup [(.agg [(.int .i64), (.int .i64)]), (.leaf (.int .i64))]) fun r => .ret (Sh.toVal (.tup [(.agg [(.int .i64), (.int .i64)]), (.leaf (.int .i64))]) r)
theorem t_epoch_Raw_spec {p0 : Int} {p1 : Int} : SpT f_epoch_Raw #[(.int .i64 p0), (.int .i64 p1)] (t_epoch_Raw p0 p1) := spT tcfg0 Tryz.func121 (by kernel_rfl)
noncomputable def t_epoch_Table_Word (p0_0 : Int) (p0_1 : Int) (p1 : Int) : Tree :=
 .newP (.cells #[(.int .i64 p0_0), (.int .i64 p0_1)] ty_epoch_Table) fun x2 =>
 .ld (x2.add 1) (.int .i64) fun x6 =>
 .ret (.int .i64 (w64 ((w64 (x6 + 1)) + p1)))
theorem t_epoch_Table_Word_spec {p0_0 : Int} {p0_1 : Int} {p1 : Int} : SpT f_epoch_Table_Word #[(.agg #[(.int .i64 p0_0), (.int .i64 p0_1)]), (.int .i64 p1)] (t_epoch_Table_Word p0_0 p0_1 p1) := spT tcfg0 Tryz.func111 (by kernel_rfl)
noncomputable def t_epoch_Table_Global (p0_0 : Int) (p0_1 : Int) : Tree :=
 .newP (.cells #[(.int .i64 p0_0), (.int .i64 p0_1)] ty_epoch_Table) fun x1 =>
 .ld (x1.add 1) (.int .i64) fun x4 =>
 .ret (.int .i64 x4)
theorem t_epoch_Table_Global_spec {p0_0 : Int} {p0_1 : Int} : SpT f_epoch_Table_Global #[(.agg #[(.int .i64 p0_0), (.int .i64 p0_1)])] (t_epoch_Table_Global p0_0 p0_1) := spT tcfg0 Tryz.func124 (by kernel_rfl)
noncomputable def t_epoch_NewPin (p0_0 : Int) (p0_1 : Int) (p1 : Int) : Tree :=
 .newP (.cells #[(.int .i64 p0_0), (.int .i64 p0_1)] ty_epoch_Table) fun x2 =>
 .ldA x2 [(.int .i64), (.int .i64)] fun x6 =>
 .newP (.cells #[(.int .i64 x6.1), (.int .i64 x6.2.1), (.int .i64 p1), (.int .i64 0), .nilFunc] ty_epoch_Pin) fun x9 =>
 lkN (some x9) fun x13 =>
 .st (x13.add 4) (.func (.func f_epoch_Pin_global) #[(.pointer (some x9))] #[]) <|
 .ret (.pointer (some x9))
theorem t_epoch_NewPin_spec {p0_0 : Int} {p0_1 : Int} {p1 : Int} : SpT f_epoch_NewPin #[(.agg #[(.int .i64 p0_0), (.int .i64 p0_1)]), (.int .i64 p1)] (t_epoch_NewPin p0_0 p0_1 p1) := spT tcfg0 Tryz.func109 (by kernel_rfl)
noncomputable def t_epoch_Pin_global (p0 : Option Addr) (p1 : Option Addr) : Tree :=
 lkN p0 fun x7 =>
 .ldA x7 [(.int .i64), (.int .i64)] fun x9 =>
 .qcall f_epoch_Table_Global [(.agg #[(.int .i64 x9.1), (.int .i64 x9.2.1)])] (.one (.leaf (.int .i64))) fun x10 =>
 .call f_arena_Arena_Raw [(.pointer p1), (.int .i64 x10)] (.one (.leaf (.int .i64))) fun x11 =>
 lkN p0 fun x12 =>
 .st (x12.add 3) (.int .i64 x11) <|
 lkN p0 fun x17 =>
 .st (x17.add 4) (.func (.func f_epoch_Pin_own) #[(.pointer p0)] #[]) <|
 .ret (.tuple #[])
theorem t_epoch_Pin_global_spec {p0 : Option Addr} {p1 : Option Addr} : SpT f_epoch_Pin_global #[(.pointer p0), (.pointer p1)] (t_epoch_Pin_global p0 p1) := spT tcfg0 Tryz.func122 (by kernel_rfl)
noncomputable def t_epoch_Pin_own (p0 : Option Addr) (p1 : Option Addr) : Tree :=
 lkN p0 fun x6 =>
 .ldA x6 [(.int .i64), (.int .i64)] fun x8 =>
 lkN p0 fun x10 =>
 .ld (x10.add 2) (.int .i64) fun x12 =>
 .qcall f_epoch_Table_Word [(.agg #[(.int .i64 x8.1), (.int .i64 x8.2.1)]), (.int .i64 x12)] (.one (.leaf (.int .i64))) fun x13 =>
 lkN p0 fun x15 =>
 .ld (x15.add 3) (.int .i64) fun x17 =>
 .call f_arena_Arena_SetRaw [(.pointer p1), (.int .i64 x13), (.int .i64 (w64 (x17 + 1)))] .unit fun _ =>
 lkN p0 fun x23 =>
 .st (x23.add 4) (.func (.func f_epoch_Pin_again) #[(.pointer p0)] #[]) <|
 .ret (.tuple #[])
theorem t_epoch_Pin_own_spec {p0 : Option Addr} {p1 : Option Addr} : SpT f_epoch_Pin_own #[(.pointer p0), (.pointer p1)] (t_epoch_Pin_own p0 p1) := spT tcfg0 Tryz.func125 (by kernel_rfl)
noncomputable def t_epoch_Pin_again (p0 : Option Addr) (p1 : Option Addr) : Tree :=
 lkN p0 fun x6 =>
 .ld (x6.add 3) (.int .i64) fun x8 =>
 lkN p0 fun x12 =>
 .ldA x12 [(.int .i64), (.int .i64)] fun x14 =>
 .qcall f_epoch_Table_Global [(.agg #[(.int .i64 x14.1), (.int .i64 x14.2.1)])] (.one (.leaf (.int .i64))) fun x15 =>
 .call f_arena_Arena_Raw [(.pointer p1), (.int .i64 x15)] (.one (.leaf (.int .i64))) fun x16 =>
 lkN p0 fun x17 =>
 .st (x17.add 3) (.int .i64 x16) <|
 lkN p0 fun x22 =>
 .st (x22.add 4) (.func (.func f_epoch_Pin_own) #[(.pointer p0)] #[]) <|
 lkN p0 fun x25 =>
 .ld (x25.add 3) (.int .i64) fun x27 =>
 bif ((x27 : Int) == x8) then (
 lkN p0 fun x31 =>
 .st (x31.add 4) .nilFunc <|
 .ret (.tuple #[]))
 else (
 .ret (.tuple #[]))
theorem t_epoch_Pin_again_spec {p0 : Option Addr} {p1 : Option Addr} : SpT f_epoch_Pin_again #[(.pointer p0), (.pointer p1)] (t_epoch_Pin_again p0 p1) := spT tcfg0 Tryz.func128 (by kernel_rfl)
noncomputable def t_epoch_Pin_Step (p0 : Option Addr) (p1 : Option Addr) : Tree :=
 lkN p0 fun x6 =>
 .ld (x6.add 4) .val fun x8 =>
 .look (opS Tryz.prog (.binOp .neq ty_epoch_step (.tmp 0) (.const .nilFunc) ty_epoch_step) ty_bool [x8]) (.one (.leaf .bool)) fun x9 =>
 bif x9 then (
 lkN p0 fun x11 =>
 .ld (x11.add 4) .val fun x13 =>
 .act (opS Tryz.prog (.call { callee := .value (.tmp 0), args := #[(.tmp 1)], argTypes := #[ty_p_arena_Arena] }) ty_unit [x13, (.pointer p1)]) .unit fun _ =>
 lkN p0 fun x17 =>
 .ld (x17.add 4) .val fun x19 =>
 .look (opS Tryz.prog (.binOp .eql ty_epoch_step (.tmp 0) (.const .nilFunc) ty_epoch_step) ty_bool [x19]) (.one (.leaf .bool)) fun x20 =>
 .ret (.bool x20))
 else (
 lkN p0 fun x17 =>
 .ld (x17.add 4) .val fun x19 =>
 .look (opS Tryz.prog (.binOp .eql ty_epoch_step (.tmp 0) (.const .nilFunc) ty_epoch_step) ty_bool [x19]) (.one (.leaf .bool)) fun x20 =>
 .ret (.bool x20))
theorem t_epoch_Pin_Step_spec {p0 : Option Addr} {p1 : Option Addr} : SpT f_epoch_Pin_Step #[(.pointer p0), (.pointer p1)] (t_epoch_Pin_Step p0 p1) := spT tcfg0 Tryz.func161 (by kernel_rfl)
noncomputable def t_epoch_NewTurn (p0_0 : Int) (p0_1 : Int) (p1_0 : Int) (p1_1 : Int) (p1_2 : Int) (p1_3 : Int) (p1_4 : Int) (p2 : Int) (p3 : Sl) : Tree :=
 .newP (.cells #[(.int .i64 p0_0), (.int .i64 p0_1)] ty_epoch_Table) fun x4 =>
 .newP (.cells #[(.int .i64 p1_0), (.int .i64 p1_1), (.int .i64 p1_2), (.int .i64 p1_3), (.int .i64 p1_4)] ty_free_Place) fun x5 =>
 .ldA x4 [(.int .i64), (.int .i64)] fun x10 =>
 .ldA x5 [(.int .i64), (.int .i64), (.int .i64), (.int .i64), (.int .i64)] fun x11 =>
 .newP (.cells #[(.int .i64 x10.1), (.int .i64 x10.2.1), (.int .i64 x11.1), (.int .i64 x11.2.1), (.int .i64 x11.2.2.1), (.int .i64 x11.2.2.2.1), (.int .i64 x11.2.2.2.2.1), (.int .i64 p2), (.int .i64 0), (.int .i64 0), (.slice none 0 0), (.slice none 0 0), (.slice none 0 0), .nilFunc] ty_epoch_Turn) fun x14 =>
 lkN (some x14) fun x17 =>
 .ld (x17.add 10) .slice fun x19 =>
 .act (opS Tryz.prog (.call { callee := .builtin .append, args := #[(.tmp 0), (.tmp 1)], argTypes := #[ty_s_epoch_Limbo, ty_s_epoch_Limbo] }) ty_s_epoch_Limbo [(.slice x19.a x19.len x19.cap), (.slice p3.a p3.len p3.cap)]) (.one (.leaf .slice)) fun x21 =>
 lkN (some x14) fun x22 =>
 .st (x22.add 10) (.slice x21.a x21.len x21.cap) <|
 lkN (some x14) fun x27 =>
 .st (x27.add 13) (.func (.func f_epoch_Turn_global) #[(.pointer (some x14))] #[]) <|
 .ret (.pointer (some x14))
theorem t_epoch_NewTurn_spec {p0_0 : Int} {p0_1 : Int} {p1_0 : Int} {p1_1 : Int} {p1_2 : Int} {p1_3 : Int} {p1_4 : Int} {p2 : Int} {p3 : Sl} : SpT f_epoch_NewTurn #[(.agg #[(.int .i64 p0_0), (.int .i64 p0_1)]), (.agg #[(.int .i64 p1_0), (.int .i64 p1_1), (.int .i64 p1_2), (.int .i64 p1_3), (.int .i64 p1_4)]), (.int .i64 p2), (.slice p3.a p3.len p3.cap)] (t_epoch_NewTurn p0_0 p0_1 p1_0 p1_1 p1_2 p1_3 p1_4 p2 p3) := spT tcfg0 Tryz.func116 (by kernel_rfl)
noncomputable def t_epoch_Turn_global (p0 : Option Addr) (p1 : Option Addr) : Tree :=
 lkN p0 fun x7 =>
 .ldA x7 [(.int .i64), (.int .i64)] fun x9 =>
 .qcall f_epoch_Table_Global [(.agg #[(.int .i64 x9.1), (.int .i64 x9.2.1)])] (.one (.leaf (.int .i64))) fun x10 =>
 .call f_arena_Arena_Raw [(.pointer p1), (.int .i64 x10)] (.one (.leaf (.int .i64))) fun x11 =>
 lkN p0 fun x12 =>
 .st (x12.add 8) (.int .i64 x11) <|
 lkN p0 fun x17 =>
 .st (x17.add 13) (.func (.func f_epoch_Turn_look) #[(.pointer p0)] #[]) <|
 lkN p0 fun x20 =>
 .ld x20 (.int .i64) fun x23 =>
 bif (decide ((x23 : Int) < 1)) then (
 lkN p0 fun x28 =>
 .st (x28.add 13) (.func (.func f_epoch_Turn_swap) #[(.pointer p0)] #[]) <|
 .ret (.tuple #[]))
 else (
 .ret (.tuple #[]))
theorem t_epoch_Turn_global_spec {p0 : Option Addr} {p1 : Option Addr} : SpT f_epoch_Turn_global #[(.pointer p0), (.pointer p1)] (t_epoch_Turn_global p0 p1) := spT tcfg0 Tryz.func123 (by kernel_rfl)
noncomputable def t_epoch_Turn_look (p0 : Option Addr) (p1 : Option Addr) : Tree :=
 lkN p0 fun x7 =>
 .ldA x7 [(.int .i64), (.int .i64)] fun x9 =>
 lkN p0 fun x11 =>
 .ld (x11.add 9) (.int .i64) fun x13 =>
 .qcall f_epoch_Table_Word [(.agg #[(.int .i64 x9.1), (.int .i64 x9.2.1)]), (.int .i64 x13)] (.one (.leaf (.int .i64))) fun x14 =>
 .call f_arena_Arena_Raw [(.pointer p1), (.int .i64 x14)] (.one (.leaf (.int .i64))) fun x15 =>
 lkN p0 fun x17 =>
 .ld (x17.add 9) (.int .i64) fun x19 =>
 lkN p0 fun x21 =>
 .st (x21.add 9) (.int .i64 (w64 (x19 + 1))) <|
 bif ((x15 : Int) != 0) then (
 lkN p0 fun x29 =>
 .ld (x29.add 8) (.int .i64) fun x31 =>
 bif ((x15 : Int) != (w64 (x31 + 1))) then (
 .call f_epoch_Turn_sort [(.pointer p0)] .unit fun _ =>
 .ret (.tuple #[]))
 else (
 lkN p0 fun x39 =>
 .ld (x39.add 9) (.int .i64) fun x41 =>
 lkN p0 fun x43 =>
 .ld x43 (.int .i64) fun x46 =>
 bif ((x41 : Int) == x46) then (
 lkN p0 fun x51 =>
 .st (x51.add 13) (.func (.func f_epoch_Turn_swap) #[(.pointer p0)] #[]) <|
 .ret (.tuple #[]))
 else (
 .ret (.tuple #[]))))
 else (
 lkN p0 fun x39 =>
 .ld (x39.add 9) (.int .i64) fun x41 =>
 lkN p0 fun x43 =>
 .ld x43 (.int .i64) fun x46 =>
 bif ((x41 : Int) == x46) then (
 lkN p0 fun x51 =>
 .st (x51.add 13) (.func (.func f_epoch_Turn_swap) #[(.pointer p0)] #[]) <|
 .ret (.tuple #[]))
 else (
 .ret (.tuple #[])))
theorem t_epoch_Turn_look_spec {p0 : Option Addr} {p1 : Option Addr} : SpT f_epoch_Turn_look #[(.pointer p0), (.pointer p1)] (t_epoch_Turn_look p0 p1) := spT tcfg0 Tryz.func126 (by kernel_rfl)
noncomputable def t_epoch_Turn_swap (p0 : Option Addr) (p1 : Option Addr) : Tree :=
 lkN p0 fun x6 =>
 .ldA x6 [(.int .i64), (.int .i64)] fun x8 =>
 .qcall f_epoch_Table_Global [(.agg #[(.int .i64 x8.1), (.int .i64 x8.2.1)])] (.one (.leaf (.int .i64))) fun x9 =>
 lkN p0 fun x11 =>
 .ld (x11.add 8) (.int .i64) fun x13 =>
 lkN p0 fun x15 =>
 .ld (x15.add 8) (.int .i64) fun x17 =>
 .call f_arena_Arena_SwapRaw [(.pointer p1), (.int .i64 x9), (.int .i64 x13), (.int .i64 (w64 (x17 + 1)))] (.one (.leaf .bool)) fun x19 =>
 bif x19 then (
 lkN p0 fun x21 =>
 .ld (x21.add 8) (.int .i64) fun x23 =>
 lkN p0 fun x25 =>
 .st (x25.add 8) (.int .i64 (w64 (x23 + 1))) <|
 .call f_epoch_Turn_sort [(.pointer p0)] .unit fun _ =>
 .ret (.tuple #[]))
 else (
 .call f_epoch_Turn_sort [(.pointer p0)] .unit fun _ =>
 .ret (.tuple #[]))
theorem t_epoch_Turn_swap_spec {p0 : Option Addr} {p1 : Option Addr} : SpT f_epoch_Turn_swap #[(.pointer p0), (.pointer p1)] (t_epoch_Turn_swap p0 p1) := spT tcfg0 Tryz.func127 (by kernel_rfl)
@[reducible] def t_epoch_Turn_sort_L1_sh : List Sh1 := [(.leaf (.int .i64))]
noncomputable def t_epoch_Turn_sort_L1 (p0 : Option Addr) (x7 : Sl) (y1 : HL Sh1.T t_epoch_Turn_sort_L1_sh) : Tree :=
 bif (decide ((y1.1 : Int) < ((x7.len : Nat) : Int))) then (
 .look (opS Tryz.prog (.indexAddr ty_s_epoch_Limbo (.tmp 0) (.tmp 1)) ty_unit [(.slice x7.a x7.len x7.cap), (.int .i64 y1.1)]) (.one (.leaf .addr)) fun x11 =>
 .ldA x11 [(.int .i64), (.int .i64)] fun x12 =>
 .newP (.cells #[(.int .i64 0), (.int .i64 0)] ty_epoch_Limbo) fun x3 =>
 .stA x3 [(.int .i64 x12.1), (.int .i64 x12.2.1)] <|
 .ld (x3.add 1) (.int .i64) fun x14 =>
 lkN p0 fun x17 =>
 .ld (x17.add 8) (.int .i64) fun x19 =>
 bif (decide (((w64 (x14 + 2)) : Int) ≤ x19)) then (
 lkN p0 fun x23 =>
 .ld (x23.add 11) .slice fun x25 =>
 lkN p0 fun x27 =>
 .ldA (x27.add 2) [(.int .i64), (.int .i64), (.int .i64), (.int .i64), (.int .i64)] fun x29 =>
 lkN p0 fun x31 =>
 .ld (x31.add 7) (.int .i64) fun x33 =>
 .ld x3 (.int .i64) fun x35 =>
 .call f_slab_NewFree [(.agg #[(.int .i64 x29.1), (.int .i64 x29.2.1), (.int .i64 x29.2.2.1), (.int .i64 x29.2.2.2.1), (.int .i64 x29.2.2.2.2.1)]), (.int .i64 x33), (.int .i64 x35)] (.one (.leaf .ptr)) fun x36 =>
 .check (ldS (x23.add 11)) (.slice x25.a x25.len x25.cap) <|
 .check (nck p0) (.pointer (some x23)) <|
 .newS (.cells #[(.pointer x36)] ty_p_slab_Free) 1 fun x37 =>
 .check (ldS (x23.add 11)) (.slice x25.a x25.len x25.cap) <|
 .check (nck p0) (.pointer (some x23)) <|
 .act (opS Tryz.prog (.call { callee := .builtin .append, args := #[(.tmp 0), (.tmp 1)], argTypes := #[ty_s_p_slab_Free, ty_s_p_slab_Free] }) ty_s_p_slab_Free [(.slice x25.a x25.len x25.cap), (.slice x37.a x37.len x37.cap)]) (.one (.leaf .slice)) fun x38 =>
 lkN p0 fun x39 =>
 .st (x39.add 11) (.slice x38.a x38.len x38.cap) <|
 .again 64 [(.int .i64 (w64 (y1.1 + 1)))])
 else (
 lkN p0 fun x43 =>
 .ld (x43.add 12) .slice fun x45 =>
 .ldA x3 [(.int .i64), (.int .i64)] fun x46 =>
 .newS (.cells #[(.int .i64 x46.1), (.int .i64 x46.2.1)] ty_epoch_Limbo) 1 fun x47 =>
 .check (ldS (x43.add 12)) (.slice x45.a x45.len x45.cap) <|
 .check (nck p0) (.pointer (some x43)) <|
 .act (opS Tryz.prog (.call { callee := .builtin .append, args := #[(.tmp 0), (.tmp 1)], argTypes := #[ty_s_epoch_Limbo, ty_s_epoch_Limbo] }) ty_s_epoch_Limbo [(.slice x45.a x45.len x45.cap), (.slice x47.a x47.len x47.cap)]) (.one (.leaf .slice)) fun x48 =>
 lkN p0 fun x49 =>
 .st (x49.add 12) (.slice x48.a x48.len x48.cap) <|
 .again 64 [(.int .i64 (w64 (y1.1 + 1)))]))
 else (
 lkN p0 fun x55 =>
 .st (x55.add 13) (.func (.func f_epoch_Turn_free) #[(.pointer p0)] #[]) <|
 lkN p0 fun x58 =>
 .ld (x58.add 11) .slice fun x60 =>
 bif ((((x60.len : Nat) : Int) : Int) == 0) then (
 lkN p0 fun x64 =>
 .st (x64.add 13) .nilFunc <|
 .ret (.tuple #[]))
 else (
 .ret (.tuple #[])))
noncomputable def t_epoch_Turn_sort (p0 : Option Addr) : Tree :=
 lkN p0 fun x5 =>
 .ld (x5.add 10) .slice fun x7 =>
 .loop 64 t_epoch_Turn_sort_L1_sh [(.int .i64 0)] (t_epoch_Turn_sort_L1 p0 x7)
theorem t_epoch_Turn_sort_spec {p0 : Option Addr} : SpT f_epoch_Turn_sort #[(.pointer p0)] (t_epoch_Turn_sort p0) := spT tcfg0 Tryz.func129 (by kernel_rfl)
noncomputable def t_epoch_Turn_free (p0 : Option Addr) (p1 : Option Addr) : Tree :=
 lkN p0 fun x5 =>
 .ld (x5.add 11) .slice fun x7 =>
 .look (opS Tryz.prog (.indexAddr ty_s_p_slab_Free (.tmp 0) (.const (.int .i64 0))) ty_unit [(.slice x7.a x7.len x7.cap)]) (.one (.leaf .addr)) fun x8 =>
 .ld x8 .ptr fun x9 =>
 .call f_slab_Free_Step [(.pointer x9), (.pointer p1)] (.one (.leaf .bool)) fun x11 =>
 bif x11 then (
 lkN p0 fun x14 =>
 .ld (x14.add 11) .slice fun x16 =>
 .look (opS Tryz.prog (.slice ty_s_p_slab_Free (.tmp 0) (some (.const (.int .i64 1))) none none) ty_s_p_slab_Free [(.slice x16.a x16.len x16.cap)]) (.one (.leaf .slice)) fun x17 =>
 lkN p0 fun x18 =>
 .st (x18.add 11) (.slice x17.a x17.len x17.cap) <|
 lkN p0 fun x21 =>
 .ld (x21.add 11) .slice fun x23 =>
 bif ((((x23.len : Nat) : Int) : Int) == 0) then (
 lkN p0 fun x27 =>
 .st (x27.add 13) .nilFunc <|
 .ret (.tuple #[]))
 else (
 .ret (.tuple #[])))
 else (
 lkN p0 fun x21 =>
 .ld (x21.add 11) .slice fun x23 =>
 bif ((((x23.len : Nat) : Int) : Int) == 0) then (
 lkN p0 fun x27 =>
 .st (x27.add 13) .nilFunc <|
 .ret (.tuple #[]))
 else (
 .ret (.tuple #[])))
theorem t_epoch_Turn_free_spec {p0 : Option Addr} {p1 : Option Addr} : SpT f_epoch_Turn_free #[(.pointer p0), (.pointer p1)] (t_epoch_Turn_free p0 p1) := spT tcfg0 Tryz.func131 (by kernel_rfl)
noncomputable def t_epoch_Turn_Step (p0 : Option Addr) (p1 : Option Addr) : Tree :=
 lkN p0 fun x6 =>
 .ld (x6.add 13) .val fun x8 =>
 .look (opS Tryz.prog (.binOp .neq ty_epoch_step (.tmp 0) (.const .nilFunc) ty_epoch_step) ty_bool [x8]) (.one (.leaf .bool)) fun x9 =>
 bif x9 then (
 lkN p0 fun x11 =>
 .ld (x11.add 13) .val fun x13 =>
 .act (opS Tryz.prog (.call { callee := .value (.tmp 0), args := #[(.tmp 1)], argTypes := #[ty_p_arena_Arena] }) ty_unit [x13, (.pointer p1)]) .unit fun _ =>
 lkN p0 fun x17 =>
 .ld (x17.add 13) .val fun x19 =>
 .look (opS Tryz.prog (.binOp .eql ty_epoch_step (.tmp 0) (.const .nilFunc) ty_epoch_step) ty_bool [x19]) (.one (.leaf .bool)) fun x20 =>
 .ret (.bool x20))
 else (
 lkN p0 fun x17 =>
 .ld (x17.add 13) .val fun x19 =>
 .look (opS Tryz.prog (.binOp .eql ty_epoch_step (.tmp 0) (.const .nilFunc) ty_epoch_step) ty_bool [x19]) (.one (.leaf .bool)) fun x20 =>
 .ret (.bool x20))
theorem t_epoch_Turn_Step_spec {p0 : Option Addr} {p1 : Option Addr} : SpT f_epoch_Turn_Step #[(.pointer p0), (.pointer p1)] (t_epoch_Turn_Step p0 p1) := spT tcfg0 Tryz.func163 (by kernel_rfl)
noncomputable def t_epoch_Turn_Left (p0 : Option Addr) : Tree :=
 lkN p0 fun x4 =>
 .ld (x4.add 13) .val fun x6 =>
 .look (opS Tryz.prog (.binOp .neq ty_epoch_step (.tmp 0) (.const .nilFunc) ty_epoch_step) ty_bool [x6]) (.one (.leaf .bool)) fun x7 =>
 bif x7 then (
 .ret (.slice none 0 0))
 else (
 lkN p0 fun x9 =>
 .ld (x9.add 12) .slice fun x11 =>
 .act (opS Tryz.prog (.call { callee := .builtin .append, args := #[(.const (.slice none 0 0)), (.tmp 0)], argTypes := #[ty_s_epoch_Limbo, ty_s_epoch_Limbo] }) ty_s_epoch_Limbo [(.slice x11.a x11.len x11.cap)]) (.one (.leaf .slice)) fun x12 =>
 .ret (.slice x12.a x12.len x12.cap))
theorem t_epoch_Turn_Left_spec {p0 : Option Addr} : SpT f_epoch_Turn_Left #[(.pointer p0)] (t_epoch_Turn_Left p0) := spT tcfg0 Tryz.func156 (by kernel_rfl)
section
variable {L : Hands} {R : Value → Heap → Prop} {A : Ar} {I : List Nat} {l : Bl} {G : Heap}
theorem Global_det (tw ta : Int) (H : Heap) : Det Tryz.prog f_epoch_Table_Global [.agg #[.int .i64 tw, .int .i64 ta]] H (.int .i64 ta) H := by
  refine t_epoch_Table_Global_spec (p0_0 := tw) (p0_1 := ta) fun L => ?_
  unfold t_epoch_Table_Global
  refine wp_newP fun b hb => wp_ld_of (x := ta) (by rw [Addr.add_mk, Heap.cell_set]; rfl) ?_
  exact ⟨H, Heap.le_set_new _ hb, rfl, rfl⟩
theorem wq_Global {H : Heap} {tw ta : Int} {k : Int → Tree} (h : wp Tryz.prog (k ta) L H R) :
    wp Tryz.prog (.qcall f_epoch_Table_Global [.agg #[.int .i64 tw, .int .i64 ta]] (.one (.leaf (.int .i64))) k) L H R := wp_qcall_det (x := ta) (Global_det tw ta H) h
def ewd (ta w : Int) : Int := w64 (w64 (ta + 1) + w)
theorem ewd_eq {ta w : Int} (b : 0 ≤ ta ∧ ta ≤ 1000000 ∧ 0 ≤ w ∧ w ≤ 1000000) : ewd ta w = ta + 1 + w := by
  unfold ewd; rw [w64_in (x := ta + 1) (by omega) (by omega), w64_in (by omega) (by omega)]
theorem EWord_det (tw ta w : Int) (H : Heap) : Det Tryz.prog f_epoch_Table_Word [.agg #[.int .i64 tw, .int .i64 ta], .int .i64 w] H (.int .i64 (ewd ta w)) H := by
  refine t_epoch_Table_Word_spec (p0_0 := tw) (p0_1 := ta) fun L => ?_
  unfold t_epoch_Table_Word
  refine wp_newP fun b hb => wp_ld_of (x := ta) (by rw [Addr.add_mk, Heap.cell_set]; rfl) ?_
  exact ⟨H, Heap.le_set_new _ hb, rfl, rfl⟩
theorem wq_EWord {H : Heap} {tw ta w : Int} {k : Int → Tree} (h : wp Tryz.prog (k (ewd ta w)) L H R) :
    wp Tryz.prog (.qcall f_epoch_Table_Word [.agg #[.int .i64 tw, .int .i64 ta], .int .i64 w] (.one (.leaf (.int .i64))) k) L H R := wp_qcall_det (x := ewd ta w) (EWord_det tw ta w H) h
theorem ERaw_det {w n : Int} (b1 : 0 ≤ w ∧ w ≤ 100000) (H : Heap) : Det Tryz.prog f_epoch_Raw [.int .i64 w, .int .i64 n] H (.tuple #[.agg #[.int .i64 w, .int .i64 n], .int .i64 (1 + w)]) H := by
  refine t_epoch_Raw_spec fun L => ?_
  unfold t_epoch_Raw
  have e : w64 (1 + imax w 0) = 1 + w := by
    rw [show imax w 0 = w by unfold imax; rw [if_neg (by omega)]]
    exact w64_in (by omega) (by omega)
  rw [e]
  refine wp_newP fun b hb => ?_
  refine wp_stA_of (Heap.set_same _ _ _) (by exact Nat.le_refl 2) (singles _ rfl) ?_
  rw [Heap.set_set]
  have c1 : putAll #[.int .i64 0, .int .i64 0] 0 [.int .i64 w, .int .i64 n] = #[.int .i64 w, .int .i64 n] := rfl
  rw [c1]
  exact ⟨((w, n, ()), 1 + w, ()), ldK_still (Heap.set_same _ _ _) 2 0 #[] (by simp) rfl, H, Heap.le_set_new _ hb, rfl, rfl⟩
theorem wq_ERaw {H : Heap} {w n : Int} {k : HL Sh1.T [(.agg [(.int .i64), (.int .i64)]), (.leaf (.int .i64))] → Tree} (b1 : 0 ≤ w ∧ w ≤ 100000) (h : wp Tryz.prog (k ((w, n, ()), 1 + w, ())) L H R) :
    wp Tryz.prog (.qcall f_epoch_Raw [.int .i64 w, .int .i64 n] (.tup [(.agg [(.int .i64), (.int .i64)]), (.leaf (.int .i64))]) k) L H R := wp_qcall_det (x := ((w, n, ()), 1 + w, ())) (ERaw_det b1 H) h
theorem fneq (f : FuncId) (x : Value) : opS Tryz.prog (.binOp .neq ty_epoch_step (.tmp 0) (.const .nilFunc) ty_epoch_step) ty_bool [.func (.func f) #[x] #[]] = .pure (.value (.bool true)) := by kernel_rfl
theorem fneq0 : opS Tryz.prog (.binOp .neq ty_epoch_step (.tmp 0) (.const .nilFunc) ty_epoch_step) ty_bool [.nilFunc] = .pure (.value (.bool false)) := by kernel_rfl
theorem feq (f : FuncId) (x : Value) : opS Tryz.prog (.binOp .eql ty_epoch_step (.tmp 0) (.const .nilFunc) ty_epoch_step) ty_bool [.func (.func f) #[x] #[]] = .pure (.value (.bool false)) := by kernel_rfl
theorem feq0 : opS Tryz.prog (.binOp .eql ty_epoch_step (.tmp 0) (.const .nilFunc) ty_epoch_step) ty_bool [.nilFunc] = .pure (.value (.bool true)) := by kernel_rfl
theorem fcall0 (x y : Value) : opS Tryz.prog (.call { callee := .value (.tmp 0), args := #[(.tmp 1)], argTypes := #[ty_p_arena_Arena] }) ty_unit [.func (.func f_epoch_Pin_global) #[x] #[], y] = .pure (.enter f_epoch_Pin_global [x, y].toArray) := by kernel_rfl
theorem fcall1 (x y : Value) : opS Tryz.prog (.call { callee := .value (.tmp 0), args := #[(.tmp 1)], argTypes := #[ty_p_arena_Arena] }) ty_unit [.func (.func f_epoch_Pin_own) #[x] #[], y] = .pure (.enter f_epoch_Pin_own [x, y].toArray) := by kernel_rfl
theorem fcall2 (x y : Value) : opS Tryz.prog (.call { callee := .value (.tmp 0), args := #[(.tmp 1)], argTypes := #[ty_p_arena_Arena] }) ty_unit [.func (.func f_epoch_Pin_again) #[x] #[], y] = .pure (.enter f_epoch_Pin_again [x, y].toArray) := by kernel_rfl
structure Pn where
  tw : Int
  ta : Int
  work : Int
  e : Int
  ph : Nat
def pnNext (q : Nat) : Nat → Value
  | 0 => .func (.func f_epoch_Pin_global) #[.pointer (some ⟨q, 0, none⟩)] #[]
  | 1 => .func (.func f_epoch_Pin_own) #[.pointer (some ⟨q, 0, none⟩)] #[]
  | 2 => .func (.func f_epoch_Pin_again) #[.pointer (some ⟨q, 0, none⟩)] #[]
  | _ => .nilFunc
def Pn.cells (m : Pn) (q : Nat) : List Value := [.int .i64 m.tw, .int .i64 m.ta, .int .i64 m.work, .int .i64 m.e, pnNext q m.ph]
def Pn.bl (m : Pn) (q : Nat) : Bl := [(q, oc ty_epoch_Pin (m.cells q))]
def Pn.step (m : Pn) (A : Ar) : Pn × Ar :=
  if m.ph = 0 then ({ m with e := A.rawF m.ta, ph := 1 }, A.touchR m.ta)
  else if m.ph = 1 then ({ m with ph := 2 }, A.storeR (ewd m.ta m.work) (w64 (m.e + 1)))
  else if m.ph = 2 then ({ m with e := A.rawF m.ta, ph := if A.rawF m.ta = m.e then 3 else 1 }, A.touchR m.ta)
  else (m, A)
def mPn : Mch Pn Nat where
  f := f_epoch_Pin_Step
  addr := id
  bl := Pn.bl
  inv := fun m _ => m.ph ≤ 3
  step := Pn.step
  fin := fun m => decide (m.ph = 3)
theorem mPn_inv : mPn.inv' ty_p_epoch_Pin := fun q p => by
  show opS _ _ _ _ = .pure (.enter f_epoch_Pin_Step [.pointer (some ⟨q, 0, none⟩), .pointer p].toArray)
  kernel_rfl
set_option maxHeartbeats 2000000 in
theorem mPn_ok : mPn.ok := by
  rintro I A G ⟨tw, ta, work, e, ph⟩ q hA ok iv
  have iv : ph ≤ 3 := iv
  have ok : Ok I G (keys [(q, oc ty_epoch_Pin [.int .i64 tw, .int .i64 ta, .int .i64 work, .int .i64 e, pnNext q ph])]) := ok
  show SpecF Tryz.prog f_epoch_Pin_Step #[.pointer (some ⟨q, 0, none⟩), .pointer (aI I)] (own A [(q, oc ty_epoch_Pin [.int .i64 tw, .int .i64 ta, .int .i64 work, .int .i64 e, pnNext q ph])] G) fun v K => ∃ j', v = .bool (decide ((Pn.step ⟨tw, ta, work, e, ph⟩ A).1.ph = 3)) ∧ K = own (Pn.step ⟨tw, ta, work, e, ph⟩ A).2 ((Pn.step ⟨tw, ta, work, e, ph⟩ A).1.bl j') G ∧ j' = q ∧ Ok I G (keys ((Pn.step ⟨tw, ta, work, e, ph⟩ A).1.bl j')) ∧ Aw I (Pn.step ⟨tw, ta, work, e, ph⟩ A).2
  refine t_epoch_Pin_Step_spec fun L => ?_
  unfold t_epoch_Pin_Step
  repeat (first
  | refine wp_nil.2 ?_
  | refine w_ld 0 hA ok rfl rfl rfl ?_)
  match ph, iv with
  | 0, _ =>
    refine look_val (x := true) (fneq _ _) (wp_true rfl ?_)
    repeat (first
  | refine wp_nil.2 ?_
  | refine w_ld 0 hA ok rfl rfl rfl ?_)
    refine act_enter (fcall0 _ _) ?_
    refine wp_call_of (R0 := fun v K => v = .tuple #[] ∧ K = own (A.touchR ta) [(q, oc ty_epoch_Pin [.int .i64 tw, .int .i64 ta, .int .i64 work, .int .i64 (A.rawF ta), pnNext q 1])] G ∧ Aw I (A.touchR ta)) ?_ ?_
    · refine t_epoch_Pin_global_spec fun L => ?_
      unfold t_epoch_Pin_global
      repeat (first
  | refine wp_nil.2 ?_
  | refine w_ldA 0 hA ok rfl rfl rfl ?_)
      refine wq_Global ?_
      repeat (first
  | refine wp_nil.2 ?_
  | refine w_st 0 hA ok rfl rfl rfl rfl ?_
  | (refine w_Raw hA ?_; intro hA))
      exact wp_ret_of ⟨rfl, rfl, hA⟩
    · rintro v K ⟨rfl, rfl, hA⟩
      refine ⟨(), rfl, ?_⟩
      repeat (first
  | refine wp_nil.2 ?_
  | refine w_ld 0 hA ok rfl rfl rfl ?_)
      refine look_val (x := false) (feq _ _) ?_
      exact wp_ret_of ⟨q, rfl, rfl, rfl, ok, hA⟩
  | 1, _ =>
    refine look_val (x := true) (fneq _ _) (wp_true rfl ?_)
    repeat (first
  | refine wp_nil.2 ?_
  | refine w_ld 0 hA ok rfl rfl rfl ?_)
    refine act_enter (fcall1 _ _) ?_
    refine wp_call_of (R0 := fun v K => v = .tuple #[] ∧ K = own (A.storeR (ewd ta work) (w64 (e + 1))) [(q, oc ty_epoch_Pin [.int .i64 tw, .int .i64 ta, .int .i64 work, .int .i64 e, pnNext q 2])] G ∧ Aw I (A.storeR (ewd ta work) (w64 (e + 1)))) ?_ ?_
    · refine t_epoch_Pin_own_spec fun L => ?_
      unfold t_epoch_Pin_own
      repeat (first
  | refine wp_nil.2 ?_
  | refine w_ld 0 hA ok rfl rfl rfl ?_
  | refine w_ldA 0 hA ok rfl rfl rfl ?_)
      refine wq_EWord ?_
      repeat (first
  | refine wp_nil.2 ?_
  | refine w_ld 0 hA ok rfl rfl rfl ?_
  | refine w_st 0 hA ok rfl rfl rfl rfl ?_
  | (refine w_SetRaw hA ?_; intro hA))
      exact wp_ret_of ⟨rfl, rfl, hA⟩
    · rintro v K ⟨rfl, rfl, hA⟩
      refine ⟨(), rfl, ?_⟩
      repeat (first
  | refine wp_nil.2 ?_
  | refine w_ld 0 hA ok rfl rfl rfl ?_)
      refine look_val (x := false) (feq _ _) ?_
      exact wp_ret_of ⟨q, rfl, rfl, rfl, ok, hA⟩
  | 2, _ =>
    refine look_val (x := true) (fneq _ _) (wp_true rfl ?_)
    repeat (first
  | refine wp_nil.2 ?_
  | refine w_ld 0 hA ok rfl rfl rfl ?_)
    refine act_enter (fcall2 _ _) ?_
    refine wp_call_of (R0 := fun v K => v = .tuple #[] ∧ K = own (A.touchR ta) [(q, oc ty_epoch_Pin [.int .i64 tw, .int .i64 ta, .int .i64 work, .int .i64 (A.rawF ta), pnNext q (if A.rawF ta = e then 3 else 1)])] G ∧ Aw I (A.touchR ta)) ?_ ?_
    · refine t_epoch_Pin_again_spec fun L => ?_
      unfold t_epoch_Pin_again
      repeat (first
  | refine wp_nil.2 ?_
  | refine w_ld 0 hA ok rfl rfl rfl ?_
  | refine w_ldA 0 hA ok rfl rfl rfl ?_)
      refine wq_Global ?_
      repeat (first
  | refine wp_nil.2 ?_
  | refine w_ld 0 hA ok rfl rfl rfl ?_
  | refine w_st 0 hA ok rfl rfl rfl rfl ?_
  | (refine w_Raw hA ?_; intro hA))
      by_cases c : A.rawF ta = e
      · rw [if_pos c]
        refine wp_true (ibeq c) ?_
        repeat (first
  | refine wp_nil.2 ?_
  | refine w_st 0 hA ok rfl rfl rfl rfl ?_)
        exact wp_ret_of ⟨rfl, rfl, hA⟩
      · rw [if_neg c]
        refine wp_false (ibef c) ?_
        exact wp_ret_of ⟨rfl, rfl, hA⟩
    · rintro v K ⟨rfl, rfl, hA⟩
      refine ⟨(), rfl, ?_⟩
      have sp : Pn.step ⟨tw, ta, work, e, 2⟩ A = (⟨tw, ta, work, A.rawF ta, if A.rawF ta = e then 3 else 1⟩, A.touchR ta) := rfl
      rw [sp]
      by_cases c : A.rawF ta = e
      · rw [if_pos c]
        repeat (first
  | refine wp_nil.2 ?_
  | refine w_ld 0 hA ok rfl rfl rfl ?_)
        refine look_val (x := true) feq0 ?_
        exact wp_ret_of ⟨q, rfl, rfl, rfl, ok, hA⟩
      · rw [if_neg c]
        repeat (first
  | refine wp_nil.2 ?_
  | refine w_ld 0 hA ok rfl rfl rfl ?_)
        refine look_val (x := false) (feq _ _) ?_
        exact wp_ret_of ⟨q, rfl, rfl, rfl, ok, hA⟩
  | 3, _ =>
    refine look_val (x := false) fneq0 (wp_false rfl ?_)
    repeat (first
  | refine wp_nil.2 ?_
  | refine w_ld 0 hA ok rfl rfl rfl ?_)
    refine look_val (x := true) feq0 ?_
    exact wp_ret_of ⟨q, rfl, rfl, rfl, ok, hA⟩
def newPn (tw ta work : Int) : Pn := ⟨tw, ta, work, 0, 0⟩
theorem w_NewPin {tw ta work : Int} {k : Option Addr → Tree} (hA : Aw I A) (ok : Ok I G (keys l)) (h : ∀ q : Nat, Ok I G (keys ((newPn tw ta work).bl q ++ l)) → wp Tryz.prog (k (some ⟨q, 0, none⟩)) L (own A ((newPn tw ta work).bl q ++ l) G) R) :
    wp Tryz.prog (.call f_epoch_NewPin [.agg #[.int .i64 tw, .int .i64 ta], .int .i64 work] (.one (.leaf .ptr)) k) L (own A l G) R := by
  refine wp_call_of (R0 := fun v K => ∃ q : Nat, v = .pointer (some ⟨q, 0, none⟩) ∧ K = own A ((newPn tw ta work).bl q ++ l) G ∧ Ok I G (keys ((newPn tw ta work).bl q ++ l))) ?_ ?_
  · refine t_epoch_NewPin_spec (p0_0 := tw) (p0_1 := ta) (p1 := work) fun L => ?_
    unfold t_epoch_NewPin
    have ok0 := ok
    refine w_newP hA ok fun b ok => ?_
    repeat (first
  | refine w_ldA 0 hA ok rfl rfl rfl ?_)
    refine w_newP hA ok fun q ok => ?_
    repeat (first
  | refine wp_nil.2 ?_
  | refine w_st 0 hA ok rfl rfl rfl rfl ?_)
    have ok1 : Ok I G (keys ((newPn tw ta work).bl q ++ l)) := by
      have nd := ok.nd
      refine ok.sub ?_ fun c hc => ?_
      · have sl : (q :: keys l).Sublist (q :: b :: keys l) := .cons_cons _ (.cons _ (List.Sublist.refl _))
        exact sl.nodup nd
      · have hc : c ∈ q :: keys l := hc
        show c ∈ q :: b :: keys l
        simp only [List.mem_cons] at hc ⊢
        rcases hc with h | h
        · exact .inl h
        · exact .inr (.inr h)
    refine ⟨own A ((newPn tw ta work).bl q ++ l) G, own_sub ok ok1.nd fun c hc => ?_, q, rfl, rfl, ok1⟩
    rcases List.mem_cons.1 hc with h | h
    · rw [h]; exact List.mem_cons_self
    · exact List.mem_cons_of_mem _ (List.mem_cons_of_mem _ h)
  · rintro v K ⟨q, rfl, rfl, o⟩
    exact ⟨_, rfl, h q o⟩
end
def Sc.word1 (m : Sc) (A : Ar) : Sc := { m with seen := alPut m.seen (A.rawF (w64 (m.ta + m.word))) true, word := m.word + 1 }
def Sc.step (m : Sc) (A : Ar) : Sc × Ar :=
  if m.ended = true then (m, A)
  else if m.word < 2 * m.tw then (if m.word + 1 = 2 * m.tw then (m.word1 A).sort else m.word1 A, A.touchR (w64 (m.ta + m.word)))
  else match m.frees with
    | [] => (m, A)
    | f :: fs => if (f.step A).1.done = true then ({ m with frees := fs, ended := decide (fs = []) }, (f.step A).2) else ({ m with frees := (f.step A).1 :: fs }, (f.step A).2)
structure Sc.inv (m : Sc) (A : Ar) : Prop where
  tw : 1 ≤ m.tw ∧ m.tw ≤ 1000
  wd : 0 ≤ m.word
  ll : m.l.length ≤ 1000
  fr : m.ended = false → (m.word < 2 * m.tw ∧ m.sorted = false ∧ m.frees = [] ∧ m.left = []) ∨ (2 * m.tw ≤ m.word ∧ m.sorted = true ∧ m.frees ≠ [])
def mSc : MchR Sc ScJ where
  f := f_hazard_Scan_Step
  addr := ScJ.q
  bl := Sc.bl
  rep := Sc.rep
  inv := Sc.inv
  step := Sc.step
  fin := fun m => m.ended
theorem mSc_inv : mSc.inv' ty_p_hazard_Scan := fun q p => by
  show opS _ _ _ _ = .pure (.enter f_hazard_Scan_Step [.pointer (some ⟨q, 0, none⟩), .pointer p].toArray)
  kernel_rfl
theorem opS_lo1 {t u : TypeId} (x : Value) (n : Int) : opS Tryz.prog (.slice t (.tmp 0) (some (.const (.int .i64 n))) none none) u [x] = opS Tryz.prog (.slice t (.tmp 0) (some (.tmp 1)) none none) u [x, .int .i64 n] := by kernel_rfl
theorem opS_ix0 {t u : TypeId} (x : Value) (n : Int) : opS Tryz.prog (.indexAddr t (.tmp 0) (.const (.int .i64 n))) u [x] = opS Tryz.prog (.indexAddr t (.tmp 0) (.tmp 1)) u [x, .int .i64 n] := by kernel_rfl
theorem rdP0 {L : Hands} {R : Value → Heap → Prop} {A : Ar} {I : List Nat} {l : Bl} {G : Heap} {x : Nat} {xs : List Nat} {s : Sl} {u : TypeId} {k : Option Addr → Tree} (hA : Aw I A) (ok : Ok I G (keys l)) (hs : SlAt l ty_p_slab_Free eP s (x :: xs)) (h : wp Tryz.prog (k (some ⟨x, 0, none⟩)) L (own A l G) R) :
    wp Tryz.prog (.look (opS Tryz.prog (.indexAddr ty_s_p_slab_Free (.tmp 0) (.const (.int .i64 0))) u [(.slice s.a s.len s.cap)]) (.one (.leaf .addr)) fun y => .ld y .ptr k) L (own A l G) R := by
  rw [opS_ix0]
  rcases hs with ⟨_, h⟩ | ⟨b, pre, rest, r, rfl, h2, h3⟩
  · cases h
  · refine w_ixS (e := ty_p_slab_Free) rfl rfl rfl (Int.le_refl 0) (by show (0 : Int) < (((x :: xs).length : Nat) : Int); simp only [List.length_cons]; omega) ?_
    refine w_ldm (x := some ⟨x, 0, none⟩) hA ok rfl h3 ?_ h
    have : (pre ++ eP.all (x :: xs) ++ rest)[pre.length + (0 : Int).toNat]? = some (.pointer (some ⟨x, 0, none⟩)) := by
      rw [List.append_assoc, List.getElem?_append_right (by simp)]
      simp [Enc.all, eP]
    rw [this]; rfl
theorem own_conv {L : Hands} {R : Value → Heap → Prop} {A : Ar} {l l' : Bl} {G : Heap} {t : Tree} (h : l' = l) (hw : wp Tryz.prog t L (own A l' G) R) : wp Tryz.prog t L (own A l G) R := h ▸ hw
set_option maxHeartbeats 1000000 in
theorem mSc_ok : mSc.ok := by
  rintro I A G m j hA ok rp ⟨⟨t0, t1⟩, w0, ll, fr⟩
  have ok : Ok I G (keys (m.bl j)) := ok
  have rp : m.rep j := rp
  show SpecF Tryz.prog f_hazard_Scan_Step #[.pointer (some ⟨j.q, 0, none⟩), .pointer (aI I)] (own A (m.bl j) G) fun v K => ∃ j' : ScJ, v = .bool (m.step A).1.ended ∧ K = own (m.step A).2 ((m.step A).1.bl j') G ∧ j'.q = j.q ∧ Ok I G (keys ((m.step A).1.bl j')) ∧ (m.step A).1.rep j' ∧ Aw I (m.step A).2
  refine t_hazard_Scan_Step_spec fun L => ?_
  unfold t_hazard_Scan_Step Sc.step
  have e2 : w64 (2 * imax m.tw 0) = 2 * m.tw := by
    rw [show imax m.tw 0 = m.tw by unfold imax; rw [if_neg (by omega)]]
    exact w64_in (by omega) (by omega)
  repeat (first
  | refine wp_nil.2 ?_
  | refine w_ld 0 hA ok rfl rfl rfl ?_)
  rw [e2]
  rcases Bool.eq_false_or_eq_true m.ended with he | he
  · rw [if_pos he]
    refine wp_true he ?_
    repeat (first
  | refine wp_nil.2 ?_
  | refine w_ld 0 hA ok rfl rfl rfl ?_)
    exact wp_ret_of ⟨j, rfl, rfl, rfl, ok, rp, hA⟩
  · rw [if_neg (by rw [he]; simp)]
    refine wp_false he ?_
    repeat (first
  | refine wp_nil.2 ?_
  | refine w_ld 0 hA ok rfl rfl rfl ?_)
    rcases fr he with ⟨f1, f2, f3, f4⟩ | ⟨f1, f2, f3⟩
    · rw [if_pos f1]
      refine wp_true (decide_eq_true f1) ?_
      rw [Sc.bl_u j f2] at ok ⊢
      repeat (first
  | refine wp_nil.2 ?_
  | refine w_ld 0 hA ok rfl rfl rfl ?_
  | (refine w_Raw hA ?_; intro hA)
  | refine w_ck 0 hA ok rfl rfl rfl ?_
  | refine w_ckn rfl ?_)
      rw [opS_mapTrue]
      refine w_mapPut 1 (enc := Value.bool) (v := true) hA ok rfl rfl rfl ?_
      repeat (first
  | refine wp_nil.2 ?_
  | refine w_ld 0 hA ok rfl rfl rfl ?_
  | refine w_st 0 hA ok rfl rfl rfl rfl ?_)
      have e3 : w64 (m.word + 1) = m.word + 1 := w64_in (by omega) (by omega)
      rw [e3]
      have eb : (m.word1 A).bl j = (j.q, oc ty_hazard_Scan ((m.word1 A).cells j)) :: (j.mq, mapObj Value.bool (m.word1 A).seen) :: (fbl m.frees j.fj ++ (j.tls ++ (j.tfs ++ j.tds))) := Sc.bl_u (m := m.word1 A) j f2
      have ok1 : Ok I G (keys ((m.word1 A).bl j)) := by rw [eb]; exact ok
      have rp1 : (m.word1 A).rep j := ⟨rp.ls, rp.fs, rp.ds, rp.fl, rp.un⟩
      by_cases hw : m.word + 1 = 2 * m.tw
      · rw [if_pos hw]
        refine wp_true (ibeq hw) (own_conv eb ?_)
        refine wp_call_of (sort_spec (m.word1 A) j hA ok1 rp1 f2 f3 f4 ll) ?_
        rintro v K ⟨j', rfl, rfl, eq, ok, rp'⟩
        refine ⟨(), rfl, ?_⟩
        rw [← eq]
        repeat (first
  | refine wp_nil.2 ?_
  | refine w_ld 0 hA ok rfl rfl rfl ?_)
        exact wp_ret_of ⟨j', rfl, rfl, rfl, ok, rp', hA⟩
      · rw [if_neg hw]
        refine wp_false (ibef hw) ?_
        repeat (first
  | refine wp_nil.2 ?_
  | refine w_ld 0 hA ok rfl rfl rfl ?_)
        refine own_conv eb ?_
        refine wp_ret_of ⟨j, ?_, rfl, rfl, ok1, rp1, hA⟩
        first | rfl | (rw [show (m.word1 A).ended = m.ended from rfl, he])
    · rw [if_neg (by omega)]
      refine wp_false (decide_eq_false (by show ¬ m.word < 2 * m.tw; omega)) (wp_false (ibef (by omega)) ?_)
      obtain ⟨f, fs, efs⟩ : ∃ f fs, m.frees = f :: fs := by
        cases h : m.frees with
        | nil => exact (f3 h).elim
        | cons f fs => exact ⟨f, fs, rfl⟩
      obtain ⟨jf, js, ejs⟩ : ∃ jf js, j.fj = jf :: js := by
        have := rp.fl
        cases h : j.fj with
        | nil => rw [efs, h] at this; cases this
        | cons f fs => exact ⟨f, fs, rfl⟩
      have rfs := rp.fs
      rw [ejs] at rfs
      have hl0 : (0 : Int) < (j.fs.len : Int) := by have := rfs.len; simp at this; omega
      rw [efs]
      dsimp only
      have sb := Sc.bl_s j f2
      rw [efs, ejs] at sb
      simp only [fbl] at sb
      rw [sb] at ok ⊢
      repeat (first
  | refine wp_nil.2 ?_
  | refine w_ld 0 hA ok rfl rfl rfl ?_)
      refine rdP0 hA ok (rfs.mono fun p hp => List.mem_cons_of_mem _ (List.mem_append_right _ (List.mem_append_right _ (List.mem_append_left _ hp)))) ?_
      obtain ⟨p1, ok2⟩ := own_perm (A := A) (l' := f.bl jf ++ ((j.q, oc ty_hazard_Scan (m.cells j)) :: (fbl fs js ++ (j.tls ++ (j.tfs ++ j.tds))))) ok (perm_by fun c d c0 cd ca => by simp only [cd, ca, c0]; omega)
      rw [p1]
      have ok3 : Ok I G (keys (f.bl jf) ++ keys ((j.q, oc ty_hazard_Scan (m.cells j)) :: (fbl fs js ++ (j.tls ++ (j.tfs ++ j.tds))))) := by rw [← keys_append]; exact ok2
      obtain ⟨o1, o2⟩ := ok3.split
      refine w_sub (mFe_ok I A _ f jf hA o1 trivial) ?_
      rintro v K ⟨jf', rfl, rfl, ej, o3, hA'⟩
      refine ⟨(f.step A).1.done, rfl, ?_⟩
      have hA := hA'
      show wp Tryz.prog _ L (own (f.step A).2 ((f.step A).1.bl jf') (putL _ G)) _
      rw [← own_append]
      have o4 : Ok I G (keys ((f.step A).1.bl jf' ++ ((j.q, oc ty_hazard_Scan (m.cells j)) :: (fbl fs js ++ (j.tls ++ (j.tfs ++ j.tds)))))) := by rw [keys_append]; exact o3.join o2
      obtain ⟨p2, ok5⟩ := own_perm (A := (f.step A).2) (l' := (j.q, oc ty_hazard_Scan (m.cells j)) :: (((f.step A).1.bl jf' ++ fbl fs js) ++ (j.tls ++ (j.tfs ++ j.tds)))) o4 (perm_by fun c d c0 cd ca => by simp only [cd, ca, c0]; omega)
      have ok := ok5
      have p3 : own (f.step A).2 (Fe.bl (f.step A).1 jf' ++ ((j.q, oc ty_hazard_Scan (m.cells j)) :: (fbl fs js ++ (j.tls ++ (j.tfs ++ j.tds))))) G = _ := p2
      rw [p3]
      by_cases hd : (f.step A).1.done = true
      · rw [if_pos hd]
        refine wp_true hd ?_
        repeat (first
  | refine wp_nil.2 ?_
  | refine w_ld 0 hA ok rfl rfl rfl ?_)
        obtain ⟨tl1, tl2⟩ := rfs.tail
        rw [opS_lo1]
        refine look_val (x := loSl j.fs 1) (opS_sliceLo (e := ty_p_slab_Free) rfl rfl rfl (by omega) tl2) ?_
        repeat (first
  | refine wp_nil.2 ?_
  | refine w_ld 0 hA ok rfl rfl rfl ?_
  | refine w_st 0 hA ok rfl rfl rfl rfl ?_)
        have hle := tl1.len
        rw [List.length_map] at hle
        have hfl : fs.length = js.length := by have := rp.fl; rw [efs, ejs] at this; simpa using this
        have hE : scC m.tw m.ta m.pl m.work m.word j.ls j.mq (loSl j.fs 1) j.ds ((((loSl j.fs 1).len : Nat) : Int) == 0) = ({ m with frees := fs, ended := decide (fs = []) } : Sc).cells { j with fs := loSl j.fs 1, fj := js } := by
          show _ = scC m.tw m.ta m.pl m.work m.word j.ls j.mq (loSl j.fs 1) j.ds (decide (fs = []))
          congr 1
          rw [hle, ← hfl]
          cases fs <;> simp
          omega
        have hb : ({ m with frees := fs, ended := decide (fs = []) } : Sc).bl { j with fs := loSl j.fs 1, fj := js } = (j.q, oc ty_hazard_Scan (scC m.tw m.ta m.pl m.work m.word j.ls j.mq (loSl j.fs 1) j.ds ((((loSl j.fs 1).len : Nat) : Int) == 0))) :: (fbl fs js ++ (j.tls ++ (j.tfs ++ j.tds))) := by
          rw [hE]; exact Sc.bl_s (m := { m with frees := fs, ended := decide (fs = []) }) { j with fs := loSl j.fs 1, fj := js } f2
        have ok3 : Ok I G (keys ((j.q, oc ty_hazard_Scan (scC m.tw m.ta m.pl m.work m.word j.ls j.mq (loSl j.fs 1) j.ds ((((loSl j.fs 1).len : Nat) : Int) == 0))) :: (((f.step A).1.bl jf' ++ fbl fs js) ++ (j.tls ++ (j.tfs ++ j.tds))))) := ok
        have sl : ((j.q, oc ty_hazard_Scan (scC m.tw m.ta m.pl m.work m.word j.ls j.mq (loSl j.fs 1) j.ds ((((loSl j.fs 1).len : Nat) : Int) == 0))) :: (fbl fs js ++ (j.tls ++ (j.tfs ++ j.tds)))).Sublist ((j.q, oc ty_hazard_Scan (scC m.tw m.ta m.pl m.work m.word j.ls j.mq (loSl j.fs 1) j.ds ((((loSl j.fs 1).len : Nat) : Int) == 0))) :: (((f.step A).1.bl jf' ++ fbl fs js) ++ (j.tls ++ (j.tfs ++ j.tds)))) := by
          refine .cons_cons _ (List.Sublist.append ?_ (List.Sublist.refl _))
          exact List.sublist_append_right _ _
        have ok4 : Ok I G (keys ((j.q, oc ty_hazard_Scan (scC m.tw m.ta m.pl m.work m.word j.ls j.mq (loSl j.fs 1) j.ds ((((loSl j.fs 1).len : Nat) : Int) == 0))) :: (fbl fs js ++ (j.tls ++ (j.tfs ++ j.tds))))) :=
          ok3.sub ((sl.map Prod.fst).nodup ok3.nd) fun b hb => (sl.map Prod.fst).subset hb
        have key : ∀ (L : Hands) (v : Value), v = .bool (decide (fs = [])) → wp Tryz.prog (.ret v) L (own (f.step A).2 ((j.q, oc ty_hazard_Scan (scC m.tw m.ta m.pl m.work m.word j.ls j.mq (loSl j.fs 1) j.ds ((((loSl j.fs 1).len : Nat) : Int) == 0))) :: (((f.step A).1.bl jf' ++ fbl fs js) ++ (j.tls ++ (j.tfs ++ j.tds)))) G) fun v K => ∃ j' : ScJ, v = .bool (decide (fs = [])) ∧ K = own (f.step A).2 (({ m with frees := fs, ended := decide (fs = []) } : Sc).bl j') G ∧ j'.q = j.q ∧ Ok I G (keys (({ m with frees := fs, ended := decide (fs = []) } : Sc).bl j')) ∧ ({ m with frees := fs, ended := decide (fs = []) } : Sc).rep j' ∧ Aw I (f.step A).2 := by
          rintro L v rfl
          refine ⟨own (f.step A).2 (({ m with frees := fs, ended := decide (fs = []) } : Sc).bl { j with fs := loSl j.fs 1, fj := js }) G, ?_, { j with fs := loSl j.fs 1, fj := js }, rfl, rfl, rfl, by rw [hb]; exact ok4, ⟨rp.ls, tl1, rp.ds, hfl, fun h => ?_⟩, hA⟩
          · rw [hb]; exact own_sub ok3 ok4.nd fun p hp => sl.subset hp
          · rw [show ({ m with frees := fs, ended := decide (fs = []) } : Sc).sorted = m.sorted from rfl, f2] at h; cases h
        refine key _ _ ?_
        show Value.bool ((((loSl j.fs 1).len : Nat) : Int) == 0) = _
        rw [hle, ← hfl]
        cases fs <;> simp
        omega
      · rw [if_neg hd]
        refine wp_false (by simpa using hd) ?_
        repeat (first
  | refine wp_nil.2 ?_
  | refine w_ld 0 hA ok rfl rfl rfl ?_)
        have hb : ({ m with frees := (f.step A).1 :: fs } : Sc).bl { j with fj := jf' :: js } = (j.q, oc ty_hazard_Scan (m.cells j)) :: (((f.step A).1.bl jf' ++ fbl fs js) ++ (j.tls ++ (j.tfs ++ j.tds))) := Sc.bl_s (m := { m with frees := (f.step A).1 :: fs }) { j with fj := jf' :: js } f2
        refine own_conv hb ?_
        refine wp_ret_of ⟨{ j with fj := jf' :: js }, ?_, rfl, rfl, by rw [hb]; exact ok, ⟨rp.ls, ?_, rp.ds, ?_, fun h => ?_⟩, hA⟩
        · first | rfl | rw [he]
        · show SlAt j.tfs ty_p_slab_Free eP j.fs (jf'.1 :: js.map (·.1))
          rw [show jf'.1 = jf.1 from ej]; exact rfs
        · have := rp.fl; rw [efs, ejs] at this; exact this
        · rw [show ({ m with frees := (f.step A).1 :: fs } : Sc).sorted = m.sorted from rfl, f2] at h; cases h
def eL : Enc (Int × Int) := ⟨2, fun x => [.int .i64 x.1, .int .i64 x.2], fun _ => rfl, fun x v h => by simp at h; rcases h with rfl | rfl <;> rfl⟩
theorem elL : ElOk ty_s_epoch_Limbo ty_epoch_Limbo 2 := ⟨⟨_, _, rfl, rfl, rfl, by decide, by decide, rfl, rfl⟩⟩
theorem eL_drop (rest : List Value) : ∀ (xs : List (Int × Int)) (n : Nat), n < xs.length → ∃ t, (eL.all xs ++ rest).drop (n * 2) = .int .i64 (xs.getD n (0, 0)).1 :: .int .i64 (xs.getD n (0, 0)).2 :: t
  | [], n, h => by simp at h
  | x :: xs, 0, _ => ⟨eL.all xs ++ rest, rfl⟩
  | x :: xs, n + 1, h => by
    obtain ⟨t, ht⟩ := eL_drop rest xs n (by simpa using h)
    refine ⟨t, ?_⟩
    rw [show (n + 1) * 2 = n * 2 + 2 by omega]
    show (eL.all xs ++ rest).drop (n * 2) = _
    rw [ht]; rfl
structure Tn where
  tw : Int
  ta : Int
  pl : Pl
  work : Int
  e : Int
  word : Int
  l : List (Int × Int)
  frees : List Fe
  left : List (Int × Int)
  ph : Nat
structure TnJ where
  q : Nat
  ls : Sl
  fs : Sl
  ds : Sl
  fj : List Tri
  tls : Bl
  tfs : Bl
  tds : Bl
def tnNext (q : Nat) : Nat → Value
  | 0 => .func (.func f_epoch_Turn_global) #[.pointer (some ⟨q, 0, none⟩)] #[]
  | 1 => .func (.func f_epoch_Turn_look) #[.pointer (some ⟨q, 0, none⟩)] #[]
  | 2 => .func (.func f_epoch_Turn_swap) #[.pointer (some ⟨q, 0, none⟩)] #[]
  | 3 => .func (.func f_epoch_Turn_free) #[.pointer (some ⟨q, 0, none⟩)] #[]
  | _ => .nilFunc
theorem tcall0 (x y : Value) : opS Tryz.prog (.call { callee := .value (.tmp 0), args := #[(.tmp 1)], argTypes := #[ty_p_arena_Arena] }) ty_unit [.func (.func f_epoch_Turn_global) #[x] #[], y] = .pure (.enter f_epoch_Turn_global [x, y].toArray) := by kernel_rfl
theorem tcall1 (x y : Value) : opS Tryz.prog (.call { callee := .value (.tmp 0), args := #[(.tmp 1)], argTypes := #[ty_p_arena_Arena] }) ty_unit [.func (.func f_epoch_Turn_look) #[x] #[], y] = .pure (.enter f_epoch_Turn_look [x, y].toArray) := by kernel_rfl
theorem tcall2 (x y : Value) : opS Tryz.prog (.call { callee := .value (.tmp 0), args := #[(.tmp 1)], argTypes := #[ty_p_arena_Arena] }) ty_unit [.func (.func f_epoch_Turn_swap) #[x] #[], y] = .pure (.enter f_epoch_Turn_swap [x, y].toArray) := by kernel_rfl
theorem tcall3 (x y : Value) : opS Tryz.prog (.call { callee := .value (.tmp 0), args := #[(.tmp 1)], argTypes := #[ty_p_arena_Arena] }) ty_unit [.func (.func f_epoch_Turn_free) #[x] #[], y] = .pure (.enter f_epoch_Turn_free [x, y].toArray) := by kernel_rfl
def tnC (tw ta : Int) (p : Pl) (work e word : Int) (ls fs ds : Sl) (nx : Value) : List Value :=
  [.int .i64 tw, .int .i64 ta, .int .i64 p.work, .int .i64 p.heads, .int .i64 p.links, .int .i64 p.gens, .int .i64 p.carved, .int .i64 work, .int .i64 e, .int .i64 word, .slice ls.a ls.len ls.cap, .slice fs.a fs.len fs.cap, .slice ds.a ds.len ds.cap, nx]
def Tn.cells (m : Tn) (j : TnJ) : List Value := tnC m.tw m.ta m.pl m.work m.e m.word j.ls j.fs j.ds (tnNext j.q m.ph)
def Tn.bl (m : Tn) (j : TnJ) : Bl := (j.q, oc ty_epoch_Turn (m.cells j)) :: (fbl m.frees j.fj ++ (j.tls ++ (j.tfs ++ j.tds)))
structure Tn.rep (m : Tn) (j : TnJ) : Prop where
  ls : SlOf j.tls ty_epoch_Limbo eL j.ls m.l
  fs : SlAt j.tfs ty_p_slab_Free eP j.fs (j.fj.map (·.1))
  ds : SlOf j.tds ty_epoch_Limbo eL j.ds m.left
  fl : m.frees.length = j.fj.length
  un : m.ph ≤ 2 → j.fs = sl0 ∧ j.ds = sl0
def due (e : Int) (x : Int × Int) : Bool := decide (w64 (x.2 + 2) ≤ e)
def Tn.upto (m : Tn) (n : Nat) : Tn := { m with frees := ((m.l.take n).filter (due m.e)).map fun x => newFe m.pl m.work x.1, left := (m.l.take n).filter fun x => !due m.e x }
def Tn.sort (m : Tn) : Tn := { m.upto m.l.length with ph := if (m.upto m.l.length).frees = [] then 4 else 3 }
theorem take_filterP {p : Int × Int → Bool} {l : List (Int × Int)} {n : Nat} (h : n < l.length) : (l.take (n + 1)).filter p = (l.take n).filter p ++ if p (l.getD n (0, 0)) then [l.getD n (0, 0)] else [] := by
  have e : l.take (n + 1) = l.take n ++ [l.getD n (0, 0)] := by
    rw [List.take_add_one, List.getD_eq_getElem?_getD, List.getElem?_eq_getElem h]; rfl
  rw [e, List.filter_append]
  congr 1
  unfold List.filter
  cases p (l.getD n (0, 0)) <;> rfl
section
variable {L : Hands} {R : Value → Heap → Prop} {A : Ar} {I : List Nat} {l : Bl} {G : Heap}
theorem w_rdL {xs : List (Int × Int)} {s : Sl} {i : Int} {u : TypeId} {k : HL Leaf.T [.int .i64, .int .i64] → Tree} (hA : Aw I A) (ok : Ok I G (keys l)) (hs : SlOf l ty_epoch_Limbo eL s xs) (h0 : 0 ≤ i) (h1 : i < xs.length)
    (h : wp Tryz.prog (k ((xs.getD i.toNat (0, 0)).1, (xs.getD i.toNat (0, 0)).2, ())) L (own A l G) R) :
    wp Tryz.prog (.look (opS Tryz.prog (.indexAddr ty_s_epoch_Limbo (.tmp 0) (.tmp 1)) u [.slice s.a s.len s.cap, .int .i64 i]) (.one (.leaf .addr)) fun x => .ldA x [(.int .i64), (.int .i64)] k) L (own A l G) R := by
  rcases hs with ⟨rfl, rfl⟩ | ⟨b, rest, r, rfl, h2, h3⟩
  · have : (([] : List (Int × Int)).length : Int) = 0 := rfl
    omega
  · have hl : i.toNat < xs.length := by omega
    obtain ⟨ix, hix⟩ := mem_idx h3
    obtain ⟨t, ht⟩ := eL_drop rest xs i.toNat hl
    refine look_val (x := ⟨b, i.toNat * 2, none⟩) ?_ ?_
    · rw [opS_idxS (e := ty_epoch_Limbo) rfl rfl h0 h1, Addr.add_mk, Nat.zero_add]; rfl
    · refine w_ldA (c := eL.all xs ++ rest) ix hA ok rfl hix (x := ((xs.getD i.toNat (0, 0)).1, (xs.getD i.toNat (0, 0)).2, ())) ?_ h (decide_eq_true ?_)
      · rw [ht]; rfl
      · rw [List.length_append, eL.all_len]; show i.toNat * 2 ≤ xs.length * 2 + _; omega
structure TSrt (I : List Nat) (G : Heap) (A : Ar) (m : Tn) (q : Nat) (ls : Sl) (i : Int) (H : Heap) (j : TnJ) : Prop where
  i0 : 0 ≤ i
  i1 : i ≤ m.l.length
  eH : H = own A ((m.upto i.toNat).bl j) G
  ok : Ok I G (keys ((m.upto i.toNat).bl j))
  eq : j.q = q
  eL : j.ls = ls
  ls : SlOf j.tls ty_epoch_Limbo Proofs.YtjnacjniiogjcaaGreat.eL j.ls m.l
  fs : SlOf j.tfs ty_p_slab_Free eP j.fs (j.fj.map (·.1))
  ds : SlOf j.tds ty_epoch_Limbo Proofs.YtjnacjniiogjcaaGreat.eL j.ds (m.upto i.toNat).left
  fl : (m.upto i.toNat).frees.length = j.fj.length
set_option maxHeartbeats 2000000 in
theorem tsort_spec (m : Tn) (j : TnJ) (hA : Aw I A) (ok : Ok I G (keys (m.bl j))) (rp : m.rep j) (hs : m.ph ≤ 2) (hf : m.frees = []) (hd : m.left = []) (hl : m.l.length ≤ 1000) :
    SpecF Tryz.prog f_epoch_Turn_sort #[.pointer (some ⟨j.q, 0, none⟩)] (own A (m.bl j) G) fun v K => ∃ j', v = .tuple #[] ∧ K = own A (m.sort.bl j') G ∧ j'.q = j.q ∧ Ok I G (keys (m.sort.bl j')) ∧ m.sort.rep j' := by
  refine t_epoch_Turn_sort_spec fun L => ?_
  unfold t_epoch_Turn_sort
  obtain ⟨u1, u2⟩ := rp.un hs
  have efj : j.fj = [] := List.eq_nil_of_length_eq_zero (by rw [← rp.fl, hf]; rfl)
  have e0 : m.upto 0 = m := by cases m; simp only at hf hd; subst hf; subst hd; rfl
  unfold Tn.bl at ok ⊢
  repeat (first
  | refine wp_nil.2 ?_
  | refine w_ld 0 hA ok rfl rfl rfl ?_)
  refine wl_i (fun i H => ∃ j', TSrt I G A m j.q j.ls i H j') (fun i => (m.l.length - i).toNat) 0 ⟨j, Int.le_refl 0, by omega, by rw [show (0 : Int).toNat = 0 from rfl, e0]; rfl, by rw [show (0 : Int).toNat = 0 from rfl, e0]; exact ok, rfl, rfl, rp.ls, ?_, by rw [show (0 : Int).toNat = 0 from rfl, e0]; exact rp.ds, by rw [show (0 : Int).toNat = 0 from rfl, e0]; exact rp.fl⟩ ?_
  · rw [u1, efj]; exact .inl ⟨rfl, rfl⟩
  rintro i H ⟨j1, hS⟩
  obtain ⟨i0, i1, eH, ok1, eq, eL, hls, hfs, hds, hfl⟩ := hS
  subst eH
  have hlen := hls.len
  unfold Tn.bl at ok1 ⊢
  have ok := ok1
  rw [t_epoch_Turn_sort_L1, ← eL, ← eq]
  by_cases hi : i < m.l.length
  · refine wp_true (decide_eq_true (by show i < ((j1.ls.len : Nat) : Int); rw [hlen]; exact hi)) ?_
    refine w_rdL hA ok (hls.mono fun p hp => ?_) i0 hi ?_
    · exact List.mem_cons_of_mem _ (List.mem_append_right _ (List.mem_append_left _ hp))
    refine w_newP hA ok fun x3 ok => ?_
    repeat (first
  | refine wp_nil.2 ?_
  | refine w_ld 0 hA ok rfl rfl rfl ?_
  | refine w_ld 1 hA ok rfl rfl rfl ?_
  | refine w_stA 0 hA ok rfl rfl rfl rfl ?_)
    have ht : i.toNat < m.l.length := by omega
    have e1 : w64 (i + 1) = i + 1 := w64_in (by omega) (by omega)
    have e2 : (i + 1).toNat = i.toNat + 1 := by omega
    have fl : (m.upto (i.toNat + 1)).left = (m.upto i.toNat).left ++ if due m.e (m.l.getD i.toNat (0, 0)) then [] else [m.l.getD i.toNat (0, 0)] := by
      show ((m.l.take (i.toNat + 1)).filter fun x => !due m.e x) = ((m.l.take i.toNat).filter fun x => !due m.e x) ++ _
      rw [take_filterP ht]
      cases due m.e (m.l.getD i.toNat (0, 0)) <;> rfl
    have ff : (m.upto (i.toNat + 1)).frees = (m.upto i.toNat).frees ++ if due m.e (m.l.getD i.toNat (0, 0)) then [newFe m.pl m.work (m.l.getD i.toNat (0, 0)).1] else [] := by
      show ((m.l.take (i.toNat + 1)).filter (due m.e)).map (fun x => newFe m.pl m.work x.1) = ((m.l.take i.toNat).filter (due m.e)).map (fun x => newFe m.pl m.work x.1) ++ _
      rw [take_filterP ht, List.map_append]
      cases due m.e (m.l.getD i.toNat (0, 0)) <;> rfl
    have hll : (m.upto i.toNat).left.length ≤ 1000 := Nat.le_trans (List.length_filter_le _ _) (by rw [List.length_take]; omega)
    have hlf : (m.upto i.toNat).frees.length ≤ 1000 := by
      show (((m.l.take i.toNat).filter (due m.e)).map fun x => newFe m.pl m.work x.1).length ≤ 1000
      rw [List.length_map]
      exact Nat.le_trans (List.length_filter_le _ _) (by rw [List.length_take]; omega)
    dsimp only at ok ⊢
    rw [e1]
    obtain ⟨y, hy⟩ : ∃ y, y = m.l.getD i.toNat (0, 0) := ⟨_, rfl⟩
    rw [← hy] at fl ff ⊢
    have ok : Ok I G (keys ((x3, oc ty_epoch_Limbo [.int .i64 y.1, .int .i64 y.2]) :: (j1.q, oc ty_epoch_Turn ((m.upto i.toNat).cells j1)) :: (fbl (m.upto i.toNat).frees j1.fj ++ (j1.tls ++ (j1.tfs ++ j1.tds))))) := ok
    show wp Tryz.prog _ _ (own A ((x3, oc ty_epoch_Limbo [.int .i64 y.1, .int .i64 y.2]) :: (j1.q, oc ty_epoch_Turn ((m.upto i.toNat).cells j1)) :: (fbl (m.upto i.toNat).frees j1.fj ++ (j1.tls ++ (j1.tfs ++ j1.tds)))) G) _
    by_cases hin : due m.e y = true
    · rw [if_pos hin] at fl ff
      refine wp_true hin ?_
      repeat (first
  | refine wp_nil.2 ?_
  | refine w_ld 0 hA ok rfl rfl rfl ?_
  | refine w_ld 1 hA ok rfl rfl rfl ?_
  | refine w_ldA 1 hA ok rfl rfl rfl ?_)
      refine w_NewFree (p := m.pl) (w := m.work) hA ok fun jf ok => ?_
      repeat (first
  | refine w_ck 4 hA ok rfl rfl rfl ?_
  | refine w_ckn rfl ?_)
      refine w_newS hA ok fun g ok => ?_
      repeat (first
  | refine w_ck 5 hA ok rfl rfl rfl ?_
  | refine w_ckn rfl ?_)
      obtain ⟨p1, ok2⟩ := own_perm (A := A) (l' := (j1.q, oc ty_epoch_Turn ((m.upto i.toNat).cells j1)) :: (fbl (m.upto i.toNat).frees j1.fj ++ ((newFe m.pl m.work y.1).bl jf ++ j1.tls)) ++ (((g, oc ty_p_slab_Free [.pointer (some ⟨jf.1, 0, none⟩)]) :: j1.tfs) ++ ((x3, oc ty_epoch_Limbo [.int .i64 y.1, .int .i64 y.2]) :: j1.tds))) ok (perm_by fun c d c0 cd ca => by simp only [cd, ca, c0]; omega)
      rw [p1]
      have ok := ok2
      refine w_appM (E := eP) elF _ (xs := j1.fj.map (·.1)) (ys := [jf.1]) (t := ⟨some ⟨g, 0, none⟩, 1, 1⟩) hA ok (hfs.mono fun p hp => List.mem_cons_of_mem _ hp) ?_ rfl (by simp only [List.length_cons, List.length_nil, List.length_map]; omega) fun s' mid' hs' ok => ?_
      · exact cell_row (c := [.pointer (some ⟨jf.1, 0, none⟩)]) hA ok (List.mem_append_right _ (List.mem_append_left _ List.mem_cons_self)) 0 rfl
      repeat (first
  | refine wp_nil.2 ?_
  | refine w_st 0 hA ok rfl rfl rfl rfl ?_)
      have hp : ((j1.q, oc ty_epoch_Turn ((m.upto (i.toNat + 1)).cells { j1 with fs := s', tfs := mid', fj := j1.fj ++ [jf], tds := (x3, oc ty_epoch_Limbo [.int .i64 y.1, .int .i64 y.2]) :: j1.tds })) :: (fbl (m.upto i.toNat).frees j1.fj ++ ((newFe m.pl m.work y.1).bl jf ++ j1.tls)) ++ (mid' ++ ((x3, oc ty_epoch_Limbo [.int .i64 y.1, .int .i64 y.2]) :: j1.tds))).Perm ((m.upto (i.toNat + 1)).bl { j1 with fs := s', tfs := mid', fj := j1.fj ++ [jf], tds := (x3, oc ty_epoch_Limbo [.int .i64 y.1, .int .i64 y.2]) :: j1.tds }) := by
        unfold Tn.bl
        rw [ff]
        dsimp only
        rw [fbl_snoc hfl]
        exact (perm_by fun c d c0 cd ca => by simp only [cd, ca, c0]; omega)
      refine wp_again ⟨i + 1, rfl, ⟨{ j1 with fs := s', tfs := mid', fj := j1.fj ++ [jf], tds := (x3, oc ty_epoch_Limbo [.int .i64 y.1, .int .i64 y.2]) :: j1.tds }, by omega, by omega, ?_, ?_, rfl, rfl, hls, ?_, ?_, ?_⟩, by omega⟩
      · rw [e2]; exact (own_perm2 (A := A) hp ok).1
      · rw [e2]; exact (own_perm2 (A := A) hp ok).2
      · rw [List.map_append]; exact hs'
      · rw [e2, fl, List.append_nil]; exact hds.mono fun p hp => List.mem_cons_of_mem _ hp
      · rw [e2, ff, List.length_append, List.length_append, hfl]; rfl
    · rw [if_neg hin] at fl ff
      refine wp_false (show due m.e y = false by simpa using hin) ?_
      repeat (first
  | refine wp_nil.2 ?_
  | refine w_ld 1 hA ok rfl rfl rfl ?_
  | refine w_ldA 0 hA ok rfl rfl rfl ?_)
      refine w_newS hA ok fun g ok => ?_
      repeat (first
  | refine w_ck 2 hA ok rfl rfl rfl ?_
  | refine w_ckn rfl ?_)
      obtain ⟨p1, ok2⟩ := own_perm (A := A) (l' := (j1.q, oc ty_epoch_Turn ((m.upto i.toNat).cells j1)) :: (fbl (m.upto i.toNat).frees j1.fj ++ (j1.tls ++ j1.tfs)) ++ (((g, oc ty_epoch_Limbo [.int .i64 y.1, .int .i64 y.2]) :: (x3, oc ty_epoch_Limbo [.int .i64 y.1, .int .i64 y.2]) :: j1.tds) ++ [])) ok (perm_by fun c d c0 cd ca => by simp only [cd, ca, c0]; omega)
      rw [p1]
      have ok := ok2
      refine w_appM (E := Proofs.YtjnacjniiogjcaaGreat.eL) elL _ (xs := (m.upto i.toNat).left) (ys := [y]) (t := ⟨some ⟨g, 0, none⟩, 1, 1⟩) hA ok (hds.mono fun p hp => List.mem_cons_of_mem _ (List.mem_cons_of_mem _ hp)) ?_ rfl (by simp only [List.length_cons, List.length_nil]; omega) fun s' mid' hs' ok => ?_
      · exact cell_row (c := [.int .i64 y.1, .int .i64 y.2]) hA ok (List.mem_append_right _ (List.mem_append_left _ List.mem_cons_self)) 0 rfl
      repeat (first
  | refine wp_nil.2 ?_
  | refine w_st 0 hA ok rfl rfl rfl rfl ?_)
      rw [List.append_nil] at ff
      have hp : ((j1.q, oc ty_epoch_Turn ((m.upto (i.toNat + 1)).cells { j1 with ds := s', tds := mid' })) :: (fbl (m.upto i.toNat).frees j1.fj ++ (j1.tls ++ j1.tfs)) ++ (mid' ++ [])).Perm ((m.upto (i.toNat + 1)).bl { j1 with ds := s', tds := mid' }) := by
        unfold Tn.bl
        rw [ff]
        dsimp only
        exact (perm_by fun c d c0 cd ca => by simp only [cd, ca, c0]; omega)
      refine wp_again ⟨i + 1, rfl, ⟨{ j1 with ds := s', tds := mid' }, by omega, by omega, ?_, ?_, rfl, rfl, hls, hfs, ?_, ?_⟩, by omega⟩
      · rw [e2]; exact (own_perm2 (A := A) hp ok).1
      · rw [e2]; exact (own_perm2 (A := A) hp ok).2
      · rw [e2, fl]; exact hs'
      · rw [e2, ff]; exact hfl
  · refine wp_false (decide_eq_false (by show ¬ i < ((j1.ls.len : Nat) : Int); rw [hlen]; exact hi)) ?_
    have ei : i.toNat = m.l.length := by omega
    rw [ei] at hds hfl ok ⊢
    repeat (first
  | refine wp_nil.2 ?_
  | refine w_ld 0 hA ok rfl rfl rfl ?_
  | refine w_st 0 hA ok rfl rfl rfl rfl ?_)
    have hfl2 := hfs.len
    rw [List.length_map, ← hfl] at hfl2
    by_cases hz : (m.upto m.l.length).frees = []
    · refine wp_true (ibeq (by show ((j1.fs.len : Nat) : Int) = 0; rw [hfl2, hz]; rfl)) ?_
      repeat (first
  | refine wp_nil.2 ?_
  | refine w_st 0 hA ok rfl rfl rfl rfl ?_)
      have ep : m.sort.ph = 4 := if_pos hz
      refine wp_ret_of ⟨j1, rfl, ?_, rfl, ok, ⟨hls, hfs.at', hds, hfl, fun h => by rw [ep] at h; omega⟩⟩
      have key : m.sort.cells j1 = tnC m.tw m.ta m.pl m.work m.e m.word j1.ls j1.fs j1.ds (tnNext j1.q 4) := by unfold Tn.cells; rw [ep]; rfl
      rw [key]; rfl
    · refine wp_false (ibef (by show ((j1.fs.len : Nat) : Int) ≠ 0; rw [hfl2]; have := List.length_pos_iff.2 hz; omega)) ?_
      have ep : m.sort.ph = 3 := if_neg hz
      refine wp_ret_of ⟨j1, rfl, ?_, rfl, ok, ⟨hls, hfs.at', hds, hfl, fun h => by rw [ep] at h; omega⟩⟩
      have key : m.sort.cells j1 = tnC m.tw m.ta m.pl m.work m.e m.word j1.ls j1.fs j1.ds (tnNext j1.q 3) := by unfold Tn.cells; rw [ep]; rfl
      rw [key]; rfl
end
def Tn.step (m : Tn) (A : Ar) : Tn × Ar :=
  if m.ph = 0 then ({ m with e := A.rawF m.ta, ph := if m.tw < 1 then 2 else 1 }, A.touchR m.ta)
  else if m.ph = 1 then
    (if A.rawF (ewd m.ta m.word) ≠ 0 ∧ A.rawF (ewd m.ta m.word) ≠ w64 (m.e + 1) then Tn.sort { m with word := w64 (m.word + 1) }
     else { m with word := w64 (m.word + 1), ph := if w64 (m.word + 1) = m.tw then 2 else 1 }, A.touchR (ewd m.ta m.word))
  else if m.ph = 2 then ((if A.swapRb m.ta m.e = true then Tn.sort { m with e := w64 (m.e + 1) } else m.sort), A.swapR m.ta m.e (w64 (m.e + 1)))
  else if m.ph = 3 then match m.frees with
    | [] => (m, A)
    | f :: fs => if (f.step A).1.done = true then ({ m with frees := fs, ph := if fs = [] then 4 else 3 }, (f.step A).2) else ({ m with frees := (f.step A).1 :: fs }, (f.step A).2)
  else (m, A)
structure Tn.inv (m : Tn) (A : Ar) : Prop where
  ll : m.l.length ≤ 1000
  un : m.ph ≤ 2 → m.frees = [] ∧ m.left = []
  fr : m.ph = 3 → m.frees ≠ []
def mTn : MchR Tn TnJ where
  f := f_epoch_Turn_Step
  addr := TnJ.q
  bl := Tn.bl
  rep := Tn.rep
  inv := Tn.inv
  step := Tn.step
  fin := fun m => decide (4 ≤ m.ph)
theorem mTn_inv : mTn.inv' ty_p_epoch_Turn := fun q p => by
  show opS _ _ _ _ = .pure (.enter f_epoch_Turn_Step [.pointer (some ⟨q, 0, none⟩), .pointer p].toArray)
  kernel_rfl
theorem tneq (q : Nat) : ∀ ph : Nat, opS Tryz.prog (.binOp .neq ty_epoch_step (.tmp 0) (.const .nilFunc) ty_epoch_step) ty_bool [tnNext q ph] = .pure (.value (.bool (decide (ph < 4))))
  | 0 => fneq _ _
  | 1 => fneq _ _
  | 2 => fneq _ _
  | 3 => fneq _ _
  | n + 4 => by rw [decide_eq_false (by omega)]; exact fneq0
theorem teq (q : Nat) : ∀ ph : Nat, opS Tryz.prog (.binOp .eql ty_epoch_step (.tmp 0) (.const .nilFunc) ty_epoch_step) ty_bool [tnNext q ph] = .pure (.value (.bool (decide (4 ≤ ph))))
  | 0 => feq _ _
  | 1 => feq _ _
  | 2 => feq _ _
  | 3 => feq _ _
  | n + 4 => by rw [decide_eq_true (by omega)]; exact feq0
section
variable {L : Hands} {R : Value → Heap → Prop} {A : Ar} {I : List Nat} {l : Bl} {G : Heap}
def TPost (I : List Nat) (G : Heap) (j : TnJ) (m1 : Tn) (A1 : Ar) : Value → Heap → Prop := fun v K => ∃ j' : TnJ, v = .tuple #[] ∧ K = own A1 (m1.bl j') G ∧ j'.q = j.q ∧ Ok I G (keys (m1.bl j')) ∧ m1.rep j' ∧ Aw I A1
theorem tglobal_spec (m : Tn) (j : TnJ) (hA : Aw I A) (ok : Ok I G (keys (m.bl j))) (rp : m.rep j) (hp : m.ph = 0) :
    SpecF Tryz.prog f_epoch_Turn_global #[.pointer (some ⟨j.q, 0, none⟩), .pointer (aI I)] (own A (m.bl j) G) (TPost I G j { m with e := A.rawF m.ta, ph := if m.tw < 1 then 2 else 1 } (A.touchR m.ta)) := by
  refine t_epoch_Turn_global_spec fun L => ?_
  unfold t_epoch_Turn_global
  unfold Tn.bl at ok ⊢
  repeat (first
  | refine wp_nil.2 ?_
  | refine w_ldA 0 hA ok rfl rfl rfl ?_)
  refine wq_Global ?_
  repeat (first
  | refine wp_nil.2 ?_
  | refine w_ld 0 hA ok rfl rfl rfl ?_
  | refine w_st 0 hA ok rfl rfl rfl rfl ?_
  | (refine w_Raw hA ?_; intro hA))
  by_cases c : m.tw < 1
  · refine wp_true (decide_eq_true c) ?_
    repeat (first
  | refine wp_nil.2 ?_
  | refine w_st 0 hA ok rfl rfl rfl rfl ?_)
    refine wp_ret_of ⟨j, rfl, ?_, rfl, ok, ⟨rp.ls, rp.fs, rp.ds, rp.fl, fun _ => rp.un (by omega)⟩, hA⟩
    rw [if_pos c]; rfl
  · refine wp_false (decide_eq_false c) ?_
    refine wp_ret_of ⟨j, rfl, ?_, rfl, ok, ⟨rp.ls, rp.fs, rp.ds, rp.fl, fun _ => rp.un (by omega)⟩, hA⟩
    rw [if_neg c]; rfl
set_option maxHeartbeats 2000000 in
theorem tlook_spec (m : Tn) (j : TnJ) (hA : Aw I A) (ok : Ok I G (keys (m.bl j))) (rp : m.rep j) (hp : m.ph = 1) (hf : m.frees = []) (hd : m.left = []) (hl : m.l.length ≤ 1000) :
    SpecF Tryz.prog f_epoch_Turn_look #[.pointer (some ⟨j.q, 0, none⟩), .pointer (aI I)] (own A (m.bl j) G) (TPost I G j
      (if A.rawF (ewd m.ta m.word) ≠ 0 ∧ A.rawF (ewd m.ta m.word) ≠ w64 (m.e + 1) then Tn.sort { m with word := w64 (m.word + 1) }
       else { m with word := w64 (m.word + 1), ph := if w64 (m.word + 1) = m.tw then 2 else 1 }) (A.touchR (ewd m.ta m.word))) := by
  refine t_epoch_Turn_look_spec fun L => ?_
  unfold t_epoch_Turn_look
  unfold Tn.bl at ok ⊢
  repeat (first
  | refine wp_nil.2 ?_
  | refine w_ld 0 hA ok rfl rfl rfl ?_
  | refine w_ldA 0 hA ok rfl rfl rfl ?_)
  refine wq_EWord ?_
  repeat (first
  | refine wp_nil.2 ?_
  | refine w_ld 0 hA ok rfl rfl rfl ?_
  | refine w_st 0 hA ok rfl rfl rfl rfl ?_
  | (refine w_Raw hA ?_; intro hA))
  have rp1 : Tn.rep { m with word := w64 (m.word + 1) } j := ⟨rp.ls, rp.fs, rp.ds, rp.fl, rp.un⟩
  have tail : ∀ L, A.rawF (ewd m.ta m.word) = 0 ∨ A.rawF (ewd m.ta m.word) = w64 (m.e + 1) → wp Tryz.prog (
      .look (opS Tryz.prog (.nilCheck (.tmp 0)) ty_unit [(.pointer (some ⟨j.q, 0, none⟩))]) (.one (.leaf .addr)) fun x39 =>
      .ld (x39.add 9) (.int .i64) fun x41 =>
      .look (opS Tryz.prog (.nilCheck (.tmp 0)) ty_unit [(.pointer (some ⟨j.q, 0, none⟩))]) (.one (.leaf .addr)) fun x43 =>
      .ld x43 (.int .i64) fun x46 =>
      bif ((x41 : Int) == x46) then (
        .look (opS Tryz.prog (.nilCheck (.tmp 0)) ty_unit [(.pointer (some ⟨j.q, 0, none⟩))]) (.one (.leaf .addr)) fun x51 =>
        .st (x51.add 13) (.func (.func f_epoch_Turn_swap) #[(.pointer (some ⟨j.q, 0, none⟩))] #[]) <|
        .ret (.tuple #[]))
      else (
        .ret (.tuple #[]))) L (own (A.touchR (ewd m.ta m.word)) (Tn.bl { m with word := w64 (m.word + 1) } j) G) (TPost I G j
      (if A.rawF (ewd m.ta m.word) ≠ 0 ∧ A.rawF (ewd m.ta m.word) ≠ w64 (m.e + 1) then Tn.sort { m with word := w64 (m.word + 1) }
       else { m with word := w64 (m.word + 1), ph := if w64 (m.word + 1) = m.tw then 2 else 1 }) (A.touchR (ewd m.ta m.word))) := by
    intro L hv
    have ok : Ok I G (keys (Tn.bl { m with word := w64 (m.word + 1) } j)) := ok
    rw [if_neg (fun h => by rcases hv with h' | h'; exact h.1 h'; exact h.2 h')]
    unfold Tn.bl at ok ⊢
    repeat (first
  | refine wp_nil.2 ?_
  | refine w_ld 0 hA ok rfl rfl rfl ?_)
    by_cases c : w64 (m.word + 1) = m.tw
    · refine wp_true (ibeq c) ?_
      repeat (first
  | refine wp_nil.2 ?_
  | refine w_st 0 hA ok rfl rfl rfl rfl ?_)
      refine wp_ret_of ⟨j, rfl, ?_, rfl, ok, ⟨rp.ls, rp.fs, rp.ds, rp.fl, fun _ => rp.un (by omega)⟩, hA⟩
      rw [if_pos c]; rfl
    · refine wp_false (ibef c) ?_
      refine wp_ret_of ⟨j, rfl, ?_, rfl, ok, ⟨rp.ls, rp.fs, rp.ds, rp.fl, fun _ => rp.un (by omega)⟩, hA⟩
      rw [if_neg c]
      have e : tnNext j.q m.ph = tnNext j.q 1 := by rw [hp]
      show own _ ((j.q, oc ty_epoch_Turn (tnC m.tw m.ta m.pl m.work m.e (w64 (m.word + 1)) j.ls j.fs j.ds (tnNext j.q m.ph))) :: _) G = _
      rw [e]; rfl
  by_cases c0 : A.rawF (ewd m.ta m.word) = 0
  · refine wp_false (by rw [c0]; rfl) ?_
    exact tail L (.inl c0)
  · refine wp_true (ibne c0) ?_
    repeat (first
  | refine wp_nil.2 ?_
  | refine w_ld 0 hA ok rfl rfl rfl ?_)
    by_cases c1 : A.rawF (ewd m.ta m.word) = w64 (m.e + 1)
    · refine wp_false (ibnf c1) ?_
      exact tail L (.inr c1)
    · refine wp_true (ibne c1) ?_
      rw [if_pos ⟨c0, c1⟩]
      refine wp_call_of (tsort_spec { m with word := w64 (m.word + 1) } j hA ok rp1 (by show m.ph ≤ 2; omega) hf hd hl) ?_
      rintro v K ⟨j', rfl, rfl, eq, ok', rp'⟩
      exact ⟨(), rfl, wp_ret_of ⟨j', rfl, rfl, eq, ok', rp', hA⟩⟩
theorem tswap_spec (m : Tn) (j : TnJ) (hA : Aw I A) (ok : Ok I G (keys (m.bl j))) (rp : m.rep j) (hp : m.ph = 2) (hf : m.frees = []) (hd : m.left = []) (hl : m.l.length ≤ 1000) :
    SpecF Tryz.prog f_epoch_Turn_swap #[.pointer (some ⟨j.q, 0, none⟩), .pointer (aI I)] (own A (m.bl j) G) (TPost I G j
      (if A.swapRb m.ta m.e = true then Tn.sort { m with e := w64 (m.e + 1) } else m.sort) (A.swapR m.ta m.e (w64 (m.e + 1)))) := by
  refine t_epoch_Turn_swap_spec fun L => ?_
  unfold t_epoch_Turn_swap
  unfold Tn.bl at ok ⊢
  repeat (first
  | refine wp_nil.2 ?_
  | refine w_ldA 0 hA ok rfl rfl rfl ?_)
  refine wq_Global ?_
  repeat (first
  | refine wp_nil.2 ?_
  | refine w_ld 0 hA ok rfl rfl rfl ?_
  | (refine w_SwapRaw hA ?_; intro hA))
  by_cases c : A.swapRb m.ta m.e = true
  · rw [if_pos c]
    refine wp_true c ?_
    repeat (first
  | refine wp_nil.2 ?_
  | refine w_ld 0 hA ok rfl rfl rfl ?_
  | refine w_st 0 hA ok rfl rfl rfl rfl ?_)
    refine wp_call_of (tsort_spec { m with e := w64 (m.e + 1) } j hA ok ⟨rp.ls, rp.fs, rp.ds, rp.fl, rp.un⟩ (by show m.ph ≤ 2; omega) hf hd hl) ?_
    rintro v K ⟨j', rfl, rfl, eq, ok', rp'⟩
    exact ⟨(), rfl, wp_ret_of ⟨j', rfl, rfl, eq, ok', rp', hA⟩⟩
  · rw [if_neg c]
    refine wp_false (by simpa using c) ?_
    refine wp_call_of (tsort_spec m j hA ok rp (by omega) hf hd hl) ?_
    rintro v K ⟨j', rfl, rfl, eq, ok', rp'⟩
    exact ⟨(), rfl, wp_ret_of ⟨j', rfl, rfl, eq, ok', rp', hA⟩⟩
set_option maxHeartbeats 2000000 in
theorem tfree_spec (m : Tn) (j : TnJ) (hA : Aw I A) (ok : Ok I G (keys (m.bl j))) (rp : m.rep j) (hp : m.ph = 3) {f : Fe} {fs : List Fe} (efs : m.frees = f :: fs) :
    SpecF Tryz.prog f_epoch_Turn_free #[.pointer (some ⟨j.q, 0, none⟩), .pointer (aI I)] (own A (m.bl j) G) (TPost I G j
      (if (f.step A).1.done = true then { m with frees := fs, ph := if fs = [] then 4 else 3 } else { m with frees := (f.step A).1 :: fs }) (f.step A).2) := by
  refine t_epoch_Turn_free_spec fun L => ?_
  unfold t_epoch_Turn_free
  obtain ⟨jf, js, ejs⟩ : ∃ jf js, j.fj = jf :: js := by
    have := rp.fl
    cases h : j.fj with
    | nil => rw [efs, h] at this; cases this
    | cons f fs => exact ⟨f, fs, rfl⟩
  have rfs := rp.fs
  rw [ejs] at rfs
  have hl0 : (0 : Int) < (j.fs.len : Int) := by have := rfs.len; simp at this; omega
  have hfl : fs.length = js.length := by have := rp.fl; rw [efs, ejs] at this; simpa using this
  unfold Tn.bl at ok ⊢
  rw [efs, ejs] at ok ⊢
  simp only [fbl] at ok ⊢
  repeat (first
  | refine wp_nil.2 ?_
  | refine w_ld 0 hA ok rfl rfl rfl ?_)
  refine rdP0 hA ok (rfs.mono fun p hp => List.mem_cons_of_mem _ (List.mem_append_right _ (List.mem_append_right _ (List.mem_append_left _ hp)))) ?_
  obtain ⟨p1, ok2⟩ := own_perm (A := A) (l' := f.bl jf ++ ((j.q, oc ty_epoch_Turn (m.cells j)) :: (fbl fs js ++ (j.tls ++ (j.tfs ++ j.tds))))) ok (perm_by fun c d c0 cd ca => by simp only [cd, ca, c0]; omega)
  rw [p1]
  have ok3 : Ok I G (keys (f.bl jf) ++ keys ((j.q, oc ty_epoch_Turn (m.cells j)) :: (fbl fs js ++ (j.tls ++ (j.tfs ++ j.tds))))) := by rw [← keys_append]; exact ok2
  obtain ⟨o1, o2⟩ := ok3.split
  refine w_sub (mFe_ok I A _ f jf hA o1 trivial) ?_
  rintro v K ⟨jf', rfl, rfl, ej, o3, hA'⟩
  refine ⟨(f.step A).1.done, rfl, ?_⟩
  have hA := hA'
  show wp Tryz.prog _ L (own (f.step A).2 ((f.step A).1.bl jf') (putL _ G)) _
  rw [← own_append]
  have o4 : Ok I G (keys ((f.step A).1.bl jf' ++ ((j.q, oc ty_epoch_Turn (m.cells j)) :: (fbl fs js ++ (j.tls ++ (j.tfs ++ j.tds)))))) := by rw [keys_append]; exact o3.join o2
  by_cases hd : (f.step A).1.done = true
  · rw [if_pos hd]
    refine wp_true hd ?_
    obtain ⟨p2, ok5⟩ := own_perm (A := (f.step A).2) (l' := (j.q, oc ty_epoch_Turn (m.cells j)) :: (fbl fs js ++ (j.tls ++ (j.tfs ++ ((f.step A).1.bl jf' ++ j.tds))))) o4 (perm_by fun c d c0 cd ca => by simp only [cd, ca, c0]; omega)
    have ok := ok5
    have p3 : own (f.step A).2 (Fe.bl (f.step A).1 jf' ++ ((j.q, oc ty_epoch_Turn (m.cells j)) :: (fbl fs js ++ (j.tls ++ (j.tfs ++ j.tds))))) G = _ := p2
    rw [p3]
    repeat (first
  | refine wp_nil.2 ?_
  | refine w_ld 0 hA ok rfl rfl rfl ?_)
    obtain ⟨tl1, tl2⟩ := rfs.tail
    rw [opS_lo1]
    refine look_val (x := loSl j.fs 1) (opS_sliceLo (e := ty_p_slab_Free) rfl rfl rfl (by omega) tl2) ?_
    repeat (first
  | refine wp_nil.2 ?_
  | refine w_ld 0 hA ok rfl rfl rfl ?_
  | refine w_st 0 hA ok rfl rfl rfl rfl ?_)
    have hle := tl1.len
    rw [List.length_map] at hle
    by_cases hz : fs = []
    · refine wp_true (ibeq (by show (((loSl j.fs 1).len : Nat) : Int) = 0; rw [hle, ← hfl, hz]; rfl)) ?_
      repeat (first
  | refine wp_nil.2 ?_
  | refine w_st 0 hA ok rfl rfl rfl rfl ?_)
      rw [if_pos hz]
      exact wp_ret_of ⟨{ j with fs := loSl j.fs 1, fj := js, tds := (f.step A).1.bl jf' ++ j.tds }, rfl, rfl, rfl, ok, ⟨rp.ls, tl1, rp.ds.mono fun p hp => List.mem_append_right _ hp, hfl, fun h => (by have h : 4 ≤ 2 := h; omega)⟩, hA⟩
    · refine wp_false (ibef (by show (((loSl j.fs 1).len : Nat) : Int) ≠ 0; rw [hle, ← hfl]; have := List.length_pos_iff.2 hz; omega)) ?_
      rw [if_neg hz]
      refine wp_ret_of ⟨{ j with fs := loSl j.fs 1, fj := js, tds := (f.step A).1.bl jf' ++ j.tds }, rfl, ?_, rfl, ok, ⟨rp.ls, tl1, rp.ds.mono fun p hp => List.mem_append_right _ hp, hfl, fun h => (by have h : 3 ≤ 2 := h; omega)⟩, hA⟩
      have e : tnNext j.q m.ph = tnNext j.q 3 := by rw [hp]
      show own _ ((j.q, oc ty_epoch_Turn (tnC m.tw m.ta m.pl m.work m.e m.word j.ls (loSl j.fs 1) j.ds (tnNext j.q m.ph))) :: _) G = _
      rw [e]; rfl
  · rw [if_neg hd]
    refine wp_false (by simpa using hd) ?_
    obtain ⟨p2, ok5⟩ := own_perm (A := (f.step A).2) (l' := (j.q, oc ty_epoch_Turn (m.cells j)) :: (((f.step A).1.bl jf' ++ fbl fs js) ++ (j.tls ++ (j.tfs ++ j.tds)))) o4 (perm_by fun c d c0 cd ca => by simp only [cd, ca, c0]; omega)
    have ok := ok5
    have p3 : own (f.step A).2 (Fe.bl (f.step A).1 jf' ++ ((j.q, oc ty_epoch_Turn (m.cells j)) :: (fbl fs js ++ (j.tls ++ (j.tfs ++ j.tds))))) G = _ := p2
    rw [p3]
    repeat (first
  | refine wp_nil.2 ?_
  | refine w_ld 0 hA ok rfl rfl rfl ?_)
    have hle := rfs.len
    refine wp_false (ibef (by show ((j.fs.len : Nat) : Int) ≠ 0; omega)) ?_
    refine wp_ret_of ⟨{ j with fj := jf' :: js }, rfl, rfl, rfl, ok, ⟨rp.ls, ?_, rp.ds, ?_, fun h => (by have h : m.ph ≤ 2 := h; omega)⟩, hA⟩
    · show SlAt j.tfs ty_p_slab_Free eP j.fs (jf'.1 :: js.map (·.1))
      rw [show jf'.1 = jf.1 from ej]; exact rfs
    · show ((f.step A).1 :: fs).length = (jf' :: js).length
      simp [hfl]
theorem mTn_ok : mTn.ok := by
  rintro I A G m j hA ok rp ⟨ll, un, fr⟩
  have ok : Ok I G (keys (m.bl j)) := ok
  have rp : m.rep j := rp
  have key : ∀ (f : FuncId) {m1 : Tn} {A1 : Ar}, m.step A = (m1, A1) → m.ph < 4 → SpecF Tryz.prog f #[.pointer (some ⟨j.q, 0, none⟩), .pointer (aI I)] (own A (m.bl j) G) (TPost I G j m1 A1) →
      opS Tryz.prog (.call { callee := .value (.tmp 0), args := #[(.tmp 1)], argTypes := #[ty_p_arena_Arena] }) ty_unit [tnNext j.q m.ph, .pointer (aI I)] = .pure (.enter f [.pointer (some ⟨j.q, 0, none⟩), .pointer (aI I)].toArray) →
      SpecF Tryz.prog f_epoch_Turn_Step #[.pointer (some ⟨j.q, 0, none⟩), .pointer (aI I)] (own A (m.bl j) G) fun v K => ∃ j' : TnJ, v = .bool (decide (4 ≤ (m.step A).1.ph)) ∧ K = own (m.step A).2 ((m.step A).1.bl j') G ∧ j'.q = j.q ∧ Ok I G (keys ((m.step A).1.bl j')) ∧ (m.step A).1.rep j' ∧ Aw I (m.step A).2 := by
    intro f m1 A1 hst hp hs hc
    rw [hst]
    refine t_epoch_Turn_Step_spec fun L => ?_
    unfold t_epoch_Turn_Step
    unfold Tn.bl at ok ⊢
    repeat (first
  | refine wp_nil.2 ?_
  | refine w_ld 0 hA ok rfl rfl rfl ?_)
    refine look_val (x := decide (m.ph < 4)) (tneq _ _) (wp_true (decide_eq_true hp) ?_)
    repeat (first
  | refine wp_nil.2 ?_
  | refine w_ld 0 hA ok rfl rfl rfl ?_)
    refine act_enter hc ?_
    refine wp_call_of hs ?_
    rintro v K ⟨j', rfl, rfl, eq, ok', rp', hA'⟩
    refine ⟨(), rfl, ?_⟩
    have ok := ok'
    have hA := hA'
    rw [← eq]
    unfold Tn.bl at ok ⊢
    repeat (first
  | refine wp_nil.2 ?_
  | refine w_ld 0 hA ok rfl rfl rfl ?_)
    refine look_val (x := decide (4 ≤ m1.ph)) (teq _ _) ?_
    exact wp_ret_of ⟨j', rfl, rfl, rfl, ok', rp', hA'⟩
  show SpecF Tryz.prog f_epoch_Turn_Step #[.pointer (some ⟨j.q, 0, none⟩), .pointer (aI I)] (own A (m.bl j) G) fun v K => ∃ j' : TnJ, v = .bool (decide (4 ≤ (m.step A).1.ph)) ∧ K = own (m.step A).2 ((m.step A).1.bl j') G ∧ j'.q = j.q ∧ Ok I G (keys ((m.step A).1.bl j')) ∧ (m.step A).1.rep j' ∧ Aw I (m.step A).2
  by_cases h0 : m.ph = 0
  · refine key f_epoch_Turn_global (by unfold Tn.step; rw [if_pos h0]) (by omega) (tglobal_spec m j hA ok rp h0) ?_
    rw [h0]; exact tcall0 _ _
  by_cases h1 : m.ph = 1
  · obtain ⟨u1, u2⟩ := un (by omega)
    refine key f_epoch_Turn_look (by unfold Tn.step; rw [if_neg h0, if_pos h1]) (by omega) (tlook_spec m j hA ok rp h1 u1 u2 ll) ?_
    rw [h1]; exact tcall1 _ _
  by_cases h2 : m.ph = 2
  · obtain ⟨u1, u2⟩ := un (by omega)
    refine key f_epoch_Turn_swap (by unfold Tn.step; rw [if_neg h0, if_neg h1, if_pos h2]) (by omega) (tswap_spec m j hA ok rp h2 u1 u2 ll) ?_
    rw [h2]; exact tcall2 _ _
  by_cases h3 : m.ph = 3
  · obtain ⟨f, fs, efs⟩ : ∃ f fs, m.frees = f :: fs := by
      cases h : m.frees with
      | nil => exact (fr h3 h).elim
      | cons f fs => exact ⟨f, fs, rfl⟩
    refine key f_epoch_Turn_free ?_ (by omega) (tfree_spec m j hA ok rp h3 efs) ?_
    · unfold Tn.step; rw [if_neg h0, if_neg h1, if_neg h2, if_pos h3, efs]
      dsimp only
      split <;> rfl
    · rw [h3]; exact tcall3 _ _
  have hst : m.step A = (m, A) := by unfold Tn.step; rw [if_neg h0, if_neg h1, if_neg h2, if_neg h3]
  rw [hst]
  refine t_epoch_Turn_Step_spec fun L => ?_
  unfold t_epoch_Turn_Step
  unfold Tn.bl at ok ⊢
  repeat (first
  | refine wp_nil.2 ?_
  | refine w_ld 0 hA ok rfl rfl rfl ?_)
  refine look_val (x := decide (m.ph < 4)) (tneq _ _) (wp_false (decide_eq_false (by omega)) ?_)
  repeat (first
  | refine wp_nil.2 ?_
  | refine w_ld 0 hA ok rfl rfl rfl ?_)
  refine look_val (x := decide (4 ≤ m.ph)) (teq _ _) ?_
  exact wp_ret_of ⟨j, rfl, rfl, rfl, ok, rp, hA⟩
def newTn (tw ta : Int) (p : Pl) (work : Int) (xs : List (Int × Int)) : Tn := ⟨tw, ta, p, work, 0, 0, xs, [], [], 0⟩
set_option maxHeartbeats 1000000 in
theorem w_NewTurn {tw ta work : Int} {p : Pl} {xs : List (Int × Int)} {s : Sl} {k : Option Addr → Tree} (hA : Aw I A) (ok : Ok I G (keys l)) (hs : SlOf l ty_epoch_Limbo eL s xs) (hm : xs.length ≤ 1000)
    (h : ∀ j : TnJ, Ok I G (keys ((newTn tw ta p work xs).bl j ++ l)) → (newTn tw ta p work xs).rep j → wp Tryz.prog (k (some ⟨j.q, 0, none⟩)) L (own A ((newTn tw ta p work xs).bl j ++ l) G) R) :
    wp Tryz.prog (.call f_epoch_NewTurn [.agg #[.int .i64 tw, .int .i64 ta], p.val, .int .i64 work, .slice s.a s.len s.cap] (.one (.leaf .ptr)) k) L (own A l G) R := by
  refine wp_call_of (R0 := fun v K => ∃ j : TnJ, v = .pointer (some ⟨j.q, 0, none⟩) ∧ K = own A ((newTn tw ta p work xs).bl j ++ l) G ∧ Ok I G (keys ((newTn tw ta p work xs).bl j ++ l)) ∧ (newTn tw ta p work xs).rep j) ?_ ?_
  · refine t_epoch_NewTurn_spec (p0_0 := tw) (p0_1 := ta) (p1_0 := p.work) (p1_1 := p.heads) (p1_2 := p.links) (p1_3 := p.gens) (p1_4 := p.carved) (p2 := work) (p3 := s) fun L => ?_
    unfold t_epoch_NewTurn
    have hsl := hs.len
    have ok0 := ok
    refine w_newP hA ok fun e1 ok => ?_
    refine w_newP hA ok fun e2 ok => ?_
    repeat (first
  | refine w_ldA 0 hA ok rfl rfl rfl ?_
  | refine w_ldA 1 hA ok rfl rfl rfl ?_)
    refine w_newP hA ok fun q ok => ?_
    repeat (first
  | refine wp_nil.2 ?_
  | refine w_ld 0 hA ok rfl rfl rfl ?_)
    refine w_appM (E := eL) elL (xs := []) (ys := xs) (s := sl0) (mid := []) (post := l) [(q, _), (e2, _), (e1, _)] hA ok (.inl ⟨rfl, rfl⟩) (SlOf.row hA ok (hs.mono fun p hp => ?_)) hsl (by simp; omega) fun s' mid' hs' ok => ?_
    · exact List.mem_cons_of_mem _ (List.mem_cons_of_mem _ (List.mem_cons_of_mem _ hp))
    repeat (first
  | refine wp_nil.2 ?_
  | refine w_st 0 hA ok rfl rfl rfl rfl ?_)
    rw [List.nil_append] at hs'
    let j0 : TnJ := ⟨q, s', sl0, sl0, [], mid', [], []⟩
    have eb : (newTn tw ta p work xs).bl j0 ++ l = (q, oc ty_epoch_Turn ((newTn tw ta p work xs).cells j0)) :: (mid' ++ l) := by
      unfold Tn.bl
      simp [fbl, newTn, j0]
    have ok1 : Ok I G (keys ((newTn tw ta p work xs).bl j0 ++ l)) := by
      rw [eb]
      have nd := ok.nd
      refine ok.sub ?_ fun b hb => ?_
      · have sl : (q :: keys (mid' ++ l)).Sublist (q :: e2 :: e1 :: keys (mid' ++ l)) := .cons_cons _ (.cons _ (.cons _ (List.Sublist.refl _)))
        exact sl.nodup nd
      · have hb : b ∈ q :: keys (mid' ++ l) := hb
        show b ∈ q :: e2 :: e1 :: keys (mid' ++ l)
        simp only [List.mem_cons] at hb ⊢
        rcases hb with h | h
        · exact .inl h
        · exact .inr (.inr (.inr h))
    refine ⟨own A ((newTn tw ta p work xs).bl j0 ++ l) G, own_sub ok ok1.nd fun b hb => ?_, j0, rfl, rfl, ok1, ⟨hs', .inl ⟨rfl, rfl⟩, .inl ⟨rfl, rfl⟩, rfl, fun _ => ⟨rfl, rfl⟩⟩⟩
    rw [eb] at hb
    rcases List.mem_cons.1 hb with h | hb
    · rw [h]; exact List.mem_cons_self
    · exact List.mem_cons_of_mem _ (List.mem_cons_of_mem _ (List.mem_cons_of_mem _ hb))
  · rintro v K ⟨j, rfl, rfl, o, r⟩
    exact ⟨_, rfl, h j o r⟩
theorem w_TLeft {m : Tn} {j : TnJ} {rest : Bl} {k : Sl → Tree} (hA : Aw I A) (ok : Ok I G (keys (m.bl j ++ rest))) (rp : m.rep j) (he : 4 ≤ m.ph) (hm : m.left.length ≤ 1000)
    (h : ∀ s' tl', SlOf tl' ty_epoch_Limbo eL s' m.left → Ok I G (keys (m.bl j ++ (tl' ++ rest))) → wp Tryz.prog (k s') L (own A (m.bl j ++ (tl' ++ rest)) G) R) :
    wp Tryz.prog (.call f_epoch_Turn_Left [.pointer (some ⟨j.q, 0, none⟩)] (.one (.leaf .slice)) k) L (own A (m.bl j ++ rest) G) R := by
  refine wp_call_of (R0 := fun v K => ∃ s' tl', v = .slice s'.a s'.len s'.cap ∧ K = own A (m.bl j ++ (tl' ++ rest)) G ∧ SlOf tl' ty_epoch_Limbo eL s' m.left ∧ Ok I G (keys (m.bl j ++ (tl' ++ rest)))) ?_ ?_
  · refine t_epoch_Turn_Left_spec fun L => ?_
    unfold t_epoch_Turn_Left
    refine wp_nil.2 ?_
    refine w_ld 0 hA ok rfl rfl rfl ?_
    refine look_val (x := decide (m.ph < 4)) (tneq _ _) (wp_false (decide_eq_false (by omega)) ?_)
    refine wp_nil.2 ?_
    refine w_ld 0 hA ok rfl rfl rfl ?_
    rw [opS_nilapp]
    refine w_appM (E := eL) elL (xs := []) (ys := m.left) (s := sl0) (mid := []) (post := rest) (m.bl j) hA ok (.inl ⟨rfl, rfl⟩) ?_ rp.ds.len (by simp; omega) fun s' mid' hs' ok => ?_
    · refine SlOf.row hA ok (rp.ds.mono fun p hp => List.mem_append_left _ ?_)
      exact List.mem_cons_of_mem _ (List.mem_append_right _ (List.mem_append_right _ (List.mem_append_right _ hp)))
    exact wp_ret_of ⟨s', mid', rfl, rfl, hs', ok⟩
  · rintro v K ⟨s', tl', rfl, rfl, hs', o⟩
    exact ⟨_, rfl, h s' tl' hs' o⟩
end
def newSc (tw ta : Int) (p : Pl) (work : Int) (xs : List Int) : Sc := ⟨tw, ta, p, work, 0, xs, [], false, [], [], false⟩
section
variable {L : Hands} {R : Value → Heap → Prop} {A : Ar} {I : List Nat} {l : Bl} {G : Heap}
set_option maxHeartbeats 1000000 in
theorem w_NewScan {tw ta work : Int} {p : Pl} {xs : List Int} {s : Sl} {k : Option Addr → Tree} (hA : Aw I A) (ok : Ok I G (keys l)) (hs : Row (own A l G) s.a (eI.all xs)) (hl : s.len = xs.length) (hm : xs.length ≤ 1000)
    (h : ∀ j : ScJ, Ok I G (keys ((newSc tw ta p work xs).bl j ++ l)) → (newSc tw ta p work xs).rep j → wp Tryz.prog (k (some ⟨j.q, 0, none⟩)) L (own A ((newSc tw ta p work xs).bl j ++ l) G) R) :
    wp Tryz.prog (.call f_hazard_NewScan [.agg #[.int .i64 tw, .int .i64 ta], p.val, .int .i64 work, .slice s.a s.len s.cap] (.one (.leaf .ptr)) k) L (own A l G) R := by
  refine wp_call_of (R0 := fun v K => ∃ j : ScJ, v = .pointer (some ⟨j.q, 0, none⟩) ∧ K = own A ((newSc tw ta p work xs).bl j ++ l) G ∧ Ok I G (keys ((newSc tw ta p work xs).bl j ++ l)) ∧ (newSc tw ta p work xs).rep j) ?_ ?_
  · refine t_hazard_NewScan_spec (p0_0 := tw) (p0_1 := ta) (p1_0 := p.work) (p1_1 := p.heads) (p1_2 := p.links) (p1_3 := p.gens) (p1_4 := p.carved) (p2 := work) (p3 := s) fun L => ?_
    unfold t_hazard_NewScan
    have ok0 := ok
    refine w_newP hA ok fun e1 ok => ?_
    refine w_newP hA ok fun e2 ok => ?_
    repeat (first
  | refine w_ldA 0 hA ok rfl rfl rfl ?_
  | refine w_ldA 1 hA ok rfl rfl rfl ?_)
    refine w_newM hA ok fun mq ok => ?_
    refine w_newP hA ok fun q ok => ?_
    repeat (first
  | refine wp_nil.2 ?_
  | refine w_ld 0 hA ok rfl rfl rfl ?_)
    refine w_appM (E := eI) elI (xs := []) (ys := xs) (s := sl0) (mid := []) (post := l) [(q, _), (mq, _), (e2, _), (e1, _)] hA ok (.inl ⟨rfl, rfl⟩) (row_le hs ?_) hl (by simp; omega) fun s' mid' hs' ok => ?_
    · refine own_sub ok ok0.nd fun p hp => ?_
      exact List.mem_cons_of_mem _ (List.mem_cons_of_mem _ (List.mem_cons_of_mem _ (List.mem_cons_of_mem _ hp)))
    repeat (first
  | refine wp_nil.2 ?_
  | refine w_st 0 hA ok rfl rfl rfl rfl ?_)
    rw [List.nil_append] at hs'
    have eb : (newSc tw ta p work xs).bl ⟨q, mq, s', sl0, sl0, [], mid', [], []⟩ ++ l = (q, oc ty_hazard_Scan ((newSc tw ta p work xs).cells ⟨q, mq, s', sl0, sl0, [], mid', [], []⟩)) :: (mq, mapObj Value.bool []) :: (mid' ++ l) := by
      rw [Sc.bl_u (m := newSc tw ta p work xs) _ rfl]
      simp [fbl, newSc]
    have ok1 : Ok I G (keys ((newSc tw ta p work xs).bl ⟨q, mq, s', sl0, sl0, [], mid', [], []⟩ ++ l)) := by
      rw [eb]
      have nd := ok.nd
      refine ok.sub ?_ fun b hb => ?_
      · have sl : (q :: mq :: keys (mid' ++ l)).Sublist (q :: mq :: e2 :: e1 :: keys (mid' ++ l)) := .cons_cons _ (.cons_cons _ (.cons _ (.cons _ (List.Sublist.refl _))))
        exact sl.nodup nd
      · have hb : b ∈ q :: mq :: keys (mid' ++ l) := hb
        show b ∈ q :: mq :: e2 :: e1 :: keys (mid' ++ l)
        simp only [List.mem_cons] at hb ⊢
        rcases hb with h | h | h
        · exact .inl h
        · exact .inr (.inl h)
        · exact .inr (.inr (.inr (.inr h)))
    refine ⟨own A ((newSc tw ta p work xs).bl ⟨q, mq, s', sl0, sl0, [], mid', [], []⟩ ++ l) G, own_sub ok ok1.nd fun b hb => ?_, ⟨q, mq, s', sl0, sl0, [], mid', [], []⟩, rfl, rfl, ok1, ⟨hs', .inl ⟨rfl, rfl⟩, .inl ⟨rfl, rfl⟩, rfl, fun _ => ⟨rfl, rfl, rfl, rfl⟩⟩⟩
    rw [eb] at hb
    rcases List.mem_cons.1 hb with h | hb
    · rw [h]; exact List.mem_cons_self
    · rcases List.mem_cons.1 hb with h | hb
      · rw [h]; exact List.mem_cons_of_mem _ List.mem_cons_self
      · exact List.mem_cons_of_mem _ (List.mem_cons_of_mem _ (List.mem_cons_of_mem _ (List.mem_cons_of_mem _ hb)))
  · rintro v K ⟨j, rfl, rfl, o, r⟩
    exact ⟨_, rfl, h j o r⟩
theorem w_Left {m : Sc} {j : ScJ} {rest : Bl} {k : Sl → Tree} (hA : Aw I A) (ok : Ok I G (keys (m.bl j ++ rest))) (rp : m.rep j) (he : m.ended = true) (hm : m.left.length ≤ 1000)
    (h : ∀ s' tl', SlOf tl' ty_int eI s' m.left → Ok I G (keys (m.bl j ++ (tl' ++ rest))) → wp Tryz.prog (k s') L (own A (m.bl j ++ (tl' ++ rest)) G) R) :
    wp Tryz.prog (.call f_hazard_Scan_Left [.pointer (some ⟨j.q, 0, none⟩)] (.one (.leaf .slice)) k) L (own A (m.bl j ++ rest) G) R := by
  refine wp_call_of (R0 := fun v K => ∃ s' tl', v = .slice s'.a s'.len s'.cap ∧ K = own A (m.bl j ++ (tl' ++ rest)) G ∧ SlOf tl' ty_int eI s' m.left ∧ Ok I G (keys (m.bl j ++ (tl' ++ rest)))) ?_ ?_
  · refine t_hazard_Scan_Left_spec fun L => ?_
    unfold t_hazard_Scan_Left
    repeat (first
  | refine wp_nil.2 ?_
  | refine w_ld 0 hA ok rfl rfl rfl ?_)
    refine wp_false (by rw [he]; rfl) ?_
    repeat (first
  | refine wp_nil.2 ?_
  | refine w_ld 0 hA ok rfl rfl rfl ?_)
    rw [opS_nilapp]
    refine w_appM (E := eI) elI (xs := []) (ys := m.left) (s := sl0) (mid := []) (post := rest) (m.bl j) hA ok (.inl ⟨rfl, rfl⟩) ?_ rp.ds.len (by simp; omega) fun s' mid' hs' ok => ?_
    · refine SlOf.row hA ok (rp.ds.mono fun p hp => List.mem_append_left _ ?_)
      exact List.mem_append_right _ (List.mem_append_right _ (List.mem_append_right _ (List.mem_append_right _ (List.mem_append_right _ hp))))
    exact wp_ret_of ⟨s', mid', rfl, rfl, hs', ok⟩
  · rintro v K ⟨s', tl', rfl, rfl, hs', o⟩
    exact ⟨_, rfl, h s' tl' hs' o⟩
theorem HRaw_det {w n : Int} (b1 : 0 ≤ w ∧ w ≤ 100000) (H : Heap) : Det Tryz.prog f_hazard_Raw [.int .i64 w, .int .i64 n] H (.tuple #[.agg #[.int .i64 w, .int .i64 n], .int .i64 (2 * w)]) H := by
  refine t_hazard_Raw_spec fun L => ?_
  unfold t_hazard_Raw
  have e : w64 (2 * imax w 0) = 2 * w := by
    rw [show imax w 0 = w by unfold imax; rw [if_neg (by omega)]]
    exact w64_in (by omega) (by omega)
  rw [e]
  refine wp_newP fun b hb => ?_
  refine wp_stA_of (Heap.set_same _ _ _) (by exact Nat.le_refl 2) (singles _ rfl) ?_
  rw [Heap.set_set]
  have c1 : putAll #[.int .i64 0, .int .i64 0] 0 [.int .i64 w, .int .i64 n] = #[.int .i64 w, .int .i64 n] := rfl
  rw [c1]
  exact ⟨((w, n, ()), 2 * w, ()), ldK_still (Heap.set_same _ _ _) 2 0 #[] (by simp) rfl, H, Heap.le_set_new _ hb, rfl, rfl⟩
theorem wq_HRaw {H : Heap} {w n : Int} {k : HL Sh1.T [(.agg [(.int .i64), (.int .i64)]), (.leaf (.int .i64))] → Tree} (b1 : 0 ≤ w ∧ w ≤ 100000) (h : wp Tryz.prog (k ((w, n, ()), 2 * w, ())) L H R) :
    wp Tryz.prog (.qcall f_hazard_Raw [.int .i64 w, .int .i64 n] (.tup [(.agg [(.int .i64), (.int .i64)]), (.leaf (.int .i64))]) k) L H R := wp_qcall_det (x := ((w, n, ()), 2 * w, ())) (HRaw_det b1 H) h
theorem Word_det (tw ta w n : Int) (H : Heap) : Det Tryz.prog f_hazard_Table_Word [.agg #[.int .i64 tw, .int .i64 ta], .int .i64 w, .int .i64 n] H (.int .i64 (w64 (w64 (ta + w64 (2 * w)) + n))) H := by
  refine t_hazard_Table_Word_spec (p0_0 := tw) (p0_1 := ta) fun L => ?_
  unfold t_hazard_Table_Word
  refine wp_newP fun b hb => wp_ld_of (x := ta) (by rw [Addr.add_mk, Heap.cell_set]; rfl) ?_
  exact ⟨H, Heap.le_set_new _ hb, rfl, rfl⟩
theorem wq_Word {H : Heap} {tw ta w n : Int} {k : Int → Tree} (b : 0 ≤ ta ∧ ta ≤ 1000000 ∧ 0 ≤ w ∧ w ≤ 1000 ∧ 0 ≤ n ∧ n ≤ 1000) (h : wp Tryz.prog (k (ta + 2 * w + n)) L H R) :
    wp Tryz.prog (.qcall f_hazard_Table_Word [.agg #[.int .i64 tw, .int .i64 ta], .int .i64 w, .int .i64 n] (.one (.leaf (.int .i64))) k) L H R := by
  have e : w64 (w64 (ta + w64 (2 * w)) + n) = ta + 2 * w + n := by
    rw [w64_in (x := 2 * w) (by omega) (by omega), w64_in (x := ta + 2 * w) (by omega) (by omega), w64_in (by omega) (by omega)]
  have := Word_det tw ta w n H
  rw [e] at this
  exact wp_qcall_det (x := ta + 2 * w + n) this h
end
section
variable {A : Ar}
theorem getD_rawF {i : Int} (h : A.rawOk i) : A.raw.getD i.toNat 0 = A.rawF i := by unfold Ar.rawF; rw [if_pos h]
theorem Pu.s0 {x : Pu} (h : x.at' = 0) (o : A.rawOk x.head) : (x.stepM A, x.stepA A) = ({ x with was := A.rawF x.head, at' := 1 }, A.tick) := by
  have n1 : ¬ x.at' = 1 := by omega
  have n2 : ¬ x.at' = 2 := by omega
  have n3 : ¬ x.at' = 3 := by omega
  unfold Pu.stepM Pu.stepA
  simp only [if_neg n1, if_neg n2, if_neg n3, touchR_yes o]
theorem Pu.s1 {x : Pu} (h : x.at' = 1) {lk : Int} (hl : w64 (x.pl.links + w64 (Int.tdiv x.base 8)) = lk) (o : A.rawOk lk) : (x.stepM A, x.stepA A) = ({ x with at' := 2 }, A.tick.setR lk.toNat (iand x.was 131071)) := by
  unfold Pu.stepM Pu.stepA
  simp only [if_pos h, hl]
  unfold Ar.storeR; rw [if_pos o]
theorem Pu.s2y {x : Pu} (h : x.at' = 2) (o : A.rawOk x.head) (e : A.rawF x.head = x.was) : (x.stepM A, x.stepA A) = ({ x with at' := 3 }, A.tick.setR x.head.toNat (nextF x.was (w64 (w64 (Int.tdiv x.base 8) + 1)))) := by
  have n1 : ¬ x.at' = 1 := by omega
  have e' := (getD_rawF o).trans e
  have sb : A.swapRb x.head x.was = true := decide_eq_true ⟨o, e'⟩
  unfold Pu.stepM Pu.stepA
  simp only [if_neg n1, if_pos h, sb, if_true]
  unfold Ar.swapR; rw [if_pos o, if_pos e']
theorem Pu.s2n {x : Pu} (h : x.at' = 2) (o : A.rawOk x.head) (e : A.rawF x.head ≠ x.was) : (x.stepM A, x.stepA A) = ({ x with at' := 0 }, A.tick) := by
  have n1 : ¬ x.at' = 1 := by omega
  have e' : A.raw.getD x.head.toNat 0 ≠ x.was := by rw [getD_rawF o]; exact e
  have sb : A.swapRb x.head x.was = false := decide_eq_false fun h => e' h.2
  unfold Pu.stepM Pu.stepA
  simp only [if_neg n1, if_pos h, sb, Bool.false_eq_true, if_false]
  unfold Ar.swapR; rw [if_pos o, if_neg e']
theorem Pu.s3 {x : Pu} (h : x.at' = 3) : (x.stepM A, x.stepA A) = (x, A) := by
  have n1 : ¬ x.at' = 1 := by omega
  have n2 : ¬ x.at' = 2 := by omega
  unfold Pu.stepM Pu.stepA
  simp only [if_neg n1, if_neg n2, if_pos h]
theorem Po.s0 {x : Po} (h : x.at' = 0) (o : A.rawOk x.head) : (x.stepM A, x.stepA A) = ({ x with was := A.rawF x.head, at' := if A.rawF x.head % 131072 = 0 then 3 else 1 }, A.tick) := by
  have n1 : ¬ x.at' = 1 := by omega
  have n2 : ¬ x.at' = 2 := by omega
  have n3 : ¬ x.at' = 3 := by omega
  unfold Po.stepM Po.stepA
  simp only [if_neg n1, if_neg n2, if_neg n3, touchR_yes o, mask17]
theorem Po.s1 {x : Po} (h : x.at' = 1) {lk : Int} (hl : w64 (w64 (x.pl.links + x.was % 131072) - 1) = lk) (o : A.rawOk lk) : (x.stepM A, x.stepA A) = ({ x with link := A.rawF lk, at' := 2 }, A.tick) := by
  unfold Po.stepM Po.stepA
  simp only [if_pos h, mask17, hl, touchR_yes o]
theorem Po.s2y {x : Po} (h : x.at' = 2) (o : A.rawOk x.head) (e : A.rawF x.head = x.was) : (x.stepM A, x.stepA A) = ({ x with at' := 3, base := w64 (w64 (x.was % 131072 - 1) * 8), ok := true }, A.tick.setR x.head.toNat (nextF x.was x.link)) := by
  have n1 : ¬ x.at' = 1 := by omega
  have e' := (getD_rawF o).trans e
  have sb : A.swapRb x.head x.was = true := decide_eq_true ⟨o, e'⟩
  unfold Po.stepM Po.stepA
  simp only [if_neg n1, if_pos h, sb, if_true, mask17]
  unfold Ar.swapR; rw [if_pos o, if_pos e']
theorem Po.s2n {x : Po} (h : x.at' = 2) (o : A.rawOk x.head) (e : A.rawF x.head ≠ x.was) : (x.stepM A, x.stepA A) = ({ x with at' := 0 }, A.tick) := by
  have n1 : ¬ x.at' = 1 := by omega
  have e' : A.raw.getD x.head.toNat 0 ≠ x.was := by rw [getD_rawF o]; exact e
  have sb : A.swapRb x.head x.was = false := decide_eq_false fun h => e' h.2
  unfold Po.stepM Po.stepA
  simp only [if_neg n1, if_pos h, sb, Bool.false_eq_true, if_false]
  unfold Ar.swapR; rw [if_pos o, if_neg e']
theorem Po.s3 {x : Po} (h : x.at' = 3) : (x.stepM A, x.stepA A) = (x, A) := by
  have n1 : ¬ x.at' = 1 := by omega
  have n2 : ¬ x.at' = 2 := by omega
  unfold Po.stepM Po.stepA
  simp only [if_neg n1, if_neg n2, if_pos h]
theorem tick_uses (h0 : 0 ≤ A.uses) (h : A.uses ≤ 4000000000000000000) : A.tick = A.later 1 := by
  unfold Ar.tick Ar.later; rw [w64_in (by omega) (by omega)]
end
structure Sg where
  ch : Int → List Int
  cv : Int
  gn : Int → Int
  cl : Int → Int
  nc : Int
def updI (f : Int → Int) (k v : Int) : Int → Int := fun j => if j = k then v else f j
structure SL (A : Ar) (p : Pl) (w m : Int) (S : Sg) : Prop where
  F : FL A p w ((m + 7) / 8) S.ch
  pl : p = plOf w m
  wb : 1 ≤ w ∧ w ≤ 100
  mb : 0 ≤ m ∧ m ≤ 60000
  rl : p.carved < A.raw.length
  wl : (A.words.length : Int) = m
  fr : A.fresh = false
  cvr : A.rawF p.carved = S.cv
  cvb : 0 ≤ S.cv ∧ S.cv ≤ m ∧ S.cv % 8 = 0
  gnr : ∀ b, 0 ≤ b → b < m → b % 8 = 0 → A.rawF (p.gens + b / 8) = S.gn b ∧ (alGet A.gens b).getD 0 ≤ S.gn b
  gnb : ∀ b, 0 ≤ S.gn b ∧ S.gn b ≤ A.uses
  gnz : ∀ b, S.cv ≤ b → S.gn b = 0
  blk : ∀ b, S.cl b ≠ -1 → 0 ≤ S.cl b ∧ S.cl b < 4 ∧ 0 ≤ b ∧ b % 8 = 0 ∧ b + sizeF (S.cl b) ≤ S.cv
  dis : ∀ b c, S.cl b ≠ -1 → S.cl c ≠ -1 → b < c → b + sizeF (S.cl b) ≤ c
  chc : ∀ k b, b ∈ S.ch k → S.cl b = k % 4
  act : ∀ h, A.stF h ≠ 0 → S.cl (opB h) = opC h ∧ ∀ k, opB h ∉ S.ch k
  bz : ∀ i : Nat, A.busy.getD i false = true → ∃ h, A.stF h ≠ 0 ∧ opB h ≤ i ∧ (i : Int) < opB h + sizeF (opC h)
  cr1 : ∀ i : Nat, S.cv ≤ i → A.carved.getD i false = false
  cr2 : ∀ b, S.cl b ≠ -1 → ∀ i : Nat, b ≤ i → (i : Int) < b + sizeF (S.cl b) → A.carved.getD i false = decide (1 ≤ S.gn b)
  cnt : A.nC = S.nc ∧ A.nF = S.nc - A.nL - A.nR
  ncb : 0 ≤ S.nc ∧ S.nc ≤ 64 * (A.uses + 1)
  cnb : -(64 * (A.uses + 1)) ≤ A.nL ∧ A.nL ≤ 64 * (A.uses + 1) ∧ -(64 * (A.uses + 1)) ≤ A.nR ∧ A.nR ≤ 64 * (A.uses + 1)
section
variable {A B : Ar} {p : Pl} {w m : Int} {S : Sg}
theorem SL.places (X : SL A p w m S) : p.heads = 0 ∧ p.links = 4 * w ∧ p.gens = 4 * w + (m + 7) / 8 ∧ p.carved = 4 * w + 2 * ((m + 7) / 8) ∧ p.work = w := by rw [X.pl]; exact ⟨rfl, rfl, rfl, rfl, rfl⟩
theorem sz_pos {c : Int} (h0 : 0 ≤ c) (h1 : c < 4) : 8 ≤ sizeF c ∧ sizeF c ≤ 64 ∧ sizeF c % 8 = 0 := by
  rcases sizeF_cases h0 h1 with ⟨_, h⟩ | ⟨_, h⟩ | ⟨_, h⟩ | ⟨_, h⟩ <;> rw [h] <;> decide
theorem SL.congr (X : SL A p w m S) (hr : ∀ i, 0 ≤ i → i ≤ p.carved → B.rawF i = A.rawF i) (hl : B.raw.length = A.raw.length) (hu : A.uses ≤ B.uses) (hw : B.words.length = A.words.length) (hs : ∀ h, B.stF h = A.stF h)
    (hb : B.busy = A.busy) (hc : B.carved = A.carved) (hg : B.gens = A.gens) (hf : B.fresh = A.fresh) (n1 : B.nC = A.nC) (n2 : B.nF = A.nF) (n3 : B.nL = A.nL) (n4 : B.nR = A.nR) : SL B p w m S := by
  obtain ⟨p1, p2, p3, p4, p5⟩ := X.places
  have wb := X.wb
  have mb := X.mb
  refine ⟨X.F.congr (fun i h0 h1 => hr i h0 (by omega)) hl hu, X.pl, X.wb, X.mb, by rw [hl]; exact X.rl, by rw [hw]; exact X.wl, by rw [hf]; exact X.fr, ?_, X.cvb, ?_, ?_, X.gnz, X.blk, X.dis, X.chc, ?_, ?_, ?_, ?_, ?_, ?_, ?_⟩
  · rw [hr _ (by omega) (by omega)]; exact X.cvr
  · intro b h0 h1 h2; rw [hr _ (by omega) (by omega), hg]; exact X.gnr b h0 h1 h2
  · intro b; have := X.gnb b; omega
  · intro h; rw [hs]; exact X.act h
  · intro i hi; rw [hb] at hi; obtain ⟨h, h1, h2, h3⟩ := X.bz i hi; exact ⟨h, by rw [hs]; exact h1, h2, h3⟩
  · intro i hi; rw [hc]; exact X.cr1 i hi
  · intro b hb i h0 h1; rw [hc]; exact X.cr2 b hb i h0 h1
  · rw [n1, n2, n3, n4]; exact X.cnt
  · have := X.ncb; omega
  · have := X.cnb; rw [n3, n4]; omega
theorem SL.later (X : SL A p w m S) {n : Int} (hn : 0 ≤ n) : SL (A.later n) p w m S :=
  X.congr (fun _ _ _ => rfl) rfl (by show A.uses ≤ A.uses + n; omega) rfl (fun h => stF_slots rfl h) rfl rfl rfl rfl rfl rfl rfl rfl
theorem SL.pop (X : SL A p w m S) (hu : A.uses ≤ 1000000000) {k b : Int} {l : List Int} (hk : S.ch k = b :: l) : SL (A.popped k (4 * w + b / 8)) p w m { S with ch := upd S.ch k l } := by
  obtain ⟨p1, p2, p3, p4, p5⟩ := X.places
  have wb := X.wb
  have mb := X.mb
  have F := X.F.pop hu hk
  obtain ⟨k0, k1⟩ := X.F.rg k (by rw [hk]; simp)
  have hsub : ∀ j x, x ∈ upd S.ch k l j → x ∈ S.ch j := fun j x hx => by
    unfold upd at hx; split at hx
    · rename_i e; rw [e, hk]; exact List.mem_cons_of_mem _ hx
    · exact hx
  have ho : ∀ i, 4 * w + (m + 7) / 8 ≤ i → (A.popped k (4 * w + b / 8)).rawF i = A.rawF i := fun i hi => X.F.pop_other k0 k1 hi
  have us : (A.popped k (4 * w + b / 8)).uses = A.uses + 3 := rfl
  refine ⟨F, X.pl, X.wb, X.mb, by unfold Ar.popped; simp only [List.length_set]; exact X.rl, X.wl, X.fr, ?_, X.cvb, ?_, ?_, X.gnz, X.blk, X.dis, ?_, ?_, ?_, X.cr1, X.cr2, X.cnt, ?_, ?_⟩
  · rw [ho _ (by omega)]; exact X.cvr
  · intro c h0 h1 h2; rw [ho _ (by omega)]; exact X.gnr c h0 h1 h2
  · intro c; have := X.gnb c; rw [us]; show 0 ≤ S.gn c ∧ S.gn c ≤ _; omega
  · exact fun j x hx => X.chc j x (hsub j x hx)
  · intro h hh
    have hh' : A.stF h ≠ 0 := by rw [← stF_slots (A := A) (B := A.popped k (4 * w + b / 8)) rfl h]; exact hh
    obtain ⟨a1, a2⟩ := X.act h hh'
    exact ⟨a1, fun j hx => a2 j (hsub j _ hx)⟩
  · intro i hi
    obtain ⟨h, h1, h2, h3⟩ := X.bz i hi
    exact ⟨h, by rw [stF_slots (A := A) (B := A.popped k (4 * w + b / 8)) rfl h]; exact h1, h2, h3⟩
  · have := X.ncb; rw [us]; show 0 ≤ S.nc ∧ S.nc ≤ _; omega
  · have := X.cnb; rw [us]; show _ ≤ A.nL ∧ A.nL ≤ _ ∧ _ ≤ A.nR ∧ A.nR ≤ _; omega
theorem rawF_setR {i j v : Int} (hi : A.rawOk i) : (A.setR i.toNat v).rawF j = if j = i then v else A.rawF j := by
  unfold Ar.rawOk at hi
  by_cases hj : A.rawOk j
  · have hj' : (A.setR i.toNat v).rawOk j := by unfold Ar.rawOk Ar.setR at *; simpa using hj
    rw [← getD_rawF hj', ← getD_rawF hj]
    unfold Ar.rawOk at hj
    show (A.raw.set i.toNat v).getD j.toNat 0 = _
    rw [List.getD_eq_getElem?_getD, List.getElem?_set]
    by_cases e : j = i
    · rw [if_pos e, if_pos (by rw [e]), if_pos (by omega)]; rfl
    · rw [if_neg e, if_neg (by omega), List.getD_eq_getElem?_getD]
  · have hj' : ¬ (A.setR i.toNat v).rawOk j := by unfold Ar.rawOk Ar.setR at *; simpa using hj
    have e : ¬ j = i := fun e => hj (e ▸ hi)
    rw [if_neg e]; unfold Ar.rawF; rw [if_neg hj, if_neg hj']
theorem SL.carve (X : SL A p w m S) (hu : A.uses ≤ 1000000000) {c : Int} (h0 : 0 ≤ c) (h1 : c < 4) (hf : S.cv + sizeF c ≤ m) :
    SL ((A.later 1).setR p.carved.toNat (S.cv + sizeF c)) p w m { S with cv := S.cv + sizeF c, cl := updI S.cl S.cv c } := by
  obtain ⟨p1, p2, p3, p4, p5⟩ := X.places
  have wb := X.wb
  have mb := X.mb
  have cvb := X.cvb
  have sz := sz_pos h0 h1
  have us := X.F.us
  have ok : (A.later 1).rawOk p.carved := ⟨by omega, X.rl⟩
  have hr : ∀ i, ((A.later 1).setR p.carved.toNat (S.cv + sizeF c)).rawF i = if i = p.carved then S.cv + sizeF c else A.rawF i := fun i => rawF_setR ok
  have hcl : S.cl S.cv = -1 := by
    by_cases h : S.cl S.cv = -1
    · exact h
    · have := X.blk _ h; have := sz_pos this.1 this.2.1; omega
  have hlt : ∀ b, S.cl b ≠ -1 → b < S.cv := fun b hb => by have := X.blk b hb; have := sz_pos this.1 this.2.1; omega
  have hst : ∀ h, ((A.later 1).setR p.carved.toNat (S.cv + sizeF c)).stF h = A.stF h := fun h => stF_slots rfl h
  refine ⟨X.F.congr (fun i i0 i1 => by rw [hr, if_neg (by omega)]) (by show (A.raw.set _ _).length = _; rw [List.length_set]) (by show A.uses ≤ A.uses + 1; omega), X.pl, X.wb, X.mb, ?_, X.wl, X.fr, ?_, ⟨by show 0 ≤ S.cv + _; omega, hf, by show (S.cv + _) % 8 = 0; omega⟩, ?_, ?_, ?_, ?_, ?_, ?_, ?_, ?_, ?_, ?_, X.cnt, ?_, ?_⟩
  · show p.carved < ((A.raw.set _ _).length : Int); rw [List.length_set]; exact X.rl
  · rw [hr, if_pos rfl]
  · intro b b0 b1 b2; rw [hr, if_neg (by omega)]; exact X.gnr b b0 b1 b2
  · intro b; have := X.gnb b; show 0 ≤ S.gn b ∧ S.gn b ≤ A.uses + 1; omega
  · intro b hb; exact X.gnz b (by have hb : S.cv + sizeF c ≤ b := hb; omega)
  · intro b hb
    show 0 ≤ updI S.cl S.cv c b ∧ updI S.cl S.cv c b < 4 ∧ 0 ≤ b ∧ b % 8 = 0 ∧ b + sizeF (updI S.cl S.cv c b) ≤ S.cv + sizeF c
    have hb : updI S.cl S.cv c b ≠ -1 := hb
    unfold updI at hb ⊢
    split
    · rename_i e; exact ⟨h0, h1, by omega, by omega, by omega⟩
    · rename_i e; rw [if_neg e] at hb; have := X.blk b hb; omega
  · intro b d hb hd hlt'
    have hb : updI S.cl S.cv c b ≠ -1 := hb
    have hd : updI S.cl S.cv c d ≠ -1 := hd
    show b + sizeF (updI S.cl S.cv c b) ≤ d
    unfold updI at hb hd ⊢
    split
    · rename_i e
      rw [if_neg (by omega)] at hd
      have := hlt d hd; omega
    · rename_i e
      rw [if_neg e] at hb
      by_cases e2 : d = S.cv
      · have := X.blk b hb; omega
      · rw [if_neg e2] at hd; exact X.dis b d hb hd hlt'
  · intro k b hb
    have hm := X.F.mem k b hb
    have hk : S.cl b ≠ -1 := by have := X.chc k b hb; have := X.F.rg k (by intro e; rw [e] at hb; cases hb); omega
    show updI S.cl S.cv c b = k % 4
    unfold updI; rw [if_neg (by have := hlt b hk; omega)]; exact X.chc k b hb
  · intro h hh
    rw [hst] at hh
    obtain ⟨a1, a2⟩ := X.act h hh
    refine ⟨?_, a2⟩
    show updI S.cl S.cv c (opB h) = opC h
    have : S.cl (opB h) ≠ -1 := by have := (opC_nat h).1; omega
    unfold updI; rw [if_neg (by have := hlt _ this; omega)]; exact a1
  · intro i hi
    obtain ⟨h, e1, e2, e3⟩ := X.bz i hi
    exact ⟨h, by rw [hst]; exact e1, e2, e3⟩
  · intro i hi; exact X.cr1 i (by have hi : S.cv + sizeF c ≤ (i : Int) := hi; omega)
  · intro b hb i i0 i1
    have hb : updI S.cl S.cv c b ≠ -1 := hb
    have i1 : (i : Int) < b + sizeF (updI S.cl S.cv c b) := i1
    show A.carved.getD i false = decide (1 ≤ S.gn b)
    unfold updI at hb i1
    by_cases e : b = S.cv
    · rw [X.cr1 i (by omega), X.gnz b (by omega)]; rfl
    · rw [if_neg e] at hb i1; exact X.cr2 b hb i i0 i1
  · have := X.ncb; show 0 ≤ S.nc ∧ S.nc ≤ 64 * (A.uses + 1 + 1); omega
  · have := X.cnb; show _ ≤ A.nL ∧ A.nL ≤ 64 * (A.uses + 1 + 1) ∧ _ ≤ A.nR ∧ A.nR ≤ 64 * (A.uses + 1 + 1); 
    show -(64 * (A.uses + 1 + 1)) ≤ A.nL ∧ A.nL ≤ 64 * (A.uses + 1 + 1) ∧ -(64 * (A.uses + 1 + 1)) ≤ A.nR ∧ A.nR ≤ 64 * (A.uses + 1 + 1)
    omega
end
end Go.Proofs.YtjnacjniiogjcaaGreat
