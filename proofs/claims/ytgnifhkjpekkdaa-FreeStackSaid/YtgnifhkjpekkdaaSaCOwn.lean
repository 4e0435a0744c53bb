import Derived.Test.YtgnifhkjpekkdaaSaCFree6
import Derived.Test.YtgnifhkjpekkdaaSaCRow
set_option linter.unusedVariables false
set_option maxRecDepth 20000
namespace Go.Proofs.Ytgnifhkjpekkdaa
open Go Go.Fw

/-! ### Blocks, one by one, beside an arena -/

abbrev Bl := List (Nat × Obj)
def oc (T : TypeId) (c : List Value) : Obj := .cells c.toArray T (0, 0)
def putL : Bl → Heap → Heap
  | [], H => H
  | p :: l, H => (putL l H).set p.1 p.2
@[reducible] def keys (l : Bl) : List Nat := l.map Prod.fst
def own (A : Ar) (l : Bl) (G : Heap) : Heap := A.put (putL l G)

structure Ok (I : List Nat) (G : Heap) (ks : List Nat) : Prop where
  nd : ks.Nodup
  out : ∀ b ∈ ks, b ∉ I
  no : ∀ b ∈ ks, G b = none
structure Aw (I : List Nat) (A : Ar) : Prop where
  wf : A.wf
  ids : A.ids = I

theorem putL_append (l k : Bl) (G : Heap) : putL (l ++ k) G = putL l (putL k G) := by
  induction l with
  | nil => rfl
  | cons p l ih => show (putL (l ++ k) G).set p.1 p.2 = (putL l (putL k G)).set p.1 p.2; rw [ih]

theorem putL_out {l : Bl} {b : Nat} (h : b ∉ keys l) (G : Heap) : putL l G b = G b := by
  induction l with
  | nil => rfl
  | cons p l ih =>
    simp only [keys, List.map_cons, List.mem_cons, not_or] at h
    show (putL l G).set p.1 p.2 b = _
    rw [Heap.set_ne _ _ h.1]; exact ih h.2

theorem putL_get {l : Bl} (G : Heap) : ∀ {i : Nat} {b : Nat} {o : Obj}, (keys l).Nodup → l[i]? = some (b, o) → putL l G b = some o := by
  induction l with
  | nil => intro i b o _ h; simp at h
  | cons p l ih =>
    intro i b o hn h
    simp only [keys, List.map_cons, List.nodup_cons] at hn
    cases i with
    | zero =>
      simp only [List.getElem?_cons_zero, Option.some.injEq] at h
      subst h; exact Heap.set_same _ _ _
    | succ i =>
      simp only [List.getElem?_cons_succ] at h
      have hm : b ∈ keys l := List.mem_map.2 ⟨(b, o), List.mem_of_getElem? h, rfl⟩
      show (putL l G).set p.1 p.2 b = _
      rw [Heap.set_ne _ _ (fun e => hn.1 (by rw [← e]; exact hm))]
      exact ih hn.2 h

theorem putL_set {l : Bl} (G : Heap) : ∀ {i : Nat} {b : Nat} {o o' : Obj}, (keys l).Nodup → l[i]? = some (b, o) → (putL l G).set b o' = putL (l.set i (b, o')) G := by
  induction l with
  | nil => intro i b o o' _ h; simp at h
  | cons p l ih =>
    intro i b o o' hn h
    simp only [keys, List.map_cons, List.nodup_cons] at hn
    cases i with
    | zero =>
      simp only [List.getElem?_cons_zero, Option.some.injEq] at h
      subst h; exact Heap.set_set _ _ _ _
    | succ i =>
      simp only [List.getElem?_cons_succ] at h
      have hm : b ∈ keys l := List.mem_map.2 ⟨(b, o), List.mem_of_getElem? h, rfl⟩
      show ((putL l G).set p.1 p.2).set b o' = (putL (l.set i (b, o')) G).set p.1 p.2
      rw [Heap.set_comm _ _ _ (fun e => hn.1 (by rw [e]; exact hm)), ih hn.2 h]

theorem putL_none {l : Bl} {G : Heap} {b : Nat} (h : putL l G b = none) : b ∉ keys l ∧ G b = none := by
  induction l with
  | nil => exact ⟨by simp [keys], h⟩
  | cons p l ih =>
    obtain ⟨h1, h2⟩ := set_none (H := putL l G) h
    obtain ⟨h3, h4⟩ := ih h2
    exact ⟨by simp only [keys, List.map_cons, List.mem_cons, not_or]; exact ⟨h1, h3⟩, h4⟩

theorem putL_drop {l : Bl} (G : Heap) : ∀ {l' : Bl}, l'.Sublist l → (keys l).Nodup → (∀ b ∈ keys l, b ∉ keys l' → G b = none) → (putL l' G).le (putL l G) := by
  induction l with
  | nil => intro l' hs _ _; rw [List.sublist_nil.1 hs]; exact Heap.le_refl _
  | cons p l ih =>
    intro l' hs hn hg
    simp only [keys, List.map_cons, List.nodup_cons] at hn
    have hnl : (keys l).Nodup := hn.2
    cases hs with
    | cons _ hs =>
      have hp : p.1 ∉ keys l' := fun h => hn.1 ((hs.map Prod.fst).subset h)
      have hle := ih hs hnl (fun b hb hb' => hg b (by simp only [keys, List.map_cons]; exact List.mem_cons_of_mem _ hb) hb')
      intro b o hb
      show (putL l G).set p.1 p.2 b = some o
      have hbp : b ≠ p.1 := by
        intro e; subst e
        rw [putL_out hp, hg _ (by simp [keys]) hp] at hb; cases hb
      rw [Heap.set_ne _ _ hbp]; exact hle b o hb
    | @cons_cons l'' _ _ hs =>
      have hle := ih hs hnl (fun b hb hb' => hg b (by simp only [keys, List.map_cons]; exact List.mem_cons_of_mem _ hb) (by
        simp only [keys, List.map_cons, List.mem_cons, not_or]
        exact ⟨fun e => hn.1 (e ▸ hb), hb'⟩))
      intro b o hb
      show (putL l G).set p.1 p.2 b = some o
      by_cases e : b = p.1
      · subst e
        have := Heap.set_same (putL l'' G) p.1 p.2
        rw [show putL (p :: l'') G p.1 = some p.2 from this] at hb
        rw [Heap.set_same]; exact hb
      · rw [Heap.set_ne _ _ e]
        have h2 : putL (p :: l'') G b = putL l'' G b := Heap.set_ne _ _ e
        rw [h2] at hb; exact hle b o hb

/-- One block to the front. -/
theorem putL_front {l : Bl} (G : Heap) : ∀ {i : Nat} {p : Nat × Obj}, (keys l).Nodup → l[i]? = some p → putL l G = putL (p :: l.eraseIdx i) G := by
  induction l with
  | nil => intro i p _ h; simp at h
  | cons q l ih =>
    intro i p hn h
    simp only [keys, List.map_cons, List.nodup_cons] at hn
    cases i with
    | zero => simp only [List.getElem?_cons_zero, Option.some.injEq] at h; subst h; rfl
    | succ i =>
      simp only [List.getElem?_cons_succ] at h
      have hm : p.1 ∈ keys l := List.mem_map.2 ⟨p, List.mem_of_getElem? h, rfl⟩
      show (putL l G).set q.1 q.2 = ((putL (l.eraseIdx i) G).set q.1 q.2).set p.1 p.2
      rw [ih hn.2 h]
      show ((putL (l.eraseIdx i) G).set p.1 p.2).set q.1 q.2 = _
      exact Heap.set_comm _ _ _ (fun e => hn.1 (by first | (rw [← e]; exact hm) | (rw [e]; exact hm)))

theorem putL_same {l : Bl} {G K : Heap} (h : ∀ b, b ∉ keys l → G b = K b) : putL l G = putL l K := by
  induction l generalizing G K with
  | nil => funext b; exact h b (by simp [keys])
  | cons p l ih =>
    funext b
    show (putL l G).set p.1 p.2 b = (putL l K).set p.1 p.2 b
    by_cases e : b = p.1
    · subst e; rw [Heap.set_same, Heap.set_same]
    · rw [Heap.set_ne _ _ e, Heap.set_ne _ _ e]
      by_cases hb : b ∈ keys l
      · have : ∀ (l : Bl), b ∈ keys l → putL l G b = putL l K b := by
          intro l hb
          induction l with
          | nil => simp [keys] at hb
          | cons q l ih2 =>
            show (putL l G).set q.1 q.2 b = (putL l K).set q.1 q.2 b
            by_cases e2 : b = q.1
            · subst e2; rw [Heap.set_same, Heap.set_same]
            · rw [Heap.set_ne _ _ e2, Heap.set_ne _ _ e2]
              simp only [keys, List.map_cons, List.mem_cons] at hb
              exact ih2 (hb.resolve_left e2)
        exact this l hb
      · rw [putL_out hb, putL_out hb]
        exact h b (by simp only [keys, List.map_cons, List.mem_cons, not_or]; exact ⟨e, hb⟩)

theorem putL_comm {l k : Bl} (h : ∀ b ∈ keys l, b ∉ keys k) (G : Heap) : putL l (putL k G) = putL k (putL l G) := by
  induction l with
  | nil => rfl
  | cons p l ih =>
    have hp : p.1 ∉ keys k := h p.1 (by simp [keys])
    have ih1 := ih fun b hb => h b (by simp only [keys, List.map_cons]; exact List.mem_cons_of_mem _ hb)
    show (putL l (putL k G)).set p.1 p.2 = putL k ((putL l G).set p.1 p.2)
    rw [ih1]
    clear ih1 ih h
    induction k with
    | nil => rfl
    | cons q k ih =>
      simp only [keys, List.map_cons, List.mem_cons, not_or] at hp
      show ((putL k (putL l G)).set q.1 q.2).set p.1 p.2 = (putL k ((putL l G).set p.1 p.2)).set q.1 q.2
      rw [Heap.set_comm _ _ _ (Ne.symm hp.1), ih hp.2]

section
variable {I : List Nat} {A : Ar} {l : Bl} {G : Heap}

theorem own_get (hA : Aw I A) (ok : Ok I G (keys l)) {i b : Nat} {o : Obj} (h : l[i]? = some (b, o)) : own A l G b = some o := by
  unfold own
  rw [Ar.put_out, putL_get G ok.nd h]
  rw [hA.ids]; exact ok.out b (List.mem_map.2 ⟨(b, o), List.mem_of_getElem? h, rfl⟩)

theorem own_set (hA : Aw I A) (ok : Ok I G (keys l)) {i b : Nat} {o : Obj} (o' : Obj) (h : l[i]? = some (b, o)) : (own A l G).set b o' = own A (l.set i (b, o')) G := by
  unfold own
  rw [Ar.put_set, putL_set G ok.nd h]
  rw [hA.ids]; exact ok.out b (List.mem_map.2 ⟨(b, o), List.mem_of_getElem? h, rfl⟩)

theorem own_none (hA : Aw I A) {b : Nat} (h : own A l G b = none) : b ∉ I ∧ b ∉ keys l ∧ G b = none := by
  obtain ⟨h1, h2⟩ := Ar.put_none h
  obtain ⟨h3, h4⟩ := putL_none h2
  exact ⟨by rw [← hA.ids]; exact h1, h3, h4⟩

theorem own_new (hA : Aw I A) (ok : Ok I G (keys l)) {b : Nat} (h : own A l G b = none) (o : Obj) : Ok I G (keys ((b, o) :: l)) ∧ (own A l G).set b o = own A ((b, o) :: l) G := by
  obtain ⟨h1, h2, h3⟩ := own_none hA h
  refine ⟨⟨?_, ?_, ?_⟩, ?_⟩
  · simp only [keys, List.map_cons, List.nodup_cons]; exact ⟨h2, ok.nd⟩
  · intro c hc
    simp only [keys, List.map_cons, List.mem_cons] at hc
    rcases hc with rfl | hc
    · exact h1
    · exact ok.out c hc
  · intro c hc
    simp only [keys, List.map_cons, List.mem_cons] at hc
    rcases hc with rfl | hc
    · exact h3
    · exact ok.no c hc
  · unfold own
    rw [Ar.put_set]
    · rfl
    · rw [hA.ids]; exact h1

theorem own_front (ok : Ok I G (keys l)) {i : Nat} {p : Nat × Obj} (h : l[i]? = some p) : own A l G = own A (p :: l.eraseIdx i) G := by
  unfold own; rw [putL_front G ok.nd h]

def pick (l : Bl) : List Nat → Option Bl
  | [] => some []
  | i :: is => match l[i]?, pick l is with
    | some p, some r => some (p :: r)
    | _, _ => none

theorem pick_mem {l : Bl} : ∀ {is : List Nat} {l' : Bl}, pick l is = some l' → ∀ p ∈ l', p ∈ l
  | [], l', h, p, hp => by cases h; cases hp
  | i :: is, l', h, p, hp => by
    simp only [pick] at h
    split at h
    · rename_i x r hx hr
      cases h
      rcases List.mem_cons.1 hp with rfl | hp
      · exact List.mem_of_getElem? hx
      · exact pick_mem hr p hp
    · cases h

/-- Some of the blocks, in another order. -/
theorem own_sub {l' : Bl} (ok : Ok I G (keys l)) (nd : (keys l').Nodup) (hm : ∀ p ∈ l', p ∈ l) : (own A l' G).le (own A l G) := by
  unfold own
  refine Ar.put_le fun b o hb => ?_
  by_cases hk : b ∈ keys l'
  · obtain ⟨⟨b', o'⟩, h1, rfl⟩ := List.mem_map.1 hk
    obtain ⟨i, hi⟩ := List.mem_iff_getElem?.1 h1
    rw [putL_get G nd hi] at hb
    cases hb
    obtain ⟨j, hj⟩ := List.mem_iff_getElem?.1 (hm _ h1)
    exact putL_get G ok.nd hj
  · rw [putL_out hk] at hb
    rw [putL_out]
    · exact hb
    · intro h; rw [ok.no b h] at hb; cases hb
theorem Ok.sub {ks ks' : List Nat} (ok : Ok I G ks) (nd : ks'.Nodup) (h : ∀ b ∈ ks', b ∈ ks) : Ok I G ks' := ⟨nd, fun b hb => ok.out b (h b hb), fun b hb => ok.no b (h b hb)⟩
theorem Ok.pick (is : List Nat) {l' : Bl} (ok : Ok I G (keys l)) (h : pick l is = some l') (nd : is.Nodup) : Ok I G (keys l') := by
  refine ok.sub ?_ fun b hb => ?_
  · have key : ∀ (is : List Nat) (l' : Bl), Proofs.Ytgnifhkjpekkdaa.pick l is = some l' → is.Nodup → (keys l').Nodup ∧ ∀ b ∈ keys l', ∃ i ∈ is, (l[i]?).map Prod.fst = some b := by
      intro is
      induction is with
      | nil => intro l' h _; cases h; exact ⟨by simp [keys], by simp [keys]⟩
      | cons i is ih =>
        intro l' h nd
        simp only [Proofs.Ytgnifhkjpekkdaa.pick] at h
        split at h
        · rename_i x r hx hr
          cases h
          obtain ⟨h1, h2⟩ := List.nodup_cons.1 nd
          obtain ⟨h3, h4⟩ := ih r hr h2
          refine ⟨?_, ?_⟩
          · simp only [keys, List.map_cons, List.nodup_cons]
            refine ⟨fun hm => ?_, h3⟩
            obtain ⟨j, hj, he⟩ := h4 x.1 hm
            have : i = j := by
              have n := ok.nd
              cases hlj : l[j]? with
              | none => rw [hlj] at he; cases he
              | some y =>
                rw [hlj] at he
                simp only [Option.map_some, Option.some.injEq] at he
                have hi1 : (keys l)[i]? = some x.1 := by simp [keys, hx]
                have hj1 : (keys l)[j]? = some x.1 := by simp [keys, hlj, he]
                exact (List.getElem?_inj (by
                  have := List.getElem?_eq_some_iff.1 hi1
                  exact this.1) n).1 (hi1.trans hj1.symm)
            exact h1 (this ▸ hj)
          · intro b hb
            simp only [keys, List.map_cons, List.mem_cons] at hb
            rcases hb with rfl | hb
            · exact ⟨i, List.mem_cons_self, by rw [hx]; rfl⟩
            · obtain ⟨j, hj, he⟩ := h4 b hb
              exact ⟨j, List.mem_cons_of_mem _ hj, he⟩
        · cases h
    exact (key is l' h nd).1
  · obtain ⟨p, hp, rfl⟩ := List.mem_map.1 hb
    exact List.mem_map.2 ⟨p, pick_mem h p hp, rfl⟩
theorem own_pick (is : List Nat) {l' : Bl} (ok : Ok I G (keys l)) (h : pick l is = some l') (nd : is.Nodup) : (own A l' G).le (own A l G) := own_sub ok (ok.pick is h nd).nd (pick_mem h)

theorem own_le {K : Heap} (h : G.le K) (hg : ∀ b ∈ keys l, G b = none) : (own A l G).le (own A l K) := by
  unfold own
  refine Ar.put_le ?_
  intro b o hb
  by_cases hm : b ∈ keys l
  · have : ∀ (l : Bl), b ∈ keys l → putL l G b = putL l K b := by
      intro l hb
      induction l with
      | nil => simp [keys] at hb
      | cons q l ih2 =>
        show (putL l G).set q.1 q.2 b = (putL l K).set q.1 q.2 b
        by_cases e2 : b = q.1
        · subst e2; rw [Heap.set_same, Heap.set_same]
        · rw [Heap.set_ne _ _ e2, Heap.set_ne _ _ e2]
          simp only [keys, List.map_cons, List.mem_cons] at hb
          exact ih2 (hb.resolve_left e2)
    rw [← this l hm]; exact hb
  · rw [putL_out hm] at hb ⊢; exact h b o hb
end

/-! ### What a leaf's value is -/

def Lf.dec : (l : Leaf) → Value → Option l.T
  | .int k, .int k' n => if k = k' then some n else none
  | .bool, .bool b => some b
  | .ptr, .pointer p => some p
  | .addr, .pointer (some a) => some a
  | .slice, .slice a n c => some ⟨a, n, c⟩
  | .map, .map r => some r
  | .val, v => some v
  | _, _ => none

theorem Lf.dec_ok {l : Leaf} {v : Value} {x : l.T} (h : Lf.dec l v = some x) : v = l.toVal x := by
  cases l <;> cases v <;> simp only [Lf.dec] at h
  all_goals first
    | (cases h; done)
    | (cases h; rfl)
    | (split at h
       · rename_i e; cases h; rw [← e]
       · cases h)
    | (rename_i p; cases p
       · cases h
       · cases h; rfl)

def Lf.decs : (ls : List Leaf) → List Value → Option (HL Leaf.T ls)
  | [], _ => some ()
  | l :: ls, v :: vs => match Lf.dec l v, Lf.decs ls vs with
    | some x, some y => some (x, y)
    | _, _ => none
  | _ :: _, [] => none

theorem Lf.decs_ok : ∀ {ls : List Leaf} {vs : List Value} {x : HL Leaf.T ls}, Lf.decs ls vs = some x → ls.length ≤ vs.length ∧ vs.take ls.length = HL.vals Leaf.toVal ls x
  | [], vs, x, h => ⟨by simp, by simp [HL.vals]⟩
  | l :: ls, [], x, h => by simp [Lf.decs] at h
  | l :: ls, v :: vs, x, h => by
    simp only [Lf.decs] at h
    split at h
    · rename_i a b ha hb
      cases h
      obtain ⟨h1, h2⟩ := Lf.decs_ok hb
      refine ⟨by simp; exact h1, ?_⟩
      simp only [List.length_cons, List.take_succ_cons, h2, HL.vals, Lf.dec_ok ha]
    · cases h

/-! ### A tree's words on blocks -/

section
variable {L : Hands} {G : Heap} {R : Value → Heap → Prop} {A : Ar} {I : List Nat} {l : Bl}

theorem w_ld (i : Nat) {a : Addr} {b n : Nat} {T : TypeId} {c : List Value} {lf : Leaf} {k : lf.T → Tree} {x : lf.T} (hA : Aw I A) (ok : Ok I G (keys l)) (ha : a = ⟨b, n, none⟩) (hi : l[i]? = some (b, oc T c)) (hx : (c[n]?).bind (Lf.dec lf) = some x)
    (h : wp Try.prog (k x) L (own A l G) R) : wp Try.prog (.ld a lf k) L (own A l G) R := by
  subst ha
  refine wp_ld_of (x := x) ?_ h
  rw [Heap.cell_of (own_get hA ok hi)]
  rw [List.getElem?_toArray]
  cases hc : c[n]? with
  | none => rw [hc] at hx; cases hx
  | some v => rw [hc] at hx; exact congrArg some (Lf.dec_ok hx)

theorem w_ldA (i : Nat) {a : Addr} {b n : Nat} {T : TypeId} {c : List Value} {ls : List Leaf} {k : HL Leaf.T ls → Tree} {x : HL Leaf.T ls} (hA : Aw I A) (ok : Ok I G (keys l)) (ha : a = ⟨b, n, none⟩) (hi : l[i]? = some (b, oc T c)) (hx : Lf.decs ls (c.drop n) = some x)
    (h : wp Try.prog (k x) L (own A l G) R) (hn : decide (n ≤ c.length) = true := by rfl) : wp Try.prog (.ldA a ls k) L (own A l G) R := by
  subst ha
  have hn := of_decide_eq_true hn
  obtain ⟨h1, h2⟩ := Lf.decs_ok hx
  rw [List.length_drop] at h1
  refine wp_ldA_of (x := x) (own_get hA ok hi) (by simp; omega) ?_ h
  rw [← h2]; simp [List.extract_eq_take_drop]

theorem w_st (i : Nat) {a : Addr} {b n : Nat} {T : TypeId} {c : List Value} {v : Value} {k : Tree} (hA : Aw I A) (ok : Ok I G (keys l)) (ha : a = ⟨b, n, none⟩) (hi : l[i]? = some (b, oc T c)) (hs : Value.single v = true) (hn : (decide (n < c.length)) = true)
    (h : wp Try.prog k L (own A (l.set i (b, oc T (c.set n v))) G) R) : wp Try.prog (.st a v k) L (own A l G) R := by
  subst ha
  have hn := of_decide_eq_true hn
  refine wp_st_of (u := c[n]) (own_get hA ok hi) (by simp [hn]) hs ?_
  rw [own_set hA ok _ hi]
  have : (c.toArray.setIfInBounds n v) = (c.set n v).toArray := by simp
  rw [this]; exact h

def setAll (c : List Value) : Nat → List Value → List Value
  | _, [] => c
  | n, v :: l => setAll (c.set n v) (n + 1) l

theorem setAll_put (vs : List Value) : ∀ (c : List Value) (n : Nat), putAll c.toArray n vs = (setAll c n vs).toArray := by
  induction vs with
  | nil => intro c n; rfl
  | cons v vs ih => intro c n; simp only [putAll, setAll]; rw [← ih]; simp

theorem w_stA (i : Nat) {a : Addr} {b n : Nat} {T : TypeId} {c : List Value} {vs : List Value} {k : Tree} (hA : Aw I A) (ok : Ok I G (keys l)) (ha : a = ⟨b, n, none⟩) (hi : l[i]? = some (b, oc T c)) (hs : vs.all Value.single = true) (hn : (decide (n + vs.length ≤ c.length)) = true)
    (h : wp Try.prog k L (own A (l.set i (b, oc T (setAll c n vs))) G) R) : wp Try.prog (.stA a vs k) L (own A l G) R := by
  subst ha
  have hn := of_decide_eq_true hn
  refine wp_stA_of (own_get hA ok hi) (by simpa using hn) (fun v hv => List.all_eq_true.1 hs v hv) ?_
  rw [own_set hA ok _ hi, setAll_put]; exact h

theorem w_newP {c : List Value} {T : TypeId} {k : Addr → Tree} (hA : Aw I A) (ok : Ok I G (keys l)) (h : ∀ b, Ok I G (keys ((b, oc T c) :: l)) → wp Try.prog (k ⟨b, 0, none⟩) L (own A ((b, oc T c) :: l) G) R) :
    wp Try.prog (.newP (.cells c.toArray T) k) L (own A l G) R := by
  refine wp_newP fun b hb => ?_
  obtain ⟨h1, h2⟩ := own_new hA ok hb (oc T c)
  show wp Try.prog (k ⟨b, 0, none⟩) L ((own A l G).set b (oc T c)) R
  rw [h2]; exact h b h1

theorem w_newS {c : List Value} {T : TypeId} {n : Nat} {k : Sl → Tree} (hA : Aw I A) (ok : Ok I G (keys l)) (h : ∀ b, Ok I G (keys ((b, oc T c) :: l)) → wp Try.prog (k ⟨some ⟨b, 0, none⟩, n, n⟩) L (own A ((b, oc T c) :: l) G) R) :
    wp Try.prog (.newS (.cells c.toArray T) n k) L (own A l G) R := by
  refine wp_newS fun b hb => ?_
  obtain ⟨h1, h2⟩ := own_new hA ok hb (oc T c)
  show wp Try.prog (k ⟨some ⟨b, 0, none⟩, n, n⟩) L ((own A l G).set b (oc T c)) R
  rw [h2]; exact h b h1

theorem w_newM {k : Option Nat → Tree} (hA : Aw I A) (ok : Ok I G (keys l)) (h : ∀ b, Ok I G (keys ((b, .map #[] 0) :: l)) → wp Try.prog (k (some b)) L (own A ((b, .map #[] 0) :: l) G) R) :
    wp Try.prog (.newM k) L (own A l G) R := by
  refine wp_newM fun b hb => ?_
  obtain ⟨h1, h2⟩ := own_new hA ok hb (.map #[] 0)
  rw [h2]; exact h b h1

theorem w_det {f : FuncId} {args : List Value} {sh : Sh} {k : sh.T → Tree} {x : sh.T} {A' : Ar} (h : Det Try.prog f args (A.put (putL l G)) (sh.toVal x) (A'.put (putL l G))) (hk : wp Try.prog (k x) L (own A' l G) R) : wp Try.prog (.call f args sh k) L (own A l G) R := wp_call_det h hk

theorem w_ck (i : Nat) {a : Addr} {b n : Nat} {T : TypeId} {c : List Value} {v : Value} {t : Tree} (hA : Aw I A) (ok : Ok I G (keys l)) (ha : a = ⟨b, n, none⟩) (hi : l[i]? = some (b, oc T c)) (hx : c[n]? = some v) (h : wp Try.prog t L (own A l G) R) : wp Try.prog (.check (ldS a) v t) L (own A l G) R := by
  subst ha
  refine chk_cell ?_ h
  rw [Heap.cell_of (own_get hA ok hi), List.getElem?_toArray]; exact hx

theorem w_ckn {a : Addr} {t : TypeId} {v : Value} {s : Tree} (hv : v = .pointer (some a)) (h : wp Try.prog s L (own A l G) R) : wp Try.prog (.check (opS Try.prog (.nilCheck (.tmp 0)) t [.pointer (some a)]) v s) L (own A l G) R := by
  subst hv; exact check_val (by rfl) h

theorem w_ret (is : List Nat) {v : Value} {l' : Bl} (ok : Ok I G (keys l)) (h : pick l is = some l') (nd : is.Nodup) (hR : Ok I G (keys l') → R v (own A l' G)) : wp Try.prog (.ret v) L (own A l G) R := ⟨own A l' G, own_pick is ok h nd, hR (ok.pick is h nd)⟩
end
end Go.Proofs.Ytgnifhkjpekkdaa
