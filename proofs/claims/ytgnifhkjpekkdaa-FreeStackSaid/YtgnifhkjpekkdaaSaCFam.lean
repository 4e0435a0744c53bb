import Derived.Test.YtgnifhkjpekkdaaSaCLaw
set_option linter.unusedVariables false
set_option maxRecDepth 20000
namespace Go.Proofs.Ytgnifhkjpekkdaa
open Go Go.Fw

def slV (s : Sl) : Value := .slice s.a s.len s.cap
def sl0 : Sl := ⟨none, 0, 0⟩

/-- Several slices of numbers, each in a block of its own. -/
structure Fam (tl : Bl) (sl : Nat → Sl) (xs : Nat → List Int) : Prop where
  of : ∀ i, SlOf tl ty_int eI (sl i) (xs i)
  sep : ∀ i j, i ≠ j → ∀ a, (sl i).a = some a → (sl j).a ≠ some a

def updS {α : Type} (f : Nat → α) (i : Nat) (v : α) : Nat → α := fun j => if j = i then v else f j
theorem updS_same {α : Type} (f : Nat → α) (i : Nat) (v : α) : updS f i v i = v := if_pos rfl
theorem updS_ne {α : Type} (f : Nat → α) {i j : Nat} (v : α) (h : j ≠ i) : updS f i v j = f j := if_neg h

theorem SlOf.mem {α : Type} {l : Bl} {e : TypeId} {E : Enc α} {s : Sl} {xs : List α} (h : SlOf l e E s xs) {a : Addr} (ha : s.a = some a) : a.block ∈ keys l ∧ a = ⟨a.block, 0, none⟩ := by
  rcases h with ⟨rfl, _⟩ | ⟨b, rest, r, rfl, _, h3⟩
  · cases ha
  · cases ha; exact ⟨List.mem_map.2 ⟨_, h3, rfl⟩, rfl⟩

theorem Fam.nil (tl : Bl) : Fam tl (fun _ => sl0) (fun _ => []) := ⟨fun _ => .inl ⟨rfl, rfl⟩, fun _ _ _ a h => by cases h⟩

/-- What an append leaves of other rows. -/
structure Apd (tl : Bl) (s : Sl) (tl' : Bl) (s' : Sl) : Prop where
  keep : ∀ b o, (b, o) ∈ tl → (∀ a, s.a = some a → a.block ≠ b) → (b, o) ∈ tl'
  at' : s'.a = s.a ∨ ∀ a, s'.a = some a → a.block ∉ keys tl

theorem App.apd {tl tl' : Bl} {s s' : Sl} (h : App tl s tl' s') : Apd tl s tl' s' := by
  cases h with
  | same h1 h2 => subst h1; subst h2; exact ⟨fun b o h _ => h, .inl rfl⟩
  | inpl b o h1 h2 h3 h4 => subst h3; exact ⟨fun c p h k => mem_bset_ne h fun e => k _ h1 e.symm, .inl h2⟩
  | new b o h1 h2 h3 => subst h2; exact ⟨fun c p h _ => List.mem_cons_of_mem _ h, .inr fun a ha => by rw [h1] at ha; cases ha; exact h3⟩
theorem Apd.mono {tl tl' tl2 : Bl} {s s' : Sl} (h : Apd tl s tl' s') (hm : ∀ p, p ∈ tl' → p ∈ tl2) : Apd tl s tl2 s' := ⟨fun b o h1 h2 => hm _ (h.keep b o h1 h2), h.at'⟩

theorem SlOf.other {α : Type} {tl tl' : Bl} {e : TypeId} {E : Enc α} {s s' t : Sl} {xs : List α} (h : SlOf tl e E t xs) (ap : Apd tl s tl' s') (hne : ∀ a, t.a = some a → s.a ≠ some a) (hz : ∀ a, s.a = some a → a = ⟨a.block, 0, none⟩) : SlOf tl' e E t xs := by
  rcases h with h | ⟨b, rest, r, rfl, h2, h3⟩
  · exact .inl h
  · refine .inr ⟨b, rest, r, rfl, h2, ap.keep _ _ h3 fun a ha e => hne ⟨b, 0, none⟩ rfl ?_⟩
    rw [ha, hz a ha, e]

/-- One of them is longer. -/
theorem Fam.app {tl tl' : Bl} {sl : Nat → Sl} {xs : Nat → List Int} (F : Fam tl sl xs) {i : Nat} {s' : Sl} {ys : List Int} (hs : SlOf tl' ty_int eI s' ys) (ap : Apd tl (sl i) tl' s') : Fam tl' (updS sl i s') (updS xs i ys) := by
  have fr : ∀ j a, j ≠ i → s'.a = some a → (sl j).a ≠ some a := fun j a hj ha e => by
    rcases ap.at' with h | h
    · rw [h] at ha; exact F.sep i j (fun e => hj e.symm) a ha e
    · exact h a ha ((F.of j).mem e).1
  refine ⟨fun j => ?_, fun j k hn a ha => ?_⟩
  · unfold updS; split
    · exact hs
    · rename_i h
      exact (F.of j).other ap (fun a ha => F.sep j i h a ha) fun a ha => ((F.of i).mem ha).2
  · unfold updS at ha ⊢
    split at ha
    · rw [if_neg (by omega)]; exact fr k a (by omega) ha
    · split
      · exact fun e => fr j a (by omega) e ha
      · exact F.sep j k hn a ha

/-- One of them is shorter. -/
theorem Fam.take {tl : Bl} {sl : Nat → Sl} {xs : Nat → List Int} (F : Fam tl sl xs) (i : Nat) {n : Nat} (hn : n ≤ (xs i).length) : Fam tl (updS sl i ⟨(sl i).a, n, (sl i).cap⟩) (updS xs i ((xs i).take n)) := by
  refine ⟨fun j => ?_, fun j k hn a ha => ?_⟩
  · unfold updS; split
    · exact (F.of i).take hn
    · exact F.of j
  · unfold updS at ha ⊢
    split at ha
    · rename_i hj; rw [if_neg (by omega)]; exact F.sep i k (by omega) a ha
    · split
      · rename_i hk; exact F.sep j i (by omega) a ha
      · exact F.sep j k hn a ha

theorem Fam.mono {tl tl' : Bl} {sl : Nat → Sl} {xs : Nat → List Int} (F : Fam tl sl xs) (h : ∀ p, p ∈ tl → p ∈ tl') : Fam tl' sl xs := ⟨fun i => (F.of i).mono h, F.sep⟩

section
variable {L : Hands} {R : Value → Heap → Prop} {A : Ar} {I : List Nat} {l : Bl} {G : Heap}

/-- The upper end of a slice of numbers. -/
theorem w_cut {s : Sl} {n : Int} {u : TypeId} {k : Sl → Tree} (h0 : 0 ≤ n) (h1 : n ≤ (s.cap : Int)) {H : Heap} (h : wp Try.prog (k ⟨s.a, n.toNat, s.cap⟩) L H R) :
    wp Try.prog (.look (opS Try.prog (.slice ty_s_int (.tmp 0) none (some (.tmp 1)) none) u [.slice s.a s.len s.cap, .int .i64 n]) (.one (.leaf .slice)) k) L H R :=
  look_val (x := ⟨s.a, n.toNat, s.cap⟩) (opS_sliceHi (e := ty_int) rfl rfl rfl h0 h1) h

/-- One number more. -/
theorem w_app1 {s : Sl} {xs : List Int} {v : Int} {k : Sl → Tree} {pre tl : Bl} (hA : Aw I A) (ok : Ok I G (keys (pre ++ tl))) (hs : SlOf tl ty_int eI s xs) (hm : xs.length ≤ 1000000)
    (h : ∀ s' tl', SlOf tl' ty_int eI s' (xs ++ [v]) → Ok I G (keys (pre ++ tl')) → Apd tl s tl' s' → wp Try.prog (k s') L (own A (pre ++ tl') G) R) :
    wp Try.prog (.newS (.cells #[.int .i64 v] ty_int) 1 fun x => .act (opS Try.prog (.call { callee := .builtin .append, args := #[(.tmp 0), (.tmp 1)], argTypes := #[ty_s_int, ty_s_int] }) ty_s_int [(.slice s.a s.len s.cap), (.slice x.a x.len x.cap)]) (.one (.leaf .slice)) k) L (own A (pre ++ tl) G) R := by
  refine w_newS (c := [.int .i64 v]) hA ok fun q ok1 => ?_
  have ok' : Ok I G (keys (((q, oc ty_int [.int .i64 v]) :: pre) ++ tl)) := ok1
  show wp Try.prog _ L (own A (((q, oc ty_int [.int .i64 v]) :: pre) ++ tl) G) R
  refine w_appT (E := eI) elI (ys := [v]) (t := ⟨some ⟨q, 0, none⟩, 1, 1⟩) hA ok' hs ?_ rfl (by simp; omega) fun s' tl' hs' ok2 ap => ?_
  · exact cell_row hA ok' List.mem_cons_self 0 rfl
  · obtain ⟨m3, m4⟩ := own_mid (A := A) ok2
    show wp Try.prog _ L (own A ((q, oc ty_int [.int .i64 v]) :: (pre ++ tl')) G) R
    rw [m3]
    exact h s' _ (hs'.mono fun p hp => List.mem_cons_of_mem _ hp) m4 (ap.apd.mono fun p hp => List.mem_cons_of_mem _ hp)
end
end Go.Proofs.Ytgnifhkjpekkdaa
