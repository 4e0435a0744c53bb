/- Texts of this claim, one behind the other. -/
import Derived.Test.YtjnacjniiogjcaaGreatCWThiefMixes0
set_option linter.unusedSimpArgs false
set_option linter.unusedVariables false
set_option maxRecDepth 20000
namespace Go.Proofs.YtjnacjniiogjcaaGreat
open Go Go.Fw
structure Ok0 (G : Heap) (ks : List Nat) : Prop where
  nd : ks.Nodup
  no : ∀ b ∈ ks, G b = none
section
variable {L : aZ} {R : Value → Heap → Prop} {l : Bl} {G : Heap}
theorem LY (ok : Ok0 G (keys l)) {b : Nat} (h : dO l G b = none) (o : Obj) : Ok0 G (keys ((b, o) :: l)) := by
  obtain ⟨h1, h2⟩ := nJ h
  refine ⟨?_, ?_⟩
  · simp only [keys, List.map_cons, List.nodup_cons]; exact ⟨h1, ok.nd⟩
  · intro c hc
    simp only [keys, List.map_cons, List.mem_cons] at hc
    rcases hc with rfl | hc
    · exact h2
    · exact ok.no c hc
theorem tB {c : List Value} {T : TypeId} {k : Addr → Tree} (ok : Ok0 G (keys l)) (h : ∀ b, Ok0 G (keys ((b, oc T c) :: l)) → wp Tryz.prog (k ⟨b, 0, none⟩) L (dO ((b, oc T c) :: l) G) R) :
    wp Tryz.prog (.dk (.cells c.toArray T) k) L (dO l G) R := dI fun b hb => h b (LY ok hb _)
theorem FZ (i : Nat) {a : Addr} {b n : Nat} {T : TypeId} {c : List Value} {vs : List Value} {k : Tree} (ok : Ok0 G (keys l)) (ha : a = ⟨b, n, none⟩) (hi : l[i]? = some (b, oc T c)) (hs : vs.all Value.single = true) (hn : (decide (n + vs.length ≤ c.length)) = true)
    (h : wp Tryz.prog k L (dO (l.set i (b, oc T (setAll c n vs))) G) R) : wp Tryz.prog (.stA a vs k) L (dO l G) R := by
  subst ha
  have hn := of_decide_eq_true hn
  refine gS (gE G ok.nd hi) (by simpa using hn) (fun v hv => List.all_eq_true.1 hs v hv) ?_
  rw [wA G ok.nd hi, zU]; exact h
theorem Dl (i : Nat) {a : Addr} {b n : Nat} {T : TypeId} {c : List Value} {ls : List iH} {k : HL iH.T ls → Tree} {x : HL iH.T ls} (ok : Ok0 G (keys l)) (ha : a = ⟨b, n, none⟩) (hi : l[i]? = some (b, oc T c)) (hx : Lf.decs ls (c.drop n) = some x)
    (h : wp Tryz.prog (k x) L (dO l G) R) (hn : decide (n ≤ c.length) = true := by rfl) : wp Tryz.prog (.ldA a ls k) L (dO l G) R := by
  subst ha
  have hn := of_decide_eq_true hn
  obtain ⟨h1, h2⟩ := Lf.BR hx
  rw [List.length_drop] at h1
  refine yt (x := x) (gE G ok.nd hi) (by simp; omega) ?_ h
  rw [← h2]; simp [List.extract_eq_take_drop]
theorem O6 (i : Nat) {a : Addr} {b n : Nat} {T : TypeId} {c : List Value} {lf : iH} {k : lf.T → Tree} {x : lf.T} (ok : Ok0 G (keys l)) (ha : a = ⟨b, n, none⟩) (hi : l[i]? = some (b, oc T c)) (hx : (c[n]?).bind (Lf.dec lf) = some x)
    (h : wp Tryz.prog (k x) L (dO l G) R) : wp Tryz.prog (.ld a lf k) L (dO l G) R := by
  subst ha
  refine bL (x := x) ?_ h
  rw [Heap.cell_of (gE G ok.nd hi), List.getElem?_toArray]
  cases hc : c[n]? with
  | none => rw [hc] at hx; cases hx
  | some v => rw [hc] at hx; exact congrArg some (Lf.Fp hx)
theorem NX {n m : Int} {f : Bool} {k : Option Addr → Tree} (ok : Ok0 G (keys l)) (h0 : 0 ≤ n ∧ n ≤ 65536) (h1 : 0 ≤ m ∧ m ≤ 65536)
    (h : ∀ A : Ar, A.made n.toNat m.toNat f → Aw A.ids A → (∀ x ∈ A.ids, G x = none) → Ok A.ids G (keys l) → wp Tryz.prog (k (aI A.ids)) L (own A l G) R) :
    wp Tryz.prog (.call pz [.int .i64 n, .int .i64 m, .bool f] (.one (.leaf .ptr)) k) L (dO l G) R := by
  refine aR (JW n m f _ h0 h1) ?_
  rintro v K ⟨A, hm, hi, rfl, rfl⟩
  refine ⟨aI A.ids, rfl, ?_⟩
  refine h A hm ⟨Li hm (by omega) (by omega), rfl⟩ (fun x hx => (nJ (hi x hx)).2) ⟨ok.nd, fun b hb hx => ?_, ok.no⟩
  exact (nJ (hi b hx)).1 hb
theorem B7 {A : Ar} {I : List Nat} (hA : Aw I A) (ok : Ok I G (keys l)) (hI : ∀ x ∈ I, G x = none) : G.le (own A l G) := by
  intro b o hb
  unfold own
  rw [Ar.jI, qR]
  · exact hb
  · intro h; rw [ok.no b h] at hb; cases hb
  · intro h; rw [hA.ids] at h; rw [hI b h] at hb; cases hb
def l3 {α : Type} (n : Nat) (f : Nat → α) : List α := (List.range n).map f
theorem wK {α : Type} (n : Nat) (f : Nat → α) : (l3 n f).length = n := by simp [l3]
theorem ue {α : Type} {n : Nat} {f : Nat → α} {i : Nat} (h : i < n) : (l3 n f)[i]? = some (f i) := by simp [l3, h]
theorem I8 {α : Type} {n : Nat} {f : Nat → α} {i : Nat} {v : α} : (l3 n f).set i v = l3 n fun j => if j = i then v else f j := by
  apply List.ext_getElem?
  intro j
  rw [List.getElem?_set]
  by_cases hj : j < n
  · split
    · rename_i e; subst e; rw [wK, if_pos hj, ue hj, if_pos rfl]
    · rename_i e; rw [ue hj, ue hj, if_neg (fun h => e h.symm)]
  · have : ∀ g : Nat → α, (l3 n g)[j]? = none := fun g => by simp [l3]; omega
    rw [this, this]
    split
    · rename_i e; rw [if_neg (by rw [wK]; omega)]
    · rfl
theorem Nx {A : Ar} {t e u : TypeId} {n b o : Nat} {i : Int} {info : TypeInfo} {k : Addr → Tree} (hu : Tryz.prog.underlying t = some (.array n e)) (hi : Tryz.prog.info? e = some info) (hs : info.size = 1) (h0 : 0 ≤ i) (h1 : i < n) {H : Heap}
    (h : wp Tryz.prog (k ⟨b, o + i.toNat, none⟩) L H R) : wp Tryz.prog (.look (opS Tryz.prog (.indexAddr t (.tmp 0) (.tmp 1)) u [.pointer (some ⟨b, o, none⟩), .int .i64 i]) (.one (.leaf .addr)) k) L H R :=
  aB (x := ⟨b, o + i.toNat, none⟩) (by
    rw [LG hu hi h0 h1, Addr.gF, hs, Nat.mul_one]) h
theorem C3 {t e u : TypeId} {len cap b o : Nat} {i : Int} {info : TypeInfo} {k : Addr → Tree} (hu : Tryz.prog.underlying t = some (.slice e)) (hi : Tryz.prog.info? e = some info) (hs : info.size = 1) (h0 : 0 ≤ i) (h1 : i < (len : Int)) {H : Heap}
    (h : wp Tryz.prog (k ⟨b, o + i.toNat, none⟩) L H R) : wp Tryz.prog (.look (opS Tryz.prog (.indexAddr t (.tmp 0) (.tmp 1)) u [.slice (some ⟨b, o, none⟩) len cap, .int .i64 i]) (.one (.leaf .addr)) k) L H R :=
  aB (x := ⟨b, o + i.toNat, none⟩) (by
    rw [uv hu hi h0 h1, Addr.gF, hs, Nat.mul_one]) h
theorem eQ {A : Ar} {I : List Nat} {a : Addr} {b n : Nat} {T : TypeId} {c : List Value} {lf : iH} {k : lf.T → Tree} {x : lf.T} (hA : Aw I A) (ok : Ok I G (keys l)) (ha : a = ⟨b, n, none⟩) (hi : (b, oc T c) ∈ l) (hx : (c[n]?).bind (Lf.dec lf) = some x)
    (h : wp Tryz.prog (k x) L (own A l G) R) : wp Tryz.prog (.ld a lf k) L (own A l G) R := by
  obtain ⟨i, hi⟩ := vn hi
  exact aS i hA ok ha hi hx h
theorem NR {A : Ar} {I : List Nat} {s : Sl} {xs : List Int} {i : Int} {u : TypeId} {k : Int → Tree} (hA : Aw I A) (ok : Ok I G (keys l)) (hs : dH l aP eI s xs) (h0 : 0 ≤ i) (h1 : i < xs.length) (h : wp Tryz.prog (k (xs.getD i.toNat 0)) L (own A l G) R) :
    wp Tryz.prog (.look (opS Tryz.prog (.indexAddr bK (.tmp 0) (.tmp 1)) u [.slice s.a s.len s.cap, .int .i64 i]) (.one (.leaf .addr)) fun x => .ld x (.int .i64) k) L (own A l G) R := by
  rcases hs with ⟨rfl, rfl⟩ | ⟨b, rest, r, rfl, h2, h3⟩
  · have : (([] : List Int).length : Int) = 0 := rfl
    omega
  · refine C3 (e := aP) rfl rfl rfl h0 h1 ?_
    refine eQ (x := xs.getD i.toNat 0) hA ok rfl h3 ?_ h
    have hl : i.toNat < xs.length := by omega
    rw [Nat.zero_add, It, List.getElem?_append_left (by simpa using hl), List.getElem?_map, List.getElem?_eq_getElem hl]
    show some _ = _
    rw [List.getD_eq_getElem?_getD, List.getElem?_eq_getElem hl]; rfl
theorem F4 {H : Heap} {v n : Int} {k : Int → Tree} (hn : 0 < n) (hn2 : n ≤ 4611686018427387904) (h : wp Tryz.prog (k (v % n)) L H R) : wp Tryz.prog (.cU gf [.int .i64 v, .int .i64 n] (.one (.leaf (.int .i64))) k) L H R := bc (x := v % n) (HH v n hn hn2 _) h
theorem MY {H : Heap} {w m : Int} {k : HL Sh1.T [(.agg [(.int .i64), (.int .i64), (.int .i64), (.int .i64), (.int .i64)]), (.leaf (.int .i64))] → Tree} (b1 : 0 ≤ w ∧ w ≤ 100000) (b2 : 0 ≤ m ∧ m ≤ 100000)
    (h : wp Tryz.prog (k (((gX w m).work, (gX w m).heads, (gX w m).links, (gX w m).gens, (gX w m).carved, ()), 4 * w + 2 * ((m + 7) / 8) + 1, ())) L H R) :
    wp Tryz.prog (.call sK [.int .i64 w, .int .i64 m] (.tup [(.agg [(.int .i64), (.int .i64), (.int .i64), (.int .i64), (.int .i64)]), (.leaf (.int .i64))]) k) L H R := by
  refine ax (x := (((gX w m).work, (gX w m).heads, (gX w m).links, (gX w m).gens, (gX w m).carved, ()), 4 * w + 2 * ((m + 7) / 8) + 1, ())) (IB w m w m ?_ ?_ b1 b2 H) h
  · unfold imax; rw [if_neg (by omega)]
  · unfold imax; rw [if_neg (by omega)]
end
def slV (s : Sl) : Value := .slice s.a s.len s.cap
def sl0 : Sl := ⟨none, 0, 0⟩
structure Apd (tl : Bl) (s : Sl) (tl' : Bl) (s' : Sl) : Prop where
  JP : ∀ b o, (b, o) ∈ tl → (∀ a, s.a = some a → a.block ≠ b) → (b, o) ∈ tl'
  at' : s'.a = s.a ∨ ∀ a, s'.a = some a → a.block ∉ keys tl
theorem App.apd {tl tl' : Bl} {s s' : Sl} (h : App tl s tl' s') : Apd tl s tl' s' := by
  cases h with
  | same h1 h2 => subst h1; subst h2; exact ⟨fun b o h _ => h, .inl rfl⟩
  | inpl b o h1 h2 h3 h4 => subst h3; exact ⟨fun c p h k => Da h fun e => k _ h1 e.symm, .inl h2⟩
  | new b o h1 h2 h3 => subst h2; exact ⟨fun c p h _ => List.mem_cons_of_mem _ h, .inr fun a ha => by rw [h1] at ha; cases ha; exact h3⟩
theorem Apd.mono {tl tl' tl2 : Bl} {s s' : Sl} (h : Apd tl s tl' s') (hm : ∀ p, p ∈ tl' → p ∈ tl2) : Apd tl s tl2 s' := ⟨fun b o h1 h2 => hm _ (h.JP b o h1 h2), h.at'⟩
section
variable {L : aZ} {R : Value → Heap → Prop} {A : Ar} {I : List Nat} {l : Bl} {G : Heap}
theorem JM {s : Sl} {xs : List Int} {v : Int} {k : Sl → Tree} {pre tl : Bl} (hA : Aw I A) (ok : Ok I G (keys (pre ++ tl))) (hs : dH tl aP eI s xs) (hm : xs.length ≤ 1000000)
    (h : ∀ s' tl', dH tl' aP eI s' (xs ++ [v]) → Ok I G (keys (pre ++ tl')) → Apd tl s tl' s' → wp Tryz.prog (k s') L (own A (pre ++ tl') G) R) :
    wp Tryz.prog (.qB (.cells #[.int .i64 v] aP) 1 fun x => .act (opS Tryz.prog (.call { callee := .builtin .append, args := #[(.tmp 0), (.tmp 1)], argTypes := #[bK, bK] }) bK [(.slice s.a s.len s.cap), (.slice x.a x.len x.cap)]) (.one (.leaf .slice)) k) L (own A (pre ++ tl) G) R := by
  refine l6 (c := [.int .i64 v]) hA ok fun q ok1 => ?_
  have ok' : Ok I G (keys (((q, oc aP [.int .i64 v]) :: pre) ++ tl)) := ok1
  show wp Tryz.prog _ L (own A (((q, oc aP [.int .i64 v]) :: pre) ++ tl) G) R
  refine Au (E := eI) elI (ys := [v]) (t := ⟨some ⟨q, 0, none⟩, 1, 1⟩) hA ok' hs ?_ rfl (by simp; omega) fun s' tl' hs' ok2 ap => ?_
  · exact jz hA ok' List.mem_cons_self 0 rfl
  · obtain ⟨m3, m4⟩ := zA (A := A) ok2
    show wp Tryz.prog _ L (own A ((q, oc aP [.int .i64 v]) :: (pre ++ tl')) G) R
    rw [m3]
    exact h s' _ (hs'.mono fun p hp => List.mem_cons_of_mem _ hp) m4 (ap.apd.mono fun p hp => List.mem_cons_of_mem _ hp)
end
theorem AD {sT u : TypeId} (x : Value) : opS Tryz.prog (.call { callee := .builtin .append, args := #[(.const (.slice none 0 0)), (.tmp 0)], argTypes := #[sT, sT] }) u [x] =
    opS Tryz.prog (.call { callee := .builtin .append, args := #[(.tmp 0), (.tmp 1)], argTypes := #[sT, sT] }) u [.slice none 0 0, x] := by
  kernel_rfl
def gH (s : Sl) (n : Nat) : Sl := ⟨if s.cap = n then s.a else s.a.map (·.add n), s.len - n, s.cap - n⟩
section
variable {L : aZ} {R : Value → Heap → Prop} {A : Ar} {I : List Nat} {l : Bl} {G : Heap}
theorem KH {s : Sl} {n : Int} {u : TypeId} {k : Sl → Tree} (h0 : 0 ≤ n) (h1 : n ≤ (s.len : Int)) {H : Heap} (h : wp Tryz.prog (k (gH s n.toNat)) L H R) :
    wp Tryz.prog (.look (opS Tryz.prog (.slice bK (.tmp 0) (some (.tmp 1)) none none) u [.slice s.a s.len s.cap, .int .i64 n]) (.one (.leaf .slice)) k) L H R :=
  aB (x := gH s n.toNat) (pv (e := aP) rfl rfl rfl h0 h1) h
end
structure sB (M J : Type) where
  f : FuncId
  addr : J → Nat
  bl : M → J → Bl
  rep : M → J → Prop
  inv : M → Ar → Prop
  step : M → Ar → M × Ar
  fin : M → Bool
def sB.ok {M J : Type} (X : sB M J) : Prop := ∀ (I : List Nat) (A : Ar) (G : Heap) (m : M) (j : J), Aw I A → Ok I G (keys (X.bl m j)) → X.rep m j → X.inv m A →
  cB Tryz.prog X.f #[.pointer (some ⟨X.addr j, 0, none⟩), .pointer (aI I)] (own A (X.bl m j) G) fun v K => ∃ j', v = .bool (X.fin (X.step m A).1) ∧ K = own (X.step m A).2 (X.bl (X.step m A).1 j') G ∧ X.addr j' = X.addr j ∧
    Ok I G (keys (X.bl (X.step m A).1 j')) ∧ X.rep (X.step m A).1 j' ∧ Aw I (X.step m A).2
inductive sB.gh {M J : Type} (X : sB M J) : Nat → M → Ar → M → Ar → Prop
  | one {x : M} {D : Ar} {x1 : M} {D1 : Ar} : X.inv x D → X.step x D = (x1, D1) → D1.aD ≤ w64 (D.aD + 1) → X.fin x1 = true → gh X 1 x D x1 D1
  | more {n : Nat} {x : M} {D : Ar} {x1 : M} {D1 : Ar} {x' : M} {D' : Ar} : X.inv x D → X.step x D = (x1, D1) → D1.aD ≤ w64 (D.aD + 1) → X.fin x1 = false → gh X n x1 D1 x' D' → gh X (n + 1) x D x' D'
def sB.vX {M J : Type} (X : sB M J) (t : TypeId) : Prop := ∀ (q : Nat) (p : Option Addr), opS Tryz.prog (.call { callee := .invoke (.tmp 0) "Step", args := #[(.tmp 1)], argTypes := #[aK] }) aO [(.iface t (.pointer (some ⟨q, 0, none⟩))), (.pointer p)] =
    .pure (.enter X.f [.pointer (some ⟨q, 0, none⟩), .pointer p].toArray)
def ir {α : Type} (l : Bl) (e : TypeId) (E : Enc α) (s : Sl) (xs : List α) : Prop :=
  (s = ⟨none, 0, 0⟩ ∧ xs = []) ∨ ∃ (b : Nat) (pre rest : List Value) (r : Nat), s = ⟨some ⟨b, pre.length, none⟩, xs.length, xs.length + r⟩ ∧ r * E.sz ≤ rest.length ∧ (b, oc e (pre ++ E.all xs ++ rest)) ∈ l
theorem dH.at' {α : Type} {l : Bl} {e : TypeId} {E : Enc α} {s : Sl} {xs : List α} (h : dH l e E s xs) : ir l e E s xs := by
  rcases h with h | ⟨b, rest, r, h1, h2, h3⟩
  · exact .inl h
  · exact .inr ⟨b, [], rest, r, h1, by omega, h3⟩
theorem ir.len {α : Type} {l : Bl} {e : TypeId} {E : Enc α} {s : Sl} {xs : List α} (h : ir l e E s xs) : s.len = xs.length := by
  rcases h with ⟨rfl, rfl⟩ | ⟨b, pre, rest, r, rfl, _⟩ <;> rfl
theorem ir.mono {α : Type} {l l' : Bl} {e : TypeId} {E : Enc α} {s : Sl} {xs : List α} (h : ir l e E s xs) (hm : ∀ p, p ∈ l → p ∈ l') : ir l' e E s xs := by
  rcases h with h | ⟨b, pre, rest, r, h1, h2, h3⟩
  · exact .inl h
  · exact .inr ⟨b, pre, rest, r, h1, h2, hm _ h3⟩
def eP : Enc Nat := ⟨1, fun q => [.pointer (some ⟨q, 0, none⟩)], fun _ => rfl, fun x v h => by simp at h; subst h; rfl⟩
theorem MP (xs : List Nat) : eP.all xs = xs.map fun q => Value.pointer (some ⟨q, 0, none⟩) := by
  induction xs with
  | nil => rfl
  | cons x xs ih => show Value.pointer (some ⟨x, 0, none⟩) :: eP.all xs = _; rw [ih]; rfl
theorem ir.tail {l : Bl} {e : TypeId} {s : Sl} {x : Nat} {xs : List Nat} (h : ir l e eP s (x :: xs)) : ir l e eP (gH s 1) xs ∧ (1 : Int) ≤ (s.len : Int) := by
  rcases h with ⟨_, h⟩ | ⟨b, pre, rest, r, rfl, h2, h3⟩
  · cases h
  · refine ⟨?_, by show (1 : Int) ≤ ((xs.length + 1 : Nat) : Int); omega⟩
    unfold gH
    dsimp only
    by_cases e : (x :: xs).length + r = 1
    · rw [if_pos e]
      have hx : xs = [] := by simp only [List.length_cons] at e; exact List.eq_nil_of_length_eq_zero (by omega)
      have hr : r = 0 := by simp only [List.length_cons] at e; omega
      subst hx; subst hr
      exact .inr ⟨b, pre, eP.all [x] ++ rest, 0, rfl, by omega, by rw [show eP.all ([] : List Nat) = [] from rfl, List.append_nil, ← List.append_assoc]; exact h3⟩
    · rw [if_neg e]
      refine .inr ⟨b, pre ++ [.pointer (some ⟨x, 0, none⟩)], rest, r, ?_, h2, ?_⟩
      · show Sl.mk (some ((Addr.mk b pre.length none).add 1)) _ _ = _
        rw [Addr.gF, List.length_append]
        simp only [List.length_cons, List.length_nil, Sl.mk.injEq, true_and]
        omega
      · have : eP.all (x :: xs) = [.pointer (some ⟨x, 0, none⟩)] ++ eP.all xs := rfl
        rw [this] at h3
        simpa using h3
section
variable {L : aZ} {R : Value → Heap → Prop} {A : Ar} {I : List Nat} {l l' : Bl} {G : Heap}
theorem Heap.le_antisymm {H K : Heap} (h : H.le K) (k : K.le H) : H = K := by
  funext b
  cases hb : H b with
  | some o => exact (h b o hb).symm
  | none =>
    cases kb : K b with
    | none => rfl
    | some o => rw [k b o kb] at hb; cases hb
theorem aN (ok : Ok I G (keys l)) (h : l.Perm l') : own A l G = own A l' G ∧ Ok I G (keys l') := by
  have hk : (keys l').Perm (keys l) := (h.map Prod.fst).symm
  have ok' : Ok I G (keys l') := ok.sub (hk.nodup_iff.2 ok.nd) fun b hb => hk.subset hb
  exact ⟨Heap.le_antisymm (kh ok' ok.nd fun p hp => h.subset hp) (kh ok ok'.nd fun p hp => h.symm.subset hp), ok'⟩
theorem kC (h : l.Perm l') (ok : Ok I G (keys l)) : own A l G = own A l' G ∧ Ok I G (keys l') := aN ok h
theorem M9 {H K : Heap} {a : Option Addr} {cs : List Value} (h : Row H a cs) (hk : H.le K) : Row K a cs := by
  intro i hi
  obtain ⟨a', h1, h2⟩ := h i hi
  refine ⟨a', h1, ?_⟩
  rw [List.getElem?_eq_getElem hi] at h2 ⊢
  unfold Heap.cell? at h2 ⊢
  cases hb : H (a'.add i).block with
  | none => simp [hb] at h2
  | some o => rw [hb] at h2; rw [hk _ o hb]; exact h2
theorem qm {sT e u : TypeId} {α : Type} {E : Enc α} (hE : Cv sT e E.sz) {xs ys : List α} {s t : Sl} {k : Sl → Tree} (pre : Bl) {mid post : Bl} (hA : Aw I A) (ok : Ok I G (keys (pre ++ (mid ++ post)))) (hs : dH mid e E s xs) (ht : Row (own A (pre ++ (mid ++ post)) G) t.a (E.all ys)) (htl : t.len = ys.length) (hm : xs.length + ys.length ≤ 1048576)
    (h : ∀ s' mid', dH mid' e E s' (xs ++ ys) → Ok I G (keys (pre ++ (mid' ++ post))) → wp Tryz.prog (k s') L (own A (pre ++ (mid' ++ post)) G) R) :
    wp Tryz.prog (.act (opS Tryz.prog (.call { callee := .builtin .append, args := #[(.tmp 0), (.tmp 1)], argTypes := #[sT, sT] }) u [(.slice s.a s.len s.cap), (.slice t.a t.len t.cap)]) (.one (.leaf .slice)) k) L (own A (pre ++ (mid ++ post)) G) R := by
  have perm : ∀ m : Bl, (pre ++ (m ++ post)).Perm ((pre ++ post) ++ m) := fun m => by
    rw [List.append_assoc]; exact List.Perm.append_left _ List.perm_append_comm
  obtain ⟨e1, o1⟩ := aN (A := A) ok (perm mid)
  rw [e1] at ht ⊢
  refine Au hE hA o1 hs ht htl hm fun s' mid' hs' ok' _ => ?_
  obtain ⟨e2, o2⟩ := aN (A := A) ok' (perm mid').symm
  rw [e2]
  exact h s' mid' hs' o2
theorem CQ (i : Nat) {V : Type} {enc : V → Value} {c : List (Int × V)} {b : Nat} {kt et t u : TypeId} {x : Int} {inf : TypeInfo} {z : Value} {sh : Sh} {k : sh.T → Tree} {y : sh.T} (hA : Aw I A) (ok : Ok I G (keys l)) (hi : l[i]? = some (b, bJ enc c)) (ht : Tryz.prog.underlying t = some (.map kt et))
    (hk : Tryz.prog.underlying kt = some (.int .i64)) (hin : Tryz.prog.info? et = some inf) (hz : inf.zero = some z) (hy : (match alGet c x with | some v => enc v | none => z) = sh.fq y) (h : wp Tryz.prog (k y) L (own A l G) R) :
    wp Tryz.prog (.look (opS Tryz.prog (.lookup t (.tmp 0) (.tmp 1) false) u [.map (some b), .int .i64 x]) sh k) L (own A l G) R :=
  yn (k6 hA ok hi) ht hk hin hz hy h
theorem CX (i : Nat) {V : Type} {enc : V → Value} {c : List (Int × V)} {b : Nat} {kt et t u : TypeId} {x : Int} {v : V} {k : Unit → Tree} (hA : Aw I A) (ok : Ok I G (keys l)) (hi : l[i]? = some (b, bJ enc c)) (ht : Tryz.prog.underlying t = some (.map kt et))
    (hk : Tryz.prog.underlying kt = some (.int .i64)) (h : wp Tryz.prog (k ()) L (own A (l.set i (b, bJ enc (alPut c x v))) G) R) :
    wp Tryz.prog (.act (opS Tryz.prog (.mapUpdate t (.tmp 0) (.tmp 1) (.tmp 2)) u [.map (some b), .int .i64 x, enc v]) .unit k) L (own A l G) R :=
  wE (k6 hA ok hi) ht hk (by rw [xg hA ok _ hi]; exact h)
theorem Dc {t u : TypeId} (m x : Value) : opS Tryz.prog (.mapUpdate t (.tmp 0) (.tmp 1) (.const (.bool true))) u [m, x] = opS Tryz.prog (.mapUpdate t (.tmp 0) (.tmp 1) (.tmp 2)) u [m, x, .bool true] := by kernel_rfl
theorem Lx (i : Nat) {es : Array MapEntry} {n b : Nat} {t u : TypeId} {d : TypeDesc} {k : Unit → Tree} (hA : Aw I A) (ok : Ok I G (keys l)) (hi : l[i]? = some (b, .map es n)) (ht : Tryz.prog.underlying t = some d) (h : wp Tryz.prog (k ()) L (own A (l.set i (b, .map #[] n)) G) R) :
    wp Tryz.prog (.act (opS Tryz.prog (.call { callee := .builtin .clear, args := #[.tmp 0], argTypes := #[t] }) u [.map (some b)]) .unit k) L (own A l G) R :=
  JL (k6 hA ok hi) ht (by rw [xg hA ok _ hi]; exact h)
end
theorem aT {l l' : Bl} (h : ∀ (c : List (Nat × Obj) → Nat) (d : Nat × Obj → Nat), c [] = 0 → (∀ a l, c (a :: l) = d a + c l) → (∀ a b, c (a ++ b) = c a + c b) → c l = c l') : l.Perm l' := by
  classical
  refine List.perm_iff_count.2 fun a => ?_
  refine h (List.count a) (fun x => List.count a [x]) rfl (fun x l => ?_) fun x y => List.count_append ..
  rw [show x :: l = [x] ++ l from rfl, List.count_append]
theorem JG {L : aZ} {H : Heap} {R : Value → Heap → Prop} {n : Nat} {init : List Value} {body : HL Sh1.T [.leaf .bool, .leaf (.int .i64)] → Tree} (I : Bool → Int → Heap → Prop) (m : Bool → Int → Nat) (x0 : Bool) (x1 : Int) (hi : I x0 x1 H)
    (hstep : ∀ (x0 : Bool) (x1 : Int) H', I x0 x1 H' → wp Tryz.prog (body (x0, x1, ())) (L.set n fun gN H'' => ∃ (y0 : Bool) (y1 : Int), gN = [.bool y0, .int .i64 y1] ∧ I y0 y1 H'' ∧ m y0 y1 < m x0 x1) H' R) (h0 : init = [.bool x0, .int .i64 x1] := by rfl) :
    wp Tryz.prog (.loop n [.leaf .bool, .leaf (.int .i64)] init body) L H R := by
  refine kv (fun x K => I x.1 x.2.1 K) (fun x _ => m x.1 x.2.1) (x0, x1, ()) h0 hi ?_
  rintro ⟨x0, x1, u⟩ K hI
  refine Go.Fw.wp_mono _ (hstep x0 x1 K hI) (fun k gN H'' hk => ?_) (fun _ _ h => h)
  unfold aZ.set at *
  split at hk
  · rename_i e; rw [if_pos e]; obtain ⟨y0, y1, h1, h2, h3⟩ := hk; exact ⟨(y0, y1, ()), h1, h2, h3⟩
  · rename_i e; rw [if_neg e]; exact hk
theorem NL {L : aZ} {H : Heap} {R : Value → Heap → Prop} {n : Nat} {init : List Value} {body : HL Sh1.T [.leaf (.int .i64)] → Tree} (I : Int → Heap → Prop) (m : Int → Nat) (x0 : Int) (hi : I x0 H)
    (hstep : ∀ (x0 : Int) H', I x0 H' → wp Tryz.prog (body (x0, ())) (L.set n fun gN H'' => ∃ (y0 : Int), gN = [.int .i64 y0] ∧ I y0 H'' ∧ m y0 < m x0) H' R) (h0 : init = [.int .i64 x0] := by rfl) :
    wp Tryz.prog (.loop n [.leaf (.int .i64)] init body) L H R := by
  refine kv (fun x K => I x.1 K) (fun x _ => m x.1) (x0, ()) h0 hi ?_
  rintro ⟨x0, u⟩ K hI
  refine Go.Fw.wp_mono _ (hstep x0 K hI) (fun k gN H'' hk => ?_) (fun _ _ h => h)
  unfold aZ.set at *
  split at hk
  · rename_i e; rw [if_pos e]; obtain ⟨y0, h1, h2, h3⟩ := hk; exact ⟨(y0, ()), h1, h2, h3⟩
  · rename_i e; rw [if_neg e]; exact hk
theorem I7 {L : aZ} {H : Heap} {R : Value → Heap → Prop} {n : Nat} {init : List Value} {body : HL Sh1.T [.leaf .slice, .leaf (.int .i64)] → Tree} (I : Sl → Int → Heap → Prop) (m : Sl → Int → Nat) (x0 : Sl) (x1 : Int) (hi : I x0 x1 H)
    (hstep : ∀ (x0 : Sl) (x1 : Int) H', I x0 x1 H' → wp Tryz.prog (body (x0, x1, ())) (L.set n fun gN H'' => ∃ (y0 : Sl) (y1 : Int), gN = [.slice y0.a y0.len y0.cap, .int .i64 y1] ∧ I y0 y1 H'' ∧ m y0 y1 < m x0 x1) H' R) (h0 : init = [.slice x0.a x0.len x0.cap, .int .i64 x1] := by rfl) :
    wp Tryz.prog (.loop n [.leaf .slice, .leaf (.int .i64)] init body) L H R := by
  refine kv (fun x K => I x.1 x.2.1 K) (fun x _ => m x.1 x.2.1) (x0, x1, ()) h0 hi ?_
  rintro ⟨x0, x1, u⟩ K hI
  refine Go.Fw.wp_mono _ (hstep x0 x1 K hI) (fun k gN H'' hk => ?_) (fun _ _ h => h)
  unfold aZ.set at *
  split at hk
  · rename_i e; rw [if_pos e]; obtain ⟨y0, y1, h1, h2, h3⟩ := hk; exact ⟨(y0, y1, ()), h1, h2, h3⟩
  · rename_i e; rw [if_neg e]; exact hk
noncomputable def tK (p0_0 : Int) (p0_1 : Int) (p0_2 : Int) (p0_3 : Int) (p0_4 : Int) (p1 : Int) (p2 : Int) : Tree :=
 .dk (.cells #[(.int .i64 p0_0), (.int .i64 p0_1), (.int .i64 p0_2), (.int .i64 p0_3), (.int .i64 p0_4)] bn) fun x3 =>
 .ldA x3 [(.int .i64), (.int .i64), (.int .i64), (.int .i64), (.int .i64)] fun x8 =>
 .dk (.cells #[(.pointer none), (.int .i64 x8.1), (.int .i64 x8.2.1), (.int .i64 x8.2.2.1), (.int .i64 x8.2.2.2.1), (.int .i64 x8.2.2.2.2.1), (.int .i64 p1), (.int .i64 p2), (.int .i64 0), (.int .i64 0), (.int .i64 0), (.int .i64 0)] j5) fun x12 =>
 .cU ft [(.int .i64 p2)] (.one (.leaf (.int .i64))) fun x14 =>
 bif ((x14 : Int) == 0) then (
 lkN (some x12) fun x17 =>
 .st (x17.add 9) (.int .i64 4) <|
 .ret (.pointer (some x12)))
 else (
 .ldA x3 [(.int .i64), (.int .i64), (.int .i64), (.int .i64), (.int .i64)] fun x20 =>
 .call j4 [(.agg #[(.int .i64 x20.1), (.int .i64 x20.2.1), (.int .i64 x20.2.2.1), (.int .i64 x20.2.2.2.1), (.int .i64 x20.2.2.2.2.1)]), (.int .i64 p1), (.int .i64 p2)] (.one (.leaf .ptr)) fun x23 =>
 lkN (some x12) fun x24 =>
 .st x24 (.pointer x23) <|
 .ret (.pointer (some x12)))
theorem uM {p0_0 : Int} {p0_1 : Int} {p0_2 : Int} {p0_3 : Int} {p0_4 : Int} {p1 : Int} {p2 : Int} : SpT iS #[(.agg #[(.int .i64 p0_0), (.int .i64 p0_1), (.int .i64 p0_2), (.int .i64 p0_3), (.int .i64 p0_4)]), (.int .i64 p1), (.int .i64 p2)] (tK p0_0 p0_1 p0_2 p0_3 p0_4 p1 p2) := spT cJ Tryz.func40 (by kernel_rfl)
noncomputable def uw (p0_0 : Int) (p0_1 : Int) (p0_2 : Int) (p0_3 : Int) (p0_4 : Int) (p1 : Int) (p2 : Int) : Tree :=
 .dk (.cells #[(.int .i64 p0_0), (.int .i64 p0_1), (.int .i64 p0_2), (.int .i64 p0_3), (.int .i64 p0_4)] bn) fun x3 =>
 .cU dg [(.int .i64 p2)] (.tup [(.leaf (.int .i64)), (.leaf (.int .i64)), (.leaf (.int .i64)), (.leaf .bool)]) fun x13 =>
 .ldA x3 [(.int .i64), (.int .i64), (.int .i64), (.int .i64), (.int .i64)] fun x18 =>
 .call kG [(.agg #[(.int .i64 x18.1), (.int .i64 x18.2.1), (.int .i64 x18.2.2.1), (.int .i64 x18.2.2.2.1), (.int .i64 x18.2.2.2.2.1)]), (.int .i64 p1), (.int .i64 x13.2.2.1), (.int .i64 x13.1)] (.one (.leaf .ptr)) fun x22 =>
 .dk (.cells #[(.pointer x22), (.int .i64 p2), (.bool false)] sJ) fun x25 =>
 .ret (.pointer (some x25))
theorem vB {p0_0 : Int} {p0_1 : Int} {p0_2 : Int} {p0_3 : Int} {p0_4 : Int} {p1 : Int} {p2 : Int} : SpT jk #[(.agg #[(.int .i64 p0_0), (.int .i64 p0_1), (.int .i64 p0_2), (.int .i64 p0_3), (.int .i64 p0_4)]), (.int .i64 p1), (.int .i64 p2)] (uw p0_0 p0_1 p0_2 p0_3 p0_4 p1 p2) := spT cJ Tryz.func130 (by kernel_rfl)
noncomputable def pP (p0 : Option Addr) (p1 : Option Addr) : Tree :=
 lkN p0 fun x7 =>
 .ld (x7.add 9) (.int .i64) fun x9 =>
 bif ((x9 : Int) == 0) then (
 lkN p0 fun x13 =>
 .ld x13 .ptr fun x15 =>
 .call iU [(.pointer x15), (.pointer p1)] (.one (.leaf .bool)) fun x17 =>
 bif x17 then (
 .call jO [(.pointer p0)] .unit fun _ =>
 lkN p0 fun x119 =>
 .ld (x119.add 9) (.int .i64) fun x121 =>
 .ret (.bool ((x121 : Int) == 4)))
 else (
 lkN p0 fun x119 =>
 .ld (x119.add 9) (.int .i64) fun x121 =>
 .ret (.bool ((x121 : Int) == 4))))
 else (
 bif ((x9 : Int) == 1) then (
 lkN p0 fun x25 =>
 .ld ((x25.add 1).add 4) (.int .i64) fun x28 =>
 .call bQ [(.pointer p1), (.int .i64 x28)] (.one (.leaf (.int .i64))) fun x29 =>
 lkN p0 fun x30 =>
 .st (x30.add 10) (.int .i64 x29) <|
 lkN p0 fun x33 =>
 .st (x33.add 9) (.int .i64 2) <|
 lkN p0 fun x36 =>
 .ld (x36.add 10) (.int .i64) fun x38 =>
 lkN p0 fun x42 =>
 .ld (x42.add 7) (.int .i64) fun x44 =>
 .call ij [(.pointer p1)] (.one (.leaf (.int .i64))) fun x40 =>
 .check (ldS (x42.add 7)) (.int .i64 x44) <|
 .check (nck p0) (.pointer (some x42)) <|
 .check (ldS (x36.add 10)) (.int .i64 x38) <|
 .check (nck p0) (.pointer (some x36)) <|
 .cU ft [(.int .i64 x44)] (.one (.leaf (.int .i64))) fun x45 =>
 bif (decide ((x38 : Int) > (w64 (x40 - x45)))) then (
 lkN p0 fun x49 =>
 .st (x49.add 9) (.int .i64 4) <|
 lkN p0 fun x119 =>
 .ld (x119.add 9) (.int .i64) fun x121 =>
 .ret (.bool ((x121 : Int) == 4)))
 else (
 lkN p0 fun x119 =>
 .ld (x119.add 9) (.int .i64) fun x121 =>
 .ret (.bool ((x121 : Int) == 4))))
 else (
 bif ((x9 : Int) == 2) then (
 lkN p0 fun x54 =>
 .st (x54.add 9) (.int .i64 1) <|
 lkN p0 fun x58 =>
 .ld ((x58.add 1).add 4) (.int .i64) fun x61 =>
 lkN p0 fun x63 =>
 .ld (x63.add 10) (.int .i64) fun x65 =>
 lkN p0 fun x67 =>
 .ld (x67.add 10) (.int .i64) fun x69 =>
 lkN p0 fun x71 =>
 .ld (x71.add 7) (.int .i64) fun x73 =>
 .cU ft [(.int .i64 x73)] (.one (.leaf (.int .i64))) fun x74 =>
 .call cE [(.pointer p1), (.int .i64 x61), (.int .i64 x65), (.int .i64 (w64 (x69 + x74)))] (.one (.leaf .bool)) fun x76 =>
 bif x76 then (
 lkN p0 fun x78 =>
 .st (x78.add 9) (.int .i64 3) <|
 lkN p0 fun x119 =>
 .ld (x119.add 9) (.int .i64) fun x121 =>
 .ret (.bool ((x121 : Int) == 4)))
 else (
 lkN p0 fun x119 =>
 .ld (x119.add 9) (.int .i64) fun x121 =>
 .ret (.bool ((x121 : Int) == 4))))
 else (
 bif ((x9 : Int) == 3) then (
 lkN p0 fun x84 =>
 .ld ((x84.add 1).add 3) (.int .i64) fun x87 =>
 lkN p0 fun x89 =>
 .ld (x89.add 10) (.int .i64) fun x91 =>
 .call g6 [(.pointer p1), (.int .i64 (w64 (x87 + (w64 (Int.tdiv x91 8))))), (.int .i64 1)] (.one (.leaf (.int .i64))) fun x94 =>
 lkN p0 fun x99 =>
 .ld (x99.add 10) (.int .i64) fun x101 =>
 lkN p0 fun x104 =>
 .ld (x104.add 7) (.int .i64) fun x106 =>
 .cU iZ [(.int .i64 x101), (.int .i64 (w64 (x94 + 1))), (.int .i64 x106)] (.one (.leaf (.int .i64))) fun x107 =>
 lkN p0 fun x108 =>
 .st (x108.add 11) (.int .i64 x107) <|
 lkN p0 fun x110 =>
 .st (x110.add 9) (.int .i64 4) <|
 lkN p0 fun x114 =>
 .ld (x114.add 11) (.int .i64) fun x116 =>
 .call iQ [(.pointer p1), (.int .i64 x116)] (.one (.leaf .bool)) fun x117 =>
 lkN p0 fun x119 =>
 .ld (x119.add 9) (.int .i64) fun x121 =>
 .ret (.bool ((x121 : Int) == 4)))
 else (
 lkN p0 fun x119 =>
 .ld (x119.add 9) (.int .i64) fun x121 =>
 .ret (.bool ((x121 : Int) == 4))))))
theorem su {p0 : Option Addr} {p1 : Option Addr} : SpT jg #[(.pointer p0), (.pointer p1)] (pP p0 p1) := spT cJ Tryz.func61 (by kernel_rfl)
noncomputable def mP (p0 : Option Addr) : Tree :=
 lkN p0 fun x6 =>
 .ld x6 .ptr fun x8 =>
 .call iT [(.pointer x8)] (.tup [(.leaf (.int .i64)), (.leaf .bool)]) fun x9 =>
 lkN p0 fun x13 =>
 .ld (x13.add 8) (.int .i64) fun x15 =>
 lkN p0 fun x17 =>
 .st (x17.add 8) (.int .i64 (w64 (x15 + 1))) <|
 bif x9.2.1 then (
 lkN p0 fun x23 =>
 .st (x23.add 10) (.int .i64 x9.1) <|
 lkN p0 fun x25 =>
 .st (x25.add 9) (.int .i64 3) <|
 .ret (.tuple #[]))
 else (
 lkN p0 fun x28 =>
 .ld (x28.add 8) (.int .i64) fun x30 =>
 lkN p0 fun x32 =>
 .ld (x32.add 1) (.int .i64) fun x35 =>
 bif (decide ((x30 : Int) ≥ (imax x35 1))) then (
 lkN p0 fun x39 =>
 .st (x39.add 9) (.int .i64 1) <|
 .ret (.tuple #[]))
 else (
 lkN p0 fun x43 =>
 .ldA (x43.add 1) [(.int .i64), (.int .i64), (.int .i64), (.int .i64), (.int .i64)] fun x45 =>
 lkN p0 fun x47 =>
 .ld (x47.add 6) (.int .i64) fun x49 =>
 lkN p0 fun x51 =>
 .ld (x51.add 8) (.int .i64) fun x53 =>
 lkN p0 fun x56 =>
 .ld (x56.add 1) (.int .i64) fun x59 =>
 .look (opS Tryz.prog (.binOp .rem aP (.tmp 0) (.tmp 1) aP) aP [(.int .i64 (w64 (x49 + x53))), (.int .i64 x59)]) (.one (.leaf (.int .i64))) fun x60 =>
 lkN p0 fun x62 =>
 .ld (x62.add 7) (.int .i64) fun x64 =>
 .call j4 [(.agg #[(.int .i64 x45.1), (.int .i64 x45.2.1), (.int .i64 x45.2.2.1), (.int .i64 x45.2.2.2.1), (.int .i64 x45.2.2.2.2.1)]), (.int .i64 x60), (.int .i64 x64)] (.one (.leaf .ptr)) fun x65 =>
 lkN p0 fun x66 =>
 .st x66 (.pointer x65) <|
 .ret (.tuple #[])))
theorem qC {p0 : Option Addr} : SpT jO #[(.pointer p0)] (mP p0) := spT cJ Tryz.func93 (by kernel_rfl)
noncomputable def mV (p0 : Option Addr) : Tree :=
 lkN p0 fun x5 =>
 .ld (x5.add 11) (.int .i64) fun x7 =>
 lkN p0 fun x9 =>
 .ld (x9.add 11) (.int .i64) fun x11 =>
 .ret (.tuple #[(.int .i64 x7), (.bool ((x11 : Int) != 0))])
theorem qG {p0 : Option Addr} : SpT ig #[(.pointer p0)] (mV p0) := spT cJ Tryz.func41 (by kernel_rfl)
noncomputable def r9 (p0 : Option Addr) (p1 : Option Addr) : Tree :=
 lkN p0 fun x6 =>
 .ld (x6.add 2) .bool fun x8 =>
 bif (!x8) then (
 lkN p0 fun x12 =>
 .ld x12 .ptr fun x14 =>
 .call iy [(.pointer x14), (.pointer p1)] (.one (.leaf .bool)) fun x16 =>
 bif x16 then (
 lkN p0 fun x19 =>
 .st (x19.add 2) (.bool true) <|
 lkN p0 fun x23 =>
 .ld (x23.add 1) (.int .i64) fun x25 =>
 .call iN [(.pointer p1), (.int .i64 x25)] (.one (.leaf .bool)) fun x26 =>
 lkN p0 fun x28 =>
 .ld (x28.add 2) .bool fun x30 =>
 .ret (.bool x30))
 else (
 lkN p0 fun x28 =>
 .ld (x28.add 2) .bool fun x30 =>
 .ret (.bool x30)))
 else (
 lkN p0 fun x28 =>
 .ld (x28.add 2) .bool fun x30 =>
 .ret (.bool x30))
theorem tR {p0 : Option Addr} {p1 : Option Addr} : SpT iq #[(.pointer p0), (.pointer p1)] (r9 p0 p1) := spT cJ Tryz.func133 (by kernel_rfl)
structure Al where
  pl : Pl
  work : Int
  cls : Int
  lst : Int
  what : Int
  base : Int
  h : Int
  po : Po
def Al.cells (x : Al) (q0 : Nat) : List Value := [.pointer (some ⟨q0, 0, none⟩), .int .i64 x.pl.work, .int .i64 x.pl.heads, .int .i64 x.pl.links, .int .i64 x.pl.gens, .int .i64 x.pl.carved, .int .i64 x.work, .int .i64 x.cls, .int .i64 x.lst, .int .i64 x.what, .int .i64 x.base, .int .i64 x.h]
def Al.bl (x : Al) (j : Nat × Nat × Nat) : Bl := [(j.1, oc j5 (x.cells j.2.1)), (j.2.1, km j.2.2), (j.2.2, x.po.obj)]
def w4 (p : Pl) (w c : Int) : Po := ⟨p, kJ p w c, 0, 0, 0, 0, false⟩
def Al.wH (x : Al) : Al :=
  if x.po.ok then { x with lst := w64 (x.lst + 1), base := x.po.base, what := 3 }
  else if w64 (x.lst + 1) ≥ imax x.pl.work 1 then { x with lst := w64 (x.lst + 1), what := 1 }
  else { x with lst := w64 (x.lst + 1), po := w4 x.pl (Int.tmod (w64 (x.work + w64 (x.lst + 1))) x.pl.work) x.cls }
def Al.step (x : Al) (A : Ar) : Al × Ar :=
  if x.what = 0 then (if x.po.dP A then Al.wH { x with po := x.po.cF A } else { x with po := x.po.cF A }, x.po.cX A)
  else if x.what = 1 then ({ x with base := A.ao x.pl.carved, what := if A.ao x.pl.carved > w64 (A.words.length - au x.cls) then 4 else 2 }, A.aV x.pl.carved)
  else if x.what = 2 then ({ x with what := if A.cC x.pl.carved x.base then 3 else 1 }, A.dE x.pl.carved x.base (w64 (x.base + au x.cls)))
  else if x.what = 3 then
    let i := w64 (x.pl.gens + w64 (Int.tdiv x.base 8))
    let h := cH x.base (w64 (A.ao i + 1)) x.cls
    ({ x with h := h, what := 4 }, (A.aL i (w64 (A.ao i + 1))).vM h)
  else (x, A)
def mAl : Mch Al (Nat × Nat × Nat) where
  f := jg
  addr := fun j => j.1
  bl := Al.bl
  inv := fun x _ => 0 ≤ x.lst ∧ x.lst ≤ 1000000
  step := Al.step
  fin := fun x => (x.what : Int) == 4
theorem DJ {I : List Nat} {A : Ar} {G : Heap} (x : Al) {q q0 q1 : Nat} (hA : Aw I A) (ok : Ok I G [q, q0, q1]) (hl : 0 ≤ x.lst ∧ x.lst ≤ 1000000) :
    cB Tryz.prog jO #[.pointer (some ⟨q, 0, none⟩)] (own A (x.bl (q, q0, q1)) G) fun v K => ∃ q0' q1', v = .tuple #[] ∧ K = own A (x.wH.bl (q, q0', q1')) G ∧ Ok I G [q, q0', q1'] := by
  refine qC fun L => ?_
  unfold mP Al.bl Al.wH
  have e1 : w64 (x.lst + 1) = x.lst + 1 := aE (by omega) (by omega)
  repeat (first
  | refine aa.2 ?_
  | refine aS 0 hA ok rfl rfl rfl ?_
  | refine cA 0 hA ok rfl rfl rfl rfl ?_
  | refine vZ 1 2 hA ok rfl rfl ?_)
  cases h1 : x.po.ok with
  | true =>
    repeat (first
  | refine aa.2 ?_
  | refine cA 0 hA ok rfl rfl rfl rfl ?_)
    exact ad ⟨q0, q1, rfl, rfl, ok⟩
  | false =>
    rw [if_neg (by simp)]
    repeat (first
  | refine aa.2 ?_
  | refine aS 0 hA ok rfl rfl rfl ?_)
    by_cases h2 : w64 (x.lst + 1) ≥ imax x.pl.work 1
    · rw [if_pos h2]
      refine av (decide_eq_true h2) ?_
      repeat (first
  | refine aa.2 ?_
  | refine cA 0 hA ok rfl rfl rfl rfl ?_)
      exact ad ⟨q0, q1, rfl, rfl, ok⟩
    · rw [if_neg h2]
      refine af (decide_eq_false h2) ?_
      repeat (first
  | refine aa.2 ?_
  | refine aS 0 hA ok rfl rfl rfl ?_
  | refine fy 0 hA ok rfl rfl rfl ?_)
      have hw : x.pl.work ≠ 0 := by
        intro e; rw [e, e1] at h2; unfold imax at h2; rw [if_pos (by omega)] at h2; omega
      refine aB (x := Int.tmod (w64 (x.work + w64 (x.lst + 1))) x.pl.work) (wX hw) ?_
      repeat (first
  | refine aa.2 ?_
  | refine aS 0 hA ok rfl rfl rfl ?_)
      refine Cx (p := x.pl) hA ok fun r0 r1 ok => ?_
      repeat (first
  | refine aa.2 ?_
  | refine cA 2 hA ok rfl rfl rfl rfl ?_)
      exact Jy [2, 0, 1] ok rfl (by decide) fun ok => ⟨r0, r1, rfl, rfl, ok⟩
theorem HY : mAl.ok := by
  rintro I A G x ⟨q, q0, q1⟩ hA ok hl
  have ok : Ok I G [q, q0, q1] := ok
  refine su fun L => ?_
  unfold pP
  show wp Tryz.prog _ L (own A (x.bl (q, q0, q1)) G) _
  show wp Tryz.prog _ L (own A [(q, oc j5 (x.cells q0)), (q0, km q1), (q1, x.po.obj)] G) fun v K => ∃ j' : Nat × Nat × Nat, v = .bool ((x.step A).1.what == 4) ∧ K = own (x.step A).2 ((x.step A).1.bl j') G ∧ j'.1 = q ∧ Ok I G [j'.1, j'.2.1, j'.2.2] ∧ Aw I (x.step A).2
  unfold Al.step
  repeat (first
  | refine aa.2 ?_
  | refine aS 0 hA ok rfl rfl rfl ?_)
  by_cases h0 : x.what = 0
  · rw [if_pos h0]
    refine av (j7 h0) ?_
    repeat (first
  | refine aa.2 ?_
  | refine aS 0 hA ok rfl rfl rfl ?_
  | (refine l4 1 2 hA ok rfl rfl ?_; intro hA))
    cases hb : x.po.dP A with
    | true =>
      refine av rfl ?_
      refine aR (DJ (I := I) (A := x.po.cX A) { x with po := x.po.cF A } hA ok hl) ?_
      rintro v K ⟨r0, r1, rfl, rfl, ok⟩
      refine ⟨(), rfl, ?_⟩
      show wp Tryz.prog _ L (own (x.po.cX A) [(q, oc j5 ((Al.wH { x with po := x.po.cF A }).cells r0)), (r0, km r1), (r1, (Al.wH { x with po := x.po.cF A }).po.obj)] G) _
      repeat (first
  | refine aa.2 ?_
  | refine aS 0 hA ok rfl rfl rfl ?_)
      exact ad ⟨(q, r0, r1), rfl, rfl, rfl, ok, hA⟩
    | false =>
      refine af rfl ?_
      repeat (first
  | refine aa.2 ?_
  | refine aS 0 hA ok rfl rfl rfl ?_)
      exact ad ⟨(q, q0, q1), rfl, rfl, rfl, ok, hA⟩
  · rw [if_neg h0]
    refine af (iR h0) ?_
    by_cases h1 : x.what = 1
    · rw [if_pos h1]
      refine av (j7 h1) ?_
      repeat (first
  | refine aa.2 ?_
  | refine aS 0 hA ok rfl rfl rfl ?_
  | refine cA 0 hA ok rfl rfl rfl rfl ?_
  | (refine uA hA ?_; intro hA)
  | refine FT hA ?_
  | refine zE ?_
  | refine iC 0 hA ok rfl rfl rfl ?_
  | refine fS rfl ?_)
      have ew : (A.aV x.pl.carved).words.length = A.words.length := by unfold Ar.aV; split <;> rfl
      rw [ew]
      by_cases h2 : A.ao x.pl.carved > w64 (A.words.length - au x.cls)
      · rw [if_pos h2]
        refine av (decide_eq_true h2) ?_
        repeat (first
  | refine aa.2 ?_
  | refine aS 0 hA ok rfl rfl rfl ?_
  | refine cA 0 hA ok rfl rfl rfl rfl ?_)
        exact ad ⟨(q, q0, q1), rfl, rfl, rfl, ok, hA⟩
      · rw [if_neg h2]
        refine af (decide_eq_false h2) ?_
        repeat (first
  | refine aa.2 ?_
  | refine aS 0 hA ok rfl rfl rfl ?_)
        exact ad ⟨(q, q0, q1), rfl, rfl, rfl, ok, hA⟩
    · rw [if_neg h1]
      refine af (iR h1) ?_
      by_cases h2 : x.what = 2
      · rw [if_pos h2]
        refine av (j7 h2) ?_
        repeat (first
  | refine aa.2 ?_
  | refine aS 0 hA ok rfl rfl rfl ?_
  | refine cA 0 hA ok rfl rfl rfl rfl ?_
  | (refine qU hA ?_; intro hA)
  | refine zE ?_)
        cases hb : A.cC x.pl.carved x.base with
        | true =>
          repeat (first
  | refine aa.2 ?_
  | refine aS 0 hA ok rfl rfl rfl ?_
  | refine cA 0 hA ok rfl rfl rfl rfl ?_)
          exact ad ⟨(q, q0, q1), rfl, rfl, rfl, ok, hA⟩
        | false =>
          repeat (first
  | refine aa.2 ?_
  | refine aS 0 hA ok rfl rfl rfl ?_)
          exact ad ⟨(q, q0, q1), rfl, rfl, rfl, ok, hA⟩
      · rw [if_neg h2]
        refine af (iR h2) ?_
        by_cases h3 : x.what = 3
        · rw [if_pos h3]
          refine av (j7 h3) ?_
          repeat (first
  | refine aa.2 ?_
  | refine aS 0 hA ok rfl rfl rfl ?_
  | refine cA 0 hA ok rfl rfl rfl rfl ?_
  | (refine CU hA ?_; intro hA)
  | (refine Ik hA ?_; intro hA)
  | refine F5 ?_)
          exact ad ⟨(q, q0, q1), rfl, rfl, rfl, ok, hA⟩
        · rw [if_neg h3]
          refine af (iR h3) ?_
          repeat (first
  | refine aa.2 ?_
  | refine aS 0 hA ok rfl rfl rfl ?_)
          exact ad ⟨(q, q0, q1), rfl, rfl, rfl, ok, hA⟩
theorem KF : mAl.vX gT := fun q p => by
  show opS _ _ _ _ = .pure (.enter jg [.pointer (some ⟨q, 0, none⟩), .pointer p].toArray)
  kernel_rfl
structure Fe where
  h : Int
  done : Bool
  pu : Pu
def Fe.cells (x : Fe) (q0 : Nat) : List Value := [.pointer (some ⟨q0, 0, none⟩), .int .i64 x.h, .bool x.done]
def Fe.bl (x : Fe) (j : Nat × Nat × Nat) : Bl := [(j.1, oc sJ (x.cells j.2.1)), (j.2.1, l9 j.2.2), (j.2.2, x.pu.obj)]
def Fe.step (x : Fe) (A : Ar) : Fe × Ar :=
  if x.done = true then (x, A)
  else if x.pu.dP A = true then ({ x with pu := x.pu.cF A, done := true }, (x.pu.cX A).db x.h) else ({ x with pu := x.pu.cF A }, x.pu.cX A)
def mFe : Mch Fe (Nat × Nat × Nat) where
  f := iq
  addr := fun j => j.1
  bl := Fe.bl
  inv := fun _ _ => True
  step := Fe.step
  fin := fun x => x.done
theorem Jo : mFe.ok := by
  rintro I A G x ⟨q, q0, q1⟩ hA ok hl
  have ok : Ok I G [q, q0, q1] := ok
  refine tR fun L => ?_
  unfold r9
  show wp Tryz.prog _ L (own A [(q, oc sJ (x.cells q0)), (q0, l9 q1), (q1, x.pu.obj)] G) fun v K => ∃ j' : Nat × Nat × Nat, v = .bool (x.step A).1.done ∧ K = own (x.step A).2 ((x.step A).1.bl j') G ∧ j'.1 = q ∧ Ok I G [j'.1, j'.2.1, j'.2.2] ∧ Aw I (x.step A).2
  unfold Fe.step
  repeat (first
  | refine aa.2 ?_
  | refine aS 0 hA ok rfl rfl rfl ?_)
  by_cases hd : x.done = true
  · rw [if_pos hd]
    refine af (by rw [hd]; rfl) ?_
    repeat (first
  | refine aa.2 ?_
  | refine aS 0 hA ok rfl rfl rfl ?_)
    exact ad ⟨(q, q0, q1), rfl, rfl, rfl, ok, hA⟩
  · rw [if_neg hd]
    refine av (by simpa using hd) ?_
    repeat (first
  | refine aa.2 ?_
  | refine aS 0 hA ok rfl rfl rfl ?_
  | (refine ku 1 2 hA ok rfl rfl ?_; intro hA))
    by_cases hb : x.pu.dP A = true
    · rw [if_pos hb]
      refine av hb ?_
      repeat (first
  | refine aa.2 ?_
  | refine aS 0 hA ok rfl rfl rfl ?_
  | refine cA 0 hA ok rfl rfl rfl rfl ?_
  | (refine Jf hA ?_; intro hA))
      exact ad ⟨(q, q0, q1), rfl, rfl, rfl, ok, hA⟩
    · rw [if_neg hb]
      refine af (by simpa using hb) ?_
      repeat (first
  | refine aa.2 ?_
  | refine aS 0 hA ok rfl rfl rfl ?_)
      exact ad ⟨(q, q0, q1), rfl, rfl, rfl, ok, hA⟩
def mf (p : Pl) (w c : Int) : Al := ⟨p, w, c, 0, 0, 0, 0, w4 p w c⟩
def eR (p : Pl) (w h : Int) : Fe := ⟨h, false, ⟨p, kJ p w (opC h), 0, 0, opB h⟩⟩
section
variable {L : aZ} {R : Value → Heap → Prop} {A : Ar} {I : List Nat} {l : Bl} {G : Heap}
theorem BZ (p : Pl) (w c : Int) (hA : Aw I A) (hc : au c ≠ 0) (G : Heap) :
    cB Tryz.prog iS #[p.val, .int .i64 w, .int .i64 c] (own A [] G) fun v K => ∃ j : Nat × Nat × Nat, v = .pointer (some ⟨j.1, 0, none⟩) ∧ K = own A ((mf p w c).bl j) G ∧ Ok I G (keys ((mf p w c).bl j)) := by
  refine uM (p0_0 := p.work) (p0_1 := p.heads) (p0_2 := p.links) (p0_3 := p.gens) (p0_4 := p.carved) fun L => ?_
  unfold tK
  have ok : Ok I G (keys []) := ⟨.nil, fun b h => (by cases h), fun b h => (by cases h)⟩
  refine cL hA ok fun e ok => ?_
  repeat (first
  | refine fy 0 hA ok rfl rfl rfl ?_)
  refine cL hA ok fun q ok => ?_
  repeat (first
  | refine zE ?_)
  refine af (iR hc) ?_
  repeat (first
  | refine fy 1 hA ok rfl rfl rfl ?_)
  refine Cx (p := p) hA ok fun q0 q1 ok => ?_
  repeat (first
  | refine aa.2 ?_
  | refine cA 2 hA ok rfl rfl rfl rfl ?_)
  exact Jy [2, 0, 1] ok rfl (by decide) fun ok => ⟨(q, q0, q1), rfl, rfl, ok⟩
theorem CI (p : Pl) (w h : Int) (hA : Aw I A) (G : Heap) :
    cB Tryz.prog jk #[p.val, .int .i64 w, .int .i64 h] (own A [] G) fun v K => ∃ j : Nat × Nat × Nat, v = .pointer (some ⟨j.1, 0, none⟩) ∧ K = own A ((eR p w h).bl j) G ∧ Ok I G (keys ((eR p w h).bl j)) := by
  refine vB (p0_0 := p.work) (p0_1 := p.heads) (p0_2 := p.links) (p0_3 := p.gens) (p0_4 := p.carved) fun L => ?_
  unfold uw
  have ok : Ok I G (keys []) := ⟨.nil, fun b h => (by cases h), fun b h => (by cases h)⟩
  refine cL hA ok fun e ok => ?_
  repeat (first
  | refine fy 0 hA ok rfl rfl rfl ?_
  | refine Gh ?_)
  refine GU (p := p) hA ok fun q0 q1 ok => ?_
  repeat (first
  | refine aa.2 ?_
  | refine aS 0 hA ok rfl rfl rfl ?_
  | refine aS 1 hA ok rfl rfl rfl ?_
  | refine aS 2 hA ok rfl rfl rfl ?_
  | refine aS 3 hA ok rfl rfl rfl ?_
  | refine aS 4 hA ok rfl rfl rfl ?_
  | refine aS 5 hA ok rfl rfl rfl ?_
  | refine aS 6 hA ok rfl rfl rfl ?_
  | refine aS 7 hA ok rfl rfl rfl ?_
  | refine cA 0 hA ok rfl rfl rfl rfl ?_
  | refine cA 1 hA ok rfl rfl rfl rfl ?_
  | refine cA 2 hA ok rfl rfl rfl rfl ?_
  | refine cA 3 hA ok rfl rfl rfl rfl ?_
  | refine cA 4 hA ok rfl rfl rfl rfl ?_
  | refine cA 5 hA ok rfl rfl rfl rfl ?_
  | refine cA 6 hA ok rfl rfl rfl rfl ?_
  | refine cA 7 hA ok rfl rfl rfl rfl ?_
  | refine fy 0 hA ok rfl rfl rfl ?_
  | refine fy 1 hA ok rfl rfl rfl ?_
  | refine fy 2 hA ok rfl rfl rfl ?_
  | refine fy 3 hA ok rfl rfl rfl ?_
  | refine fy 4 hA ok rfl rfl rfl ?_
  | refine fy 5 hA ok rfl rfl rfl ?_
  | refine fy 6 hA ok rfl rfl rfl ?_
  | refine fy 7 hA ok rfl rfl rfl ?_
  | refine j9 0 hA ok rfl rfl rfl rfl ?_
  | refine j9 1 hA ok rfl rfl rfl rfl ?_
  | refine j9 2 hA ok rfl rfl rfl rfl ?_
  | refine j9 3 hA ok rfl rfl rfl rfl ?_
  | refine j9 4 hA ok rfl rfl rfl rfl ?_
  | refine j9 5 hA ok rfl rfl rfl rfl ?_
  | refine j9 6 hA ok rfl rfl rfl rfl ?_
  | refine j9 7 hA ok rfl rfl rfl rfl ?_
  | (refine uA hA ?_; intro hA)
  | (refine mw hA ?_; intro hA)
  | (refine qU hA ?_; intro hA)
  | (refine CU hA ?_; intro hA)
  | (refine BT hA ?_; intro hA)
  | (refine FI hA ?_; intro hA)
  | (refine Dd hA ?_; intro hA)
  | (refine Jf hA ?_; intro hA)
  | (refine Ik hA ?_; intro hA)
  | refine w_State hA ?_
  | refine p7 hA ?_
  | refine Ct hA ?_
  | refine FT hA ?_
  | refine w_Count hA ?_
  | refine zE ?_
  | refine Gh ?_
  | refine F5 ?_
  | refine wq_head ?_
  | refine iC 0 hA ok rfl rfl rfl ?_
  | refine iC 1 hA ok rfl rfl rfl ?_
  | refine iC 2 hA ok rfl rfl rfl ?_
  | refine iC 3 hA ok rfl rfl rfl ?_
  | refine iC 4 hA ok rfl rfl rfl ?_
  | refine iC 5 hA ok rfl rfl rfl ?_
  | refine iC 6 hA ok rfl rfl rfl ?_
  | refine iC 7 hA ok rfl rfl rfl ?_
  | refine fS rfl ?_
  | refine vZ 0 1 hA ok rfl rfl ?_
  | refine vZ 1 2 hA ok rfl rfl ?_
  | refine vZ 2 3 hA ok rfl rfl ?_
  | refine vZ 3 4 hA ok rfl rfl ?_
  | refine vZ 4 5 hA ok rfl rfl ?_
  | refine vZ 5 6 hA ok rfl rfl ?_
  | (refine l4 0 1 hA ok rfl rfl ?_; intro hA)
  | (refine l4 1 2 hA ok rfl rfl ?_; intro hA)
  | (refine l4 2 3 hA ok rfl rfl ?_; intro hA)
  | (refine l4 3 4 hA ok rfl rfl ?_; intro hA)
  | (refine l4 4 5 hA ok rfl rfl ?_; intro hA)
  | (refine l4 5 6 hA ok rfl rfl ?_; intro hA)
  | (refine ku 0 1 hA ok rfl rfl ?_; intro hA)
  | (refine ku 1 2 hA ok rfl rfl ?_; intro hA)
  | (refine ku 2 3 hA ok rfl rfl ?_; intro hA)
  | (refine ku 3 4 hA ok rfl rfl ?_; intro hA)
  | (refine ku 4 5 hA ok rfl rfl ?_; intro hA)
  | (refine ku 5 6 hA ok rfl rfl ?_; intro hA)
  | refine av (by assumption) ?_
  | refine af (by assumption) ?_)
  refine cL hA ok fun q ok => ?_
  exact Jy [0, 1, 2] ok rfl (by decide) fun ok => ⟨(q, q0, q1), rfl, rfl, ok⟩
theorem zH {p : Pl} {w c : Int} {k : Option Addr → Tree} (hA : Aw I A) (ok : Ok I G (keys l)) (hc : au c ≠ 0) (h : ∀ j : Nat × Nat × Nat, Ok I G (keys ((mf p w c).bl j ++ l)) → wp Tryz.prog (k (some ⟨j.1, 0, none⟩)) L (own A ((mf p w c).bl j ++ l) G) R) :
    wp Tryz.prog (.call iS [p.val, .int .i64 w, .int .i64 c] (.one (.leaf .ptr)) k) L (own A l G) R := FA (fun G => BZ p w c hA hc G) ok h
theorem Be {p : Pl} {w b : Int} {k : Option Addr → Tree} (hA : Aw I A) (ok : Ok I G (keys l)) (h : ∀ j : Nat × Nat × Nat, Ok I G (keys ((eR p w b).bl j ++ l)) → wp Tryz.prog (k (some ⟨j.1, 0, none⟩)) L (own A ((eR p w b).bl j ++ l) G) R) :
    wp Tryz.prog (.call jk [p.val, .int .i64 w, .int .i64 b] (.one (.leaf .ptr)) k) L (own A l G) R := FA (fun G => CI p w b hA G) ok h
theorem C0 (i : Nat) {q q0 : Nat} {x : Al} {k : HL Sh1.T [(.leaf (.int .i64)), (.leaf .bool)] → Tree} (hA : Aw I A) (ok : Ok I G (keys l)) (h0 : l[i]? = some (q, oc j5 (x.cells q0)))
    (h : wp Tryz.prog (k (x.h, (x.h : Int) != 0, ())) L (own A l G) R) :
    wp Tryz.prog (.call ig [.pointer (some ⟨q, 0, none⟩)] (.tup [(.leaf (.int .i64)), (.leaf .bool)]) k) L (own A l G) R := by
  refine ax (x := (x.h, (x.h : Int) != 0, ())) (H' := own A l G) ?_ h
  refine qG fun L => ?_
  unfold mV
  refine aa.2 (aS i hA ok rfl h0 rfl (aa.2 (aS i hA ok rfl h0 rfl ?_)))
  exact ad ⟨rfl, rfl⟩
end
noncomputable def xi (p0 : Int) (p1 : Int) : Tree :=
 .dk (.cells #[(.int .i64 0), (.int .i64 0)] fW) fun x4 =>
 .stA x4 [(.int .i64 p0), (.int .i64 p1)] <|
 .look (ldK x4 2 0 #[] fun r0 => .pure (.value (.tuple #[(.agg r0), (.int .i64 (w64 (2 * (imax p0 0))))]))) (.tup [(.agg [(.int .i64), (.int .i64)]), (.leaf (.int .i64))]) fun r => .ret (Sh.fq (.tup [(.agg [(.int .i64), (.int .i64)]), (.leaf (.int .i64))]) r)
theorem wT {p0 : Int} {p1 : Int} : SpT nI #[(.int .i64 p0), (.int .i64 p1)] (xi p0 p1) := spT cJ Tryz.func107 (by kernel_rfl)
noncomputable def ns (p0_0 : Int) (p0_1 : Int) (p1 : Int) (p2 : Int) : Tree :=
 .dk (.cells #[(.int .i64 p0_0), (.int .i64 p0_1)] fW) fun x3 =>
 .ld (x3.add 1) (.int .i64) fun x8 =>
 .ret (.int .i64 (w64 ((w64 (x8 + (w64 (2 * p1)))) + p2)))
theorem qc {p0_0 : Int} {p0_1 : Int} {p1 : Int} {p2 : Int} : SpT fX #[(.agg #[(.int .i64 p0_0), (.int .i64 p0_1)]), (.int .i64 p1), (.int .i64 p2)] (ns p0_0 p0_1 p1 p2) := spT cJ Tryz.func112 (by kernel_rfl)
noncomputable def qL (p0_0 : Int) (p0_1 : Int) (p1_0 : Int) (p1_1 : Int) (p1_2 : Int) (p1_3 : Int) (p1_4 : Int) (p2 : Int) (p3 : Sl) : Tree :=
 .dk (.cells #[(.int .i64 p0_0), (.int .i64 p0_1)] fW) fun x4 =>
 .dk (.cells #[(.int .i64 p1_0), (.int .i64 p1_1), (.int .i64 p1_2), (.int .i64 p1_3), (.int .i64 p1_4)] bn) fun x5 =>
 .ldA x4 [(.int .i64), (.int .i64)] fun x10 =>
 .ldA x5 [(.int .i64), (.int .i64), (.int .i64), (.int .i64), (.int .i64)] fun x11 =>
 .CO fun x13 =>
 .dk (.cells #[(.int .i64 x10.1), (.int .i64 x10.2.1), (.int .i64 x11.1), (.int .i64 x11.2.1), (.int .i64 x11.2.2.1), (.int .i64 x11.2.2.2.1), (.int .i64 x11.2.2.2.2.1), (.int .i64 p2), (.int .i64 0), (.slice none 0 0), (.map x13), (.slice none 0 0), (.slice none 0 0), (.bool false)] bD) fun x15 =>
 lkN (some x15) fun x18 =>
 .ld (x18.add 9) .slice fun x20 =>
 .act (opS Tryz.prog (.call { callee := .builtin .append, args := #[(.tmp 0), (.tmp 1)], argTypes := #[bK, bK] }) bK [(.slice x20.a x20.len x20.cap), (.slice p3.a p3.len p3.cap)]) (.one (.leaf .slice)) fun x22 =>
 lkN (some x15) fun x23 =>
 .st (x23.add 9) (.slice x22.a x22.len x22.cap) <|
 .ret (.pointer (some x15))
theorem tO {p0_0 : Int} {p0_1 : Int} {p1_0 : Int} {p1_1 : Int} {p1_2 : Int} {p1_3 : Int} {p1_4 : Int} {p2 : Int} {p3 : Sl} : SpT lU #[(.agg #[(.int .i64 p0_0), (.int .i64 p0_1)]), (.agg #[(.int .i64 p1_0), (.int .i64 p1_1), (.int .i64 p1_2), (.int .i64 p1_3), (.int .i64 p1_4)]), (.int .i64 p2), (.slice p3.a p3.len p3.cap)] (qL p0_0 p0_1 p1_0 p1_1 p1_2 p1_3 p1_4 p2 p3) := spT cJ Tryz.func117 (by kernel_rfl)
@[reducible] def jX : List Sh1 := [(.leaf (.int .i64))]
noncomputable def lF (p0 : Option Addr) (x7 : Sl) (y1 : HL Sh1.T jX) : Tree :=
 bif (decide ((y1.1 : Int) < ((x7.len : Nat) : Int))) then (
 .look (opS Tryz.prog (.indexAddr bK (.tmp 0) (.tmp 1)) aF [(.slice x7.a x7.len x7.cap), (.int .i64 y1.1)]) (.one (.leaf .addr)) fun x11 =>
 .ld x11 (.int .i64) fun x12 =>
 lkN p0 fun x14 =>
 .ld (x14.add 10) .map fun x16 =>
 .look (opS Tryz.prog (.lookup p9 (.tmp 0) (.tmp 1) false) aO [(.map x16), (.int .i64 x12)]) (.one (.leaf .bool)) fun x18 =>
 bif x18 then (
 lkN p0 fun x21 =>
 .ld (x21.add 12) .slice fun x23 =>
 .qB (.cells #[(.int .i64 x12)] aP) 1 fun x25 =>
 .act (opS Tryz.prog (.call { callee := .builtin .append, args := #[(.tmp 0), (.tmp 1)], argTypes := #[bK, bK] }) bK [(.slice x23.a x23.len x23.cap), (.slice x25.a x25.len x25.cap)]) (.one (.leaf .slice)) fun x26 =>
 lkN p0 fun x27 =>
 .st (x27.add 12) (.slice x26.a x26.len x26.cap) <|
 .again 64 [(.int .i64 (w64 (y1.1 + 1)))])
 else (
 lkN p0 fun x31 =>
 .ld (x31.add 11) .slice fun x33 =>
 lkN p0 fun x35 =>
 .ldA (x35.add 2) [(.int .i64), (.int .i64), (.int .i64), (.int .i64), (.int .i64)] fun x37 =>
 lkN p0 fun x39 =>
 .ld (x39.add 7) (.int .i64) fun x41 =>
 .call jk [(.agg #[(.int .i64 x37.1), (.int .i64 x37.2.1), (.int .i64 x37.2.2.1), (.int .i64 x37.2.2.2.1), (.int .i64 x37.2.2.2.2.1)]), (.int .i64 x41), (.int .i64 x12)] (.one (.leaf .ptr)) fun x43 =>
 .check (ldS (x31.add 11)) (.slice x33.a x33.len x33.cap) <|
 .check (nck p0) (.pointer (some x31)) <|
 .qB (.cells #[(.pointer x43)] cD) 1 fun x44 =>
 .check (ldS (x31.add 11)) (.slice x33.a x33.len x33.cap) <|
 .check (nck p0) (.pointer (some x31)) <|
 .act (opS Tryz.prog (.call { callee := .builtin .append, args := #[(.tmp 0), (.tmp 1)], argTypes := #[bR, bR] }) bR [(.slice x33.a x33.len x33.cap), (.slice x44.a x44.len x44.cap)]) (.one (.leaf .slice)) fun x45 =>
 lkN p0 fun x46 =>
 .st (x46.add 11) (.slice x45.a x45.len x45.cap) <|
 .again 64 [(.int .i64 (w64 (y1.1 + 1)))]))
 else (
 lkN p0 fun x50 =>
 .ld (x50.add 10) .map fun x52 =>
 .act (opS Tryz.prog (.call { callee := .builtin .clear, args := #[(.tmp 0)], argTypes := #[p9] }) aF [(.map x52)]) .unit fun _ =>
 lkN p0 fun x55 =>
 .ld (x55.add 11) .slice fun x57 =>
 lkN p0 fun x60 =>
 .st (x60.add 13) (.bool ((((x57.len : Nat) : Int) : Int) == 0)) <|
 .ret (.tuple #[]))
noncomputable def nO (p0 : Option Addr) : Tree :=
 lkN p0 fun x5 =>
 .ld (x5.add 9) .slice fun x7 =>
 .loop 64 jX [(.int .i64 0)] (lF p0 x7)
theorem rU {p0 : Option Addr} : SpT iO #[(.pointer p0)] (nO p0) := spT cJ Tryz.func165 (by kernel_rfl)
noncomputable def oX (p0 : Option Addr) (p1 : Option Addr) : Tree :=
 lkN p0 fun x7 =>
 .ld x7 (.int .i64) fun x10 =>
 lkN p0 fun x15 =>
 .ld (x15.add 13) .bool fun x17 =>
 bif x17 then (
 lkN p0 fun x110 =>
 .ld (x110.add 13) .bool fun x112 =>
 .ret (.bool x112))
 else (
 lkN p0 fun x20 =>
 .ld (x20.add 8) (.int .i64) fun x22 =>
 bif (decide ((x22 : Int) < (w64 (2 * (imax x10 0))))) then (
 lkN p0 fun x26 =>
 .ld (x26.add 10) .map fun x28 =>
 lkN p0 fun x31 =>
 .ld (x31.add 1) (.int .i64) fun x34 =>
 lkN p0 fun x36 =>
 .ld (x36.add 8) (.int .i64) fun x38 =>
 .call bQ [(.pointer p1), (.int .i64 (w64 (x34 + x38)))] (.one (.leaf (.int .i64))) fun x40 =>
 .check (ldS (x26.add 10)) (.map x28) <|
 .check (nck p0) (.pointer (some x26)) <|
 .act (opS Tryz.prog (.mapUpdate p9 (.tmp 0) (.tmp 1) (.const (.bool true))) aF [(.map x28), (.int .i64 x40)]) .unit fun _ =>
 lkN p0 fun x42 =>
 .ld (x42.add 8) (.int .i64) fun x44 =>
 lkN p0 fun x46 =>
 .st (x46.add 8) (.int .i64 (w64 (x44 + 1))) <|
 lkN p0 fun x49 =>
 .ld (x49.add 8) (.int .i64) fun x51 =>
 bif ((x51 : Int) == (w64 (2 * (imax x10 0)))) then (
 .call iO [(.pointer p0)] .unit fun _ =>
 lkN p0 fun x110 =>
 .ld (x110.add 13) .bool fun x112 =>
 .ret (.bool x112))
 else (
 lkN p0 fun x110 =>
 .ld (x110.add 13) .bool fun x112 =>
 .ret (.bool x112)))
 else (
 bif (((w64 (2 * (imax x10 0))) : Int) == 0) then (
 lkN p0 fun x61 =>
 .ld (x61.add 8) (.int .i64) fun x63 =>
 bif ((x63 : Int) == 0) then (
 lkN p0 fun x67 =>
 .ld (x67.add 8) (.int .i64) fun x69 =>
 lkN p0 fun x71 =>
 .st (x71.add 8) (.int .i64 (w64 (x69 + 1))) <|
 .call iO [(.pointer p0)] .unit fun _ =>
 lkN p0 fun x76 =>
 .ld (x76.add 13) .bool fun x78 =>
 bif (!x78) then (
 .call gG [(.pointer p0), (.pointer p1)] (.one (.leaf .bool)) fun x82 =>
 .ret (.bool x82))
 else (
 lkN p0 fun x110 =>
 .ld (x110.add 13) .bool fun x112 =>
 .ret (.bool x112)))
 else (
 lkN p0 fun x85 =>
 .ld (x85.add 11) .slice fun x87 =>
 .look (opS Tryz.prog (.indexAddr bR (.tmp 0) (.const (.int .i64 0))) aF [(.slice x87.a x87.len x87.cap)]) (.one (.leaf .addr)) fun x88 =>
 .ld x88 .ptr fun x89 =>
 .call iq [(.pointer x89), (.pointer p1)] (.one (.leaf .bool)) fun x91 =>
 bif x91 then (
 lkN p0 fun x94 =>
 .ld (x94.add 11) .slice fun x96 =>
 .look (opS Tryz.prog (.slice bR (.tmp 0) (some (.const (.int .i64 1))) none none) bR [(.slice x96.a x96.len x96.cap)]) (.one (.leaf .slice)) fun x97 =>
 lkN p0 fun x98 =>
 .st (x98.add 11) (.slice x97.a x97.len x97.cap) <|
 lkN p0 fun x102 =>
 .ld (x102.add 11) .slice fun x104 =>
 lkN p0 fun x107 =>
 .st (x107.add 13) (.bool ((((x104.len : Nat) : Int) : Int) == 0)) <|
 lkN p0 fun x110 =>
 .ld (x110.add 13) .bool fun x112 =>
 .ret (.bool x112))
 else (
 lkN p0 fun x110 =>
 .ld (x110.add 13) .bool fun x112 =>
 .ret (.bool x112))))
 else (
 lkN p0 fun x85 =>
 .ld (x85.add 11) .slice fun x87 =>
 .look (opS Tryz.prog (.indexAddr bR (.tmp 0) (.const (.int .i64 0))) aF [(.slice x87.a x87.len x87.cap)]) (.one (.leaf .addr)) fun x88 =>
 .ld x88 .ptr fun x89 =>
 .call iq [(.pointer x89), (.pointer p1)] (.one (.leaf .bool)) fun x91 =>
 bif x91 then (
 lkN p0 fun x94 =>
 .ld (x94.add 11) .slice fun x96 =>
 .look (opS Tryz.prog (.slice bR (.tmp 0) (some (.const (.int .i64 1))) none none) bR [(.slice x96.a x96.len x96.cap)]) (.one (.leaf .slice)) fun x97 =>
 lkN p0 fun x98 =>
 .st (x98.add 11) (.slice x97.a x97.len x97.cap) <|
 lkN p0 fun x102 =>
 .ld (x102.add 11) .slice fun x104 =>
 lkN p0 fun x107 =>
 .st (x107.add 13) (.bool ((((x104.len : Nat) : Int) : Int) == 0)) <|
 lkN p0 fun x110 =>
 .ld (x110.add 13) .bool fun x112 =>
 .ret (.bool x112))
 else (
 lkN p0 fun x110 =>
 .ld (x110.add 13) .bool fun x112 =>
 .ret (.bool x112)))))
theorem qO {p0 : Option Addr} {p1 : Option Addr} : SpT gG #[(.pointer p0), (.pointer p1)] (oX p0 p1) := spT cJ Tryz.func164 (by kernel_rfl)
noncomputable def oH (p0 : Option Addr) : Tree :=
 lkN p0 fun x4 =>
 .ld (x4.add 13) .bool fun x6 =>
 bif (!x6) then (
 .ret (.slice none 0 0))
 else (
 lkN p0 fun x9 =>
 .ld (x9.add 12) .slice fun x11 =>
 .act (opS Tryz.prog (.call { callee := .builtin .append, args := #[(.const (.slice none 0 0)), (.tmp 0)], argTypes := #[bK, bK] }) bK [(.slice x11.a x11.len x11.cap)]) (.one (.leaf .slice)) fun x12 =>
 .ret (.slice x12.a x12.len x12.cap))
theorem qS {p0 : Option Addr} : SpT kq #[(.pointer p0)] (oH p0) := spT cJ Tryz.func157 (by kernel_rfl)
structure Sc where
  tw : Int
  ta : Int
  pl : Pl
  work : Int
  word : Int
  l : List Int
  seen : List (Int × Bool)
  sorted : Bool
  frees : List Fe
  left : List Int
  ended : Bool
abbrev Tri := Nat × Nat × Nat
structure ScJ where
  q : Nat
  mq : Nat
  ls : Sl
  fs : Sl
  ds : Sl
  fj : List Tri
  tls : Bl
  tfs : Bl
  tds : Bl
def fbl : List Fe → List Tri → Bl
  | x :: xs, j :: js => x.bl j ++ fbl xs js
  | _, _ => []
theorem zT {x : Fe} {j : Tri} : ∀ {xs : List Fe} {js : List Tri}, xs.length = js.length → fbl (xs ++ [x]) (js ++ [j]) = fbl xs js ++ x.bl j
  | [], [], _ => by simp [fbl]
  | y :: xs, k :: js, h => by
    have := zT (x := x) (j := j) (xs := xs) (js := js) (by simpa using h)
    simp only [List.cons_append, fbl, this, List.append_assoc]
  | [], _ :: _, h => by simp at h
  | _ :: _, [], h => by simp at h
def scC (tw ta : Int) (p : Pl) (work word : Int) (ls : Sl) (mq : Nat) (fs ds : Sl) (ended : Bool) : List Value :=
  [.int .i64 tw, .int .i64 ta, .int .i64 p.work, .int .i64 p.heads, .int .i64 p.links, .int .i64 p.gens, .int .i64 p.carved, .int .i64 work, .int .i64 word, .slice ls.a ls.len ls.cap, .map (some mq), .slice fs.a fs.len fs.cap, .slice ds.a ds.len ds.cap, .bool ended]
def Sc.cells (m : Sc) (j : ScJ) : List Value := scC m.tw m.ta m.pl m.work m.word j.ls j.mq j.fs j.ds m.ended
def Sc.map (m : Sc) (j : ScJ) : Bl := if m.sorted then [] else [(j.mq, bJ Value.bool m.seen)]
def Sc.bl (m : Sc) (j : ScJ) : Bl := [(j.q, oc bD (m.cells j))] ++ (m.map j ++ (fbl m.frees j.fj ++ (j.tls ++ (j.tfs ++ j.tds))))
structure Sc.rep (m : Sc) (j : ScJ) : Prop where
  ls : dH j.tls aP eI j.ls m.l
  fs : ir j.tfs cD eP j.fs (j.fj.map (·.1))
  ds : dH j.tds aP eI j.ds m.left
  fl : m.frees.length = j.fj.length
  un : m.sorted = false → j.fs = ⟨none, 0, 0⟩ ∧ j.ds = ⟨none, 0, 0⟩ ∧ j.tfs = [] ∧ j.tds = []
theorem elF : Cv bR cD 1 := ⟨⟨_, _, rfl, rfl, rfl, by decide, by decide, rfl, rfl⟩⟩
def inS (seen : List (Int × Bool)) (h : Int) : Bool := (alGet seen h).getD false
def Sc.eN (m : Sc) (n : Nat) : Sc := { m with frees := ((m.l.take n).filter fun h => !inS m.seen h).map (eR m.pl m.work), left := (m.l.take n).filter (inS m.seen) }
def Sc.sort (m : Sc) : Sc := { m.eN m.l.length with sorted := true, ended := decide ((m.eN m.l.length).frees = []) }
theorem yN {p : Int → Bool} {l : List Int} {n : Nat} (h : n < l.length) : (l.take (n + 1)).filter p = (l.take n).filter p ++ if p (l.getD n 0) then [l.getD n 0] else [] := by
  have e : l.take (n + 1) = l.take n ++ [l.getD n 0] := by
    rw [List.take_add_one, List.getD_eq_getElem?_getD, List.getElem?_eq_getElem h]; rfl
  rw [e, List.filter_append]
  congr 1
  unfold List.filter
  cases p (l.getD n 0) <;> rfl
theorem Sc.Hx {m : Sc} (j : ScJ) (h : m.sorted = false) : m.bl j = (j.q, oc bD (m.cells j)) :: (j.mq, bJ Value.bool m.seen) :: (fbl m.frees j.fj ++ (j.tls ++ (j.tfs ++ j.tds))) := by
  unfold Sc.bl Sc.map; rw [h]; rfl
theorem Sc.K0 {m : Sc} (j : ScJ) (h : m.sorted = true) : m.bl j = (j.q, oc bD (m.cells j)) :: (fbl m.frees j.fj ++ (j.tls ++ (j.tfs ++ j.tds))) := by
  unfold Sc.bl Sc.map; rw [h]; rfl
section
variable {L : aZ} {R : Value → Heap → Prop} {A : Ar} {I : List Nat} {G : Heap}
structure Srt (I : List Nat) (G : Heap) (A : Ar) (m : Sc) (q mq : Nat) (ls : Sl) (i : Int) (H : Heap) (j : ScJ) : Prop where
  i0 : 0 ≤ i
  i1 : i ≤ m.l.length
  eH : H = own A ((m.eN i.toNat).bl j) G
  ok : Ok I G (keys ((m.eN i.toNat).bl j))
  eq : j.q = q
  eM : j.mq = mq
  eL : j.ls = ls
  ls : dH j.tls aP eI j.ls m.l
  fs : dH j.tfs cD eP j.fs (j.fj.map (·.1))
  ds : dH j.tds aP eI j.ds (m.eN i.toNat).left
  fl : (m.eN i.toNat).frees.length = j.fj.length
set_option maxHeartbeats 1000000 in
theorem GN (m : Sc) (j : ScJ) (hA : Aw I A) (ok : Ok I G (keys (m.bl j))) (rp : m.rep j) (hs : m.sorted = false) (hf : m.frees = []) (hd : m.left = []) (hl : m.l.length ≤ 1000) :
    cB Tryz.prog iO #[.pointer (some ⟨j.q, 0, none⟩)] (own A (m.bl j) G) fun v K => ∃ j', v = .tuple #[] ∧ K = own A (m.sort.bl j') G ∧ j'.q = j.q ∧ Ok I G (keys (m.sort.bl j')) ∧ m.sort.rep j' := by
  refine rU fun L => ?_
  unfold nO
  obtain ⟨u1, u2, u3, u4⟩ := rp.un hs
  have efj : j.fj = [] := List.eq_nil_of_length_eq_zero (by rw [← rp.fl, hf]; rfl)
  have e0 : m.eN 0 = m := by cases m; simp only at hf hd; subst hf; subst hd; rfl
  repeat (first
  | refine aa.2 ?_
  | refine aS 0 hA ok rfl rfl rfl ?_)
  refine NL (fun i H => ∃ j', Srt I G A m j.q j.mq j.ls i H j') (fun i => (m.l.length - i).toNat) 0 ⟨j, Int.le_refl 0, by omega, by rw [show (0 : Int).toNat = 0 from rfl, e0], by rw [show (0 : Int).toNat = 0 from rfl, e0]; exact ok, rfl, rfl, rfl, rp.ls, ?_, by rw [show (0 : Int).toNat = 0 from rfl, e0]; exact rp.ds, by rw [show (0 : Int).toNat = 0 from rfl, e0]; exact rp.fl⟩ ?_
  · rw [u1, u3, efj]; exact .inl ⟨rfl, rfl⟩
  rintro i H ⟨j1, hS⟩
  obtain ⟨i0, i1, eH, ok1, eq, eM, eL, hls, hfs, hds, hfl⟩ := hS
  subst eH
  have hsu : (m.eN i.toNat).sorted = false := hs
  have hlen := hls.len
  rw [Sc.Hx j1 hsu] at ok1 ⊢
  have ok := ok1
  rw [lF, ← eL, ← eq]
  by_cases hi : i < m.l.length
  · refine av (decide_eq_true (by show i < ((j1.ls.len : Nat) : Int); rw [hlen]; exact hi)) ?_
    refine NR hA ok (hls.mono fun p hp => ?_) i0 hi ?_
    · exact List.mem_cons_of_mem _ (List.mem_cons_of_mem _ (List.mem_append_right _ (List.mem_append_left _ hp)))
    repeat (first
  | refine aa.2 ?_
  | refine aS 0 hA ok rfl rfl rfl ?_)
    refine CQ 1 (y := inS m.seen (m.l.getD i.toNat 0)) hA ok rfl rfl rfl rfl rfl ?_ ?_
    · unfold inS
      have e : alGet (m.eN i.toNat).seen (m.l.getD (Int.toNat (i, ()).fst) 0) = alGet m.seen (m.l.getD i.toNat 0) := rfl
      rw [e]
      cases alGet m.seen (m.l.getD i.toNat 0) <;> rfl
    have ht : i.toNat < m.l.length := by omega
    have e1 : w64 (i + 1) = i + 1 := aE (by omega) (by omega)
    have e2 : (i + 1).toNat = i.toNat + 1 := by omega
    have fl : (m.eN (i.toNat + 1)).left = (m.eN i.toNat).left ++ if inS m.seen (m.l.getD i.toNat 0) then [m.l.getD i.toNat 0] else [] := yN ht
    have ff : (m.eN (i.toNat + 1)).frees = (m.eN i.toNat).frees ++ if inS m.seen (m.l.getD i.toNat 0) then [] else [eR m.pl m.work (m.l.getD i.toNat 0)] := by
      show ((m.l.take (i.toNat + 1)).filter fun h => !inS m.seen h).map (eR m.pl m.work) = ((m.l.take i.toNat).filter fun h => !inS m.seen h).map (eR m.pl m.work) ++ _
      rw [yN ht, List.map_append]
      cases inS m.seen (m.l.getD i.toNat 0) <;> rfl
    have hll : (m.eN i.toNat).left.length ≤ 1000 := Nat.le_trans (List.length_filter_le _ _) (by rw [List.length_take]; omega)
    have hlf : (m.eN i.toNat).frees.length ≤ 1000 := by
      show (((m.l.take i.toNat).filter fun h => !inS m.seen h).map (eR m.pl m.work)).length ≤ 1000
      rw [List.length_map]
      exact Nat.le_trans (List.length_filter_le _ _) (by rw [List.length_take]; omega)
    generalize hh : m.l.getD i.toNat 0 = h at fl ff ⊢
    by_cases hin : inS m.seen h = true
    · rw [if_pos hin] at fl ff
      refine av hin ?_
      repeat (first
  | refine aa.2 ?_
  | refine aS 0 hA ok rfl rfl rfl ?_)
      refine l6 hA ok fun g ok => ?_
      obtain ⟨p1, ok2⟩ := aN (A := A) (l' := (j1.q, oc bD ((m.eN i.toNat).cells j1)) :: (j1.mq, bJ Value.bool (m.eN i.toNat).seen) :: (fbl (m.eN i.toNat).frees j1.fj ++ (j1.tls ++ j1.tfs)) ++ (((g, oc aP [.int .i64 h]) :: j1.tds) ++ [])) ok (aT fun c d c0 cd ca => by simp only [cd, ca, c0]; omega)
      rw [p1]
      have ok := ok2
      refine qm (E := eI) elI _ (xs := (m.eN i.toNat).left) (ys := [h]) (t := ⟨some ⟨g, 0, none⟩, 1, 1⟩) hA ok (hds.mono fun p hp => List.mem_cons_of_mem _ hp) ?_ rfl (by simp only [List.length_cons, List.length_nil]; omega) fun s' mid' hs' ok => ?_
      · exact jz (c := [.int .i64 h]) hA ok (List.mem_append_right _ (List.mem_append_left _ List.mem_cons_self)) 0 rfl
      repeat (first
  | refine aa.2 ?_
  | refine cA 0 hA ok rfl rfl rfl rfl ?_)
      rw [List.append_nil] at ff
      have hp : ((j1.q, oc bD ((m.eN (i.toNat + 1)).cells { j1 with ds := s', tds := mid' })) :: (j1.mq, bJ Value.bool (m.eN (i.toNat + 1)).seen) :: (fbl (m.eN i.toNat).frees j1.fj ++ (j1.tls ++ j1.tfs)) ++ (mid' ++ [])).Perm ((m.eN (i.toNat + 1)).bl { j1 with ds := s', tds := mid' }) := by
        rw [Sc.Hx (m := m.eN (i.toNat + 1)) _ hs, ff]
        dsimp only
        exact (aT fun c d c0 cd ca => by simp only [cd, ca, c0]; omega)
      refine cR ⟨i + 1, by rw [e1], ⟨{ j1 with ds := s', tds := mid' }, by omega, by omega, ?_, ?_, rfl, eM, rfl, hls, hfs, ?_, ?_⟩, by omega⟩
      · rw [e2]; exact (kC (A := A) hp ok).1
      · rw [e2]; exact (kC (A := A) hp ok).2
      · rw [e2, fl]; exact hs'
      · rw [e2, ff]; exact hfl
    · rw [if_neg hin] at fl ff
      rw [List.append_nil] at fl
      refine af (by simpa using hin) ?_
      repeat (first
  | refine aa.2 ?_
  | refine aS 0 hA ok rfl rfl rfl ?_
  | refine fy 0 hA ok rfl rfl rfl ?_)
      refine Be (p := m.pl) (w := m.work) hA ok fun jf ok => ?_
      repeat (first
  | refine iC 3 hA ok rfl rfl rfl ?_
  | refine fS rfl ?_)
      refine l6 hA ok fun g ok => ?_
      repeat (first
  | refine iC 4 hA ok rfl rfl rfl ?_
  | refine fS rfl ?_)
      obtain ⟨p1, ok2⟩ := aN (A := A) (l' := (j1.q, oc bD ((m.eN i.toNat).cells j1)) :: (j1.mq, bJ Value.bool (m.eN i.toNat).seen) :: (fbl (m.eN i.toNat).frees j1.fj ++ ((eR m.pl m.work h).bl jf ++ j1.tls)) ++ (((g, oc cD [.pointer (some ⟨jf.1, 0, none⟩)]) :: j1.tfs) ++ j1.tds)) ok (aT fun c d c0 cd ca => by simp only [cd, ca, c0]; omega)
      rw [p1]
      have ok := ok2
      refine qm (E := eP) elF _ (xs := j1.fj.map (·.1)) (ys := [jf.1]) (t := ⟨some ⟨g, 0, none⟩, 1, 1⟩) hA ok (hfs.mono fun p hp => List.mem_cons_of_mem _ hp) ?_ rfl (by simp only [List.length_cons, List.length_nil, List.length_map]; omega) fun s' mid' hs' ok => ?_
      · exact jz (c := [.pointer (some ⟨jf.1, 0, none⟩)]) hA ok (List.mem_append_right _ (List.mem_append_left _ List.mem_cons_self)) 0 rfl
      repeat (first
  | refine aa.2 ?_
  | refine cA 0 hA ok rfl rfl rfl rfl ?_)
      have hp : ((j1.q, oc bD ((m.eN (i.toNat + 1)).cells { j1 with fs := s', tfs := mid', fj := j1.fj ++ [jf] })) :: (j1.mq, bJ Value.bool (m.eN (i.toNat + 1)).seen) :: (fbl (m.eN i.toNat).frees j1.fj ++ ((eR m.pl m.work h).bl jf ++ j1.tls)) ++ (mid' ++ j1.tds)).Perm ((m.eN (i.toNat + 1)).bl { j1 with fs := s', tfs := mid', fj := j1.fj ++ [jf] }) := by
        rw [Sc.Hx (m := m.eN (i.toNat + 1)) _ hs, ff]
        dsimp only
        rw [zT hfl]
        exact (aT fun c d c0 cd ca => by simp only [cd, ca, c0]; omega)
      refine cR ⟨i + 1, by rw [e1], ⟨{ j1 with fs := s', tfs := mid', fj := j1.fj ++ [jf] }, by omega, by omega, ?_, ?_, rfl, eM, rfl, hls, ?_, ?_, ?_⟩, by omega⟩
      · rw [e2]; exact (kC (A := A) hp ok).1
      · rw [e2]; exact (kC (A := A) hp ok).2
      · rw [List.map_append]; exact hs'
      · rw [e2, fl]; exact hds
      · rw [e2, ff, List.length_append, List.length_append, hfl]; rfl
  · refine af (decide_eq_false (by show ¬ i < ((j1.ls.len : Nat) : Int); rw [hlen]; exact hi)) ?_
    have ei : i.toNat = m.l.length := by omega
    rw [ei] at hds hfl ok ⊢
    repeat (first
  | refine aa.2 ?_
  | refine aS 0 hA ok rfl rfl rfl ?_)
    refine Lx 1 (es := (mapEs Value.bool m.seen 0).toArray) hA ok rfl rfl ?_
    repeat (first
  | refine aa.2 ?_
  | refine aS 0 hA ok rfl rfl rfl ?_
  | refine cA 0 hA ok rfl rfl rfl rfl ?_)
    have hfl2 := hfs.len
    rw [List.length_map, ← hfl] at hfl2
    have hE : scC m.tw m.ta m.pl m.work m.word j1.ls j1.mq j1.fs j1.ds (((j1.fs.len : Nat) : Int) == 0) = m.sort.cells j1 := by
      show _ = scC m.tw m.ta m.pl m.work m.word j1.ls j1.mq j1.fs j1.ds (decide ((m.eN m.l.length).frees = []))
      congr 1
      rw [hfl2]
      cases (m.eN m.l.length).frees <;> simp
      omega
    have key : ∀ L, wp Tryz.prog (.ret (.tuple #[])) L (own A ((j1.q, oc bD (m.sort.cells j1)) :: (j1.mq, .map #[] m.seen.length) :: (fbl m.sort.frees j1.fj ++ (j1.tls ++ (j1.tfs ++ j1.tds)))) G) fun v K => ∃ j', v = .tuple #[] ∧ K = own A (m.sort.bl j') G ∧ j'.q = j1.q ∧ Ok I G (keys (m.sort.bl j')) ∧ m.sort.rep j' := by
      intro L
      have ok3 : Ok I G (keys ((j1.q, oc bD (m.sort.cells j1)) :: (j1.mq, .map #[] m.seen.length) :: (fbl m.sort.frees j1.fj ++ (j1.tls ++ (j1.tfs ++ j1.tds))))) := ok
      have nd := ok3.nd
      have e3 : m.sort.bl j1 = (j1.q, oc bD (m.sort.cells j1)) :: (fbl m.sort.frees j1.fj ++ (j1.tls ++ (j1.tfs ++ j1.tds))) := Sc.K0 j1 rfl
      have ok4 : Ok I G (keys (m.sort.bl j1)) := by
        rw [e3]
        refine ok3.sub ?_ fun b hb => ?_
        · simp only [keys, List.map_cons, List.nodup_cons, List.mem_cons, not_or] at nd ⊢
          exact ⟨nd.1.2, nd.2.2⟩
        · simp only [keys, List.map_cons, List.mem_cons] at hb ⊢
          rcases hb with h | h
          · exact .inl h
          · exact .inr (.inr h)
      refine ⟨own A (m.sort.bl j1) G, kh ok3 ok4.nd fun p hp => ?_, j1, rfl, rfl, rfl, ok4, ⟨hls, hfs.at', hds, hfl, fun h => by cases h⟩⟩
      rw [e3] at hp
      rcases List.mem_cons.1 hp with h | h
      · rw [h]; exact List.mem_cons_self
      · exact List.mem_cons_of_mem _ (List.mem_cons_of_mem _ h)
    rw [← hE] at key
    exact key _
end
noncomputable def zb (p0 : Int) (p1 : Int) : Tree :=
 .dk (.cells #[(.int .i64 0), (.int .i64 0)] c9) fun x4 =>
 .stA x4 [(.int .i64 p0), (.int .i64 p1)] <|
 .look (ldK x4 2 0 #[] fun r0 => .pure (.value (.tuple #[(.agg r0), (.int .i64 (w64 (1 + (imax p0 0))))]))) (.tup [(.agg [(.int .i64), (.int .i64)]), (.leaf (.int .i64))]) fun r => .ret (Sh.fq (.tup [(.agg [(.int .i64), (.int .i64)]), (.leaf (.int .i64))]) r)
theorem yl {p0 : Int} {p1 : Int} : SpT pM #[(.int .i64 p0), (.int .i64 p1)] (zb p0 p1) := spT bU Tryz.func121 (by kernel_rfl)
noncomputable def n9 (p0_0 : Int) (p0_1 : Int) (p1 : Int) : Tree :=
 .dk (.cells #[(.int .i64 p0_0), (.int .i64 p0_1)] c9) fun x2 =>
 .ld (x2.add 1) (.int .i64) fun x6 =>
 .ret (.int .i64 (w64 ((w64 (x6 + 1)) + p1)))
theorem qW {p0_0 : Int} {p0_1 : Int} {p1 : Int} : SpT fK #[(.agg #[(.int .i64 p0_0), (.int .i64 p0_1)]), (.int .i64 p1)] (n9 p0_0 p0_1 p1) := spT bU Tryz.func111 (by kernel_rfl)
noncomputable def mI (p0_0 : Int) (p0_1 : Int) : Tree :=
 .dk (.cells #[(.int .i64 p0_0), (.int .i64 p0_1)] c9) fun x1 =>
 .ld (x1.add 1) (.int .i64) fun x4 =>
 .ret (.int .i64 x4)
theorem o6 {p0_0 : Int} {p0_1 : Int} : SpT dp #[(.agg #[(.int .i64 p0_0), (.int .i64 p0_1)])] (mI p0_0 p0_1) := spT bU Tryz.func124 (by kernel_rfl)
noncomputable def uk (p0_0 : Int) (p0_1 : Int) (p1 : Int) : Tree :=
 .dk (.cells #[(.int .i64 p0_0), (.int .i64 p0_1)] c9) fun x2 =>
 .ldA x2 [(.int .i64), (.int .i64)] fun x6 =>
 .dk (.cells #[(.int .i64 x6.1), (.int .i64 x6.2.1), (.int .i64 p1), (.int .i64 0), .nilFunc] iP) fun x9 =>
 lkN (some x9) fun x13 =>
 .st (x13.add 4) (.func (.func gC) #[(.pointer (some x9))] #[]) <|
 .ret (.pointer (some x9))
theorem vD {p0_0 : Int} {p0_1 : Int} {p1 : Int} : SpT oC #[(.agg #[(.int .i64 p0_0), (.int .i64 p0_1)]), (.int .i64 p1)] (uk p0_0 p0_1 p1) := spT bU Tryz.func109 (by kernel_rfl)
noncomputable def oO (p0 : Option Addr) (p1 : Option Addr) : Tree :=
 lkN p0 fun x7 =>
 .ldA x7 [(.int .i64), (.int .i64)] fun x9 =>
 .cU dp [(.agg #[(.int .i64 x9.1), (.int .i64 x9.2.1)])] (.one (.leaf (.int .i64))) fun x10 =>
 .call bQ [(.pointer p1), (.int .i64 x10)] (.one (.leaf (.int .i64))) fun x11 =>
 lkN p0 fun x12 =>
 .st (x12.add 3) (.int .i64 x11) <|
 lkN p0 fun x17 =>
 .st (x17.add 4) (.func (.func gR) #[(.pointer p0)] #[]) <|
 .ret (.tuple #[])
theorem ru {p0 : Option Addr} {p1 : Option Addr} : SpT gC #[(.pointer p0), (.pointer p1)] (oO p0 p1) := spT bU Tryz.func122 (by kernel_rfl)
noncomputable def tD (p0 : Option Addr) (p1 : Option Addr) : Tree :=
 lkN p0 fun x6 =>
 .ldA x6 [(.int .i64), (.int .i64)] fun x8 =>
 lkN p0 fun x10 =>
 .ld (x10.add 2) (.int .i64) fun x12 =>
 .cU fK [(.agg #[(.int .i64 x8.1), (.int .i64 x8.2.1)]), (.int .i64 x12)] (.one (.leaf (.int .i64))) fun x13 =>
 lkN p0 fun x15 =>
 .ld (x15.add 3) (.int .i64) fun x17 =>
 .call bV [(.pointer p1), (.int .i64 x13), (.int .i64 (w64 (x17 + 1)))] .unit fun _ =>
 lkN p0 fun x23 =>
 .st (x23.add 4) (.func (.func gV) #[(.pointer p0)] #[]) <|
 .ret (.tuple #[])
theorem ux {p0 : Option Addr} {p1 : Option Addr} : SpT gR #[(.pointer p0), (.pointer p1)] (tD p0 p1) := spT bU Tryz.func125 (by kernel_rfl)
noncomputable def pG (p0 : Option Addr) (p1 : Option Addr) : Tree :=
 lkN p0 fun x6 =>
 .ld (x6.add 3) (.int .i64) fun x8 =>
 lkN p0 fun x12 =>
 .ldA x12 [(.int .i64), (.int .i64)] fun x14 =>
 .cU dp [(.agg #[(.int .i64 x14.1), (.int .i64 x14.2.1)])] (.one (.leaf (.int .i64))) fun x15 =>
 .call bQ [(.pointer p1), (.int .i64 x15)] (.one (.leaf (.int .i64))) fun x16 =>
 lkN p0 fun x17 =>
 .st (x17.add 3) (.int .i64 x16) <|
 lkN p0 fun x22 =>
 .st (x22.add 4) (.func (.func gR) #[(.pointer p0)] #[]) <|
 lkN p0 fun x25 =>
 .ld (x25.add 3) (.int .i64) fun x27 =>
 bif ((x27 : Int) == x8) then (
 lkN p0 fun x31 =>
 .st (x31.add 4) .nilFunc <|
 .ret (.tuple #[]))
 else (
 .ret (.tuple #[]))
theorem sA {p0 : Option Addr} {p1 : Option Addr} : SpT gV #[(.pointer p0), (.pointer p1)] (pG p0 p1) := spT bU Tryz.func128 (by kernel_rfl)
noncomputable def qX (p0 : Option Addr) (p1 : Option Addr) : Tree :=
 lkN p0 fun x6 =>
 .ld (x6.add 4) .val fun x8 =>
 .look (opS Tryz.prog (.binOp .neq bG (.tmp 0) (.const .nilFunc) bG) aO [x8]) (.one (.leaf .bool)) fun x9 =>
 bif x9 then (
 lkN p0 fun x11 =>
 .ld (x11.add 4) .val fun x13 =>
 .act (opS Tryz.prog (.call { callee := .value (.tmp 0), args := #[(.tmp 1)], argTypes := #[aK] }) aF [x13, (.pointer p1)]) .unit fun _ =>
 lkN p0 fun x17 =>
 .ld (x17.add 4) .val fun x19 =>
 .look (opS Tryz.prog (.binOp .eql bG (.tmp 0) (.const .nilFunc) bG) aO [x19]) (.one (.leaf .bool)) fun x20 =>
 .ret (.bool x20))
 else (
 lkN p0 fun x17 =>
 .ld (x17.add 4) .val fun x19 =>
 .look (opS Tryz.prog (.binOp .eql bG (.tmp 0) (.const .nilFunc) bG) aO [x19]) (.one (.leaf .bool)) fun x20 =>
 .ret (.bool x20))
theorem tP {p0 : Option Addr} {p1 : Option Addr} : SpT jK #[(.pointer p0), (.pointer p1)] (qX p0 p1) := spT bU Tryz.func161 (by kernel_rfl)
noncomputable def tJ (p0_0 : Int) (p0_1 : Int) (p1_0 : Int) (p1_1 : Int) (p1_2 : Int) (p1_3 : Int) (p1_4 : Int) (p2 : Int) (p3 : Sl) : Tree :=
 .dk (.cells #[(.int .i64 p0_0), (.int .i64 p0_1)] c9) fun x4 =>
 .dk (.cells #[(.int .i64 p1_0), (.int .i64 p1_1), (.int .i64 p1_2), (.int .i64 p1_3), (.int .i64 p1_4)] bn) fun x5 =>
 .ldA x4 [(.int .i64), (.int .i64)] fun x10 =>
 .ldA x5 [(.int .i64), (.int .i64), (.int .i64), (.int .i64), (.int .i64)] fun x11 =>
 .dk (.cells #[(.int .i64 x10.1), (.int .i64 x10.2.1), (.int .i64 x11.1), (.int .i64 x11.2.1), (.int .i64 x11.2.2.1), (.int .i64 x11.2.2.2.1), (.int .i64 x11.2.2.2.2.1), (.int .i64 p2), (.int .i64 0), (.int .i64 0), (.slice none 0 0), (.slice none 0 0), (.slice none 0 0), .nilFunc] cr) fun x14 =>
 lkN (some x14) fun x17 =>
 .ld (x17.add 10) .slice fun x19 =>
 .act (opS Tryz.prog (.call { callee := .builtin .append, args := #[(.tmp 0), (.tmp 1)], argTypes := #[aQ, aQ] }) aQ [(.slice x19.a x19.len x19.cap), (.slice p3.a p3.len p3.cap)]) (.one (.leaf .slice)) fun x21 =>
 lkN (some x14) fun x22 =>
 .st (x22.add 10) (.slice x21.a x21.len x21.cap) <|
 lkN (some x14) fun x27 =>
 .st (x27.add 13) (.func (.func dT) #[(.pointer (some x14))] #[]) <|
 .ret (.pointer (some x14))
theorem uN {p0_0 : Int} {p0_1 : Int} {p1_0 : Int} {p1_1 : Int} {p1_2 : Int} {p1_3 : Int} {p1_4 : Int} {p2 : Int} {p3 : Sl} : SpT mK #[(.agg #[(.int .i64 p0_0), (.int .i64 p0_1)]), (.agg #[(.int .i64 p1_0), (.int .i64 p1_1), (.int .i64 p1_2), (.int .i64 p1_3), (.int .i64 p1_4)]), (.int .i64 p2), (.slice p3.a p3.len p3.cap)] (tJ p0_0 p0_1 p1_0 p1_1 p1_2 p1_3 p1_4 p2 p3) := spT bU Tryz.func116 (by kernel_rfl)
noncomputable def mZ (p0 : Option Addr) (p1 : Option Addr) : Tree :=
 lkN p0 fun x7 =>
 .ldA x7 [(.int .i64), (.int .i64)] fun x9 =>
 .cU dp [(.agg #[(.int .i64 x9.1), (.int .i64 x9.2.1)])] (.one (.leaf (.int .i64))) fun x10 =>
 .call bQ [(.pointer p1), (.int .i64 x10)] (.one (.leaf (.int .i64))) fun x11 =>
 lkN p0 fun x12 =>
 .st (x12.add 8) (.int .i64 x11) <|
 lkN p0 fun x17 =>
 .st (x17.add 13) (.func (.func fv) #[(.pointer p0)] #[]) <|
 lkN p0 fun x20 =>
 .ld x20 (.int .i64) fun x23 =>
 bif (decide ((x23 : Int) < 1)) then (
 lkN p0 fun x28 =>
 .st (x28.add 13) (.func (.func df) #[(.pointer p0)] #[]) <|
 .ret (.tuple #[]))
 else (
 .ret (.tuple #[]))
theorem qq {p0 : Option Addr} {p1 : Option Addr} : SpT dT #[(.pointer p0), (.pointer p1)] (mZ p0 p1) := spT bU Tryz.func123 (by kernel_rfl)
noncomputable def pB (p0 : Option Addr) (p1 : Option Addr) : Tree :=
 lkN p0 fun x7 =>
 .ldA x7 [(.int .i64), (.int .i64)] fun x9 =>
 lkN p0 fun x11 =>
 .ld (x11.add 9) (.int .i64) fun x13 =>
 .cU fK [(.agg #[(.int .i64 x9.1), (.int .i64 x9.2.1)]), (.int .i64 x13)] (.one (.leaf (.int .i64))) fun x14 =>
 .call bQ [(.pointer p1), (.int .i64 x14)] (.one (.leaf (.int .i64))) fun x15 =>
 lkN p0 fun x17 =>
 .ld (x17.add 9) (.int .i64) fun x19 =>
 lkN p0 fun x21 =>
 .st (x21.add 9) (.int .i64 (w64 (x19 + 1))) <|
 bif ((x15 : Int) != 0) then (
 lkN p0 fun x29 =>
 .ld (x29.add 8) (.int .i64) fun x31 =>
 bif ((x15 : Int) != (w64 (x31 + 1))) then (
 .call g7 [(.pointer p0)] .unit fun _ =>
 .ret (.tuple #[]))
 else (
 lkN p0 fun x39 =>
 .ld (x39.add 9) (.int .i64) fun x41 =>
 lkN p0 fun x43 =>
 .ld x43 (.int .i64) fun x46 =>
 bif ((x41 : Int) == x46) then (
 lkN p0 fun x51 =>
 .st (x51.add 13) (.func (.func df) #[(.pointer p0)] #[]) <|
 .ret (.tuple #[]))
 else (
 .ret (.tuple #[]))))
 else (
 lkN p0 fun x39 =>
 .ld (x39.add 9) (.int .i64) fun x41 =>
 lkN p0 fun x43 =>
 .ld x43 (.int .i64) fun x46 =>
 bif ((x41 : Int) == x46) then (
 lkN p0 fun x51 =>
 .st (x51.add 13) (.func (.func df) #[(.pointer p0)] #[]) <|
 .ret (.tuple #[]))
 else (
 .ret (.tuple #[])))
theorem sM {p0 : Option Addr} {p1 : Option Addr} : SpT fv #[(.pointer p0), (.pointer p1)] (pB p0 p1) := spT bU Tryz.func126 (by kernel_rfl)
noncomputable def pV (p0 : Option Addr) (p1 : Option Addr) : Tree :=
 lkN p0 fun x6 =>
 .ldA x6 [(.int .i64), (.int .i64)] fun x8 =>
 .cU dp [(.agg #[(.int .i64 x8.1), (.int .i64 x8.2.1)])] (.one (.leaf (.int .i64))) fun x9 =>
 lkN p0 fun x11 =>
 .ld (x11.add 8) (.int .i64) fun x13 =>
 lkN p0 fun x15 =>
 .ld (x15.add 8) (.int .i64) fun x17 =>
 .call cE [(.pointer p1), (.int .i64 x9), (.int .i64 x13), (.int .i64 (w64 (x17 + 1)))] (.one (.leaf .bool)) fun x19 =>
 bif x19 then (
 lkN p0 fun x21 =>
 .ld (x21.add 8) (.int .i64) fun x23 =>
 lkN p0 fun x25 =>
 .st (x25.add 8) (.int .i64 (w64 (x23 + 1))) <|
 .call g7 [(.pointer p0)] .unit fun _ =>
 .ret (.tuple #[]))
 else (
 .call g7 [(.pointer p0)] .unit fun _ =>
 .ret (.tuple #[]))
theorem sv {p0 : Option Addr} {p1 : Option Addr} : SpT df #[(.pointer p0), (.pointer p1)] (pV p0 p1) := spT bU Tryz.func127 (by kernel_rfl)
@[reducible] def kA : List Sh1 := [(.leaf (.int .i64))]
noncomputable def mo (p0 : Option Addr) (x7 : Sl) (y1 : HL Sh1.T kA) : Tree :=
 bif (decide ((y1.1 : Int) < ((x7.len : Nat) : Int))) then (
 .look (opS Tryz.prog (.indexAddr aQ (.tmp 0) (.tmp 1)) aF [(.slice x7.a x7.len x7.cap), (.int .i64 y1.1)]) (.one (.leaf .addr)) fun x11 =>
 .ldA x11 [(.int .i64), (.int .i64)] fun x12 =>
 .dk (.cells #[(.int .i64 0), (.int .i64 0)] aG) fun x3 =>
 .stA x3 [(.int .i64 x12.1), (.int .i64 x12.2.1)] <|
 .ld (x3.add 1) (.int .i64) fun x14 =>
 lkN p0 fun x17 =>
 .ld (x17.add 8) (.int .i64) fun x19 =>
 bif (decide (((w64 (x14 + 2)) : Int) ≤ x19)) then (
 lkN p0 fun x23 =>
 .ld (x23.add 11) .slice fun x25 =>
 lkN p0 fun x27 =>
 .ldA (x27.add 2) [(.int .i64), (.int .i64), (.int .i64), (.int .i64), (.int .i64)] fun x29 =>
 lkN p0 fun x31 =>
 .ld (x31.add 7) (.int .i64) fun x33 =>
 .ld x3 (.int .i64) fun x35 =>
 .call jk [(.agg #[(.int .i64 x29.1), (.int .i64 x29.2.1), (.int .i64 x29.2.2.1), (.int .i64 x29.2.2.2.1), (.int .i64 x29.2.2.2.2.1)]), (.int .i64 x33), (.int .i64 x35)] (.one (.leaf .ptr)) fun x36 =>
 .check (ldS (x23.add 11)) (.slice x25.a x25.len x25.cap) <|
 .check (nck p0) (.pointer (some x23)) <|
 .qB (.cells #[(.pointer x36)] cD) 1 fun x37 =>
 .check (ldS (x23.add 11)) (.slice x25.a x25.len x25.cap) <|
 .check (nck p0) (.pointer (some x23)) <|
 .act (opS Tryz.prog (.call { callee := .builtin .append, args := #[(.tmp 0), (.tmp 1)], argTypes := #[bR, bR] }) bR [(.slice x25.a x25.len x25.cap), (.slice x37.a x37.len x37.cap)]) (.one (.leaf .slice)) fun x38 =>
 lkN p0 fun x39 =>
 .st (x39.add 11) (.slice x38.a x38.len x38.cap) <|
 .again 64 [(.int .i64 (w64 (y1.1 + 1)))])
 else (
 lkN p0 fun x43 =>
 .ld (x43.add 12) .slice fun x45 =>
 .ldA x3 [(.int .i64), (.int .i64)] fun x46 =>
 .qB (.cells #[(.int .i64 x46.1), (.int .i64 x46.2.1)] aG) 1 fun x47 =>
 .check (ldS (x43.add 12)) (.slice x45.a x45.len x45.cap) <|
 .check (nck p0) (.pointer (some x43)) <|
 .act (opS Tryz.prog (.call { callee := .builtin .append, args := #[(.tmp 0), (.tmp 1)], argTypes := #[aQ, aQ] }) aQ [(.slice x45.a x45.len x45.cap), (.slice x47.a x47.len x47.cap)]) (.one (.leaf .slice)) fun x48 =>
 lkN p0 fun x49 =>
 .st (x49.add 12) (.slice x48.a x48.len x48.cap) <|
 .again 64 [(.int .i64 (w64 (y1.1 + 1)))]))
 else (
 lkN p0 fun x55 =>
 .st (x55.add 13) (.func (.func fw) #[(.pointer p0)] #[]) <|
 lkN p0 fun x58 =>
 .ld (x58.add 11) .slice fun x60 =>
 bif ((((x60.len : Nat) : Int) : Int) == 0) then (
 lkN p0 fun x64 =>
 .st (x64.add 13) .nilFunc <|
 .ret (.tuple #[]))
 else (
 .ret (.tuple #[])))
noncomputable def py (p0 : Option Addr) : Tree :=
 lkN p0 fun x5 =>
 .ld (x5.add 10) .slice fun x7 =>
 .loop 64 kA [(.int .i64 0)] (mo p0 x7)
theorem ti {p0 : Option Addr} : SpT g7 #[(.pointer p0)] (py p0) := spT bU Tryz.func129 (by kernel_rfl)
noncomputable def pL (p0 : Option Addr) (p1 : Option Addr) : Tree :=
 lkN p0 fun x5 =>
 .ld (x5.add 11) .slice fun x7 =>
 .look (opS Tryz.prog (.indexAddr bR (.tmp 0) (.const (.int .i64 0))) aF [(.slice x7.a x7.len x7.cap)]) (.one (.leaf .addr)) fun x8 =>
 .ld x8 .ptr fun x9 =>
 .call iq [(.pointer x9), (.pointer p1)] (.one (.leaf .bool)) fun x11 =>
 bif x11 then (
 lkN p0 fun x14 =>
 .ld (x14.add 11) .slice fun x16 =>
 .look (opS Tryz.prog (.slice bR (.tmp 0) (some (.const (.int .i64 1))) none none) bR [(.slice x16.a x16.len x16.cap)]) (.one (.leaf .slice)) fun x17 =>
 lkN p0 fun x18 =>
 .st (x18.add 11) (.slice x17.a x17.len x17.cap) <|
 lkN p0 fun x21 =>
 .ld (x21.add 11) .slice fun x23 =>
 bif ((((x23.len : Nat) : Int) : Int) == 0) then (
 lkN p0 fun x27 =>
 .st (x27.add 13) .nilFunc <|
 .ret (.tuple #[]))
 else (
 .ret (.tuple #[])))
 else (
 lkN p0 fun x21 =>
 .ld (x21.add 11) .slice fun x23 =>
 bif ((((x23.len : Nat) : Int) : Int) == 0) then (
 lkN p0 fun x27 =>
 .st (x27.add 13) .nilFunc <|
 .ret (.tuple #[]))
 else (
 .ret (.tuple #[])))
theorem sQ {p0 : Option Addr} {p1 : Option Addr} : SpT fw #[(.pointer p0), (.pointer p1)] (pL p0 p1) := spT bU Tryz.func131 (by kernel_rfl)
noncomputable def kQ (p0 : Option Addr) (p1 : Option Addr) : Tree :=
 lkN p0 fun x6 =>
 .ld (x6.add 13) .val fun x8 =>
 .look (opS Tryz.prog (.binOp .neq bG (.tmp 0) (.const .nilFunc) bG) aO [x8]) (.one (.leaf .bool)) fun x9 =>
 bif x9 then (
 lkN p0 fun x11 =>
 .ld (x11.add 13) .val fun x13 =>
 .act (opS Tryz.prog (.call { callee := .value (.tmp 0), args := #[(.tmp 1)], argTypes := #[aK] }) aF [x13, (.pointer p1)]) .unit fun _ =>
 lkN p0 fun x17 =>
 .ld (x17.add 13) .val fun x19 =>
 .look (opS Tryz.prog (.binOp .eql bG (.tmp 0) (.const .nilFunc) bG) aO [x19]) (.one (.leaf .bool)) fun x20 =>
 .ret (.bool x20))
 else (
 lkN p0 fun x17 =>
 .ld (x17.add 13) .val fun x19 =>
 .look (opS Tryz.prog (.binOp .eql bG (.tmp 0) (.const .nilFunc) bG) aO [x19]) (.one (.leaf .bool)) fun x20 =>
 .ret (.bool x20))
theorem kX {p0 : Option Addr} {p1 : Option Addr} : SpT gZ #[(.pointer p0), (.pointer p1)] (kQ p0 p1) := spT bU Tryz.func163 (by kernel_rfl)
noncomputable def pU (p0 : Option Addr) : Tree :=
 lkN p0 fun x4 =>
 .ld (x4.add 13) .val fun x6 =>
 .look (opS Tryz.prog (.binOp .neq bG (.tmp 0) (.const .nilFunc) bG) aO [x6]) (.one (.leaf .bool)) fun x7 =>
 bif x7 then (
 .ret (.slice none 0 0))
 else (
 lkN p0 fun x9 =>
 .ld (x9.add 12) .slice fun x11 =>
 .act (opS Tryz.prog (.call { callee := .builtin .append, args := #[(.const (.slice none 0 0)), (.tmp 0)], argTypes := #[aQ, aQ] }) aQ [(.slice x11.a x11.len x11.cap)]) (.one (.leaf .slice)) fun x12 =>
 .ret (.slice x12.a x12.len x12.cap))
theorem sG {p0 : Option Addr} : SpT kM #[(.pointer p0)] (pU p0) := spT bU Tryz.func156 (by kernel_rfl)
section
variable {L : aZ} {R : Value → Heap → Prop} {A : Ar} {I : List Nat} {l : Bl} {G : Heap}
theorem D3 (tw ta : Int) (H : Heap) : Det Tryz.prog dp [.agg #[.int .i64 tw, .int .i64 ta]] H (.int .i64 ta) H := by
  refine o6 (p0_0 := tw) (p0_1 := ta) fun L => ?_
  unfold mI
  refine dI fun b hb => bL (x := ta) (by rw [Addr.gF, Heap.fE]; rfl) ?_
  exact ⟨H, Heap.dM _ hb, rfl, rfl⟩
theorem qZ {H : Heap} {tw ta : Int} {k : Int → Tree} (h : wp Tryz.prog (k ta) L H R) :
    wp Tryz.prog (.cU dp [.agg #[.int .i64 tw, .int .i64 ta]] (.one (.leaf (.int .i64))) k) L H R := bc (x := ta) (D3 tw ta H) h
def ewd (ta w : Int) : Int := w64 (w64 (ta + 1) + w)
theorem zW {ta w : Int} (b : 0 ≤ ta ∧ ta ≤ 1000000 ∧ 0 ≤ w ∧ w ≤ 1000000) : ewd ta w = ta + 1 + w := by
  unfold ewd; rw [aE (x := ta + 1) (by omega) (by omega), aE (by omega) (by omega)]
theorem HU (tw ta w : Int) (H : Heap) : Det Tryz.prog fK [.agg #[.int .i64 tw, .int .i64 ta], .int .i64 w] H (.int .i64 (ewd ta w)) H := by
  refine qW (p0_0 := tw) (p0_1 := ta) fun L => ?_
  unfold n9
  refine dI fun b hb => bL (x := ta) (by rw [Addr.gF, Heap.fE]; rfl) ?_
  exact ⟨H, Heap.dM _ hb, rfl, rfl⟩
theorem zR {H : Heap} {tw ta w : Int} {k : Int → Tree} (h : wp Tryz.prog (k (ewd ta w)) L H R) :
    wp Tryz.prog (.cU fK [.agg #[.int .i64 tw, .int .i64 ta], .int .i64 w] (.one (.leaf (.int .i64))) k) L H R := bc (x := ewd ta w) (HU tw ta w H) h
theorem Im {w n : Int} (b1 : 0 ≤ w ∧ w ≤ 100000) (H : Heap) : Det Tryz.prog pM [.int .i64 w, .int .i64 n] H (.tuple #[.agg #[.int .i64 w, .int .i64 n], .int .i64 (1 + w)]) H := by
  refine yl fun L => ?_
  unfold zb
  have e : w64 (1 + imax w 0) = 1 + w := by
    rw [show imax w 0 = w by unfold imax; rw [if_neg (by omega)]]
    exact aE (by omega) (by omega)
  rw [e]
  refine dI fun b hb => ?_
  refine gS (Heap.bx _ _ _) (by exact Nat.le_refl 2) (zF _ rfl) ?_
  rw [Heap.set_set]
  have c1 : putAll #[.int .i64 0, .int .i64 0] 0 [.int .i64 w, .int .i64 n] = #[.int .i64 w, .int .i64 n] := rfl
  rw [c1]
  exact ⟨((w, n, ()), 1 + w, ()), iX (Heap.bx _ _ _) 2 0 #[] (by simp) rfl, H, Heap.dM _ hb, rfl, rfl⟩
theorem Lc {H : Heap} {w n : Int} {k : HL Sh1.T [(.agg [(.int .i64), (.int .i64)]), (.leaf (.int .i64))] → Tree} (b1 : 0 ≤ w ∧ w ≤ 100000) (h : wp Tryz.prog (k ((w, n, ()), 1 + w, ())) L H R) :
    wp Tryz.prog (.cU pM [.int .i64 w, .int .i64 n] (.tup [(.agg [(.int .i64), (.int .i64)]), (.leaf (.int .i64))]) k) L H R := bc (x := ((w, n, ()), 1 + w, ())) (Im b1 H) h
theorem DV (f : FuncId) (x : Value) : opS Tryz.prog (.binOp .neq bG (.tmp 0) (.const .nilFunc) bG) aO [.func (.func f) #[x] #[]] = .pure (.value (.bool true)) := by kernel_rfl
theorem LL : opS Tryz.prog (.binOp .neq bG (.tmp 0) (.const .nilFunc) bG) aO [.nilFunc] = .pure (.value (.bool false)) := by kernel_rfl
theorem feq (f : FuncId) (x : Value) : opS Tryz.prog (.binOp .eql bG (.tmp 0) (.const .nilFunc) bG) aO [.func (.func f) #[x] #[]] = .pure (.value (.bool false)) := by kernel_rfl
theorem No : opS Tryz.prog (.binOp .eql bG (.tmp 0) (.const .nilFunc) bG) aO [.nilFunc] = .pure (.value (.bool true)) := by kernel_rfl
theorem M4 (x y : Value) : opS Tryz.prog (.call { callee := .value (.tmp 0), args := #[(.tmp 1)], argTypes := #[aK] }) aF [.func (.func gC) #[x] #[], y] = .pure (.enter gC [x, y].toArray) := by kernel_rfl
theorem MU (x y : Value) : opS Tryz.prog (.call { callee := .value (.tmp 0), args := #[(.tmp 1)], argTypes := #[aK] }) aF [.func (.func gR) #[x] #[], y] = .pure (.enter gR [x, y].toArray) := by kernel_rfl
theorem Nm (x y : Value) : opS Tryz.prog (.call { callee := .value (.tmp 0), args := #[(.tmp 1)], argTypes := #[aK] }) aF [.func (.func gV) #[x] #[], y] = .pure (.enter gV [x, y].toArray) := by kernel_rfl
structure Pn where
  tw : Int
  ta : Int
  work : Int
  e : Int
  ph : Nat
def ye (q : Nat) : Nat → Value
  | 0 => .func (.func gC) #[.pointer (some ⟨q, 0, none⟩)] #[]
  | 1 => .func (.func gR) #[.pointer (some ⟨q, 0, none⟩)] #[]
  | 2 => .func (.func gV) #[.pointer (some ⟨q, 0, none⟩)] #[]
  | _ => .nilFunc
def Pn.cells (m : Pn) (q : Nat) : List Value := [.int .i64 m.tw, .int .i64 m.ta, .int .i64 m.work, .int .i64 m.e, ye q m.ph]
def Pn.bl (m : Pn) (q : Nat) : Bl := [(q, oc iP (m.cells q))]
def Pn.step (m : Pn) (A : Ar) : Pn × Ar :=
  if m.ph = 0 then ({ m with e := A.ao m.ta, ph := 1 }, A.aV m.ta)
  else if m.ph = 1 then ({ m with ph := 2 }, A.aL (ewd m.ta m.work) (w64 (m.e + 1)))
  else if m.ph = 2 then ({ m with e := A.ao m.ta, ph := if A.ao m.ta = m.e then 3 else 1 }, A.aV m.ta)
  else (m, A)
def mPn : Mch Pn Nat where
  f := jK
  addr := id
  bl := Pn.bl
  inv := fun m _ => m.ph ≤ 3
  step := Pn.step
  fin := fun m => decide (m.ph = 3)
theorem K3 : mPn.vX cP := fun q p => by
  show opS _ _ _ _ = .pure (.enter jK [.pointer (some ⟨q, 0, none⟩), .pointer p].toArray)
  kernel_rfl
set_option maxHeartbeats 2000000 in
theorem Nj : mPn.ok := by
  rintro I A G ⟨tw, ta, work, e, ph⟩ q hA ok iv
  have iv : ph ≤ 3 := iv
  have ok : Ok I G (keys [(q, oc iP [.int .i64 tw, .int .i64 ta, .int .i64 work, .int .i64 e, ye q ph])]) := ok
  show cB Tryz.prog jK #[.pointer (some ⟨q, 0, none⟩), .pointer (aI I)] (own A [(q, oc iP [.int .i64 tw, .int .i64 ta, .int .i64 work, .int .i64 e, ye q ph])] G) fun v K => ∃ j', v = .bool (decide ((Pn.step ⟨tw, ta, work, e, ph⟩ A).1.ph = 3)) ∧ K = own (Pn.step ⟨tw, ta, work, e, ph⟩ A).2 ((Pn.step ⟨tw, ta, work, e, ph⟩ A).1.bl j') G ∧ j' = q ∧ Ok I G (keys ((Pn.step ⟨tw, ta, work, e, ph⟩ A).1.bl j')) ∧ Aw I (Pn.step ⟨tw, ta, work, e, ph⟩ A).2
  refine tP fun L => ?_
  unfold qX
  repeat (first
  | refine aa.2 ?_
  | refine aS 0 hA ok rfl rfl rfl ?_)
  match ph, iv with
  | 0, _ =>
    refine aB (x := true) (DV _ _) (av rfl ?_)
    repeat (first
  | refine aa.2 ?_
  | refine aS 0 hA ok rfl rfl rfl ?_)
    refine bZ (M4 _ _) ?_
    refine aR (R0 := fun v K => v = .tuple #[] ∧ K = own (A.aV ta) [(q, oc iP [.int .i64 tw, .int .i64 ta, .int .i64 work, .int .i64 (A.ao ta), ye q 1])] G ∧ Aw I (A.aV ta)) ?_ ?_
    · refine ru fun L => ?_
      unfold oO
      repeat (first
  | refine aa.2 ?_
  | refine fy 0 hA ok rfl rfl rfl ?_)
      refine qZ ?_
      repeat (first
  | refine aa.2 ?_
  | refine cA 0 hA ok rfl rfl rfl rfl ?_
  | (refine uA hA ?_; intro hA))
      exact ad ⟨rfl, rfl, hA⟩
    · rintro v K ⟨rfl, rfl, hA⟩
      refine ⟨(), rfl, ?_⟩
      repeat (first
  | refine aa.2 ?_
  | refine aS 0 hA ok rfl rfl rfl ?_)
      refine aB (x := false) (feq _ _) ?_
      exact ad ⟨q, rfl, rfl, rfl, ok, hA⟩
  | 1, _ =>
    refine aB (x := true) (DV _ _) (av rfl ?_)
    repeat (first
  | refine aa.2 ?_
  | refine aS 0 hA ok rfl rfl rfl ?_)
    refine bZ (MU _ _) ?_
    refine aR (R0 := fun v K => v = .tuple #[] ∧ K = own (A.aL (ewd ta work) (w64 (e + 1))) [(q, oc iP [.int .i64 tw, .int .i64 ta, .int .i64 work, .int .i64 e, ye q 2])] G ∧ Aw I (A.aL (ewd ta work) (w64 (e + 1)))) ?_ ?_
    · refine ux fun L => ?_
      unfold tD
      repeat (first
  | refine aa.2 ?_
  | refine aS 0 hA ok rfl rfl rfl ?_
  | refine fy 0 hA ok rfl rfl rfl ?_)
      refine zR ?_
      repeat (first
  | refine aa.2 ?_
  | refine aS 0 hA ok rfl rfl rfl ?_
  | refine cA 0 hA ok rfl rfl rfl rfl ?_
  | (refine mw hA ?_; intro hA))
      exact ad ⟨rfl, rfl, hA⟩
    · rintro v K ⟨rfl, rfl, hA⟩
      refine ⟨(), rfl, ?_⟩
      repeat (first
  | refine aa.2 ?_
  | refine aS 0 hA ok rfl rfl rfl ?_)
      refine aB (x := false) (feq _ _) ?_
      exact ad ⟨q, rfl, rfl, rfl, ok, hA⟩
  | 2, _ =>
    refine aB (x := true) (DV _ _) (av rfl ?_)
    repeat (first
  | refine aa.2 ?_
  | refine aS 0 hA ok rfl rfl rfl ?_)
    refine bZ (Nm _ _) ?_
    refine aR (R0 := fun v K => v = .tuple #[] ∧ K = own (A.aV ta) [(q, oc iP [.int .i64 tw, .int .i64 ta, .int .i64 work, .int .i64 (A.ao ta), ye q (if A.ao ta = e then 3 else 1)])] G ∧ Aw I (A.aV ta)) ?_ ?_
    · refine sA fun L => ?_
      unfold pG
      repeat (first
  | refine aa.2 ?_
  | refine aS 0 hA ok rfl rfl rfl ?_
  | refine fy 0 hA ok rfl rfl rfl ?_)
      refine qZ ?_
      repeat (first
  | refine aa.2 ?_
  | refine aS 0 hA ok rfl rfl rfl ?_
  | refine cA 0 hA ok rfl rfl rfl rfl ?_
  | (refine uA hA ?_; intro hA))
      by_cases c : A.ao ta = e
      · rw [if_pos c]
        refine av (j7 c) ?_
        repeat (first
  | refine aa.2 ?_
  | refine cA 0 hA ok rfl rfl rfl rfl ?_)
        exact ad ⟨rfl, rfl, hA⟩
      · rw [if_neg c]
        refine af (iR c) ?_
        exact ad ⟨rfl, rfl, hA⟩
    · rintro v K ⟨rfl, rfl, hA⟩
      refine ⟨(), rfl, ?_⟩
      have sp : Pn.step ⟨tw, ta, work, e, 2⟩ A = (⟨tw, ta, work, A.ao ta, if A.ao ta = e then 3 else 1⟩, A.aV ta) := rfl
      rw [sp]
      by_cases c : A.ao ta = e
      · rw [if_pos c]
        repeat (first
  | refine aa.2 ?_
  | refine aS 0 hA ok rfl rfl rfl ?_)
        refine aB (x := true) No ?_
        exact ad ⟨q, rfl, rfl, rfl, ok, hA⟩
      · rw [if_neg c]
        repeat (first
  | refine aa.2 ?_
  | refine aS 0 hA ok rfl rfl rfl ?_)
        refine aB (x := false) (feq _ _) ?_
        exact ad ⟨q, rfl, rfl, rfl, ok, hA⟩
  | 3, _ =>
    refine aB (x := false) LL (af rfl ?_)
    repeat (first
  | refine aa.2 ?_
  | refine aS 0 hA ok rfl rfl rfl ?_)
    refine aB (x := true) No ?_
    exact ad ⟨q, rfl, rfl, rfl, ok, hA⟩
def ic (tw ta work : Int) : Pn := ⟨tw, ta, work, 0, 0⟩
theorem IE {tw ta work : Int} {k : Option Addr → Tree} (hA : Aw I A) (ok : Ok I G (keys l)) (h : ∀ q : Nat, Ok I G (keys ((ic tw ta work).bl q ++ l)) → wp Tryz.prog (k (some ⟨q, 0, none⟩)) L (own A ((ic tw ta work).bl q ++ l) G) R) :
    wp Tryz.prog (.call oC [.agg #[.int .i64 tw, .int .i64 ta], .int .i64 work] (.one (.leaf .ptr)) k) L (own A l G) R := by
  refine aR (R0 := fun v K => ∃ q : Nat, v = .pointer (some ⟨q, 0, none⟩) ∧ K = own A ((ic tw ta work).bl q ++ l) G ∧ Ok I G (keys ((ic tw ta work).bl q ++ l))) ?_ ?_
  · refine vD (p0_0 := tw) (p0_1 := ta) (p1 := work) fun L => ?_
    unfold uk
    have ok0 := ok
    refine cL hA ok fun b ok => ?_
    repeat (first
  | refine fy 0 hA ok rfl rfl rfl ?_)
    refine cL hA ok fun q ok => ?_
    repeat (first
  | refine aa.2 ?_
  | refine cA 0 hA ok rfl rfl rfl rfl ?_)
    have ok1 : Ok I G (keys ((ic tw ta work).bl q ++ l)) := by
      have nd := ok.nd
      refine ok.sub ?_ fun c hc => ?_
      · have sl : (q :: keys l).Sublist (q :: b :: keys l) := .cons_cons _ (.cons _ (List.Sublist.refl _))
        exact sl.nodup nd
      · have hc : c ∈ q :: keys l := hc
        show c ∈ q :: b :: keys l
        simp only [List.mem_cons] at hc ⊢
        rcases hc with h | h
        · exact .inl h
        · exact .inr (.inr h)
    refine ⟨own A ((ic tw ta work).bl q ++ l) G, kh ok ok1.nd fun c hc => ?_, q, rfl, rfl, ok1⟩
    rcases List.mem_cons.1 hc with h | h
    · rw [h]; exact List.mem_cons_self
    · exact List.mem_cons_of_mem _ (List.mem_cons_of_mem _ h)
  · rintro v K ⟨q, rfl, rfl, o⟩
    exact ⟨_, rfl, h q o⟩
end
def Sc.jN (m : Sc) (A : Ar) : Sc := { m with seen := alPut m.seen (A.ao (w64 (m.ta + m.word))) true, word := m.word + 1 }
def Sc.step (m : Sc) (A : Ar) : Sc × Ar :=
  if m.ended = true then (m, A)
  else if m.word < 2 * m.tw then (if m.word + 1 = 2 * m.tw then (m.jN A).sort else m.jN A, A.aV (w64 (m.ta + m.word)))
  else match m.frees with
    | [] => (m, A)
    | f :: fs => if (f.step A).1.done = true then ({ m with frees := fs, ended := decide (fs = []) }, (f.step A).2) else ({ m with frees := (f.step A).1 :: fs }, (f.step A).2)
structure Sc.inv (m : Sc) (A : Ar) : Prop where
  tw : 1 ≤ m.tw ∧ m.tw ≤ 1000
  wd : 0 ≤ m.word
  ll : m.l.length ≤ 1000
  fr : m.ended = false → (m.word < 2 * m.tw ∧ m.sorted = false ∧ m.frees = [] ∧ m.left = []) ∨ (2 * m.tw ≤ m.word ∧ m.sorted = true ∧ m.frees ≠ [])
def mSc : sB Sc ScJ where
  f := gG
  addr := ScJ.q
  bl := Sc.bl
  rep := Sc.rep
  inv := Sc.inv
  step := Sc.step
  fin := fun m => m.ended
theorem KQ : mSc.vX bC := fun q p => by
  show opS _ _ _ _ = .pure (.enter gG [.pointer (some ⟨q, 0, none⟩), .pointer p].toArray)
  kernel_rfl
theorem zw {t u : TypeId} (x : Value) (n : Int) : opS Tryz.prog (.slice t (.tmp 0) (some (.const (.int .i64 n))) none none) u [x] = opS Tryz.prog (.slice t (.tmp 0) (some (.tmp 1)) none none) u [x, .int .i64 n] := by kernel_rfl
theorem vt {t u : TypeId} (x : Value) (n : Int) : opS Tryz.prog (.indexAddr t (.tmp 0) (.const (.int .i64 n))) u [x] = opS Tryz.prog (.indexAddr t (.tmp 0) (.tmp 1)) u [x, .int .i64 n] := by kernel_rfl
theorem Ob {L : aZ} {R : Value → Heap → Prop} {A : Ar} {I : List Nat} {l : Bl} {G : Heap} {x : Nat} {xs : List Nat} {s : Sl} {u : TypeId} {k : Option Addr → Tree} (hA : Aw I A) (ok : Ok I G (keys l)) (hs : ir l cD eP s (x :: xs)) (h : wp Tryz.prog (k (some ⟨x, 0, none⟩)) L (own A l G) R) :
    wp Tryz.prog (.look (opS Tryz.prog (.indexAddr bR (.tmp 0) (.const (.int .i64 0))) u [(.slice s.a s.len s.cap)]) (.one (.leaf .addr)) fun y => .ld y .ptr k) L (own A l G) R := by
  rw [vt]
  rcases hs with ⟨_, h⟩ | ⟨b, pre, rest, r, rfl, h2, h3⟩
  · cases h
  · refine C3 (e := cD) rfl rfl rfl (Int.le_refl 0) (by show (0 : Int) < (((x :: xs).length : Nat) : Int); simp only [List.length_cons]; omega) ?_
    refine eQ (x := some ⟨x, 0, none⟩) hA ok rfl h3 ?_ h
    have : (pre ++ eP.all (x :: xs) ++ rest)[pre.length + (0 : Int).toNat]? = some (.pointer (some ⟨x, 0, none⟩)) := by
      rw [List.append_assoc, List.getElem?_append_right (by simp)]
      simp [Enc.all, eP]
    rw [this]; rfl
theorem At {L : aZ} {R : Value → Heap → Prop} {A : Ar} {l l' : Bl} {G : Heap} {t : Tree} (h : l' = l) (hw : wp Tryz.prog t L (own A l' G) R) : wp Tryz.prog t L (own A l G) R := h ▸ hw
set_option maxHeartbeats 1000000 in
theorem Np : mSc.ok := by
  rintro I A G m j hA ok rp ⟨⟨t0, t1⟩, w0, ll, fr⟩
  have ok : Ok I G (keys (m.bl j)) := ok
  have rp : m.rep j := rp
  show cB Tryz.prog gG #[.pointer (some ⟨j.q, 0, none⟩), .pointer (aI I)] (own A (m.bl j) G) fun v K => ∃ j' : ScJ, v = .bool (m.step A).1.ended ∧ K = own (m.step A).2 ((m.step A).1.bl j') G ∧ j'.q = j.q ∧ Ok I G (keys ((m.step A).1.bl j')) ∧ (m.step A).1.rep j' ∧ Aw I (m.step A).2
  refine qO fun L => ?_
  unfold oX Sc.step
  have e2 : w64 (2 * imax m.tw 0) = 2 * m.tw := by
    rw [show imax m.tw 0 = m.tw by unfold imax; rw [if_neg (by omega)]]
    exact aE (by omega) (by omega)
  repeat (first
  | refine aa.2 ?_
  | refine aS 0 hA ok rfl rfl rfl ?_)
  rw [e2]
  rcases Bool.eq_false_or_eq_true m.ended with he | he
  · rw [if_pos he]
    refine av he ?_
    repeat (first
  | refine aa.2 ?_
  | refine aS 0 hA ok rfl rfl rfl ?_)
    exact ad ⟨j, rfl, rfl, rfl, ok, rp, hA⟩
  · rw [if_neg (by rw [he]; simp)]
    refine af he ?_
    repeat (first
  | refine aa.2 ?_
  | refine aS 0 hA ok rfl rfl rfl ?_)
    rcases fr he with ⟨f1, f2, f3, f4⟩ | ⟨f1, f2, f3⟩
    · rw [if_pos f1]
      refine av (decide_eq_true f1) ?_
      rw [Sc.Hx j f2] at ok ⊢
      repeat (first
  | refine aa.2 ?_
  | refine aS 0 hA ok rfl rfl rfl ?_
  | (refine uA hA ?_; intro hA)
  | refine iC 0 hA ok rfl rfl rfl ?_
  | refine fS rfl ?_)
      rw [Dc]
      refine CX 1 (enc := Value.bool) (v := true) hA ok rfl rfl rfl ?_
      repeat (first
  | refine aa.2 ?_
  | refine aS 0 hA ok rfl rfl rfl ?_
  | refine cA 0 hA ok rfl rfl rfl rfl ?_)
      have e3 : w64 (m.word + 1) = m.word + 1 := aE (by omega) (by omega)
      rw [e3]
      have eb : (m.jN A).bl j = (j.q, oc bD ((m.jN A).cells j)) :: (j.mq, bJ Value.bool (m.jN A).seen) :: (fbl m.frees j.fj ++ (j.tls ++ (j.tfs ++ j.tds))) := Sc.Hx (m := m.jN A) j f2
      have ok1 : Ok I G (keys ((m.jN A).bl j)) := by rw [eb]; exact ok
      have rp1 : (m.jN A).rep j := ⟨rp.ls, rp.fs, rp.ds, rp.fl, rp.un⟩
      by_cases hw : m.word + 1 = 2 * m.tw
      · rw [if_pos hw]
        refine av (j7 hw) (At eb ?_)
        refine aR (GN (m.jN A) j hA ok1 rp1 f2 f3 f4 ll) ?_
        rintro v K ⟨j', rfl, rfl, eq, ok, rp'⟩
        refine ⟨(), rfl, ?_⟩
        rw [← eq]
        repeat (first
  | refine aa.2 ?_
  | refine aS 0 hA ok rfl rfl rfl ?_)
        exact ad ⟨j', rfl, rfl, rfl, ok, rp', hA⟩
      · rw [if_neg hw]
        refine af (iR hw) ?_
        repeat (first
  | refine aa.2 ?_
  | refine aS 0 hA ok rfl rfl rfl ?_)
        refine At eb ?_
        refine ad ⟨j, ?_, rfl, rfl, ok1, rp1, hA⟩
        first | rfl | (rw [show (m.jN A).ended = m.ended from rfl, he])
    · rw [if_neg (by omega)]
      refine af (decide_eq_false (by show ¬ m.word < 2 * m.tw; omega)) (af (iR (by omega)) ?_)
      obtain ⟨f, fs, efs⟩ : ∃ f fs, m.frees = f :: fs := by
        cases h : m.frees with
        | nil => exact (f3 h).elim
        | cons f fs => exact ⟨f, fs, rfl⟩
      obtain ⟨jf, js, ejs⟩ : ∃ jf js, j.fj = jf :: js := by
        have := rp.fl
        cases h : j.fj with
        | nil => rw [efs, h] at this; cases this
        | cons f fs => exact ⟨f, fs, rfl⟩
      have rfs := rp.fs
      rw [ejs] at rfs
      have hl0 : (0 : Int) < (j.fs.len : Int) := by have := rfs.len; simp at this; omega
      rw [efs]
      dsimp only
      have sb := Sc.K0 j f2
      rw [efs, ejs] at sb
      simp only [fbl] at sb
      rw [sb] at ok ⊢
      repeat (first
  | refine aa.2 ?_
  | refine aS 0 hA ok rfl rfl rfl ?_)
      refine Ob hA ok (rfs.mono fun p hp => List.mem_cons_of_mem _ (List.mem_append_right _ (List.mem_append_right _ (List.mem_append_left _ hp)))) ?_
      obtain ⟨p1, ok2⟩ := aN (A := A) (l' := f.bl jf ++ ((j.q, oc bD (m.cells j)) :: (fbl fs js ++ (j.tls ++ (j.tfs ++ j.tds))))) ok (aT fun c d c0 cd ca => by simp only [cd, ca, c0]; omega)
      rw [p1]
      have ok3 : Ok I G (keys (f.bl jf) ++ keys ((j.q, oc bD (m.cells j)) :: (fbl fs js ++ (j.tls ++ (j.tfs ++ j.tds))))) := by rw [← bP]; exact ok2
      obtain ⟨o1, o2⟩ := ok3.split
      refine rh (Jo I A _ f jf hA o1 trivial) ?_
      rintro v K ⟨jf', rfl, rfl, ej, o3, hA'⟩
      refine ⟨(f.step A).1.done, rfl, ?_⟩
      have hA := hA'
      show wp Tryz.prog _ L (own (f.step A).2 ((f.step A).1.bl jf') (dO _ G)) _
      rw [← dY]
      have o4 : Ok I G (keys ((f.step A).1.bl jf' ++ ((j.q, oc bD (m.cells j)) :: (fbl fs js ++ (j.tls ++ (j.tfs ++ j.tds)))))) := by rw [bP]; exact o3.join o2
      obtain ⟨p2, ok5⟩ := aN (A := (f.step A).2) (l' := (j.q, oc bD (m.cells j)) :: (((f.step A).1.bl jf' ++ fbl fs js) ++ (j.tls ++ (j.tfs ++ j.tds)))) o4 (aT fun c d c0 cd ca => by simp only [cd, ca, c0]; omega)
      have ok := ok5
      have p3 : own (f.step A).2 (Fe.bl (f.step A).1 jf' ++ ((j.q, oc bD (m.cells j)) :: (fbl fs js ++ (j.tls ++ (j.tfs ++ j.tds))))) G = _ := p2
      rw [p3]
      by_cases hd : (f.step A).1.done = true
      · rw [if_pos hd]
        refine av hd ?_
        repeat (first
  | refine aa.2 ?_
  | refine aS 0 hA ok rfl rfl rfl ?_)
        obtain ⟨tl1, tl2⟩ := rfs.tail
        rw [zw]
        refine aB (x := gH j.fs 1) (pv (e := cD) rfl rfl rfl (by omega) tl2) ?_
        repeat (first
  | refine aa.2 ?_
  | refine aS 0 hA ok rfl rfl rfl ?_
  | refine cA 0 hA ok rfl rfl rfl rfl ?_)
        have hle := tl1.len
        rw [List.length_map] at hle
        have hfl : fs.length = js.length := by have := rp.fl; rw [efs, ejs] at this; simpa using this
        have hE : scC m.tw m.ta m.pl m.work m.word j.ls j.mq (gH j.fs 1) j.ds ((((gH j.fs 1).len : Nat) : Int) == 0) = ({ m with frees := fs, ended := decide (fs = []) } : Sc).cells { j with fs := gH j.fs 1, fj := js } := by
          show _ = scC m.tw m.ta m.pl m.work m.word j.ls j.mq (gH j.fs 1) j.ds (decide (fs = []))
          congr 1
          rw [hle, ← hfl]
          cases fs <;> simp
          omega
        have hb : ({ m with frees := fs, ended := decide (fs = []) } : Sc).bl { j with fs := gH j.fs 1, fj := js } = (j.q, oc bD (scC m.tw m.ta m.pl m.work m.word j.ls j.mq (gH j.fs 1) j.ds ((((gH j.fs 1).len : Nat) : Int) == 0))) :: (fbl fs js ++ (j.tls ++ (j.tfs ++ j.tds))) := by
          rw [hE]; exact Sc.K0 (m := { m with frees := fs, ended := decide (fs = []) }) { j with fs := gH j.fs 1, fj := js } f2
        have ok3 : Ok I G (keys ((j.q, oc bD (scC m.tw m.ta m.pl m.work m.word j.ls j.mq (gH j.fs 1) j.ds ((((gH j.fs 1).len : Nat) : Int) == 0))) :: (((f.step A).1.bl jf' ++ fbl fs js) ++ (j.tls ++ (j.tfs ++ j.tds))))) := ok
        have sl : ((j.q, oc bD (scC m.tw m.ta m.pl m.work m.word j.ls j.mq (gH j.fs 1) j.ds ((((gH j.fs 1).len : Nat) : Int) == 0))) :: (fbl fs js ++ (j.tls ++ (j.tfs ++ j.tds)))).Sublist ((j.q, oc bD (scC m.tw m.ta m.pl m.work m.word j.ls j.mq (gH j.fs 1) j.ds ((((gH j.fs 1).len : Nat) : Int) == 0))) :: (((f.step A).1.bl jf' ++ fbl fs js) ++ (j.tls ++ (j.tfs ++ j.tds)))) := by
          refine .cons_cons _ (List.Sublist.append ?_ (List.Sublist.refl _))
          exact List.sublist_append_right _ _
        have ok4 : Ok I G (keys ((j.q, oc bD (scC m.tw m.ta m.pl m.work m.word j.ls j.mq (gH j.fs 1) j.ds ((((gH j.fs 1).len : Nat) : Int) == 0))) :: (fbl fs js ++ (j.tls ++ (j.tfs ++ j.tds))))) :=
          ok3.sub ((sl.map Prod.fst).nodup ok3.nd) fun b hb => (sl.map Prod.fst).subset hb
        have key : ∀ (L : aZ) (v : Value), v = .bool (decide (fs = [])) → wp Tryz.prog (.ret v) L (own (f.step A).2 ((j.q, oc bD (scC m.tw m.ta m.pl m.work m.word j.ls j.mq (gH j.fs 1) j.ds ((((gH j.fs 1).len : Nat) : Int) == 0))) :: (((f.step A).1.bl jf' ++ fbl fs js) ++ (j.tls ++ (j.tfs ++ j.tds)))) G) fun v K => ∃ j' : ScJ, v = .bool (decide (fs = [])) ∧ K = own (f.step A).2 (({ m with frees := fs, ended := decide (fs = []) } : Sc).bl j') G ∧ j'.q = j.q ∧ Ok I G (keys (({ m with frees := fs, ended := decide (fs = []) } : Sc).bl j')) ∧ ({ m with frees := fs, ended := decide (fs = []) } : Sc).rep j' ∧ Aw I (f.step A).2 := by
          rintro L v rfl
          refine ⟨own (f.step A).2 (({ m with frees := fs, ended := decide (fs = []) } : Sc).bl { j with fs := gH j.fs 1, fj := js }) G, ?_, { j with fs := gH j.fs 1, fj := js }, rfl, rfl, rfl, by rw [hb]; exact ok4, ⟨rp.ls, tl1, rp.ds, hfl, fun h => ?_⟩, hA⟩
          · rw [hb]; exact kh ok3 ok4.nd fun p hp => sl.subset hp
          · rw [show ({ m with frees := fs, ended := decide (fs = []) } : Sc).sorted = m.sorted from rfl, f2] at h; cases h
        refine key _ _ ?_
        show Value.bool ((((gH j.fs 1).len : Nat) : Int) == 0) = _
        rw [hle, ← hfl]
        cases fs <;> simp
        omega
      · rw [if_neg hd]
        refine af (by simpa using hd) ?_
        repeat (first
  | refine aa.2 ?_
  | refine aS 0 hA ok rfl rfl rfl ?_)
        have hb : ({ m with frees := (f.step A).1 :: fs } : Sc).bl { j with fj := jf' :: js } = (j.q, oc bD (m.cells j)) :: (((f.step A).1.bl jf' ++ fbl fs js) ++ (j.tls ++ (j.tfs ++ j.tds))) := Sc.K0 (m := { m with frees := (f.step A).1 :: fs }) { j with fj := jf' :: js } f2
        refine At hb ?_
        refine ad ⟨{ j with fj := jf' :: js }, ?_, rfl, rfl, by rw [hb]; exact ok, ⟨rp.ls, ?_, rp.ds, ?_, fun h => ?_⟩, hA⟩
        · first | rfl | rw [he]
        · show ir j.tfs cD eP j.fs (jf'.1 :: js.map (·.1))
          rw [show jf'.1 = jf.1 from ej]; exact rfs
        · have := rp.fl; rw [efs, ejs] at this; exact this
        · rw [show ({ m with frees := (f.step A).1 :: fs } : Sc).sorted = m.sorted from rfl, f2] at h; cases h
def eL : Enc (Int × Int) := ⟨2, fun x => [.int .i64 x.1, .int .i64 x.2], fun _ => rfl, fun x v h => by simp at h; rcases h with rfl | rfl <;> rfl⟩
theorem elL : Cv aQ aG 2 := ⟨⟨_, _, rfl, rfl, rfl, by decide, by decide, rfl, rfl⟩⟩
theorem Gr (rest : List Value) : ∀ (xs : List (Int × Int)) (n : Nat), n < xs.length → ∃ t, (eL.all xs ++ rest).drop (n * 2) = .int .i64 (xs.getD n (0, 0)).1 :: .int .i64 (xs.getD n (0, 0)).2 :: t
  | [], n, h => by simp at h
  | x :: xs, 0, _ => ⟨eL.all xs ++ rest, rfl⟩
  | x :: xs, n + 1, h => by
    obtain ⟨t, ht⟩ := Gr rest xs n (by simpa using h)
    refine ⟨t, ?_⟩
    rw [show (n + 1) * 2 = n * 2 + 2 by omega]
    show (eL.all xs ++ rest).drop (n * 2) = _
    rw [ht]; rfl
structure Tn where
  tw : Int
  ta : Int
  pl : Pl
  work : Int
  e : Int
  word : Int
  l : List (Int × Int)
  frees : List Fe
  left : List (Int × Int)
  ph : Nat
structure TnJ where
  q : Nat
  ls : Sl
  fs : Sl
  ds : Sl
  fj : List Tri
  tls : Bl
  tfs : Bl
  tds : Bl
def mL (q : Nat) : Nat → Value
  | 0 => .func (.func dT) #[.pointer (some ⟨q, 0, none⟩)] #[]
  | 1 => .func (.func fv) #[.pointer (some ⟨q, 0, none⟩)] #[]
  | 2 => .func (.func df) #[.pointer (some ⟨q, 0, none⟩)] #[]
  | 3 => .func (.func fw) #[.pointer (some ⟨q, 0, none⟩)] #[]
  | _ => .nilFunc
theorem MZ (x y : Value) : opS Tryz.prog (.call { callee := .value (.tmp 0), args := #[(.tmp 1)], argTypes := #[aK] }) aF [.func (.func dT) #[x] #[], y] = .pure (.enter dT [x, y].toArray) := by kernel_rfl
theorem Nq (x y : Value) : opS Tryz.prog (.call { callee := .value (.tmp 0), args := #[(.tmp 1)], argTypes := #[aK] }) aF [.func (.func fv) #[x] #[], y] = .pure (.enter fv [x, y].toArray) := by kernel_rfl
theorem Nh (x y : Value) : opS Tryz.prog (.call { callee := .value (.tmp 0), args := #[(.tmp 1)], argTypes := #[aK] }) aF [.func (.func df) #[x] #[], y] = .pure (.enter df [x, y].toArray) := by kernel_rfl
theorem Mx (x y : Value) : opS Tryz.prog (.call { callee := .value (.tmp 0), args := #[(.tmp 1)], argTypes := #[aK] }) aF [.func (.func fw) #[x] #[], y] = .pure (.enter fw [x, y].toArray) := by kernel_rfl
def tnC (tw ta : Int) (p : Pl) (work e word : Int) (ls fs ds : Sl) (nx : Value) : List Value :=
  [.int .i64 tw, .int .i64 ta, .int .i64 p.work, .int .i64 p.heads, .int .i64 p.links, .int .i64 p.gens, .int .i64 p.carved, .int .i64 work, .int .i64 e, .int .i64 word, .slice ls.a ls.len ls.cap, .slice fs.a fs.len fs.cap, .slice ds.a ds.len ds.cap, nx]
def Tn.cells (m : Tn) (j : TnJ) : List Value := tnC m.tw m.ta m.pl m.work m.e m.word j.ls j.fs j.ds (mL j.q m.ph)
def Tn.bl (m : Tn) (j : TnJ) : Bl := (j.q, oc cr (m.cells j)) :: (fbl m.frees j.fj ++ (j.tls ++ (j.tfs ++ j.tds)))
structure Tn.rep (m : Tn) (j : TnJ) : Prop where
  ls : dH j.tls aG eL j.ls m.l
  fs : ir j.tfs cD eP j.fs (j.fj.map (·.1))
  ds : dH j.tds aG eL j.ds m.left
  fl : m.frees.length = j.fj.length
  un : m.ph ≤ 2 → j.fs = sl0 ∧ j.ds = sl0
def due (e : Int) (x : Int × Int) : Bool := decide (w64 (x.2 + 2) ≤ e)
def Tn.eN (m : Tn) (n : Nat) : Tn := { m with frees := ((m.l.take n).filter (due m.e)).map fun x => eR m.pl m.work x.1, left := (m.l.take n).filter fun x => !due m.e x }
def Tn.sort (m : Tn) : Tn := { m.eN m.l.length with ph := if (m.eN m.l.length).frees = [] then 4 else 3 }
theorem wG {p : Int × Int → Bool} {l : List (Int × Int)} {n : Nat} (h : n < l.length) : (l.take (n + 1)).filter p = (l.take n).filter p ++ if p (l.getD n (0, 0)) then [l.getD n (0, 0)] else [] := by
  have e : l.take (n + 1) = l.take n ++ [l.getD n (0, 0)] := by
    rw [List.take_add_one, List.getD_eq_getElem?_getD, List.getElem?_eq_getElem h]; rfl
  rw [e, List.filter_append]
  congr 1
  unfold List.filter
  cases p (l.getD n (0, 0)) <;> rfl
section
variable {L : aZ} {R : Value → Heap → Prop} {A : Ar} {I : List Nat} {l : Bl} {G : Heap}
theorem Mb {xs : List (Int × Int)} {s : Sl} {i : Int} {u : TypeId} {k : HL iH.T [.int .i64, .int .i64] → Tree} (hA : Aw I A) (ok : Ok I G (keys l)) (hs : dH l aG eL s xs) (h0 : 0 ≤ i) (h1 : i < xs.length)
    (h : wp Tryz.prog (k ((xs.getD i.toNat (0, 0)).1, (xs.getD i.toNat (0, 0)).2, ())) L (own A l G) R) :
    wp Tryz.prog (.look (opS Tryz.prog (.indexAddr aQ (.tmp 0) (.tmp 1)) u [.slice s.a s.len s.cap, .int .i64 i]) (.one (.leaf .addr)) fun x => .ldA x [(.int .i64), (.int .i64)] k) L (own A l G) R := by
  rcases hs with ⟨rfl, rfl⟩ | ⟨b, rest, r, rfl, h2, h3⟩
  · have : (([] : List (Int × Int)).length : Int) = 0 := rfl
    omega
  · have hl : i.toNat < xs.length := by omega
    obtain ⟨ix, hix⟩ := vn h3
    obtain ⟨t, ht⟩ := Gr rest xs i.toNat hl
    refine aB (x := ⟨b, i.toNat * 2, none⟩) ?_ ?_
    · rw [uv (e := aG) rfl rfl h0 h1, Addr.gF, Nat.zero_add]; rfl
    · refine fy (c := eL.all xs ++ rest) ix hA ok rfl hix (x := ((xs.getD i.toNat (0, 0)).1, (xs.getD i.toNat (0, 0)).2, ())) ?_ h (decide_eq_true ?_)
      · rw [ht]; rfl
      · rw [List.length_append, eL.sY]; show i.toNat * 2 ≤ xs.length * 2 + _; omega
structure O7 (I : List Nat) (G : Heap) (A : Ar) (m : Tn) (q : Nat) (ls : Sl) (i : Int) (H : Heap) (j : TnJ) : Prop where
  i0 : 0 ≤ i
  i1 : i ≤ m.l.length
  eH : H = own A ((m.eN i.toNat).bl j) G
  ok : Ok I G (keys ((m.eN i.toNat).bl j))
  eq : j.q = q
  eL : j.ls = ls
  ls : dH j.tls aG Proofs.YtjnacjniiogjcaaGreat.eL j.ls m.l
  fs : dH j.tfs cD eP j.fs (j.fj.map (·.1))
  ds : dH j.tds aG Proofs.YtjnacjniiogjcaaGreat.eL j.ds (m.eN i.toNat).left
  fl : (m.eN i.toNat).frees.length = j.fj.length
set_option maxHeartbeats 2000000 in
theorem wx (m : Tn) (j : TnJ) (hA : Aw I A) (ok : Ok I G (keys (m.bl j))) (rp : m.rep j) (hs : m.ph ≤ 2) (hf : m.frees = []) (hd : m.left = []) (hl : m.l.length ≤ 1000) :
    cB Tryz.prog g7 #[.pointer (some ⟨j.q, 0, none⟩)] (own A (m.bl j) G) fun v K => ∃ j', v = .tuple #[] ∧ K = own A (m.sort.bl j') G ∧ j'.q = j.q ∧ Ok I G (keys (m.sort.bl j')) ∧ m.sort.rep j' := by
  refine ti fun L => ?_
  unfold py
  obtain ⟨u1, u2⟩ := rp.un hs
  have efj : j.fj = [] := List.eq_nil_of_length_eq_zero (by rw [← rp.fl, hf]; rfl)
  have e0 : m.eN 0 = m := by cases m; simp only at hf hd; subst hf; subst hd; rfl
  unfold Tn.bl at ok ⊢
  repeat (first
  | refine aa.2 ?_
  | refine aS 0 hA ok rfl rfl rfl ?_)
  refine NL (fun i H => ∃ j', O7 I G A m j.q j.ls i H j') (fun i => (m.l.length - i).toNat) 0 ⟨j, Int.le_refl 0, by omega, by rw [show (0 : Int).toNat = 0 from rfl, e0]; rfl, by rw [show (0 : Int).toNat = 0 from rfl, e0]; exact ok, rfl, rfl, rp.ls, ?_, by rw [show (0 : Int).toNat = 0 from rfl, e0]; exact rp.ds, by rw [show (0 : Int).toNat = 0 from rfl, e0]; exact rp.fl⟩ ?_
  · rw [u1, efj]; exact .inl ⟨rfl, rfl⟩
  rintro i H ⟨j1, hS⟩
  obtain ⟨i0, i1, eH, ok1, eq, eL, hls, hfs, hds, hfl⟩ := hS
  subst eH
  have hlen := hls.len
  unfold Tn.bl at ok1 ⊢
  have ok := ok1
  rw [mo, ← eL, ← eq]
  by_cases hi : i < m.l.length
  · refine av (decide_eq_true (by show i < ((j1.ls.len : Nat) : Int); rw [hlen]; exact hi)) ?_
    refine Mb hA ok (hls.mono fun p hp => ?_) i0 hi ?_
    · exact List.mem_cons_of_mem _ (List.mem_append_right _ (List.mem_append_left _ hp))
    refine cL hA ok fun x3 ok => ?_
    repeat (first
  | refine aa.2 ?_
  | refine aS 0 hA ok rfl rfl rfl ?_
  | refine aS 1 hA ok rfl rfl rfl ?_
  | refine j9 0 hA ok rfl rfl rfl rfl ?_)
    have ht : i.toNat < m.l.length := by omega
    have e1 : w64 (i + 1) = i + 1 := aE (by omega) (by omega)
    have e2 : (i + 1).toNat = i.toNat + 1 := by omega
    have fl : (m.eN (i.toNat + 1)).left = (m.eN i.toNat).left ++ if due m.e (m.l.getD i.toNat (0, 0)) then [] else [m.l.getD i.toNat (0, 0)] := by
      show ((m.l.take (i.toNat + 1)).filter fun x => !due m.e x) = ((m.l.take i.toNat).filter fun x => !due m.e x) ++ _
      rw [wG ht]
      cases due m.e (m.l.getD i.toNat (0, 0)) <;> rfl
    have ff : (m.eN (i.toNat + 1)).frees = (m.eN i.toNat).frees ++ if due m.e (m.l.getD i.toNat (0, 0)) then [eR m.pl m.work (m.l.getD i.toNat (0, 0)).1] else [] := by
      show ((m.l.take (i.toNat + 1)).filter (due m.e)).map (fun x => eR m.pl m.work x.1) = ((m.l.take i.toNat).filter (due m.e)).map (fun x => eR m.pl m.work x.1) ++ _
      rw [wG ht, List.map_append]
      cases due m.e (m.l.getD i.toNat (0, 0)) <;> rfl
    have hll : (m.eN i.toNat).left.length ≤ 1000 := Nat.le_trans (List.length_filter_le _ _) (by rw [List.length_take]; omega)
    have hlf : (m.eN i.toNat).frees.length ≤ 1000 := by
      show (((m.l.take i.toNat).filter (due m.e)).map fun x => eR m.pl m.work x.1).length ≤ 1000
      rw [List.length_map]
      exact Nat.le_trans (List.length_filter_le _ _) (by rw [List.length_take]; omega)
    dsimp only at ok ⊢
    rw [e1]
    obtain ⟨y, hy⟩ : ∃ y, y = m.l.getD i.toNat (0, 0) := ⟨_, rfl⟩
    rw [← hy] at fl ff ⊢
    have ok : Ok I G (keys ((x3, oc aG [.int .i64 y.1, .int .i64 y.2]) :: (j1.q, oc cr ((m.eN i.toNat).cells j1)) :: (fbl (m.eN i.toNat).frees j1.fj ++ (j1.tls ++ (j1.tfs ++ j1.tds))))) := ok
    show wp Tryz.prog _ _ (own A ((x3, oc aG [.int .i64 y.1, .int .i64 y.2]) :: (j1.q, oc cr ((m.eN i.toNat).cells j1)) :: (fbl (m.eN i.toNat).frees j1.fj ++ (j1.tls ++ (j1.tfs ++ j1.tds)))) G) _
    by_cases hin : due m.e y = true
    · rw [if_pos hin] at fl ff
      refine av hin ?_
      repeat (first
  | refine aa.2 ?_
  | refine aS 0 hA ok rfl rfl rfl ?_
  | refine aS 1 hA ok rfl rfl rfl ?_
  | refine fy 1 hA ok rfl rfl rfl ?_)
      refine Be (p := m.pl) (w := m.work) hA ok fun jf ok => ?_
      repeat (first
  | refine iC 4 hA ok rfl rfl rfl ?_
  | refine fS rfl ?_)
      refine l6 hA ok fun g ok => ?_
      repeat (first
  | refine iC 5 hA ok rfl rfl rfl ?_
  | refine fS rfl ?_)
      obtain ⟨p1, ok2⟩ := aN (A := A) (l' := (j1.q, oc cr ((m.eN i.toNat).cells j1)) :: (fbl (m.eN i.toNat).frees j1.fj ++ ((eR m.pl m.work y.1).bl jf ++ j1.tls)) ++ (((g, oc cD [.pointer (some ⟨jf.1, 0, none⟩)]) :: j1.tfs) ++ ((x3, oc aG [.int .i64 y.1, .int .i64 y.2]) :: j1.tds))) ok (aT fun c d c0 cd ca => by simp only [cd, ca, c0]; omega)
      rw [p1]
      have ok := ok2
      refine qm (E := eP) elF _ (xs := j1.fj.map (·.1)) (ys := [jf.1]) (t := ⟨some ⟨g, 0, none⟩, 1, 1⟩) hA ok (hfs.mono fun p hp => List.mem_cons_of_mem _ hp) ?_ rfl (by simp only [List.length_cons, List.length_nil, List.length_map]; omega) fun s' mid' hs' ok => ?_
      · exact jz (c := [.pointer (some ⟨jf.1, 0, none⟩)]) hA ok (List.mem_append_right _ (List.mem_append_left _ List.mem_cons_self)) 0 rfl
      repeat (first
  | refine aa.2 ?_
  | refine cA 0 hA ok rfl rfl rfl rfl ?_)
      have hp : ((j1.q, oc cr ((m.eN (i.toNat + 1)).cells { j1 with fs := s', tfs := mid', fj := j1.fj ++ [jf], tds := (x3, oc aG [.int .i64 y.1, .int .i64 y.2]) :: j1.tds })) :: (fbl (m.eN i.toNat).frees j1.fj ++ ((eR m.pl m.work y.1).bl jf ++ j1.tls)) ++ (mid' ++ ((x3, oc aG [.int .i64 y.1, .int .i64 y.2]) :: j1.tds))).Perm ((m.eN (i.toNat + 1)).bl { j1 with fs := s', tfs := mid', fj := j1.fj ++ [jf], tds := (x3, oc aG [.int .i64 y.1, .int .i64 y.2]) :: j1.tds }) := by
        unfold Tn.bl
        rw [ff]
        dsimp only
        rw [zT hfl]
        exact (aT fun c d c0 cd ca => by simp only [cd, ca, c0]; omega)
      refine cR ⟨i + 1, rfl, ⟨{ j1 with fs := s', tfs := mid', fj := j1.fj ++ [jf], tds := (x3, oc aG [.int .i64 y.1, .int .i64 y.2]) :: j1.tds }, by omega, by omega, ?_, ?_, rfl, rfl, hls, ?_, ?_, ?_⟩, by omega⟩
      · rw [e2]; exact (kC (A := A) hp ok).1
      · rw [e2]; exact (kC (A := A) hp ok).2
      · rw [List.map_append]; exact hs'
      · rw [e2, fl, List.append_nil]; exact hds.mono fun p hp => List.mem_cons_of_mem _ hp
      · rw [e2, ff, List.length_append, List.length_append, hfl]; rfl
    · rw [if_neg hin] at fl ff
      refine af (show due m.e y = false by simpa using hin) ?_
      repeat (first
  | refine aa.2 ?_
  | refine aS 1 hA ok rfl rfl rfl ?_
  | refine fy 0 hA ok rfl rfl rfl ?_)
      refine l6 hA ok fun g ok => ?_
      repeat (first
  | refine iC 2 hA ok rfl rfl rfl ?_
  | refine fS rfl ?_)
      obtain ⟨p1, ok2⟩ := aN (A := A) (l' := (j1.q, oc cr ((m.eN i.toNat).cells j1)) :: (fbl (m.eN i.toNat).frees j1.fj ++ (j1.tls ++ j1.tfs)) ++ (((g, oc aG [.int .i64 y.1, .int .i64 y.2]) :: (x3, oc aG [.int .i64 y.1, .int .i64 y.2]) :: j1.tds) ++ [])) ok (aT fun c d c0 cd ca => by simp only [cd, ca, c0]; omega)
      rw [p1]
      have ok := ok2
      refine qm (E := Proofs.YtjnacjniiogjcaaGreat.eL) elL _ (xs := (m.eN i.toNat).left) (ys := [y]) (t := ⟨some ⟨g, 0, none⟩, 1, 1⟩) hA ok (hds.mono fun p hp => List.mem_cons_of_mem _ (List.mem_cons_of_mem _ hp)) ?_ rfl (by simp only [List.length_cons, List.length_nil]; omega) fun s' mid' hs' ok => ?_
      · exact jz (c := [.int .i64 y.1, .int .i64 y.2]) hA ok (List.mem_append_right _ (List.mem_append_left _ List.mem_cons_self)) 0 rfl
      repeat (first
  | refine aa.2 ?_
  | refine cA 0 hA ok rfl rfl rfl rfl ?_)
      rw [List.append_nil] at ff
      have hp : ((j1.q, oc cr ((m.eN (i.toNat + 1)).cells { j1 with ds := s', tds := mid' })) :: (fbl (m.eN i.toNat).frees j1.fj ++ (j1.tls ++ j1.tfs)) ++ (mid' ++ [])).Perm ((m.eN (i.toNat + 1)).bl { j1 with ds := s', tds := mid' }) := by
        unfold Tn.bl
        rw [ff]
        dsimp only
        exact (aT fun c d c0 cd ca => by simp only [cd, ca, c0]; omega)
      refine cR ⟨i + 1, rfl, ⟨{ j1 with ds := s', tds := mid' }, by omega, by omega, ?_, ?_, rfl, rfl, hls, hfs, ?_, ?_⟩, by omega⟩
      · rw [e2]; exact (kC (A := A) hp ok).1
      · rw [e2]; exact (kC (A := A) hp ok).2
      · rw [e2, fl]; exact hs'
      · rw [e2, ff]; exact hfl
  · refine af (decide_eq_false (by show ¬ i < ((j1.ls.len : Nat) : Int); rw [hlen]; exact hi)) ?_
    have ei : i.toNat = m.l.length := by omega
    rw [ei] at hds hfl ok ⊢
    repeat (first
  | refine aa.2 ?_
  | refine aS 0 hA ok rfl rfl rfl ?_
  | refine cA 0 hA ok rfl rfl rfl rfl ?_)
    have hfl2 := hfs.len
    rw [List.length_map, ← hfl] at hfl2
    by_cases hz : (m.eN m.l.length).frees = []
    · refine av (j7 (by show ((j1.fs.len : Nat) : Int) = 0; rw [hfl2, hz]; rfl)) ?_
      repeat (first
  | refine aa.2 ?_
  | refine cA 0 hA ok rfl rfl rfl rfl ?_)
      have ep : m.sort.ph = 4 := if_pos hz
      refine ad ⟨j1, rfl, ?_, rfl, ok, ⟨hls, hfs.at', hds, hfl, fun h => by rw [ep] at h; omega⟩⟩
      have key : m.sort.cells j1 = tnC m.tw m.ta m.pl m.work m.e m.word j1.ls j1.fs j1.ds (mL j1.q 4) := by unfold Tn.cells; rw [ep]; rfl
      rw [key]; rfl
    · refine af (iR (by show ((j1.fs.len : Nat) : Int) ≠ 0; rw [hfl2]; have := List.length_pos_iff.2 hz; omega)) ?_
      have ep : m.sort.ph = 3 := if_neg hz
      refine ad ⟨j1, rfl, ?_, rfl, ok, ⟨hls, hfs.at', hds, hfl, fun h => by rw [ep] at h; omega⟩⟩
      have key : m.sort.cells j1 = tnC m.tw m.ta m.pl m.work m.e m.word j1.ls j1.fs j1.ds (mL j1.q 3) := by unfold Tn.cells; rw [ep]; rfl
      rw [key]; rfl
end
def Tn.step (m : Tn) (A : Ar) : Tn × Ar :=
  if m.ph = 0 then ({ m with e := A.ao m.ta, ph := if m.tw < 1 then 2 else 1 }, A.aV m.ta)
  else if m.ph = 1 then
    (if A.ao (ewd m.ta m.word) ≠ 0 ∧ A.ao (ewd m.ta m.word) ≠ w64 (m.e + 1) then Tn.sort { m with word := w64 (m.word + 1) }
     else { m with word := w64 (m.word + 1), ph := if w64 (m.word + 1) = m.tw then 2 else 1 }, A.aV (ewd m.ta m.word))
  else if m.ph = 2 then ((if A.cC m.ta m.e = true then Tn.sort { m with e := w64 (m.e + 1) } else m.sort), A.dE m.ta m.e (w64 (m.e + 1)))
  else if m.ph = 3 then match m.frees with
    | [] => (m, A)
    | f :: fs => if (f.step A).1.done = true then ({ m with frees := fs, ph := if fs = [] then 4 else 3 }, (f.step A).2) else ({ m with frees := (f.step A).1 :: fs }, (f.step A).2)
  else (m, A)
structure Tn.inv (m : Tn) (A : Ar) : Prop where
  ll : m.l.length ≤ 1000
  un : m.ph ≤ 2 → m.frees = [] ∧ m.left = []
  fr : m.ph = 3 → m.frees ≠ []
def mTn : sB Tn TnJ where
  f := gZ
  addr := TnJ.q
  bl := Tn.bl
  rep := Tn.rep
  inv := Tn.inv
  step := Tn.step
  fin := fun m => decide (4 ≤ m.ph)
theorem Lt : mTn.vX bH := fun q p => by
  show opS _ _ _ _ = .pure (.enter gZ [.pointer (some ⟨q, 0, none⟩), .pointer p].toArray)
  kernel_rfl
theorem MT (q : Nat) : ∀ ph : Nat, opS Tryz.prog (.binOp .neq bG (.tmp 0) (.const .nilFunc) bG) aO [mL q ph] = .pure (.value (.bool (decide (ph < 4))))
  | 0 => DV _ _
  | 1 => DV _ _
  | 2 => DV _ _
  | 3 => DV _ _
  | n + 4 => by rw [decide_eq_false (by omega)]; exact LL
theorem teq (q : Nat) : ∀ ph : Nat, opS Tryz.prog (.binOp .eql bG (.tmp 0) (.const .nilFunc) bG) aO [mL q ph] = .pure (.value (.bool (decide (4 ≤ ph))))
  | 0 => feq _ _
  | 1 => feq _ _
  | 2 => feq _ _
  | 3 => feq _ _
  | n + 4 => by rw [decide_eq_true (by omega)]; exact No
section
variable {L : aZ} {R : Value → Heap → Prop} {A : Ar} {I : List Nat} {l : Bl} {G : Heap}
def Bk (I : List Nat) (G : Heap) (j : TnJ) (m1 : Tn) (A1 : Ar) : Value → Heap → Prop := fun v K => ∃ j' : TnJ, v = .tuple #[] ∧ K = own A1 (m1.bl j') G ∧ j'.q = j.q ∧ Ok I G (keys (m1.bl j')) ∧ m1.rep j' ∧ Aw I A1
theorem BU (m : Tn) (j : TnJ) (hA : Aw I A) (ok : Ok I G (keys (m.bl j))) (rp : m.rep j) (hp : m.ph = 0) :
    cB Tryz.prog dT #[.pointer (some ⟨j.q, 0, none⟩), .pointer (aI I)] (own A (m.bl j) G) (Bk I G j { m with e := A.ao m.ta, ph := if m.tw < 1 then 2 else 1 } (A.aV m.ta)) := by
  refine qq fun L => ?_
  unfold mZ
  unfold Tn.bl at ok ⊢
  repeat (first
  | refine aa.2 ?_
  | refine fy 0 hA ok rfl rfl rfl ?_)
  refine qZ ?_
  repeat (first
  | refine aa.2 ?_
  | refine aS 0 hA ok rfl rfl rfl ?_
  | refine cA 0 hA ok rfl rfl rfl rfl ?_
  | (refine uA hA ?_; intro hA))
  by_cases c : m.tw < 1
  · refine av (decide_eq_true c) ?_
    repeat (first
  | refine aa.2 ?_
  | refine cA 0 hA ok rfl rfl rfl rfl ?_)
    refine ad ⟨j, rfl, ?_, rfl, ok, ⟨rp.ls, rp.fs, rp.ds, rp.fl, fun _ => rp.un (by omega)⟩, hA⟩
    rw [if_pos c]; rfl
  · refine af (decide_eq_false c) ?_
    refine ad ⟨j, rfl, ?_, rfl, ok, ⟨rp.ls, rp.fs, rp.ds, rp.fl, fun _ => rp.un (by omega)⟩, hA⟩
    rw [if_neg c]; rfl
set_option maxHeartbeats 2000000 in
theorem Ed (m : Tn) (j : TnJ) (hA : Aw I A) (ok : Ok I G (keys (m.bl j))) (rp : m.rep j) (hp : m.ph = 1) (hf : m.frees = []) (hd : m.left = []) (hl : m.l.length ≤ 1000) :
    cB Tryz.prog fv #[.pointer (some ⟨j.q, 0, none⟩), .pointer (aI I)] (own A (m.bl j) G) (Bk I G j
      (if A.ao (ewd m.ta m.word) ≠ 0 ∧ A.ao (ewd m.ta m.word) ≠ w64 (m.e + 1) then Tn.sort { m with word := w64 (m.word + 1) }
       else { m with word := w64 (m.word + 1), ph := if w64 (m.word + 1) = m.tw then 2 else 1 }) (A.aV (ewd m.ta m.word))) := by
  refine sM fun L => ?_
  unfold pB
  unfold Tn.bl at ok ⊢
  repeat (first
  | refine aa.2 ?_
  | refine aS 0 hA ok rfl rfl rfl ?_
  | refine fy 0 hA ok rfl rfl rfl ?_)
  refine zR ?_
  repeat (first
  | refine aa.2 ?_
  | refine aS 0 hA ok rfl rfl rfl ?_
  | refine cA 0 hA ok rfl rfl rfl rfl ?_
  | (refine uA hA ?_; intro hA))
  have rp1 : Tn.rep { m with word := w64 (m.word + 1) } j := ⟨rp.ls, rp.fs, rp.ds, rp.fl, rp.un⟩
  have tail : ∀ L, A.ao (ewd m.ta m.word) = 0 ∨ A.ao (ewd m.ta m.word) = w64 (m.e + 1) → wp Tryz.prog (
      .look (opS Tryz.prog (.nilCheck (.tmp 0)) aF [(.pointer (some ⟨j.q, 0, none⟩))]) (.one (.leaf .addr)) fun x39 =>
      .ld (x39.add 9) (.int .i64) fun x41 =>
      .look (opS Tryz.prog (.nilCheck (.tmp 0)) aF [(.pointer (some ⟨j.q, 0, none⟩))]) (.one (.leaf .addr)) fun x43 =>
      .ld x43 (.int .i64) fun x46 =>
      bif ((x41 : Int) == x46) then (
        .look (opS Tryz.prog (.nilCheck (.tmp 0)) aF [(.pointer (some ⟨j.q, 0, none⟩))]) (.one (.leaf .addr)) fun x51 =>
        .st (x51.add 13) (.func (.func df) #[(.pointer (some ⟨j.q, 0, none⟩))] #[]) <|
        .ret (.tuple #[]))
      else (
        .ret (.tuple #[]))) L (own (A.aV (ewd m.ta m.word)) (Tn.bl { m with word := w64 (m.word + 1) } j) G) (Bk I G j
      (if A.ao (ewd m.ta m.word) ≠ 0 ∧ A.ao (ewd m.ta m.word) ≠ w64 (m.e + 1) then Tn.sort { m with word := w64 (m.word + 1) }
       else { m with word := w64 (m.word + 1), ph := if w64 (m.word + 1) = m.tw then 2 else 1 }) (A.aV (ewd m.ta m.word))) := by
    intro L hv
    have ok : Ok I G (keys (Tn.bl { m with word := w64 (m.word + 1) } j)) := ok
    rw [if_neg (fun h => by rcases hv with h' | h'; exact h.1 h'; exact h.2 h')]
    unfold Tn.bl at ok ⊢
    repeat (first
  | refine aa.2 ?_
  | refine aS 0 hA ok rfl rfl rfl ?_)
    by_cases c : w64 (m.word + 1) = m.tw
    · refine av (j7 c) ?_
      repeat (first
  | refine aa.2 ?_
  | refine cA 0 hA ok rfl rfl rfl rfl ?_)
      refine ad ⟨j, rfl, ?_, rfl, ok, ⟨rp.ls, rp.fs, rp.ds, rp.fl, fun _ => rp.un (by omega)⟩, hA⟩
      rw [if_pos c]; rfl
    · refine af (iR c) ?_
      refine ad ⟨j, rfl, ?_, rfl, ok, ⟨rp.ls, rp.fs, rp.ds, rp.fl, fun _ => rp.un (by omega)⟩, hA⟩
      rw [if_neg c]
      have e : mL j.q m.ph = mL j.q 1 := by rw [hp]
      show own _ ((j.q, oc cr (tnC m.tw m.ta m.pl m.work m.e (w64 (m.word + 1)) j.ls j.fs j.ds (mL j.q m.ph))) :: _) G = _
      rw [e]; rfl
  by_cases c0 : A.ao (ewd m.ta m.word) = 0
  · refine af (by rw [c0]; rfl) ?_
    exact tail L (.inl c0)
  · refine av (CT c0) ?_
    repeat (first
  | refine aa.2 ?_
  | refine aS 0 hA ok rfl rfl rfl ?_)
    by_cases c1 : A.ao (ewd m.ta m.word) = w64 (m.e + 1)
    · refine af (Eh c1) ?_
      exact tail L (.inr c1)
    · refine av (CT c1) ?_
      rw [if_pos ⟨c0, c1⟩]
      refine aR (wx { m with word := w64 (m.word + 1) } j hA ok rp1 (by show m.ph ≤ 2; omega) hf hd hl) ?_
      rintro v K ⟨j', rfl, rfl, eq, ok', rp'⟩
      exact ⟨(), rfl, ad ⟨j', rfl, rfl, eq, ok', rp', hA⟩⟩
theorem DZ (m : Tn) (j : TnJ) (hA : Aw I A) (ok : Ok I G (keys (m.bl j))) (rp : m.rep j) (hp : m.ph = 2) (hf : m.frees = []) (hd : m.left = []) (hl : m.l.length ≤ 1000) :
    cB Tryz.prog df #[.pointer (some ⟨j.q, 0, none⟩), .pointer (aI I)] (own A (m.bl j) G) (Bk I G j
      (if A.cC m.ta m.e = true then Tn.sort { m with e := w64 (m.e + 1) } else m.sort) (A.dE m.ta m.e (w64 (m.e + 1)))) := by
  refine sv fun L => ?_
  unfold pV
  unfold Tn.bl at ok ⊢
  repeat (first
  | refine aa.2 ?_
  | refine fy 0 hA ok rfl rfl rfl ?_)
  refine qZ ?_
  repeat (first
  | refine aa.2 ?_
  | refine aS 0 hA ok rfl rfl rfl ?_
  | (refine qU hA ?_; intro hA))
  by_cases c : A.cC m.ta m.e = true
  · rw [if_pos c]
    refine av c ?_
    repeat (first
  | refine aa.2 ?_
  | refine aS 0 hA ok rfl rfl rfl ?_
  | refine cA 0 hA ok rfl rfl rfl rfl ?_)
    refine aR (wx { m with e := w64 (m.e + 1) } j hA ok ⟨rp.ls, rp.fs, rp.ds, rp.fl, rp.un⟩ (by show m.ph ≤ 2; omega) hf hd hl) ?_
    rintro v K ⟨j', rfl, rfl, eq, ok', rp'⟩
    exact ⟨(), rfl, ad ⟨j', rfl, rfl, eq, ok', rp', hA⟩⟩
  · rw [if_neg c]
    refine af (by simpa using c) ?_
    refine aR (wx m j hA ok rp (by omega) hf hd hl) ?_
    rintro v K ⟨j', rfl, rfl, eq, ok', rp'⟩
    exact ⟨(), rfl, ad ⟨j', rfl, rfl, eq, ok', rp', hA⟩⟩
set_option maxHeartbeats 2000000 in
theorem DY (m : Tn) (j : TnJ) (hA : Aw I A) (ok : Ok I G (keys (m.bl j))) (rp : m.rep j) (hp : m.ph = 3) {f : Fe} {fs : List Fe} (efs : m.frees = f :: fs) :
    cB Tryz.prog fw #[.pointer (some ⟨j.q, 0, none⟩), .pointer (aI I)] (own A (m.bl j) G) (Bk I G j
      (if (f.step A).1.done = true then { m with frees := fs, ph := if fs = [] then 4 else 3 } else { m with frees := (f.step A).1 :: fs }) (f.step A).2) := by
  refine sQ fun L => ?_
  unfold pL
  obtain ⟨jf, js, ejs⟩ : ∃ jf js, j.fj = jf :: js := by
    have := rp.fl
    cases h : j.fj with
    | nil => rw [efs, h] at this; cases this
    | cons f fs => exact ⟨f, fs, rfl⟩
  have rfs := rp.fs
  rw [ejs] at rfs
  have hl0 : (0 : Int) < (j.fs.len : Int) := by have := rfs.len; simp at this; omega
  have hfl : fs.length = js.length := by have := rp.fl; rw [efs, ejs] at this; simpa using this
  unfold Tn.bl at ok ⊢
  rw [efs, ejs] at ok ⊢
  simp only [fbl] at ok ⊢
  repeat (first
  | refine aa.2 ?_
  | refine aS 0 hA ok rfl rfl rfl ?_)
  refine Ob hA ok (rfs.mono fun p hp => List.mem_cons_of_mem _ (List.mem_append_right _ (List.mem_append_right _ (List.mem_append_left _ hp)))) ?_
  obtain ⟨p1, ok2⟩ := aN (A := A) (l' := f.bl jf ++ ((j.q, oc cr (m.cells j)) :: (fbl fs js ++ (j.tls ++ (j.tfs ++ j.tds))))) ok (aT fun c d c0 cd ca => by simp only [cd, ca, c0]; omega)
  rw [p1]
  have ok3 : Ok I G (keys (f.bl jf) ++ keys ((j.q, oc cr (m.cells j)) :: (fbl fs js ++ (j.tls ++ (j.tfs ++ j.tds))))) := by rw [← bP]; exact ok2
  obtain ⟨o1, o2⟩ := ok3.split
  refine rh (Jo I A _ f jf hA o1 trivial) ?_
  rintro v K ⟨jf', rfl, rfl, ej, o3, hA'⟩
  refine ⟨(f.step A).1.done, rfl, ?_⟩
  have hA := hA'
  show wp Tryz.prog _ L (own (f.step A).2 ((f.step A).1.bl jf') (dO _ G)) _
  rw [← dY]
  have o4 : Ok I G (keys ((f.step A).1.bl jf' ++ ((j.q, oc cr (m.cells j)) :: (fbl fs js ++ (j.tls ++ (j.tfs ++ j.tds)))))) := by rw [bP]; exact o3.join o2
  by_cases hd : (f.step A).1.done = true
  · rw [if_pos hd]
    refine av hd ?_
    obtain ⟨p2, ok5⟩ := aN (A := (f.step A).2) (l' := (j.q, oc cr (m.cells j)) :: (fbl fs js ++ (j.tls ++ (j.tfs ++ ((f.step A).1.bl jf' ++ j.tds))))) o4 (aT fun c d c0 cd ca => by simp only [cd, ca, c0]; omega)
    have ok := ok5
    have p3 : own (f.step A).2 (Fe.bl (f.step A).1 jf' ++ ((j.q, oc cr (m.cells j)) :: (fbl fs js ++ (j.tls ++ (j.tfs ++ j.tds))))) G = _ := p2
    rw [p3]
    repeat (first
  | refine aa.2 ?_
  | refine aS 0 hA ok rfl rfl rfl ?_)
    obtain ⟨tl1, tl2⟩ := rfs.tail
    rw [zw]
    refine aB (x := gH j.fs 1) (pv (e := cD) rfl rfl rfl (by omega) tl2) ?_
    repeat (first
  | refine aa.2 ?_
  | refine aS 0 hA ok rfl rfl rfl ?_
  | refine cA 0 hA ok rfl rfl rfl rfl ?_)
    have hle := tl1.len
    rw [List.length_map] at hle
    by_cases hz : fs = []
    · refine av (j7 (by show (((gH j.fs 1).len : Nat) : Int) = 0; rw [hle, ← hfl, hz]; rfl)) ?_
      repeat (first
  | refine aa.2 ?_
  | refine cA 0 hA ok rfl rfl rfl rfl ?_)
      rw [if_pos hz]
      exact ad ⟨{ j with fs := gH j.fs 1, fj := js, tds := (f.step A).1.bl jf' ++ j.tds }, rfl, rfl, rfl, ok, ⟨rp.ls, tl1, rp.ds.mono fun p hp => List.mem_append_right _ hp, hfl, fun h => (by have h : 4 ≤ 2 := h; omega)⟩, hA⟩
    · refine af (iR (by show (((gH j.fs 1).len : Nat) : Int) ≠ 0; rw [hle, ← hfl]; have := List.length_pos_iff.2 hz; omega)) ?_
      rw [if_neg hz]
      refine ad ⟨{ j with fs := gH j.fs 1, fj := js, tds := (f.step A).1.bl jf' ++ j.tds }, rfl, ?_, rfl, ok, ⟨rp.ls, tl1, rp.ds.mono fun p hp => List.mem_append_right _ hp, hfl, fun h => (by have h : 3 ≤ 2 := h; omega)⟩, hA⟩
      have e : mL j.q m.ph = mL j.q 3 := by rw [hp]
      show own _ ((j.q, oc cr (tnC m.tw m.ta m.pl m.work m.e m.word j.ls (gH j.fs 1) j.ds (mL j.q m.ph))) :: _) G = _
      rw [e]; rfl
  · rw [if_neg hd]
    refine af (by simpa using hd) ?_
    obtain ⟨p2, ok5⟩ := aN (A := (f.step A).2) (l' := (j.q, oc cr (m.cells j)) :: (((f.step A).1.bl jf' ++ fbl fs js) ++ (j.tls ++ (j.tfs ++ j.tds)))) o4 (aT fun c d c0 cd ca => by simp only [cd, ca, c0]; omega)
    have ok := ok5
    have p3 : own (f.step A).2 (Fe.bl (f.step A).1 jf' ++ ((j.q, oc cr (m.cells j)) :: (fbl fs js ++ (j.tls ++ (j.tfs ++ j.tds))))) G = _ := p2
    rw [p3]
    repeat (first
  | refine aa.2 ?_
  | refine aS 0 hA ok rfl rfl rfl ?_)
    have hle := rfs.len
    refine af (iR (by show ((j.fs.len : Nat) : Int) ≠ 0; omega)) ?_
    refine ad ⟨{ j with fj := jf' :: js }, rfl, rfl, rfl, ok, ⟨rp.ls, ?_, rp.ds, ?_, fun h => (by have h : m.ph ≤ 2 := h; omega)⟩, hA⟩
    · show ir j.tfs cD eP j.fs (jf'.1 :: js.map (·.1))
      rw [show jf'.1 = jf.1 from ej]; exact rfs
    · show ((f.step A).1 :: fs).length = (jf' :: js).length
      simp [hfl]
theorem Mr : mTn.ok := by
  rintro I A G m j hA ok rp ⟨ll, un, fr⟩
  have ok : Ok I G (keys (m.bl j)) := ok
  have rp : m.rep j := rp
  have key : ∀ (f : FuncId) {m1 : Tn} {A1 : Ar}, m.step A = (m1, A1) → m.ph < 4 → cB Tryz.prog f #[.pointer (some ⟨j.q, 0, none⟩), .pointer (aI I)] (own A (m.bl j) G) (Bk I G j m1 A1) →
      opS Tryz.prog (.call { callee := .value (.tmp 0), args := #[(.tmp 1)], argTypes := #[aK] }) aF [mL j.q m.ph, .pointer (aI I)] = .pure (.enter f [.pointer (some ⟨j.q, 0, none⟩), .pointer (aI I)].toArray) →
      cB Tryz.prog gZ #[.pointer (some ⟨j.q, 0, none⟩), .pointer (aI I)] (own A (m.bl j) G) fun v K => ∃ j' : TnJ, v = .bool (decide (4 ≤ (m.step A).1.ph)) ∧ K = own (m.step A).2 ((m.step A).1.bl j') G ∧ j'.q = j.q ∧ Ok I G (keys ((m.step A).1.bl j')) ∧ (m.step A).1.rep j' ∧ Aw I (m.step A).2 := by
    intro f m1 A1 hst hp hs hc
    rw [hst]
    refine kX fun L => ?_
    unfold kQ
    unfold Tn.bl at ok ⊢
    repeat (first
  | refine aa.2 ?_
  | refine aS 0 hA ok rfl rfl rfl ?_)
    refine aB (x := decide (m.ph < 4)) (MT _ _) (av (decide_eq_true hp) ?_)
    repeat (first
  | refine aa.2 ?_
  | refine aS 0 hA ok rfl rfl rfl ?_)
    refine bZ hc ?_
    refine aR hs ?_
    rintro v K ⟨j', rfl, rfl, eq, ok', rp', hA'⟩
    refine ⟨(), rfl, ?_⟩
    have ok := ok'
    have hA := hA'
    rw [← eq]
    unfold Tn.bl at ok ⊢
    repeat (first
  | refine aa.2 ?_
  | refine aS 0 hA ok rfl rfl rfl ?_)
    refine aB (x := decide (4 ≤ m1.ph)) (teq _ _) ?_
    exact ad ⟨j', rfl, rfl, rfl, ok', rp', hA'⟩
  show cB Tryz.prog gZ #[.pointer (some ⟨j.q, 0, none⟩), .pointer (aI I)] (own A (m.bl j) G) fun v K => ∃ j' : TnJ, v = .bool (decide (4 ≤ (m.step A).1.ph)) ∧ K = own (m.step A).2 ((m.step A).1.bl j') G ∧ j'.q = j.q ∧ Ok I G (keys ((m.step A).1.bl j')) ∧ (m.step A).1.rep j' ∧ Aw I (m.step A).2
  by_cases h0 : m.ph = 0
  · refine key dT (by unfold Tn.step; rw [if_pos h0]) (by omega) (BU m j hA ok rp h0) ?_
    rw [h0]; exact MZ _ _
  by_cases h1 : m.ph = 1
  · obtain ⟨u1, u2⟩ := un (by omega)
    refine key fv (by unfold Tn.step; rw [if_neg h0, if_pos h1]) (by omega) (Ed m j hA ok rp h1 u1 u2 ll) ?_
    rw [h1]; exact Nq _ _
  by_cases h2 : m.ph = 2
  · obtain ⟨u1, u2⟩ := un (by omega)
    refine key df (by unfold Tn.step; rw [if_neg h0, if_neg h1, if_pos h2]) (by omega) (DZ m j hA ok rp h2 u1 u2 ll) ?_
    rw [h2]; exact Nh _ _
  by_cases h3 : m.ph = 3
  · obtain ⟨f, fs, efs⟩ : ∃ f fs, m.frees = f :: fs := by
      cases h : m.frees with
      | nil => exact (fr h3 h).elim
      | cons f fs => exact ⟨f, fs, rfl⟩
    refine key fw ?_ (by omega) (DY m j hA ok rp h3 efs) ?_
    · unfold Tn.step; rw [if_neg h0, if_neg h1, if_neg h2, if_pos h3, efs]
      dsimp only
      split <;> rfl
    · rw [h3]; exact Mx _ _
  have hst : m.step A = (m, A) := by unfold Tn.step; rw [if_neg h0, if_neg h1, if_neg h2, if_neg h3]
  rw [hst]
  refine kX fun L => ?_
  unfold kQ
  unfold Tn.bl at ok ⊢
  repeat (first
  | refine aa.2 ?_
  | refine aS 0 hA ok rfl rfl rfl ?_)
  refine aB (x := decide (m.ph < 4)) (MT _ _) (af (decide_eq_false (by omega)) ?_)
  repeat (first
  | refine aa.2 ?_
  | refine aS 0 hA ok rfl rfl rfl ?_)
  refine aB (x := decide (4 ≤ m.ph)) (teq _ _) ?_
  exact ad ⟨j, rfl, rfl, rfl, ok, rp, hA⟩
def g8 (tw ta : Int) (p : Pl) (work : Int) (xs : List (Int × Int)) : Tn := ⟨tw, ta, p, work, 0, 0, xs, [], [], 0⟩
set_option maxHeartbeats 1000000 in
theorem Hq {tw ta work : Int} {p : Pl} {xs : List (Int × Int)} {s : Sl} {k : Option Addr → Tree} (hA : Aw I A) (ok : Ok I G (keys l)) (hs : dH l aG eL s xs) (hm : xs.length ≤ 1000)
    (h : ∀ j : TnJ, Ok I G (keys ((g8 tw ta p work xs).bl j ++ l)) → (g8 tw ta p work xs).rep j → wp Tryz.prog (k (some ⟨j.q, 0, none⟩)) L (own A ((g8 tw ta p work xs).bl j ++ l) G) R) :
    wp Tryz.prog (.call mK [.agg #[.int .i64 tw, .int .i64 ta], p.val, .int .i64 work, .slice s.a s.len s.cap] (.one (.leaf .ptr)) k) L (own A l G) R := by
  refine aR (R0 := fun v K => ∃ j : TnJ, v = .pointer (some ⟨j.q, 0, none⟩) ∧ K = own A ((g8 tw ta p work xs).bl j ++ l) G ∧ Ok I G (keys ((g8 tw ta p work xs).bl j ++ l)) ∧ (g8 tw ta p work xs).rep j) ?_ ?_
  · refine uN (p0_0 := tw) (p0_1 := ta) (p1_0 := p.work) (p1_1 := p.heads) (p1_2 := p.links) (p1_3 := p.gens) (p1_4 := p.carved) (p2 := work) (p3 := s) fun L => ?_
    unfold tJ
    have hsl := hs.len
    have ok0 := ok
    refine cL hA ok fun e1 ok => ?_
    refine cL hA ok fun e2 ok => ?_
    repeat (first
  | refine fy 0 hA ok rfl rfl rfl ?_
  | refine fy 1 hA ok rfl rfl rfl ?_)
    refine cL hA ok fun q ok => ?_
    repeat (first
  | refine aa.2 ?_
  | refine aS 0 hA ok rfl rfl rfl ?_)
    refine qm (E := eL) elL (xs := []) (ys := xs) (s := sl0) (mid := []) (post := l) [(q, _), (e2, _), (e1, _)] hA ok (.inl ⟨rfl, rfl⟩) (dH.row hA ok (hs.mono fun p hp => ?_)) hsl (by simp; omega) fun s' mid' hs' ok => ?_
    · exact List.mem_cons_of_mem _ (List.mem_cons_of_mem _ (List.mem_cons_of_mem _ hp))
    repeat (first
  | refine aa.2 ?_
  | refine cA 0 hA ok rfl rfl rfl rfl ?_)
    rw [List.nil_append] at hs'
    let j0 : TnJ := ⟨q, s', sl0, sl0, [], mid', [], []⟩
    have eb : (g8 tw ta p work xs).bl j0 ++ l = (q, oc cr ((g8 tw ta p work xs).cells j0)) :: (mid' ++ l) := by
      unfold Tn.bl
      simp [fbl, g8, j0]
    have ok1 : Ok I G (keys ((g8 tw ta p work xs).bl j0 ++ l)) := by
      rw [eb]
      have nd := ok.nd
      refine ok.sub ?_ fun b hb => ?_
      · have sl : (q :: keys (mid' ++ l)).Sublist (q :: e2 :: e1 :: keys (mid' ++ l)) := .cons_cons _ (.cons _ (.cons _ (List.Sublist.refl _)))
        exact sl.nodup nd
      · have hb : b ∈ q :: keys (mid' ++ l) := hb
        show b ∈ q :: e2 :: e1 :: keys (mid' ++ l)
        simp only [List.mem_cons] at hb ⊢
        rcases hb with h | h
        · exact .inl h
        · exact .inr (.inr (.inr h))
    refine ⟨own A ((g8 tw ta p work xs).bl j0 ++ l) G, kh ok ok1.nd fun b hb => ?_, j0, rfl, rfl, ok1, ⟨hs', .inl ⟨rfl, rfl⟩, .inl ⟨rfl, rfl⟩, rfl, fun _ => ⟨rfl, rfl⟩⟩⟩
    rw [eb] at hb
    rcases List.mem_cons.1 hb with h | hb
    · rw [h]; exact List.mem_cons_self
    · exact List.mem_cons_of_mem _ (List.mem_cons_of_mem _ (List.mem_cons_of_mem _ hb))
  · rintro v K ⟨j, rfl, rfl, o, r⟩
    exact ⟨_, rfl, h j o r⟩
theorem Kx {m : Tn} {j : TnJ} {rest : Bl} {k : Sl → Tree} (hA : Aw I A) (ok : Ok I G (keys (m.bl j ++ rest))) (rp : m.rep j) (he : 4 ≤ m.ph) (hm : m.left.length ≤ 1000)
    (h : ∀ s' tl', dH tl' aG eL s' m.left → Ok I G (keys (m.bl j ++ (tl' ++ rest))) → wp Tryz.prog (k s') L (own A (m.bl j ++ (tl' ++ rest)) G) R) :
    wp Tryz.prog (.call kM [.pointer (some ⟨j.q, 0, none⟩)] (.one (.leaf .slice)) k) L (own A (m.bl j ++ rest) G) R := by
  refine aR (R0 := fun v K => ∃ s' tl', v = .slice s'.a s'.len s'.cap ∧ K = own A (m.bl j ++ (tl' ++ rest)) G ∧ dH tl' aG eL s' m.left ∧ Ok I G (keys (m.bl j ++ (tl' ++ rest)))) ?_ ?_
  · refine sG fun L => ?_
    unfold pU
    refine aa.2 ?_
    refine aS 0 hA ok rfl rfl rfl ?_
    refine aB (x := decide (m.ph < 4)) (MT _ _) (af (decide_eq_false (by omega)) ?_)
    refine aa.2 ?_
    refine aS 0 hA ok rfl rfl rfl ?_
    rw [AD]
    refine qm (E := eL) elL (xs := []) (ys := m.left) (s := sl0) (mid := []) (post := rest) (m.bl j) hA ok (.inl ⟨rfl, rfl⟩) ?_ rp.ds.len (by simp; omega) fun s' mid' hs' ok => ?_
    · refine dH.row hA ok (rp.ds.mono fun p hp => List.mem_append_left _ ?_)
      exact List.mem_cons_of_mem _ (List.mem_append_right _ (List.mem_append_right _ (List.mem_append_right _ hp)))
    exact ad ⟨s', mid', rfl, rfl, hs', ok⟩
  · rintro v K ⟨s', tl', rfl, rfl, hs', o⟩
    exact ⟨_, rfl, h s' tl' hs' o⟩
end
def ky (tw ta : Int) (p : Pl) (work : Int) (xs : List Int) : Sc := ⟨tw, ta, p, work, 0, xs, [], false, [], [], false⟩
section
variable {L : aZ} {R : Value → Heap → Prop} {A : Ar} {I : List Nat} {l : Bl} {G : Heap}
set_option maxHeartbeats 1000000 in
theorem HC {tw ta work : Int} {p : Pl} {xs : List Int} {s : Sl} {k : Option Addr → Tree} (hA : Aw I A) (ok : Ok I G (keys l)) (hs : Row (own A l G) s.a (eI.all xs)) (hl : s.len = xs.length) (hm : xs.length ≤ 1000)
    (h : ∀ j : ScJ, Ok I G (keys ((ky tw ta p work xs).bl j ++ l)) → (ky tw ta p work xs).rep j → wp Tryz.prog (k (some ⟨j.q, 0, none⟩)) L (own A ((ky tw ta p work xs).bl j ++ l) G) R) :
    wp Tryz.prog (.call lU [.agg #[.int .i64 tw, .int .i64 ta], p.val, .int .i64 work, .slice s.a s.len s.cap] (.one (.leaf .ptr)) k) L (own A l G) R := by
  refine aR (R0 := fun v K => ∃ j : ScJ, v = .pointer (some ⟨j.q, 0, none⟩) ∧ K = own A ((ky tw ta p work xs).bl j ++ l) G ∧ Ok I G (keys ((ky tw ta p work xs).bl j ++ l)) ∧ (ky tw ta p work xs).rep j) ?_ ?_
  · refine tO (p0_0 := tw) (p0_1 := ta) (p1_0 := p.work) (p1_1 := p.heads) (p1_2 := p.links) (p1_3 := p.gens) (p1_4 := p.carved) (p2 := work) (p3 := s) fun L => ?_
    unfold qL
    have ok0 := ok
    refine cL hA ok fun e1 ok => ?_
    refine cL hA ok fun e2 ok => ?_
    repeat (first
  | refine fy 0 hA ok rfl rfl rfl ?_
  | refine fy 1 hA ok rfl rfl rfl ?_)
    refine MX hA ok fun mq ok => ?_
    refine cL hA ok fun q ok => ?_
    repeat (first
  | refine aa.2 ?_
  | refine aS 0 hA ok rfl rfl rfl ?_)
    refine qm (E := eI) elI (xs := []) (ys := xs) (s := sl0) (mid := []) (post := l) [(q, _), (mq, _), (e2, _), (e1, _)] hA ok (.inl ⟨rfl, rfl⟩) (M9 hs ?_) hl (by simp; omega) fun s' mid' hs' ok => ?_
    · refine kh ok ok0.nd fun p hp => ?_
      exact List.mem_cons_of_mem _ (List.mem_cons_of_mem _ (List.mem_cons_of_mem _ (List.mem_cons_of_mem _ hp)))
    repeat (first
  | refine aa.2 ?_
  | refine cA 0 hA ok rfl rfl rfl rfl ?_)
    rw [List.nil_append] at hs'
    have eb : (ky tw ta p work xs).bl ⟨q, mq, s', sl0, sl0, [], mid', [], []⟩ ++ l = (q, oc bD ((ky tw ta p work xs).cells ⟨q, mq, s', sl0, sl0, [], mid', [], []⟩)) :: (mq, bJ Value.bool []) :: (mid' ++ l) := by
      rw [Sc.Hx (m := ky tw ta p work xs) _ rfl]
      simp [fbl, ky]
    have ok1 : Ok I G (keys ((ky tw ta p work xs).bl ⟨q, mq, s', sl0, sl0, [], mid', [], []⟩ ++ l)) := by
      rw [eb]
      have nd := ok.nd
      refine ok.sub ?_ fun b hb => ?_
      · have sl : (q :: mq :: keys (mid' ++ l)).Sublist (q :: mq :: e2 :: e1 :: keys (mid' ++ l)) := .cons_cons _ (.cons_cons _ (.cons _ (.cons _ (List.Sublist.refl _))))
        exact sl.nodup nd
      · have hb : b ∈ q :: mq :: keys (mid' ++ l) := hb
        show b ∈ q :: mq :: e2 :: e1 :: keys (mid' ++ l)
        simp only [List.mem_cons] at hb ⊢
        rcases hb with h | h | h
        · exact .inl h
        · exact .inr (.inl h)
        · exact .inr (.inr (.inr (.inr h)))
    refine ⟨own A ((ky tw ta p work xs).bl ⟨q, mq, s', sl0, sl0, [], mid', [], []⟩ ++ l) G, kh ok ok1.nd fun b hb => ?_, ⟨q, mq, s', sl0, sl0, [], mid', [], []⟩, rfl, rfl, ok1, ⟨hs', .inl ⟨rfl, rfl⟩, .inl ⟨rfl, rfl⟩, rfl, fun _ => ⟨rfl, rfl, rfl, rfl⟩⟩⟩
    rw [eb] at hb
    rcases List.mem_cons.1 hb with h | hb
    · rw [h]; exact List.mem_cons_self
    · rcases List.mem_cons.1 hb with h | hb
      · rw [h]; exact List.mem_cons_of_mem _ List.mem_cons_self
      · exact List.mem_cons_of_mem _ (List.mem_cons_of_mem _ (List.mem_cons_of_mem _ (List.mem_cons_of_mem _ hb)))
  · rintro v K ⟨j, rfl, rfl, o, r⟩
    exact ⟨_, rfl, h j o r⟩
theorem Ng {m : Sc} {j : ScJ} {rest : Bl} {k : Sl → Tree} (hA : Aw I A) (ok : Ok I G (keys (m.bl j ++ rest))) (rp : m.rep j) (he : m.ended = true) (hm : m.left.length ≤ 1000)
    (h : ∀ s' tl', dH tl' aP eI s' m.left → Ok I G (keys (m.bl j ++ (tl' ++ rest))) → wp Tryz.prog (k s') L (own A (m.bl j ++ (tl' ++ rest)) G) R) :
    wp Tryz.prog (.call kq [.pointer (some ⟨j.q, 0, none⟩)] (.one (.leaf .slice)) k) L (own A (m.bl j ++ rest) G) R := by
  refine aR (R0 := fun v K => ∃ s' tl', v = .slice s'.a s'.len s'.cap ∧ K = own A (m.bl j ++ (tl' ++ rest)) G ∧ dH tl' aP eI s' m.left ∧ Ok I G (keys (m.bl j ++ (tl' ++ rest)))) ?_ ?_
  · refine qS fun L => ?_
    unfold oH
    repeat (first
  | refine aa.2 ?_
  | refine aS 0 hA ok rfl rfl rfl ?_)
    refine af (by rw [he]; rfl) ?_
    repeat (first
  | refine aa.2 ?_
  | refine aS 0 hA ok rfl rfl rfl ?_)
    rw [AD]
    refine qm (E := eI) elI (xs := []) (ys := m.left) (s := sl0) (mid := []) (post := rest) (m.bl j) hA ok (.inl ⟨rfl, rfl⟩) ?_ rp.ds.len (by simp; omega) fun s' mid' hs' ok => ?_
    · refine dH.row hA ok (rp.ds.mono fun p hp => List.mem_append_left _ ?_)
      exact List.mem_append_right _ (List.mem_append_right _ (List.mem_append_right _ (List.mem_append_right _ (List.mem_append_right _ hp))))
    exact ad ⟨s', mid', rfl, rfl, hs', ok⟩
  · rintro v K ⟨s', tl', rfl, rfl, hs', o⟩
    exact ⟨_, rfl, h s' tl' hs' o⟩
theorem IK {w n : Int} (b1 : 0 ≤ w ∧ w ≤ 100000) (H : Heap) : Det Tryz.prog nI [.int .i64 w, .int .i64 n] H (.tuple #[.agg #[.int .i64 w, .int .i64 n], .int .i64 (2 * w)]) H := by
  refine wT fun L => ?_
  unfold xi
  have e : w64 (2 * imax w 0) = 2 * w := by
    rw [show imax w 0 = w by unfold imax; rw [if_neg (by omega)]]
    exact aE (by omega) (by omega)
  rw [e]
  refine dI fun b hb => ?_
  refine gS (Heap.bx _ _ _) (by exact Nat.le_refl 2) (zF _ rfl) ?_
  rw [Heap.set_set]
  have c1 : putAll #[.int .i64 0, .int .i64 0] 0 [.int .i64 w, .int .i64 n] = #[.int .i64 w, .int .i64 n] := rfl
  rw [c1]
  exact ⟨((w, n, ()), 2 * w, ()), iX (Heap.bx _ _ _) 2 0 #[] (by simp) rfl, H, Heap.dM _ hb, rfl, rfl⟩
theorem Lp {H : Heap} {w n : Int} {k : HL Sh1.T [(.agg [(.int .i64), (.int .i64)]), (.leaf (.int .i64))] → Tree} (b1 : 0 ≤ w ∧ w ≤ 100000) (h : wp Tryz.prog (k ((w, n, ()), 2 * w, ())) L H R) :
    wp Tryz.prog (.cU nI [.int .i64 w, .int .i64 n] (.tup [(.agg [(.int .i64), (.int .i64)]), (.leaf (.int .i64))]) k) L H R := bc (x := ((w, n, ()), 2 * w, ())) (IK b1 H) h
theorem Jp (tw ta w n : Int) (H : Heap) : Det Tryz.prog fX [.agg #[.int .i64 tw, .int .i64 ta], .int .i64 w, .int .i64 n] H (.int .i64 (w64 (w64 (ta + w64 (2 * w)) + n))) H := by
  refine qc (p0_0 := tw) (p0_1 := ta) fun L => ?_
  unfold ns
  refine dI fun b hb => bL (x := ta) (by rw [Addr.gF, Heap.fE]; rfl) ?_
  exact ⟨H, Heap.dM _ hb, rfl, rfl⟩
theorem F9 {H : Heap} {tw ta w n : Int} {k : Int → Tree} (b : 0 ≤ ta ∧ ta ≤ 1000000 ∧ 0 ≤ w ∧ w ≤ 1000 ∧ 0 ≤ n ∧ n ≤ 1000) (h : wp Tryz.prog (k (ta + 2 * w + n)) L H R) :
    wp Tryz.prog (.cU fX [.agg #[.int .i64 tw, .int .i64 ta], .int .i64 w, .int .i64 n] (.one (.leaf (.int .i64))) k) L H R := by
  have e : w64 (w64 (ta + w64 (2 * w)) + n) = ta + 2 * w + n := by
    rw [aE (x := 2 * w) (by omega) (by omega), aE (x := ta + 2 * w) (by omega) (by omega), aE (by omega) (by omega)]
  have := Jp tw ta w n H
  rw [e] at this
  exact bc (x := ta + 2 * w + n) this h
end
section
variable {A : Ar}
theorem dG {i : Int} (h : A.bp i) : A.raw.getD i.toNat 0 = A.ao i := by unfold Ar.ao; rw [if_pos h]
theorem Pu.s0 {x : Pu} (h : x.at' = 0) (o : A.bp x.head) : (x.cF A, x.cX A) = ({ x with was := A.ao x.head, at' := 1 }, A.tick) := by
  have n1 : ¬ x.at' = 1 := by omega
  have n2 : ¬ x.at' = 2 := by omega
  have n3 : ¬ x.at' = 3 := by omega
  unfold Pu.cF Pu.cX
  simp only [if_neg n1, if_neg n2, if_neg n3, ko o]
theorem Pu.s1 {x : Pu} (h : x.at' = 1) {lk : Int} (hl : w64 (x.pl.links + w64 (Int.tdiv x.base 8)) = lk) (o : A.bp lk) : (x.cF A, x.cX A) = ({ x with at' := 2 }, A.tick.dQ lk.toNat (gO x.was 131071)) := by
  unfold Pu.cF Pu.cX
  simp only [if_pos h, hl]
  unfold Ar.aL; rw [if_pos o]
theorem Pu.s2y {x : Pu} (h : x.at' = 2) (o : A.bp x.head) (e : A.ao x.head = x.was) : (x.cF A, x.cX A) = ({ x with at' := 3 }, A.tick.dQ x.head.toNat (ga x.was (w64 (w64 (Int.tdiv x.base 8) + 1)))) := by
  have n1 : ¬ x.at' = 1 := by omega
  have e' := (dG o).trans e
  have sb : A.cC x.head x.was = true := decide_eq_true ⟨o, e'⟩
  unfold Pu.cF Pu.cX
  simp only [if_neg n1, if_pos h, sb, if_true]
  unfold Ar.dE; rw [if_pos o, if_pos e']
theorem Pu.s2n {x : Pu} (h : x.at' = 2) (o : A.bp x.head) (e : A.ao x.head ≠ x.was) : (x.cF A, x.cX A) = ({ x with at' := 0 }, A.tick) := by
  have n1 : ¬ x.at' = 1 := by omega
  have e' : A.raw.getD x.head.toNat 0 ≠ x.was := by rw [dG o]; exact e
  have sb : A.cC x.head x.was = false := decide_eq_false fun h => e' h.2
  unfold Pu.cF Pu.cX
  simp only [if_neg n1, if_pos h, sb, Bool.false_eq_true, if_false]
  unfold Ar.dE; rw [if_pos o, if_neg e']
theorem Po.s0 {x : Po} (h : x.at' = 0) (o : A.bp x.head) : (x.cF A, x.cX A) = ({ x with was := A.ao x.head, at' := if A.ao x.head % 131072 = 0 then 3 else 1 }, A.tick) := by
  have n1 : ¬ x.at' = 1 := by omega
  have n2 : ¬ x.at' = 2 := by omega
  have n3 : ¬ x.at' = 3 := by omega
  unfold Po.cF Po.cX
  simp only [if_neg n1, if_neg n2, if_neg n3, ko o, xT]
theorem Po.s1 {x : Po} (h : x.at' = 1) {lk : Int} (hl : w64 (w64 (x.pl.links + x.was % 131072) - 1) = lk) (o : A.bp lk) : (x.cF A, x.cX A) = ({ x with link := A.ao lk, at' := 2 }, A.tick) := by
  unfold Po.cF Po.cX
  simp only [if_pos h, xT, hl, ko o]
theorem Po.s2y {x : Po} (h : x.at' = 2) (o : A.bp x.head) (e : A.ao x.head = x.was) : (x.cF A, x.cX A) = ({ x with at' := 3, base := w64 (w64 (x.was % 131072 - 1) * 8), ok := true }, A.tick.dQ x.head.toNat (ga x.was x.link)) := by
  have n1 : ¬ x.at' = 1 := by omega
  have e' := (dG o).trans e
  have sb : A.cC x.head x.was = true := decide_eq_true ⟨o, e'⟩
  unfold Po.cF Po.cX
  simp only [if_neg n1, if_pos h, sb, if_true, xT]
  unfold Ar.dE; rw [if_pos o, if_pos e']
theorem Po.s2n {x : Po} (h : x.at' = 2) (o : A.bp x.head) (e : A.ao x.head ≠ x.was) : (x.cF A, x.cX A) = ({ x with at' := 0 }, A.tick) := by
  have n1 : ¬ x.at' = 1 := by omega
  have e' : A.raw.getD x.head.toNat 0 ≠ x.was := by rw [dG o]; exact e
  have sb : A.cC x.head x.was = false := decide_eq_false fun h => e' h.2
  unfold Po.cF Po.cX
  simp only [if_neg n1, if_pos h, sb, Bool.false_eq_true, if_false]
  unfold Ar.dE; rw [if_pos o, if_neg e']
theorem iu (h0 : 0 ≤ A.aD) (h : A.aD ≤ 4000000000000000000) : A.tick = A.ay 1 := by
  unfold Ar.tick Ar.ay; rw [aE (by omega) (by omega)]
end
structure Sg where
  ch : Int → List Int
  cv : Int
  gn : Int → Int
  cl : Int → Int
  nc : Int
def hZ (f : Int → Int) (k v : Int) : Int → Int := fun j => if j = k then v else f j
structure SL (A : Ar) (p : Pl) (w m : Int) (S : Sg) : Prop where
  F : FL A p w ((m + 7) / 8) S.ch
  pl : p = gX w m
  wb : 1 ≤ w ∧ w ≤ 100
  mb : 0 ≤ m ∧ m ≤ 60000
  rl : p.carved < A.raw.length
  wl : (A.words.length : Int) = m
  fr : A.fresh = false
  cvr : A.ao p.carved = S.cv
  cvb : 0 ≤ S.cv ∧ S.cv ≤ m ∧ S.cv % 8 = 0
  gnr : ∀ b, 0 ≤ b → b < m → b % 8 = 0 → A.ao (p.gens + b / 8) = S.gn b ∧ (alGet A.gens b).getD 0 ≤ S.gn b
  gnb : ∀ b, 0 ≤ S.gn b ∧ S.gn b ≤ A.aD
  gnz : ∀ b, S.cv ≤ b → S.gn b = 0
  blk : ∀ b, S.cl b ≠ -1 → 0 ≤ S.cl b ∧ S.cl b < 4 ∧ 0 ≤ b ∧ b % 8 = 0 ∧ b + au (S.cl b) ≤ S.cv
  dis : ∀ b c, S.cl b ≠ -1 → S.cl c ≠ -1 → b < c → b + au (S.cl b) ≤ c
  chc : ∀ k b, b ∈ S.ch k → S.cl b = k % 4
  act : ∀ h, A.stF h ≠ 0 → S.cl (opB h) = opC h ∧ ∀ k, opB h ∉ S.ch k
  bz : ∀ i : Nat, A.busy.getD i false = true → ∃ h, A.stF h ≠ 0 ∧ opB h ≤ i ∧ (i : Int) < opB h + au (opC h)
  cr1 : ∀ i : Nat, S.cv ≤ i → A.carved.getD i false = false
  cr2 : ∀ b, S.cl b ≠ -1 → ∀ i : Nat, b ≤ i → (i : Int) < b + au (S.cl b) → A.carved.getD i false = decide (1 ≤ S.gn b)
  cnt : A.nC = S.nc ∧ A.nF = S.nc - A.nL - A.nR
  ncb : 0 ≤ S.nc ∧ S.nc ≤ 64 * (A.aD + 1)
  cnb : -(64 * (A.aD + 1)) ≤ A.nL ∧ A.nL ≤ 64 * (A.aD + 1) ∧ -(64 * (A.aD + 1)) ≤ A.nR ∧ A.nR ≤ 64 * (A.aD + 1)
section
variable {A B : Ar} {p : Pl} {w m : Int} {S : Sg}
theorem SL.gP (X : SL A p w m S) : p.heads = 0 ∧ p.links = 4 * w ∧ p.gens = 4 * w + (m + 7) / 8 ∧ p.carved = 4 * w + 2 * ((m + 7) / 8) ∧ p.work = w := by rw [X.pl]; exact ⟨rfl, rfl, rfl, rfl, rfl⟩
theorem gk {c : Int} (h0 : 0 ≤ c) (h1 : c < 4) : 8 ≤ au c ∧ au c ≤ 64 ∧ au c % 8 = 0 := by
  rcases ur h0 h1 with ⟨_, h⟩ | ⟨_, h⟩ | ⟨_, h⟩ | ⟨_, h⟩ <;> rw [h] <;> decide
theorem SL.congr (X : SL A p w m S) (hr : ∀ i, 0 ≤ i → i ≤ p.carved → B.ao i = A.ao i) (hl : B.raw.length = A.raw.length) (hu : A.aD ≤ B.aD) (hw : B.words.length = A.words.length) (hs : ∀ h, B.stF h = A.stF h)
    (hb : B.busy = A.busy) (hc : B.carved = A.carved) (hg : B.gens = A.gens) (hf : B.fresh = A.fresh) (n1 : B.nC = A.nC) (n2 : B.nF = A.nF) (n3 : B.nL = A.nL) (n4 : B.nR = A.nR) : SL B p w m S := by
  obtain ⟨p1, p2, p3, p4, p5⟩ := X.gP
  have wb := X.wb
  have mb := X.mb
  refine ⟨X.F.congr (fun i h0 h1 => hr i h0 (by omega)) hl hu, X.pl, X.wb, X.mb, by rw [hl]; exact X.rl, by rw [hw]; exact X.wl, by rw [hf]; exact X.fr, ?_, X.cvb, ?_, ?_, X.gnz, X.blk, X.dis, X.chc, ?_, ?_, ?_, ?_, ?_, ?_, ?_⟩
  · rw [hr _ (by omega) (by omega)]; exact X.cvr
  · intro b h0 h1 h2; rw [hr _ (by omega) (by omega), hg]; exact X.gnr b h0 h1 h2
  · intro b; have := X.gnb b; omega
  · intro h; rw [hs]; exact X.act h
  · intro i hi; rw [hb] at hi; obtain ⟨h, h1, h2, h3⟩ := X.bz i hi; exact ⟨h, by rw [hs]; exact h1, h2, h3⟩
  · intro i hi; rw [hc]; exact X.cr1 i hi
  · intro b hb i h0 h1; rw [hc]; exact X.cr2 b hb i h0 h1
  · rw [n1, n2, n3, n4]; exact X.cnt
  · have := X.ncb; omega
  · have := X.cnb; rw [n3, n4]; omega
theorem SL.ay (X : SL A p w m S) {n : Int} (hn : 0 ≤ n) : SL (A.ay n) p w m S :=
  X.congr (fun _ _ _ => rfl) rfl (by show A.aD ≤ A.aD + n; omega) rfl (fun h => c8 rfl h) rfl rfl rfl rfl rfl rfl rfl rfl
theorem SL.pop (X : SL A p w m S) (hu : A.aD ≤ 1000000000) {k b : Int} {l : List Int} (hk : S.ch k = b :: l) : SL (A.popped k (4 * w + b / 8)) p w m { S with ch := upd S.ch k l } := by
  obtain ⟨p1, p2, p3, p4, p5⟩ := X.gP
  have wb := X.wb
  have mb := X.mb
  have F := X.F.pop hu hk
  obtain ⟨k0, k1⟩ := X.F.rg k (by rw [hk]; simp)
  have hsub : ∀ j x, x ∈ upd S.ch k l j → x ∈ S.ch j := fun j x hx => by
    unfold upd at hx; split at hx
    · rename_i e; rw [e, hk]; exact List.mem_cons_of_mem _ hx
    · exact hx
  have ho : ∀ i, 4 * w + (m + 7) / 8 ≤ i → (A.popped k (4 * w + b / 8)).ao i = A.ao i := fun i hi => X.F.GW k0 k1 hi
  have us : (A.popped k (4 * w + b / 8)).aD = A.aD + 3 := rfl
  refine ⟨F, X.pl, X.wb, X.mb, by unfold Ar.popped; simp only [List.length_set]; exact X.rl, X.wl, X.fr, ?_, X.cvb, ?_, ?_, X.gnz, X.blk, X.dis, ?_, ?_, ?_, X.cr1, X.cr2, X.cnt, ?_, ?_⟩
  · rw [ho _ (by omega)]; exact X.cvr
  · intro c h0 h1 h2; rw [ho _ (by omega)]; exact X.gnr c h0 h1 h2
  · intro c; have := X.gnb c; rw [us]; show 0 ≤ S.gn c ∧ S.gn c ≤ _; omega
  · exact fun j x hx => X.chc j x (hsub j x hx)
  · intro h hh
    have hh' : A.stF h ≠ 0 := by rw [← c8 (A := A) (B := A.popped k (4 * w + b / 8)) rfl h]; exact hh
    obtain ⟨a1, a2⟩ := X.act h hh'
    exact ⟨a1, fun j hx => a2 j (hsub j _ hx)⟩
  · intro i hi
    obtain ⟨h, h1, h2, h3⟩ := X.bz i hi
    exact ⟨h, by rw [c8 (A := A) (B := A.popped k (4 * w + b / 8)) rfl h]; exact h1, h2, h3⟩
  · have := X.ncb; rw [us]; show 0 ≤ S.nc ∧ S.nc ≤ _; omega
  · have := X.cnb; rw [us]; show _ ≤ A.nL ∧ A.nL ≤ _ ∧ _ ≤ A.nR ∧ A.nR ≤ _; omega
theorem rO {i j v : Int} (hi : A.bp i) : (A.dQ i.toNat v).ao j = if j = i then v else A.ao j := by
  unfold Ar.bp at hi
  by_cases hj : A.bp j
  · have hj' : (A.dQ i.toNat v).bp j := by unfold Ar.bp Ar.dQ at *; simpa using hj
    rw [← dG hj', ← dG hj]
    unfold Ar.bp at hj
    show (A.raw.set i.toNat v).getD j.toNat 0 = _
    rw [List.getD_eq_getElem?_getD, List.getElem?_set]
    by_cases e : j = i
    · rw [if_pos e, if_pos (by rw [e]), if_pos (by omega)]; rfl
    · rw [if_neg e, if_neg (by omega), List.getD_eq_getElem?_getD]
  · have hj' : ¬ (A.dQ i.toNat v).bp j := by unfold Ar.bp Ar.dQ at *; simpa using hj
    have e : ¬ j = i := fun e => hj (e ▸ hi)
    rw [if_neg e]; unfold Ar.ao; rw [if_neg hj, if_neg hj']
theorem SL.Dr (X : SL A p w m S) (hu : A.aD ≤ 1000000000) {c : Int} (h0 : 0 ≤ c) (h1 : c < 4) (hf : S.cv + au c ≤ m) :
    SL ((A.ay 1).dQ p.carved.toNat (S.cv + au c)) p w m { S with cv := S.cv + au c, cl := hZ S.cl S.cv c } := by
  obtain ⟨p1, p2, p3, p4, p5⟩ := X.gP
  have wb := X.wb
  have mb := X.mb
  have cvb := X.cvb
  have sz := gk h0 h1
  have us := X.F.us
  have ok : (A.ay 1).bp p.carved := ⟨by omega, X.rl⟩
  have hr : ∀ i, ((A.ay 1).dQ p.carved.toNat (S.cv + au c)).ao i = if i = p.carved then S.cv + au c else A.ao i := fun i => rO ok
  have hcl : S.cl S.cv = -1 := by
    by_cases h : S.cl S.cv = -1
    · exact h
    · have := X.blk _ h; have := gk this.1 this.2.1; omega
  have hlt : ∀ b, S.cl b ≠ -1 → b < S.cv := fun b hb => by have := X.blk b hb; have := gk this.1 this.2.1; omega
  have hst : ∀ h, ((A.ay 1).dQ p.carved.toNat (S.cv + au c)).stF h = A.stF h := fun h => c8 rfl h
  refine ⟨X.F.congr (fun i i0 i1 => by rw [hr, if_neg (by omega)]) (by show (A.raw.set _ _).length = _; rw [List.length_set]) (by show A.aD ≤ A.aD + 1; omega), X.pl, X.wb, X.mb, ?_, X.wl, X.fr, ?_, ⟨by show 0 ≤ S.cv + _; omega, hf, by show (S.cv + _) % 8 = 0; omega⟩, ?_, ?_, ?_, ?_, ?_, ?_, ?_, ?_, ?_, ?_, X.cnt, ?_, ?_⟩
  · show p.carved < ((A.raw.set _ _).length : Int); rw [List.length_set]; exact X.rl
  · rw [hr, if_pos rfl]
  · intro b b0 b1 b2; rw [hr, if_neg (by omega)]; exact X.gnr b b0 b1 b2
  · intro b; have := X.gnb b; show 0 ≤ S.gn b ∧ S.gn b ≤ A.aD + 1; omega
  · intro b hb; exact X.gnz b (by have hb : S.cv + au c ≤ b := hb; omega)
  · intro b hb
    show 0 ≤ hZ S.cl S.cv c b ∧ hZ S.cl S.cv c b < 4 ∧ 0 ≤ b ∧ b % 8 = 0 ∧ b + au (hZ S.cl S.cv c b) ≤ S.cv + au c
    have hb : hZ S.cl S.cv c b ≠ -1 := hb
    unfold hZ at hb ⊢
    split
    · rename_i e; exact ⟨h0, h1, by omega, by omega, by omega⟩
    · rename_i e; rw [if_neg e] at hb; have := X.blk b hb; omega
  · intro b d hb hd hlt'
    have hb : hZ S.cl S.cv c b ≠ -1 := hb
    have hd : hZ S.cl S.cv c d ≠ -1 := hd
    show b + au (hZ S.cl S.cv c b) ≤ d
    unfold hZ at hb hd ⊢
    split
    · rename_i e
      rw [if_neg (by omega)] at hd
      have := hlt d hd; omega
    · rename_i e
      rw [if_neg e] at hb
      by_cases e2 : d = S.cv
      · have := X.blk b hb; omega
      · rw [if_neg e2] at hd; exact X.dis b d hb hd hlt'
  · intro k b hb
    have hm := X.F.mem k b hb
    have hk : S.cl b ≠ -1 := by have := X.chc k b hb; have := X.F.rg k (by intro e; rw [e] at hb; cases hb); omega
    show hZ S.cl S.cv c b = k % 4
    unfold hZ; rw [if_neg (by have := hlt b hk; omega)]; exact X.chc k b hb
  · intro h hh
    rw [hst] at hh
    obtain ⟨a1, a2⟩ := X.act h hh
    refine ⟨?_, a2⟩
    show hZ S.cl S.cv c (opB h) = opC h
    have : S.cl (opB h) ≠ -1 := by have := (fk h).1; omega
    unfold hZ; rw [if_neg (by have := hlt _ this; omega)]; exact a1
  · intro i hi
    obtain ⟨h, e1, e2, e3⟩ := X.bz i hi
    exact ⟨h, by rw [hst]; exact e1, e2, e3⟩
  · intro i hi; exact X.cr1 i (by have hi : S.cv + au c ≤ (i : Int) := hi; omega)
  · intro b hb i i0 i1
    have hb : hZ S.cl S.cv c b ≠ -1 := hb
    have i1 : (i : Int) < b + au (hZ S.cl S.cv c b) := i1
    show A.carved.getD i false = decide (1 ≤ S.gn b)
    unfold hZ at hb i1
    by_cases e : b = S.cv
    · rw [X.cr1 i (by omega), X.gnz b (by omega)]; rfl
    · rw [if_neg e] at hb i1; exact X.cr2 b hb i i0 i1
  · have := X.ncb; show 0 ≤ S.nc ∧ S.nc ≤ 64 * (A.aD + 1 + 1); omega
  · have := X.cnb; show _ ≤ A.nL ∧ A.nL ≤ 64 * (A.aD + 1 + 1) ∧ _ ≤ A.nR ∧ A.nR ≤ 64 * (A.aD + 1 + 1); 
    show -(64 * (A.aD + 1 + 1)) ≤ A.nL ∧ A.nL ≤ 64 * (A.aD + 1 + 1) ∧ -(64 * (A.aD + 1 + 1)) ≤ A.nR ∧ A.nR ≤ 64 * (A.aD + 1 + 1)
    omega
end
section
variable {A B : Ar} {p : Pl} {w m : Int} {S : Sg}
theorem Bs {l : List Bool} {b : Nat} (v : Bool) : ∀ (n : Nat), (∀ i, b ≤ i → i < b + n → l.getD i false = v) → newsN l b n = if v then 0 else n
  | 0, _ => by cases v <;> rfl
  | n + 1, h => by
    unfold newsN
    rw [Bs v n (fun i h0 h1 => h i h0 (by omega)), h (b + n) (by omega) (by omega)]
    cases v <;> simp
theorem vq {l : List Bool} {b n i : Nat} {v : Bool} (hi : i < l.length) : (setN l b v n).getD i false = if b ≤ i ∧ i < b + n then v else l.getD i false := by
  rw [List.getD_eq_getElem?_getD, z6, List.getD_eq_getElem?_getD]
  by_cases h : b ≤ i ∧ i < b + n
  · rw [if_pos h, if_pos ⟨h.1, h.2, hi⟩]; rfl
  · rw [if_neg h, if_neg (fun h' => h ⟨h'.1, h'.2.1⟩)]
theorem qd {l : List Bool} {b n i : Nat} {v : Bool} (hi : l.length ≤ i) : (setN l b v n).getD i false = false := by
  rw [List.getD_eq_getElem?_getD, List.getElem?_eq_none (by rw [jl]; exact hi)]; rfl
theorem lg (A : Ar) (hw : A.wf) (h : Int) : (A.dr h).nC = w64 (A.nC + newsN A.carved (opB h).toNat (au (opC h)).toNat) ∧
    (A.dr h).nF = w64 (w64 (A.nF + newsN A.carved (opB h).toNat (au (opC h)).toNat) - au (opC h)) ∧ (A.dr h).nL = w64 (A.nL + au (opC h)) ∧ (A.dr h).nR = A.nR := by
  obtain ⟨c1, c2⟩ := BN A hw.wC hw.wF (opB h).toNat (au (opC h)).toNat
  obtain ⟨d1, d2⟩ := Es A (opB h).toNat (au (opC h)).toNat
  unfold Ar.dr
  generalize A.ey (opB h).toNat (au (opC h)).toNat = B at *
  rw [← c1, ← c2, ← d1, ← d2]
  exact ⟨rfl, rfl, rfl, rfl⟩
theorem sS {A : Ar} {h k : Int} (hs : A.stF h ≠ 0) (hb : opB k = opB h) (hn : k ≠ h) : A.stF k = 0 := by
  unfold Ar.stF at hs ⊢
  rw [hb]
  cases hg : alGet A.slots (opB h) with
  | none => rfl
  | some v =>
    obtain ⟨h', s⟩ := v
    rw [hg] at hs
    dsimp only at hs ⊢
    rw [if_neg]
    rintro ⟨_, e3⟩
    by_cases e4 : cS h = true ∧ h' = h
    · exact hn (e3.symm.trans e4.2)
    · rw [if_neg e4] at hs; exact hs rfl
theorem SL.OW (X : SL A p w m S) (hr : B.raw = A.raw) (hu : B.aD = A.aD) (hw : B.words.length = A.words.length) (hs : ∀ h, B.stF h ≠ 0 ↔ A.stF h ≠ 0)
    (hb : B.busy = A.busy) (hc : B.carved = A.carved) (hg : B.gens = A.gens) (hf : B.fresh = A.fresh) (cnt : B.nC = S.nc ∧ B.nF = S.nc - B.nL - B.nR)
    (cnb : -(64 * (A.aD + 1)) ≤ B.nL ∧ B.nL ≤ 64 * (A.aD + 1) ∧ -(64 * (A.aD + 1)) ≤ B.nR ∧ B.nR ≤ 64 * (A.aD + 1)) : SL B p w m S := by
  refine ⟨X.F.congr (fun i _ _ => dN hr i) (by rw [hr]) (by omega), X.pl, X.wb, X.mb, by rw [hr]; exact X.rl, by rw [hw]; exact X.wl, by rw [hf]; exact X.fr, ?_, X.cvb, ?_, ?_, X.gnz, X.blk, X.dis, X.chc, ?_, ?_, ?_, ?_, cnt, ?_, by rw [hu]; exact cnb⟩
  · rw [dN hr]; exact X.cvr
  · intro b h0 h1 h2; rw [dN hr, hg]; exact X.gnr b h0 h1 h2
  · intro b; rw [hu]; exact X.gnb b
  · intro h hh; exact X.act h ((hs h).1 hh)
  · intro i hi; rw [hb] at hi; obtain ⟨h, h1, h2, h3⟩ := X.bz i hi; exact ⟨h, (hs h).2 h1, h2, h3⟩
  · intro i hi; rw [hc]; exact X.cr1 i hi
  · intro b hb i h0 h1; rw [hc]; exact X.cr2 b hb i h0 h1
  · rw [hu]; exact X.ncb
theorem SL.MO (X : SL A p w m S) (hwf : A.wf) (hu : A.aD ≤ 1000000000) {b c : Int} (hc : S.cl b = c) (hc1 : c ≠ -1) (hch : ∀ k, b ∉ S.ch k) (hact : ∀ h, A.stF h ≠ 0 → opB h ≠ b) :
    jq b (S.gn b + 1) c ∧ (opB (cH b (S.gn b + 1) c) = b ∧ opG (cH b (S.gn b + 1) c) = S.gn b + 1 ∧ opC (cH b (S.gn b + 1) c) = c ∧ cS (cH b (S.gn b + 1) c) = true) ∧
    ((A.ay 1).dQ (p.gens + b / 8).toNat (S.gn b + 1)).mM (cH b (S.gn b + 1) c) ∧
    SL (((A.ay 1).dQ (p.gens + b / 8).toNat (S.gn b + 1)).dr (cH b (S.gn b + 1) c)) p w m { S with gn := hZ S.gn b (S.gn b + 1), nc := S.nc + (if S.gn b = 0 then au c else 0) } ∧
    (∀ h, (((A.ay 1).dQ (p.gens + b / 8).toNat (S.gn b + 1)).dr (cH b (S.gn b + 1) c)).stF h = if h = cH b (S.gn b + 1) c then 1 else A.stF h) ∧
    (((A.ay 1).dQ (p.gens + b / 8).toNat (S.gn b + 1)).dr (cH b (S.gn b + 1) c)).nL = A.nL + au c := by
  obtain ⟨p1, p2, p3, p4, p5⟩ := X.gP
  have wb := X.wb
  have mb := X.mb
  have us := X.F.us
  have gb := X.gnb b
  have hb := X.blk b (by rw [hc]; exact hc1)
  rw [hc] at hb
  obtain ⟨b1, b2, b3, b4, b5⟩ := hb
  have sz := gk b1 b2
  have cvb := X.cvb
  have hv : jq b (S.gn b + 1) c := ⟨b3, by omega, by omega, by omega, b1, b2⟩
  obtain ⟨o1, o2, o3, o4⟩ := z7 hv
  generalize hh : cH b (S.gn b + 1) c = h at *
  have ok : (A.ay 1).bp (p.gens + b / 8) := ⟨by omega, by show _ < (A.raw.length : Int); have := X.rl; omega⟩
  have hr : ∀ i, ((A.ay 1).dQ (p.gens + b / 8).toNat (S.gn b + 1)).ao i = if i = p.gens + b / 8 then S.gn b + 1 else A.ao i := fun i => rO ok
  generalize hD : (A.ay 1).dQ (p.gens + b / 8).toNat (S.gn b + 1) = D at *
  have dst : ∀ k, D.stF k = A.stF k := fun k => by rw [← hD]; exact c8 rfl k
  have dwf : D.wf := by rw [← hD]; exact pW (eK hwf 1) _ _
  have dbz : D.busy = A.busy := by rw [← hD]; rfl
  have dcr : D.carved = A.carved := by rw [← hD]; rfl
  have dge : D.gens = A.gens := by rw [← hD]; rfl
  have dwl : D.words.length = A.words.length := by rw [← hD]; rfl
  have dus : D.aD = A.aD + 1 := by rw [← hD]; rfl
  have dfr : D.fresh = A.fresh := by rw [← hD]; rfl
  have drl : D.raw.length = A.raw.length := by rw [← hD]; show (A.raw.set _ _).length = _; rw [List.length_set]
  have dnC : D.nC = A.nC ∧ D.nF = A.nF ∧ D.nL = A.nL ∧ D.nR = A.nR := by rw [← hD]; exact ⟨rfl, rfl, rfl, rfl⟩
  clear hD
  have hwl := X.wl
  have bl := hwf.busy
  have cl := hwf.carved
  -- no word of it is busy
  have free : ∀ i : Nat, b ≤ i → (i : Int) < b + au c → A.busy.getD i false = false := fun i i0 i1 => by
    cases hbz : A.busy.getD i false with
    | false => rfl
    | true =>
      exfalso
      obtain ⟨k, k1, k2, k3⟩ := X.bz i hbz
      obtain ⟨a1, a2⟩ := X.act k k1
      have hne := hact k k1
      have c1 : S.cl (opB k) ≠ -1 := by rw [a1]; have := (fk k).1; omega
      rcases Int.lt_trichotomy (opB k) b with e | e | e
      · have := X.dis (opB k) b c1 (by rw [hc]; exact hc1) e; rw [a1] at this; omega
      · exact hne e
      · have := X.dis b (opB k) (by rw [hc]; exact hc1) c1 e; rw [hc] at this; omega
  have gnr := X.gnr b b3 (by omega) b4
  have bok : D.mM h := by
    refine ⟨o4, by rw [o1, o3, dwl]; omega, ?_, fun i hi => ?_⟩
    · rw [o1, o2, dge]; omega
    · rw [dbz, o1]; rw [o3] at hi
      exact free _ (by omega) (by omega)
  have hst : ∀ k, (D.dr h).stF k = if k = h then 1 else A.stF k := fun k => by
    rw [HQ, o1]
    by_cases e : k = h
    · subst e; rw [if_pos o1, if_pos ⟨o4, rfl⟩, if_pos rfl]
    · rw [if_neg e]
      by_cases e1 : opB k = b
      · rw [if_pos e1, if_neg (fun x => e x.2.symm)]
        by_cases z : A.stF k = 0
        · exact z.symm
        · exact (hact k z e1).elim
      · rw [if_neg e1, dst]
  have hcr : ∀ i : Nat, b ≤ i → (i : Int) < b + au c → A.carved.getD i false = decide (1 ≤ S.gn b) := fun i i0 i1 => X.cr2 b (by rw [hc]; exact hc1) i i0 (by rw [hc]; exact i1)
  have hnews : newsN D.carved (opB h).toNat (au (opC h)).toNat = if S.gn b = 0 then (au c).toNat else 0 := by
    rw [dcr, o1, o3, Bs (decide (1 ≤ S.gn b)) _ (fun i i0 i1 => hcr i (by omega) (by omega))]
    by_cases z : S.gn b = 0
    · rw [if_pos z, decide_eq_false (by omega)]; rfl
    · rw [if_neg z, decide_eq_true (by omega)]; rfl
  obtain ⟨n1, n2, n3, n4⟩ := lg D dwf h
  rw [hnews] at n1 n2
  rw [o3] at n2 n3
  obtain ⟨d1, d2, d3, d4⟩ := dnC
  have cnt := X.cnt
  have ncb := X.ncb
  have cnb := X.cnb
  have enw : (((if S.gn b = 0 then (au c).toNat else 0 : Nat)) : Int) = if S.gn b = 0 then au c else 0 := by split <;> omega
  rw [enw] at n1 n2
  have n1' : (D.dr h).nC = S.nc + (if S.gn b = 0 then au c else 0) := by rw [n1, d1, cnt.1, aE (by split <;> omega) (by split <;> omega)]
  have n3' : (D.dr h).nL = A.nL + au c := by rw [n3, d3, aE (by omega) (by omega)]
  have n4' : (D.dr h).nR = A.nR := by rw [n4, d4]
  have n2' : (D.dr h).nF = S.nc + (if S.gn b = 0 then au c else 0) - (A.nL + au c) - A.nR := by
    rw [n2, d2, cnt.2, aE (x := S.nc - A.nL - A.nR + _) (by split <;> omega) (by split <;> omega), aE (by split <;> omega) (by split <;> omega)]
    split <;> omega
  have bus : (D.dr h).aD = A.aD + 1 := by rw [wv, dus]
  have braw : ∀ i, (D.dr h).ao i = D.ao i := fun i => dN (nK D h) i
  refine ⟨hv, ⟨o1, o2, o3, o4⟩, bok, ?_, hst, n3'⟩
  refine ⟨X.F.congr (fun i i0 i1 => by rw [braw, hr, if_neg (by omega)]) (by rw [nK, drl]) (by rw [bus]; omega), X.pl, X.wb, X.mb, by rw [nK, drl]; exact X.rl, by rw [IX, dwl]; exact X.wl, by rw [zd, dfr]; exact X.fr, ?_, X.cvb, ?_, ?_, ?_, X.blk, X.dis, X.chc, ?_, ?_, ?_, ?_, ?_, ?_, ?_⟩
  · rw [braw, hr, if_neg (by omega)]; exact X.cvr
  · intro d d0 d1' d2'
    rw [braw, hr, DS, dge, vj, o1, o2]
    show (if _ then _ else _) = hZ S.gn b (S.gn b + 1) d ∧ _ ≤ hZ S.gn b (S.gn b + 1) d
    unfold hZ
    by_cases e : d = b
    · subst e; rw [if_pos rfl, if_pos rfl, if_pos rfl]; exact ⟨rfl, Int.le_refl _⟩
    · rw [if_neg e, if_neg e, if_neg (by omega)]; exact X.gnr d d0 d1' d2'
  · intro d
    show 0 ≤ hZ S.gn b (S.gn b + 1) d ∧ hZ S.gn b (S.gn b + 1) d ≤ _
    have := X.gnb d
    rw [bus]; unfold hZ; split <;> omega
  · intro d hd
    have hd : S.cv ≤ d := hd
    show hZ S.gn b (S.gn b + 1) d = 0
    unfold hZ; rw [if_neg (by omega)]; exact X.gnz d hd
  · intro k hk
    rw [hst] at hk
    by_cases e : k = h
    · subst e; rw [o1, o3]; exact ⟨hc, hch⟩
    · rw [if_neg e] at hk; exact X.act k hk
  · intro i hi
    rw [DP, dbz, o1, o3] at hi
    by_cases hil : i < A.busy.length
    · rw [vq hil] at hi
      by_cases e : b.toNat ≤ i ∧ i < b.toNat + (au c).toNat
      · exact ⟨h, by rw [hst, if_pos rfl]; decide, by rw [o1]; omega, by rw [o1, o3]; omega⟩
      · rw [if_neg e] at hi
        obtain ⟨k, k1, k2, k3⟩ := X.bz i hi
        refine ⟨k, ?_, k2, k3⟩
        rw [hst]; split
        · decide
        · exact k1
    · rw [qd (by omega)] at hi; cases hi
  · intro i hi
    rw [sy, dcr, o1, o3]
    have hi : S.cv ≤ (i : Int) := hi
    by_cases hil : i < A.carved.length
    · rw [vq hil, if_neg (by omega)]; exact X.cr1 i hi
    · exact qd (by omega)
  · intro d hd i i0 i1
    have hd : S.cl d ≠ -1 := hd
    have i1 : (i : Int) < d + au (S.cl d) := i1
    have hdb := X.blk d hd
    rw [sy, dcr, o1, o3, vq (by omega)]
    show _ = decide (1 ≤ hZ S.gn b (S.gn b + 1) d)
    unfold hZ
    by_cases e : d = b
    · subst e
      rw [if_pos rfl, if_pos (by rw [hc] at i1; omega), decide_eq_true (by omega)]
    · rw [if_neg e, if_neg]
      · exact X.cr2 d hd i i0 i1
      · intro hx
        rcases Int.lt_or_gt_of_ne e with e2 | e2
        · have := X.dis d b hd (by rw [hc]; exact hc1) e2; omega
        · have := X.dis b d (by rw [hc]; exact hc1) hd e2; rw [hc] at this; omega
  · refine ⟨n1', ?_⟩
    rw [n2', n3', n4']
  · show 0 ≤ S.nc + _ ∧ S.nc + _ ≤ _
    rw [bus]; split <;> omega
  · rw [n3', n4', bus]; omega
theorem SL.EX (X : SL A p w m S) (hu : A.aD ≤ 1000000000) {h : Int} (hs : A.stF h = 1) (cn : -(64 * (A.aD + 1)) ≤ A.nL - au (opC h) ∧ A.nR + au (opC h) ≤ 64 * (A.aD + 1)) :
    SL (A.aW h) p w m S ∧ (∀ k, (A.aW h).stF k = if k = h then 2 else A.stF k) ∧ (A.aW h).nL = A.nL - au (opC h) ∧ (A.aW h).nR = A.nR + au (opC h) := by
  have ho := En (A := A) (h := h) (by rw [hs]; decide)
  have us := X.F.us
  have cnb := X.cnb
  have ncb := X.ncb
  have cnt := X.cnt
  have sz := my h
  have tn : A.gB h 1 = au (opC h) := by unfold Ar.gB; rw [if_pos hs]
  have hst : ∀ k, (A.aW h).stF k = if k = h then 2 else A.stF k := fun k => by
    rw [Dp]
    by_cases e : k = h
    · subst e; rw [if_pos ⟨hs, rfl⟩, if_pos ⟨ho, rfl⟩, if_pos rfl]
    · rw [if_neg e]
      by_cases e1 : A.stF h = 1 ∧ opB k = opB h
      · rw [if_pos e1, if_neg (fun x => e x.2.symm)]
        exact (sS (by rw [hs]; decide) e1.2 e).symm
      · rw [if_neg e1]
  have parts : (A.aW h).raw = A.raw ∧ (A.aW h).words = A.words ∧ (A.aW h).busy = A.busy ∧ (A.aW h).carved = A.carved ∧ (A.aW h).gens = A.gens ∧ (A.aW h).fresh = A.fresh ∧ (A.aW h).aD = A.aD ∧ (A.aW h).nC = A.nC ∧ (A.aW h).nF = A.nF := by
    unfold Ar.aW Ar.gu
    rw [if_pos hs]
    exact ⟨rfl, rfl, rfl, rfl, rfl, rfl, rfl, rfl, rfl⟩
  obtain ⟨q1, q2, q3, q4, q5, q6, q7, q8, q9⟩ := parts
  have nL : (A.aW h).nL = A.nL - au (opC h) := by
    have : (A.aW h).nL = w64 (A.nL - A.gB h 1) := by unfold Ar.aW Ar.gu; rw [if_pos hs]; rfl
    rw [this, tn, aE (by omega) (by omega)]
  have nR : (A.aW h).nR = A.nR + au (opC h) := by
    have : (A.aW h).nR = w64 (A.nR + A.gB h 1) := by unfold Ar.aW Ar.gu; rw [if_pos hs]; rfl
    rw [this, tn, aE (by omega) (by omega)]
  refine ⟨X.OW q1 q7 (by rw [q2]) (fun k => ?_) q3 q4 q5 q6 ⟨by rw [q8]; exact cnt.1, by rw [q9, nL, nR]; omega⟩ (by rw [nL, nR]; omega), hst, nL, nR⟩
  rw [hst]
  by_cases e : k = h
  · rw [if_pos e, e, hs]; decide
  · rw [if_neg e]
end
section
variable {A B : Ar} {p : Pl} {w m : Int} {S : Sg}
theorem SL.die (X : SL A p w m S) (hwf : A.wf) (hu : A.aD ≤ 1000000000) {h : Int} (hs : A.stF h = 2) (cn : -(64 * (A.aD + 1)) ≤ A.nR - au (opC h)) :
    SL (A.db h) p w m S ∧ (∀ k, (A.db h).stF k = if k = h then 0 else A.stF k) ∧ (A.db h).nL = A.nL ∧ (A.db h).nR = A.nR - au (opC h) := by
  have ho := En (A := A) (h := h) (by rw [hs]; decide)
  have us := X.F.us
  have cnb := X.cnb
  have ncb := X.ncb
  have cnt := X.cnt
  have sz := my h
  have hB := tA h
  have tn : A.gB h 2 = au (opC h) := by unfold Ar.gB; rw [if_pos hs]
  have hst : ∀ k, (A.db h).stF k = if k = h then 0 else A.stF k := fun k => by
    rw [HI]
    by_cases e : k = h
    · subst e; rw [if_pos ⟨hs, rfl⟩, if_pos ⟨ho, rfl⟩, if_pos rfl]
    · rw [if_neg e]
      by_cases e1 : A.stF h = 2 ∧ opB k = opB h
      · rw [if_pos e1, if_neg (fun x => e x.2.symm)]
        exact (sS (by rw [hs]; decide) e1.2 e).symm
      · rw [if_neg e1]
  have parts : (A.db h).raw = A.raw ∧ (A.db h).words = A.words ∧ (A.db h).busy = setN A.busy (opB h).toNat false (A.gB h 2).toNat ∧ (A.db h).carved = A.carved ∧ (A.db h).gens = A.gens ∧ (A.db h).fresh = A.fresh ∧ (A.db h).aD = A.aD ∧ (A.db h).nC = A.nC ∧ (A.db h).nL = A.nL := by
    unfold Ar.db Ar.gu
    rw [if_pos hs]
    exact ⟨rfl, rfl, rfl, rfl, rfl, rfl, rfl, rfl, rfl⟩
  obtain ⟨q1, q2, q3, q4, q5, q6, q7, q8, q9⟩ := parts
  have nR : (A.db h).nR = A.nR - au (opC h) := by
    have : (A.db h).nR = w64 (A.nR - A.gB h 2) := by unfold Ar.db Ar.gu; rw [if_pos hs]; rfl
    rw [this, tn, aE (by omega) (by omega)]
  have nF : (A.db h).nF = A.nF + au (opC h) := by
    have : (A.db h).nF = w64 (A.nF + A.gB h 2) := by unfold Ar.db Ar.gu; rw [if_pos hs]; rfl
    rw [this, tn, cnt.2, aE (by omega) (by omega)]
  rw [tn] at q3
  refine ⟨?_, hst, q9, nR⟩
  refine ⟨X.F.congr (fun i _ _ => dN q1 i) (by rw [q1]) (by omega), X.pl, X.wb, X.mb, by rw [q1]; exact X.rl, by rw [q2]; exact X.wl, by rw [q6]; exact X.fr, ?_, X.cvb, ?_, ?_, X.gnz, X.blk, X.dis, X.chc, ?_, ?_, ?_, ?_, ?_, ?_, ?_⟩
  · rw [dN q1]; exact X.cvr
  · intro b h0 h1 h2; rw [dN q1, q5]; exact X.gnr b h0 h1 h2
  · intro b; rw [q7]; exact X.gnb b
  · intro k hk
    rw [hst] at hk
    split at hk
    · exact (hk rfl).elim
    · exact X.act k hk
  · intro i hi
    rw [q3] at hi
    by_cases hil : i < A.busy.length
    · rw [vq hil] at hi
      split at hi
      · cases hi
      · rename_i hne
        obtain ⟨k, k1, k2, k3⟩ := X.bz i hi
        refine ⟨k, ?_, k2, k3⟩
        rw [hst, if_neg]
        · exact k1
        · intro e; subst e; exact hne ⟨by omega, by omega⟩
    · rw [qd (by omega)] at hi; cases hi
  · intro i hi; rw [q4]; exact X.cr1 i hi
  · intro b hb i h0 h1; rw [q4]; exact X.cr2 b hb i h0 h1
  · rw [q8, nF, q9, nR]; exact ⟨cnt.1, by omega⟩
  · rw [q7]; exact ncb
  · rw [q7, q9, nR]; omega
theorem SL.made {r : Nat} (hm : A.made r m.toNat false) (hr : (gX w m).carved < r) (wb : 1 ≤ w ∧ w ≤ 100) (mb : 0 ≤ m ∧ m ≤ 60000) : SL A (gX w m) w m ⟨fun _ => [], 0, fun _ => 0, fun _ => -1, 0⟩ := by
  have hz : ∀ i, A.ao i = 0 := fun i => by
    unfold Ar.ao; split
    · rw [hm.raw, List.getD_eq_getElem?_getD, List.getElem?_replicate]; split <;> rfl
    · rfl
  have hs : ∀ h, A.stF h = 0 := fun h => by unfold Ar.stF; rw [hm.slots]; rfl
  have hrl : (A.raw.length : Int) = r := by rw [hm.raw, List.length_replicate]
  have pc : (gX w m).carved = 4 * w + 2 * ((m + 7) / 8) := rfl
  have hbz : ∀ i : Nat, A.busy.getD i false = false := fun i => by rw [hm.busy, List.getD_eq_getElem?_getD, List.getElem?_replicate]; split <;> rfl
  have hcr : ∀ i : Nat, A.carved.getD i false = false := fun i => by rw [hm.carved, List.getD_eq_getElem?_getD, List.getElem?_replicate]; split <;> rfl
  refine ⟨⟨rfl, rfl, by omega, by omega, by omega, by rw [hm.aD]; omega, fun k _ _ => by rw [hz, hm.aD]; decide, fun k _ _ => by rw [hz]; rfl, fun k b h => (by cases h), fun k => .nil, fun k j b h => (by cases h), fun k h => (h rfl).elim⟩, rfl, wb, mb, by rw [hrl]; exact hr, ?_, hm.fresh, hz _, ⟨Int.le_refl 0, mb.1, rfl⟩, fun b _ _ _ => ⟨hz _, ?_⟩, fun b => ?_, fun b _ => rfl, fun b h => (h rfl).elim, fun b c h => (h rfl).elim, fun k b h => (by cases h), fun h hh => (hh (hs h)).elim, fun i hi => ?_, fun i _ => hcr i, fun b h => (h rfl).elim, ?_, ?_, ?_⟩
  · rw [hm.words, List.length_replicate]; omega
  · rw [hm.gens]; exact Int.le_refl 0
  · rw [hm.aD]; exact ⟨Int.le_refl 0, Int.le_refl 0⟩
  · rw [hbz] at hi; cases hi
  · rw [hm.nC, hm.nF, hm.nL, hm.nR]; exact ⟨rfl, rfl⟩
  · rw [hm.aD]; decide
  · rw [hm.aD, hm.nL, hm.nR]; decide
end
structure Off (c n : Int) (A A' : Ar) : Prop where
  wf : A'.wf
  al : Ar.Alike A A'
  wd : A'.words = A.words
  fa : A'.fault = A.fault
  fr : A'.fresh = A.fresh
  rl : A'.raw.length = A.raw.length
  rw : ∀ i, c < i → A'.ao i = A.ao i
  us : A'.aD = A.aD + n
section
variable {A B C : Ar} {p : Pl} {w m : Int} {S : Sg} {c : Int}
theorem Off.trans {k n : Int} (h : Off c k A B) (g : Off c n B C) : Off c (k + n) A C :=
  ⟨g.wf, h.al.trans g.al, g.wd.trans h.wd, g.fa.trans h.fa, g.fr.trans h.fr, g.rl.trans h.rl, fun i hi => (g.rw i hi).trans (h.rw i hi), by rw [g.us, h.us]; omega⟩
theorem Off.ay (h : A.wf) (n : Int) : Off c n A (A.ay n) := ⟨eK h n, pI A n, rfl, rfl, rfl, rfl, fun _ _ => rfl, rfl⟩
theorem Off.popped (h : A.wf) {k lk : Int} (o : A.bp k) (hk : k ≤ c) : Off c 3 A (A.popped k lk) :=
  ⟨By h k lk, Ce A k lk, rfl, rfl, rfl, by unfold Ar.popped; simp, fun i hi => by
    by_cases io : A.bp i
    · rw [mz o io, if_neg (by omega)]
    · unfold Ar.ao; rw [if_neg io, if_neg (fun h => io (rj.1 h))], rfl⟩
theorem Off.dQ (h : A.wf) {i v : Int} (o : A.bp i) (hi : i ≤ c) : Off c 0 A (A.dQ i.toNat v) :=
  ⟨pW h _ _, ⟨rfl, rfl, rfl, rfl, rfl, rfl, rfl⟩, rfl, rfl, rfl, by show (A.raw.set _ _).length = _; rw [List.length_set], fun j hj => by rw [rO o, if_neg (by omega)], (Int.add_zero _).symm⟩
theorem Off.dr (h : A.wf) (hf : A.fresh = false) {k : Int} (hk : opB k + au (opC k) ≤ A.words.length) : Off c 0 A (A.dr k) :=
  ⟨DG h k hk, yZ A k, by rw [DN, hf]; rfl, DC A k, zd A k, by rw [nK], fun i _ => dN (nK A k) i, by rw [wv, Int.add_zero]⟩
inductive Mch.Path {M J : Type} (X : Mch M J) : Nat → M → Ar → M → Ar → Prop
  | nil {x : M} {D : Ar} : Path X 0 x D x D
  | cons {n : Nat} {x : M} {D : Ar} {x1 : M} {D1 : Ar} {x' : M} {D' : Ar} : X.inv x D → X.step x D = (x1, D1) → D1.aD ≤ w64 (D.aD + 1) → X.fin x1 = false → Path X n x1 D1 x' D' → Path X (n + 1) x D x' D'
theorem Mch.Path.trans {M J : Type} {X : Mch M J} {k n : Nat} {m m1 m2 : M} {A A1 A2 : Ar} (h : X.Path k m A m1 A1) (g : X.Path n m1 A1 m2 A2) : X.Path (k + n) m A m2 A2 := by
  induction h with
  | nil => rw [Nat.zero_add]; exact g
  | @cons k m A m1 A1 m' A' h1 h2 h3 h4 _ ih =>
    have := ih g
    rw [show k + 1 + n = k + n + 1 by omega]
    exact .cons h1 h2 h3 h4 this
theorem Mch.Path.run {M J : Type} {X : Mch M J} {k n : Nat} {m m1 m2 : M} {A A1 A2 : Ar} (h : X.Path k m A m1 A1) (g : X.gh n m1 A1 m2 A2) : X.gh (k + n) m A m2 A2 := by
  induction h with
  | nil => rw [Nat.zero_add]; exact g
  | @cons k m A m1 A1 m' A' h1 h2 h3 h4 _ ih =>
    have := ih g
    rw [show k + 1 + n = k + n + 1 by omega]
    refine .more h1 (by rw [h2]; exact h3) (by rw [h2]; exact h4) ?_
    rw [h2]; exact this
theorem Mch.gh.last {M J : Type} {X : Mch M J} {m m1 : M} {A A1 : Ar} (h1 : X.inv m A) (h2 : X.step m A = (m1, A1)) (h3 : A1.aD ≤ w64 (A.aD + 1)) (h4 : X.fin m1 = true) : X.gh 1 m A m1 A1 := by
  have := Mch.gh.one (X := X) h1 (by rw [h2]; exact h3) (by rw [h2]; exact h4)
  rw [h2] at this; exact this
theorem uz {p : Pl} {w c : Int} (hp : p.heads = 0) (w0 : 0 ≤ w ∧ w ≤ 1000) (c0 : 0 ≤ c ∧ c < 4) : kJ p w c = 4 * w + c := by
  unfold kJ; rw [hp, Int.zero_add, aE (x := 4 * w) (by omega) (by omega), aE (x := 4 * w) (by omega) (by omega), aE (by omega) (by omega)]
def rJ (p : Pl) (w who c j : Int) : Al := ⟨p, who, c, j, 0, 0, 0, w4 p ((who + j) % w) c⟩
def Et (p : Pl) (who c j b : Int) (po : Po) : Al := ⟨p, who, c, j, 3, b, 0, po⟩
theorem IM (X : SL A p w m S) (hu : A.aD ≤ 1000000000) {who c j : Int} (wh : 0 ≤ who ∧ who < w) (hc : 0 ≤ c ∧ c < 4) (hj : 0 ≤ j ∧ j < w) (he : S.ch (4 * ((who + j) % w) + c) = []) :
    ∃ y, y.at' = 3 ∧ (if j + 1 < w then mAl.Path 1 (rJ p w who c j) A (rJ p w who c (j + 1)) (A.ay 1) else mAl.Path 1 (rJ p w who c j) A ⟨p, who, c, j + 1, 1, 0, 0, y⟩ (A.ay 1)) := by
  obtain ⟨p1, p2, p3, p4, p5⟩ := X.gP
  have wb := X.wb
  have us := X.F.us
  have q0 := Int.emod_nonneg (who + j) (b := w) (by omega)
  have q1 := Int.emod_lt_of_pos (who + j) (b := w) (by omega)
  have hh := uz (p := p) (w := (who + j) % w) (c := c) p1 ⟨q0, by omega⟩ hc
  have ok : A.bp (4 * ((who + j) % w) + c) := X.F.tS (by omega) (by omega)
  generalize hk : 4 * ((who + j) % w) + c = k at *
  have np : w4 p ((who + j) % w) c = ⟨p, k, 0, 0, 0, 0, false⟩ := by unfold w4; rw [hh]
  have e1 := Po.s0 (A := A) (x := ⟨p, k, 0, 0, 0, 0, false⟩) rfl ok
  have fz : A.ao k % 131072 = 0 := X.F.vd (by omega) (by omega) he
  simp only [if_pos fz] at e1
  have b1 : (Po.mk p k 0 0 0 0 false).dP A = true := by rw [← Po.fin, (Prod.mk.inj e1).1]; rfl
  have ej : w64 (j + 1) = j + 1 := aE (by omega) (by omega)
  have hx : imax p.work 1 = w := by rw [p5]; unfold imax; rw [if_neg (by omega)]
  have et : A.tick = A.ay 1 := iu us (by omega)
  have u1 : (A.ay 1).aD ≤ w64 (A.aD + 1) := by show A.aD + 1 ≤ _; rw [aE (by omega) (by omega)]; exact Int.le_refl _
  have iv : 0 ≤ j ∧ j ≤ 1000000 := ⟨hj.1, by omega⟩
  have s1 : Al.step (rJ p w who c j) A = (Al.wH ⟨p, who, c, j, 0, 0, 0, ⟨p, k, A.ao k, 3, 0, 0, false⟩⟩, A.ay 1) := by
    unfold Al.step rJ
    rw [np]
    simp only [b1, if_true]
    rw [(Prod.mk.inj e1).1, (Prod.mk.inj e1).2, et]
  refine ⟨⟨p, k, A.ao k, 3, 0, 0, false⟩, rfl, ?_⟩
  by_cases hl : j + 1 < w
  · rw [if_pos hl]
    refine .cons iv (x1 := rJ p w who c (j + 1)) ?_ u1 rfl .nil
    refine Eq.trans s1 ?_
    unfold Al.wH
    have n1 : ¬ j + 1 ≥ w := by omega
    simp only [Bool.false_eq_true, if_false, ej, hx, if_neg n1]
    show (Al.mk p who c (j + 1) 0 0 0 (w4 p (Int.tmod (w64 (who + (j + 1))) p.work) c), _) = (Al.mk p who c (j + 1) 0 0 0 (w4 p ((who + (j + 1)) % w) c), _)
    rw [aE (x := who + (j + 1)) (by omega) (by omega), p5, Int.tmod_eq_emod_of_nonneg (by omega)]
  · rw [if_neg hl]
    refine .cons iv ?_ u1 rfl .nil
    refine Eq.trans s1 ?_
    unfold Al.wH
    have n1 : j + 1 ≥ w := by omega
    simp only [Bool.false_eq_true, if_false, ej, hx, if_pos n1]
theorem Ih (X : SL A p w m S) (hwf : A.wf) (hu : A.aD ≤ 1000000000) {who c j b : Int} {l : List Int} (wh : 0 ≤ who ∧ who < w) (hc : 0 ≤ c ∧ c < 4) (hj : 0 ≤ j ∧ j < w) (he : S.ch (4 * ((who + j) % w) + c) = b :: l) :
    ∃ y, mAl.Path 3 (rJ p w who c j) A (Et p who c (j + 1) b y) (A.popped (4 * ((who + j) % w) + c) (4 * w + b / 8)) := by
  obtain ⟨p1, p2, p3, p4, p5⟩ := X.gP
  have wb := X.wb
  have mb := X.mb
  have us := X.F.us
  have q0 := Int.emod_nonneg (who + j) (b := w) (by omega)
  have q1 := Int.emod_lt_of_pos (who + j) (b := w) (by omega)
  have hh := uz (p := p) (w := (who + j) % w) (c := c) p1 ⟨q0, by omega⟩ hc
  generalize hk : 4 * ((who + j) % w) + c = k at *
  have o1 : A.bp k := X.F.tS (by omega) (by omega)
  have hm := X.F.mem k b (by rw [he]; simp)
  have o2 := X.F.Ad hm.1 hm.2.2
  have hf := X.F.oS (k := k) (by omega) (by omega) he
  have nb := X.F.nb
  have el : w64 (w64 (p.links + A.ao k % 131072) - 1) = 4 * w + b / 8 := by rw [hf, p2, aE (x := 4 * w + (b / 8 + 1)) (by omega) (by omega), aE (by omega) (by omega)]; omega
  have eb : w64 (w64 (A.ao k % 131072 - 1) * 8) = b := by rw [hf, aE (x := b / 8 + 1 - 1) (by omega) (by omega), aE (by omega) (by omega)]; omega
  have t1 : w64 (A.aD + 1) = A.aD + 1 := aE (by omega) (by omega)
  have t2 : w64 (A.aD + 1 + 1) = A.aD + 1 + 1 := aE (by omega) (by omega)
  have t3 : w64 (A.aD + 1 + 1 + 1) = A.aD + 1 + 1 + 1 := aE (by omega) (by omega)
  have ef : A.tick.tick.tick.dQ k.toNat (ga (A.ao k) (A.ao (4 * w + b / 8))) = A.popped k (4 * w + b / 8) := by
    unfold Ar.popped Ar.dQ Ar.tick
    simp only [t1, t2, t3, Ar.mk.injEq, true_and]
    omega
  have e1 := Po.s0 (A := A) (x := ⟨p, k, 0, 0, 0, 0, false⟩) rfl o1
  have n0 : ¬ A.ao k % 131072 = 0 := by omega
  simp only [if_neg n0] at e1
  have e2 := Po.s1 (A := A.tick) (x := ⟨p, k, A.ao k, 1, 0, 0, false⟩) rfl el o2
  have e3 := Po.s2y (A := A.tick.tick) (x := ⟨p, k, A.ao k, 2, A.ao (4 * w + b / 8), 0, false⟩) rfl o1 rfl
  have b1 : (Po.mk p k 0 0 0 0 false).dP A = false := by rw [← Po.fin, (Prod.mk.inj e1).1]; rfl
  have b2 : (Po.mk p k (A.ao k) 1 0 0 false).dP A.tick = false := by rw [← Po.fin, (Prod.mk.inj e2).1]; rfl
  have b3 : (Po.mk p k (A.ao k) 2 (A.ao (4 * w + b / 8)) 0 false).dP A.tick.tick = true := by rw [← Po.fin, (Prod.mk.inj e3).1]; rfl
  have np : w4 p ((who + j) % w) c = ⟨p, k, 0, 0, 0, 0, false⟩ := by unfold w4; rw [hh]
  have ej : w64 (j + 1) = j + 1 := aE (by omega) (by omega)
  have s1 : Al.step (rJ p w who c j) A = (⟨p, who, c, j, 0, 0, 0, ⟨p, k, A.ao k, 1, 0, 0, false⟩⟩, A.tick) := by
    unfold Al.step rJ
    rw [np]
    simp only [b1, if_true, if_false, Bool.false_eq_true]
    rw [(Prod.mk.inj e1).1, (Prod.mk.inj e1).2]
  have s2 : Al.step ⟨p, who, c, j, 0, 0, 0, ⟨p, k, A.ao k, 1, 0, 0, false⟩⟩ A.tick = (⟨p, who, c, j, 0, 0, 0, ⟨p, k, A.ao k, 2, A.ao (4 * w + b / 8), 0, false⟩⟩, A.tick.tick) := by
    unfold Al.step
    simp only [b2, if_true, if_false, Bool.false_eq_true]
    rw [(Prod.mk.inj e2).1, (Prod.mk.inj e2).2]; rfl
  have s3 : Al.step ⟨p, who, c, j, 0, 0, 0, ⟨p, k, A.ao k, 2, A.ao (4 * w + b / 8), 0, false⟩⟩ A.tick.tick = (Et p who c (j + 1) b ⟨p, k, A.ao k, 3, A.ao (4 * w + b / 8), b, true⟩, A.popped k (4 * w + b / 8)) := by
    unfold Al.step
    simp only [b3, if_true]
    rw [(Prod.mk.inj e3).1, (Prod.mk.inj e3).2]
    unfold Al.wH
    simp only [if_true]
    rw [ef, ej, eb]; rfl
  have iv : 0 ≤ j ∧ j ≤ 1000000 := ⟨hj.1, by omega⟩
  refine ⟨⟨p, k, A.ao k, 3, A.ao (4 * w + b / 8), b, true⟩, .cons iv s1 (Int.le_refl _) rfl (.cons iv s2 (Int.le_refl _) rfl (.cons iv s3 ?_ rfl .nil))⟩
  show A.aD + 3 ≤ w64 (w64 (w64 (A.aD + 1) + 1) + 1)
  rw [t1, t2, t3]; omega
end
section
variable {A B C : Ar} {p : Pl} {w m : Int} {S : Sg} {c : Int}
theorem J2 (X : SL A p w m S) (hu : A.aD ≤ 1000000000) {who j : Int} {y : Po} (hc : 0 ≤ c ∧ c < 4) (hj : 0 ≤ j ∧ j ≤ 1000000) (hf : ¬ S.cv + au c ≤ m) :
    mAl.gh 1 ⟨p, who, c, j, 1, 0, 0, y⟩ A ⟨p, who, c, j, 4, S.cv, 0, y⟩ (A.ay 1) := by
  obtain ⟨p1, p2, p3, p4, p5⟩ := X.gP
  have us := X.F.us
  have mb := X.mb
  have wb := X.wb
  have sz := gk hc.1 hc.2
  have ok : A.bp p.carved := ⟨by omega, X.rl⟩
  have gt : A.ao p.carved > w64 (A.words.length - au c) := by rw [X.cvr, X.wl, aE (by omega) (by omega)]; omega
  refine Mch.gh.last (X := mAl) (m := ⟨p, who, c, j, 1, 0, 0, y⟩) (A := A) (A1 := A.ay 1) (m1 := ⟨p, who, c, j, 4, S.cv, 0, y⟩) ⟨hj.1, hj.2⟩ ?_ (by show A.aD + 1 ≤ _; rw [aE (by omega) (by omega)]; exact Int.le_refl _) rfl
  rw [show mAl.step = Al.step from rfl]
  unfold Al.step
  have n0 : ¬ (1 : Int) = 0 := by decide
  simp only [if_neg n0, if_true, if_pos gt]
  rw [ko ok, iu us (by omega), X.cvr]
theorem Hv (X : SL A p w m S) (hu : A.aD ≤ 1000000000) {who j : Int} {y : Po} (hc : 0 ≤ c ∧ c < 4) (hj : 0 ≤ j ∧ j ≤ 1000000) (hf : S.cv + au c ≤ m) :
    mAl.Path 2 ⟨p, who, c, j, 1, 0, 0, y⟩ A ⟨p, who, c, j, 3, S.cv, 0, y⟩ (((A.ay 1).ay 1).dQ p.carved.toNat (S.cv + au c)) := by
  obtain ⟨p1, p2, p3, p4, p5⟩ := X.gP
  have us := X.F.us
  have mb := X.mb
  have wb := X.wb
  have cvb := X.cvb
  have sz := gk hc.1 hc.2
  have ok : A.bp p.carved := ⟨by omega, X.rl⟩
  have ok' : (A.ay 1).bp p.carved := ok
  have ng : ¬ A.ao p.carved > w64 (A.words.length - au c) := by rw [X.cvr, X.wl, aE (by omega) (by omega)]; omega
  have t1 : A.tick = A.ay 1 := iu us (by omega)
  have t2 : (A.ay 1).tick = (A.ay 1).ay 1 := iu (by show 0 ≤ A.aD + 1; omega) (by show A.aD + 1 ≤ _; omega)
  have s1 : Al.step ⟨p, who, c, j, 1, 0, 0, y⟩ A = (⟨p, who, c, j, 2, S.cv, 0, y⟩, A.ay 1) := by
    unfold Al.step
    have n0 : ¬ (1 : Int) = 0 := by decide
    simp only [if_neg n0, if_true, if_neg ng]
    rw [ko ok, t1, X.cvr]
  have hraw : (A.ay 1).raw.getD p.carved.toNat 0 = S.cv := by rw [dG ok']; exact X.cvr
  have sb : (A.ay 1).cC p.carved S.cv = true := decide_eq_true ⟨ok', hraw⟩
  have s2 : Al.step ⟨p, who, c, j, 2, S.cv, 0, y⟩ (A.ay 1) = (⟨p, who, c, j, 3, S.cv, 0, y⟩, ((A.ay 1).ay 1).dQ p.carved.toNat (S.cv + au c)) := by
    unfold Al.step
    have n0 : ¬ (2 : Int) = 0 := by decide
    have n1 : ¬ (2 : Int) = 1 := by decide
    simp only [if_neg n0, if_neg n1, if_true, sb]
    unfold Ar.dE
    rw [if_pos ok', if_pos hraw, t2, aE (by omega) (by omega)]
  refine .cons ⟨hj.1, hj.2⟩ s1 (by show A.aD + 1 ≤ _; rw [aE (by omega) (by omega)]; exact Int.le_refl _) rfl (.cons ⟨hj.1, hj.2⟩ s2 ?_ rfl .nil)
  show A.aD + 1 + 1 ≤ w64 (A.aD + 1 + 1)
  rw [aE (by omega) (by omega)]; exact Int.le_refl _
theorem xW (X : SL A p w m S) (hu : A.aD ≤ 1000000000) {who j b : Int} {y : Po} (hj : 0 ≤ j ∧ j ≤ 1000000) (hc : S.cl b = c) (hc1 : c ≠ -1) (hb : ((A.ay 1).dQ (p.gens + b / 8).toNat (S.gn b + 1)).mM (cH b (S.gn b + 1) c)) :
    mAl.gh 1 ⟨p, who, c, j, 3, b, 0, y⟩ A ⟨p, who, c, j, 4, b, cH b (S.gn b + 1) c, y⟩ (((A.ay 1).dQ (p.gens + b / 8).toNat (S.gn b + 1)).dr (cH b (S.gn b + 1) c)) := by
  obtain ⟨p1, p2, p3, p4, p5⟩ := X.gP
  have us := X.F.us
  have mb := X.mb
  have wb := X.wb
  have cvb := X.cvb
  have gb := X.gnb b
  obtain ⟨b1, b2, b3, b4, b5⟩ := X.blk b (by rw [hc]; exact hc1)
  have sz := gk b1 b2
  have ok : A.bp (p.gens + b / 8) := ⟨by omega, by have := X.rl; omega⟩
  have ei : w64 (p.gens + w64 (Int.tdiv b 8)) = p.gens + b / 8 := by rw [Int.tdiv_eq_ediv_of_nonneg b3, aE (x := b / 8) (by omega) (by omega), aE (by omega) (by omega)]
  have eg : A.ao (p.gens + b / 8) = S.gn b := (X.gnr b b3 (by omega) b4).1
  refine Mch.gh.last (X := mAl) (m := ⟨p, who, c, j, 3, b, 0, y⟩) (A := A) (A1 := ((A.ay 1).dQ (p.gens + b / 8).toNat (S.gn b + 1)).dr (cH b (S.gn b + 1) c)) (m1 := ⟨p, who, c, j, 4, b, cH b (S.gn b + 1) c, y⟩) ⟨hj.1, hj.2⟩ ?_ ?_ rfl
  · rw [show mAl.step = Al.step from rfl]
    unfold Al.step
    have n0 : ¬ (3 : Int) = 0 := by decide
    have n1 : ¬ (3 : Int) = 1 := by decide
    have n2 : ¬ (3 : Int) = 2 := by decide
    simp only [if_neg n0, if_neg n1, if_neg n2, if_true, ei, eg]
    rw [aE (x := S.gn b + 1) (by omega) (by omega)]
    unfold Ar.aL
    rw [if_pos ok, iu us (by omega)]
    unfold Ar.vM
    rw [if_pos hb]
  · rw [wv]
    show A.aD + 1 ≤ _
    rw [aE (by omega) (by omega)]; exact Int.le_refl _
def Sg.ask (S : Sg) (w who c : Int) : Nat → Int → Option Int
  | 0, _ => none
  | f + 1, j => if S.ch (4 * ((who + j) % w) + c) = [] then S.ask w who c f (j + 1) else some (4 * ((who + j) % w) + c)
inductive y9 (S : Sg) (w m who c : Int) : Sg → Int → Prop
  | list {k b : Int} {l : List Int} : S.ask w who c w.toNat 0 = some k → S.ch k = b :: l → 0 ≤ k → k < 4 * w → k % 4 = c →
      y9 S w m who c { S with ch := upd S.ch k l, gn := hZ S.gn b (S.gn b + 1), nc := S.nc + (if S.gn b = 0 then au c else 0) } (cH b (S.gn b + 1) c)
  | Dr : S.ask w who c w.toNat 0 = none → S.cv + au c ≤ m →
      y9 S w m who c { S with cv := S.cv + au c, cl := hZ S.cl S.cv c, gn := hZ S.gn S.cv 1, nc := S.nc + au c } (cH S.cv 1 c)
  | none : S.ask w who c w.toNat 0 = none → ¬ S.cv + au c ≤ m → y9 S w m who c S 0
structure Ch (A : Ar) (p : Pl) (w m : Int) (S : Sg) (who c : Int) (n : Nat) (x' : Al) (A' : Ar) (S' : Sg) : Prop where
  run : mAl.gh n (mf p who c) A x' A'
  gives : y9 S w m who c S' x'.h
  off : Off p.carved n A A'
  sl : SL A' p w m S'
  st : ∀ k, A'.stF k = if x'.h ≠ 0 ∧ k = x'.h then 1 else A.stF k
  nL : A'.nL = A.nL + (if x'.h ≠ 0 then au c else 0)
  nR : A'.nR = A.nR
  nn : (n : Int) ≤ w + 5
  hd : x'.h ≠ 0 → opC x'.h = c ∧ cS x'.h = true ∧ A.stF x'.h = 0
  nx : S'.cv ≠ S.cv → (n : Int) = w + 3
theorem CV (X : SL A p w m S) (hwf : A.wf) (hu : A.aD ≤ 1000000) {who : Int} (wh : 0 ≤ who ∧ who < w) (hc : 0 ≤ c ∧ c < 4) : ∀ (f : Nat) (j : Int), 0 ≤ j → j + f = w → ∀ (D : Ar), D = A.ay j → 1 ≤ f →
    (∃ y, S.ask w who c f j = none ∧ mAl.Path f (rJ p w who c j) D ⟨p, who, c, w, 1, 0, 0, y⟩ (A.ay w)) ∨
    (∃ k b l y, ∃ i : Nat, S.ask w who c f j = some k ∧ S.ch k = b :: l ∧ 0 ≤ k ∧ k < 4 * w ∧ k % 4 = c ∧ j ≤ i ∧ (i : Int) < w ∧ ∃ n : Nat, (n : Int) = i - j + 3 ∧ mAl.Path n (rJ p w who c j) D (Et p who c (i + 1) b y) ((A.ay i).popped k (4 * w + b / 8)))
  | 0, j, h0, h1, D, hD, hf => by omega
  | f + 1, j, h0, h1, D, hD, hf => by
    have wb := X.wb
    have q0 := Int.emod_nonneg (who + j) (b := w) (by omega)
    have q1 := Int.emod_lt_of_pos (who + j) (b := w) (by omega)
    have Y : SL D p w m S := by rw [hD]; exact X.ay h0
    have du : D.aD ≤ 1000000000 := by rw [hD]; show A.aD + j ≤ _; omega
    have dwf : D.wf := by rw [hD]; exact eK hwf j
    unfold Sg.ask
    by_cases he : S.ch (4 * ((who + j) % w) + c) = []
    · rw [if_pos he]
      obtain ⟨y, y3, hp⟩ := IM Y du wh hc ⟨h0, by omega⟩ he
      have e1 : D.ay 1 = A.ay (j + 1) := by rw [hD]; unfold Ar.ay; simp only [Ar.mk.injEq, true_and]; omega
      by_cases hl : j + 1 < w
      · rw [if_pos hl] at hp
        rcases CV X hwf hu wh hc f (j + 1) (by omega) (by omega) (D.ay 1) e1 (by omega) with ⟨y2, a1, a2⟩ | ⟨k, b, l, y2, i, a1, a2, a3, a4, a5, a6, a7, n, a8, a9⟩
        · exact .inl ⟨y2, a1, by have := hp.trans a2; rw [Nat.add_comm] at this; exact this⟩
        · exact .inr ⟨k, b, l, y2, i, a1, a2, a3, a4, a5, by omega, a7, 1 + n, by omega, hp.trans a9⟩
      · rw [if_neg hl] at hp
        have f0 : f = 0 := by omega
        subst f0
        have ew : j + 1 = w := by omega
        refine .inl ⟨y, rfl, ?_⟩
        rw [← ew, ← e1]; rw [← ew] at hp; exact hp
    · rw [if_neg he]
      obtain ⟨b, l, hbl⟩ := List.exists_cons_of_ne_nil he
      obtain ⟨y, hp⟩ := Ih Y dwf du wh hc ⟨h0, by omega⟩ hbl
      refine .inr ⟨_, b, l, y, j.toNat, rfl, hbl, by omega, by omega, by omega, by omega, by omega, 3, by omega, ?_⟩
      have ej : ((j.toNat : Nat) : Int) = j := by omega
      rw [ej, ← hD]; exact hp
theorem Mz (A : Ar) : A.ay 0 = A := by unfold Ar.ay; rw [Int.add_zero]
theorem Ea (X : SL A p w m S) (hwf : A.wf) (hu : A.aD ≤ 1000000) {who : Int} (wh : 0 ≤ who ∧ who < w) (hc : 0 ≤ c ∧ c < 4) : ∃ n x' A' S', Ch A p w m S who c n x' A' S' := by
  obtain ⟨p1, p2, p3, p4, p5⟩ := X.gP
  have wb := X.wb
  have mb := X.mb
  have us := X.F.us
  have cvb := X.cvb
  have sz := gk hc.1 hc.2
  have e0 : mf p who c = rJ p w who c 0 := by
    unfold mf rJ; rw [Int.add_zero, Int.emod_eq_of_lt wh.1 wh.2]
  rcases CV X hwf hu wh hc w.toNat 0 (Int.le_refl 0) (by omega) A (Mz A).symm (by omega) with ⟨y, a1, a2⟩ | ⟨k, b, l, y, i, a1, a2, a3, a4, a5, a6, a7, n, a8, a9⟩
  · have Y : SL (A.ay w) p w m S := X.ay (by omega)
    have yu : (A.ay w).aD ≤ 1000000000 := by show A.aD + w ≤ _; omega
    by_cases hf : S.cv + au c ≤ m
    · -- new words
      have cp := Hv Y yu (who := who) (j := w) (y := y) hc ⟨by omega, by omega⟩ hf
      have Z := (Y.ay (n := 1) (by omega)).Dr (by show A.aD + w + 1 ≤ _; omega) hc.1 hc.2 hf
      generalize hD : (((A.ay w).ay 1).ay 1).dQ p.carved.toNat (S.cv + au c) = D at *
      have okc : (((A.ay w).ay 1).ay 1).bp p.carved := ⟨by omega, X.rl⟩
      have du : D.aD = A.aD + w + 1 + 1 := by rw [← hD]; rfl
      have dwf : D.wf := by rw [← hD]; exact pW (eK (eK (eK hwf _) _) _) _ _
      have hcl : S.cl S.cv = -1 := by
        by_cases h : S.cl S.cv = -1
        · exact h
        · have := X.blk _ h; have := gk this.1 this.2.1; omega
      have gz : S.gn S.cv = 0 := X.gnz _ (Int.le_refl _)
      have ecl : hZ S.cl S.cv c S.cv = c := if_pos rfl
      have dst : ∀ h, D.stF h = A.stF h := fun h => by rw [← hD]; exact c8 rfl h
      obtain ⟨v1, ⟨o1, o2, o3, o4⟩, v2, v3, v4, v5⟩ := Z.MO dwf (by omega) (b := S.cv) (c := c) ecl (by omega) (fun k hk => by
        have := X.chc k _ hk; have := X.F.rg k (by intro e; rw [e] at hk; cases hk); omega) (fun h hh e => by
        rw [dst] at hh
        have := (X.act h hh).1; rw [e, hcl] at this; have := (fk h).1; omega)
      have bl := xW Z (by omega) (who := who) (j := w) (y := y) (b := S.cv) (c := c) ⟨by omega, by omega⟩ ecl (by omega) v2
      dsimp only at v1 v2 v3 v4 v5 bl o1 o2 o3 o4
      rw [gz] at v1 v2 v3 v4 v5 bl o1 o2 o3 o4
      rw [if_pos rfl] at v3
      have e1 : (0 : Int) + 1 = 1 := rfl
      rw [e1] at v1 v2 v3 v4 v5 bl o1 o2 o3 o4
      have hn0 : cH S.cv 1 c ≠ 0 := fun e => by rw [e] at o2; revert o2; decide
      have okg : (D.ay 1).bp (p.gens + S.cv / 8) := by
        refine ⟨by omega, ?_⟩
        have hl : (D.raw.length : Int) = A.raw.length := by rw [← hD]; show ((A.raw.set _ _).length : Int) = _; rw [List.length_set]
        show _ < (D.raw.length : Int); rw [hl]; have := X.rl; omega
      have off1 : Off p.carved (w + 1 + 1 + 0) A D := by
        rw [← hD]
        exact (((Off.ay hwf w).trans (Off.ay (eK hwf _) 1)).trans (Off.ay (eK (eK hwf _) _) 1)).trans (Off.dQ (eK (eK (eK hwf _) _) _) okc (Int.le_refl _))
      have off2 := (off1.trans (Off.ay dwf 1)).trans (Off.dQ (c := p.carved) (v := 1) (eK dwf 1) okg (by omega))
      have off3 := off2.trans (Off.dr (c := p.carved) off2.wf (by rw [off2.fr]; exact X.fr) (k := cH S.cv 1 c) v2.2.1)
      have run := (a2.trans cp).run bl
      rw [← e0] at run
      refine ⟨_, _, _, _, ⟨run, ?_, ?_, v3, fun k => ?_, ?_, ?_, by omega, fun _ => ⟨o3, o4, ?_⟩, fun _ => by omega⟩⟩
      · exact y9.Dr a1 hf
      · have en : ((w.toNat + 2 + 1 : Nat) : Int) = w + 1 + 1 + 0 + 1 + 0 + 0 := by omega
        rw [en]; exact off3
      · dsimp only
        rw [v4]
        by_cases e : k = cH S.cv 1 c
        · rw [if_pos e, if_pos ⟨hn0, e⟩]
        · rw [if_neg e, if_neg (fun h => e h.2)]; exact dst k
      · dsimp only
        rw [v5, if_pos hn0]
        have : D.nL = A.nL := by rw [← hD]; rfl
        rw [this]
      · have h1 := (lg ((D.ay 1).dQ (p.gens + S.cv / 8).toNat 1) off2.wf (cH S.cv 1 c)).2.2.2
        rw [h1]
        show D.nR = _
        rw [← hD]; rfl
      · dsimp only
        by_cases z : A.stF (cH S.cv 1 c) = 0
        · exact z
        · have := (X.act _ z).1
          rw [o1, hcl, o3] at this; omega
    · have cn := J2 Y yu (who := who) (j := w) (y := y) hc ⟨by omega, by omega⟩ hf
      have run := a2.run cn
      rw [← e0] at run
      have ew : (A.ay w).ay 1 = A.ay (w + 1) := by unfold Ar.ay; simp only [Ar.mk.injEq, true_and]; omega
      rw [ew] at run
      refine ⟨_, _, _, S, ⟨run, .none a1 hf, ?_, X.ay (by omega), fun k => ?_, ?_, rfl, by omega, fun h => (h rfl).elim, fun h => (h rfl).elim⟩⟩
      · have en : ((w.toNat + 1 : Nat) : Int) = w + 1 := by omega
        rw [en]; exact Off.ay hwf _
      · rw [if_neg (fun h => h.1 rfl)]; exact c8 rfl k
      · rw [if_neg (fun h => h rfl), Int.add_zero]; rfl
  · -- out of a list
    have Y : SL (A.ay i) p w m S := X.ay (by omega)
    have yu : (A.ay i).aD ≤ 1000000000 := by show A.aD + i ≤ _; omega
    have Z := Y.pop yu a2
    have o1k := X.F.tS a3 a4
    have dwf := By (eK hwf i) k (4 * w + b / 8)
    have dus : ((A.ay i).popped k (4 * w + b / 8)).aD = A.aD + i + 3 := rfl
    have dst : ∀ h, ((A.ay i).popped k (4 * w + b / 8)).stF h = A.stF h := fun h => c8 rfl h
    have dnl : ((A.ay i).popped k (4 * w + b / 8)).nL = A.nL := rfl
    have dnr : ((A.ay i).popped k (4 * w + b / 8)).nR = A.nR := rfl
    have drl : (((A.ay i).popped k (4 * w + b / 8)).raw.length : Int) = A.raw.length := by unfold Ar.popped Ar.ay; simp
    have off1 : Off p.carved (i + 3) A ((A.ay i).popped k (4 * w + b / 8)) := (Off.ay hwf i).trans (Off.popped (eK hwf i) (show (A.ay i).bp k from o1k) (by omega))
    generalize hD : (A.ay i).popped k (4 * w + b / 8) = D at *
    have hcb : S.cl b = c := by have := X.chc k b (by rw [a2]; simp); omega
    have hch : ∀ j, b ∉ upd S.ch k l j := fun j hj => by
      unfold upd at hj
      split at hj
      · have := X.F.nd k; rw [a2] at this; exact (List.nodup_cons.1 this).1 hj
      · rename_i hne
        exact hne (X.F.dj j k b hj (by rw [a2]; simp))
    have hact : ∀ h, D.stF h ≠ 0 → opB h ≠ b := fun h hh e => by
      rw [dst] at hh
      exact (X.act h hh).2 k (by rw [e, a2]; simp)
    obtain ⟨v1, ⟨o1, o2, o3, o4⟩, v2, v3, v4, v5⟩ := Z.MO dwf (by omega) (b := b) (c := c) hcb (by omega) hch hact
    have bl := xW Z (by omega) (who := who) (j := i + 1) (y := y) (b := b) (c := c) ⟨by omega, by omega⟩ hcb (by omega) v2
    dsimp only at v1 v2 v3 v4 v5 bl o1 o2 o3 o4
    have gb := X.gnb b
    have hn0 : cH b (S.gn b + 1) c ≠ 0 := fun e => by
      rw [e] at o2
      have z : opG 0 = 0 := by decide
      rw [z] at o2; omega
    have blk := X.blk b (by rw [hcb]; omega)
    rw [hcb] at blk
    have okg : (D.ay 1).bp (p.gens + b / 8) := by
      refine ⟨by omega, ?_⟩
      show _ < (D.raw.length : Int); rw [drl]; have := X.rl; omega
    have off2 := (off1.trans (Off.ay dwf 1)).trans (Off.dQ (c := p.carved) (v := S.gn b + 1) (eK dwf 1) okg (by omega))
    have off3 := off2.trans (Off.dr (c := p.carved) off2.wf (by rw [off2.fr]; exact X.fr) (k := cH b (S.gn b + 1) c) v2.2.1)
    have run := a9.run bl
    rw [← e0] at run
    refine ⟨_, _, _, _, ⟨run, ?_, ?_, v3, fun j => ?_, ?_, ?_, by omega, fun _ => ⟨o3, o4, ?_⟩, fun h => (h rfl).elim⟩⟩
    · exact y9.list a1 a2 a3 a4 a5
    · have en : ((n + 1 : Nat) : Int) = i + 3 + 1 + 0 + 0 := by omega
      rw [en]; exact off3
    · dsimp only
      rw [v4]
      by_cases e : j = cH b (S.gn b + 1) c
      · rw [if_pos e, if_pos ⟨hn0, e⟩]
      · rw [if_neg e, if_neg (fun h => e h.2)]; exact dst j
    · dsimp only
      rw [v5, if_pos hn0, dnl]
    · have h1 := (lg ((D.ay 1).dQ (p.gens + b / 8).toNat (S.gn b + 1)) off2.wf (cH b (S.gn b + 1) c)).2.2.2
      rw [h1]
      show D.nR = _
      rw [dnr]
    · dsimp only
      by_cases z : A.stF (cH b (S.gn b + 1) c) = 0
      · exact z
      · exact ((X.act _ z).2 k (by rw [o1, a2]; simp)).elim
end
section
variable {A B C : Ar} {p : Pl} {w m : Int} {S : Sg} {c : Int}
theorem y9.or {who h : Int} {S' : Sg} (g : y9 S w m who c S' h) :
    (∃ k b l, S.ask w who c w.toNat 0 = some k ∧ S.ch k = b :: l ∧ 0 ≤ k ∧ k < 4 * w ∧ k % 4 = c ∧ S' = { S with ch := upd S.ch k l, gn := hZ S.gn b (S.gn b + 1), nc := S.nc + (if S.gn b = 0 then au c else 0) } ∧ h = cH b (S.gn b + 1) c) ∨
    (S.ask w who c w.toNat 0 = Option.none ∧ S.cv + au c ≤ m ∧ S' = { S with cv := S.cv + au c, cl := hZ S.cl S.cv c, gn := hZ S.gn S.cv 1, nc := S.nc + au c } ∧ h = cH S.cv 1 c) ∨
    (S.ask w who c w.toNat 0 = Option.none ∧ ¬ S.cv + au c ≤ m ∧ S' = S ∧ h = 0) := by
  cases g with
  | list h1 h2 h3 h4 h5 => exact .inl ⟨_, _, _, h1, h2, h3, h4, h5, rfl, rfl⟩
  | Dr h1 h2 => exact .inr (.inl ⟨h1, h2, rfl, rfl⟩)
  | none h1 h2 => exact .inr (.inr ⟨h1, h2, rfl, rfl⟩)
theorem EJ (X : SL A p w m S) (hc : 0 ≤ c ∧ c < 4) (hf : S.cv + au c ≤ m) : opB (cH S.cv 1 c) = S.cv ∧ opG (cH S.cv 1 c) = 1 ∧ opC (cH S.cv 1 c) = c ∧ cS (cH S.cv 1 c) = true ∧ cH S.cv 1 c ≠ 0 := by
  have sz := gk hc.1 hc.2
  have cvb := X.cvb
  have mb := X.mb
  obtain ⟨o1, o2, o3, o4⟩ := z7 (b := S.cv) (g := 1) (c := c) ⟨by omega, by omega, by omega, by omega, by omega, by omega⟩
  refine ⟨o1, o2, o3, o4, fun e => ?_⟩
  rw [e] at o2; revert o2; decide
theorem HX (X : SL A p w m S) (hu : A.aD ≤ 1000000000) {k b : Int} {l : List Int} (hk : S.ch k = b :: l) (hc : k % 4 = c) : opB (cH b (S.gn b + 1) c) = b ∧ opG (cH b (S.gn b + 1) c) = S.gn b + 1 ∧ opC (cH b (S.gn b + 1) c) = c ∧ cS (cH b (S.gn b + 1) c) = true ∧ cH b (S.gn b + 1) c ≠ 0 := by
  have gb := X.gnb b
  have hcb := X.chc k b (by rw [hk]; simp)
  have blk := X.blk b (by omega)
  have cvb := X.cvb
  have mb := X.mb
  have sz := gk blk.1 blk.2.1
  obtain ⟨o1, o2, o3, o4⟩ := z7 (b := b) (g := S.gn b + 1) (c := c) ⟨by omega, by omega, by omega, by omega, by omega, by omega⟩
  refine ⟨o1, o2, o3, o4, fun e => ?_⟩
  rw [e] at o2
  have z : opG 0 = 0 := by decide
  rw [z] at o2; omega
end
section
variable {A : Ar} {p : Pl} {w m : Int} {S : Sg}
theorem fU {A : Ar} {i : Int} (h : A.bp i) (h0 : 0 ≤ A.aD) (h1 : A.aD ≤ 1000000000) : A.aV i = A.ay 1 := by
  rw [ko h]
  unfold Ar.tick Ar.ay
  rw [aE (by omega) (by omega)]
end
section
variable {A B : Ar} {p : Pl} {w m : Int} {S : Sg} {I : List Nat} {L : aZ} {R : Value → Heap → Prop} {G : Heap} {l : Bl}
structure Oj (A : Ar) (p : Pl) (w m : Int) (S : Sg) (i v : Int) (B : Ar) : Prop where
  sl : SL B p w m S
  st : ∀ h, B.stF h = A.stF h
  nR : B.nR = A.nR
  nL : B.nL = A.nL
  fa : B.fault = A.fault
  us : B.aD = A.aD + 1
  rl : B.raw.length = A.raw.length
  rf : ∀ j, B.ao j = if j = i then v else A.ao j
theorem Kf (X : SL A p w m S) {i v : Int} (h : p.carved < i ∧ i < A.raw.length) (hu : A.aD ≤ 1000000000) : Oj A p w m S i v (A.aL i v) := by
  obtain ⟨p1, p2, p3, p4, p5⟩ := X.gP
  have wb := X.wb
  have mb := X.mb
  have us := X.F.us
  have ok : A.bp i := ⟨by omega, h.2⟩
  have e : A.aL i v = (A.ay 1).dQ i.toNat v := by
    unfold Ar.aL
    rw [if_pos ok]
    have : A.tick = A.ay 1 := by unfold Ar.tick Ar.ay; rw [aE (by omega) (by omega)]
    rw [this]
  rw [e]
  have rf : ∀ j, ((A.ay 1).dQ i.toNat v).ao j = if j = i then v else A.ao j := fun j => rO (A := A.ay 1) ok
  refine ⟨X.congr (fun j h0 h1 => by rw [rf, if_neg (by omega)]) (by show (A.raw.set _ _).length = _; rw [List.length_set]) (by show A.aD ≤ A.aD + 1; omega) rfl (fun h => c8 rfl h) rfl rfl rfl rfl rfl rfl rfl rfl, fun h => c8 rfl h, rfl, rfl, rfl, rfl, by show (A.raw.set _ _).length = _; rw [List.length_set], rf⟩
end
abbrev Tn.on (m : Tn) (fs : List Fe) : Tn := { m with frees := fs, ph := if fs = [] then 4 else 3 }
def tE (e : Int) (xs : List (Int × Int)) : List Int := (xs.filter (due e)).map Prod.fst
def BB (e : Int) (xs : List (Int × Int)) : List (Int × Int) := xs.filter fun x => !due e x
section
variable {A : Ar} {p : Pl} {w m : Int} {S : Sg}
theorem He (t : Tn) : t.sort = Tn.on { t with left := BB t.e t.l } ((tE t.e t.l).map (eR t.pl t.work)) := by
  show Tn.mk _ _ _ _ _ _ _ (((t.l.take t.l.length).filter (due t.e)).map fun x => eR t.pl t.work x.1) ((t.l.take t.l.length).filter fun x => !due t.e x) (if (((t.l.take t.l.length).filter (due t.e)).map fun x => eR t.pl t.work x.1) = [] then 4 else 3) = _
  rw [List.take_length]
  have : ((t.l.filter (due t.e)).map fun x => eR t.pl t.work x.1) = (tE t.e t.l).map (eR t.pl t.work) := by
    unfold tE; rw [List.map_map]; rfl
  rw [this]; rfl
theorem lZ {i v x : Int} (o : A.bp i) (h : A.ao i = v) : A.cC i v = true ∧ A.dE i v x = A.aL i x := by
  have h' : A.raw.getD i.toNat 0 = v := by rw [dG o]; exact h
  refine ⟨decide_eq_true ⟨o, h'⟩, ?_⟩
  unfold Ar.dE Ar.aL
  rw [if_pos o, if_pos h', if_pos o]
theorem I9 {tw ta who e : Int} (h0 : 0 ≤ ta) (b : 0 ≤ who ∧ who ≤ 1000) (h1 : ta + 1 + who < A.raw.length) (h2 : (A.raw.length : Int) ≤ 1000000) (u0 : 0 ≤ A.aD) (u1 : A.aD ≤ 900000) (he : A.ao ta = e) (eb : 0 ≤ e ∧ e ≤ 1000000) :
    ∃ m', mPn.gh 3 (ic tw ta who) A m' (((A.ay 1).aL (ta + 1 + who) (e + 1)).ay 1) := by
  have ew : ewd ta who = ta + 1 + who := zW ⟨by omega, by omega, by omega, by omega⟩
  have e3 : w64 (e + 1) = e + 1 := aE (by omega) (by omega)
  have okT : A.bp ta := ⟨h0, by omega⟩
  have okW : (A.ay 1).bp (ta + 1 + who) := ⟨by omega, h1⟩
  have s0 : mPn.step (ic tw ta who) A = (⟨tw, ta, who, e, 1⟩, A.ay 1) := by
    show Pn.step (ic tw ta who) A = _
    unfold Pn.step
    rw [if_pos (show (ic tw ta who).ph = 0 from rfl), show (ic tw ta who).ta = ta from rfl, he, fU okT u0 (by omega)]; rfl
  obtain ⟨B, hB⟩ : ∃ B, B = (A.ay 1).aL (ta + 1 + who) (e + 1) := ⟨_, rfl⟩
  have bs : B = (A.ay 2).dQ (ta + 1 + who).toNat (e + 1) := by
    rw [hB]; unfold Ar.aL
    rw [if_pos okW]
    have : (A.ay 1).tick = A.ay 2 := by unfold Ar.tick Ar.ay; dsimp only; rw [aE (by omega) (by omega), Int.add_assoc]; rfl
    rw [this]
  have bu : B.aD = A.aD + 2 := by rw [bs]; rfl
  have bl : B.raw.length = A.raw.length := by rw [bs]; show (A.raw.set _ _).length = _; rw [List.length_set]
  have be : B.ao ta = e := by
    rw [bs, rO (A := A.ay 2) (i := ta + 1 + who) okW, if_neg (by omega)]; exact he
  have s1 : mPn.step ⟨tw, ta, who, e, 1⟩ (A.ay 1) = (⟨tw, ta, who, e, 2⟩, B) := by
    show Pn.step ⟨tw, ta, who, e, 1⟩ (A.ay 1) = _
    unfold Pn.step
    rw [if_neg (show ¬ 1 = 0 by decide), if_pos rfl]
    dsimp only
    rw [ew, e3, ← hB]
  have s2 : mPn.step ⟨tw, ta, who, e, 2⟩ B = (⟨tw, ta, who, e, 3⟩, B.ay 1) := by
    show Pn.step ⟨tw, ta, who, e, 2⟩ B = _
    unfold Pn.step
    rw [if_neg (show ¬ 2 = 0 by decide), if_neg (show ¬ 2 = 1 by decide), if_pos rfl]
    dsimp only
    rw [be, if_pos rfl, fU ⟨h0, by rw [bl]; omega⟩ (by omega) (by omega)]
  refine ⟨⟨tw, ta, who, e, 3⟩, ?_⟩
  rw [← hB]
  have r2 : mPn.gh 1 ⟨tw, ta, who, e, 2⟩ B ⟨tw, ta, who, e, 3⟩ (B.ay 1) := Mch.gh.last (by show 2 ≤ 3; omega) s2 (by show B.aD + 1 ≤ _; rw [bu, aE (by omega) (by omega)]; omega) rfl
  have p1 : mPn.Path 2 (ic tw ta who) A ⟨tw, ta, who, e, 2⟩ B := .cons (by show 0 ≤ 3; omega) s0 (by show A.aD + 1 ≤ _; rw [aE (by omega) (by omega)]; omega) rfl
    (.cons (by show 1 ≤ 3; omega) s1 (by rw [bu]; show A.aD + 2 ≤ w64 (A.aD + 1 + 1); rw [aE (by omega) (by omega)]; omega) rfl .nil)
  exact p1.run r2
end
def fC (p : Pl) : List Value := [.int .i64 p.work, .int .i64 p.heads, .int .i64 p.links, .int .i64 p.gens, .int .i64 p.carved]
theorem KN (a : Addr) : opS Tryz.prog (.binOp .eql gT (.tmp 0) (.const (.pointer none)) gT) aO [(.pointer (some a))] = .pure (.value (.bool false)) := by kernel_rfl
section
variable {L : aZ} {R : Value → Heap → Prop} {H : Heap}
end
def bm {α : Type} (f : Nat → α) (w : Nat) (a : α) : Nat → α := fun j => if j = w then a else f j
theorem bf {α : Type} (f : Nat → α) (w : Nat) (a : α) : bm f w a w = a := if_pos rfl
theorem bB {α : Type} (f : Nat → α) {w j : Nat} (a : α) (h : j ≠ w) : bm f w a j = f j := if_neg h
theorem ve {α : Type} {n : Nat} {g : α → Value} {f : Nat → α} {i : Nat} {a : α} : (l3 n fun j => if j = i then g a else g (f j)) = l3 n fun j => g (bm f i a j) := by
  congr 1
  funext j
  unfold bm
  split <;> rfl
def eG {β : Type} (f : Nat → List β) : Nat → List β
  | 0 => []
  | n + 1 => eG f n ++ f n
def fD {β : Type} (f : Nat → List β) (w : Nat) : Nat → List β
  | 0 => []
  | n + 1 => fD f w n ++ (if n = w then [] else f n)
theorem Gi {β : Type} (f : Nat → List β) (w : Nat) : ∀ n, n ≤ w → fD f w n = eG f n
  | 0, _ => rfl
  | n + 1, h => by show fD f w n ++ _ = eG f n ++ _; rw [Gi f w n (by omega), if_neg (by omega)]
theorem qn {β : Type} {c : List β → Nat} (c0 : c [] = 0) (ca : ∀ a b, c (a ++ b) = c a + c b) (f : Nat → List β) {w : Nat} : ∀ {n : Nat}, w < n → c (eG f n) = c (f w) + c (fD f w n)
  | 0, h => by omega
  | n + 1, h => by
    show c (eG f n ++ f n) = _ + c (fD f w n ++ _)
    rw [ca, ca]
    by_cases e : n = w
    · rw [if_pos e, c0, ← e, Gi f n n (Nat.le_refl _)]; omega
    · rw [if_neg e, qn c0 ca f (w := w) (n := n) (by omega)]; omega
theorem wD {β : Type} {f g : Nat → List β} {w : Nat} (h : ∀ j, j ≠ w → f j = g j) : ∀ n, fD f w n = fD g w n
  | 0 => rfl
  | n + 1 => by
    show fD f w n ++ _ = fD g w n ++ _
    rw [wD h n]
    by_cases e : n = w
    · rw [if_pos e, if_pos e]
    · rw [if_neg e, if_neg e, h n e]
theorem H8 {α β : Type} (b : α → List β) (f : Nat → α) (w : Nat) (a : α) (n : Nat) : fD (fun j => b (bm f w a j)) w n = fD (fun j => b (f j)) w n :=
  wD (fun j h => by rw [bB f a h]) n
theorem EO {α β : Type} {c : List β → Nat} (c0 : c [] = 0) (ca : ∀ a b, c (a ++ b) = c a + c b) (b : α → List β) (f : Nat → α) {w n : Nat} (a : α) (h : w < n) : c (eG (fun j => b (bm f w a j)) n) = c (b a) + c (fD (fun j => b (f j)) w n) := by
  rw [qn c0 ca _ h, H8, bf]
theorem C4 {β : Type} {f : Nat → List β} {x : β} : ∀ {n : Nat}, x ∈ eG f n ↔ ∃ i, i < n ∧ x ∈ f i
  | 0 => by constructor
            · intro h; cases h
            · rintro ⟨i, h, _⟩; omega
  | n + 1 => by
    show x ∈ eG f n ++ f n ↔ _
    rw [List.mem_append, C4 (n := n)]
    constructor
    · rintro (⟨i, h1, h2⟩ | h1)
      · exact ⟨i, by omega, h2⟩
      · exact ⟨n, by omega, h1⟩
    · rintro ⟨i, h1, h2⟩
      by_cases e : i = n
      · subst e; exact .inr h2
      · exact .inl ⟨i, by omega, h2⟩
end Go.Proofs.YtjnacjniiogjcaaGreat
