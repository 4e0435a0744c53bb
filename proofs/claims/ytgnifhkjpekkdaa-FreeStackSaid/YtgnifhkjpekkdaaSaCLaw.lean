import Derived.Test.YtgnifhkjpekkdaaSaCOwnS
import Derived.Test.YtgnifhkjpekkdaaSaPFl
set_option linter.unusedVariables false
set_option maxRecDepth 20000
namespace Go.Proofs.Ytgnifhkjpekkdaa
open Go Go.Fw

/-! ### What laws use: before there is an arena, and at the end -/

structure Ok0 (G : Heap) (ks : List Nat) : Prop where
  nd : ks.Nodup
  no : ∀ b ∈ ks, G b = none

section
variable {L : Hands} {R : Value → Heap → Prop} {l : Bl} {G : Heap}

theorem p_new (ok : Ok0 G (keys l)) {b : Nat} (h : putL l G b = none) (o : Obj) : Ok0 G (keys ((b, o) :: l)) := by
  obtain ⟨h1, h2⟩ := putL_none h
  refine ⟨?_, ?_⟩
  · simp only [keys, List.map_cons, List.nodup_cons]; exact ⟨h1, ok.nd⟩
  · intro c hc
    simp only [keys, List.map_cons, List.mem_cons] at hc
    rcases hc with rfl | hc
    · exact h2
    · exact ok.no c hc

theorem p_newP {c : List Value} {T : TypeId} {k : Addr → Tree} (ok : Ok0 G (keys l)) (h : ∀ b, Ok0 G (keys ((b, oc T c) :: l)) → wp Try.prog (k ⟨b, 0, none⟩) L (putL ((b, oc T c) :: l) G) R) :
    wp Try.prog (.newP (.cells c.toArray T) k) L (putL l G) R := wp_newP fun b hb => h b (p_new ok hb _)
theorem p_stA (i : Nat) {a : Addr} {b n : Nat} {T : TypeId} {c : List Value} {vs : List Value} {k : Tree} (ok : Ok0 G (keys l)) (ha : a = ⟨b, n, none⟩) (hi : l[i]? = some (b, oc T c)) (hs : vs.all Value.single = true) (hn : (decide (n + vs.length ≤ c.length)) = true)
    (h : wp Try.prog k L (putL (l.set i (b, oc T (setAll c n vs))) G) R) : wp Try.prog (.stA a vs k) L (putL l G) R := by
  subst ha
  have hn := of_decide_eq_true hn
  refine wp_stA_of (putL_get G ok.nd hi) (by simpa using hn) (fun v hv => List.all_eq_true.1 hs v hv) ?_
  rw [putL_set G ok.nd hi, setAll_put]; exact h
theorem p_st (i : Nat) {a : Addr} {b n : Nat} {T : TypeId} {c : List Value} {v : Value} {k : Tree} (ok : Ok0 G (keys l)) (ha : a = ⟨b, n, none⟩) (hi : l[i]? = some (b, oc T c)) (hs : Value.single v = true) (hn : (decide (n < c.length)) = true)
    (h : wp Try.prog k L (putL (l.set i (b, oc T (c.set n v))) G) R) : wp Try.prog (.st a v k) L (putL l G) R := by
  subst ha
  have hn := of_decide_eq_true hn
  refine wp_st_of (u := c[n]) (putL_get G ok.nd hi) (by simp [hn]) hs ?_
  rw [putL_set G ok.nd hi]
  have : (c.toArray.setIfInBounds n v) = (c.set n v).toArray := by simp
  rw [this]; exact h
theorem p_ldA (i : Nat) {a : Addr} {b n : Nat} {T : TypeId} {c : List Value} {ls : List Leaf} {k : HL Leaf.T ls → Tree} {x : HL Leaf.T ls} (ok : Ok0 G (keys l)) (ha : a = ⟨b, n, none⟩) (hi : l[i]? = some (b, oc T c)) (hx : Lf.decs ls (c.drop n) = some x)
    (h : wp Try.prog (k x) L (putL l G) R) (hn : decide (n ≤ c.length) = true := by rfl) : wp Try.prog (.ldA a ls k) L (putL l G) R := by
  subst ha
  have hn := of_decide_eq_true hn
  obtain ⟨h1, h2⟩ := Lf.decs_ok hx
  rw [List.length_drop] at h1
  refine wp_ldA_of (x := x) (putL_get G ok.nd hi) (by simp; omega) ?_ h
  rw [← h2]; simp [List.extract_eq_take_drop]
theorem p_ld (i : Nat) {a : Addr} {b n : Nat} {T : TypeId} {c : List Value} {lf : Leaf} {k : lf.T → Tree} {x : lf.T} (ok : Ok0 G (keys l)) (ha : a = ⟨b, n, none⟩) (hi : l[i]? = some (b, oc T c)) (hx : (c[n]?).bind (Lf.dec lf) = some x)
    (h : wp Try.prog (k x) L (putL l G) R) : wp Try.prog (.ld a lf k) L (putL l G) R := by
  subst ha
  refine wp_ld_of (x := x) ?_ h
  rw [Heap.cell_of (putL_get G ok.nd hi), List.getElem?_toArray]
  cases hc : c[n]? with
  | none => rw [hc] at hx; cases hx
  | some v => rw [hc] at hx; exact congrArg some (Lf.dec_ok hx)

/-- An arena is made. -/
theorem w_New {n m : Int} {f : Bool} {k : Option Addr → Tree} (ok : Ok0 G (keys l)) (h0 : 0 ≤ n ∧ n ≤ 65536) (h1 : 0 ≤ m ∧ m ≤ 65536)
    (h : ∀ A : Ar, A.made n.toNat m.toNat f → Aw A.ids A → (∀ x ∈ A.ids, G x = none) → Ok A.ids G (keys l) → wp Try.prog (k (aI A.ids)) L (own A l G) R) :
    wp Try.prog (.call f_arena_New [.int .i64 n, .int .i64 m, .bool f] (.one (.leaf .ptr)) k) L (putL l G) R := by
  refine wp_call_of (New_spec n m f _ h0 h1) ?_
  rintro v K ⟨A, hm, hi, rfl, rfl⟩
  refine ⟨aI A.ids, rfl, ?_⟩
  refine h A hm ⟨made_wf hm (by omega) (by omega), rfl⟩ (fun x hx => (putL_none (hi x hx)).2) ⟨ok.nd, fun b hb hx => ?_, ok.no⟩
  exact (putL_none (hi b hx)).1 hb

theorem own_end {A : Ar} {I : List Nat} (hA : Aw I A) (ok : Ok I G (keys l)) (hI : ∀ x ∈ I, G x = none) : G.le (own A l G) := by
  intro b o hb
  unfold own
  rw [Ar.put_out, putL_out]
  · exact hb
  · intro h; rw [ok.no b h] at hb; cases hb
  · intro h; rw [hA.ids] at h; rw [hI b h] at hb; cases hb

theorem nn_some {t u : TypeId} (a : Addr) (h : opS Try.prog (.binOp .eql t (.tmp 0) (.const (.pointer none)) t) u [(.pointer (some a))] = .pure (.value (.bool false))) {k : Bool → Tree} {H : Heap} (hk : wp Try.prog (k false) L H R) :
    wp Try.prog (.look (opS Try.prog (.binOp .eql t (.tmp 0) (.const (.pointer none)) t) u [(.pointer (some a))]) (.one (.leaf .bool)) k) L H R := look_val (x := false) h hk

theorem wp_again_up {H : Heap} {n m : Nat} {vals : List Value} {C : List Value → Heap → Prop} (hn : n ≠ m) (h : wp Try.prog (.again n vals) L H R) : wp Try.prog (.again n vals) (L.set m C) H R := by
  show (L.set m C) n vals H
  unfold Hands.set; rw [if_neg hn]; exact h

/-- Rows of a length that does not change. -/
def arrC {α : Type} (n : Nat) (f : Nat → α) : List α := (List.range n).map f
theorem arrC_len {α : Type} (n : Nat) (f : Nat → α) : (arrC n f).length = n := by simp [arrC]
theorem arrC_get {α : Type} {n : Nat} {f : Nat → α} {i : Nat} (h : i < n) : (arrC n f)[i]? = some (f i) := by simp [arrC, h]
theorem arrC_set {α : Type} {n : Nat} {f : Nat → α} {i : Nat} {v : α} : (arrC n f).set i v = arrC n fun j => if j = i then v else f j := by
  apply List.ext_getElem?
  intro j
  rw [List.getElem?_set]
  by_cases hj : j < n
  · split
    · rename_i e; subst e; rw [arrC_len, if_pos hj, arrC_get hj, if_pos rfl]
    · rename_i e; rw [arrC_get hj, arrC_get hj, if_neg (fun h => e h.symm)]
  · have : ∀ g : Nat → α, (arrC n g)[j]? = none := fun g => by simp [arrC]; omega
    rw [this, this]
    split
    · rename_i e; rw [if_neg (by rw [arrC_len]; omega)]
    · rfl

/-- A cell of a row, by its number. -/
theorem w_ix {A : Ar} {t e u : TypeId} {n b o : Nat} {i : Int} {info : TypeInfo} {k : Addr → Tree} (hu : Try.prog.underlying t = some (.array n e)) (hi : Try.prog.info? e = some info) (hs : info.size = 1) (h0 : 0 ≤ i) (h1 : i < n) {H : Heap}
    (h : wp Try.prog (k ⟨b, o + i.toNat, none⟩) L H R) : wp Try.prog (.look (opS Try.prog (.indexAddr t (.tmp 0) (.tmp 1)) u [.pointer (some ⟨b, o, none⟩), .int .i64 i]) (.one (.leaf .addr)) k) L H R :=
  look_val (x := ⟨b, o + i.toNat, none⟩) (by
    rw [opS_idx hu hi h0 h1, Addr.add_mk, hs, Nat.mul_one]) h
theorem w_ixS {t e u : TypeId} {len cap b o : Nat} {i : Int} {info : TypeInfo} {k : Addr → Tree} (hu : Try.prog.underlying t = some (.slice e)) (hi : Try.prog.info? e = some info) (hs : info.size = 1) (h0 : 0 ≤ i) (h1 : i < (len : Int)) {H : Heap}
    (h : wp Try.prog (k ⟨b, o + i.toNat, none⟩) L H R) : wp Try.prog (.look (opS Try.prog (.indexAddr t (.tmp 0) (.tmp 1)) u [.slice (some ⟨b, o, none⟩) len cap, .int .i64 i]) (.one (.leaf .addr)) k) L H R :=
  look_val (x := ⟨b, o + i.toNat, none⟩) (by
    rw [opS_idxS hu hi h0 h1, Addr.add_mk, hs, Nat.mul_one]) h

theorem w_ldm {A : Ar} {I : List Nat} {a : Addr} {b n : Nat} {T : TypeId} {c : List Value} {lf : Leaf} {k : lf.T → Tree} {x : lf.T} (hA : Aw I A) (ok : Ok I G (keys l)) (ha : a = ⟨b, n, none⟩) (hi : (b, oc T c) ∈ l) (hx : (c[n]?).bind (Lf.dec lf) = some x)
    (h : wp Try.prog (k x) L (own A l G) R) : wp Try.prog (.ld a lf k) L (own A l G) R := by
  obtain ⟨i, hi⟩ := mem_idx hi
  exact w_ld i hA ok ha hi hx h

/-- An element of a slice of numbers. -/
theorem w_rdI {A : Ar} {I : List Nat} {s : Sl} {xs : List Int} {i : Int} {u : TypeId} {k : Int → Tree} (hA : Aw I A) (ok : Ok I G (keys l)) (hs : SlOf l ty_int eI s xs) (h0 : 0 ≤ i) (h1 : i < xs.length) (h : wp Try.prog (k (xs.getD i.toNat 0)) L (own A l G) R) :
    wp Try.prog (.look (opS Try.prog (.indexAddr ty_s_int (.tmp 0) (.tmp 1)) u [.slice s.a s.len s.cap, .int .i64 i]) (.one (.leaf .addr)) fun x => .ld x (.int .i64) k) L (own A l G) R := by
  rcases hs with ⟨rfl, rfl⟩ | ⟨b, rest, r, rfl, h2, h3⟩
  · have : (([] : List Int).length : Int) = 0 := rfl
    omega
  · refine w_ixS (e := ty_int) rfl rfl rfl h0 h1 ?_
    refine w_ldm (x := xs.getD i.toNat 0) hA ok rfl h3 ?_ h
    have hl : i.toNat < xs.length := by omega
    rw [Nat.zero_add, eI_all, List.getElem?_append_left (by simpa using hl), List.getElem?_map, List.getElem?_eq_getElem hl]
    show some _ = _
    rw [List.getD_eq_getElem?_getD, List.getElem?_eq_getElem hl]; rfl

theorem w_Place {H : Heap} {v n : Int} {k : Int → Tree} (hn : 0 < n) (hn2 : n ≤ 4611686018427387904) (h : wp Try.prog (k (v % n)) L H R) : wp Try.prog (.qcall f_magpielaw00_Place [.int .i64 v, .int .i64 n] (.one (.leaf (.int .i64))) k) L H R := wp_qcall_det (x := v % n) (Place_det v n hn hn2 _) h
theorem w_Raw5 {H : Heap} {w m : Int} {k : HL Sh1.T [(.agg [(.int .i64), (.int .i64), (.int .i64), (.int .i64), (.int .i64)]), (.leaf (.int .i64))] → Tree} (b1 : 0 ≤ w ∧ w ≤ 100000) (b2 : 0 ≤ m ∧ m ≤ 100000)
    (h : wp Try.prog (k (((plOf w m).work, (plOf w m).heads, (plOf w m).links, (plOf w m).gens, (plOf w m).carved, ()), 4 * w + 2 * ((m + 7) / 8) + 1, ())) L H R) :
    wp Try.prog (.call f_free_Raw [.int .i64 w, .int .i64 m] (.tup [(.agg [(.int .i64), (.int .i64), (.int .i64), (.int .i64), (.int .i64)]), (.leaf (.int .i64))]) k) L H R := by
  refine wp_call_det (x := (((plOf w m).work, (plOf w m).heads, (plOf w m).links, (plOf w m).gens, (plOf w m).carved, ()), 4 * w + 2 * ((m + 7) / 8) + 1, ())) (Raw5_det w m w m ?_ ?_ b1 b2 H) h
  · unfold imax; rw [if_neg (by omega)]
  · unfold imax; rw [if_neg (by omega)]

theorem later_aw {A : Ar} {I : List Nat} (hA : Aw I A) (n : Int) : Aw I (A.later n) := hA.of (later_alike A n) (later_wf hA.wf n)

/-- A list's bases. -/
theorem w_List {A : Ar} {I : List Nat} {p : Pl} {w c : Int} {xs : List Int} {k : Sl → Tree} (hA : Aw I A) (ok : Ok I G (keys l)) {hd : Int} (hh : headF p w c = hd) (ho : A.rawOk hd) (hc : chain A p.links (iand (A.rawF hd) 131071) xs) (hl : xs.length < 10000)
    (hlk : -1000000 ≤ p.links ∧ p.links ≤ 1000000) (hu : 0 ≤ A.uses ∧ A.uses ≤ 1000000000)
    (h : ∀ s tl, SlOf tl ty_int eI s xs → Ok I G (keys (l ++ tl)) → Aw I (A.later (1 + xs.length)) → wp Try.prog (k s) L (own (A.later (1 + xs.length)) (l ++ tl) G) R) :
    wp Try.prog (.call f_free_List [.pointer (aI I), p.val, .int .i64 w, .int .i64 c] (.one (.leaf .slice)) k) L (own A l G) R := by
  have hA' := later_aw hA (1 + xs.length)
  refine wp_call_of (SpecF.less (R' := fun v K => ∃ s tl, SlOf tl ty_int eI s xs ∧ Ok I G (keys (l ++ tl)) ∧ v = .slice s.a s.len s.cap ∧ K = own (A.later (1 + xs.length)) (l ++ tl) G) (List_spec hA.wf p w c hh ho hc hl hlk hu hA.pA (putL l G)) ?_) ?_
  · rintro v K ⟨s, G', rfl, rfl, hle, hs, hb⟩
    rcases hs with ⟨rfl, rfl⟩ | ⟨b, rest, rfl, hg⟩
    · refine ⟨own (A.later _) (l ++ []) G, ?_, ⟨none, 0, 0⟩, [], .inl ⟨rfl, rfl⟩, by rw [List.append_nil]; exact ok, rfl, rfl⟩
      rw [List.append_nil]
      exact Ar.put_le hle
    · obtain ⟨b1, b2⟩ := hb b rfl
      obtain ⟨b3, b4⟩ := putL_none b2
      have okb : Ok I G (keys ((b, oc ty_int (eI.all xs ++ rest.toList)) :: l)) := by
        refine ⟨?_, ?_, ?_⟩
        · simp only [keys, List.map_cons, List.nodup_cons]; exact ⟨b3, ok.nd⟩
        · intro x hx
          simp only [keys, List.map_cons, List.mem_cons] at hx
          rcases hx with rfl | hx
          · rw [hA.ids] at b1; exact b1
          · exact ok.out x hx
        · intro x hx
          simp only [keys, List.map_cons, List.mem_cons] at hx
          rcases hx with rfl | hx
          · exact b4
          · exact ok.no x hx
      have okb' : Ok I G (keys ((b, oc ty_int (eI.all xs ++ rest.toList)) :: (l ++ []))) := by rw [List.append_nil]; exact okb
      obtain ⟨m1, m2⟩ := own_mid (A := A.later (1 + xs.length)) okb'
      rw [List.append_nil] at m1
      refine ⟨own (A.later (1 + xs.length)) (l ++ [(b, oc ty_int (eI.all xs ++ rest.toList))]) G, ?_, ⟨some ⟨b, 0, none⟩, xs.length, xs.length + rest.size⟩, _, .inr ⟨b, rest.toList, rest.size, rfl, ?_, List.mem_cons_self⟩, m2, rfl, rfl⟩
      · rw [← m1]
        show (Ar.put _ ((putL l G).set b (oc ty_int (eI.all xs ++ rest.toList)))).le _
        refine Ar.put_le fun x o hx => ?_
        by_cases e : x = b
        · subst e
          rw [Heap.set_same] at hx
          rw [hg, ← hx, eI_all]
          unfold oc ints
          congr 2
          apply Array.ext'; simp
        · rw [Heap.set_ne _ _ e] at hx; exact hle x o hx
      · show _ = rest.size * 1
        simp
  · rintro v K ⟨s, tl, hs, ok', rfl, rfl⟩
    exact ⟨s, rfl, h s tl hs ok' hA'⟩
end
end Go.Proofs.Ytgnifhkjpekkdaa
