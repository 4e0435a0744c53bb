import Derived.Test.YtgnifhkjpekkdaaSaCFree3
set_option linter.unusedVariables false
set_option maxRecDepth 20000
namespace Go.Proofs.Ytgnifhkjpekkdaa
open Go Go.Fw

/-- What a list has, told by its words. -/
def chain (A : Ar) (lk : Int) : Int → List Int → Prop
  | f, [] => f = 0
  | f, b :: l => 0 < f ∧ f ≤ 1000000 ∧ b = (f - 1) * 8 ∧ A.rawOk (lk + f - 1) ∧ chain A lk (A.rawF (lk + f - 1)) l

theorem rawF_congr {A B : Ar} (h : B.raw = A.raw) (i : Int) : B.rawF i = A.rawF i := by
  unfold Ar.rawF
  by_cases hi : A.rawOk i
  · have hb : B.rawOk i := by unfold Ar.rawOk at *; rw [h]; exact hi
    rw [if_pos hi, if_pos hb, h]
  · have hb : ¬ B.rawOk i := by unfold Ar.rawOk at *; rw [h]; exact hi
    rw [if_neg hi, if_neg hb]

theorem chain_raw {A B : Ar} (h : B.raw = A.raw) (lk : Int) : ∀ (l : List Int) (f : Int), chain A lk f l → chain B lk f l
  | [], f, hc => hc
  | b :: l, f, hc => by
    have e := rawF_congr h (lk + f - 1)
    exact ⟨hc.1, hc.2.1, hc.2.2.1, by have := hc.2.2.2.1; unfold Ar.rawOk at *; rw [h]; exact this, by rw [e]; exact chain_raw h lk l _ hc.2.2.2.2⟩

def Ar.later (A : Ar) (n : Int) : Ar := { A with uses := A.uses + n }
theorem later_wf {A : Ar} (hA : A.wf) (n : Int) : (A.later n).wf := ⟨hA.nd, hA.fit, hA.busy, hA.carved, hA.words, hA.raw, hA.wC, hA.wL, hA.wR, hA.wF⟩
theorem later_alike (A : Ar) (n : Int) : Ar.Alike A (A.later n) := ⟨rfl, rfl, rfl, rfl, rfl, rfl, rfl⟩

theorem Raw_later {A : Ar} (hA : A.wf) {i n : Int} (hi : A.rawOk i) (hn : -9000000000000000000 ≤ A.uses + n ∧ A.uses + n ≤ 9000000000000000000) {p : Value} (hp : p = pA A) (H : Heap) :
    Det Try.prog f_arena_Arena_Raw [p, .int .i64 i] ((A.later n).put H) (.int .i64 (A.rawF i)) ((A.later (n + 1)).put H) := by
  have h := Raw_det (later_wf hA n) i H
  have e : (A.later n).touchR i = A.later (n + 1) := by
    rw [touchR_yes (A := A.later n) hi]
    unfold Ar.tick Ar.later
    simp only [Ar.mk.injEq, true_and]
    rw [w64_in (by omega) (by omega)]; omega
  rw [e] at h
  rw [hp]; exact h

/-- A loop with a slice and a number. -/
theorem wp_loop_si {L : Hands} {H : Heap} {R : Value → Heap → Prop} {n : Nat} {init : List Value} {body : HL Sh1.T [.leaf .slice, .leaf (.int .i64)] → Tree} (I : Sl → Int → Heap → Prop) (m : Sl → Int → Nat) (s0 : Sl) (i0 : Int) (hi : I s0 i0 H)
    (hstep : ∀ (s : Sl) (i : Int) H', I s i H' → wp Try.prog (body (s, i, ())) (L.set n fun vals H'' => ∃ (t : Sl) (j : Int), vals = [.slice t.a t.len t.cap, .int .i64 j] ∧ I t j H'' ∧ m t j < m s i) H' R) (h0 : init = [.slice s0.a s0.len s0.cap, .int .i64 i0] := by rfl) :
    wp Try.prog (.loop n [.leaf .slice, .leaf (.int .i64)] init body) L H R := by
  refine wp_loop_inv (fun x K => I x.1 x.2.1 K) (fun x _ => m x.1 x.2.1) (s0, i0, ()) h0 hi ?_
  rintro ⟨s, i, u⟩ K hI
  refine Go.Fw.wp_mono _ (hstep s i K hI) (fun k vals H'' hk => ?_) (fun _ _ h => h)
  unfold Hands.set at *
  split at hk
  · rename_i e; rw [if_pos e]; obtain ⟨s, j, h1, h2, h3⟩ := hk; exact ⟨(s, j, ()), h1, h2, h3⟩
  · rename_i e; rw [if_neg e]; exact hk

theorem List_spec {A : Ar} (hA : A.wf) (p : Pl) (w c : Int) {hd : Int} (hh : headF p w c = hd) (ho : A.rawOk hd) {xs : List Int} (hc : chain A p.links (iand (A.rawF hd) 131071) xs) (hl : xs.length < 10000)
    (hlk : -1000000 ≤ p.links ∧ p.links ≤ 1000000) (hu : 0 ≤ A.uses ∧ A.uses ≤ 1000000000) {pv : Option Addr} (hp : .pointer pv = pA A) (H : Heap) :
    SpecF Try.prog f_free_List #[.pointer pv, p.val, .int .i64 w, .int .i64 c] (A.put H) fun v K => ∃ (s : Sl) (G : Heap), v = .slice s.a s.len s.cap ∧ K = (A.later (1 + xs.length)).put G ∧ H.le G ∧ IsSl G s xs ∧ (∀ b, s.a = some ⟨b, 0, none⟩ → b ∉ A.ids ∧ H b = none) := by
  refine t_free_List_spec (p1_0 := p.work) (p1_1 := p.heads) (p1_2 := p.links) (p1_3 := p.gens) (p1_4 := p.carved) fun L => ?_
  unfold t_free_List
  refine wp_newP fun e he => ?_
  obtain ⟨e1, e2⟩ := Ar.put_none he
  have h0 : A.put (H.set e (.cells p.cells ty_free_Place (0, 0))) = (A.later 0).put (H.set e (.cells p.cells ty_free_Place (0, 0))) := by unfold Ar.later; rw [Int.add_zero]
  refine wp_heap ((Ar.put_set _ e1).trans h0) ?_
  have hput : ∀ (B : Ar) G, Ar.Alike A B → (H.set e (.cells p.cells ty_free_Place (0, 0))).le G → (B.put G) e = some (.cells p.cells ty_free_Place (0, 0)) := fun B G hB hG => by
    rw [Ar.put_out (by rw [hB.ids]; exact e1)]; exact hG _ _ (Heap.set_same _ _ _)
  refine wp_pl (p := p) (hput (A.later 0) _ (later_alike A 0) (Heap.le_refl _)) ?_
  refine wp_qcall_det (head_det p w c _) ?_
  rw [hh]
  refine wp_call_det (x := A.rawF hd) (Raw_later (n := 0) hA ho (by omega) hp _) ?_
  refine wp_loop_si (fun s f K => ∃ (don todo : List Int) (G : Heap), xs = don ++ todo ∧ chain A p.links f todo ∧ IsSl G s don ∧ (H.set e (.cells p.cells ty_free_Place (0, 0))).le G ∧ (∀ b, s.a = some ⟨b, 0, none⟩ → b ∉ A.ids ∧ H b = none ∧ b ≠ e) ∧
    K = (A.later (1 + don.length)).put G) (fun s _ => xs.length - s.len) ⟨none, 0, 0⟩ (iand (A.rawF hd) 131071) ⟨[], xs, _, rfl, hc, .nil _, Heap.le_refl _, (fun b hb => by cases hb), rfl⟩ ?_
  rintro s f K ⟨don, todo, G, hx, hch, hs, hG, hb, rfl⟩
  rw [t_free_List_L1]
  cases todo with
  | nil =>
    have hf : f = 0 := hch
    refine wp_false (decide_eq_false (by show ¬ f > 0; omega)) ?_
    rw [List.append_nil] at hx
    refine wp_ret_of ⟨s, G, rfl, by rw [hx], Heap.le_trans (Heap.le_set_new _ e2) hG, by rw [hx]; exact hs, fun b h => ⟨(hb b h).1, (hb b h).2.1⟩⟩
  | cons b0 l =>
    obtain ⟨f0, f1, hb0, hok, hch⟩ := hch
    have hxl : don.length + (l.length + 1) = xs.length := by rw [hx]; simp
    have hslen : s.len = don.length := hs.len
    refine wp_true (decide_eq_true (by exact f0)) ?_
    have hlt : ((s.len : Nat) : Int) < 10000 := by omega
    dsimp only
    rw [decide_eq_true hlt]
    refine wp_true rfl ?_
    have ev : w64 (w64 (f - 1) * 8) = b0 := by rw [w64_in (x := f - 1) (by omega) (by omega), w64_in (by omega) (by omega), hb0]
    show wp Try.prog (.newS (.cells #[.int .i64 (w64 (w64 (f - 1) * 8))] ty_int) 1 _) _ _ _
    rw [ev]
    have hsA : IsSl ((A.later (1 + don.length)).put G) s don := by
      rcases hs with h | ⟨b, rest, h1, h2⟩
      · exact .inl h
      · refine .inr ⟨b, rest, h1, ?_⟩
        rw [Ar.put_out (A := A.later _) (hb b (by rw [h1])).1]; exact h2
    refine wp_append_int hsA (by omega) fun q b rest hq hbq => ?_
    obtain ⟨q1, q2⟩ := Ar.put_none (A := A.later (1 + don.length)) hq
    have hbi : b ∉ A.ids ∧ H b = none ∧ b ≠ e := by
      rcases hbq.2 with h | h
      · obtain ⟨b1, b2⟩ := Ar.put_none (A := A.later (1 + don.length)) h
        have hHb : (H.set e (.cells p.cells ty_free_Place (0, 0))) b = none := by
          cases hc : (H.set e (.cells p.cells ty_free_Place (0, 0))) b with
          | none => rfl
          | some o => rw [hG _ _ hc] at b2; cases b2
        obtain ⟨b3, b4⟩ := set_none hHb
        exact ⟨b1, b4, b3⟩
      · exact hb b h
    rw [Ar.put_set (A := A.later (1 + don.length)) _ q1, Ar.put_set (A := A.later (1 + don.length)) _ hbi.1]
    have hqH : (H.set e (.cells p.cells ty_free_Place (0, 0))) q = none := by
      cases hc : (H.set e (.cells p.cells ty_free_Place (0, 0))) q with
      | none => rfl
      | some o => rw [hG _ _ hc] at q2; cases q2
    have hG2 : (H.set e (.cells p.cells ty_free_Place (0, 0))).le ((G.set q (.cells #[.int .i64 b0] ty_int (0, 0))).set b (.cells (ints (don ++ [b0]) ++ rest) ty_int (0, 0))) := by
      intro y o hy
      by_cases y1 : y = b
      · rw [y1, Heap.set_ne _ _ hbi.2.2, hbi.2.1] at hy; cases hy
      · rw [Heap.set_ne _ _ y1]
        by_cases y2 : y = q
        · rw [y2, hqH] at hy; cases hy
        · rw [Heap.set_ne _ _ y2]; exact hG _ _ hy
    refine wp_ld_of (x := p.links) (by
      have := Heap.cell_of (hput _ _ (later_alike A (1 + don.length)) hG2) 2
      exact this.trans rfl) ?_
    have ei : w64 (w64 (p.links + f) - 1) = p.links + f - 1 := by rw [w64_in (x := p.links + f) (by omega) (by omega), w64_in (by omega) (by omega)]
    refine wp_call_det (x := A.rawF (p.links + f - 1)) (by
      show Det _ _ [_, .int .i64 (w64 (w64 (p.links + f) - 1))] _ _ _
      rw [ei]; exact Raw_later hA hok (by omega) hp _) ?_
    refine wp_again ⟨⟨some ⟨b, 0, none⟩, (don ++ [b0]).length, (don ++ [b0]).length + rest.size⟩, A.rawF (p.links + f - 1), rfl, ⟨don ++ [b0], l, _, by rw [hx]; simp, hch, .inr ⟨b, rest, rfl, Heap.set_same _ _ _⟩, hG2, ?_, ?_⟩, ?_⟩
    · intro b' hb'
      have : b' = b := by simpa using hb'.symm
      rw [this]; exact hbi
    · congr 1; unfold Ar.later; simp; omega
    · show xs.length - (don ++ [b0]).length < xs.length - s.len
      simp; omega
end Go.Proofs.Ytgnifhkjpekkdaa
