/- Texts of this claim, one behind the other. -/
import Derived.Test.YtcjhakdopnamoaaCWFrameBoth2
set_option linter.unusedSimpArgs false
set_option linter.unusedVariables false
set_option linter.unusedVariables false
set_option linter.unusedSimpArgs false
set_option maxRecDepth 20000
namespace Go.Proofs.Ytcjhakdopnamoaa
open Go Go.Fw

theorem eL_set (rest : List Value) (v : Int) : ∀ (xs : List (Int × Int)) (n : Nat), n < xs.length → (eL.all xs ++ rest).set (n * 2 + 1) (.int .i64 v) = eL.all (xs.set n ((xs.getD n (0, 0)).1, v)) ++ rest
  | [], n, h => by simp at h
  | x :: xs, 0, _ => rfl
  | x :: xs, n + 1, h => by
    have ih := eL_set rest v xs n (by simpa using h)
    show (Value.int .i64 x.1 :: .int .i64 x.2 :: (eL.all xs ++ rest)).set ((n + 1) * 2 + 1) _ = .int .i64 x.1 :: .int .i64 x.2 :: (eL.all (xs.set n ((xs.getD n (0, 0)).1, v)) ++ rest)
    rw [← ih, show (n + 1) * 2 + 1 = (n * 2 + 1) + 1 + 1 by omega]
    rfl
theorem leC_same : ∀ {e : List LE} {y : LE}, (leGet e y.k).xs ≠ [] → y.s = (leGet e y.k).s → leC (lePut e y) = leC e
  | [], y, h, _ => (h rfl).elim
  | x :: e, y, h, hs => by
    unfold leGet at h hs
    show leC (if y.k = x.k then y :: e else x :: lePut e y) = leC (x :: e)
    by_cases c : y.k = x.k
    · rw [if_pos c] at h hs ⊢
      show (y.k, y.s) :: leC e = (x.k, x.s) :: leC e
      rw [c, hs]
    · rw [if_neg c] at h hs ⊢
      show (x.k, x.s) :: leC (lePut e y) = (x.k, x.s) :: leC e
      rw [leC_same h hs]

structure Lk.inv (x : Lk) (A : Ar) : Prop where
  ll : (x.ls x.work).length ≤ 1000
  fs : x.first = true → x.g.ep = true ∧ x.ls x.work ≠ [] ∧ x.m = .no
  wb : 1 ≤ x.g.w ∧ x.g.w ≤ 1000
  mi : x.m.inv A
theorem begin_inv {x : Lk} {A : Ar} (ll : (x.ls x.work).length ≤ 1000) (wb : 1 ≤ x.g.w ∧ x.g.w ≤ 1000) : x.begin.m.inv A := by
  unfold Lk.begin
  dsimp only
  split
  · exact ⟨⟨ll, fun _ => ⟨rfl, rfl⟩, fun h => by cases h⟩, Nat.zero_le _⟩
  · exact ⟨⟨wb, Int.le_refl 0, by show ((x.ls x.work).map Prod.fst).length ≤ 1000; rw [List.length_map]; exact ll, fun _ => .inl ⟨by show (0 : Int) < 2 * x.g.w; omega, rfl, rfl, rfl⟩⟩, Nat.zero_le _⟩
def mLk (gq mq : Nat) : MchR Lk LkJ where
  f := f_guard_look_Step
  addr := LkJ.q
  bl := Lk.bl
  rep := fun x j => x.rep j ∧ j.gq = gq ∧ j.mq = mq
  inv := Lk.inv
  step := Lk.step
  fin := Lk.fin
theorem mLk_inv (gq mq : Nat) : (mLk gq mq).inv' ty_p_guard_look := fun q p => by
  show opS _ _ _ _ = .pure (.enter f_guard_look_Step [.pointer (some ⟨q, 0, none⟩), .pointer p].toArray)
  kernel_rfl

section
variable {L : Hands} {R : Value → Heap → Prop} {G : Heap} {l rest : Bl} {A : Ar} {I : List Nat}

set_option maxHeartbeats 1000000 in
theorem look_first (x : Lk) (j : LkJ) (hA : Aw I A) (ok : Ok I G (keys (x.bl j))) (rp : x.rep j) (hf : x.first = true) (hi : x.inv A) :
    wp Try.prog (t_guard_look_Step (some ⟨j.q, 0, none⟩) (aI I)) L (own A (x.bl j) G) (LkP (x.step A) j I G) := by
  obtain ⟨h1, h2, h3⟩ := hi.fs hf
  have hlen := hi.ll
  unfold Lk.step
  rw [if_pos hf]
  obtain ⟨g, ls, work, first, times, m⟩ := x
  obtain ⟨q, gq, mq, e, tj, sj, gar⟩ := j
  have h1 : g.ep = true := h1
  have h2 : ls work ≠ [] := h2
  have h3 : m = .no := h3
  have hf : first = true := hf
  have hlen : (ls work).length ≤ 1000 := hlen
  subst h3 hf
  unfold t_guard_look_Step
  have ok : Ok I G (keys ((q, oc ty_guard_look (lkC gq work true times .nilIface)) :: (gq, oc ty_guard_Guard (g.cells mq)) :: (mq, mapObj slV (leC e)) :: (leB e ++ gar))) := ok
  show wp Try.prog _ L (own A ((q, oc ty_guard_look (lkC gq work true times .nilIface)) :: (gq, oc ty_guard_Guard (g.cells mq)) :: (mq, mapObj slV (leC e)) :: (leB e ++ gar)) G) _
  refine wp_nil.2 (w_ld 0 (x := true) hA ok rfl rfl rfl (wp_true rfl ?_))
  refine wp_nil.2 (w_st 0 hA ok rfl rfl rfl rfl ?_)
  have ok1 : Ok I G (keys ((q, oc ty_guard_look (lkC gq work false times .nilIface)) :: (gq, oc ty_guard_Guard (g.cells mq)) :: (mq, mapObj slV (leC e)) :: (leB e ++ gar))) := ok
  show wp Try.prog _ L (own A ((q, oc ty_guard_look (lkC gq work false times .nilIface)) :: (gq, oc ty_guard_Guard (g.cells mq)) :: (mq, mapObj slV (leC e)) :: (leB e ++ gar)) G) _
  refine wp_nil.2 (w_ld 0 (x := some ⟨gq, 0, none⟩) hA ok1 rfl rfl rfl ?_)
  refine wp_nil.2 (w_ld 1 (x := some mq) hA ok1 rfl rfl rfl ?_)
  refine wp_nil.2 (w_ld 0 (x := work) hA ok1 rfl rfl rfl ?_)
  refine w_lk 2 hA ok1 rfl ?_
  refine wp_nil.2 (w_ld 0 (x := some ⟨gq, 0, none⟩) hA ok1 rfl rfl rfl ?_)
  refine wp_nil.2 (w_ld 1 (x := gmode g.ep g.w g.ta) hA ok1 rfl rfl rfl ?_)
  rw [h1]
  refine look_val (x := (g.w, g.ta, ())) (ta_ep _ _ _) ?_
  refine wq_Global (tw := g.w) (ta := g.ta) ?_
  refine w_Raw hA fun hA => ?_
  have hs : SlOf (leGet e work).hb ty_epoch_Limbo eL (leGet e work).s (leGet e work).xs := rp.le work
  have hxs : (leGet e work).xs = ls work := rp.ls work
  rcases hs with ⟨_, h0⟩ | ⟨b, rest, r, hsl, hr, hm⟩
  · exact (h2 (hxs.symm.trans h0)).elim
  · have hpos : 0 < (ls work).length := List.length_pos_iff.2 h2
    rw [hxs] at hsl hm
    obtain ⟨s1, s2, hsp⟩ := List.mem_iff_append.1 hm
    rw [hsl]
    have e64 : w64 ((((ls work).length : Nat) : Int) - 1) = (((ls work).length - 1 : Nat) : Int) := by rw [w64_in (by omega) (by omega)]; omega
    show wp Try.prog (.look (opS Try.prog (.indexAddr ty_s_epoch_Limbo (.tmp 0) (.tmp 1)) ty_unit [(.slice (some ⟨b, 0, none⟩) (ls work).length ((ls work).length + r)), (.int .i64 (w64 ((((ls work).length : Nat) : Int) - 1)))]) (.one (.leaf .addr)) _) L _ _
    rw [e64]
    refine look_val (x := ⟨b, ((ls work).length - 1) * 2, none⟩) ?_ ?_
    · rw [opS_idxS (e := ty_epoch_Limbo) rfl rfl (by omega) (by omega), Addr.add_mk, Nat.zero_add]; rfl
    obtain ⟨y, hy⟩ : ∃ y : LE, y = ⟨work, (leGet e work).s, setLast (ls work) (A.rawF g.ta), s1 ++ (b, oc ty_epoch_Limbo (eL.all (setLast (ls work) (A.rawF g.ta)) ++ rest)) :: s2⟩ := ⟨_, rfl⟩
    obtain ⟨p1, ok2⟩ := own_perm (A := A.touchR g.ta) (l' := (b, oc ty_epoch_Limbo (eL.all (ls work) ++ rest)) :: (q, oc ty_guard_look (lkC gq work false times .nilIface)) :: (gq, oc ty_guard_Guard (g.cells mq)) :: (mq, mapObj slV (leC e)) :: ((s1 ++ s2) ++ (leRest e work ++ gar))) ok1 (perm_by fun c d c0 cd ca => by
      have h1 := leB_c c0 ca e work
      have h2 : c (leGet e work).hb = c s1 + c ((b, oc ty_epoch_Limbo (eL.all (ls work) ++ rest)) :: s2) := by rw [hsp, ca]
      simp only [cd, ca] at h2 ⊢; omega)
    rw [p1]
    refine w_st 0 hA ok2 rfl rfl rfl (decide_eq_true (by rw [List.length_append, eL.all_len]; show ((ls work).length - 1) * 2 + 1 < (ls work).length * 2 + _; omega)) ?_
    have eset : (eL.all (ls work) ++ rest).set (((ls work).length - 1) * 2 + 1) (.int .i64 (A.rawF g.ta)) = eL.all (setLast (ls work) (A.rawF g.ta)) ++ rest := eL_set rest _ (ls work) _ (by omega)
    have ok3 : Ok I G (keys ((b, oc ty_epoch_Limbo (eL.all (setLast (ls work) (A.rawF g.ta)) ++ rest)) :: (q, oc ty_guard_look (lkC gq work false times .nilIface)) :: (gq, oc ty_guard_Guard (g.cells mq)) :: (mq, mapObj slV (leC e)) :: ((s1 ++ s2) ++ (leRest e work ++ gar)))) := ok2
    show wp Try.prog _ L (own (A.touchR g.ta) ((b, oc ty_epoch_Limbo ((eL.all (ls work) ++ rest).set (((ls work).length - 1) * 2 + 1) (.int .i64 (A.rawF g.ta)))) :: (q, oc ty_guard_look (lkC gq work false times .nilIface)) :: (gq, oc ty_guard_Guard (g.cells mq)) :: (mq, mapObj slV (leC e)) :: ((s1 ++ s2) ++ (leRest e work ++ gar))) G) _
    rw [eset]
    have hl2 : (setLast (ls work) (A.rawF g.ta)).length = (ls work).length := by unfold setLast; rw [List.length_set]
    have hsY : SlOf y.hb ty_epoch_Limbo eL y.s y.xs := by
      rw [hy]
      exact .inr ⟨b, rest, r, by rw [hl2]; exact hsl, hr, List.mem_append_right _ List.mem_cons_self⟩
    have hyk : y.k = work := by rw [hy]
    have eC : leC (lePut e y) = leC e := leC_same (by rw [hyk, hxs]; exact h2) (by rw [hyk]; rw [hy])
    obtain ⟨p2, ok4⟩ := own_perm (A := A.touchR g.ta) (l' := (q, oc ty_guard_look (lkC gq work false times .nilIface)) :: (gq, oc ty_guard_Guard (g.cells mq)) :: (mq, mapObj slV (leC (lePut e y))) :: (leB (lePut e y) ++ gar)) ok3 (perm_by fun c d c0 cd ca => by
      have h1 := leB_put_c c0 ca e y
      have h2 : c y.hb = c s1 + c ((b, oc ty_epoch_Limbo (eL.all (setLast (ls work) (A.rawF g.ta)) ++ rest)) :: s2) := by rw [hy]; exact ca _ _
      rw [eC]
      rw [hyk] at h1
      simp only [cd, ca] at h2 ⊢; omega)
    rw [p2]
    refine wp_nil.2 (w_ld 0 (x := times) hA ok4 rfl rfl rfl ?_)
    refine wp_ret_of ⟨⟨q, gq, mq, lePut e y, tj, sj, gar⟩, rfl, rfl, ⟨rfl, rfl, rfl⟩, ok4, ⟨rp.le.put hsY, ?_, trivial⟩, hA⟩
    have := lsPut rp.ls y
    rw [hy] at this ⊢
    exact this

theorem look_rest (x : Lk) (j : LkJ) (hA : Aw I A) (ok : Ok I G (keys (x.bl j))) (rp : x.rep j) (hf : x.first = false) (hi : x.inv A) :
    wp Try.prog (t_guard_look_Step (some ⟨j.q, 0, none⟩) (aI I)) L (own A (x.bl j) G) (LkP (x.step A) j I G) := by
  have hlen := hi.ll
  have hwb := hi.wb
  have hmi := hi.mi
  unfold Lk.step
  rw [if_neg (by rw [hf]; decide)]
  unfold Lk.go t_guard_look_Step
  have ok0 := ok
  obtain ⟨g, ls, work, first, times, m⟩ := x
  have hf : first = false := hf
  subst hf
  cases m with
  | no =>
    have bs := begin_spec ⟨g, ls, work, false, times, .no⟩ j hA ok rp rfl hlen
    unfold Lk.bl at ok
    refine wp_nil.2 (w_ld 0 (x := false) hA ok rfl rfl rfl (wp_false rfl ?_))
    refine wp_nil.2 (w_ld 0 (x := .nilIface) hA ok rfl rfl rfl ?_)
    refine look_val (x := true) (eqlMc0 _) (wp_true rfl ?_)
    refine wp_nil.2 (w_ld 0 (x := times) hA ok rfl rfl rfl ?_)
    by_cases ht : 0 < times
    · refine wp_true (decide_eq_true ht) ?_
      refine wp_call_of bs ?_
      rintro v K ⟨j', rfl, rfl, e1, e2, e3, ok', rp'⟩
      refine ⟨(), rfl, ?_⟩
      show wp Try.prog _ L _ (LkP ((if 0 < times then Lk.begin ⟨g, ls, work, false, times, .no⟩ else ⟨g, ls, work, false, times, .no⟩).mid A) j I G)
      rw [if_pos ht, ← e1]
      exact lkT_wp ⟨e1, e2, e3⟩ hA ok' rp' (begin_inv hlen hwb)
    · refine wp_false (decide_eq_false ht) ?_
      show wp Try.prog _ L _ (LkP ((if 0 < times then Lk.begin ⟨g, ls, work, false, times, .no⟩ else ⟨g, ls, work, false, times, .no⟩).mid A) j I G)
      rw [if_neg ht]
      exact lkT_wp (x := ⟨g, ls, work, false, times, .no⟩) ⟨rfl, rfl, rfl⟩ hA ok0 rp hmi
  | tn m =>
    unfold Lk.bl at ok
    refine wp_nil.2 (w_ld 0 (x := false) hA ok rfl rfl rfl (wp_false rfl ?_))
    refine wp_nil.2 (w_ld 0 (x := .iface ty_p_epoch_Turn (.pointer (some ⟨j.tj.q, 0, none⟩))) hA ok rfl rfl rfl ?_)
    refine look_val (x := false) (eqlMc _ _ _) (wp_false rfl ?_)
    exact lkT_wp (x := ⟨g, ls, work, false, times, .tn m⟩) ⟨rfl, rfl, rfl⟩ hA ok0 rp hmi
  | sc m =>
    unfold Lk.bl at ok
    refine wp_nil.2 (w_ld 0 (x := false) hA ok rfl rfl rfl (wp_false rfl ?_))
    refine wp_nil.2 (w_ld 0 (x := .iface ty_p_hazard_Scan (.pointer (some ⟨j.sj.q, 0, none⟩))) hA ok rfl rfl rfl ?_)
    refine look_val (x := false) (eqlMc _ _ _) (wp_false rfl ?_)
    exact lkT_wp (x := ⟨g, ls, work, false, times, .sc m⟩) ⟨rfl, rfl, rfl⟩ hA ok0 rp hmi
end

theorem mLk_ok (gq mq : Nat) : (mLk gq mq).ok := by
  rintro I A G x j hA ok ⟨rp, e1, e2⟩ hi
  refine t_guard_look_Step_spec fun L => ?_
  refine Go.Fw.wp_mono _ (R := LkP (x.step A) j I G) ?_ (fun _ _ _ h => h) ?_
  · by_cases hf : x.first = true
    · exact look_first x j hA ok rp hf hi
    · exact look_rest x j hA ok rp (by simpa using hf) hi
  · rintro v K ⟨j', rfl, rfl, ⟨a, b, c⟩, ok', rp', hA'⟩
    exact ⟨j', rfl, rfl, a, ok', ⟨rp', b.trans e1, c.trans e2⟩, hA'⟩
end Go.Proofs.Ytcjhakdopnamoaa

set_option linter.unusedVariables false
set_option linter.unusedSimpArgs false
set_option maxRecDepth 20000
namespace Go.Proofs.Ytcjhakdopnamoaa
open Go Go.Fw

def retLk (g : Gd) (ls : Int → List (Int × Int)) (k h : Int) : Lk := ⟨g, setL ls k (ls k ++ [(h, 0)]), k, g.ep, if g.th ≤ ((ls k).length : Int) + 1 then 1 else 0, .no⟩
def retM (g : Gd) (ls : Int → List (Int × Int)) (k h : Int) : Option Lk :=
  if g.ep = true then some (retLk g ls k h) else if g.th ≤ ((ls k).length : Int) + 1 then some (retLk g ls k h).begin else none
def forLk (g : Gd) (ls : Int → List (Int × Int)) (k : Int) : Lk := ⟨g, ls, k, false, if g.ep = true then 3 else 1, .no⟩
def forM (g : Gd) (ls : Int → List (Int × Int)) (k : Int) : Option Lk := if ls k = [] then none else some (forLk g ls k).begin

/-- A guard's lists in memory. -/
structure GdS (e : List LE) (ls : Int → List (Int × Int)) : Prop where
  le : leOk e
  ls : ∀ k, (leGet e k).xs = ls k

def GPost (o : Option Lk) (g : Gd) (ls : Int → List (Int × Int)) (q mq : Nat) (A : Ar) (I : List Nat) (G : Heap) : Value → Heap → Prop := fun v K => match o with
  | none => ∃ e gar, v = .nilIface ∧ K = own A (g.bl q mq e ++ gar) G ∧ Ok I G (keys (g.bl q mq e ++ gar)) ∧ GdS e ls
  | some x => ∃ j : LkJ, v = .iface ty_p_guard_look (.pointer (some ⟨j.q, 0, none⟩)) ∧ K = own A (x.bl j) G ∧ Ok I G (keys (x.bl j)) ∧ (mLk q mq).rep x j

section
variable {L : Hands} {R : Value → Heap → Prop} {G : Heap} {l rest : Bl} {A : Ar} {I : List Nat}

theorem w_ckLk {e : List LE} {k : Int} {mq : Nat} {s : Sl} {t : Tree} (ix : Nat) (hA : Aw I A) (ok : Ok I G (keys l)) (hi : l[ix]? = some (mq, mapObj slV (leC e))) (hs : s = (leGet e k).s)
    (h : wp Try.prog t L (own A l G) R) :
    wp Try.prog (.check (opS Try.prog (.lookup ty_m_int_s_epoch_Limbo (.tmp 0) (.tmp 1) false) ty_s_epoch_Limbo [(.map (some mq)), (.int .i64 k)]) (.slice s.a s.len s.cap) t) L (own A l G) R := by
  subst hs
  refine ⟨?_, h⟩
  have hy : (match alGet (leC e) k with | some v => slV v | none => slV sl0) = slV (leGet e k).s := leC_get e k
  have h3 := still_lookup (P := Try.prog) (t := ty_m_int_s_epoch_Limbo) (u := ty_s_epoch_Limbo) (kt := ty_int) (et := ty_s_epoch_Limbo) (x := k) (z := slV sl0) (own_get hA ok hi) rfl rfl rfl rfl
  have h4 : ∀ v : Value, v = slV (leGet e k).s → astill Try.prog (opS Try.prog (.lookup ty_m_int_s_epoch_Limbo (.tmp 0) (.tmp 1) false) ty_s_epoch_Limbo [(.map (some mq)), (.int .i64 k)]) (own A l G) (fun n => nextL Try.prog n (own A l G) v) → astill Try.prog (opS Try.prog (.lookup ty_m_int_s_epoch_Limbo (.tmp 0) (.tmp 1) false) ty_s_epoch_Limbo [(.map (some mq)), (.int .i64 k)]) (own A l G) (fun n => nextL Try.prog n (own A l G) (slV (leGet e k).s)) := fun v hv h => hv ▸ h
  revert hy h3
  cases alGet (leC e) k with
  | some v => exact fun hy h3 => h4 _ hy h3
  | none => exact fun hy h3 => h4 _ hy h3

set_option maxHeartbeats 1000000 in
theorem force_spec {g : Gd} {e : List LE} {ls : Int → List (Int × Int)} {q mq : Nat} {k : Int} (hA : Aw I A) (ok : Ok I G (keys (g.bl q mq e))) (gs : GdS e ls) (hl : (ls k).length ≤ 1000) :
    SpecF Try.prog f_guard_Guard_Force #[.pointer (some ⟨q, 0, none⟩), .int .i64 k] (own A (g.bl q mq e) G) (GPost (forM g ls k) g ls q mq A I G) := by
  refine t_guard_Guard_Force_spec fun L => ?_
  unfold t_guard_Guard_Force
  have hsl : (leGet e k).s.len = (ls k).length := by rw [← gs.ls k]; exact (gs.le k).len
  refine wp_nil.2 (w_ld 0 (x := some mq) hA ok rfl rfl rfl ?_)
  refine w_lk 1 hA ok rfl ?_
  unfold forM
  by_cases h0 : ls k = []
  · rw [if_pos h0]
    refine wp_true (ibeq (by rw [hsl, h0]; rfl)) ?_
    refine wp_ret_of ⟨e, [], rfl, by rw [List.append_nil], by rw [List.append_nil]; exact ok, gs⟩
  · rw [if_neg h0]
    have hp := List.length_pos_iff.2 h0
    refine wp_false (ibef (by rw [hsl]; omega)) ?_
    refine w_newP (c := [.pointer (some ⟨q, 0, none⟩), .int .i64 k, .bool false, .int .i64 1, .nilIface]) hA ok fun z ok1 => ?_
    refine wp_nil.2 (w_ld 1 (x := gmode g.ep g.w g.ta) hA ok1 rfl rfl rfl ?_)
    have tail : ∀ (L : Hands) (x6 : Nat) (o : Obj) (t : Int), Ok I G (keys ((x6, o) :: (z, oc ty_guard_look (lkC q k false t .nilIface)) :: g.bl q mq e)) → (forLk g ls k) = ⟨g, ls, k, false, t, .no⟩ →
        wp Try.prog (.call f_guard_look_begin [(.pointer (some ⟨z, 0, none⟩))] .unit fun _ => .ret (.iface ty_p_guard_look (.pointer (some ⟨z, 0, none⟩)))) L (own A ((x6, o) :: (z, oc ty_guard_look (lkC q k false t .nilIface)) :: g.bl q mq e) G) (GPost (some (forLk g ls k).begin) g ls q mq A I G) := fun L x6 o t ok2 et => by
      rw [et]
      obtain ⟨p1, ok3⟩ := own_perm (A := A) (l' := Lk.bl ⟨g, ls, k, false, t, .no⟩ ⟨z, q, mq, e, ⟨0, sl0, sl0, sl0, [], [], [], []⟩, ⟨0, 0, sl0, sl0, sl0, [], [], [], []⟩, [(x6, o)]⟩) ok2 (perm_by fun c d c0 cd ca => by
        show _ = c ((z, oc ty_guard_look (lkC q k false t .nilIface)) :: (g.bl q mq e ++ ([] ++ [(x6, o)])))
        simp only [cd, ca, c0]; omega)
      rw [p1]
      refine wp_call_of (begin_spec _ ⟨z, q, mq, e, ⟨0, sl0, sl0, sl0, [], [], [], []⟩, ⟨0, 0, sl0, sl0, sl0, [], [], [], []⟩, [(x6, o)]⟩ hA ok3 ⟨gs.le, gs.ls, trivial⟩ rfl hl) ?_
      rintro v K ⟨j', rfl, rfl, e1, e2, e3, ok', rp'⟩
      refine ⟨(), rfl, wp_ret_of ⟨j', ?_, rfl, ok', rp', e2, e3⟩⟩
      have e1 : j'.q = z := e1
      rw [e1]
    cases hp : g.ep with
    | true =>
      refine look_val (x := ((g.w, g.ta, ()), true, ())) (ta_epT _ _ _) ?_
      refine w_newP (c := [.int .i64 0, .int .i64 0]) hA ok1 fun x6 ok2 => ?_
      refine w_stA 0 hA ok2 rfl rfl rfl rfl (wp_true rfl ?_)
      refine wp_nil.2 (w_st 1 hA (by exact ok2) rfl rfl rfl rfl ?_)
      exact tail _ x6 _ 3 ok2 (by unfold forLk; rw [if_pos hp])
    | false =>
      refine look_val (x := ((0, 0, ()), false, ())) (ta_epF _ _ _) ?_
      refine w_newP (c := [.int .i64 0, .int .i64 0]) hA ok1 fun x6 ok2 => ?_
      refine w_stA 0 hA ok2 rfl rfl rfl rfl (wp_false rfl ?_)
      exact tail _ x6 _ 1 ok2 (by unfold forLk; rw [if_neg (by rw [hp]; decide)])
end
end Go.Proofs.Ytcjhakdopnamoaa

set_option linter.unusedVariables false
set_option linter.unusedSimpArgs false
set_option maxRecDepth 20000
namespace Go.Proofs.Ytcjhakdopnamoaa
open Go Go.Fw

def tj0 : TnJ := ⟨0, sl0, sl0, sl0, [], [], [], []⟩
def sj0 : ScJ := ⟨0, 0, sl0, sl0, sl0, [], [], [], []⟩

section
variable {L : Hands} {R : Value → Heap → Prop} {G : Heap} {l rest : Bl} {A : Ar} {I : List Nat}

theorem GdS.put {e : List LE} {ls : Int → List (Int × Int)} (gs : GdS e ls) {y : LE} (hy : SlOf y.hb ty_epoch_Limbo eL y.s y.xs) : GdS (lePut e y) (setL ls y.k y.xs) := ⟨gs.le.put hy, lsPut gs.ls y⟩

set_option maxHeartbeats 2000000 in
theorem retire_spec {g : Gd} {e : List LE} {ls : Int → List (Int × Int)} {q mq : Nat} {k h : Int} (hA : Aw I A) (ok : Ok I G (keys (g.bl q mq e))) (gs : GdS e ls) (hl : (ls k).length < 1000) :
    SpecF Try.prog f_guard_Guard_Retire #[.pointer (some ⟨q, 0, none⟩), .pointer (aI I), .int .i64 k, .int .i64 h] (own A (g.bl q mq e) G) (GPost (retM g ls k h) g (setL ls k (ls k ++ [(h, 0)])) q mq (A.retireF h) I G) := by
  refine t_guard_Guard_Retire_spec fun L => ?_
  unfold t_guard_Guard_Retire
  have hs0 : SlOf (leGet e k).hb ty_epoch_Limbo eL (leGet e k).s (leGet e k).xs := gs.le k
  rw [gs.ls k] at hs0
  refine w_Retire hA fun hA => ?_
  refine wp_nil.2 (w_ld 0 (x := some mq) hA ok rfl rfl rfl ?_)
  refine wp_nil.2 (w_ld 0 (x := some mq) hA ok rfl rfl rfl ?_)
  refine w_lk 1 hA ok rfl ?_
  refine w_newS (c := [.int .i64 h, .int .i64 0]) hA ok fun z ok1 => ?_
  refine w_ckLk 2 hA ok1 rfl rfl ?_
  refine w_ck 1 hA ok1 rfl rfl rfl ?_
  refine w_ckn rfl ?_
  refine w_ck 1 hA ok1 rfl rfl rfl ?_
  refine w_ckn rfl ?_
  obtain ⟨p1, ok2⟩ := own_perm (A := A.retireF h) (l' := ((z, oc ty_epoch_Limbo [.int .i64 h, .int .i64 0]) :: (q, oc ty_guard_Guard (g.cells mq)) :: (mq, mapObj slV (leC e)) :: leRest e k) ++ (leGet e k).hb) ok1 (perm_by fun c d c0 cd ca => by
    have h1 := leB_c c0 ca e k
    simp only [Gd.bl, List.cons_append, cd, ca]; omega)
  rw [p1]
  refine w_appT (E := eL) elL (ys := [(h, 0)]) (t := ⟨some ⟨z, 0, none⟩, 1, 1⟩) hA ok2 hs0 ?_ rfl (by simp; omega) fun s' tl' hs' ok3 ap => ?_
  · exact cell_row hA ok2 (List.mem_append_left _ List.mem_cons_self) 0 rfl
  refine w_ck 1 hA ok3 rfl rfl rfl ?_
  refine w_ckn rfl ?_
  obtain ⟨y, hy⟩ : ∃ y : LE, y = ⟨k, s', ls k ++ [(h, 0)], tl'⟩ := ⟨_, rfl⟩
  have eput : alPut (leC e) k s' = leC (lePut e y) := by rw [leC_put, hy]
  refine w_mapS 2 hA ok3 rfl ?_
  rw [eput]
  have gs' : GdS (lePut e y) (setL ls k (ls k ++ [(h, 0)])) := by
    have := gs.put (y := y) (by rw [hy]; exact hs')
    rw [hy] at this ⊢; exact this
  have ok4 : Ok I G (keys (((z, oc ty_epoch_Limbo [.int .i64 h, .int .i64 0]) :: (q, oc ty_guard_Guard (g.cells mq)) :: (mq, mapObj slV (leC (lePut e y))) :: leRest e k) ++ tl')) := ok3
  show wp Try.prog _ L (own (A.retireF h) (((z, oc ty_epoch_Limbo [.int .i64 h, .int .i64 0]) :: (q, oc ty_guard_Guard (g.cells mq)) :: (mq, mapObj slV (leC (lePut e y))) :: leRest e k) ++ tl') G) _
  obtain ⟨p2, ok5⟩ := own_perm (A := A.retireF h) (l' := g.bl q mq (lePut e y) ++ [(z, oc ty_epoch_Limbo [.int .i64 h, .int .i64 0])]) ok4 (perm_by fun c d c0 cd ca => by
    have h1 := leB_put_c c0 ca e y
    have h3 : c y.hb = c tl' := by rw [hy]
    have h4 : c (leRest e y.k) = c (leRest e k) := by rw [hy]
    simp only [Gd.bl, List.cons_append, cd, ca, c0]; omega)
  rw [p2]
  obtain ⟨c1, hc1⟩ : ∃ c1 : Nat × Obj, c1 = (z, oc ty_epoch_Limbo [.int .i64 h, .int .i64 0]) := ⟨_, rfl⟩
  rw [← hc1] at ok5 ⊢
  generalize lePut e y = e1 at *
  clear p1 p2 hc1 ok4 ok3 ok2 ok1 hs0 hs' eput hy
  have hsl : (leGet e1 k).s.len = (ls k).length + 1 := by rw [(gs'.le k).len, gs'.ls k, setL_same, List.length_append]; rfl
  refine wp_nil.2 (w_ld 0 (x := gmode g.ep g.w g.ta) hA ok5 rfl rfl rfl ?_)
  have hret : ∀ (L : Hands) (t : Int) (x42 : Nat) (c2 : Nat × Obj) (E : Bool), (if g.th ≤ ((ls k).length : Int) + 1 then (1 : Int) else 0) = t → g.ep = E → Ok I G (keys ((x42, oc ty_guard_look (lkC q k E t .nilIface)) :: c2 :: (g.bl q mq e1 ++ [c1]))) →
      own (A.retireF h) ((x42, oc ty_guard_look (lkC q k E t .nilIface)) :: c2 :: (g.bl q mq e1 ++ [c1])) G = own (A.retireF h) ((retLk g ls k h).bl ⟨x42, q, mq, e1, tj0, sj0, [c2, c1]⟩) G ∧ Ok I G (keys ((retLk g ls k h).bl ⟨x42, q, mq, e1, tj0, sj0, [c2, c1]⟩)) := fun L t x42 c2 E ht hE ok => by
    subst ht hE
    exact own_perm (A := A.retireF h) ok (perm_by fun c d c0 cd ca => by
      show _ = c ((x42, oc ty_guard_look (lkC q k g.ep (if g.th ≤ ((ls k).length : Int) + 1 then (1 : Int) else 0) .nilIface)) :: (g.bl q mq e1 ++ ([] ++ [c2, c1])))
      simp only [cd, ca, c0]; omega)
  have rpR : ∀ (x42 : Nat) (c2 : Nat × Obj), (retLk g ls k h).rep ⟨x42, q, mq, e1, tj0, sj0, [c2, c1]⟩ := fun x42 c2 => ⟨gs'.le, gs'.ls, trivial⟩
  unfold retM
  cases hp : g.ep with
  | true =>
    rw [if_pos rfl]
    refine look_val (x := ((g.w, g.ta, ()), true, ())) (ta_epT _ _ _) ?_
    refine w_newP (c := [.int .i64 0, .int .i64 0]) hA ok5 fun x9 ok6 => ?_
    refine w_stA 0 hA ok6 rfl rfl rfl rfl ?_
    refine w_newP (c := [.pointer (some ⟨q, 0, none⟩), .int .i64 k, .bool true, .int .i64 0, .nilIface]) hA (by exact ok6) fun x42 ok7 => ?_
    refine wp_nil.2 (w_ld 2 (x := some mq) hA (by exact ok7) rfl rfl rfl ?_)
    refine w_lk (e := e1) 3 hA (by exact ok7) rfl ?_
    refine wp_nil.2 (w_ld 2 (x := g.th) hA (by exact ok7) rfl rfl rfl ?_)
    by_cases ht : g.th ≤ ((ls k).length : Int) + 1
    · refine wp_true (decide_eq_true (by show g.th ≤ (((leGet e1 k).s.len : Nat) : Int); rw [hsl]; omega)) ?_
      refine wp_nil.2 (w_st 0 hA (by exact ok7) rfl rfl rfl rfl ?_)
      refine wp_false rfl (wp_false rfl ?_)
      obtain ⟨p3, ok8⟩ := hret L 1 x42 _ true (if_pos ht) hp ok7
      exact wp_ret_of ⟨_, rfl, p3, ok8, rpR x42 _, rfl, rfl⟩
    · refine wp_false (decide_eq_false (by show ¬ g.th ≤ (((leGet e1 k).s.len : Nat) : Int); rw [hsl]; omega)) ?_
      refine wp_false rfl (wp_false rfl ?_)
      obtain ⟨p3, ok8⟩ := hret L 0 x42 _ true (if_neg ht) hp ok7
      exact wp_ret_of ⟨_, rfl, p3, ok8, rpR x42 _, rfl, rfl⟩
  | false =>
    rw [if_neg (by decide)]
    refine look_val (x := ((0, 0, ()), false, ())) (ta_epF _ _ _) ?_
    refine w_newP (c := [.int .i64 0, .int .i64 0]) hA ok5 fun x9 ok6 => ?_
    refine w_stA 0 hA ok6 rfl rfl rfl rfl ?_
    refine w_newP (c := [.pointer (some ⟨q, 0, none⟩), .int .i64 k, .bool false, .int .i64 0, .nilIface]) hA (by exact ok6) fun x42 ok7 => ?_
    refine wp_nil.2 (w_ld 2 (x := some mq) hA (by exact ok7) rfl rfl rfl ?_)
    refine w_lk (e := e1) 3 hA (by exact ok7) rfl ?_
    refine wp_nil.2 (w_ld 2 (x := g.th) hA (by exact ok7) rfl rfl rfl ?_)
    by_cases ht : g.th ≤ ((ls k).length : Int) + 1
    · rw [if_pos ht]
      refine wp_true (decide_eq_true (by show g.th ≤ (((leGet e1 k).s.len : Nat) : Int); rw [hsl]; omega)) ?_
      refine wp_nil.2 (w_st 0 hA (by exact ok7) rfl rfl rfl rfl ?_)
      refine wp_true rfl ?_
      refine wp_nil.2 (w_ld 0 (x := 1) hA (by exact ok7) rfl rfl rfl ?_)
      refine wp_false rfl (wp_true rfl ?_)
      obtain ⟨p3, ok8⟩ := hret L 1 x42 _ false (if_pos ht) hp ok7
      refine wp_call_of (p3 ▸ begin_spec (retLk g ls k h) ⟨x42, q, mq, e1, tj0, sj0, [_, c1]⟩ hA ok8 (rpR x42 _) rfl (by show (setL ls k (ls k ++ [(h, 0)]) k).length ≤ 1000; rw [setL_same, List.length_append]; show (ls k).length + 1 ≤ 1000; omega)) ?_
      rintro v K ⟨j', rfl, rfl, e1, e2, e3, ok', rp'⟩
      refine ⟨(), rfl, wp_ret_of ⟨j', ?_, rfl, ok', rp', e2, e3⟩⟩
      have e1 : j'.q = x42 := e1
      rw [e1]
    · rw [if_neg ht]
      refine wp_false (decide_eq_false (by show ¬ g.th ≤ (((leGet e1 k).s.len : Nat) : Int); rw [hsl]; omega)) ?_
      refine wp_true rfl ?_
      refine wp_nil.2 (w_ld 0 (x := 0) hA (by exact ok7) rfl rfl rfl ?_)
      refine wp_true rfl ?_
      obtain ⟨c3, hc3⟩ : ∃ c3 : Nat × Obj, c3 = (x42, oc ty_guard_look (lkC q k false 0 .nilIface)) := ⟨_, rfl⟩
      obtain ⟨c2, hc2⟩ : ∃ c2 : Nat × Obj, c2 = (x9, oc ty_guard_epochs [.int .i64 0, .int .i64 0]) := ⟨_, rfl⟩
      have ok7 : Ok I G (keys ((x42, oc ty_guard_look (lkC q k false 0 .nilIface)) :: (x9, oc ty_guard_epochs [.int .i64 0, .int .i64 0]) :: (g.bl q mq e1 ++ [c1]))) := ok7
      show wp Try.prog _ L (own (A.retireF h) ((x42, oc ty_guard_look (lkC q k false 0 .nilIface)) :: (x9, oc ty_guard_epochs [.int .i64 0, .int .i64 0]) :: (g.bl q mq e1 ++ [c1])) G) _
      rw [← hc3, ← hc2] at ok7 ⊢
      obtain ⟨p4, ok8⟩ := own_perm (A := A.retireF h) (l' := g.bl q mq e1 ++ [c3, c2, c1]) ok7 (perm_by fun c d c0 cd ca => by simp only [cd, ca, c0]; omega)
      rw [p4]
      exact wp_ret_of ⟨e1, [c3, c2, c1], rfl, rfl, ok8, gs'⟩
end
end Go.Proofs.Ytcjhakdopnamoaa

set_option linter.unusedVariables false
set_option linter.unusedSimpArgs false
set_option maxRecDepth 20000
namespace Go.Proofs.Ytcjhakdopnamoaa
open Go Go.Fw

/-! ### Scans and turns alone, slots of any class -/

def szs : List Int → Int
  | [] => 0
  | h :: t => sizeF (opC h) + szs t
theorem sz_op (h : Int) : 8 ≤ sizeF (opC h) ∧ sizeF (opC h) ≤ 64 ∧ sizeF (opC h) % 8 = 0 := sz_pos (opC_nat h).1 (opC_nat h).2
theorem szs_nn : ∀ xs : List Int, 0 ≤ szs xs
  | [] => Int.le_refl 0
  | h :: t => by have := sz_op h; have := szs_nn t; show 0 ≤ sizeF (opC h) + szs t; omega
theorem szs_append : ∀ xs ys : List Int, szs (xs ++ ys) = szs xs + szs ys
  | [], ys => by show szs ys = 0 + szs ys; omega
  | h :: t, ys => by show sizeF (opC h) + szs (t ++ ys) = sizeF (opC h) + szs t + szs ys; rw [szs_append t ys]; omega
theorem szs_filter (q : Int → Bool) : ∀ xs : List Int, szs (xs.filter q) + szs (xs.filter fun x => !q x) = szs xs
  | [] => rfl
  | h :: t => by
    have ih := szs_filter q t
    cases hq : q h with
    | true =>
      simp only [List.filter_cons, hq, if_true, Bool.not_true, Bool.false_eq_true, if_false]
      show sizeF (opC h) + _ + _ = sizeF (opC h) + szs t; omega
    | false =>
      simp only [List.filter_cons, hq, if_true, Bool.not_false, Bool.false_eq_true, if_false]
      show _ + (sizeF (opC h) + _) = sizeF (opC h) + szs t; omega
theorem szs_perm {xs ys : List Int} (h : xs.Perm ys) : szs xs = szs ys := by
  induction h with
  | nil => rfl
  | cons x _ ih => show sizeF (opC x) + _ = sizeF (opC x) + _; rw [ih]
  | swap x y l => show sizeF (opC y) + (sizeF (opC x) + szs l) = sizeF (opC x) + (sizeF (opC y) + szs l); omega
  | trans _ _ a b => exact a.trans b

/-- Freed, one by one. -/
def frS (who : Int) : Sg → List Int → Sg
  | S, [] => S
  | S, h :: hs => frS who { S with ch := upd S.ch (4 * who + opC h) (opB h :: S.ch (4 * who + opC h)) } hs
theorem frS_append (who : Int) : ∀ (hs ks : List Int) (S : Sg), frS who S (hs ++ ks) = frS who (frS who S hs) ks
  | [], ks, S => rfl
  | h :: hs, ks, S => frS_append who hs ks _
structure SweptG (A : Ar) (p : Pl) (w m : Int) (S : Sg) (who : Int) (hs : List Int) (A' : Ar) : Prop where
  off : Off p.carved (3 * hs.length) A A'
  sl : SL A' p w m (frS who S hs)
  st : ∀ k, A'.stF k = if k ∈ hs then 0 else A.stF k
  nL : A'.nL = A.nL
  nR : A'.nR = A.nR - szs hs

section
variable {A : Ar} {p : Pl} {w m : Int} {S : Sg}

theorem SweptG.refl {who : Int} (X : SL A p w m S) (h : A.wf) : SweptG A p w m S who [] A := ⟨.refl h, X, fun k => by rw [if_neg (by simp)], rfl, by show _ = _ - (0 : Int); omega⟩
theorem SweptG.trans {who : Int} {hs ks : List Int} {B C : Ar} (h : SweptG A p w m S who hs B) (g : SweptG B p w m (frS who S hs) who ks C) : SweptG A p w m S who (hs ++ ks) C := by
  refine ⟨?_, by rw [frS_append]; exact g.sl, fun k => ?_, g.nL.trans h.nL, by rw [g.nR, h.nR, szs_append]; omega⟩
  · have := h.off.trans g.off
    rw [List.length_append]
    rw [show (3 * ((hs.length + ks.length : Nat) : Int)) = 3 * (hs.length : Int) + 3 * (ks.length : Int) by omega]
    exact this
  · rw [g.st, h.st]
    by_cases e1 : k ∈ ks
    · rw [if_pos e1, if_pos (List.mem_append_right _ e1)]
    · rw [if_neg e1]
      by_cases e2 : k ∈ hs
      · rw [if_pos e2, if_pos (List.mem_append_left _ e2)]
      · rw [if_neg e2, if_neg (fun h => (List.mem_append.1 h).elim e2 e1)]

theorem sweepG {M J : Type} {X : MchR M J} {on : List Fe → M} (hl : ∀ (fs : List Fe) {n : Nat} {f f' : Fe} {A A' : Ar}, mFe.Runs n f A f' A' → f.done = false → (fs ≠ [] → X.Path n (on (f :: fs)) A (on fs) A') ∧ (fs = [] → X.Runs n (on [f]) A (on []) A'))
    {p : Pl} {w mm who : Int} (wh : 0 ≤ who ∧ who < w) : ∀ (hs : List Int) (A : Ar) (S : Sg), hs ≠ [] → hs.Nodup → SL A p w mm S → A.wf → A.uses + 3 * hs.length ≤ 1000000 → szs hs ≤ A.nR → (∀ h ∈ hs, A.stF h = 2) →
    ∃ A', X.Runs (3 * hs.length) (on (hs.map (newFe p who))) A (on []) A' ∧ SweptG A p w mm S who hs A'
  | [], _, _, h, _, _, _, _, _, _ => (h rfl).elim
  | h :: hs, A, S, _, hnd, X, hwf, hu, hr, hh => by
    obtain ⟨n1, n2⟩ := List.nodup_cons.1 hnd
    have h1 := hh h List.mem_cons_self
    have hr : sizeF (opC h) + szs hs ≤ A.nR := hr
    have sz := sz_op h
    have sn := szs_nn hs
    simp only [List.length_cons] at hu
    have us := X.F.us
    obtain ⟨x', A1, Z⟩ := free_solo X hwf (by omega) wh h1 (by omega)
    obtain ⟨f1, f2⟩ := hl (hs.map (newFe p who)) Z.run rfl
    have z1 := Z.off.us
    have z2 := Z.nR
    have W1 : SweptG A p w mm S who [h] A1 := ⟨Z.off, Z.sl, fun k => by rw [Z.st k]; simp, Z.nL, by rw [z2]; show _ = A.nR - (sizeF (opC h) + 0); omega⟩
    by_cases he : hs = []
    · subst he
      exact ⟨A1, f2 rfl, W1⟩
    · obtain ⟨A2, r2, W⟩ := sweepG hl wh hs A1 _ he n2 Z.sl Z.off.wf (by omega) (by omega) fun k hk => by
        have := hh k (List.mem_cons_of_mem _ hk)
        rw [Z.st k, if_neg (fun e : k = h => n1 (by rw [← e]; exact hk))]; exact this
      refine ⟨A2, ?_, W1.trans W⟩
      have := (f1 (by simpa using he)).run r2
      rw [List.length_cons, show 3 * (hs.length + 1) = 3 + 3 * hs.length by omega]
      exact this

/-- A whole scan. -/
theorem scanG {tw ta who : Int} {xs : List Int} (X : SL A p w m S) (hwf : A.wf) (tb : 1 ≤ tw ∧ tw ≤ 1000) (ll : xs.length ≤ 1000) (h0 : 0 ≤ ta) (h1 : ta + 2 * tw ≤ A.raw.length) (h2 : (A.raw.length : Int) ≤ 1000000) (u1 : A.uses ≤ 900000)
    (wh : 0 ≤ who ∧ who < w) (nd : xs.Nodup) (nr : szs xs ≤ A.nR) (hh : ∀ h ∈ xs, A.stF h = 2) :
    ∃ A' m' n, mSc.Runs n (newSc tw ta p who xs) A m' A' ∧ n = 2 * tw.toNat + 3 * (gone A tw ta xs).length ∧ m'.left = lft A tw ta xs ∧ m'.ended = true ∧ SweptG (A.later (2 * tw)) p w m S who (gone A tw ta xs) A' := by
  have u0 := X.F.us
  have pth := words_path (p := p) (who := who) (xs := xs) tb ll h0 h1 h2 u0 (by omega) ((2 * tw).toNat - 1) (by omega)
  have epp : (((2 * tw).toNat - 1 : Nat) : Int) = 2 * tw - 1 := by omega
  rw [epp] at pth
  suffices hs : ∃ A' m', mSc.Runs (1 + 3 * (gone A tw ta xs).length) (scN A tw ta p who xs ((2 * tw).toNat - 1)) (A.later (2 * tw - 1)) m' A' ∧ m'.left = lft A tw ta xs ∧ m'.ended = true ∧ SweptG (A.later (2 * tw)) p w m S who (gone A tw ta xs) A' by
    obtain ⟨A', m', r, q1, q2, q3⟩ := hs
    exact ⟨A', m', _, pth.run r, by omega, q1, q2, q3⟩
  have e : w64 (ta + (2 * tw - 1)) = ta + (2 * tw - 1) := w64_in (by omega) (by omega)
  have e2 : w64 (A.uses + (2 * tw - 1) + 1) = A.uses + (2 * tw - 1) + 1 := w64_in (by omega) (by omega)
  obtain ⟨n, hn⟩ : ∃ n : Nat, (2 * tw).toNat = n + 1 := ⟨(2 * tw).toNat - 1, by omega⟩
  have hn1 : (n : Int) = 2 * tw - 1 := by omega
  rw [hn, Nat.add_sub_cancel, ← hn1]
  rw [← hn1] at e e2
  let B : Sc := ⟨tw, ta, p, who, n + 1, xs, seenN A ta (n + 1), true, [], lft A tw ta xs, false⟩
  have hgo : xs.filter (fun h => !inS (seenN A ta (n + 1)) h) = gone A tw ta xs := by unfold gone; rw [hn]
  have hlf : xs.filter (inS (seenN A ta (n + 1))) = lft A tw ta xs := by unfold lft; rw [hn]
  have hB : B.base := ⟨tb, by show ((n : Int) + 1) = 2 * tw; omega, ll, rfl⟩
  have hst : mSc.step (scN A tw ta p who xs n) (A.later n) = (B.on ((gone A tw ta xs).map (newFe p who)), A.later (2 * tw)) := by
    show Sc.step (scN A tw ta p who xs n) (A.later n) = _
    unfold Sc.step
    rw [if_neg (show ¬ (scN A tw ta p who xs n).ended = true by intro h; cases h)]
    have en : (scN A tw ta p who xs n).word = n := rfl
    have et : (scN A tw ta p who xs n).ta = ta := rfl
    have ew : (scN A tw ta p who xs n).tw = tw := rfl
    rw [en, et, ew, if_pos (show (n : Int) < 2 * tw by omega), if_pos (by omega), e, tick_later (A := A.later n) (i := ta + n) ⟨by omega, by show ta + n < (A.raw.length : Int); omega⟩ (by show 0 ≤ A.uses + n; omega) (by show A.uses + n ≤ _; omega), later_add, show (n : Int) + 1 = 2 * tw by omega]
    refine Prod.ext ?_ rfl
    have hs : (scN A tw ta p who xs n).word1 (A.later n) = ⟨tw, ta, p, who, n + 1, xs, seenN A ta (n + 1), false, [], [], false⟩ := by
      unfold Sc.word1
      rw [en, et, e]; rfl
    dsimp only
    rw [hs]
    show Sc.mk tw ta p who (n + 1) xs (seenN A ta (n + 1)) true (((xs.take xs.length).filter fun h => !inS (seenN A ta (n + 1)) h).map (newFe p who)) ((xs.take xs.length).filter (inS (seenN A ta (n + 1)))) (decide ((((xs.take xs.length).filter fun h => !inS (seenN A ta (n + 1)) h).map (newFe p who)) = [])) = _
    rw [List.take_length, hgo, hlf]
  have iv : mSc.inv (scN A tw ta p who xs n) (A.later n) := ⟨tb, by show (0 : Int) ≤ n; omega, ll, fun _ => .inl ⟨by show (n : Int) < 2 * tw; omega, rfl, rfl, rfl⟩⟩
  have hu : (A.later (2 * tw)).uses ≤ w64 ((A.later n).uses + 1) := by
    show A.uses + 2 * tw ≤ w64 (A.uses + n + 1)
    rw [e2]; omega
  have hle : (gone A tw ta xs).length ≤ xs.length := List.length_filter_le _ _
  have hsz : szs (gone A tw ta xs) ≤ szs xs := by
    have h1 := szs_filter (inS (seenN A ta (2 * tw).toNat)) xs
    have h2 := szs_nn (xs.filter (inS (seenN A ta (2 * tw).toNat)))
    show szs (xs.filter fun h => !inS (seenN A ta (2 * tw).toNat) h) ≤ _; omega
  by_cases hg : gone A tw ta xs = []
  · refine ⟨A.later (2 * tw), B.on [], ?_, rfl, rfl, ?_⟩
    · rw [hg] at hst ⊢
      exact .one iv hst hu rfl
    · rw [hg]; exact .refl (X.later (by omega)) (later_wf hwf _)
  · obtain ⟨A', r, W⟩ := sweepG (X := mSc) (on := B.on) (fun fs {n f f' A A'} h hf => sc_free hB h hf) (p := p) (w := w) (mm := m) wh (gone A tw ta xs) (A.later (2 * tw)) S hg (nd.filter _) (X.later (by omega)) (later_wf hwf _) (by show A.uses + 2 * tw + _ ≤ _; omega) (by show _ ≤ A.nR; omega) fun h hm => hh h (List.mem_filter.1 hm).1
    refine ⟨A', B.on [], ?_, rfl, rfl, W⟩
    rw [Nat.add_comm]
    refine .more iv hst hu ?_ r
    show decide ((gone A tw ta xs).map (newFe p who) = []) = false
    simpa using hg

theorem turnG_end {who : Int} {B D : Ar} {mm t : Tn} (X : SL B p w m S) (hwf : B.wf) (wh : 0 ≤ who ∧ who < w) (tp : t.pl = p) (tw : t.work = who) (ll : t.l.length ≤ 1000) (u1 : B.uses ≤ 900000)
    (nd : (t.l.map Prod.fst).Nodup) (nr : szs (t.l.map Prod.fst) ≤ B.nR) (hh : ∀ x ∈ t.l, B.stF x.1 = 2) (iv : mTn.inv mm D) (hst : mTn.step mm D = (t.sort, B)) (hu : B.uses ≤ w64 (D.uses + 1)) :
    ∃ A' m', mTn.Runs (1 + 3 * (tgone t.e t.l).length) mm D m' A' ∧ m'.left = tleft t.e t.l ∧ 4 ≤ m'.ph ∧ SweptG B p w m S who (tgone t.e t.l) A' := by
  subst tp; subst tw
  rw [tn_sorted] at hst
  have hle : (tgone t.e t.l).length ≤ t.l.length := by unfold tgone; rw [List.length_map]; exact List.length_filter_le _ _
  have hsz : szs (tgone t.e t.l) ≤ szs (t.l.map Prod.fst) := by
    have : ∀ l : List (Int × Int), szs ((l.filter (due t.e)).map Prod.fst) ≤ szs (l.map Prod.fst) := fun l => by
      induction l with
      | nil => exact Int.le_refl 0
      | cons x l ih =>
        have sx := sz_op x.1
        rw [List.filter_cons]
        split
        · show sizeF (opC x.1) + _ ≤ sizeF (opC x.1) + _; omega
        · show _ ≤ sizeF (opC x.1) + _; omega
    exact this _
  by_cases hg : tgone t.e t.l = []
  · refine ⟨B, Tn.on { t with left := tleft t.e t.l } [], ?_, rfl, Nat.le_refl 4, ?_⟩
    · rw [hg] at hst ⊢
      exact .one iv hst hu rfl
    · rw [hg]; exact .refl X hwf
  · obtain ⟨A', r, W⟩ := sweepG (X := mTn) (on := Tn.on { t with left := tleft t.e t.l }) (fun fs {n f f' A A'} h hf => tn_free (m := { t with left := tleft t.e t.l }) ll h hf) (p := t.pl) (w := w) (mm := m) wh (tgone t.e t.l) B S hg (((List.filter_sublist (l := t.l) (p := due t.e)).map Prod.fst).nodup nd) X hwf (by omega) (by omega) fun h hm => by
      obtain ⟨x, hx, rfl⟩ := List.mem_map.1 hm
      exact hh x (List.mem_filter.1 hx).1
    refine ⟨A', Tn.on { t with left := tleft t.e t.l } [], ?_, rfl, Nat.le_refl 4, W⟩
    rw [Nat.add_comm]
    refine .more iv hst hu ?_ r
    have : (tgone t.e t.l).map (newFe t.pl t.work) ≠ [] := by simpa using hg
    show decide (4 ≤ (Tn.on { t with left := tleft t.e t.l } ((tgone t.e t.l).map (newFe t.pl t.work))).ph) = false
    rw [show (Tn.on { t with left := tleft t.e t.l } ((tgone t.e t.l).map (newFe t.pl t.work))).ph = 3 from if_neg this]; rfl

/-- A whole turn: B is the arena when it sorts, e1 the epoch then. -/
structure TurnB (A : Ar) (p : Pl) (w m : Int) (S : Sg) (tw ta e e1 : Int) (B : Ar) : Prop where
  sl : SL B p w m S
  wf : B.wf
  al : Ar.Alike A B
  wd : B.words = A.words
  fa : B.fault = A.fault
  fr : B.fresh = A.fresh
  rl : B.raw.length = A.raw.length
  rw : ∀ i, B.rawF i = if i = ta then e1 else A.rawF i
  us : A.uses + 1 ≤ B.uses ∧ B.uses ≤ A.uses + 2 + tw
  st : ∀ h, B.stF h = A.stF h
  nL : B.nL = A.nL
  nR : B.nR = A.nR
  ei : e1 = e ∨ e1 = e + 1
  up : (∀ i : Nat, (i : Int) < tw → A.rawF (ta + 1 + i) = 0 ∨ A.rawF (ta + 1 + i) = e + 1) → e1 = e + 1
  dn : e1 = e + 1 → ∀ i : Nat, (i : Int) < tw → A.rawF (ta + 1 + i) = 0 ∨ A.rawF (ta + 1 + i) = e + 1

theorem turnG {tw ta who e : Int} {xs : List (Int × Int)} (X : SL A p w m S) (hwf : A.wf) (tb : 1 ≤ tw ∧ tw ≤ 1000) (ll : xs.length ≤ 1000) (h0 : p.carved < ta) (h1 : ta + 1 + tw ≤ A.raw.length) (h2 : (A.raw.length : Int) ≤ 1000000) (u1 : A.uses ≤ 800000)
    (he : A.rawF ta = e) (eb : 0 ≤ e ∧ e ≤ 1000000) (wh : 0 ≤ who ∧ who < w) (nd : (xs.map Prod.fst).Nodup) (nr : szs (xs.map Prod.fst) ≤ A.nR) (hh : ∀ x ∈ xs, A.stF x.1 = 2) :
    ∃ e1 B A' m' n, mTn.Runs n (newTn tw ta p who xs) A m' A' ∧ (n : Int) ≤ 2 + tw + 3 * xs.length ∧ m'.left = tleft e1 xs ∧ 4 ≤ m'.ph ∧ TurnB A p w m S tw ta e e1 B ∧ SweptG B p w m S who (tgone e1 xs) A' := by
  have u0 := X.F.us
  obtain ⟨p1, p2, p3, p4, p5⟩ := X.places
  have wb := X.wb
  have mb := X.mb
  have t0 : 0 ≤ ta := by omega
  have hlen : ∀ e, ((tgone e xs).length : Int) ≤ xs.length := fun e => by
    have : (tgone e xs).length ≤ xs.length := by unfold tgone; rw [List.length_map]; exact List.length_filter_le _ _
    omega
  have e3 : w64 (e + 1) = e + 1 := w64_in (by omega) (by omega)
  by_cases hw : ∀ i : Nat, (i : Int) < tw → A.rawF (ta + 1 + i) = 0 ∨ A.rawF (ta + 1 + i) = e + 1
  · have pth := looks_path (p := p) (who := who) (xs := xs) tb ll t0 h1 h2 u0 (by omega) he eb tw.toNat (by omega) fun i hi => hw i (by omega)
    have O := outS (X.later (n := 1 + tw) (by omega)) (i := ta) (v := e + 1) ⟨h0, by show ta < (A.raw.length : Int); omega⟩ (by show A.uses + _ ≤ _; omega)
    obtain ⟨B, hB⟩ : ∃ B, B = (A.later (1 + tw)).storeR ta (e + 1) := ⟨_, rfl⟩
    rw [← hB] at O
    have hBw : B.wf := by rw [hB]; exact storeR_wf (later_wf hwf _) _ _
    have okB : (A.later (1 + tw)).rawOk ta := ⟨by omega, by show ta < (A.raw.length : Int); omega⟩
    have hBs : B = ((A.later (1 + tw)).tick).setR ta.toNat (e + 1) := by rw [hB]; unfold Ar.storeR; rw [if_pos okB]
    have us := O.us
    have us1 : (A.later (1 + tw)).uses = A.uses + (1 + tw) := rfl
    have etn : ((tw.toNat : Nat) : Int) = tw := by omega
    have ph2 : (tnN tw ta p who xs e tw.toNat).ph = 2 := if_pos etn
    rw [etn] at pth
    obtain ⟨A', m', r, q1, q2, q3⟩ := turnG_end (t := { tnN tw ta p who xs e tw.toNat with e := e + 1 }) (mm := tnN tw ta p who xs e tw.toNat) (D := A.later (1 + tw)) O.sl hBw wh rfl rfl ll (by omega) nd (by rw [O.nR]; exact nr) (fun x hx => by rw [O.st]; exact hh x hx) ⟨ll, fun _ => ⟨rfl, rfl⟩, fun h => by rw [ph2] at h; omega⟩ (by
        show Tn.step (tnN tw ta p who xs e tw.toNat) (A.later (1 + tw)) = _
        unfold Tn.step
        have et : (tnN tw ta p who xs e tw.toNat).ta = ta := rfl
        have ee : (tnN tw ta p who xs e tw.toNat).e = e := rfl
        obtain ⟨s1, s2⟩ := swapR_yes (A := A.later (1 + tw)) (i := ta) (v := e) (x := e + 1) ⟨by omega, by show ta < (A.raw.length : Int); omega⟩ he
        rw [if_neg (by rw [ph2]; decide), if_neg (by rw [ph2]; decide), if_pos ph2, et, ee, e3, s2, if_pos s1, hB]; rfl) (by
        rw [us, us1, w64_in (by omega) (by omega)]; omega)
    refine ⟨e + 1, B, A', m', _, pth.run r, ?_, q1, q2, ?_, q3⟩
    · have := hlen (e + 1)
      show ((1 + tw.toNat + (1 + 3 * (tgone (e + 1) xs).length) : Nat) : Int) ≤ _; omega
    · refine ⟨O.sl, hBw, ?_, by rw [hBs]; rfl, by rw [hBs]; rfl, by rw [hBs]; rfl, O.rl, fun i => by rw [O.rf]; rfl, ⟨by omega, by omega⟩, O.st, O.nL, O.nR, .inr rfl, fun _ => rfl, fun _ => hw⟩
      rw [hBs]; exact ⟨rfl, rfl, rfl, rfl, rfl, rfl, rfl⟩
  · obtain ⟨k, hk, hk0, hn⟩ : ∃ k : Nat, (k : Int) < tw ∧ (∀ i : Nat, i < k → A.rawF (ta + 1 + i) = 0 ∨ A.rawF (ta + 1 + i) = e + 1) ∧ (A.rawF (ta + 1 + k) ≠ 0 ∧ A.rawF (ta + 1 + k) ≠ e + 1) := by
      have key : ∀ n : Nat, (∀ i : Nat, i < n → A.rawF (ta + 1 + i) = 0 ∨ A.rawF (ta + 1 + i) = e + 1) ∨ ∃ k : Nat, k < n ∧ (∀ i : Nat, i < k → A.rawF (ta + 1 + i) = 0 ∨ A.rawF (ta + 1 + i) = e + 1) ∧ (A.rawF (ta + 1 + k) ≠ 0 ∧ A.rawF (ta + 1 + k) ≠ e + 1) := fun n => by
        induction n with
        | zero => exact .inl fun i hi => by omega
        | succ n ih =>
          rcases ih with h | ⟨k, a, b, c⟩
          · by_cases hz : A.rawF (ta + 1 + n) = 0 ∨ A.rawF (ta + 1 + n) = e + 1
            · refine .inl fun i hi => ?_
              by_cases en : i = n
              · rw [en]; exact hz
              · exact h i (by omega)
            · exact .inr ⟨n, by omega, h, fun e => hz (.inl e), fun e => hz (.inr e)⟩
          · exact .inr ⟨k, by omega, b, c⟩
      rcases key tw.toNat with h | ⟨k, a, b, c⟩
      · exact (hw fun i hi => h i (by omega)).elim
      · exact ⟨k, by omega, b, c⟩
    have pth := looks_path (p := p) (who := who) (xs := xs) tb ll t0 h1 h2 u0 (by omega) he eb k (by omega) hk0
    have e1 : w64 ((k : Int) + 1) = k + 1 := w64_in (by omega) (by omega)
    have ew : ewd ta k = ta + 1 + k := ewd_eq ⟨by omega, by omega, by omega, by omega⟩
    have ph1 : (tnN tw ta p who xs e k).ph = 1 := if_neg (by omega)
    obtain ⟨A', m', r, q1, q2, q3⟩ := turnG_end (t := { tnN tw ta p who xs e k with word := (k : Int) + 1 }) (mm := tnN tw ta p who xs e k) (D := A.later (1 + k)) (B := A.later (2 + k)) (X.later (by omega)) (later_wf hwf _) wh rfl rfl ll (by show A.uses + _ ≤ _; omega) nd nr hh ⟨ll, fun _ => ⟨rfl, rfl⟩, fun h => by rw [ph1] at h; omega⟩ (by
        show Tn.step (tnN tw ta p who xs e k) (A.later (1 + k)) = _
        unfold Tn.step
        have et : (tnN tw ta p who xs e k).ta = ta := rfl
        have ee : (tnN tw ta p who xs e k).e = e := rfl
        have en : (tnN tw ta p who xs e k).word = k := rfl
        have er : (A.later (1 + k)).rawF (ta + 1 + k) = A.rawF (ta + 1 + k) := rfl
        rw [if_neg (by rw [ph1]; decide), if_pos ph1, et, ee, en, ew, e1, e3, er, if_pos hn, tick_later (A := A.later (1 + k)) ⟨by omega, by show ta + 1 + (k : Int) < (A.raw.length : Int); omega⟩ (by show 0 ≤ A.uses + _; omega) (by show A.uses + _ ≤ _; omega), later_add, show 1 + (k : Int) + 1 = 2 + k by omega]; rfl) (by
        show A.uses + (2 + k) ≤ w64 (A.uses + (1 + k) + 1)
        rw [w64_in (by omega) (by omega)]; omega)
    refine ⟨e, A.later (2 + k), A', m', _, pth.run r, ?_, q1, q2, ?_, q3⟩
    · have := hlen e
      show ((1 + k + (1 + 3 * (tgone e xs).length) : Nat) : Int) ≤ _; omega
    · refine ⟨X.later (by omega), later_wf hwf _, later_alike A _, rfl, rfl, rfl, rfl, fun i => ?_, ⟨by show A.uses + 1 ≤ A.uses + (2 + k); omega, by show A.uses + (2 + k) ≤ _; omega⟩, fun h => stF_slots rfl h, rfl, rfl, .inl rfl, fun h => ?_, fun h => by omega⟩
      · split
        · rename_i h; rw [h]; exact he
        · rfl
      · have := h k hk; rcases this with h' | h'
        · exact (hn.1 h').elim
        · exact (hn.2 h').elim
end
end Go.Proofs.Ytcjhakdopnamoaa

set_option linter.unusedVariables false
set_option linter.unusedSimpArgs false
set_option maxRecDepth 20000
namespace Go.Proofs.Ytcjhakdopnamoaa
open Go Go.Fw

/-! ### A guard by what it has; what a look does, alone -/

def gwords (ep : Bool) (w : Int) : Int := bif ep then 1 + w else 2 * w

/-- All that is retired. -/
def totR (ls : Int → List (Int × Int)) : Nat → Int
  | 0 => 0
  | n + 1 => totR ls n + szs ((ls (n : Int)).map Prod.fst)
theorem totR_nn (ls : Int → List (Int × Int)) : ∀ n, 0 ≤ totR ls n
  | 0 => Int.le_refl 0
  | n + 1 => by have := totR_nn ls n; have := szs_nn ((ls (n : Int)).map Prod.fst); show 0 ≤ totR ls n + _; omega
theorem totR_out {ls : Int → List (Int × Int)} {k : Int} {xs : List (Int × Int)} : ∀ {n : Nat}, (n : Int) ≤ k → totR (setL ls k xs) n = totR ls n
  | 0, _ => rfl
  | n + 1, h => by
    show totR (setL ls k xs) n + szs ((setL ls k xs (n : Int)).map Prod.fst) = totR ls n + _
    rw [totR_out (n := n) (by omega), setL_ne ls xs (show (n : Int) ≠ k by omega)]
theorem totR_set {ls : Int → List (Int × Int)} {k : Int} {xs : List (Int × Int)} (h0 : 0 ≤ k) : ∀ {n : Nat}, k < n → totR (setL ls k xs) n = totR ls n - szs ((ls k).map Prod.fst) + szs (xs.map Prod.fst)
  | 0, h => by omega
  | n + 1, h => by
    show totR (setL ls k xs) n + szs ((setL ls k xs (n : Int)).map Prod.fst) = totR ls n + szs ((ls (n : Int)).map Prod.fst) - _ + _
    by_cases e : (n : Int) = k
    · rw [totR_out (by omega), e, setL_same]; omega
    · rw [totR_set h0 (n := n) (by omega), setL_ne ls xs e]; omega
theorem totR_le {ls : Int → List (Int × Int)} {k : Int} (h0 : 0 ≤ k) : ∀ {n : Nat}, k < n → szs ((ls k).map Prod.fst) ≤ totR ls n
  | 0, h => by omega
  | n + 1, h => by
    have a := totR_nn ls n
    have b := szs_nn ((ls (n : Int)).map Prod.fst)
    show _ ≤ totR ls n + szs ((ls (n : Int)).map Prod.fst)
    by_cases e : (n : Int) = k
    · rw [e] at b ⊢; omega
    · have := totR_le (ls := ls) h0 (n := n) (by omega); omega
theorem setL_setL (f : Int → List (Int × Int)) (k : Int) (xs ys : List (Int × Int)) : setL (setL f k xs) k ys = setL f k ys := by
  funext i; unfold setL; split <;> rfl
structure GI (A : Ar) (g : Gd) (m : Int) (S : Sg) (l : Int → List (Int × Int)) : Prop where
  wf : A.wf
  sl : SL A g.pl g.w m S
  fa : A.fault = false
  ta : g.pl.carved < g.ta
  wb : 1 ≤ g.w ∧ g.w ≤ 100
  rl : g.ta + gwords g.ep g.w ≤ A.raw.length
  rb : (A.raw.length : Int) ≤ 1000000
  st : ∀ k x, x ∈ l k → A.stF x.1 = 2
  nd : ∀ k, ((l k).map Prod.fst).Nodup
  dj : ∀ k j x y, x ∈ l k → y ∈ l j → x.1 = y.1 → k = j
  rg : ∀ k, l k ≠ [] → 0 ≤ k ∧ k < g.w
  nR : A.nR = totR l g.w.toNat
  l0 : 0 ≤ A.nL
  nu : A.nL + A.nR ≤ 64 * A.uses
  ze : g.ep = false → ∀ k x, x ∈ l k → x.2 = 0
  eb : g.ep = true → 0 ≤ A.rawF g.ta ∧ A.rawF g.ta ≤ A.uses
  es : g.ep = true → ∀ k x, x ∈ l k → 0 ≤ x.2 ∧ x.2 ≤ A.rawF g.ta

/-- What a look leaves. -/
structure Lkd (A : Ar) (g : Gd) (m : Int) (S : Sg) (l : Int → List (Int × Int)) (k : Int) (keep : Int × Int → Bool) (hs : List Int) (t : Nat) (A' : Ar) : Prop where
  pm : hs.Perm (((l k).filter fun x => !keep x).map Prod.fst)
  wf : A'.wf
  al : Ar.Alike A A'
  wd : A'.words = A.words
  fa : A'.fault = A.fault
  fr : A'.fresh = A.fresh
  rl : A'.raw.length = A.raw.length
  sl : SL A' g.pl g.w m (frS k S hs)
  st : ∀ j, A'.stF j = if j ∈ hs then 0 else A.stF j
  nL : A'.nL = A.nL
  nR : A'.nR = A.nR - szs hs
  rw : ∀ i, g.pl.carved < i → i ≠ g.ta → A'.rawF i = A.rawF i
  us : A.uses ≤ A'.uses ∧ A'.uses ≤ A.uses + 202 * t + 3 * ((l k).length - ((l k).filter keep).length)
  ha : g.ep = false → A'.rawF g.ta = A.rawF g.ta ∧ ∀ x, keep x = true ↔ ∃ i : Nat, (i : Int) < 2 * g.w ∧ A.rawF (g.ta + i) = x.1
  ep : g.ep = true → A.rawF g.ta ≤ A'.rawF g.ta ∧ A'.rawF g.ta ≤ A.rawF g.ta + t ∧ A'.rawF g.ta ≤ A'.uses ∧ keep = fun x => !due (A'.rawF g.ta) x
  free : g.ep = true → (∀ i : Nat, (i : Int) < g.w → A.rawF (g.ta + 1 + i) = 0) → A'.rawF g.ta = A.rawF g.ta + t
  held : g.ep = true → ∀ (i : Nat) (v : Int), (i : Int) < g.w → A.rawF (g.ta + 1 + i) = v + 1 → 0 ≤ v → A.rawF g.ta ≤ v + 1 → A'.rawF g.ta ≤ v + 1

section
variable {A B C : Ar} {g : Gd} {m : Int} {S : Sg} {l : Int → List (Int × Int)} {k h : Int}

theorem len_keep (xs : List (Int × Int)) (q : Int × Int → Bool) : (xs.filter q).length + (xs.filter fun x => !q x).length = xs.length := by
  induction xs with
  | nil => rfl
  | cons x xs ih => rw [List.filter_cons, List.filter_cons]; cases q x <;> simp <;> omega

theorem Lkd.gone {keep : Int × Int → Bool} {hs : List Int} {t : Nat} (L : Lkd A g m S l k keep hs t B) {j : Int} : j ∈ hs ↔ ∃ x ∈ l k, keep x = false ∧ x.1 = j := by
  rw [L.pm.mem_iff, List.mem_map]
  constructor
  · rintro ⟨x, hx, e⟩
    obtain ⟨a, b⟩ := List.mem_filter.1 hx
    exact ⟨x, a, by simpa using b, e⟩
  · rintro ⟨x, a, b, e⟩
    exact ⟨x, List.mem_filter.2 ⟨a, by rw [b]; rfl⟩, e⟩

theorem nodup_inj {xs : List (Int × Int)} (h : (xs.map Prod.fst).Nodup) : ∀ {x y : Int × Int}, x ∈ xs → y ∈ xs → x.1 = y.1 → x = y := by
  induction xs with
  | nil => intro x y hx; cases hx
  | cons z xs ih =>
    intro x y hx hy e
    obtain ⟨n1, n2⟩ := List.nodup_cons.1 (show (z.1 :: xs.map Prod.fst).Nodup from h)
    rcases List.mem_cons.1 hx with e1 | hx <;> rcases List.mem_cons.1 hy with e2 | hy
    · rw [e1, e2]
    · exact (n1 (List.mem_map.2 ⟨y, hy, by rw [← e, e1]⟩)).elim
    · exact (n1 (List.mem_map.2 ⟨x, hx, by rw [e, e2]⟩)).elim
    · exact ih n2 hx hy e

/-- What stays is as it was. -/
theorem GI.lkd (X : GI A g m S l) {keep : Int × Int → Bool} {hs : List Int} {t : Nat} (kb : 0 ≤ k ∧ k < g.w) (L : Lkd A g m S l k keep hs t B) : GI B g m (frS k S hs) (setL l k ((l k).filter keep)) := by
  have us := L.us
  have mem : ∀ {j x}, x ∈ setL l k ((l k).filter keep) j → x ∈ l j ∧ (j = k → keep x = true) := fun {j x} hx => by
    by_cases e : j = k
    · rw [e, setL_same] at hx
      obtain ⟨a, b⟩ := List.mem_filter.1 hx
      exact ⟨by rw [e]; exact a, fun _ => b⟩
    · rw [setL_ne l _ e] at hx
      exact ⟨hx, fun h => (e h).elim⟩
  have hsz : szs ((l k).map Prod.fst) = szs (((l k).filter keep).map Prod.fst) + szs hs := by
    rw [szs_perm L.pm]
    have : ∀ xs : List (Int × Int), szs (xs.map Prod.fst) = szs ((xs.filter keep).map Prod.fst) + szs ((xs.filter fun x => !keep x).map Prod.fst) := fun xs => by
      induction xs with
      | nil => rfl
      | cons x xs ih =>
        rw [List.filter_cons, List.filter_cons]
        cases keep x with
        | true => show sizeF (opC x.1) + _ = (sizeF (opC x.1) + _) + _; simp only [Bool.not_true]; simp only [Bool.false_eq_true, if_false]; omega
        | false => show sizeF (opC x.1) + _ = _ + (sizeF (opC x.1) + _); simp only [Bool.false_eq_true, if_false]; omega
    exact this _
  have tR := X.nR
  refine ⟨L.wf, L.sl, L.fa.trans X.fa, X.ta, X.wb, by rw [L.rl]; exact X.rl, by rw [L.rl]; exact X.rb, fun j x hx => ?_, fun j => ?_, fun j i x y hx hy e => X.dj j i x y (mem hx).1 (mem hy).1 e, fun j hj => ?_, ?_, by rw [L.nL]; exact X.l0, ?_, fun he j x hx => X.ze he j x (mem hx).1, fun he => ?_, fun he j x hx => ?_⟩
  · obtain ⟨a, b⟩ := mem hx
    rw [L.st, if_neg fun hm => ?_]
    · exact X.st j x a
    · obtain ⟨y, y1, y2, y3⟩ := L.gone.1 hm
      have ej := X.dj j k x y a y1 y3.symm
      subst ej
      have := nodup_inj (X.nd j) y1 a y3
      rw [this, b rfl] at y2; cases y2
  · by_cases e : j = k
    · rw [e, setL_same]; exact ((List.filter_sublist (l := l k) (p := keep)).map Prod.fst).nodup (X.nd k)
    · rw [setL_ne l _ e]; exact X.nd j
  · by_cases e : j = k
    · rw [e]; exact kb
    · rw [setL_ne l _ e] at hj; exact X.rg j hj
  · rw [L.nR, tR, totR_set kb.1 (by omega)]; omega
  · have := szs_nn hs; have := X.nu; have := L.nL; have := L.nR; omega
  · obtain ⟨e1, e2, e3, _⟩ := L.ep he
    have := X.eb he; omega
  · obtain ⟨e1, e2, e3, _⟩ := L.ep he
    have := X.es he j x (mem hx).1; omega

/-- A handle is retired. -/
theorem GI.retire (X : GI A g m S l) (hu : A.uses ≤ 1000000000) (kb : 0 ≤ k ∧ k < g.w) (hs : A.stF h = 1) (hz : sizeF (opC h) ≤ A.nL) {s : Int} (hs0 : g.ep = false → s = 0) (hs1 : g.ep = true → 0 ≤ s ∧ s ≤ A.rawF g.ta) :
    GI (A.retireF h) g m S (setL l k (l k ++ [(h, s)])) ∧ (∀ j, (A.retireF h).stF j = if j = h then 2 else A.stF j) ∧ (A.retireF h).nL = A.nL - sizeF (opC h) ∧ Off 0 0 A (A.retireF h) := by
  have sz := sz_op h
  have us := X.sl.F.us
  have nu := X.nu
  have l0 := X.l0
  have r0 : 0 ≤ A.nR := by rw [X.nR]; exact totR_nn _ _
  obtain ⟨Y, yst, yL, yR⟩ := X.sl.retire hu hs ⟨by omega, by omega⟩
  have ro := Off.retireF (c := 0) X.wf h
  have ru := ro.us
  obtain ⟨p1, p2, p3, p4, p5⟩ := X.sl.places
  have wb := X.wb
  have mb := X.sl.mb
  have ta := X.ta
  have hta : (A.retireF h).rawF g.ta = A.rawF g.ta := ro.rw _ (by omega)
  have nh : ∀ j x, x ∈ l j → x.1 ≠ h := fun j x hx e => by have := X.st j x hx; rw [e, hs] at this; cases this
  have mem : ∀ {j x}, x ∈ setL l k (l k ++ [(h, s)]) j → x ∈ l j ∨ (j = k ∧ x = (h, s)) := fun {j x} hx => by
    by_cases e : j = k
    · rw [e, setL_same] at hx
      rcases List.mem_append.1 hx with hx | hx
      · exact .inl (by rw [e]; exact hx)
      · exact .inr ⟨e, by simpa using hx⟩
    · rw [setL_ne l _ e] at hx; exact .inl hx
  have tR := X.nR
  refine ⟨⟨ro.wf, Y, ro.fa.trans X.fa, X.ta, X.wb, by rw [ro.rl]; exact X.rl, by rw [ro.rl]; exact X.rb, fun j x hx => ?_, fun j => ?_, fun j i x y hx hy e => ?_, fun j hj => ?_, ?_, ?_, ?_, fun he j x hx => ?_, fun he => ?_, fun he j x hx => ?_⟩, yst, yL, ro⟩
  · rw [yst]
    rcases mem hx with hx | ⟨_, rfl⟩
    · rw [if_neg (nh j x hx)]; exact X.st j x hx
    · rw [if_pos rfl]
  · by_cases e : j = k
    · rw [e, setL_same, List.map_append]
      refine List.nodup_append.2 ⟨X.nd k, by simp, fun a ha b hb e => ?_⟩
      obtain ⟨x, hx, rfl⟩ := List.mem_map.1 ha
      have hb : b = h := by simpa using hb
      exact nh k x hx (e.trans hb)
    · rw [setL_ne l _ e]; exact X.nd j
  · rcases mem hx with hx | ⟨ej, rfl⟩ <;> rcases mem hy with hy | ⟨ei, rfl⟩
    · exact X.dj j i x y hx hy e
    · exact (nh j x hx e).elim
    · exact (nh i y hy e.symm).elim
    · omega
  · by_cases e : j = k
    · rw [e]; exact kb
    · rw [setL_ne l _ e] at hj; exact X.rg j hj
  · rw [yR, tR, totR_set kb.1 (by omega), List.map_append, szs_append]
    show _ = _ + (_ + (sizeF (opC h) + 0)); omega
  · omega
  · omega
  · rcases mem hx with hx | ⟨_, rfl⟩
    · exact X.ze he j x hx
    · exact hs0 he
  · have := X.eb he; rw [hta, ru]; omega
  · rw [hta]
    rcases mem hx with hx | ⟨_, rfl⟩
    · exact X.es he j x hx
    · exact hs1 he

/-! ### Runs of look -/
variable {q mq : Nat}

theorem tn_lift {n : Nat} {u u' : Tn} {ls : Int → List (Int × Int)} {work T : Int} (hl : (ls work).length ≤ 1000) (wb : 1 ≤ g.w ∧ g.w ≤ 1000) (h : mTn.Runs n u A u' B) (hm : u.left.length ≤ 1000) :
    (T = 0 → (mLk q mq).Runs n ⟨g, ls, work, false, T, .tn u⟩ A (Lk.end_ ⟨g, ls, work, false, T, .tn u'⟩) B) ∧ (T ≠ 0 → (mLk q mq).Path n ⟨g, ls, work, false, T, .tn u⟩ A (Lk.end_ ⟨g, ls, work, false, T, .tn u'⟩) B) := by
  have st : ∀ (m : Tn) (A : Ar) (m1 : Tn) (A1 : Ar), mTn.step m A = (m1, A1) → Lk.step ⟨g, ls, work, false, T, .tn m⟩ A = (if decide (4 ≤ m1.ph) = true then Lk.end_ ⟨g, ls, work, false, T, .tn m1⟩ else ⟨g, ls, work, false, T, .tn m1⟩, A1) := fun m A m1 A1 h => by
    have h : m.step A = (m1, A1) := h
    show (if decide (4 ≤ (m.step A).1.ph) = true then Lk.end_ ⟨g, ls, work, false, T, .tn (m.step A).1⟩ else ⟨g, ls, work, false, T, .tn (m.step A).1⟩, (m.step A).2) = _
    rw [h]
  induction h with
  | @one m A m1 A1 hi hst hu hf =>
    have hf : decide (4 ≤ m1.ph) = true := hf
    have s1 : (mLk q mq).step ⟨g, ls, work, false, T, .tn m⟩ A = (Lk.end_ ⟨g, ls, work, false, T, .tn m1⟩, A1) := (st m A m1 A1 hst).trans (by rw [if_pos hf])
    refine ⟨fun e => .one ⟨hl, fun h => (by cases h), wb, ⟨hi, hm⟩⟩ s1 hu ?_, fun e => .cons ⟨hl, fun h => (by cases h), wb, ⟨hi, hm⟩⟩ s1 hu ?_ .nil⟩
    · show (T == 0) = true; rw [e]; rfl
    · show (T == 0) = false; simpa using e
  | @more n m A m1 A1 m' A' hi hst hu hf hr ih =>
    have hf : decide (4 ≤ m1.ph) = false := hf
    have hl1 : m1.left.length ≤ 1000 := by
      have := m.left_step A hi.ll hm
      have h : m.step A = (m1, A1) := hst
      rwa [h] at this
    have s1 : (mLk q mq).step ⟨g, ls, work, false, T, .tn m⟩ A = (⟨g, ls, work, false, T, .tn m1⟩, A1) := (st m A m1 A1 hst).trans (by rw [if_neg (by rw [hf]; decide)])
    obtain ⟨i1, i2⟩ := ih hl1
    exact ⟨fun e => .more (x1 := ⟨g, ls, work, false, T, .tn m1⟩) ⟨hl, fun h => (by cases h), wb, ⟨hi, hm⟩⟩ s1 hu rfl (i1 e), fun e => .cons (x1 := ⟨g, ls, work, false, T, .tn m1⟩) ⟨hl, fun h => (by cases h), wb, ⟨hi, hm⟩⟩ s1 hu rfl (i2 e)⟩

theorem sc_lift' {n : Nat} {u u' : Sc} {ls : Int → List (Int × Int)} {work : Int} (hl : (ls work).length ≤ 1000) (wb : 1 ≤ g.w ∧ g.w ≤ 1000) (h : mSc.Runs n u A u' B) (hm : u.left.length ≤ 1000) :
    (mLk q mq).Runs n ⟨g, ls, work, false, 0, .sc u⟩ A (Lk.end_ ⟨g, ls, work, false, 0, .sc u'⟩) B := by
  have st : ∀ (m : Sc) (A : Ar) (m1 : Sc) (A1 : Ar), mSc.step m A = (m1, A1) → Lk.step ⟨g, ls, work, false, 0, .sc m⟩ A = (if m1.ended = true then Lk.end_ ⟨g, ls, work, false, 0, .sc m1⟩ else ⟨g, ls, work, false, 0, .sc m1⟩, A1) := fun m A m1 A1 h => by
    have h : m.step A = (m1, A1) := h
    show (if (m.step A).1.ended = true then Lk.end_ ⟨g, ls, work, false, 0, .sc (m.step A).1⟩ else ⟨g, ls, work, false, 0, .sc (m.step A).1⟩, (m.step A).2) = _
    rw [h]
  induction h with
  | @one m A m1 A1 hi hst hu hf =>
    have hf : m1.ended = true := hf
    refine .one ⟨hl, fun h => (by cases h), wb, ⟨hi, hm⟩⟩ ?_ hu rfl
    exact (st m A m1 A1 hst).trans (by rw [if_pos hf])
  | @more n m A m1 A1 m' A' hi hst hu hf hr ih =>
    have hf : m1.ended = false := hf
    have hl1 : m1.left.length ≤ 1000 := by
      have := m.left_step A hi.ll hm
      have h : m.step A = (m1, A1) := hst
      rwa [h] at this
    refine .more (x1 := ⟨g, ls, work, false, 0, .sc m1⟩) ⟨hl, fun h => (by cases h), wb, ⟨hi, hm⟩⟩ ?_ hu rfl (ih hl1)
    exact (st m A m1 A1 hst).trans (by rw [if_neg (by rw [hf]; decide)])

theorem no_runs {n : Nat} {ls : Int → List (Int × Int)} {work t : Int} {z : Lk} (ht : 0 < t) (h : (mLk q mq).Runs n (Lk.begin ⟨g, ls, work, false, t, .no⟩) A z B) : (mLk q mq).Runs n ⟨g, ls, work, false, t, .no⟩ A z B := by
  have e1 : (mLk q mq).step ⟨g, ls, work, false, t, .no⟩ A = (mLk q mq).step (Lk.begin ⟨g, ls, work, false, t, .no⟩) A := by
    show (if 0 < t then Lk.begin ⟨g, ls, work, false, t, .no⟩ else ⟨g, ls, work, false, t, .no⟩ : Lk).mid A = (Lk.go (Lk.begin ⟨g, ls, work, false, t, .no⟩)).mid A
    rw [if_pos ht]
    have : Lk.go (Lk.begin ⟨g, ls, work, false, t, .no⟩) = Lk.begin ⟨g, ls, work, false, t, .no⟩ := by
      unfold Lk.begin Lk.go
      dsimp only
      split <;> rename_i hh <;> revert hh <;> split <;> simp
    rw [this]
  have iv : (mLk q mq).inv (Lk.begin ⟨g, ls, work, false, t, .no⟩) A → (mLk q mq).inv ⟨g, ls, work, false, t, .no⟩ A := fun hi => ⟨hi.ll, fun h => (by cases h), hi.wb, trivial⟩
  generalize hb : Lk.begin ⟨g, ls, work, false, t, .no⟩ = b at *
  cases h with
  | one hi hst hu hf => exact .one (iv hi) (e1.trans hst) hu hf
  | more hi hst hu hf hr => exact .more (iv hi) (e1.trans hst) hu hf hr
end
end Go.Proofs.Ytcjhakdopnamoaa

set_option linter.unusedVariables false
set_option linter.unusedSimpArgs false
set_option maxRecDepth 20000
namespace Go.Proofs.Ytcjhakdopnamoaa
open Go Go.Fw

section
variable {A B C : Ar} {g : Gd} {m : Int} {S : Sg} {l : Int → List (Int × Int)} {k h : Int} {q mq : Nat}

theorem GI.u0 (X : GI A g m S l) : 0 ≤ A.uses := X.sl.F.us
theorem GI.r0 (X : GI A g m S l) : 0 ≤ A.nR := by rw [X.nR]; exact totR_nn _ _
theorem GI.c0 (X : GI A g m S l) : 0 ≤ g.pl.carved := by
  obtain ⟨p1, p2, p3, p4, p5⟩ := X.sl.places
  have := X.wb; have := X.sl.mb; omega

theorem GI.later (X : GI A g m S l) {n : Int} (hn : 0 ≤ n) : GI (A.later n) g m S l :=
  ⟨later_wf X.wf n, X.sl.later hn, X.fa, X.ta, X.wb, X.rl, X.rb, fun k x hx => by rw [stF_slots (B := A.later n) (A := A) rfl]; exact X.st k x hx, X.nd, X.dj, X.rg, X.nR, X.l0, by have := X.nu; show A.nL + A.nR ≤ 64 * (A.uses + n); omega, X.ze,
    fun he => by have := X.eb he; show 0 ≤ A.rawF g.ta ∧ A.rawF g.ta ≤ A.uses + n; omega, X.es⟩

/-- A word that is no part of the slab, nor the global epoch. -/
theorem GI.out (X : GI A g m S l) {i v : Int} (O : OutS A g.pl g.w m S i v B) (hw : B.wf) (hi : g.ep = true → i ≠ g.ta) : GI B g m S l :=
  ⟨hw, O.sl, O.fa.trans X.fa, X.ta, X.wb, by rw [O.rl]; exact X.rl, by rw [O.rl]; exact X.rb, fun k x hx => by rw [O.st]; exact X.st k x hx, X.nd, X.dj, X.rg, O.nR.trans X.nR, by rw [O.nL]; exact X.l0, by have := X.nu; have := O.nL; have := O.nR; have := O.us; omega, X.ze,
    fun he => by have := X.eb he; have := O.us; have r := O.rf g.ta; rw [if_neg (fun e => hi he e.symm)] at r; omega, fun he => by have r := O.rf g.ta; rw [if_neg (fun e => hi he e.symm)] at r; rw [r]; exact X.es he⟩

theorem GI.alloc {who c : Int} {n : Nat} {x : Al} {S' : Sg} (X : GI A g m S l) (hc : 0 ≤ c ∧ c < 4) (Z : Alloced A g.pl g.w m S who c n x B S') : GI B g m S' l := by
  have off := Z.off
  have us := off.us
  have sz := sz_pos hc.1 hc.2
  have n1 : 1 ≤ n := by
    have := Z.run
    cases this <;> omega
  have hta : B.rawF g.ta = A.rawF g.ta := off.rw _ X.ta
  have nL := Z.nL
  have nL2 : A.nL ≤ B.nL ∧ B.nL ≤ A.nL + 64 := by rw [nL]; split <;> omega
  refine ⟨off.wf, Z.sl, off.fa.trans X.fa, X.ta, X.wb, by rw [off.rl]; exact X.rl, by rw [off.rl]; exact X.rb, fun k y hy => ?_, X.nd, X.dj, X.rg, Z.nR.trans X.nR, by have := X.l0; omega, by have := X.nu; have := Z.nR; omega, X.ze, fun he => ?_, fun he => by rw [hta]; exact X.es he⟩
  · have h2 := X.st k y hy
    rw [Z.st, if_neg fun e => ?_]
    · exact h2
    · have := (Z.hd e.1).2.2
      rw [← e.2, h2] at this; cases this
  · have := X.eb he; rw [hta]; omega

theorem filt_perm (p r : Int × Int → Bool) (hp : ∀ x, p x = false → r x = false) : ∀ xs : List (Int × Int), ((xs.filter fun x => !p x) ++ ((xs.filter p).filter fun x => !r x)).Perm (xs.filter fun x => !r x)
  | [] => .nil
  | x :: xs => by
    have ih := filt_perm p r hp xs
    cases hx : p x with
    | false =>
      have hr := hp x hx
      simp only [List.filter_cons, hx, hr, Bool.not_false, if_true, Bool.false_eq_true, if_false, List.cons_append]
      exact ih.cons x
    | true =>
      cases hr : r x with
      | true => simpa only [List.filter_cons, hx, hr, Bool.not_true, if_true, Bool.false_eq_true, if_false] using ih
      | false =>
        simp only [List.filter_cons, hx, hr, Bool.not_true, Bool.not_false, if_true, Bool.false_eq_true, if_false]
        exact List.perm_middle.trans (ih.cons x)
theorem filt_filt (p r : Int × Int → Bool) (hp : ∀ x, p x = false → r x = false) (xs : List (Int × Int)) : (xs.filter p).filter r = xs.filter r := by
  rw [List.filter_filter]
  refine List.filter_congr fun x _ => ?_
  cases hx : p x with
  | true => simp
  | false => rw [hp x hx]; rfl

theorem due_mono {e1 e2 : Int} (h : e1 ≤ e2) {x : Int × Int} (hd : due e1 x = true) : due e2 x = true := by
  unfold due at *
  have := of_decide_eq_true hd
  exact decide_eq_true (by omega)

theorem Lkd.comp {e1 : Int} {keep2 : Int × Int → Bool} {hs1 hs2 : List Int} {t : Nat} (he : g.ep = true) (hta : g.pl.carved < g.ta) (L1 : Lkd A g m S l k (fun x => !due e1 x) hs1 1 B)
    (L2 : Lkd B g m (frS k S hs1) (setL l k ((l k).filter fun x => !due e1 x)) k keep2 hs2 t C) (h1 : B.rawF g.ta = e1) : Lkd A g m S l k keep2 (hs1 ++ hs2) (t + 1) C ∧ ((l k).filter fun x => !due e1 x).filter keep2 = (l k).filter keep2 := by
  obtain ⟨a1, a2, a3, a4⟩ := L1.ep he
  obtain ⟨b1, b2, b3, b4⟩ := L2.ep he
  have hk : ∀ x, (fun x => !due e1 x) x = false → keep2 x = false := fun x hx => by
    rw [b4]
    have h1' : due e1 x = true := by simpa using hx
    show (!due _ x) = false
    rw [due_mono (by omega) h1']; rfl
  have ff := filt_filt _ _ hk (l k)
  have pm2 := L2.pm
  have u2 := L2.us
  have u1 := L1.us
  rw [setL_same] at pm2 u2
  rw [ff] at u2
  refine ⟨⟨?_, L2.wf, L1.al.trans L2.al, L2.wd.trans L1.wd, L2.fa.trans L1.fa, L2.fr.trans L1.fr, L2.rl.trans L1.rl, by rw [frS_append]; exact L2.sl, fun j => ?_, L2.nL.trans L1.nL, by rw [L2.nR, L1.nR, szs_append]; omega, fun i hi hn => (L2.rw i hi hn).trans (L1.rw i hi hn), ?_, fun h => (by rw [he] at h; cases h), fun _ => ⟨by omega, by omega, b3, b4⟩, fun _ hw => ?_, fun _ i v hi hv v0 hva => ?_⟩, ff⟩
  · have h4 := (filt_perm _ _ hk (l k)).map Prod.fst
    rw [List.map_append] at h4
    exact (L1.pm.append pm2).trans h4
  · rw [L2.st, L1.st]
    by_cases e1 : j ∈ hs2
    · rw [if_pos e1, if_pos (List.mem_append_right _ e1)]
    · rw [if_neg e1]
      by_cases e2 : j ∈ hs1
      · rw [if_pos e2, if_pos (List.mem_append_left _ e2)]
      · rw [if_neg e2, if_neg (fun h => (List.mem_append.1 h).elim e2 e1)]
  · refine ⟨by omega, ?_⟩
    have e1 : ((t + 1 : Nat) : Int) = t + 1 := by omega
    rw [e1]; omega
  · have f1 := L1.free he hw
    have f2 := L2.free he fun i hi => by rw [L1.rw _ (by omega) (by omega)]; exact hw i hi
    have e1 : ((t + 1 : Nat) : Int) = t + 1 := by omega
    rw [e1]; omega
  · refine L2.held he i v hi ?_ v0 (L1.held he i v hi hv v0 hva)
    rw [L1.rw _ (by omega) (by omega)]; exact hv

/-- One turn. -/
theorem turn1 (X : GI A g m S l) (he : g.ep = true) (kb : 0 ≤ k ∧ k < g.w) (ll : (l k).length ≤ 200) (hu : A.uses ≤ 700000) :
    ∃ e1 A' m' n, mTn.Runs n (newTn g.w g.ta g.pl k (l k)) A m' A' ∧ (n ≤ 800 ∧ (n : Int) ≤ 2 + g.w + 3 * (l k).length) ∧ m'.left = tleft e1 (l k) ∧ A'.rawF g.ta = e1 ∧ Lkd A g m S l k (fun x => !due e1 x) (tgone e1 (l k)) 1 A' := by
  have wb := X.wb
  have c0 := X.c0
  have ta := X.ta
  have rl := X.rl
  rw [he] at rl
  have rl : g.ta + (1 + g.w) ≤ A.raw.length := rl
  have u0 := X.u0
  have eb := X.eb he
  have hle := totR_le (ls := l) kb.1 (n := g.w.toNat) (by omega)
  obtain ⟨e1, B, A', m', n, run, hn, ml, mp, T, W⟩ := turnG (xs := l k) (tw := g.w) (ta := g.ta) (who := k) (e := A.rawF g.ta) X.sl X.wf ⟨by omega, by omega⟩ (by omega) ta (by omega) X.rb (by omega) rfl ⟨by omega, by omega⟩ kb (X.nd k) (by rw [X.nR]; exact hle) fun x hx => X.st k x hx
  have off := W.off
  have us := off.us
  have tu := T.us
  have hta : A'.rawF g.ta = e1 := by rw [off.rw _ ta, T.rw, if_pos rfl]
  have lk := len_keep (l k) fun x => !due e1 x
  have ed : ((l k).filter fun x => !!due e1 x) = (l k).filter (due e1) := List.filter_congr fun x _ => by simp
  rw [ed] at lk
  have lg : (tgone e1 (l k)).length = ((l k).filter (due e1)).length := by unfold tgone; rw [List.length_map]
  have ei := T.ei
  refine ⟨e1, A', m', n, run, ⟨by omega, hn⟩, ml, hta, ⟨by rw [ed]; exact .refl _, off.wf, T.al.trans off.al, off.wd.trans T.wd, off.fa.trans T.fa, off.fr.trans T.fr, off.rl.trans T.rl, W.sl, fun j => by rw [W.st, T.st], W.nL.trans T.nL, by rw [W.nR, T.nR], fun i hi hn => by rw [off.rw i hi, T.rw, if_neg hn], ⟨by omega, by omega⟩, fun h => (by rw [he] at h; cases h), fun _ => ⟨by omega, by omega, by omega, by rw [hta]⟩, fun _ hw => ?_, fun _ i v hi hv v0 hva => ?_⟩⟩
  · rw [hta, T.up fun i hi => .inl (hw i hi)]; rfl
  · rw [hta]
    rcases ei with h | h
    · omega
    · rcases T.dn h i hi with h2 | h2 <;> omega

/-- A look by hazards. -/
theorem haz_look (X : GI A g m S l) (he : g.ep = false) (kb : 0 ≤ k ∧ k < g.w) (ll : (l k).length ≤ 200) (hu : A.uses ≤ 700000) :
    ∃ keep hs n A', (mLk q mq).Runs n (Lk.begin ⟨g, l, k, false, 1, .no⟩) A ⟨g, setL l k ((l k).filter keep), k, false, 0, .no⟩ A' ∧ (n ≤ 800 ∧ (n : Int) ≤ 2 * g.w + 3 * (l k).length) ∧ Lkd A g m S l k keep hs 1 A' := by
  have wb := X.wb
  have c0 := X.c0
  have ta := X.ta
  have rl := X.rl
  rw [he] at rl
  have rl : g.ta + 2 * g.w ≤ A.raw.length := rl
  have u0 := X.u0
  have hle := totR_le (ls := l) kb.1 (n := g.w.toNat) (by omega)
  obtain ⟨A', m', n, run, en, ml, me, W⟩ := scanG (xs := (l k).map Prod.fst) (tw := g.w) (ta := g.ta) (who := k) X.sl X.wf ⟨by omega, by omega⟩ (by rw [List.length_map]; omega) (by omega) rl X.rb (by omega) kb (X.nd k) (by rw [X.nR]; exact hle) fun h hh => by
    obtain ⟨x, hx, rfl⟩ := List.mem_map.1 hh
    exact X.st k x hx
  obtain ⟨keep, hk⟩ : ∃ keep : Int × Int → Bool, keep = fun x => inS (seenN A g.ta (2 * g.w).toNat) x.1 := ⟨_, rfl⟩
  have eg : gone A g.w g.ta ((l k).map Prod.fst) = ((l k).filter fun x => !keep x).map Prod.fst := by
    unfold gone; rw [List.filter_map, hk]; rfl
  have el : lft A g.w g.ta ((l k).map Prod.fst) = ((l k).filter keep).map Prod.fst := by
    unfold lft; rw [List.filter_map, hk]; rfl
  have lk := len_keep (l k) keep
  have lg : (gone A g.w g.ta ((l k).map Prod.fst)).length + ((l k).filter keep).length = (l k).length := by rw [eg, List.length_map]; omega
  have off := W.off
  have us := off.us
  have us2 : (A.later (2 * g.w)).uses = A.uses + 2 * g.w := rfl
  have lift := sc_lift' (g := g) (q := q) (mq := mq) (ls := l) (work := k) (by omega) ⟨by omega, by omega⟩ run (Nat.zero_le 1000)
  have eend : Lk.end_ ⟨g, l, k, false, 0, .sc m'⟩ = ⟨g, setL l k ((l k).filter keep), k, false, 0, .no⟩ := by
    show Lk.mk g (setL l k (m'.left.map fun h => (h, (0 : Int)))) k false 0 .no = _
    rw [ml, el, List.map_map]
    have : ∀ xs : List (Int × Int), (∀ x ∈ xs, x.2 = 0) → xs.map ((fun h => (h, (0 : Int))) ∘ Prod.fst) = xs := fun xs hx => by
      induction xs with
      | nil => rfl
      | cons x xs ih =>
        rw [List.map_cons, ih fun y hy => hx y (List.mem_cons_of_mem _ hy)]
        have := hx x List.mem_cons_self
        obtain ⟨a, b⟩ := x
        have this : b = 0 := this
        rw [this]; rfl
    rw [this _ fun x hx => X.ze he k x (List.mem_filter.1 hx).1]
  rw [eend] at lift
  have ebeg : Lk.begin ⟨g, l, k, false, 1, .no⟩ = ⟨g, l, k, false, 0, .sc (newSc g.w g.ta g.pl k ((l k).map Prod.fst))⟩ := by
    unfold Lk.begin
    rw [if_neg (by show ¬ g.ep = true; rw [he]; decide)]
    rfl
  rw [ebeg]
  refine ⟨keep, _, n, A', lift, ⟨by omega, by omega⟩, ⟨by rw [eg], off.wf, (later_alike A _).trans off.al, off.wd, off.fa, off.fr, off.rl, W.sl, W.st, W.nL, W.nR, fun i hi _ => off.rw i hi, ⟨by omega, by omega⟩, fun _ => ⟨off.rw _ ta, fun x => ?_⟩, fun h => (by rw [he] at h; cases h), fun h => (by rw [he] at h; cases h), fun h => (by rw [he] at h; cases h)⟩⟩
  rw [hk]
  refine (seenN_in A g.ta x.1 _).trans ⟨?_, ?_⟩
  · rintro ⟨i, a, b⟩; exact ⟨i, by omega, b⟩
  · rintro ⟨i, a, b⟩; exact ⟨i, by omega, b⟩

/-- Looks by epochs. -/
theorem ep_look (he : g.ep = true) (kb : 0 ≤ k ∧ k < g.w) : ∀ (t : Nat) (A : Ar) (S : Sg) (l : Int → List (Int × Int)), GI A g m S l → t ≤ 2 → (l k).length ≤ 200 → A.uses + 1000 * t ≤ 700000 →
    ∃ keep hs n A', (mLk q mq).Runs n (Lk.begin ⟨g, l, k, false, ((t + 1 : Nat) : Int), .no⟩) A ⟨g, setL l k ((l k).filter keep), k, false, 0, .no⟩ A' ∧ (n ≤ 800 * (t + 1) ∧ (t = 0 → (n : Int) ≤ 2 + g.w + 3 * (l k).length)) ∧ Lkd A g m S l k keep hs (t + 1) A' := by
  intro t
  induction t with
  | zero =>
    intro A S l X ht ll hu
    obtain ⟨e1, A', m', n, run, hn, ml, mp, L⟩ := turn1 X he kb ll (by omega)
    obtain ⟨i1, _⟩ := tn_lift (g := g) (q := q) (mq := mq) (ls := l) (work := k) (T := 0) (by omega) ⟨by have := X.wb; omega, by have := X.wb; omega⟩ run (Nat.zero_le 1000)
    refine ⟨_, _, n, A', ?_, ⟨by omega, fun _ => hn.2⟩, L⟩
    have eb : Lk.begin ⟨g, l, k, false, ((0 + 1 : Nat) : Int), .no⟩ = ⟨g, l, k, false, 0, .tn (newTn g.w g.ta g.pl k (l k))⟩ := by
      unfold Lk.begin
      rw [if_pos (show (Lk.mk g l k false ((0 + 1 : Nat) : Int) .no).g.ep = true from he)]; rfl
    rw [eb]
    have := i1 rfl
    rw [show Lk.end_ ⟨g, l, k, false, 0, .tn m'⟩ = ⟨g, setL l k m'.left, k, false, 0, .no⟩ from rfl, ml] at this
    exact this
  | succ t ih =>
    intro A S l X ht ll hu
    obtain ⟨e1, A1, m', n, run, hn, ml, mp, L⟩ := turn1 X he kb ll (by omega)
    have wb := X.wb
    obtain ⟨_, i2⟩ := tn_lift (g := g) (q := q) (mq := mq) (ls := l) (work := k) (T := ((t + 1 : Nat) : Int)) (by omega) ⟨by omega, by omega⟩ run (Nat.zero_le 1000)
    have eb : Lk.begin ⟨g, l, k, false, ((t + 1 + 1 : Nat) : Int), .no⟩ = ⟨g, l, k, false, ((t + 1 : Nat) : Int), .tn (newTn g.w g.ta g.pl k (l k))⟩ := by
      unfold Lk.begin
      rw [if_pos (show (Lk.mk g l k false ((t + 1 + 1 : Nat) : Int) .no).g.ep = true from he)]
      have : w64 (((t + 1 + 1 : Nat) : Int) - 1) = ((t + 1 : Nat) : Int) := by rw [w64_in (by omega) (by omega)]; omega
      show Lk.mk g l k false (w64 (((t + 1 + 1 : Nat) : Int) - 1)) _ = _
      rw [this]
    have pth := i2 (by omega)
    rw [show Lk.end_ ⟨g, l, k, false, ((t + 1 : Nat) : Int), .tn m'⟩ = ⟨g, setL l k m'.left, k, false, ((t + 1 : Nat) : Int), .no⟩ from rfl, ml] at pth
    have X1 := X.lkd kb L
    have us1 := L.us
    have lk := len_keep (l k) fun x => !due e1 x
    obtain ⟨keep, hs2, n2, A2, r2, hn2, L2⟩ := ih A1 _ _ X1 (by omega) (by rw [setL_same]; omega) (by omega)
    obtain ⟨Lc, fc⟩ := Lkd.comp he X.ta L L2 mp
    refine ⟨keep, _, n + n2, A2, ?_, ⟨by have := hn.1; have := hn2.1; omega, fun h => (by cases h)⟩, Lc⟩
    rw [eb]
    have r3 := pth.run (no_runs (by omega) r2)
    rw [setL_same, setL_setL, fc] at r3
    exact r3
end
end Go.Proofs.Ytcjhakdopnamoaa

set_option linter.unusedVariables false
set_option linter.unusedSimpArgs false
set_option maxRecDepth 20000
namespace Go.Proofs.Ytcjhakdopnamoaa
open Go Go.Fw

/-- How a machine of the guard, or none, goes to its end. -/
def RunO (q mq : Nat) (o : Option Lk) (g : Gd) (k : Int) (A : Ar) (l0 l' : Int → List (Int × Int)) (A' : Ar) : Prop := match o with
  | none => A' = A ∧ l' = l0
  | some x => ∃ n, n ≤ 2500 ∧ (mLk q mq).Runs n x A ⟨g, l', k, false, 0, .no⟩ A'

def RunB (bd : Int) (q mq : Nat) (o : Option Lk) (g : Gd) (k : Int) (A : Ar) (l0 l' : Int → List (Int × Int)) (A' : Ar) : Prop := match o with
  | none => A' = A ∧ l' = l0
  | some x => ∃ n : Nat, (n : Int) ≤ bd ∧ (mLk q mq).Runs n x A ⟨g, l', k, false, 0, .no⟩ A'
theorem RunB.o {bd : Int} (hb : bd ≤ 2500) {q mq : Nat} {o : Option Lk} {g : Gd} {k : Int} {A : Ar} {l0 l' : Int → List (Int × Int)} {A' : Ar} (h : RunB bd q mq o g k A l0 l' A') : RunO q mq o g k A l0 l' A' := by
  cases o with
  | none => exact h
  | some x => obtain ⟨n, hn, r⟩ := h; exact ⟨n, by omega, r⟩

/-- Retired; perhaps the epoch was read. -/
structure Ret1 (A : Ar) (h : Int) (A1 : Ar) : Prop where
  al : Ar.Alike A A1
  wd : A1.words = A.words
  fa : A1.fault = A.fault
  fr : A1.fresh = A.fresh
  rl : A1.raw.length = A.raw.length
  rw : ∀ i, 0 < i → A1.rawF i = A.rawF i
  st : ∀ j, A1.stF j = if j = h then 2 else A.stF j
  nL : A1.nL = A.nL - sizeF (opC h)
  us : A.uses ≤ A1.uses ∧ A1.uses ≤ A.uses + 1

def sinceF (g : Gd) (A : Ar) : Int := if g.ep = true then A.rawF g.ta else 0

section
variable {A B C : Ar} {g : Gd} {m : Int} {S : Sg} {l : Int → List (Int × Int)} {k h : Int} {q mq : Nat}

theorem GI.look (X : GI A g m S l) (kb : 0 ≤ k ∧ k < g.w) (ll : (l k).length ≤ 200) (hu : A.uses ≤ 690000) {t : Nat} (h1 : 1 ≤ t) (h3 : t ≤ 3) (ht : g.ep = false → t = 1) :
    ∃ keep hs n A', (mLk q mq).Runs n (Lk.begin ⟨g, l, k, false, (t : Int), .no⟩) A ⟨g, setL l k ((l k).filter keep), k, false, 0, .no⟩ A' ∧ (n ≤ 800 * t ∧ (t = 1 → (n : Int) ≤ 2 + 2 * g.w + 3 * (l k).length)) ∧ Lkd A g m S l k keep hs t A' := by
  have wb := X.wb
  cases he : g.ep with
  | false =>
    obtain rfl := ht he
    obtain ⟨keep, hs, n, A', r, hn, L⟩ := haz_look (q := q) (mq := mq) X he kb ll (by omega)
    exact ⟨keep, hs, n, A', r, ⟨by have := hn.1; omega, fun _ => by have := hn.2; omega⟩, L⟩
  | true =>
    obtain ⟨t', rfl⟩ : ∃ t', t = t' + 1 := ⟨t - 1, by omega⟩
    obtain ⟨keep, hs, n, A', r, hn, L⟩ := ep_look (q := q) (mq := mq) he kb t' A S l X (by omega) ll (by omega)
    exact ⟨keep, hs, n, A', r, ⟨hn.1, fun h => by have := hn.2 (by omega); omega⟩, L⟩

theorem setLast_app (xs : List (Int × Int)) (h s v : Int) : setLast (xs ++ [(h, s)]) v = xs ++ [(h, v)] := by
  unfold setLast
  simp [List.getD]

/-- Retire, to its end. -/
theorem GI.retire_runB (X : GI A g m S l) (hu : A.uses ≤ 680000) (kb : 0 ≤ k ∧ k < g.w) (hs : A.stF h = 1) (hz : sizeF (opC h) ≤ A.nL) (ll : (l k).length ≤ 190) (th : 1 ≤ g.th) :
    ∃ A1 A' l' S', Ret1 A h A1 ∧ GI A1 g m S (setL l k (l k ++ [(h, sinceF g A)])) ∧ GI A' g m S' l' ∧ RunB (6 + 2 * g.w + 3 * (l k).length) q mq (retM g l k h) g k (A.retireF h) (setL l k (l k ++ [(h, 0)])) l' A' ∧
      ((((l k).length : Int) + 1 < g.th ∧ A' = A1 ∧ S' = S ∧ l' = setL l k (l k ++ [(h, sinceF g A)])) ∨
       (g.th ≤ ((l k).length : Int) + 1 ∧ ∃ keep gs, Lkd A1 g m S (setL l k (l k ++ [(h, sinceF g A)])) k keep gs 1 A' ∧ S' = frS k S gs ∧ l' = setL l k ((l k ++ [(h, sinceF g A)]).filter keep))) := by
  have wb := X.wb
  have u0 := X.u0
  have c0 := X.c0
  have ta := X.ta
  have rl := X.rl
  cases he : g.ep with
  | false =>
    have es : sinceF g A = 0 := by unfold sinceF; rw [if_neg (by rw [he]; decide)]
    rw [es]
    obtain ⟨Y, yst, yL, ro⟩ := X.retire (by omega) kb hs hz (s := 0) (fun _ => rfl) (fun h => (by rw [he] at h; cases h))
    have ru := ro.us
    have R1 : Ret1 A h (A.retireF h) := ⟨ro.al, ro.wd, ro.fa, ro.fr, ro.rl, ro.rw, yst, yL, ⟨by omega, by omega⟩⟩
    by_cases ht : g.th ≤ ((l k).length : Int) + 1
    · have hm : retM g l k h = some (retLk g l k h).begin := by unfold retM; rw [if_neg (by rw [he]; decide), if_pos ht]
      have hb : retLk g l k h = ⟨g, setL l k (l k ++ [(h, 0)]), k, false, 1, .no⟩ := by unfold retLk; rw [he, if_pos ht]
      obtain ⟨keep, gs, n, A', r, hn, L⟩ := Y.look (q := q) (mq := mq) kb (by rw [setL_same]; simp; omega) (by omega) (t := 1) (by decide) (by decide) (fun _ => rfl)
      rw [hm, hb]
      rw [setL_same, setL_setL] at r
      have Y2 := Y.lkd kb L
      rw [setL_same, setL_setL] at Y2
      have hn2 := hn.2 rfl
      rw [setL_same, List.length_append] at hn2
      exact ⟨_, A', _, _, R1, Y, Y2, ⟨n, by have : (n : Int) ≤ 2 + 2 * g.w + 3 * (((l k).length + 1 : Nat) : Int) := hn2; omega, r⟩, .inr ⟨ht, keep, gs, L, rfl, rfl⟩⟩
    · have hm : retM g l k h = none := by unfold retM; rw [if_neg (by rw [he]; decide), if_neg ht]
      rw [hm]
      exact ⟨_, _, _, S, R1, Y, Y, ⟨rfl, rfl⟩, .inl ⟨by omega, rfl, rfl, rfl⟩⟩
  | true =>
    rw [he] at rl
    have rl : g.ta + (1 + g.w) ≤ A.raw.length := rl
    have eb := X.eb he
    have es : sinceF g A = A.rawF g.ta := by unfold sinceF; rw [if_pos he]
    rw [es]
    obtain ⟨Y0, yst, yL, ro⟩ := X.retire (by omega) kb hs hz (s := A.rawF g.ta) (fun h => (by rw [he] at h; cases h)) (fun _ => ⟨eb.1, Int.le_refl _⟩)
    have ru := ro.us
    have Y := Y0.later (n := 1) (by decide)
    have R1 : Ret1 A h ((A.retireF h).later 1) := ⟨ro.al.trans (later_alike _ _), ro.wd, ro.fa, ro.fr, ro.rl, ro.rw, fun j => (stF_slots rfl j).trans (yst j), yL, ⟨by show A.uses ≤ (A.retireF h).uses + 1; omega, by show (A.retireF h).uses + 1 ≤ _; omega⟩⟩
    have hta : (A.retireF h).rawF g.ta = A.rawF g.ta := ro.rw _ (by omega)
    have hm : retM g l k h = some (retLk g l k h) := by unfold retM; rw [if_pos he]
    rw [hm]
    obtain ⟨T, hT⟩ : ∃ T : Int, T = if g.th ≤ ((l k).length : Int) + 1 then 1 else 0 := ⟨_, rfl⟩
    have hb : retLk g l k h = ⟨g, setL l k (l k ++ [(h, 0)]), k, true, T, .no⟩ := by unfold retLk; rw [he, hT]
    rw [hb]
    have hst : (mLk q mq).step ⟨g, setL l k (l k ++ [(h, 0)]), k, true, T, .no⟩ (A.retireF h) = (⟨g, setL l k (l k ++ [(h, A.rawF g.ta)]), k, false, T, .no⟩, (A.retireF h).later 1) := by
      show Lk.step ⟨g, setL l k (l k ++ [(h, 0)]), k, true, T, .no⟩ (A.retireF h) = _
      unfold Lk.step
      rw [if_pos rfl]
      show (Lk.mk g (setL (setL l k (l k ++ [(h, 0)])) k (setLast (setL l k (l k ++ [(h, 0)]) k) ((A.retireF h).rawF g.ta))) k false T .no, (A.retireF h).touchR g.ta) = _
      rw [setL_setL, setL_same, setLast_app, hta, tick_later (A := A.retireF h) ⟨by omega, by rw [ro.rl]; omega⟩ (by omega) (by omega)]
    have iv : (mLk q mq).inv ⟨g, setL l k (l k ++ [(h, 0)]), k, true, T, .no⟩ (A.retireF h) := ⟨by show (setL l k (l k ++ [(h, 0)]) k).length ≤ 1000; rw [setL_same]; simp; omega, fun _ => ⟨he, by show setL l k (l k ++ [(h, 0)]) k ≠ []; rw [setL_same]; simp, rfl⟩, ⟨by show 1 ≤ g.w; omega, by show g.w ≤ 1000; omega⟩, trivial⟩
    have hus : ((A.retireF h).later 1).uses ≤ w64 ((A.retireF h).uses + 1) := by
      show (A.retireF h).uses + 1 ≤ _; rw [w64_in (by omega) (by omega)]; exact Int.le_refl _
    by_cases ht : g.th ≤ ((l k).length : Int) + 1
    · rw [if_pos ht] at hT
      obtain ⟨keep, gs, n, A', r, hn, L⟩ := Y.look (q := q) (mq := mq) kb (by rw [setL_same]; simp; omega) (by show (A.retireF h).uses + 1 ≤ _; omega) (t := 1) (by decide) (by decide) (fun _ => rfl)
      rw [setL_same, setL_setL] at r
      have Y2 := Y.lkd kb L
      rw [setL_same, setL_setL] at Y2
      have hn2 := hn.2 rfl
      rw [setL_same, List.length_append] at hn2
      refine ⟨_, A', _, _, R1, Y, Y2, ⟨n + 1, by have : (n : Int) ≤ 2 + 2 * g.w + 3 * (((l k).length + 1 : Nat) : Int) := hn2; omega, .more iv hst hus ?_ ?_⟩, .inr ⟨ht, keep, gs, L, rfl, rfl⟩⟩
      · show (T == 0) = false; rw [hT]; rfl
      · rw [hT]; exact no_runs (by decide) r
    · rw [if_neg ht] at hT
      refine ⟨_, _, _, S, R1, Y, Y, ⟨1, by omega, ?_⟩, .inl ⟨by omega, rfl, rfl, rfl⟩⟩
      rw [hT] at hst iv ⊢
      exact .one iv hst hus rfl

/-- How often a forced look goes. -/
def forT (g : Gd) : Nat := if g.ep = true then 3 else 1

end
end Go.Proofs.Ytcjhakdopnamoaa

set_option linter.unusedVariables false
set_option linter.unusedSimpArgs false
set_option maxRecDepth 20000
namespace Go.Proofs.Ytcjhakdopnamoaa
open Go Go.Fw

def gdOf (ep : Bool) (w s th : Int) : Gd := ⟨ep, w, 4 * w + 2 * s + 1, plOf w (8 * s), imax 1 (imin th 64)⟩
/-- An arena with a guard's words behind the slab's. -/
structure GZ (I : List Nat) (A : Ar) (ep : Bool) (w s : Int) (S : Sg) : Prop where
  aw : Aw I A
  sl : SL A (plOf w (8 * s)) w (8 * s) S
  fa : A.fault = false
  rl : (A.raw.length : Int) = 4 * w + 2 * s + 1 + gwords ep w
  wb : 1 ≤ w ∧ w ≤ 9
  sb : 0 ≤ s ∧ s ≤ 120

section
variable {A B : Ar} {w s : Int} {S S' : Sg} {I : List Nat} {L : Hands} {R : Value → Heap → Prop} {G : Heap} {l : Bl} {ep : Bool}

theorem GZ.later (E : GZ I A ep w s S) {n : Int} (hn : 0 ≤ n) : GZ I (A.later n) ep w s S := ⟨later_aw E.aw n, E.sl.later hn, E.fa, E.rl, E.wb, E.sb⟩
theorem GZ.out (E : GZ I A ep w s S) {i v : Int} (hA : Aw I B) (O : OutS A (plOf w (8 * s)) w (8 * s) S i v B) : GZ I B ep w s S := ⟨hA, O.sl, O.fa.trans E.fa, by rw [O.rl]; exact E.rl, E.wb, E.sb⟩
end
end Go.Proofs.Ytcjhakdopnamoaa

set_option linter.unusedVariables false
set_option maxRecDepth 10000
namespace Go.Proofs.Ytcjhakdopnamoaa
open Go Go.Fw
end Go.Proofs.Ytcjhakdopnamoaa

set_option linter.unusedVariables false
set_option linter.unusedSimpArgs false
set_option maxRecDepth 20000
namespace Go.Proofs.Ytcjhakdopnamoaa
open Go Go.Fw

section
variable {L : Hands} {R : Value → Heap → Prop} {G : Heap} {l rest : Bl} {A A' : Ar} {I : List Nat}

end
end Go.Proofs.Ytcjhakdopnamoaa

set_option linter.unusedVariables false
set_option linter.unusedSimpArgs false
set_option maxRecDepth 20000
namespace Go.Proofs.Ytcjhakdopnamoaa
open Go Go.Fw

theorem npGd (a : Addr) : opS Try.prog (.binOp .eql ty_p_guard_Guard (.tmp 0) (.const (.pointer none)) ty_p_guard_Guard) ty_bool [(.pointer (some a))] = .pure (.value (.bool false)) := by kernel_rfl
abbrev S0g : Sg := ⟨fun _ => [], 0, fun _ => 0, fun _ => -1, 0⟩
theorem gd0 : GdS [] fun _ => [] := ⟨fun k => .inl ⟨rfl, rfl⟩, fun k => rfl⟩

/-- The first slot of all. -/
structure One1 (I : List Nat) (A : Ar) (ep : Bool) (w s k : Int) (n : Nat) (x : Al) (A' : Ar) (S' : Sg) : Prop where
  run : mAl.Runs n (newAl (plOf w (8 * s)) k 0) A x A'
  nn : (n : Int) ≤ w + 5
  sl : SL A' (plOf w (8 * s)) w (8 * s) S'
  off : Off (plOf w (8 * s)).carved n A A'
  h0 : x.h ≠ 0
  hc : opC x.h = 0
  st : A'.stF x.h = 1
  nL : A'.nL = A.nL + 8
  nR : A'.nR = A.nR
  nc : S'.nc = 8
section
variable {L : Hands} {R : Value → Heap → Prop} {G : Heap} {l rest : Bl} {A A' : Ar} {I : List Nat}

theorem w_GRetire {g : Gd} {e : List LE} {ls : Int → List (Int × Int)} {q mq : Nat} {k h : Int} {K : Value → Tree} (hA : Aw I A) (ok : Ok I G (keys (g.bl q mq e ++ rest))) (gs : GdS e ls) (hl : (ls k).length < 1000)
    (h0 : retM g ls k h = none → ∀ e' gar, Ok I G (keys (g.bl q mq e' ++ (gar ++ rest))) → GdS e' (setL ls k (ls k ++ [(h, 0)])) → wp Try.prog (K .nilIface) L (own (A.retireF h) (g.bl q mq e' ++ (gar ++ rest)) G) R)
    (h1 : ∀ x, retM g ls k h = some x → ∀ j : LkJ, Ok I G (keys (x.bl j ++ rest)) → (mLk q mq).rep x j → wp Try.prog (K (.iface ty_p_guard_look (.pointer (some ⟨j.q, 0, none⟩)))) L (own (A.retireF h) (x.bl j ++ rest) G) R) :
    wp Try.prog (.call f_guard_Guard_Retire [.pointer (some ⟨q, 0, none⟩), .pointer (aI I), .int .i64 k, .int .i64 h] (.one (.leaf .val)) K) L (own A (g.bl q mq e ++ rest) G) R := by
  rw [keys_append] at ok
  obtain ⟨o1, o2⟩ := ok.split
  refine w_sub (retire_spec hA o1 gs hl) ?_
  intro v H hp
  unfold GPost at hp
  cases hm : retM g ls k h with
  | none =>
    rw [hm] at hp
    obtain ⟨e', gar, rfl, rfl, o, gs'⟩ := hp
    refine ⟨_, rfl, ?_⟩
    rw [← own_append, List.append_assoc]
    refine h0 hm e' gar ?_ gs'
    have := o.join o2
    rw [← keys_append, List.append_assoc] at this
    exact this
  | some x =>
    rw [hm] at hp
    obtain ⟨j, rfl, rfl, o, rp⟩ := hp
    refine ⟨_, rfl, ?_⟩
    rw [← own_append]
    exact h1 x hm j (by rw [keys_append]; exact o.join o2) rp

end
end Go.Proofs.Ytcjhakdopnamoaa

set_option linter.unusedVariables false
set_option linter.unusedSimpArgs false
set_option maxRecDepth 20000
namespace Go.Proofs.Ytcjhakdopnamoaa
open Go Go.Fw

def Mch.toR {M J : Type} (X : Mch M J) : MchR M J := ⟨X.f, X.addr, X.bl, fun _ _ => True, X.inv, X.step, X.fin⟩
theorem Mch.toR_ok {M J : Type} {X : Mch M J} (h : X.ok) : X.toR.ok := fun I A G m j hA ok _ hi => by
  obtain ⟨h0⟩ : Nonempty (SpecF Try.prog X.f #[.pointer (some ⟨X.addr j, 0, none⟩), .pointer (aI I)] (own A (X.bl m j) G) fun v K => ∃ j', v = .bool (X.fin (X.step m A).1) ∧ K = own (X.step m A).2 (X.bl (X.step m A).1 j') G ∧ X.addr j' = X.addr j ∧ Ok I G (keys (X.bl (X.step m A).1 j')) ∧ Aw I (X.step m A).2) := ⟨h I A G m j hA ok hi⟩
  refine h0.mono ?_
  rintro v K ⟨j', a, b, c, d, e⟩
  exact ⟨j', a, b, c, d, trivial, e⟩
theorem Mch.toR_runs {M J : Type} {X : Mch M J} {n : Nat} {m m' : M} {A A' : Ar} (h : X.Runs n m A m' A') : X.toR.Runs n m A m' A' := by
  induction h with
  | one hi hu hf => exact .one hi rfl hu hf
  | more hi hu hf _ ih => exact .more hi rfl hu hf ih
end Go.Proofs.Ytcjhakdopnamoaa

set_option linter.unusedVariables false
set_option linter.unusedSimpArgs false
set_option maxRecDepth 20000
namespace Go.Proofs.Ytcjhakdopnamoaa
open Go Go.Fw

section
variable {L : Hands} {R : Value → Heap → Prop} {G : Heap} {rest : Bl} {A A' : Ar} {I : List Nat} {w s th : Int} {ep : Bool}

theorem GZ.gi (E : GZ I A ep w s S0g) (r0 : ∀ i, A.rawF i = 0) (u0 : A.uses = 0) (nl : A.nL = 0) (nr : A.nR = 0) : GI A (gdOf ep w s th) (8 * s) S0g fun _ => [] := by
  have wb := E.wb
  have sb := E.sb
  have rl := E.rl
  have gw : gwords ep w ≤ 100 := by unfold gwords; cases ep <;> simp <;> omega
  refine ⟨E.aw.wf, E.sl, E.fa, ?_, ⟨wb.1, by show w ≤ 100; omega⟩, ?_, by omega, fun _ _ h => (by cases h), fun _ => .nil, fun _ _ _ _ h => (by cases h), fun _ h => (h rfl).elim, ?_, by omega, by omega, fun _ _ _ h => (by cases h), fun _ => ?_, fun _ _ _ h => (by cases h)⟩
  · show 4 * w + 2 * ((8 * s + 7) / 8) < 4 * w + 2 * s + 1; omega
  · show 4 * w + 2 * s + 1 + gwords ep w ≤ _; omega
  · rw [nr]
    have : ∀ n, totR (fun _ => []) n = 0 := fun n => by
      induction n with
      | zero => rfl
      | succ n ih => show totR (fun _ => []) n + 0 = 0; omega
    exact (this _).symm
  · rw [r0, u0]; exact ⟨Int.le_refl 0, Int.le_refl 0⟩

theorem w_GForce {g : Gd} {e : List LE} {ls : Int → List (Int × Int)} {q mq : Nat} {k : Int} {K : Value → Tree} (hA : Aw I A) (ok : Ok I G (keys (g.bl q mq e ++ rest))) (gs : GdS e ls) (hl : (ls k).length ≤ 1000)
    (h0 : forM g ls k = none → ∀ e' gar, Ok I G (keys (g.bl q mq e' ++ (gar ++ rest))) → GdS e' ls → wp Try.prog (K .nilIface) L (own A (g.bl q mq e' ++ (gar ++ rest)) G) R)
    (h1 : ∀ x, forM g ls k = some x → ∀ j : LkJ, Ok I G (keys (x.bl j ++ rest)) → (mLk q mq).rep x j → wp Try.prog (K (.iface ty_p_guard_look (.pointer (some ⟨j.q, 0, none⟩)))) L (own A (x.bl j ++ rest) G) R) :
    wp Try.prog (.call f_guard_Guard_Force [.pointer (some ⟨q, 0, none⟩), .int .i64 k] (.one (.leaf .val)) K) L (own A (g.bl q mq e ++ rest) G) R := by
  rw [keys_append] at ok
  obtain ⟨o1, o2⟩ := ok.split
  refine w_sub (force_spec hA o1 gs hl) ?_
  intro v H hp
  unfold GPost at hp
  cases hm : forM g ls k with
  | none =>
    rw [hm] at hp
    obtain ⟨e', gar, rfl, rfl, o, gs'⟩ := hp
    refine ⟨_, rfl, ?_⟩
    rw [← own_append, List.append_assoc]
    refine h0 hm e' gar ?_ gs'
    have := o.join o2
    rw [← keys_append, List.append_assoc] at this
    exact this
  | some x =>
    rw [hm] at hp
    obtain ⟨j, rfl, rfl, o, rp⟩ := hp
    refine ⟨_, rfl, ?_⟩
    rw [← own_append]
    exact h1 x hm j (by rw [keys_append]; exact o.join o2) rp

end

/-- A new slot, where there is room. -/
structure SlotZ (A : Ar) (g : Gd) (m : Int) (S : Sg) (l : Int → List (Int × Int)) (who c : Int) (n : Nat) (x : Al) (B : Ar) (S' : Sg) : Prop where
  z : Alloced A g.pl g.w m S who c n x B S'
  gi : GI B g m S' l
  cv : S'.cv ≤ S.cv + sizeF c
  nz : S.cv + sizeF c ≤ m → x.h ≠ 0
  un : A.uses ≤ B.uses ∧ B.uses ≤ A.uses + g.w + 5
theorem GI.slot {A : Ar} {g : Gd} {m : Int} {S : Sg} {l : Int → List (Int × Int)} (X : GI A g m S l) (hu : A.uses ≤ 900000) {who c : Int} (wh : 0 ≤ who ∧ who < g.w) (hc : 0 ≤ c ∧ c < 4) : ∃ n x B S', SlotZ A g m S l who c n x B S' := by
  obtain ⟨n, x, B, S', Z⟩ := alloc_solo X.sl X.wf (by omega) wh hc
  have sz := sz_pos hc.1 hc.2
  have us := Z.off.us
  have nn := Z.nn
  refine ⟨n, x, B, S', Z, X.alloc hc Z, ?_, fun hm => ?_, ⟨by omega, by omega⟩⟩
  · obtain ⟨kk, b', l', h1, h2, _, _, _, h3, _⟩ | ⟨h1, h2, h3, h4⟩ | ⟨h1, h2, h3, _⟩ := Z.gives.or
    · rw [h3]; show S.cv ≤ _; omega
    · rw [h3]; show S.cv + _ ≤ _; omega
    · rw [h3]; omega
  · obtain ⟨kk, b', l', h1, h2, _, _, hcc, h3, h4⟩ | ⟨h1, h2, h3, h4⟩ | ⟨h1, h2, h3, _⟩ := Z.gives.or
    · rw [h4]; exact (list_name X.sl (by omega) h2 hcc).2.2.2.2
    · rw [h4]; exact (carve_name X.sl hc h2).2.2.2.2
    · exact (h2 hm).elim
end Go.Proofs.Ytcjhakdopnamoaa

set_option linter.unusedVariables false
set_option maxRecDepth 20000
namespace Go.Proofs.Ytcjhakdopnamoaa
open Go Go.Fw

theorem word_cell {A : Ar} (hA : A.wf) {h off : Int} (hi : A.inOk h off) : (ints A.words)[pos h off]? = some (.int .i64 (A.words.getD (pos h off) 0)) := ints_getD (pos_lt hA hi)

theorem Add_det {A : Ar} (hA : A.wf) (h off v : Int) (H : Heap) : Det Try.prog f_arena_Arena_Add [pA A, .int .i64 h, .int .i64 off, .int .i64 v] (A.put H) (.int .i64 (A.loadF h off)) ((A.storeF h off (w64 (A.loadF h off + v))).put H) := by
  refine t_arena_Arena_Add_spec fun L => ?_
  unfold t_arena_Arena_Add Ar.storeF Ar.loadF
  by_cases hi : A.inOk h off
  · rw [if_pos hi, if_pos hi]
    refine wp_call_det (x := some ⟨A.w, pos h off, none⟩) (in_ok hA hi H) ?_
    refine wp_call_det (x := A.words.getD (pos h off) 0) (add_some (Ar.at_w (A := A.tick) hA.nd H) (word_cell hA hi)) ?_
    exact wp_ret_of ⟨rfl, set_words (A := A.tick) hA.nd _ _ _⟩
  · rw [if_neg hi, if_neg hi]
    refine wp_call_det (x := none) (in_bad hA hi H) ?_
    exact wp_call_det (x := (0 : Int)) (add_none _ _) (wp_ret_of ⟨rfl, rfl⟩)

end Go.Proofs.Ytcjhakdopnamoaa

set_option linter.unusedVariables false
set_option linter.unusedSimpArgs false
set_option maxRecDepth 20000
namespace Go.Proofs.Ytcjhakdopnamoaa
open Go Go.Fw

/-! ### A guard, perhaps with a look under way -/

def lj0 : LkJ := ⟨0, 0, 0, [], tj0, sj0, []⟩
def gmB (g : Gd) (q mq : Nat) : Option Lk → List LE → LkJ → Bl
  | none, e, _ => g.bl q mq e
  | some x, _, j => x.bl j
def gmV : Option Lk → LkJ → Value
  | none, _ => .nilIface
  | some _, j => .iface ty_p_guard_look (.pointer (some ⟨j.q, 0, none⟩))
def gmR (g : Gd) (q mq : Nat) (ls : Int → List (Int × Int)) : Option Lk → List LE → LkJ → Prop
  | none, e, _ => GdS e ls
  | some x, _, j => (mLk q mq).rep x j ∧ x.g = g

theorem retM_g {g : Gd} {ls : Int → List (Int × Int)} {k h : Int} {x : Lk} (hm : retM g ls k h = some x) : x.g = g := by
  unfold retM at hm
  split at hm
  · obtain rfl := Option.some.inj hm; rfl
  · split at hm
    · obtain rfl := Option.some.inj hm; rfl
    · cases hm
theorem forM_g {g : Gd} {ls : Int → List (Int × Int)} {k : Int} {x : Lk} (hm : forM g ls k = some x) : x.g = g := by
  unfold forM at hm
  split at hm
  · cases hm
  · obtain rfl := Option.some.inj hm; rfl
section
variable {L : Hands} {R : Value → Heap → Prop} {G : Heap} {l rest : Bl} {A A' : Ar} {I : List Nat} {g : Gd} {q mq : Nat}

theorem w_retGm {e : List LE} {ls : Int → List (Int × Int)} {k h : Int} {K : Value → Tree} (hA : Aw I A) (ok : Ok I G (keys (g.bl q mq e ++ rest))) (gs : GdS e ls) (hl : (ls k).length < 1000)
    (hk : ∀ e' lj gar, Ok I G (keys (gmB g q mq (retM g ls k h) e' lj ++ (gar ++ rest))) → gmR g q mq (setL ls k (ls k ++ [(h, 0)])) (retM g ls k h) e' lj → wp Try.prog (K (gmV (retM g ls k h) lj)) L (own (A.retireF h) (gmB g q mq (retM g ls k h) e' lj ++ (gar ++ rest)) G) R) :
    wp Try.prog (.call f_guard_Guard_Retire [.pointer (some ⟨q, 0, none⟩), .pointer (aI I), .int .i64 k, .int .i64 h] (.one (.leaf .val)) K) L (own A (g.bl q mq e ++ rest) G) R := by
  refine w_GRetire hA ok gs hl (fun hm e' gar ok' gs' => ?_) fun x hm j ok' rp => ?_
  · rw [hm] at hk
    exact hk e' lj0 gar ok' gs'
  · have hg := retM_g hm
    rw [hm] at hk
    exact hk [] j [] ok' ⟨rp, hg⟩
theorem w_forGm {e : List LE} {ls : Int → List (Int × Int)} {k : Int} {K : Value → Tree} (hA : Aw I A) (ok : Ok I G (keys (g.bl q mq e ++ rest))) (gs : GdS e ls) (hl : (ls k).length ≤ 1000)
    (hk : ∀ e' lj gar, Ok I G (keys (gmB g q mq (forM g ls k) e' lj ++ (gar ++ rest))) → gmR g q mq ls (forM g ls k) e' lj → wp Try.prog (K (gmV (forM g ls k) lj)) L (own A (gmB g q mq (forM g ls k) e' lj ++ (gar ++ rest)) G) R) :
    wp Try.prog (.call f_guard_Guard_Force [.pointer (some ⟨q, 0, none⟩), .int .i64 k] (.one (.leaf .val)) K) L (own A (g.bl q mq e ++ rest) G) R := by
  refine w_GForce hA ok gs hl (fun hm e' gar ok' gs' => ?_) fun x hm j ok' rp => ?_
  · rw [hm] at hk
    exact hk e' lj0 gar ok' gs'
  · have hg := forM_g hm
    rw [hm] at hk
    exact hk [] j [] ok' ⟨rp, hg⟩

theorem Lk.step_g (x : Lk) (A : Ar) : (x.step A).1.g = x.g ∧ (x.step A).1.work = x.work := by
  unfold Lk.step
  split
  · exact ⟨rfl, rfl⟩
  · have hg : x.go.g = x.g ∧ x.go.work = x.work := by
      unfold Lk.go
      split
      · split <;> exact ⟨rfl, rfl⟩
      · exact ⟨rfl, rfl⟩
    unfold Lk.mid
    dsimp only
    split <;> exact hg

/-- A step of the look. -/
theorem w_lkStep {x : Lk} {lj : LkJ} {k : Bool → Tree} (hA : Aw I A) (ok : Ok I G (keys (x.bl lj ++ rest))) (rp : (mLk q mq).rep x lj) (hi : x.inv A)
    (hk : ∀ lj' : LkJ, lj'.q = lj.q → Aw I (x.step A).2 → Ok I G (keys ((x.step A).1.bl lj' ++ rest)) → (mLk q mq).rep (x.step A).1 lj' → wp Try.prog (k (x.step A).1.fin) L (own (x.step A).2 ((x.step A).1.bl lj' ++ rest) G) R) :
    wp Try.prog (.act (opS Try.prog (.call { callee := .invoke (.tmp 0) "Step", args := #[(.tmp 1)], argTypes := #[ty_p_arena_Arena] }) ty_bool [(.iface ty_p_guard_look (.pointer (some ⟨lj.q, 0, none⟩))), (.pointer (aI I))]) (.one (.leaf .bool)) k) L (own A (x.bl lj ++ rest) G) R := by
  refine act_enter (mLk_inv q mq _ _) ?_
  rw [keys_append] at ok
  obtain ⟨o1, o2⟩ := ok.split
  refine w_sub (mLk_ok q mq I A _ x lj hA o1 rp hi) ?_
  rintro v K ⟨lj', rfl, rfl, ha, ok', rp', hA'⟩
  refine ⟨(x.step A).1.fin, rfl, ?_⟩
  rw [← own_append]
  exact hk lj' ha hA' (by rw [keys_append]; exact ok'.join o2) rp'

theorem Lk.fin_no {x : Lk} (h : x.fin = true) : x.m = .no := by
  unfold Lk.fin at h
  split at h
  · assumption
  · cases h

/-- A look that has ended. -/
theorem lk_done {x : Lk} {lj : LkJ} (hm : x.fin = true) (rp : (mLk q mq).rep x lj) (ok : Ok I G (keys (x.bl lj ++ rest))) :
    ∃ e gar, own A (x.bl lj ++ rest) G = own A (x.g.bl q mq e ++ (gar ++ rest)) G ∧ Ok I G (keys (x.g.bl q mq e ++ (gar ++ rest))) ∧ GdS e x.ls := by
  obtain ⟨rp, e1, e2⟩ := rp
  have hm := Lk.fin_no hm
  refine ⟨lj.e, (lj.q, oc ty_guard_look (lkC lj.gq x.work x.first x.times .nilIface)) :: lj.gar, ?_⟩
  have hb : x.bl lj = (lj.q, oc ty_guard_look (lkC lj.gq x.work x.first x.times .nilIface)) :: (x.g.bl q mq lj.e ++ ([] ++ lj.gar)) := by
    unfold Lk.bl; rw [hm, e1, e2]; rfl
  rw [hb] at ok ⊢
  obtain ⟨p, ok'⟩ := own_perm (A := A) (l' := x.g.bl q mq lj.e ++ (((lj.q, oc ty_guard_look (lkC lj.gq x.work x.first x.times .nilIface)) :: lj.gar) ++ rest)) ok (perm_by fun c d c0 cd ca => by simp only [List.cons_append, List.append_assoc, List.nil_append, cd, ca]; omega)
  exact ⟨p, ok', ⟨rp.le, rp.ls⟩⟩

theorem gmV_nil (o : Option Lk) (j : LkJ) (u : TypeId) : opS Try.prog (.binOp .eql ty_guard_Machine (.tmp 0) (.const .nilIface) ty_guard_Machine) u [gmV o j] = .pure (.value (.bool o.isNone)) := by
  cases o
  · exact eqlMc0 u
  · exact eqlMc _ _ u
theorem gmV_nn (o : Option Lk) (j : LkJ) (u : TypeId) : opS Try.prog (.binOp .neq ty_guard_Machine (.tmp 0) (.const .nilIface) ty_guard_Machine) u [gmV o j] = .pure (.value (.bool o.isSome)) := by
  cases o
  · exact neqMc0 u
  · exact neqMc _ _ u
theorem st_gm (a : Addr) (o : Option Lk) (j : LkJ) : opS Try.prog (.store ty_guard_Machine (.tmp 0) (.tmp 1)) ty_unit [.pointer (some a), gmV o j] = .store .plain a (gmV o j) (.pure .skip) := by cases o <;> kernel_rfl
theorem gmV_single (o : Option Lk) (j : LkJ) : Value.single (gmV o j) = true := by cases o <;> rfl
theorem w_stGm (ix : Nat) {a : Addr} {b n : Nat} {T : TypeId} {c : List Value} {o : Option Lk} {j : LkJ} {k : Unit → Tree} (hA : Aw I A) (ok : Ok I G (keys l)) (ha : a = ⟨b, n, none⟩) (hi : l[ix]? = some (b, oc T c)) (hn : (decide (n < c.length)) = true)
    (h : wp Try.prog (k ()) L (own A (l.set ix (b, oc T (c.set n (gmV o j)))) G) R) : wp Try.prog (.act (opS Try.prog (.store ty_guard_Machine (.tmp 0) (.tmp 1)) ty_unit [.pointer (some a), gmV o j]) .unit k) L (own A l G) R := by
  rw [st_gm]
  exact w_st (k := k ()) ix hA ok ha hi (gmV_single _ _) hn h
theorem w_Add {b i v : Int} {k : Int → Tree} (hA : Aw I A) (h : Aw I (A.storeF b i (w64 (A.loadF b i + v))) → wp Try.prog (k (A.loadF b i)) L (own (A.storeF b i (w64 (A.loadF b i + v))) l G) R) :
    wp Try.prog (.call f_arena_Arena_Add [.pointer (aI I), .int .i64 b, .int .i64 i, .int .i64 v] (.one (.leaf (.int .i64))) k) L (own A l G) R :=
  wp_call_det (x := A.loadF b i) (by rw [hA.pA]; exact Add_det hA.wf b i v _) (h (hA.storeF b i _))
end
end Go.Proofs.Ytcjhakdopnamoaa

set_option linter.unusedVariables false
set_option maxRecDepth 10000
namespace Go.Proofs.Ytcjhakdopnamoaa
open Go Go.Fw
/- (magpie/frame.Task).words -/
noncomputable def t_frame_Task_words (p0_0 : Int) (p0_1 : Int) (p0_2 : Int) (p0_3 : Bool) : Tree :=
  .newP (.cells #[(.int .i64 p0_0), (.int .i64 p0_1), (.int .i64 p0_2), (.bool p0_3)] ty_frame_Task) fun x1 =>
  .newP (.cells #[(.int .i64 0), (.int .i64 0), (.int .i64 0), (.int .i64 0), (.int .i64 0), (.int .i64 0), (.int .i64 0)] ty_a7_int) fun x2 =>
  .ld x1 (.int .i64) fun x5 =>
  .ld (x1.add 1) (.int .i64) fun x7 =>
  .ld (x1.add 2) (.int .i64) fun x9 =>
  .newP (.cells #[(.int .i64 0), (.int .i64 0), (.int .i64 0), (.int .i64 0), (.int .i64 0), (.int .i64 0), (.int .i64 0)] ty_a7_int) fun x3 =>
  .stA x3 [(.int .i64 0), (.int .i64 0), (.int .i64 2), (.int .i64 x5), (.int .i64 x7), (.int .i64 x9), (.int .i64 0)] <|
  .ld (x1.add 3) .bool fun x12 =>
  bif x12 then (
    .st (x3.add 6) (.int .i64 1) <|
    .ldA x3 [(.int .i64), (.int .i64), (.int .i64), (.int .i64), (.int .i64), (.int .i64), (.int .i64)] fun x14 =>
    .stA x2 [(.int .i64 x14.1), (.int .i64 x14.2.1), (.int .i64 x14.2.2.1), (.int .i64 x14.2.2.2.1), (.int .i64 x14.2.2.2.2.1), (.int .i64 x14.2.2.2.2.2.1), (.int .i64 x14.2.2.2.2.2.2.1)] <|
    .look (ldK x2 7 0 #[] fun r0 => .pure (.value (.agg r0))) (.one (.agg [(.int .i64), (.int .i64), (.int .i64), (.int .i64), (.int .i64), (.int .i64), (.int .i64)])) fun r => .ret (Sh.toVal (.one (.agg [(.int .i64), (.int .i64), (.int .i64), (.int .i64), (.int .i64), (.int .i64), (.int .i64)])) r))
  else (
    .ldA x3 [(.int .i64), (.int .i64), (.int .i64), (.int .i64), (.int .i64), (.int .i64), (.int .i64)] fun x14 =>
    .stA x2 [(.int .i64 x14.1), (.int .i64 x14.2.1), (.int .i64 x14.2.2.1), (.int .i64 x14.2.2.2.1), (.int .i64 x14.2.2.2.2.1), (.int .i64 x14.2.2.2.2.2.1), (.int .i64 x14.2.2.2.2.2.2.1)] <|
    .look (ldK x2 7 0 #[] fun r0 => .pure (.value (.agg r0))) (.one (.agg [(.int .i64), (.int .i64), (.int .i64), (.int .i64), (.int .i64), (.int .i64), (.int .i64)])) fun r => .ret (Sh.toVal (.one (.agg [(.int .i64), (.int .i64), (.int .i64), (.int .i64), (.int .i64), (.int .i64), (.int .i64)])) r))
theorem t_frame_Task_words_eq (p0_0 : Int) (p0_1 : Int) (p0_2 : Int) (p0_3 : Bool) : funcTree Try.prog { quiet := [16, 34, 36, 40, 41, 66, 67, 75, 76, 77, 97, 98, 103, 108, 110, 139, 146, 149, 161], quietTmp := false, fncs := [], ifcs := [] } Try.f82 [(.agg #[(.int .i64 p0_0), (.int .i64 p0_1), (.int .i64 p0_2), (.bool p0_3)])] = t_frame_Task_words p0_0 p0_1 p0_2 p0_3 := by kernel_rfl
theorem t_frame_Task_words_spec {p0_0 : Int} {p0_1 : Int} {p0_2 : Int} {p0_3 : Bool} {H : Heap} {R : Value → Heap → Prop} (h : ∀ L, wp Try.prog (t_frame_Task_words p0_0 p0_1 p0_2 p0_3) L H R) : SpecF Try.prog f_frame_Task_words #[(.agg #[(.int .i64 p0_0), (.int .i64 p0_1), (.int .i64 p0_2), (.bool p0_3)])] H R :=
  spec_of_tree (cfg := { quiet := [16, 34, 36, 40, 41, 66, 67, 75, 76, 77, 97, 98, 103, 108, 110, 139, 146, 149, 161], quietTmp := false, fncs := [], ifcs := [] }) Try.func82 fun L => (t_frame_Task_words_eq p0_0 p0_1 p0_2 p0_3).symm ▸ h L

/- magpie/frame.NewMake -/
noncomputable def t_frame_NewMake (p0_0 : Int) (p0_1 : Int) (p0_2 : Int) (p0_3 : Int) (p0_4 : Int) (p1 : Option Addr) (p2 : Int) (p3_0 : Int) (p3_1 : Int) (p3_2 : Int) (p3_3 : Bool) : Tree :=
  .newP (.cells #[(.int .i64 p0_0), (.int .i64 p0_1), (.int .i64 p0_2), (.int .i64 p0_3), (.int .i64 p0_4)] ty_free_Place) fun x4 =>
  .newP (.cells #[(.int .i64 p3_0), (.int .i64 p3_1), (.int .i64 p3_2), (.bool p3_3)] ty_frame_Task) fun x7 =>
  .ldA x4 [(.int .i64), (.int .i64), (.int .i64), (.int .i64), (.int .i64)] fun x9 =>
  .ldA x7 [(.int .i64), (.int .i64), (.int .i64), .bool] fun x12 =>
  .ldA x4 [(.int .i64), (.int .i64), (.int .i64), (.int .i64), (.int .i64)] fun x14 =>
  .call f_frame_Task_words [(.agg #[(.int .i64 x12.1), (.int .i64 x12.2.1), (.int .i64 x12.2.2.1), (.bool x12.2.2.2.1)])] (.one (.agg [(.int .i64), (.int .i64), (.int .i64), (.int .i64), (.int .i64), (.int .i64), (.int .i64)])) fun x13 =>
  .check (ldAS x4 5 0 #[]) (.agg #[(.int .i64 x14.1), (.int .i64 x14.2.1), (.int .i64 x14.2.2.1), (.int .i64 x14.2.2.2.1), (.int .i64 x14.2.2.2.2.1)]) <|
  .check (ldAS x4 5 0 #[]) (.agg #[(.int .i64 x9.1), (.int .i64 x9.2.1), (.int .i64 x9.2.2.1), (.int .i64 x9.2.2.2.1), (.int .i64 x9.2.2.2.2.1)]) <|
  .call f_slab_NewAlloc [(.agg #[(.int .i64 x14.1), (.int .i64 x14.2.1), (.int .i64 x14.2.2.1), (.int .i64 x14.2.2.2.1), (.int .i64 x14.2.2.2.2.1)]), (.int .i64 p2), (.int .i64 0)] (.one (.leaf .ptr)) fun x16 =>
  .check (ldAS x4 5 0 #[]) (.agg #[(.int .i64 x9.1), (.int .i64 x9.2.1), (.int .i64 x9.2.2.1), (.int .i64 x9.2.2.2.1), (.int .i64 x9.2.2.2.2.1)]) <|
  .newP (.cells #[(.int .i64 x9.1), (.int .i64 x9.2.1), (.int .i64 x9.2.2.1), (.int .i64 x9.2.2.2.1), (.int .i64 x9.2.2.2.2.1), (.pointer p1), (.int .i64 p2), (.int .i64 x13.1), (.int .i64 x13.2.1), (.int .i64 x13.2.2.1), (.int .i64 x13.2.2.2.1), (.int .i64 x13.2.2.2.2.1), (.int .i64 x13.2.2.2.2.2.1), (.int .i64 x13.2.2.2.2.2.2.1), (.pointer x16), .nilIface, (.int .i64 0), (.int .i64 0), (.int .i64 0), (.bool false)] ty_frame_Make) fun x18 =>
  .ret (.pointer (some x18))
theorem t_frame_NewMake_eq (p0_0 : Int) (p0_1 : Int) (p0_2 : Int) (p0_3 : Int) (p0_4 : Int) (p1 : Option Addr) (p2 : Int) (p3_0 : Int) (p3_1 : Int) (p3_2 : Int) (p3_3 : Bool) : funcTree Try.prog { quiet := [16, 34, 36, 40, 41, 66, 67, 75, 76, 77, 97, 98, 103, 108, 110, 139, 146, 149, 161], quietTmp := false, fncs := [], ifcs := [] } Try.f44 [(.agg #[(.int .i64 p0_0), (.int .i64 p0_1), (.int .i64 p0_2), (.int .i64 p0_3), (.int .i64 p0_4)]), (.pointer p1), (.int .i64 p2), (.agg #[(.int .i64 p3_0), (.int .i64 p3_1), (.int .i64 p3_2), (.bool p3_3)])] = t_frame_NewMake p0_0 p0_1 p0_2 p0_3 p0_4 p1 p2 p3_0 p3_1 p3_2 p3_3 := by kernel_rfl
theorem t_frame_NewMake_spec {p0_0 : Int} {p0_1 : Int} {p0_2 : Int} {p0_3 : Int} {p0_4 : Int} {p1 : Option Addr} {p2 : Int} {p3_0 : Int} {p3_1 : Int} {p3_2 : Int} {p3_3 : Bool} {H : Heap} {R : Value → Heap → Prop} (h : ∀ L, wp Try.prog (t_frame_NewMake p0_0 p0_1 p0_2 p0_3 p0_4 p1 p2 p3_0 p3_1 p3_2 p3_3) L H R) : SpecF Try.prog f_frame_NewMake #[(.agg #[(.int .i64 p0_0), (.int .i64 p0_1), (.int .i64 p0_2), (.int .i64 p0_3), (.int .i64 p0_4)]), (.pointer p1), (.int .i64 p2), (.agg #[(.int .i64 p3_0), (.int .i64 p3_1), (.int .i64 p3_2), (.bool p3_3)])] H R :=
  spec_of_tree (cfg := { quiet := [16, 34, 36, 40, 41, 66, 67, 75, 76, 77, 97, 98, 103, 108, 110, 139, 146, 149, 161], quietTmp := false, fncs := [], ifcs := [] }) Try.func44 fun L => (t_frame_NewMake_eq p0_0 p0_1 p0_2 p0_3 p0_4 p1 p2 p3_0 p3_1 p3_2 p3_3).symm ▸ h L

/- magpie/frame.NewRead -/
noncomputable def t_frame_NewRead (p0 : Int) : Tree :=
  .newP (.cells #[(.int .i64 p0), (.int .i64 0), (.int .i64 0), (.int .i64 0), (.bool false), (.int .i64 3)] ty_frame_Read) fun x5 =>
  .ret (.pointer (some x5))
theorem t_frame_NewRead_eq (p0 : Int) : funcTree Try.prog { quiet := [16, 34, 36, 40, 41, 66, 67, 75, 76, 77, 97, 98, 103, 108, 110, 139, 146, 149, 161], quietTmp := false, fncs := [], ifcs := [] } Try.f47 [(.int .i64 p0)] = t_frame_NewRead p0 := by kernel_rfl
theorem t_frame_NewRead_spec {p0 : Int} {H : Heap} {R : Value → Heap → Prop} (h : ∀ L, wp Try.prog (t_frame_NewRead p0) L H R) : SpecF Try.prog f_frame_NewRead #[(.int .i64 p0)] H R :=
  spec_of_tree (cfg := { quiet := [16, 34, 36, 40, 41, 66, 67, 75, 76, 77, 97, 98, 103, 108, 110, 139, 146, 149, 161], quietTmp := false, fncs := [], ifcs := [] }) Try.func47 fun L => (t_frame_NewRead_eq p0).symm ▸ h L

/- magpie/frame.NewEnd -/
noncomputable def t_frame_NewEnd (p0 : Option Addr) (p1 : Int) (p2 : Int) (p3_0 : Int) (p3_1 : Int) : Tree :=
  .newP (.cells #[(.int .i64 p3_0), (.int .i64 p3_1)] ty_api_End) fun x7 =>
  .ldA x7 [(.int .i64), (.int .i64)] fun x13 =>
  .newP (.cells #[(.pointer p0), (.int .i64 p1), (.int .i64 p2), (.bool false), .nilIface, (.int .i64 x13.1), (.int .i64 x13.2.1), (.int .i64 1), (.bool false)] ty_frame_End) fun x15 =>
  .ret (.pointer (some x15))
theorem t_frame_NewEnd_eq (p0 : Option Addr) (p1 : Int) (p2 : Int) (p3_0 : Int) (p3_1 : Int) : funcTree Try.prog { quiet := [16, 34, 36, 40, 41, 66, 67, 75, 76, 77, 97, 98, 103, 108, 110, 139, 146, 149, 161], quietTmp := false, fncs := [], ifcs := [] } Try.f53 [(.pointer p0), (.int .i64 p1), (.int .i64 p2), (.agg #[(.int .i64 p3_0), (.int .i64 p3_1)])] = t_frame_NewEnd p0 p1 p2 p3_0 p3_1 := by kernel_rfl
theorem t_frame_NewEnd_spec {p0 : Option Addr} {p1 : Int} {p2 : Int} {p3_0 : Int} {p3_1 : Int} {H : Heap} {R : Value → Heap → Prop} (h : ∀ L, wp Try.prog (t_frame_NewEnd p0 p1 p2 p3_0 p3_1) L H R) : SpecF Try.prog f_frame_NewEnd #[(.pointer p0), (.int .i64 p1), (.int .i64 p2), (.agg #[(.int .i64 p3_0), (.int .i64 p3_1)])] H R :=
  spec_of_tree (cfg := { quiet := [16, 34, 36, 40, 41, 66, 67, 75, 76, 77, 97, 98, 103, 108, 110, 139, 146, 149, 161], quietTmp := false, fncs := [], ifcs := [] }) Try.func53 fun L => (t_frame_NewEnd_eq p0 p1 p2 p3_0 p3_1).symm ▸ h L

/- magpie/frame.NewAsk -/
noncomputable def t_frame_NewAsk (p0 : Option Addr) (p1 : Int) (p2 : Int) : Tree :=
  .newP (.cells #[(.pointer p0), (.int .i64 p1), (.int .i64 p2), (.bool false), .nilIface, (.int .i64 0), (.int .i64 0), (.int .i64 0), (.bool false), (.bool false)] ty_frame_Ask) fun x12 =>
  .ret (.pointer (some x12))
theorem t_frame_NewAsk_eq (p0 : Option Addr) (p1 : Int) (p2 : Int) : funcTree Try.prog { quiet := [16, 34, 36, 40, 41, 66, 67, 75, 76, 77, 97, 98, 103, 108, 110, 139, 146, 149, 161], quietTmp := false, fncs := [], ifcs := [] } Try.f51 [(.pointer p0), (.int .i64 p1), (.int .i64 p2)] = t_frame_NewAsk p0 p1 p2 := by kernel_rfl
theorem t_frame_NewAsk_spec {p0 : Option Addr} {p1 : Int} {p2 : Int} {H : Heap} {R : Value → Heap → Prop} (h : ∀ L, wp Try.prog (t_frame_NewAsk p0 p1 p2) L H R) : SpecF Try.prog f_frame_NewAsk #[(.pointer p0), (.int .i64 p1), (.int .i64 p2)] H R :=
  spec_of_tree (cfg := { quiet := [16, 34, 36, 40, 41, 66, 67, 75, 76, 77, 97, 98, 103, 108, 110, 139, 146, 149, 161], quietTmp := false, fncs := [], ifcs := [] }) Try.func51 fun L => (t_frame_NewAsk_eq p0 p1 p2).symm ▸ h L

/- (*magpie/frame.Make).allocated -/
noncomputable def t_frame_Make_allocated (p0 : Option Addr) : Tree :=
  .look (opS Try.prog (.nilCheck (.tmp 0)) ty_unit [(.pointer p0)]) (.one (.leaf .addr)) fun x5 =>
  .ld (x5.add 16) (.int .i64) fun x7 =>
  .look (opS Try.prog (.nilCheck (.tmp 0)) ty_unit [(.pointer p0)]) (.one (.leaf .addr)) fun x9 =>
  .st (x9.add 16) (.int .i64 (w64 (x7 + 1))) <|
  .look (opS Try.prog (.nilCheck (.tmp 0)) ty_unit [(.pointer p0)]) (.one (.leaf .addr)) fun x13 =>
  .ld (x13.add 14) .ptr fun x15 =>
  .call f_slab_Alloc_Handle [(.pointer x15)] (.tup [(.leaf (.int .i64)), (.leaf .bool)]) fun x16 =>
  .look (opS Try.prog (.nilCheck (.tmp 0)) ty_unit [(.pointer p0)]) (.one (.leaf .addr)) fun x20 =>
  .st (x20.add 14) (.pointer none) <|
  bif x16.2.1 then (
    .look (opS Try.prog (.nilCheck (.tmp 0)) ty_unit [(.pointer p0)]) (.one (.leaf .addr)) fun x55 =>
    .st (x55.add 18) (.int .i64 x16.1) <|
    .ret (.tuple #[]))
  else (
    .look (opS Try.prog (.nilCheck (.tmp 0)) ty_unit [(.pointer p0)]) (.one (.leaf .addr)) fun x59 =>
    .ld (x59.add 16) (.int .i64) fun x61 =>
    bif (decide ((x61 : Int) > 1)) then (
      .look (opS Try.prog (.nilCheck (.tmp 0)) ty_unit [(.pointer p0)]) (.one (.leaf .addr)) fun x64 =>
      .st (x64.add 19) (.bool true) <|
      .ret (.tuple #[]))
    else (
      .look (opS Try.prog (.nilCheck (.tmp 0)) ty_unit [(.pointer p0)]) (.one (.leaf .addr)) fun x24 =>
      .ld (x24.add 5) .ptr fun x26 =>
      .look (opS Try.prog (.nilCheck (.tmp 0)) ty_unit [(.pointer p0)]) (.one (.leaf .addr)) fun x28 =>
      .ld (x28.add 6) (.int .i64) fun x30 =>
      .call f_guard_Guard_Force [(.pointer x26), (.int .i64 x30)] (.one (.leaf .val)) fun x31 =>
      .look (opS Try.prog (.nilCheck (.tmp 0)) ty_unit [(.pointer p0)]) (.one (.leaf .addr)) fun x32 =>
      .act (opS Try.prog (.store ty_guard_Machine (.tmp 0) (.tmp 1)) ty_unit [(.pointer (some (x32.add 15))), x31]) .unit fun _ =>
      .look (opS Try.prog (.nilCheck (.tmp 0)) ty_unit [(.pointer p0)]) (.one (.leaf .addr)) fun x35 =>
      .ld (x35.add 15) .val fun x37 =>
      .look (opS Try.prog (.binOp .eql ty_guard_Machine (.tmp 0) (.const .nilIface) ty_guard_Machine) ty_bool [x37]) (.one (.leaf .bool)) fun x38 =>
      bif x38 then (
        .look (opS Try.prog (.nilCheck (.tmp 0)) ty_unit [(.pointer p0)]) (.one (.leaf .addr)) fun x41 =>
        .ldA x41 [(.int .i64), (.int .i64), (.int .i64), (.int .i64), (.int .i64)] fun x43 =>
        .look (opS Try.prog (.nilCheck (.tmp 0)) ty_unit [(.pointer p0)]) (.one (.leaf .addr)) fun x45 =>
        .ld (x45.add 6) (.int .i64) fun x47 =>
        .call f_slab_NewAlloc [(.agg #[(.int .i64 x43.1), (.int .i64 x43.2.1), (.int .i64 x43.2.2.1), (.int .i64 x43.2.2.2.1), (.int .i64 x43.2.2.2.2.1)]), (.int .i64 x47), (.int .i64 0)] (.one (.leaf .ptr)) fun x48 =>
        .look (opS Try.prog (.nilCheck (.tmp 0)) ty_unit [(.pointer p0)]) (.one (.leaf .addr)) fun x49 =>
        .st (x49.add 14) (.pointer x48) <|
        .ret (.tuple #[]))
      else (
        .ret (.tuple #[]))))
theorem t_frame_Make_allocated_eq (p0 : Option Addr) : funcTree Try.prog { quiet := [16, 34, 36, 40, 41, 66, 67, 75, 76, 77, 97, 98, 103, 108, 110, 139, 146, 149, 161], quietTmp := false, fncs := [], ifcs := [] } Try.f137 [(.pointer p0)] = t_frame_Make_allocated p0 := by kernel_rfl
theorem t_frame_Make_allocated_spec {p0 : Option Addr} {H : Heap} {R : Value → Heap → Prop} (h : ∀ L, wp Try.prog (t_frame_Make_allocated p0) L H R) : SpecF Try.prog f_frame_Make_allocated #[(.pointer p0)] H R :=
  spec_of_tree (cfg := { quiet := [16, 34, 36, 40, 41, 66, 67, 75, 76, 77, 97, 98, 103, 108, 110, 139, 146, 149, 161], quietTmp := false, fncs := [], ifcs := [] }) Try.func137 fun L => (t_frame_Make_allocated_eq p0).symm ▸ h L

/- (*magpie/frame.Make).Step -/
noncomputable def t_frame_Make_Step (p0 : Option Addr) (p1 : Option Addr) : Tree :=
  .look (opS Try.prog (.nilCheck (.tmp 0)) ty_unit [(.pointer p0)]) (.one (.leaf .addr)) fun x41 =>
  .ld (x41.add 19) .bool fun x43 =>
  bif x43 then (
    .look (opS Try.prog (.nilCheck (.tmp 0)) ty_unit [(.pointer p0)]) (.one (.leaf .addr)) fun x86 =>
    .ld (x86.add 19) .bool fun x88 =>
    .ret (.bool x88))
  else (
    .look (opS Try.prog (.nilCheck (.tmp 0)) ty_unit [(.pointer p0)]) (.one (.leaf .addr)) fun x46 =>
    .ld (x46.add 15) .val fun x48 =>
    .look (opS Try.prog (.binOp .neq ty_guard_Machine (.tmp 0) (.const .nilIface) ty_guard_Machine) ty_bool [x48]) (.one (.leaf .bool)) fun x49 =>
    bif x49 then (
      .look (opS Try.prog (.nilCheck (.tmp 0)) ty_unit [(.pointer p0)]) (.one (.leaf .addr)) fun x51 =>
      .ld (x51.add 15) .val fun x53 =>
      .act (opS Try.prog (.call { callee := .invoke (.tmp 0) "Step", args := #[(.tmp 1)], argTypes := #[ty_p_arena_Arena] }) ty_bool [x53, (.pointer p1)]) (.one (.leaf .bool)) fun x55 =>
      bif x55 then (
        .look (opS Try.prog (.nilCheck (.tmp 0)) ty_unit [(.pointer p0)]) (.one (.leaf .addr)) fun x59 =>
        .ldA x59 [(.int .i64), (.int .i64), (.int .i64), (.int .i64), (.int .i64)] fun x61 =>
        .look (opS Try.prog (.nilCheck (.tmp 0)) ty_unit [(.pointer p0)]) (.one (.leaf .addr)) fun x63 =>
        .ld (x63.add 6) (.int .i64) fun x65 =>
        .call f_slab_NewAlloc [(.agg #[(.int .i64 x61.1), (.int .i64 x61.2.1), (.int .i64 x61.2.2.1), (.int .i64 x61.2.2.2.1), (.int .i64 x61.2.2.2.2.1)]), (.int .i64 x65), (.int .i64 0)] (.one (.leaf .ptr)) fun x66 =>
        .look (opS Try.prog (.nilCheck (.tmp 0)) ty_unit [(.pointer p0)]) (.one (.leaf .addr)) fun x67 =>
        .st (x67.add 15) .nilIface <|
        .look (opS Try.prog (.nilCheck (.tmp 0)) ty_unit [(.pointer p0)]) (.one (.leaf .addr)) fun x69 =>
        .st (x69.add 14) (.pointer x66) <|
        .look (opS Try.prog (.nilCheck (.tmp 0)) ty_unit [(.pointer p0)]) (.one (.leaf .addr)) fun x86 =>
        .ld (x86.add 19) .bool fun x88 =>
        .ret (.bool x88))
      else (
        .look (opS Try.prog (.nilCheck (.tmp 0)) ty_unit [(.pointer p0)]) (.one (.leaf .addr)) fun x86 =>
        .ld (x86.add 19) .bool fun x88 =>
        .ret (.bool x88)))
    else (
      .look (opS Try.prog (.nilCheck (.tmp 0)) ty_unit [(.pointer p0)]) (.one (.leaf .addr)) fun x73 =>
      .ld (x73.add 14) .ptr fun x75 =>
      .look (opS Try.prog (.binOp .neq ty_p_slab_Alloc (.tmp 0) (.const (.pointer none)) ty_p_slab_Alloc) ty_bool [(.pointer x75)]) (.one (.leaf .bool)) fun x76 =>
      bif x76 then (
        .look (opS Try.prog (.nilCheck (.tmp 0)) ty_unit [(.pointer p0)]) (.one (.leaf .addr)) fun x78 =>
        .ld (x78.add 14) .ptr fun x80 =>
        .call f_slab_Alloc_Step [(.pointer x80), (.pointer p1)] (.one (.leaf .bool)) fun x82 =>
        bif x82 then (
          .call f_frame_Make_allocated [(.pointer p0)] .unit fun _ =>
          .look (opS Try.prog (.nilCheck (.tmp 0)) ty_unit [(.pointer p0)]) (.one (.leaf .addr)) fun x86 =>
          .ld (x86.add 19) .bool fun x88 =>
          .ret (.bool x88))
        else (
          .look (opS Try.prog (.nilCheck (.tmp 0)) ty_unit [(.pointer p0)]) (.one (.leaf .addr)) fun x86 =>
          .ld (x86.add 19) .bool fun x88 =>
          .ret (.bool x88)))
      else (
        .look (opS Try.prog (.nilCheck (.tmp 0)) ty_unit [(.pointer p0)]) (.one (.leaf .addr)) fun x7 =>
        .ld (x7.add 18) (.int .i64) fun x9 =>
        .look (opS Try.prog (.nilCheck (.tmp 0)) ty_unit [(.pointer p0)]) (.one (.leaf .addr)) fun x11 =>
        .ld (x11.add 17) (.int .i64) fun x13 =>
        .look (opS Try.prog (.nilCheck (.tmp 0)) ty_unit [(.pointer p0)]) (.one (.leaf .addr)) fun x16 =>
        .ld (x16.add 17) (.int .i64) fun x18 =>
        .look (opS Try.prog (.nilCheck (.tmp 0)) ty_unit [(.pointer p0)]) (.one (.leaf .addr)) fun x19 =>
        .look (opS Try.prog (.indexAddr ty_a7_int (.tmp 0) (.tmp 1)) ty_unit [(.pointer (some (x19.add 7))), (.int .i64 x18)]) (.one (.leaf .addr)) fun x21 =>
        .ld x21 (.int .i64) fun x22 =>
        .call f_arena_Arena_Store [(.pointer p1), (.int .i64 x9), (.int .i64 x13), (.int .i64 x22)] .unit fun _ =>
        .look (opS Try.prog (.nilCheck (.tmp 0)) ty_unit [(.pointer p0)]) (.one (.leaf .addr)) fun x25 =>
        .ld (x25.add 17) (.int .i64) fun x27 =>
        .look (opS Try.prog (.nilCheck (.tmp 0)) ty_unit [(.pointer p0)]) (.one (.leaf .addr)) fun x29 =>
        .st (x29.add 17) (.int .i64 (w64 (x27 + 1))) <|
        .look (opS Try.prog (.nilCheck (.tmp 0)) ty_unit [(.pointer p0)]) (.one (.leaf .addr)) fun x33 =>
        .ld (x33.add 17) (.int .i64) fun x35 =>
        .look (opS Try.prog (.nilCheck (.tmp 0)) ty_unit [(.pointer p0)]) (.one (.leaf .addr)) fun x37 =>
        .st (x37.add 19) (.bool ((x35 : Int) == 7)) <|
        .look (opS Try.prog (.nilCheck (.tmp 0)) ty_unit [(.pointer p0)]) (.one (.leaf .addr)) fun x86 =>
        .ld (x86.add 19) .bool fun x88 =>
        .ret (.bool x88))))
theorem t_frame_Make_Step_eq (p0 : Option Addr) (p1 : Option Addr) : funcTree Try.prog { quiet := [16, 34, 36, 40, 41, 66, 67, 75, 76, 77, 97, 98, 103, 108, 110, 139, 146, 149, 161], quietTmp := false, fncs := [], ifcs := [] } Try.f136 [(.pointer p0), (.pointer p1)] = t_frame_Make_Step p0 p1 := by kernel_rfl
theorem t_frame_Make_Step_spec {p0 : Option Addr} {p1 : Option Addr} {H : Heap} {R : Value → Heap → Prop} (h : ∀ L, wp Try.prog (t_frame_Make_Step p0 p1) L H R) : SpecF Try.prog f_frame_Make_Step #[(.pointer p0), (.pointer p1)] H R :=
  spec_of_tree (cfg := { quiet := [16, 34, 36, 40, 41, 66, 67, 75, 76, 77, 97, 98, 103, 108, 110, 139, 146, 149, 161], quietTmp := false, fncs := [], ifcs := [] }) Try.func136 fun L => (t_frame_Make_Step_eq p0 p1).symm ▸ h L

/- (*magpie/frame.Make).Handle -/
noncomputable def t_frame_Make_Handle (p0 : Option Addr) : Tree :=
  .look (opS Try.prog (.nilCheck (.tmp 0)) ty_unit [(.pointer p0)]) (.one (.leaf .addr)) fun x5 =>
  .ld (x5.add 18) (.int .i64) fun x7 =>
  .look (opS Try.prog (.nilCheck (.tmp 0)) ty_unit [(.pointer p0)]) (.one (.leaf .addr)) fun x9 =>
  .ld (x9.add 19) .bool fun x11 =>
  bif x11 then (
    .look (opS Try.prog (.nilCheck (.tmp 0)) ty_unit [(.pointer p0)]) (.one (.leaf .addr)) fun x14 =>
    .ld (x14.add 18) (.int .i64) fun x16 =>
    .ret (.tuple #[(.int .i64 x7), (.bool ((x16 : Int) != 0))]))
  else (
    .ret (.tuple #[(.int .i64 x7), (.bool false)]))
theorem t_frame_Make_Handle_eq (p0 : Option Addr) : funcTree Try.prog { quiet := [16, 34, 36, 40, 41, 66, 67, 75, 76, 77, 97, 98, 103, 108, 110, 139, 146, 149, 161], quietTmp := false, fncs := [], ifcs := [] } Try.f46 [(.pointer p0)] = t_frame_Make_Handle p0 := by kernel_rfl
theorem t_frame_Make_Handle_spec {p0 : Option Addr} {H : Heap} {R : Value → Heap → Prop} (h : ∀ L, wp Try.prog (t_frame_Make_Handle p0) L H R) : SpecF Try.prog f_frame_Make_Handle #[(.pointer p0)] H R :=
  spec_of_tree (cfg := { quiet := [16, 34, 36, 40, 41, 66, 67, 75, 76, 77, 97, 98, 103, 108, 110, 139, 146, 149, 161], quietTmp := false, fncs := [], ifcs := [] }) Try.func46 fun L => (t_frame_Make_Handle_eq p0).symm ▸ h L

/- (*magpie/frame.Read).Step -/
noncomputable def t_frame_Read_Step (p0 : Option Addr) (p1 : Option Addr) : Tree :=
  .look (opS Try.prog (.nilCheck (.tmp 0)) ty_unit [(.pointer p0)]) (.one (.leaf .addr)) fun x7 =>
  .ld (x7.add 5) (.int .i64) fun x9 =>
  bif (decide ((x9 : Int) < 7)) then (
    .look (opS Try.prog (.nilCheck (.tmp 0)) ty_unit [(.pointer p0)]) (.one (.leaf .addr)) fun x13 =>
    .ld x13 (.int .i64) fun x15 =>
    .look (opS Try.prog (.nilCheck (.tmp 0)) ty_unit [(.pointer p0)]) (.one (.leaf .addr)) fun x17 =>
    .ld (x17.add 5) (.int .i64) fun x19 =>
    .call f_arena_Arena_Load [(.pointer p1), (.int .i64 x15), (.int .i64 x19)] (.one (.leaf (.int .i64))) fun x20 =>
    .look (opS Try.prog (.nilCheck (.tmp 0)) ty_unit [(.pointer p0)]) (.one (.leaf .addr)) fun x22 =>
    .ld (x22.add 5) (.int .i64) fun x24 =>
    bif ((x24 : Int) == 3) then (
      .look (opS Try.prog (.nilCheck (.tmp 0)) ty_unit [(.pointer p0)]) (.one (.leaf .addr)) fun x29 =>
      .st (x29.add 1) (.int .i64 x20) <|
      .look (opS Try.prog (.nilCheck (.tmp 0)) ty_unit [(.pointer p0)]) (.one (.leaf .addr)) fun x55 =>
      .ld (x55.add 5) (.int .i64) fun x57 =>
      .look (opS Try.prog (.nilCheck (.tmp 0)) ty_unit [(.pointer p0)]) (.one (.leaf .addr)) fun x59 =>
      .st (x59.add 5) (.int .i64 (w64 (x57 + 1))) <|
      .look (opS Try.prog (.nilCheck (.tmp 0)) ty_unit [(.pointer p0)]) (.one (.leaf .addr)) fun x62 =>
      .ld (x62.add 5) (.int .i64) fun x64 =>
      .ret (.bool ((x64 : Int) == 7)))
    else (
      bif ((x24 : Int) == 4) then (
        .look (opS Try.prog (.nilCheck (.tmp 0)) ty_unit [(.pointer p0)]) (.one (.leaf .addr)) fun x36 =>
        .st ((x36.add 1).add 1) (.int .i64 x20) <|
        .look (opS Try.prog (.nilCheck (.tmp 0)) ty_unit [(.pointer p0)]) (.one (.leaf .addr)) fun x55 =>
        .ld (x55.add 5) (.int .i64) fun x57 =>
        .look (opS Try.prog (.nilCheck (.tmp 0)) ty_unit [(.pointer p0)]) (.one (.leaf .addr)) fun x59 =>
        .st (x59.add 5) (.int .i64 (w64 (x57 + 1))) <|
        .look (opS Try.prog (.nilCheck (.tmp 0)) ty_unit [(.pointer p0)]) (.one (.leaf .addr)) fun x62 =>
        .ld (x62.add 5) (.int .i64) fun x64 =>
        .ret (.bool ((x64 : Int) == 7)))
      else (
        bif ((x24 : Int) == 5) then (
          .look (opS Try.prog (.nilCheck (.tmp 0)) ty_unit [(.pointer p0)]) (.one (.leaf .addr)) fun x43 =>
          .st ((x43.add 1).add 2) (.int .i64 x20) <|
          .look (opS Try.prog (.nilCheck (.tmp 0)) ty_unit [(.pointer p0)]) (.one (.leaf .addr)) fun x55 =>
          .ld (x55.add 5) (.int .i64) fun x57 =>
          .look (opS Try.prog (.nilCheck (.tmp 0)) ty_unit [(.pointer p0)]) (.one (.leaf .addr)) fun x59 =>
          .st (x59.add 5) (.int .i64 (w64 (x57 + 1))) <|
          .look (opS Try.prog (.nilCheck (.tmp 0)) ty_unit [(.pointer p0)]) (.one (.leaf .addr)) fun x62 =>
          .ld (x62.add 5) (.int .i64) fun x64 =>
          .ret (.bool ((x64 : Int) == 7)))
        else (
          bif ((x24 : Int) == 6) then (
            .look (opS Try.prog (.nilCheck (.tmp 0)) ty_unit [(.pointer p0)]) (.one (.leaf .addr)) fun x51 =>
            .st ((x51.add 1).add 3) (.bool ((x20 : Int) == 1)) <|
            .look (opS Try.prog (.nilCheck (.tmp 0)) ty_unit [(.pointer p0)]) (.one (.leaf .addr)) fun x55 =>
            .ld (x55.add 5) (.int .i64) fun x57 =>
            .look (opS Try.prog (.nilCheck (.tmp 0)) ty_unit [(.pointer p0)]) (.one (.leaf .addr)) fun x59 =>
            .st (x59.add 5) (.int .i64 (w64 (x57 + 1))) <|
            .look (opS Try.prog (.nilCheck (.tmp 0)) ty_unit [(.pointer p0)]) (.one (.leaf .addr)) fun x62 =>
            .ld (x62.add 5) (.int .i64) fun x64 =>
            .ret (.bool ((x64 : Int) == 7)))
          else (
            .look (opS Try.prog (.nilCheck (.tmp 0)) ty_unit [(.pointer p0)]) (.one (.leaf .addr)) fun x55 =>
            .ld (x55.add 5) (.int .i64) fun x57 =>
            .look (opS Try.prog (.nilCheck (.tmp 0)) ty_unit [(.pointer p0)]) (.one (.leaf .addr)) fun x59 =>
            .st (x59.add 5) (.int .i64 (w64 (x57 + 1))) <|
            .look (opS Try.prog (.nilCheck (.tmp 0)) ty_unit [(.pointer p0)]) (.one (.leaf .addr)) fun x62 =>
            .ld (x62.add 5) (.int .i64) fun x64 =>
            .ret (.bool ((x64 : Int) == 7)))))))
  else (
    .look (opS Try.prog (.nilCheck (.tmp 0)) ty_unit [(.pointer p0)]) (.one (.leaf .addr)) fun x62 =>
    .ld (x62.add 5) (.int .i64) fun x64 =>
    .ret (.bool ((x64 : Int) == 7)))
theorem t_frame_Read_Step_eq (p0 : Option Addr) (p1 : Option Addr) : funcTree Try.prog { quiet := [16, 34, 36, 40, 41, 66, 67, 75, 76, 77, 97, 98, 103, 108, 110, 139, 146, 149, 161], quietTmp := false, fncs := [], ifcs := [] } Try.f138 [(.pointer p0), (.pointer p1)] = t_frame_Read_Step p0 p1 := by kernel_rfl
theorem t_frame_Read_Step_spec {p0 : Option Addr} {p1 : Option Addr} {H : Heap} {R : Value → Heap → Prop} (h : ∀ L, wp Try.prog (t_frame_Read_Step p0 p1) L H R) : SpecF Try.prog f_frame_Read_Step #[(.pointer p0), (.pointer p1)] H R :=
  spec_of_tree (cfg := { quiet := [16, 34, 36, 40, 41, 66, 67, 75, 76, 77, 97, 98, 103, 108, 110, 139, 146, 149, 161], quietTmp := false, fncs := [], ifcs := [] }) Try.func138 fun L => (t_frame_Read_Step_eq p0 p1).symm ▸ h L

/- (*magpie/frame.Read).Task -/
noncomputable def t_frame_Read_Task (p0 : Option Addr) : Tree :=
  .newP (.cells #[(.int .i64 0), (.int .i64 0), (.int .i64 0), (.bool false)] ty_frame_Task) fun x2 =>
  .look (opS Try.prog (.nilCheck (.tmp 0)) ty_unit [(.pointer p0)]) (.one (.leaf .addr)) fun x4 =>
  .ldA (x4.add 1) [(.int .i64), (.int .i64), (.int .i64), .bool] fun x6 =>
  .stA x2 [(.int .i64 x6.1), (.int .i64 x6.2.1), (.int .i64 x6.2.2.1), (.bool x6.2.2.2.1)] <|
  .look (ldK x2 4 0 #[] fun r0 => .pure (.value (.agg r0))) (.one (.agg [(.int .i64), (.int .i64), (.int .i64), .bool])) fun r => .ret (Sh.toVal (.one (.agg [(.int .i64), (.int .i64), (.int .i64), .bool])) r)
theorem t_frame_Read_Task_eq (p0 : Option Addr) : funcTree Try.prog { quiet := [16, 34, 36, 40, 41, 66, 67, 75, 76, 77, 97, 98, 103, 108, 110, 139, 146, 149, 161], quietTmp := false, fncs := [], ifcs := [] } Try.f48 [(.pointer p0)] = t_frame_Read_Task p0 := by kernel_rfl
theorem t_frame_Read_Task_spec {p0 : Option Addr} {H : Heap} {R : Value → Heap → Prop} (h : ∀ L, wp Try.prog (t_frame_Read_Task p0) L H R) : SpecF Try.prog f_frame_Read_Task #[(.pointer p0)] H R :=
  spec_of_tree (cfg := { quiet := [16, 34, 36, 40, 41, 66, 67, 75, 76, 77, 97, 98, 103, 108, 110, 139, 146, 149, 161], quietTmp := false, fncs := [], ifcs := [] }) Try.func48 fun L => (t_frame_Read_Task_eq p0).symm ▸ h L

/- (*magpie/frame.Drop).Step -/
noncomputable def t_frame_Drop_Step (p0 : Option Addr) (p1 : Option Addr) : Tree :=
  .look (opS Try.prog (.nilCheck (.tmp 0)) ty_unit [(.pointer p0)]) (.one (.leaf .addr)) fun x7 =>
  .ld (x7.add 3) .bool fun x9 =>
  bif (!x9) then (
    .look (opS Try.prog (.nilCheck (.tmp 0)) ty_unit [(.pointer p0)]) (.one (.leaf .addr)) fun x12 =>
    .st (x12.add 3) (.bool true) <|
    .look (opS Try.prog (.nilCheck (.tmp 0)) ty_unit [(.pointer p0)]) (.one (.leaf .addr)) fun x16 =>
    .ld (x16.add 2) (.int .i64) fun x18 =>
    .call f_arena_Arena_Add [(.pointer p1), (.int .i64 x18), (.int .i64 2), (.int .i64 (-1))] (.one (.leaf (.int .i64))) fun x19 =>
    bif ((x19 : Int) == 1) then (
      .look (opS Try.prog (.nilCheck (.tmp 0)) ty_unit [(.pointer p0)]) (.one (.leaf .addr)) fun x23 =>
      .ld x23 .ptr fun x25 =>
      .look (opS Try.prog (.nilCheck (.tmp 0)) ty_unit [(.pointer p0)]) (.one (.leaf .addr)) fun x28 =>
      .ld (x28.add 1) (.int .i64) fun x30 =>
      .look (opS Try.prog (.nilCheck (.tmp 0)) ty_unit [(.pointer p0)]) (.one (.leaf .addr)) fun x32 =>
      .ld (x32.add 2) (.int .i64) fun x34 =>
      .call f_guard_Guard_Retire [(.pointer x25), (.pointer p1), (.int .i64 x30), (.int .i64 x34)] (.one (.leaf .val)) fun x35 =>
      .look (opS Try.prog (.nilCheck (.tmp 0)) ty_unit [(.pointer p0)]) (.one (.leaf .addr)) fun x36 =>
      .act (opS Try.prog (.store ty_guard_Machine (.tmp 0) (.tmp 1)) ty_unit [(.pointer (some (x36.add 4))), x35]) .unit fun _ =>
      .look (opS Try.prog (.nilCheck (.tmp 0)) ty_unit [(.pointer p0)]) (.one (.leaf .addr)) fun x56 =>
      .ld (x56.add 4) .val fun x58 =>
      .look (opS Try.prog (.binOp .eql ty_guard_Machine (.tmp 0) (.const .nilIface) ty_guard_Machine) ty_bool [x58]) (.one (.leaf .bool)) fun x59 =>
      .ret (.bool x59))
    else (
      .look (opS Try.prog (.nilCheck (.tmp 0)) ty_unit [(.pointer p0)]) (.one (.leaf .addr)) fun x56 =>
      .ld (x56.add 4) .val fun x58 =>
      .look (opS Try.prog (.binOp .eql ty_guard_Machine (.tmp 0) (.const .nilIface) ty_guard_Machine) ty_bool [x58]) (.one (.leaf .bool)) fun x59 =>
      .ret (.bool x59)))
  else (
    .look (opS Try.prog (.nilCheck (.tmp 0)) ty_unit [(.pointer p0)]) (.one (.leaf .addr)) fun x40 =>
    .ld (x40.add 4) .val fun x42 =>
    .look (opS Try.prog (.binOp .neq ty_guard_Machine (.tmp 0) (.const .nilIface) ty_guard_Machine) ty_bool [x42]) (.one (.leaf .bool)) fun x43 =>
    bif x43 then (
      .look (opS Try.prog (.nilCheck (.tmp 0)) ty_unit [(.pointer p0)]) (.one (.leaf .addr)) fun x46 =>
      .ld (x46.add 4) .val fun x48 =>
      .act (opS Try.prog (.call { callee := .invoke (.tmp 0) "Step", args := #[(.tmp 1)], argTypes := #[ty_p_arena_Arena] }) ty_bool [x48, (.pointer p1)]) (.one (.leaf .bool)) fun x50 =>
      bif x50 then (
        .look (opS Try.prog (.nilCheck (.tmp 0)) ty_unit [(.pointer p0)]) (.one (.leaf .addr)) fun x53 =>
        .st (x53.add 4) .nilIface <|
        .look (opS Try.prog (.nilCheck (.tmp 0)) ty_unit [(.pointer p0)]) (.one (.leaf .addr)) fun x56 =>
        .ld (x56.add 4) .val fun x58 =>
        .look (opS Try.prog (.binOp .eql ty_guard_Machine (.tmp 0) (.const .nilIface) ty_guard_Machine) ty_bool [x58]) (.one (.leaf .bool)) fun x59 =>
        .ret (.bool x59))
      else (
        .look (opS Try.prog (.nilCheck (.tmp 0)) ty_unit [(.pointer p0)]) (.one (.leaf .addr)) fun x56 =>
        .ld (x56.add 4) .val fun x58 =>
        .look (opS Try.prog (.binOp .eql ty_guard_Machine (.tmp 0) (.const .nilIface) ty_guard_Machine) ty_bool [x58]) (.one (.leaf .bool)) fun x59 =>
        .ret (.bool x59)))
    else (
      .look (opS Try.prog (.nilCheck (.tmp 0)) ty_unit [(.pointer p0)]) (.one (.leaf .addr)) fun x56 =>
      .ld (x56.add 4) .val fun x58 =>
      .look (opS Try.prog (.binOp .eql ty_guard_Machine (.tmp 0) (.const .nilIface) ty_guard_Machine) ty_bool [x58]) (.one (.leaf .bool)) fun x59 =>
      .ret (.bool x59)))
theorem t_frame_Drop_Step_eq (p0 : Option Addr) (p1 : Option Addr) : funcTree Try.prog { quiet := [16, 34, 36, 40, 41, 66, 67, 75, 76, 77, 97, 98, 103, 108, 110, 139, 146, 149, 161], quietTmp := false, fncs := [], ifcs := [] } Try.f83 [(.pointer p0), (.pointer p1)] = t_frame_Drop_Step p0 p1 := by kernel_rfl
theorem t_frame_Drop_Step_spec {p0 : Option Addr} {p1 : Option Addr} {H : Heap} {R : Value → Heap → Prop} (h : ∀ L, wp Try.prog (t_frame_Drop_Step p0 p1) L H R) : SpecF Try.prog f_frame_Drop_Step #[(.pointer p0), (.pointer p1)] H R :=
  spec_of_tree (cfg := { quiet := [16, 34, 36, 40, 41, 66, 67, 75, 76, 77, 97, 98, 103, 108, 110, 139, 146, 149, 161], quietTmp := false, fncs := [], ifcs := [] }) Try.func83 fun L => (t_frame_Drop_Step_eq p0 p1).symm ▸ h L

/- (*magpie/frame.End).Step -/
noncomputable def t_frame_End_Step (p0 : Option Addr) (p1 : Option Addr) : Tree :=
  .look (opS Try.prog (.nilCheck (.tmp 0)) ty_unit [(.pointer p0)]) (.one (.leaf .addr)) fun x22 =>
  .ld (x22.add 8) .bool fun x24 =>
  bif x24 then (
    .look (opS Try.prog (.nilCheck (.tmp 0)) ty_unit [(.pointer p0)]) (.one (.leaf .addr)) fun x26 =>
    .call f_frame_Drop_Step [(.pointer (some x26)), (.pointer p1)] (.one (.leaf .bool)) fun x29 =>
    .ret (.bool x29))
  else (
    .look (opS Try.prog (.nilCheck (.tmp 0)) ty_unit [(.pointer p0)]) (.one (.leaf .addr)) fun x32 =>
    .ld (x32.add 7) (.int .i64) fun x34 =>
    bif ((x34 : Int) == 1) then (
      .look (opS Try.prog (.nilCheck (.tmp 0)) ty_unit [(.pointer p0)]) (.one (.leaf .addr)) fun x38 =>
      .ld (x38.add 2) (.int .i64) fun x41 =>
      .look (opS Try.prog (.nilCheck (.tmp 0)) ty_unit [(.pointer p0)]) (.one (.leaf .addr)) fun x43 =>
      .ld ((x43.add 5).add 1) (.int .i64) fun x46 =>
      .call f_arena_Arena_Store [(.pointer p1), (.int .i64 x41), (.int .i64 1), (.int .i64 x46)] .unit fun _ =>
      .look (opS Try.prog (.nilCheck (.tmp 0)) ty_unit [(.pointer p0)]) (.one (.leaf .addr)) fun x49 =>
      .st (x49.add 7) (.int .i64 0) <|
      .ret (.bool false))
    else (
      .look (opS Try.prog (.nilCheck (.tmp 0)) ty_unit [(.pointer p0)]) (.one (.leaf .addr)) fun x7 =>
      .ld (x7.add 2) (.int .i64) fun x10 =>
      .look (opS Try.prog (.nilCheck (.tmp 0)) ty_unit [(.pointer p0)]) (.one (.leaf .addr)) fun x12 =>
      .ld (x12.add 5) (.int .i64) fun x15 =>
      .call f_arena_Arena_Store [(.pointer p1), (.int .i64 x10), (.int .i64 0), (.int .i64 x15)] .unit fun _ =>
      .look (opS Try.prog (.nilCheck (.tmp 0)) ty_unit [(.pointer p0)]) (.one (.leaf .addr)) fun x18 =>
      .st (x18.add 8) (.bool true) <|
      .ret (.bool false)))
theorem t_frame_End_Step_eq (p0 : Option Addr) (p1 : Option Addr) : funcTree Try.prog { quiet := [16, 34, 36, 40, 41, 66, 67, 75, 76, 77, 97, 98, 103, 108, 110, 139, 146, 149, 161], quietTmp := false, fncs := [], ifcs := [] } Try.f55 [(.pointer p0), (.pointer p1)] = t_frame_End_Step p0 p1 := by kernel_rfl
theorem t_frame_End_Step_spec {p0 : Option Addr} {p1 : Option Addr} {H : Heap} {R : Value → Heap → Prop} (h : ∀ L, wp Try.prog (t_frame_End_Step p0 p1) L H R) : SpecF Try.prog f_frame_End_Step #[(.pointer p0), (.pointer p1)] H R :=
  spec_of_tree (cfg := { quiet := [16, 34, 36, 40, 41, 66, 67, 75, 76, 77, 97, 98, 103, 108, 110, 139, 146, 149, 161], quietTmp := false, fncs := [], ifcs := [] }) Try.func55 fun L => (t_frame_End_Step_eq p0 p1).symm ▸ h L

/- (*magpie/frame.End).Told -/
noncomputable def t_frame_End_Told (p0 : Option Addr) : Tree :=
  .look (opS Try.prog (.nilCheck (.tmp 0)) ty_unit [(.pointer p0)]) (.one (.leaf .addr)) fun x4 =>
  .ld (x4.add 8) .bool fun x6 =>
  .ret (.bool x6)
theorem t_frame_End_Told_eq (p0 : Option Addr) : funcTree Try.prog { quiet := [16, 34, 36, 40, 41, 66, 67, 75, 76, 77, 97, 98, 103, 108, 110, 139, 146, 149, 161], quietTmp := false, fncs := [], ifcs := [] } Try.f54 [(.pointer p0)] = t_frame_End_Told p0 := by kernel_rfl
theorem t_frame_End_Told_spec {p0 : Option Addr} {H : Heap} {R : Value → Heap → Prop} (h : ∀ L, wp Try.prog (t_frame_End_Told p0) L H R) : SpecF Try.prog f_frame_End_Told #[(.pointer p0)] H R :=
  spec_of_tree (cfg := { quiet := [16, 34, 36, 40, 41, 66, 67, 75, 76, 77, 97, 98, 103, 108, 110, 139, 146, 149, 161], quietTmp := false, fncs := [], ifcs := [] }) Try.func54 fun L => (t_frame_End_Told_eq p0).symm ▸ h L

/- (*magpie/frame.Ask).Step -/
noncomputable def t_frame_Ask_Step (p0 : Option Addr) (p1 : Option Addr) : Tree :=
  .look (opS Try.prog (.nilCheck (.tmp 0)) ty_unit [(.pointer p0)]) (.one (.leaf .addr)) fun x21 =>
  .ld (x21.add 9) .bool fun x23 =>
  bif x23 then (
    .look (opS Try.prog (.nilCheck (.tmp 0)) ty_unit [(.pointer p0)]) (.one (.leaf .addr)) fun x67 =>
    .ld (x67.add 9) .bool fun x69 =>
    .ret (.bool x69))
  else (
    .look (opS Try.prog (.nilCheck (.tmp 0)) ty_unit [(.pointer p0)]) (.one (.leaf .addr)) fun x26 =>
    .ld (x26.add 8) .bool fun x28 =>
    bif x28 then (
      .look (opS Try.prog (.nilCheck (.tmp 0)) ty_unit [(.pointer p0)]) (.one (.leaf .addr)) fun x31 =>
      .call f_frame_Drop_Step [(.pointer (some x31)), (.pointer p1)] (.one (.leaf .bool)) fun x34 =>
      .look (opS Try.prog (.nilCheck (.tmp 0)) ty_unit [(.pointer p0)]) (.one (.leaf .addr)) fun x35 =>
      .st (x35.add 9) (.bool x34) <|
      .look (opS Try.prog (.nilCheck (.tmp 0)) ty_unit [(.pointer p0)]) (.one (.leaf .addr)) fun x67 =>
      .ld (x67.add 9) .bool fun x69 =>
      .ret (.bool x69))
    else (
      .look (opS Try.prog (.nilCheck (.tmp 0)) ty_unit [(.pointer p0)]) (.one (.leaf .addr)) fun x39 =>
      .ld (x39.add 7) (.int .i64) fun x41 =>
      bif ((x41 : Int) == 0) then (
        .look (opS Try.prog (.nilCheck (.tmp 0)) ty_unit [(.pointer p0)]) (.one (.leaf .addr)) fun x46 =>
        .ld (x46.add 2) (.int .i64) fun x49 =>
        .call f_arena_Arena_Load [(.pointer p1), (.int .i64 x49), (.int .i64 0)] (.one (.leaf (.int .i64))) fun x50 =>
        .look (opS Try.prog (.nilCheck (.tmp 0)) ty_unit [(.pointer p0)]) (.one (.leaf .addr)) fun x51 =>
        .st (x51.add 5) (.int .i64 x50) <|
        .look (opS Try.prog (.nilCheck (.tmp 0)) ty_unit [(.pointer p0)]) (.one (.leaf .addr)) fun x55 =>
        .st (x55.add 7) (.int .i64 1) <|
        .look (opS Try.prog (.nilCheck (.tmp 0)) ty_unit [(.pointer p0)]) (.one (.leaf .addr)) fun x59 =>
        .ld (x59.add 5) (.int .i64) fun x62 =>
        .look (opS Try.prog (.nilCheck (.tmp 0)) ty_unit [(.pointer p0)]) (.one (.leaf .addr)) fun x64 =>
        .st (x64.add 9) (.bool ((x62 : Int) == 0)) <|
        .look (opS Try.prog (.nilCheck (.tmp 0)) ty_unit [(.pointer p0)]) (.one (.leaf .addr)) fun x67 =>
        .ld (x67.add 9) .bool fun x69 =>
        .ret (.bool x69))
      else (
        .look (opS Try.prog (.nilCheck (.tmp 0)) ty_unit [(.pointer p0)]) (.one (.leaf .addr)) fun x8 =>
        .ld (x8.add 2) (.int .i64) fun x11 =>
        .call f_arena_Arena_Load [(.pointer p1), (.int .i64 x11), (.int .i64 1)] (.one (.leaf (.int .i64))) fun x12 =>
        .look (opS Try.prog (.nilCheck (.tmp 0)) ty_unit [(.pointer p0)]) (.one (.leaf .addr)) fun x13 =>
        .st ((x13.add 5).add 1) (.int .i64 x12) <|
        .look (opS Try.prog (.nilCheck (.tmp 0)) ty_unit [(.pointer p0)]) (.one (.leaf .addr)) fun x17 =>
        .st (x17.add 8) (.bool true) <|
        .look (opS Try.prog (.nilCheck (.tmp 0)) ty_unit [(.pointer p0)]) (.one (.leaf .addr)) fun x67 =>
        .ld (x67.add 9) .bool fun x69 =>
        .ret (.bool x69))))
theorem t_frame_Ask_Step_eq (p0 : Option Addr) (p1 : Option Addr) : funcTree Try.prog { quiet := [16, 34, 36, 40, 41, 66, 67, 75, 76, 77, 97, 98, 103, 108, 110, 139, 146, 149, 161], quietTmp := false, fncs := [], ifcs := [] } Try.f56 [(.pointer p0), (.pointer p1)] = t_frame_Ask_Step p0 p1 := by kernel_rfl
theorem t_frame_Ask_Step_spec {p0 : Option Addr} {p1 : Option Addr} {H : Heap} {R : Value → Heap → Prop} (h : ∀ L, wp Try.prog (t_frame_Ask_Step p0 p1) L H R) : SpecF Try.prog f_frame_Ask_Step #[(.pointer p0), (.pointer p1)] H R :=
  spec_of_tree (cfg := { quiet := [16, 34, 36, 40, 41, 66, 67, 75, 76, 77, 97, 98, 103, 108, 110, 139, 146, 149, 161], quietTmp := false, fncs := [], ifcs := [] }) Try.func56 fun L => (t_frame_Ask_Step_eq p0 p1).symm ▸ h L

/- (*magpie/frame.Ask).End -/
noncomputable def t_frame_Ask_End (p0 : Option Addr) : Tree :=
  .newP (.cells #[(.int .i64 0), (.int .i64 0)] ty_api_End) fun x2 =>
  .look (opS Try.prog (.nilCheck (.tmp 0)) ty_unit [(.pointer p0)]) (.one (.leaf .addr)) fun x5 =>
  .ld (x5.add 9) .bool fun x7 =>
  bif (!x7) then (
    .stA x2 [(.int .i64 0), (.int .i64 0)] <|
    .look (ldK x2 2 0 #[] fun r0 => .pure (.value (.tuple #[(.agg r0), (.bool false)]))) (.tup [(.agg [(.int .i64), (.int .i64)]), (.leaf .bool)]) fun r => .ret (Sh.toVal (.tup [(.agg [(.int .i64), (.int .i64)]), (.leaf .bool)]) r))
  else (
    .look (opS Try.prog (.nilCheck (.tmp 0)) ty_unit [(.pointer p0)]) (.one (.leaf .addr)) fun x11 =>
    .ld (x11.add 5) (.int .i64) fun x14 =>
    bif ((x14 : Int) == 0) then (
      .stA x2 [(.int .i64 0), (.int .i64 0)] <|
      .look (ldK x2 2 0 #[] fun r0 => .pure (.value (.tuple #[(.agg r0), (.bool false)]))) (.tup [(.agg [(.int .i64), (.int .i64)]), (.leaf .bool)]) fun r => .ret (Sh.toVal (.tup [(.agg [(.int .i64), (.int .i64)]), (.leaf .bool)]) r))
    else (
      .look (opS Try.prog (.nilCheck (.tmp 0)) ty_unit [(.pointer p0)]) (.one (.leaf .addr)) fun x19 =>
      .ldA (x19.add 5) [(.int .i64), (.int .i64)] fun x21 =>
      .stA x2 [(.int .i64 x21.1), (.int .i64 x21.2.1)] <|
      .look (ldK x2 2 0 #[] fun r0 => .pure (.value (.tuple #[(.agg r0), (.bool true)]))) (.tup [(.agg [(.int .i64), (.int .i64)]), (.leaf .bool)]) fun r => .ret (Sh.toVal (.tup [(.agg [(.int .i64), (.int .i64)]), (.leaf .bool)]) r)))
theorem t_frame_Ask_End_eq (p0 : Option Addr) : funcTree Try.prog { quiet := [16, 34, 36, 40, 41, 66, 67, 75, 76, 77, 97, 98, 103, 108, 110, 139, 146, 149, 161], quietTmp := false, fncs := [], ifcs := [] } Try.f52 [(.pointer p0)] = t_frame_Ask_End p0 := by kernel_rfl
theorem t_frame_Ask_End_spec {p0 : Option Addr} {H : Heap} {R : Value → Heap → Prop} (h : ∀ L, wp Try.prog (t_frame_Ask_End p0) L H R) : SpecF Try.prog f_frame_Ask_End #[(.pointer p0)] H R :=
  spec_of_tree (cfg := { quiet := [16, 34, 36, 40, 41, 66, 67, 75, 76, 77, 97, 98, 103, 108, 110, 139, 146, 149, 161], quietTmp := false, fncs := [], ifcs := [] }) Try.func52 fun L => (t_frame_Ask_End_eq p0).symm ▸ h L

end Go.Proofs.Ytcjhakdopnamoaa

set_option linter.unusedVariables false
set_option linter.unusedSimpArgs false
set_option maxRecDepth 20000
namespace Go.Proofs.Ytcjhakdopnamoaa
open Go Go.Fw

/-! ### frame.Drop -/
structure Dr where
  g : Gd
  ls : Int → List (Int × Int)
  work : Int
  h : Int
  added : Bool
  m : Option Lk
def drC (x : Dr) (q : Nat) (v : Value) : List Value := [.pointer (some ⟨q, 0, none⟩), .int .i64 x.work, .int .i64 x.h, .bool x.added, v]
def Dr.fin (x : Dr) : Bool := x.m.isNone
def Dr.add (x : Dr) (A : Ar) : Ar := A.storeF x.h 2 (w64 (A.loadF x.h 2 + -1))
def Dr.step (x : Dr) (A : Ar) : Dr × Ar :=
  if x.added = false then
    if A.loadF x.h 2 = 1 then ({ x with added := true, m := retM x.g x.ls x.work x.h, ls := setL x.ls x.work (x.ls x.work ++ [(x.h, 0)]) }, (x.add A).retireF x.h)
    else ({ x with added := true }, x.add A)
  else match x.m with
    | none => (x, A)
    | some y => if (y.step A).1.fin = true then ({ x with m := none, ls := (y.step A).1.ls }, (y.step A).2) else ({ x with m := some (y.step A).1 }, (y.step A).2)
structure Dr.inv (x : Dr) (A : Ar) : Prop where
  wb : 1 ≤ x.g.w ∧ x.g.w ≤ 1000
  ll : (x.ls x.work).length < 1000
  no : x.added = false → x.m = none
  mi : ∀ y, x.m = some y → y.inv A

/-- What a step leaves. -/
def DrP (b q mq : Nat) (T : TypeId) (tail : List Value) (z : Dr × Ar) (I : List Nat) (G : Heap) : Value → Heap → Prop := fun v K => ∃ e lj gar, v = .bool z.1.fin ∧ K = own z.2 ((b, oc T (drC z.1 q (gmV z.1.m lj) ++ tail)) :: (gmB z.1.g q mq z.1.m e lj ++ gar)) G ∧
  Ok I G (keys ((b, oc T (drC z.1 q (gmV z.1.m lj) ++ tail)) :: (gmB z.1.g q mq z.1.m e lj ++ gar))) ∧ gmR z.1.g q mq z.1.ls z.1.m e lj ∧ Aw I z.2

section
variable {L : Hands} {R : Value → Heap → Prop} {G : Heap} {l rest : Bl} {A A' : Ar} {I : List Nat} {g : Gd} {q mq b : Nat} {T : TypeId} {tail : List Value}

set_option maxHeartbeats 1000000 in
theorem drop_spec (x : Dr) {e : List LE} {lj : LkJ} {gar : Bl} (hA : Aw I A) (ok : Ok I G (keys ((b, oc T (drC x q (gmV x.m lj) ++ tail)) :: (gmB x.g q mq x.m e lj ++ gar)))) (rp : gmR x.g q mq x.ls x.m e lj) (hi : x.inv A) :
    SpecF Try.prog f_frame_Drop_Step #[.pointer (some ⟨b, 0, none⟩), .pointer (aI I)] (own A ((b, oc T (drC x q (gmV x.m lj) ++ tail)) :: (gmB x.g q mq x.m e lj ++ gar)) G) (DrP b q mq T tail (x.step A) I G) := by
  refine t_frame_Drop_Step_spec fun L => ?_
  unfold t_frame_Drop_Step
  have hwb := hi.wb
  have hll := hi.ll
  have hno := hi.no
  have hmi := hi.mi
  obtain ⟨g, ls, work, h, added, m⟩ := x
  cases added with
  | false =>
    obtain rfl : m = none := hno rfl
    have ok : Ok I G (keys ((b, oc T ([.pointer (some ⟨q, 0, none⟩), .int .i64 work, .int .i64 h, .bool false, .nilIface] ++ tail)) :: (g.bl q mq e ++ gar))) := ok
    show wp Try.prog _ L (own A ((b, oc T ([.pointer (some ⟨q, 0, none⟩), .int .i64 work, .int .i64 h, .bool false, .nilIface] ++ tail)) :: (g.bl q mq e ++ gar)) G) _
    refine wp_nil.2 (w_ld 0 (x := false) hA ok rfl rfl rfl (wp_true rfl ?_))
    refine wp_nil.2 (w_st 0 hA ok rfl rfl rfl rfl ?_)
    have ok1 : Ok I G (keys ((b, oc T ([.pointer (some ⟨q, 0, none⟩), .int .i64 work, .int .i64 h, .bool true, .nilIface] ++ tail)) :: (g.bl q mq e ++ gar))) := ok
    show wp Try.prog _ L (own A ((b, oc T ([.pointer (some ⟨q, 0, none⟩), .int .i64 work, .int .i64 h, .bool true, .nilIface] ++ tail)) :: (g.bl q mq e ++ gar)) G) _
    refine wp_nil.2 (w_ld 0 (x := h) hA ok1 rfl rfl rfl ?_)
    refine w_Add hA fun hA1 => ?_
    by_cases hv : A.loadF h 2 = 1
    · refine wp_true (ibeq hv) ?_
      have hz : Dr.step ⟨g, ls, work, h, false, none⟩ A = (⟨g, setL ls work (ls work ++ [(h, 0)]), work, h, true, retM g ls work h⟩, (A.storeF h 2 (w64 (A.loadF h 2 + -1))).retireF h) := by
        unfold Dr.step; rw [if_pos rfl, if_pos hv]; rfl
      rw [hz]
      refine wp_nil.2 (w_ld 0 (x := some ⟨q, 0, none⟩) hA1 ok1 rfl rfl rfl ?_)
      refine wp_nil.2 (w_ld 0 (x := work) hA1 ok1 rfl rfl rfl ?_)
      refine wp_nil.2 (w_ld 0 (x := h) hA1 ok1 rfl rfl rfl ?_)
      obtain ⟨cD, hcD⟩ : ∃ cD : Nat × Obj, cD = (b, oc T ([.pointer (some ⟨q, 0, none⟩), .int .i64 work, .int .i64 h, .bool true, .nilIface] ++ tail)) := ⟨_, rfl⟩
      rw [← hcD] at ok1 ⊢
      generalize A.storeF h 2 (w64 (A.loadF h 2 + -1)) = A1 at *
      obtain ⟨p1, ok2⟩ := own_perm (A := A1) (l' := g.bl q mq e ++ (cD :: gar)) ok1 (perm_by fun c d c0 cd ca => by simp only [cd, ca, c0]; omega)
      rw [p1]
      refine w_retGm hA1 ok2 rp hll fun e' lj' gar' ok3 rp' => ?_
      have hA2 := hA1.retireF h
      obtain ⟨p2, ok4⟩ := own_perm (A := A1.retireF h) (l' := cD :: (gmB g q mq (retM g ls work h) e' lj' ++ (gar' ++ gar))) ok3 (perm_by fun c d c0 cd ca => by simp only [cd, ca, c0]; omega)
      rw [p2]
      rw [hcD] at ok4 ⊢
      refine wp_nil.2 (w_stGm 0 hA2 ok4 rfl rfl rfl ?_)
      have ok5 : Ok I G (keys ((b, oc T ([.pointer (some ⟨q, 0, none⟩), .int .i64 work, .int .i64 h, .bool true, gmV (retM g ls work h) lj'] ++ tail)) :: (gmB g q mq (retM g ls work h) e' lj' ++ (gar' ++ gar)))) := ok4
      show wp Try.prog _ L (own (A1.retireF h) ((b, oc T ([.pointer (some ⟨q, 0, none⟩), .int .i64 work, .int .i64 h, .bool true, gmV (retM g ls work h) lj'] ++ tail)) :: (gmB g q mq (retM g ls work h) e' lj' ++ (gar' ++ gar))) G) _
      refine wp_nil.2 (w_ld 0 (x := gmV (retM g ls work h) lj') hA2 ok5 rfl rfl rfl ?_)
      refine look_val (x := (retM g ls work h).isNone) (gmV_nil _ _ _) ?_
      exact wp_ret_of ⟨e', lj', gar' ++ gar, rfl, rfl, ok5, rp', hA2⟩
    · refine wp_false (ibef hv) ?_
      have hz : Dr.step ⟨g, ls, work, h, false, none⟩ A = (⟨g, ls, work, h, true, none⟩, A.storeF h 2 (w64 (A.loadF h 2 + -1))) := by
        unfold Dr.step; rw [if_pos rfl, if_neg hv]; rfl
      rw [hz]
      refine wp_nil.2 (w_ld 0 (x := .nilIface) hA1 ok1 rfl rfl rfl ?_)
      refine look_val (x := true) (gmV_nil none lj _) ?_
      exact wp_ret_of ⟨e, lj, gar, rfl, rfl, ok1, rp, hA1⟩
  | true =>
    cases m with
    | none =>
      have ok : Ok I G (keys ((b, oc T ([.pointer (some ⟨q, 0, none⟩), .int .i64 work, .int .i64 h, .bool true, .nilIface] ++ tail)) :: (g.bl q mq e ++ gar))) := ok
      show wp Try.prog _ L (own A ((b, oc T ([.pointer (some ⟨q, 0, none⟩), .int .i64 work, .int .i64 h, .bool true, .nilIface] ++ tail)) :: (g.bl q mq e ++ gar)) G) _
      refine wp_nil.2 (w_ld 0 (x := true) hA ok rfl rfl rfl (wp_false rfl ?_))
      refine wp_nil.2 (w_ld 0 (x := .nilIface) hA ok rfl rfl rfl ?_)
      refine look_val (x := false) (gmV_nn none lj _) (wp_false rfl ?_)
      refine wp_nil.2 (w_ld 0 (x := .nilIface) hA ok rfl rfl rfl ?_)
      refine look_val (x := true) (gmV_nil none lj _) ?_
      exact wp_ret_of ⟨e, lj, gar, rfl, rfl, ok, rp, hA⟩
    | some y =>
      obtain ⟨rpy, hyg⟩ := rp
      have hyg : y.g = g := hyg
      have hyi := hmi y rfl
      have ok : Ok I G (keys ((b, oc T ([.pointer (some ⟨q, 0, none⟩), .int .i64 work, .int .i64 h, .bool true, gmV (some y) lj] ++ tail)) :: (y.bl lj ++ gar))) := ok
      show wp Try.prog _ L (own A ((b, oc T ([.pointer (some ⟨q, 0, none⟩), .int .i64 work, .int .i64 h, .bool true, gmV (some y) lj] ++ tail)) :: (y.bl lj ++ gar)) G) _
      refine wp_nil.2 (w_ld 0 (x := true) hA ok rfl rfl rfl (wp_false rfl ?_))
      refine wp_nil.2 (w_ld 0 (x := gmV (some y) lj) hA ok rfl rfl rfl ?_)
      refine look_val (x := true) (gmV_nn (some y) lj _) (wp_true rfl ?_)
      refine wp_nil.2 (w_ld 0 (x := gmV (some y) lj) hA ok rfl rfl rfl ?_)
      obtain ⟨cD, hcD⟩ : ∃ cD : Nat × Obj, cD = (b, oc T ([.pointer (some ⟨q, 0, none⟩), .int .i64 work, .int .i64 h, .bool true, gmV (some y) lj] ++ tail)) := ⟨_, rfl⟩
      rw [← hcD] at ok ⊢
      obtain ⟨p1, ok2⟩ := own_perm (A := A) (l' := y.bl lj ++ (cD :: gar)) ok (perm_by fun c d c0 cd ca => by simp only [cd, ca, c0]; omega)
      rw [p1]
      refine w_lkStep hA ok2 rpy hyi fun lj' hq hA1 ok3 rp' => ?_
      have hz : Dr.step ⟨g, ls, work, h, true, some y⟩ A = if (y.step A).1.fin = true then (⟨g, (y.step A).1.ls, work, h, true, none⟩, (y.step A).2) else (⟨g, ls, work, h, true, some (y.step A).1⟩, (y.step A).2) := rfl
      rw [hz]
      have hg1 : (y.step A).1.g = g := (y.step_g A).1.trans hyg
      generalize hA2 : (y.step A).2 = A2 at *
      generalize hy1 : (y.step A).1 = y1 at *
      cases hf : y1.fin with
      | true =>
        rw [if_pos rfl]
        refine wp_true rfl ?_
        obtain ⟨e', gar', p2, ok4, gs⟩ := lk_done (A := A2) (rest := cD :: gar) hf rp' ok3
        rw [hg1] at p2 ok4
        rw [p2]
        obtain ⟨p3, ok5⟩ := own_perm (A := A2) (l' := cD :: (g.bl q mq e' ++ (gar' ++ gar))) ok4 (perm_by fun c d c0 cd ca => by simp only [cd, ca, c0]; omega)
        rw [p3]
        rw [hcD] at ok5 ⊢
        refine wp_nil.2 (w_st 0 hA1 ok5 rfl rfl rfl rfl ?_)
        have ok6 : Ok I G (keys ((b, oc T ([.pointer (some ⟨q, 0, none⟩), .int .i64 work, .int .i64 h, .bool true, .nilIface] ++ tail)) :: (g.bl q mq e' ++ (gar' ++ gar)))) := ok5
        show wp Try.prog _ L (own A2 ((b, oc T ([.pointer (some ⟨q, 0, none⟩), .int .i64 work, .int .i64 h, .bool true, .nilIface] ++ tail)) :: (g.bl q mq e' ++ (gar' ++ gar))) G) _
        refine wp_nil.2 (w_ld 0 (x := .nilIface) hA1 ok6 rfl rfl rfl ?_)
        refine look_val (x := true) (gmV_nil none lj _) ?_
        exact wp_ret_of ⟨e', lj, gar' ++ gar, rfl, rfl, ok6, gs, hA1⟩
      | false =>
        rw [if_neg (by decide)]
        refine wp_false rfl ?_
        obtain ⟨p3, ok5⟩ := own_perm (A := A2) (l' := cD :: (y1.bl lj' ++ gar)) ok3 (perm_by fun c d c0 cd ca => by simp only [cd, ca, c0]; omega)
        rw [p3]
        have hv : gmV (some y) lj = gmV (some y1) lj' := by
          show Value.iface ty_p_guard_look (.pointer (some ⟨lj.q, 0, none⟩)) = Value.iface ty_p_guard_look (.pointer (some ⟨lj'.q, 0, none⟩))
          rw [hq]
        rw [hcD, hv] at ok5 ⊢
        refine wp_nil.2 (w_ld 0 (x := gmV (some y1) lj') hA1 ok5 rfl rfl rfl ?_)
        refine look_val (x := false) (gmV_nil (some y1) lj' _) ?_
        exact wp_ret_of ⟨[], lj', gar, rfl, rfl, ok5, ⟨rp', hg1⟩, hA1⟩
end
end Go.Proofs.Ytcjhakdopnamoaa

set_option linter.unusedVariables false
set_option linter.unusedSimpArgs false
set_option maxRecDepth 20000
namespace Go.Proofs.Ytcjhakdopnamoaa
open Go Go.Fw

theorem Dr.step_added (x : Dr) (A : Ar) : (x.step A).1.added = true := by
  unfold Dr.step
  split
  · split <;> rfl
  · rename_i h
    have h : x.added = true := by simpa using h
    split
    · exact h
    · split <;> exact h

structure FJ where
  b : Nat
  e : List LE
  lj : LkJ
  gar : Bl
def frB (T : TypeId) (q mq : Nat) (d : Dr) (tail : List Value) (j : FJ) : Bl := (j.b, oc T (drC d q (gmV d.m j.lj) ++ tail)) :: (gmB d.g q mq d.m j.e j.lj ++ j.gar)
def frR (q mq : Nat) (d : Dr) (j : FJ) : Prop := gmR d.g q mq d.ls d.m j.e j.lj

/-! ### Drop -/
def mDr (q mq : Nat) : MchR Dr FJ where
  f := f_frame_Drop_Step
  addr := FJ.b
  bl := fun x j => frB ty_frame_Drop q mq x [] j
  rep := fun x j => frR q mq x j
  inv := Dr.inv
  step := Dr.step
  fin := Dr.fin
/-! ### End -/
structure En where
  d : Dr
  how : Int
  val : Int
  at_ : Int
  told : Bool
def En.tail (x : En) : List Value := [.int .i64 x.how, .int .i64 x.val, .int .i64 x.at_, .bool x.told]
def En.step (x : En) (A : Ar) : En × Ar :=
  if x.told = true then ({ x with d := (x.d.step A).1 }, (x.d.step A).2)
  else if x.at_ = 1 then ({ x with at_ := 0 }, A.storeF x.d.h 1 x.val)
  else ({ x with told := true }, A.storeF x.d.h 0 x.how)
structure En.inv (x : En) (A : Ar) : Prop where
  d : x.d.inv A
  no : x.told = false → x.d.added = false
def mEn (q mq : Nat) : MchR En FJ where
  f := f_frame_End_Step
  addr := FJ.b
  bl := fun x j => frB ty_frame_End q mq x.d x.tail j
  rep := fun x j => frR q mq x.d j
  inv := En.inv
  step := En.step
  fin := fun x => x.told && x.d.added && x.d.fin
theorem mEn_inv (q mq : Nat) : (mEn q mq).inv' ty_p_frame_End := fun q p => by
  show opS _ _ _ _ = .pure (.enter f_frame_End_Step [.pointer (some ⟨q, 0, none⟩), .pointer p].toArray)
  kernel_rfl

/-! ### Ask -/
structure As where
  d : Dr
  how : Int
  val : Int
  at_ : Int
  drops : Bool
  ended : Bool
def As.tail (x : As) : List Value := [.int .i64 x.how, .int .i64 x.val, .int .i64 x.at_, .bool x.drops, .bool x.ended]
def As.step (x : As) (A : Ar) : As × Ar :=
  if x.ended = true then (x, A)
  else if x.drops = true then ({ x with d := (x.d.step A).1, ended := (x.d.step A).1.fin }, (x.d.step A).2)
  else if x.at_ = 0 then ({ x with how := A.loadF x.d.h 0, at_ := 1, ended := (A.loadF x.d.h 0 : Int) == 0 }, A.touch x.d.h 0)
  else ({ x with val := A.loadF x.d.h 1, drops := true }, A.touch x.d.h 1)
def mAs (q mq : Nat) : MchR As FJ where
  f := f_frame_Ask_Step
  addr := FJ.b
  bl := fun x j => frB ty_frame_Ask q mq x.d x.tail j
  rep := fun x j => frR q mq x.d j
  inv := fun x A => x.d.inv A
  step := As.step
  fin := fun x => x.ended
theorem mEn_ok (q mq : Nat) : (mEn q mq).ok := by
  rintro I A G ⟨⟨g, ls, work, h, added, m⟩, how, val, at_, told⟩ ⟨b, e, lj, gar⟩ hA ok rp hi
  have hi : En.inv ⟨⟨g, ls, work, h, added, m⟩, how, val, at_, told⟩ A := hi
  have hd := hi.d
  have hno := hi.no
  have ok : Ok I G (keys ((b, oc ty_frame_End ([.pointer (some ⟨q, 0, none⟩), .int .i64 work, .int .i64 h, .bool added, gmV m lj] ++ [.int .i64 how, .int .i64 val, .int .i64 at_, .bool told])) :: (gmB g q mq m e lj ++ gar))) := ok
  refine t_frame_End_Step_spec fun L => ?_
  unfold t_frame_End_Step
  show wp Try.prog _ L (own A ((b, oc ty_frame_End ([.pointer (some ⟨q, 0, none⟩), .int .i64 work, .int .i64 h, .bool added, gmV m lj] ++ [.int .i64 how, .int .i64 val, .int .i64 at_, .bool told])) :: (gmB g q mq m e lj ++ gar)) G) _
  refine wp_nil.2 (w_ld 0 (x := told) hA ok rfl rfl rfl ?_)
  cases told with
  | true =>
    refine wp_true rfl (wp_nil.2 ?_)
    refine wp_call_of (drop_spec (T := ty_frame_End) (tail := [.int .i64 how, .int .i64 val, .int .i64 at_, .bool true]) (b := b) (mq := mq) (q := q) ⟨g, ls, work, h, added, m⟩ (e := e) (lj := lj) (gar := gar) hA ok rp hd) ?_
    rintro v K ⟨e', lj', gar', rfl, rfl, o, r, a⟩
    refine ⟨_, rfl, wp_ret_of ⟨⟨b, e', lj', gar'⟩, ?_, rfl, rfl, o, r, a⟩⟩
    show Value.bool _ = Value.bool (true && (Dr.step ⟨g, ls, work, h, added, m⟩ A).1.added && (Dr.step ⟨g, ls, work, h, added, m⟩ A).1.fin)
    rw [Dr.step_added]; rfl
  | false =>
    have hna : added = false := hno rfl
    subst hna
    refine wp_false rfl ?_
    refine wp_nil.2 (w_ld 0 (x := at_) hA ok rfl rfl rfl ?_)
    by_cases h1 : at_ = 1
    · refine wp_true (ibeq h1) ?_
      refine wp_nil.2 (w_ld 0 (x := h) hA ok rfl rfl rfl ?_)
      refine wp_nil.2 (w_ld 0 (x := val) hA ok rfl rfl rfl ?_)
      refine w_Store hA fun hA1 => ?_
      refine wp_nil.2 (w_st 0 hA1 ok rfl rfl rfl rfl ?_)
      have hz : En.step ⟨⟨g, ls, work, h, false, m⟩, how, val, at_, false⟩ A = (⟨⟨g, ls, work, h, false, m⟩, how, val, 0, false⟩, A.storeF h 1 val) := by
        unfold En.step; rw [if_neg Bool.false_ne_true, if_pos h1]
      show wp Try.prog _ _ _ fun v K => ∃ j' : FJ, v = .bool ((mEn q mq).fin (En.step ⟨⟨g, ls, work, h, false, m⟩, how, val, at_, false⟩ A).1) ∧ K = own (En.step ⟨⟨g, ls, work, h, false, m⟩, how, val, at_, false⟩ A).2 ((mEn q mq).bl (En.step ⟨⟨g, ls, work, h, false, m⟩, how, val, at_, false⟩ A).1 j') G ∧ j'.b = b ∧
        Ok I G (keys ((mEn q mq).bl (En.step ⟨⟨g, ls, work, h, false, m⟩, how, val, at_, false⟩ A).1 j')) ∧ (mEn q mq).rep (En.step ⟨⟨g, ls, work, h, false, m⟩, how, val, at_, false⟩ A).1 j' ∧ Aw I (En.step ⟨⟨g, ls, work, h, false, m⟩, how, val, at_, false⟩ A).2
      rw [hz]
      exact wp_ret_of ⟨⟨b, e, lj, gar⟩, rfl, rfl, rfl, ok, rp, hA1⟩
    · refine wp_false (ibef h1) ?_
      refine wp_nil.2 (w_ld 0 (x := h) hA ok rfl rfl rfl ?_)
      refine wp_nil.2 (w_ld 0 (x := how) hA ok rfl rfl rfl ?_)
      refine w_Store hA fun hA1 => ?_
      refine wp_nil.2 (w_st 0 hA1 ok rfl rfl rfl rfl ?_)
      have hz : En.step ⟨⟨g, ls, work, h, false, m⟩, how, val, at_, false⟩ A = (⟨⟨g, ls, work, h, false, m⟩, how, val, at_, true⟩, A.storeF h 0 how) := by
        unfold En.step; rw [if_neg Bool.false_ne_true, if_neg h1]
      show wp Try.prog _ _ _ fun v K => ∃ j' : FJ, v = .bool ((mEn q mq).fin (En.step ⟨⟨g, ls, work, h, false, m⟩, how, val, at_, false⟩ A).1) ∧ K = own (En.step ⟨⟨g, ls, work, h, false, m⟩, how, val, at_, false⟩ A).2 ((mEn q mq).bl (En.step ⟨⟨g, ls, work, h, false, m⟩, how, val, at_, false⟩ A).1 j') G ∧ j'.b = b ∧
        Ok I G (keys ((mEn q mq).bl (En.step ⟨⟨g, ls, work, h, false, m⟩, how, val, at_, false⟩ A).1 j')) ∧ (mEn q mq).rep (En.step ⟨⟨g, ls, work, h, false, m⟩, how, val, at_, false⟩ A).1 j' ∧ Aw I (En.step ⟨⟨g, ls, work, h, false, m⟩, how, val, at_, false⟩ A).2
      rw [hz]
      exact wp_ret_of ⟨⟨b, e, lj, gar⟩, rfl, rfl, rfl, ok, rp, hA1⟩

theorem mAs_ok (q mq : Nat) : (mAs q mq).ok := by
  rintro I A G ⟨⟨g, ls, work, h, added, m⟩, how, val, at_, drops, ended⟩ ⟨b, e, lj, gar⟩ hA ok rp hi
  have hd : Dr.inv ⟨g, ls, work, h, added, m⟩ A := hi
  obtain ⟨z, hz0⟩ : ∃ z, z = As.step ⟨⟨g, ls, work, h, added, m⟩, how, val, at_, drops, ended⟩ A := ⟨_, rfl⟩
  have ok : Ok I G (keys ((b, oc ty_frame_Ask ([.pointer (some ⟨q, 0, none⟩), .int .i64 work, .int .i64 h, .bool added, gmV m lj] ++ [.int .i64 how, .int .i64 val, .int .i64 at_, .bool drops, .bool ended])) :: (gmB g q mq m e lj ++ gar))) := ok
  refine t_frame_Ask_Step_spec fun L => ?_
  unfold t_frame_Ask_Step
  show wp Try.prog _ L (own A ((b, oc ty_frame_Ask ([.pointer (some ⟨q, 0, none⟩), .int .i64 work, .int .i64 h, .bool added, gmV m lj] ++ [.int .i64 how, .int .i64 val, .int .i64 at_, .bool drops, .bool ended])) :: (gmB g q mq m e lj ++ gar)) G) fun v K => ∃ j' : FJ, v = .bool (As.step ⟨⟨g, ls, work, h, added, m⟩, how, val, at_, drops, ended⟩ A).1.ended ∧ K = own (As.step ⟨⟨g, ls, work, h, added, m⟩, how, val, at_, drops, ended⟩ A).2 ((mAs q mq).bl (As.step ⟨⟨g, ls, work, h, added, m⟩, how, val, at_, drops, ended⟩ A).1 j') G ∧ j'.b = b ∧
        Ok I G (keys ((mAs q mq).bl (As.step ⟨⟨g, ls, work, h, added, m⟩, how, val, at_, drops, ended⟩ A).1 j')) ∧ (mAs q mq).rep (As.step ⟨⟨g, ls, work, h, added, m⟩, how, val, at_, drops, ended⟩ A).1 j' ∧ Aw I (As.step ⟨⟨g, ls, work, h, added, m⟩, how, val, at_, drops, ended⟩ A).2
  rw [← hz0]
  refine wp_nil.2 (w_ld 0 (x := ended) hA ok rfl rfl rfl ?_)
  cases ended with
  | true =>
    refine wp_true rfl ?_
    refine wp_nil.2 (w_ld 0 (x := true) hA ok rfl rfl rfl ?_)
    rw [show z = (⟨⟨g, ls, work, h, added, m⟩, how, val, at_, drops, true⟩, A) from hz0.trans (if_pos rfl)]
    exact wp_ret_of ⟨⟨b, e, lj, gar⟩, rfl, rfl, rfl, ok, rp, hA⟩
  | false =>
    refine wp_false rfl ?_
    refine wp_nil.2 (w_ld 0 (x := drops) hA ok rfl rfl rfl ?_)
    cases drops with
    | true =>
      refine wp_true rfl (wp_nil.2 ?_)
      refine wp_call_of (drop_spec (T := ty_frame_Ask) (tail := [.int .i64 how, .int .i64 val, .int .i64 at_, .bool true, .bool false]) (b := b) (mq := mq) (q := q) ⟨g, ls, work, h, added, m⟩ (e := e) (lj := lj) (gar := gar) hA ok rp hd) ?_
      rintro v K ⟨e', lj', gar', rfl, rfl, o, r, a⟩
      refine ⟨_, rfl, ?_⟩
      rw [show z = (⟨(Dr.step ⟨g, ls, work, h, added, m⟩ A).1, how, val, at_, true, (Dr.step ⟨g, ls, work, h, added, m⟩ A).1.fin⟩, (Dr.step ⟨g, ls, work, h, added, m⟩ A).2) from hz0.trans ((if_neg Bool.false_ne_true).trans (if_pos rfl))]
      generalize Dr.step ⟨g, ls, work, h, added, m⟩ A = zz at *
      obtain ⟨⟨g2, ls2, work2, h2, added2, m2⟩, A2⟩ := zz
      refine wp_nil.2 (w_st 0 a o rfl rfl rfl rfl ?_)
      have o : Ok I G (keys ((b, oc ty_frame_Ask ([.pointer (some ⟨q, 0, none⟩), .int .i64 work2, .int .i64 h2, .bool added2, gmV m2 lj'] ++ [.int .i64 how, .int .i64 val, .int .i64 at_, .bool true, .bool m2.isNone])) :: (gmB g2 q mq m2 e' lj' ++ gar'))) := o
      refine wp_nil.2 (w_ld 0 (x := m2.isNone) a o rfl rfl rfl ?_)
      exact wp_ret_of ⟨⟨b, e', lj', gar'⟩, rfl, rfl, rfl, o, r, a⟩
    | false =>
      refine wp_false rfl ?_
      refine wp_nil.2 (w_ld 0 (x := at_) hA ok rfl rfl rfl ?_)
      by_cases h1 : at_ = 0
      · refine wp_true (ibeq h1) ?_
        refine wp_nil.2 (w_ld 0 (x := h) hA ok rfl rfl rfl ?_)
        refine w_Load hA fun hA1 => ?_
        refine wp_nil.2 (w_st 0 hA1 ok rfl rfl rfl rfl ?_)
        refine wp_nil.2 (w_st 0 hA1 (by exact ok) rfl rfl rfl rfl ?_)
        refine wp_nil.2 (w_ld 0 (x := A.loadF h 0) hA1 (by exact ok) rfl rfl rfl ?_)
        refine wp_nil.2 (w_st 0 hA1 (by exact ok) rfl rfl rfl rfl ?_)
        refine wp_nil.2 (w_ld 0 (x := (A.loadF h 0 : Int) == 0) hA1 (by exact ok) rfl rfl rfl ?_)
        rw [show z = (⟨⟨g, ls, work, h, added, m⟩, A.loadF h 0, val, 1, false, (A.loadF h 0 : Int) == 0⟩, A.touch h 0) from hz0.trans ((if_neg Bool.false_ne_true).trans ((if_neg Bool.false_ne_true).trans (if_pos h1)))]
        exact wp_ret_of ⟨⟨b, e, lj, gar⟩, rfl, rfl, rfl, ok, rp, hA1⟩
      · refine wp_false (ibef h1) ?_
        refine wp_nil.2 (w_ld 0 (x := h) hA ok rfl rfl rfl ?_)
        refine w_Load hA fun hA1 => ?_
        refine wp_nil.2 (w_st 0 hA1 ok rfl rfl rfl rfl ?_)
        refine wp_nil.2 (w_st 0 hA1 (by exact ok) rfl rfl rfl rfl ?_)
        refine wp_nil.2 (w_ld 0 (x := false) hA1 (by exact ok) rfl rfl rfl ?_)
        rw [show z = (⟨⟨g, ls, work, h, added, m⟩, how, A.loadF h 1, at_, true, false⟩, A.touch h 1) from hz0.trans ((if_neg Bool.false_ne_true).trans ((if_neg Bool.false_ne_true).trans (if_neg h1)))]
        exact wp_ret_of ⟨⟨b, e, lj, gar⟩, rfl, rfl, rfl, ok, rp, hA1⟩
end Go.Proofs.Ytcjhakdopnamoaa

set_option linter.unusedVariables false
set_option maxRecDepth 20000
namespace Go.Proofs.Ytcjhakdopnamoaa
open Go Go.Fw

def alX : Option Al → Nat × Nat × Nat → Option Addr
  | none, _ => none
  | some _, j => some ⟨j.1, 0, none⟩
def alBl : Option Al → Nat × Nat × Nat → Bl
  | none, _ => []
  | some a, j => a.bl j
end Go.Proofs.Ytcjhakdopnamoaa

set_option linter.unusedVariables false
set_option linter.unusedSimpArgs false
set_option maxRecDepth 20000
namespace Go.Proofs.Ytcjhakdopnamoaa
open Go Go.Fw

theorem ptrA_nn (a : Addr) : opS Try.prog (.binOp .neq ty_p_slab_Alloc (.tmp 0) (.const (.pointer none)) ty_p_slab_Alloc) ty_bool [(.pointer (some a))] = .pure (.value (.bool true)) := by kernel_rfl
theorem ptrA_nn0 : opS Try.prog (.binOp .neq ty_p_slab_Alloc (.tmp 0) (.const (.pointer none)) ty_p_slab_Alloc) ty_bool [(.pointer none)] = .pure (.value (.bool false)) := by kernel_rfl

/-! ### Make -/
structure Mk where
  g : Gd
  ls : Int → List (Int × Int)
  p : Pl
  work : Int
  w : Nat → Int
  alloc : Option Al
  force : Option Lk
  tries : Int
  at_ : Int
  h : Int
  ended : Bool
structure MkJ where
  b : Nat
  e : List LE
  lj : LkJ
  aj : Nat × Nat × Nat
  gar : Bl
def mkC (q : Nat) (p : Pl) (work : Int) (w : Nat → Int) (ap : Option Addr) (fv : Value) (tries at_ h : Int) (ended : Bool) : List Value :=
  [.int .i64 p.work, .int .i64 p.heads, .int .i64 p.links, .int .i64 p.gens, .int .i64 p.carved, .pointer (some ⟨q, 0, none⟩), .int .i64 work,
   .int .i64 (w 0), .int .i64 (w 1), .int .i64 (w 2), .int .i64 (w 3), .int .i64 (w 4), .int .i64 (w 5), .int .i64 (w 6), .pointer ap, fv, .int .i64 tries, .int .i64 at_, .int .i64 h, .bool ended]
def Mk.bl (q mq : Nat) (x : Mk) (j : MkJ) : Bl := (j.b, oc ty_frame_Make (mkC q x.p x.work x.w (alX x.alloc j.aj) (gmV x.force j.lj) x.tries x.at_ x.h x.ended)) :: (gmB x.g q mq x.force j.e j.lj ++ (alBl x.alloc j.aj ++ j.gar))

/-- The alloc has ended. -/
def Mk.got (x : Mk) (h : Int) : Mk :=
  if h ≠ 0 then { x with tries := w64 (x.tries + 1), alloc := none, h := h }
  else if 1 < w64 (x.tries + 1) then { x with tries := w64 (x.tries + 1), alloc := none, ended := true }
  else match forM x.g x.ls x.work with
    | none => { x with tries := w64 (x.tries + 1), alloc := some (newAl x.p x.work 0) }
    | some y => { x with tries := w64 (x.tries + 1), alloc := none, force := some y }
def Mk.step (x : Mk) (A : Ar) : Mk × Ar :=
  if x.ended = true then (x, A)
  else match x.force with
    | some y => if (y.step A).1.fin = true then ({ x with force := none, ls := (y.step A).1.ls, alloc := some (newAl x.p x.work 0) }, (y.step A).2) else ({ x with force := some (y.step A).1 }, (y.step A).2)
    | none => match x.alloc with
      | some a => if mAl.fin (a.step A).1 = true then (({ x with alloc := some (a.step A).1 } : Mk).got (a.step A).1.h, (a.step A).2) else ({ x with alloc := some (a.step A).1 }, (a.step A).2)
      | none => ({ x with at_ := w64 (x.at_ + 1), ended := (w64 (x.at_ + 1) : Int) == 7 }, A.storeF x.h x.at_ (x.w x.at_.toNat))
structure Mk.inv (x : Mk) (A : Ar) : Prop where
  wb : 1 ≤ x.g.w ∧ x.g.w ≤ 1000
  ll : (x.ls x.work).length ≤ 1000
  fi : ∀ y, x.force = some y → y.inv A ∧ x.alloc = none
  ai : ∀ a, x.alloc = some a → mAl.inv a A
  ab : x.ended = false → x.force = none → x.alloc = none → 0 ≤ x.at_ ∧ x.at_ < 7

def mMk (q mq : Nat) : MchR Mk MkJ where
  f := f_frame_Make_Step
  addr := MkJ.b
  bl := Mk.bl q mq
  rep := fun x j => gmR x.g q mq x.ls x.force j.e j.lj
  inv := Mk.inv
  step := Mk.step
  fin := fun x => x.ended
theorem mMk_inv (q mq : Nat) : (mMk q mq).inv' ty_p_frame_Make := fun q p => by
  show opS _ _ _ _ = .pure (.enter f_frame_Make_Step [.pointer (some ⟨q, 0, none⟩), .pointer p].toArray)
  kernel_rfl

section
variable {L : Hands} {R : Value → Heap → Prop} {G : Heap} {l rest : Bl} {A A' : Ar} {I : List Nat} {q mq : Nat}

theorem mkC_w (q : Nat) (p : Pl) (work : Int) (w : Nat → Int) (ap : Option Addr) (fv : Value) (tries at_ h : Int) (ended : Bool) : ∀ n, n < 7 → (mkC q p work w ap fv tries at_ h ended)[7 + n]? = some (.int .i64 (w n)) := by
  intro n hn
  match n, hn with
  | 0, _ => rfl
  | 1, _ => rfl
  | 2, _ => rfl
  | 3, _ => rfl
  | 4, _ => rfl
  | 5, _ => rfl
  | 6, _ => rfl

set_option maxHeartbeats 1000000 in
theorem allocated_spec (x : Mk) (a : Al) {b : Nat} {e : List LE} {lj : LkJ} {aj : Nat × Nat × Nat} {gar : Bl} (hx : x.alloc = some a) (hf : x.force = none) (hA : Aw I A) (ok : Ok I G (keys (Mk.bl q mq x ⟨b, e, lj, aj, gar⟩))) (gs : GdS e x.ls) (ll : (x.ls x.work).length ≤ 1000) :
    SpecF Try.prog f_frame_Make_allocated #[.pointer (some ⟨b, 0, none⟩)] (own A (Mk.bl q mq x ⟨b, e, lj, aj, gar⟩) G) fun v K => ∃ e' lj' aj' gar', v = .tuple #[] ∧ K = own A (Mk.bl q mq (x.got a.h) ⟨b, e', lj', aj', gar'⟩) G ∧ Ok I G (keys (Mk.bl q mq (x.got a.h) ⟨b, e', lj', aj', gar'⟩)) ∧
      gmR (x.got a.h).g q mq (x.got a.h).ls (x.got a.h).force e' lj' := by
  refine t_frame_Make_allocated_spec fun L => ?_
  unfold t_frame_Make_allocated
  obtain ⟨g, ls, p, work, w, alloc, force, tries, at_, h, ended⟩ := x
  have hx : alloc = some a := hx
  have hf : force = none := hf
  subst hx hf
  obtain ⟨aq, aq0, aq1⟩ := aj
  have ok : Ok I G (keys ((b, oc ty_frame_Make (mkC q p work w (some ⟨aq, 0, none⟩) .nilIface tries at_ h ended)) :: (g.bl q mq e ++ (a.bl (aq, aq0, aq1) ++ gar)))) := ok
  show wp Try.prog _ L (own A ((b, oc ty_frame_Make (mkC q p work w (some ⟨aq, 0, none⟩) .nilIface tries at_ h ended)) :: (g.bl q mq e ++ (a.bl (aq, aq0, aq1) ++ gar))) G) _
  refine wp_nil.2 (w_ld 0 (x := tries) hA ok rfl rfl rfl ?_)
  refine wp_nil.2 (w_st 0 hA ok rfl rfl rfl rfl ?_)
  refine wp_nil.2 (w_ld 0 (x := some ⟨aq, 0, none⟩) hA (by exact ok) rfl rfl rfl ?_)
  obtain ⟨cM, hcM⟩ : ∃ cM : Nat × Obj, cM = (b, oc ty_frame_Make (mkC q p work w (some ⟨aq, 0, none⟩) .nilIface (w64 (tries + 1)) at_ h ended)) := ⟨_, rfl⟩
  have ok1 : Ok I G (keys (cM :: (g.bl q mq e ++ (a.bl (aq, aq0, aq1) ++ gar)))) := by rw [hcM]; exact ok
  have es : own A ((b, oc ty_frame_Make (mkC q p work w (some ⟨aq, 0, none⟩) .nilIface (w64 (tries + 1)) at_ h ended)) :: (g.bl q mq e ++ (a.bl (aq, aq0, aq1) ++ gar))) G = own A (cM :: (g.bl q mq e ++ (a.bl (aq, aq0, aq1) ++ gar))) G := by rw [hcM]
  show wp Try.prog _ L (own A ((b, oc ty_frame_Make (mkC q p work w (some ⟨aq, 0, none⟩) .nilIface (w64 (tries + 1)) at_ h ended)) :: (g.bl q mq e ++ (a.bl (aq, aq0, aq1) ++ gar))) G) _
  rw [es]
  obtain ⟨p1, ok2⟩ := own_perm (A := A) (l' := a.bl (aq, aq0, aq1) ++ (cM :: (g.bl q mq e ++ gar))) ok1 (perm_by fun c d c0 cd ca => by simp only [cd, ca, c0]; omega)
  rw [p1]
  refine w_Handle 0 hA ok2 rfl ?_
  obtain ⟨p2, ok3⟩ := own_perm (A := A) (l' := cM :: (g.bl q mq e ++ (a.bl (aq, aq0, aq1) ++ gar))) ok2 (perm_by fun c d c0 cd ca => by simp only [cd, ca, c0]; omega)
  rw [p2, hcM]
  rw [hcM] at ok3
  refine wp_nil.2 (w_st 0 hA ok3 rfl rfl rfl rfl ?_)
  obtain ⟨gr, hgr⟩ : ∃ gr : Bl, gr = a.bl (aq, aq0, aq1) ++ gar := ⟨_, rfl⟩
  rw [← hgr] at ok3 ⊢
  have ok4 : Ok I G (keys ((b, oc ty_frame_Make (mkC q p work w none .nilIface (w64 (tries + 1)) at_ h ended)) :: (g.bl q mq e ++ gr))) := ok3
  show wp Try.prog _ L (own A ((b, oc ty_frame_Make (mkC q p work w none .nilIface (w64 (tries + 1)) at_ h ended)) :: (g.bl q mq e ++ gr)) G) _
  by_cases h0 : a.h = 0
  · refine wp_false (ibnf h0) ?_
    refine wp_nil.2 (w_ld 0 (x := w64 (tries + 1)) hA ok4 rfl rfl rfl ?_)
    by_cases h1 : 1 < w64 (tries + 1)
    · refine wp_true (decide_eq_true h1) ?_
      refine wp_nil.2 (w_st 0 hA ok4 rfl rfl rfl rfl ?_)
      have hz : Mk.got ⟨g, ls, p, work, w, some a, none, tries, at_, h, ended⟩ a.h = ⟨g, ls, p, work, w, none, none, w64 (tries + 1), at_, h, true⟩ := by
        unfold Mk.got; rw [if_neg (fun h => h h0), if_pos h1]
      rw [hz]
      exact wp_ret_of ⟨e, lj, (aq, aq0, aq1), gr, rfl, rfl, ok4, gs⟩
    · refine wp_false (decide_eq_false h1) ?_
      refine wp_nil.2 (w_ld 0 (x := some ⟨q, 0, none⟩) hA ok4 rfl rfl rfl ?_)
      refine wp_nil.2 (w_ld 0 (x := work) hA ok4 rfl rfl rfl ?_)
      obtain ⟨cN, hcN⟩ : ∃ cN : Nat × Obj, cN = (b, oc ty_frame_Make (mkC q p work w none .nilIface (w64 (tries + 1)) at_ h ended)) := ⟨_, rfl⟩
      rw [← hcN] at ok4 ⊢
      obtain ⟨p3, ok5⟩ := own_perm (A := A) (l' := g.bl q mq e ++ (cN :: gr)) ok4 (perm_by fun c d c0 cd ca => by simp only [cd, ca, c0]; omega)
      rw [p3]
      refine w_forGm hA ok5 gs ll fun e' lj' gar' ok6 rp' => ?_
      obtain ⟨p4, ok7⟩ := own_perm (A := A) (l' := cN :: (gmB g q mq (forM g ls work) e' lj' ++ (gar' ++ gr))) ok6 (perm_by fun c d c0 cd ca => by simp only [cd, ca, c0]; omega)
      rw [p4, hcN]
      rw [hcN] at ok7
      refine wp_nil.2 (w_stGm 0 hA ok7 rfl rfl rfl ?_)
      have ok8 : Ok I G (keys ((b, oc ty_frame_Make (mkC q p work w none (gmV (forM g ls work) lj') (w64 (tries + 1)) at_ h ended)) :: (gmB g q mq (forM g ls work) e' lj' ++ (gar' ++ gr)))) := ok7
      show wp Try.prog _ L (own A ((b, oc ty_frame_Make (mkC q p work w none (gmV (forM g ls work) lj') (w64 (tries + 1)) at_ h ended)) :: (gmB g q mq (forM g ls work) e' lj' ++ (gar' ++ gr))) G) _
      refine wp_nil.2 (w_ld 0 (x := gmV (forM g ls work) lj') hA ok8 rfl rfl rfl ?_)
      refine look_val (x := (forM g ls work).isNone) (gmV_nil _ _ _) ?_
      cases hm : forM g ls work with
      | none =>
        rw [hm] at ok8 rp'
        have hz : Mk.got ⟨g, ls, p, work, w, some a, none, tries, at_, h, ended⟩ a.h = ⟨g, ls, p, work, w, some (newAl p work 0), none, w64 (tries + 1), at_, h, ended⟩ := by
          unfold Mk.got; rw [if_neg (fun h => h h0), if_neg h1]; dsimp only; rw [hm]
        rw [hz]
        refine wp_true rfl ?_
        have ok8 : Ok I G (keys ((b, oc ty_frame_Make (mkC q p work w none .nilIface (w64 (tries + 1)) at_ h ended)) :: (g.bl q mq e' ++ (gar' ++ gr)))) := ok8
        show wp Try.prog _ L (own A ((b, oc ty_frame_Make (mkC q p work w none .nilIface (w64 (tries + 1)) at_ h ended)) :: (g.bl q mq e' ++ (gar' ++ gr))) G) _
        refine wp_nil.2 (w_ldA (x := (p.work, p.heads, p.links, p.gens, p.carved, ())) 0 hA ok8 rfl rfl rfl ?_)
        refine wp_nil.2 (w_ld 0 (x := work) hA ok8 rfl rfl rfl ?_)
        refine w_NewAlloc (p := p) (w := work) (c := 0) hA ok8 (by decide) fun j ok9 => ?_
        obtain ⟨cO, hcO⟩ : ∃ cO : Nat × Obj, cO = (b, oc ty_frame_Make (mkC q p work w none .nilIface (w64 (tries + 1)) at_ h ended)) := ⟨_, rfl⟩
        rw [← hcO] at ok9 ⊢
        obtain ⟨p5, ok10⟩ := own_perm (A := A) (l' := cO :: (g.bl q mq e' ++ ((newAl p work 0).bl j ++ (gar' ++ gr)))) ok9 (perm_by fun c d c0 cd ca => by simp only [cd, ca, c0]; omega)
        rw [p5, hcO]
        rw [hcO] at ok10
        refine wp_nil.2 (w_st 0 hA ok10 rfl rfl rfl rfl ?_)
        exact wp_ret_of ⟨e', lj', j, gar' ++ gr, rfl, rfl, ok10, rp'⟩
      | some y =>
        rw [hm] at ok8 rp'
        have hz : Mk.got ⟨g, ls, p, work, w, some a, none, tries, at_, h, ended⟩ a.h = ⟨g, ls, p, work, w, none, some y, w64 (tries + 1), at_, h, ended⟩ := by
          unfold Mk.got; rw [if_neg (fun h => h h0), if_neg h1]; dsimp only; rw [hm]
        rw [hz]
        exact wp_false rfl (wp_ret_of ⟨e', lj', (aq, aq0, aq1), gar' ++ gr, rfl, rfl, ok8, rp'⟩)
  · refine wp_true (ibne h0) ?_
    refine wp_nil.2 (w_st 0 hA ok4 rfl rfl rfl rfl ?_)
    have hz : Mk.got ⟨g, ls, p, work, w, some a, none, tries, at_, h, ended⟩ a.h = ⟨g, ls, p, work, w, none, none, w64 (tries + 1), at_, a.h, ended⟩ := by
      unfold Mk.got; rw [if_pos h0]
    rw [hz]
    exact wp_ret_of ⟨e, lj, (aq, aq0, aq1), gr, rfl, rfl, ok4, gs⟩
end
end Go.Proofs.Ytcjhakdopnamoaa

set_option linter.unusedVariables false
set_option maxRecDepth 10000
namespace Go.Proofs.Ytcjhakdopnamoaa
open Go Go.Fw
/- magpie/magpielaw18.run -/
@[reducible] def t_magpielaw18_run_L1_sh : List Sh1 := [(.leaf .bool), (.leaf (.int .i64))]
noncomputable def t_magpielaw18_run_L1 (p0 : Option Addr) (p1 : Value) (y1 : HL Sh1.T t_magpielaw18_run_L1_sh) : Tree :=
  bif (decide ((y1.2.1 : Int) < 4000)) then (
    .call f_arena_Arena_Uses [(.pointer p0)] (.one (.leaf (.int .i64))) fun x13 =>
    .act (opS Try.prog (.call { callee := .invoke (.tmp 0) "Step", args := #[(.tmp 1)], argTypes := #[ty_p_arena_Arena] }) ty_bool [p1, (.pointer p0)]) (.one (.leaf .bool)) fun x16 =>
    .call f_arena_Arena_Uses [(.pointer p0)] (.one (.leaf (.int .i64))) fun x18 =>
    bif (decide ((x18 : Int) > (w64 (x13 + 1)))) then (
      .ret (.bool false))
    else (
      bif x16 then (
        .ret (.bool true))
      else (
        .again 128 [(.bool y1.1), (.int .i64 (w64 (y1.2.1 + 1)))])))
  else (
    .ret (.bool false))
noncomputable def t_magpielaw18_run (p0 : Option Addr) (p1 : Value) : Tree :=
  .loop 128 t_magpielaw18_run_L1_sh [(.bool false), (.int .i64 0)] (t_magpielaw18_run_L1 p0 p1)
theorem t_magpielaw18_run_eq (p0 : Option Addr) (p1 : Value) : funcTree Try.prog { quiet := [16, 34, 36, 40, 41, 66, 67, 75, 76, 77, 97, 98, 103, 108, 110, 139, 146, 149, 161], quietTmp := true, fncs := [], ifcs := [] } Try.f45 [(.pointer p0), p1] = t_magpielaw18_run p0 p1 := by kernel_rfl
theorem t_magpielaw18_run_spec {p0 : Option Addr} {p1 : Value} {H : Heap} {R : Value → Heap → Prop} (h : ∀ L, wp Try.prog (t_magpielaw18_run p0 p1) L H R) : SpecF Try.prog f_magpielaw18_run #[(.pointer p0), p1] H R :=
  spec_of_tree (cfg := { quiet := [16, 34, 36, 40, 41, 66, 67, 75, 76, 77, 97, 98, 103, 108, 110, 139, 146, 149, 161], quietTmp := true, fncs := [], ifcs := [] }) Try.func45 fun L => (t_magpielaw18_run_eq p0 p1).symm ▸ h L

/- magpie/magpielaw18.make1 -/
noncomputable def t_magpielaw18_make1 (p0 : Int) (p1 : Int) (p2 : Bool) : Tree :=
  .newP (.cells #[(.int .i64 0), (.int .i64 0), (.int .i64 0), (.int .i64 0), (.int .i64 0)] ty_free_Place) fun x7 =>
  .call f_free_Raw [(.int .i64 p0), (.int .i64 (w64 (8 * p1)))] (.tup [(.agg [(.int .i64), (.int .i64), (.int .i64), (.int .i64), (.int .i64)]), (.leaf (.int .i64))]) fun x16 =>
  .newP (.cells #[(.int .i64 0), (.int .i64 0), (.int .i64 0), (.int .i64 0), (.int .i64 0)] ty_free_Place) fun x9 =>
  .stA x9 [(.int .i64 x16.1.1), (.int .i64 x16.1.2.1), (.int .i64 x16.1.2.2.1), (.int .i64 x16.1.2.2.2.1), (.int .i64 x16.1.2.2.2.2.1)] <|
  .call f_guard_Raw [(.int .i64 p0), (.int .i64 x16.2.1), (.bool p2)] (.one (.leaf (.int .i64))) fun x22 =>
  .ldA x9 [(.int .i64), (.int .i64), (.int .i64), (.int .i64), (.int .i64)] fun x29 =>
  .ldA x9 [(.int .i64), (.int .i64), (.int .i64), (.int .i64), (.int .i64)] fun x33 =>
  .call f_arena_New [(.int .i64 (w64 (x16.2.1 + x22))), (.int .i64 (w64 (8 * p1))), (.bool false)] (.one (.leaf .ptr)) fun x28 =>
  .check (ldAS x9 5 0 #[]) (.agg #[(.int .i64 x33.1), (.int .i64 x33.2.1), (.int .i64 x33.2.2.1), (.int .i64 x33.2.2.2.1), (.int .i64 x33.2.2.2.2.1)]) <|
  .check (ldAS x9 5 0 #[]) (.agg #[(.int .i64 x29.1), (.int .i64 x29.2.1), (.int .i64 x29.2.2.1), (.int .i64 x29.2.2.2.1), (.int .i64 x29.2.2.2.2.1)]) <|
  .call f_guard_New [(.int .i64 p0), (.int .i64 x16.2.1), (.bool p2), (.int .i64 1), (.agg #[(.int .i64 x33.1), (.int .i64 x33.2.1), (.int .i64 x33.2.2.1), (.int .i64 x33.2.2.2.1), (.int .i64 x33.2.2.2.2.1)])] (.one (.leaf .ptr)) fun x34 =>
  .check (ldAS x9 5 0 #[]) (.agg #[(.int .i64 x29.1), (.int .i64 x29.2.1), (.int .i64 x29.2.2.1), (.int .i64 x29.2.2.2.1), (.int .i64 x29.2.2.2.2.1)]) <|
  .stA x7 [(.int .i64 x29.1), (.int .i64 x29.2.1), (.int .i64 x29.2.2.1), (.int .i64 x29.2.2.2.1), (.int .i64 x29.2.2.2.2.1)] <|
  .look (ldK x7 5 0 #[] fun r1 => .pure (.value (.tuple #[(.pointer x28), (.agg r1), (.pointer x34)]))) (.tup [(.leaf .ptr), (.agg [(.int .i64), (.int .i64), (.int .i64), (.int .i64), (.int .i64)]), (.leaf .ptr)]) fun r => .ret (Sh.toVal (.tup [(.leaf .ptr), (.agg [(.int .i64), (.int .i64), (.int .i64), (.int .i64), (.int .i64)]), (.leaf .ptr)]) r)
theorem t_magpielaw18_make1_eq (p0 : Int) (p1 : Int) (p2 : Bool) : funcTree Try.prog { quiet := [16, 34, 36, 40, 41, 66, 67, 75, 76, 77, 97, 98, 103, 108, 110, 139, 146, 149, 161], quietTmp := true, fncs := [], ifcs := [] } Try.f43 [(.int .i64 p0), (.int .i64 p1), (.bool p2)] = t_magpielaw18_make1 p0 p1 p2 := by kernel_rfl
theorem t_magpielaw18_make1_spec {p0 : Int} {p1 : Int} {p2 : Bool} {H : Heap} {R : Value → Heap → Prop} (h : ∀ L, wp Try.prog (t_magpielaw18_make1 p0 p1 p2) L H R) : SpecF Try.prog f_magpielaw18_make1 #[(.int .i64 p0), (.int .i64 p1), (.bool p2)] H R :=
  spec_of_tree (cfg := { quiet := [16, 34, 36, 40, 41, 66, 67, 75, 76, 77, 97, 98, 103, 108, 110, 139, 146, 149, 161], quietTmp := true, fncs := [], ifcs := [] }) Try.func43 fun L => (t_magpielaw18_make1_eq p0 p1 p2).symm ▸ h L

/- magpie/magpielaw18.awake -/
noncomputable def t_magpielaw18_awake : Tree :=
  .call f_magpielaw18_make1 [(.int .i64 1), (.int .i64 2), (.bool false)] (.tup [(.leaf .ptr), (.agg [(.int .i64), (.int .i64), (.int .i64), (.int .i64), (.int .i64)]), (.leaf .ptr)]) fun x10 =>
  .newP (.cells #[(.int .i64 0), (.int .i64 0), (.int .i64 0), (.int .i64 0), (.int .i64 0)] ty_free_Place) fun x2 =>
  .stA x2 [(.int .i64 x10.2.1.1), (.int .i64 x10.2.1.2.1), (.int .i64 x10.2.1.2.2.1), (.int .i64 x10.2.1.2.2.2.1), (.int .i64 x10.2.1.2.2.2.2.1)] <|
  .ldA x2 [(.int .i64), (.int .i64), (.int .i64), (.int .i64), (.int .i64)] fun x14 =>
  .call f_frame_NewMake [(.agg #[(.int .i64 x14.1), (.int .i64 x14.2.1), (.int .i64 x14.2.2.1), (.int .i64 x14.2.2.2.1), (.int .i64 x14.2.2.2.2.1)]), (.pointer x10.2.2.1), (.int .i64 0), (.agg #[(.int .i64 3), (.int .i64 (-7)), (.int .i64 1125899906842624), (.bool true)])] (.one (.leaf .ptr)) fun x17 =>
  .look (opS Try.prog (.binOp .eql ty_p_arena_Arena (.tmp 0) (.const (.pointer none)) ty_p_arena_Arena) ty_bool [(.pointer x10.1)]) (.one (.leaf .bool)) fun x19 =>
  bif x19 then (
    .ret (.bool false))
  else (
    .look (opS Try.prog (.binOp .eql ty_p_guard_Guard (.tmp 0) (.const (.pointer none)) ty_p_guard_Guard) ty_bool [(.pointer x10.2.2.1)]) (.one (.leaf .bool)) fun x22 =>
    bif x22 then (
      .ret (.bool false))
    else (
      .look (opS Try.prog (.binOp .eql ty_p_frame_Make (.tmp 0) (.const (.pointer none)) ty_p_frame_Make) ty_bool [(.pointer x17)]) (.one (.leaf .bool)) fun x26 =>
      bif x26 then (
        .ret (.bool false))
      else (
        .call f_magpielaw18_run [(.pointer x10.1), (.iface ty_p_frame_Make (.pointer x17))] (.one (.leaf .bool)) fun x32 =>
        bif (!x32) then (
          .ret (.bool false))
        else (
          .call f_frame_Make_Handle [(.pointer x17)] (.tup [(.leaf (.int .i64)), (.leaf .bool)]) fun x37 =>
          .call f_frame_NewRead [(.int .i64 x37.1)] (.one (.leaf .ptr)) fun x41 =>
          bif (!x37.2.1) then (
            .ret (.bool false))
          else (
            .look (opS Try.prog (.binOp .eql ty_p_frame_Read (.tmp 0) (.const (.pointer none)) ty_p_frame_Read) ty_bool [(.pointer x41)]) (.one (.leaf .bool)) fun x46 =>
            bif x46 then (
              .ret (.bool false))
            else (
              .call f_magpielaw18_run [(.pointer x10.1), (.iface ty_p_frame_Read (.pointer x41))] (.one (.leaf .bool)) fun x52 =>
              bif (!x52) then (
                .ret (.bool false))
              else (
                .call f_frame_Read_Task [(.pointer x41)] (.one (.agg [(.int .i64), (.int .i64), (.int .i64), .bool])) fun x56 =>
                .newP (.cells #[(.int .i64 0), (.int .i64 0), (.int .i64 0), (.bool false)] ty_frame_Task) fun x8 =>
                .stA x8 [(.int .i64 x56.1), (.int .i64 x56.2.1), (.int .i64 x56.2.2.1), (.bool x56.2.2.2.1)] <|
                .ld x8 (.int .i64) fun x58 =>
                bif ((x58 : Int) == 3) then (
                  .ld (x8.add 1) (.int .i64) fun x62 =>
                  bif ((x62 : Int) == (-7)) then (
                    .ld (x8.add 2) (.int .i64) fun x67 =>
                    bif ((x67 : Int) == 1125899906842624) then (
                      .ld (x8.add 3) .bool fun x72 =>
                      bif x72 then (
                        .call f_arena_Arena_Load [(.pointer x10.1), (.int .i64 x37.1), (.int .i64 2)] (.one (.leaf (.int .i64))) fun x77 =>
                        bif ((x77 : Int) == 2) then (
                          .call f_arena_Arena_Fault [(.pointer x10.1)] (.one (.leaf .bool)) fun x82 =>
                          .ret (.bool (!x82)))
                        else (
                          .ret (.bool false)))
                      else (
                        .ret (.bool false)))
                    else (
                      .ret (.bool false)))
                  else (
                    .ret (.bool false)))
                else (
                  .ret (.bool false)))))))))
theorem t_magpielaw18_awake_eq : funcTree Try.prog { quiet := [16, 34, 36, 40, 41, 66, 67, 75, 76, 77, 97, 98, 103, 108, 110, 139, 146, 149, 161], quietTmp := true, fncs := [], ifcs := [] } Try.f49 [] = t_magpielaw18_awake  := by kernel_rfl
theorem t_magpielaw18_awake_spec {H : Heap} {R : Value → Heap → Prop} (h : ∀ L, wp Try.prog (t_magpielaw18_awake ) L H R) : SpecF Try.prog f_magpielaw18_awake #[] H R :=
  spec_of_tree (cfg := { quiet := [16, 34, 36, 40, 41, 66, 67, 75, 76, 77, 97, 98, 103, 108, 110, 139, 146, 149, 161], quietTmp := true, fncs := [], ifcs := [] }) Try.func49 fun L => (t_magpielaw18_awake_eq ).symm ▸ h L

end Go.Proofs.Ytcjhakdopnamoaa

set_option linter.unusedVariables false
set_option maxRecDepth 20000
namespace Go.Proofs.Ytcjhakdopnamoaa
open Go Go.Fw

theorem runR18_go {M J : Type} {X : MchR M J} (hX : X.ok) {t : TypeId} (hinv : X.inv' t) {I : List Nat} {G : Heap} {n : Nat} {m m' : M} {A A' : Ar} (h : X.Runs n m A m' A') {L : Hands} :
    ∀ {i : Int} {b : Bool} {j : J} {R : Value → Heap → Prop}, (∀ j', Ok I G (keys (X.bl m' j')) → X.rep m' j' → Aw I A' → X.addr j' = X.addr j → R (.bool true) (own A' (X.bl m' j') G)) → Aw I A → Ok I G (keys (X.bl m j)) → X.rep m j → 0 ≤ i → i + n ≤ 4000 →
      wp Try.prog (.loop 128 t_magpielaw18_run_L1_sh [(.bool b), (.int .i64 i)] (t_magpielaw18_run_L1 (aI I) (.iface t (.pointer (some ⟨X.addr j, 0, none⟩))))) L (own A (X.bl m j) G) R := by
  induction h with
  | @one m A m1 A1 hi hst hu hf =>
    intro i b j R hR hA ok rp h0 h1
    refine wp_loop_unroll (b, i, ()) rfl ?_
    rw [t_magpielaw18_run_L1]
    refine wp_true (ilt (by show i < 4000; omega)) ?_
    refine w_Uses hA ?_
    refine act_enter (hinv _ _) ?_
    refine wp_call_of (hX I A G m j hA ok rp hi) ?_
    rintro v K ⟨j', rfl, rfl, ha, ok', rp', hA'⟩
    rw [hst] at ok' rp' hA' ⊢
    refine ⟨true, by rw [hf], ?_⟩
    refine w_Uses hA' ?_
    refine wp_false (inlt hu) ?_
    exact wp_true rfl (wp_ret_of (hR j' ok' rp' hA' ha))
  | @more n m A m1 A1 m' A' hi hst hu hf hr ih =>
    intro i b j R hR hA ok rp h0 h1
    refine wp_loop_unroll (b, i, ()) rfl ?_
    rw [t_magpielaw18_run_L1]
    refine wp_true (ilt (by show i < 4000; omega)) ?_
    refine w_Uses hA ?_
    refine act_enter (hinv _ _) ?_
    refine wp_call_of (hX I A G m j hA ok rp hi) ?_
    rintro v K ⟨j', rfl, rfl, ha, ok', rp', hA'⟩
    rw [hst] at ok' rp' hA' ⊢
    refine ⟨false, by rw [hf], ?_⟩
    refine w_Uses hA' ?_
    refine wp_false (inlt hu) (wp_false rfl (wp_again ?_))
    have e : w64 (i + 1) = i + 1 := w64_in (by omega) (by omega)
    rw [e, ← ha]
    exact ih (fun j2 k1 k2 k3 k4 => hR j2 k1 k2 k3 (k4.trans ha)) hA' ok' rp' (by omega) (by omega)

theorem w_runR18 {M J : Type} {X : MchR M J} (hX : X.ok) {t : TypeId} (hinv : X.inv' t) {I : List Nat} {G : Heap} {n : Nat} {m m' : M} {A A' : Ar} (h : X.Runs n m A m' A') (hn : n ≤ 4000) {j : J} {rest : Bl} (hA : Aw I A) (ok : Ok I G (keys (X.bl m j ++ rest))) (rp : X.rep m j)
    {L : Hands} {R : Value → Heap → Prop} {k : Bool → Tree} (hk : ∀ j', X.addr j' = X.addr j → Aw I A' → Ok I G (keys (X.bl m' j' ++ rest)) → X.rep m' j' → wp Try.prog (k true) L (own A' (X.bl m' j' ++ rest) G) R) :
    wp Try.prog (.call f_magpielaw18_run [.pointer (aI I), .iface t (.pointer (some ⟨X.addr j, 0, none⟩))] (.one (.leaf .bool)) k) L (own A (X.bl m j ++ rest) G) R := by
  rw [keys_append] at ok
  obtain ⟨o1, o2⟩ := ok.split
  refine w_sub (R0 := fun v K => ∃ j', v = .bool true ∧ K = own A' (X.bl m' j') (putL rest G) ∧ Ok I (putL rest G) (keys (X.bl m' j')) ∧ X.rep m' j' ∧ Aw I A' ∧ X.addr j' = X.addr j) ?_ ?_
  · refine t_magpielaw18_run_spec fun L => ?_
    unfold t_magpielaw18_run
    exact runR18_go hX hinv h (fun j' a b c d => ⟨j', rfl, rfl, a, b, c, d⟩) hA o1 rp (Int.le_refl 0) (by omega)
  · rintro v K ⟨j', rfl, rfl, ok', rp', hA', ha⟩
    refine ⟨true, rfl, ?_⟩
    rw [← own_append]
    exact hk j' ha hA' (by rw [keys_append]; exact ok'.join o2) rp'
end Go.Proofs.Ytcjhakdopnamoaa

set_option linter.unusedVariables false
set_option linter.unusedSimpArgs false
set_option maxRecDepth 20000
namespace Go.Proofs.Ytcjhakdopnamoaa
open Go Go.Fw

set_option maxHeartbeats 1000000 in
theorem mMk_ok (q mq : Nat) : (mMk q mq).ok := by
  rintro I A G x ⟨b, e, lj, aj, gar⟩ hA ok rp hi
  have hi : x.inv A := hi
  have hwb := hi.wb
  have hll := hi.ll
  have hfi := hi.fi
  have hai := hi.ai
  have hab := hi.ab
  obtain ⟨g, ls, p, work, w, alloc, force, tries, at_, h, ended⟩ := x
  obtain ⟨z, hz0⟩ : ∃ z, z = Mk.step ⟨g, ls, p, work, w, alloc, force, tries, at_, h, ended⟩ A := ⟨_, rfl⟩
  refine t_frame_Make_Step_spec fun L => ?_
  unfold t_frame_Make_Step
  have ok : Ok I G (keys ((b, oc ty_frame_Make (mkC q p work w (alX alloc aj) (gmV force lj) tries at_ h ended)) :: (gmB g q mq force e lj ++ (alBl alloc aj ++ gar)))) := ok
  have rp : gmR g q mq ls force e lj := rp
  show wp Try.prog _ L (own A ((b, oc ty_frame_Make (mkC q p work w (alX alloc aj) (gmV force lj) tries at_ h ended)) :: (gmB g q mq force e lj ++ (alBl alloc aj ++ gar))) G) fun v K => ∃ j' : MkJ, v = .bool (Mk.step ⟨g, ls, p, work, w, alloc, force, tries, at_, h, ended⟩ A).1.ended ∧ K = own (Mk.step ⟨g, ls, p, work, w, alloc, force, tries, at_, h, ended⟩ A).2 (Mk.bl q mq (Mk.step ⟨g, ls, p, work, w, alloc, force, tries, at_, h, ended⟩ A).1 j') G ∧ j'.b = b ∧
    Ok I G (keys (Mk.bl q mq (Mk.step ⟨g, ls, p, work, w, alloc, force, tries, at_, h, ended⟩ A).1 j')) ∧ gmR (Mk.step ⟨g, ls, p, work, w, alloc, force, tries, at_, h, ended⟩ A).1.g q mq (Mk.step ⟨g, ls, p, work, w, alloc, force, tries, at_, h, ended⟩ A).1.ls (Mk.step ⟨g, ls, p, work, w, alloc, force, tries, at_, h, ended⟩ A).1.force j'.e j'.lj ∧ Aw I (Mk.step ⟨g, ls, p, work, w, alloc, force, tries, at_, h, ended⟩ A).2
  rw [← hz0]
  refine wp_nil.2 (w_ld 0 (x := ended) hA ok rfl rfl rfl ?_)
  cases ended with
  | true =>
    refine wp_true rfl ?_
    refine wp_nil.2 (w_ld 0 (x := true) hA ok rfl rfl rfl ?_)
    rw [show z = (⟨g, ls, p, work, w, alloc, force, tries, at_, h, true⟩, A) from hz0.trans (if_pos rfl)]
    exact wp_ret_of ⟨⟨b, e, lj, aj, gar⟩, rfl, rfl, rfl, ok, rp, hA⟩
  | false =>
    refine wp_false rfl ?_
    refine wp_nil.2 (w_ld 0 (x := gmV force lj) hA ok rfl rfl rfl ?_)
    refine look_val (x := force.isSome) (gmV_nn _ _ _) ?_
    cases force with
    | some y =>
      obtain ⟨rpy, hyg⟩ := rp
      have hyg : y.g = g := hyg
      obtain ⟨hyi, hal⟩ := hfi y rfl
      have hal : alloc = none := hal
      subst hal
      have hz : Mk.step ⟨g, ls, p, work, w, none, some y, tries, at_, h, false⟩ A = if (y.step A).1.fin = true then (⟨g, (y.step A).1.ls, p, work, w, some (newAl p work 0), none, tries, at_, h, false⟩, (y.step A).2) else (⟨g, ls, p, work, w, none, some (y.step A).1, tries, at_, h, false⟩, (y.step A).2) := rfl
      rw [hz] at hz0
      refine wp_true rfl ?_
      refine wp_nil.2 (w_ld 0 (x := gmV (some y) lj) hA ok rfl rfl rfl ?_)
      obtain ⟨cM, hcM⟩ : ∃ cM : Nat × Obj, cM = (b, oc ty_frame_Make (mkC q p work w (alX none aj) (gmV (some y) lj) tries at_ h false)) := ⟨_, rfl⟩
      rw [← hcM] at ok ⊢
      have ok : Ok I G (keys (cM :: (y.bl lj ++ ([] ++ gar)))) := ok
      show wp Try.prog _ L (own A (cM :: (y.bl lj ++ ([] ++ gar))) G) _
      obtain ⟨p1, ok2⟩ := own_perm (A := A) (l' := y.bl lj ++ (cM :: gar)) ok (perm_by fun c d c0 cd ca => by simp only [List.nil_append, cd, ca, c0]; omega)
      rw [p1]
      refine w_lkStep hA ok2 rpy hyi fun lj' hq hA1 ok3 rp' => ?_
      have hg1 : (y.step A).1.g = g := (y.step_g A).1.trans hyg
      generalize (y.step A).2 = A2 at *
      generalize (y.step A).1 = y1 at *
      cases hf : y1.fin with
      | true =>
        rw [hf, if_pos rfl] at hz0
        rw [hz0]
        refine wp_true rfl ?_
        obtain ⟨e', gar', p2, ok4, gs⟩ := lk_done (A := A2) (rest := cM :: gar) hf rp' ok3
        rw [hg1] at p2 ok4
        rw [p2]
        obtain ⟨p3, ok5⟩ := own_perm (A := A2) (l' := cM :: (g.bl q mq e' ++ (gar' ++ gar))) ok4 (perm_by fun c d c0 cd ca => by simp only [cd, ca, c0]; omega)
        rw [p3, hcM]
        rw [hcM] at ok5
        refine wp_nil.2 (w_ldA (x := (p.work, p.heads, p.links, p.gens, p.carved, ())) 0 hA1 ok5 rfl rfl rfl ?_)
        refine wp_nil.2 (w_ld 0 (x := work) hA1 ok5 rfl rfl rfl ?_)
        refine w_NewAlloc (p := p) (w := work) (c := 0) hA1 ok5 (by decide) fun j ok9 => ?_
        rw [← hcM] at ok9 ⊢
        obtain ⟨p5, ok10⟩ := own_perm (A := A2) (l' := cM :: (g.bl q mq e' ++ ((newAl p work 0).bl j ++ (gar' ++ gar)))) ok9 (perm_by fun c d c0 cd ca => by simp only [cd, ca, c0]; omega)
        rw [p5, hcM]
        rw [hcM] at ok10
        refine wp_nil.2 (w_st 0 hA1 ok10 rfl rfl rfl rfl ?_)
        refine wp_nil.2 (w_st 0 hA1 (by exact ok10) rfl rfl rfl rfl ?_)
        refine wp_nil.2 (w_ld 0 (x := false) hA1 (by exact ok10) rfl rfl rfl ?_)
        exact wp_ret_of ⟨⟨b, e', lj, j, gar' ++ gar⟩, rfl, rfl, rfl, ok10, gs, hA1⟩
      | false =>
        rw [hf, if_neg Bool.false_ne_true] at hz0
        rw [hz0]
        refine wp_false rfl ?_
        obtain ⟨p3, ok5⟩ := own_perm (A := A2) (l' := cM :: (y1.bl lj' ++ ([] ++ gar))) ok3 (perm_by fun c d c0 cd ca => by simp only [List.nil_append, cd, ca, c0]; omega)
        have hv : gmV (some y) lj = gmV (some y1) lj' := by
          show Value.iface ty_p_guard_look (.pointer (some ⟨lj.q, 0, none⟩)) = Value.iface ty_p_guard_look (.pointer (some ⟨lj'.q, 0, none⟩))
          rw [hq]
        rw [p3, hcM, hv]
        rw [hcM, hv] at ok5
        refine wp_nil.2 (w_ld 0 (x := false) hA1 ok5 rfl rfl rfl ?_)
        exact wp_ret_of ⟨⟨b, [], lj', aj, gar⟩, rfl, rfl, rfl, ok5, ⟨rp', hg1⟩, hA1⟩
    | none =>
      refine wp_false rfl ?_
      refine wp_nil.2 (w_ld 0 (x := alX alloc aj) hA ok rfl rfl rfl ?_)
      cases alloc with
      | some a =>
        have hz : Mk.step ⟨g, ls, p, work, w, some a, none, tries, at_, h, false⟩ A = if mAl.fin (a.step A).1 = true then ((⟨g, ls, p, work, w, some (a.step A).1, none, tries, at_, h, false⟩ : Mk).got (a.step A).1.h, (a.step A).2) else (⟨g, ls, p, work, w, some (a.step A).1, none, tries, at_, h, false⟩, (a.step A).2) := rfl
        rw [hz] at hz0
        have haI := hai a rfl
        obtain ⟨aq, aq0, aq1⟩ := aj
        refine look_val (x := true) (ptrA_nn _) (wp_true rfl ?_)
        refine wp_nil.2 (w_ld 0 (x := some ⟨aq, 0, none⟩) hA ok rfl rfl rfl ?_)
        obtain ⟨cM, hcM⟩ : ∃ cM : Nat × Obj, cM = (b, oc ty_frame_Make (mkC q p work w (some ⟨aq, 0, none⟩) .nilIface tries at_ h false)) := ⟨_, rfl⟩
        have ok : Ok I G (keys ((b, oc ty_frame_Make (mkC q p work w (some ⟨aq, 0, none⟩) .nilIface tries at_ h false)) :: (g.bl q mq e ++ (a.bl (aq, aq0, aq1) ++ gar)))) := ok
        show wp Try.prog _ L (own A ((b, oc ty_frame_Make (mkC q p work w (some ⟨aq, 0, none⟩) .nilIface tries at_ h false)) :: (g.bl q mq e ++ (a.bl (aq, aq0, aq1) ++ gar))) G) _
        rw [← hcM] at ok ⊢
        obtain ⟨p1, ok2⟩ := own_perm (A := A) (l' := a.bl (aq, aq0, aq1) ++ (cM :: (g.bl q mq e ++ gar))) ok (perm_by fun c d c0 cd ca => by simp only [cd, ca, c0]; omega)
        rw [p1]
        rw [keys_append] at ok2
        obtain ⟨o1, o2⟩ := ok2.split
        refine w_sub (mAl_ok I A _ a (aq, aq0, aq1) hA o1 haI) ?_
        rintro v K ⟨⟨q', aq0', aq1'⟩, rfl, rfl, ha, o3, hA1⟩
        have ha : q' = aq := ha
        subst ha
        refine ⟨mAl.fin (a.step A).1, rfl, ?_⟩
        rw [← own_append]
        have o4 : Ok I G (keys ((a.step A).1.bl (q', aq0', aq1') ++ (cM :: (g.bl q mq e ++ gar)))) := by rw [keys_append]; exact o3.join o2
        show wp Try.prog _ L (own (a.step A).2 ((a.step A).1.bl (q', aq0', aq1') ++ (cM :: (g.bl q mq e ++ gar))) G) _
        have hA1 : Aw I (a.step A).2 := hA1
        generalize (a.step A).2 = A2 at *
        generalize (a.step A).1 = a1 at *
        obtain ⟨p2, ok5⟩ := own_perm (A := A2) (l' := cM :: (g.bl q mq e ++ (a1.bl (q', aq0', aq1') ++ gar))) o4 (perm_by fun c d c0 cd ca => by simp only [cd, ca, c0]; omega)
        rw [p2]
        rw [hcM] at ok5 ⊢
        cases hf : mAl.fin a1 with
        | true =>
          rw [hf, if_pos rfl] at hz0
          rw [hz0]
          refine wp_true rfl ?_
          refine wp_call_of (allocated_spec (mq := mq) ⟨g, ls, p, work, w, some a1, none, tries, at_, h, false⟩ a1 (b := b) (e := e) (lj := lj) (aj := (q', aq0', aq1')) (gar := gar) rfl rfl hA1 ok5 rp hll) ?_
          rintro v K ⟨e', lj', aj', gar', rfl, rfl, ok6, rp'⟩
          refine ⟨(), rfl, ?_⟩
          dsimp only
          generalize Mk.got ⟨g, ls, p, work, w, some a1, none, tries, at_, h, false⟩ a1.h = x1 at *
          obtain ⟨g1, ls1, p1, work1, w1, alloc1, force1, tries1, at1, h1, ended1⟩ := x1
          have ok6 : Ok I G (keys ((b, oc ty_frame_Make (mkC q p1 work1 w1 (alX alloc1 aj') (gmV force1 lj') tries1 at1 h1 ended1)) :: (gmB g1 q mq force1 e' lj' ++ (alBl alloc1 aj' ++ gar')))) := ok6
          show wp Try.prog _ L (own A2 ((b, oc ty_frame_Make (mkC q p1 work1 w1 (alX alloc1 aj') (gmV force1 lj') tries1 at1 h1 ended1)) :: (gmB g1 q mq force1 e' lj' ++ (alBl alloc1 aj' ++ gar'))) G) _
          refine wp_nil.2 (w_ld 0 (x := ended1) hA1 ok6 rfl rfl rfl ?_)
          exact wp_ret_of ⟨⟨b, e', lj', aj', gar'⟩, rfl, rfl, rfl, ok6, rp', hA1⟩
        | false =>
          rw [hf, if_neg Bool.false_ne_true] at hz0
          rw [hz0]
          refine wp_false rfl ?_
          refine wp_nil.2 (w_ld 0 (x := false) hA1 ok5 rfl rfl rfl ?_)
          exact wp_ret_of ⟨⟨b, e, lj, (q', aq0', aq1'), gar⟩, rfl, rfl, rfl, ok5, rp, hA1⟩
      | none =>
        obtain ⟨t0, t1⟩ := hab rfl rfl rfl
        have t0 : 0 ≤ at_ := t0
        have t1 : at_ < 7 := t1
        have hz : Mk.step ⟨g, ls, p, work, w, none, none, tries, at_, h, false⟩ A = (⟨g, ls, p, work, w, none, none, tries, w64 (at_ + 1), h, (w64 (at_ + 1) : Int) == 7⟩, A.storeF h at_ (w at_.toNat)) := rfl
        rw [hz] at hz0
        rw [hz0]
        refine look_val (x := false) ptrA_nn0 (wp_false rfl ?_)
        refine wp_nil.2 (w_ld 0 (x := h) hA ok rfl rfl rfl ?_)
        refine wp_nil.2 (w_ld 0 (x := at_) hA ok rfl rfl rfl ?_)
        refine wp_nil.2 (w_ld 0 (x := at_) hA ok rfl rfl rfl (wp_nil.2 ?_))
        obtain ⟨info, hinfo, hsz⟩ : ∃ info, Try.prog.info? ty_int = some info ∧ info.size = 1 := ⟨_, rfl, rfl⟩
        refine look_val (x := ⟨b, 7 + at_.toNat, none⟩) (by
          rw [opS_idx (e := ty_int) (n := 7) rfl hinfo t0 (by omega), hsz, Nat.mul_one]
          exact congrArg (fun x => Sem.pure (Next.value (Value.pointer (some x)))) (Addr.add_mk b 7 at_.toNat)) ?_
        refine w_ld 0 (x := w at_.toNat) hA ok rfl rfl (by rw [mkC_w _ _ _ _ _ _ _ _ _ _ _ (by omega)]; rfl) ?_
        refine w_Store hA fun hA1 => ?_
        refine wp_nil.2 (w_ld 0 (x := at_) hA1 ok rfl rfl rfl ?_)
        refine wp_nil.2 (w_st 0 hA1 ok rfl rfl rfl rfl ?_)
        refine wp_nil.2 (w_ld 0 (x := w64 (at_ + 1)) hA1 (by exact ok) rfl rfl rfl ?_)
        refine wp_nil.2 (w_st 0 hA1 (by exact ok) rfl rfl rfl rfl ?_)
        refine wp_nil.2 (w_ld 0 (x := (w64 (at_ + 1) : Int) == 7) hA1 (by exact ok) rfl rfl rfl ?_)
        exact wp_ret_of ⟨⟨b, e, lj, aj, gar⟩, rfl, rfl, rfl, ok, rp, hA1⟩
end Go.Proofs.Ytcjhakdopnamoaa

set_option linter.unusedVariables false
set_option linter.unusedSimpArgs false
set_option maxRecDepth 20000
namespace Go.Proofs.Ytcjhakdopnamoaa
open Go Go.Fw

/-! ### Read -/
structure Rd where
  h : Int
  fn : Int
  arg : Int
  key : Int
  stop : Bool
  at_ : Int
def rdC (x : Rd) : List Value := [.int .i64 x.h, .int .i64 x.fn, .int .i64 x.arg, .int .i64 x.key, .bool x.stop, .int .i64 x.at_]
def Rd.step (x : Rd) (A : Ar) : Rd × Ar :=
  if x.at_ < 7 then
    if x.at_ = 3 then ({ x with fn := A.loadF x.h x.at_, at_ := w64 (x.at_ + 1) }, A.touch x.h x.at_)
    else if x.at_ = 4 then ({ x with arg := A.loadF x.h x.at_, at_ := w64 (x.at_ + 1) }, A.touch x.h x.at_)
    else if x.at_ = 5 then ({ x with key := A.loadF x.h x.at_, at_ := w64 (x.at_ + 1) }, A.touch x.h x.at_)
    else if x.at_ = 6 then ({ x with stop := (A.loadF x.h x.at_ : Int) == 1, at_ := w64 (x.at_ + 1) }, A.touch x.h x.at_)
    else ({ x with at_ := w64 (x.at_ + 1) }, A.touch x.h x.at_)
  else (x, A)
def mRd : Mch Rd Nat where
  f := f_frame_Read_Step
  addr := id
  bl := fun x j => [(j, oc ty_frame_Read (rdC x))]
  inv := fun _ _ => True
  step := Rd.step
  fin := fun x => (x.at_ : Int) == 7
theorem mRd_inv : mRd.inv' ty_p_frame_Read := fun q p => by
  show opS _ _ _ _ = .pure (.enter f_frame_Read_Step [.pointer (some ⟨q, 0, none⟩), .pointer p].toArray)
  kernel_rfl

theorem mRd_ok : mRd.ok := by
  rintro I A G ⟨h, fn, arg, key, stop, at_⟩ b hA ok hi
  obtain ⟨z, hz0⟩ : ∃ z, z = Rd.step ⟨h, fn, arg, key, stop, at_⟩ A := ⟨_, rfl⟩
  refine t_frame_Read_Step_spec fun L => ?_
  unfold t_frame_Read_Step
  have ok : Ok I G (keys [(b, oc ty_frame_Read [.int .i64 h, .int .i64 fn, .int .i64 arg, .int .i64 key, .bool stop, .int .i64 at_])]) := ok
  show wp Try.prog _ L (own A [(b, oc ty_frame_Read [.int .i64 h, .int .i64 fn, .int .i64 arg, .int .i64 key, .bool stop, .int .i64 at_])] G) fun v K => ∃ j' : Nat, v = .bool ((Rd.step ⟨h, fn, arg, key, stop, at_⟩ A).1.at_ == 7) ∧ K = own (Rd.step ⟨h, fn, arg, key, stop, at_⟩ A).2 [(j', oc ty_frame_Read (rdC (Rd.step ⟨h, fn, arg, key, stop, at_⟩ A).1))] G ∧ j' = b ∧
    Ok I G (keys [(j', oc ty_frame_Read (rdC (Rd.step ⟨h, fn, arg, key, stop, at_⟩ A).1))]) ∧ Aw I (Rd.step ⟨h, fn, arg, key, stop, at_⟩ A).2
  rw [← hz0]
  refine wp_nil.2 (w_ld 0 (x := at_) hA ok rfl rfl rfl ?_)
  by_cases h7 : at_ < 7
  · have hz := hz0.trans (if_pos h7)
    refine wp_true (decide_eq_true h7) ?_
    refine wp_nil.2 (w_ld 0 (x := h) hA ok rfl rfl rfl ?_)
    refine wp_nil.2 (w_ld 0 (x := at_) hA ok rfl rfl rfl ?_)
    refine w_Load hA fun hA1 => ?_
    refine wp_nil.2 (w_ld 0 (x := at_) hA1 ok rfl rfl rfl ?_)
    by_cases h3 : at_ = 3
    · rw [hz.trans (if_pos h3)]
      refine wp_true (ibeq h3) ?_
      refine wp_nil.2 (w_st 0 hA1 ok rfl rfl rfl rfl ?_)
      refine wp_nil.2 (w_ld 0 (x := at_) hA1 (by exact ok) rfl rfl rfl ?_)
      refine wp_nil.2 (w_st 0 hA1 (by exact ok) rfl rfl rfl rfl ?_)
      refine wp_nil.2 (w_ld 0 (x := w64 (at_ + 1)) hA1 (by exact ok) rfl rfl rfl ?_)
      exact wp_ret_of ⟨b, rfl, rfl, rfl, ok, hA1⟩
    · have hz := hz.trans (if_neg h3)
      refine wp_false (ibef h3) ?_
      by_cases h4 : at_ = 4
      · rw [hz.trans (if_pos h4)]
        refine wp_true (ibeq h4) ?_
        refine wp_nil.2 (w_st 0 hA1 ok rfl rfl rfl rfl ?_)
        refine wp_nil.2 (w_ld 0 (x := at_) hA1 (by exact ok) rfl rfl rfl ?_)
        refine wp_nil.2 (w_st 0 hA1 (by exact ok) rfl rfl rfl rfl ?_)
        refine wp_nil.2 (w_ld 0 (x := w64 (at_ + 1)) hA1 (by exact ok) rfl rfl rfl ?_)
        exact wp_ret_of ⟨b, rfl, rfl, rfl, ok, hA1⟩
      · have hz := hz.trans (if_neg h4)
        refine wp_false (ibef h4) ?_
        by_cases h5 : at_ = 5
        · rw [hz.trans (if_pos h5)]
          refine wp_true (ibeq h5) ?_
          refine wp_nil.2 (w_st 0 hA1 ok rfl rfl rfl rfl ?_)
          refine wp_nil.2 (w_ld 0 (x := at_) hA1 (by exact ok) rfl rfl rfl ?_)
          refine wp_nil.2 (w_st 0 hA1 (by exact ok) rfl rfl rfl rfl ?_)
          refine wp_nil.2 (w_ld 0 (x := w64 (at_ + 1)) hA1 (by exact ok) rfl rfl rfl ?_)
          exact wp_ret_of ⟨b, rfl, rfl, rfl, ok, hA1⟩
        · have hz := hz.trans (if_neg h5)
          refine wp_false (ibef h5) ?_
          by_cases h6 : at_ = 6
          · rw [hz.trans (if_pos h6)]
            refine wp_true (ibeq h6) ?_
            refine wp_nil.2 (w_st 0 hA1 ok rfl rfl rfl rfl ?_)
            refine wp_nil.2 (w_ld 0 (x := at_) hA1 (by exact ok) rfl rfl rfl ?_)
            refine wp_nil.2 (w_st 0 hA1 (by exact ok) rfl rfl rfl rfl ?_)
            refine wp_nil.2 (w_ld 0 (x := w64 (at_ + 1)) hA1 (by exact ok) rfl rfl rfl ?_)
            exact wp_ret_of ⟨b, rfl, rfl, rfl, ok, hA1⟩
          · rw [hz.trans (if_neg h6)]
            refine wp_false (ibef h6) ?_
            refine wp_nil.2 (w_ld 0 (x := at_) hA1 (by exact ok) rfl rfl rfl ?_)
            refine wp_nil.2 (w_st 0 hA1 (by exact ok) rfl rfl rfl rfl ?_)
            refine wp_nil.2 (w_ld 0 (x := w64 (at_ + 1)) hA1 (by exact ok) rfl rfl rfl ?_)
            exact wp_ret_of ⟨b, rfl, rfl, rfl, ok, hA1⟩
  · rw [hz0.trans (if_neg h7)]
    refine wp_false (decide_eq_false h7) ?_
    refine wp_nil.2 (w_ld 0 (x := at_) hA ok rfl rfl rfl ?_)
    exact wp_ret_of ⟨b, rfl, rfl, rfl, ok, hA⟩

/-! ### What is made -/
def twF (fn arg key : Int) (stop : Bool) : Nat → Int
  | 0 => 0
  | 1 => 0
  | 2 => 2
  | 3 => fn
  | 4 => arg
  | 5 => key
  | 6 => bif stop then 1 else 0
  | _ => 0

section
variable {L : Hands} {R : Value → Heap → Prop} {G : Heap} {l rest : Bl} {A A' : Ar} {I : List Nat} {q mq : Nat}

set_option maxHeartbeats 2000000 in
theorem words_det (fn arg key : Int) (stop : Bool) (H : Heap) : Det Try.prog f_frame_Task_words [.agg #[.int .i64 fn, .int .i64 arg, .int .i64 key, .bool stop]] H (.agg #[.int .i64 0, .int .i64 0, .int .i64 2, .int .i64 fn, .int .i64 arg, .int .i64 key, .int .i64 (bif stop then 1 else 0)]) H := by
  refine t_frame_Task_words_spec (p0_0 := fn) (p0_1 := arg) (p0_2 := key) (p0_3 := stop) fun L => ?_
  unfold t_frame_Task_words
  have ok0 : Ok0 H (keys []) := ⟨.nil, fun b h => (by cases h)⟩
  refine p_newP (l := []) ok0 fun x1 ok0 => ?_
  refine p_newP ok0 fun x2 ok0 => ?_
  refine p_ld (l := [(x2, oc ty_a7_int [.int .i64 0, .int .i64 0, .int .i64 0, .int .i64 0, .int .i64 0, .int .i64 0, .int .i64 0]), (x1, oc ty_frame_Task [.int .i64 fn, .int .i64 arg, .int .i64 key, .bool stop])]) (x := fn) 1 ok0 rfl rfl rfl ?_
  refine p_ld (l := [(x2, oc ty_a7_int [.int .i64 0, .int .i64 0, .int .i64 0, .int .i64 0, .int .i64 0, .int .i64 0, .int .i64 0]), (x1, oc ty_frame_Task [.int .i64 fn, .int .i64 arg, .int .i64 key, .bool stop])]) (x := arg) 1 ok0 rfl rfl rfl ?_
  refine p_ld (l := [(x2, oc ty_a7_int [.int .i64 0, .int .i64 0, .int .i64 0, .int .i64 0, .int .i64 0, .int .i64 0, .int .i64 0]), (x1, oc ty_frame_Task [.int .i64 fn, .int .i64 arg, .int .i64 key, .bool stop])]) (x := key) 1 ok0 rfl rfl rfl ?_
  refine p_newP ok0 fun x3 ok0 => ?_
  refine p_stA 0 ok0 rfl rfl rfl rfl ?_
  have ok1 : Ok0 H (keys [(x3, oc ty_a7_int [.int .i64 0, .int .i64 0, .int .i64 2, .int .i64 fn, .int .i64 arg, .int .i64 key, .int .i64 0]), (x2, oc ty_a7_int [.int .i64 0, .int .i64 0, .int .i64 0, .int .i64 0, .int .i64 0, .int .i64 0, .int .i64 0]), (x1, oc ty_frame_Task [.int .i64 fn, .int .i64 arg, .int .i64 key, .bool stop])]) := ok0
  show wp Try.prog _ L (putL [(x3, oc ty_a7_int [.int .i64 0, .int .i64 0, .int .i64 2, .int .i64 fn, .int .i64 arg, .int .i64 key, .int .i64 0]), (x2, oc ty_a7_int [.int .i64 0, .int .i64 0, .int .i64 0, .int .i64 0, .int .i64 0, .int .i64 0, .int .i64 0]), (x1, oc ty_frame_Task [.int .i64 fn, .int .i64 arg, .int .i64 key, .bool stop])] H) _
  refine p_ld (x := stop) 2 ok1 rfl rfl rfl ?_
  have tail : ∀ (w6 : Int), w6 = (bif stop then 1 else 0) → ∀ L, wp Try.prog (.ldA ⟨x3, 0, none⟩ [(.int .i64), (.int .i64), (.int .i64), (.int .i64), (.int .i64), (.int .i64), (.int .i64)] fun x14 =>
    .stA ⟨x2, 0, none⟩ [(.int .i64 x14.1), (.int .i64 x14.2.1), (.int .i64 x14.2.2.1), (.int .i64 x14.2.2.2.1), (.int .i64 x14.2.2.2.2.1), (.int .i64 x14.2.2.2.2.2.1), (.int .i64 x14.2.2.2.2.2.2.1)] <|
    .look (ldK ⟨x2, 0, none⟩ 7 0 #[] fun r0 => .pure (.value (.agg r0))) (.one (.agg [(.int .i64), (.int .i64), (.int .i64), (.int .i64), (.int .i64), (.int .i64), (.int .i64)])) fun r => .ret (Sh.toVal (.one (.agg [(.int .i64), (.int .i64), (.int .i64), (.int .i64), (.int .i64), (.int .i64), (.int .i64)])) r)) L
    (putL [(x3, oc ty_a7_int [.int .i64 0, .int .i64 0, .int .i64 2, .int .i64 fn, .int .i64 arg, .int .i64 key, .int .i64 w6]), (x2, oc ty_a7_int [.int .i64 0, .int .i64 0, .int .i64 0, .int .i64 0, .int .i64 0, .int .i64 0, .int .i64 0]), (x1, oc ty_frame_Task [.int .i64 fn, .int .i64 arg, .int .i64 key, .bool stop])] H)
    (fun v K => v = .agg #[.int .i64 0, .int .i64 0, .int .i64 2, .int .i64 fn, .int .i64 arg, .int .i64 key, .int .i64 (bif stop then 1 else 0)] ∧ K = H) := fun w6 h6 L => by
    have ok2 : Ok0 H (keys [(x3, oc ty_a7_int [.int .i64 0, .int .i64 0, .int .i64 2, .int .i64 fn, .int .i64 arg, .int .i64 key, .int .i64 w6]), (x2, oc ty_a7_int [.int .i64 0, .int .i64 0, .int .i64 0, .int .i64 0, .int .i64 0, .int .i64 0, .int .i64 0]), (x1, oc ty_frame_Task [.int .i64 fn, .int .i64 arg, .int .i64 key, .bool stop])]) := ok1
    refine p_ldA (x := (0, 0, 2, fn, arg, key, w6, ())) 0 ok2 rfl rfl rfl ?_
    refine p_stA 1 ok2 rfl rfl rfl rfl ?_
    have ok3 : Ok0 H (keys [(x3, oc ty_a7_int [.int .i64 0, .int .i64 0, .int .i64 2, .int .i64 fn, .int .i64 arg, .int .i64 key, .int .i64 w6]), (x2, oc ty_a7_int [.int .i64 0, .int .i64 0, .int .i64 2, .int .i64 fn, .int .i64 arg, .int .i64 key, .int .i64 w6]), (x1, oc ty_frame_Task [.int .i64 fn, .int .i64 arg, .int .i64 key, .bool stop])]) := ok2
    show wp Try.prog _ L (putL [(x3, oc ty_a7_int [.int .i64 0, .int .i64 0, .int .i64 2, .int .i64 fn, .int .i64 arg, .int .i64 key, .int .i64 w6]), (x2, oc ty_a7_int [.int .i64 0, .int .i64 0, .int .i64 2, .int .i64 fn, .int .i64 arg, .int .i64 key, .int .i64 w6]), (x1, oc ty_frame_Task [.int .i64 fn, .int .i64 arg, .int .i64 key, .bool stop])] H) _
    refine ⟨(0, 0, 2, fn, arg, key, w6, ()), ?_, ?_⟩
    · have hg := putL_get (i := 1) (b := x2) (o := oc ty_a7_int [.int .i64 0, .int .i64 0, .int .i64 2, .int .i64 fn, .int .i64 arg, .int .i64 key, .int .i64 w6]) H ok3.nd rfl
      refine ldK_still hg 7 0 #[] (Nat.le_refl 7) ?_
      rfl
    · exact ⟨H, gp_end ok3, (by rw [← h6]), rfl⟩
  cases stop with
  | true =>
    refine wp_true rfl ?_
    refine p_st 0 ok1 rfl rfl rfl rfl ?_
    exact tail 1 rfl _
  | false =>
    refine wp_false rfl ?_
    exact tail 0 rfl _

theorem w_NewMake {p : Pl} {work fn arg key : Int} {stop : Bool} {K : Option Addr → Tree} (hA : Aw I A) (ok : Ok I G (keys l))
    (h : ∀ (b : Nat) (aj : Nat × Nat × Nat) (gar : Bl), Ok I G (keys ((b, oc ty_frame_Make (mkC q p work (twF fn arg key stop) (some ⟨aj.1, 0, none⟩) .nilIface 0 0 0 false)) :: ((newAl p work 0).bl aj ++ (gar ++ l)))) →
      wp Try.prog (K (some ⟨b, 0, none⟩)) L (own A ((b, oc ty_frame_Make (mkC q p work (twF fn arg key stop) (some ⟨aj.1, 0, none⟩) .nilIface 0 0 0 false)) :: ((newAl p work 0).bl aj ++ (gar ++ l))) G) R) :
    wp Try.prog (.call f_frame_NewMake [p.val, .pointer (some ⟨q, 0, none⟩), .int .i64 work, .agg #[.int .i64 fn, .int .i64 arg, .int .i64 key, .bool stop]] (.one (.leaf .ptr)) K) L (own A l G) R := by
  refine wp_call_of (R0 := fun v H => ∃ (b : Nat) (aj : Nat × Nat × Nat) (gar : Bl), v = .pointer (some ⟨b, 0, none⟩) ∧ H = own A ((b, oc ty_frame_Make (mkC q p work (twF fn arg key stop) (some ⟨aj.1, 0, none⟩) .nilIface 0 0 0 false)) :: ((newAl p work 0).bl aj ++ (gar ++ l))) G ∧
    Ok I G (keys ((b, oc ty_frame_Make (mkC q p work (twF fn arg key stop) (some ⟨aj.1, 0, none⟩) .nilIface 0 0 0 false)) :: ((newAl p work 0).bl aj ++ (gar ++ l))))) ?_ ?_
  · refine t_frame_NewMake_spec (p0_0 := p.work) (p0_1 := p.heads) (p0_2 := p.links) (p0_3 := p.gens) (p0_4 := p.carved) (p3_0 := fn) (p3_1 := arg) (p3_2 := key) (p3_3 := stop) fun L => ?_
    unfold t_frame_NewMake
    refine w_newP (c := plCells p) hA ok fun x4 ok1 => ?_
    refine w_newP (c := [.int .i64 fn, .int .i64 arg, .int .i64 key, .bool stop]) hA ok1 fun x7 ok2 => ?_
    refine w_ldA (x := (p.work, p.heads, p.links, p.gens, p.carved, ())) 1 hA ok2 rfl rfl rfl ?_
    refine w_ldA (x := (fn, arg, key, stop, ())) 0 hA ok2 rfl rfl rfl ?_
    refine w_ldA (x := (p.work, p.heads, p.links, p.gens, p.carved, ())) 1 hA ok2 rfl rfl rfl ?_
    refine wp_call_det (x := (0, 0, 2, fn, arg, key, (bif stop then 1 else 0), ())) (words_det fn arg key stop _) ?_
    refine w_ckA 1 hA ok2 rfl rfl rfl rfl ?_
    refine w_ckA 1 hA ok2 rfl rfl rfl rfl ?_
    refine w_NewAlloc (p := p) (w := work) (c := 0) hA ok2 (by decide) fun aj ok3 => ?_
    obtain ⟨aq, aq0, aq1⟩ := aj
    refine w_ckA 4 hA ok3 rfl rfl rfl rfl ?_
    refine w_newP (c := mkC q p work (twF fn arg key stop) (some ⟨aq, 0, none⟩) .nilIface 0 0 0 false) hA ok3 fun x18 ok4 => ?_
    exact wp_ret_of ⟨x18, (aq, aq0, aq1), [(x7, oc ty_frame_Task [.int .i64 fn, .int .i64 arg, .int .i64 key, .bool stop]), (x4, oc ty_free_Place (plCells p))], rfl, rfl, ok4⟩
  · rintro v H ⟨b, aj, gar, rfl, rfl, o⟩
    exact ⟨_, rfl, h b aj gar o⟩

theorem w_NewRead {b : Int} {K : Option Addr → Tree} (hA : Aw I A) (ok : Ok I G (keys l)) (h : ∀ z : Nat, Ok I G (keys ((z, oc ty_frame_Read (rdC ⟨b, 0, 0, 0, false, 3⟩)) :: l)) → wp Try.prog (K (some ⟨z, 0, none⟩)) L (own A ((z, oc ty_frame_Read (rdC ⟨b, 0, 0, 0, false, 3⟩)) :: l) G) R) :
    wp Try.prog (.call f_frame_NewRead [.int .i64 b] (.one (.leaf .ptr)) K) L (own A l G) R := by
  refine wp_call_of (R0 := fun v H => ∃ z : Nat, v = .pointer (some ⟨z, 0, none⟩) ∧ H = own A ((z, oc ty_frame_Read (rdC ⟨b, 0, 0, 0, false, 3⟩)) :: l) G ∧ Ok I G (keys ((z, oc ty_frame_Read (rdC ⟨b, 0, 0, 0, false, 3⟩)) :: l))) ?_ ?_
  · refine t_frame_NewRead_spec fun L => ?_
    unfold t_frame_NewRead
    refine w_newP (c := rdC ⟨b, 0, 0, 0, false, 3⟩) hA ok fun z ok1 => ?_
    exact wp_ret_of ⟨z, rfl, rfl, ok1⟩
  · rintro v H ⟨z, rfl, rfl, o⟩
    exact ⟨_, rfl, h z o⟩
theorem w_NewAsk {b work : Int} {K : Option Addr → Tree} (hA : Aw I A) (ok : Ok I G (keys l))
    (h : ∀ z : Nat, Ok I G (keys ((z, oc ty_frame_Ask [.pointer (some ⟨q, 0, none⟩), .int .i64 work, .int .i64 b, .bool false, .nilIface, .int .i64 0, .int .i64 0, .int .i64 0, .bool false, .bool false]) :: l)) → wp Try.prog (K (some ⟨z, 0, none⟩)) L (own A ((z, oc ty_frame_Ask [.pointer (some ⟨q, 0, none⟩), .int .i64 work, .int .i64 b, .bool false, .nilIface, .int .i64 0, .int .i64 0, .int .i64 0, .bool false, .bool false]) :: l) G) R) :
    wp Try.prog (.call f_frame_NewAsk [.pointer (some ⟨q, 0, none⟩), .int .i64 work, .int .i64 b] (.one (.leaf .ptr)) K) L (own A l G) R := by
  refine wp_call_of (R0 := fun v H => ∃ z : Nat, v = .pointer (some ⟨z, 0, none⟩) ∧ H = own A ((z, oc ty_frame_Ask [.pointer (some ⟨q, 0, none⟩), .int .i64 work, .int .i64 b, .bool false, .nilIface, .int .i64 0, .int .i64 0, .int .i64 0, .bool false, .bool false]) :: l) G ∧ Ok I G (keys ((z, oc ty_frame_Ask [.pointer (some ⟨q, 0, none⟩), .int .i64 work, .int .i64 b, .bool false, .nilIface, .int .i64 0, .int .i64 0, .int .i64 0, .bool false, .bool false]) :: l))) ?_ ?_
  · refine t_frame_NewAsk_spec fun L => ?_
    unfold t_frame_NewAsk
    refine w_newP hA ok fun z ok1 => ?_
    exact wp_ret_of ⟨z, rfl, rfl, ok1⟩
  · rintro v H ⟨z, rfl, rfl, o⟩
    exact ⟨_, rfl, h z o⟩
theorem w_NewEnd {b work how val : Int} {K : Option Addr → Tree} (hA : Aw I A) (ok : Ok I G (keys l))
    (h : ∀ (z : Nat) (gar : Bl), Ok I G (keys ((z, oc ty_frame_End [.pointer (some ⟨q, 0, none⟩), .int .i64 work, .int .i64 b, .bool false, .nilIface, .int .i64 how, .int .i64 val, .int .i64 1, .bool false]) :: (gar ++ l))) → wp Try.prog (K (some ⟨z, 0, none⟩)) L (own A ((z, oc ty_frame_End [.pointer (some ⟨q, 0, none⟩), .int .i64 work, .int .i64 b, .bool false, .nilIface, .int .i64 how, .int .i64 val, .int .i64 1, .bool false]) :: (gar ++ l)) G) R) :
    wp Try.prog (.call f_frame_NewEnd [.pointer (some ⟨q, 0, none⟩), .int .i64 work, .int .i64 b, .agg #[.int .i64 how, .int .i64 val]] (.one (.leaf .ptr)) K) L (own A l G) R := by
  refine wp_call_of (R0 := fun v H => ∃ (z : Nat) (gar : Bl), v = .pointer (some ⟨z, 0, none⟩) ∧ H = own A ((z, oc ty_frame_End [.pointer (some ⟨q, 0, none⟩), .int .i64 work, .int .i64 b, .bool false, .nilIface, .int .i64 how, .int .i64 val, .int .i64 1, .bool false]) :: (gar ++ l)) G ∧ Ok I G (keys ((z, oc ty_frame_End [.pointer (some ⟨q, 0, none⟩), .int .i64 work, .int .i64 b, .bool false, .nilIface, .int .i64 how, .int .i64 val, .int .i64 1, .bool false]) :: (gar ++ l)))) ?_ ?_
  · refine t_frame_NewEnd_spec (p3_0 := how) (p3_1 := val) fun L => ?_
    unfold t_frame_NewEnd
    refine w_newP (c := [.int .i64 how, .int .i64 val]) hA ok fun x7 ok1 => ?_
    refine w_ldA (x := (how, val, ())) 0 hA ok1 rfl rfl rfl ?_
    refine w_newP (c := [.pointer (some ⟨q, 0, none⟩), .int .i64 work, .int .i64 b, .bool false, .nilIface, .int .i64 how, .int .i64 val, .int .i64 1, .bool false]) hA ok1 fun z ok2 => ?_
    exact wp_ret_of ⟨z, [(x7, oc ty_api_End [.int .i64 how, .int .i64 val])], rfl, rfl, ok2⟩
  · rintro v H ⟨z, gar, rfl, rfl, o⟩
    exact ⟨_, rfl, h z gar o⟩

theorem w_MkHandle (i : Nat) {b : Nat} {x : Mk} {ap : Option Addr} {fv : Value} {k : HL Sh1.T [(.leaf (.int .i64)), (.leaf .bool)] → Tree} (hA : Aw I A) (ok : Ok I G (keys l)) (h0 : l[i]? = some (b, oc ty_frame_Make (mkC q x.p x.work x.w ap fv x.tries x.at_ x.h x.ended)))
    (h : wp Try.prog (k (x.h, (x.ended && (x.h : Int) != 0), ())) L (own A l G) R) :
    wp Try.prog (.call f_frame_Make_Handle [.pointer (some ⟨b, 0, none⟩)] (.tup [(.leaf (.int .i64)), (.leaf .bool)]) k) L (own A l G) R := by
  refine wp_call_det (x := (x.h, (x.ended && (x.h : Int) != 0), ())) (H' := own A l G) ?_ h
  refine t_frame_Make_Handle_spec fun L => ?_
  unfold t_frame_Make_Handle
  refine wp_nil.2 (w_ld i (x := x.h) hA ok rfl h0 rfl (wp_nil.2 (w_ld i (x := x.ended) hA ok rfl h0 rfl ?_)))
  cases he : x.ended with
  | true =>
    refine wp_true rfl ?_
    refine wp_nil.2 (w_ld i (x := x.h) hA ok rfl h0 rfl ?_)
    exact wp_ret_of ⟨rfl, rfl⟩
  | false => exact wp_false rfl (wp_ret_of ⟨rfl, rfl⟩)

theorem w_RdTask {b : Nat} {x : Rd} {k : HL Leaf.T [.int .i64, .int .i64, .int .i64, .bool] → Tree} (hA : Aw I A) (ok : Ok I G (keys ((b, oc ty_frame_Read (rdC x)) :: l)))
    (h : wp Try.prog (k (x.fn, x.arg, x.key, x.stop, ())) L (own A ((b, oc ty_frame_Read (rdC x)) :: l) G) R) :
    wp Try.prog (.call f_frame_Read_Task [.pointer (some ⟨b, 0, none⟩)] (.one (.agg [(.int .i64), (.int .i64), (.int .i64), .bool])) k) L (own A ((b, oc ty_frame_Read (rdC x)) :: l) G) R := by
  refine wp_call_det (x := (x.fn, x.arg, x.key, x.stop, ())) (H' := own A ((b, oc ty_frame_Read (rdC x)) :: l) G) ?_ h
  refine t_frame_Read_Task_spec fun L => ?_
  unfold t_frame_Read_Task
  refine w_newP (c := [.int .i64 0, .int .i64 0, .int .i64 0, .bool false]) hA ok fun x2 ok1 => ?_
  refine wp_nil.2 (w_ldA (x := (x.fn, x.arg, x.key, x.stop, ())) 1 hA ok1 rfl rfl rfl ?_)
  refine w_stA 0 hA ok1 rfl rfl rfl rfl ?_
  have ok2 : Ok I G (keys ((x2, oc ty_frame_Task [.int .i64 x.fn, .int .i64 x.arg, .int .i64 x.key, .bool x.stop]) :: (b, oc ty_frame_Read (rdC x)) :: l)) := ok1
  refine ⟨(x.fn, x.arg, x.key, x.stop, ()), ?_, ?_⟩
  · refine ldK_still (own_get (i := 0) hA (by exact ok2) rfl) 4 0 #[] (by exact Nat.le_refl 4) ?_
    rfl
  · exact ⟨_, own_sub (by exact ok2) ok.nd (fun p hp => List.mem_cons_of_mem _ hp), rfl, rfl⟩

theorem w_EnTold (i : Nat) {b : Nat} {c : List Value} {told : Bool} {k : Bool → Tree} (hA : Aw I A) (ok : Ok I G (keys l)) (h0 : l[i]? = some (b, oc ty_frame_End c)) (hc : c[8]? = some (.bool told)) (h : wp Try.prog (k told) L (own A l G) R) :
    wp Try.prog (.call f_frame_End_Told [.pointer (some ⟨b, 0, none⟩)] (.one (.leaf .bool)) k) L (own A l G) R := by
  refine wp_call_det (x := told) (H' := own A l G) ?_ h
  refine t_frame_End_Told_spec fun L => ?_
  unfold t_frame_End_Told
  refine wp_nil.2 (w_ld i (x := told) hA ok rfl h0 (by show (c[8]?).bind _ = _; rw [hc]; rfl) ?_)
  exact wp_ret_of ⟨rfl, rfl⟩

/-- What an ask tells. -/
def As.told (x : As) : Bool := x.ended && (x.how : Int) != 0
theorem w_AsEnd {b : Nat} {pre : List Value} {x : As} {k : HL Sh1.T [(.agg [(.int .i64), (.int .i64)]), (.leaf .bool)] → Tree} (hl : pre.length = 5) (hA : Aw I A) (ok : Ok I G (keys ((b, oc ty_frame_Ask (pre ++ x.tail)) :: l)))
    (h : wp Try.prog (k (((if x.told = true then x.how else 0), (if x.told = true then x.val else 0), ()), x.told, ())) L (own A ((b, oc ty_frame_Ask (pre ++ x.tail)) :: l) G) R) :
    wp Try.prog (.call f_frame_Ask_End [.pointer (some ⟨b, 0, none⟩)] (.tup [(.agg [(.int .i64), (.int .i64)]), (.leaf .bool)]) k) L (own A ((b, oc ty_frame_Ask (pre ++ x.tail)) :: l) G) R := by
  refine wp_call_det (x := (((if x.told = true then x.how else 0), (if x.told = true then x.val else 0), ()), x.told, ())) (H' := own A ((b, oc ty_frame_Ask (pre ++ x.tail)) :: l) G) ?_ h
  obtain ⟨v0, v1, v2, v3, v4, rfl⟩ : ∃ v0 v1 v2 v3 v4, pre = [v0, v1, v2, v3, v4] := by
    match pre, hl with
    | [v0, v1, v2, v3, v4], _ => exact ⟨v0, v1, v2, v3, v4, rfl⟩
  refine t_frame_Ask_End_spec fun L => ?_
  unfold t_frame_Ask_End
  refine w_newP (c := [.int .i64 0, .int .i64 0]) hA ok fun x2 ok1 => ?_
  refine wp_nil.2 (w_ld 1 (x := x.ended) hA ok1 rfl rfl rfl ?_)
  have no : x.told = false → ∀ L, wp Try.prog (.stA ⟨x2, 0, none⟩ [(.int .i64 0), (.int .i64 0)] <|
    .look (ldK ⟨x2, 0, none⟩ 2 0 #[] fun r0 => .pure (.value (.tuple #[(.agg r0), (.bool false)]))) (.tup [(.agg [(.int .i64), (.int .i64)]), (.leaf .bool)]) fun r => .ret (Sh.toVal (.tup [(.agg [(.int .i64), (.int .i64)]), (.leaf .bool)]) r)) L (own A ((x2, oc ty_api_End [.int .i64 0, .int .i64 0]) :: (b, oc ty_frame_Ask ([v0, v1, v2, v3, v4] ++ x.tail)) :: l) G)
      (fun v K => v = Sh.toVal (.tup [(.agg [(.int .i64), (.int .i64)]), (.leaf .bool)]) (((if x.told = true then x.how else 0), (if x.told = true then x.val else 0), ()), x.told, ()) ∧ K = own A ((b, oc ty_frame_Ask ([v0, v1, v2, v3, v4] ++ x.tail)) :: l) G) := fun ht L => by
    rw [ht]
    refine w_stA 0 hA ok1 rfl rfl rfl rfl ?_
    refine ⟨((0, 0, ()), false, ()), ?_, ?_⟩
    · refine ldK_still (own_get (i := 0) hA (by exact ok1) rfl) 2 0 #[] (by exact Nat.le_refl 2) ?_
      rfl
    · exact ⟨_, own_sub (by exact ok1) ok.nd (fun p hp => List.mem_cons_of_mem _ hp), rfl, rfl⟩
  cases he : x.ended with
  | false =>
    refine wp_true rfl ?_
    exact no (by unfold As.told; rw [he]; rfl) _
  | true =>
    refine wp_false rfl ?_
    refine wp_nil.2 (w_ld 1 (x := x.how) hA ok1 rfl rfl rfl ?_)
    by_cases h0 : x.how = 0
    · refine wp_true (ibeq h0) ?_
      exact no (by unfold As.told; rw [he, h0]; rfl) _
    · refine wp_false (ibef h0) ?_
      have ht : x.told = true := by unfold As.told; rw [he, ibne h0]; rfl
      rw [ht]
      refine wp_nil.2 (w_ldA (x := (x.how, x.val, ())) 1 hA ok1 rfl rfl rfl ?_)
      refine w_stA 0 hA ok1 rfl rfl rfl rfl ?_
      have ok2 : Ok I G (keys ((x2, oc ty_api_End [.int .i64 x.how, .int .i64 x.val]) :: (b, oc ty_frame_Ask ([v0, v1, v2, v3, v4] ++ x.tail)) :: l)) := ok1
      refine ⟨((x.how, x.val, ()), true, ()), ?_, ?_⟩
      · refine ldK_still (own_get (i := 0) hA (by exact ok2) rfl) 2 0 #[] (by exact Nat.le_refl 2) ?_
        rfl
      · exact ⟨_, own_sub (by exact ok2) ok.nd (fun p hp => List.mem_cons_of_mem _ hp), rfl, rfl⟩
end
end Go.Proofs.Ytcjhakdopnamoaa

