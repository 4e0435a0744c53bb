/- Texts of this claim, one behind the other. -/
import Derived.Test.YtjleoogieoahnaaB2
set_option linter.unusedSimpArgs false
set_option linter.unusedVariables false
set_option linter.unusedVariables false
set_option linter.unusedSimpArgs false
set_option maxRecDepth 20000
namespace Go.Proofs.Ytjleoogieoahnaa
open Go Go.Fw

abbrev gC (q : Nat) (a b v ph : Int) (o : Bool) : Nat × Obj := (q, oc ty_future_Get (Ft.mk a b v ph o).cells)
abbrev sC (q : Nat) (a b v ph : Int) (o : Bool) : Nat × Obj := (q, oc ty_future_Set (Ft.mk a b v ph o).cells)

section
variable {A : Ar} {L : Hands} {R : Value → Heap → Prop} {H : Heap} {I : List Nat} {l rest : Bl}

/-- The runs, where the machine's block is somewhere. -/
theorem w_setRun {q : Nat} {a b v ph : Int} {o : Bool} {n : Nat} {B : Ar} (hA : Aw I A) (ok : Ok I H (keys l)) (hl : l.Perm (sC q a b v 0 false :: rest)) (run : mSt.Runs n ⟨a, b, v, 0, false⟩ A ⟨a, b, v, ph, o⟩ B) (hn : n ≤ 10) {k : Bool → Tree}
    (h : Aw I B → Ok I H (keys (sC q a b v ph o :: rest)) → wp Try.prog (k true) L (own B (sC q a b v ph o :: rest) H) R) :
    wp Try.prog (.call f_magpielaw19_run [.pointer (aI I), .iface ty_p_future_Set (.pointer (some ⟨q, 0, none⟩))] (.one (.leaf .bool)) k) L (own A l H) R := by
  obtain ⟨p1, ok1⟩ := own_perm (A := A) ok hl
  rw [p1]
  refine w_run19 mSt_ok mSt_inv run hn (j := q) (rest := rest) hA ok1 fun j' ha hB ok2 => ?_
  have ha : j' = q := ha
  subst ha
  exact h hB ok2
theorem w_getRun {q : Nat} {a b v ph : Int} {o : Bool} {n : Nat} {B : Ar} (hA : Aw I A) (ok : Ok I H (keys l)) (hl : l.Perm (gC q a b 0 0 false :: rest)) (run : mGt.Runs n ⟨a, b, 0, 0, false⟩ A ⟨a, b, v, ph, o⟩ B) (hn : n ≤ 10) {k : Bool → Tree}
    (h : Aw I B → Ok I H (keys (gC q a b v ph o :: rest)) → wp Try.prog (k true) L (own B (gC q a b v ph o :: rest) H) R) :
    wp Try.prog (.call f_magpielaw19_run [.pointer (aI I), .iface ty_p_future_Get (.pointer (some ⟨q, 0, none⟩))] (.one (.leaf .bool)) k) L (own A l H) R := by
  obtain ⟨p1, ok1⟩ := own_perm (A := A) ok hl
  rw [p1]
  refine w_run19 mGt_ok mGt_inv run hn (j := q) (rest := rest) hA ok1 fun j' ha hB ok2 => ?_
  have ha : j' = q := ha
  subst ha
  exact h hB ok2
end

set_option maxHeartbeats 1000000 in
theorem FutureSteps_det (p0 p1 p2 : Int) (H : Heap) : Det Try.prog f_magpielaw19_FutureSteps [.int .i64 p0, .int .i64 p1, .int .i64 p2] H (.bool true) H := by
  refine t_magpielaw19_FutureSteps_spec fun L => ?_
  unfold t_magpielaw19_FutureSteps
  refine w_Place (by omega) (by omega) ?_
  have a0 := Int.emod_nonneg p0 (b := 8) (by omega)
  have a1 := Int.emod_lt_of_pos p0 (b := 8) (by omega)
  generalize p0 % 8 = cc at *
  refine wq_FRaw (by decide) ?_
  have ok0 : Ok0 H (keys []) := ⟨.nil, fun b h => (by cases h)⟩
  refine w_New (l := []) (n := 16) (m := 0) (f := false) ok0 (by decide) (by decide) fun A hm hA hI ok => ?_
  refine w_NewGet hA ok fun g ok => ?_
  refine w_NewSet hA ok fun s ok => ?_
  refine w_NewSet hA ok fun t ok => ?_
  refine w_NewGet hA ok fun u ok => ?_
  refine look_val (x := false) (eqAr _) (wp_false rfl ?_)
  refine look_val (x := false) (eqG _) (wp_false rfl ?_)
  refine look_val (x := false) (eqSt _) (wp_false rfl ?_)
  refine look_val (x := false) (eqSt _) (wp_false rfl ?_)
  refine look_val (x := false) (eqG _) (wp_false rfl ?_)
  obtain ⟨r0, rl⟩ := made0 hm
  have rl : (A.raw.length : Int) = 16 := by rw [rl]; rfl
  have u0 := hm.uses
  have fa0 := hm.fault
  have f0 : fw 0 cc 0 = 2 * cc := by rw [fw_eq ⟨by omega, by omega, by omega, by omega, by omega, by omega⟩]; omega
  have f1 : fw 0 cc 1 = 2 * cc + 1 := by rw [fw_eq ⟨by omega, by omega, by omega, by omega, by omega, by omega⟩]; omega
  have nf : ∀ v, newFt 0 cc v = ⟨2 * cc, 2 * cc + 1, v, 0, false⟩ := fun v => by unfold newFt; rw [f0, f1]
  rw [nf, nf, nf] at ok ⊢
  have oa : A.rawOk (2 * cc) := ⟨by omega, by omega⟩
  have ob : A.rawOk (2 * cc + 1) := ⟨by omega, by omega⟩
  have ok : Ok A.ids H (keys [gC u (2 * cc) (2 * cc + 1) 0 0 false, sC t (2 * cc) (2 * cc + 1) p2 0 false, sC s (2 * cc) (2 * cc + 1) p1 0 false, gC g (2 * cc) (2 * cc + 1) 0 0 false]) := ok
  show wp Try.prog _ L (own A [gC u (2 * cc) (2 * cc + 1) 0 0 false, sC t (2 * cc) (2 * cc + 1) p2 0 false, sC s (2 * cc) (2 * cc + 1) p1 0 false, gC g (2 * cc) (2 * cc + 1) 0 0 false] H) _
  refine w_getRun (q := g) (a := 2 * cc) (b := 2 * cc + 1) (rest := [gC u (2 * cc) (2 * cc + 1) 0 0 false, sC t (2 * cc) (2 * cc + 1) p2 0 false, sC s (2 * cc) (2 * cc + 1) p1 0 false]) hA ok (perm_by fun c d c0 cd ca => by simp only [cd, ca, c0]; omega) (get_none oa (by omega) (by omega) (by rw [r0]; decide)) (by decide) fun hA ok => ?_
  refine wp_false rfl ?_
  refine w_Uses hA ?_
  refine wp_false (ibnf (by show A.uses + 1 = 1; omega)) ?_
  obtain ⟨B, run, F⟩ := set_goes (A := A.later 1) (a := 2 * cc) (b := 2 * cc + 1) (v := p1) oa ob (by omega) (by show 0 ≤ A.uses + 1; omega) (by show A.uses + 1 ≤ _; omega) (r0 _)
  have fus : B.uses = A.uses + 1 + 3 := F.us
  have frl : B.raw.length = A.raw.length := F.rl
  refine w_setRun (q := s) (a := 2 * cc) (b := 2 * cc + 1) (v := p1) (rest := [gC g (2 * cc) (2 * cc + 1) 0 3 false, gC u (2 * cc) (2 * cc + 1) 0 0 false, sC t (2 * cc) (2 * cc + 1) p2 0 false]) hA ok (perm_by fun c d c0 cd ca => by simp only [cd, ca, c0]; omega) run (by decide) fun hB ok => ?_
  refine wp_false rfl ?_
  refine w_Uses hB ?_
  refine wp_false (ibnf (by rw [fus]; omega)) ?_
  have b0 : B.rawF (2 * cc) = 2 := by rw [F.rf, if_pos rfl]
  have b1 : B.rawF (2 * cc + 1) = p1 := by rw [F.rf, if_neg (by omega), if_pos rfl]
  have oaB : B.rawOk (2 * cc) := ⟨by omega, by omega⟩
  have obB : B.rawOk (2 * cc + 1) := ⟨by omega, by omega⟩
  refine w_setRun (q := t) (a := 2 * cc) (b := 2 * cc + 1) (v := p2) (rest := [sC s (2 * cc) (2 * cc + 1) p1 3 true, gC g (2 * cc) (2 * cc + 1) 0 3 false, gC u (2 * cc) (2 * cc + 1) 0 0 false]) hB ok (perm_by fun c d c0 cd ca => by simp only [cd, ca, c0]; omega) (set_no oaB (by omega) (by omega) (by rw [b0]; decide)) (by decide) fun hC ok => ?_
  refine wp_false rfl ?_
  refine w_Uses hC ?_
  refine wp_false (ibnf (by show B.uses + 1 = 5; omega)) ?_
  have run4 := get_some (A := B.later 1) (a := 2 * cc) (b := 2 * cc + 1) oaB obB (by show 0 ≤ B.uses + 1; omega) (by show B.uses + 1 ≤ _; omega) b0
  rw [show (B.later 1).rawF (2 * cc + 1) = p1 from b1] at run4
  refine w_getRun (q := u) (a := 2 * cc) (b := 2 * cc + 1) (rest := [sC t (2 * cc) (2 * cc + 1) p2 3 false, sC s (2 * cc) (2 * cc + 1) p1 3 true, gC g (2 * cc) (2 * cc + 1) 0 3 false]) hC ok (perm_by fun c d c0 cd ca => by simp only [cd, ca, c0]; omega) run4 (by decide) fun hD ok => ?_
  refine wp_false rfl ?_
  refine w_Uses hD ?_
  refine wp_false (ibnf (by show B.uses + 1 + 2 = 7; omega)) ?_
  refine w_Value (x := ⟨2 * cc, 2 * cc + 1, p1, 3, true⟩) hD ok List.mem_cons_self ?_
  refine w_Went (x := ⟨2 * cc, 2 * cc + 1, p1, 3, true⟩) hD ok (List.mem_cons_of_mem _ (List.mem_cons_of_mem _ List.mem_cons_self)) ?_
  refine wp_true rfl ?_
  refine w_Went (x := ⟨2 * cc, 2 * cc + 1, p2, 3, false⟩) hD ok (List.mem_cons_of_mem _ List.mem_cons_self) ?_
  refine wp_true rfl (wp_true rfl (wp_true (ibeq rfl) ?_))
  refine wq_FWord ?_
  rw [f0]
  refine w_Raw hD fun hE => ?_
  refine wp_true (ibeq b0) ?_
  refine wq_FWord ?_
  rw [f1]
  refine w_Raw hE fun hF => ?_
  refine wp_true (ibeq (by rw [touch_yes2 (A := (B.later 1).later 2) oaB (by show 0 ≤ B.uses + 1 + 2; omega) (by show B.uses + 1 + 2 ≤ _; omega)]; exact b1)) ?_
  refine wp_call_det (x := true) (awake19_det _) ?_
  exact ⟨H, own_end hF ok hI, rfl, rfl⟩

set_option maxHeartbeats 1000000 in
theorem FutureMany_det (p0 p1 : Int) (s : Sl) (zs : List Int) (H : Heap) (hz : RowOf H s.a s.len zs) : Det Try.prog f_magpielaw19_FutureMany [.int .i64 p0, .int .i64 p1, .slice s.a s.len s.cap] H (.bool true) H := by
  refine t_magpielaw19_FutureMany_spec (p0 := p0) (p1 := p1) (p2 := s) fun L => ?_
  unfold t_magpielaw19_FutureMany
  refine w_Place (by omega) (by omega) (w_Place (by omega) (by omega) ?_)
  have a0 := Int.emod_nonneg p0 (b := 16) (by omega)
  have a1 := Int.emod_lt_of_pos p0 (b := 16) (by omega)
  have c0 := Int.emod_nonneg p1 (b := 50) (by omega)
  have c1 := Int.emod_lt_of_pos p1 (b := 50) (by omega)
  generalize p0 % 16 = a at *
  generalize p1 % 50 = k at *
  have e1 : w64 (1 + a) = 1 + a := w64_in (by omega) (by omega)
  obtain ⟨n, en⟩ : ∃ n, n = 1 + a := ⟨_, rfl⟩
  rw [e1, ← en]
  refine wq_FRaw ⟨by omega, by omega⟩ ?_
  have e2 : w64 (k + 2 * n) = k + 2 * n := w64_in (by omega) (by omega)
  have e3 : w64 (2 * n) = 2 * n := w64_in (by omega) (by omega)
  have e4 : w64 (n - 1) = n - 1 := w64_in (by omega) (by omega)
  have e5 : w64 (k + 2 * n - 1) = k + 2 * n - 1 := w64_in (by omega) (by omega)
  have ok0 : Ok0 H (keys []) := ⟨.nil, fun b h => (by cases h)⟩
  rw [e2]
  refine w_New (l := []) (n := k + 2 * n) (m := 0) (f := false) ok0 ⟨by omega, by omega⟩ (by decide) fun A hm hA hI ok => ?_
  refine look_val (x := false) (eqAr _) (wp_false rfl ?_)
  refine wq_FRaw ⟨by omega, by omega⟩ ?_
  rw [e3, e4]
  refine wp_false (ibnf rfl) ?_
  refine wq_FWord ?_
  rw [e2, e5, fw_eq ⟨by omega, by omega, by omega, by omega, by omega, by omega⟩]
  refine wp_false (ibnf (by omega)) ?_
  obtain ⟨r0, rl0⟩ := made0 hm
  have rl0 : (A.raw.length : Int) = k + 2 * n := by rw [rl0]; omega
  have u0 := hm.uses
  refine w_newP (c := arrC 16 fun _ => .bool false) hA ok fun x10 ok => ?_
  refine w_newP (c := arrC 16 fun _ => .int .i64 0) hA ok fun x11 ok => ?_
  refine wl_bi (fun _ i K => 0 ≤ i ∧ i ≤ 60 ∧ ∃ (B : Ar) (was : Nat → Bool) (is : Nat → Int) (tl : Bl), Aw A.ids B ∧ (B.raw.length : Int) = k + 2 * n ∧ B.fault = false ∧ 0 ≤ B.uses ∧ B.uses ≤ 10 * i ∧ (∀ f : Nat, (f : Int) < n → B.rawF (k + 2 * f) = (if was f then 2 else 0) ∧ (was f = true → B.rawF (k + 2 * f + 1) = is f) ∧ (was f = false → is f = 0)) ∧
      Ok A.ids H (keys ((x11, oc ty_a16_int (arrC 16 fun j => .int .i64 (is j))) :: (x10, oc ty_a16_bool (arrC 16 fun j => .bool (was j))) :: tl)) ∧ K = own B ((x11, oc ty_a16_int (arrC 16 fun j => .int .i64 (is j))) :: (x10, oc ty_a16_bool (arrC 16 fun j => .bool (was j))) :: tl) H) (fun _ i => (60 - i).toNat) false 0
    ⟨by omega, by omega, A, fun _ => false, fun _ => 0, [], hA, rl0, hm.fault, by omega, by omega, fun f hf => ⟨r0 _, ⟨fun h => (by cases h), fun _ => rfl⟩⟩, ok, rfl⟩ ?_
  rintro q i K ⟨i0, i1, B, was, is, tl, hB, rl, fa, us0, us, inv, ok, rfl⟩
  have fin : ∀ L, wp Try.prog (t_magpielaw19_FutureMany_J8 (aI A.ids)) L (own B ((x11, oc ty_a16_int (arrC 16 fun j => .int .i64 (is j))) :: (x10, oc ty_a16_bool (arrC 16 fun j => .bool (was j))) :: tl) H) (fun u K => u = .bool true ∧ K = H) := fun L => by
    unfold t_magpielaw19_FutureMany_J8
    refine w_Fault hB ?_
    refine wp_true (by rw [fa]; rfl) ?_
    refine wp_call_det (x := true) (awake19_det _) ?_
    exact ⟨H, own_end hB ok hI, rfl, rfl⟩
  rw [t_magpielaw19_FutureMany_L1, e1, ← en]
  by_cases d1 : i < ((s.len : Nat) : Int)
  case neg => exact wp_false (decide_eq_false d1) (fin _)
  refine wp_true (decide_eq_true d1) ?_
  by_cases d2 : i < 60
  case neg => exact wp_false (decide_eq_false d2) (fin _)
  refine wp_true (decide_eq_true d2) ?_
  refine wp_row hz (own_end hB ok hI) i0 d1 ?_
  refine w_Place (by omega) (by omega) ?_
  have v0 := Int.emod_nonneg (zs.getD i.toNat 0) (b := 1048576) (by omega)
  have v1 := Int.emod_lt_of_pos (zs.getD i.toNat 0) (b := 1048576) (by omega)
  generalize zs.getD i.toNat 0 % 1048576 = v at *
  have etd : w64 (Int.tdiv v 2) = v / 2 := by rw [Int.tdiv_eq_ediv_of_nonneg v0, w64_in (by omega) (by omega)]
  rw [etd]
  refine look_val (x := Int.tmod (v / 2) n) (opS_rem (by omega)) ?_
  rw [Int.tmod_eq_emod_of_nonneg (show 0 ≤ v / 2 by omega)]
  have f0 := Int.emod_nonneg (v / 2) (b := n) (by omega)
  have f1 := Int.emod_lt_of_pos (v / 2) (b := n) (by omega)
  generalize v / 2 % n = f at *
  have w0 : fw k f 0 = k + 2 * f := by rw [fw_eq ⟨by omega, by omega, by omega, by omega, by omega, by omega⟩]; omega
  have w1 : fw k f 1 = k + 2 * f + 1 := by rw [fw_eq ⟨by omega, by omega, by omega, by omega, by omega, by omega⟩]
  have nf : ∀ v, newFt k f v = ⟨k + 2 * f, k + 2 * f + 1, v, 0, false⟩ := fun v => by unfold newFt; rw [w0, w1]
  have oa : B.rawOk (k + 2 * f) := ⟨by omega, by omega⟩
  have ob : B.rawOk (k + 2 * f + 1) := ⟨by omega, by omega⟩
  obtain ⟨inv1, inv2, inv3⟩ := inv f.toNat (by omega)
  rw [show ((f.toNat : Nat) : Int) = f by omega] at inv1 inv2
  have en1 : w64 (i + 1) = i + 1 := w64_in (by omega) (by omega)
  have em : Int.tmod v 2 = v % 2 := Int.tmod_eq_emod_of_nonneg v0
  dsimp only
  rw [em, en1]
  by_cases ev : v % 2 = 0
  · refine wp_true (ibeq ev) ?_
    refine w_NewSet hB ok fun q1 ok1 => ?_
    refine look_val (x := false) (eqSt _) (wp_false rfl ?_)
    rw [nf] at ok1 ⊢
    cases hw : was f.toNat with
    | true =>
      rw [hw] at inv1
      refine w_setRun (rest := (x11, oc ty_a16_int (arrC 16 fun j => .int .i64 (is j))) :: (x10, oc ty_a16_bool (arrC 16 fun j => .bool (was j))) :: tl) hB ok1 (.refl _) (set_no oa us0 (by omega) (by rw [inv1]; decide)) (by decide) fun hC ok2 => ?_
      refine wp_false rfl ?_
      have m10 : (x10, oc ty_a16_bool (arrC 16 fun j => .bool (was j))) ∈ sC q1 (k + 2 * f) (k + 2 * f + 1) v 3 false :: (x11, oc ty_a16_int (arrC 16 fun j => .int .i64 (is j))) :: (x10, oc ty_a16_bool (arrC 16 fun j => .bool (was j))) :: tl := List.mem_cons_of_mem _ (List.mem_cons_of_mem _ List.mem_cons_self)
      refine w_arn (N := 16) (g := fun j => .bool (was j)) (x := was f.toNat) (e := ty_bool) hC ok2 m10 rfl rfl rfl f0 (by omega) rfl ?_
      refine w_Went (x := ⟨k + 2 * f, k + 2 * f + 1, v, 3, false⟩) hC ok2 List.mem_cons_self ?_
      refine ck_arn (N := 16) (g := fun j => .bool (was j)) hC ok2 m10 f0 (by omega) rfl ?_
      refine ck_aix (N := 16) (e := ty_bool) rfl rfl rfl f0 (by omega) ?_
      rw [hw]
      refine wp_false rfl ?_
      refine w_arn (N := 16) (g := fun j => .bool (was j)) (x := was f.toNat) (e := ty_bool) hC ok2 m10 rfl rfl rfl f0 (by omega) rfl ?_
      rw [hw]
      refine wp_false rfl ?_
      obtain ⟨p3, ok3⟩ := own_perm (A := B.later 1) (l' := (x11, oc ty_a16_int (arrC 16 fun j => .int .i64 (is j))) :: (x10, oc ty_a16_bool (arrC 16 fun j => .bool (was j))) :: (sC q1 (k + 2 * f) (k + 2 * f + 1) v 3 false :: tl)) ok2 (perm_by fun c d c0 cd ca => by simp only [cd, ca, c0]; omega)
      rw [p3]
      exact wp_again ⟨q, i + 1, rfl, ⟨by omega, by omega, B.later 1, was, is, _, hC, rl, fa, by show 0 ≤ B.uses + 1; omega, by show B.uses + 1 ≤ _; omega, inv, ok3, rfl⟩, by omega⟩
    | false =>
      rw [hw] at inv1
      obtain ⟨C, run, F⟩ := set_goes (A := B) (v := v) oa ob (by omega) us0 (by omega) inv1
      have fus := F.us
      have frl := F.rl
      refine w_setRun (rest := (x11, oc ty_a16_int (arrC 16 fun j => .int .i64 (is j))) :: (x10, oc ty_a16_bool (arrC 16 fun j => .bool (was j))) :: tl) hB ok1 (.refl _) run (by decide) fun hC ok2 => ?_
      refine wp_false rfl ?_
      have m10 : (x10, oc ty_a16_bool (arrC 16 fun j => .bool (was j))) ∈ sC q1 (k + 2 * f) (k + 2 * f + 1) v 3 true :: (x11, oc ty_a16_int (arrC 16 fun j => .int .i64 (is j))) :: (x10, oc ty_a16_bool (arrC 16 fun j => .bool (was j))) :: tl := List.mem_cons_of_mem _ (List.mem_cons_of_mem _ List.mem_cons_self)
      refine w_arn (N := 16) (g := fun j => .bool (was j)) (x := was f.toNat) (e := ty_bool) hC ok2 m10 rfl rfl rfl f0 (by omega) rfl ?_
      refine w_Went (x := ⟨k + 2 * f, k + 2 * f + 1, v, 3, true⟩) hC ok2 List.mem_cons_self ?_
      refine ck_arn (N := 16) (g := fun j => .bool (was j)) hC ok2 m10 f0 (by omega) rfl ?_
      refine ck_aix (N := 16) (e := ty_bool) rfl rfl rfl f0 (by omega) ?_
      rw [hw]
      refine wp_false rfl ?_
      refine w_arn (N := 16) (g := fun j => .bool (was j)) (x := was f.toNat) (e := ty_bool) hC ok2 m10 rfl rfl rfl f0 (by omega) rfl ?_
      rw [hw]
      refine wp_true rfl ?_
      refine w_arnS (N := 16) 2 (g := fun j => .bool (was j)) (e := ty_bool) hC ok2 rfl rfl rfl rfl f0 (by omega) rfl ?_
      have e10 : (arrC 16 fun j => if j = f.toNat then Value.bool true else .bool (was j)) = arrC 16 fun j => .bool (if j = f.toNat then true else was j) := by congr 1; funext j; split <;> rfl
      rw [e10]
      have ok3 : Ok A.ids H (keys (sC q1 (k + 2 * f) (k + 2 * f + 1) v 3 true :: (x11, oc ty_a16_int (arrC 16 fun j => .int .i64 (is j))) :: (x10, oc ty_a16_bool (arrC 16 fun j => .bool (if j = f.toNat then true else was j))) :: tl)) := ok2
      show wp Try.prog _ _ (own C (sC q1 (k + 2 * f) (k + 2 * f + 1) v 3 true :: (x11, oc ty_a16_int (arrC 16 fun j => .int .i64 (is j))) :: (x10, oc ty_a16_bool (arrC 16 fun j => .bool (if j = f.toNat then true else was j))) :: tl) H) _
      refine w_arnS (N := 16) 1 (g := fun j => .int .i64 (is j)) (e := ty_int) hC ok3 rfl rfl rfl rfl f0 (by omega) rfl ?_
      have e11 : (arrC 16 fun j => if j = f.toNat then Value.int .i64 v else .int .i64 (is j)) = arrC 16 fun j => .int .i64 (if j = f.toNat then v else is j) := by congr 1; funext j; split <;> rfl
      rw [e11]
      have ok4 : Ok A.ids H (keys (sC q1 (k + 2 * f) (k + 2 * f + 1) v 3 true :: (x11, oc ty_a16_int (arrC 16 fun j => .int .i64 (if j = f.toNat then v else is j))) :: (x10, oc ty_a16_bool (arrC 16 fun j => .bool (if j = f.toNat then true else was j))) :: tl)) := ok3
      show wp Try.prog _ _ (own C (sC q1 (k + 2 * f) (k + 2 * f + 1) v 3 true :: (x11, oc ty_a16_int (arrC 16 fun j => .int .i64 (if j = f.toNat then v else is j))) :: (x10, oc ty_a16_bool (arrC 16 fun j => .bool (if j = f.toNat then true else was j))) :: tl) H) _
      obtain ⟨p5, ok5⟩ := own_perm (A := C) (l' := (x11, oc ty_a16_int (arrC 16 fun j => .int .i64 (if j = f.toNat then v else is j))) :: (x10, oc ty_a16_bool (arrC 16 fun j => .bool (if j = f.toNat then true else was j))) :: (sC q1 (k + 2 * f) (k + 2 * f + 1) v 3 true :: tl)) ok4 (perm_by fun c d c0 cd ca => by simp only [cd, ca, c0]; omega)
      rw [p5]
      refine wp_again ⟨q, i + 1, rfl, ⟨by omega, by omega, C, fun j => if j = f.toNat then true else was j, fun j => if j = f.toNat then v else is j, _, hC, by rw [frl]; exact rl, F.fa.trans fa, by omega, by omega, fun g hg => ?_, ok5, rfl⟩, by omega⟩
      obtain ⟨g1, g2, g3⟩ := inv g hg
      by_cases e : g = f.toNat
      · subst e
        dsimp only
        simp only [if_pos]
        rw [F.rf, F.rf, if_pos (by omega), if_neg (by omega), if_pos (by omega)]
        exact ⟨rfl, fun _ => rfl, fun h => (by cases h)⟩
      · dsimp only
        simp only [if_neg e]
        have r1 : C.rawF (k + 2 * (g : Int)) = B.rawF (k + 2 * (g : Int)) := by
          refine (F.rf _).trans ((if_neg ?_).trans (if_neg ?_))
          · omega
          · omega
        have r2 : C.rawF (k + 2 * (g : Int) + 1) = B.rawF (k + 2 * (g : Int) + 1) := by
          refine (F.rf _).trans ((if_neg ?_).trans (if_neg ?_))
          · omega
          · omega
        rw [r1, r2]
        exact ⟨g1, g2, g3⟩
  · refine wp_false (ibef ev) ?_
    refine w_NewGet hB ok fun q1 ok1 => ?_
    refine look_val (x := false) (eqG _) (wp_false rfl ?_)
    rw [nf] at ok1 ⊢
    have key : ∀ {nn : Nat} {C : Ar} {u : Int} {o : Bool}, mGt.Runs nn ⟨k + 2 * f, k + 2 * f + 1, 0, 0, false⟩ B ⟨k + 2 * f, k + 2 * f + 1, u, 3, o⟩ C → nn ≤ 10 → o = was f.toNat → u = is f.toNat → (∃ d, 0 ≤ d ∧ d ≤ 2 ∧ C = B.later d) → wp Try.prog (.call f_magpielaw19_run [(.pointer (aI A.ids)), (.iface ty_p_future_Get (.pointer (some ⟨q1, 0, none⟩)))] (.one (.leaf .bool)) fun x113 =>
          bif (!x113) then (
            .ret (.bool false))
          else (
            .call f_future_Get_Value [(.pointer (some ⟨q1, 0, none⟩))] (.tup [(.leaf (.int .i64)), (.leaf .bool)]) fun x118 =>
            .look (opS Try.prog (.indexAddr ty_a16_bool (.tmp 0) (.tmp 1)) ty_unit [(.pointer (some ⟨x10, 0, none⟩)), (.int .i64 f)]) (.one (.leaf .addr)) fun x123 =>
            .ld x123 .bool fun x124 =>
            bif (!(x118.2.1 == x124)) then (
              .ret (.bool false))
            else (
              .look (opS Try.prog (.indexAddr ty_a16_int (.tmp 0) (.tmp 1)) ty_unit [(.pointer (some ⟨x11, 0, none⟩)), (.int .i64 f)]) (.one (.leaf .addr)) fun x129 =>
              .ld x129 (.int .i64) fun x130 =>
              bif ((x118.1 : Int) != x130) then (
                .ret (.bool false))
              else (
                .again 512 [(.bool q), (.int .i64 (i + 1))])))) (L.set 512 fun vals H'' => ∃ y0 y1, vals = [Value.bool y0, Value.int .i64 y1] ∧ (0 ≤ y1 ∧ y1 ≤ 60 ∧ ∃ (B : Ar) (was : Nat → Bool) (is : Nat → Int) (tl : Bl), Aw A.ids B ∧ (B.raw.length : Int) = k + 2 * n ∧ B.fault = false ∧ 0 ≤ B.uses ∧ B.uses ≤ 10 * y1 ∧ (∀ f : Nat, (f : Int) < n → B.rawF (k + 2 * f) = (if was f then 2 else 0) ∧ (was f = true → B.rawF (k + 2 * f + 1) = is f) ∧ (was f = false → is f = 0)) ∧
      Ok A.ids H (keys ((x11, oc ty_a16_int (arrC 16 fun j => .int .i64 (is j))) :: (x10, oc ty_a16_bool (arrC 16 fun j => .bool (was j))) :: tl)) ∧ H'' = own B ((x11, oc ty_a16_int (arrC 16 fun j => .int .i64 (is j))) :: (x10, oc ty_a16_bool (arrC 16 fun j => .bool (was j))) :: tl) H) ∧ (60 - y1).toNat < (60 - i).toNat) (own B (gC q1 (k + 2 * f) (k + 2 * f + 1) 0 0 false :: (x11, oc ty_a16_int (arrC 16 fun j => .int .i64 (is j))) :: (x10, oc ty_a16_bool (arrC 16 fun j => .bool (was j))) :: tl) H) (fun u K => u = .bool true ∧ K = H) := by
      rintro m C u o run hm2 ho hu ⟨d, d0, d2, rfl⟩
      refine w_getRun (rest := (x11, oc ty_a16_int (arrC 16 fun j => .int .i64 (is j))) :: (x10, oc ty_a16_bool (arrC 16 fun j => .bool (was j))) :: tl) hB ok1 (.refl _) run hm2 fun hC ok2 => ?_
      refine wp_false rfl ?_
      refine w_Value (x := ⟨k + 2 * f, k + 2 * f + 1, u, 3, o⟩) hC ok2 List.mem_cons_self ?_
      refine w_arn (N := 16) (g := fun j => .bool (was j)) (x := was f.toNat) (e := ty_bool) hC ok2 (List.mem_cons_of_mem _ (List.mem_cons_of_mem _ List.mem_cons_self)) rfl rfl rfl f0 (by omega) rfl ?_
      refine wp_false (by show (!(o == was f.toNat)) = false; rw [ho]; simp) ?_
      refine w_arn (N := 16) (g := fun j => .int .i64 (is j)) (x := is f.toNat) (e := ty_int) hC ok2 (List.mem_cons_of_mem _ List.mem_cons_self) rfl rfl rfl f0 (by omega) rfl ?_
      refine wp_false (ibnf hu) ?_
      obtain ⟨p3, ok3⟩ := own_perm (A := B.later d) (l' := (x11, oc ty_a16_int (arrC 16 fun j => .int .i64 (is j))) :: (x10, oc ty_a16_bool (arrC 16 fun j => .bool (was j))) :: (gC q1 (k + 2 * f) (k + 2 * f + 1) u 3 o :: tl)) ok2 (perm_by fun c d c0 cd ca => by simp only [cd, ca, c0]; omega)
      rw [p3]
      exact wp_again ⟨q, i + 1, rfl, ⟨by omega, by omega, B.later d, was, is, _, hC, rl, fa, by show 0 ≤ B.uses + d; omega, by show B.uses + d ≤ _; omega, inv, ok3, rfl⟩, by omega⟩
    cases hw : was f.toNat with
    | true =>
      rw [hw] at inv1
      exact key (get_some oa ob us0 (by omega) inv1) (by decide) hw.symm (inv2 hw) ⟨2, by decide, by decide, rfl⟩
    | false =>
      rw [hw] at inv1
      exact key (get_none oa us0 (by omega) (by rw [inv1]; decide)) (by decide) hw.symm (inv3 hw).symm ⟨1, by decide, by decide, rfl⟩
end Go.Proofs.Ytjleoogieoahnaa

