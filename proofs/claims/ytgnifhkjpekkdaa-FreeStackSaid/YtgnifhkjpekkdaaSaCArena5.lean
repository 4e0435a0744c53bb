import Derived.Test.YtgnifhkjpekkdaaSaCArena4
set_option linter.unusedVariables false
set_option maxRecDepth 20000
namespace Go.Proofs.Ytgnifhkjpekkdaa
open Go Go.Fw

theorem wp_heap {t : Tree} {L : Hands} {H K : Heap} {R : Value → Heap → Prop} (e : H = K) (h : wp Try.prog t L K R) : wp Try.prog t L H R := e ▸ h

theorem wp_entryStore {V : Type} {enc : V → Value} {l : List (Int × V)} {L : Hands} {H : Heap} {R : Value → Heap → Prop} {s t u : TypeId} {x : Int} {v w : V} {k : Unit → Tree} (hs : H s = some (mapObj enc (alPut l x w)))
    (h : wp Try.prog (k ()) L (H.set s (mapObj enc (alPut l x v))) R) : wp Try.prog (.act (opS Try.prog (.entryStore t (.tmp 0) (.tmp 1) (.tmp 2)) u [.map (some s), .int .i64 (alIdx l x), enc v]) .unit k) L H R := by
  rw [← alIdx_put x w l]
  refine run_entryStore (enc := enc) (w := w) hs (by rw [alGet_put, if_pos rfl]) ⟨(), rfl, ?_⟩
  rw [alPut_put]; exact h

def Ar.setB (A : Ar) (n : Nat) (v : Bool) : Ar := { A with busy := A.busy.set n v }
def Ar.setC (A : Ar) (n : Nat) (v : Bool) : Ar := { A with carved := A.carved.set n v }
def Ar.new1 (A : Ar) (n : Nat) : Ar := if A.carved.getD n false then A else (A.addC 1).addF 1
def Ar.new2 (A : Ar) (n : Nat) : Ar := let B := (A.setB n true).setC n true; if A.fresh then B.setW n 0 else B
def Ar.bornN (A : Ar) (b : Nat) : Nat → Ar
  | 0 => A
  | i + 1 => ((A.bornN b i).new1 (b + i)).new2 (b + i)
/-- A loop with a truth and a number. -/
theorem wp_loop_bi {L : Hands} {H : Heap} {R : Value → Heap → Prop} {n : Nat} {b : Bool} {init : List Value} {body : HL Sh1.T [.leaf .bool, .leaf (.int .i64)] → Tree} (I : Int → Heap → Prop) (m : Int → Nat) (i0 : Int) (hi : I i0 H)
    (hstep : ∀ (i : Int) (b : Bool) H', I i H' → wp Try.prog (body (b, i, ())) (L.set n fun vals H'' => ∃ (c : Bool) (j : Int), vals = [.bool c, .int .i64 j] ∧ I j H'' ∧ m j < m i) H' R) (h0 : init = [.bool b, .int .i64 i0] := by rfl) :
    wp Try.prog (.loop n [.leaf .bool, .leaf (.int .i64)] init body) L H R := by
  refine wp_loop_inv (fun x K => I x.2.1 K) (fun x _ => m x.2.1) (b, i0, ()) h0 hi ?_
  rintro ⟨c, i, u⟩ K hI
  refine Go.Fw.wp_mono _ (hstep i c K hI) (fun k vals H'' hk => ?_) (fun _ _ h => h)
  unfold Hands.set at *
  split at hk
  · rename_i e; rw [if_pos e]; obtain ⟨c, j, h1, h2, h3⟩ := hk; exact ⟨(c, j, ()), h1, h2, h3⟩
  · rename_i e; rw [if_neg e]; exact hk

def Ar.withG (A : Ar) (b g : Int) : Ar := { A with gens := alPut A.gens b g }

def Ar.bornF (A : Ar) (h : Int) : Ar :=
  ((((A.bornN (opB h).toNat (sizeF (opC h)).toNat).withS (opB h) h 1).withG (opB h) (opG h)).addL (sizeF (opC h))).subF (sizeF (opC h))

def Ar.free (A : Ar) (h : Int) : Prop := ∀ i : Nat, i < (sizeF (opC h)).toNat → A.busy.getD ((opB h).toNat + i) false = false
instance (A : Ar) (h : Int) : Decidable (A.free h) := by unfold Ar.free; infer_instance
/-- Whether a slot may be born. -/
def Ar.bornOk (A : Ar) (h : Int) : Prop := openOk h = true ∧ opB h + sizeF (opC h) ≤ A.words.length ∧ (alGet A.gens (opB h)).getD 0 < opG h ∧ A.free h
instance (A : Ar) (h : Int) : Decidable (A.bornOk h) := by unfold Ar.bornOk; infer_instance

/-- The same but for what birth turns. -/
structure Ar.Like (A B : Ar) : Prop where
  al : Ar.Alike A B
  bl : B.busy.length = A.busy.length
  cl : B.carved.length = A.carved.length
  wl : B.words.length = A.words.length
  rw : B.raw = A.raw
  sl : B.slots = A.slots
  gs : B.gens = A.gens
  fr : B.fresh = A.fresh
  fa : B.fault = A.fault
  us : B.uses = A.uses

theorem Ar.Like.trans {A B C : Ar} (h : Like A B) (k : Like B C) : Like A C :=
  ⟨h.al.trans k.al, k.bl.trans h.bl, k.cl.trans h.cl, k.wl.trans h.wl, k.rw.trans h.rw, k.sl.trans h.sl, k.gs.trans h.gs, k.fr.trans h.fr, k.fa.trans h.fa, k.us.trans h.us⟩
theorem Ar.Like.refl (A : Ar) : Like A A := ⟨.refl A, rfl, rfl, rfl, rfl, rfl, rfl, rfl, rfl, rfl⟩

theorem new1_like (A : Ar) (n : Nat) : A.Like (A.new1 n) := by unfold Ar.new1; split; exact .refl A; exact ⟨⟨rfl, rfl, rfl, rfl, rfl, rfl, rfl⟩, rfl, rfl, rfl, rfl, rfl, rfl, rfl, rfl, rfl⟩
theorem new2_like (A : Ar) (n : Nat) : A.Like (A.new2 n) := by
  unfold Ar.new2
  simp only
  split
  · exact ⟨⟨rfl, rfl, rfl, rfl, rfl, rfl, rfl⟩, by simp [Ar.setB, Ar.setC, Ar.setW], by simp [Ar.setB, Ar.setC, Ar.setW], by simp [Ar.setB, Ar.setC, Ar.setW], rfl, rfl, rfl, rfl, rfl, rfl⟩
  · exact ⟨⟨rfl, rfl, rfl, rfl, rfl, rfl, rfl⟩, by simp [Ar.setB, Ar.setC], by simp [Ar.setB, Ar.setC], by simp [Ar.setB, Ar.setC], rfl, rfl, rfl, rfl, rfl, rfl⟩
theorem bornN_like (A : Ar) (b n : Nat) : A.Like (A.bornN b n) := by
  induction n with
  | zero => exact .refl A
  | succ n ih => exact (ih.trans (new1_like _ _)).trans (new2_like _ _)

theorem Ar.Like.nd {A B : Ar} (h : A.Like B) (hA : A.nd) : B.nd := h.al.nd hA

theorem set_gens {A : Ar} (hA : A.nd) (b g : Int) (H : Heap) : (A.put H).set A.g (mapObj encInt (alPut A.gens b g)) = (A.withG b g).put H :=
  Ar.set_any (B := A.withG b g) hA ⟨rfl, rfl, rfl, rfl, rfl, rfl, rfl⟩ H _ _ (.inr (.inr (.inr (.inr (.inr (.inr ⟨rfl, rfl, rfl, rfl, rfl, rfl, rfl, rfl⟩))))))

theorem born_tail {C : Ar} {L : Hands} {H : Heap} {R : Value → Heap → Prop} (hC : C.nd) {b n i len : Int} {x45 : Sl} (hb : C.busy.length = len) (hc : C.carved.length = len) (hw : C.words.length = len) (hl : len ≤ 65536)
    (h0 : 0 ≤ b) (hi : 0 ≤ i) (hlt : i < n) (hf : b + n ≤ len) (hx : x45 = ⟨some ⟨C.w, b.toNat, none⟩, n.toNat, n.toNat⟩)
    (hk : L 768 [.int .i64 (i + 1)] ((C.new2 (b.toNat + i.toNat)).put H)) :
    wp Try.prog (
      .look (opS Try.prog (.nilCheck (.tmp 0)) ty_unit [pA C]) (.one (.leaf .addr)) fun x95 =>
      .ld (x95.add 4) .slice fun x97 =>
      .look (opS Try.prog (.nilCheck (.tmp 0)) ty_unit [pA C]) (.one (.leaf .addr)) fun x102 =>
      .ld (x102.add 5) .slice fun x104 =>
      .look (opS Try.prog (.indexAddr ty_s_bool (.tmp 0) (.tmp 1)) ty_unit [(.slice x97.a x97.len x97.cap), (.int .i64 (w64 (b + i)))]) (.one (.leaf .addr)) fun x108 =>
      .st x108 (.bool true) <|
      .look (opS Try.prog (.indexAddr ty_s_bool (.tmp 0) (.tmp 1)) ty_unit [(.slice x104.a x104.len x104.cap), (.int .i64 (w64 (b + i)))]) (.one (.leaf .addr)) fun x109 =>
      .st x109 (.bool true) <|
      .look (opS Try.prog (.nilCheck (.tmp 0)) ty_unit [pA C]) (.one (.leaf .addr)) fun x111 =>
      .ld (x111.add 2) .bool fun x113 =>
      bif x113 then (
        .look (opS Try.prog (.indexAddr ty_s_int (.tmp 0) (.tmp 1)) ty_unit [(.slice x45.a x45.len x45.cap), (.int .i64 i)]) (.one (.leaf .addr)) fun x116 =>
        .st x116 (.int .i64 0) <|
        .again 768 [(.int .i64 (w64 (i + 1)))])
      else (
        .again 768 [(.int .i64 (w64 (i + 1)))])) L (C.put H) R := by
  have e1 : w64 (b + i) = b + i := w64_in (by omega) (by omega)
  have e2 : w64 (i + 1) = i + 1 := w64_in (by omega) (by omega)
  have e3 : 0 + (b + i).toNat = b.toNat + i.toNat := by omega
  rw [e1, e2, hx]
  refine wp_nil.2 (wp_fld (x := Sl.mk (some ⟨C.b, 0, none⟩) C.busy.length C.busy.length) (n := 4) (wp_nil.2 ?_))
  refine wp_fld (x := Sl.mk (some ⟨C.c, 0, none⟩) C.carved.length C.carved.length) (n := 5) ?_
  refine look_val (x := Addr.mk C.b (0 + (b + i).toNat) none) (idx_bool (by omega) (by show b + i < ((C.busy.length : Nat) : Int); omega)) ?_
  rw [e3]
  refine wp_st_of (Ar.at_b hC H) (bools_getD (by omega)) rfl ?_
  have hD : (C.setB (b.toNat + i.toNat) true).nd := hC
  refine wp_heap (set_busy (B := C.setB (b.toNat + i.toNat) true) hC ⟨rfl, rfl, rfl, rfl, rfl, rfl, rfl⟩ true (b.toNat + i.toNat) rfl ⟨by unfold Ar.setB Ar.arrA; simp only [List.length_set], rfl, rfl, rfl, rfl, rfl⟩ H) ?_
  refine look_val (x := Addr.mk C.c (0 + (b + i).toNat) none) (idx_bool (by omega) (by show b + i < ((C.carved.length : Nat) : Int); omega)) ?_
  rw [e3]
  refine wp_st_of (Ar.at_c hD H) (bools_getD (by show _ < C.carved.length; omega)) rfl ?_
  have hE : ((C.setB (b.toNat + i.toNat) true).setC (b.toNat + i.toNat) true).nd := hC
  refine wp_heap (set_carved (B := (C.setB (b.toNat + i.toNat) true).setC (b.toNat + i.toNat) true) hD ⟨rfl, rfl, rfl, rfl, rfl, rfl, rfl⟩ true (b.toNat + i.toNat) rfl ⟨by unfold Ar.setC Ar.arrA; simp only [List.length_set], rfl, rfl, rfl, rfl, rfl⟩ H) ?_
  unfold Ar.new2 at hk
  simp only at hk
  refine wp_nil.2 (wp_fld (A := (C.setB (b.toNat + i.toNat) true).setC (b.toNat + i.toNat) true) (x := C.fresh) (n := 2) ?_)
  cases hf : C.fresh with
  | true =>
    rw [hf, if_pos rfl] at hk
    refine wp_true rfl ?_
    refine look_val (x := Addr.mk C.w (b.toNat + i.toNat) none) (idx_int hi (by show i < ((n.toNat : Nat) : Int); omega)) ?_
    refine wp_st_of (Ar.at_w hE H) (ints_getD (by show _ < C.words.length; omega)) rfl ?_
    exact wp_heap (set_words hE _ _ _) hk
  | false =>
    rw [hf, if_neg (by decide)] at hk
    exact wp_false rfl hk

theorem Born_det {A : Ar} (hA : A.wf) (h : Int) (H : Heap) : Det Try.prog f_arena_Arena_Born [pA A, .int .i64 h] (A.put H) (.bool (decide (A.bornOk h))) ((if A.bornOk h then A.bornF h else A).put H) := by
  have hw := hA.words
  have ho := opB_nat h
  have hs := size_opC h
  refine t_arena_Arena_Born_spec fun L => ?_
  unfold t_arena_Arena_Born
  refine wp_qcall_det (Open_all _ _) ?_
  cases hk : openOk h with
  | false =>
    refine wp_true rfl (wp_ret_of ⟨?_, ?_⟩)
    · rw [decide_eq_false (fun e => by rw [e.1] at hk; cases hk)]
    · rw [if_neg (fun e => by rw [e.1] at hk; cases hk)]
  | true =>
  refine wp_false rfl (wp_nil.2 ?_)
  refine wp_fld (x := Sl.mk (some ⟨A.w, 0, none⟩) A.words.length A.words.length) (n := 1) ?_
  refine wp_qcall_det (Size_det _ _) ?_
  have e1 : w64 (((A.words.length : Nat) : Int) - sizeF (opC h)) = ((A.words.length : Nat) : Int) - sizeF (opC h) := w64_in (by omega) (by omega)
  by_cases h1 : opB h + sizeF (opC h) ≤ A.words.length
  case neg =>
    refine wp_true (decide_eq_true (by show opB h > w64 (((A.words.length : Nat) : Int) - sizeF (opC h)); omega)) (wp_ret_of ⟨?_, ?_⟩)
    · rw [decide_eq_false (fun e => h1 e.2.1)]
    · rw [if_neg (fun e => h1 e.2.1)]
  refine wp_false (decide_eq_false (by show ¬ opB h > w64 (((A.words.length : Nat) : Int) - sizeF (opC h)); omega)) (wp_nil.2 ?_)
  refine wp_fld (x := some A.g) (n := 6) ?_
  refine wp_lookup (l := A.gens) (enc := encInt) (kt := ty_int) (et := ty_int) (z := .int .i64 0) (y := (alGet A.gens (opB h)).getD 0) (Ar.at_g hA.nd H) rfl rfl rfl rfl (by cases alGet A.gens (opB h) <;> rfl) ?_
  by_cases h2 : (alGet A.gens (opB h)).getD 0 < opG h
  case neg =>
    refine wp_true (ile (by show opG h ≤ (alGet A.gens (opB h)).getD 0; omega)) (wp_ret_of ⟨?_, ?_⟩)
    · rw [decide_eq_false (fun e => h2 e.2.2.1)]
    · rw [if_neg (fun e => h2 e.2.2.1)]
  refine wp_false (inle h2) ?_
  refine wp_call_det (x := Sl.mk (some ⟨A.w, (opB h).toNat, none⟩) (sizeF (opC h)).toNat (sizeF (opC h)).toNat) (body_det hA h1 H) ?_
  refine wp_loop_bi (fun i K => 0 ≤ i ∧ i ≤ sizeF (opC h) ∧ K = A.put H ∧ ∀ j : Nat, j < i.toNat → A.busy.getD ((opB h).toNat + j) false = false) (fun i => (sizeF (opC h) - i).toNat) 0 ⟨Int.le_refl 0, by omega, rfl, fun j hj => by omega⟩ ?_
  rintro i b K ⟨h3, h4, rfl, h5⟩
  rw [t_arena_Arena_Born_L1]
  by_cases hlt : i < sizeF (opC h)
  · refine wp_true (ilt (by show i < (((sizeF (opC h)).toNat : Nat) : Int); omega)) (wp_nil.2 ?_)
    have e2 : w64 (opB h + i) = opB h + i := w64_in (by omega) (by omega)
    have e3 : w64 (i + 1) = i + 1 := w64_in (by omega) (by omega)
    have hbl := hA.busy
    refine wp_fld (x := Sl.mk (some ⟨A.b, 0, none⟩) A.busy.length A.busy.length) (n := 4) ?_
    refine look_val (x := Addr.mk A.b (0 + (opB h + i).toNat) none) ?_ ?_
    · show opS Try.prog _ _ [_, .int .i64 (w64 (opB h + i))] = _
      rw [e2]
      exact idx_bool (by omega) (by show opB h + i < ((A.busy.length : Nat) : Int); omega)
    · have e4 : 0 + (opB h + i).toNat = (opB h).toNat + i.toNat := by omega
      rw [e4]
      refine wp_ld_of (x := A.busy.getD ((opB h).toNat + i.toNat) false) ((Heap.cell_of (Ar.at_b hA.nd H) _).trans (bools_getD (by omega))) ?_
      cases hb : A.busy.getD ((opB h).toNat + i.toNat) false with
      | true =>
        have hno : ¬ A.bornOk h := fun e => by
          have := e.2.2.2 i.toNat (by omega)
          rw [hb] at this; cases this
        refine wp_true rfl (wp_ret_of ⟨?_, ?_⟩)
        · rw [decide_eq_false hno]
        · rw [if_neg hno]
      | false =>
        refine wp_false rfl (wp_again ?_)
        refine ⟨b, i + 1, by rw [e3], ⟨by omega, by omega, rfl, fun j hj => ?_⟩, by omega⟩
        by_cases hj' : j < i.toNat
        · exact h5 j hj'
        · rw [show j = i.toNat by omega]; exact hb
  · have hx : i = sizeF (opC h) := by omega
    subst hx
    have hyes : A.bornOk h := ⟨hk, h1, h2, h5⟩
    rw [if_pos hyes, decide_eq_true hyes]
    refine wp_false (inlt (by show (((sizeF (opC h)).toNat : Nat) : Int) ≤ sizeF (opC h); omega)) ?_
    have hl0 : ∀ i, A.Like (A.bornN (opB h).toNat i) := fun i => bornN_like A _ i
    refine wp_loop_int (fun i K => 0 ≤ i ∧ i ≤ sizeF (opC h) ∧ K = (A.bornN (opB h).toNat i.toNat).put H) (fun i => (sizeF (opC h) - i).toNat) 0 ⟨Int.le_refl 0, by omega, rfl⟩ ?_
    intro i K ⟨h6, h7, hK⟩
    rw [hK]
    have hl := hl0 i.toNat
    have hbl := hA.busy
    have hcl := hA.carved
    rw [t_arena_Arena_Born_L2]
    have ea : pA A = pA (A.bornN (opB h).toNat i.toNat) := by unfold pA; rw [hl.al.a]
    have hB := hl.nd hA.nd
    have hs1 : ((A.bornN (opB h).toNat (i + 1).toNat)) = ((A.bornN (opB h).toNat i.toNat).new1 ((opB h).toNat + i.toNat)).new2 ((opB h).toNat + i.toNat) := by
      rw [show (i + 1).toNat = i.toNat + 1 by omega]; rfl
    by_cases hlt : i < sizeF (opC h)
    · refine wp_true (ilt (by show i < (((sizeF (opC h)).toNat : Nat) : Int); omega)) (wp_nil.2 ?_)
      have e2 : w64 (opB h + i) = opB h + i := w64_in (by omega) (by omega)
      have e5 : ((opB h + i).toNat) = (opB h).toNat + i.toNat := by omega
      have hk2 : ∃ j : Int, [Value.int .i64 (i + 1)] = [Value.int .i64 j] ∧ (0 ≤ j ∧ j ≤ sizeF (opC h) ∧ ((A.bornN (opB h).toNat (i + 1).toNat).put H) = (A.bornN (opB h).toNat j.toNat).put H) ∧ (sizeF (opC h) - j).toNat < (sizeF (opC h) - i).toNat :=
        ⟨i + 1, rfl, ⟨by omega, by omega, rfl⟩, by omega⟩
      rw [hs1] at hk2
      have ea2 : A.a = (A.bornN (opB h).toNat i.toNat).a := hl.al.a.symm
      have ew2 : A.w = (A.bornN (opB h).toNat i.toNat).w := hl.al.w.symm
      rw [ea2, ew2]
      have hbl1 := hl.bl
      have hcl1 := hl.cl
      have hwl1 := hl.wl
      generalize A.bornN (opB h).toNat i.toNat = B at *
      refine wp_fld (A := B) (x := Sl.mk (some ⟨B.c, 0, none⟩) B.carved.length B.carved.length) (n := 5) ?_
      refine look_val (x := Addr.mk B.c (0 + (opB h + i).toNat) none) ?_ ?_
      · show opS Try.prog _ _ [_, .int .i64 (w64 (opB h + i))] = _
        rw [e2]
        exact idx_bool (by omega) (by show opB h + i < ((B.carved.length : Nat) : Int); omega)
      · rw [Nat.zero_add, e5]
        refine wp_ld_of (x := B.carved.getD ((opB h).toNat + i.toNat) false) ((Heap.cell_of (Ar.at_c hB H) _).trans (bools_getD (by omega))) ?_
        cases hb : B.carved.getD ((opB h).toNat + i.toNat) false with
        | true =>
          have en : B.new1 ((opB h).toNat + i.toNat) = B := by unfold Ar.new1; rw [hb, if_pos rfl]
          rw [en] at hk2
          refine wp_false rfl ?_
          refine born_tail (C := B) (len := A.words.length) (b := opB h) (n := sizeF (opC h)) (i := i) hB (by omega) (by omega) (by omega) (by omega) (by omega) h6 hlt (by omega) rfl ?_
          show (L.set 384 _).set 768 _ 768 _ _
          unfold Hands.set; rw [if_pos rfl]; exact hk2
        | false =>
          have en : B.new1 ((opB h).toNat + i.toNat) = (B.addC 1).addF 1 := by unfold Ar.new1; rw [hb, if_neg (by decide)]
          rw [en] at hk2
          refine wp_true rfl (wp_nil.2 ?_)
          refine wp_fld (A := B) (x := B.nC) (n := 7) (wp_nil.2 ?_)
          refine wp_setf (B.addC 1) (n := 7) (u := .int .i64 B.nC) hB (wp_nil.2 ?_)
          refine wp_fld (A := B.addC 1) (x := B.nF) (n := 10) (wp_nil.2 ?_)
          refine wp_setf (A := B.addC 1) ((B.addC 1).addF 1) (n := 10) (u := .int .i64 B.nF) hB ?_
          refine born_tail (C := (B.addC 1).addF 1) (len := A.words.length) (b := opB h) (n := sizeF (opC h)) (i := i) hB (by show ((B.busy.length : Nat) : Int) = _; omega) (by show ((B.carved.length : Nat) : Int) = _; omega) (by show ((B.words.length : Nat) : Int) = _; omega) (by omega) (by omega) h6 hlt (by omega) rfl ?_
          show (L.set 384 _).set 768 _ 768 _ _
          unfold Hands.set; rw [if_pos rfl]; exact hk2
    · have hx : i = sizeF (opC h) := by omega
      subst hx
      refine wp_false (inlt (by show (((sizeF (opC h)).toNat : Nat) : Int) ≤ sizeF (opC h); omega)) (wp_nil.2 ?_)
      unfold Ar.bornF
      have ea2 : A.a = (A.bornN (opB h).toNat (sizeF (opC h)).toNat).a := hl.al.a.symm
      rw [ea2]
      generalize A.bornN (opB h).toNat (sizeF (opC h)).toNat = B at *
      have ez : (((sizeF (opC h)).toNat : Nat) : Int) = sizeF (opC h) := by omega
      rw [ez]
      refine wp_fld (A := B) (x := some B.s) (n := 3) (wp_nil.2 ?_)
      refine wp_fld (A := B) (x := some B.g) (n := 6) ?_
      refine run_mapEntry (enc := encSlot) (z := ((0, 0) : Int × Int)) (kt := ty_int) (et := ty_arena_slot) (Ar.at_s hB H) rfl rfl rfl rfl ?_
      refine ⟨((((alGet B.slots (opB h)).getD (0, 0)).1, ((alGet B.slots (opB h)).getD (0, 0)).2, ()), (alIdx B.slots (opB h) : Int), ()), rfl, ?_⟩
      refine wp_entryStore (enc := encSlot) (v := ((h, 1) : Int × Int)) (Heap.set_same _ _ _) ?_
      rw [Heap.set_set]
      refine wp_heap (set_slots hB _ _ _ _) ?_
      refine run_mapEntry (enc := encInt) (z := (0 : Int)) (l := B.gens) (kt := ty_int) (et := ty_int) (Ar.at_g (A := B.withS (opB h) h 1) hB H) rfl rfl rfl rfl ?_
      refine ⟨(((alGet B.gens (opB h)).getD 0), (alIdx B.gens (opB h) : Int), ()), rfl, ?_⟩
      refine wp_entryStore (enc := encInt) (l := B.gens) (v := opG h) (Heap.set_same _ _ _) ?_
      rw [Heap.set_set]
      refine wp_heap (set_gens (A := B.withS (opB h) h 1) hB _ _ _) (wp_nil.2 ?_)
      refine wp_fld (A := (B.withS (opB h) h 1).withG (opB h) (opG h)) (x := B.nL) (n := 8) (wp_nil.2 ?_)
      refine wp_setf (A := (B.withS (opB h) h 1).withG (opB h) (opG h)) (((B.withS (opB h) h 1).withG (opB h) (opG h)).addL (sizeF (opC h))) (n := 8) (u := .int .i64 B.nL) hB (wp_nil.2 ?_)
      refine wp_fld (A := ((B.withS (opB h) h 1).withG (opB h) (opG h)).addL (sizeF (opC h))) (x := B.nF) (n := 10) (wp_nil.2 ?_)
      exact wp_setf (A := ((B.withS (opB h) h 1).withG (opB h) (opG h)).addL (sizeF (opC h))) ((((B.withS (opB h) h 1).withG (opB h) (opG h)).addL (sizeF (opC h))).subF (sizeF (opC h))) (n := 10) (u := .int .i64 B.nF) hB (wp_ret_of ⟨rfl, rfl⟩)
end Go.Proofs.Ytgnifhkjpekkdaa
