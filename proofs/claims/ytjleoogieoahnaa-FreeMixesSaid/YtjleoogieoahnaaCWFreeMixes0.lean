/- Texts of this claim, one behind the other. -/
import Derived.Test.YtjleoogieoahnaaB2
set_option linter.unusedSimpArgs false
set_option linter.unusedVariables false
set_option linter.unusedVariables false
namespace Go.Proofs.Ytjleoogieoahnaa
open Go Go.Fw

/-! ### Blocks of so many -/

def updF {α : Type} (f : Nat → α) (w : Nat) (a : α) : Nat → α := fun j => if j = w then a else f j
theorem updF_same {α : Type} (f : Nat → α) (w : Nat) (a : α) : updF f w a w = a := if_pos rfl
theorem updF_ne {α : Type} (f : Nat → α) {w j : Nat} (a : α) (h : j ≠ w) : updF f w a j = f j := if_neg h
theorem arrC_updF {α : Type} {n : Nat} {g : α → Value} {f : Nat → α} {i : Nat} {a : α} : (arrC n fun j => if j = i then g a else g (f j)) = arrC n fun j => g (updF f i a j) := by
  congr 1
  funext j
  unfold updF
  split <;> rfl
theorem arrC_keepF {α : Type} {n : Nat} {g : α → Value} {f : Nat → α} {i : Nat} {a : α} (h : g a = g (f i)) : (arrC n fun j => g (f j)) = arrC n fun j => g (updF f i a j) := by
  congr 1
  funext j
  unfold updF
  split
  · rename_i e; rw [e, h]
  · rfl

def famB {β : Type} (f : Nat → List β) : Nat → List β
  | 0 => []
  | n + 1 => famB f n ++ f n
def famR {β : Type} (f : Nat → List β) (w : Nat) : Nat → List β
  | 0 => []
  | n + 1 => famR f w n ++ (if n = w then [] else f n)
theorem famR_le {β : Type} (f : Nat → List β) (w : Nat) : ∀ n, n ≤ w → famR f w n = famB f n
  | 0, _ => rfl
  | n + 1, h => by show famR f w n ++ _ = famB f n ++ _; rw [famR_le f w n (by omega), if_neg (by omega)]
theorem famB_c {β : Type} {c : List β → Nat} (c0 : c [] = 0) (ca : ∀ a b, c (a ++ b) = c a + c b) (f : Nat → List β) {w : Nat} : ∀ {n : Nat}, w < n → c (famB f n) = c (f w) + c (famR f w n)
  | 0, h => by omega
  | n + 1, h => by
    show c (famB f n ++ f n) = _ + c (famR f w n ++ _)
    rw [ca, ca]
    by_cases e : n = w
    · rw [if_pos e, c0, ← e, famR_le f n n (Nat.le_refl _)]; omega
    · rw [if_neg e, famB_c c0 ca f (w := w) (n := n) (by omega)]; omega
theorem famR_of {β : Type} {f g : Nat → List β} {w : Nat} (h : ∀ j, j ≠ w → f j = g j) : ∀ n, famR f w n = famR g w n
  | 0 => rfl
  | n + 1 => by
    show famR f w n ++ _ = famR g w n ++ _
    rw [famR_of h n]
    by_cases e : n = w
    · rw [if_pos e, if_pos e]
    · rw [if_neg e, if_neg e, h n e]
theorem famR_upd {α β : Type} (b : α → List β) (f : Nat → α) (w : Nat) (a : α) (n : Nat) : famR (fun j => b (updF f w a j)) w n = famR (fun j => b (f j)) w n :=
  famR_of (fun j h => by rw [updF_ne f a h]) n
theorem famB_upd_c {α β : Type} {c : List β → Nat} (c0 : c [] = 0) (ca : ∀ a b, c (a ++ b) = c a + c b) (b : α → List β) (f : Nat → α) {w n : Nat} (a : α) (h : w < n) : c (famB (fun j => b (updF f w a j)) n) = c (b a) + c (famR (fun j => b (f j)) w n) := by
  rw [famB_c c0 ca _ h, famR_upd, updF_same]
theorem perm_cnt {l l' : List Int} (h : ∀ c : List Int → Nat, c [] = 0 → (∀ a b, c (a ++ b) = c a + c b) → c l = c l') : l.Perm l' := by
  refine List.perm_iff_count.2 fun a => ?_
  exact h (List.count a) rfl fun x y => List.count_append ..
theorem famB_cut {β : Type} {f : Nat → List β} {m : Nat} (h : ∀ i, m ≤ i → f i = []) : ∀ n, m ≤ n → famB f n = famB f m
  | 0, hn => by have : m = 0 := by omega
                subst this; rfl
  | n + 1, hn => by
    by_cases e : m = n + 1
    · subst e; rfl
    · show famB f n ++ f n = _
      rw [famB_cut h n (by omega), h n (by omega), List.append_nil]
theorem famB_mem {β : Type} {f : Nat → List β} {x : β} : ∀ {n : Nat}, x ∈ famB f n ↔ ∃ i, i < n ∧ x ∈ f i
  | 0 => by constructor
            · intro h; cases h
            · rintro ⟨i, h, _⟩; omega
  | n + 1 => by
    show x ∈ famB f n ++ f n ↔ _
    rw [List.mem_append, famB_mem (n := n)]
    constructor
    · rintro (⟨i, h1, h2⟩ | h1)
      · exact ⟨i, by omega, h2⟩
      · exact ⟨n, by omega, h1⟩
    · rintro ⟨i, h1, h2⟩
      by_cases e : i = n
      · subst e; exact .inr h2
      · exact .inl ⟨i, by omega, h2⟩
end Go.Proofs.Ytjleoogieoahnaa

set_option linter.unusedVariables false
set_option maxRecDepth 10000
namespace Go.Proofs.Ytjleoogieoahnaa
open Go Go.Fw
/- magpie/magpielaw10.awake -/
noncomputable def t_magpielaw10_awake : Tree :=
  .call f_free_Raw [(.int .i64 2), (.int .i64 64)] (.tup [(.agg [(.int .i64), (.int .i64), (.int .i64), (.int .i64), (.int .i64)]), (.leaf (.int .i64))]) fun x10 =>
  .newP (.cells #[(.int .i64 0), (.int .i64 0), (.int .i64 0), (.int .i64 0), (.int .i64 0)] ty_free_Place) fun x1 =>
  .stA x1 [(.int .i64 x10.1.1), (.int .i64 x10.1.2.1), (.int .i64 x10.1.2.2.1), (.int .i64 x10.1.2.2.2.1), (.int .i64 x10.1.2.2.2.2.1)] <|
  .call f_arena_New [(.int .i64 x10.2.1), (.int .i64 64), (.bool false)] (.one (.leaf .ptr)) fun x14 =>
  .ldA x1 [(.int .i64), (.int .i64), (.int .i64), (.int .i64), (.int .i64)] fun x15 =>
  .ldA x1 [(.int .i64), (.int .i64), (.int .i64), (.int .i64), (.int .i64)] fun x17 =>
  .ldA x1 [(.int .i64), (.int .i64), (.int .i64), (.int .i64), (.int .i64)] fun x19 =>
  .call f_free_NewPush [(.agg #[(.int .i64 x15.1), (.int .i64 x15.2.1), (.int .i64 x15.2.2.1), (.int .i64 x15.2.2.2.1), (.int .i64 x15.2.2.2.2.1)]), (.int .i64 0), (.int .i64 0), (.int .i64 8)] (.one (.leaf .ptr)) fun x16 =>
  .check (ldAS x1 5 0 #[]) (.agg #[(.int .i64 x19.1), (.int .i64 x19.2.1), (.int .i64 x19.2.2.1), (.int .i64 x19.2.2.2.1), (.int .i64 x19.2.2.2.2.1)]) <|
  .check (ldAS x1 5 0 #[]) (.agg #[(.int .i64 x17.1), (.int .i64 x17.2.1), (.int .i64 x17.2.2.1), (.int .i64 x17.2.2.2.1), (.int .i64 x17.2.2.2.2.1)]) <|
  .call f_free_NewPush [(.agg #[(.int .i64 x17.1), (.int .i64 x17.2.1), (.int .i64 x17.2.2.1), (.int .i64 x17.2.2.2.1), (.int .i64 x17.2.2.2.2.1)]), (.int .i64 0), (.int .i64 0), (.int .i64 16)] (.one (.leaf .ptr)) fun x18 =>
  .check (ldAS x1 5 0 #[]) (.agg #[(.int .i64 x19.1), (.int .i64 x19.2.1), (.int .i64 x19.2.2.1), (.int .i64 x19.2.2.2.1), (.int .i64 x19.2.2.2.2.1)]) <|
  .call f_free_NewPop [(.agg #[(.int .i64 x19.1), (.int .i64 x19.2.1), (.int .i64 x19.2.2.1), (.int .i64 x19.2.2.2.1), (.int .i64 x19.2.2.2.2.1)]), (.int .i64 0), (.int .i64 0)] (.one (.leaf .ptr)) fun x20 =>
  .look (opS Try.prog (.binOp .eql ty_p_arena_Arena (.tmp 0) (.const (.pointer none)) ty_p_arena_Arena) ty_bool [(.pointer x14)]) (.one (.leaf .bool)) fun x22 =>
  bif x22 then (
    .ret (.bool false))
  else (
    .look (opS Try.prog (.binOp .eql ty_p_free_Push (.tmp 0) (.const (.pointer none)) ty_p_free_Push) ty_bool [(.pointer x16)]) (.one (.leaf .bool)) fun x25 =>
    bif x25 then (
      .ret (.bool false))
    else (
      .look (opS Try.prog (.binOp .eql ty_p_free_Push (.tmp 0) (.const (.pointer none)) ty_p_free_Push) ty_bool [(.pointer x18)]) (.one (.leaf .bool)) fun x29 =>
      bif x29 then (
        .ret (.bool false))
      else (
        .look (opS Try.prog (.binOp .eql ty_p_free_Pop (.tmp 0) (.const (.pointer none)) ty_p_free_Pop) ty_bool [(.pointer x20)]) (.one (.leaf .bool)) fun x33 =>
        bif x33 then (
          .ret (.bool false))
        else (
          .call f_magpielaw10_run [(.pointer x14), (.iface ty_p_free_Push (.pointer x16))] (.one (.leaf .bool)) fun x39 =>
          bif (!x39) then (
            .ret (.bool false))
          else (
            .call f_magpielaw10_run [(.pointer x14), (.iface ty_p_free_Push (.pointer x18))] (.one (.leaf .bool)) fun x46 =>
            bif (!x46) then (
              .ret (.bool false))
            else (
              .ldA x1 [(.int .i64), (.int .i64), (.int .i64), (.int .i64), (.int .i64)] fun x51 =>
              .call f_free_List [(.pointer x14), (.agg #[(.int .i64 x51.1), (.int .i64 x51.2.1), (.int .i64 x51.2.2.1), (.int .i64 x51.2.2.2.1), (.int .i64 x51.2.2.2.2.1)]), (.int .i64 0), (.int .i64 0)] (.one (.leaf .slice)) fun x52 =>
              bif ((((x52.len : Nat) : Int) : Int) != 2) then (
                .ret (.bool false))
              else (
                .call f_magpielaw10_run [(.pointer x14), (.iface ty_p_free_Pop (.pointer x20))] (.one (.leaf .bool)) fun x60 =>
                bif (!x60) then (
                  .ret (.bool false))
                else (
                  .call f_free_Pop_Base [(.pointer x20)] (.tup [(.leaf (.int .i64)), (.leaf .bool)]) fun x65 =>
                  bif x65.2.1 then (
                    bif ((x65.1 : Int) == 16) then (
                      bif ((x10.2.1 : Int) == 25) then (
                        .call f_arena_Arena_Fault [(.pointer x14)] (.one (.leaf .bool)) fun x79 =>
                        .ret (.bool (!x79)))
                      else (
                        .ret (.bool false)))
                    else (
                      .ret (.bool false)))
                  else (
                    .ret (.bool false))))))))))
theorem t_magpielaw10_awake_eq : funcTree Try.prog { quiet := [10, 23, 25, 26, 30, 37, 42, 45, 47, 54, 73], quietTmp := true, fncs := [], ifcs := [] } Try.f19 [] = t_magpielaw10_awake  := by kernel_rfl
theorem t_magpielaw10_awake_spec {H : Heap} {R : Value → Heap → Prop} (h : ∀ L, wp Try.prog (t_magpielaw10_awake ) L H R) : SpecF Try.prog f_magpielaw10_awake #[] H R :=
  spec_of_tree (cfg := { quiet := [10, 23, 25, 26, 30, 37, 42, 45, 47, 54, 73], quietTmp := true, fncs := [], ifcs := [] }) Try.func19 fun L => (t_magpielaw10_awake_eq ).symm ▸ h L

/- magpie/magpielaw10.run -/
@[reducible] def t_magpielaw10_run_L1_sh : List Sh1 := [(.leaf .bool), (.leaf (.int .i64))]
noncomputable def t_magpielaw10_run_L1 (p0 : Option Addr) (p1 : Value) (y1 : HL Sh1.T t_magpielaw10_run_L1_sh) : Tree :=
  bif (decide ((y1.2.1 : Int) < 100)) then (
    .call f_arena_Arena_Uses [(.pointer p0)] (.one (.leaf (.int .i64))) fun x13 =>
    .act (opS Try.prog (.call { callee := .invoke (.tmp 0) "Step", args := #[(.tmp 1)], argTypes := #[ty_p_arena_Arena] }) ty_bool [p1, (.pointer p0)]) (.one (.leaf .bool)) fun x16 =>
    .call f_arena_Arena_Uses [(.pointer p0)] (.one (.leaf (.int .i64))) fun x18 =>
    bif (decide ((x18 : Int) > (w64 (x13 + 1)))) then (
      .ret (.bool false))
    else (
      bif x16 then (
        .ret (.bool true))
      else (
        .again 128 [(.bool y1.1), (.int .i64 (w64 (y1.2.1 + 1)))])))
  else (
    .ret (.bool false))
noncomputable def t_magpielaw10_run (p0 : Option Addr) (p1 : Value) : Tree :=
  .loop 128 t_magpielaw10_run_L1_sh [(.bool false), (.int .i64 0)] (t_magpielaw10_run_L1 p0 p1)
theorem t_magpielaw10_run_eq (p0 : Option Addr) (p1 : Value) : funcTree Try.prog { quiet := [10, 23, 25, 26, 30, 37, 42, 45, 47, 54, 73], quietTmp := true, fncs := [], ifcs := [] } Try.f43 [(.pointer p0), p1] = t_magpielaw10_run p0 p1 := by kernel_rfl
theorem t_magpielaw10_run_spec {p0 : Option Addr} {p1 : Value} {H : Heap} {R : Value → Heap → Prop} (h : ∀ L, wp Try.prog (t_magpielaw10_run p0 p1) L H R) : SpecF Try.prog f_magpielaw10_run #[(.pointer p0), p1] H R :=
  spec_of_tree (cfg := { quiet := [10, 23, 25, 26, 30, 37, 42, 45, 47, 54, 73], quietTmp := true, fncs := [], ifcs := [] }) Try.func43 fun L => (t_magpielaw10_run_eq p0 p1).symm ▸ h L

end Go.Proofs.Ytjleoogieoahnaa

set_option linter.unusedVariables false
set_option maxRecDepth 20000
namespace Go.Proofs.Ytjleoogieoahnaa
open Go Go.Fw

theorem run_go {f : FuncId} {t : TypeId} {q : Nat} (hinv : ∀ p, opS Try.prog (.call { callee := .invoke (.tmp 0) "Step", args := #[(.tmp 1)], argTypes := #[ty_p_arena_Arena] }) ty_bool [(.iface t (.pointer (some ⟨q, 0, none⟩))), (.pointer p)] =
    .pure (.enter f [.pointer (some ⟨q, 0, none⟩), .pointer p].toArray)) {n : Nat} {A B : Ar} {G K : Heap} (h : Runs f q n A G B K) {L : Hands} {R : Value → Heap → Prop} (hR : R (.bool true) (B.put K)) :
    ∀ {i : Int} {b : Bool} {p : Option Addr}, .pointer p = pA A → 0 ≤ i → i + n ≤ 100 → wp Try.prog (.loop 128 t_magpielaw10_run_L1_sh [(.bool b), (.int .i64 i)] (t_magpielaw10_run_L1 p (.iface t (.pointer (some ⟨q, 0, none⟩))))) L (A.put G) R := by
  induction h with
  | @one A G B K hs =>
    intro i b p hp h0 h1
    refine wp_loop_unroll (b, i, ()) rfl ?_
    rw [t_magpielaw10_run_L1]
    refine wp_true (ilt (by show i < 100; omega)) ?_
    refine wp_call_det (Uses_at hp rfl _) ?_
    refine act_enter (hinv _) ?_
    refine wp_call_det (x := true) (by rw [hp]; exact hs.det) ?_
    refine wp_call_det (Uses_at (A := B) (hp.trans (pA_alike hs.al).symm) rfl _) ?_
    refine wp_false (inlt hs.us) ?_
    exact wp_true rfl (wp_ret_of hR)
  | @more n A G B K C M hs hr ih =>
    intro i b p hp h0 h1
    refine wp_loop_unroll (b, i, ()) rfl ?_
    rw [t_magpielaw10_run_L1]
    refine wp_true (ilt (by show i < 100; omega)) ?_
    refine wp_call_det (Uses_at hp rfl _) ?_
    refine act_enter (hinv _) ?_
    refine wp_call_det (x := false) (by rw [hp]; exact hs.det) ?_
    refine wp_call_det (Uses_at (A := B) (hp.trans (pA_alike hs.al).symm) rfl _) ?_
    refine wp_false (inlt hs.us) (wp_false rfl (wp_again ?_))
    have e : w64 (i + 1) = i + 1 := w64_in (by omega) (by omega)
    rw [e]
    exact ih hR (hp.trans (pA_alike hs.al).symm) (by omega) (by omega)

theorem run_det {f : FuncId} {t : TypeId} {q : Nat} (hinv : ∀ p, opS Try.prog (.call { callee := .invoke (.tmp 0) "Step", args := #[(.tmp 1)], argTypes := #[ty_p_arena_Arena] }) ty_bool [(.iface t (.pointer (some ⟨q, 0, none⟩))), (.pointer p)] =
    .pure (.enter f [.pointer (some ⟨q, 0, none⟩), .pointer p].toArray)) {n : Nat} {A B : Ar} {G K : Heap} (h : Runs f q n A G B K) (hn : n ≤ 100) {p : Option Addr} (hp : .pointer p = pA A) :
    Det Try.prog f_magpielaw10_run [.pointer p, .iface t (.pointer (some ⟨q, 0, none⟩))] (A.put G) (.bool true) (B.put K) := by
  refine t_magpielaw10_run_spec (p1 := (.iface t (.pointer (some ⟨q, 0, none⟩)))) fun L => ?_
  unfold t_magpielaw10_run
  exact run_go hinv h ⟨rfl, rfl⟩ hp (Int.le_refl 0) (by omega)

end Go.Proofs.Ytjleoogieoahnaa

set_option linter.unusedVariables false
set_option maxRecDepth 20000
namespace Go.Proofs.Ytjleoogieoahnaa
open Go Go.Fw

/-- The raw words' part of an arena at rest. -/
def raw0 (a r w s b c g : Nat) : Ar := ⟨a, r, w, s, b, c, g, List.replicate 25 0, List.replicate 64 0, false, [], List.replicate 64 false, List.replicate 64 false, [], 0, 0, 0, 0, false, 0⟩
def raw1 (a r w s b c g : Nat) : Ar := (raw0 a r w s b c g).pushed 0 9 8
def raw2 (a r w s b c g : Nat) : Ar := (raw1 a r w s b c g).pushed 0 10 16
def raw3 (a r w s b c g : Nat) : Ar := (raw2 a r w s b c g).later 3
theorem rz0 (a r w s b c g : Nat) : iand ((raw2 a r w s b c g).rawF 0) 131071 = 3 := by kernel_rfl
theorem rz1 (a r w s b c g : Nat) : (raw2 a r w s b c g).rawF (8 + 3 - 1) = 2 := by kernel_rfl
theorem rz2 (a r w s b c g : Nat) : (raw2 a r w s b c g).rawF (8 + 2 - 1) = 0 := by kernel_rfl

theorem awake10_det (H : Heap) : Det Try.prog f_magpielaw10_awake [] H (.bool true) H := by
  refine t_magpielaw10_awake_spec fun L => ?_
  unfold t_magpielaw10_awake
  refine wp_call_det (x := ((2, 0, 8, 16, 24, ()), 25, ())) (Raw5_det 2 64 2 64 rfl rfl (by omega) (by omega) H) ?_
  refine wp_newP fun e he => ?_
  refine wp_stA_of (Heap.set_same _ _ _) (by exact Nat.le_refl 5) (singles _ rfl) ?_
  rw [Heap.set_set]
  have c1 : putAll #[.int .i64 0, .int .i64 0, .int .i64 0, .int .i64 0, .int .i64 0] 0 [.int .i64 2, .int .i64 0, .int .i64 8, .int .i64 16, .int .i64 24] = (plOf 2 64).cells := rfl
  refine wp_heap (K := H.set e (.cells (plOf 2 64).cells ty_free_Place (0, 0))) rfl ?_
  refine wp_call_of (New_spec 25 64 false _ (by omega) (by omega)) ?_
  rintro v K ⟨A, hm, hi, rfl, rfl⟩
  refine ⟨some ⟨A.a, 0, none⟩, rfl, ?_⟩
  have hA := made_wf hm (by exact Nat.le_of_ble_eq_true rfl) (by exact Nat.le_of_ble_eq_true rfl)
  have hE : ∀ (B : Ar) G, Ar.Alike A B → (H.set e (.cells (plOf 2 64).cells ty_free_Place (0, 0))).le G → (B.put G) e = some (.cells (plOf 2 64).cells ty_free_Place (0, 0)) := fun B G hB hG => by
    rw [Ar.put_out]
    · exact hG _ _ (Heap.set_same _ _ _)
    · intro h; have := hi e (hB.ids ▸ h); rw [Heap.set_same] at this; cases this
  have hle : H.le (H.set e (.cells (plOf 2 64).cells ty_free_Place (0, 0))) := Heap.le_set_new _ he
  refine wp_pl (p := plOf 2 64) (hE A _ (.refl A) (Heap.le_refl _)) (wp_pl (p := plOf 2 64) (hE A _ (.refl A) (Heap.le_refl _)) (wp_pl (p := plOf 2 64) (hE A _ (.refl A) (Heap.le_refl _)) ?_))
  generalize H.set e (.cells (plOf 2 64).cells ty_free_Place (0, 0)) = H1 at *
  refine wp_call_of (NewPush_on (A := A) (plOf 2 64) 0 0 8) ?_
  rintro v K ⟨x0, x1, G1, X, rfl, rfl⟩
  refine ⟨some ⟨x0, 0, none⟩, rfl, ?_⟩
  refine chk_pl (p := plOf 2 64) (hE A _ (.refl A) X.le) (chk_pl (p := plOf 2 64) (hE A _ (.refl A) X.le) ?_)
  refine wp_call_of (NewPush_on (A := A) (plOf 2 64) 0 0 16) ?_
  rintro v K ⟨y0, y1, G2, Y, rfl, rfl⟩
  refine ⟨some ⟨y0, 0, none⟩, rfl, ?_⟩
  have l2 := Heap.le_trans X.le Y.le
  refine chk_pl (p := plOf 2 64) (hE A _ (.refl A) l2) ?_
  refine wp_call_of (NewPop_on (A := A) (plOf 2 64) 0 0) ?_
  rintro v K ⟨z0, z1, G3, Z, rfl, rfl⟩
  refine ⟨some ⟨z0, 0, none⟩, rfl, ?_⟩
  have l3 := Heap.le_trans l2 Z.le
  refine look_val (x := false) (np_some _) (wp_false rfl ?_)
  refine look_val (x := false) (eh_some _) (wp_false rfl ?_)
  refine look_val (x := false) (eh_some _) (wp_false rfl ?_)
  refine look_val (x := false) (eo_some _) (wp_false rfl ?_)
  have hA' : A = raw0 A.a A.r A.w A.s A.b A.c A.g := made_eq hm
  generalize A.a = a, A.r = r, A.w = w, A.s = s, A.b = b, A.c = c, A.g = g at *
  subst hA'
  -- the first push
  obtain ⟨u, u1, u2, U⟩ := push_runs (A := raw0 a r w s b c g) hA (x := ⟨plOf 2 64, headF (plOf 2 64) 0 0, 0, 0, 8⟩) (G := G3) X.i0 X.i1 X.ne (Z.le _ _ (Y.le _ _ X.g0)) (Z.le _ _ (Y.le _ _ X.g1)) rfl (lk := 9) (by kernel_rfl)
    (by show (0 : Int) ≤ 0 ∧ (0 : Int) < 25; omega) (by show (0 : Int) ≤ 9 ∧ (9 : Int) < 25; omega) (by show (0 : Int) ≠ 9; omega) (by show (0 : Int) ≤ 0 ∧ (0 : Int) ≤ 1000000000; omega)
  refine wp_call_det (x := true) (run_det (t := ty_p_free_Push) (inv_Push x0) U (by omega) rfl) (wp_false rfl ?_)
  have xn1 : H1 x1 = none := X.n1
  have yn1 : H1 y1 = none := le_none X.le Y.n1
  have zn1 : H1 z1 = none := le_none l2 Z.n1
  have l4 := le_set_none l3 u.obj xn1
  have al1 : Ar.Alike (raw0 a r w s b c g) (raw1 a r w s b c g) := pushed_alike _ _ _ _
  have w1 : (raw1 a r w s b c g).wf := pushed_wf hA _ _ _
  -- the second push
  obtain ⟨v, v1, v2, V⟩ := push_runs (A := raw1 a r w s b c g) w1 (x := ⟨plOf 2 64, headF (plOf 2 64) 0 0, 0, 0, 16⟩) (G := G3.set x1 u.obj) Y.i0 Y.i1 Y.ne
    (by rw [Heap.set_ne _ _ (Ne.symm (ne_of X.g1 Y.n0))]; exact Z.le _ _ Y.g0) (by rw [Heap.set_ne _ _ (Ne.symm (ne_of X.g1 Y.n1))]; exact Z.le _ _ Y.g1) rfl (lk := 10) (by kernel_rfl)
    (by show (0 : Int) ≤ 0 ∧ (0 : Int) < 25; omega) (by show (0 : Int) ≤ 10 ∧ (10 : Int) < 25; omega) (by show (0 : Int) ≠ 10; omega) (by show (0 : Int) ≤ 0 + 3 ∧ (0 + 3 : Int) ≤ 1000000000; omega)
  refine wp_call_det (x := true) (run_det (t := ty_p_free_Push) (inv_Push y0) V (by omega) rfl) (wp_false rfl ?_)
  have l5 := le_set_none l4 v.obj yn1
  have al2 : Ar.Alike (raw0 a r w s b c g) (raw2 a r w s b c g) := al1.trans (pushed_alike _ _ _ _)
  have w2 : (raw2 a r w s b c g).wf := pushed_wf w1 _ _ _
  refine wp_pl (p := plOf 2 64) (hE (raw2 a r w s b c g) _ al2 l5) ?_
  have hc : chain (raw2 a r w s b c g) 8 (iand ((raw2 a r w s b c g).rawF 0) 131071) [16, 8] := by
    rw [rz0]
    refine ⟨by omega, by omega, by omega, ⟨by omega, by show (8 + 3 - 1 : Int) < 25; omega⟩, ?_⟩
    rw [rz1]
    refine ⟨by omega, by omega, by omega, ⟨by omega, by show (8 + 2 - 1 : Int) < 25; omega⟩, ?_⟩
    exact rz2 a r w s b c g
  refine wp_call_of (List_spec (A := raw2 a r w s b c g) w2 (plOf 2 64) 0 0 (hd := 0) (by kernel_rfl) (by show (0 : Int) ≤ 0 ∧ (0 : Int) < 25; omega) hc (by show 2 < 10000; omega)
    (by show (-1000000 : Int) ≤ 8 ∧ (8 : Int) ≤ 1000000; omega) (by show (0 : Int) ≤ 0 + 3 + 3 ∧ (0 + 3 + 3 : Int) ≤ 1000000000; omega) rfl _) ?_
  rintro q K ⟨t, G6, rfl, rfl, l6, ht, hb⟩
  refine ⟨t, rfl, ?_⟩
  have tl : t.len = 2 := ht.len
  refine wp_false (by rw [tl]; rfl) ?_
  have l7 := Heap.le_trans l5 l6
  have w3 : (raw3 a r w s b c g).wf := later_wf w2 _
  have hz0 : G6 z0 = some (popObj z1) := l6 _ _ (by rw [Heap.set_ne _ _ (Ne.symm (ne_of (Y.g1) Z.n0)), Heap.set_ne _ _ (Ne.symm (ne_of (Y.le _ _ X.g1) Z.n0))]; exact Z.g0)
  have hz1 : G6 z1 = some (Po.obj ⟨plOf 2 64, headF (plOf 2 64) 0 0, 0, 0, 0, 0, false⟩) := l6 _ _ (by rw [Heap.set_ne _ _ (Ne.symm (ne_of (Y.g1) Z.n1)), Heap.set_ne _ _ (Ne.symm (ne_of (Y.le _ _ X.g1) Z.n1))]; exact Z.g1)
  obtain ⟨p, p1, p2, p3, P⟩ := pop_some (A := raw3 a r w s b c g) w3 (x := ⟨plOf 2 64, headF (plOf 2 64) 0 0, 0, 0, 0, 0, false⟩) (G := G6) Z.i0 Z.i1 Z.ne hz0 hz1 rfl (f := 3) (lk := 10)
    (by show (0 : Int) ≤ 0 ∧ (0 : Int) < 25; omega) (rz0 a r w s b c g) (by omega) (by kernel_rfl) (by show (0 : Int) ≤ 10 ∧ (10 : Int) < 25; omega) (by show (0 : Int) ≤ 0 + 3 + 3 + 3 ∧ (0 + 3 + 3 + 3 : Int) ≤ 1000000000; omega)
  refine wp_call_det (x := true) (run_det (t := ty_p_free_Pop) (inv_Pop z0) P (by omega) rfl) (wp_false rfl ?_)
  have hp1 : (G6.set z1 p.obj) z1 = some p.obj := Heap.set_same _ _ _
  have hp0 : (G6.set z1 p.obj) z0 = some (popObj z1) := by rw [Heap.set_ne _ _ Z.ne]; exact hz0
  refine wp_call_det (x := (16, true, ())) (by
    have := Base_det (A := (raw3 a r w s b c g).popped (headF (plOf 2 64) 0 0) 10) p Z.i0 Z.i1 hp0 hp1
    rw [p2, p3] at this; exact this) ?_
  refine wp_true rfl (wp_true rfl (wp_true rfl ?_))
  refine wp_call_det (x := false) (Fault_at (A := (raw3 a r w s b c g).popped (headF (plOf 2 64) 0 0) 10) rfl rfl _) ?_
  exact ⟨H, Heap.le_trans hle (Heap.le_trans (put_new (A := (raw3 a r w s b c g).popped (headF (plOf 2 64) 0 0) 10) hi) (Ar.put_le (le_set_none l7 _ zn1))), rfl, rfl⟩
end Go.Proofs.Ytjleoogieoahnaa

set_option linter.unusedVariables false
set_option maxRecDepth 10000
namespace Go.Proofs.Ytjleoogieoahnaa
open Go Go.Fw
/- magpie/magpielaw10.FreeMixes -/
@[reducible] def t_magpielaw10_FreeMixes_L5_sh : List Sh1 := [(.leaf (.int .i64))]
noncomputable def t_magpielaw10_FreeMixes_L5 (x21 : Addr) (y3 : HL Sh1.T [(.leaf .bool), (.leaf (.int .i64))]) (x243 : Sl) (y5 : HL Sh1.T t_magpielaw10_FreeMixes_L5_sh) : Tree :=
  bif (decide ((y5.1 : Int) < ((x243.len : Nat) : Int))) then (
    .look (opS Try.prog (.indexAddr ty_s_int (.tmp 0) (.tmp 1)) ty_unit [(.slice x243.a x243.len x243.cap), (.int .i64 y5.1)]) (.one (.leaf .addr)) fun x247 =>
    .ld x247 (.int .i64) fun x248 =>
    .qcall f_magpielaw00_Place [(.int .i64 (w64 (Int.tdiv x248 8))), (.int .i64 32)] (.one (.leaf (.int .i64))) fun x251 =>
    .look (opS Try.prog (.indexAddr ty_a32_int (.tmp 0) (.tmp 1)) ty_unit [(.pointer (some x21)), (.int .i64 x251)]) (.one (.leaf .addr)) fun x252 =>
    .ld x252 (.int .i64) fun x253 =>
    .look (opS Try.prog (.indexAddr ty_a32_int (.tmp 0) (.tmp 1)) ty_unit [(.pointer (some x21)), (.int .i64 x251)]) (.one (.leaf .addr)) fun x255 =>
    .st x255 (.int .i64 (w64 (x253 + 1))) <|
    .again 3456 [(.int .i64 (w64 (y5.1 + 1)))])
  else (
    .again 2497 [(.bool y3.1), (.int .i64 (w64 (y3.2.1 + 1)))])

noncomputable def t_magpielaw10_FreeMixes_J16 (x36 : Option Addr) (x9 : Addr) (x11 : Addr) (y3 : HL Sh1.T [(.leaf .bool), (.leaf (.int .i64))]) (y4 : HL Sh1.T [(.leaf (.int .i64))]) : Tree :=
  .look (opS Try.prog (.indexAddr ty_a6_p_free_Pop (.tmp 0) (.tmp 1)) ty_unit [(.pointer (some x11)), (.int .i64 y3.2.1)]) (.one (.leaf .addr)) fun x203 =>
  .ld x203 .ptr fun x204 =>
  .look (opS Try.prog (.binOp .neq ty_p_free_Pop (.tmp 0) (.const (.pointer none)) ty_p_free_Pop) ty_bool [(.pointer x204)]) (.one (.leaf .bool)) fun x205 =>
  bif x205 then (
    .look (opS Try.prog (.indexAddr ty_a6_p_free_Pop (.tmp 0) (.tmp 1)) ty_unit [(.pointer (some x11)), (.int .i64 y3.2.1)]) (.one (.leaf .addr)) fun x208 =>
    .ld x208 .ptr fun x209 =>
    .call f_free_Pop_Step [(.pointer x209), (.pointer x36)] (.one (.leaf .bool)) fun x211 =>
    bif x211 then (
      .look (opS Try.prog (.indexAddr ty_a6_p_free_Pop (.tmp 0) (.tmp 1)) ty_unit [(.pointer (some x11)), (.int .i64 y3.2.1)]) (.one (.leaf .addr)) fun x215 =>
      .ld x215 .ptr fun x216 =>
      .call f_free_Pop_Base [(.pointer x216)] (.tup [(.leaf (.int .i64)), (.leaf .bool)]) fun x217 =>
      bif x217.2.1 then (
        .look (opS Try.prog (.indexAddr ty_a6_s_int (.tmp 0) (.tmp 1)) ty_unit [(.pointer (some x9)), (.int .i64 y3.2.1)]) (.one (.leaf .addr)) fun x223 =>
        .ld x223 .slice fun x224 =>
        .newS (.cells #[(.int .i64 x217.1)] ty_int) 1 fun x226 =>
        .act (opS Try.prog (.call { callee := .builtin .append, args := #[(.tmp 0), (.tmp 1)], argTypes := #[ty_s_int, ty_s_int] }) ty_s_int [(.slice x224.a x224.len x224.cap), (.slice x226.a x226.len x226.cap)]) (.one (.leaf .slice)) fun x227 =>
        .look (opS Try.prog (.indexAddr ty_a6_s_int (.tmp 0) (.tmp 1)) ty_unit [(.pointer (some x9)), (.int .i64 y3.2.1)]) (.one (.leaf .addr)) fun x228 =>
        .st x228 (.slice x227.a x227.len x227.cap) <|
        .look (opS Try.prog (.indexAddr ty_a6_p_free_Pop (.tmp 0) (.tmp 1)) ty_unit [(.pointer (some x11)), (.int .i64 y3.2.1)]) (.one (.leaf .addr)) fun x230 =>
        .st x230 (.pointer none) <|
        .again 2688 [(.int .i64 (w64 (y4.1 + 1)))])
      else (
        .look (opS Try.prog (.indexAddr ty_a6_p_free_Pop (.tmp 0) (.tmp 1)) ty_unit [(.pointer (some x11)), (.int .i64 y3.2.1)]) (.one (.leaf .addr)) fun x230 =>
        .st x230 (.pointer none) <|
        .again 2688 [(.int .i64 (w64 (y4.1 + 1)))]))
    else (
      .again 2688 [(.int .i64 (w64 (y4.1 + 1)))]))
  else (
    .again 2688 [(.int .i64 (w64 (y4.1 + 1)))])

noncomputable def t_magpielaw10_FreeMixes_J18 (x36 : Option Addr) (x9 : Addr) (x10 : Addr) (x11 : Addr) (y3 : HL Sh1.T [(.leaf .bool), (.leaf (.int .i64))]) (y4 : HL Sh1.T [(.leaf (.int .i64))]) : Tree :=
  .look (opS Try.prog (.indexAddr ty_a6_p_free_Push (.tmp 0) (.tmp 1)) ty_unit [(.pointer (some x10)), (.int .i64 y3.2.1)]) (.one (.leaf .addr)) fun x190 =>
  .ld x190 .ptr fun x191 =>
  .look (opS Try.prog (.binOp .neq ty_p_free_Push (.tmp 0) (.const (.pointer none)) ty_p_free_Push) ty_bool [(.pointer x191)]) (.one (.leaf .bool)) fun x192 =>
  bif x192 then (
    .look (opS Try.prog (.indexAddr ty_a6_p_free_Push (.tmp 0) (.tmp 1)) ty_unit [(.pointer (some x10)), (.int .i64 y3.2.1)]) (.one (.leaf .addr)) fun x195 =>
    .ld x195 .ptr fun x196 =>
    .call f_free_Push_Step [(.pointer x196), (.pointer x36)] (.one (.leaf .bool)) fun x198 =>
    bif x198 then (
      .look (opS Try.prog (.indexAddr ty_a6_p_free_Push (.tmp 0) (.tmp 1)) ty_unit [(.pointer (some x10)), (.int .i64 y3.2.1)]) (.one (.leaf .addr)) fun x201 =>
      .st x201 (.pointer none) <|
      t_magpielaw10_FreeMixes_J16 x36 x9 x11 y3 y4)
    else (
      t_magpielaw10_FreeMixes_J16 x36 x9 x11 y3 y4))
  else (
    t_magpielaw10_FreeMixes_J16 x36 x9 x11 y3 y4)

noncomputable def t_magpielaw10_FreeMixes_J22 (x9 : Addr) (x10 : Addr) (x11 : Addr) (x21 : Addr) (y3 : HL Sh1.T [(.leaf .bool), (.leaf (.int .i64))]) : Tree :=
  .look (opS Try.prog (.indexAddr ty_a6_p_free_Push (.tmp 0) (.tmp 1)) ty_unit [(.pointer (some x10)), (.int .i64 y3.2.1)]) (.one (.leaf .addr)) fun x232 =>
  .ld x232 .ptr fun x233 =>
  .look (opS Try.prog (.binOp .neq ty_p_free_Push (.tmp 0) (.const (.pointer none)) ty_p_free_Push) ty_bool [(.pointer x233)]) (.one (.leaf .bool)) fun x234 =>
  bif x234 then (
    .ret (.bool false))
  else (
    .look (opS Try.prog (.indexAddr ty_a6_p_free_Pop (.tmp 0) (.tmp 1)) ty_unit [(.pointer (some x11)), (.int .i64 y3.2.1)]) (.one (.leaf .addr)) fun x237 =>
    .ld x237 .ptr fun x238 =>
    .look (opS Try.prog (.binOp .neq ty_p_free_Pop (.tmp 0) (.const (.pointer none)) ty_p_free_Pop) ty_bool [(.pointer x238)]) (.one (.leaf .bool)) fun x239 =>
    bif x239 then (
      .ret (.bool false))
    else (
      .look (opS Try.prog (.indexAddr ty_a6_s_int (.tmp 0) (.tmp 1)) ty_unit [(.pointer (some x9)), (.int .i64 y3.2.1)]) (.one (.leaf .addr)) fun x242 =>
      .ld x242 .slice fun x243 =>
      .loop 3456 t_magpielaw10_FreeMixes_L5_sh [(.int .i64 0)] (t_magpielaw10_FreeMixes_L5 x21 y3 x243)))

@[reducible] def t_magpielaw10_FreeMixes_L4_sh : List Sh1 := [(.leaf (.int .i64))]
noncomputable def t_magpielaw10_FreeMixes_L4 (x36 : Option Addr) (x9 : Addr) (x10 : Addr) (x11 : Addr) (x21 : Addr) (y3 : HL Sh1.T [(.leaf .bool), (.leaf (.int .i64))]) (y4 : HL Sh1.T t_magpielaw10_FreeMixes_L4_sh) : Tree :=
  bif (decide ((y4.1 : Int) < 100)) then (
    .look (opS Try.prog (.indexAddr ty_a6_p_free_Push (.tmp 0) (.tmp 1)) ty_unit [(.pointer (some x10)), (.int .i64 y3.2.1)]) (.one (.leaf .addr)) fun x177 =>
    .ld x177 .ptr fun x178 =>
    .look (opS Try.prog (.binOp .neq ty_p_free_Push (.tmp 0) (.const (.pointer none)) ty_p_free_Push) ty_bool [(.pointer x178)]) (.one (.leaf .bool)) fun x179 =>
    bif x179 then (
      t_magpielaw10_FreeMixes_J18 x36 x9 x10 x11 y3 y4)
    else (
      .look (opS Try.prog (.indexAddr ty_a6_p_free_Pop (.tmp 0) (.tmp 1)) ty_unit [(.pointer (some x11)), (.int .i64 y3.2.1)]) (.one (.leaf .addr)) fun x182 =>
      .ld x182 .ptr fun x183 =>
      .look (opS Try.prog (.binOp .neq ty_p_free_Pop (.tmp 0) (.const (.pointer none)) ty_p_free_Pop) ty_bool [(.pointer x183)]) (.one (.leaf .bool)) fun x184 =>
      bif x184 then (
        t_magpielaw10_FreeMixes_J18 x36 x9 x10 x11 y3 y4)
      else (
        t_magpielaw10_FreeMixes_J22 x9 x10 x11 x21 y3)))
  else (
    t_magpielaw10_FreeMixes_J22 x9 x10 x11 x21 y3)

noncomputable def t_magpielaw10_FreeMixes_J24 (x40 : Int) (y5 : HL Sh1.T [(.leaf .bool), (.leaf (.int .i64))]) : Tree :=
  bif (decide ((y5.2.1 : Int) ≥ (w64 (2 * (w64 (1 + x40)))))) then (
    .ret (.bool false))
  else (
    .again 4096 [(.bool y5.1), (.int .i64 (w64 (y5.2.1 + 1)))])

@[reducible] def t_magpielaw10_FreeMixes_L8_sh : List Sh1 := [(.leaf .bool), (.leaf (.int .i64))]
noncomputable def t_magpielaw10_FreeMixes_L8 (x36 : Option Addr) (x40 : Int) (x21 : Addr) (y5 : HL Sh1.T t_magpielaw10_FreeMixes_L8_sh) : Tree :=
  bif (decide ((y5.2.1 : Int) < 32)) then (
    .look (opS Try.prog (.indexAddr ty_a32_int (.tmp 0) (.tmp 1)) ty_unit [(.pointer (some x21)), (.int .i64 y5.2.1)]) (.one (.leaf .addr)) fun x278 =>
    .ld x278 (.int .i64) fun x279 =>
    bif ((x279 : Int) != 1) then (
      bif (decide ((y5.2.1 : Int) < (w64 (2 * (w64 (1 + x40)))))) then (
        .ret (.bool false))
      else (
        .look (opS Try.prog (.indexAddr ty_a32_int (.tmp 0) (.tmp 1)) ty_unit [(.pointer (some x21)), (.int .i64 y5.2.1)]) (.one (.leaf .addr)) fun x289 =>
        .ld x289 (.int .i64) fun x290 =>
        bif ((x290 : Int) != 0) then (
          t_magpielaw10_FreeMixes_J24 x40 y5)
        else (
          .again 4096 [(.bool y5.1), (.int .i64 (w64 (y5.2.1 + 1)))])))
    else (
      .look (opS Try.prog (.indexAddr ty_a32_int (.tmp 0) (.tmp 1)) ty_unit [(.pointer (some x21)), (.int .i64 y5.2.1)]) (.one (.leaf .addr)) fun x289 =>
      .ld x289 (.int .i64) fun x290 =>
      bif ((x290 : Int) != 0) then (
        t_magpielaw10_FreeMixes_J24 x40 y5)
      else (
        .again 4096 [(.bool y5.1), (.int .i64 (w64 (y5.2.1 + 1)))])))
  else (
    .call f_arena_Arena_Fault [(.pointer x36)] (.one (.leaf .bool)) fun x300 =>
    bif !x300 then
      bif (decide (((w64 (1 + x40)) : Int) ≤ 64)) then (
        .call f_magpielaw10_awake [] (.one (.leaf .bool)) fun x309 =>
        .ret (.bool x309))
      else (
        .ret (.bool false))
    else
      .ret (.bool false))

@[reducible] def t_magpielaw10_FreeMixes_L7_sh : List Sh1 := [(.leaf (.int .i64))]
noncomputable def t_magpielaw10_FreeMixes_L7 (x36 : Option Addr) (x40 : Int) (x21 : Addr) (y3 : HL Sh1.T [(.leaf .bool), (.leaf (.int .i64))]) (x259 : Sl) (y4 : HL Sh1.T t_magpielaw10_FreeMixes_L7_sh) : Tree :=
  bif (decide ((y4.1 : Int) < ((x259.len : Nat) : Int))) then (
    .look (opS Try.prog (.indexAddr ty_s_int (.tmp 0) (.tmp 1)) ty_unit [(.slice x259.a x259.len x259.cap), (.int .i64 y4.1)]) (.one (.leaf .addr)) fun x263 =>
    .ld x263 (.int .i64) fun x264 =>
    .qcall f_magpielaw00_Place [(.int .i64 (w64 (Int.tdiv x264 8))), (.int .i64 32)] (.one (.leaf (.int .i64))) fun x267 =>
    .look (opS Try.prog (.indexAddr ty_a32_int (.tmp 0) (.tmp 1)) ty_unit [(.pointer (some x21)), (.int .i64 x267)]) (.one (.leaf .addr)) fun x268 =>
    .ld x268 (.int .i64) fun x269 =>
    .look (opS Try.prog (.indexAddr ty_a32_int (.tmp 0) (.tmp 1)) ty_unit [(.pointer (some x21)), (.int .i64 x267)]) (.one (.leaf .addr)) fun x271 =>
    .st x271 (.int .i64 (w64 (x269 + 1))) <|
    .again 3776 [(.int .i64 (w64 (y4.1 + 1)))])
  else (
    .loop 4096 t_magpielaw10_FreeMixes_L8_sh [(.bool y3.1), (.int .i64 0)] (t_magpielaw10_FreeMixes_L8 x36 x40 x21))

@[reducible] def t_magpielaw10_FreeMixes_L3_sh : List Sh1 := [(.leaf .bool), (.leaf (.int .i64))]
noncomputable def t_magpielaw10_FreeMixes_L3 (x5 : Addr) (x36 : Option Addr) (x40 : Int) (x9 : Addr) (x10 : Addr) (x11 : Addr) (x21 : Addr) (y3 : HL Sh1.T t_magpielaw10_FreeMixes_L3_sh) : Tree :=
  bif (decide ((y3.2.1 : Int) < (w64 (1 + x40)))) then (
    .loop 2688 t_magpielaw10_FreeMixes_L4_sh [(.int .i64 0)] (t_magpielaw10_FreeMixes_L4 x36 x9 x10 x11 x21 y3))
  else (
    .ldA x5 [(.int .i64), (.int .i64), (.int .i64), (.int .i64), (.int .i64)] fun x258 =>
    .call f_free_List [(.pointer x36), (.agg #[(.int .i64 x258.1), (.int .i64 x258.2.1), (.int .i64 x258.2.2.1), (.int .i64 x258.2.2.2.1), (.int .i64 x258.2.2.2.2.1)]), (.int .i64 1), (.int .i64 2)] (.one (.leaf .slice)) fun x259 =>
    .loop 3776 t_magpielaw10_FreeMixes_L7_sh [(.int .i64 0)] (t_magpielaw10_FreeMixes_L7 x36 x40 x21 y3 x259))

noncomputable def t_magpielaw10_FreeMixes_J1 (x36 : Option Addr) (y2 : HL Sh1.T [(.leaf .bool), (.leaf (.int .i64))]) (x75 : Int) : Tree :=
  .call f_arena_Arena_Uses [(.pointer x36)] (.one (.leaf (.int .i64))) fun x164 =>
  bif (decide ((x164 : Int) > (w64 (x75 + 1)))) then (
    .ret (.bool false))
  else (
    .again 960 [(.bool y2.1), (.int .i64 (w64 (y2.2.1 + 1)))])

@[reducible] def t_magpielaw10_FreeMixes_L2_sh : List Sh1 := [(.leaf .bool), (.leaf (.int .i64))]
noncomputable def t_magpielaw10_FreeMixes_L2 (p1 : Sl) (x5 : Addr) (x36 : Option Addr) (x40 : Int) (x9 : Addr) (x10 : Addr) (x11 : Addr) (x13 : Addr) (y2 : HL Sh1.T t_magpielaw10_FreeMixes_L2_sh) : Tree :=
  bif (decide ((y2.2.1 : Int) < ((p1.len : Nat) : Int))) then (
    bif (decide ((y2.2.1 : Int) < 400)) then (
      .look (opS Try.prog (.indexAddr ty_s_int (.tmp 0) (.tmp 1)) ty_unit [(.slice p1.a p1.len p1.cap), (.int .i64 y2.2.1)]) (.one (.leaf .addr)) fun x68 =>
      .ld x68 (.int .i64) fun x69 =>
      .qcall f_magpielaw00_Place [(.int .i64 x69), (.int .i64 1048576)] (.one (.leaf (.int .i64))) fun x70 =>
      .look (opS Try.prog (.binOp .rem ty_int (.tmp 0) (.tmp 1) ty_int) ty_int [(.int .i64 x70), (.int .i64 (w64 (1 + x40)))]) (.one (.leaf (.int .i64))) fun x73 =>
      .call f_arena_Arena_Uses [(.pointer x36)] (.one (.leaf (.int .i64))) fun x75 =>
      .look (opS Try.prog (.indexAddr ty_a6_p_free_Push (.tmp 0) (.tmp 1)) ty_unit [(.pointer (some x10)), (.int .i64 x73)]) (.one (.leaf .addr)) fun x82 =>
      .ld x82 .ptr fun x83 =>
      .look (opS Try.prog (.binOp .neq ty_p_free_Push (.tmp 0) (.const (.pointer none)) ty_p_free_Push) ty_bool [(.pointer x83)]) (.one (.leaf .bool)) fun x84 =>
      bif x84 then (
        .look (opS Try.prog (.indexAddr ty_a6_p_free_Push (.tmp 0) (.tmp 1)) ty_unit [(.pointer (some x10)), (.int .i64 x73)]) (.one (.leaf .addr)) fun x86 =>
        .ld x86 .ptr fun x87 =>
        .call f_free_Push_Step [(.pointer x87), (.pointer x36)] (.one (.leaf .bool)) fun x89 =>
        bif x89 then (
          .look (opS Try.prog (.indexAddr ty_a6_p_free_Push (.tmp 0) (.tmp 1)) ty_unit [(.pointer (some x10)), (.int .i64 x73)]) (.one (.leaf .addr)) fun x91 =>
          .st x91 (.pointer none) <|
          t_magpielaw10_FreeMixes_J1 x36 y2 x75)
        else (
          t_magpielaw10_FreeMixes_J1 x36 y2 x75))
      else (
        .look (opS Try.prog (.indexAddr ty_a6_p_free_Pop (.tmp 0) (.tmp 1)) ty_unit [(.pointer (some x11)), (.int .i64 x73)]) (.one (.leaf .addr)) fun x94 =>
        .ld x94 .ptr fun x95 =>
        .look (opS Try.prog (.binOp .neq ty_p_free_Pop (.tmp 0) (.const (.pointer none)) ty_p_free_Pop) ty_bool [(.pointer x95)]) (.one (.leaf .bool)) fun x96 =>
        bif x96 then (
          .look (opS Try.prog (.indexAddr ty_a6_p_free_Pop (.tmp 0) (.tmp 1)) ty_unit [(.pointer (some x11)), (.int .i64 x73)]) (.one (.leaf .addr)) fun x98 =>
          .ld x98 .ptr fun x99 =>
          .call f_free_Pop_Step [(.pointer x99), (.pointer x36)] (.one (.leaf .bool)) fun x101 =>
          bif x101 then (
            .look (opS Try.prog (.indexAddr ty_a6_p_free_Pop (.tmp 0) (.tmp 1)) ty_unit [(.pointer (some x11)), (.int .i64 x73)]) (.one (.leaf .addr)) fun x104 =>
            .ld x104 .ptr fun x105 =>
            .call f_free_Pop_Base [(.pointer x105)] (.tup [(.leaf (.int .i64)), (.leaf .bool)]) fun x106 =>
            bif x106.2.1 then (
              .look (opS Try.prog (.indexAddr ty_a6_s_int (.tmp 0) (.tmp 1)) ty_unit [(.pointer (some x9)), (.int .i64 x73)]) (.one (.leaf .addr)) fun x112 =>
              .ld x112 .slice fun x113 =>
              .newS (.cells #[(.int .i64 x106.1)] ty_int) 1 fun x115 =>
              .act (opS Try.prog (.call { callee := .builtin .append, args := #[(.tmp 0), (.tmp 1)], argTypes := #[ty_s_int, ty_s_int] }) ty_s_int [(.slice x113.a x113.len x113.cap), (.slice x115.a x115.len x115.cap)]) (.one (.leaf .slice)) fun x116 =>
              .look (opS Try.prog (.indexAddr ty_a6_s_int (.tmp 0) (.tmp 1)) ty_unit [(.pointer (some x9)), (.int .i64 x73)]) (.one (.leaf .addr)) fun x117 =>
              .st x117 (.slice x116.a x116.len x116.cap) <|
              .look (opS Try.prog (.indexAddr ty_a6_p_free_Pop (.tmp 0) (.tmp 1)) ty_unit [(.pointer (some x11)), (.int .i64 x73)]) (.one (.leaf .addr)) fun x119 =>
              .st x119 (.pointer none) <|
              t_magpielaw10_FreeMixes_J1 x36 y2 x75)
            else (
              .look (opS Try.prog (.indexAddr ty_a6_p_free_Pop (.tmp 0) (.tmp 1)) ty_unit [(.pointer (some x11)), (.int .i64 x73)]) (.one (.leaf .addr)) fun x119 =>
              .st x119 (.pointer none) <|
              t_magpielaw10_FreeMixes_J1 x36 y2 x75))
          else (
            t_magpielaw10_FreeMixes_J1 x36 y2 x75))
        else (
          .look (opS Try.prog (.binOp .quo ty_int (.tmp 0) (.tmp 1) ty_int) ty_int [(.int .i64 x70), (.int .i64 (w64 (1 + x40)))]) (.one (.leaf (.int .i64))) fun x123 =>
          bif (((Int.tmod x123 2) : Int) == 0) then (
            .look (opS Try.prog (.indexAddr ty_a6_s_int (.tmp 0) (.tmp 1)) ty_unit [(.pointer (some x9)), (.int .i64 x73)]) (.one (.leaf .addr)) fun x128 =>
            .ld x128 .slice fun x129 =>
            bif (decide ((((x129.len : Nat) : Int) : Int) > 0)) then (
              .look (opS Try.prog (.indexAddr ty_a6_s_int (.tmp 0) (.tmp 1)) ty_unit [(.pointer (some x9)), (.int .i64 x73)]) (.one (.leaf .addr)) fun x134 =>
              .ld x134 .slice fun x135 =>
              .look (opS Try.prog (.indexAddr ty_a6_s_int (.tmp 0) (.tmp 1)) ty_unit [(.pointer (some x9)), (.int .i64 x73)]) (.one (.leaf .addr)) fun x140 =>
              .ld x140 .slice fun x141 =>
              .look (opS Try.prog (.indexAddr ty_s_int (.tmp 0) (.tmp 1)) ty_unit [(.slice x141.a x141.len x141.cap), (.int .i64 (w64 (((x135.len : Nat) : Int) - 1)))]) (.one (.leaf .addr)) fun x143 =>
              .ld x143 (.int .i64) fun x144 =>
              .look (opS Try.prog (.indexAddr ty_a6_int (.tmp 0) (.tmp 1)) ty_unit [(.pointer (some x13)), (.int .i64 x73)]) (.one (.leaf .addr)) fun x145 =>
              .st x145 (.int .i64 x144) <|
              .ldA x5 [(.int .i64), (.int .i64), (.int .i64), (.int .i64), (.int .i64)] fun x147 =>
              .look (opS Try.prog (.indexAddr ty_a6_s_int (.tmp 0) (.tmp 1)) ty_unit [(.pointer (some x9)), (.int .i64 x73)]) (.one (.leaf .addr)) fun x149 =>
              .ld x149 .slice fun x150 =>
              .look (opS Try.prog (.indexAddr ty_s_int (.tmp 0) (.tmp 1)) ty_unit [(.slice x150.a x150.len x150.cap), (.int .i64 (w64 (((x135.len : Nat) : Int) - 1)))]) (.one (.leaf .addr)) fun x152 =>
              .ld x152 (.int .i64) fun x153 =>
              .call f_free_NewPush [(.agg #[(.int .i64 x147.1), (.int .i64 x147.2.1), (.int .i64 x147.2.2.1), (.int .i64 x147.2.2.2.1), (.int .i64 x147.2.2.2.2.1)]), (.int .i64 1), (.int .i64 2), (.int .i64 x153)] (.one (.leaf .ptr)) fun x154 =>
              .look (opS Try.prog (.indexAddr ty_a6_p_free_Push (.tmp 0) (.tmp 1)) ty_unit [(.pointer (some x10)), (.int .i64 x73)]) (.one (.leaf .addr)) fun x155 =>
              .st x155 (.pointer x154) <|
              .look (opS Try.prog (.indexAddr ty_a6_s_int (.tmp 0) (.tmp 1)) ty_unit [(.pointer (some x9)), (.int .i64 x73)]) (.one (.leaf .addr)) fun x158 =>
              .ld x158 .slice fun x159 =>
              .look (opS Try.prog (.slice ty_s_int (.tmp 0) none (some (.tmp 1)) none) ty_s_int [(.slice x159.a x159.len x159.cap), (.int .i64 (w64 (((x135.len : Nat) : Int) - 1)))]) (.one (.leaf .slice)) fun x161 =>
              .look (opS Try.prog (.indexAddr ty_a6_s_int (.tmp 0) (.tmp 1)) ty_unit [(.pointer (some x9)), (.int .i64 x73)]) (.one (.leaf .addr)) fun x162 =>
              .st x162 (.slice x161.a x161.len x161.cap) <|
              t_magpielaw10_FreeMixes_J1 x36 y2 x75)
            else (
              .ldA x5 [(.int .i64), (.int .i64), (.int .i64), (.int .i64), (.int .i64)] fun x77 =>
              .call f_free_NewPop [(.agg #[(.int .i64 x77.1), (.int .i64 x77.2.1), (.int .i64 x77.2.2.1), (.int .i64 x77.2.2.2.1), (.int .i64 x77.2.2.2.2.1)]), (.int .i64 1), (.int .i64 2)] (.one (.leaf .ptr)) fun x78 =>
              .look (opS Try.prog (.indexAddr ty_a6_p_free_Pop (.tmp 0) (.tmp 1)) ty_unit [(.pointer (some x11)), (.int .i64 x73)]) (.one (.leaf .addr)) fun x79 =>
              .st x79 (.pointer x78) <|
              t_magpielaw10_FreeMixes_J1 x36 y2 x75))
          else (
            .ldA x5 [(.int .i64), (.int .i64), (.int .i64), (.int .i64), (.int .i64)] fun x77 =>
            .call f_free_NewPop [(.agg #[(.int .i64 x77.1), (.int .i64 x77.2.1), (.int .i64 x77.2.2.1), (.int .i64 x77.2.2.2.1), (.int .i64 x77.2.2.2.2.1)]), (.int .i64 1), (.int .i64 2)] (.one (.leaf .ptr)) fun x78 =>
            .look (opS Try.prog (.indexAddr ty_a6_p_free_Pop (.tmp 0) (.tmp 1)) ty_unit [(.pointer (some x11)), (.int .i64 x73)]) (.one (.leaf .addr)) fun x79 =>
            .st x79 (.pointer x78) <|
            t_magpielaw10_FreeMixes_J1 x36 y2 x75))))
    else (
      .newP (.cells #[(.int .i64 0), (.int .i64 0), (.int .i64 0), (.int .i64 0), (.int .i64 0), (.int .i64 0), (.int .i64 0), (.int .i64 0), (.int .i64 0), (.int .i64 0), (.int .i64 0), (.int .i64 0), (.int .i64 0), (.int .i64 0), (.int .i64 0), (.int .i64 0), (.int .i64 0), (.int .i64 0), (.int .i64 0), (.int .i64 0), (.int .i64 0), (.int .i64 0), (.int .i64 0), (.int .i64 0), (.int .i64 0), (.int .i64 0), (.int .i64 0), (.int .i64 0), (.int .i64 0), (.int .i64 0), (.int .i64 0), (.int .i64 0)] ty_a32_int) fun x21 =>
      .loop 2497 t_magpielaw10_FreeMixes_L3_sh [(.bool y2.1), (.int .i64 0)] (t_magpielaw10_FreeMixes_L3 x5 x36 x40 x9 x10 x11 x21)))
  else (
    .newP (.cells #[(.int .i64 0), (.int .i64 0), (.int .i64 0), (.int .i64 0), (.int .i64 0), (.int .i64 0), (.int .i64 0), (.int .i64 0), (.int .i64 0), (.int .i64 0), (.int .i64 0), (.int .i64 0), (.int .i64 0), (.int .i64 0), (.int .i64 0), (.int .i64 0), (.int .i64 0), (.int .i64 0), (.int .i64 0), (.int .i64 0), (.int .i64 0), (.int .i64 0), (.int .i64 0), (.int .i64 0), (.int .i64 0), (.int .i64 0), (.int .i64 0), (.int .i64 0), (.int .i64 0), (.int .i64 0), (.int .i64 0), (.int .i64 0)] ty_a32_int) fun x21 =>
    .loop 2497 t_magpielaw10_FreeMixes_L3_sh [(.bool y2.1), (.int .i64 0)] (t_magpielaw10_FreeMixes_L3 x5 x36 x40 x9 x10 x11 x21))

@[reducible] def t_magpielaw10_FreeMixes_L1_sh : List Sh1 := [(.leaf (.int .i64))]
noncomputable def t_magpielaw10_FreeMixes_L1 (p1 : Sl) (x5 : Addr) (x36 : Option Addr) (x40 : Int) (x9 : Addr) (x10 : Addr) (x11 : Addr) (y1 : HL Sh1.T t_magpielaw10_FreeMixes_L1_sh) : Tree :=
  bif (decide ((y1.1 : Int) < (w64 (1 + x40)))) then (
    .newS (.cells #[(.int .i64 (w64 (16 * y1.1))), (.int .i64 (w64 ((w64 (16 * y1.1)) + 8)))] ty_int) 2 fun x53 =>
    .look (opS Try.prog (.indexAddr ty_a6_s_int (.tmp 0) (.tmp 1)) ty_unit [(.pointer (some x9)), (.int .i64 y1.1)]) (.one (.leaf .addr)) fun x54 =>
    .st x54 (.slice x53.a x53.len x53.cap) <|
    .again 640 [(.int .i64 (w64 (y1.1 + 1)))])
  else (
    .newP (.cells #[(.int .i64 0), (.int .i64 0), (.int .i64 0), (.int .i64 0), (.int .i64 0), (.int .i64 0)] ty_a6_int) fun x13 =>
    .stA x13 [(.int .i64 0), (.int .i64 0), (.int .i64 0), (.int .i64 0), (.int .i64 0), (.int .i64 0)] <|
    .loop 960 t_magpielaw10_FreeMixes_L2_sh [(.bool false), (.int .i64 0)] (t_magpielaw10_FreeMixes_L2 p1 x5 x36 x40 x9 x10 x11 x13))
noncomputable def t_magpielaw10_FreeMixes (p0 : Int) (p1 : Sl) : Tree :=
  .call f_free_Raw [(.int .i64 4), (.int .i64 256)] (.tup [(.agg [(.int .i64), (.int .i64), (.int .i64), (.int .i64), (.int .i64)]), (.leaf (.int .i64))]) fun x32 =>
  .newP (.cells #[(.int .i64 0), (.int .i64 0), (.int .i64 0), (.int .i64 0), (.int .i64 0)] ty_free_Place) fun x5 =>
  .stA x5 [(.int .i64 x32.1.1), (.int .i64 x32.1.2.1), (.int .i64 x32.1.2.2.1), (.int .i64 x32.1.2.2.2.1), (.int .i64 x32.1.2.2.2.2.1)] <|
  .call f_arena_New [(.int .i64 x32.2.1), (.int .i64 256), (.bool false)] (.one (.leaf .ptr)) fun x36 =>
  .look (opS Try.prog (.binOp .eql ty_p_arena_Arena (.tmp 0) (.const (.pointer none)) ty_p_arena_Arena) ty_bool [(.pointer x36)]) (.one (.leaf .bool)) fun x38 =>
  bif x38 then (
    .ret (.bool false))
  else (
    .qcall f_magpielaw00_Place [(.int .i64 p0), (.int .i64 6)] (.one (.leaf (.int .i64))) fun x40 =>
    .newP (.cells #[(.slice none 0 0), (.slice none 0 0), (.slice none 0 0), (.slice none 0 0), (.slice none 0 0), (.slice none 0 0)] ty_a6_s_int) fun x9 =>
    .newP (.cells #[(.pointer none), (.pointer none), (.pointer none), (.pointer none), (.pointer none), (.pointer none)] ty_a6_p_free_Push) fun x10 =>
    .newP (.cells #[(.pointer none), (.pointer none), (.pointer none), (.pointer none), (.pointer none), (.pointer none)] ty_a6_p_free_Pop) fun x11 =>
    .loop 640 t_magpielaw10_FreeMixes_L1_sh [(.int .i64 0)] (t_magpielaw10_FreeMixes_L1 p1 x5 x36 x40 x9 x10 x11))
theorem t_magpielaw10_FreeMixes_eq (p0 : Int) (p1 : Sl) : funcTree Try.prog { quiet := [10, 23, 25, 26, 30, 37, 42, 45, 47, 54, 73], quietTmp := true, fncs := [], ifcs := [] } Try.f3 [(.int .i64 p0), (.slice p1.a p1.len p1.cap)] = t_magpielaw10_FreeMixes p0 p1 := by kernel_rfl
theorem t_magpielaw10_FreeMixes_spec {p0 : Int} {p1 : Sl} {H : Heap} {R : Value → Heap → Prop} (h : ∀ L, wp Try.prog (t_magpielaw10_FreeMixes p0 p1) L H R) : SpecF Try.prog f_magpielaw10_FreeMixes #[(.int .i64 p0), (.slice p1.a p1.len p1.cap)] H R :=
  spec_of_tree (cfg := { quiet := [10, 23, 25, 26, 30, 37, 42, 45, 47, 54, 73], quietTmp := true, fncs := [], ifcs := [] }) Try.func3 fun L => (t_magpielaw10_FreeMixes_eq p0 p1).symm ▸ h L

end Go.Proofs.Ytjleoogieoahnaa

set_option linter.unusedVariables false
set_option linter.unusedSimpArgs false
set_option maxRecDepth 20000
namespace Go.Proofs.Ytjleoogieoahnaa
open Go Go.Fw

/-! ### Actors of one list -/

inductive Fmc where
  | idle
  | pu (x : Pu) (j : Nat × Nat) (b : Int)
  | po (x : Po) (j : Nat × Nat)
def Fmc.bl : Fmc → Bl
  | .idle => []
  | .pu x j _ => [(j.1, pushObj j.2), (j.2, x.obj)]
  | .po x j => [(j.1, popObj j.2), (j.2, x.obj)]
def Fmc.pp : Fmc → Option Addr
  | .pu _ j _ => some ⟨j.1, 0, none⟩
  | _ => none
def Fmc.qp : Fmc → Option Addr
  | .po _ j => some ⟨j.1, 0, none⟩
  | _ => none
def Fmc.hl : Fmc → List Int
  | .pu _ _ b => [b]
  | _ => []
abbrev fmP : Pl := plOf 4 256
def FmI (A : Ar) : Fmc → Prop
  | .idle => True
  | .pu x _ b => PuI fmP 4 32 6 b x A
  | .po x _ => PoI fmP 4 32 6 x A
/-- So many steps alone, at most. -/
def Fmc.pot (A : Ar) : Fmc → Int
  | .idle => 0
  | .pu x _ _ => if x.at' = 0 then 3 else if A.rawF 6 = x.was then 3 - x.at' else 6 - x.at'
  | .po x _ => if x.at' = 0 then 3 else if A.rawF 6 = x.was then 3 - x.at' else 6 - x.at'
structure Fac where
  mc : Fmc
  xs : List Int
  s : Sl
  hb : Bl
def Fac.bl (a : Fac) : Bl := a.mc.bl ++ a.hb
def Fac.al (a : Fac) : List Int := a.xs ++ a.mc.hl

def bas (m : Nat) : List Int := (List.range m).map fun i : Nat => 8 * (i : Int)
theorem bas_mem {m : Nat} {b : Int} : b ∈ bas m ↔ ∃ i : Nat, i < m ∧ b = 8 * (i : Int) := by
  unfold bas; rw [List.mem_map]
  constructor
  · rintro ⟨i, h, rfl⟩; exact ⟨i, List.mem_range.1 h, rfl⟩
  · rintro ⟨i, h, rfl⟩; exact ⟨i, List.mem_range.2 h, rfl⟩
theorem bas_nd (m : Nat) : (bas m).Nodup := by
  unfold bas
  refine List.Pairwise.map _ (fun a b h e => h ?_) List.nodup_range
  omega
theorem bas_len (m : Nat) : (bas m).length = m := by simp [bas]
def fmC (ch : List Int) : Int → List Int := upd (fun _ => []) 6 ch
theorem fmC_upd (ch l : List Int) : upd (fmC ch) 6 l = fmC l := by
  funext j; unfold fmC upd; split <;> rfl
theorem fmC_6 (ch : List Int) : fmC ch 6 = ch := by unfold fmC upd; rw [if_pos rfl]
theorem fmC_mem {ch : List Int} {j b : Int} (h : b ∈ fmC ch j) : b ∈ ch := by
  unfold fmC upd at h
  split at h
  · exact h
  · cases h

structure FX (I : List Nat) (A : Ar) (f : Nat → Fac) (na : Nat) (ch : List Int) : Prop where
  aw : Aw I A
  fl : FL A fmP 4 32 (fmC ch)
  fa : A.fault = false
  cv : (famB (fun i => (f i).al) 6 ++ ch).Perm (bas (2 * na))
  sls : ∀ i, i < 6 → SlOf (f i).hb ty_int eI (f i).s (f i).xs
  mc : ∀ i, i < 6 → FmI A (f i).mc
  id : ∀ i, na ≤ i → (f i).al = [] ∧ (f i).mc = .idle
  nb : na ≤ 6

variable {I : List Nat} {A B : Ar} {f : Nat → Fac} {na : Nat} {ch : List Int}

theorem FX.nd (M : FX I A f na ch) : (famB (fun i => (f i).al) 6 ++ ch).Nodup := M.cv.nodup_iff.2 (bas_nd _)
theorem FX.base (M : FX I A f na ch) {b : Int} (h : b ∈ famB (fun i => (f i).al) 6 ++ ch) : 0 ≤ b ∧ b % 8 = 0 ∧ b / 8 < 32 := by
  obtain ⟨i, h1, rfl⟩ := bas_mem.1 (M.cv.subset h)
  have := M.nb
  omega
theorem FX.cvi (M : FX I A f na ch) {i : Nat} (hi : i < 6) : ((f i).al ++ (famR (fun i => (f i).al) i 6 ++ ch)).Perm (bas (2 * na)) := by
  refine List.Perm.trans (perm_cnt fun c c0 ca => ?_) M.cv
  have := famB_c c0 ca (fun i => (f i).al) hi
  simp only [ca]; omega
theorem FX.len (M : FX I A f na ch) {i : Nat} (hi : i < 6) : (f i).xs.length ≤ 12 := by
  have := M.nb
  have := (M.cvi hi).length_eq
  rw [bas_len, List.length_append] at this
  have h2 : (f i).al.length = (f i).xs.length + (f i).mc.hl.length := List.length_append
  omega
theorem FmI.keep {x : Fmc} (h : FmI A x) (F : FL A fmP 4 32 (fmC ch)) {mb : Int} (hm : mb ∉ ch) (hb : mb ∉ x.hl) (E : FEv 4 32 A B mb) : FmI B x := by
  cases x with
  | idle => trivial
  | pu x j b =>
    have h : PuI fmP 4 32 6 b x A := h
    exact h.keep (fun e => hb (by show mb ∈ [b]; rw [e]; simp)) E
  | po x j =>
    have h : PoI fmP 4 32 6 x A := h
    exact h.keep F (by decide) (by decide) (fun j hj => hm (fmC_mem hj)) E

/-- One steps, all others stay. -/
theorem FX.step (M : FX I A f na ch) {i : Nat} (hi : i < na) {a : Fac} {mb : Int} {ch' : List Int} (hB : Aw I B) (F' : FL B fmP 4 32 (fmC ch')) (fa : B.fault = A.fault) (E : FEv 4 32 A B mb) (hm : mb ∉ ch ∧ ∀ j, j < 6 → j ≠ i → mb ∉ (f j).mc.hl)
    (cv : (a.al ++ ch').Perm ((f i).al ++ ch)) (sl : SlOf a.hb ty_int eI a.s a.xs) (mc : FmI B a.mc) : FX I B (updF f i a) na ch' := by
  have hi6 : i < 6 := by have := M.nb; omega
  refine ⟨hB, F', fa.trans M.fa, ?_, fun j hj => ?_, fun j hj => ?_, fun j hj => ?_, M.nb⟩
  · refine List.Perm.trans (perm_cnt fun c c0 ca => ?_) ((List.Perm.append_right (famR (fun i => (f i).al) i 6) cv).trans ((perm_cnt fun c c0 ca => ?_).trans (M.cvi hi6)))
    · have := famB_upd_c c0 ca Fac.al f a hi6
      simp only [ca]; omega
    · simp only [ca]; omega
  · by_cases e : j = i
    · subst e; rw [updF_same]; exact sl
    · rw [updF_ne _ _ e]; exact M.sls j hj
  · by_cases e : j = i
    · subst e; rw [updF_same]; exact mc
    · rw [updF_ne _ _ e]; exact (M.mc j hj).keep M.fl hm.1 (hm.2 j hj e) E
  · rw [updF_ne _ _ (by omega)]; exact M.id j hj

theorem FX.neg1 (M : FX I A f na ch) : (-1 : Int) ∉ ch ∧ ∀ j, j < 6 → (-1 : Int) ∉ (f j).mc.hl := by
  have h : ∀ b, b ∈ famB (fun i => (f i).al) 6 ++ ch → b ≠ -1 := fun b hb e => by have := (M.base hb).1; omega
  refine ⟨fun e => h _ (List.mem_append_right _ e) rfl, fun j hj e => h _ (List.mem_append_left _ (famB_mem.2 ⟨j, hj, List.mem_append_right _ e⟩)) rfl⟩
/-- The base in hand is nowhere else. -/
theorem FX.hand (M : FX I A f na ch) {i : Nat} (hi : i < 6) {x : Pu} {j : Nat × Nat} {b : Int} (h : (f i).mc = .pu x j b) : b ∉ ch ∧ ∀ k, k < 6 → k ≠ i → b ∉ (f k).mc.hl := by
  have nd := (M.cvi hi).nodup_iff.2 (bas_nd _)
  have hb : b ∈ (f i).al := List.mem_append_right _ (by rw [h]; simp [Fmc.hl])
  have dj := (List.nodup_append.1 nd).2.2
  refine ⟨fun e => dj b hb b (List.mem_append_right _ e) rfl, fun k hk hne e => ?_⟩
  refine dj b hb b (List.mem_append_left _ ?_) rfl
  have : ∀ n, k < n → b ∈ famR (fun i => (f i).al) i n := fun n => by
    induction n with
    | zero => intro h; omega
    | succ n ih =>
      intro hn
      show b ∈ famR _ i n ++ _
      by_cases e2 : k = n
      · subst e2
        rw [if_neg hne]
        exact List.mem_append_right _ (List.mem_append_right _ e)
      · exact List.mem_append_left _ (ih (by omega))
  exact this 6 hk

/-- Alone, it comes to its end. -/
theorem pot_pu {x : Pu} {b : Int} (P : PuI fmP 4 32 6 b x A) (F : FL A fmP 4 32 (fmC ch)) (hu : A.uses ≤ 1000000000) (hs : x.stepB A = false) {j j' : Nat × Nat} : (Fmc.pu (x.stepM A) j' b).pot (x.stepA A) + 1 ≤ (Fmc.pu x j b).pot A := by
  have o1 := F.hdOk (k := 6) (by decide) (by decide)
  have o2 := F.lkOk P.bb.1 P.bb.2.2
  have bb := P.bb
  have eh := P.hd
  have tk : A.tick = A.later 1 := tick_uses F.us (by omega)
  have td : Int.tdiv b 8 = b / 8 := Int.tdiv_eq_ediv_of_nonneg bb.1
  rcases P.ph with h | h | h
  · have s := Pu.s0 (A := A) h (by rw [eh]; exact o1)
    rw [eh, tk] at s
    obtain ⟨s1, s2⟩ := Prod.mk.inj s
    rw [s1, s2]
    show (if (1 : Int) = 0 then 3 else if A.rawF 6 = A.rawF 6 then (3 : Int) - 1 else 6 - 1) + 1 ≤ if x.at' = 0 then 3 else if A.rawF 6 = x.was then 3 - x.at' else 6 - x.at'
    rw [if_pos h, if_neg (by decide), if_pos rfl]; decide
  · have el : w64 (x.pl.links + w64 (Int.tdiv x.base 8)) = 4 * 4 + b / 8 := by
      rw [P.pl, P.ba, F.links, td, w64_in (x := b / 8) (by omega) (by omega), w64_in (by omega) (by omega)]
    have s := Pu.s1 (A := A) h el o2
    rw [tk] at s
    obtain ⟨s1, s2⟩ := Prod.mk.inj s
    rw [s1, s2]
    have e : ((A.later 1).setR (4 * 4 + b / 8).toNat (iand x.was 131071)).rawF 6 = A.rawF 6 := by rw [rawF_set1 (A := A.later 1) o2, if_neg (by omega)]; rfl
    show (if (2 : Int) = 0 then 3 else if ((A.later 1).setR (4 * 4 + b / 8).toNat (iand x.was 131071)).rawF 6 = x.was then (3 : Int) - 2 else 6 - 2) + 1 ≤ if x.at' = 0 then 3 else if A.rawF 6 = x.was then 3 - x.at' else 6 - x.at'
    rw [e, h]
    by_cases c : A.rawF 6 = x.was
    · rw [if_pos c, if_pos c, if_neg (by decide), if_neg (by decide)]; decide
    · rw [if_neg c, if_neg c, if_neg (by decide), if_neg (by decide)]; decide
  · have sb : x.stepB A = A.swapRb x.head x.was := by unfold Pu.stepB; rw [if_pos h]
    by_cases c : A.rawF 6 = x.was
    · have sw : A.swapRb x.head x.was = true := by rw [eh]; exact decide_eq_true ⟨o1, by rw [getD_rawF o1]; exact c⟩
      rw [sb, sw] at hs; cases hs
    · have s := Pu.s2n (A := A) h (by rw [eh]; exact o1) (by rw [eh]; exact c)
      obtain ⟨s1, s2⟩ := Prod.mk.inj s
      rw [s1, s2]
      show (if (0 : Int) = 0 then (3 : Int) else if A.tick.rawF 6 = x.was then 3 - 0 else 6 - 0) + 1 ≤ if x.at' = 0 then 3 else if A.rawF 6 = x.was then 3 - x.at' else 6 - x.at'
      rw [if_pos rfl, h, if_neg (show ¬ (2 : Int) = 0 by decide), if_neg c]; decide
theorem pot_po {x : Po} (P : PoI fmP 4 32 6 x A) (F : FL A fmP 4 32 (fmC ch)) (hu : A.uses ≤ 1000000000) (hs : x.stepB A = false) {j j' : Nat × Nat} : (Fmc.po (x.stepM A) j').pot (x.stepA A) + 1 ≤ (Fmc.po x j).pot A := by
  have o1 := F.hdOk (k := 6) (by decide) (by decide)
  have eh := P.hd
  have tk : A.tick = A.later 1 := tick_uses F.us (by omega)
  rcases P.ph with h | h | h
  · have s := Po.s0 (A := A) h (by rw [eh]; exact o1)
    rw [eh, tk] at s
    obtain ⟨s1, s2⟩ := Prod.mk.inj s
    have sb : x.stepB A = decide (A.rawF 6 % 131072 = 0) := by
      unfold Po.stepB; rw [if_neg (by omega), if_neg (by omega), if_neg (by omega), eh, mod17]
    rw [sb] at hs
    have hs := of_decide_eq_false hs
    rw [s1, s2, if_neg hs]
    show (if (1 : Int) = 0 then 3 else if A.rawF 6 = A.rawF 6 then (3 : Int) - 1 else 6 - 1) + 1 ≤ if x.at' = 0 then 3 else if A.rawF 6 = x.was then 3 - x.at' else 6 - x.at'
    rw [if_pos h, if_neg (by decide), if_pos rfl]; decide
  · obtain ⟨a1, a2, a3, a4, a5⟩ := P.was (by omega)
    have el : w64 (w64 (x.pl.links + x.was % 131072) - 1) = 4 * 4 + (x.was % 131072 - 1) := by
      rw [P.pl, F.links, w64_in (x := 4 * 4 + x.was % 131072) (by omega) (by omega), w64_in (by omega) (by omega)]; omega
    have o2 : A.rawOk (4 * 4 + (x.was % 131072 - 1)) := ⟨by omega, by have := F.len; omega⟩
    have s := Po.s1 (A := A) h el o2
    rw [tk] at s
    obtain ⟨s1, s2⟩ := Prod.mk.inj s
    rw [s1, s2]
    show (if (2 : Int) = 0 then 3 else if A.rawF 6 = x.was then (3 : Int) - 2 else 6 - 2) + 1 ≤ if x.at' = 0 then 3 else if A.rawF 6 = x.was then 3 - x.at' else 6 - x.at'
    rw [h]
    by_cases c : A.rawF 6 = x.was
    · rw [if_pos c, if_pos c, if_neg (by decide), if_neg (by decide)]; decide
    · rw [if_neg c, if_neg c, if_neg (by decide), if_neg (by decide)]; decide
  · have sb : x.stepB A = A.swapRb x.head x.was := by unfold Po.stepB; rw [if_neg (by omega), if_pos h]
    by_cases c : A.rawF 6 = x.was
    · have sw : A.swapRb x.head x.was = true := by rw [eh]; exact decide_eq_true ⟨o1, by rw [getD_rawF o1]; exact c⟩
      rw [sb, sw] at hs; cases hs
    · have s := Po.s2n (A := A) h (by rw [eh]; exact o1) (by rw [eh]; exact c)
      obtain ⟨s1, s2⟩ := Prod.mk.inj s
      rw [s1, s2]
      show (if (0 : Int) = 0 then (3 : Int) else if A.tick.rawF 6 = x.was then 3 - 0 else 6 - 0) + 1 ≤ if x.at' = 0 then 3 else if A.rawF 6 = x.was then 3 - x.at' else 6 - x.at'
      rw [if_pos rfl, h, if_neg (show ¬ (2 : Int) = 0 by decide), if_neg c]; decide
end Go.Proofs.Ytjleoogieoahnaa

set_option linter.unusedVariables false
set_option linter.unusedSimpArgs false
set_option maxRecDepth 20000
namespace Go.Proofs.Ytjleoogieoahnaa
open Go Go.Fw

def fmL : List Value := [.int .i64 fmP.work, .int .i64 fmP.heads, .int .i64 fmP.links, .int .i64 fmP.gens, .int .i64 fmP.carved]
abbrev fmH (x5 x9 x10 x11 : Nat) (c9 c10 c11 : List Value) (rest : Bl) : Bl :=
  (x11, oc ty_a6_p_free_Pop c11) :: (x10, oc ty_a6_p_free_Push c10) :: (x9, oc ty_a6_s_int c9) :: (x5, oc ty_free_Place (fmL)) :: rest
abbrev fmB (x5 x9 x10 x11 : Nat) (f : Nat → Fac) (tl : Bl) : Bl :=
  fmH x5 x9 x10 x11 (arrC 6 fun i => slV (f i).s) (arrC 6 fun i => .pointer (f i).mc.pp) (arrC 6 fun i => .pointer (f i).mc.qp) (famB (fun i => (f i).bl) 6 ++ tl)

section
variable {L : Hands} {R : Value → Heap → Prop} {H : Heap} {I : List Nat} {A : Ar} {f : Nat → Fac} {na : Nat} {ch : List Int} {tl : Bl} {x5 x9 x10 x11 : Nat} {k : Int} {i : Nat}

theorem fm_front (ok : Ok I H (keys (fmB x5 x9 x10 x11 f tl))) (hi : i < 6) :
    own A (fmB x5 x9 x10 x11 f tl) H = own A ((f i).mc.bl ++ fmH x5 x9 x10 x11 (arrC 6 fun i => slV (f i).s) (arrC 6 fun i => .pointer (f i).mc.pp) (arrC 6 fun i => .pointer (f i).mc.qp) ((f i).hb ++ (famR (fun i => (f i).bl) i 6 ++ tl))) H ∧
    Ok I H (keys ((f i).mc.bl ++ fmH x5 x9 x10 x11 (arrC 6 fun i => slV (f i).s) (arrC 6 fun i => .pointer (f i).mc.pp) (arrC 6 fun i => .pointer (f i).mc.qp) ((f i).hb ++ (famR (fun i => (f i).bl) i 6 ++ tl)))) := by
  refine own_perm (A := A) ok (perm_by fun c d c0 cd ca => ?_)
  have := famB_c c0 ca (fun i => (f i).bl) hi
  have h2 : c (f i).bl = c (f i).mc.bl + c (f i).hb := ca _ _
  simp only [fmB, fmH, cd, ca]
  omega
theorem fm_back {a : Fac} (hi : i < 6) {g : Bl} {c9 c10 c11 : List Value} (h9 : c9 = arrC 6 fun j => slV (updF f i a j).s) (h10 : c10 = arrC 6 fun j => .pointer (updF f i a j).mc.pp) (h11 : c11 = arrC 6 fun j => .pointer (updF f i a j).mc.qp)
    {l : Bl} (hl : l.Perm (fmH x5 x9 x10 x11 c9 c10 c11 (a.mc.bl ++ (a.hb ++ (famR (fun i => (f i).bl) i 6 ++ (g ++ tl)))))) (ok : Ok I H (keys l)) :
    own A l H = own A (fmB x5 x9 x10 x11 (updF f i a) (g ++ tl)) H ∧ Ok I H (keys (fmB x5 x9 x10 x11 (updF f i a) (g ++ tl))) := by
  refine own_perm (A := A) ok (hl.trans ?_)
  subst h9; subst h10; subst h11
  refine perm_by fun c d c0 cd ca => ?_
  have := famB_upd_c c0 ca Fac.bl f a hi
  have h2 : c a.bl = c a.mc.bl + c a.hb := ca _ _
  simp only [fmB, fmH, cd, ca]
  omega

theorem nP_some (a : Addr) : opS Try.prog (.binOp .neq ty_p_free_Push (.tmp 0) (.const (.pointer none)) ty_p_free_Push) ty_bool [(.pointer (some a))] = .pure (.value (.bool true)) := by kernel_rfl
theorem nP_none : opS Try.prog (.binOp .neq ty_p_free_Push (.tmp 0) (.const (.pointer none)) ty_p_free_Push) ty_bool [(.pointer none)] = .pure (.value (.bool false)) := by kernel_rfl
theorem nQ_some (a : Addr) : opS Try.prog (.binOp .neq ty_p_free_Pop (.tmp 0) (.const (.pointer none)) ty_p_free_Pop) ty_bool [(.pointer (some a))] = .pure (.value (.bool true)) := by kernel_rfl
theorem nQ_none : opS Try.prog (.binOp .neq ty_p_free_Pop (.tmp 0) (.const (.pointer none)) ty_p_free_Pop) ty_bool [(.pointer none)] = .pure (.value (.bool false)) := by kernel_rfl

set_option maxHeartbeats 2000000 in
/-- A push under way steps. -/
theorem fm_push {x : Pu} {j : Nat × Nat} {b : Int} {T1 T2 : Tree} (hi : i < na) (hk : k = i) (M : FX I A f na ch) (hu : A.uses ≤ 1000) (ok : Ok I H (keys (fmB x5 x9 x10 x11 f tl))) (hmc : (f i).mc = .pu x j b)
    (h1 : ∀ A' ch' (g : Bl), FX I A' (updF f i { f i with mc := .idle }) na ch' → A'.uses = A.uses + 1 → Ok I H (keys (fmB x5 x9 x10 x11 (updF f i { f i with mc := .idle }) (g ++ tl))) → wp Try.prog T1 L (own A' (fmB x5 x9 x10 x11 (updF f i { f i with mc := .idle }) (g ++ tl)) H) R)
    (h2 : ∀ A' y, FX I A' (updF f i { f i with mc := .pu y j b }) na ch → A'.uses = A.uses + 1 → (Fmc.pu y j b).pot A' + 1 ≤ (Fmc.pu x j b).pot A → Ok I H (keys (fmB x5 x9 x10 x11 (updF f i { f i with mc := .pu y j b }) tl)) → wp Try.prog T2 L (own A' (fmB x5 x9 x10 x11 (updF f i { f i with mc := .pu y j b }) tl) H) R) :
    wp Try.prog (.call f_free_Push_Step [(.pointer (some ⟨j.1, 0, none⟩)), (.pointer (aI I))] (.one (.leaf .bool)) fun y =>
      bif y then (
        .look (opS Try.prog (.indexAddr ty_a6_p_free_Push (.tmp 0) (.tmp 1)) ty_unit [(.pointer (some ⟨x10, 0, none⟩)), (.int .i64 k)]) (.one (.leaf .addr)) fun x91 =>
        .st x91 (.pointer none) T1)
      else T2) L (own A (fmB x5 x9 x10 x11 f tl) H) R := by
  subst hk
  have hA := M.aw
  have hn := M.nb
  have hi6 : i < 6 := by omega
  have P : PuI fmP 4 32 6 b x A := by have := M.mc i hi6; rw [hmc] at this; exact this
  obtain ⟨p1, ok1⟩ := fm_front (A := A) ok hi6
  rw [p1]
  have e9 : ∀ mc : Fmc, (arrC 6 fun i => slV (f i).s) = arrC 6 fun q => slV (updF f i { f i with mc := mc } q).s := fun mc => arrC_keepF (g := fun a : Fac => slV a.s) rfl
  have e11 : ∀ mc : Fmc, mc.qp = none → (arrC 6 fun i => Value.pointer (f i).mc.qp) = arrC 6 fun q => .pointer (updF f i { f i with mc := mc } q).mc.qp := fun mc h => arrC_keepF (g := fun a : Fac => .pointer a.mc.qp) (by rw [hmc]; show Value.pointer mc.qp = _; rw [h]; rfl)
  rw [hmc] at ok1 ⊢
  refine w_PushStep 0 1 (x := x) hA ok1 rfl rfl fun hB => ?_
  have ok3 : Ok I H (keys ([(j.1, pushObj j.2), (j.2, (x.stepM A).obj)] ++ fmH x5 x9 x10 x11 (arrC 6 fun i => slV (f i).s) (arrC 6 fun i => .pointer (f i).mc.pp) (arrC 6 fun i => .pointer (f i).mc.qp) ((f i).hb ++ (famR (fun i => (f i).bl) i 6 ++ tl)))) := ok1
  show wp Try.prog _ L (own (x.stepA A) ([(j.1, pushObj j.2), (j.2, (x.stepM A).obj)] ++ fmH x5 x9 x10 x11 (arrC 6 fun i => slV (f i).s) (arrC 6 fun i => .pointer (f i).mc.pp) (arrC 6 fun i => .pointer (f i).mc.qp) ((f i).hb ++ (famR (fun i => (f i).bl) i 6 ++ tl))) H) R
  obtain ⟨n1, n2⟩ := M.hand hi6 hmc
  have bn : ∀ q, b ∉ fmC ch q := fun q e => n1 (fmC_mem e)
  have al : (f i).al = (f i).xs ++ [b] := by unfold Fac.al; rw [hmc]; rfl
  rcases P.step M.fl (by omega) (by decide) (by decide) bn with ⟨sb, P', F', E, S⟩ | ⟨sb, F', E, S⟩
  · refine wp_false sb ?_
    obtain ⟨⟨r, er, -⟩, -⟩ := S
    have uB : (x.stepA A).uses = A.uses + 1 := by rw [er]
    have fB : (x.stepA A).fault = A.fault := by rw [er]
    have M' : FX I (x.stepA A) (updF f i { f i with mc := .pu (x.stepM A) j b }) na ch := M.step hi hB F' fB E ⟨n1, n2⟩ (by rw [al]; exact .refl _) (M.sls i hi6) P'
    obtain ⟨p5, ok5⟩ := fm_back (x5 := x5) (x9 := x9) (x10 := x10) (x11 := x11) (tl := tl) (A := x.stepA A) (a := { f i with mc := .pu (x.stepM A) j b }) (g := []) hi6 (e9 _) (arrC_keepF (g := fun a : Fac => .pointer a.mc.pp) (by rw [hmc]; rfl)) (e11 _ rfl) (perm_by fun c d c0 cd ca => by
      have h2 : c (Fmc.pu (x.stepM A) j b).bl = d (j.1, pushObj j.2) + d (j.2, (x.stepM A).obj) := by show c [_, _] = _; rw [cd, cd, c0]; rfl
      simp only [fmH, cd, ca, c0, h2]; omega) ok3
    rw [p5]
    exact h2 _ _ M' uB (pot_pu P M.fl (by omega) sb) ok5
  · refine wp_true sb ?_
    obtain ⟨⟨r, er, -⟩, -⟩ := S
    have uB : (x.stepA A).uses = A.uses + 1 := by rw [er]
    have fB : (x.stepA A).fault = A.fault := by rw [er]
    rw [fmC_6, fmC_upd] at F'
    have M' : FX I (x.stepA A) (updF f i { f i with mc := .idle }) na (b :: ch) := M.step hi hB F' fB E ⟨n1, n2⟩ (by rw [al]; show ((f i).xs ++ [] ++ ([b] ++ ch)).Perm _; rw [List.append_nil, List.append_assoc]) (M.sls i hi6) trivial
    refine w_arnS (N := 6) 3 (g := fun q => .pointer (f q).mc.pp) (e := ty_p_free_Push) hB ok3 rfl rfl rfl rfl (by omega) (by omega) rfl ?_
    have e10 : (arrC 6 fun q => if q = ((i : Int)).toNat then Value.pointer none else .pointer (f q).mc.pp) = arrC 6 fun q => .pointer (updF f i { f i with mc := .idle } q).mc.pp := by
      rw [Int.toNat_natCast]
      exact arrC_updF (n := 6) (g := fun a : Fac => Value.pointer a.mc.pp) (f := f) (i := i) (a := { f i with mc := .idle })
    rw [e10]
    have ok4 : Ok I H (keys ([(j.1, pushObj j.2), (j.2, (x.stepM A).obj)] ++ fmH x5 x9 x10 x11 (arrC 6 fun i => slV (f i).s) (arrC 6 fun q => .pointer (updF f i { f i with mc := .idle } q).mc.pp) (arrC 6 fun i => .pointer (f i).mc.qp) ((f i).hb ++ (famR (fun i => (f i).bl) i 6 ++ tl)))) := ok3
    show wp Try.prog _ L (own (x.stepA A) ([(j.1, pushObj j.2), (j.2, (x.stepM A).obj)] ++ fmH x5 x9 x10 x11 (arrC 6 fun i => slV (f i).s) (arrC 6 fun q => .pointer (updF f i { f i with mc := .idle } q).mc.pp) (arrC 6 fun i => .pointer (f i).mc.qp) ((f i).hb ++ (famR (fun i => (f i).bl) i 6 ++ tl))) H) R
    obtain ⟨p5, ok5⟩ := fm_back (x5 := x5) (x9 := x9) (x10 := x10) (x11 := x11) (tl := tl) (A := x.stepA A) (a := { f i with mc := .idle }) (g := [(j.1, pushObj j.2), (j.2, (x.stepM A).obj)]) hi6 (e9 _) rfl (e11 _ rfl) (perm_by fun c d c0 cd ca => by
      have h2 : c (Fmc.idle).bl = 0 := c0
      simp only [fmH, cd, ca, c0, h2]; omega) ok4
    rw [p5]
    exact h1 _ _ _ M' uB ok5

set_option maxHeartbeats 4000000 in
/-- A pop under way steps. -/
theorem fm_pop {x : Po} {j : Nat × Nat} {T1 T2 : Tree} (hi : i < na) (hk : k = i) (M : FX I A f na ch) (hu : A.uses ≤ 1000) (ok : Ok I H (keys (fmB x5 x9 x10 x11 f tl))) (hmc : (f i).mc = .po x j)
    (h1 : ∀ A' (a : Fac) ch' (g : Bl), a.mc = .idle → FX I A' (updF f i a) na ch' → A'.uses = A.uses + 1 → Ok I H (keys (fmB x5 x9 x10 x11 (updF f i a) (g ++ tl))) → wp Try.prog T1 L (own A' (fmB x5 x9 x10 x11 (updF f i a) (g ++ tl)) H) R)
    (h2 : ∀ A' y, FX I A' (updF f i { f i with mc := .po y j }) na ch → A'.uses = A.uses + 1 → (Fmc.po y j).pot A' + 1 ≤ (Fmc.po x j).pot A → Ok I H (keys (fmB x5 x9 x10 x11 (updF f i { f i with mc := .po y j }) tl)) → wp Try.prog T2 L (own A' (fmB x5 x9 x10 x11 (updF f i { f i with mc := .po y j }) tl) H) R) :
    wp Try.prog (.call f_free_Pop_Step [(.pointer (some ⟨j.1, 0, none⟩)), (.pointer (aI I))] (.one (.leaf .bool)) fun y =>
      bif y then (
        .look (opS Try.prog (.indexAddr ty_a6_p_free_Pop (.tmp 0) (.tmp 1)) ty_unit [(.pointer (some ⟨x11, 0, none⟩)), (.int .i64 k)]) (.one (.leaf .addr)) fun x104 =>
        .ld x104 .ptr fun x105 =>
        .call f_free_Pop_Base [(.pointer x105)] (.tup [(.leaf (.int .i64)), (.leaf .bool)]) fun x106 =>
        bif x106.2.1 then (
          .look (opS Try.prog (.indexAddr ty_a6_s_int (.tmp 0) (.tmp 1)) ty_unit [(.pointer (some ⟨x9, 0, none⟩)), (.int .i64 k)]) (.one (.leaf .addr)) fun x112 =>
          .ld x112 .slice fun x113 =>
          .newS (.cells #[(.int .i64 x106.1)] ty_int) 1 fun x115 =>
          .act (opS Try.prog (.call { callee := .builtin .append, args := #[(.tmp 0), (.tmp 1)], argTypes := #[ty_s_int, ty_s_int] }) ty_s_int [(.slice x113.a x113.len x113.cap), (.slice x115.a x115.len x115.cap)]) (.one (.leaf .slice)) fun x116 =>
          .look (opS Try.prog (.indexAddr ty_a6_s_int (.tmp 0) (.tmp 1)) ty_unit [(.pointer (some ⟨x9, 0, none⟩)), (.int .i64 k)]) (.one (.leaf .addr)) fun x117 =>
          .st x117 (.slice x116.a x116.len x116.cap) <|
          .look (opS Try.prog (.indexAddr ty_a6_p_free_Pop (.tmp 0) (.tmp 1)) ty_unit [(.pointer (some ⟨x11, 0, none⟩)), (.int .i64 k)]) (.one (.leaf .addr)) fun x119 =>
          .st x119 (.pointer none) T1)
        else (
          .look (opS Try.prog (.indexAddr ty_a6_p_free_Pop (.tmp 0) (.tmp 1)) ty_unit [(.pointer (some ⟨x11, 0, none⟩)), (.int .i64 k)]) (.one (.leaf .addr)) fun x119 =>
          .st x119 (.pointer none) T1))
      else T2) L (own A (fmB x5 x9 x10 x11 f tl) H) R := by
  subst hk
  have hA := M.aw
  have hn := M.nb
  have hi6 : i < 6 := by omega
  have P : PoI fmP 4 32 6 x A := by have := M.mc i hi6; rw [hmc] at this; exact this
  obtain ⟨p1, ok1⟩ := fm_front (A := A) ok hi6
  rw [p1]
  have e10 : ∀ a : Fac, a.mc.pp = none → (arrC 6 fun i => Value.pointer (f i).mc.pp) = arrC 6 fun q => .pointer (updF f i a q).mc.pp := fun a h => arrC_keepF (g := fun a : Fac => .pointer a.mc.pp) (by rw [hmc]; show Value.pointer a.mc.pp = _; rw [h]; rfl)
  have dq : Lf.dec .ptr ((fun q => Value.pointer (f q).mc.qp) ((i : Int)).toNat) = some (some ⟨j.1, 0, none⟩) := by
    show Lf.dec .ptr (Value.pointer (f ((i : Int)).toNat).mc.qp) = _
    rw [Int.toNat_natCast, hmc]; rfl
  rw [hmc] at ok1 ⊢
  refine w_PopStep 0 1 (x := x) hA ok1 rfl rfl fun hB => ?_
  have ok3 : Ok I H (keys ([(j.1, popObj j.2), (j.2, (x.stepM A).obj)] ++ fmH x5 x9 x10 x11 (arrC 6 fun i => slV (f i).s) (arrC 6 fun i => .pointer (f i).mc.pp) (arrC 6 fun i => .pointer (f i).mc.qp) ((f i).hb ++ (famR (fun i => (f i).bl) i 6 ++ tl)))) := ok1
  show wp Try.prog _ L (own (x.stepA A) ([(j.1, popObj j.2), (j.2, (x.stepM A).obj)] ++ fmH x5 x9 x10 x11 (arrC 6 fun i => slV (f i).s) (arrC 6 fun i => .pointer (f i).mc.pp) (arrC 6 fun i => .pointer (f i).mc.qp) ((f i).hb ++ (famR (fun i => (f i).bl) i 6 ++ tl))) H) R
  have al : (f i).al = (f i).xs ++ [] := by unfold Fac.al; rw [hmc]; rfl
  have m11 : ∀ {c9 c10 c11 r}, (x11, oc ty_a6_p_free_Pop c11) ∈ [(j.1, popObj j.2), (j.2, (x.stepM A).obj)] ++ fmH x5 x9 x10 x11 c9 c10 c11 r := List.mem_cons_of_mem _ (List.mem_cons_of_mem _ List.mem_cons_self)
  have m9 : ∀ {c9 c10 c11 r}, (x9, oc ty_a6_s_int c9) ∈ [(j.1, popObj j.2), (j.2, (x.stepM A).obj)] ++ fmH x5 x9 x10 x11 c9 c10 c11 r := List.mem_cons_of_mem _ (List.mem_cons_of_mem _ (List.mem_cons_of_mem _ (List.mem_cons_of_mem _ List.mem_cons_self)))
  have e11 : ∀ a : Fac, a.mc = .idle → (arrC 6 fun q => if q = ((i : Int)).toNat then Value.pointer none else .pointer (f q).mc.qp) = arrC 6 fun q => .pointer (updF f i a q).mc.qp := fun a h => by
    have := arrC_updF (n := 6) (g := fun a : Fac => Value.pointer a.mc.qp) (f := f) (i := i) (a := a)
    rw [Int.toNat_natCast]
    have hq : a.mc.qp = none := by rw [h]; rfl
    rw [hq] at this
    exact this
  rcases P.step M.fl (by omega) (by decide) (by decide) with ⟨sb, eA, P'⟩ | ⟨sb, eA, o, -⟩ | ⟨sb, o, b, l, hb, ba, eA⟩
  · refine wp_false sb ?_
    have pt := pot_po P M.fl (by omega) sb (j := j) (j' := j)
    rw [eA] at hB pt ⊢
    have M' : FX I (A.later 1) (updF f i { f i with mc := .po (x.stepM A) j }) na ch := M.step hi hB M.fl.tick rfl (FEv.same (fun _ _ _ => rfl) (by decide) (by decide)) ⟨M.neg1.1, fun j hj _ => M.neg1.2 j hj⟩ (by rw [al]; exact .refl _) (M.sls i hi6) P'
    obtain ⟨p5, ok5⟩ := fm_back (x5 := x5) (x9 := x9) (x10 := x10) (x11 := x11) (tl := tl) (A := A.later 1) (a := { f i with mc := .po (x.stepM A) j }) (g := []) hi6 (arrC_keepF (g := fun a : Fac => slV a.s) rfl) (e10 _ rfl) (arrC_keepF (g := fun a : Fac => .pointer a.mc.qp) (by rw [hmc]; rfl)) (perm_by fun c d c0 cd ca => by
      have h2 : c (Fmc.po (x.stepM A) j).bl = d (j.1, popObj j.2) + d (j.2, (x.stepM A).obj) := by show c [_, _] = _; rw [cd, cd, c0]; rfl
      simp only [fmH, cd, ca, c0, h2]; omega) ok3
    rw [p5]
    exact h2 _ _ M' rfl pt ok5
  · refine wp_true sb ?_
    rw [eA] at hB ⊢
    refine w_arn (N := 6) (g := fun q => .pointer (f q).mc.qp) (x := some ⟨j.1, 0, none⟩) (lf := .ptr) (e := ty_p_free_Pop) hB ok3 m11 rfl rfl rfl (by omega) (by omega) dq ?_
    refine w_Base 0 1 (x := x.stepM A) hB ok3 rfl rfl ?_
    refine wp_false o ?_
    refine w_arnS (N := 6) 2 (g := fun q => .pointer (f q).mc.qp) (e := ty_p_free_Pop) hB ok3 rfl rfl rfl rfl (by omega) (by omega) rfl ?_
    have M' : FX I (A.later 1) (updF f i { f i with mc := .idle }) na ch := M.step hi hB M.fl.tick rfl (FEv.same (fun _ _ _ => rfl) (by decide) (by decide)) ⟨M.neg1.1, fun j hj _ => M.neg1.2 j hj⟩ (by rw [al]; exact .refl _) (M.sls i hi6) trivial
    rw [e11 { f i with mc := .idle } rfl]
    have ok4 : Ok I H (keys ([(j.1, popObj j.2), (j.2, (x.stepM A).obj)] ++ fmH x5 x9 x10 x11 (arrC 6 fun i => slV (f i).s) (arrC 6 fun i => .pointer (f i).mc.pp) (arrC 6 fun q => .pointer (updF f i { f i with mc := .idle } q).mc.qp) ((f i).hb ++ (famR (fun i => (f i).bl) i 6 ++ tl)))) := ok3
    show wp Try.prog _ L (own (A.later 1) ([(j.1, popObj j.2), (j.2, (x.stepM A).obj)] ++ fmH x5 x9 x10 x11 (arrC 6 fun i => slV (f i).s) (arrC 6 fun i => .pointer (f i).mc.pp) (arrC 6 fun q => .pointer (updF f i { f i with mc := .idle } q).mc.qp) ((f i).hb ++ (famR (fun i => (f i).bl) i 6 ++ tl))) H) R
    obtain ⟨p5, ok5⟩ := fm_back (x5 := x5) (x9 := x9) (x10 := x10) (x11 := x11) (tl := tl) (A := A.later 1) (a := { f i with mc := .idle }) (g := [(j.1, popObj j.2), (j.2, (x.stepM A).obj)]) hi6 (arrC_keepF (g := fun a : Fac => slV a.s) rfl) (e10 _ rfl) rfl (perm_by fun c d c0 cd ca => by
      have h2 : c (Fmc.idle).bl = 0 := c0
      simp only [fmH, cd, ca, c0, h2]; omega) ok4
    rw [p5]
    exact h1 _ _ _ _ rfl M' rfl ok5
  · refine wp_true sb ?_
    rw [fmC_6] at hb
    subst hb
    obtain ⟨F', E⟩ := M.fl.pop1 (by omega) (k := 6) (b := b) (l := l) (by rw [fmC_6])
    rw [fmC_upd] at F'
    rw [eA] at hB ⊢
    have uB : ((A.later 1).setR (6 : Int).toNat (nextF (A.rawF 6) (A.rawF (4 * 4 + b / 8)))).uses = A.uses + 1 := rfl
    have fB : ((A.later 1).setR (6 : Int).toNat (nextF (A.rawF 6) (A.rawF (4 * 4 + b / 8)))).fault = A.fault := rfl
    generalize (A.later 1).setR (6 : Int).toNat (nextF (A.rawF 6) (A.rawF (4 * 4 + b / 8))) = B at *
    refine w_arn (N := 6) (g := fun q => .pointer (f q).mc.qp) (x := some ⟨j.1, 0, none⟩) (lf := .ptr) (e := ty_p_free_Pop) hB ok3 m11 rfl rfl rfl (by omega) (by omega) dq ?_
    refine w_Base 0 1 (x := x.stepM A) hB ok3 rfl rfl ?_
    refine wp_true o ?_
    dsimp only
    rw [ba]
    refine w_arn (N := 6) (g := fun q => slV (f q).s) (x := (f i).s) (lf := .slice) (e := ty_s_int) hB ok3 m9 rfl rfl rfl (by omega) (by omega) (by rw [Int.toNat_natCast]; rfl) ?_
    refine w_newS (c := [.int .i64 b]) hB ok3 fun q ok4 => ?_
    have ln := M.len hi6
    have ok4 : Ok I H (keys (((q, oc ty_int [.int .i64 b]) :: (j.1, popObj j.2) :: (j.2, (x.stepM A).obj) :: fmH x5 x9 x10 x11 (arrC 6 fun i => slV (f i).s) (arrC 6 fun i => .pointer (f i).mc.pp) (arrC 6 fun i => .pointer (f i).mc.qp) []) ++ ((f i).hb ++ (famR (fun i => (f i).bl) i 6 ++ tl)))) := ok4
    show wp Try.prog _ L (own B (((q, oc ty_int [.int .i64 b]) :: (j.1, popObj j.2) :: (j.2, (x.stepM A).obj) :: fmH x5 x9 x10 x11 (arrC 6 fun i => slV (f i).s) (arrC 6 fun i => .pointer (f i).mc.pp) (arrC 6 fun i => .pointer (f i).mc.qp) []) ++ ((f i).hb ++ (famR (fun i => (f i).bl) i 6 ++ tl))) H) R
    refine w_appM (E := eI) elI (ys := [b]) (t := ⟨some ⟨q, 0, none⟩, 1, 1⟩) _ hB ok4 (M.sls i hi6) (cell_row hB ok4 (List.mem_append_left _ List.mem_cons_self) 0 rfl) rfl (by simp; omega) fun s' mid' hs' ok5 => ?_
    have ok5 : Ok I H (keys ((q, oc ty_int [.int .i64 b]) :: (j.1, popObj j.2) :: (j.2, (x.stepM A).obj) :: fmH x5 x9 x10 x11 (arrC 6 fun i => slV (f i).s) (arrC 6 fun i => .pointer (f i).mc.pp) (arrC 6 fun i => .pointer (f i).mc.qp) (mid' ++ (famR (fun i => (f i).bl) i 6 ++ tl)))) := ok5
    show wp Try.prog _ L (own B ((q, oc ty_int [.int .i64 b]) :: (j.1, popObj j.2) :: (j.2, (x.stepM A).obj) :: fmH x5 x9 x10 x11 (arrC 6 fun i => slV (f i).s) (arrC 6 fun i => .pointer (f i).mc.pp) (arrC 6 fun i => .pointer (f i).mc.qp) (mid' ++ (famR (fun i => (f i).bl) i 6 ++ tl))) H) R
    refine w_arnS (N := 6) 5 (g := fun q => slV (f q).s) (e := ty_s_int) hB ok5 rfl rfl rfl rfl (by omega) (by omega) rfl ?_
    have e9 : (arrC 6 fun q => if q = ((i : Int)).toNat then Value.slice s'.a s'.len s'.cap else slV (f q).s) = arrC 6 fun q => slV (updF f i { mc := .idle, xs := (f i).xs ++ [b], s := s', hb := mid' } q).s := by
      rw [Int.toNat_natCast]
      exact arrC_updF (n := 6) (g := fun a : Fac => slV a.s) (f := f) (i := i) (a := { mc := .idle, xs := (f i).xs ++ [b], s := s', hb := mid' })
    rw [e9]
    refine w_arnS (N := 6) 3 (g := fun q => .pointer (f q).mc.qp) (e := ty_p_free_Pop) hB (by exact ok5) rfl rfl rfl rfl (by omega) (by omega) rfl ?_
    rw [e11 { mc := .idle, xs := (f i).xs ++ [b], s := s', hb := mid' } rfl]
    have ok6 : Ok I H (keys ((q, oc ty_int [.int .i64 b]) :: (j.1, popObj j.2) :: (j.2, (x.stepM A).obj) :: fmH x5 x9 x10 x11 (arrC 6 fun q => slV (updF f i { mc := .idle, xs := (f i).xs ++ [b], s := s', hb := mid' } q).s) (arrC 6 fun i => .pointer (f i).mc.pp) (arrC 6 fun q => .pointer (updF f i { mc := .idle, xs := (f i).xs ++ [b], s := s', hb := mid' } q).mc.qp) (mid' ++ (famR (fun i => (f i).bl) i 6 ++ tl)))) := ok5
    show wp Try.prog _ L (own B ((q, oc ty_int [.int .i64 b]) :: (j.1, popObj j.2) :: (j.2, (x.stepM A).obj) :: fmH x5 x9 x10 x11 (arrC 6 fun q => slV (updF f i { mc := .idle, xs := (f i).xs ++ [b], s := s', hb := mid' } q).s) (arrC 6 fun i => .pointer (f i).mc.pp) (arrC 6 fun q => .pointer (updF f i { mc := .idle, xs := (f i).xs ++ [b], s := s', hb := mid' } q).mc.qp) (mid' ++ (famR (fun i => (f i).bl) i 6 ++ tl))) H) R
    have M' : FX I B (updF f i { mc := .idle, xs := (f i).xs ++ [b], s := s', hb := mid' }) na l := M.step hi hB F' fB E ⟨M.neg1.1, fun j hj _ => M.neg1.2 j hj⟩ (by rw [al]; show ((f i).xs ++ [b] ++ [] ++ l).Perm ((f i).xs ++ [] ++ ([b] ++ l)); simp) hs' trivial
    obtain ⟨p7, ok7⟩ := fm_back (x5 := x5) (x9 := x9) (x10 := x10) (x11 := x11) (tl := tl) (A := B) (a := { mc := .idle, xs := (f i).xs ++ [b], s := s', hb := mid' }) (g := [(q, oc ty_int [.int .i64 b]), (j.1, popObj j.2), (j.2, (x.stepM A).obj)]) hi6 rfl (e10 _ rfl) rfl (perm_by fun c d c0 cd ca => by
      have h2 : c (Fmc.idle).bl = 0 := c0
      simp only [fmH, cd, ca, c0, h2]; omega) ok6
    rw [p7]
    exact h1 _ _ _ _ rfl M' uB ok7
end
end Go.Proofs.Ytjleoogieoahnaa

set_option linter.unusedVariables false
set_option linter.unusedSimpArgs false
set_option maxRecDepth 20000
namespace Go.Proofs.Ytjleoogieoahnaa
open Go Go.Fw

theorem getD_last (l : List Int) (b : Int) : (l ++ [b]).getD l.length 0 = b := by
  rw [List.getD_eq_getElem?_getD, List.getElem?_append_right (Nat.le_refl _), Nat.sub_self]; rfl

section
variable {L : Hands} {R : Value → Heap → Prop} {H : Heap} {I : List Nat} {A : Ar} {f : Nat → Fac} {na : Nat} {ch : List Int} {tl : Bl} {x5 x9 x10 x11 x13 : Nat} {k : Int} {i : Nat}

theorem fm_x13 {g : Nat → Int} (ok : Ok I H (keys (fmB x5 x9 x10 x11 f tl))) (hm : (x13, oc ty_a6_int (arrC 6 fun j => .int .i64 (g j))) ∈ tl) : ∃ t, own A (fmB x5 x9 x10 x11 f tl) H = own A ((x13, oc ty_a6_int (arrC 6 fun j => .int .i64 (g j))) :: fmB x5 x9 x10 x11 f t) H ∧
    Ok I H (keys ((x13, oc ty_a6_int (arrC 6 fun j => .int .i64 (g j))) :: fmB x5 x9 x10 x11 f t)) := by
  obtain ⟨t1, t2, rfl⟩ := List.append_of_mem hm
  refine ⟨t1 ++ t2, own_perm (A := A) ok (perm_by fun c d c0 cd ca => ?_)⟩
  simp only [fmB, fmH, cd, ca]
  omega

set_option maxHeartbeats 4000000 in
theorem fm_newPush {T : Tree} (hi : i < na) (hk : k = i) (M : FX I A f na ch) (ok : Ok I H (keys (fmB x5 x9 x10 x11 f tl))) (hmc : (f i).mc = .idle) (hx : (f i).xs ≠ []) (hm : ∃ g : Nat → Int, (x13, oc ty_a6_int (arrC 6 fun j => .int .i64 (g j))) ∈ tl)
    (h : ∀ a tl', FX I A (updF f i a) na ch → Ok I H (keys (fmB x5 x9 x10 x11 (updF f i a) tl')) → (∃ g : Nat → Int, (x13, oc ty_a6_int (arrC 6 fun j => .int .i64 (g j))) ∈ tl') → wp Try.prog T L (own A (fmB x5 x9 x10 x11 (updF f i a) tl') H) R) :
    wp Try.prog (
              .look (opS Try.prog (.indexAddr ty_a6_s_int (.tmp 0) (.tmp 1)) ty_unit [(.pointer (some ⟨x9, 0, none⟩)), (.int .i64 k)]) (.one (.leaf .addr)) fun x134 =>
              .ld x134 .slice fun x135 =>
              .look (opS Try.prog (.indexAddr ty_a6_s_int (.tmp 0) (.tmp 1)) ty_unit [(.pointer (some ⟨x9, 0, none⟩)), (.int .i64 k)]) (.one (.leaf .addr)) fun x140 =>
              .ld x140 .slice fun x141 =>
              .look (opS Try.prog (.indexAddr ty_s_int (.tmp 0) (.tmp 1)) ty_unit [(.slice x141.a x141.len x141.cap), (.int .i64 (w64 (((x135.len : Nat) : Int) - 1)))]) (.one (.leaf .addr)) fun x143 =>
              .ld x143 (.int .i64) fun x144 =>
              .look (opS Try.prog (.indexAddr ty_a6_int (.tmp 0) (.tmp 1)) ty_unit [(.pointer (some ⟨x13, 0, none⟩)), (.int .i64 k)]) (.one (.leaf .addr)) fun x145 =>
              .st x145 (.int .i64 x144) <|
              .ldA ⟨x5, 0, none⟩ [(.int .i64), (.int .i64), (.int .i64), (.int .i64), (.int .i64)] fun x147 =>
              .look (opS Try.prog (.indexAddr ty_a6_s_int (.tmp 0) (.tmp 1)) ty_unit [(.pointer (some ⟨x9, 0, none⟩)), (.int .i64 k)]) (.one (.leaf .addr)) fun x149 =>
              .ld x149 .slice fun x150 =>
              .look (opS Try.prog (.indexAddr ty_s_int (.tmp 0) (.tmp 1)) ty_unit [(.slice x150.a x150.len x150.cap), (.int .i64 (w64 (((x135.len : Nat) : Int) - 1)))]) (.one (.leaf .addr)) fun x152 =>
              .ld x152 (.int .i64) fun x153 =>
              .call f_free_NewPush [(.agg #[(.int .i64 x147.1), (.int .i64 x147.2.1), (.int .i64 x147.2.2.1), (.int .i64 x147.2.2.2.1), (.int .i64 x147.2.2.2.2.1)]), (.int .i64 1), (.int .i64 2), (.int .i64 x153)] (.one (.leaf .ptr)) fun x154 =>
              .look (opS Try.prog (.indexAddr ty_a6_p_free_Push (.tmp 0) (.tmp 1)) ty_unit [(.pointer (some ⟨x10, 0, none⟩)), (.int .i64 k)]) (.one (.leaf .addr)) fun x155 =>
              .st x155 (.pointer x154) <|
              .look (opS Try.prog (.indexAddr ty_a6_s_int (.tmp 0) (.tmp 1)) ty_unit [(.pointer (some ⟨x9, 0, none⟩)), (.int .i64 k)]) (.one (.leaf .addr)) fun x158 =>
              .ld x158 .slice fun x159 =>
              .look (opS Try.prog (.slice ty_s_int (.tmp 0) none (some (.tmp 1)) none) ty_s_int [(.slice x159.a x159.len x159.cap), (.int .i64 (w64 (((x135.len : Nat) : Int) - 1)))]) (.one (.leaf .slice)) fun x161 =>
              .look (opS Try.prog (.indexAddr ty_a6_s_int (.tmp 0) (.tmp 1)) ty_unit [(.pointer (some ⟨x9, 0, none⟩)), (.int .i64 k)]) (.one (.leaf .addr)) fun x162 =>
              .st x162 (.slice x161.a x161.len x161.cap) T) L (own A (fmB x5 x9 x10 x11 f tl) H) R := by
  subst hk
  have hA := M.aw
  have hn := M.nb
  have hi6 : i < 6 := by omega
  obtain ⟨g, hm⟩ := hm
  obtain ⟨t, p1, ok1⟩ := fm_x13 (A := A) ok hm
  rw [p1]
  obtain ⟨l, b, hl⟩ : ∃ l b, (f i).xs = l ++ [b] := by
    rcases List.eq_nil_or_concat (f i).xs with h | ⟨l, b, h⟩
    · exact (hx h).elim
    · exact ⟨l, b, by rw [h]; simp⟩
  have hs := M.sls i hi6
  have ln := M.len hi6
  rw [hl] at hs ln
  have sl := hs.len
  rw [List.length_append, List.length_singleton] at sl ln
  have sc : (((f i).s.len : Nat) : Int) ≤ (f i).s.cap := by
    rcases hs with ⟨e, e2⟩ | ⟨b, rest, r, e, _⟩
    · simp at e2
    · rw [e]; show (((l ++ [_]).length : Nat) : Int) ≤ (((l ++ [_]).length + r : Nat) : Int); omega
  have hsm : ∀ {q : Bl}, SlOf (q ++ (famB (fun i => (f i).bl) 6 ++ t)) ty_int eI (f i).s (l ++ [b]) := fun {q} => hs.mono fun p hp => List.mem_append_right _ (List.mem_append_left _ (famB_mem.2 ⟨i, hi6, List.mem_append_right _ hp⟩))
  have lw : w64 ((((f i).s.len : Nat) : Int) - 1) = (l.length : Int) := by rw [w64_in (by omega) (by omega)]; omega
  have m9 : ∀ {o}, (x9, oc ty_a6_s_int (arrC 6 fun i => slV (f i).s)) ∈ o :: fmB x5 x9 x10 x11 f t := List.mem_cons_of_mem _ (List.mem_cons_of_mem _ (List.mem_cons_of_mem _ List.mem_cons_self))
  have d9 : Lf.dec .slice ((fun q => slV (f q).s) ((i : Int)).toNat) = some (f i).s := by show Lf.dec .slice (slV (f ((i : Int)).toNat).s) = _; rw [Int.toNat_natCast]; rfl
  refine w_arn (N := 6) (g := fun q => slV (f q).s) (x := (f i).s) (lf := .slice) (e := ty_s_int) hA ok1 m9 rfl rfl rfl (by omega) (by omega) d9 ?_
  refine w_arn (N := 6) (g := fun q => slV (f q).s) (x := (f i).s) (lf := .slice) (e := ty_s_int) hA ok1 m9 rfl rfl rfl (by omega) (by omega) d9 ?_
  rw [lw]
  refine w_rdI hA ok1 (xs := l ++ [b]) (hsm (q := (x13, oc ty_a6_int (arrC 6 fun j => .int .i64 (g j))) :: fmH x5 x9 x10 x11 _ _ _ [])) (by omega) (by simp; omega) ?_
  rw [Int.toNat_natCast, getD_last]
  refine w_arnS (N := 6) 0 (g := fun q => .int .i64 (g q)) (e := ty_int) hA ok1 rfl rfl rfl rfl (by omega) (by omega) rfl ?_
  obtain ⟨g', eg⟩ : ∃ g' : Nat → Int, (arrC 6 fun j => if j = ((i : Int)).toNat then Value.int .i64 b else .int .i64 (g j)) = arrC 6 fun j => .int .i64 (g' j) := ⟨fun j => if j = ((i : Int)).toNat then b else g j, by congr 1; funext j; dsimp only; split <;> rfl⟩
  rw [eg]
  have ok2 : Ok I H (keys ((x13, oc ty_a6_int (arrC 6 fun j => .int .i64 (g' j))) :: fmB x5 x9 x10 x11 f t)) := ok1
  show wp Try.prog _ L (own A ((x13, oc ty_a6_int (arrC 6 fun j => .int .i64 (g' j))) :: fmB x5 x9 x10 x11 f t) H) R
  refine w_ldA 4 hA ok2 rfl rfl rfl ?_
  refine w_arn (N := 6) (g := fun q => slV (f q).s) (x := (f i).s) (lf := .slice) (e := ty_s_int) hA ok2 m9 rfl rfl rfl (by omega) (by omega) d9 ?_
  refine w_rdI hA ok2 (xs := l ++ [b]) (hsm (q := (x13, oc ty_a6_int (arrC 6 fun j => .int .i64 (g' j))) :: fmH x5 x9 x10 x11 _ _ _ [])) (by omega) (by simp; omega) ?_
  rw [Int.toNat_natCast, getD_last]
  refine w_NewPush (p := fmP) hA ok2 fun q0 q1 ok3 => ?_
  have h6 : headF fmP 1 2 = 6 := by decide
  rw [h6] at ok3 ⊢
  refine w_arnS (N := 6) 4 (g := fun q => .pointer (f q).mc.pp) (e := ty_p_free_Push) hA ok3 rfl rfl rfl rfl (by omega) (by omega) rfl ?_
  obtain ⟨a, ea⟩ : ∃ a : Fac, a = { mc := .pu ⟨fmP, 6, 0, 0, b⟩ (q0, q1) b, xs := l, s := ⟨(f i).s.a, l.length, (f i).s.cap⟩, hb := (f i).hb } := ⟨_, rfl⟩
  have e10 : (arrC 6 fun q => if q = ((i : Int)).toNat then Value.pointer (some ⟨q0, 0, none⟩) else .pointer (f q).mc.pp) = arrC 6 fun q => .pointer (updF f i a q).mc.pp := by
    have := arrC_updF (n := 6) (g := fun a : Fac => Value.pointer a.mc.pp) (f := f) (i := i) (a := a)
    rw [Int.toNat_natCast]
    have hq : a.mc.pp = some ⟨q0, 0, none⟩ := by rw [ea]; rfl
    rw [hq] at this
    exact this
  rw [e10]
  have ok4 : Ok I H (keys ((q0, pushObj q1) :: (q1, Pu.obj ⟨fmP, 6, 0, 0, b⟩) :: (x13, oc ty_a6_int (arrC 6 fun j => .int .i64 (g' j))) :: fmH x5 x9 x10 x11 (arrC 6 fun i => slV (f i).s) (arrC 6 fun q => .pointer (updF f i a q).mc.pp) (arrC 6 fun i => .pointer (f i).mc.qp) (famB (fun i => (f i).bl) 6 ++ t))) := ok3
  show wp Try.prog _ L (own A ((q0, pushObj q1) :: (q1, Pu.obj ⟨fmP, 6, 0, 0, b⟩) :: (x13, oc ty_a6_int (arrC 6 fun j => .int .i64 (g' j))) :: fmH x5 x9 x10 x11 (arrC 6 fun i => slV (f i).s) (arrC 6 fun q => .pointer (updF f i a q).mc.pp) (arrC 6 fun i => .pointer (f i).mc.qp) (famB (fun i => (f i).bl) 6 ++ t)) H) R
  refine w_arn (N := 6) (g := fun q => slV (f q).s) (x := (f i).s) (lf := .slice) (e := ty_s_int) hA ok4 (List.mem_cons_of_mem _ (List.mem_cons_of_mem _ (List.mem_cons_of_mem _ (List.mem_cons_of_mem _ (List.mem_cons_of_mem _ List.mem_cons_self))))) rfl rfl rfl (by omega) (by omega) d9 ?_
  refine w_cut (by omega) (by omega) ?_
  refine w_arnS (N := 6) 5 (g := fun q => slV (f q).s) (e := ty_s_int) hA ok4 rfl rfl rfl rfl (by omega) (by omega) rfl ?_
  have e9 : (arrC 6 fun q => if q = ((i : Int)).toNat then Value.slice (f i).s.a ((l.length : Int)).toNat (f i).s.cap else slV (f q).s) = arrC 6 fun q => slV (updF f i a q).s := by
    rw [Int.toNat_natCast, Int.toNat_natCast]
    have := arrC_updF (n := 6) (g := fun a : Fac => slV a.s) (f := f) (i := i) (a := a)
    have hq : slV a.s = .slice (f i).s.a l.length (f i).s.cap := by rw [ea]; rfl
    rw [hq] at this
    exact this
  rw [e9]
  have ok5 : Ok I H (keys ((q0, pushObj q1) :: (q1, Pu.obj ⟨fmP, 6, 0, 0, b⟩) :: (x13, oc ty_a6_int (arrC 6 fun j => .int .i64 (g' j))) :: fmH x5 x9 x10 x11 (arrC 6 fun q => slV (updF f i a q).s) (arrC 6 fun q => .pointer (updF f i a q).mc.pp) (arrC 6 fun i => .pointer (f i).mc.qp) (famB (fun i => (f i).bl) 6 ++ t))) := ok4
  show wp Try.prog _ L (own A ((q0, pushObj q1) :: (q1, Pu.obj ⟨fmP, 6, 0, 0, b⟩) :: (x13, oc ty_a6_int (arrC 6 fun j => .int .i64 (g' j))) :: fmH x5 x9 x10 x11 (arrC 6 fun q => slV (updF f i a q).s) (arrC 6 fun q => .pointer (updF f i a q).mc.pp) (arrC 6 fun i => .pointer (f i).mc.qp) (famB (fun i => (f i).bl) 6 ++ t)) H) R
  have al : (f i).al = l ++ [b] ++ [] := by unfold Fac.al; rw [hmc, hl]; rfl
  have hbm : b ∈ famB (fun i => (f i).al) 6 ++ ch := List.mem_append_left _ (famB_mem.2 ⟨i, hi6, by rw [al]; simp⟩)
  have M' : FX I A (updF f i a) na ch := M.step hi hA M.fl rfl (FEv.same (fun _ _ _ => rfl) (by decide) (by decide)) ⟨M.neg1.1, fun j hj _ => M.neg1.2 j hj⟩ (by rw [al, ea]; show (l ++ [b] ++ ch).Perm _; simp)
    (by
      rw [ea]
      have := hs.take (n := l.length) (by simp)
      rw [List.take_left] at this
      exact this) (by rw [ea]; exact PuI.new (who := 1) (c := 2) h6 (M.base hbm))
  obtain ⟨p5, ok6⟩ := fm_back (x5 := x5) (x9 := x9) (x10 := x10) (x11 := x11) (tl := t) (A := A) (a := a) (g := [(x13, oc ty_a6_int (arrC 6 fun j => .int .i64 (g' j)))]) hi6 rfl rfl (arrC_keepF (g := fun a : Fac => .pointer a.mc.qp) (by rw [hmc, ea]; rfl)) (perm_by fun c d c0 cd ca => by
      have h2 : c a.mc.bl = d (q0, pushObj q1) + d (q1, Pu.obj ⟨fmP, 6, 0, 0, b⟩) := by rw [ea]; show c [_, _] = _; rw [cd, cd, c0]; rfl
      have h3 := famB_c c0 ca (fun i => (f i).bl) hi6
      have h4 : c (f i).bl = c a.hb := by rw [ea]; show c ((f i).mc.bl ++ (f i).hb) = c (f i).hb; rw [hmc]; rfl
      simp only [fmH, cd, ca, c0, h2]; omega) ok5
  rw [p5]
  exact h a _ M' ok6 ⟨g', List.mem_append_left _ List.mem_cons_self⟩

set_option maxHeartbeats 2000000 in
theorem fm_newPop {T : Tree} (hi : i < na) (hk : k = i) (M : FX I A f na ch) (ok : Ok I H (keys (fmB x5 x9 x10 x11 f tl))) (hmc : (f i).mc = .idle)
    (h : ∀ a, FX I A (updF f i a) na ch → Ok I H (keys (fmB x5 x9 x10 x11 (updF f i a) tl)) → wp Try.prog T L (own A (fmB x5 x9 x10 x11 (updF f i a) tl) H) R) :
    wp Try.prog (
            .ldA ⟨x5, 0, none⟩ [(.int .i64), (.int .i64), (.int .i64), (.int .i64), (.int .i64)] fun x77 =>
            .call f_free_NewPop [(.agg #[(.int .i64 x77.1), (.int .i64 x77.2.1), (.int .i64 x77.2.2.1), (.int .i64 x77.2.2.2.1), (.int .i64 x77.2.2.2.2.1)]), (.int .i64 1), (.int .i64 2)] (.one (.leaf .ptr)) fun x78 =>
            .look (opS Try.prog (.indexAddr ty_a6_p_free_Pop (.tmp 0) (.tmp 1)) ty_unit [(.pointer (some ⟨x11, 0, none⟩)), (.int .i64 k)]) (.one (.leaf .addr)) fun x79 =>
            .st x79 (.pointer x78) T) L (own A (fmB x5 x9 x10 x11 f tl) H) R := by
  subst hk
  have hA := M.aw
  have hn := M.nb
  have hi6 : i < 6 := by omega
  refine w_ldA 3 hA ok rfl rfl rfl ?_
  refine w_NewPop (p := fmP) hA ok fun q0 q1 ok3 => ?_
  have h6 : headF fmP 1 2 = 6 := by decide
  rw [h6] at ok3 ⊢
  refine w_arnS (N := 6) 2 (g := fun q => .pointer (f q).mc.qp) (e := ty_p_free_Pop) hA ok3 rfl rfl rfl rfl (by omega) (by omega) rfl ?_
  obtain ⟨a, ea⟩ : ∃ a : Fac, a = { f i with mc := .po ⟨fmP, 6, 0, 0, 0, 0, false⟩ (q0, q1) } := ⟨_, rfl⟩
  have e11 : (arrC 6 fun q => if q = ((i : Int)).toNat then Value.pointer (some ⟨q0, 0, none⟩) else .pointer (f q).mc.qp) = arrC 6 fun q => .pointer (updF f i a q).mc.qp := by
    have := arrC_updF (n := 6) (g := fun a : Fac => Value.pointer a.mc.qp) (f := f) (i := i) (a := a)
    rw [Int.toNat_natCast]
    have hq : a.mc.qp = some ⟨q0, 0, none⟩ := by rw [ea]; rfl
    rw [hq] at this
    exact this
  rw [e11]
  have ok4 : Ok I H (keys ((q0, popObj q1) :: (q1, Po.obj ⟨fmP, 6, 0, 0, 0, 0, false⟩) :: fmH x5 x9 x10 x11 (arrC 6 fun i => slV (f i).s) (arrC 6 fun i => .pointer (f i).mc.pp) (arrC 6 fun q => .pointer (updF f i a q).mc.qp) (famB (fun i => (f i).bl) 6 ++ tl))) := ok3
  show wp Try.prog _ L (own A ((q0, popObj q1) :: (q1, Po.obj ⟨fmP, 6, 0, 0, 0, 0, false⟩) :: fmH x5 x9 x10 x11 (arrC 6 fun i => slV (f i).s) (arrC 6 fun i => .pointer (f i).mc.pp) (arrC 6 fun q => .pointer (updF f i a q).mc.qp) (famB (fun i => (f i).bl) 6 ++ tl)) H) R
  have al : (f i).al = (f i).xs ++ [] := by unfold Fac.al; rw [hmc]; rfl
  have M' : FX I A (updF f i a) na ch := M.step hi hA M.fl rfl (FEv.same (fun _ _ _ => rfl) (by decide) (by decide)) ⟨M.neg1.1, fun j hj _ => M.neg1.2 j hj⟩ (by rw [al, ea]; exact .refl _)
    (by rw [ea]; exact M.sls i hi6) (by rw [ea]; exact PoI.new (who := 1) (c := 2) rfl (by decide) h6)
  obtain ⟨p5, ok6⟩ := fm_back (x5 := x5) (x9 := x9) (x10 := x10) (x11 := x11) (tl := tl) (A := A) (a := a) (g := []) hi6 (arrC_keepF (g := fun a : Fac => slV a.s) (by rw [ea])) (arrC_keepF (g := fun a : Fac => .pointer a.mc.pp) (by rw [hmc, ea]; rfl)) rfl (perm_by fun c d c0 cd ca => by
      have h2 : c a.mc.bl = d (q0, popObj q1) + d (q1, Po.obj ⟨fmP, 6, 0, 0, 0, 0, false⟩) := by rw [ea]; show c [_, _] = _; rw [cd, cd, c0]; rfl
      have h3 := famB_c c0 ca (fun i => (f i).bl) hi6
      have h4 : c (f i).bl = c a.hb := by rw [ea]; show c ((f i).mc.bl ++ (f i).hb) = c (f i).hb; rw [hmc]; rfl
      simp only [fmH, cd, ca, c0, h2]; omega) ok4
  rw [p5]
  exact h a M' ok6
end
end Go.Proofs.Ytjleoogieoahnaa

set_option linter.unusedVariables false
set_option linter.unusedSimpArgs false
set_option maxRecDepth 20000
namespace Go.Proofs.Ytjleoogieoahnaa
open Go Go.Fw

theorem famB_congr2 {β : Type} {f g : Nat → List β} : ∀ {n : Nat}, (∀ j, j < n → f j = g j) → famB f n = famB g n
  | 0, _ => rfl
  | n + 1, h => by show famB f n ++ f n = famB g n ++ g n; rw [famB_congr2 fun j hj => h j (by omega), h n (by omega)]
theorem bas_succ (n : Nat) : bas (2 * (n + 1)) = bas (2 * n) ++ [16 * (n : Int), 16 * (n : Int) + 8] := by
  unfold bas
  rw [show 2 * (n + 1) = 2 * n + 1 + 1 by omega, List.range_succ, List.range_succ]
  simp only [List.map_append, List.map_cons, List.map_nil, List.append_assoc, List.cons_append, List.nil_append]
  congr 2
  · omega
  · congr 1; omega
theorem bas_fam (n : Nat) : famB (fun j => [16 * (j : Int), 16 * (j : Int) + 8]) n = bas (2 * n) := by
  induction n with
  | zero => rfl
  | succ n ih => rw [bas_succ, ← ih]; rfl
theorem bas_count (m b : Nat) : (bas m).count (8 * (b : Int)) = if b < m then 1 else 0 := by
  split
  · rename_i h; exact Nat.le_antisymm (List.nodup_iff_count.1 (bas_nd m) _) (List.count_pos_iff.2 (bas_mem.2 ⟨b, h, rfl⟩))
  · rename_i h
    refine List.count_eq_zero_of_not_mem fun e => ?_
    obtain ⟨i, h1, h2⟩ := bas_mem.1 e
    omega

section
variable {L : Hands} {R : Value → Heap → Prop} {H : Heap} {I : List Nat} {A : Ar} {f : Nat → Fac} {na : Nat} {ch : List Int} {tl : Bl} {x5 x9 x10 x11 x13 x21 : Nat} {i : Nat}

theorem fm_J1 {q : Bool} {n was : Int} (hA : Aw I A) (hw : 0 ≤ was ∧ was ≤ 1000 ∧ A.uses ≤ was + 1) (hn : 0 ≤ n ∧ n ≤ 1000) {l : Bl} (h : wp Try.prog (.again 960 [(.bool q), (.int .i64 (n + 1))]) L (own A l H) R) :
    wp Try.prog (t_magpielaw10_FreeMixes_J1 (aI I) (q, n, ()) was) L (own A l H) R := by
  unfold t_magpielaw10_FreeMixes_J1
  refine w_Uses hA ?_
  refine wp_false (decide_eq_false (by show ¬ A.uses > w64 (was + 1); rw [w64_in (by omega) (by omega)]; omega)) ?_
  dsimp only
  rw [w64_in (x := n + 1) (by omega) (by omega)]
  exact h

theorem fm_ptrs (i6 : i < 6) (hA : Aw I A) : True := trivial

abbrev FmK (I : List Nat) (H : Heap) (x5 x9 x10 x11 x13 : Nat) (na : Nat) (n : Int) (K : Heap) : Prop :=
  ∃ A f ch tl, FX I A f na ch ∧ A.uses ≤ n ∧ Ok I H (keys (fmB x5 x9 x10 x11 f tl)) ∧ (∃ g : Nat → Int, (x13, oc ty_a6_int (arrC 6 fun j => .int .i64 (g j))) ∈ tl) ∧ K = own A (fmB x5 x9 x10 x11 f tl) H

set_option maxHeartbeats 4000000 in
/-- A pick. -/
theorem fm_pick {p1 : Sl} {zs : List Int} {x40 n : Int} {q : Bool} (hz : RowOf H p1.a p1.len zs) (hI : ∀ {A : Ar} {l : Bl}, Aw I A → Ok I H (keys l) → H.le (own A l H)) (hna : (na : Int) = 1 + x40) (M : FX I A f na ch) (n0 : 0 ≤ n) (n1 : n < 400) (d : n < ((p1.len : Nat) : Int)) (na1 : 1 ≤ na) (hu : A.uses ≤ n) (ok : Ok I H (keys (fmB x5 x9 x10 x11 f tl))) (hm : ∃ g : Nat → Int, (x13, oc ty_a6_int (arrC 6 fun j => .int .i64 (g j))) ∈ tl)
    (h : ∀ K, FmK I H x5 x9 x10 x11 x13 na (n + 1) K → wp Try.prog (.again 960 [(.bool q), (.int .i64 (n + 1))]) L K R) :
    wp Try.prog (t_magpielaw10_FreeMixes_L2 p1 ⟨x5, 0, none⟩ (aI I) x40 ⟨x9, 0, none⟩ ⟨x10, 0, none⟩ ⟨x11, 0, none⟩ ⟨x13, 0, none⟩ (q, n, ())) L (own A (fmB x5 x9 x10 x11 f tl) H) R := by
  have hA := M.aw
  have hn := M.nb
  have us := M.fl.us
  rw [t_magpielaw10_FreeMixes_L2]
  refine wp_true (decide_eq_true d) (wp_true (decide_eq_true n1) ?_)
  refine wp_row hz (hI hA ok) n0 d ?_
  refine w_Place (by omega) (by omega) ?_
  have v0 := Int.emod_nonneg (zs.getD n.toNat 0) (b := 1048576) (by omega)
  have v1 := Int.emod_lt_of_pos (zs.getD n.toNat 0) (b := 1048576) (by omega)
  generalize zs.getD n.toNat 0 % 1048576 = v at *
  have e1 : w64 (1 + x40) = (na : Int) := by rw [w64_in (by omega) (by omega)]; omega
  rw [e1]
  refine look_val (x := Int.tmod v (na : Int)) (opS_rem (by omega)) ?_
  rw [Int.tmod_eq_emod_of_nonneg v0]
  have k0 := Int.emod_nonneg v (b := (na : Int)) (by omega)
  have k1 := Int.emod_lt_of_pos v (b := (na : Int)) (by omega)
  obtain ⟨i, ei⟩ : ∃ i : Nat, v % (na : Int) = (i : Int) := ⟨(v % (na : Int)).toNat, by omega⟩
  rw [ei] at k0 k1 ⊢
  have hi : i < na := by omega
  have hi6 : i < 6 := by omega
  refine w_Uses hA ?_
  have m10 : ∀ {c9 c10 c11 r}, (x10, oc ty_a6_p_free_Push c10) ∈ fmH x5 x9 x10 x11 c9 c10 c11 r := List.mem_cons_of_mem _ List.mem_cons_self
  have m11 : ∀ {c9 c10 c11 r}, (x11, oc ty_a6_p_free_Pop c11) ∈ fmH x5 x9 x10 x11 c9 c10 c11 r := List.mem_cons_self
  have m9 : ∀ {c9 c10 c11 r}, (x9, oc ty_a6_s_int c9) ∈ fmH x5 x9 x10 x11 c9 c10 c11 r := List.mem_cons_of_mem _ (List.mem_cons_of_mem _ List.mem_cons_self)
  have d10 : Lf.dec .ptr ((fun q => Value.pointer (f q).mc.pp) ((i : Int)).toNat) = some (f i).mc.pp := by show Lf.dec .ptr (Value.pointer (f ((i : Int)).toNat).mc.pp) = _; rw [Int.toNat_natCast]; rfl
  have d11 : Lf.dec .ptr ((fun q => Value.pointer (f q).mc.qp) ((i : Int)).toNat) = some (f i).mc.qp := by show Lf.dec .ptr (Value.pointer (f ((i : Int)).toNat).mc.qp) = _; rw [Int.toNat_natCast]; rfl
  have d9 : Lf.dec .slice ((fun q => slV (f q).s) ((i : Int)).toNat) = some (f i).s := by show Lf.dec .slice (slV (f ((i : Int)).toNat).s) = _; rw [Int.toNat_natCast]; rfl
  have r10 : ∀ {t' : Addr → Option Addr → Tree}, wp Try.prog (t' ⟨x10, 0 + ((i : Int)).toNat, none⟩ (f i).mc.pp) L (own A (fmB x5 x9 x10 x11 f tl) H) R → wp Try.prog (.look (opS Try.prog (.indexAddr ty_a6_p_free_Push (.tmp 0) (.tmp 1)) ty_unit [.pointer (some ⟨x10, 0, none⟩), .int .i64 (i : Int)]) (.one (.leaf .addr)) fun y => .ld y .ptr (t' y)) L (own A (fmB x5 x9 x10 x11 f tl) H) R :=
    fun h => w_arn (N := 6) (g := fun q => .pointer (f q).mc.pp) (x := (f i).mc.pp) (lf := .ptr) (e := ty_p_free_Push) hA ok m10 rfl rfl rfl k0 (by omega) d10 h
  have r11 : ∀ {t' : Addr → Option Addr → Tree}, wp Try.prog (t' ⟨x11, 0 + ((i : Int)).toNat, none⟩ (f i).mc.qp) L (own A (fmB x5 x9 x10 x11 f tl) H) R → wp Try.prog (.look (opS Try.prog (.indexAddr ty_a6_p_free_Pop (.tmp 0) (.tmp 1)) ty_unit [.pointer (some ⟨x11, 0, none⟩), .int .i64 (i : Int)]) (.one (.leaf .addr)) fun y => .ld y .ptr (t' y)) L (own A (fmB x5 x9 x10 x11 f tl) H) R :=
    fun h => w_arn (N := 6) (g := fun q => .pointer (f q).mc.qp) (x := (f i).mc.qp) (lf := .ptr) (e := ty_p_free_Pop) hA ok m11 rfl rfl rfl k0 (by omega) d11 h
  refine r10 ?_
  cases hmc : (f i).mc with
  | pu x j b =>
    refine look_val (x := true) (nP_some _) (wp_true rfl ?_)
    refine r10 ?_
    rw [hmc]
    refine fm_push hi rfl M (by omega) ok hmc (fun A' ch' g M' hu' ok' => ?_) fun A' y M' hu' _ ok' => ?_
    · refine fm_J1 M'.aw ⟨us, by omega, by omega⟩ ⟨n0, by omega⟩ (h _ ⟨A', _, ch', g ++ tl, M', by omega, ok', ?_, rfl⟩)
      obtain ⟨g13, hm⟩ := hm
      exact ⟨g13, List.mem_append_right _ hm⟩
    · exact fm_J1 M'.aw ⟨us, by omega, by omega⟩ ⟨n0, by omega⟩ (h _ ⟨A', _, ch, tl, M', by omega, ok', hm, rfl⟩)
  | po x j =>
    refine look_val (x := false) nP_none (wp_false rfl ?_)
    refine r11 ?_
    rw [hmc]
    refine look_val (x := true) (nQ_some _) (wp_true rfl ?_)
    refine r11 ?_
    rw [hmc]
    refine fm_pop hi rfl M (by omega) ok hmc (fun A' a ch' g _ M' hu' ok' => ?_) fun A' y M' hu' _ ok' => ?_
    · refine fm_J1 M'.aw ⟨us, by omega, by omega⟩ ⟨n0, by omega⟩ (h _ ⟨A', _, ch', g ++ tl, M', by omega, ok', ?_, rfl⟩)
      obtain ⟨g13, hm⟩ := hm
      exact ⟨g13, List.mem_append_right _ hm⟩
    · exact fm_J1 M'.aw ⟨us, by omega, by omega⟩ ⟨n0, by omega⟩ (h _ ⟨A', _, ch, tl, M', by omega, ok', hm, rfl⟩)
  | idle =>
    refine look_val (x := false) nP_none (wp_false rfl ?_)
    refine r11 ?_
    rw [hmc]
    refine look_val (x := false) nQ_none (wp_false rfl ?_)
    have qz : w64 (Int.tdiv v (na : Int)) = v / na := by
      have h1 : 0 ≤ v / (na : Int) := Int.ediv_nonneg v0 (by omega)
      have h2 : v / (na : Int) ≤ v := Int.ediv_le_self _ v0
      rw [Int.tdiv_eq_ediv_of_nonneg v0, w64_in (by omega) (by omega)]
    refine look_val (x := w64 (Int.tdiv v (na : Int))) (opS_quo (by omega)) ?_
    rw [qz]
    have pop : wp Try.prog (
            .ldA ⟨x5, 0, none⟩ [(.int .i64), (.int .i64), (.int .i64), (.int .i64), (.int .i64)] fun x77 =>
            .call f_free_NewPop [(.agg #[(.int .i64 x77.1), (.int .i64 x77.2.1), (.int .i64 x77.2.2.1), (.int .i64 x77.2.2.2.1), (.int .i64 x77.2.2.2.2.1)]), (.int .i64 1), (.int .i64 2)] (.one (.leaf .ptr)) fun x78 =>
            .look (opS Try.prog (.indexAddr ty_a6_p_free_Pop (.tmp 0) (.tmp 1)) ty_unit [(.pointer (some ⟨x11, 0, none⟩)), (.int .i64 (i : Int))]) (.one (.leaf .addr)) fun x79 =>
            .st x79 (.pointer x78) (t_magpielaw10_FreeMixes_J1 (aI I) (q, n, ()) A.uses)) L (own A (fmB x5 x9 x10 x11 f tl) H) R :=
      fm_newPop hi rfl M ok hmc fun a M' ok' => fm_J1 hA ⟨us, by omega, by omega⟩ ⟨n0, by omega⟩ (h _ ⟨A, _, ch, tl, M', by omega, ok', hm, rfl⟩)
    by_cases ev : Int.tmod (v / na) 2 = 0
    · refine wp_true (ibeq ev) ?_
      refine w_arn (N := 6) (g := fun q => slV (f q).s) (x := (f i).s) (lf := .slice) (e := ty_s_int) hA ok m9 rfl rfl rfl k0 (by omega) d9 ?_
      have sl := (M.sls i hi6).len
      by_cases dl : (((f i).s.len : Nat) : Int) > 0
      · refine wp_true (decide_eq_true dl) ?_
        exact fm_newPush hi rfl M ok hmc (fun e => by rw [e] at sl; simp at sl; omega) hm fun a tl' M' ok' hm' => fm_J1 hA ⟨us, by omega, by omega⟩ ⟨n0, by omega⟩ (h _ ⟨A, _, ch, tl', M', by omega, ok', hm', rfl⟩)
      · exact wp_false (decide_eq_false dl) pop
    · exact wp_false (ibef ev) pop
end
end Go.Proofs.Ytjleoogieoahnaa

set_option linter.unusedVariables false
set_option linter.unusedSimpArgs false
set_option maxRecDepth 20000
namespace Go.Proofs.Ytjleoogieoahnaa
open Go Go.Fw

section
variable {L : Hands} {R : Value → Heap → Prop} {H : Heap} {I : List Nat} {A : Ar} {f : Nat → Fac} {na : Nat} {ch : List Int} {tl : Bl} {x5 x9 x10 x11 x13 x21 : Nat} {i : Nat}

theorem fm_r10 (hA : Aw I A) (hi : i < 6) (ok : Ok I H (keys (fmB x5 x9 x10 x11 f tl))) {t' : Addr → Option Addr → Tree} (h : wp Try.prog (t' ⟨x10, 0 + ((i : Int)).toNat, none⟩ (f i).mc.pp) L (own A (fmB x5 x9 x10 x11 f tl) H) R) : wp Try.prog (.look (opS Try.prog (.indexAddr ty_a6_p_free_Push (.tmp 0) (.tmp 1)) ty_unit [.pointer (some ⟨x10, 0, none⟩), .int .i64 (i : Int)]) (.one (.leaf .addr)) fun y => .ld y .ptr (t' y)) L (own A (fmB x5 x9 x10 x11 f tl) H) R :=
  w_arn (N := 6) (g := fun q => .pointer (f q).mc.pp) (x := (f i).mc.pp) (lf := .ptr) (e := ty_p_free_Push) hA ok (List.mem_cons_of_mem _ List.mem_cons_self) rfl rfl rfl (by omega) (by omega) (by show Lf.dec .ptr (Value.pointer (f ((i : Int)).toNat).mc.pp) = _; rw [Int.toNat_natCast]; rfl) h
theorem fm_r11 (hA : Aw I A) (hi : i < 6) (ok : Ok I H (keys (fmB x5 x9 x10 x11 f tl))) {t' : Addr → Option Addr → Tree} (h : wp Try.prog (t' ⟨x11, 0 + ((i : Int)).toNat, none⟩ (f i).mc.qp) L (own A (fmB x5 x9 x10 x11 f tl) H) R) : wp Try.prog (.look (opS Try.prog (.indexAddr ty_a6_p_free_Pop (.tmp 0) (.tmp 1)) ty_unit [.pointer (some ⟨x11, 0, none⟩), .int .i64 (i : Int)]) (.one (.leaf .addr)) fun y => .ld y .ptr (t' y)) L (own A (fmB x5 x9 x10 x11 f tl) H) R :=
  w_arn (N := 6) (g := fun q => .pointer (f q).mc.qp) (x := (f i).mc.qp) (lf := .ptr) (e := ty_p_free_Pop) hA ok List.mem_cons_self rfl rfl rfl (by omega) (by omega) (by show Lf.dec .ptr (Value.pointer (f ((i : Int)).toNat).mc.qp) = _; rw [Int.toNat_natCast]; rfl) h
theorem fm_r9 (hA : Aw I A) (hi : i < 6) (ok : Ok I H (keys (fmB x5 x9 x10 x11 f tl))) {t' : Addr → Sl → Tree} (h : wp Try.prog (t' ⟨x9, 0 + ((i : Int)).toNat, none⟩ (f i).s) L (own A (fmB x5 x9 x10 x11 f tl) H) R) : wp Try.prog (.look (opS Try.prog (.indexAddr ty_a6_s_int (.tmp 0) (.tmp 1)) ty_unit [.pointer (some ⟨x9, 0, none⟩), .int .i64 (i : Int)]) (.one (.leaf .addr)) fun y => .ld y .slice (t' y)) L (own A (fmB x5 x9 x10 x11 f tl) H) R :=
  w_arn (N := 6) (g := fun q => slV (f q).s) (x := (f i).s) (lf := .slice) (e := ty_s_int) hA ok (List.mem_cons_of_mem _ (List.mem_cons_of_mem _ List.mem_cons_self)) rfl rfl rfl (by omega) (by omega) (by show Lf.dec .slice (slV (f ((i : Int)).toNat).s) = _; rw [Int.toNat_natCast]; rfl) h

/-- The bases told so far. -/
def cnt (l : List Int) : Nat → Value := fun b => .int .i64 ((l.count (8 * (b : Int)) : Nat) : Int)

set_option maxHeartbeats 4000000 in
/-- One actor comes to its end. -/
theorem fm_drain {q : Bool} {l0 : List Int} {u0 : Int} (hi : i < na) (M : FX I A f na ch) (u1 : 0 ≤ u0 ∧ u0 ≤ 600) (hu : A.uses ≤ u0) (ok : Ok I H (keys (fmB x5 x9 x10 x11 f tl))) (hm : (x21, oc ty_a32_int (arrC 32 (cnt l0))) ∈ tl)
    (h : ∀ A' f' ch' tl' (C : List Value → Heap → Prop), FX I A' f' na ch' → A'.uses ≤ u0 + 10 → (∀ j, j ≠ i → f' j = f j) → (f' i).mc = .idle → Ok I H (keys (fmB x5 x9 x10 x11 f' tl')) → (x21, oc ty_a32_int (arrC 32 (cnt l0))) ∈ tl' →
      wp Try.prog (.look (opS Try.prog (.indexAddr ty_a6_s_int (.tmp 0) (.tmp 1)) ty_unit [(.pointer (some ⟨x9, 0, none⟩)), (.int .i64 (i : Int))]) (.one (.leaf .addr)) fun x242 =>
      .ld x242 .slice fun x243 =>
      .loop 3456 t_magpielaw10_FreeMixes_L5_sh [(.int .i64 0)] (t_magpielaw10_FreeMixes_L5 ⟨x21, 0, none⟩ (q, (i : Int), ()) x243)) (L.set 2688 C) (own A' (fmB x5 x9 x10 x11 f' tl') H) R) :
    wp Try.prog (.loop 2688 t_magpielaw10_FreeMixes_L4_sh [(.int .i64 0)] (t_magpielaw10_FreeMixes_L4 (aI I) ⟨x9, 0, none⟩ ⟨x10, 0, none⟩ ⟨x11, 0, none⟩ ⟨x21, 0, none⟩ (q, (i : Int), ()))) L (own A (fmB x5 x9 x10 x11 f tl) H) R := by
  have hn := M.nb
  have hi6 : i < 6 := by omega
  have pot0 : ∀ {A : Ar} {f : Nat → Fac} {ch}, FX I A f na ch → (f i).mc.pot A ≤ 6 := fun {A f ch} M => by
    have := M.mc i hi6
    cases hmc : (f i).mc with
    | idle => show (0 : Int) ≤ 6; decide
    | pu x j b =>
      rw [hmc] at this
      have P : PuI fmP 4 32 6 b x A := this
      show (if x.at' = 0 then 3 else if A.rawF 6 = x.was then (3 : Int) - x.at' else 6 - x.at') ≤ 6
      have := P.ph
      split
      · decide
      · split <;> omega
    | po x j =>
      rw [hmc] at this
      have P : PoI fmP 4 32 6 x A := this
      show (if x.at' = 0 then 3 else if A.rawF 6 = x.was then (3 : Int) - x.at' else 6 - x.at') ≤ 6
      have := P.ph
      split
      · decide
      · split <;> omega
  have potn : ∀ {A : Ar} {f : Nat → Fac} {ch}, FX I A f na ch → (f i).mc ≠ .idle → 1 ≤ (f i).mc.pot A := fun {A f ch} M hne => by
    have := M.mc i hi6
    cases hmc : (f i).mc with
    | idle => exact (hne hmc).elim
    | pu x j b =>
      rw [hmc] at this
      have P : PuI fmP 4 32 6 b x A := this
      show 1 ≤ (if x.at' = 0 then 3 else if A.rawF 6 = x.was then (3 : Int) - x.at' else 6 - x.at')
      have := P.ph
      split
      · decide
      · split <;> omega
    | po x j =>
      rw [hmc] at this
      have P : PoI fmP 4 32 6 x A := this
      show 1 ≤ (if x.at' = 0 then 3 else if A.rawF 6 = x.was then (3 : Int) - x.at' else 6 - x.at')
      have := P.ph
      split
      · decide
      · split <;> omega
  refine wl_i (fun n K => 0 ≤ n ∧ n ≤ 10 ∧ ∃ A' f' ch' tl', FX I A' f' na ch' ∧ A'.uses ≤ u0 + n ∧ (∀ j, j ≠ i → f' j = f j) ∧ ((f' i).mc = .idle ∨ n + (f' i).mc.pot A' ≤ 6) ∧ Ok I H (keys (fmB x5 x9 x10 x11 f' tl')) ∧ (x21, oc ty_a32_int (arrC 32 (cnt l0))) ∈ tl' ∧ K = own A' (fmB x5 x9 x10 x11 f' tl') H) (fun n => (10 - n).toNat) 0
    ⟨by omega, by omega, A, f, ch, tl, M, by omega, fun _ _ => rfl, .inr (by have := pot0 M; omega), ok, hm, rfl⟩ ?_
  rintro n K ⟨n0, n1, A', f', ch', tl', M', hu', hj, hp, ok', hm', rfl⟩
  have hA := M'.aw
  rw [t_magpielaw10_FreeMixes_L4]
  have en : w64 (n + 1) = n + 1 := w64_in (by omega) (by omega)
  cases hmc : (f' i).mc with
  | idle =>
    refine wp_true (decide_eq_true (by show n < 100; omega)) ?_
    refine fm_r10 hA hi6 ok' ?_
    rw [hmc]
    refine look_val (x := false) nP_none (wp_false rfl ?_)
    refine fm_r11 hA hi6 ok' ?_
    rw [hmc]
    refine look_val (x := false) nQ_none (wp_false rfl ?_)
    unfold t_magpielaw10_FreeMixes_J22
    refine fm_r10 hA hi6 ok' ?_
    rw [hmc]
    refine look_val (x := false) nP_none (wp_false rfl ?_)
    refine fm_r11 hA hi6 ok' ?_
    rw [hmc]
    refine look_val (x := false) nQ_none (wp_false rfl ?_)
    exact h A' f' ch' tl' _ M' (by omega) hj hmc ok' hm'
  | pu x j b =>
    have hp : n + (f' i).mc.pot A' ≤ 6 := by
      rcases hp with e | e
      · rw [hmc] at e; cases e
      · exact e
    have hpn := potn M' (by rw [hmc]; intro e; cases e)
    refine wp_true (decide_eq_true (by show n < 100; omega)) ?_
    refine fm_r10 hA hi6 ok' ?_
    rw [hmc]
    refine look_val (x := true) (nP_some _) (wp_true rfl ?_)
    unfold t_magpielaw10_FreeMixes_J18
    refine fm_r10 hA hi6 ok' ?_
    rw [hmc]
    refine look_val (x := true) (nP_some _) (wp_true rfl ?_)
    refine fm_r10 hA hi6 ok' ?_
    rw [hmc]
    rw [hmc] at hp hpn
    refine fm_push hi rfl M' (by omega) ok' hmc (fun B ch2 g M2 hu2 ok2 => ?_) fun B y M2 hu2 hp2 ok2 => ?_
    · unfold t_magpielaw10_FreeMixes_J16
      refine fm_r11 M2.aw hi6 ok2 ?_
      rw [updF_same]
      refine look_val (x := false) nQ_none (wp_false rfl ?_)
      dsimp only
      rw [en]
      exact wp_again ⟨n + 1, rfl, ⟨by omega, by omega, B, _, ch2, g ++ tl', M2, by omega, fun j hne => by rw [updF_ne _ _ hne, hj j hne], .inl (by rw [updF_same]), ok2, List.mem_append_right _ hm', rfl⟩, by omega⟩
    · unfold t_magpielaw10_FreeMixes_J16
      refine fm_r11 M2.aw hi6 ok2 ?_
      rw [updF_same]
      refine look_val (x := false) nQ_none (wp_false rfl ?_)
      dsimp only
      rw [en]
      exact wp_again ⟨n + 1, rfl, ⟨by omega, by omega, B, _, ch', tl', M2, by omega, fun j hne => by rw [updF_ne _ _ hne, hj j hne], .inr (by rw [updF_same]; show n + 1 + (Fmc.pu y j b).pot B ≤ 6; omega), ok2, hm', rfl⟩, by omega⟩
  | po x j =>
    have hp : n + (f' i).mc.pot A' ≤ 6 := by
      rcases hp with e | e
      · rw [hmc] at e; cases e
      · exact e
    have hpn := potn M' (by rw [hmc]; intro e; cases e)
    refine wp_true (decide_eq_true (by show n < 100; omega)) ?_
    refine fm_r10 hA hi6 ok' ?_
    rw [hmc]
    refine look_val (x := false) nP_none (wp_false rfl ?_)
    refine fm_r11 hA hi6 ok' ?_
    rw [hmc]
    refine look_val (x := true) (nQ_some _) (wp_true rfl ?_)
    unfold t_magpielaw10_FreeMixes_J18
    refine fm_r10 hA hi6 ok' ?_
    rw [hmc]
    refine look_val (x := false) nP_none (wp_false rfl ?_)
    unfold t_magpielaw10_FreeMixes_J16
    refine fm_r11 hA hi6 ok' ?_
    rw [hmc]
    refine look_val (x := true) (nQ_some _) (wp_true rfl ?_)
    refine fm_r11 hA hi6 ok' ?_
    rw [hmc]
    rw [hmc] at hp hpn
    refine fm_pop hi rfl M' (by omega) ok' hmc (fun B a ch2 g ha M2 hu2 ok2 => ?_) fun B y M2 hu2 hp2 ok2 => ?_
    · dsimp only
      rw [en]
      exact wp_again ⟨n + 1, rfl, ⟨by omega, by omega, B, _, ch2, g ++ tl', M2, by omega, fun j hne => by rw [updF_ne _ _ hne, hj j hne], .inl (by rw [updF_same]; exact ha), ok2, List.mem_append_right _ hm', rfl⟩, by omega⟩
    · dsimp only
      rw [en]
      exact wp_again ⟨n + 1, rfl, ⟨by omega, by omega, B, _, ch', tl', M2, by omega, fun j hne => by rw [updF_ne _ _ hne, hj j hne], .inr (by rw [updF_same]; show n + 1 + (Fmc.po y j).pot B ≤ 6; omega), ok2, hm', rfl⟩, by omega⟩

/-- A base is told once more. -/
theorem fm_told {l0 : List Int} {b : Int} {T : Tree} {rest : Bl} (hA : Aw I A) (ok : Ok I H (keys ((x21, oc ty_a32_int (arrC 32 (cnt l0))) :: rest))) (hb : 0 ≤ b ∧ b % 8 = 0 ∧ b / 8 < 32) (hl : l0.length ≤ 1000)
    (h : Ok I H (keys ((x21, oc ty_a32_int (arrC 32 (cnt (l0 ++ [b])))) :: rest)) → wp Try.prog T L (own A ((x21, oc ty_a32_int (arrC 32 (cnt (l0 ++ [b])))) :: rest) H) R) :
    wp Try.prog (.qcall f_magpielaw00_Place [(.int .i64 (w64 (Int.tdiv b 8))), (.int .i64 32)] (.one (.leaf (.int .i64))) fun x251 =>
    .look (opS Try.prog (.indexAddr ty_a32_int (.tmp 0) (.tmp 1)) ty_unit [(.pointer (some ⟨x21, 0, none⟩)), (.int .i64 x251)]) (.one (.leaf .addr)) fun x252 =>
    .ld x252 (.int .i64) fun x253 =>
    .look (opS Try.prog (.indexAddr ty_a32_int (.tmp 0) (.tmp 1)) ty_unit [(.pointer (some ⟨x21, 0, none⟩)), (.int .i64 x251)]) (.one (.leaf .addr)) fun x255 =>
    .st x255 (.int .i64 (w64 (x253 + 1))) T) L (own A ((x21, oc ty_a32_int (arrC 32 (cnt l0))) :: rest) H) R := by
  have td : w64 (Int.tdiv b 8) = b / 8 := by rw [Int.tdiv_eq_ediv_of_nonneg hb.1, w64_in (by omega) (by omega)]
  rw [td]
  refine w_Place (by omega) (by omega) ?_
  have em : b / 8 % 32 = b / 8 := by omega
  rw [em]
  have cl : ∀ c : Int, l0.count c ≤ 1000 := fun c => Nat.le_trans List.count_le_length hl
  refine w_arn (N := 32) (g := cnt l0) (x := ((l0.count (8 * (((b / 8).toNat : Nat) : Int)) : Nat) : Int)) (lf := .int .i64) (e := ty_int) hA ok List.mem_cons_self rfl rfl rfl (by omega) (by omega) rfl ?_
  have := cl (8 * (((b / 8).toNat : Nat) : Int))
  refine w_arnS (N := 32) 0 (g := cnt l0) (e := ty_int) hA ok rfl rfl rfl rfl (by omega) (by omega) rfl ?_
  rw [w64_in (by omega) (by omega)]
  have e : (arrC 32 fun j => if j = (b / 8).toNat then Value.int .i64 (((l0.count (8 * (((b / 8).toNat : Nat) : Int)) : Nat) : Int) + 1) else cnt l0 j) = arrC 32 (cnt (l0 ++ [b])) := by
    congr 1; funext j
    unfold cnt
    rw [List.count_append, List.count_singleton]
    by_cases e : j = (b / 8).toNat
    · rw [if_pos e, e]
      have : (b == 8 * (((b / 8).toNat : Nat) : Int)) = true := beq_iff_eq.2 (by omega)
      rw [if_pos this]; rfl
    · rw [if_neg e]
      have : ¬ (b == 8 * (j : Int)) = true := fun h => e (by have := beq_iff_eq.1 h; omega)
      rw [if_neg this]; rfl
  rw [e]
  exact h (by exact ok)

theorem fm_x21 {o : Obj} (ok : Ok I H (keys (fmB x5 x9 x10 x11 f tl))) (hm : (x21, o) ∈ tl) : ∃ t, own A (fmB x5 x9 x10 x11 f tl) H = own A ((x21, o) :: fmB x5 x9 x10 x11 f t) H ∧ Ok I H (keys ((x21, o) :: fmB x5 x9 x10 x11 f t)) := by
  obtain ⟨t1, t2, rfl⟩ := List.append_of_mem hm
  refine ⟨t1 ++ t2, own_perm (A := A) ok (perm_by fun c d c0 cd ca => ?_)⟩
  simp only [fmB, fmH, cd, ca]
  omega
theorem fm_x21b {o : Obj} {t : Bl} (ok : Ok I H (keys ((x21, o) :: fmB x5 x9 x10 x11 f t))) : own A ((x21, o) :: fmB x5 x9 x10 x11 f t) H = own A (fmB x5 x9 x10 x11 f ((x21, o) :: t)) H ∧ Ok I H (keys (fmB x5 x9 x10 x11 f ((x21, o) :: t))) := by
  refine own_perm (A := A) ok (perm_by fun c d c0 cd ca => ?_)
  simp only [fmB, fmH, cd, ca]
  omega

theorem take_succ_getD (xs : List Int) (j : Nat) (h : j < xs.length) : xs.take (j + 1) = xs.take j ++ [xs.getD j 0] := by
  rw [List.take_add_one, List.getD_eq_getElem?_getD, List.getElem?_eq_getElem h]; rfl

set_option maxHeartbeats 4000000 in
/-- All actors come to their end; what they hold is told. -/
theorem fm_L3 {x40 : Int} {q : Bool} (hna : (na : Int) = 1 + x40) (M : FX I A f na ch) (hu : A.uses ≤ 400) (ok : Ok I H (keys (fmB x5 x9 x10 x11 f tl))) (hm : (x21, oc ty_a32_int (arrC 32 (cnt []))) ∈ tl)
    (h : ∀ A' f' ch' tl' q' (C : List Value → Heap → Prop), FX I A' f' na ch' → A'.uses ≤ 500 → (∀ j, j < na → (f' j).mc = .idle) → Ok I H (keys (fmB x5 x9 x10 x11 f' tl')) → (x21, oc ty_a32_int (arrC 32 (cnt (famB (fun j => (f' j).xs) na)))) ∈ tl' →
      wp Try.prog (.ldA ⟨x5, 0, none⟩ [(.int .i64), (.int .i64), (.int .i64), (.int .i64), (.int .i64)] fun x258 =>
    .call f_free_List [(.pointer (aI I)), (.agg #[(.int .i64 x258.1), (.int .i64 x258.2.1), (.int .i64 x258.2.2.1), (.int .i64 x258.2.2.2.1), (.int .i64 x258.2.2.2.2.1)]), (.int .i64 1), (.int .i64 2)] (.one (.leaf .slice)) fun x259 =>
    .loop 3776 t_magpielaw10_FreeMixes_L7_sh [(.int .i64 0)] (t_magpielaw10_FreeMixes_L7 (aI I) x40 ⟨x21, 0, none⟩ (q', (na : Int), ()) x259)) (L.set 2497 C) (own A' (fmB x5 x9 x10 x11 f' tl') H) R) :
    wp Try.prog (.loop 2497 t_magpielaw10_FreeMixes_L3_sh [(.bool q), (.int .i64 0)] (t_magpielaw10_FreeMixes_L3 ⟨x5, 0, none⟩ (aI I) x40 ⟨x9, 0, none⟩ ⟨x10, 0, none⟩ ⟨x11, 0, none⟩ ⟨x21, 0, none⟩)) L (own A (fmB x5 x9 x10 x11 f tl) H) R := by
  have hn := M.nb
  refine wl_bi (fun _ n K => ∃ i : Nat, n = (i : Int) ∧ i ≤ na ∧ ∃ A' f' ch' tl', FX I A' f' na ch' ∧ A'.uses ≤ 400 + 10 * n ∧ (∀ j, j < i → (f' j).mc = .idle) ∧ Ok I H (keys (fmB x5 x9 x10 x11 f' tl')) ∧ (x21, oc ty_a32_int (arrC 32 (cnt (famB (fun j => (f' j).xs) i)))) ∈ tl' ∧ K = own A' (fmB x5 x9 x10 x11 f' tl') H) (fun _ n => (6 - n).toNat) q 0
    ⟨0, rfl, by omega, A, f, ch, tl, M, by omega, fun j hj => (by omega), ok, hm, rfl⟩ ?_
  rintro q n K ⟨i, rfl, hin, A', f', ch', tl', M', hu', hd, ok', hm', rfl⟩
  rw [t_magpielaw10_FreeMixes_L3]
  have e1 : w64 (1 + x40) = (na : Int) := by rw [w64_in (by omega) (by omega)]; omega
  rw [e1]
  by_cases d : (i : Int) < na
  case neg =>
    have : i = na := by omega
    subst this
    refine wp_false (decide_eq_false d) ?_
    exact h A' f' ch' tl' q _ M' (by omega) hd ok' hm'
  refine wp_true (decide_eq_true d) ?_
  have hi : i < na := by omega
  have hi6 : i < 6 := by omega
  refine fm_drain (u0 := 400 + 10 * i) hi M' ⟨by omega, by omega⟩ hu' ok' hm' fun A2 f2 ch2 tl2 C M2 hu2 hj2 hmc2 ok2 hm2 => ?_
  have hA2 := M2.aw
  refine fm_r9 hA2 hi6 ok2 ?_
  have hs := M2.sls i hi6
  have sl := hs.len
  have ln := M2.len hi6
  have ef : famB (fun j => (f' j).xs) i = famB (fun j => (f2 j).xs) i := famB_congr2 fun j hj => by rw [hj2 j (by omega)]
  rw [ef] at hm2
  obtain ⟨t, p3, ok3⟩ := fm_x21 (A := A2) ok2 hm2
  rw [p3]
  have fl : (famB (fun j => (f2 j).xs) i).length ≤ 12 * i := by
    have : ∀ n, n ≤ 6 → (famB (fun j => (f2 j).xs) n).length ≤ 12 * n := fun n => by
      induction n with
      | zero => intro _; exact Nat.le_refl _
      | succ n ih =>
        intro hn
        have h1 : (famB (fun j => (f2 j).xs) (n + 1)).length = (famB (fun j => (f2 j).xs) n).length + (f2 n).xs.length := List.length_append
        have := ih (by omega)
        have := M2.len (i := n) (by omega)
        omega
    exact this i (by omega)
  refine wl_i (fun j K => 0 ≤ j ∧ j ≤ (f2 i).xs.length ∧ Ok I H (keys ((x21, oc ty_a32_int (arrC 32 (cnt (famB (fun j => (f2 j).xs) i ++ (f2 i).xs.take j.toNat)))) :: fmB x5 x9 x10 x11 f2 t)) ∧ K = own A2 ((x21, oc ty_a32_int (arrC 32 (cnt (famB (fun j => (f2 j).xs) i ++ (f2 i).xs.take j.toNat)))) :: fmB x5 x9 x10 x11 f2 t) H) (fun j => ((f2 i).xs.length - j).toNat) 0
    ⟨by omega, by omega, by rw [show (0 : Int).toNat = 0 from rfl, List.take_zero, List.append_nil]; exact ok3, by rw [show (0 : Int).toNat = 0 from rfl, List.take_zero, List.append_nil]⟩ ?_
  rintro j K ⟨j0, j1, ok4, rfl⟩
  rw [t_magpielaw10_FreeMixes_L5]
  by_cases e : j < (((f2 i).s.len : Nat) : Int)
  case neg =>
    have ej : j.toNat = (f2 i).xs.length := by omega
    refine wp_false (decide_eq_false e) ?_
    refine wp_again_up (by decide) (wp_again_up (by decide) ?_)
    rw [ej, List.take_length] at ok4 ⊢
    obtain ⟨p5, ok5⟩ := fm_x21b (A := A2) ok4
    rw [p5]
    dsimp only
    rw [w64_in (x := (i : Int) + 1) (by omega) (by omega)]
    exact wp_again ⟨q, (i : Int) + 1, rfl, ⟨i + 1, by omega, by omega, A2, f2, ch2, _, M2, by omega, fun j hj => by
      by_cases e : j = i
      · subst e; exact hmc2
      · rw [hj2 j e]; exact hd j (by omega), ok5, List.mem_cons_self, rfl⟩, by omega⟩
  refine wp_true (decide_eq_true e) ?_
  have hjl : j.toNat < (f2 i).xs.length := by omega
  refine w_rdI hA2 ok4 (hs.mono fun p hp => List.mem_cons_of_mem _ (List.mem_cons_of_mem _ (List.mem_cons_of_mem _ (List.mem_cons_of_mem _ (List.mem_cons_of_mem _ (List.mem_append_left _ (famB_mem.2 ⟨i, hi6, List.mem_append_right _ hp⟩))))))) j0 (by omega) ?_
  have hb := M2.base (b := (f2 i).xs.getD j.toNat 0) (List.mem_append_left _ (famB_mem.2 ⟨i, hi6, List.mem_append_left _ (by rw [List.getD_eq_getElem?_getD, List.getElem?_eq_getElem hjl]; exact List.getElem_mem _)⟩))
  refine fm_told hA2 ok4 hb (by rw [List.length_append, List.length_take]; omega) fun ok5 => ?_
  have et : (j + 1).toNat = j.toNat + 1 := by omega
  rw [List.append_assoc, ← take_succ_getD _ _ hjl, ← et] at ok5 ⊢
  rw [w64_in (x := j + 1) (by omega) (by omega)]
  exact wp_again ⟨j + 1, rfl, ⟨by omega, by omega, ok5, rfl⟩, by omega⟩
end
end Go.Proofs.Ytjleoogieoahnaa

set_option linter.unusedVariables false
set_option linter.unusedSimpArgs false
set_option maxRecDepth 20000
namespace Go.Proofs.Ytjleoogieoahnaa
open Go Go.Fw

theorem nA_some (a : Addr) : opS Try.prog (.binOp .eql ty_p_arena_Arena (.tmp 0) (.const (.pointer none)) ty_p_arena_Arena) ty_bool [(.pointer (some a))] = .pure (.value (.bool false)) := by kernel_rfl

section
variable {L : Hands} {H : Heap} {I : List Nat} {A : Ar} {f : Nat → Fac} {na : Nat} {ch : List Int} {tl : Bl} {x5 x9 x10 x11 x13 x21 : Nat} {i : Nat}

set_option maxHeartbeats 4000000 in
/-- What is told at the end. -/
theorem fm_fin {x40 : Int} {q : Bool} (hI : ∀ x ∈ I, H x = none) (hna : (na : Int) = 1 + x40) (M : FX I A f na ch) (hu : A.uses ≤ 500) (hd : ∀ j, j < na → (f j).mc = .idle) (ok : Ok I H (keys (fmB x5 x9 x10 x11 f tl))) (hm : (x21, oc ty_a32_int (arrC 32 (cnt (famB (fun j => (f j).xs) na)))) ∈ tl) :
    wp Try.prog (.ldA ⟨x5, 0, none⟩ [(.int .i64), (.int .i64), (.int .i64), (.int .i64), (.int .i64)] fun x258 =>
    .call f_free_List [(.pointer (aI I)), (.agg #[(.int .i64 x258.1), (.int .i64 x258.2.1), (.int .i64 x258.2.2.1), (.int .i64 x258.2.2.2.1), (.int .i64 x258.2.2.2.2.1)]), (.int .i64 1), (.int .i64 2)] (.one (.leaf .slice)) fun x259 =>
    .loop 3776 t_magpielaw10_FreeMixes_L7_sh [(.int .i64 0)] (t_magpielaw10_FreeMixes_L7 (aI I) x40 ⟨x21, 0, none⟩ (q, (na : Int), ()) x259)) L (own A (fmB x5 x9 x10 x11 f tl) H) (fun u K => u = .bool true ∧ K = H) := by
  have hA := M.aw
  have hn := M.nb
  refine w_ldA 3 hA ok rfl rfl rfl ?_
  have cvl := M.cv.length_eq
  rw [bas_len, List.length_append] at cvl
  have chn := M.fl.chn 6 (by decide) (by decide)
  rw [fmC_6] at chn
  refine w_List (p := fmP) (xs := ch) (hd := 6) hA ok (by decide) (M.fl.hdOk (by decide) (by decide)) (by rw [mask17]; exact chn) (by omega) (by decide) ⟨M.fl.us, by omega⟩ fun s tl2 hs ok2 hA2 => ?_
  obtain ⟨t1, t2, rfl⟩ := List.append_of_mem hm
  obtain ⟨p3, ok3⟩ := own_perm (A := A.later (1 + ch.length)) (l' := (x21, oc ty_a32_int (arrC 32 (cnt (famB (fun j => (f j).xs) na)))) :: (fmB x5 x9 x10 x11 f (t1 ++ t2) ++ tl2)) ok2 (perm_by fun c d c0 cd ca => by simp only [fmB, fmH, cd, ca]; omega)
  rw [p3]
  have sl := hs.len
  have xsl : (famB (fun j => (f j).xs) na).length + ch.length ≤ 12 := by
    have e1 : famB (fun j => (f j).al) 6 = famB (fun j => (f j).xs) na := by
      rw [famB_cut (m := na) (fun i hi => (M.id i hi).1) 6 hn]
      refine famB_congr2 fun j hj => ?_
      unfold Fac.al; rw [hd j hj]; exact List.append_nil _
    rw [e1] at cvl; omega
  have cov : ∀ b : Nat, ((famB (fun j => (f j).xs) na ++ ch).count (8 * (b : Int))) = if b < 2 * na then 1 else 0 := fun b => by
    have e1 : famB (fun j => (f j).al) 6 = famB (fun j => (f j).xs) na := by
      rw [famB_cut (m := na) (fun i hi => (M.id i hi).1) 6 hn]
      refine famB_congr2 fun j hj => ?_
      unfold Fac.al; rw [hd j hj]; exact List.append_nil _
    rw [← e1, M.cv.count_eq, bas_count]
  generalize hX : famB (fun j => (f j).xs) na = X at *
  refine wl_i (fun j K => 0 ≤ j ∧ j ≤ ch.length ∧ Ok I H (keys ((x21, oc ty_a32_int (arrC 32 (cnt (X ++ ch.take j.toNat)))) :: (fmB x5 x9 x10 x11 f (t1 ++ t2) ++ tl2))) ∧ K = own (A.later (1 + ch.length)) ((x21, oc ty_a32_int (arrC 32 (cnt (X ++ ch.take j.toNat)))) :: (fmB x5 x9 x10 x11 f (t1 ++ t2) ++ tl2)) H) (fun j => (ch.length - j).toNat) 0
    ⟨by omega, by omega, by rw [show (0 : Int).toNat = 0 from rfl, List.take_zero, List.append_nil]; exact ok3, by rw [show (0 : Int).toNat = 0 from rfl, List.take_zero, List.append_nil]⟩ ?_
  rintro j K ⟨j0, j1, ok4, rfl⟩
  rw [t_magpielaw10_FreeMixes_L7]
  by_cases e : j < ((s.len : Nat) : Int)
  · refine wp_true (decide_eq_true e) ?_
    have hjl : j.toNat < ch.length := by omega
    refine w_rdI hA2 ok4 (hs.mono fun p hp => List.mem_cons_of_mem _ (List.mem_append_right _ hp)) j0 (by omega) ?_
    have hb := M.base (b := ch.getD j.toNat 0) (List.mem_append_right _ (by rw [List.getD_eq_getElem?_getD, List.getElem?_eq_getElem hjl]; exact List.getElem_mem _))
    refine fm_told hA2 ok4 hb (by rw [List.length_append, List.length_take]; omega) fun ok5 => ?_
    have et : (j + 1).toNat = j.toNat + 1 := by omega
    rw [List.append_assoc, ← take_succ_getD _ _ hjl, ← et] at ok5 ⊢
    rw [w64_in (x := j + 1) (by omega) (by omega)]
    exact wp_again ⟨j + 1, rfl, ⟨by omega, by omega, ok5, rfl⟩, by omega⟩
  refine wp_false (decide_eq_false e) ?_
  have ej : j.toNat = ch.length := by omega
  rw [ej, List.take_length] at ok4 ⊢
  refine wl_bi (fun _ n K => 0 ≤ n ∧ n ≤ 32 ∧ K = own (A.later (1 + ch.length)) ((x21, oc ty_a32_int (arrC 32 (cnt (X ++ ch)))) :: (fmB x5 x9 x10 x11 f (t1 ++ t2) ++ tl2)) H) (fun _ n => (32 - n).toNat) q 0 ⟨by omega, by omega, rfl⟩ ?_
  rintro q n K ⟨n0, n1, rfl⟩
  rw [t_magpielaw10_FreeMixes_L8]
  have e1 : w64 (1 + x40) = (na : Int) := by rw [w64_in (by omega) (by omega)]; omega
  have e2 : w64 (2 * (na : Int)) = 2 * (na : Int) := w64_in (by omega) (by omega)
  unfold t_magpielaw10_FreeMixes_J24
  dsimp only
  rw [e1, e2]
  by_cases d : n < 32
  · refine wp_true (decide_eq_true d) ?_
    have cv := cov n.toNat
    have rd : ∀ {t' : Addr → Int → Tree} {L' : Hands} {R : Value → Heap → Prop}, wp Try.prog (t' ⟨x21, 0 + n.toNat, none⟩ (if n < 2 * na then 1 else 0)) L' (own (A.later (1 + ch.length)) ((x21, oc ty_a32_int (arrC 32 (cnt (X ++ ch)))) :: (fmB x5 x9 x10 x11 f (t1 ++ t2) ++ tl2)) H) R →
        wp Try.prog (.look (opS Try.prog (.indexAddr ty_a32_int (.tmp 0) (.tmp 1)) ty_unit [(.pointer (some ⟨x21, 0, none⟩)), (.int .i64 n)]) (.one (.leaf .addr)) fun y => .ld y (.int .i64) (t' y)) L' (own (A.later (1 + ch.length)) ((x21, oc ty_a32_int (arrC 32 (cnt (X ++ ch)))) :: (fmB x5 x9 x10 x11 f (t1 ++ t2) ++ tl2)) H) R := fun h =>
      w_arn (N := 32) (g := cnt (X ++ ch)) (x := if n < 2 * na then (1 : Int) else 0) (lf := .int .i64) (e := ty_int) hA2 ok4 List.mem_cons_self rfl rfl rfl n0 d (by
        unfold cnt
        rw [cv]
        by_cases c : n < 2 * na
        · rw [if_pos c, if_pos (by omega)]; rfl
        · rw [if_neg c, if_neg (by omega)]; rfl) h
    refine rd ?_
    by_cases c : n < 2 * na
    · rw [if_pos c]
      refine wp_false (ibnf rfl) ?_
      refine rd ?_
      rw [if_pos c]
      refine wp_true (ibne (by decide)) ?_
      refine wp_false (decide_eq_false (by show ¬ n ≥ 2 * na; omega)) ?_
      rw [w64_in (x := n + 1) (by omega) (by omega)]
      exact wp_again ⟨q, n + 1, rfl, ⟨by omega, by omega, rfl⟩, by omega⟩
    · rw [if_neg c]
      refine wp_true (ibne (by decide)) ?_
      refine wp_false (decide_eq_false c) ?_
      refine rd ?_
      rw [if_neg c]
      refine wp_false (ibnf rfl) ?_
      rw [w64_in (x := n + 1) (by omega) (by omega)]
      exact wp_again ⟨q, n + 1, rfl, ⟨by omega, by omega, rfl⟩, by omega⟩
  refine wp_false (decide_eq_false d) ?_
  refine w_Fault hA2 ?_
  refine wp_true (by show (!A.fault) = true; rw [M.fa]; rfl) ?_
  refine wp_true (decide_eq_true (by show (na : Int) ≤ 64; omega)) ?_
  refine wp_call_det (x := true) (awake10_det _) ?_
  exact ⟨H, own_end hA2 ok4 hI, rfl, rfl⟩

theorem fm_newS2 {a b : Int} {l : Bl} {R : Value → Heap → Prop} {k : Sl → Tree} (hA : Aw I A) (ok : Ok I H (keys l)) (h : ∀ q, Ok I H (keys ((q, oc ty_int [.int .i64 a, .int .i64 b]) :: l)) → wp Try.prog (k ⟨some ⟨q, 0, none⟩, 2, 2⟩) L (own A ((q, oc ty_int [.int .i64 a, .int .i64 b]) :: l) H) R) :
    wp Try.prog (.newS (.cells #[(.int .i64 a), (.int .i64 b)] ty_int) 2 k) L (own A l H) R := w_newS (c := [.int .i64 a, .int .i64 b]) hA ok h
end

set_option maxHeartbeats 4000000 in
theorem FreeMixes_det (p0 : Int) (s : Sl) (zs : List Int) (H : Heap) (hz : RowOf H s.a s.len zs) : Det Try.prog f_magpielaw10_FreeMixes [.int .i64 p0, .slice s.a s.len s.cap] H (.bool true) H := by
  refine t_magpielaw10_FreeMixes_spec (p0 := p0) (p1 := s) fun L => ?_
  unfold t_magpielaw10_FreeMixes
  refine w_Raw5 ⟨by omega, by omega⟩ ⟨by omega, by omega⟩ ?_
  have ok0 : Ok0 H (keys []) := ⟨.nil, fun b h => (by cases h)⟩
  refine p_newP (l := []) ok0 fun x5 ok0 => ?_
  refine p_stA 0 ok0 rfl rfl rfl rfl ?_
  have e77 : (4 * 4 + 2 * ((256 + 7) / 8) + 1 : Int) = 81 := rfl
  dsimp only
  rw [e77]
  refine w_New (l := [(x5, oc ty_free_Place fmL)]) ok0 ⟨by omega, by omega⟩ ⟨by omega, by omega⟩ fun A hm hA hI ok => ?_
  refine look_val (x := false) (nA_some _) (wp_false rfl ?_)
  refine w_Place (by omega) (by omega) ?_
  have c0 := Int.emod_nonneg p0 (b := 6) (by omega)
  have c1 := Int.emod_lt_of_pos p0 (b := 6) (by omega)
  generalize p0 % 6 = x40 at *
  obtain ⟨na, hna⟩ : ∃ na : Nat, (na : Int) = 1 + x40 := ⟨(1 + x40).toNat, by omega⟩
  have na6 : na ≤ 6 := by omega
  have e1 : w64 (1 + x40) = (na : Int) := by rw [w64_in (by omega) (by omega)]; omega
  obtain ⟨f0, hf0⟩ : ∃ f0 : Nat → Fac, f0 = fun _ => ⟨.idle, [], sl0, []⟩ := ⟨_, rfl⟩
  refine w_newP (c := arrC 6 fun _ => slV sl0) hA ok fun x9 ok => ?_
  refine w_newP (c := arrC 6 fun _ => .pointer none) hA ok fun x10 ok => ?_
  refine w_newP (c := arrC 6 fun _ => .pointer none) hA ok fun x11 ok => ?_
  have pe : [(x11, oc ty_a6_p_free_Pop (arrC 6 fun _ => .pointer none)), (x10, oc ty_a6_p_free_Push (arrC 6 fun _ => .pointer none)), (x9, oc ty_a6_s_int (arrC 6 fun _ => slV sl0)), (x5, oc ty_free_Place fmL)] = fmB x5 x9 x10 x11 f0 [] := by subst hf0; rfl
  have ok : Ok A.ids H (keys [(x11, oc ty_a6_p_free_Pop (arrC 6 fun _ => .pointer none)), (x10, oc ty_a6_p_free_Push (arrC 6 fun _ => .pointer none)), (x9, oc ty_a6_s_int (arrC 6 fun _ => slV sl0)), (x5, oc ty_free_Place fmL)]) := ok
  show wp Try.prog _ L (own A [(x11, oc ty_a6_p_free_Pop (arrC 6 fun _ => .pointer none)), (x10, oc ty_a6_p_free_Push (arrC 6 fun _ => .pointer none)), (x9, oc ty_a6_s_int (arrC 6 fun _ => slV sl0)), (x5, oc ty_free_Place fmL)] H) _
  rw [pe] at ok ⊢
  have hI' : ∀ {B : Ar} {l : Bl}, Aw A.ids B → Ok A.ids H (keys l) → H.le (own B l H) := fun hB ok => own_end hB ok hI
  refine wl_i (fun n K => ∃ i : Nat, n = (i : Int) ∧ i ≤ na ∧ ∃ f : Nat → Fac, (∀ j, i ≤ j → f j = f0 j) ∧ (∀ j, j < i → (f j).mc = .idle ∧ (f j).xs = [16 * (j : Int), 16 * (j : Int) + 8] ∧ SlOf (f j).hb ty_int eI (f j).s (f j).xs) ∧ Ok A.ids H (keys (fmB x5 x9 x10 x11 f [])) ∧ K = own A (fmB x5 x9 x10 x11 f []) H) (fun n => (6 - n).toNat) 0
    ⟨0, rfl, by omega, f0, fun _ _ => rfl, fun j hj => (by omega), ok, rfl⟩ ?_
  rintro n K ⟨i, rfl, hin, f, hf1, hf2, ok, rfl⟩
  rw [t_magpielaw10_FreeMixes_L1, e1]
  by_cases d : (i : Int) < na
  · have hi : i < na := by omega
    have hi6 : i < 6 := by omega
    refine wp_true (decide_eq_true d) ?_
    dsimp only
    have w1 : w64 (16 * (i : Int)) = 16 * i := w64_in (by omega) (by omega)
    have w2 : w64 (16 * (i : Int) + 8) = 16 * i + 8 := w64_in (by omega) (by omega)
    rw [w1, w2]
    refine fm_newS2 hA ok fun q ok1 => ?_
    obtain ⟨a, ea⟩ : ∃ a : Fac, a = ⟨.idle, [16 * (i : Int), 16 * (i : Int) + 8], ⟨some ⟨q, 0, none⟩, 2, 2⟩, [(q, oc ty_int [.int .i64 (16 * (i : Int)), .int .i64 (16 * (i : Int) + 8)])]⟩ := ⟨_, rfl⟩
    have fi : f i = ⟨.idle, [], sl0, []⟩ := by rw [hf1 i (Nat.le_refl _), hf0]
    refine w_arnS (N := 6) 3 (g := fun q => slV (f q).s) (e := ty_s_int) hA ok1 rfl rfl rfl rfl (by omega) (by omega) rfl ?_
    have e9 : (arrC 6 fun j => if j = ((i : Int)).toNat then Value.slice (some ⟨q, 0, none⟩) 2 2 else slV (f j).s) = arrC 6 fun j => slV (updF f i a j).s := by
      rw [Int.toNat_natCast]
      have := arrC_updF (n := 6) (g := fun a : Fac => slV a.s) (f := f) (i := i) (a := a)
      have hq : slV a.s = .slice (some ⟨q, 0, none⟩) 2 2 := by rw [ea]; rfl
      rw [hq] at this
      exact this
    rw [e9]
    have ok2 : Ok A.ids H (keys ((q, oc ty_int [.int .i64 (16 * (i : Int)), .int .i64 (16 * (i : Int) + 8)]) :: fmH x5 x9 x10 x11 (arrC 6 fun j => slV (updF f i a j).s) (arrC 6 fun i => .pointer (f i).mc.pp) (arrC 6 fun i => .pointer (f i).mc.qp) (famB (fun i => (f i).bl) 6 ++ []))) := ok1
    show wp Try.prog _ _ (own A ((q, oc ty_int [.int .i64 (16 * (i : Int)), .int .i64 (16 * (i : Int) + 8)]) :: fmH x5 x9 x10 x11 (arrC 6 fun j => slV (updF f i a j).s) (arrC 6 fun i => .pointer (f i).mc.pp) (arrC 6 fun i => .pointer (f i).mc.qp) (famB (fun i => (f i).bl) 6 ++ [])) H) _
    obtain ⟨p5, ok6⟩ := fm_back (x5 := x5) (x9 := x9) (x10 := x10) (x11 := x11) (tl := []) (f := f) (A := A) (a := a) (g := []) hi6 rfl (arrC_keepF (g := fun a : Fac => .pointer a.mc.pp) (by rw [fi, ea])) (arrC_keepF (g := fun a : Fac => .pointer a.mc.qp) (by rw [fi, ea])) (perm_by fun c d c0 cd ca => by
      have h2 : c a.mc.bl = 0 := by rw [ea]; exact c0
      have h5 : c a.hb = d (q, oc ty_int [.int .i64 (16 * (i : Int)), .int .i64 (16 * (i : Int) + 8)]) := by rw [ea]; show c [_] = _; rw [cd, c0]; rfl
      have h3 := famB_c c0 ca (fun i => (f i).bl) hi6
      have h4 : c (f i).bl = 0 := by rw [fi]; exact c0
      simp only [fmH, cd, ca, c0, h2, h5]; omega) ok2
    rw [p5, w64_in (x := (i : Int) + 1) (by omega) (by omega)]
    refine wp_again ⟨(i : Int) + 1, rfl, ⟨i + 1, by omega, by omega, updF f i a, fun j hj => ?_, fun j hj => ?_, ok6, rfl⟩, by omega⟩
    · rw [updF_ne _ _ (by omega)]; exact hf1 j (by omega)
    · by_cases e : j = i
      · subst e
        rw [updF_same, ea]
        exact ⟨rfl, rfl, .inr ⟨q, [], 0, rfl, rfl, List.mem_cons_self⟩⟩
      · rw [updF_ne _ _ e]; exact hf2 j (by omega)
  have hi : i = na := by omega
  subst hi
  refine wp_false (decide_eq_false d) ?_
  refine w_newP (c := arrC 6 fun _ => .int .i64 0) hA ok fun x13 ok => ?_
  refine w_stA 0 hA ok rfl rfl rfl rfl ?_
  have ok : Ok A.ids H (keys ((x13, oc ty_a6_int (arrC 6 fun _ => .int .i64 0)) :: fmB x5 x9 x10 x11 f [])) := ok
  show wp Try.prog _ _ (own A ((x13, oc ty_a6_int (arrC 6 fun _ => .int .i64 0)) :: fmB x5 x9 x10 x11 f []) H) _
  obtain ⟨p5, ok⟩ := fm_x21b (A := A) ok
  rw [p5]
  have F0 : FL A fmP 4 32 (fmC []) := by
    have hz : ∀ i, A.rawF i = 0 := fun i => by
      unfold Ar.rawF; split
      · rw [hm.raw, List.getD_eq_getElem?_getD, List.getElem?_replicate]; split <;> rfl
      · rfl
    have hc : ∀ k, fmC [] k = [] := fun k => by unfold fmC upd; split <;> rfl
    refine ⟨rfl, rfl, by omega, by omega, by rw [hm.raw, List.length_replicate]; decide, by rw [hm.uses]; omega, fun k _ _ => ?_, fun k _ _ => ?_, fun k b h => ?_, fun k => ?_, fun k j b h => ?_, fun k h => ?_⟩
    · rw [hz, hm.uses]; decide
    · rw [hz, hc]; rfl
    · rw [hc] at h; cases h
    · rw [hc]; exact .nil
    · rw [hc] at h; cases h
    · rw [hc] at h; exact (h rfl).elim
  have al0 : ∀ j, i ≤ j → (f j).al = [] ∧ (f j).mc = .idle := fun j hj => by rw [hf1 j hj, hf0]; exact ⟨rfl, rfl⟩
  have M : FX A.ids A f i [] := by
    refine ⟨hA, F0, hm.fault, ?_, fun j hj => ?_, fun j hj => ?_, al0, na6⟩
    · rw [List.append_nil, famB_cut (m := i) (fun j hj => (al0 j hj).1) 6 na6, ← bas_fam]
      rw [famB_congr2 (g := fun j => [16 * (j : Int), 16 * (j : Int) + 8]) fun j hj => ?_]
      obtain ⟨h1, h2, -⟩ := hf2 j hj
      show (f j).xs ++ (f j).mc.hl = _
      rw [h1, h2]; rfl
    · by_cases e : j < i
      · exact (hf2 j e).2.2
      · rw [hf1 j (by omega), hf0]; exact .inl ⟨rfl, rfl⟩
    · by_cases e : j < i
      · rw [(hf2 j e).1]; trivial
      · rw [(al0 j (by omega)).2]; trivial
  have u0 := hm.uses
  refine wl_bi (fun _ n K => 0 ≤ n ∧ n ≤ 400 ∧ FmK A.ids H x5 x9 x10 x11 x13 i n K) (fun _ n => (400 - n).toNat) false 0 ⟨by omega, by omega, A, f, [], _, M, by omega, ok, ⟨fun _ => 0, List.mem_cons_self⟩, rfl⟩ ?_
  rintro q n K ⟨n0, n1, B, f', ch', tl', M', hu', ok', hm', rfl⟩
  have fin : ∀ (L' : Hands), wp Try.prog (.newP (.cells #[(.int .i64 0), (.int .i64 0), (.int .i64 0), (.int .i64 0), (.int .i64 0), (.int .i64 0), (.int .i64 0), (.int .i64 0), (.int .i64 0), (.int .i64 0), (.int .i64 0), (.int .i64 0), (.int .i64 0), (.int .i64 0), (.int .i64 0), (.int .i64 0), (.int .i64 0), (.int .i64 0), (.int .i64 0), (.int .i64 0), (.int .i64 0), (.int .i64 0), (.int .i64 0), (.int .i64 0), (.int .i64 0), (.int .i64 0), (.int .i64 0), (.int .i64 0), (.int .i64 0), (.int .i64 0), (.int .i64 0), (.int .i64 0)] ty_a32_int) fun x21 =>
      .loop 2497 t_magpielaw10_FreeMixes_L3_sh [(.bool q), (.int .i64 0)] (t_magpielaw10_FreeMixes_L3 ⟨x5, 0, none⟩ (aI A.ids) x40 ⟨x9, 0, none⟩ ⟨x10, 0, none⟩ ⟨x11, 0, none⟩ x21)) L' (own B (fmB x5 x9 x10 x11 f' tl') H) (fun u K => u = .bool true ∧ K = H) := fun L' => by
    refine w_newP (c := arrC 32 (cnt [])) M'.aw ok' fun x21 ok2 => ?_
    obtain ⟨p7, ok3⟩ := fm_x21b (A := B) ok2
    rw [p7]
    refine fm_L3 hna M' (by omega) ok3 List.mem_cons_self fun A2 f2 ch2 tl2 q2 C M2 hu2 hd2 ok4 hm4 => ?_
    exact fm_fin hI hna M2 hu2 hd2 ok4 hm4
  by_cases d1 : n < ((s.len : Nat) : Int)
  case neg => rw [t_magpielaw10_FreeMixes_L2]; exact wp_false (decide_eq_false d1) (fin _)
  by_cases d2 : n < 400
  case neg => rw [t_magpielaw10_FreeMixes_L2]; exact wp_true (decide_eq_true d1) (wp_false (decide_eq_false d2) (fin _))
  refine fm_pick hz hI' hna M' n0 d2 d1 (by omega) hu' ok' hm' fun K hK => ?_
  exact wp_again ⟨q, n + 1, rfl, ⟨by omega, by omega, hK⟩, by omega⟩
end Go.Proofs.Ytjleoogieoahnaa

