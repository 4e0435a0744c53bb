/- Texts of this claim, one behind the other. -/
import Derived.Test.YtjnacjniiogjcaaGreatCWThiefLast4
set_option linter.unusedSimpArgs false
set_option linter.unusedVariables false
set_option maxRecDepth 20000
namespace Go.Proofs.YtjnacjniiogjcaaGreat
open Go Go.Fw
@[reducible] def t_magpielaw17_run_L1_sh : List Sh1 := [(.leaf .bool), (.leaf (.int .i64))]
noncomputable def t_magpielaw17_run_L1 (p0 : Option Addr) (p1 : Value) (y1 : HL Sh1.T t_magpielaw17_run_L1_sh) : Tree :=
 bif (decide ((y1.2.1 : Int) < 4000)) then (
 .call f_arena_Arena_Uses [(.pointer p0)] (.one (.leaf (.int .i64))) fun x13 =>
 .act (opS Tryz.prog (.call { callee := .invoke (.tmp 0) "Step", args := #[(.tmp 1)], argTypes := #[ty_p_arena_Arena] }) ty_bool [p1, (.pointer p0)]) (.one (.leaf .bool)) fun x16 =>
 .call f_arena_Arena_Uses [(.pointer p0)] (.one (.leaf (.int .i64))) fun x18 =>
 bif (decide ((x18 : Int) > (w64 (x13 + 1)))) then (
 .ret (.bool false))
 else (
 bif x16 then (
 .ret (.bool true))
 else (
 .again 128 [(.bool y1.1), (.int .i64 (w64 (y1.2.1 + 1)))])))
 else (
 .ret (.bool false))
noncomputable def t_magpielaw17_run (p0 : Option Addr) (p1 : Value) : Tree :=
 .loop 128 t_magpielaw17_run_L1_sh [(.bool false), (.int .i64 0)] (t_magpielaw17_run_L1 p0 p1)
theorem t_magpielaw17_run_spec {p0 : Option Addr} {p1 : Value} : SpT f_magpielaw17_run #[(.pointer p0), p1] (t_magpielaw17_run p0 p1) := spT tcfg1 Tryz.func15 (by kernel_rfl)
@[reducible] def t_magpielaw17_Make_L1_sh : List Sh1 := [(.leaf .ptr), (.leaf (.int .i64))]
noncomputable def t_magpielaw17_Make_L1 (p0 : Int) (x7 : Addr) (x34 : Addr) (y1 : HL Sh1.T t_magpielaw17_Make_L1_sh) : Tree :=
 bif (decide ((y1.2.1 : Int) < p0)) then (
 .call f_magpielaw17_W_slot [(.pointer (some x34)), (.int .i64 y1.2.1)] (.one (.leaf (.int .i64))) fun x68 =>
 bif ((x68 : Int) == 0) then (
 .ret (.pointer none))
 else (
 lkN (some x34) fun x72 =>
 .ld x72 .ptr fun x74 =>
 lkN (some x34) fun x76 =>
 .ld (x76.add 7) (.int .i64) fun x78 =>
 .ldA x7 [(.int .i64), (.int .i64), (.int .i64), (.int .i64), (.int .i64)] fun x81 =>
 lkN (some x34) fun x83 =>
 .ld (x83.add 1) .ptr fun x85 =>
 .call f_deque_New [(.pointer x74), (.int .i64 x78), (.int .i64 y1.2.1), (.int .i64 x68), (.agg #[(.int .i64 x81.1), (.int .i64 x81.2.1), (.int .i64 x81.2.2.1), (.int .i64 x81.2.2.2.1), (.int .i64 x81.2.2.2.2.1)]), (.pointer x85)] (.one (.leaf .ptr)) fun x86 =>
 .look (opS Tryz.prog (.binOp .eql ty_p_deque_Own (.tmp 0) (.const (.pointer none)) ty_p_deque_Own) ty_bool [(.pointer x86)]) (.one (.leaf .bool)) fun x88 =>
 bif x88 then (
 .ret (.pointer none))
 else (
 lkN (some x34) fun x91 =>
 .ld (x91.add 8) .slice fun x93 =>
 .newS (.cells #[(.pointer x86)] ty_p_deque_Own) 1 fun x95 =>
 .act (opS Tryz.prog (.call { callee := .builtin .append, args := #[(.tmp 0), (.tmp 1)], argTypes := #[ty_s_p_deque_Own, ty_s_p_deque_Own] }) ty_s_p_deque_Own [(.slice x93.a x93.len x93.cap), (.slice x95.a x95.len x95.cap)]) (.one (.leaf .slice)) fun x96 =>
 lkN (some x34) fun x97 =>
 .st (x97.add 8) (.slice x96.a x96.len x96.cap) <|
 .again 512 [(.pointer y1.1), (.int .i64 (w64 (y1.2.1 + 1)))])))
 else (
 .ret (.pointer (some x34)))
noncomputable def t_magpielaw17_Make (p0 : Int) (p1 : Int) (p2 : Bool) : Tree :=
 .call f_free_Raw [(.int .i64 p0), (.int .i64 p1)] (.tup [(.agg [(.int .i64), (.int .i64), (.int .i64), (.int .i64), (.int .i64)]), (.leaf (.int .i64))]) fun x17 =>
 .newP (.cells #[(.int .i64 0), (.int .i64 0), (.int .i64 0), (.int .i64 0), (.int .i64 0)] ty_free_Place) fun x7 =>
 .stA x7 [(.int .i64 x17.1.1), (.int .i64 x17.1.2.1), (.int .i64 x17.1.2.2.1), (.int .i64 x17.1.2.2.2.1), (.int .i64 x17.1.2.2.2.2.1)] <|
 .call f_guard_Raw [(.int .i64 p0), (.int .i64 x17.2.1), (.bool p2)] (.one (.leaf (.int .i64))) fun x23 =>
 .ldA x7 [(.int .i64), (.int .i64), (.int .i64), (.int .i64), (.int .i64)] fun x24 =>
 .ldA x7 [(.int .i64), (.int .i64), (.int .i64), (.int .i64), (.int .i64)] fun x31 =>
 .call f_guard_New [(.int .i64 p0), (.int .i64 x17.2.1), (.bool p2), (.int .i64 2), (.agg #[(.int .i64 x31.1), (.int .i64 x31.2.1), (.int .i64 x31.2.2.1), (.int .i64 x31.2.2.2.1), (.int .i64 x31.2.2.2.2.1)])] (.one (.leaf .ptr)) fun x32 =>
 .check (ldAS x7 5 0 #[]) (.agg #[(.int .i64 x24.1), (.int .i64 x24.2.1), (.int .i64 x24.2.2.1), (.int .i64 x24.2.2.2.1), (.int .i64 x24.2.2.2.2.1)]) <|
 .newP (.cells #[(.pointer none), (.pointer x32), (.int .i64 x24.1), (.int .i64 x24.2.1), (.int .i64 x24.2.2.1), (.int .i64 x24.2.2.2.1), (.int .i64 x24.2.2.2.2.1), (.int .i64 (w64 (x17.2.1 + x23))), (.slice none 0 0)] ty_magpielaw17_W) fun x34 =>
 .qcall f_deque_Raw [(.int .i64 p0), (.int .i64 (w64 (x17.2.1 + x23)))] (.one (.leaf (.int .i64))) fun x43 =>
 .call f_arena_New [(.int .i64 (w64 ((w64 (x17.2.1 + x23)) + x43))), (.int .i64 p1), (.bool false)] (.one (.leaf .ptr)) fun x46 =>
 lkN (some x34) fun x47 =>
 .st x47 (.pointer x46) <|
 lkN (some x34) fun x50 =>
 .ld x50 .ptr fun x52 =>
 .look (opS Tryz.prog (.binOp .eql ty_p_arena_Arena (.tmp 0) (.const (.pointer none)) ty_p_arena_Arena) ty_bool [(.pointer x52)]) (.one (.leaf .bool)) fun x53 =>
 bif x53 then (
 .ret (.pointer none))
 else (
 lkN (some x34) fun x56 =>
 .ld (x56.add 1) .ptr fun x58 =>
 .look (opS Tryz.prog (.binOp .eql ty_p_guard_Guard (.tmp 0) (.const (.pointer none)) ty_p_guard_Guard) ty_bool [(.pointer x58)]) (.one (.leaf .bool)) fun x59 =>
 bif x59 then (
 .ret (.pointer none))
 else (
 .loop 512 t_magpielaw17_Make_L1_sh [(.pointer none), (.int .i64 0)] (t_magpielaw17_Make_L1 p0 x7 x34)))
theorem t_magpielaw17_Make_spec {p0 : Int} {p1 : Int} {p2 : Bool} : SpT f_magpielaw17_Make #[(.int .i64 p0), (.int .i64 p1), (.bool p2)] (t_magpielaw17_Make p0 p1 p2) := spT tcfg1 Tryz.func9 (by kernel_rfl)
noncomputable def t_magpielaw17_awake : Tree :=
 .call f_magpielaw17_Make [(.int .i64 2), (.int .i64 64), (.bool false)] (.one (.leaf .ptr)) fun x8 =>
 .look (opS Tryz.prog (.binOp .eql ty_p_magpielaw17_W (.tmp 0) (.const (.pointer none)) ty_p_magpielaw17_W) ty_bool [(.pointer x8)]) (.one (.leaf .bool)) fun x10 =>
 bif x10 then (
 .ret (.bool false))
 else (
 lkN x8 fun x13 =>
 .ld x13 .ptr fun x15 =>
 lkN x8 fun x17 =>
 .ld (x17.add 8) .slice fun x19 =>
 .look (opS Tryz.prog (.indexAddr ty_s_p_deque_Own (.tmp 0) (.const (.int .i64 0))) ty_unit [(.slice x19.a x19.len x19.cap)]) (.one (.leaf .addr)) fun x20 =>
 .ld x20 .ptr fun x21 =>
 .call f_deque_Own_Push [(.pointer x21), (.int .i64 77)] (.one (.leaf .ptr)) fun x22 =>
 .check (ldS x13) (.pointer x15) <|
 .check (nck x8) (.pointer (some x13)) <|
 .call f_magpielaw17_run [(.pointer x15), (.iface ty_p_deque_Push (.pointer x22))] (.one (.leaf .bool)) fun x24 =>
 bif (!x24) then (
 .ret (.bool false))
 else (
 lkN x8 fun x28 =>
 .ld (x28.add 7) (.int .i64) fun x30 =>
 lkN x8 fun x32 =>
 .ld (x32.add 1) .ptr fun x34 =>
 lkN x8 fun x37 =>
 .ld (x37.add 7) (.int .i64) fun x39 =>
 lkN x8 fun x41 =>
 .ld (x41.add 1) .ptr fun x43 =>
 .call f_thief_New [(.int .i64 x30), (.pointer x34), (.int .i64 1), (.int .i64 0), (.int .i64 0), (.int .i64 0)] (.one (.leaf .ptr)) fun x35 =>
 .check (ldS (x41.add 1)) (.pointer x43) <|
 .check (nck x8) (.pointer (some x41)) <|
 .check (ldS (x37.add 7)) (.int .i64 x39) <|
 .check (nck x8) (.pointer (some x37)) <|
 .call f_thief_New [(.int .i64 x39), (.pointer x43), (.int .i64 1), (.int .i64 0), (.int .i64 0), (.int .i64 0)] (.one (.leaf .ptr)) fun x44 =>
 .look (opS Tryz.prog (.binOp .eql ty_p_thief_Steal (.tmp 0) (.const (.pointer none)) ty_p_thief_Steal) ty_bool [(.pointer x35)]) (.one (.leaf .bool)) fun x46 =>
 bif x46 then (
 .ret (.bool false))
 else (
 .look (opS Tryz.prog (.binOp .eql ty_p_thief_Steal (.tmp 0) (.const (.pointer none)) ty_p_thief_Steal) ty_bool [(.pointer x44)]) (.one (.leaf .bool)) fun x49 =>
 bif x49 then (
 .ret (.bool false))
 else (
 lkN x8 fun x53 =>
 .ld x53 .ptr fun x55 =>
 .call f_magpielaw17_run [(.pointer x55), (.iface ty_p_thief_Steal (.pointer x35))] (.one (.leaf .bool)) fun x58 =>
 bif (!x58) then (
 .ret (.bool false))
 else (
 lkN x8 fun x63 =>
 .ld x63 .ptr fun x65 =>
 .call f_magpielaw17_run [(.pointer x65), (.iface ty_p_thief_Steal (.pointer x44))] (.one (.leaf .bool)) fun x68 =>
 bif (!x68) then (
 .ret (.bool false))
 else (
 .call f_thief_Steal_Value [(.pointer x35)] (.tup [(.leaf (.int .i64)), (.leaf .bool)]) fun x73 =>
 .call f_thief_Steal_Value [(.pointer x44)] (.tup [(.leaf (.int .i64)), (.leaf .bool)]) fun x78 =>
 bif x73.2.1 then (
 bif ((x73.1 : Int) == 77) then (
 .ret (.bool (!x78.2.1)))
 else (
 .ret (.bool false)))
 else (
 .ret (.bool false))))))))
theorem t_magpielaw17_awake_spec : SpT f_magpielaw17_awake #[] (t_magpielaw17_awake ) := spT tcfg1 Tryz.func20 (by kernel_rfl)
noncomputable def t_magpielaw17_W_slot (p0 : Option Addr) (p1 : Int) : Tree :=
 lkN p0 fun x9 =>
 .ldA (x9.add 2) [(.int .i64), (.int .i64), (.int .i64), (.int .i64), (.int .i64)] fun x11 =>
 .call f_slab_NewAlloc [(.agg #[(.int .i64 x11.1), (.int .i64 x11.2.1), (.int .i64 x11.2.2.1), (.int .i64 x11.2.2.2.1), (.int .i64 x11.2.2.2.2.1)]), (.int .i64 p1), (.int .i64 0)] (.one (.leaf .ptr)) fun x13 =>
 .look (opS Tryz.prog (.binOp .eql ty_p_slab_Alloc (.tmp 0) (.const (.pointer none)) ty_p_slab_Alloc) ty_bool [(.pointer x13)]) (.one (.leaf .bool)) fun x15 =>
 bif x15 then (
 .ret (.int .i64 0))
 else (
 lkN p0 fun x18 =>
 .ld x18 .ptr fun x20 =>
 .call f_magpielaw17_run [(.pointer x20), (.iface ty_p_slab_Alloc (.pointer x13))] (.one (.leaf .bool)) fun x23 =>
 bif (!x23) then (
 .ret (.int .i64 0))
 else (
 .call f_slab_Alloc_Handle [(.pointer x13)] (.tup [(.leaf (.int .i64)), (.leaf .bool)]) fun x28 =>
 .ret (.int .i64 x28.1)))
theorem t_magpielaw17_W_slot_spec {p0 : Option Addr} {p1 : Int} : SpT f_magpielaw17_W_slot #[(.pointer p0), (.int .i64 p1)] (t_magpielaw17_W_slot p0 p1) := spT tcfg1 Tryz.func11 (by kernel_rfl)
theorem runR17_go {M J : Type} {X : MchR M J} (hX : X.ok) {t : TypeId} (hinv : X.inv' t) {I : List Nat} {G : Heap} {n : Nat} {m m' : M} {A A' : Ar} (h : X.Runs n m A m' A') {L : Hands} :
    ∀ {i : Int} {b : Bool} {j : J} {R : Value → Heap → Prop}, (∀ j', Ok I G (keys (X.bl m' j')) → X.rep m' j' → Aw I A' → X.addr j' = X.addr j → R (.bool true) (own A' (X.bl m' j') G)) → Aw I A → Ok I G (keys (X.bl m j)) → X.rep m j → 0 ≤ i → i + n ≤ 4000 →
      wp Tryz.prog (.loop 128 t_magpielaw17_run_L1_sh [(.bool b), (.int .i64 i)] (t_magpielaw17_run_L1 (aI I) (.iface t (.pointer (some ⟨X.addr j, 0, none⟩))))) L (own A (X.bl m j) G) R := by
  induction h with
  | @one m A m1 A1 hi hst hu hf =>
    intro i b j R hR hA ok rp h0 h1
    refine wp_loop_unroll (b, i, ()) rfl ?_
    rw [t_magpielaw17_run_L1]
    refine wp_true (ilt (by show i < 4000; omega)) ?_
    refine w_Uses hA ?_
    refine act_enter (hinv _ _) ?_
    refine wp_call_of (hX I A G m j hA ok rp hi) ?_
    rintro v K ⟨j', rfl, rfl, ha, ok', rp', hA'⟩
    rw [hst] at ok' rp' hA' ⊢
    refine ⟨true, by rw [hf], ?_⟩
    refine w_Uses hA' ?_
    refine wp_false (inlt hu) ?_
    exact wp_true rfl (wp_ret_of (hR j' ok' rp' hA' ha))
  | @more n m A m1 A1 m' A' hi hst hu hf hr ih =>
    intro i b j R hR hA ok rp h0 h1
    refine wp_loop_unroll (b, i, ()) rfl ?_
    rw [t_magpielaw17_run_L1]
    refine wp_true (ilt (by show i < 4000; omega)) ?_
    refine w_Uses hA ?_
    refine act_enter (hinv _ _) ?_
    refine wp_call_of (hX I A G m j hA ok rp hi) ?_
    rintro v K ⟨j', rfl, rfl, ha, ok', rp', hA'⟩
    rw [hst] at ok' rp' hA' ⊢
    refine ⟨false, by rw [hf], ?_⟩
    refine w_Uses hA' ?_
    refine wp_false (inlt hu) (wp_false rfl (wp_again ?_))
    have e : w64 (i + 1) = i + 1 := w64_in (by omega) (by omega)
    rw [e, ← ha]
    exact ih (fun j2 k1 k2 k3 k4 => hR j2 k1 k2 k3 (k4.trans ha)) hA' ok' rp' (by omega) (by omega)
theorem w_runR17 {M J : Type} {X : MchR M J} (hX : X.ok) {t : TypeId} (hinv : X.inv' t) {I : List Nat} {G : Heap} {n : Nat} {m m' : M} {A A' : Ar} (h : X.Runs n m A m' A') (hn : n ≤ 4000) {j : J} {rest : Bl} (hA : Aw I A) (ok : Ok I G (keys (X.bl m j ++ rest))) (rp : X.rep m j)
    {L : Hands} {R : Value → Heap → Prop} {k : Bool → Tree} (hk : ∀ j', X.addr j' = X.addr j → Aw I A' → Ok I G (keys (X.bl m' j' ++ rest)) → X.rep m' j' → wp Tryz.prog (k true) L (own A' (X.bl m' j' ++ rest) G) R) :
    wp Tryz.prog (.call f_magpielaw17_run [.pointer (aI I), .iface t (.pointer (some ⟨X.addr j, 0, none⟩))] (.one (.leaf .bool)) k) L (own A (X.bl m j ++ rest) G) R := by
  rw [keys_append] at ok
  obtain ⟨o1, o2⟩ := ok.split
  refine w_sub (R0 := fun v K => ∃ j', v = .bool true ∧ K = own A' (X.bl m' j') (putL rest G) ∧ Ok I (putL rest G) (keys (X.bl m' j')) ∧ X.rep m' j' ∧ Aw I A' ∧ X.addr j' = X.addr j) ?_ ?_
  · refine t_magpielaw17_run_spec fun L => ?_
    unfold t_magpielaw17_run
    exact runR17_go hX hinv h (fun j' a b c d => ⟨j', rfl, rfl, a, b, c, d⟩) hA o1 rp (Int.le_refl 0) (by omega)
  · rintro v K ⟨j', rfl, rfl, ok', rp', hA', ha⟩
    refine ⟨true, rfl, ?_⟩
    rw [← own_append]
    exact hk j' ha hA' (by rw [keys_append]; exact ok'.join o2) rp'
theorem npW17 (a : Addr) : opS Tryz.prog (.binOp .eql ty_p_magpielaw17_W (.tmp 0) (.const (.pointer none)) ty_p_magpielaw17_W) ty_bool [(.pointer (some a))] = .pure (.value (.bool false)) := by kernel_rfl
theorem npPs (a : Addr) : opS Tryz.prog (.binOp .eql ty_p_deque_Push (.tmp 0) (.const (.pointer none)) ty_p_deque_Push) ty_bool [(.pointer (some a))] = .pure (.value (.bool false)) := by kernel_rfl
theorem npPp (a : Addr) : opS Tryz.prog (.binOp .eql ty_p_deque_Pop (.tmp 0) (.const (.pointer none)) ty_p_deque_Pop) ty_bool [(.pointer (some a))] = .pure (.value (.bool false)) := by kernel_rfl
theorem npOw (a : Addr) : opS Tryz.prog (.binOp .eql ty_p_deque_Own (.tmp 0) (.const (.pointer none)) ty_p_deque_Own) ty_bool [(.pointer (some a))] = .pure (.value (.bool false)) := by kernel_rfl
theorem elP : ElOk ty_s_p_deque_Own ty_p_deque_Own 1 := ⟨⟨_, _, rfl, rfl, rfl, by decide, by decide, rfl, rfl⟩⟩
def wC (I : List Nat) (q : Nat) (p : Pl) (at_ : Int) (s : Sl) : List Value := [.pointer (aI I), .pointer (some ⟨q, 0, none⟩), .int .i64 p.work, .int .i64 p.heads, .int .i64 p.links, .int .i64 p.gens, .int .i64 p.carved, .int .i64 at_, slV s]
def Dq.bl (q : Nat) (x : Dq) : Bl := [(x.ob, oc ty_deque_Own (owC x.o q))]
def obs (f : Nat → Dq) (n : Nat) : List Nat := arrC n fun i => (f i).ob
def WL (x q mq : Nat) (I : List Nat) (g : Gd) (at_ : Int) (s : Sl) (e : List LE) (f : Nat → Dq) (n : Nat) (sb rest : Bl) : Bl :=
  (x, oc ty_magpielaw17_W (wC I q g.pl at_ s)) :: (g.bl q mq e ++ (famB (fun i => (f i).bl q) n ++ (sb ++ rest)))
section
variable {L : Hands} {R : Value → Heap → Prop} {G : Heap} {l rest sb : Bl} {A B : Ar} {I : List Nat}
variable {g : Gd} {m : Int} {S S' : Sg} {ls l' : Int → List (Int × Int)} {v t at_ ex : Int} {q mq x n N w : Nat} {s : Sl} {e : List LE} {f : Nat → Dq}
theorem w_rdOw {xs : List Nat} {i : Nat} {ob : Nat} {u : TypeId} {k : Option Addr → Tree} (hA : Aw I A) (ok : Ok I G (keys l)) (hs : SlOf l ty_p_deque_Own eP s xs) (hi : xs[i]? = some ob) (h : wp Tryz.prog (k (some ⟨ob, 0, none⟩)) L (own A l G) R) :
    wp Tryz.prog (.look (opS Tryz.prog (.indexAddr ty_s_p_deque_Own (.tmp 0) (.tmp 1)) u [.slice s.a s.len s.cap, .int .i64 (i : Int)]) (.one (.leaf .addr)) fun y => .ld y .ptr k) L (own A l G) R := by
  have hl : i < xs.length := (List.getElem?_eq_some_iff.1 hi).1
  rcases hs with ⟨_, rfl⟩ | ⟨b, rest, r, rfl, h2, h3⟩
  · cases hi
  · refine w_ixS (e := ty_p_deque_Own) rfl rfl rfl (by omega) (by show (i : Int) < (xs.length : Int); omega) ?_
    refine w_ldm (x := some ⟨ob, 0, none⟩) hA ok rfl h3 ?_ h
    rw [Nat.zero_add, eP_all, List.getElem?_append_left (by simpa using hl), Int.toNat_natCast, List.getElem?_map, hi]; rfl
theorem w_app1P {xs : List Nat} {z : Nat} {k : Sl → Tree} {pre tl : Bl} (hA : Aw I A) (ok : Ok I G (keys (pre ++ tl))) (hs : SlOf tl ty_p_deque_Own eP s xs) (hm : xs.length ≤ 1000000)
    (h : ∀ s' tl', SlOf tl' ty_p_deque_Own eP s' (xs ++ [z]) → Ok I G (keys (pre ++ tl')) → wp Tryz.prog (k s') L (own A (pre ++ tl') G) R) :
    wp Tryz.prog (.newS (.cells #[.pointer (some ⟨z, 0, none⟩)] ty_p_deque_Own) 1 fun x => .act (opS Tryz.prog (.call { callee := .builtin .append, args := #[(.tmp 0), (.tmp 1)], argTypes := #[ty_s_p_deque_Own, ty_s_p_deque_Own] }) ty_s_p_deque_Own [(.slice s.a s.len s.cap), (.slice x.a x.len x.cap)]) (.one (.leaf .slice)) k) L (own A (pre ++ tl) G) R := by
  refine w_newS (c := [.pointer (some ⟨z, 0, none⟩)]) hA ok fun q ok1 => ?_
  have ok' : Ok I G (keys (((q, oc ty_p_deque_Own [.pointer (some ⟨z, 0, none⟩)]) :: pre) ++ tl)) := ok1
  show wp Tryz.prog _ L (own A (((q, oc ty_p_deque_Own [.pointer (some ⟨z, 0, none⟩)]) :: pre) ++ tl) G) R
  refine w_appT (E := eP) elP (ys := [z]) (t := ⟨some ⟨q, 0, none⟩, 1, 1⟩) hA ok' hs ?_ rfl (by simp; omega) fun s' tl' hs' ok2 ap => ?_
  · exact cell_row hA ok' List.mem_cons_self 0 rfl
  · obtain ⟨m3, m4⟩ := own_mid (A := A) ok2
    show wp Tryz.prog _ L (own A ((q, oc ty_p_deque_Own [.pointer (some ⟨z, 0, none⟩)]) :: (pre ++ tl')) G) R
    rw [m3]
    exact h s' _ (hs'.mono fun p hp => List.mem_cons_of_mem _ hp) m4
theorem obs_upd {y : Dq} (hy : y.ob = (f w).ob) : obs (updF f w y) n = obs f n := by
  unfold obs
  congr 1
  funext j
  unfold updF
  split
  · rename_i e; rw [e, hy]
  · rfl
theorem obs_get (h : w < n) : (obs f n)[w]? = some (f w).ob := arrC_get h
theorem WL_mem {p : Nat × Obj} (h : p ∈ sb) : p ∈ WL x q mq I g at_ s e f n sb rest := List.mem_cons_of_mem _ (List.mem_append_right _ (List.mem_append_right _ (List.mem_append_left _ h)))
theorem WL_own (h : w < n) : ((f w).ob, oc ty_deque_Own (owC (f w).o q)) ∈ WL x q mq I g at_ s e f n sb rest := List.mem_cons_of_mem _ (List.mem_append_right _ (List.mem_append_left _ (famB_mem.2 ⟨w, h, List.mem_cons_self⟩)))
theorem w_size17 {K : Int → Tree} (E : DI A g m S ls at_ n ex f) (hw : w < n) (hu : A.uses ≤ 700000) (hA : Aw I A) (ok : Ok I G (keys (WL x q mq I g at_ s e f n sb rest)))
    (hk : Aw I (A.later 2) → DI (A.later 2) g m S ls at_ n ex f → wp Tryz.prog (K ((f w).xs.length : Int)) L (own (A.later 2) (WL x q mq I g at_ s e f n sb rest) G) R) :
    wp Tryz.prog (.call f_deque_Own_Size [.pointer (some ⟨(f w).ob, 0, none⟩), .pointer (aI I)] (.one (.leaf (.int .i64))) K) L (own A (WL x q mq I g at_ s e f n sb rest) G) R := by
  obtain ⟨ix, hix⟩ := mem_idx (WL_own (x := x) (q := q) (mq := mq) (I := I) (g := g) (at_ := at_) (s := s) (e := e) (f := f) (n := n) (sb := sb) (rest := rest) hw)
  obtain ⟨wh, da, hs, lb, sz⟩ := E.ati hw
  have Q := E.dq w hw
  have X := E.gi
  have u0 := X.u0
  have tb := Q.tb
  have bt := Q.bt
  refine w_Size ix (bnd_ok X da wh) hA ok hix fun hB => ?_
  have t1 := touchR_dw (o := (f w).o) X da wh (by omega) (k := 1) (by decide) (by decide)
  rw [t1] at hB ⊢
  have t0 := touchR_dw (o := (f w).o) (A := A.later 1) (X.later (by decide)) ⟨da.lo, da.hi⟩ wh (by show A.uses + 1 ≤ _; omega) (k := 0) (by decide) (by decide)
  have e2 : (A.later 1).later 1 = A.later 2 := by unfold Ar.later; rw [show A.uses + 1 + 1 = A.uses + 2 by omega]
  rw [t0, e2] at hB ⊢
  have ev : imax (w64 (A.rawF (dw (f w).o.at_ (f w).o.work 1) - (A.later 1).rawF (dw (f w).o.at_ (f w).o.work 0))) 0 = ((f w).xs.length : Int) := by
    rw [Q.r1, show (A.later 1).rawF (dw (f w).o.at_ (f w).o.work 0) = (f w).t from Q.r0, bt, w64_in (by omega) (by omega)]
    unfold imax; split <;> omega
  rw [ev]
  exact hk hB (E.later (by decide))
def psB (z ob : Nat) (v : Int) : Nat × Obj := (z, oc ty_deque_Push (psC ob v 0 0 none none .nilIface 0 false))
def ppB (z ob : Nat) : Nat × Obj := (z, oc ty_deque_Pop [.pointer (some ⟨ob, 0, none⟩), .int .i64 0, .int .i64 0, .int .i64 0, .bool false])
def wentB (z : Nat) (went : Bool) : Bl → Prop := fun rest => ∃ c, (z, oc ty_deque_Push c) ∈ rest ∧ c[8]? = some (.bool went)
def poppedB (z ob : Nat) (y : Pp) : Bl → Prop := fun rest => (z, oc ty_deque_Pop (ppC ob y)) ∈ rest
def stoleB (z : Nat) (q : Nat) (y : Ts) : Bl → Prop := fun rest => ∃ s, (z, oc ty_thief_Steal (tsC y q s .nilIface)) ∈ rest
structure LW (I : List Nat) (G : Heap) (g : Gd) (m at_ : Int) (x q mq : Nat) (s : Sl) (sb : Bl) (n : Nat) (ex : Int) (A : Ar) (S : Sg) (l : Int → List (Int × Int)) (f : Nat → Dq) (e : List LE) (rest : Bl) : Prop where
  aw : Aw I A
  ok : Ok I G (keys (WL x q mq I g at_ s e f n sb rest))
  gs : GdS e l
  di : DI A g m S l at_ n ex f
  hs : SlOf sb ty_p_deque_Own eP s (obs f n)
theorem wentB.in {z : Nat} {went : Bool} {fr : Bl} (h : wentB z went fr) (pre : Bl) (rest : Bl) : wentB z went (pre ++ (fr ++ rest)) := by
  obtain ⟨c, h1, h2⟩ := h
  exact ⟨c, List.mem_append_right _ (List.mem_append_left _ h1), h2⟩
theorem poppedB.in {z ob : Nat} {y : Pp} {fr : Bl} (h : poppedB z ob y fr) (pre : Bl) (rest : Bl) : poppedB z ob y (pre ++ (fr ++ rest)) := List.mem_append_right _ (List.mem_append_left _ h)
theorem stoleB.in {z q : Nat} {y : Ts} {fr : Bl} (h : stoleB z q y fr) (pre : Bl) (rest : Bl) : stoleB z q y (pre ++ (fr ++ rest)) := by
  obtain ⟨s, h⟩ := h
  exact ⟨s, List.mem_append_right _ (List.mem_append_left _ h)⟩
theorem LW.later {l : Int → List (Int × Int)} (E : LW I G g m at_ x q mq s sb n ex A S l f e rest) {k : Int} (hk : 0 ≤ k) : LW I G g m at_ x q mq s sb n ex (A.later k) S l f e rest := ⟨later_aw E.aw k, E.ok, E.gs, E.di.later hk, E.hs⟩
theorem WL_in (gar : Bl) (ok : Ok I G (keys (gar ++ WL x q mq I g at_ s e f n sb rest))) : own A (gar ++ WL x q mq I g at_ s e f n sb rest) G = own A (WL x q mq I g at_ s e f n sb (gar ++ rest)) G ∧ Ok I G (keys (WL x q mq I g at_ s e f n sb (gar ++ rest))) :=
  own_perm (A := A) ok (perm_by fun c d c0 cd ca => by
    show c (gar ++ ((x, oc ty_magpielaw17_W (wC I q g.pl at_ s)) :: (g.bl q mq e ++ (famB (fun i => (f i).bl q) n ++ (sb ++ rest))))) = c ((x, oc ty_magpielaw17_W (wC I q g.pl at_ s)) :: (g.bl q mq e ++ (famB (fun i => (f i).bl q) n ++ (sb ++ (gar ++ rest)))))
    simp only [cd, ca]; omega)
theorem WL_rest {p : Nat × Obj} (h : p ∈ rest) : p ∈ WL x q mq I g at_ s e f n sb rest := List.mem_cons_of_mem _ (List.mem_append_right _ (List.mem_append_right _ (List.mem_append_right _ h)))
section
variable {l : Int → List (Int × Int)}
theorem LW.newPush (E : LW I G g m at_ x q mq s sb n ex A S l f e rest) (hw : w < n) {K : Option Addr → Tree}
    (hk : ∀ z, LW I G g m at_ x q mq s sb n ex A S l f e (psB z (f w).ob v :: rest) → wp Tryz.prog (K (some ⟨z, 0, none⟩)) L (own A (WL x q mq I g at_ s e f n sb (psB z (f w).ob v :: rest)) G) R) :
    wp Tryz.prog (.call f_deque_Own_Push [.pointer (some ⟨(f w).ob, 0, none⟩), .int .i64 v] (.one (.leaf .ptr)) K) L (own A (WL x q mq I g at_ s e f n sb rest) G) R := by
  refine w_NewPushD E.aw E.ok fun z ok1 => ?_
  obtain ⟨p, o⟩ := WL_in (A := A) [psB z (f w).ob v] ok1
  show wp Tryz.prog _ L (own A ([psB z (f w).ob v] ++ WL x q mq I g at_ s e f n sb rest) G) R
  rw [p]
  exact hk z ⟨E.aw, o, E.gs, E.di, E.hs⟩
theorem LW.newPop (E : LW I G g m at_ x q mq s sb n ex A S l f e rest) (hw : w < n) {K : Option Addr → Tree}
    (hk : ∀ z, LW I G g m at_ x q mq s sb n ex A S l f e (ppB z (f w).ob :: rest) → wp Tryz.prog (K (some ⟨z, 0, none⟩)) L (own A (WL x q mq I g at_ s e f n sb (ppB z (f w).ob :: rest)) G) R) :
    wp Tryz.prog (.call f_deque_Own_Pop [.pointer (some ⟨(f w).ob, 0, none⟩)] (.one (.leaf .ptr)) K) L (own A (WL x q mq I g at_ s e f n sb rest) G) R := by
  refine w_NewPopD E.aw E.ok fun z ok1 => ?_
  obtain ⟨p, o⟩ := WL_in (A := A) [ppB z (f w).ob] ok1
  show wp Tryz.prog _ L (own A ([ppB z (f w).ob] ++ WL x q mq I g at_ s e f n sb rest) G) R
  rw [p]
  exact hk z ⟨E.aw, o, E.gs, E.di, E.hs⟩
theorem LW.runPush {z : Nat} (E : LW I G g m at_ x q mq s sb n ex A S l f e (psB z (f w).ob v :: rest)) (hw : w < n) (hu : A.uses ≤ 600000) (th : 1 ≤ g.th) {K : Bool → Tree}
    (hy : ∀ N B S' l' o' al cp now e' fr, PushY A g m S l at_ n ex f w v q mq (f w).ob N B S' l' o' al cp now → wentB z true fr → LW I G g m at_ x q mq s sb n ex B S' l' (updF f w ⟨o', (f w).t, (f w).xs ++ [v], (f w).ob⟩) e' (fr ++ rest) → wp Tryz.prog (K true) L (own B (WL x q mq I g at_ s e' (updF f w ⟨o', (f w).t, (f w).xs ++ [v], (f w).ob⟩) n sb (fr ++ rest)) G) R)
    (hn : ∀ N B al e' fr, PushN A g m S l at_ n ex f w v q mq (f w).ob N B al → wentB z false fr → LW I G g m at_ x q mq s sb n ex B S l f e' (fr ++ rest) → wp Tryz.prog (K true) L (own B (WL x q mq I g at_ s e' f n sb (fr ++ rest)) G) R) :
    wp Tryz.prog (.call f_magpielaw17_run [.pointer (aI I), .iface ty_p_deque_Push (.pointer (some ⟨z, 0, none⟩))] (.one (.leaf .bool)) K) L (own A (WL x q mq I g at_ s e f n sb (psB z (f w).ob v :: rest)) G) R := by
  obtain ⟨c1, hc1⟩ : ∃ c1 : Nat × Obj, c1 = (x, oc ty_magpielaw17_W (wC I q g.pl at_ s)) := ⟨_, rfl⟩
  have ok1 : Ok I G (keys (c1 :: (g.bl q mq e ++ (famB (fun i => (f i).bl q) n ++ (sb ++ (psB z (f w).ob v :: rest)))))) := by rw [hc1]; exact E.ok
  have eW : WL x q mq I g at_ s e f n sb (psB z (f w).ob v :: rest) = c1 :: (g.bl q mq e ++ (famB (fun i => (f i).bl q) n ++ (sb ++ (psB z (f w).ob v :: rest)))) := by rw [hc1]; rfl
  rw [eW]
  obtain ⟨p1, ok2⟩ := own_perm (A := A) (l' := Ps.bl q mq ⟨g, l, (f w).o, v, 0, 0, none, none, none, 0, false⟩ ⟨z, (f w).ob, e, lj0, (0, 0, 0), (0, 0, 0), .nilIface, []⟩ ++ (c1 :: (famR (fun i => (f i).bl q) w n ++ (sb ++ rest)))) ok1 (perm_by fun c d c0 cd ca => by
    show _ = c ((psB z (f w).ob v :: ((f w).ob, oc ty_deque_Own (owC (f w).o q)) :: (g.bl q mq e ++ ([] ++ ([] ++ [])))) ++ (c1 :: (famR (fun i => (f i).bl q) w n ++ (sb ++ rest))))
    have hb : c ((f w).bl q) = d ((f w).ob, oc ty_deque_Own (owC (f w).o q)) := by show c (_ :: []) = _; rw [cd, c0]; rfl
    simp only [List.cons_append, List.append_assoc, List.nil_append, cd, ca, c0, famB_c c0 ca (fun i => (f i).bl q) hw, hb]; omega)
  rw [p1]
  have go : ∀ {N : Nat} {B : Ar} {l' : Int → List (Int × Int)} {o' : DOw} {al : Option Al} {cp : Option Cm} {now t : Int} {went : Bool} {y : Dq}, y.o = o' → y.ob = (f w).ob → N ≤ 4000 →
      (mPs q mq (f w).ob).Runs N ⟨g, l, (f w).o, v, 0, 0, none, none, none, 0, false⟩ A ⟨g, l', o', v, t, 7, al, cp, none, now, went⟩ B →
      (∀ e' fr, wentB z went fr → Aw I B → GdS e' l' → Ok I G (keys (WL x q mq I g at_ s e' (updF f w y) n sb (fr ++ rest))) → wp Tryz.prog (K true) L (own B (WL x q mq I g at_ s e' (updF f w y) n sb (fr ++ rest)) G) R) →
      wp Tryz.prog (.call f_magpielaw17_run [.pointer (aI I), .iface ty_p_deque_Push (.pointer (some ⟨z, 0, none⟩))] (.one (.leaf .bool)) K) L (own A (Ps.bl q mq ⟨g, l, (f w).o, v, 0, 0, none, none, none, 0, false⟩ ⟨z, (f w).ob, e, lj0, (0, 0, 0), (0, 0, 0), .nilIface, []⟩ ++ (c1 :: (famR (fun i => (f i).bl q) w n ++ (sb ++ rest)))) G) R := fun {N B l' o' al cp now t went y} yo yb hN r hk => by
    refine w_runR17 (mPs_ok q mq (f w).ob) (mPs_inv q mq (f w).ob) r hN (j := ⟨z, (f w).ob, e, lj0, (0, 0, 0), (0, 0, 0), .nilIface, []⟩) E.aw ok2 ⟨E.gs, rfl⟩ fun j' ha hB ok3 rp => ?_
    obtain ⟨z', ob', e', lj', aj', cj', ov', gar'⟩ := j'
    have ha : z' = z := ha
    subst ha
    obtain ⟨gs', hob⟩ := rp
    have hob : ob' = (f w).ob := hob
    subst hob
    have ok3 : Ok I G (keys (((z', oc ty_deque_Push (psC (f w).ob v t 7 (alX al aj') (cpX cp cj') ov' now went)) :: ((f w).ob, oc ty_deque_Own (owC o' q)) :: (g.bl q mq e' ++ (alBl al aj' ++ (cpBl cp cj' ++ gar')))) ++ (c1 :: (famR (fun i => (f i).bl q) w n ++ (sb ++ rest))))) := ok3
    show wp Tryz.prog _ L (own B (((z', oc ty_deque_Push (psC (f w).ob v t 7 (alX al aj') (cpX cp cj') ov' now went)) :: ((f w).ob, oc ty_deque_Own (owC o' q)) :: (g.bl q mq e' ++ (alBl al aj' ++ (cpBl cp cj' ++ gar')))) ++ (c1 :: (famR (fun i => (f i).bl q) w n ++ (sb ++ rest)))) G) _
    obtain ⟨p2, ok4⟩ := own_perm (A := B) (l' := WL x q mq I g at_ s e' (updF f w y) n sb (((z', oc ty_deque_Push (psC (f w).ob v t 7 (alX al aj') (cpX cp cj') ov' now went)) :: (alBl al aj' ++ (cpBl cp cj' ++ gar'))) ++ rest)) ok3 (perm_by fun c d c0 cd ca => by
      show _ = c ((x, oc ty_magpielaw17_W (wC I q g.pl at_ s)) :: (g.bl q mq e' ++ (famB (fun i => (updF f w y i).bl q) n ++ (sb ++ _))))
      have hb : c (y.bl q) = d ((f w).ob, oc ty_deque_Own (owC o' q)) := by rw [← yb, ← yo]; show c (_ :: []) = _; rw [cd, c0]; rfl
      simp only [List.cons_append, List.append_assoc, List.nil_append, cd, ca, c0, famB_upd_c c0 ca (Dq.bl q) f y hw, hb, ← hc1]
      have : c (famR (fun j => Dq.bl q (f j)) w n) = c (famR (fun i => (f i).bl q) w n) := rfl
      omega)
    rw [p2]
    exact hk e' _ ⟨_, List.mem_cons_self, rfl⟩ hB gs' ok4
  rcases E.di.push hw hu th v q mq (f w).ob with ⟨N, B, S', l', o', al, cp, now, P⟩ | ⟨N, B, al, P⟩
  · refine go (y := ⟨o', (f w).t, (f w).xs ++ [v], (f w).ob⟩) rfl rfl P.hn P.run fun e' rest' hW aw' gs' ok' => ?_
    exact hy N B S' l' o' al cp now e' rest' P hW ⟨aw', ok', gs', P.di, by rw [obs_upd (y := ⟨o', (f w).t, (f w).xs ++ [v], (f w).ob⟩) (show (f w).ob = (f w).ob from rfl)]; exact E.hs⟩
  · refine go (y := f w) rfl rfl P.hn P.run fun e' rest' hW aw' gs' ok' => ?_
    rw [updF_id] at ok' ⊢
    exact hn N B al e' rest' P hW ⟨aw', ok', gs', P.di, E.hs⟩
theorem LW.went {z : Nat} {went : Bool} (E : LW I G g m at_ x q mq s sb n ex A S l f e rest) (h : wentB z went rest) {K : Bool → Tree} (hk : wp Tryz.prog (K went) L (own A (WL x q mq I g at_ s e f n sb rest) G) R) :
    wp Tryz.prog (.call f_deque_Push_Went [.pointer (some ⟨z, 0, none⟩)] (.one (.leaf .bool)) K) L (own A (WL x q mq I g at_ s e f n sb rest) G) R := by
  obtain ⟨c, h1, h2⟩ := h
  obtain ⟨i, hi⟩ := mem_idx (WL_rest (x := x) (q := q) (mq := mq) (I := I) (g := g) (at_ := at_) (s := s) (e := e) (f := f) (n := n) (sb := sb) h1)
  exact w_Went i E.aw E.ok hi h2 hk
theorem npTs (a : Addr) : opS Tryz.prog (.binOp .eql ty_p_thief_Steal (.tmp 0) (.const (.pointer none)) ty_p_thief_Steal) ty_bool [(.pointer (some a))] = .pure (.value (.bool false)) := by kernel_rfl
theorem stepsSp_f (before : Int) : (stepsSp before).map Sp.f = stepsOf before := by
  unfold stepsSp stepsOf steps7 steps4
  by_cases h : before > 0
  · rw [if_pos h, if_pos h]; rfl
  · rw [if_neg h, if_neg h]; rfl
theorem LW.newSteal {wk vic before keyAt : Int} (E : LW I G g m at_ x q mq s sb n ex A S l f e rest) {K : Option Addr → Tree}
    (hk : ∀ z s0 tl, SlOf tl ty_func_thief_machine (eF z) s0 (stepsOf before) → LW I G g m at_ x q mq s sb n ex A S l f e (stB z q (newTs at_ wk vic before keyAt) s0 .nilIface :: (tl ++ rest)) → wp Tryz.prog (K (some ⟨z, 0, none⟩)) L (own A (WL x q mq I g at_ s e f n sb (stB z q (newTs at_ wk vic before keyAt) s0 .nilIface :: (tl ++ rest))) G) R) :
    wp Tryz.prog (.call f_thief_New [.int .i64 at_, .pointer (some ⟨q, 0, none⟩), .int .i64 wk, .int .i64 vic, .int .i64 before, .int .i64 keyAt] (.one (.leaf .ptr)) K) L (own A (WL x q mq I g at_ s e f n sb rest) G) R := by
  refine w_NewSteal E.aw E.ok fun z s0 tl hs ok1 => ?_
  have ok1 : Ok I G (keys ((stB z q (newTs at_ wk vic before keyAt) s0 .nilIface :: tl) ++ WL x q mq I g at_ s e f n sb rest)) := ok1
  obtain ⟨p, o⟩ := WL_in (A := A) _ ok1
  show wp Tryz.prog _ L (own A ((stB z q (newTs at_ wk vic before keyAt) s0 .nilIface :: tl) ++ WL x q mq I g at_ s e f n sb rest) G) R
  rw [p]
  exact hk z s0 tl hs ⟨E.aw, o, E.gs, E.di, E.hs⟩
theorem LW.runSteal {z : Nat} {wk vic : Nat} {before keyAt : Int} {s0 : Sl} {tl pre : Bl} (E : LW I G g m at_ x q mq s sb n ex A S l f e (pre ++ (stB z q (newTs at_ wk vic before keyAt) s0 .nilIface :: (tl ++ rest)))) (hs : SlOf tl ty_func_thief_machine (eF z) s0 (stepsOf before)) (hv : vic < n) (hw : wk < n) (hu : A.uses ≤ 600000)
    (ht : before > 0 → ∀ y ys, (f vic).xs = y :: ys → A.inOk y keyAt) {K : Bool → Tree}
    (hk : ∀ N B y fr, Stl A g m S l at_ n ex f vic wk before keyAt q mq e N B y → stoleB z q y fr → LW I G g m at_ x q mq s sb n ex B S l (if y.ok = true then updF f vic { f vic with t := (f vic).t + 1, xs := (f vic).xs.tail } else f) e (fr ++ (pre ++ rest)) → wp Tryz.prog (K true) L (own B (WL x q mq I g at_ s e (if y.ok = true then updF f vic { f vic with t := (f vic).t + 1, xs := (f vic).xs.tail } else f) n sb (fr ++ (pre ++ rest))) G) R) :
    wp Tryz.prog (.call f_magpielaw17_run [.pointer (aI I), .iface ty_p_thief_Steal (.pointer (some ⟨z, 0, none⟩))] (.one (.leaf .bool)) K) L (own A (WL x q mq I g at_ s e f n sb (pre ++ (stB z q (newTs at_ wk vic before keyAt) s0 .nilIface :: (tl ++ rest)))) G) R := by
  obtain ⟨N, B, y, P⟩ := E.di.steal hv hw hu before keyAt q mq e ht
  obtain ⟨c1, hc1⟩ : ∃ c1 : Nat × Obj, c1 = (x, oc ty_magpielaw17_W (wC I q g.pl at_ s)) := ⟨_, rfl⟩
  obtain ⟨c2, hc2⟩ : ∃ c2 : Nat × Obj, c2 = stB z q (newTs at_ wk vic before keyAt) s0 .nilIface := ⟨_, rfl⟩
  have ok1 := E.ok
  rw [← hc2] at ok1 ⊢
  have ok1 : Ok I G (keys (c1 :: (g.bl q mq e ++ (famB (fun i => (f i).bl q) n ++ (sb ++ (pre ++ (c2 :: (tl ++ rest)))))))) := by rw [hc1]; exact ok1
  have eW : WL x q mq I g at_ s e f n sb (pre ++ (c2 :: (tl ++ rest))) = c1 :: (g.bl q mq e ++ (famB (fun i => (f i).bl q) n ++ (sb ++ (pre ++ (c2 :: (tl ++ rest)))))) := by rw [hc1]; rfl
  rw [eW]
  obtain ⟨p1, ok2⟩ := own_perm (A := A) (l' := (g.bl q mq e ++ (c2 :: tl)) ++ (c1 :: (famB (fun i => (f i).bl q) n ++ (sb ++ (pre ++ rest))))) ok1 (perm_by fun c d c0 cd ca => by simp only [List.append_assoc, List.cons_append, cd, ca]; omega)
  rw [p1]
  rw [hc2] at ok2 ⊢
  have ok2 : Ok I G (keys ((mTs g q mq e).bl ⟨newTs at_ wk vic before keyAt, stepsSp before, .no⟩ ⟨z, s0, ⟨0, ⟨0, sl0, []⟩⟩, tl⟩ ++ (c1 :: (famB (fun i => (f i).bl q) n ++ (sb ++ (pre ++ rest)))))) := ok2
  show wp Tryz.prog _ L (own A ((mTs g q mq e).bl ⟨newTs at_ wk vic before keyAt, stepsSp before, .no⟩ ⟨z, s0, ⟨0, ⟨0, sl0, []⟩⟩, tl⟩ ++ (c1 :: (famB (fun i => (f i).bl q) n ++ (sb ++ (pre ++ rest))))) G) R
  refine w_runR17 mTs_ok (mTs_inv g q mq e) P.run (by have := P.hn; omega) (j := ⟨z, s0, ⟨0, ⟨0, sl0, []⟩⟩, tl⟩) E.aw ok2 ⟨by rw [stepsSp_f]; exact hs.at', trivial⟩ fun j' ha hB ok3 _ => ?_
  obtain ⟨z', s', u', tl'⟩ := j'
  have ha : z' = z := ha
  subst ha
  have ok3 : Ok I G (keys ((g.bl q mq e ++ (stB z' q y s' .nilIface :: ([] ++ tl'))) ++ (c1 :: (famB (fun i => (f i).bl q) n ++ (sb ++ (pre ++ rest)))))) := ok3
  show wp Tryz.prog _ L (own B ((g.bl q mq e ++ (stB z' q y s' .nilIface :: ([] ++ tl'))) ++ (c1 :: (famB (fun i => (f i).bl q) n ++ (sb ++ (pre ++ rest))))) G) R
  have eb : famB (fun i => ((if y.ok = true then updF f vic { f vic with t := (f vic).t + 1, xs := (f vic).xs.tail } else f) i).bl q) n = famB (fun i => (f i).bl q) n := by
    congr 1
    funext i
    split
    · unfold updF
      split
      · rename_i e; rw [e]; rfl
      · rfl
    · rfl
  have eo : obs (if y.ok = true then updF f vic { f vic with t := (f vic).t + 1, xs := (f vic).xs.tail } else f) n = obs f n := by
    split
    · exact obs_upd rfl
    · rfl
  obtain ⟨p2, ok4⟩ := own_perm (A := B) (l' := WL x q mq I g at_ s e (if y.ok = true then updF f vic { f vic with t := (f vic).t + 1, xs := (f vic).xs.tail } else f) n sb ((stB z' q y s' .nilIface :: tl') ++ (pre ++ rest))) ok3 (perm_by fun c d c0 cd ca => by
    show _ = c ((x, oc ty_magpielaw17_W (wC I q g.pl at_ s)) :: (g.bl q mq e ++ (famB (fun i => ((if y.ok = true then updF f vic { f vic with t := (f vic).t + 1, xs := (f vic).xs.tail } else f) i).bl q) n ++ (sb ++ _))))
    rw [eb, ← hc1]
    simp only [List.append_assoc, List.cons_append, List.nil_append, cd, ca]; omega)
  rw [p2]
  exact hk N B y _ P ⟨s', List.mem_cons_self⟩ ⟨hB, ok4, E.gs, P.di, by rw [eo]; exact E.hs⟩
theorem LW.stealValue {z : Nat} {y : Ts} (E : LW I G g m at_ x q mq s sb n ex A S l f e rest) (h : stoleB z q y rest) (lv : y.leaves = true) {K : HL Sh1.T [(.leaf (.int .i64)), (.leaf .bool)] → Tree} (hk : wp Tryz.prog (K ((if y.ok = true then y.v else 0), y.ok, ())) L (own A (WL x q mq I g at_ s e f n sb rest) G) R) :
    wp Tryz.prog (.call f_thief_Steal_Value [.pointer (some ⟨z, 0, none⟩)] (.tup [(.leaf (.int .i64)), (.leaf .bool)]) K) L (own A (WL x q mq I g at_ s e f n sb rest) G) R := by
  obtain ⟨s1, h⟩ := h
  have hm := WL_rest (x := x) (q := q) (mq := mq) (I := I) (g := g) (at_ := at_) (s := s) (e := e) (f := f) (n := n) (sb := sb) h
  refine wp_call_det (x := ((if y.ok = true then y.v else 0), y.ok, ())) (H' := own A (WL x q mq I g at_ s e f n sb rest) G) ?_ hk
  refine t_thief_Steal_Value_spec fun L => ?_
  unfold t_thief_Steal_Value
  refine wp_nil.2 (w_ldm (x := y.ok) E.aw E.ok rfl hm rfl ?_)
  cases hk : y.ok with
  | false => exact wp_true rfl (wp_ret_of ⟨rfl, rfl⟩)
  | true =>
    refine wp_false rfl ?_
    refine wp_nil.2 (w_ldm (x := .nilIface) E.aw E.ok rfl hm rfl ?_)
    refine look_val (x := false) (neTm0 _) (wp_false rfl ?_)
    refine wp_nil.2 (w_ldm (x := y.leaves) E.aw E.ok rfl hm rfl ?_)
    rw [lv]
    refine wp_false rfl ?_
    refine wp_nil.2 (w_ldm (x := y.v) E.aw E.ok rfl hm rfl ?_)
    exact wp_ret_of ⟨rfl, rfl⟩
theorem w_at (E : LW I G g m at_ x q mq s sb n ex A S l f e rest) {K : Int → Tree} (hk : wp Tryz.prog (K at_) L (own A (WL x q mq I g at_ s e f n sb rest) G) R) :
    wp Tryz.prog (.ld (Addr.add ⟨x, 0, none⟩ 7) (.int .i64) K) L (own A (WL x q mq I g at_ s e f n sb rest) G) R := w_ld 0 (x := at_) E.aw E.ok rfl rfl rfl hk
theorem w_gd (E : LW I G g m at_ x q mq s sb n ex A S l f e rest) {K : Option Addr → Tree} (hk : wp Tryz.prog (K (some ⟨q, 0, none⟩)) L (own A (WL x q mq I g at_ s e f n sb rest) G) R) :
    wp Tryz.prog (.ld (Addr.add ⟨x, 0, none⟩ 1) .ptr K) L (own A (WL x q mq I g at_ s e f n sb rest) G) R := w_ld 0 (x := some ⟨q, 0, none⟩) E.aw E.ok rfl rfl rfl hk
theorem w_ar (E : LW I G g m at_ x q mq s sb n ex A S l f e rest) {K : Option Addr → Tree} (hk : wp Tryz.prog (K (aI I)) L (own A (WL x q mq I g at_ s e f n sb rest) G) R) :
    wp Tryz.prog (.ld ⟨x, 0, none⟩ .ptr K) L (own A (WL x q mq I g at_ s e f n sb rest) G) R := w_ld 0 (x := aI I) E.aw E.ok rfl rfl rfl hk
theorem ck_ar (E : LW I G g m at_ x q mq s sb n ex A S l f e rest) {t : Tree} (hk : wp Tryz.prog t L (own A (WL x q mq I g at_ s e f n sb rest) G) R) :
    wp Tryz.prog (.check (ldS ⟨x, 0, none⟩) (.pointer (aI I)) t) L (own A (WL x q mq I g at_ s e f n sb rest) G) R := w_ck 0 E.aw E.ok rfl rfl rfl hk
theorem ck_gd (E : LW I G g m at_ x q mq s sb n ex A S l f e rest) {t : Tree} (hk : wp Tryz.prog t L (own A (WL x q mq I g at_ s e f n sb rest) G) R) :
    wp Tryz.prog (.check (ldS (Addr.add ⟨x, 0, none⟩ 1)) (.pointer (some ⟨q, 0, none⟩)) t) L (own A (WL x q mq I g at_ s e f n sb rest) G) R := w_ck 0 E.aw E.ok rfl rfl rfl hk
theorem ck_at (E : LW I G g m at_ x q mq s sb n ex A S l f e rest) {t : Tree} (hk : wp Tryz.prog t L (own A (WL x q mq I g at_ s e f n sb rest) G) R) :
    wp Tryz.prog (.check (ldS (Addr.add ⟨x, 0, none⟩ 7)) (.int .i64 at_) t) L (own A (WL x q mq I g at_ s e f n sb rest) G) R := w_ck 0 E.aw E.ok rfl rfl rfl hk
theorem w_ow (E : LW I G g m at_ x q mq s sb n ex A S l f e rest) (hw : w < n) {u : TypeId} {K : Option Addr → Tree} (hk : wp Tryz.prog (K (some ⟨(f w).ob, 0, none⟩)) L (own A (WL x q mq I g at_ s e f n sb rest) G) R) :
    wp Tryz.prog (.ld (Addr.add ⟨x, 0, none⟩ 8) .slice fun z => .look (opS Tryz.prog (.indexAddr ty_s_p_deque_Own (.tmp 0) (.tmp 1)) u [.slice z.a z.len z.cap, .int .i64 (w : Int)]) (.one (.leaf .addr)) fun y => .ld y .ptr K) L (own A (WL x q mq I g at_ s e f n sb rest) G) R :=
  w_ld 0 (x := s) E.aw E.ok rfl rfl rfl (w_rdOw E.aw E.ok (E.hs.mono fun p hp => WL_mem hp) (obs_get hw) hk)
theorem w_ow0 (E : LW I G g m at_ x q mq s sb n ex A S l f e rest) (hw : 0 < n) {u : TypeId} {K : Option Addr → Tree} (hk : wp Tryz.prog (K (some ⟨(f 0).ob, 0, none⟩)) L (own A (WL x q mq I g at_ s e f n sb rest) G) R) :
    wp Tryz.prog (.ld (Addr.add ⟨x, 0, none⟩ 8) .slice fun z => .look (opS Tryz.prog (.indexAddr ty_s_p_deque_Own (.tmp 0) (.const (.int .i64 0))) u [.slice z.a z.len z.cap]) (.one (.leaf .addr)) fun y => .ld y .ptr K) L (own A (WL x q mq I g at_ s e f n sb rest) G) R := by
  simp only [opS_ix0]
  exact w_ow E hw hk
theorem LW.size (E : LW I G g m at_ x q mq s sb n ex A S l f e rest) (hw : w < n) (hu : A.uses ≤ 600000) {K : Int → Tree} (hk : LW I G g m at_ x q mq s sb n ex (A.later 2) S l f e rest → wp Tryz.prog (K ((f w).xs.length : Int)) L (own (A.later 2) (WL x q mq I g at_ s e f n sb rest) G) R) :
    wp Tryz.prog (.call f_deque_Own_Size [.pointer (some ⟨(f w).ob, 0, none⟩), .pointer (aI I)] (.one (.leaf (.int .i64))) K) L (own A (WL x q mq I g at_ s e f n sb rest) G) R :=
  w_size17 E.di hw (by omega) E.aw E.ok fun _ _ => hk (E.later (by decide))
end
end
section
variable {L : Hands} {R : Value → Heap → Prop} {G : Heap} {l rest : Bl}
theorem p_newM {k : Option Nat → Tree} (ok : Ok0 G (keys l)) (h : ∀ b, Ok0 G (keys ((b, .map #[] 0) :: l)) → wp Tryz.prog (k (some b)) L (putL ((b, .map #[] 0) :: l) G) R) : wp Tryz.prog (.newM k) L (putL l G) R :=
  wp_newM fun b hb => h b (p_new ok hb _)
theorem p_ckA (i : Nat) {a : Addr} {b n : Nat} {T : TypeId} {c : List Value} {v : Value} {t : Tree} (ok : Ok0 G (keys l)) (ha : a = ⟨b, 0, none⟩) (hi : l[i]? = some (b, oc T c)) (hn : n = c.length) (hv : v = .agg c.toArray) (h : wp Tryz.prog t L (putL l G) R) :
    wp Tryz.prog (.check (ldAS a n 0 #[]) v t) L (putL l G) R := by
  subst ha; subst hn; subst hv
  refine ⟨?_, h⟩
  rw [ldAS_eq]
  refine ldK_still (putL_get G ok.nd hi) _ 0 #[] (by simp) ?_
  show (Value.agg (#[] ++ c.toArray.extract 0 (0 + 0 + c.length)) : Value) = _
  simp
theorem p_GNew {w n th : Int} {ep : Bool} {p : Pl} {K : Option Addr → Tree} (b : 0 ≤ w ∧ w ≤ 100000) (ok : Ok0 G (keys l))
    (h : ∀ q mq z, Ok0 G (keys (Gd.bl ⟨ep, w, n, p, imax 1 (imin th 64)⟩ q mq [] ++ (z, oc ty_free_Place (plCells p)) :: l)) → wp Tryz.prog (K (some ⟨q, 0, none⟩)) L (putL (Gd.bl ⟨ep, w, n, p, imax 1 (imin th 64)⟩ q mq [] ++ (z, oc ty_free_Place (plCells p)) :: l) G) R) :
    wp Tryz.prog (.call f_guard_New [.int .i64 w, .int .i64 n, .bool ep, .int .i64 th, p.val] (.one (.leaf .ptr)) K) L (putL l G) R := by
  refine wp_call_of (R0 := fun v H => ∃ q mq z, v = .pointer (some ⟨q, 0, none⟩) ∧ H = putL (Gd.bl ⟨ep, w, n, p, imax 1 (imin th 64)⟩ q mq [] ++ (z, oc ty_free_Place (plCells p)) :: l) G ∧ Ok0 G (keys (Gd.bl ⟨ep, w, n, p, imax 1 (imin th 64)⟩ q mq [] ++ (z, oc ty_free_Place (plCells p)) :: l))) ?_ ?_
  · refine t_guard_New_spec (p0 := w) (p1 := n) (p2 := ep) (p3 := th) (p4_0 := p.work) (p4_1 := p.heads) (p4_2 := p.links) (p4_3 := p.gens) (p4_4 := p.carved) fun L => ?_
    unfold t_guard_New
    refine p_newP (c := plCells p) ok fun x9 ok1 => ?_
    refine p_ldA 0 ok1 rfl rfl rfl ?_
    refine ⟨?_, ?_⟩
    · refine wp_call_det (x := (⟨bif ep then ty_guard_epochs else ty_guard_hazards, .agg #[.int .i64 w, .int .i64 n]⟩ : Ifv)) (of_det ep b _) ?_
      refine p_ckA 0 ok1 rfl rfl rfl rfl ?_
      refine p_newM ok1 fun x19 ok2 => ?_
      refine p_ckA 1 ok2 rfl rfl rfl rfl ?_
      refine p_newP (c := Gd.cells ⟨ep, w, n, p, imax 1 (imin th 64)⟩ x19) ok2 fun x21 ok3 => ?_
      exact wp_ret_of ⟨x21, x19, x9, rfl, rfl, ok3⟩
    · refine p_newM ok1 fun x19 ok2 => ?_
      refine p_ckA 1 ok2 rfl rfl rfl rfl ?_
      refine wp_call_det (x := (⟨bif ep then ty_guard_epochs else ty_guard_hazards, .agg #[.int .i64 w, .int .i64 n]⟩ : Ifv)) (of_det ep b _) ?_
      refine p_ckA 1 ok2 rfl rfl rfl rfl ?_
      refine p_newP (c := Gd.cells ⟨ep, w, n, p, imax 1 (imin th 64)⟩ x19) ok2 fun x21 ok3 => ?_
      exact wp_ret_of ⟨x21, x19, x9, rfl, rfl, ok3⟩
  · rintro v H ⟨q, mq, z, rfl, rfl, o⟩
    exact ⟨_, rfl, h q mq z o⟩
end
def gdW (ep : Bool) (w m : Int) : Gd := ⟨ep, w, 4 * w + 2 * ((m + 7) / 8) + 1, plOf w m, imax 1 (imin 2 64)⟩
def atW (ep : Bool) (w m : Int) : Int := 4 * w + 2 * ((m + 7) / 8) + 1 + gwords ep w
theorem gi_made {A : Ar} {w m : Int} {ep : Bool} {r : Nat} (hm : A.made r m.toNat false) (hA : A.wf) (wb : 1 ≤ w ∧ w ≤ 9) (mb : 0 ≤ m ∧ m ≤ 1000) (hr : atW ep w m ≤ r) (hr2 : r ≤ 100000) : GI A (gdW ep w m) m S0g fun _ => [] := by
  have gw : 0 ≤ gwords ep w ∧ gwords ep w ≤ 100 := by unfold gwords; cases ep <;> simp <;> omega
  unfold atW at hr
  have rl : A.raw.length = r := by rw [hm.raw, List.length_replicate]
  have r0 : ∀ i, A.rawF i = 0 := fun i => by
    unfold Ar.rawF
    split
    · rename_i h; rw [hm.raw, List.getD_eq_getElem?_getD, List.getElem?_replicate]; split <;> rfl
    · rfl
  have car : (plOf w m).carved = 4 * w + 2 * ((m + 7) / 8) := rfl
  refine ⟨hA, SL.made hm (by rw [car]; omega) ⟨wb.1, by omega⟩ ⟨by omega, by omega⟩, hm.fault, ?_, ⟨wb.1, by show w ≤ 100; omega⟩, ?_, by omega, fun _ _ h => (by cases h), fun _ => .nil, fun _ _ _ _ h => (by cases h), fun _ h => (h rfl).elim, ?_, by rw [hm.nL]; exact Int.le_refl 0, by rw [hm.nL, hm.nR, hm.uses]; decide, fun _ _ _ h => (by cases h), fun _ => ?_, fun _ _ _ h => (by cases h)⟩
  · show 4 * w + 2 * ((m + 7) / 8) < 4 * w + 2 * ((m + 7) / 8) + 1; omega
  · show 4 * w + 2 * ((m + 7) / 8) + 1 + gwords ep w ≤ _; omega
  · rw [hm.nR]
    have : ∀ n, totR (fun _ => []) n = 0 := fun n => by
      induction n with
      | zero => rfl
      | succ n ih => show totR (fun _ => []) n + 0 = 0; omega
    exact (this _).symm
  · rw [r0, hm.uses]; exact ⟨Int.le_refl 0, Int.le_refl 0⟩
theorem dm_made {A : Ar} {w m : Int} {ep : Bool} {r : Nat} (hm : A.made r m.toNat false) (hA : A.wf) (wb : 1 ≤ w ∧ w ≤ 9) (mb : 0 ≤ m ∧ m ≤ 1000) (hr : atW ep w m + 3 * w = r) (f : Nat → Dq) : DM A (gdW ep w m) m S0g (atW ep w m) 0 0 f := by
  have gw : 0 ≤ gwords ep w ∧ gwords ep w ≤ 100 := by unfold gwords; cases ep <;> simp <;> omega
  have ea : atW ep w m = 4 * w + 2 * ((m + 7) / 8) + 1 + gwords ep w := rfl
  have rl : A.raw.length = r := by rw [hm.raw, List.length_replicate]
  have r0 : ∀ i, A.rawF i = 0 := fun i => by
    unfold Ar.rawF
    split
    · rename_i h; rw [hm.raw, List.getD_eq_getElem?_getD, List.getElem?_replicate]; split <;> rfl
    · rfl
  refine ⟨⟨gi_made hm hA wb mb (by omega) (by omega), ⟨?_, ?_⟩, by show ((0 : Nat) : Int) ≤ w; omega, fun i h => (by cases h), fun i h => (by cases h), fun i h => (by cases h), fun i h => (by cases h), fun i _ h => (by cases h), by rw [hm.nL]; rfl, Int.le_refl 0, fun i h => (by cases h), fun i h => (by cases h), Int.le_refl 0⟩, fun _ => rfl, rfl, fun i _ => r0 i, fun i h => (by cases h), by rw [hm.uses]; decide⟩
  · show 4 * w + 2 * ((m + 7) / 8) + 1 + gwords ep w ≤ _; omega
  · show atW ep w m + 3 * w ≤ _; omega
section
variable {L : Hands} {R : Value → Heap → Prop} {H : Heap}
structure MkI (I : List Nat) (A : Ar) (H : Heap) (ep : Bool) (w m : Int) (x q mq : Nat) (n : Nat) (S : Sg) (f : Nat → Dq) (s : Sl) (sb rest : Bl) : Prop where
  aw : Aw I A
  ok : Ok I H (keys (WL x q mq I (gdW ep w m) (atW ep w m) s [] f n sb rest))
  dm : DM A (gdW ep w m) m S (atW ep w m) n 0 f
  hs : SlOf sb ty_p_deque_Own eP s (obs f n)
theorem obs_succ (f : Nat → Dq) (n : Nat) (y : Dq) : obs (updF f n y) (n + 1) = obs f n ++ [y.ob] := by
  unfold obs arrC
  rw [List.range_succ, List.map_append]
  congr 1
  · refine List.map_congr_left fun i hi => ?_
    rw [updF_ne f y (by have := List.mem_range.1 hi; omega)]
  · show [(updF f n y n).ob] = _; rw [updF_same]
theorem famB_of {β : Type} {f h : Nat → List β} : ∀ {n : Nat}, (∀ i, i < n → f i = h i) → famB f n = famB h n
  | 0, _ => rfl
  | n + 1, e => by show famB f n ++ f n = famB h n ++ h n; rw [famB_of (n := n) fun i hi => e i (by omega), e n (by omega)]
theorem famB_succ_upd (q : Nat) (f : Nat → Dq) (n : Nat) (y : Dq) : famB (fun i => (updF f n y i).bl q) (n + 1) = famB (fun i => (f i).bl q) n ++ y.bl q := by
  show famB _ n ++ (updF f n y n).bl q = _
  rw [updF_same, famB_of (h := fun i => (f i).bl q) fun i hi => by show (updF f n y i).bl q = _; rw [updF_ne f y (by omega)]]
theorem w_slot17 {G : Heap} {I : List Nat} {A C : Ar} {g : Gd} {at_ : Int} {x q mq n N : Nat} {s : Sl} {e : List LE} {f : Nat → Dq} {sb rest : Bl} {i : Int} {xa : Al} {K : Int → Tree} (hA : Aw I A) (ok : Ok I G (keys (WL x q mq I g at_ s e f n sb rest))) (r : mAl.Runs N (newAl g.pl i 0) A xa C) (hN : N ≤ 4000)
    (hk : ∀ gar, Aw I C → Ok I G (keys (WL x q mq I g at_ s e f n sb (gar ++ rest))) → wp Tryz.prog (K xa.h) L (own C (WL x q mq I g at_ s e f n sb (gar ++ rest)) G) R) :
    wp Tryz.prog (.call f_magpielaw17_W_slot [.pointer (some ⟨x, 0, none⟩), .int .i64 i] (.one (.leaf (.int .i64))) K) L (own A (WL x q mq I g at_ s e f n sb rest) G) R := by
  refine wp_call_of (R0 := fun v H => ∃ gar, v = .int .i64 xa.h ∧ H = own C (WL x q mq I g at_ s e f n sb (gar ++ rest)) G ∧ Aw I C ∧ Ok I G (keys (WL x q mq I g at_ s e f n sb (gar ++ rest)))) ?_ ?_
  rotate_left
  · rintro v H ⟨gar, rfl, rfl, a, o⟩
    exact ⟨_, rfl, hk gar a o⟩
  refine t_magpielaw17_W_slot_spec fun L => ?_
  unfold t_magpielaw17_W_slot
  refine wp_nil.2 (w_ldA (x := (g.pl.work, g.pl.heads, g.pl.links, g.pl.gens, g.pl.carved, ())) 0 hA ok rfl rfl rfl ?_)
  refine w_NewAlloc (p := g.pl) hA ok (show sizeF 0 ≠ 0 by decide) fun j okj => ?_
  refine look_val (x := false) (ea_some _) (wp_false rfl ?_)
  have mW : ∀ {hb : Bl}, (x, oc ty_magpielaw17_W (wC I q g.pl at_ s)) ∈ hb ++ WL x q mq I g at_ s e f n sb rest := fun {hb} => List.mem_append_right _ List.mem_cons_self
  refine wp_nil.2 (w_ldm (x := aI I) hA okj rfl mW rfl ?_)
  refine w_runR17 (X := mAl.toR) (Mch.toR_ok mAl_ok) mAl_inv (Mch.toR_runs r) hN (j := j) hA okj trivial fun j' ha hC ok2 _ => ?_
  refine wp_false rfl ?_
  obtain ⟨aq, aq0, aq1⟩ := j'
  have ha : aq = j.1 := ha
  subst ha
  refine w_Handle 0 (x := xa) hC ok2 rfl ?_
  have ok2 : Ok I G (keys (xa.bl (j.1, aq0, aq1) ++ WL x q mq I g at_ s e f n sb rest)) := ok2
  show wp Tryz.prog _ _ (own C (xa.bl (j.1, aq0, aq1) ++ WL x q mq I g at_ s e f n sb rest) G) _
  obtain ⟨p, o⟩ := WL_in (A := C) _ ok2
  rw [p]
  exact wp_ret_of ⟨_, rfl, rfl, hC, o⟩
set_option maxHeartbeats 1000000 in
theorem make17_spec (ep : Bool) (W : Nat) (m : Int) (wb : 1 ≤ W ∧ W ≤ 5) (mb : 8 * (W : Int) ≤ m ∧ m ≤ 700) (H : Heap) : SpecF Tryz.prog f_magpielaw17_Make #[.int .i64 (W : Int), .int .i64 m, .bool ep] H fun v K => ∃ (A : Ar) (x q mq : Nat) (S : Sg) (f : Nat → Dq) (s : Sl) (sb rest : Bl), v = .pointer (some ⟨x, 0, none⟩) ∧
    K = own A (WL x q mq A.ids (gdW ep W m) (atW ep W m) s [] f W sb rest) H ∧ (∀ y ∈ A.ids, H y = none) ∧ MkI A.ids A H ep W m x q mq W S f s sb rest := by
  refine t_magpielaw17_Make_spec fun L => ?_
  unfold t_magpielaw17_Make
  have ok0 : Ok0 H (keys []) := ⟨.nil, fun b h => (by cases h)⟩
  refine w_Raw5 ⟨by omega, by omega⟩ ⟨by omega, by omega⟩ ?_
  refine p_newP (l := []) (c := plCells ⟨0, 0, 0, 0, 0⟩) ok0 fun x7 ok0 => ?_
  refine p_stA 0 ok0 rfl rfl rfl rfl ?_
  dsimp only
  refine wp_call_det (x := gwords ep W) (GRaw_det ep ⟨by omega, by omega⟩ _) ?_
  have gw : 0 ≤ gwords ep W ∧ gwords ep W ≤ 100 := by unfold gwords; cases ep <;> simp <;> omega
  have ok0 : Ok0 H (keys [(x7, oc ty_free_Place (plCells (plOf W m)))]) := ok0
  refine p_ldA (l := [(x7, oc ty_free_Place (plCells (plOf W m)))]) (x := (W, 0, 4 * W, 4 * W + (m + 7) / 8, 4 * W + 2 * ((m + 7) / 8), ())) 0 ok0 rfl rfl rfl ?_
  refine p_ldA (x := (W, 0, 4 * W, 4 * W + (m + 7) / 8, 4 * W + 2 * ((m + 7) / 8), ())) 0 ok0 rfl rfl rfl ?_
  have ea : atW ep W m = 4 * (W : Int) + 2 * ((m + 7) / 8) + 1 + gwords ep W := rfl
  have en : w64 (4 * (W : Int) + 2 * ((m + 7) / 8) + 1 + gwords ep W) = atW ep W m := by rw [w64_in (by omega) (by omega)]; rfl
  have en2 : w64 (atW ep W m + 3 * W) = atW ep W m + 3 * W := w64_in (by omega) (by omega)
  rw [en]
  refine p_GNew (w := W) (n := 4 * (W : Int) + 2 * ((m + 7) / 8) + 1) (th := 2) (ep := ep) (p := plOf W m) ⟨by omega, by omega⟩ ok0 fun q mq z ok1 => ?_
  refine p_ckA (b := x7) (c := plCells (plOf W m)) 3 ok1 rfl rfl rfl rfl ?_
  refine p_newP (c := [.pointer none, .pointer (some ⟨q, 0, none⟩), .int .i64 (W : Int), .int .i64 0, .int .i64 (4 * (W : Int)), .int .i64 (4 * (W : Int) + (m + 7) / 8), .int .i64 (4 * (W : Int) + 2 * ((m + 7) / 8)), .int .i64 (atW ep W m), .slice none 0 0]) ok1 fun x ok2 => ?_
  refine wp_qcall_det (x := 3 * (W : Int)) (DRaw_det _ _ ⟨by omega, by omega⟩ _) ?_
  rw [en2]
  refine w_New ok2 ⟨by omega, by omega⟩ ⟨by omega, by omega⟩ fun A hm hA hI ok => ?_
  refine wp_nil.2 (w_st 0 hA ok rfl rfl rfl rfl ?_)
  have ok : Ok A.ids H (keys (WL x q mq A.ids (gdW ep W m) (atW ep W m) ⟨none, 0, 0⟩ [] (fun _ => ⟨⟨0, 0, 0, 0, plOf W m⟩, 0, [], 0⟩) 0 [] [(z, oc ty_free_Place (plCells (plOf W m))), (x7, oc ty_free_Place (plCells (plOf W m)))])) := ok
  show wp Tryz.prog _ L (own A (WL x q mq A.ids (gdW ep W m) (atW ep W m) ⟨none, 0, 0⟩ [] (fun _ => ⟨⟨0, 0, 0, 0, plOf W m⟩, 0, [], 0⟩) 0 [] [(z, oc ty_free_Place (plCells (plOf W m))), (x7, oc ty_free_Place (plCells (plOf W m)))]) H) _
  refine wp_nil.2 (w_ld 0 (x := aI A.ids) hA ok rfl rfl rfl ?_)
  refine look_val (x := false) (np_some _) (wp_false rfl ?_)
  refine wp_nil.2 (w_ld 0 (x := some ⟨q, 0, none⟩) hA ok rfl rfl rfl ?_)
  refine look_val (x := false) (npGd _) (wp_false rfl ?_)
  have M0 : MkI A.ids A H ep W m x q mq 0 S0g (fun _ => ⟨⟨0, 0, 0, 0, plOf W m⟩, 0, [], 0⟩) ⟨none, 0, 0⟩ [] [(z, oc ty_free_Place (plCells (plOf W m))), (x7, oc ty_free_Place (plCells (plOf W m)))] :=
    ⟨hA, ok, dm_made hm hA.wf ⟨by omega, by omega⟩ ⟨by omega, by omega⟩ (by show _ = (((atW ep W m + 3 * W).toNat : Nat) : Int); omega) _, .nil _ _ _⟩
  have hpl : (x7, oc ty_free_Place (plCells (plOf W m))) ∈ [(z, oc ty_free_Place (plCells (plOf W m))), (x7, oc ty_free_Place (plCells (plOf W m)))] := by simp
  have loop : ∀ (d i : Nat), i + d = W → ∀ (B : Ar) (S : Sg) (f : Nat → Dq) (s : Sl) (sb rest : Bl) (y : Option Addr), B.ids = A.ids → MkI A.ids B H ep W m x q mq i S f s sb rest → (x7, oc ty_free_Place (plCells (plOf W m))) ∈ rest →
      wp Tryz.prog (.loop 512 t_magpielaw17_Make_L1_sh [.pointer y, .int .i64 (i : Int)] (t_magpielaw17_Make_L1 (W : Int) ⟨x7, 0, none⟩ ⟨x, 0, none⟩)) L (own B (WL x q mq A.ids (gdW ep W m) (atW ep W m) s [] f i sb rest) H) fun v K => ∃ (A : Ar) (x q mq : Nat) (S : Sg) (f : Nat → Dq) (s : Sl) (sb rest : Bl), v = .pointer (some ⟨x, 0, none⟩) ∧
        K = own A (WL x q mq A.ids (gdW ep W m) (atW ep W m) s [] f W sb rest) H ∧ (∀ y ∈ A.ids, H y = none) ∧ MkI A.ids A H ep W m x q mq W S f s sb rest := by
    intro d
    induction d with
    | zero =>
      intro i hi B S f s sb rest y hB M hpl
      refine wp_loop_unroll (y, (i : Int), ()) rfl ?_
      rw [t_magpielaw17_Make_L1]
      refine wp_false (decide_eq_false (show ¬ ((i : Int) < (W : Int)) by omega)) ?_
      have : i = W := by omega
      subst this
      refine wp_ret_of ⟨B, x, q, mq, S, f, s, sb, rest, rfl, by rw [hB], by rw [hB]; exact hI, by rw [hB]; exact M⟩
    | succ d ih =>
      intro i hi B S f s sb rest y hB M hpl
      refine wp_loop_unroll (y, (i : Int), ()) rfl ?_
      rw [t_magpielaw17_Make_L1]
      refine wp_true (decide_eq_true (show (i : Int) < (W : Int) by omega)) ?_
      have hA := M.aw
      have ok := M.ok
      have wbw : (gdW ep W m).w = (W : Int) := rfl
      obtain ⟨N, xa, C, S', Bn⟩ := M.dm.born (by rw [wbw]; omega) (by omega)
      refine w_slot17 hA ok Bn.run Bn.hn fun gar0 hC ok2 => ?_
      refine wp_false (ibef Bn.hx) ?_
      have mW : (x, oc ty_magpielaw17_W (wC A.ids q (gdW ep W m).pl (atW ep W m) s)) ∈ WL x q mq A.ids (gdW ep W m) (atW ep W m) s [] f i sb (gar0 ++ rest) := List.mem_cons_self
      have mpl : (x7, oc ty_free_Place (plCells (plOf W m))) ∈ WL x q mq A.ids (gdW ep W m) (atW ep W m) s [] f i sb (gar0 ++ rest) := WL_rest (List.mem_append_right _ hpl)
      refine wp_nil.2 (w_ldm (x := aI A.ids) hC ok2 rfl mW rfl ?_)
      refine wp_nil.2 (w_ldm (x := atW ep W m) hC ok2 rfl mW rfl ?_)
      obtain ⟨ip2, hip2⟩ := mem_idx mpl
      refine w_ldA (x := (W, 0, 4 * W, 4 * W + (m + 7) / 8, 4 * W + 2 * ((m + 7) / 8), ())) ip2 hC ok2 rfl hip2 rfl ?_
      refine wp_nil.2 (w_ldm (x := some ⟨q, 0, none⟩) hC ok2 rfl mW rfl ?_)
      refine w_NewOwn (q := q) (p := plOf W m) (at_ := atW ep W m) (work := (i : Int)) ⟨by omega, by omega⟩ ⟨by omega, by omega⟩ hC ok2 fun zo gar hD ok3 => ?_
      refine look_val (x := false) (npOw _) (wp_false rfl ?_)
      have M1 := Bn.dm zo
      have alD := Bn.al2
      obtain ⟨D, hDe⟩ : ∃ D, D = C.storeR (dw (atW ep W m) i 2) xa.h := ⟨_, rfl⟩
      rw [← hDe] at M1 alD
      have hD : Aw A.ids D := by rw [hDe]; exact hD
      show wp Tryz.prog _ _ (own (C.storeR (dw (atW ep W m) i 2) xa.h) ((zo, oc ty_deque_Own (owC ⟨atW ep W m, i, 0, xa.h, plOf W m⟩ q)) :: (gar ++ WL x q mq A.ids (gdW ep W m) (atW ep W m) s [] f i sb (gar0 ++ rest))) H) _
      rw [← hDe]
      obtain ⟨y, hy⟩ : ∃ y : Dq, y = ⟨⟨atW ep W m, i, 0, xa.h, plOf W m⟩, 0, [], zo⟩ := ⟨_, rfl⟩
      have M1 : DM D (gdW ep W m) m S' (atW ep W m) (i + 1) 0 (updF f i y) := by rw [hy]; exact M1
      have eo : (zo, oc ty_deque_Own (owC ⟨atW ep W m, i, 0, xa.h, plOf W m⟩ q)) = (y.ob, oc ty_deque_Own (owC y.o q)) := by rw [hy]
      have ok3 : Ok A.ids H (keys ((zo, oc ty_deque_Own (owC ⟨atW ep W m, i, 0, xa.h, plOf W m⟩ q)) :: (gar ++ WL x q mq A.ids (gdW ep W m) (atW ep W m) s [] f i sb (gar0 ++ rest)))) := ok3
      rw [eo] at ok3 ⊢
      have yz : y.ob = zo := by rw [hy]
      refine wp_nil.2 (w_ldm (x := s) (T := ty_magpielaw17_W) (c := wC A.ids q (gdW ep W m).pl (atW ep W m) s) hD ok3 rfl (List.mem_cons_of_mem _ (List.mem_append_right _ mW)) rfl ?_)
      obtain ⟨p1, ok4⟩ := own_perm (A := D) (l' := ((x, oc ty_magpielaw17_W (wC A.ids q (gdW ep W m).pl (atW ep W m) s)) :: ((y.ob, oc ty_deque_Own (owC y.o q)) :: (gar ++ ((gdW ep W m).bl q mq [] ++ (famB (fun i => (f i).bl q) i ++ (gar0 ++ rest)))))) ++ sb) ok3 (perm_by fun c d c0 cd ca => by
        show c (_ :: (gar ++ ((x, oc ty_magpielaw17_W (wC A.ids q (gdW ep W m).pl (atW ep W m) s)) :: ((gdW ep W m).bl q mq [] ++ (famB (fun i => (f i).bl q) i ++ (sb ++ (gar0 ++ rest))))))) = _
        simp only [List.cons_append, List.append_assoc, cd, ca]; omega)
      rw [p1, ← yz]
      refine w_app1P (z := y.ob) hD ok4 M.hs ?_ fun s' tl' hs' ok5 => ?_
      · show (arrC i _).length ≤ _; rw [arrC_len]; omega
      refine wp_nil.2 (w_st 0 hD ok5 rfl rfl rfl rfl ?_)
      have ok5 : Ok A.ids H (keys (((x, oc ty_magpielaw17_W (wC A.ids q (gdW ep W m).pl (atW ep W m) s')) :: ((y.ob, oc ty_deque_Own (owC y.o q)) :: (gar ++ ((gdW ep W m).bl q mq [] ++ (famB (fun i => (f i).bl q) i ++ (gar0 ++ rest)))))) ++ tl')) := ok5
      show wp Tryz.prog _ _ (own D (((x, oc ty_magpielaw17_W (wC A.ids q (gdW ep W m).pl (atW ep W m) s')) :: ((y.ob, oc ty_deque_Own (owC y.o q)) :: (gar ++ ((gdW ep W m).bl q mq [] ++ (famB (fun i => (f i).bl q) i ++ (gar0 ++ rest)))))) ++ tl') H) _
      obtain ⟨p2, ok6⟩ := own_perm (A := D) (l' := WL x q mq A.ids (gdW ep W m) (atW ep W m) s' [] (updF f i y) (i + 1) tl' (gar ++ (gar0 ++ rest))) ok5 (perm_by fun c d c0 cd ca => by
        show _ = c ((x, oc ty_magpielaw17_W (wC A.ids q (gdW ep W m).pl (atW ep W m) s')) :: ((gdW ep W m).bl q mq [] ++ (famB (fun k => (updF f i y k).bl q) (i + 1) ++ (tl' ++ _))))
        have hb : c (y.bl q) = d (y.ob, oc ty_deque_Own (owC y.o q)) := by show c (_ :: []) = _; rw [cd, c0]; rfl
        rw [famB_succ_upd]
        simp only [List.cons_append, List.append_assoc, cd, ca, hb]; omega)
      rw [p2]
      refine wp_again ?_
      have en1 : w64 ((i : Int) + 1) = ((i + 1 : Nat) : Int) := by rw [w64_in (by omega) (by omega)]; omega
      show wp Tryz.prog (.loop 512 t_magpielaw17_Make_L1_sh [.pointer _, .int .i64 (w64 ((i : Int) + 1))] _) L _ _
      rw [en1]
      exact ih (i + 1) (by omega) D S' (updF f i y) s' tl' _ _ (by rw [alD.ids, hB]) ⟨hD, ok6, M1, by rw [obs_succ]; exact hs'⟩ (List.mem_append_right _ (List.mem_append_right _ hpl))
  exact loop W 0 (by omega) A S0g _ _ _ _ _ rfl M0 hpl
end
section
variable {I : List Nat} {A : Ar} {x q mq n : Nat} {S : Sg} {f : Nat → Dq} {s : Sl} {sb rest : Bl}
theorem MkI.lw {ep : Bool} {W m : Int} {H : Heap} (M : MkI I A H ep W m x q mq n S f s sb rest) : LW I H (gdW ep W m) m (atW ep W m) x q mq s sb n 0 A S (fun _ => []) f [] rest := ⟨M.aw, M.ok, gd0, M.dm.di, M.hs⟩
end
theorem th1 (ep : Bool) (w m : Int) : 1 ≤ (gdW ep w m).th := by show 1 ≤ imax 1 (imin 2 64); decide
set_option maxHeartbeats 1000000 in
theorem awake17_det (H : Heap) : Det Tryz.prog f_magpielaw17_awake [] H (.bool true) H := by
  refine t_magpielaw17_awake_spec fun L => ?_
  unfold t_magpielaw17_awake
  refine wp_call_of (make17_spec false 2 64 (by decide) (by decide) H) ?_
  rintro v K ⟨A, x, q, mq, S, f, s, sb, rest, rfl, rfl, hI, M⟩
  refine ⟨some ⟨x, 0, none⟩, rfl, ?_⟩
  refine look_val (x := false) (npW17 _) (wp_false rfl ?_)
  have E := M.lw
  have us := M.dm.us
  obtain ⟨m1, m2, m3, m4⟩ := M.dm.em 0 (by decide)
  have th := th1 false ((2 : Nat) : Int) 64
  generalize gdW false ((2 : Nat) : Int) 64 = g at *
  generalize atW false ((2 : Nat) : Int) 64 = at_ at *
  clear M
  refine wp_nil.2 (w_ar E ?_)
  refine wp_nil.2 (w_ow0 E (by decide) ?_)
  refine E.newPush (w := 0) (by decide) fun z E1 => ?_
  refine ck_ar E1 (w_ckn rfl ?_)
  refine E1.runPush (w := 0) (by decide) (by omega) th (fun N B S' l' o' al cp now e' fr P hW E2 => ?_) fun N B al e' fr P hW E2 => ?_
  rotate_left
  · have := P.full; rw [m1, m4] at this; cases this
  have pu := P.us
  refine wp_false rfl ?_
  refine wp_nil.2 (w_at E2 (wp_nil.2 (w_gd E2 ?_)))
  refine wp_nil.2 (w_at E2 (wp_nil.2 (w_gd E2 ?_)))
  refine E2.newSteal (wk := ((1 : Nat) : Int)) (vic := ((0 : Nat) : Int)) fun z1 s1 tl1 hs1 E3 => ?_
  refine ck_gd E3 (w_ckn rfl (ck_at E3 (w_ckn rfl ?_)))
  refine E3.newSteal (wk := ((1 : Nat) : Int)) (vic := ((0 : Nat) : Int)) fun z2 s2 tl2 hs2 E4 => ?_
  refine look_val (x := false) (npTs _) (wp_false rfl ?_)
  refine look_val (x := false) (npTs _) (wp_false rfl ?_)
  refine wp_nil.2 (w_ar E4 ?_)
  have E4' : LW A.ids H g 64 at_ x q mq s sb 2 0 B S' l' (updF f 0 ⟨o', (f 0).t, (f 0).xs ++ [77], (f 0).ob⟩) e' ((stB z2 q (newTs at_ ((1 : Nat) : Int) ((0 : Nat) : Int) 0 0) s2 .nilIface :: tl2) ++ (stB z1 q (newTs at_ ((1 : Nat) : Int) ((0 : Nat) : Int) 0 0) s1 .nilIface :: (tl1 ++ (fr ++ rest)))) := E4
  refine E4'.runSteal hs1 (by decide) (by decide) (by omega) (fun h => (by cases h)) fun N5 B5 y5 fr5 P5 st5 E5 => ?_
  have hk5 := P5.hk
  have hv5 := P5.hv
  have us5 := P5.ub
  rw [updF_same] at hk5 hv5
  have hk5 : y5.ok = true := hk5.trans (by show (((f 0).xs ++ [77] != []) && (decide ((0 : Int) ≤ 0) || _)) = true; rw [m1]; rfl)
  have hv5 : y5.v = 77 := (hv5 hk5).trans (by show ((f 0).xs ++ [77]).headD 0 = 77; rw [m1]; rfl)
  refine wp_false rfl ?_
  rw [hk5, if_pos rfl] at E5 ⊢
  refine wp_nil.2 (w_ar E5 ?_)
  refine E5.runSteal (pre := fr5) hs2 (by decide) (by decide) (by omega) (fun h => (by cases h)) fun N6 B6 y6 fr6 P6 st6 E6 => ?_
  have hk6 := P6.hk
  rw [updF_same, updF_same] at hk6
  have hk6 : y6.ok = false := hk6.trans (by show ((((f 0).xs ++ [77]).tail != []) && _) = false; rw [m1]; rfl)
  refine wp_false rfl ?_
  rw [hk6, if_neg (by decide)] at E6 ⊢
  refine E6.stealValue (st5.in fr6 _) P5.lv ?_
  refine E6.stealValue (st6.in [] _) P6.lv ?_
  rw [hk5, hk6]
  refine wp_true rfl (wp_true (ibeq hv5) ?_)
  exact ⟨H, own_end E6.aw E6.ok hI, rfl, rfl⟩
def rg (c : Int) (n : Nat) : List Int := (List.range n).map fun i => c + (i : Nat)
theorem rg_len (c : Int) (n : Nat) : (rg c n).length = n := by simp [rg]
theorem rg_succ (c : Int) (n : Nat) : rg c n ++ [c + n] = rg c (n + 1) := by unfold rg; rw [List.range_succ, List.map_append]; rfl
theorem rg_getD (c : Int) {n j : Nat} (h : j < n) : (rg c n).getD j 0 = c + j := by
  rw [List.getD_eq_getElem?_getD]; unfold rg; rw [List.getElem?_map, List.getElem?_range h]; rfl
section
variable {A B : Ar} {g : Gd} {m : Int} {S : Sg} {l : Int → List (Int × Int)} {v at_ ex : Int} {q mq ob n N w : Nat} {f : Nat → Dq} {al : Option Al}
theorem sz2 {c : Int} (h0 : 0 ≤ c) (h3 : c < 3) : sizeF (c + 1) = 2 * sizeF c := by
  have : c = 0 ∨ c = 1 ∨ c = 2 := by omega
  rcases this with h | h | h <;> rw [h] <;> rfl
theorem PushN.not (P : PushN A g m S l at_ n ex f w v q mq ob N B al) (hl : ((f w).xs.length : Int) < 64) (hc : S.cv + 2 * sizeF (opC (f w).o.h) ≤ m) : False := by
  have oc := opC_nat (f w).o.h
  have fl := P.full
  rcases P.why with h | ⟨h, h2⟩
  · rw [h, show sizeF 3 = 64 from rfl] at fl; omega
  · rw [sz2 oc.1 h] at h2; omega
end
structure J1 (I : List Nat) (H : Heap) (g : Gd) (m at_ : Int) (x q mq : Nat) (s : Sl) (sb : Bl) (n : Nat) (ex : Int) (P : Ar → Sg → (Int → List (Int × Int)) → (Nat → Dq) → Prop) (A : Ar) (S : Sg) (l : Int → List (Int × Int)) (f : Nat → Dq) (e : List LE) (rest : Bl) (K : Heap) : Prop where
  lw : LW I H g m at_ x q mq s sb n ex A S l f e rest
  p : P A S l f
  k : K = own A (WL x q mq I g at_ s e f n sb rest) H
def JH (I : List Nat) (H : Heap) (g : Gd) (m at_ : Int) (x q mq : Nat) (s : Sl) (sb : Bl) (n : Nat) (ex : Int) (P : Ar → Sg → (Int → List (Int × Int)) → (Nat → Dq) → Prop) (K : Heap) : Prop := ∃ A S l f e rest, J1 I H g m at_ x q mq s sb n ex P A S l f e rest K
def RowB (H : Heap) (a : Option Addr) (len : Nat) (B : Nat → Bool) : Prop := ∀ i, i < len → ∃ x, a = some x ∧ H.cell? (x.add i) = some (.bool (B i))
theorem wp_rowB {L : Hands} {H K : Heap} {R : Value → Heap → Prop} {s : Sl} {B : Nat → Bool} (hz : RowB H s.a s.len B) (hK : H.le K) {i : Int} (h0 : 0 ≤ i) (h1 : i < ((s.len : Nat) : Int)) {k : Bool → Tree} (h : wp Tryz.prog (k (B i.toNat)) L K R) :
    wp Tryz.prog (.look (opS Tryz.prog (.indexAddr ty_s_bool (.tmp 0) (.tmp 1)) ty_unit [(.slice s.a s.len s.cap), (.int .i64 i)]) (.one (.leaf .addr)) fun x => .ld x .bool k) L K R := by
  obtain ⟨x, hx, hc⟩ := hz i.toNat (by omega)
  rw [hx]
  have hi := opS_idxS (P := Tryz.prog) (t := ty_s_bool) (u := ty_unit) (e := ty_bool) (l := s.len) (c := s.cap) (i := i) (a := x) rfl rfl h0 h1
  refine look_val (x := x.add i.toNat) ?_ (wp_ld_of (x := B i.toNat) (cell_le hK hc) h)
  refine hi.trans ?_
  show Sem.pure (Next.value (.pointer (some (x.add (i.toNat * 1))))) = _
  rw [Nat.mul_one]
section
variable {A B : Ar} {g : Gd} {x x' : Ts} {ps ps' : List Sp}
theorem sp_skip {p : Sp} (hb : bg g x p = .no) (hl : x.leaves = false) : St.step g ⟨x, p :: ps, .no⟩ A = St.step g ⟨x, ps, .no⟩ A := by
  show St.sub (St.nx g ⟨x, p :: ps, .no⟩) A = St.sub (St.nx g ⟨x, ps, .no⟩) A
  have e1 : St.nx g ⟨x, p :: ps, .no⟩ = nx g x (p :: ps) := if_pos ⟨rfl, hl⟩
  have e2 : St.nx g ⟨x, ps, .no⟩ = nx g x ps := if_pos ⟨rfl, hl⟩
  rw [e1, e2]
  have : nx g x (p :: ps) = nx g x ps := by
    show (if (bg g x p).isNo = true then nx g x ps else (x, ps, bg g x p)) = _
    rw [hb]; exact if_pos rfl
  rw [this]
theorem sp_one {p : Sp} {k : K1} (hb : bg g x p = .one k) (hl : x.leaves = false) (e1 : one1 k x ps A = (x', ps', B)) : St.step g ⟨x, p :: ps, .no⟩ A = (⟨x', ps', .no⟩, B) := by
  show St.sub (St.nx g ⟨x, p :: ps, .no⟩) A = _
  rw [st_nx hl (by rw [hb]; rfl), hb]
  show ((⟨(one1 k x ps A).1, (one1 k x ps A).2.1, .no⟩ : St), (one1 k x ps A).2.2) = _
  rw [e1]
theorem sp_se {p : Sp} {w v : Int} (hb : bg g x p = .se ⟨[w], v⟩) (hl : x.leaves = false) : St.step g ⟨x, p :: ps, .no⟩ A = (⟨x, ps, .no⟩, A.storeR w v) := by
  show St.sub (St.nx g ⟨x, p :: ps, .no⟩) A = _
  rw [st_nx hl (by rw [hb]; rfl), hb]; rfl
theorem sp_enter {u : Pn} {p : Sp} (hb : bg g x p = .pin u) (hl : x.leaves = false) : St.step g ⟨x, p :: ps, .no⟩ A = (⟨x, ps, if mPn.fin (u.step A).1 = true then .no else .pin (u.step A).1⟩, (u.step A).2) := by
  show St.sub (St.nx g ⟨x, p :: ps, .no⟩) A = _
  rw [st_nx hl (by rw [hb]; rfl), hb]; rfl
theorem sp_pin {u : Pn} : St.step g ⟨x, ps, .pin u⟩ A = (⟨x, ps, if mPn.fin (u.step A).1 = true then .no else .pin (u.step A).1⟩, (u.step A).2) := by
  show St.sub (St.nx g ⟨x, ps, .pin u⟩) A = _
  have : St.nx g ⟨x, ps, .pin u⟩ = (x, ps, .pin u) := if_neg (fun h => (by cases h.1))
  rw [this]; rfl
theorem sp_se1 {w v : Int} : St.step g ⟨x, ps, .se ⟨[w], v⟩⟩ A = (⟨x, ps, .no⟩, A.storeR w v) := by
  show St.sub (St.nx g ⟨x, ps, .se ⟨[w], v⟩⟩) A = _
  have : St.nx g ⟨x, ps, .se ⟨[w], v⟩⟩ = (x, ps, .se ⟨[w], v⟩) := if_neg (fun h => (by cases h.1))
  rw [this]; rfl
theorem sp_leaveE (he : g.ep = true) (hl : x.leaves = false) : St.step g ⟨x, [], .no⟩ A = (⟨{ x with leaves := true }, [], .no⟩, A.storeR (ewd g.ta x.work) 0) := by
  show St.sub (St.nx g ⟨x, [], .no⟩) A = _
  have e1 : St.nx g ⟨x, [], .no⟩ = nx g x [] := if_pos ⟨rfl, hl⟩
  rw [e1]
  unfold nx
  rw [if_neg (by rw [hl]; decide)]
  unfold leaveW
  rw [he]; rfl
theorem sp_leaveH (he : g.ep = false) (hl : x.leaves = false) : St.step g ⟨x, [], .no⟩ A = (⟨{ x with leaves := true }, [], .se ⟨[g.ta + 2 * x.work + 1], 0⟩⟩, A.storeR (g.ta + 2 * x.work) 0) := by
  show St.sub (St.nx g ⟨x, [], .no⟩) A = _
  have e1 : St.nx g ⟨x, [], .no⟩ = nx g x [] := if_pos ⟨rfl, hl⟩
  rw [e1]
  unfold nx
  rw [if_neg (by rw [hl]; decide)]
  unfold leaveW
  rw [he]; rfl
theorem swapR_no {i v w : Int} (o : A.rawOk i) (h : A.rawF i ≠ v) : A.swapRb i v = false ∧ A.swapR i v w = A.tick := by
  have h' : ¬ A.raw.getD i.toNat 0 = v := by rw [getD_rawF o]; exact h
  refine ⟨decide_eq_false (fun e => h' e.2), ?_⟩
  unfold Ar.swapR
  rw [if_pos o, if_neg h']
end
structure LA (A : Ar) (g : Gd) (m : Int) (S : Sg) (l : Int → List (Int × Int)) (at_ n h T Bw E0 : Int) : Prop where
  gi : GI A g m S l
  da : DA A g at_
  r0 : A.rawF (dw at_ 0 0) = T
  r1 : A.rawF (dw at_ 0 1) = Bw
  r2 : A.rawF (dw at_ 0 2) = h
  hs : A.stF h = 1
  hc : opC h = 0
  ld : ∀ j : Int, 0 ≤ j → j < n → A.loadF h j = 100 + j
  ge : g.ep = true → A.rawF g.ta = E0
  nb : n = 1 ∨ n = 2
  tb : 0 ≤ T ∧ T ≤ n
  bb : 0 ≤ Bw ∧ Bw ≤ n
  w1 : 1 < g.w
section
variable {A B : Ar} {g : Gd} {m : Int} {S : Sg} {l : Int → List (Int × Int)} {at_ n h T Bw E0 u i w v O : Int}
theorem LA.rk (L : LA A g m S l at_ n h T Bw E0) {k : Int} (k0 : 0 ≤ k) (k1 : k < 3) : A.rawOk (dw at_ 0 k) ∧ g.ta + gwords g.ep g.w ≤ dw at_ 0 k := by
  obtain ⟨d1, d2, d3, d4⟩ := dw_in (o := ⟨at_, 0, 0, 0, g.pl⟩) L.gi L.da ⟨by show (0 : Int) ≤ 0; decide, by show (0 : Int) < g.w; have := L.w1; omega⟩ k0 k1
  refine ⟨⟨d4, d2⟩, ?_⟩
  have := L.da.lo
  show _ ≤ at_ + 3 * 0 + k; omega
theorem LA.rd (L : LA A g m S l at_ n h T Bw E0) (hu : A.uses ≤ 900000) {k : Int} (k0 : 0 ≤ k) (k1 : k < 3) : A.touchR (dw at_ 0 k) = A.later 1 := tick_later (L.rk k0 k1).1 L.gi.u0 (by omega)
theorem LA.wf (L : LA A g m S l at_ n h T Bw E0) {j : Int} (j0 : 0 ≤ j) (j1 : j < 8) : wordF h j = j ∧ A.inOk h j := by
  have hs0 : A.stF h ≠ 0 := by rw [L.hs]; decide
  have s8 : sizeF (opC h) = 8 := by rw [L.hc]; rfl
  exact ⟨by rw [wordF_live hs0, s8]; omega, hs0, j0, by rw [s8]; exact j1⟩
theorem LA.sm (L : LA A g m S l at_ n h T Bw E0) (s : Sm A g m S l B u) : LA B g m S l at_ n h T Bw E0 :=
  ⟨s.gi, ⟨L.da.lo, by rw [s.rl]; exact L.da.hi⟩, (s.rf _ (L.rk (by decide) (by decide)).2).trans L.r0, (s.rf _ (L.rk (by decide) (by decide)).2).trans L.r1, (s.rf _ (L.rk (by decide) (by decide)).2).trans L.r2, (s.st _).trans L.hs, L.hc, fun j a b => (s.lf _ _).trans (L.ld j a b), fun he => (s.gt he).trans (L.ge he), L.nb, L.tb, L.bb, L.w1⟩
theorem LA.later (L : LA A g m S l at_ n h T Bw E0) : LA (A.later 1) g m S l at_ n h T Bw E0 := L.sm (Sm.later L.gi)
theorem LA.bt (L : LA A g m S l at_ n h T Bw E0) (hu : A.uses ≤ 900000) (v : Int) {k : Int} (k0 : 0 ≤ k) (k1 : k < 3) : Bot A g m S l (dw at_ 0 k) v (A.storeR (dw at_ 0 k) v) :=
  L.gi.bot (o := ⟨at_, 0, 0, 0, g.pl⟩) L.da ⟨by show (0 : Int) ≤ 0; decide, by show (0 : Int) < g.w; have := L.w1; omega⟩ hu v k0 k1
theorem LA.top (L : LA A g m S l at_ n h T Bw E0) (hu : A.uses ≤ 900000) (hv : 0 ≤ v ∧ v ≤ n) : LA (A.storeR (dw at_ 0 0) v) g m S l at_ n h v Bw E0 := by
  have b := L.bt hu v (k := 0) (by decide) (by decide)
  have gw : 1 ≤ gwords g.ep g.w := by have := L.w1; unfold gwords; cases g.ep <;> simp <;> omega
  have d0 := (L.rk (k := 0) (by decide) (by decide)).2
  have ne : ∀ k : Int, dw at_ 0 k = at_ + k := fun k => by show at_ + 3 * 0 + k = _; omega
  refine ⟨b.gi, ⟨L.da.lo, by rw [b.rl]; exact L.da.hi⟩, ?_, ?_, ?_, (b.st _).trans L.hs, L.hc, fun j a c => (b.lf _ _).trans (L.ld j a c), fun he => ?_, L.nb, hv, L.bb, L.w1⟩
  · rw [b.rf, if_pos rfl]
  · rw [b.rf, if_neg (by rw [ne, ne]; omega)]; exact L.r1
  · rw [b.rf, if_neg (by rw [ne, ne]; omega)]; exact L.r2
  · rw [b.rf, if_neg (by omega)]; exact L.ge he
theorem LA.bot (L : LA A g m S l at_ n h T Bw E0) (hu : A.uses ≤ 900000) (hv : 0 ≤ v ∧ v ≤ n) : LA (A.storeR (dw at_ 0 1) v) g m S l at_ n h T v E0 := by
  have b := L.bt hu v (k := 1) (by decide) (by decide)
  have gw : 1 ≤ gwords g.ep g.w := by have := L.w1; unfold gwords; cases g.ep <;> simp <;> omega
  have d0 := (L.rk (k := 1) (by decide) (by decide)).2
  have ne : ∀ k : Int, dw at_ 0 k = at_ + k := fun k => by show at_ + 3 * 0 + k = _; omega
  refine ⟨b.gi, ⟨L.da.lo, by rw [b.rl]; exact L.da.hi⟩, ?_, ?_, ?_, (b.st _).trans L.hs, L.hc, fun j a c => (b.lf _ _).trans (L.ld j a c), fun he => ?_, L.nb, L.tb, hv, L.w1⟩
  · rw [b.rf, if_neg (by rw [ne, ne]; omega)]; exact L.r0
  · rw [b.rf, if_pos rfl]
  · rw [b.rf, if_neg (by rw [ne, ne]; omega)]; exact L.r2
  · rw [b.rf, if_neg (by omega)]; exact L.ge he
structure Tx (g : Gd) (at_ : Int) (x : Ts) : Prop where
  tb : Tb g x
  a : x.at_ = at_
  v : x.victim = 0
  wk : x.work = 1
  lv : x.leaves = false
  no : x.ok = false
theorem Tx.up {x y : Ts} (X : Tx g at_ x) (a : y.at_ = x.at_) (v : y.victim = x.victim) (w : y.work = x.work) (l : y.leaves = x.leaves) (o : y.ok = x.ok) : Tx g at_ y := ⟨X.tb.of a v w, a.trans X.a, v.trans X.v, w.trans X.wk, l.trans X.lv, o.trans X.no⟩
def st7 : List Sp := [.reads, .lasts, .buffers, .holds, .again, .loads, .takes]
def tkn (T : Int) (x : Ts) : Prop := x.ok = true → 0 ≤ x.t ∧ x.t + 1 ≤ T ∧ x.v = 100 + x.t
inductive TlP (g : Gd) (at_ h E0 T O : Int) : Nat → St → Prop
  | start {x : Ts} : Tx g at_ x → TlP g at_ h E0 T O 12 ⟨x, .enter :: st7, .no⟩
  | pin1 {x : Ts} : g.ep = true → Tx g at_ x → TlP g at_ h E0 T O 11 ⟨x, st7, .pin ⟨g.w, g.ta, x.work, E0, 1⟩⟩
  | pin2 {x : Ts} : g.ep = true → Tx g at_ x → TlP g at_ h E0 T O 10 ⟨x, st7, .pin ⟨g.w, g.ta, x.work, E0, 2⟩⟩
  | rd {x : Ts} : Tx g at_ x → TlP g at_ h E0 T O 9 ⟨x, st7, .no⟩
  | la {x : Ts} : Tx g at_ x → 0 ≤ x.t ∧ x.t ≤ T → TlP g at_ h E0 T O 8 ⟨x, [.lasts, .buffers, .holds, .again, .loads, .takes], .no⟩
  | bu {x : Ts} : Tx g at_ x → 0 ≤ x.t ∧ x.t ≤ T → x.t < O → TlP g at_ h E0 T O 7 ⟨x, [.buffers, .holds, .again, .loads, .takes], .no⟩
  | ho {x : Ts} : Tx g at_ x → 0 ≤ x.t ∧ x.t ≤ T → x.t < O → x.h = h → TlP g at_ h E0 T O 6 ⟨x, [.holds, .again, .loads, .takes], .no⟩
  | ag {x : Ts} : g.ep = false → Tx g at_ x → 0 ≤ x.t ∧ x.t ≤ T → x.t < O → x.h = h → TlP g at_ h E0 T O 5 ⟨x, [.again, .loads, .takes], .no⟩
  | lo {x : Ts} : Tx g at_ x → 0 ≤ x.t ∧ x.t ≤ T → x.t < O → x.h = h → TlP g at_ h E0 T O 4 ⟨x, [.loads, .takes], .no⟩
  | ta {x : Ts} : Tx g at_ x → 0 ≤ x.t ∧ x.t ≤ T → x.t < O → x.v = 100 + x.t → TlP g at_ h E0 T O 3 ⟨x, [.takes], .no⟩
  | en {x : Ts} : Tb g x → x.work = 1 → x.leaves = false → tkn T x → TlP g at_ h E0 T O 2 ⟨x, [], .no⟩
  | lv {x : Ts} : Tb g x → x.work = 1 → x.leaves = true → g.ep = false → tkn T x → TlP g at_ h E0 T O 1 ⟨x, [], .se ⟨[g.ta + 2 * x.work + 1], 0⟩⟩
  | dn {x : Ts} : x.leaves = true → tkn T x → TlP g at_ h E0 T O 0 ⟨x, [], .no⟩
theorem tkn.mono {T' : Int} {x : Ts} (h : tkn T x) (hT : T ≤ T') : tkn T' x := fun ho => by have := h ho; exact ⟨this.1, by omega, this.2.2⟩
theorem TlP.mono {k : Nat} {z : St} {T' O' : Int} (P : TlP g at_ h E0 T O k z) (hT : T ≤ T') (hO : O ≤ O' ∨ T < O') : TlP g at_ h E0 T' O' k z := by
  cases P with
  | start a => exact .start a
  | pin1 a b => exact .pin1 a b
  | pin2 a b => exact .pin2 a b
  | rd a => exact .rd a
  | la a b => exact .la a ⟨b.1, by omega⟩
  | bu a b c => exact .bu a ⟨b.1, by omega⟩ (by omega)
  | ho a b c d => exact .ho a ⟨b.1, by omega⟩ (by omega) d
  | ag e a b c d => exact .ag e a ⟨b.1, by omega⟩ (by omega) d
  | lo a b c d => exact .lo a ⟨b.1, by omega⟩ (by omega) d
  | ta a b c d => exact .ta a ⟨b.1, by omega⟩ (by omega) d
  | en a b c d => exact .en a b c (d.mono hT)
  | lv a b c d e => exact .lv a b c d (e.mono hT)
  | dn a b => exact .dn a (b.mono hT)
structure TlS (A : Ar) (g : Gd) (m : Int) (S : Sg) (l : Int → List (Int × Int)) (at_ n h T Bw E0 O : Int) (k : Nat) (z z' : St) (B : Ar) (k' : Nat) (T' : Int) : Prop where
  st : St.step g z A = (z', B)
  inv : Tb g z.x ∧ z.um.inv
  la : LA B g m S l at_ n h T' Bw E0
  al : Ar.Alike A B
  us : B.uses = A.uses + 1
  kk : k' < k
  fin : (z'.um.isNo && z'.x.leaves) = decide (k' = 0)
  p : TlP g at_ h E0 T' O k' z'
  or : (T' = T ∧ z'.x.ok = z.x.ok ∧ (z.x.ok = true → z'.x.t = z.x.t)) ∨ (T' = T + 1 ∧ T' ≤ O ∧ z.x.ok = false ∧ z'.x.ok = true ∧ z'.x.t = T)
theorem TlP.step {k : Nat} {z : St} (P : TlP g at_ h E0 T O k z) (L : LA A g m S l at_ n h T Bw E0) (hu : A.uses ≤ 800000) (hk : k ≠ 0) (hT : T ≤ O) (hB : Bw ≤ O) (hn : O ≤ n) : ∃ z' B k' T', TlS A g m S l at_ n h T Bw E0 O k z z' B k' T' := by
  have X := L.gi
  have u0 := X.u0
  have ta := X.ta
  have c0 := X.c0
  have rl := X.rl
  have rb := X.rb
  have w1 := L.w1
  have nb := L.nb
  have tb := L.tb
  have lat := later_alike A 1
  have rdg : g.ep = true → A.touchR g.ta = A.later 1 := fun he => tick_later ⟨by omega, by have : gwords g.ep g.w = 1 + g.w := (by unfold gwords; rw [he]; rfl); omega⟩ u0 (by omega)
  -- reads
  have reads : ∀ {x : Ts}, Tx g at_ x → St.step g ⟨x, st7, .no⟩ A = (⟨{ x with t := T }, [.lasts, .buffers, .holds, .again, .loads, .takes], .no⟩, A.later 1) := fun {x} X => by
    refine sp_one (p := .reads) (k := .reads) rfl X.lv ?_
    show ({ x with t := A.rawF (dw x.at_ x.victim 0) }, _, A.touchR (dw x.at_ x.victim 0)) = _
    rw [X.a, X.v, L.r0, L.rd (k := 0) (by omega) (by decide) (by decide)]
  have loads : ∀ {x : Ts}, Tx g at_ x → 0 ≤ x.t ∧ x.t ≤ T → x.t < O → x.h = h → St.step g ⟨x, [.loads, .takes], .no⟩ A = (⟨{ x with v := 100 + x.t }, [.takes], .no⟩, A.later 1) := fun {x} X ht ho hh => by
    obtain ⟨f1, f2⟩ := L.wf (j := x.t) ht.1 (by omega)
    refine sp_one (p := .loads) (k := .loads) rfl X.lv ?_
    show ({ x with v := A.loadF x.h (wordF x.h x.t) }, _, A.touch x.h (wordF x.h x.t)) = _
    rw [hh, f1, L.ld _ ht.1 (by omega), touch_later L.gi (by omega) f2]
  cases P with
  | @start x a =>
    cases he : g.ep with
    | true =>
      have hb : bg g x .enter = .pin (newPn g.w g.ta x.work) := if_pos he
      have hs : (newPn g.w g.ta x.work).step A = (⟨g.w, g.ta, x.work, E0, 1⟩, A.later 1) := by
        unfold Pn.step
        rw [if_pos (show (newPn g.w g.ta x.work).ph = 0 from rfl), show (newPn g.w g.ta x.work).ta = g.ta from rfl, L.ge he, rdg he]; rfl
      refine ⟨_, _, 11, T, (sp_enter hb a.lv).trans ?_, ⟨a.tb, trivial⟩, L.later, lat, rfl, by decide, ?_, .pin1 he a, .inl ⟨rfl, rfl, fun _ => rfl⟩⟩
      · rw [hs]; rfl
      · show (false && x.leaves) = false; rfl
    | false =>
      refine ⟨_, _, 8, T, (sp_skip (p := .enter) (if_neg (by rw [he]; decide)) a.lv).trans (reads a), ⟨a.tb, trivial⟩, L.later, lat, rfl, by decide, ?_, .la (a.up rfl rfl rfl rfl rfl) ⟨tb.1, Int.le_refl _⟩, .inl ⟨rfl, rfl, fun h => (by rw [a.no] at h; cases h)⟩⟩
      show (true && x.leaves) = false; rw [a.lv]; rfl
  | @pin1 x he a =>
    have gw : gwords g.ep g.w = 1 + g.w := by unfold gwords; rw [he]; rfl
    have eb := X.eb he
    rw [L.ge he] at eb
    have wk := a.wk
    have ew : ewd g.ta x.work = g.ta + 1 + x.work := ewd_eq ⟨by omega, by omega, by omega, by omega⟩
    obtain ⟨W, _, _⟩ := Sm.word (w := w64 (E0 + 1)) X (by omega) (i := g.ta + 1 + x.work) ⟨by omega, by omega⟩ (fun _ => by omega)
    refine ⟨⟨x, st7, .pin ⟨g.w, g.ta, x.work, E0, 2⟩⟩, _, 10, T, sp_pin.trans ?_, ⟨a.tb, (show (1 : Nat) ≤ 3 by decide)⟩, L.sm W, W.al, W.us, by decide, rfl, .pin2 he a, .inl ⟨rfl, rfl, fun _ => rfl⟩⟩
    show ((⟨x, st7, if mPn.fin (⟨g.w, g.ta, x.work, E0, 2⟩ : Pn) = true then .no else .pin ⟨g.w, g.ta, x.work, E0, 2⟩⟩ : St), A.storeR (ewd g.ta x.work) (w64 (E0 + 1))) = _
    rw [ew]; rfl
  | @pin2 x he a =>
    refine ⟨⟨x, st7, .no⟩, _, 9, T, sp_pin.trans ?_, ⟨a.tb, (show (2 : Nat) ≤ 3 by decide)⟩, L.later, lat, rfl, by decide, ?_, .rd a, .inl ⟨rfl, rfl, fun _ => rfl⟩⟩
    · have hs : (⟨g.w, g.ta, x.work, E0, 2⟩ : Pn).step A = (⟨g.w, g.ta, x.work, E0, 3⟩, A.later 1) := by
        show ((⟨g.w, g.ta, x.work, A.rawF g.ta, if A.rawF g.ta = E0 then 3 else 1⟩ : Pn), A.touchR g.ta) = _
        rw [L.ge he, if_pos rfl, rdg he]
      rw [hs]; rfl
    · show (true && x.leaves) = false; rw [a.lv]; rfl
  | @rd x a =>
    refine ⟨_, _, 8, T, reads a, ⟨a.tb, trivial⟩, L.later, lat, rfl, by decide, ?_, .la (a.up rfl rfl rfl rfl rfl) ⟨tb.1, Int.le_refl _⟩, .inl ⟨rfl, rfl, fun h => (by rw [a.no] at h; cases h)⟩⟩
    show (true && x.leaves) = false; rw [a.lv]; rfl
  | @la x a ht =>
    have hs : St.step g ⟨x, [.lasts, .buffers, .holds, .again, .loads, .takes], .no⟩ A = (⟨x, if Bw ≤ x.t then [] else [.buffers, .holds, .again, .loads, .takes], .no⟩, A.later 1) := by
      refine sp_one (p := .lasts) (k := .lasts) rfl a.lv ?_
      show (x, if A.rawF (dw x.at_ x.victim 1) ≤ x.t then [] else _, A.touchR (dw x.at_ x.victim 1)) = _
      rw [a.a, a.v, L.r1, L.rd (k := 1) (by omega) (by decide) (by decide)]
    by_cases hb : Bw ≤ x.t
    · rw [if_pos hb] at hs
      refine ⟨_, _, 2, T, hs, ⟨a.tb, trivial⟩, L.later, lat, rfl, by decide, ?_, .en a.tb a.wk a.lv (fun h => by rw [a.no] at h; cases h), .inl ⟨rfl, rfl, fun _ => rfl⟩⟩
      show (true && x.leaves) = false; rw [a.lv]; rfl
    · rw [if_neg hb] at hs
      refine ⟨_, _, 7, T, hs, ⟨a.tb, trivial⟩, L.later, lat, rfl, by decide, ?_, .bu a ht (by omega), .inl ⟨rfl, rfl, fun _ => rfl⟩⟩
      show (true && x.leaves) = false; rw [a.lv]; rfl
  | @bu x a ht ho =>
    have hs : St.step g ⟨x, [.buffers, .holds, .again, .loads, .takes], .no⟩ A = (⟨{ x with h := h }, [.holds, .again, .loads, .takes], .no⟩, A.later 1) := by
      refine sp_one (p := .buffers) (k := .buffers) rfl a.lv ?_
      show ({ x with h := A.rawF (dw x.at_ x.victim 2) }, _, A.touchR (dw x.at_ x.victim 2)) = _
      rw [a.a, a.v, L.r2, L.rd (k := 2) (by omega) (by decide) (by decide)]
    refine ⟨_, _, 6, T, hs, ⟨a.tb, trivial⟩, L.later, lat, rfl, by decide, ?_, .ho (a.up rfl rfl rfl rfl rfl) ht ho rfl, .inl ⟨rfl, rfl, fun _ => rfl⟩⟩
    show (true && x.leaves) = false; rw [a.lv]; rfl
  | @ho x a ht ho hh =>
    cases he : g.ep with
    | true =>
      refine ⟨_, _, 3, T, (sp_skip (p := .holds) (if_pos he) a.lv).trans ((sp_skip (p := .again) (if_pos he) a.lv).trans (loads a ht ho hh)), ⟨a.tb, trivial⟩, L.later, lat, rfl, by decide, ?_, .ta (a.up rfl rfl rfl rfl rfl) ht ho rfl, .inl ⟨rfl, rfl, fun _ => rfl⟩⟩
      show (true && x.leaves) = false; rw [a.lv]; rfl
    | false =>
      have gw : gwords g.ep g.w = 2 * g.w := by unfold gwords; rw [he]; rfl
      have wk := a.wk
      obtain ⟨W, _, _⟩ := Sm.word (w := x.h) X (by omega) (i := g.ta + 2 * x.work + 0) ⟨by omega, by omega⟩ (fun h => by rw [he] at h; cases h)
      refine ⟨_, _, 5, T, sp_se (p := .holds) (if_neg (by rw [he]; decide)) a.lv, ⟨a.tb, trivial⟩, L.sm W, W.al, W.us, by decide, ?_, .ag he a ht ho hh, .inl ⟨rfl, rfl, fun _ => rfl⟩⟩
      show (true && x.leaves) = false; rw [a.lv]; rfl
  | @ag x he a ht ho hh =>
    have hs : St.step g ⟨x, [.again, .loads, .takes], .no⟩ A = (⟨x, [.loads, .takes], .no⟩, A.later 1) := by
      refine sp_one (p := .again) (k := .again) (if_neg (by rw [he]; decide)) a.lv ?_
      show (x, if A.rawF (dw x.at_ x.victim 2) = x.h then _ else [], A.touchR (dw x.at_ x.victim 2)) = _
      rw [a.a, a.v, L.r2, L.rd (k := 2) (by omega) (by decide) (by decide), if_pos hh.symm]
    refine ⟨_, _, 4, T, hs, ⟨a.tb, trivial⟩, L.later, lat, rfl, by decide, ?_, .lo a ht ho hh, .inl ⟨rfl, rfl, fun _ => rfl⟩⟩
    show (true && x.leaves) = false; rw [a.lv]; rfl
  | @lo x a ht ho hh =>
    refine ⟨_, _, 3, T, loads a ht ho hh, ⟨a.tb, trivial⟩, L.later, lat, rfl, by decide, ?_, .ta (a.up rfl rfl rfl rfl rfl) ht ho rfl, .inl ⟨rfl, rfl, fun _ => rfl⟩⟩
    show (true && x.leaves) = false; rw [a.lv]; rfl
  | @ta x a ht ho hv =>
    have rk := (L.rk (k := 0) (by decide) (by decide)).1
    by_cases e : T = x.t
    · obtain ⟨s1, s2⟩ := swapR_yes (A := A) (i := dw at_ 0 0) (v := x.t) (x := x.t + 1) rk (by rw [L.r0]; exact e)
      have hs : St.step g ⟨x, [.takes], .no⟩ A = (⟨{ x with ok := true }, [], .no⟩, A.storeR (dw at_ 0 0) (x.t + 1)) := by
        refine sp_one (p := .takes) (k := .takes) rfl a.lv ?_
        show ({ x with ok := A.swapRb (dw x.at_ x.victim 0) x.t }, _, A.swapR (dw x.at_ x.victim 0) x.t (w64 (x.t + 1))) = _
        rw [a.a, a.v, w64_in (x := x.t + 1) (by omega) (by omega), s1, s2]
      have b := L.bt (by omega) (x.t + 1) (k := 0) (by decide) (by decide)
      have L2 := L.top (v := x.t + 1) (by omega) ⟨by omega, by omega⟩
      refine ⟨_, _, 2, x.t + 1, hs, ⟨a.tb, trivial⟩, L2, b.al, b.us, by decide, ?_, .en (a.tb.of rfl rfl rfl) a.wk a.lv (fun _ => ⟨ht.1, Int.le_refl _, hv⟩), .inr ⟨by omega, by omega, a.no, rfl, e.symm⟩⟩
      show (true && x.leaves) = false; rw [a.lv]; rfl
    · obtain ⟨s1, s2⟩ := swapR_no (A := A) (i := dw at_ 0 0) (v := x.t) (w := x.t + 1) rk (by rw [L.r0]; exact e)
      have tk : A.tick = A.later 1 := by unfold Ar.tick Ar.later; rw [w64_in (by omega) (by omega)]
      have hs : St.step g ⟨x, [.takes], .no⟩ A = (⟨{ x with ok := false }, [], .no⟩, A.later 1) := by
        refine sp_one (p := .takes) (k := .takes) rfl a.lv ?_
        show ({ x with ok := A.swapRb (dw x.at_ x.victim 0) x.t }, _, A.swapR (dw x.at_ x.victim 0) x.t (w64 (x.t + 1))) = _
        rw [a.a, a.v, w64_in (x := x.t + 1) (by omega) (by omega), s1, s2, tk]
      refine ⟨_, _, 2, T, hs, ⟨a.tb, trivial⟩, L.later, lat, rfl, by decide, ?_, .en (a.tb.of rfl rfl rfl) a.wk a.lv (fun h => (by cases h)), .inl ⟨rfl, a.no.symm, fun _ => rfl⟩⟩
      show (true && x.leaves) = false; rw [a.lv]; rfl
  | @en x tbx wk lv tk =>
    cases he : g.ep with
    | true =>
      have gw : gwords g.ep g.w = 1 + g.w := by unfold gwords; rw [he]; rfl
      have ew : ewd g.ta x.work = g.ta + 1 + x.work := ewd_eq ⟨by omega, by omega, by omega, by omega⟩
      obtain ⟨W, _, _⟩ := Sm.word (w := 0) X (by omega) (i := g.ta + 1 + x.work) ⟨by omega, by omega⟩ (fun _ => by omega)
      refine ⟨⟨{ x with leaves := true }, [], .no⟩, A.storeR (g.ta + 1 + x.work) 0, 0, T, (sp_leaveE he lv).trans (by rw [ew]), ⟨tbx, trivial⟩, L.sm W, W.al, W.us, by decide, rfl, .dn rfl tk, .inl ⟨rfl, rfl, fun _ => rfl⟩⟩
    | false =>
      have gw : gwords g.ep g.w = 2 * g.w := by unfold gwords; rw [he]; rfl
      obtain ⟨W, _, _⟩ := Sm.word (w := 0) X (by omega) (i := g.ta + 2 * x.work) ⟨by omega, by omega⟩ (fun h => by rw [he] at h; cases h)
      exact ⟨_, _, 1, T, sp_leaveH he lv, ⟨tbx, trivial⟩, L.sm W, W.al, W.us, by decide, rfl, .lv (tbx.of rfl rfl rfl) wk rfl he tk, .inl ⟨rfl, rfl, fun _ => rfl⟩⟩
  | @lv x tbx wk lv he tk =>
    have gw : gwords g.ep g.w = 2 * g.w := by unfold gwords; rw [he]; rfl
    obtain ⟨W, _, _⟩ := Sm.word (w := 0) X (by omega) (i := g.ta + 2 * x.work + 1) ⟨by omega, by omega⟩ (fun h => by rw [he] at h; cases h)
    refine ⟨_, _, 0, T, sp_se1, ⟨tbx, trivial⟩, L.sm W, W.al, W.us, by decide, ?_, .dn lv tk, .inl ⟨rfl, rfl, fun _ => rfl⟩⟩
    show (true && x.leaves) = true; rw [lv]; rfl
  | dn a b => exact (hk rfl).elim
end
section
variable {A B : Ar} {g : Gd} {m : Int} {S : Sg} {l : Int → List (Int × Int)} {at_ n h T Bw E0 u i w v O : Int} {pl : Pl}
inductive PoP (at_ n h T : Int) (pl : Pl) : Nat → Pp → Int → Int → Bool → Prop
  | p0 : PoP at_ n h T pl 5 ⟨⟨at_, 0, n, h, pl⟩, 0, 0, 0, false⟩ n n false
  | p1 : PoP at_ n h T pl 4 ⟨⟨at_, 0, n - 1, h, pl⟩, 0, 1, 0, false⟩ (n - 1) n false
  | p2a (t : Int) : 0 ≤ t → t < n - 1 → PoP at_ n h T pl 3 ⟨⟨at_, 0, n - 1, h, pl⟩, t, 2, 0, false⟩ (n - 1) (n - 1) false
  | p2b : n - 1 ≤ T → PoP at_ n h T pl 3 ⟨⟨at_, 0, n - 1, h, pl⟩, n - 1, 2, 0, false⟩ (n - 1) n false
  | p3 : n - 1 ≤ T → PoP at_ n h T pl 2 ⟨⟨at_, 0, n - 1, h, pl⟩, n - 1, 3, 100 + (n - 1), false⟩ (n - 1) n false
  | p4 (t v : Int) (ok : Bool) : T = n → (ok = true → v = 100 + (n - 1)) → PoP at_ n h T pl 1 ⟨⟨at_, 0, n - 1, h, pl⟩, t, 4, v, ok⟩ (n - 1) n ok
  | p5a (t : Int) : 0 ≤ t → t < n - 1 → PoP at_ n h T pl 0 ⟨⟨at_, 0, n - 1, h, pl⟩, t, 5, 100 + (n - 1), true⟩ (n - 1) (n - 1) false
  | p5b (t v : Int) (ok : Bool) : T = n → (ok = true → v = 100 + (n - 1)) → PoP at_ n h T pl 0 ⟨⟨at_, 0, n, h, pl⟩, t, 5, v, ok⟩ n n ok
theorem PoP.mono {k : Nat} {pp : Pp} {c : Bool} {T' : Int} (P : PoP at_ n h T pl k pp Bw O c) (hT : T ≤ T') (hO : T' ≤ O) (hn : O ≤ n) : PoP at_ n h T' pl k pp Bw O c := by
  cases P with
  | p0 => exact .p0
  | p1 => exact .p1
  | p2a t a b => exact .p2a t a b
  | p2b a => exact .p2b (by omega)
  | p3 a => exact .p3 (by omega)
  | p4 t v _ a b => exact .p4 t v _ (by omega) b
  | p5a t a b => exact .p5a t a b
  | p5b t v _ a b => exact .p5b t v _ (by omega) b
theorem PoP.on {k : Nat} {pp : Pp} {c : Bool} (P : PoP at_ n h T pl k pp Bw O c) : O ≤ n ∧ Bw ≤ O ∧ (c = true → T = n) ∧ pp.o.at_ = at_ ∧ pp.o.work = 0 ∧ pp.o.b = Bw := by
  cases P <;> refine ⟨by omega, by omega, ?_, rfl, rfl, rfl⟩ <;> first | (intro h; cases h; done) | (intro _; assumption)
structure PoS (A : Ar) (g : Gd) (m : Int) (S : Sg) (l : Int → List (Int × Int)) (at_ n h T Bw E0 O : Int) (pl : Pl) (c : Bool) (k : Nat) (pp pp' : Pp) (B : Ar) (k' : Nat) (Bw' O' T' : Int) (c' : Bool) : Prop where
  st : pp.step A = (pp', B)
  la : LA B g m S l at_ n h T' Bw' E0
  al : Ar.Alike A B
  us : B.uses = A.uses + 1
  kk : k' < k
  fin : ((pp'.what : Int) == 5) = decide (k' = 0)
  p : PoP at_ n h T' pl k' pp' Bw' O' c'
  oo : O ≤ O' ∨ T < O'
  to : T' ≤ O'
  or : (T' = T ∧ c' = c) ∨ (T = n - 1 ∧ T' = T + 1 ∧ c = false ∧ c' = true)
theorem PoP.step {k : Nat} {pp : Pp} {c : Bool} (P : PoP at_ n h T pl k pp Bw O c) (L : LA A g m S l at_ n h T Bw E0) (hu : A.uses ≤ 800000) (hk : k ≠ 0) (hT : T ≤ O) : ∃ pp' B k' Bw' O' T' c', PoS A g m S l at_ n h T Bw E0 O pl c k pp pp' B k' Bw' O' T' c' := by
  have u0 := L.gi.u0
  have nb := L.nb
  have tb := L.tb
  have lat := later_alike A 1
  have e1 : w64 (n - 1) = n - 1 := w64_in (by omega) (by omega)
  have e2 : w64 (n - 1 + 1) = n := by rw [w64_in (by omega) (by omega)]; omega
  obtain ⟨f1, f2⟩ := L.wf (j := n - 1) (by omega) (by omega)
  have ld := L.ld (n - 1) (by omega) (by omega)
  have tl := touch_later (h := h) (i := n - 1) L.gi (by omega) f2
  have rk := (L.rk (k := 0) (by decide) (by decide)).1
  cases P with
  | p0 =>
    have b := L.bt (by omega) (n - 1) (k := 1) (by decide) (by decide)
    refine ⟨⟨⟨at_, 0, n - 1, h, pl⟩, 0, 1, 0, false⟩, A.storeR (dw at_ 0 1) (n - 1), 4, n - 1, n, T, false, ?_, L.bot (by omega) ⟨by omega, by omega⟩, b.al, b.us, by decide, rfl, .p1, .inl (Int.le_refl _), hT, .inl ⟨rfl, rfl⟩⟩
    show ((⟨⟨at_, 0, w64 (n - 1), h, pl⟩, 0, 1, 0, false⟩ : Pp), A.storeR (dw at_ 0 1) (w64 (n - 1))) = _
    rw [e1]
  | p1 =>
    have hs : Pp.step ⟨⟨at_, 0, n - 1, h, pl⟩, 0, 1, 0, false⟩ A = (⟨⟨at_, 0, n - 1, h, pl⟩, T, if n - 1 < T then 4 else 2, 0, false⟩, A.later 1) := by
      show ((⟨⟨at_, 0, n - 1, h, pl⟩, A.rawF (dw at_ 0 0), if n - 1 < A.rawF (dw at_ 0 0) then 4 else 2, 0, false⟩ : Pp), A.touchR (dw at_ 0 0)) = _
      rw [L.r0, L.rd (k := 0) (by omega) (by decide) (by decide)]
    by_cases h1 : n - 1 < T
    · rw [if_pos h1] at hs
      exact ⟨_, _, 1, n - 1, n, T, false, hs, L.later, lat, rfl, by decide, rfl, .p4 T 0 false (by omega) (fun h => (by cases h)), .inl (Int.le_refl _), hT, .inl ⟨rfl, rfl⟩⟩
    · rw [if_neg h1] at hs
      by_cases h2 : T < n - 1
      · exact ⟨_, _, 3, n - 1, n - 1, T, false, hs, L.later, lat, rfl, by decide, rfl, .p2a T tb.1 h2, .inr h2, by omega, .inl ⟨rfl, rfl⟩⟩
      · have e : T = n - 1 := by omega
        subst e
        exact ⟨_, _, 3, n - 1, n, n - 1, false, hs, L.later, lat, rfl, by decide, rfl, .p2b (Int.le_refl _), .inl (Int.le_refl _), hT, .inl ⟨rfl, rfl⟩⟩
  | p2a t a b =>
    refine ⟨_, _, 0, n - 1, n - 1, T, false, ?_, L.later, lat, rfl, by decide, rfl, .p5a t a b, .inl (Int.le_refl _), hT, .inl ⟨rfl, rfl⟩⟩
    show (if t < n - 1 then (⟨⟨at_, 0, n - 1, h, pl⟩, t, 5, A.loadF h (wordF h (n - 1)), true⟩ : Pp) else ⟨⟨at_, 0, n - 1, h, pl⟩, t, 3, A.loadF h (wordF h (n - 1)), false⟩, A.touch h (wordF h (n - 1))) = _
    rw [if_pos b, f1, ld, tl]
  | p2b a =>
    refine ⟨_, _, 2, n - 1, n, T, false, ?_, L.later, lat, rfl, by decide, rfl, .p3 a, .inl (Int.le_refl _), hT, .inl ⟨rfl, rfl⟩⟩
    show (if n - 1 < n - 1 then (⟨⟨at_, 0, n - 1, h, pl⟩, n - 1, 5, A.loadF h (wordF h (n - 1)), true⟩ : Pp) else ⟨⟨at_, 0, n - 1, h, pl⟩, n - 1, 3, A.loadF h (wordF h (n - 1)), false⟩, A.touch h (wordF h (n - 1))) = _
    rw [if_neg (by omega), f1, ld, tl]
  | p3 a =>
    by_cases e : T = n - 1
    · obtain ⟨s1, s2⟩ := swapR_yes (A := A) (i := dw at_ 0 0) (v := n - 1) (x := n) rk (by rw [L.r0]; exact e)
      have b := L.bt (by omega) n (k := 0) (by decide) (by decide)
      refine ⟨⟨⟨at_, 0, n - 1, h, pl⟩, n - 1, 4, 100 + (n - 1), true⟩, A.storeR (dw at_ 0 0) n, 1, n - 1, n, n, true, ?_, L.top (by omega) ⟨by omega, by omega⟩, b.al, b.us, by decide, rfl, .p4 _ _ true rfl (fun _ => rfl), .inl (Int.le_refl _), Int.le_refl _, .inr ⟨e, by omega, rfl, rfl⟩⟩
      show ((⟨⟨at_, 0, n - 1, h, pl⟩, n - 1, 4, 100 + (n - 1), A.swapRb (dw at_ 0 0) (n - 1)⟩ : Pp), A.swapR (dw at_ 0 0) (n - 1) (w64 (n - 1 + 1))) = _
      rw [e2, s1, s2]
    · obtain ⟨s1, s2⟩ := swapR_no (A := A) (i := dw at_ 0 0) (v := n - 1) (w := n) rk (by rw [L.r0]; exact e)
      have tk : A.tick = A.later 1 := by unfold Ar.tick Ar.later; rw [w64_in (by omega) (by omega)]
      refine ⟨⟨⟨at_, 0, n - 1, h, pl⟩, n - 1, 4, 100 + (n - 1), false⟩, A.later 1, 1, n - 1, n, T, false, ?_, L.later, lat, rfl, by decide, rfl, .p4 _ _ false (by omega) (fun h => (by cases h)), .inl (Int.le_refl _), hT, .inl ⟨rfl, rfl⟩⟩
      show ((⟨⟨at_, 0, n - 1, h, pl⟩, n - 1, 4, 100 + (n - 1), A.swapRb (dw at_ 0 0) (n - 1)⟩ : Pp), A.swapR (dw at_ 0 0) (n - 1) (w64 (n - 1 + 1))) = _
      rw [e2, s1, s2, tk]
  | p4 t v _ a b =>
    have bb := L.bt (by omega) n (k := 1) (by decide) (by decide)
    refine ⟨⟨⟨at_, 0, n, h, pl⟩, t, 5, v, c⟩, A.storeR (dw at_ 0 1) n, 0, n, n, T, c, ?_, L.bot (by omega) ⟨by omega, by omega⟩, bb.al, bb.us, by decide, rfl, .p5b t v c a b, .inl (Int.le_refl _), hT, .inl ⟨rfl, rfl⟩⟩
    show ((⟨⟨at_, 0, w64 (n - 1 + 1), h, pl⟩, t, 5, v, c⟩ : Pp), A.storeR (dw at_ 0 1) (w64 (n - 1 + 1))) = _
    rw [e2]
  | p5a t a b => exact (hk rfl).elim
  | p5b t v _ a b => exact (hk rfl).elim
theorem TlP.tk {k : Nat} {z : St} (P : TlP g at_ h E0 T O k z) : tkn T z.x := by
  cases P with
  | start a => exact fun h => by rw [a.no] at h; cases h
  | pin1 a b => exact fun h => by rw [b.no] at h; cases h
  | pin2 a b => exact fun h => by rw [b.no] at h; cases h
  | rd a => exact fun h => by rw [a.no] at h; cases h
  | la a b => exact fun h => by rw [a.no] at h; cases h
  | bu a b c => exact fun h => by rw [a.no] at h; cases h
  | ho a b c d => exact fun h => by rw [a.no] at h; cases h
  | ag e a b c d => exact fun h => by rw [a.no] at h; cases h
  | lo a b c d => exact fun h => by rw [a.no] at h; cases h
  | ta a b c d => exact fun h => by rw [a.no] at h; cases h
  | en a b c d => exact d
  | lv a b c d e => exact e
  | dn a b => exact b
structure Jt (A : Ar) (g : Gd) (m : Int) (S : Sg) (l : Int → List (Int × Int)) (at_ n h E0 : Int) (pl : Pl) (pp : Pp) (z : St) (kp kt : Nat) (T Bw O : Int) (c : Bool) : Prop where
  la : LA A g m S l at_ n h T Bw E0
  po : PoP at_ n h T pl kp pp Bw O c
  tl : TlP g at_ h E0 T O kt z
  to : T ≤ O
  sm : T = (if z.x.ok = true then 1 else 0) + (if c = true then 1 else 0)
  ct : c = true → z.x.ok = true → z.x.t + 1 ≤ n - 1
theorem Jt.pop {pp : Pp} {z : St} {kp kt : Nat} {c : Bool} (J : Jt A g m S l at_ n h E0 pl pp z kp kt T Bw O c) (hu : A.uses ≤ 800000) (hk : kp ≠ 0) : ∃ pp' B k' Bw' O' T' c', pp.step A = (pp', B) ∧ Ar.Alike A B ∧ B.uses = A.uses + 1 ∧ k' < kp ∧ ((pp'.what : Int) == 5) = decide (k' = 0) ∧ Jt B g m S l at_ n h E0 pl pp' z k' kt T' Bw' O' c' := by
  obtain ⟨pp', B, k', Bw', O', T', c', P⟩ := J.po.step J.la hu hk J.to
  have sm := J.sm
  refine ⟨pp', B, k', Bw', O', T', c', P.st, P.al, P.us, P.kk, P.fin, P.la, P.p, J.tl.mono ?_ ?_, P.to, ?_, ?_⟩
  · rcases P.or with ⟨a, _⟩ | ⟨_, a, _⟩ <;> omega
  · exact P.oo
  · rcases P.or with ⟨a, b⟩ | ⟨_, a, b, d⟩
    · rw [a, b]; exact sm
    · rw [b, if_neg (show ¬ false = true by decide)] at sm
      rw [d, if_pos rfl]; omega
  · intro h1 h2
    rcases P.or with ⟨a, b⟩ | ⟨e, a, b, d⟩
    · exact J.ct (by rw [← b]; exact h1) h2
    · have := J.tl.tk h2; omega
theorem Jt.steal {pp : Pp} {z : St} {kp kt : Nat} {c : Bool} (J : Jt A g m S l at_ n h E0 pl pp z kp kt T Bw O c) (hu : A.uses ≤ 800000) (hk : kt ≠ 0) : ∃ z' B k' T', St.step g z A = (z', B) ∧ (Tb g z.x ∧ z.um.inv) ∧ Ar.Alike A B ∧ B.uses = A.uses + 1 ∧ k' < kt ∧ (z'.um.isNo && z'.x.leaves) = decide (k' = 0) ∧ Jt B g m S l at_ n h E0 pl pp z' kp k' T' Bw O c := by
  obtain ⟨on, bo, cn, _⟩ := J.po.on
  obtain ⟨z', B, k', T', P⟩ := J.tl.step J.la hu hk J.to bo on
  have sm := J.sm
  have ct := J.ct
  have to := J.to
  refine ⟨z', B, k', T', P.st, P.inv, P.al, P.us, P.kk, P.fin, P.la, J.po.mono ?_ ?_ on, P.p, ?_, ?_, ?_⟩
  · rcases P.or with ⟨a, _⟩ | ⟨a, _⟩ <;> omega
  · rcases P.or with ⟨a, _⟩ | ⟨a, b, _⟩ <;> omega
  · rcases P.or with ⟨a, _⟩ | ⟨a, b, _⟩ <;> omega
  · rcases P.or with ⟨a, b, _⟩ | ⟨a, b, d, e, _⟩
    · rw [a, b]; exact sm
    · rw [d, if_neg (show ¬ false = true by decide)] at sm
      rw [e, if_pos rfl]; omega
  · intro h1 h2
    rcases P.or with ⟨a, b, d⟩ | ⟨a, b, d, e, f⟩
    · rw [b] at h2
      rw [d h2]; exact ct h1 h2
    · have := cn h1; omega
theorem Jt.last {pp : Pp} {z : St} {c : Bool} (J : Jt A g m S l at_ n h E0 pl pp z 0 0 T Bw O c) : pp.what = 5 ∧ z.um = .no ∧ z.x.leaves = true ∧ (z.x.ok = true → z.x.v = 100) ∧ (n = 1 → pp.ok = !z.x.ok ∧ (pp.ok = true → pp.v = 100) ∧ T = 1 ∧ Bw = 1) ∧ (n = 2 → pp.ok = true ∧ pp.v = 101) := by
  obtain ⟨la, po, tl, to, sm, ct⟩ := J
  have nb := la.nb
  cases tl with
  | @dn x lv tk =>
    have ct : c = true → x.ok = true → x.t + 1 ≤ n - 1 := ct
    have sm : T = (if x.ok = true then 1 else 0) + (if c = true then 1 else 0) := sm
    cases po with
    | p5a t a b =>
      refine ⟨rfl, rfl, lv, fun ho => ?_, fun h1 => by omega, fun h2 => ⟨rfl, by show 100 + (n - 1) = 101; omega⟩⟩
      have := tk ho
      show x.v = 100
      omega
    | p5b t v _ a b =>
      refine ⟨rfl, rfl, lv, fun ho => ?_, fun h1 => ⟨?_, fun h => (b h).trans (by omega), by omega, h1⟩, fun h2 => ?_⟩
      · have t1 := tk ho
        show x.v = 100
        rw [if_pos (show x.ok = true from ho)] at sm
        cases hc : c with
        | true => have := ct hc ho; omega
        | false => rw [hc, if_neg (show ¬ false = true by decide)] at sm; omega
      · show c = !x.ok
        cases hx : x.ok <;> cases hc : c <;> rw [hx, hc] at sm <;> simp at sm <;> first | rfl | omega
      · have : c = true := by
          cases hc : c with
          | true => rfl
          | false =>
            rw [hc, if_neg (show ¬ false = true by decide)] at sm
            split at sm <;> omega
        subst this
        exact ⟨rfl, (b rfl).trans (by omega)⟩
end
theorem wl_bbi {L : Hands} {H : Heap} {R : Value → Heap → Prop} {n : Nat} {init : List Value} {body : HL Sh1.T [.leaf .bool, .leaf .bool, .leaf (.int .i64)] → Tree} (I : Bool → Bool → Int → Heap → Prop) (m : Bool → Bool → Int → Nat) (x0 : Bool) (x1 : Bool) (x2 : Int) (hi : I x0 x1 x2 H)
    (hstep : ∀ (x0 : Bool) (x1 : Bool) (x2 : Int) H', I x0 x1 x2 H' → wp Tryz.prog (body (x0, x1, x2, ())) (L.set n fun vals H'' => ∃ (y0 : Bool) (y1 : Bool) (y2 : Int), vals = [.bool y0, .bool y1, .int .i64 y2] ∧ I y0 y1 y2 H'' ∧ m y0 y1 y2 < m x0 x1 x2) H' R) (h0 : init = [.bool x0, .bool x1, .int .i64 x2] := by rfl) :
    wp Tryz.prog (.loop n [.leaf .bool, .leaf .bool, .leaf (.int .i64)] init body) L H R := by
  refine wp_loop_inv (fun x K => I x.1 x.2.1 x.2.2.1 K) (fun x _ => m x.1 x.2.1 x.2.2.1) (x0, x1, x2, ()) h0 hi ?_
  rintro ⟨x0, x1, x2, u⟩ K hI
  refine Go.Fw.wp_mono _ (hstep x0 x1 x2 K hI) (fun k vals H'' hk => ?_) (fun _ _ h => h)
  unfold Hands.set at *
  split at hk
  · rename_i e; rw [if_pos e]; obtain ⟨y0, y1, y2, h1, h2, h3⟩ := hk; exact ⟨(y0, y1, y2, ()), h1, h2, h3⟩
  · rename_i e; rw [if_neg e]; exact hk
noncomputable def t_magpielaw17_ThiefLast_J3 (x21 : Option Addr) (x59 : Option Addr) (x68 : Option Addr) (y2 : HL Sh1.T [(.leaf .bool), (.leaf .bool), (.leaf (.int .i64))]) : Tree :=
 bif y2.2.1 then (
 bif y2.1 then (
 .again 1024 [(.bool true), (.bool y2.2.1), (.int .i64 (w64 (y2.2.2.1 + 1)))])
 else (
 lkN x21 fun x107 =>
 .ld x107 .ptr fun x109 =>
 .call f_deque_Pop_Step [(.pointer x59), (.pointer x109)] (.one (.leaf .bool)) fun x110 =>
 .again 1024 [(.bool x110), (.bool y2.2.1), (.int .i64 (w64 (y2.2.2.1 + 1)))]))
 else (
 bif y2.2.1 then (
 .again 1024 [(.bool y2.1), (.bool true), (.int .i64 (w64 (y2.2.2.1 + 1)))])
 else (
 lkN x21 fun x116 =>
 .ld x116 .ptr fun x118 =>
 .call f_thief_Steal_Step [(.pointer x68), (.pointer x118)] (.one (.leaf .bool)) fun x119 =>
 .again 1024 [(.bool y2.1), (.bool x119), (.int .i64 (w64 (y2.2.2.1 + 1)))]))
noncomputable def t_magpielaw17_ThiefLast_J4 (p0 : Sl) (x21 : Option Addr) (x59 : Option Addr) (x68 : Option Addr) (y2 : HL Sh1.T [(.leaf .bool), (.leaf .bool), (.leaf (.int .i64))]) : Tree :=
 bif (decide ((y2.2.2.1 : Int) < ((p0.len : Nat) : Int))) then (
 .look (opS Tryz.prog (.indexAddr ty_s_bool (.tmp 0) (.tmp 1)) ty_unit [(.slice p0.a p0.len p0.cap), (.int .i64 y2.2.2.1)]) (.one (.leaf .addr)) fun x93 =>
 .ld x93 .bool fun x94 =>
 bif x94 then (
 bif (!y2.1) then (
 bif y2.1 then (
 .again 1024 [(.bool true), (.bool y2.2.1), (.int .i64 (w64 (y2.2.2.1 + 1)))])
 else (
 lkN x21 fun x107 =>
 .ld x107 .ptr fun x109 =>
 .call f_deque_Pop_Step [(.pointer x59), (.pointer x109)] (.one (.leaf .bool)) fun x110 =>
 .again 1024 [(.bool x110), (.bool y2.2.1), (.int .i64 (w64 (y2.2.2.1 + 1)))]))
 else (
 t_magpielaw17_ThiefLast_J3 x21 x59 x68 y2))
 else (
 t_magpielaw17_ThiefLast_J3 x21 x59 x68 y2))
 else (
 t_magpielaw17_ThiefLast_J3 x21 x59 x68 y2)
noncomputable def t_magpielaw17_ThiefLast_J9 (x21 : Option Addr) (x25 : Int) (x59 : Option Addr) (x68 : Option Addr) (y2 : HL Sh1.T [(.leaf .bool), (.leaf .bool), (.leaf (.int .i64))]) : Tree :=
 .call f_deque_Pop_Value [(.pointer x59)] (.tup [(.leaf (.int .i64)), (.leaf .bool)]) fun x123 =>
 .call f_thief_Steal_Value [(.pointer x68)] (.tup [(.leaf (.int .i64)), (.leaf .bool)]) fun x128 =>
 bif (!y2.1) then (
 bif (!(y2.1 == y2.2.1)) then (
 lkN x21 fun x142 =>
 .ld x142 .ptr fun x144 =>
 .call f_magpielaw17_run [(.pointer x144), (.iface ty_p_deque_Pop (.pointer x59))] (.one (.leaf .bool)) fun x147 =>
 bif x147 then (
 lkN x21 fun x151 =>
 .ld x151 .ptr fun x153 =>
 .call f_magpielaw17_run [(.pointer x153), (.iface ty_p_thief_Steal (.pointer x68))] (.one (.leaf .bool)) fun x156 =>
 bif x156 then (
 .call f_magpielaw17_awake [] (.one (.leaf .bool)) fun x159 =>
 .ret (.bool x159))
 else (
 .ret (.bool false)))
 else (
 .ret (.bool false)))
 else (
 .ret (.bool false)))
 else (
 bif (!y2.2.1) then (
 bif (!(y2.1 == y2.2.1)) then (
 lkN x21 fun x142 =>
 .ld x142 .ptr fun x144 =>
 .call f_magpielaw17_run [(.pointer x144), (.iface ty_p_deque_Pop (.pointer x59))] (.one (.leaf .bool)) fun x147 =>
 bif x147 then (
 lkN x21 fun x151 =>
 .ld x151 .ptr fun x153 =>
 .call f_magpielaw17_run [(.pointer x153), (.iface ty_p_thief_Steal (.pointer x68))] (.one (.leaf .bool)) fun x156 =>
 bif x156 then (
 .call f_magpielaw17_awake [] (.one (.leaf .bool)) fun x159 =>
 .ret (.bool x159))
 else (
 .ret (.bool false)))
 else (
 .ret (.bool false)))
 else (
 .ret (.bool false)))
 else (
 bif (((w64 (1 + x25)) : Int) == 1) then (
 bif (!(x123.2.1 == x128.2.1)) then (
 bif (!x123.2.1) then (
 bif (!x128.2.1) then (
 lkN x21 fun x184 =>
 .ld x184 .ptr fun x186 =>
 .call f_arena_Arena_Fault [(.pointer x186)] (.one (.leaf .bool)) fun x187 =>
 bif (!x187) then (
 lkN x21 fun x192 =>
 .ld (x192.add 8) .slice fun x194 =>
 .look (opS Tryz.prog (.indexAddr ty_s_p_deque_Own (.tmp 0) (.const (.int .i64 0))) ty_unit [(.slice x194.a x194.len x194.cap)]) (.one (.leaf .addr)) fun x195 =>
 .ld x195 .ptr fun x196 =>
 lkN x21 fun x198 =>
 .ld x198 .ptr fun x200 =>
 .call f_deque_Own_Size [(.pointer x196), (.pointer x200)] (.one (.leaf (.int .i64))) fun x201 =>
 bif ((x201 : Int) == 0) then (
 .call f_magpielaw17_awake [] (.one (.leaf .bool)) fun x205 =>
 .ret (.bool x205))
 else (
 .ret (.bool false)))
 else (
 .ret (.bool false)))
 else (
 bif ((x128.1 : Int) == 100) then (
 lkN x21 fun x184 =>
 .ld x184 .ptr fun x186 =>
 .call f_arena_Arena_Fault [(.pointer x186)] (.one (.leaf .bool)) fun x187 =>
 bif (!x187) then (
 lkN x21 fun x192 =>
 .ld (x192.add 8) .slice fun x194 =>
 .look (opS Tryz.prog (.indexAddr ty_s_p_deque_Own (.tmp 0) (.const (.int .i64 0))) ty_unit [(.slice x194.a x194.len x194.cap)]) (.one (.leaf .addr)) fun x195 =>
 .ld x195 .ptr fun x196 =>
 lkN x21 fun x198 =>
 .ld x198 .ptr fun x200 =>
 .call f_deque_Own_Size [(.pointer x196), (.pointer x200)] (.one (.leaf (.int .i64))) fun x201 =>
 bif ((x201 : Int) == 0) then (
 .call f_magpielaw17_awake [] (.one (.leaf .bool)) fun x205 =>
 .ret (.bool x205))
 else (
 .ret (.bool false)))
 else (
 .ret (.bool false)))
 else (
 .ret (.bool false))))
 else (
 bif ((x123.1 : Int) == 100) then (
 bif (!x128.2.1) then (
 lkN x21 fun x184 =>
 .ld x184 .ptr fun x186 =>
 .call f_arena_Arena_Fault [(.pointer x186)] (.one (.leaf .bool)) fun x187 =>
 bif (!x187) then (
 lkN x21 fun x192 =>
 .ld (x192.add 8) .slice fun x194 =>
 .look (opS Tryz.prog (.indexAddr ty_s_p_deque_Own (.tmp 0) (.const (.int .i64 0))) ty_unit [(.slice x194.a x194.len x194.cap)]) (.one (.leaf .addr)) fun x195 =>
 .ld x195 .ptr fun x196 =>
 lkN x21 fun x198 =>
 .ld x198 .ptr fun x200 =>
 .call f_deque_Own_Size [(.pointer x196), (.pointer x200)] (.one (.leaf (.int .i64))) fun x201 =>
 bif ((x201 : Int) == 0) then (
 .call f_magpielaw17_awake [] (.one (.leaf .bool)) fun x205 =>
 .ret (.bool x205))
 else (
 .ret (.bool false)))
 else (
 .ret (.bool false)))
 else (
 bif ((x128.1 : Int) == 100) then (
 lkN x21 fun x184 =>
 .ld x184 .ptr fun x186 =>
 .call f_arena_Arena_Fault [(.pointer x186)] (.one (.leaf .bool)) fun x187 =>
 bif (!x187) then (
 lkN x21 fun x192 =>
 .ld (x192.add 8) .slice fun x194 =>
 .look (opS Tryz.prog (.indexAddr ty_s_p_deque_Own (.tmp 0) (.const (.int .i64 0))) ty_unit [(.slice x194.a x194.len x194.cap)]) (.one (.leaf .addr)) fun x195 =>
 .ld x195 .ptr fun x196 =>
 lkN x21 fun x198 =>
 .ld x198 .ptr fun x200 =>
 .call f_deque_Own_Size [(.pointer x196), (.pointer x200)] (.one (.leaf (.int .i64))) fun x201 =>
 bif ((x201 : Int) == 0) then (
 .call f_magpielaw17_awake [] (.one (.leaf .bool)) fun x205 =>
 .ret (.bool x205))
 else (
 .ret (.bool false)))
 else (
 .ret (.bool false)))
 else (
 .ret (.bool false))))
 else (
 .ret (.bool false))))
 else (
 .ret (.bool false)))
 else (
 bif x123.2.1 then (
 bif (!x123.2.1) then (
 bif (!x123.2.1) then (
 bif (!x128.2.1) then (
 lkN x21 fun x242 =>
 .ld x242 .ptr fun x244 =>
 lkN x21 fun x246 =>
 .ld x246 .ptr fun x248 =>
 lkN x21 fun x250 =>
 .ld (x250.add 7) (.int .i64) fun x252 =>
 .qcall f_deque_Word [(.int .i64 x252), (.int .i64 0), (.int .i64 2)] (.one (.leaf (.int .i64))) fun x253 =>
 .call f_arena_Arena_Raw [(.pointer x248), (.int .i64 x253)] (.one (.leaf (.int .i64))) fun x254 =>
 .check (ldS x242) (.pointer x244) <|
 .check (nck x21) (.pointer (some x242)) <|
 .call f_arena_Arena_State [(.pointer x244), (.int .i64 x254)] (.one (.leaf (.int .i64))) fun x255 =>
 bif ((x255 : Int) == 1) then (
 .call f_magpielaw17_awake [] (.one (.leaf .bool)) fun x259 =>
 .ret (.bool x259))
 else (
 .ret (.bool false)))
 else (
 bif ((x128.1 : Int) == 100) then (
 lkN x21 fun x242 =>
 .ld x242 .ptr fun x244 =>
 lkN x21 fun x246 =>
 .ld x246 .ptr fun x248 =>
 lkN x21 fun x250 =>
 .ld (x250.add 7) (.int .i64) fun x252 =>
 .qcall f_deque_Word [(.int .i64 x252), (.int .i64 0), (.int .i64 2)] (.one (.leaf (.int .i64))) fun x253 =>
 .call f_arena_Arena_Raw [(.pointer x248), (.int .i64 x253)] (.one (.leaf (.int .i64))) fun x254 =>
 .check (ldS x242) (.pointer x244) <|
 .check (nck x21) (.pointer (some x242)) <|
 .call f_arena_Arena_State [(.pointer x244), (.int .i64 x254)] (.one (.leaf (.int .i64))) fun x255 =>
 bif ((x255 : Int) == 1) then (
 .call f_magpielaw17_awake [] (.one (.leaf .bool)) fun x259 =>
 .ret (.bool x259))
 else (
 .ret (.bool false)))
 else (
 .ret (.bool false))))
 else (
 bif (decide ((x123.1 : Int) ≥ 100)) then (
 bif (!x128.2.1) then (
 lkN x21 fun x242 =>
 .ld x242 .ptr fun x244 =>
 lkN x21 fun x246 =>
 .ld x246 .ptr fun x248 =>
 lkN x21 fun x250 =>
 .ld (x250.add 7) (.int .i64) fun x252 =>
 .qcall f_deque_Word [(.int .i64 x252), (.int .i64 0), (.int .i64 2)] (.one (.leaf (.int .i64))) fun x253 =>
 .call f_arena_Arena_Raw [(.pointer x248), (.int .i64 x253)] (.one (.leaf (.int .i64))) fun x254 =>
 .check (ldS x242) (.pointer x244) <|
 .check (nck x21) (.pointer (some x242)) <|
 .call f_arena_Arena_State [(.pointer x244), (.int .i64 x254)] (.one (.leaf (.int .i64))) fun x255 =>
 bif ((x255 : Int) == 1) then (
 .call f_magpielaw17_awake [] (.one (.leaf .bool)) fun x259 =>
 .ret (.bool x259))
 else (
 .ret (.bool false)))
 else (
 bif ((x128.1 : Int) == 100) then (
 lkN x21 fun x242 =>
 .ld x242 .ptr fun x244 =>
 lkN x21 fun x246 =>
 .ld x246 .ptr fun x248 =>
 lkN x21 fun x250 =>
 .ld (x250.add 7) (.int .i64) fun x252 =>
 .qcall f_deque_Word [(.int .i64 x252), (.int .i64 0), (.int .i64 2)] (.one (.leaf (.int .i64))) fun x253 =>
 .call f_arena_Arena_Raw [(.pointer x248), (.int .i64 x253)] (.one (.leaf (.int .i64))) fun x254 =>
 .check (ldS x242) (.pointer x244) <|
 .check (nck x21) (.pointer (some x242)) <|
 .call f_arena_Arena_State [(.pointer x244), (.int .i64 x254)] (.one (.leaf (.int .i64))) fun x255 =>
 bif ((x255 : Int) == 1) then (
 .call f_magpielaw17_awake [] (.one (.leaf .bool)) fun x259 =>
 .ret (.bool x259))
 else (
 .ret (.bool false)))
 else (
 .ret (.bool false))))
 else (
 .ret (.bool false))))
 else (
 bif (!x128.2.1) then (
 bif (!x123.2.1) then (
 bif (!x128.2.1) then (
 lkN x21 fun x242 =>
 .ld x242 .ptr fun x244 =>
 lkN x21 fun x246 =>
 .ld x246 .ptr fun x248 =>
 lkN x21 fun x250 =>
 .ld (x250.add 7) (.int .i64) fun x252 =>
 .qcall f_deque_Word [(.int .i64 x252), (.int .i64 0), (.int .i64 2)] (.one (.leaf (.int .i64))) fun x253 =>
 .call f_arena_Arena_Raw [(.pointer x248), (.int .i64 x253)] (.one (.leaf (.int .i64))) fun x254 =>
 .check (ldS x242) (.pointer x244) <|
 .check (nck x21) (.pointer (some x242)) <|
 .call f_arena_Arena_State [(.pointer x244), (.int .i64 x254)] (.one (.leaf (.int .i64))) fun x255 =>
 bif ((x255 : Int) == 1) then (
 .call f_magpielaw17_awake [] (.one (.leaf .bool)) fun x259 =>
 .ret (.bool x259))
 else (
 .ret (.bool false)))
 else (
 bif ((x128.1 : Int) == 100) then (
 lkN x21 fun x242 =>
 .ld x242 .ptr fun x244 =>
 lkN x21 fun x246 =>
 .ld x246 .ptr fun x248 =>
 lkN x21 fun x250 =>
 .ld (x250.add 7) (.int .i64) fun x252 =>
 .qcall f_deque_Word [(.int .i64 x252), (.int .i64 0), (.int .i64 2)] (.one (.leaf (.int .i64))) fun x253 =>
 .call f_arena_Arena_Raw [(.pointer x248), (.int .i64 x253)] (.one (.leaf (.int .i64))) fun x254 =>
 .check (ldS x242) (.pointer x244) <|
 .check (nck x21) (.pointer (some x242)) <|
 .call f_arena_Arena_State [(.pointer x244), (.int .i64 x254)] (.one (.leaf (.int .i64))) fun x255 =>
 bif ((x255 : Int) == 1) then (
 .call f_magpielaw17_awake [] (.one (.leaf .bool)) fun x259 =>
 .ret (.bool x259))
 else (
 .ret (.bool false)))
 else (
 .ret (.bool false))))
 else (
 bif (decide ((x123.1 : Int) ≥ 100)) then (
 bif (!x128.2.1) then (
 lkN x21 fun x242 =>
 .ld x242 .ptr fun x244 =>
 lkN x21 fun x246 =>
 .ld x246 .ptr fun x248 =>
 lkN x21 fun x250 =>
 .ld (x250.add 7) (.int .i64) fun x252 =>
 .qcall f_deque_Word [(.int .i64 x252), (.int .i64 0), (.int .i64 2)] (.one (.leaf (.int .i64))) fun x253 =>
 .call f_arena_Arena_Raw [(.pointer x248), (.int .i64 x253)] (.one (.leaf (.int .i64))) fun x254 =>
 .check (ldS x242) (.pointer x244) <|
 .check (nck x21) (.pointer (some x242)) <|
 .call f_arena_Arena_State [(.pointer x244), (.int .i64 x254)] (.one (.leaf (.int .i64))) fun x255 =>
 bif ((x255 : Int) == 1) then (
 .call f_magpielaw17_awake [] (.one (.leaf .bool)) fun x259 =>
 .ret (.bool x259))
 else (
 .ret (.bool false)))
 else (
 bif ((x128.1 : Int) == 100) then (
 lkN x21 fun x242 =>
 .ld x242 .ptr fun x244 =>
 lkN x21 fun x246 =>
 .ld x246 .ptr fun x248 =>
 lkN x21 fun x250 =>
 .ld (x250.add 7) (.int .i64) fun x252 =>
 .qcall f_deque_Word [(.int .i64 x252), (.int .i64 0), (.int .i64 2)] (.one (.leaf (.int .i64))) fun x253 =>
 .call f_arena_Arena_Raw [(.pointer x248), (.int .i64 x253)] (.one (.leaf (.int .i64))) fun x254 =>
 .check (ldS x242) (.pointer x244) <|
 .check (nck x21) (.pointer (some x242)) <|
 .call f_arena_Arena_State [(.pointer x244), (.int .i64 x254)] (.one (.leaf (.int .i64))) fun x255 =>
 bif ((x255 : Int) == 1) then (
 .call f_magpielaw17_awake [] (.one (.leaf .bool)) fun x259 =>
 .ret (.bool x259))
 else (
 .ret (.bool false)))
 else (
 .ret (.bool false))))
 else (
 .ret (.bool false))))
 else (
 bif ((x123.1 : Int) != x128.1) then (
 bif (!x123.2.1) then (
 bif (!x128.2.1) then (
 lkN x21 fun x242 =>
 .ld x242 .ptr fun x244 =>
 lkN x21 fun x246 =>
 .ld x246 .ptr fun x248 =>
 lkN x21 fun x250 =>
 .ld (x250.add 7) (.int .i64) fun x252 =>
 .qcall f_deque_Word [(.int .i64 x252), (.int .i64 0), (.int .i64 2)] (.one (.leaf (.int .i64))) fun x253 =>
 .call f_arena_Arena_Raw [(.pointer x248), (.int .i64 x253)] (.one (.leaf (.int .i64))) fun x254 =>
 .check (ldS x242) (.pointer x244) <|
 .check (nck x21) (.pointer (some x242)) <|
 .call f_arena_Arena_State [(.pointer x244), (.int .i64 x254)] (.one (.leaf (.int .i64))) fun x255 =>
 bif ((x255 : Int) == 1) then (
 .call f_magpielaw17_awake [] (.one (.leaf .bool)) fun x259 =>
 .ret (.bool x259))
 else (
 .ret (.bool false)))
 else (
 bif ((x128.1 : Int) == 100) then (
 lkN x21 fun x242 =>
 .ld x242 .ptr fun x244 =>
 lkN x21 fun x246 =>
 .ld x246 .ptr fun x248 =>
 lkN x21 fun x250 =>
 .ld (x250.add 7) (.int .i64) fun x252 =>
 .qcall f_deque_Word [(.int .i64 x252), (.int .i64 0), (.int .i64 2)] (.one (.leaf (.int .i64))) fun x253 =>
 .call f_arena_Arena_Raw [(.pointer x248), (.int .i64 x253)] (.one (.leaf (.int .i64))) fun x254 =>
 .check (ldS x242) (.pointer x244) <|
 .check (nck x21) (.pointer (some x242)) <|
 .call f_arena_Arena_State [(.pointer x244), (.int .i64 x254)] (.one (.leaf (.int .i64))) fun x255 =>
 bif ((x255 : Int) == 1) then (
 .call f_magpielaw17_awake [] (.one (.leaf .bool)) fun x259 =>
 .ret (.bool x259))
 else (
 .ret (.bool false)))
 else (
 .ret (.bool false))))
 else (
 bif (decide ((x123.1 : Int) ≥ 100)) then (
 bif (!x128.2.1) then (
 lkN x21 fun x242 =>
 .ld x242 .ptr fun x244 =>
 lkN x21 fun x246 =>
 .ld x246 .ptr fun x248 =>
 lkN x21 fun x250 =>
 .ld (x250.add 7) (.int .i64) fun x252 =>
 .qcall f_deque_Word [(.int .i64 x252), (.int .i64 0), (.int .i64 2)] (.one (.leaf (.int .i64))) fun x253 =>
 .call f_arena_Arena_Raw [(.pointer x248), (.int .i64 x253)] (.one (.leaf (.int .i64))) fun x254 =>
 .check (ldS x242) (.pointer x244) <|
 .check (nck x21) (.pointer (some x242)) <|
 .call f_arena_Arena_State [(.pointer x244), (.int .i64 x254)] (.one (.leaf (.int .i64))) fun x255 =>
 bif ((x255 : Int) == 1) then (
 .call f_magpielaw17_awake [] (.one (.leaf .bool)) fun x259 =>
 .ret (.bool x259))
 else (
 .ret (.bool false)))
 else (
 bif ((x128.1 : Int) == 100) then (
 lkN x21 fun x242 =>
 .ld x242 .ptr fun x244 =>
 lkN x21 fun x246 =>
 .ld x246 .ptr fun x248 =>
 lkN x21 fun x250 =>
 .ld (x250.add 7) (.int .i64) fun x252 =>
 .qcall f_deque_Word [(.int .i64 x252), (.int .i64 0), (.int .i64 2)] (.one (.leaf (.int .i64))) fun x253 =>
 .call f_arena_Arena_Raw [(.pointer x248), (.int .i64 x253)] (.one (.leaf (.int .i64))) fun x254 =>
 .check (ldS x242) (.pointer x244) <|
 .check (nck x21) (.pointer (some x242)) <|
 .call f_arena_Arena_State [(.pointer x244), (.int .i64 x254)] (.one (.leaf (.int .i64))) fun x255 =>
 bif ((x255 : Int) == 1) then (
 .call f_magpielaw17_awake [] (.one (.leaf .bool)) fun x259 =>
 .ret (.bool x259))
 else (
 .ret (.bool false)))
 else (
 .ret (.bool false))))
 else (
 .ret (.bool false))))
 else (
 .ret (.bool false)))))
 else (
 bif x128.2.1 then (
 bif (!x123.2.1) then (
 bif (!x123.2.1) then (
 bif (!x128.2.1) then (
 lkN x21 fun x242 =>
 .ld x242 .ptr fun x244 =>
 lkN x21 fun x246 =>
 .ld x246 .ptr fun x248 =>
 lkN x21 fun x250 =>
 .ld (x250.add 7) (.int .i64) fun x252 =>
 .qcall f_deque_Word [(.int .i64 x252), (.int .i64 0), (.int .i64 2)] (.one (.leaf (.int .i64))) fun x253 =>
 .call f_arena_Arena_Raw [(.pointer x248), (.int .i64 x253)] (.one (.leaf (.int .i64))) fun x254 =>
 .check (ldS x242) (.pointer x244) <|
 .check (nck x21) (.pointer (some x242)) <|
 .call f_arena_Arena_State [(.pointer x244), (.int .i64 x254)] (.one (.leaf (.int .i64))) fun x255 =>
 bif ((x255 : Int) == 1) then (
 .call f_magpielaw17_awake [] (.one (.leaf .bool)) fun x259 =>
 .ret (.bool x259))
 else (
 .ret (.bool false)))
 else (
 bif ((x128.1 : Int) == 100) then (
 lkN x21 fun x242 =>
 .ld x242 .ptr fun x244 =>
 lkN x21 fun x246 =>
 .ld x246 .ptr fun x248 =>
 lkN x21 fun x250 =>
 .ld (x250.add 7) (.int .i64) fun x252 =>
 .qcall f_deque_Word [(.int .i64 x252), (.int .i64 0), (.int .i64 2)] (.one (.leaf (.int .i64))) fun x253 =>
 .call f_arena_Arena_Raw [(.pointer x248), (.int .i64 x253)] (.one (.leaf (.int .i64))) fun x254 =>
 .check (ldS x242) (.pointer x244) <|
 .check (nck x21) (.pointer (some x242)) <|
 .call f_arena_Arena_State [(.pointer x244), (.int .i64 x254)] (.one (.leaf (.int .i64))) fun x255 =>
 bif ((x255 : Int) == 1) then (
 .call f_magpielaw17_awake [] (.one (.leaf .bool)) fun x259 =>
 .ret (.bool x259))
 else (
 .ret (.bool false)))
 else (
 .ret (.bool false))))
 else (
 bif (decide ((x123.1 : Int) ≥ 100)) then (
 bif (!x128.2.1) then (
 lkN x21 fun x242 =>
 .ld x242 .ptr fun x244 =>
 lkN x21 fun x246 =>
 .ld x246 .ptr fun x248 =>
 lkN x21 fun x250 =>
 .ld (x250.add 7) (.int .i64) fun x252 =>
 .qcall f_deque_Word [(.int .i64 x252), (.int .i64 0), (.int .i64 2)] (.one (.leaf (.int .i64))) fun x253 =>
 .call f_arena_Arena_Raw [(.pointer x248), (.int .i64 x253)] (.one (.leaf (.int .i64))) fun x254 =>
 .check (ldS x242) (.pointer x244) <|
 .check (nck x21) (.pointer (some x242)) <|
 .call f_arena_Arena_State [(.pointer x244), (.int .i64 x254)] (.one (.leaf (.int .i64))) fun x255 =>
 bif ((x255 : Int) == 1) then (
 .call f_magpielaw17_awake [] (.one (.leaf .bool)) fun x259 =>
 .ret (.bool x259))
 else (
 .ret (.bool false)))
 else (
 bif ((x128.1 : Int) == 100) then (
 lkN x21 fun x242 =>
 .ld x242 .ptr fun x244 =>
 lkN x21 fun x246 =>
 .ld x246 .ptr fun x248 =>
 lkN x21 fun x250 =>
 .ld (x250.add 7) (.int .i64) fun x252 =>
 .qcall f_deque_Word [(.int .i64 x252), (.int .i64 0), (.int .i64 2)] (.one (.leaf (.int .i64))) fun x253 =>
 .call f_arena_Arena_Raw [(.pointer x248), (.int .i64 x253)] (.one (.leaf (.int .i64))) fun x254 =>
 .check (ldS x242) (.pointer x244) <|
 .check (nck x21) (.pointer (some x242)) <|
 .call f_arena_Arena_State [(.pointer x244), (.int .i64 x254)] (.one (.leaf (.int .i64))) fun x255 =>
 bif ((x255 : Int) == 1) then (
 .call f_magpielaw17_awake [] (.one (.leaf .bool)) fun x259 =>
 .ret (.bool x259))
 else (
 .ret (.bool false)))
 else (
 .ret (.bool false))))
 else (
 .ret (.bool false))))
 else (
 bif (!x128.2.1) then (
 bif (!x123.2.1) then (
 bif (!x128.2.1) then (
 lkN x21 fun x242 =>
 .ld x242 .ptr fun x244 =>
 lkN x21 fun x246 =>
 .ld x246 .ptr fun x248 =>
 lkN x21 fun x250 =>
 .ld (x250.add 7) (.int .i64) fun x252 =>
 .qcall f_deque_Word [(.int .i64 x252), (.int .i64 0), (.int .i64 2)] (.one (.leaf (.int .i64))) fun x253 =>
 .call f_arena_Arena_Raw [(.pointer x248), (.int .i64 x253)] (.one (.leaf (.int .i64))) fun x254 =>
 .check (ldS x242) (.pointer x244) <|
 .check (nck x21) (.pointer (some x242)) <|
 .call f_arena_Arena_State [(.pointer x244), (.int .i64 x254)] (.one (.leaf (.int .i64))) fun x255 =>
 bif ((x255 : Int) == 1) then (
 .call f_magpielaw17_awake [] (.one (.leaf .bool)) fun x259 =>
 .ret (.bool x259))
 else (
 .ret (.bool false)))
 else (
 bif ((x128.1 : Int) == 100) then (
 lkN x21 fun x242 =>
 .ld x242 .ptr fun x244 =>
 lkN x21 fun x246 =>
 .ld x246 .ptr fun x248 =>
 lkN x21 fun x250 =>
 .ld (x250.add 7) (.int .i64) fun x252 =>
 .qcall f_deque_Word [(.int .i64 x252), (.int .i64 0), (.int .i64 2)] (.one (.leaf (.int .i64))) fun x253 =>
 .call f_arena_Arena_Raw [(.pointer x248), (.int .i64 x253)] (.one (.leaf (.int .i64))) fun x254 =>
 .check (ldS x242) (.pointer x244) <|
 .check (nck x21) (.pointer (some x242)) <|
 .call f_arena_Arena_State [(.pointer x244), (.int .i64 x254)] (.one (.leaf (.int .i64))) fun x255 =>
 bif ((x255 : Int) == 1) then (
 .call f_magpielaw17_awake [] (.one (.leaf .bool)) fun x259 =>
 .ret (.bool x259))
 else (
 .ret (.bool false)))
 else (
 .ret (.bool false))))
 else (
 bif (decide ((x123.1 : Int) ≥ 100)) then (
 bif (!x128.2.1) then (
 lkN x21 fun x242 =>
 .ld x242 .ptr fun x244 =>
 lkN x21 fun x246 =>
 .ld x246 .ptr fun x248 =>
 lkN x21 fun x250 =>
 .ld (x250.add 7) (.int .i64) fun x252 =>
 .qcall f_deque_Word [(.int .i64 x252), (.int .i64 0), (.int .i64 2)] (.one (.leaf (.int .i64))) fun x253 =>
 .call f_arena_Arena_Raw [(.pointer x248), (.int .i64 x253)] (.one (.leaf (.int .i64))) fun x254 =>
 .check (ldS x242) (.pointer x244) <|
 .check (nck x21) (.pointer (some x242)) <|
 .call f_arena_Arena_State [(.pointer x244), (.int .i64 x254)] (.one (.leaf (.int .i64))) fun x255 =>
 bif ((x255 : Int) == 1) then (
 .call f_magpielaw17_awake [] (.one (.leaf .bool)) fun x259 =>
 .ret (.bool x259))
 else (
 .ret (.bool false)))
 else (
 bif ((x128.1 : Int) == 100) then (
 lkN x21 fun x242 =>
 .ld x242 .ptr fun x244 =>
 lkN x21 fun x246 =>
 .ld x246 .ptr fun x248 =>
 lkN x21 fun x250 =>
 .ld (x250.add 7) (.int .i64) fun x252 =>
 .qcall f_deque_Word [(.int .i64 x252), (.int .i64 0), (.int .i64 2)] (.one (.leaf (.int .i64))) fun x253 =>
 .call f_arena_Arena_Raw [(.pointer x248), (.int .i64 x253)] (.one (.leaf (.int .i64))) fun x254 =>
 .check (ldS x242) (.pointer x244) <|
 .check (nck x21) (.pointer (some x242)) <|
 .call f_arena_Arena_State [(.pointer x244), (.int .i64 x254)] (.one (.leaf (.int .i64))) fun x255 =>
 bif ((x255 : Int) == 1) then (
 .call f_magpielaw17_awake [] (.one (.leaf .bool)) fun x259 =>
 .ret (.bool x259))
 else (
 .ret (.bool false)))
 else (
 .ret (.bool false))))
 else (
 .ret (.bool false))))
 else (
 bif ((x123.1 : Int) != x128.1) then (
 bif (!x123.2.1) then (
 bif (!x128.2.1) then (
 lkN x21 fun x242 =>
 .ld x242 .ptr fun x244 =>
 lkN x21 fun x246 =>
 .ld x246 .ptr fun x248 =>
 lkN x21 fun x250 =>
 .ld (x250.add 7) (.int .i64) fun x252 =>
 .qcall f_deque_Word [(.int .i64 x252), (.int .i64 0), (.int .i64 2)] (.one (.leaf (.int .i64))) fun x253 =>
 .call f_arena_Arena_Raw [(.pointer x248), (.int .i64 x253)] (.one (.leaf (.int .i64))) fun x254 =>
 .check (ldS x242) (.pointer x244) <|
 .check (nck x21) (.pointer (some x242)) <|
 .call f_arena_Arena_State [(.pointer x244), (.int .i64 x254)] (.one (.leaf (.int .i64))) fun x255 =>
 bif ((x255 : Int) == 1) then (
 .call f_magpielaw17_awake [] (.one (.leaf .bool)) fun x259 =>
 .ret (.bool x259))
 else (
 .ret (.bool false)))
 else (
 bif ((x128.1 : Int) == 100) then (
 lkN x21 fun x242 =>
 .ld x242 .ptr fun x244 =>
 lkN x21 fun x246 =>
 .ld x246 .ptr fun x248 =>
 lkN x21 fun x250 =>
 .ld (x250.add 7) (.int .i64) fun x252 =>
 .qcall f_deque_Word [(.int .i64 x252), (.int .i64 0), (.int .i64 2)] (.one (.leaf (.int .i64))) fun x253 =>
 .call f_arena_Arena_Raw [(.pointer x248), (.int .i64 x253)] (.one (.leaf (.int .i64))) fun x254 =>
 .check (ldS x242) (.pointer x244) <|
 .check (nck x21) (.pointer (some x242)) <|
 .call f_arena_Arena_State [(.pointer x244), (.int .i64 x254)] (.one (.leaf (.int .i64))) fun x255 =>
 bif ((x255 : Int) == 1) then (
 .call f_magpielaw17_awake [] (.one (.leaf .bool)) fun x259 =>
 .ret (.bool x259))
 else (
 .ret (.bool false)))
 else (
 .ret (.bool false))))
 else (
 bif (decide ((x123.1 : Int) ≥ 100)) then (
 bif (!x128.2.1) then (
 lkN x21 fun x242 =>
 .ld x242 .ptr fun x244 =>
 lkN x21 fun x246 =>
 .ld x246 .ptr fun x248 =>
 lkN x21 fun x250 =>
 .ld (x250.add 7) (.int .i64) fun x252 =>
 .qcall f_deque_Word [(.int .i64 x252), (.int .i64 0), (.int .i64 2)] (.one (.leaf (.int .i64))) fun x253 =>
 .call f_arena_Arena_Raw [(.pointer x248), (.int .i64 x253)] (.one (.leaf (.int .i64))) fun x254 =>
 .check (ldS x242) (.pointer x244) <|
 .check (nck x21) (.pointer (some x242)) <|
 .call f_arena_Arena_State [(.pointer x244), (.int .i64 x254)] (.one (.leaf (.int .i64))) fun x255 =>
 bif ((x255 : Int) == 1) then (
 .call f_magpielaw17_awake [] (.one (.leaf .bool)) fun x259 =>
 .ret (.bool x259))
 else (
 .ret (.bool false)))
 else (
 bif ((x128.1 : Int) == 100) then (
 lkN x21 fun x242 =>
 .ld x242 .ptr fun x244 =>
 lkN x21 fun x246 =>
 .ld x246 .ptr fun x248 =>
 lkN x21 fun x250 =>
 .ld (x250.add 7) (.int .i64) fun x252 =>
 .qcall f_deque_Word [(.int .i64 x252), (.int .i64 0), (.int .i64 2)] (.one (.leaf (.int .i64))) fun x253 =>
 .call f_arena_Arena_Raw [(.pointer x248), (.int .i64 x253)] (.one (.leaf (.int .i64))) fun x254 =>
 .check (ldS x242) (.pointer x244) <|
 .check (nck x21) (.pointer (some x242)) <|
 .call f_arena_Arena_State [(.pointer x244), (.int .i64 x254)] (.one (.leaf (.int .i64))) fun x255 =>
 bif ((x255 : Int) == 1) then (
 .call f_magpielaw17_awake [] (.one (.leaf .bool)) fun x259 =>
 .ret (.bool x259))
 else (
 .ret (.bool false)))
 else (
 .ret (.bool false))))
 else (
 .ret (.bool false))))
 else (
 .ret (.bool false)))))
 else (
 .ret (.bool false))))))
@[reducible] def t_magpielaw17_ThiefLast_L2_sh : List Sh1 := [(.leaf .bool), (.leaf .bool), (.leaf (.int .i64))]
noncomputable def t_magpielaw17_ThiefLast_L2 (p0 : Sl) (x21 : Option Addr) (x25 : Int) (x59 : Option Addr) (x68 : Option Addr) (y2 : HL Sh1.T t_magpielaw17_ThiefLast_L2_sh) : Tree :=
 bif (decide ((y2.2.2.1 : Int) < 60)) then (
 bif y2.1 then (
 bif (!y2.2.1) then (
 t_magpielaw17_ThiefLast_J4 p0 x21 x59 x68 y2)
 else (
 t_magpielaw17_ThiefLast_J9 x21 x25 x59 x68 y2))
 else (
 t_magpielaw17_ThiefLast_J4 p0 x21 x59 x68 y2))
 else (
 t_magpielaw17_ThiefLast_J9 x21 x25 x59 x68 y2)
@[reducible] def t_magpielaw17_ThiefLast_L1_sh : List Sh1 := [(.leaf .bool), (.leaf (.int .i64))]
noncomputable def t_magpielaw17_ThiefLast_L1 (p0 : Sl) (x21 : Option Addr) (x25 : Int) (y1 : HL Sh1.T t_magpielaw17_ThiefLast_L1_sh) : Tree :=
 bif (decide ((y1.2.1 : Int) < (w64 (1 + x25)))) then (
 lkN x21 fun x33 =>
 .ld (x33.add 8) .slice fun x35 =>
 .look (opS Tryz.prog (.indexAddr ty_s_p_deque_Own (.tmp 0) (.const (.int .i64 0))) ty_unit [(.slice x35.a x35.len x35.cap)]) (.one (.leaf .addr)) fun x36 =>
 .ld x36 .ptr fun x37 =>
 .call f_deque_Own_Push [(.pointer x37), (.int .i64 (w64 (100 + y1.2.1)))] (.one (.leaf .ptr)) fun x40 =>
 .look (opS Tryz.prog (.binOp .eql ty_p_deque_Push (.tmp 0) (.const (.pointer none)) ty_p_deque_Push) ty_bool [(.pointer x40)]) (.one (.leaf .bool)) fun x42 =>
 bif x42 then (
 .ret (.bool false))
 else (
 lkN x21 fun x45 =>
 .ld x45 .ptr fun x47 =>
 .call f_magpielaw17_run [(.pointer x47), (.iface ty_p_deque_Push (.pointer x40))] (.one (.leaf .bool)) fun x50 =>
 bif (!x50) then (
 .ret (.bool false))
 else (
 .again 384 [(.bool y1.1), (.int .i64 (w64 (y1.2.1 + 1)))])))
 else (
 lkN x21 fun x54 =>
 .ld (x54.add 8) .slice fun x56 =>
 .look (opS Tryz.prog (.indexAddr ty_s_p_deque_Own (.tmp 0) (.const (.int .i64 0))) ty_unit [(.slice x56.a x56.len x56.cap)]) (.one (.leaf .addr)) fun x57 =>
 .ld x57 .ptr fun x58 =>
 lkN x21 fun x61 =>
 .ld (x61.add 7) (.int .i64) fun x63 =>
 lkN x21 fun x65 =>
 .ld (x65.add 1) .ptr fun x67 =>
 .call f_deque_Own_Pop [(.pointer x58)] (.one (.leaf .ptr)) fun x59 =>
 .check (ldS (x65.add 1)) (.pointer x67) <|
 .check (nck x21) (.pointer (some x65)) <|
 .check (ldS (x61.add 7)) (.int .i64 x63) <|
 .check (nck x21) (.pointer (some x61)) <|
 .call f_thief_New [(.int .i64 x63), (.pointer x67), (.int .i64 1), (.int .i64 0), (.int .i64 0), (.int .i64 0)] (.one (.leaf .ptr)) fun x68 =>
 .look (opS Tryz.prog (.binOp .eql ty_p_deque_Pop (.tmp 0) (.const (.pointer none)) ty_p_deque_Pop) ty_bool [(.pointer x59)]) (.one (.leaf .bool)) fun x70 =>
 bif x70 then (
 .ret (.bool false))
 else (
 .look (opS Tryz.prog (.binOp .eql ty_p_thief_Steal (.tmp 0) (.const (.pointer none)) ty_p_thief_Steal) ty_bool [(.pointer x68)]) (.one (.leaf .bool)) fun x73 =>
 bif x73 then (
 .ret (.bool false))
 else (
 .loop 1024 t_magpielaw17_ThiefLast_L2_sh [(.bool false), (.bool false), (.int .i64 0)] (t_magpielaw17_ThiefLast_L2 p0 x21 x25 x59 x68))))
noncomputable def t_magpielaw17_ThiefLast (p0 : Sl) (p1 : Bool) (p2 : Int) : Tree :=
 .call f_magpielaw17_Make [(.int .i64 2), (.int .i64 200), (.bool p1)] (.one (.leaf .ptr)) fun x21 =>
 .look (opS Tryz.prog (.binOp .eql ty_p_magpielaw17_W (.tmp 0) (.const (.pointer none)) ty_p_magpielaw17_W) ty_bool [(.pointer x21)]) (.one (.leaf .bool)) fun x23 =>
 bif x23 then (
 .ret (.bool false))
 else (
 .qcall f_magpielaw00_Place [(.int .i64 p2), (.int .i64 2)] (.one (.leaf (.int .i64))) fun x25 =>
 .loop 384 t_magpielaw17_ThiefLast_L1_sh [(.bool false), (.int .i64 0)] (t_magpielaw17_ThiefLast_L1 p0 x21 x25))
theorem t_magpielaw17_ThiefLast_spec {p0 : Sl} {p1 : Bool} {p2 : Int} : SpT f_magpielaw17_ThiefLast #[(.slice p0.a p0.len p0.cap), (.bool p1), (.int .i64 p2)] (t_magpielaw17_ThiefLast p0 p1 p2) := spT tcfg1 Tryz.func6 (by kernel_rfl)
theorem w_stepR {M J : Type} {X : MchR M J} (hX : X.ok) {I : List Nat} {G : Heap} {m m1 : M} {A A1 : Ar} {j : J} {rest : Bl} (hs : X.step m A = (m1, A1)) (hA : Aw I A) (ok : Ok I G (keys (X.bl m j ++ rest))) (rp : X.rep m j) (hi : X.inv m A)
    {L : Hands} {R : Value → Heap → Prop} {k : Bool → Tree} (hk : ∀ j', X.addr j' = X.addr j → Aw I A1 → Ok I G (keys (X.bl m1 j' ++ rest)) → X.rep m1 j' → wp Tryz.prog (k (X.fin m1)) L (own A1 (X.bl m1 j' ++ rest) G) R) :
    wp Tryz.prog (.call X.f [.pointer (some ⟨X.addr j, 0, none⟩), .pointer (aI I)] (.one (.leaf .bool)) k) L (own A (X.bl m j ++ rest) G) R := by
  rw [keys_append] at ok
  obtain ⟨o1, o2⟩ := ok.split
  refine w_sub (hX I A _ m j hA o1 rp hi) ?_
  rintro v K ⟨j', rfl, rfl, ha, o3, rp', hA'⟩
  rw [hs] at o3 rp' hA' ⊢
  refine ⟨X.fin m1, rfl, ?_⟩
  rw [← own_append]
  exact hk j' ha hA' (by rw [keys_append]; exact o3.join o2) rp'
def popB (z ob : Nat) (pp : Pp) : Nat × Obj := (z, oc ty_deque_Pop (ppC ob pp))
def tBl (q : Nat) (z : St) (j : TJ) : Bl := stB j.b q z.x j.s (z.um.val j.u) :: (z.um.bl j.b j.u ++ j.tl)
def tRep (z : St) (j : TJ) : Prop := SlAt j.tl ty_func_thief_machine (eF j.b) j.s (z.ps.map Sp.f) ∧ z.um.rep j.u
section
variable {L : Hands} {R : Value → Heap → Prop} {G : Heap} {rest pre sb : Bl} {A B : Ar} {I : List Nat} {g : Gd} {at_ : Int} {q mq x n w z1 : Nat} {s : Sl} {e : List LE} {f : Nat → Dq}
theorem w_popStep {pp pp' : Pp} {K : Bool → Tree} (hw : w < n) (hA : Aw I A) (ok : Ok I G (keys (WL x q mq I g at_ s e f n sb (popB z1 (f w).ob pp :: rest)))) (ho : (f w).o = pp.o) (bd : pp.o.bnd) (hs : pp.step A = (pp', B))
    (hk : Aw I B → Ok I G (keys (WL x q mq I g at_ s e (updF f w { f w with o := pp'.o }) n sb (popB z1 (f w).ob pp' :: rest))) → wp Tryz.prog (K ((pp'.what : Int) == 5)) L (own B (WL x q mq I g at_ s e (updF f w { f w with o := pp'.o }) n sb (popB z1 (f w).ob pp' :: rest)) G) R) :
    wp Tryz.prog (.call f_deque_Pop_Step [.pointer (some ⟨z1, 0, none⟩), .pointer (aI I)] (.one (.leaf .bool)) K) L (own A (WL x q mq I g at_ s e f n sb (popB z1 (f w).ob pp :: rest)) G) R := by
  obtain ⟨c1, hc1⟩ : ∃ c1 : Nat × Obj, c1 = (x, oc ty_magpielaw17_W (wC I q g.pl at_ s)) := ⟨_, rfl⟩
  have ok1 : Ok I G (keys (c1 :: (g.bl q mq e ++ (famB (fun i => (f i).bl q) n ++ (sb ++ (popB z1 (f w).ob pp :: rest)))))) := by rw [hc1]; exact ok
  have eW : WL x q mq I g at_ s e f n sb (popB z1 (f w).ob pp :: rest) = c1 :: (g.bl q mq e ++ (famB (fun i => (f i).bl q) n ++ (sb ++ (popB z1 (f w).ob pp :: rest)))) := by rw [hc1]; rfl
  rw [eW]
  obtain ⟨p1, ok2⟩ := own_perm (A := A) (l' := Pp.bl q (f w).ob pp z1 ++ (c1 :: (g.bl q mq e ++ (famR (fun i => (f i).bl q) w n ++ (sb ++ rest))))) ok1 (perm_by fun c d c0 cd ca => by
    show _ = c ([popB z1 (f w).ob pp, ((f w).ob, oc ty_deque_Own (owC pp.o q))] ++ (c1 :: (g.bl q mq e ++ (famR (fun i => (f i).bl q) w n ++ (sb ++ rest)))))
    have hb : c ((f w).bl q) = d ((f w).ob, oc ty_deque_Own (owC pp.o q)) := by rw [← ho]; show c (_ :: []) = _; rw [cd, c0]; rfl
    simp only [List.cons_append, List.append_assoc, List.nil_append, cd, ca, c0, famB_c c0 ca (fun i => (f i).bl q) hw, hb]; omega)
  rw [p1]
  refine w_stepR (X := (mPp q (f w).ob).toR) (Mch.toR_ok mPp_ok) (j := z1) hs hA ok2 trivial bd fun j' ha hB ok3 _ => ?_
  have ha : j' = z1 := ha
  subst ha
  have ok3 : Ok I G (keys ([popB j' (f w).ob pp', ((f w).ob, oc ty_deque_Own (owC pp'.o q))] ++ (c1 :: (g.bl q mq e ++ (famR (fun i => (f i).bl q) w n ++ (sb ++ rest)))))) := ok3
  obtain ⟨p2, ok4⟩ := own_perm (A := B) (l' := WL x q mq I g at_ s e (updF f w { f w with o := pp'.o }) n sb (popB j' (f w).ob pp' :: rest)) ok3 (perm_by fun c d c0 cd ca => by
    show _ = c ((x, oc ty_magpielaw17_W (wC I q g.pl at_ s)) :: (g.bl q mq e ++ (famB (fun i => (updF f w { f w with o := pp'.o } i).bl q) n ++ (sb ++ _))))
    have hb : c (({ f w with o := pp'.o } : Dq).bl q) = d ((f w).ob, oc ty_deque_Own (owC pp'.o q)) := by show c (_ :: []) = _; rw [cd, c0]; rfl
    simp only [List.cons_append, List.append_assoc, List.nil_append, cd, ca, c0, famB_upd_c c0 ca (Dq.bl q) f ({ f w with o := pp'.o } : Dq) hw, hb, ← hc1]
    have : c (famR (fun j => Dq.bl q (f j)) w n) = c (famR (fun i => (f i).bl q) w n) := rfl
    omega)
  show wp Tryz.prog (K ((pp'.what : Int) == 5)) L (own B ([popB j' (f w).ob pp', ((f w).ob, oc ty_deque_Own (owC pp'.o q))] ++ (c1 :: (g.bl q mq e ++ (famR (fun i => (f i).bl q) w n ++ (sb ++ rest))))) G) R
  rw [p2]
  exact hk hB ok4
theorem w_stealStep {z z' : St} {j : TJ} {K : Bool → Tree} (hA : Aw I A) (ok : Ok I G (keys (WL x q mq I g at_ s e f n sb (pre ++ (tBl q z j ++ rest))))) (rp : tRep z j) (iv : Tb g z.x ∧ z.um.inv) (hs : St.step g z A = (z', B))
    (hk : ∀ j', j'.b = j.b → Aw I B → tRep z' j' → Ok I G (keys (WL x q mq I g at_ s e f n sb (pre ++ (tBl q z' j' ++ rest)))) → wp Tryz.prog (K (z'.um.isNo && z'.x.leaves)) L (own B (WL x q mq I g at_ s e f n sb (pre ++ (tBl q z' j' ++ rest))) G) R) :
    wp Tryz.prog (.call f_thief_Steal_Step [.pointer (some ⟨j.b, 0, none⟩), .pointer (aI I)] (.one (.leaf .bool)) K) L (own A (WL x q mq I g at_ s e f n sb (pre ++ (tBl q z j ++ rest))) G) R := by
  obtain ⟨c1, hc1⟩ : ∃ c1 : Nat × Obj, c1 = (x, oc ty_magpielaw17_W (wC I q g.pl at_ s)) := ⟨_, rfl⟩
  have eW : ∀ t : Bl, WL x q mq I g at_ s e f n sb (pre ++ (t ++ rest)) = c1 :: (g.bl q mq e ++ (famB (fun i => (f i).bl q) n ++ (sb ++ (pre ++ (t ++ rest))))) := fun t => by rw [hc1]; rfl
  rw [eW] at ok ⊢
  obtain ⟨p1, ok2⟩ := own_perm (A := A) (l' := (g.bl q mq e ++ tBl q z j) ++ (c1 :: (famB (fun i => (f i).bl q) n ++ (sb ++ (pre ++ rest))))) ok (perm_by fun c d c0 cd ca => by simp only [List.append_assoc, List.cons_append, cd, ca]; omega)
  rw [p1]
  refine w_stepR (X := mTs g q mq e) mTs_ok (j := j) hs hA ok2 rp iv fun j' ha hB ok3 rp' => ?_
  have ok3 : Ok I G (keys ((g.bl q mq e ++ tBl q z' j') ++ (c1 :: (famB (fun i => (f i).bl q) n ++ (sb ++ (pre ++ rest)))))) := ok3
  obtain ⟨p2, ok4⟩ := own_perm (A := B) (l' := c1 :: (g.bl q mq e ++ (famB (fun i => (f i).bl q) n ++ (sb ++ (pre ++ (tBl q z' j' ++ rest)))))) ok3 (perm_by fun c d c0 cd ca => by simp only [List.append_assoc, List.cons_append, cd, ca]; omega)
  show wp Tryz.prog (K (z'.um.isNo && z'.x.leaves)) L (own B ((g.bl q mq e ++ tBl q z' j') ++ (c1 :: (famB (fun i => (f i).bl q) n ++ (sb ++ (pre ++ rest))))) G) R
  rw [p2, ← eW]
  rw [← eW] at ok4
  exact hk j' ha hB rp' ok4
end
structure LL (I : List Nat) (H : Heap) (g : Gd) (m at_ : Int) (x q mq : Nat) (s : Sl) (sb : Bl) (S : Sg) (l : Int → List (Int × Int)) (e : List LE) (n h E0 : Int) (z1 z2 ob : Nat) (a b : Bool) (i : Int) (A : Ar) (f : Nat → Dq) (pp : Pp) (z : St) (j : TJ) (rest : Bl) (kp kt : Nat) (T Bw O : Int) (c : Bool) (K : Heap) : Prop where
  aw : Aw I A
  ok : Ok I H (keys (WL x q mq I g at_ s e f 2 sb (popB z1 ob pp :: (tBl q z j ++ rest))))
  hs : SlOf sb ty_p_deque_Own eP s (obs f 2)
  ho : (f 0).o = pp.o
  hb : (f 0).ob = ob
  jb : j.b = z2
  rp : tRep z j
  jt : Jt A g m S l at_ n h E0 g.pl pp z kp kt T Bw O c
  aa : a = decide (kp = 0)
  bb : b = decide (kt = 0)
  us : A.uses ≤ 100000 + i
  kk : i + kp + kt ≤ 17
  i0 : 0 ≤ i
  k : K = own A (WL x q mq I g at_ s e f 2 sb (popB z1 ob pp :: (tBl q z j ++ rest))) H
def LLs (I : List Nat) (H : Heap) (g : Gd) (m at_ : Int) (x q mq : Nat) (s : Sl) (sb : Bl) (S : Sg) (l : Int → List (Int × Int)) (e : List LE) (n h E0 : Int) (z1 z2 ob : Nat) (a b : Bool) (i : Int) (K : Heap) : Prop := ∃ A f pp z j rest kp kt T Bw O c, LL I H g m at_ x q mq s sb S l e n h E0 z1 z2 ob a b i A f pp z j rest kp kt T Bw O c K
section
variable {L : Hands} {R : Value → Heap → Prop} {I : List Nat} {H : Heap} {g : Gd} {m at_ : Int} {x q mq : Nat} {s : Sl} {sb : Bl} {S : Sg} {l : Int → List (Int × Int)} {e : List LE} {n h E0 : Int} {z1 z2 ob : Nat} {a b : Bool} {i : Int} {A : Ar} {f : Nat → Dq} {pp : Pp} {z : St} {j : TJ} {rest : Bl} {kp kt : Nat} {T Bw O : Int} {c : Bool} {K : Heap}
theorem LL.pop (E : LL I H g m at_ x q mq s sb S l e n h E0 z1 z2 ob a b i A f pp z j rest kp kt T Bw O c K) (hk : kp ≠ 0) {k : Bool → Tree} (hR : ∀ a' K', LLs I H g m at_ x q mq s sb S l e n h E0 z1 z2 ob a' b (i + 1) K' → wp Tryz.prog (k a') L K' R) :
    wp Tryz.prog (.call f_deque_Pop_Step [.pointer (some ⟨z1, 0, none⟩), .pointer (aI I)] (.one (.leaf .bool)) k) L K R := by
  have us := E.us
  have kk := E.kk
  have i0 := E.i0
  obtain ⟨pp', B, k', Bw', O', T', c', st, al, uB, kl, fin, J⟩ := E.jt.pop (by omega) hk
  obtain ⟨_, _, _, oa, ow, _⟩ := E.jt.po.on
  obtain ⟨wh0, da0⟩ : (0 : Int) < g.w ∧ DA A g at_ := ⟨by have := E.jt.la.w1; omega, E.jt.la.da⟩
  have bd0 := bnd_ok (o := pp.o) E.jt.la.gi (by rw [oa]; exact da0) (by rw [ow]; exact ⟨by decide, wh0⟩)
  rw [E.k]
  have ok := E.ok
  have hb := E.hb
  rw [← hb] at ok ⊢
  refine w_popStep (w := 0) (by decide) E.aw ok E.ho bd0 st fun hB ok' => ?_
  rw [fin]
  refine hR _ _ ⟨B, updF f 0 { f 0 with o := pp'.o }, pp', z, j, rest, k', kt, T', Bw', O', c', hB, by rw [← hb]; exact ok', by rw [obs_upd (f := f) (w := 0) (y := ({ f 0 with o := pp'.o } : Dq)) rfl]; exact E.hs, by rw [updF_same], by rw [updF_same]; exact hb, E.jb, E.rp, J, rfl, E.bb, by omega, by omega, by omega, by rw [← hb]⟩
theorem LL.steal (E : LL I H g m at_ x q mq s sb S l e n h E0 z1 z2 ob a b i A f pp z j rest kp kt T Bw O c K) (hk : kt ≠ 0) {k : Bool → Tree} (hR : ∀ b' K', LLs I H g m at_ x q mq s sb S l e n h E0 z1 z2 ob a b' (i + 1) K' → wp Tryz.prog (k b') L K' R) :
    wp Tryz.prog (.call f_thief_Steal_Step [.pointer (some ⟨z2, 0, none⟩), .pointer (aI I)] (.one (.leaf .bool)) k) L K R := by
  have us := E.us
  have kk := E.kk
  have i0 := E.i0
  obtain ⟨z', B, k', T', st, iv, al, uB, kl, fin, J⟩ := E.jt.steal (by omega) hk
  rw [E.k, ← E.jb]
  refine w_stealStep (pre := [popB z1 ob pp]) E.aw E.ok E.rp iv st fun j' hj hB rp' ok' => ?_
  rw [fin]
  exact hR _ _ ⟨B, f, pp, z', j', rest, kp, k', T', Bw, O, c, hB, ok', E.hs, E.ho, E.hb, hj.trans E.jb, rp', J, E.aa, rfl, by omega, by omega, by omega, rfl⟩
end
section
variable {L : Hands} {R : Value → Heap → Prop} {I : List Nat} {H : Heap} {g : Gd} {m at_ : Int} {x q mq : Nat} {s : Sl} {sb : Bl} {S : Sg} {l : Int → List (Int × Int)} {e : List LE} {n h E0 T Bw : Int} {A : Ar} {f : Nat → Dq} {rest : Bl}
theorem tl_fin2 (hI : ∀ y ∈ I, H y = none) (hA : Aw I A) (ok : Ok I H (keys (WL x q mq I g at_ s e f 2 sb rest))) (LA0 : LA A g m S l at_ n h T Bw E0) (hu : A.uses ≤ 800000) (ab : 0 ≤ at_ ∧ at_ ≤ 1000000) (hR : R (.bool true) H) :
    wp Tryz.prog (.look (opS Tryz.prog (.nilCheck (.tmp 0)) ty_unit [(.pointer (some ⟨x, 0, none⟩))]) (.one (.leaf .addr)) fun x242 =>
                .ld x242 .ptr fun x244 =>
                .look (opS Tryz.prog (.nilCheck (.tmp 0)) ty_unit [(.pointer (some ⟨x, 0, none⟩))]) (.one (.leaf .addr)) fun x246 =>
                .ld x246 .ptr fun x248 =>
                .look (opS Tryz.prog (.nilCheck (.tmp 0)) ty_unit [(.pointer (some ⟨x, 0, none⟩))]) (.one (.leaf .addr)) fun x250 =>
                .ld (x250.add 7) (.int .i64) fun x252 =>
                .qcall f_deque_Word [(.int .i64 x252), (.int .i64 0), (.int .i64 2)] (.one (.leaf (.int .i64))) fun x253 =>
                .call f_arena_Arena_Raw [(.pointer x248), (.int .i64 x253)] (.one (.leaf (.int .i64))) fun x254 =>
                .check (ldS x242) (.pointer x244) <|
                .check (opS Tryz.prog (.nilCheck (.tmp 0)) ty_unit [(.pointer (some ⟨x, 0, none⟩))]) (.pointer (some x242)) <|
                .call f_arena_Arena_State [(.pointer x244), (.int .i64 x254)] (.one (.leaf (.int .i64))) fun x255 =>
                bif ((x255 : Int) == 1) then (
                  .call f_magpielaw17_awake [] (.one (.leaf .bool)) fun x259 =>
                  .ret (.bool x259))
                else (
                  .ret (.bool false))) L (own A (WL x q mq I g at_ s e f 2 sb rest) H) R := by
  refine wp_nil.2 (w_ld 0 (x := aI I) hA ok rfl rfl rfl ?_)
  refine wp_nil.2 (w_ld 0 (x := aI I) hA ok rfl rfl rfl ?_)
  refine wp_nil.2 (w_ld 0 (x := at_) hA ok rfl rfl rfl ?_)
  refine wp_qcall_det (x := dw at_ 0 2) (DWord_det _ _ _ ab (by decide) (by decide) _) ?_
  refine w_Raw hA fun hB => ?_
  rw [LA0.rd (by omega) (by decide) (by decide)] at hB ⊢
  refine w_ck 0 hB ok rfl rfl rfl (w_ckn rfl ?_)
  refine w_State hB ?_
  have L1 := LA0.later
  refine wp_true (ibeq (by rw [LA0.r2]; exact L1.hs)) ?_
  refine wp_call_det (x := true) (awake17_det _) ?_
  exact ⟨H, own_end hB ok hI, hR⟩
theorem tl_fin1 (hI : ∀ y ∈ I, H y = none) (hA : Aw I A) (ok : Ok I H (keys (WL x q mq I g at_ s e f 2 sb rest))) (LA0 : LA A g m S l at_ n h 1 1 E0) (hu : A.uses ≤ 800000) (hs : SlOf sb ty_p_deque_Own eP s (obs f 2)) (oa : (f 0).o.at_ = at_) (ow : (f 0).o.work = 0) (hR : R (.bool true) H) :
    wp Tryz.prog (.look (opS Tryz.prog (.nilCheck (.tmp 0)) ty_unit [(.pointer (some ⟨x, 0, none⟩))]) (.one (.leaf .addr)) fun x184 =>
              .ld x184 .ptr fun x186 =>
              .call f_arena_Arena_Fault [(.pointer x186)] (.one (.leaf .bool)) fun x187 =>
              bif (!x187) then (
                .look (opS Tryz.prog (.nilCheck (.tmp 0)) ty_unit [(.pointer (some ⟨x, 0, none⟩))]) (.one (.leaf .addr)) fun x192 =>
                .ld (x192.add 8) .slice fun x194 =>
                .look (opS Tryz.prog (.indexAddr ty_s_p_deque_Own (.tmp 0) (.const (.int .i64 0))) ty_unit [(.slice x194.a x194.len x194.cap)]) (.one (.leaf .addr)) fun x195 =>
                .ld x195 .ptr fun x196 =>
                .look (opS Tryz.prog (.nilCheck (.tmp 0)) ty_unit [(.pointer (some ⟨x, 0, none⟩))]) (.one (.leaf .addr)) fun x198 =>
                .ld x198 .ptr fun x200 =>
                .call f_deque_Own_Size [(.pointer x196), (.pointer x200)] (.one (.leaf (.int .i64))) fun x201 =>
                bif ((x201 : Int) == 0) then (
                  .call f_magpielaw17_awake [] (.one (.leaf .bool)) fun x205 =>
                  .ret (.bool x205))
                else (
                  .ret (.bool false)))
              else (
                .ret (.bool false))) L (own A (WL x q mq I g at_ s e f 2 sb rest) H) R := by
  refine wp_nil.2 (w_ld 0 (x := aI I) hA ok rfl rfl rfl ?_)
  refine w_Fault hA ?_
  rw [LA0.gi.fa]
  refine wp_true rfl ?_
  refine wp_nil.2 (w_ld 0 (x := s) hA ok rfl rfl rfl ?_)
  simp only [opS_ix0]
  refine w_rdOw (i := 0) hA ok (hs.mono fun p hp => WL_mem hp) (obs_get (by decide)) ?_
  refine wp_nil.2 (w_ld 0 (x := aI I) hA ok rfl rfl rfl ?_)
  obtain ⟨ix, hix⟩ := mem_idx (WL_own (x := x) (q := q) (mq := mq) (I := I) (g := g) (at_ := at_) (s := s) (e := e) (f := f) (n := 2) (sb := sb) (rest := rest) (w := 0) (by decide))
  have bd := bnd_ok (o := (f 0).o) LA0.gi (by rw [oa]; exact LA0.da) (by rw [ow]; exact ⟨by decide, by have := LA0.w1; omega⟩)
  refine w_Size ix bd hA ok hix fun hB => ?_
  rw [oa, ow] at hB ⊢
  have L1 := LA0.later
  rw [LA0.rd (k := 1) (by omega) (by decide) (by decide)] at hB ⊢
  rw [L1.rd (k := 0) (by show A.uses + 1 ≤ _; omega) (by decide) (by decide)] at hB ⊢
  refine wp_true (ibeq (by rw [LA0.r1, L1.r0]; rfl)) ?_
  refine wp_call_det (x := true) (awake17_det _) ?_
  exact ⟨H, own_end hB ok hI, hR⟩
theorem WL_perm {r1 r2 : Bl} (ok : Ok I H (keys (WL x q mq I g at_ s e f 2 sb r1))) (p : ∀ (c : Bl → Nat) (d : Nat × Obj → Nat), c [] = 0 → (∀ a t, c (a :: t) = d a + c t) → (∀ a t, c (a ++ t) = c a + c t) → c r1 = c r2) : own A (WL x q mq I g at_ s e f 2 sb r1) H = own A (WL x q mq I g at_ s e f 2 sb r2) H ∧ Ok I H (keys (WL x q mq I g at_ s e f 2 sb r2)) :=
  own_perm (A := A) ok (perm_by fun c d c0 cd ca => by
    show c ((x, oc ty_magpielaw17_W (wC I q g.pl at_ s)) :: (g.bl q mq e ++ (famB (fun i => (f i).bl q) 2 ++ (sb ++ r1)))) = c ((x, oc ty_magpielaw17_W (wC I q g.pl at_ s)) :: (g.bl q mq e ++ (famB (fun i => (f i).bl q) 2 ++ (sb ++ r2))))
    have := p c d c0 cd ca
    simp only [cd, ca]; omega)
end
set_option maxHeartbeats 1000000 in
theorem tl_J9 {L : Hands} {H : Heap} {I : List Nat} {g : Gd} {m at_ : Int} {x q mq : Nat} {s : Sl} {sb : Bl} {S : Sg} {l : Int → List (Int × Int)} {e : List LE} {k h E0 i : Int} {z1 z2 ob : Nat} {K : Heap} (hI : ∀ y ∈ I, H y = none) (hk : 0 ≤ k ∧ k ≤ 1) (E : LLs I H g m at_ x q mq s sb S l e (1 + k) h E0 z1 z2 ob true true i K) :
    wp Tryz.prog (t_magpielaw17_ThiefLast_J9 (some ⟨x, 0, none⟩) k (some ⟨z1, 0, none⟩) (some ⟨z2, 0, none⟩) (true, true, i, ())) L K fun u K => u = .bool true ∧ K = H := by
  obtain ⟨A, f, pp, z, j, rest, kp, kt, T, Bw, O, c, E⟩ := E
  have us := E.us
  have kk := E.kk
  have hp : kp = 0 := by simpa using E.aa.symm
  have ht : kt = 0 := by simpa using E.bb.symm
  subst hp; subst ht
  have J := E.jt
  obtain ⟨w5, um, lv, tv, n1, n2⟩ := J.last
  obtain ⟨_, _, _, oa, ow, _⟩ := J.po.on
  have oa : (f 0).o.at_ = at_ := by rw [E.ho]; exact oa
  have ow : (f 0).o.work = 0 := by rw [E.ho]; exact ow
  have hw1 := J.la.w1
  have bd := bnd_ok (o := (f 0).o) J.la.gi (by rw [oa]; exact J.la.da) (by rw [ow]; exact ⟨by decide, by omega⟩)
  have ab : 0 ≤ at_ ∧ at_ ≤ 1000000 := by have := bd.a; rwa [oa] at this
  have hA := E.aw
  have ok := E.ok
  have hs := E.hs
  have jb := E.jb
  rw [E.k]
  obtain ⟨zx, zp, zu⟩ := z
  have um : zu = .no := um
  subst um
  obtain ⟨b', s', u', tl'⟩ := j
  have jb : b' = z2 := jb
  subst jb
  have m1 : popB z1 ob pp ∈ WL x q mq I g at_ s e f 2 sb (popB z1 ob pp :: (tBl q ⟨zx, zp, .no⟩ ⟨b', s', u', tl'⟩ ++ rest)) := WL_rest List.mem_cons_self
  have m2 : stB b' q zx s' .nilIface ∈ WL x q mq I g at_ s e f 2 sb (popB z1 ob pp :: (tBl q ⟨zx, zp, .no⟩ ⟨b', s', u', tl'⟩ ++ rest)) := WL_rest (List.mem_cons_of_mem _ List.mem_cons_self)
  have la := J.la
  have tv : zx.ok = true → zx.v = 100 := tv
  have lv : zx.leaves = true := lv
  have n1 : 1 + k = 1 → pp.ok = !zx.ok ∧ (pp.ok = true → pp.v = 100) ∧ T = 1 ∧ Bw = 1 := n1
  clear E J
  generalize popB z1 ob pp :: (tBl q ⟨zx, zp, .no⟩ ⟨b', s', u', tl'⟩ ++ rest) = r at *
  unfold t_magpielaw17_ThiefLast_J9
  obtain ⟨ix, hix⟩ := mem_idx m1
  refine w_PopValue ix (x := pp) hA ok hix ?_
  have told : pp.told = pp.ok := by unfold Pp.told; rw [w5]; exact Bool.and_true _
  rw [told]
  have sv : ∀ {K : HL Sh1.T [(.leaf (.int .i64)), (.leaf .bool)] → Tree} {R : Value → Heap → Prop}, wp Tryz.prog (K ((if zx.ok = true then zx.v else 0), zx.ok, ())) L (own A (WL x q mq I g at_ s e f 2 sb r) H) R → wp Tryz.prog (.call f_thief_Steal_Value [.pointer (some ⟨b', 0, none⟩)] (.tup [(.leaf (.int .i64)), (.leaf .bool)]) K) L (own A (WL x q mq I g at_ s e f 2 sb r) H) R := fun {K R} hk => by
    refine wp_call_det (x := ((if zx.ok = true then zx.v else 0), zx.ok, ())) (H' := own A (WL x q mq I g at_ s e f 2 sb r) H) ?_ hk
    refine t_thief_Steal_Value_spec fun L => ?_
    unfold t_thief_Steal_Value
    refine wp_nil.2 (w_ldm (x := zx.ok) hA ok rfl m2 rfl ?_)
    cases hk : zx.ok with
    | false => exact wp_true rfl (wp_ret_of ⟨rfl, rfl⟩)
    | true =>
      refine wp_false rfl ?_
      refine wp_nil.2 (w_ldm (x := .nilIface) hA ok rfl m2 rfl ?_)
      refine look_val (x := false) (neTm0 _) (wp_false rfl ?_)
      refine wp_nil.2 (w_ldm (x := zx.leaves) hA ok rfl m2 rfl ?_)
      rw [lv]
      refine wp_false rfl ?_
      refine wp_nil.2 (w_ldm (x := zx.v) hA ok rfl m2 rfl ?_)
      exact wp_ret_of ⟨rfl, rfl⟩
  refine sv ?_
  refine wp_false rfl (wp_false rfl ?_)
  by_cases hk1 : k = 0
  · subst hk1
    obtain ⟨o1, o2, o3, o4⟩ := n1 rfl
    subst o3; subst o4
    refine wp_true rfl ?_
    cases hz : zx.ok with
    | true =>
      have hp : pp.ok = false := by rw [o1, hz]; rfl
      rw [hp]
      refine wp_true rfl (wp_true rfl (wp_false rfl ?_))
      refine wp_true (ibeq (tv hz)) ?_
      exact tl_fin1 hI hA ok la (by omega) hs oa ow ⟨rfl, rfl⟩
    | false =>
      have hp : pp.ok = true := by rw [o1, hz]; rfl
      rw [hp]
      refine wp_true rfl (wp_false rfl ?_)
      refine wp_true (ibeq (o2 hp)) (wp_true rfl ?_)
      exact tl_fin1 hI hA ok la (by omega) hs oa ow ⟨rfl, rfl⟩
  · have hk2 : k = 1 := by omega
    subst hk2
    obtain ⟨o1, o2⟩ := n2 rfl
    refine wp_false rfl ?_
    rw [o1, o2]
    refine wp_true rfl (wp_false rfl ?_)
    cases hz : zx.ok with
    | true =>
      refine wp_false rfl ?_
      have ev : (if true = true then zx.v else 0) = 100 := by rw [if_pos rfl]; exact tv hz
      refine wp_true (ibne (by show ¬ (101 : Int) = _; rw [ev]; decide)) (wp_false rfl (wp_true rfl (wp_false rfl ?_)))
      refine wp_true (ibeq ev) ?_
      exact tl_fin2 hI hA ok la (by omega) ab ⟨rfl, rfl⟩
    | false =>
      refine wp_true rfl (wp_false rfl (wp_true rfl (wp_true rfl ?_)))
      exact tl_fin2 hI hA ok la (by omega) ab ⟨rfl, rfl⟩
section
variable {L : Hands} {R : Value → Heap → Prop} {I : List Nat} {H : Heap} {g : Gd} {m at_ : Int} {x q mq : Nat} {s z0 : Sl} {sb : Bl} {S : Sg} {l : Int → List (Int × Int)} {e : List LE} {n h E0 i : Int} {z1 z2 ob : Nat} {a b : Bool} {K : Heap} {Bs : Nat → Bool}
theorem LLs.i17 (E : LLs I H g m at_ x q mq s sb S l e n h E0 z1 z2 ob a b i K) : 0 ≤ i ∧ i ≤ 17 ∧ (a = true → b = true ∨ i ≤ 16) := by
  obtain ⟨A, f, pp, z, j, rest, kp, kt, T, Bw, O, c, E⟩ := E
  have kk := E.kk
  have i0 := E.i0
  refine ⟨i0, by omega, fun ha => ?_⟩
  cases hb : b with
  | true => exact .inl rfl
  | false =>
    right
    have := E.bb
    rw [hb] at this
    have : kt ≠ 0 := by simpa using this.symm
    omega
theorem LLs.le (E : LLs I H g m at_ x q mq s sb S l e n h E0 z1 z2 ob a b i K) (hI : ∀ y ∈ I, H y = none) : H.le K := by
  obtain ⟨A, f, pp, z, j, rest, kp, kt, T, Bw, O, c, E⟩ := E
  rw [E.k]
  exact own_end E.aw E.ok hI
theorem LLs.pop (E : LLs I H g m at_ x q mq s sb S l e n h E0 z1 z2 ob false b i K) {k : Bool → Tree} (hR : ∀ a' K', LLs I H g m at_ x q mq s sb S l e n h E0 z1 z2 ob a' b (i + 1) K' → wp Tryz.prog (k a') L K' R) :
    wp Tryz.prog (.look (opS Tryz.prog (.nilCheck (.tmp 0)) ty_unit [(.pointer (some ⟨x, 0, none⟩))]) (.one (.leaf .addr)) fun x107 => .ld x107 .ptr fun x109 => .call f_deque_Pop_Step [.pointer (some ⟨z1, 0, none⟩), .pointer x109] (.one (.leaf .bool)) k) L K R := by
  obtain ⟨A, f, pp, z, j, rest, kp, kt, T, Bw, O, c, E⟩ := E
  have hk : kp ≠ 0 := by have := E.aa; simpa using this.symm
  have key := E.pop hk hR
  rw [E.k] at key ⊢
  exact wp_nil.2 (w_ld 0 (x := aI I) E.aw E.ok rfl rfl rfl key)
theorem LLs.steal (E : LLs I H g m at_ x q mq s sb S l e n h E0 z1 z2 ob a false i K) {k : Bool → Tree} (hR : ∀ b' K', LLs I H g m at_ x q mq s sb S l e n h E0 z1 z2 ob a b' (i + 1) K' → wp Tryz.prog (k b') L K' R) :
    wp Tryz.prog (.look (opS Tryz.prog (.nilCheck (.tmp 0)) ty_unit [(.pointer (some ⟨x, 0, none⟩))]) (.one (.leaf .addr)) fun x107 => .ld x107 .ptr fun x109 => .call f_thief_Steal_Step [.pointer (some ⟨z2, 0, none⟩), .pointer x109] (.one (.leaf .bool)) k) L K R := by
  obtain ⟨A, f, pp, z, j, rest, kp, kt, T, Bw, O, c, E⟩ := E
  have hk : kt ≠ 0 := by have := E.bb; simpa using this.symm
  have key := E.steal hk hR
  rw [E.k] at key ⊢
  exact wp_nil.2 (w_ld 0 (x := aI I) E.aw E.ok rfl rfl rfl key)
theorem tl_J3 (E : LLs I H g m at_ x q mq s sb S l e n h E0 z1 z2 ob a b i K) (hn : ¬ (a = true ∧ b = true))
    (hR : ∀ a' b' K', LLs I H g m at_ x q mq s sb S l e n h E0 z1 z2 ob a' b' (i + 1) K' → wp Tryz.prog (.again 1024 [.bool a', .bool b', .int .i64 (i + 1)]) L K' R) :
    wp Tryz.prog (t_magpielaw17_ThiefLast_J3 (some ⟨x, 0, none⟩) (some ⟨z1, 0, none⟩) (some ⟨z2, 0, none⟩) (a, b, i, ())) L K R := by
  obtain ⟨i0, i1, _⟩ := E.i17
  have e1 : w64 (i + 1) = i + 1 := w64_in (by omega) (by omega)
  unfold t_magpielaw17_ThiefLast_J3
  show wp Tryz.prog (bif b then (bif a then (.again 1024 [.bool true, .bool b, .int .i64 (w64 (i + 1))]) else _) else _) L K R
  rw [e1]
  cases b with
  | true =>
    cases a with
    | true => exact (hn ⟨rfl, rfl⟩).elim
    | false =>
      refine wp_true rfl (wp_false rfl ?_)
      refine E.pop fun a' K' E' => ?_
      exact hR _ _ _ E'
  | false =>
    refine wp_false rfl (wp_false rfl ?_)
    refine E.steal fun b' K' E' => ?_
    exact hR _ _ _ E'
theorem tl_J4 (hz : RowB H z0.a z0.len Bs) (hI : ∀ y ∈ I, H y = none) (E : LLs I H g m at_ x q mq s sb S l e n h E0 z1 z2 ob a b i K) (hn : ¬ (a = true ∧ b = true))
    (hR : ∀ a' b' K', LLs I H g m at_ x q mq s sb S l e n h E0 z1 z2 ob a' b' (i + 1) K' → wp Tryz.prog (.again 1024 [.bool a', .bool b', .int .i64 (i + 1)]) L K' R) :
    wp Tryz.prog (t_magpielaw17_ThiefLast_J4 z0 (some ⟨x, 0, none⟩) (some ⟨z1, 0, none⟩) (some ⟨z2, 0, none⟩) (a, b, i, ())) L K R := by
  obtain ⟨i0, i1, _⟩ := E.i17
  have e1 : w64 (i + 1) = i + 1 := w64_in (by omega) (by omega)
  have j3 := tl_J3 E hn hR
  unfold t_magpielaw17_ThiefLast_J4
  by_cases hi : i < ((z0.len : Nat) : Int)
  rotate_left
  · exact wp_false (decide_eq_false hi) j3
  refine wp_true (decide_eq_true hi) ?_
  refine wp_rowB hz (E.le hI) i0 hi ?_
  cases Bs i.toNat with
  | false => exact wp_false rfl j3
  | true =>
    refine wp_true rfl ?_
    cases a with
    | true => exact wp_false rfl j3
    | false =>
      refine wp_true rfl (wp_false rfl ?_)
      refine E.pop fun a' K' E' => ?_
      show wp Tryz.prog (.again 1024 [.bool a', .bool b, .int .i64 (w64 (i + 1))]) L K' R
      rw [e1]; exact hR _ _ _ E'
end
structure TlI (f : Nat → Dq) (B : Ar) (i u : Int) : Prop where
  xs : (f 0).xs = rg 100 i.toNat
  t : (f 0).t = 0
  c : opC (f 0).o.h = 0
  u : B.uses ≤ u
set_option maxHeartbeats 1000000 in
theorem ThiefLast_det (z0 : Sl) (Bs : Nat → Bool) (ep : Bool) (p2 : Int) (H : Heap) (hz : RowB H z0.a z0.len Bs) : Det Tryz.prog f_magpielaw17_ThiefLast [.slice z0.a z0.len z0.cap, .bool ep, .int .i64 p2] H (.bool true) H := by
  refine t_magpielaw17_ThiefLast_spec (p0 := z0) fun L => ?_
  unfold t_magpielaw17_ThiefLast
  refine wp_call_of (make17_spec ep 2 200 (by decide) (by decide) H) ?_
  rintro v K ⟨A, x, q, mq, S, f, s, sb, rest, rfl, rfl, hI, M⟩
  refine ⟨some ⟨x, 0, none⟩, rfl, ?_⟩
  refine look_val (x := false) (npW17 _) (wp_false rfl ?_)
  have us := M.dm.us
  obtain ⟨m1, m2, m3, m4⟩ := M.dm.em 0 (by decide)
  refine w_Place (by decide) (by decide) ?_
  have k0 := Int.emod_nonneg p2 (b := 2) (by decide)
  have k1 := Int.emod_lt_of_pos p2 (b := 2) (by decide)
  generalize p2 % 2 = k at *
  have ek : w64 (1 + k) = 1 + k := w64_in (by omega) (by omega)
  have E0 := M.lw
  have th := th1 ep ((2 : Nat) : Int) 200
  have hw2 : (gdW ep ((2 : Nat) : Int) 200).w = 2 := rfl
  generalize gdW ep ((2 : Nat) : Int) 200 = g at *
  generalize atW ep ((2 : Nat) : Int) 200 = at_ at *
  clear M
  refine wl_bi (fun _ i K => 0 ≤ i ∧ i ≤ 1 + k ∧ JH A.ids H g 200 at_ x q mq s sb 2 0 (fun B _ _ f => TlI f B i (600 + 1600 * i)) K) (fun _ i => (1 + k - i).toNat) false 0 ⟨Int.le_refl 0, by omega, A, S, _, f, [], rest, E0, ⟨m1, m2, m4, by omega⟩, rfl⟩ ?_
  clear E0 m1 m2 m3 m4 us S f rest
  rintro y i K ⟨i0, i1, B, S1, l1, f1, e1, rest1, E, P, rfl⟩
  rw [t_magpielaw17_ThiefLast_L1]
  have px := P.xs
  have pu := P.u
  have ln : ((f1 0).xs.length : Int) = i := by rw [px, rg_len]; omega
  have s8 : sizeF (opC (f1 0).o.h) = 8 := by rw [P.c]; rfl
  by_cases hi : i < 1 + k
  · refine wp_true (decide_eq_true (show i < w64 (1 + k) by omega)) ?_
    refine wp_nil.2 (w_ow0 E (by decide) ?_)
    rw [show w64 (100 + i) = 100 + i from w64_in (by omega) (by omega)]
    refine E.newPush (w := 0) (by decide) fun zz E1 => ?_
    refine look_val (x := false) (npPs _) (wp_false rfl ?_)
    refine wp_nil.2 (w_ar E1 ?_)
    refine E1.runPush (w := 0) (by decide) (by omega) th (fun N C S' l' o' al cp now e' fr Q hW E2 => ?_) fun N C al e' fr Q hW E2 => ?_
    rotate_left
    · exfalso; have := Q.full; omega
    have qu := Q.us
    refine wp_false rfl ?_
    refine wp_again ⟨y, i + 1, by show [_, Value.int .i64 (w64 (i + 1))] = _; rw [w64_in (by omega) (by omega)], ⟨by omega, by omega, C, S', l', _, e', _, E2, ⟨?_, ?_, ?_, by omega⟩, rfl⟩, by omega⟩
    · rw [updF_same]
      show (f1 0).xs ++ [100 + i] = _
      rw [px, show (100 + i : Int) = 100 + ((i.toNat : Nat) : Int) by omega, rg_succ, show i.toNat + 1 = (i + 1).toNat by omega]
    · rw [updF_same]; exact P.t
    · rw [updF_same]
      rcases Q.or with ⟨r1, r2, _⟩ | ⟨r1, _⟩
      · rw [r2]; exact P.c
      · omega
  refine wp_false (decide_eq_false (show ¬ i < w64 (1 + k) by omega)) ?_
  have ik : i = 1 + k := by omega
  subst ik
  refine wp_nil.2 (w_ow0 E (by decide) ?_)
  refine wp_nil.2 (w_at E (wp_nil.2 (w_gd E ?_)))
  refine E.newPop (w := 0) (by decide) fun z1 E1 => ?_
  refine ck_gd E1 (w_ckn rfl (ck_at E1 (w_ckn rfl ?_)))
  refine E1.newSteal (wk := ((1 : Nat) : Int)) (vic := ((0 : Nat) : Int)) fun z2 s2 tl2 hs2 E2 => ?_
  refine look_val (x := false) (npPp _) (wp_false rfl ?_)
  refine look_val (x := false) (npTs _) (wp_false rfl ?_)
  have D := E.di
  have Q := D.dq 0 (by decide)
  have oa := D.oa 0 (by decide)
  have ow := D.ow 0 (by decide)
  have op := D.op 0 (by decide)
  obtain ⟨r0, r1, r2⟩ := D.r (v := 0) (by decide)
  have pt := P.t
  have bt := Q.bt
  have tg : Tb g (newTs at_ 1 0 0 0) := by
    obtain ⟨wh, da, hs, lb, sz⟩ := D.ati (w := 0) (by decide)
    have bd := bnd_ok D.gi da wh
    have ba := bd.a
    rw [oa] at ba
    have ta := D.gi.ta
    have c0 := D.gi.c0
    have rl := D.gi.rl
    have rb := D.gi.rb
    have gw : 0 ≤ gwords g.ep g.w := (by unfold gwords; cases g.ep <;> simp <;> omega)
    exact ⟨⟨ba, (by decide : (0 : Int) ≤ 0 ∧ (0 : Int) ≤ 1000)⟩, ⟨by omega, by omega⟩, (by decide : (0 : Int) ≤ 1 ∧ (1 : Int) ≤ 1000)⟩
  obtain ⟨h, hh⟩ : ∃ h, h = (f1 0).o.h := ⟨_, rfl⟩
  have la : LA B g 200 S1 l1 at_ (1 + k) h 0 (1 + k) (B.rawF g.ta) := by
    refine ⟨D.gi, D.da, r0.trans pt, r1.trans (by rw [bt, pt, ln]; omega), r2.trans hh.symm, by rw [hh]; exact Q.hs, by rw [hh]; exact P.c, fun j j0 j1 => ?_, fun _ => rfl, by omega, ⟨by omega, by omega⟩, ⟨by omega, by omega⟩, by omega⟩
    have := Q.ld j.toNat (by omega)
    rw [s8, pt, px, rg_getD _ (by omega), ← hh, show ((0 : Int) + ((j.toNat : Nat) : Int)) % 8 = j by omega] at this
    rw [this]; omega
  have oe : (f1 0).o = ⟨at_, 0, 1 + k, h, g.pl⟩ := by
    have hb : (f1 0).o.b = 1 + k := by rw [bt, pt, ln]; omega
    have ow : (f1 0).o.work = 0 := ow
    cases ho : (f1 0).o with
    | mk a1 a2 a3 a4 a5 => rw [ho] at oa ow op hb hh; simp only at oa ow op hb hh; rw [oa, ow, hb, hh, op]
  obtain ⟨pr, ok3⟩ := WL_perm (A := B) (r2 := popB z1 (f1 0).ob ⟨⟨at_, 0, 1 + k, h, g.pl⟩, 0, 0, 0, false⟩ :: (tBl q ⟨newTs at_ 1 0 0 0, .enter :: st7, .no⟩ ⟨z2, s2, ⟨0, ⟨0, sl0, []⟩⟩, tl2⟩ ++ rest1)) E2.ok (fun c d c0 cd ca => by
    show c (stB z2 q (newTs at_ 1 0 0 0) s2 .nilIface :: (tl2 ++ (ppB z1 (f1 0).ob :: rest1))) = c (ppB z1 (f1 0).ob :: ((stB z2 q (newTs at_ 1 0 0 0) s2 .nilIface :: ([] ++ tl2)) ++ rest1))
    simp only [List.nil_append, List.cons_append, cd, ca]; omega)
  rw [pr]
  have L0 : LLs A.ids H g 200 at_ x q mq s sb S1 l1 e1 (1 + k) h (B.rawF g.ta) z1 z2 (f1 0).ob false false 0 (own B (WL x q mq A.ids g at_ s e1 f1 2 sb (popB z1 (f1 0).ob ⟨⟨at_, 0, 1 + k, h, g.pl⟩, 0, 0, 0, false⟩ :: (tBl q ⟨newTs at_ 1 0 0 0, .enter :: st7, .no⟩ ⟨z2, s2, ⟨0, ⟨0, sl0, []⟩⟩, tl2⟩ ++ rest1))) H) := by
    refine ⟨B, f1, _, _, _, rest1, 5, 12, 0, 1 + k, 1 + k, false, E.aw, ok3, E.hs, oe, rfl, rfl, ⟨?_, trivial⟩, ⟨la, .p0, .start ⟨tg, rfl, rfl, rfl, rfl, rfl⟩, by omega, rfl, fun h => (by cases h)⟩, rfl, rfl, by omega, by omega, by omega, rfl⟩
    have := hs2.at'
    rw [← stepsSp_f] at this
    exact this
  refine wl_bbi (fun a b i K => LLs A.ids H g 200 at_ x q mq s sb S1 l1 e1 (1 + k) h (B.rawF g.ta) z1 z2 (f1 0).ob a b i K) (fun _ _ i => (60 - i).toNat) false false 0 L0 ?_
  intro a b i K EL
  obtain ⟨j0, j1, _⟩ := EL.i17
  rw [t_magpielaw17_ThiefLast_L2]
  refine wp_true (decide_eq_true (show i < 60 by omega)) ?_
  have j4 : ¬ (a = true ∧ b = true) → ∀ R L', wp Tryz.prog (t_magpielaw17_ThiefLast_J4 z0 (some ⟨x, 0, none⟩) (some ⟨z1, 0, none⟩) (some ⟨z2, 0, none⟩) (a, b, i, ())) (Hands.set L' 1024 fun vals H'' => ∃ (y0 y1 : Bool) (y2 : Int), vals = [.bool y0, .bool y1, .int .i64 y2] ∧ LLs A.ids H g 200 at_ x q mq s sb S1 l1 e1 (1 + k) h (B.rawF g.ta) z1 z2 (f1 0).ob y0 y1 y2 H'' ∧ (60 - y2).toNat < (60 - i).toNat) K R := fun hn R L' =>
    tl_J4 hz hI EL hn fun a' b' K' E' => wp_again ⟨a', b', i + 1, rfl, E', by omega⟩
  cases a with
  | false => exact wp_false rfl (j4 (fun h => (by cases h.1)) _ _)
  | true =>
    refine wp_true rfl ?_
    cases b with
    | false => exact wp_true rfl (j4 (fun h => (by cases h.2)) _ _)
    | true =>
      refine wp_false rfl ?_
      exact tl_J9 hI ⟨by omega, by omega⟩ EL
end Go.Proofs.YtjnacjniiogjcaaGreat
