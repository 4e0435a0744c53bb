import Derived.Test.YtgnifhkjpekkdaaSaCArena6
set_option linter.unusedVariables false
set_option maxRecDepth 20000
namespace Go.Proofs.Ytgnifhkjpekkdaa
open Go Go.Fw

theorem put_new {A : Ar} {H : Heap} (h : ∀ x ∈ A.ids, H x = none) : H.le (A.put H) := fun x o e => by
  rw [Ar.put_out]
  · exact e
  · intro hx; rw [h x hx] at e; cases e

theorem Alike_ids {A B : Ar} (h : Ar.Alike A B) {H : Heap} (k : ∀ x ∈ A.ids, H x = none) : ∀ x ∈ B.ids, H x = none := by rw [h.ids]; exact k

theorem turnF_alike (A : Ar) (h s t : Int) : Ar.Alike A (A.turnF h s t) := by unfold Ar.turnF; split; exact ⟨rfl, rfl, rfl, rfl, rfl, rfl, rfl⟩; exact .refl A
theorem retireF_alike (A : Ar) (h : Int) : Ar.Alike A (A.retireF h) := (turnF_alike A h 1 2).trans ⟨rfl, rfl, rfl, rfl, rfl, rfl, rfl⟩
theorem diedF_alike (A : Ar) (h : Int) : Ar.Alike A (A.diedF h) := (turnF_alike A h 2 0).trans ⟨rfl, rfl, rfl, rfl, rfl, rfl, rfl⟩
theorem born_end (B : Ar) (h n : Int) : Ar.Alike B ((((B.withS (opB h) h 1).withG (opB h) (opG h)).addL n).subF n) := ⟨rfl, rfl, rfl, rfl, rfl, rfl, rfl⟩
theorem bornF_alike (A : Ar) (h : Int) : Ar.Alike A (A.bornF h) := (bornN_like A _ _).al.trans (born_end _ _ _)
theorem touch_alike (A : Ar) (h off : Int) : Ar.Alike A (A.touch h off) := by unfold Ar.touch; split <;> exact ⟨rfl, rfl, rfl, rfl, rfl, rfl, rfl⟩
theorem storeF_alike (A : Ar) (h off v : Int) : Ar.Alike A (A.storeF h off v) := by unfold Ar.storeF; split <;> exact ⟨rfl, rfl, rfl, rfl, rfl, rfl, rfl⟩
theorem touchR_alike (A : Ar) (i : Int) : Ar.Alike A (A.touchR i) := by unfold Ar.touchR; split <;> exact ⟨rfl, rfl, rfl, rfl, rfl, rfl, rfl⟩
theorem storeR_alike (A : Ar) (i v : Int) : Ar.Alike A (A.storeR i v) := by unfold Ar.storeR; split <;> exact ⟨rfl, rfl, rfl, rfl, rfl, rfl, rfl⟩
theorem swapR_alike (A : Ar) (i v w : Int) : Ar.Alike A (A.swapR i v w) := by unfold Ar.swapR; split <;> (try split) <;> exact ⟨rfl, rfl, rfl, rfl, rfl, rfl, rfl⟩

theorem pA_alike {A B : Ar} (h : Ar.Alike A B) : pA B = pA A := by unfold pA; rw [h.a]

theorem Born_yes {A : Ar} (hA : A.wf) {h : Int} (hb : A.bornOk h) {p : Value} (hp : p = pA A) (H : Heap) : Det Try.prog f_arena_Arena_Born [p, .int .i64 h] (A.put H) (.bool true) ((A.bornF h).put H) := by
  have := Born_det hA h H
  rw [if_pos hb, decide_eq_true hb] at this
  rw [hp]; exact this
theorem Born_no {A : Ar} (hA : A.wf) {h : Int} (hb : ¬ A.bornOk h) {p : Value} (hp : p = pA A) (H : Heap) : Det Try.prog f_arena_Arena_Born [p, .int .i64 h] (A.put H) (.bool false) (A.put H) := by
  have := Born_det hA h H
  rw [if_neg hb, decide_eq_false hb] at this
  rw [hp]; exact this

theorem np_some (a : Addr) : opS Try.prog (.binOp .eql ty_p_arena_Arena (.tmp 0) (.const (.pointer none)) ty_p_arena_Arena) ty_bool [(.pointer (some a))] = .pure (.value (.bool false)) := by kernel_rfl

def awA (a r w s b c g : Nat) : Ar := ⟨a, r, w, s, b, c, g, List.replicate 4 0, List.replicate 64 0, false, [], List.replicate 64 false, List.replicate 64 false, [], 0, 0, 0, 0, false, 0⟩

theorem made_eq {A : Ar} {r w : Nat} {f : Bool} (h : A.made r w f) : A = ⟨A.a, A.r, A.w, A.s, A.b, A.c, A.g, List.replicate r 0, List.replicate w 0, f, [], List.replicate w false, List.replicate w false, [], 0, 0, 0, 0, false, 0⟩ := by
  have := h.raw; have := h.words; have := h.fresh; have := h.slots; have := h.busy; have := h.carved; have := h.gens; have := h.nC; have := h.nL; have := h.nR; have := h.nF; have := h.fault; have := h.uses
  cases A; simp_all

def aw1 (a r w s b c g : Nat) : Ar := (awA a r w s b c g).bornF 1125934266580996
def aw2 (a r w s b c g : Nat) : Ar := (aw1 a r w s b c g).storeF 1125934266580996 3 77
def aw3 (a r w s b c g : Nat) : Ar := (aw2 a r w s b c g).touch 1125934266580996 3
def aw4 (a r w s b c g : Nat) : Ar := (aw3 a r w s b c g).retireF 1125934266580996
def aw5 (a r w s b c g : Nat) : Ar := (aw4 a r w s b c g).diedF 1125934266580996
def aw6 (a r w s b c g : Nat) : Ar := (aw5 a r w s b c g).touch 1125934266580996 3
theorem ae0 (a r w s b c g : Nat) : decide ((awA a r w s b c g).bornOk 1125934266580996) = true := by kernel_rfl
theorem ae1 (a r w s b c g : Nat) : decide ((aw1 a r w s b c g).bornOk 1125934266580996) = false := by kernel_rfl
theorem ae2 (a r w s b c g : Nat) : (aw2 a r w s b c g).loadF 1125934266580996 3 = 77 := by kernel_rfl
theorem ae3 (a r w s b c g : Nat) : (aw3 a r w s b c g).fault = false := by kernel_rfl
theorem ae4 (a r w s b c g : Nat) : (aw3 a r w s b c g).turnB 1125934266580996 1 = true := by kernel_rfl
theorem ae5 (a r w s b c g : Nat) : (aw4 a r w s b c g).turnB 1125934266580996 2 = true := by kernel_rfl
theorem ae6 (a r w s b c g : Nat) : (aw5 a r w s b c g).loadF 1125934266580996 3 = 0 := by kernel_rfl
theorem ae7 (a r w s b c g : Nat) : (aw6 a r w s b c g).fault = true := by kernel_rfl
theorem ae8 (a r w s b c g : Nat) : (aw6 a r w s b c g).uses = 3 := by kernel_rfl

theorem Load_at {A : Ar} (hA : A.wf) {h off x : Int} {p : Value} (hp : p = pA A) (hx : A.loadF h off = x) (H : Heap) : Det Try.prog f_arena_Arena_Load [p, .int .i64 h, .int .i64 off] (A.put H) (.int .i64 x) ((A.touch h off).put H) := by
  rw [hp, ← hx]; exact Load_det hA h off H
theorem Store_at {A : Ar} (hA : A.wf) {h off x : Int} {p : Value} (hp : p = pA A) (H : Heap) : Det Try.prog f_arena_Arena_Store [p, .int .i64 h, .int .i64 off, .int .i64 x] (A.put H) (.tuple #[]) ((A.storeF h off x).put H) := by
  rw [hp]; exact Store_det hA h off x H
theorem Fault_at {A : Ar} {x : Bool} {p : Value} (hp : p = pA A) (hx : A.fault = x) (H : Heap) : Det Try.prog f_arena_Arena_Fault [p] (A.put H) (.bool x) (A.put H) := by rw [hp, ← hx]; exact Fault_det H
theorem Uses_at {A : Ar} {x : Int} {p : Value} (hp : p = pA A) (hx : A.uses = x) (H : Heap) : Det Try.prog f_arena_Arena_Uses [p] (A.put H) (.int .i64 x) (A.put H) := by rw [hp, ← hx]; exact Uses_det H
theorem Retire_at {A : Ar} (hA : A.wf) {h : Int} {x : Bool} {p : Value} (hp : p = pA A) (hx : A.turnB h 1 = x) (H : Heap) : Det Try.prog f_arena_Arena_Retire [p, .int .i64 h] (A.put H) (.bool x) ((A.retireF h).put H) := by
  rw [hp, ← hx]; exact Retire_det hA.nd h H
theorem Died_at {A : Ar} (hA : A.wf) {h : Int} {x : Bool} {p : Value} (hp : p = pA A) (hx : A.turnB h 2 = x) (H : Heap) : Det Try.prog f_arena_Arena_Died [p, .int .i64 h] (A.put H) (.bool x) ((A.diedF h).put H) := by
  rw [hp, ← hx]; exact Died_det hA h H
end Go.Proofs.Ytgnifhkjpekkdaa
