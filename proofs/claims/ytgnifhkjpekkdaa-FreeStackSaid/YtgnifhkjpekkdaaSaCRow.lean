import Derived.Test.YtgnifhkjpekkdaaSaCBlock
import Derived.Test.YtgnifhkjpekkdaaSaPArena
import Derived.Test.YtgnifhkjpekkdaaFwRow
set_option linter.unusedVariables false
set_option maxRecDepth 20000
namespace Go.Proofs.Ytgnifhkjpekkdaa
open Go Go.Fw

/-- A row of numbers that came in. -/
def RowOf (H : Heap) (a : Option Addr) (len : Nat) (zs : List Int) : Prop := ∀ i, i < len → ∃ x, a = some x ∧ H.cell? (x.add i) = some (.int .i64 (zs.getD i 0))

theorem cell_le {H K : Heap} (h : H.le K) {a : Addr} {v : Value} (hc : H.cell? a = some v) : K.cell? a = some v := by
  unfold Heap.cell? at *
  cases hx : H a.block with
  | none => rw [hx] at hc; cases hc
  | some o => rw [hx] at hc; rw [h _ _ hx]; exact hc

theorem wp_row {L : Hands} {H K : Heap} {R : Value → Heap → Prop} {s : Sl} {zs : List Int} (hz : RowOf H s.a s.len zs) (hK : H.le K) {i : Int} (h0 : 0 ≤ i) (h1 : i < ((s.len : Nat) : Int)) {k : Int → Tree} (h : wp Try.prog (k (zs.getD i.toNat 0)) L K R) :
    wp Try.prog (.look (opS Try.prog (.indexAddr ty_s_int (.tmp 0) (.tmp 1)) ty_unit [(.slice s.a s.len s.cap), (.int .i64 i)]) (.one (.leaf .addr)) fun x => .ld x (.int .i64) k) L K R := by
  obtain ⟨x, hx, hc⟩ := hz i.toNat (by omega)
  rw [hx]
  have hi := opS_idxS (P := Try.prog) (t := ty_s_int) (u := ty_unit) (e := ty_int) (l := s.len) (c := s.cap) (i := i) (a := x) rfl rfl h0 h1
  refine look_val (x := x.add i.toNat) ?_ (wp_ld_of (x := zs.getD i.toNat 0) (cell_le hK hc) h)
  refine hi.trans ?_
  show Sem.pure (Next.value (.pointer (some (x.add (i.toNat * 1))))) = _
  rw [Nat.mul_one]

theorem idxA {t u e : TypeId} {n b o : Nat} {i : Int} {info : TypeInfo} (hu : Try.prog.underlying t = some (.array n e)) (hi : Try.prog.info? e = some info) (hs : info.size = 1) (h0 : 0 ≤ i) (h1 : i < n) :
    opS Try.prog (.indexAddr t (.tmp 0) (.tmp 1)) u [.pointer (some ⟨b, o, none⟩), .int .i64 i] = .pure (.value (.pointer (some ⟨b, o + i.toNat, none⟩))) := by
  rw [opS_idx hu hi h0 h1, Addr.add_mk, hs, Nat.mul_one]

/-- A loop with a truth and two numbers. -/
theorem wp_loop_bii {L : Hands} {H : Heap} {R : Value → Heap → Prop} {n : Nat} {b : Bool} {init : List Value} {body : HL Sh1.T [.leaf .bool, .leaf (.int .i64), .leaf (.int .i64)] → Tree} (I : Int → Int → Heap → Prop) (m : Int → Int → Nat) (i0 j0 : Int) (hi : I i0 j0 H)
    (hstep : ∀ (i j : Int) (b : Bool) H', I i j H' → wp Try.prog (body (b, i, j, ())) (L.set n fun vals H'' => ∃ (c : Bool) (i' j' : Int), vals = [.bool c, .int .i64 i', .int .i64 j'] ∧ I i' j' H'' ∧ m i' j' < m i j) H' R) (h0 : init = [.bool b, .int .i64 i0, .int .i64 j0] := by rfl) :
    wp Try.prog (.loop n [.leaf .bool, .leaf (.int .i64), .leaf (.int .i64)] init body) L H R := by
  refine wp_loop_inv (fun x K => I x.2.1 x.2.2.1 K) (fun x _ => m x.2.1 x.2.2.1) (b, i0, j0, ()) h0 hi ?_
  rintro ⟨c, i, j, u⟩ K hI
  refine Go.Fw.wp_mono _ (hstep i j c K hI) (fun k vals H'' hk => ?_) (fun _ _ h => h)
  unfold Hands.set at *
  split at hk
  · rename_i e; rw [if_pos e]; obtain ⟨c, i, j, h1, h2, h3⟩ := hk; exact ⟨(c, i, j, ()), h1, h2, h3⟩
  · rename_i e; rw [if_neg e]; exact hk

theorem chk_cell {L : Hands} {H : Heap} {R : Value → Heap → Prop} {a : Addr} {v : Value} {t : Tree} (hc : H.cell? a = some v) (h : wp Try.prog t L H R) : wp Try.prog (.check (ldS a) v t) L H R := ⟨⟨_, hc, rfl⟩, h⟩
end Go.Proofs.Ytgnifhkjpekkdaa
