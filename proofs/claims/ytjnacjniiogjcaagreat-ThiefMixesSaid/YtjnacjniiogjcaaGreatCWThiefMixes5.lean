/- Texts of this claim, one behind the other. -/
import Derived.Test.YtjnacjniiogjcaaGreatCWThiefMixes4
set_option linter.unusedSimpArgs false
set_option linter.unusedVariables false
set_option maxRecDepth 20000
namespace Go.Proofs.YtjnacjniiogjcaaGreat
open Go Go.Fw
theorem LZ (a : Addr) : opS Tryz.prog (.binOp .eql fL (.tmp 0) (.const (.pointer none)) fL) aO [(.pointer (some a))] = .pure (.value (.bool false)) := by kernel_rfl
theorem O1 (a : Addr) : opS Tryz.prog (.binOp .eql bO (.tmp 0) (.const (.pointer none)) bO) aO [(.pointer (some a))] = .pure (.value (.bool false)) := by kernel_rfl
theorem OU (a : Addr) : opS Tryz.prog (.binOp .eql cg (.tmp 0) (.const (.pointer none)) cg) aO [(.pointer (some a))] = .pure (.value (.bool false)) := by kernel_rfl
theorem elP : Cv bN cg 1 := ⟨⟨_, _, rfl, rfl, rfl, by decide, by decide, rfl, rfl⟩⟩
def wC (I : List Nat) (q : Nat) (p : Pl) (at_ : Int) (s : Sl) : List Value := [.pointer (aI I), .pointer (some ⟨q, 0, none⟩), .int .i64 p.work, .int .i64 p.heads, .int .i64 p.links, .int .i64 p.gens, .int .i64 p.carved, .int .i64 at_, slV s]
def Dq.bl (q : Nat) (x : Dq) : Bl := [(x.ob, oc aC (owC x.o q))]
def obs (f : Nat → Dq) (n : Nat) : List Nat := l3 n fun i => (f i).ob
def WL (x q mq : Nat) (I : List Nat) (g : Gd) (at_ : Int) (s : Sl) (e : List LE) (f : Nat → Dq) (n : Nat) (sb rest : Bl) : Bl :=
  (x, oc bI (wC I q g.pl at_ s)) :: (g.bl q mq e ++ (eG (fun i => (f i).bl q) n ++ (sb ++ rest)))
section
variable {L : aZ} {R : Value → Heap → Prop} {G : Heap} {l rest sb : Bl} {A B : Ar} {I : List Nat}
variable {g : Gd} {m : Int} {S S' : Sg} {ls l' : Int → List (Int × Int)} {v t at_ ex : Int} {q mq x n N w : Nat} {s : Sl} {e : List LE} {f : Nat → Dq}
theorem Fb {xs : List Nat} {i : Nat} {ob : Nat} {u : TypeId} {k : Option Addr → Tree} (hA : Aw I A) (ok : Ok I G (keys l)) (hs : dH l cg eP s xs) (hi : xs[i]? = some ob) (h : wp Tryz.prog (k (some ⟨ob, 0, none⟩)) L (own A l G) R) :
    wp Tryz.prog (.look (opS Tryz.prog (.indexAddr bN (.tmp 0) (.tmp 1)) u [.slice s.a s.len s.cap, .int .i64 (i : Int)]) (.one (.leaf .addr)) fun y => .ld y .ptr k) L (own A l G) R := by
  have hl : i < xs.length := (List.getElem?_eq_some_iff.1 hi).1
  rcases hs with ⟨_, rfl⟩ | ⟨b, rest, r, rfl, h2, h3⟩
  · cases hi
  · refine C3 (e := cg) rfl rfl rfl (by omega) (by show (i : Int) < (xs.length : Int); omega) ?_
    refine eQ (x := some ⟨ob, 0, none⟩) hA ok rfl h3 ?_ h
    rw [Nat.zero_add, MP, List.getElem?_append_left (by simpa using hl), Int.toNat_natCast, List.getElem?_map, hi]; rfl
theorem K7 {xs : List Nat} {z : Nat} {k : Sl → Tree} {pre tl : Bl} (hA : Aw I A) (ok : Ok I G (keys (pre ++ tl))) (hs : dH tl cg eP s xs) (hm : xs.length ≤ 1000000)
    (h : ∀ s' tl', dH tl' cg eP s' (xs ++ [z]) → Ok I G (keys (pre ++ tl')) → wp Tryz.prog (k s') L (own A (pre ++ tl') G) R) :
    wp Tryz.prog (.qB (.cells #[.pointer (some ⟨z, 0, none⟩)] cg) 1 fun x => .act (opS Tryz.prog (.call { callee := .builtin .append, args := #[(.tmp 0), (.tmp 1)], argTypes := #[bN, bN] }) bN [(.slice s.a s.len s.cap), (.slice x.a x.len x.cap)]) (.one (.leaf .slice)) k) L (own A (pre ++ tl) G) R := by
  refine l6 (c := [.pointer (some ⟨z, 0, none⟩)]) hA ok fun q ok1 => ?_
  have ok' : Ok I G (keys (((q, oc cg [.pointer (some ⟨z, 0, none⟩)]) :: pre) ++ tl)) := ok1
  show wp Tryz.prog _ L (own A (((q, oc cg [.pointer (some ⟨z, 0, none⟩)]) :: pre) ++ tl) G) R
  refine Au (E := eP) elP (ys := [z]) (t := ⟨some ⟨q, 0, none⟩, 1, 1⟩) hA ok' hs ?_ rfl (by simp; omega) fun s' tl' hs' ok2 ap => ?_
  · exact jz hA ok' List.mem_cons_self 0 rfl
  · obtain ⟨m3, m4⟩ := zA (A := A) ok2
    show wp Tryz.prog _ L (own A ((q, oc cg [.pointer (some ⟨z, 0, none⟩)]) :: (pre ++ tl')) G) R
    rw [m3]
    exact h s' _ (hs'.mono fun p hp => List.mem_cons_of_mem _ hp) m4
theorem Gp {y : Dq} (hy : y.ob = (f w).ob) : obs (bm f w y) n = obs f n := by
  unfold obs
  congr 1
  funext j
  unfold bm
  split
  · rename_i e; rw [e, hy]
  · rfl
theorem B2 (h : w < n) : (obs f n)[w]? = some (f w).ob := ue h
theorem MH {p : Nat × Obj} (h : p ∈ sb) : p ∈ WL x q mq I g at_ s e f n sb rest := List.mem_cons_of_mem _ (List.mem_append_right _ (List.mem_append_right _ (List.mem_append_left _ h)))
def psB (z ob : Nat) (v : Int) : Nat × Obj := (z, oc aJ (psC ob v 0 0 none none .nilIface 0 false))
def L0 (z : Nat) (bS : Bool) : Bl → Prop := fun rest => ∃ c, (z, oc aJ c) ∈ rest ∧ c[8]? = some (.bool bS)
def Ap (z : Nat) (q : Nat) (y : Ts) : Bl → Prop := fun rest => ∃ s, (z, oc ab (tsC y q s .nilIface)) ∈ rest
structure LW (I : List Nat) (G : Heap) (g : Gd) (m at_ : Int) (x q mq : Nat) (s : Sl) (sb : Bl) (n : Nat) (ex : Int) (A : Ar) (S : Sg) (l : Int → List (Int × Int)) (f : Nat → Dq) (e : List LE) (rest : Bl) : Prop where
  aw : Aw I A
  ok : Ok I G (keys (WL x q mq I g at_ s e f n sb rest))
  gs : GdS e l
  di : DI A g m S l at_ n ex f
  hs : dH sb cg eP s (obs f n)
theorem Ap.in {z q : Nat} {y : Ts} {fr : Bl} (h : Ap z q y fr) (pre : Bl) (rest : Bl) : Ap z q y (pre ++ (fr ++ rest)) := by
  obtain ⟨s, h⟩ := h
  exact ⟨s, List.mem_append_right _ (List.mem_append_left _ h)⟩
theorem H9 (gar : Bl) (ok : Ok I G (keys (gar ++ WL x q mq I g at_ s e f n sb rest))) : own A (gar ++ WL x q mq I g at_ s e f n sb rest) G = own A (WL x q mq I g at_ s e f n sb (gar ++ rest)) G ∧ Ok I G (keys (WL x q mq I g at_ s e f n sb (gar ++ rest))) :=
  aN (A := A) ok (aT fun c d c0 cd ca => by
    show c (gar ++ ((x, oc bI (wC I q g.pl at_ s)) :: (g.bl q mq e ++ (eG (fun i => (f i).bl q) n ++ (sb ++ rest))))) = c ((x, oc bI (wC I q g.pl at_ s)) :: (g.bl q mq e ++ (eG (fun i => (f i).bl q) n ++ (sb ++ (gar ++ rest)))))
    simp only [cd, ca]; omega)
theorem FJ {p : Nat × Obj} (h : p ∈ rest) : p ∈ WL x q mq I g at_ s e f n sb rest := List.mem_cons_of_mem _ (List.mem_append_right _ (List.mem_append_right _ (List.mem_append_right _ h)))
section
variable {l : Int → List (Int × Int)}
theorem LW.Ld (E : LW I G g m at_ x q mq s sb n ex A S l f e rest) (hw : w < n) {K : Option Addr → Tree}
    (hk : ∀ z, LW I G g m at_ x q mq s sb n ex A S l f e (psB z (f w).ob v :: rest) → wp Tryz.prog (K (some ⟨z, 0, none⟩)) L (own A (WL x q mq I g at_ s e f n sb (psB z (f w).ob v :: rest)) G) R) :
    wp Tryz.prog (.call gx [.pointer (some ⟨(f w).ob, 0, none⟩), .int .i64 v] (.one (.leaf .ptr)) K) L (own A (WL x q mq I g at_ s e f n sb rest) G) R := by
  refine Af E.aw E.ok fun z ok1 => ?_
  obtain ⟨p, o⟩ := H9 (A := A) [psB z (f w).ob v] ok1
  show wp Tryz.prog _ L (own A ([psB z (f w).ob v] ++ WL x q mq I g at_ s e f n sb rest) G) R
  rw [p]
  exact hk z ⟨E.aw, o, E.gs, E.di, E.hs⟩
theorem LW.Jl {z : Nat} (E : LW I G g m at_ x q mq s sb n ex A S l f e (psB z (f w).ob v :: rest)) (hw : w < n) {K : Bool → Tree} {N : Nat} {B : Ar} {l' : Int → List (Int × Int)} {o' : DOw} {al : Option Al} {cp : Option Cm} {now t : Int} {bS : Bool} {y : Dq} (yo : y.o = o') (yb : y.ob = (f w).ob) (hN : N ≤ 4000)
    (r : (mPs q mq (f w).ob).gh N ⟨g, l, (f w).o, v, 0, 0, none, none, none, 0, false⟩ A ⟨g, l', o', v, t, 7, al, cp, none, now, bS⟩ B)
    (hk : ∀ e' fr, L0 z bS fr → Aw I B → GdS e' l' → Ok I G (keys (WL x q mq I g at_ s e' (bm f w y) n sb (fr ++ rest))) → wp Tryz.prog (K true) L (own B (WL x q mq I g at_ s e' (bm f w y) n sb (fr ++ rest)) G) R) :
    wp Tryz.prog (.call bM [.pointer (aI I), .iface cz (.pointer (some ⟨z, 0, none⟩))] (.one (.leaf .bool)) K) L (own A (WL x q mq I g at_ s e f n sb (psB z (f w).ob v :: rest)) G) R := by
  obtain ⟨c1, hc1⟩ : ∃ c1 : Nat × Obj, c1 = (x, oc bI (wC I q g.pl at_ s)) := ⟨_, rfl⟩
  have ok1 : Ok I G (keys (c1 :: (g.bl q mq e ++ (eG (fun i => (f i).bl q) n ++ (sb ++ (psB z (f w).ob v :: rest)))))) := by rw [hc1]; exact E.ok
  have eW : WL x q mq I g at_ s e f n sb (psB z (f w).ob v :: rest) = c1 :: (g.bl q mq e ++ (eG (fun i => (f i).bl q) n ++ (sb ++ (psB z (f w).ob v :: rest)))) := by rw [hc1]; rfl
  rw [eW]
  obtain ⟨p1, ok2⟩ := aN (A := A) (l' := Ps.bl q mq ⟨g, l, (f w).o, v, 0, 0, none, none, none, 0, false⟩ ⟨z, (f w).ob, e, lj0, (0, 0, 0), (0, 0, 0), .nilIface, []⟩ ++ (c1 :: (fD (fun i => (f i).bl q) w n ++ (sb ++ rest)))) ok1 (aT fun c d c0 cd ca => by
    show _ = c ((psB z (f w).ob v :: ((f w).ob, oc aC (owC (f w).o q)) :: (g.bl q mq e ++ ([] ++ ([] ++ [])))) ++ (c1 :: (fD (fun i => (f i).bl q) w n ++ (sb ++ rest))))
    have hb : c ((f w).bl q) = d ((f w).ob, oc aC (owC (f w).o q)) := by show c (_ :: []) = _; rw [cd, c0]; rfl
    simp only [List.cons_append, List.append_assoc, List.nil_append, cd, ca, c0, qn c0 ca (fun i => (f i).bl q) hw, hb]; omega)
  rw [p1]
  refine z9 (EM q mq (f w).ob) (F3 q mq (f w).ob) r hN (j := ⟨z, (f w).ob, e, lj0, (0, 0, 0), (0, 0, 0), .nilIface, []⟩) E.aw ok2 ⟨E.gs, rfl⟩ fun j' ha hB ok3 rp => ?_
  obtain ⟨z', ob', e', lj', aj', cj', ov', gar'⟩ := j'
  have ha : z' = z := ha
  subst ha
  obtain ⟨gs', hob⟩ := rp
  have hob : ob' = (f w).ob := hob
  subst hob
  have ok3 : Ok I G (keys (((z', oc aJ (psC (f w).ob v t 7 (alX al aj') (cpX cp cj') ov' now bS)) :: ((f w).ob, oc aC (owC o' q)) :: (g.bl q mq e' ++ (jL al aj' ++ (jj cp cj' ++ gar')))) ++ (c1 :: (fD (fun i => (f i).bl q) w n ++ (sb ++ rest))))) := ok3
  show wp Tryz.prog _ L (own B (((z', oc aJ (psC (f w).ob v t 7 (alX al aj') (cpX cp cj') ov' now bS)) :: ((f w).ob, oc aC (owC o' q)) :: (g.bl q mq e' ++ (jL al aj' ++ (jj cp cj' ++ gar')))) ++ (c1 :: (fD (fun i => (f i).bl q) w n ++ (sb ++ rest)))) G) _
  obtain ⟨p2, ok4⟩ := aN (A := B) (l' := WL x q mq I g at_ s e' (bm f w y) n sb (((z', oc aJ (psC (f w).ob v t 7 (alX al aj') (cpX cp cj') ov' now bS)) :: (jL al aj' ++ (jj cp cj' ++ gar'))) ++ rest)) ok3 (aT fun c d c0 cd ca => by
    show _ = c ((x, oc bI (wC I q g.pl at_ s)) :: (g.bl q mq e' ++ (eG (fun i => (bm f w y i).bl q) n ++ (sb ++ _))))
    have hb : c (y.bl q) = d ((f w).ob, oc aC (owC o' q)) := by rw [← yb, ← yo]; show c (_ :: []) = _; rw [cd, c0]; rfl
    simp only [List.cons_append, List.append_assoc, List.nil_append, cd, ca, c0, EO c0 ca (Dq.bl q) f y hw, hb, ← hc1]
    have : c (fD (fun j => Dq.bl q (f j)) w n) = c (fD (fun i => (f i).bl q) w n) := rfl
    omega)
  rw [p2]
  exact hk e' _ ⟨_, List.mem_cons_self, rfl⟩ hB gs' ok4
theorem LW.Jw {z : Nat} (E : LW I G g m at_ x q mq s sb n ex A S l f e (psB z (f w).ob v :: rest)) (hw : w < n) (hu : A.aD ≤ 600000) (hr : ((f w).xs.length : Int) < au (opC (f w).o.h)) {K : Bool → Tree}
    (hy : ∀ N B S' l' o' al cp now e' fr, Ma A g m S l at_ n ex f w v q mq (f w).ob N B S' l' o' al cp now → L0 z true fr → LW I G g m at_ x q mq s sb n ex B S' l' (bm f w ⟨o', (f w).t, (f w).xs ++ [v], (f w).ob⟩) e' (fr ++ rest) → wp Tryz.prog (K true) L (own B (WL x q mq I g at_ s e' (bm f w ⟨o', (f w).t, (f w).xs ++ [v], (f w).ob⟩) n sb (fr ++ rest)) G) R) :
    wp Tryz.prog (.call bM [.pointer (aI I), .iface cz (.pointer (some ⟨z, 0, none⟩))] (.one (.leaf .bool)) K) L (own A (WL x q mq I g at_ s e f n sb (psB z (f w).ob v :: rest)) G) R := by
  obtain ⟨N, B, S', l', o', al, cp, now, P⟩ := E.di.OG hw hu v q mq (f w).ob hr
  exact E.Jl hw (y := ⟨o', (f w).t, (f w).xs ++ [v], (f w).ob⟩) rfl rfl P.hn P.run fun e' rest' hW aw' gs' ok' => hy N B S' l' o' al cp now e' rest' P hW ⟨aw', ok', gs', P.di, by rw [Gp (y := ⟨o', (f w).t, (f w).xs ++ [v], (f w).ob⟩) (show (f w).ob = (f w).ob from rfl)]; exact E.hs⟩
theorem IT (q ob : Nat) : (mPp q ob).toR.vX bO := Lo q ob
theorem OA (a : Addr) : opS Tryz.prog (.binOp .eql ae (.tmp 0) (.const (.pointer none)) ae) aO [(.pointer (some a))] = .pure (.value (.bool false)) := by kernel_rfl
theorem Hy (before : Int) : (l8 before).map Sp.f = me before := by
  unfold l8 me lh qA
  by_cases h : before > 0
  · rw [if_pos h, if_pos h]; rfl
  · rw [if_neg h, if_neg h]; rfl
theorem LW.CF {wk vic before keyAt : Int} (E : LW I G g m at_ x q mq s sb n ex A S l f e rest) {K : Option Addr → Tree}
    (hk : ∀ z s0 tl, dH tl az (eF z) s0 (me before) → LW I G g m at_ x q mq s sb n ex A S l f e (stB z q (dD at_ wk vic before keyAt) s0 .nilIface :: (tl ++ rest)) → wp Tryz.prog (K (some ⟨z, 0, none⟩)) L (own A (WL x q mq I g at_ s e f n sb (stB z q (dD at_ wk vic before keyAt) s0 .nilIface :: (tl ++ rest))) G) R) :
    wp Tryz.prog (.call jo [.int .i64 at_, .pointer (some ⟨q, 0, none⟩), .int .i64 wk, .int .i64 vic, .int .i64 before, .int .i64 keyAt] (.one (.leaf .ptr)) K) L (own A (WL x q mq I g at_ s e f n sb rest) G) R := by
  refine AF E.aw E.ok fun z s0 tl hs ok1 => ?_
  have ok1 : Ok I G (keys ((stB z q (dD at_ wk vic before keyAt) s0 .nilIface :: tl) ++ WL x q mq I g at_ s e f n sb rest)) := ok1
  obtain ⟨p, o⟩ := H9 (A := A) _ ok1
  show wp Tryz.prog _ L (own A ((stB z q (dD at_ wk vic before keyAt) s0 .nilIface :: tl) ++ WL x q mq I g at_ s e f n sb rest) G) R
  rw [p]
  exact hk z s0 tl hs ⟨E.aw, o, E.gs, E.di, E.hs⟩
theorem LW.Dw {z : Nat} {wk vic : Nat} {before keyAt : Int} {s0 : Sl} {tl pre : Bl} (E : LW I G g m at_ x q mq s sb n ex A S l f e (pre ++ (stB z q (dD at_ wk vic before keyAt) s0 .nilIface :: (tl ++ rest)))) (hs : dH tl az (eF z) s0 (me before)) (hv : vic < n) (hw : wk < n) (hu : A.aD ≤ 600000)
    (ht : before > 0 → ∀ y ys, (f vic).xs = y :: ys → A.fZ y keyAt) {K : Bool → Tree}
    (hk : ∀ N B y fr, Stl A g m S l at_ n ex f vic wk before keyAt q mq e N B y → Ap z q y fr → LW I G g m at_ x q mq s sb n ex B S l (if y.ok = true then bm f vic { f vic with t := (f vic).t + 1, xs := (f vic).xs.tail } else f) e (fr ++ (pre ++ rest)) → wp Tryz.prog (K true) L (own B (WL x q mq I g at_ s e (if y.ok = true then bm f vic { f vic with t := (f vic).t + 1, xs := (f vic).xs.tail } else f) n sb (fr ++ (pre ++ rest))) G) R) :
    wp Tryz.prog (.call bM [.pointer (aI I), .iface ae (.pointer (some ⟨z, 0, none⟩))] (.one (.leaf .bool)) K) L (own A (WL x q mq I g at_ s e f n sb (pre ++ (stB z q (dD at_ wk vic before keyAt) s0 .nilIface :: (tl ++ rest)))) G) R := by
  obtain ⟨N, B, y, P⟩ := E.di.IG hv hw hu before keyAt q mq e ht
  obtain ⟨c1, hc1⟩ : ∃ c1 : Nat × Obj, c1 = (x, oc bI (wC I q g.pl at_ s)) := ⟨_, rfl⟩
  obtain ⟨c2, hc2⟩ : ∃ c2 : Nat × Obj, c2 = stB z q (dD at_ wk vic before keyAt) s0 .nilIface := ⟨_, rfl⟩
  have ok1 := E.ok
  rw [← hc2] at ok1 ⊢
  have ok1 : Ok I G (keys (c1 :: (g.bl q mq e ++ (eG (fun i => (f i).bl q) n ++ (sb ++ (pre ++ (c2 :: (tl ++ rest)))))))) := by rw [hc1]; exact ok1
  have eW : WL x q mq I g at_ s e f n sb (pre ++ (c2 :: (tl ++ rest))) = c1 :: (g.bl q mq e ++ (eG (fun i => (f i).bl q) n ++ (sb ++ (pre ++ (c2 :: (tl ++ rest)))))) := by rw [hc1]; rfl
  rw [eW]
  obtain ⟨p1, ok2⟩ := aN (A := A) (l' := (g.bl q mq e ++ (c2 :: tl)) ++ (c1 :: (eG (fun i => (f i).bl q) n ++ (sb ++ (pre ++ rest))))) ok1 (aT fun c d c0 cd ca => by simp only [List.append_assoc, List.cons_append, cd, ca]; omega)
  rw [p1]
  rw [hc2] at ok2 ⊢
  have ok2 : Ok I G (keys ((mTs g q mq e).bl ⟨dD at_ wk vic before keyAt, l8 before, .no⟩ ⟨z, s0, ⟨0, ⟨0, sl0, []⟩⟩, tl⟩ ++ (c1 :: (eG (fun i => (f i).bl q) n ++ (sb ++ (pre ++ rest)))))) := ok2
  show wp Tryz.prog _ L (own A ((mTs g q mq e).bl ⟨dD at_ wk vic before keyAt, l8 before, .no⟩ ⟨z, s0, ⟨0, ⟨0, sl0, []⟩⟩, tl⟩ ++ (c1 :: (eG (fun i => (f i).bl q) n ++ (sb ++ (pre ++ rest))))) G) R
  refine z9 Ec (FP g q mq e) P.run (by have := P.hn; omega) (j := ⟨z, s0, ⟨0, ⟨0, sl0, []⟩⟩, tl⟩) E.aw ok2 ⟨by rw [Hy]; exact hs.at', trivial⟩ fun j' ha hB ok3 _ => ?_
  obtain ⟨z', s', u', tl'⟩ := j'
  have ha : z' = z := ha
  subst ha
  have ok3 : Ok I G (keys ((g.bl q mq e ++ (stB z' q y s' .nilIface :: ([] ++ tl'))) ++ (c1 :: (eG (fun i => (f i).bl q) n ++ (sb ++ (pre ++ rest)))))) := ok3
  show wp Tryz.prog _ L (own B ((g.bl q mq e ++ (stB z' q y s' .nilIface :: ([] ++ tl'))) ++ (c1 :: (eG (fun i => (f i).bl q) n ++ (sb ++ (pre ++ rest))))) G) R
  have eb : eG (fun i => ((if y.ok = true then bm f vic { f vic with t := (f vic).t + 1, xs := (f vic).xs.tail } else f) i).bl q) n = eG (fun i => (f i).bl q) n := by
    congr 1
    funext i
    split
    · unfold bm
      split
      · rename_i e; rw [e]; rfl
      · rfl
    · rfl
  have eo : obs (if y.ok = true then bm f vic { f vic with t := (f vic).t + 1, xs := (f vic).xs.tail } else f) n = obs f n := by
    split
    · exact Gp rfl
    · rfl
  obtain ⟨p2, ok4⟩ := aN (A := B) (l' := WL x q mq I g at_ s e (if y.ok = true then bm f vic { f vic with t := (f vic).t + 1, xs := (f vic).xs.tail } else f) n sb ((stB z' q y s' .nilIface :: tl') ++ (pre ++ rest))) ok3 (aT fun c d c0 cd ca => by
    show _ = c ((x, oc bI (wC I q g.pl at_ s)) :: (g.bl q mq e ++ (eG (fun i => ((if y.ok = true then bm f vic { f vic with t := (f vic).t + 1, xs := (f vic).xs.tail } else f) i).bl q) n ++ (sb ++ _))))
    rw [eb, ← hc1]
    simp only [List.append_assoc, List.cons_append, List.nil_append, cd, ca]; omega)
  rw [p2]
  exact hk N B y _ P ⟨s', List.mem_cons_self⟩ ⟨hB, ok4, E.gs, P.di, by rw [eo]; exact E.hs⟩
theorem LW.zK {z : Nat} {y : Ts} (E : LW I G g m at_ x q mq s sb n ex A S l f e rest) (h : Ap z q y rest) (lv : y.leaves = true) {K : HL Sh1.T [(.leaf (.int .i64)), (.leaf .bool)] → Tree} (hk : wp Tryz.prog (K ((if y.ok = true then y.v else 0), y.ok, ())) L (own A (WL x q mq I g at_ s e f n sb rest) G) R) :
    wp Tryz.prog (.call dy [.pointer (some ⟨z, 0, none⟩)] (.tup [(.leaf (.int .i64)), (.leaf .bool)]) K) L (own A (WL x q mq I g at_ s e f n sb rest) G) R := by
  obtain ⟨s1, h⟩ := h
  have hm := FJ (x := x) (q := q) (mq := mq) (I := I) (g := g) (at_ := at_) (s := s) (e := e) (f := f) (n := n) (sb := sb) h
  refine ax (x := ((if y.ok = true then y.v else 0), y.ok, ())) (H' := own A (WL x q mq I g at_ s e f n sb rest) G) ?_ hk
  refine kc fun L => ?_
  unfold jU
  refine aa.2 (eQ (x := y.ok) E.aw E.ok rfl hm rfl ?_)
  cases hk : y.ok with
  | false => exact av rfl (ad ⟨rfl, rfl⟩)
  | true =>
    refine af rfl ?_
    refine aa.2 (eQ (x := .nilIface) E.aw E.ok rfl hm rfl ?_)
    refine aB (x := false) (F8 _) (af rfl ?_)
    refine aa.2 (eQ (x := y.leaves) E.aw E.ok rfl hm rfl ?_)
    rw [lv]
    refine af rfl ?_
    refine aa.2 (eQ (x := y.v) E.aw E.ok rfl hm rfl ?_)
    exact ad ⟨rfl, rfl⟩
theorem OK (E : LW I G g m at_ x q mq s sb n ex A S l f e rest) {K : Int → Tree} (hk : wp Tryz.prog (K at_) L (own A (WL x q mq I g at_ s e f n sb rest) G) R) :
    wp Tryz.prog (.ld (Addr.add ⟨x, 0, none⟩ 7) (.int .i64) K) L (own A (WL x q mq I g at_ s e f n sb rest) G) R := aS 0 (x := at_) E.aw E.ok rfl rfl rfl hk
theorem NZ (E : LW I G g m at_ x q mq s sb n ex A S l f e rest) {K : Option Addr → Tree} (hk : wp Tryz.prog (K (some ⟨q, 0, none⟩)) L (own A (WL x q mq I g at_ s e f n sb rest) G) R) :
    wp Tryz.prog (.ld (Addr.add ⟨x, 0, none⟩ 1) .ptr K) L (own A (WL x q mq I g at_ s e f n sb rest) G) R := aS 0 (x := some ⟨q, 0, none⟩) E.aw E.ok rfl rfl rfl hk
theorem Mp (E : LW I G g m at_ x q mq s sb n ex A S l f e rest) {K : Option Addr → Tree} (hk : wp Tryz.prog (K (aI I)) L (own A (WL x q mq I g at_ s e f n sb rest) G) R) :
    wp Tryz.prog (.ld ⟨x, 0, none⟩ .ptr K) L (own A (WL x q mq I g at_ s e f n sb rest) G) R := aS 0 (x := aI I) E.aw E.ok rfl rfl rfl hk
theorem Ot (E : LW I G g m at_ x q mq s sb n ex A S l f e rest) {t : Tree} (hk : wp Tryz.prog t L (own A (WL x q mq I g at_ s e f n sb rest) G) R) :
    wp Tryz.prog (.check (ldS ⟨x, 0, none⟩) (.pointer (aI I)) t) L (own A (WL x q mq I g at_ s e f n sb rest) G) R := iC 0 E.aw E.ok rfl rfl rfl hk
theorem N3 (E : LW I G g m at_ x q mq s sb n ex A S l f e rest) {t : Tree} (hk : wp Tryz.prog t L (own A (WL x q mq I g at_ s e f n sb rest) G) R) :
    wp Tryz.prog (.check (ldS (Addr.add ⟨x, 0, none⟩ 1)) (.pointer (some ⟨q, 0, none⟩)) t) L (own A (WL x q mq I g at_ s e f n sb rest) G) R := iC 0 E.aw E.ok rfl rfl rfl hk
theorem Oe (E : LW I G g m at_ x q mq s sb n ex A S l f e rest) {t : Tree} (hk : wp Tryz.prog t L (own A (WL x q mq I g at_ s e f n sb rest) G) R) :
    wp Tryz.prog (.check (ldS (Addr.add ⟨x, 0, none⟩ 7)) (.int .i64 at_) t) L (own A (WL x q mq I g at_ s e f n sb rest) G) R := iC 0 E.aw E.ok rfl rfl rfl hk
theorem OX (E : LW I G g m at_ x q mq s sb n ex A S l f e rest) (hw : w < n) {u : TypeId} {K : Option Addr → Tree} (hk : wp Tryz.prog (K (some ⟨(f w).ob, 0, none⟩)) L (own A (WL x q mq I g at_ s e f n sb rest) G) R) :
    wp Tryz.prog (.ld (Addr.add ⟨x, 0, none⟩ 8) .slice fun z => .look (opS Tryz.prog (.indexAddr bN (.tmp 0) (.tmp 1)) u [.slice z.a z.len z.cap, .int .i64 (w : Int)]) (.one (.leaf .addr)) fun y => .ld y .ptr K) L (own A (WL x q mq I g at_ s e f n sb rest) G) R :=
  aS 0 (x := s) E.aw E.ok rfl rfl rfl (Fb E.aw E.ok (E.hs.mono fun p hp => MH hp) (B2 hw) hk)
theorem Oh (E : LW I G g m at_ x q mq s sb n ex A S l f e rest) (hw : 0 < n) {u : TypeId} {K : Option Addr → Tree} (hk : wp Tryz.prog (K (some ⟨(f 0).ob, 0, none⟩)) L (own A (WL x q mq I g at_ s e f n sb rest) G) R) :
    wp Tryz.prog (.ld (Addr.add ⟨x, 0, none⟩ 8) .slice fun z => .look (opS Tryz.prog (.indexAddr bN (.tmp 0) (.const (.int .i64 0))) u [.slice z.a z.len z.cap]) (.one (.leaf .addr)) fun y => .ld y .ptr K) L (own A (WL x q mq I g at_ s e f n sb rest) G) R := by
  simp only [vt]
  exact OX E hw hk
end
end
section
variable {L : aZ} {R : Value → Heap → Prop} {G : Heap} {l rest : Bl}
theorem IA {k : Option Nat → Tree} (ok : Ok0 G (keys l)) (h : ∀ b, Ok0 G (keys ((b, .map #[] 0) :: l)) → wp Tryz.prog (k (some b)) L (dO ((b, .map #[] 0) :: l) G) R) : wp Tryz.prog (.CO k) L (dO l G) R :=
  zt fun b hb => h b (LY ok hb _)
theorem CJ (i : Nat) {a : Addr} {b n : Nat} {T : TypeId} {c : List Value} {v : Value} {t : Tree} (ok : Ok0 G (keys l)) (ha : a = ⟨b, 0, none⟩) (hi : l[i]? = some (b, oc T c)) (hn : n = c.length) (hv : v = .agg c.toArray) (h : wp Tryz.prog t L (dO l G) R) :
    wp Tryz.prog (.check (ldAS a n 0 #[]) v t) L (dO l G) R := by
  subst ha; subst hn; subst hv
  refine ⟨?_, h⟩
  rw [zD]
  refine iX (gE G ok.nd hi) _ 0 #[] (by simp) ?_
  show (Value.agg (#[] ++ c.toArray.extract 0 (0 + 0 + c.length)) : Value) = _
  simp
theorem Mt {w n th : Int} {ep : Bool} {p : Pl} {K : Option Addr → Tree} (b : 0 ≤ w ∧ w ≤ 100000) (ok : Ok0 G (keys l))
    (h : ∀ q mq z, Ok0 G (keys (Gd.bl ⟨ep, w, n, p, imax 1 (mH th 64)⟩ q mq [] ++ (z, oc bn (fC p)) :: l)) → wp Tryz.prog (K (some ⟨q, 0, none⟩)) L (dO (Gd.bl ⟨ep, w, n, p, imax 1 (mH th 64)⟩ q mq [] ++ (z, oc bn (fC p)) :: l) G) R) :
    wp Tryz.prog (.call uc [.int .i64 w, .int .i64 n, .bool ep, .int .i64 th, p.val] (.one (.leaf .ptr)) K) L (dO l G) R := by
  refine aR (R0 := fun v H => ∃ q mq z, v = .pointer (some ⟨q, 0, none⟩) ∧ H = dO (Gd.bl ⟨ep, w, n, p, imax 1 (mH th 64)⟩ q mq [] ++ (z, oc bn (fC p)) :: l) G ∧ Ok0 G (keys (Gd.bl ⟨ep, w, n, p, imax 1 (mH th 64)⟩ q mq [] ++ (z, oc bn (fC p)) :: l))) ?_ ?_
  · refine xL (p0 := w) (p1 := n) (p2 := ep) (p3 := th) (p4_0 := p.work) (p4_1 := p.heads) (p4_2 := p.links) (p4_3 := p.gens) (p4_4 := p.carved) fun L => ?_
    unfold tY
    refine tB (c := fC p) ok fun x9 ok1 => ?_
    refine Dl 0 ok1 rfl rfl rfl ?_
    refine ⟨?_, ?_⟩
    · refine ax (x := (⟨bif ep then aM else br, .agg #[.int .i64 w, .int .i64 n]⟩ : Ifv)) (Eg ep b _) ?_
      refine CJ 0 ok1 rfl rfl rfl rfl ?_
      refine IA ok1 fun x19 ok2 => ?_
      refine CJ 1 ok2 rfl rfl rfl rfl ?_
      refine tB (c := Gd.cells ⟨ep, w, n, p, imax 1 (mH th 64)⟩ x19) ok2 fun x21 ok3 => ?_
      exact ad ⟨x21, x19, x9, rfl, rfl, ok3⟩
    · refine IA ok1 fun x19 ok2 => ?_
      refine CJ 1 ok2 rfl rfl rfl rfl ?_
      refine ax (x := (⟨bif ep then aM else br, .agg #[.int .i64 w, .int .i64 n]⟩ : Ifv)) (Eg ep b _) ?_
      refine CJ 1 ok2 rfl rfl rfl rfl ?_
      refine tB (c := Gd.cells ⟨ep, w, n, p, imax 1 (mH th 64)⟩ x19) ok2 fun x21 ok3 => ?_
      exact ad ⟨x21, x19, x9, rfl, rfl, ok3⟩
  · rintro v H ⟨q, mq, z, rfl, rfl, o⟩
    exact ⟨_, rfl, h q mq z o⟩
end
def gdW (ep : Bool) (w m : Int) : Gd := ⟨ep, w, 4 * w + 2 * ((m + 7) / 8) + 1, gX w m, imax 1 (mH 2 64)⟩
def atW (ep : Bool) (w m : Int) : Int := 4 * w + 2 * ((m + 7) / 8) + 1 + cm ep w
theorem Ls {A : Ar} {w m : Int} {ep : Bool} {r : Nat} (hm : A.made r m.toNat false) (hA : A.wf) (wb : 1 ≤ w ∧ w ≤ 9) (mb : 0 ≤ m ∧ m ≤ 1000) (hr : atW ep w m ≤ r) (hr2 : r ≤ 100000) : GI A (gdW ep w m) m S0g fun _ => [] := by
  have gw : 0 ≤ cm ep w ∧ cm ep w ≤ 100 := by unfold cm; cases ep <;> simp <;> omega
  unfold atW at hr
  have rl : A.raw.length = r := by rw [hm.raw, List.length_replicate]
  have r0 : ∀ i, A.ao i = 0 := fun i => by
    unfold Ar.ao
    split
    · rename_i h; rw [hm.raw, List.getD_eq_getElem?_getD, List.getElem?_replicate]; split <;> rfl
    · rfl
  have car : (gX w m).carved = 4 * w + 2 * ((m + 7) / 8) := rfl
  refine ⟨hA, SL.made hm (by rw [car]; omega) ⟨wb.1, by omega⟩ ⟨by omega, by omega⟩, hm.fault, ?_, ⟨wb.1, by show w ≤ 100; omega⟩, ?_, by omega, fun _ _ h => (by cases h), fun _ => .nil, fun _ _ _ _ h => (by cases h), fun _ h => (h rfl).elim, ?_, by rw [hm.nL]; exact Int.le_refl 0, by rw [hm.nL, hm.nR, hm.aD]; decide, fun _ _ _ h => (by cases h), fun _ => ?_, fun _ _ _ h => (by cases h)⟩
  · show 4 * w + 2 * ((m + 7) / 8) < 4 * w + 2 * ((m + 7) / 8) + 1; omega
  · show 4 * w + 2 * ((m + 7) / 8) + 1 + cm ep w ≤ _; omega
  · rw [hm.nR]
    have : ∀ n, Hg (fun _ => []) n = 0 := fun n => by
      induction n with
      | zero => rfl
      | succ n ih => show Hg (fun _ => []) n + 0 = 0; omega
    exact (this _).symm
  · rw [r0, hm.aD]; exact ⟨Int.le_refl 0, Int.le_refl 0⟩
theorem KW {A : Ar} {w m : Int} {ep : Bool} {r : Nat} (hm : A.made r m.toNat false) (hA : A.wf) (wb : 1 ≤ w ∧ w ≤ 9) (mb : 0 ≤ m ∧ m ≤ 1000) (hr : atW ep w m + 3 * w = r) (f : Nat → Dq) : DM A (gdW ep w m) m S0g (atW ep w m) 0 0 f := by
  have gw : 0 ≤ cm ep w ∧ cm ep w ≤ 100 := by unfold cm; cases ep <;> simp <;> omega
  have ea : atW ep w m = 4 * w + 2 * ((m + 7) / 8) + 1 + cm ep w := rfl
  have rl : A.raw.length = r := by rw [hm.raw, List.length_replicate]
  have r0 : ∀ i, A.ao i = 0 := fun i => by
    unfold Ar.ao
    split
    · rename_i h; rw [hm.raw, List.getD_eq_getElem?_getD, List.getElem?_replicate]; split <;> rfl
    · rfl
  refine ⟨⟨Ls hm hA wb mb (by omega) (by omega), ⟨?_, ?_⟩, by show ((0 : Nat) : Int) ≤ w; omega, fun i h => (by cases h), fun i h => (by cases h), fun i h => (by cases h), fun i h => (by cases h), fun i _ h => (by cases h), by rw [hm.nL]; rfl, Int.le_refl 0, fun i h => (by cases h), fun i h => (by cases h), Int.le_refl 0⟩, fun _ => rfl, rfl, fun i _ => r0 i, fun i h => (by cases h), by rw [hm.aD]; decide⟩
  · show 4 * w + 2 * ((m + 7) / 8) + 1 + cm ep w ≤ _; omega
  · show atW ep w m + 3 * w ≤ _; omega
section
variable {L : aZ} {R : Value → Heap → Prop} {H : Heap}
structure MkI (I : List Nat) (A : Ar) (H : Heap) (ep : Bool) (w m : Int) (x q mq : Nat) (n : Nat) (S : Sg) (f : Nat → Dq) (s : Sl) (sb rest : Bl) : Prop where
  aw : Aw I A
  ok : Ok I H (keys (WL x q mq I (gdW ep w m) (atW ep w m) s [] f n sb rest))
  dm : DM A (gdW ep w m) m S (atW ep w m) n 0 f
  hs : dH sb cg eP s (obs f n)
theorem IU (f : Nat → Dq) (n : Nat) (y : Dq) : obs (bm f n y) (n + 1) = obs f n ++ [y.ob] := by
  unfold obs l3
  rw [List.range_succ, List.map_append]
  congr 1
  · refine List.map_congr_left fun i hi => ?_
    rw [bB f y (by have := List.mem_range.1 hi; omega)]
  · show [(bm f n y n).ob] = _; rw [bf]
theorem FO {β : Type} {f h : Nat → List β} : ∀ {n : Nat}, (∀ i, i < n → f i = h i) → eG f n = eG h n
  | 0, _ => rfl
  | n + 1, e => by show eG f n ++ f n = eG h n ++ h n; rw [FO (n := n) fun i hi => e i (by omega), e n (by omega)]
theorem AN (q : Nat) (f : Nat → Dq) (n : Nat) (y : Dq) : eG (fun i => (bm f n y i).bl q) (n + 1) = eG (fun i => (f i).bl q) n ++ y.bl q := by
  show eG _ n ++ (bm f n y n).bl q = _
  rw [bf, FO (h := fun i => (f i).bl q) fun i hi => by show (bm f n y i).bl q = _; rw [bB f y (by omega)]]
theorem JN {G : Heap} {I : List Nat} {A C : Ar} {g : Gd} {at_ : Int} {x q mq n N : Nat} {s : Sl} {e : List LE} {f : Nat → Dq} {sb rest : Bl} {i : Int} {xa : Al} {K : Int → Tree} (hA : Aw I A) (ok : Ok I G (keys (WL x q mq I g at_ s e f n sb rest))) (r : mAl.gh N (mf g.pl i 0) A xa C) (hN : N ≤ 4000)
    (hk : ∀ gar, Aw I C → Ok I G (keys (WL x q mq I g at_ s e f n sb (gar ++ rest))) → wp Tryz.prog (K xa.h) L (own C (WL x q mq I g at_ s e f n sb (gar ++ rest)) G) R) :
    wp Tryz.prog (.call jt [.pointer (some ⟨x, 0, none⟩), .int .i64 i] (.one (.leaf (.int .i64))) K) L (own A (WL x q mq I g at_ s e f n sb rest) G) R := by
  refine aR (R0 := fun v H => ∃ gar, v = .int .i64 xa.h ∧ H = own C (WL x q mq I g at_ s e f n sb (gar ++ rest)) G ∧ Aw I C ∧ Ok I G (keys (WL x q mq I g at_ s e f n sb (gar ++ rest)))) ?_ ?_
  rotate_left
  · rintro v H ⟨gar, rfl, rfl, a, o⟩
    exact ⟨_, rfl, hk gar a o⟩
  refine o8 fun L => ?_
  unfold mF
  refine aa.2 (fy (x := (g.pl.work, g.pl.heads, g.pl.links, g.pl.gens, g.pl.carved, ())) 0 hA ok rfl rfl rfl ?_)
  refine zH (p := g.pl) hA ok (show au 0 ≠ 0 by decide) fun j okj => ?_
  refine aB (x := false) (KN _) (af rfl ?_)
  have mW : ∀ {hb : Bl}, (x, oc bI (wC I q g.pl at_ s)) ∈ hb ++ WL x q mq I g at_ s e f n sb rest := fun {hb} => List.mem_append_right _ List.mem_cons_self
  refine aa.2 (eQ (x := aI I) hA okj rfl mW rfl ?_)
  refine z9 (X := mAl.toR) (Mch.EU HY) KF (Mch.I0 r) hN (j := j) hA okj trivial fun j' ha hC ok2 _ => ?_
  refine af rfl ?_
  obtain ⟨aq, aq0, aq1⟩ := j'
  have ha : aq = j.1 := ha
  subst ha
  refine C0 0 (x := xa) hC ok2 rfl ?_
  have ok2 : Ok I G (keys (xa.bl (j.1, aq0, aq1) ++ WL x q mq I g at_ s e f n sb rest)) := ok2
  show wp Tryz.prog _ _ (own C (xa.bl (j.1, aq0, aq1) ++ WL x q mq I g at_ s e f n sb rest) G) _
  obtain ⟨p, o⟩ := H9 (A := C) _ ok2
  rw [p]
  exact ad ⟨_, rfl, rfl, hC, o⟩
set_option maxHeartbeats 1000000 in
theorem y7 (ep : Bool) (W : Nat) (m : Int) (wb : 1 ≤ W ∧ W ≤ 5) (mb : 8 * (W : Int) ≤ m ∧ m ≤ 700) (H : Heap) : cB Tryz.prog iM #[.int .i64 (W : Int), .int .i64 m, .bool ep] H fun v K => ∃ (A : Ar) (x q mq : Nat) (S : Sg) (f : Nat → Dq) (s : Sl) (sb rest : Bl), v = .pointer (some ⟨x, 0, none⟩) ∧
    K = own A (WL x q mq A.ids (gdW ep W m) (atW ep W m) s [] f W sb rest) H ∧ (∀ y ∈ A.ids, H y = none) ∧ MkI A.ids A H ep W m x q mq W S f s sb rest := by
  refine qK fun L => ?_
  unfold oZ
  have ok0 : Ok0 H (keys []) := ⟨.nil, fun b h => (by cases h)⟩
  refine MY ⟨by omega, by omega⟩ ⟨by omega, by omega⟩ ?_
  refine tB (l := []) (c := fC ⟨0, 0, 0, 0, 0⟩) ok0 fun x7 ok0 => ?_
  refine FZ 0 ok0 rfl rfl rfl rfl ?_
  dsimp only
  refine ax (x := cm ep W) (Is ep ⟨by omega, by omega⟩ _) ?_
  have gw : 0 ≤ cm ep W ∧ cm ep W ≤ 100 := by unfold cm; cases ep <;> simp <;> omega
  have ok0 : Ok0 H (keys [(x7, oc bn (fC (gX W m)))]) := ok0
  refine Dl (l := [(x7, oc bn (fC (gX W m)))]) (x := (W, 0, 4 * W, 4 * W + (m + 7) / 8, 4 * W + 2 * ((m + 7) / 8), ())) 0 ok0 rfl rfl rfl ?_
  refine Dl (x := (W, 0, 4 * W, 4 * W + (m + 7) / 8, 4 * W + 2 * ((m + 7) / 8), ())) 0 ok0 rfl rfl rfl ?_
  have ea : atW ep W m = 4 * (W : Int) + 2 * ((m + 7) / 8) + 1 + cm ep W := rfl
  have en : w64 (4 * (W : Int) + 2 * ((m + 7) / 8) + 1 + cm ep W) = atW ep W m := by rw [aE (by omega) (by omega)]; rfl
  have en2 : w64 (atW ep W m + 3 * W) = atW ep W m + 3 * W := aE (by omega) (by omega)
  rw [en]
  refine Mt (w := W) (n := 4 * (W : Int) + 2 * ((m + 7) / 8) + 1) (th := 2) (ep := ep) (p := gX W m) ⟨by omega, by omega⟩ ok0 fun q mq z ok1 => ?_
  refine CJ (b := x7) (c := fC (gX W m)) 3 ok1 rfl rfl rfl rfl ?_
  refine tB (c := [.pointer none, .pointer (some ⟨q, 0, none⟩), .int .i64 (W : Int), .int .i64 0, .int .i64 (4 * (W : Int)), .int .i64 (4 * (W : Int) + (m + 7) / 8), .int .i64 (4 * (W : Int) + 2 * ((m + 7) / 8)), .int .i64 (atW ep W m), .slice none 0 0]) ok1 fun x ok2 => ?_
  refine bc (x := 3 * (W : Int)) (Jj _ _ ⟨by omega, by omega⟩ _) ?_
  rw [en2]
  refine NX ok2 ⟨by omega, by omega⟩ ⟨by omega, by omega⟩ fun A hm hA hI ok => ?_
  refine aa.2 (cA 0 hA ok rfl rfl rfl rfl ?_)
  have ok : Ok A.ids H (keys (WL x q mq A.ids (gdW ep W m) (atW ep W m) ⟨none, 0, 0⟩ [] (fun _ => ⟨⟨0, 0, 0, 0, gX W m⟩, 0, [], 0⟩) 0 [] [(z, oc bn (fC (gX W m))), (x7, oc bn (fC (gX W m)))])) := ok
  show wp Tryz.prog _ L (own A (WL x q mq A.ids (gdW ep W m) (atW ep W m) ⟨none, 0, 0⟩ [] (fun _ => ⟨⟨0, 0, 0, 0, gX W m⟩, 0, [], 0⟩) 0 [] [(z, oc bn (fC (gX W m))), (x7, oc bn (fC (gX W m)))]) H) _
  refine aa.2 (aS 0 (x := aI A.ids) hA ok rfl rfl rfl ?_)
  refine aB (x := false) (Ki _) (af rfl ?_)
  refine aa.2 (aS 0 (x := some ⟨q, 0, none⟩) hA ok rfl rfl rfl ?_)
  refine aB (x := false) (OQ _) (af rfl ?_)
  have M0 : MkI A.ids A H ep W m x q mq 0 S0g (fun _ => ⟨⟨0, 0, 0, 0, gX W m⟩, 0, [], 0⟩) ⟨none, 0, 0⟩ [] [(z, oc bn (fC (gX W m))), (x7, oc bn (fC (gX W m)))] :=
    ⟨hA, ok, KW hm hA.wf ⟨by omega, by omega⟩ ⟨by omega, by omega⟩ (by show _ = (((atW ep W m + 3 * W).toNat : Nat) : Int); omega) _, .nil _ _ _⟩
  have hpl : (x7, oc bn (fC (gX W m))) ∈ [(z, oc bn (fC (gX W m))), (x7, oc bn (fC (gX W m)))] := by simp
  have loop : ∀ (d i : Nat), i + d = W → ∀ (B : Ar) (S : Sg) (f : Nat → Dq) (s : Sl) (sb rest : Bl) (y : Option Addr), B.ids = A.ids → MkI A.ids B H ep W m x q mq i S f s sb rest → (x7, oc bn (fC (gX W m))) ∈ rest →
      wp Tryz.prog (.loop 512 fN [.pointer y, .int .i64 (i : Int)] (gL (W : Int) ⟨x7, 0, none⟩ ⟨x, 0, none⟩)) L (own B (WL x q mq A.ids (gdW ep W m) (atW ep W m) s [] f i sb rest) H) fun v K => ∃ (A : Ar) (x q mq : Nat) (S : Sg) (f : Nat → Dq) (s : Sl) (sb rest : Bl), v = .pointer (some ⟨x, 0, none⟩) ∧
        K = own A (WL x q mq A.ids (gdW ep W m) (atW ep W m) s [] f W sb rest) H ∧ (∀ y ∈ A.ids, H y = none) ∧ MkI A.ids A H ep W m x q mq W S f s sb rest := by
    intro d
    induction d with
    | zero =>
      intro i hi B S f s sb rest y hB M hpl
      refine bT (y, (i : Int), ()) rfl ?_
      rw [gL]
      refine af (decide_eq_false (show ¬ ((i : Int) < (W : Int)) by omega)) ?_
      have : i = W := by omega
      subst this
      refine ad ⟨B, x, q, mq, S, f, s, sb, rest, rfl, by rw [hB], by rw [hB]; exact hI, by rw [hB]; exact M⟩
    | succ d ih =>
      intro i hi B S f s sb rest y hB M hpl
      refine bT (y, (i : Int), ()) rfl ?_
      rw [gL]
      refine av (decide_eq_true (show (i : Int) < (W : Int) by omega)) ?_
      have hA := M.aw
      have ok := M.ok
      have wbw : (gdW ep W m).w = (W : Int) := rfl
      obtain ⟨N, xa, C, S', Bn⟩ := M.dm.born (by rw [wbw]; omega) (by omega)
      refine JN hA ok Bn.run Bn.hn fun gar0 hC ok2 => ?_
      refine af (iR Bn.hx) ?_
      have mW : (x, oc bI (wC A.ids q (gdW ep W m).pl (atW ep W m) s)) ∈ WL x q mq A.ids (gdW ep W m) (atW ep W m) s [] f i sb (gar0 ++ rest) := List.mem_cons_self
      have mpl : (x7, oc bn (fC (gX W m))) ∈ WL x q mq A.ids (gdW ep W m) (atW ep W m) s [] f i sb (gar0 ++ rest) := FJ (List.mem_append_right _ hpl)
      refine aa.2 (eQ (x := aI A.ids) hC ok2 rfl mW rfl ?_)
      refine aa.2 (eQ (x := atW ep W m) hC ok2 rfl mW rfl ?_)
      obtain ⟨ip2, hip2⟩ := vn mpl
      refine fy (x := (W, 0, 4 * W, 4 * W + (m + 7) / 8, 4 * W + 2 * ((m + 7) / 8), ())) ip2 hC ok2 rfl hip2 rfl ?_
      refine aa.2 (eQ (x := some ⟨q, 0, none⟩) hC ok2 rfl mW rfl ?_)
      refine Jg (q := q) (p := gX W m) (at_ := atW ep W m) (work := (i : Int)) ⟨by omega, by omega⟩ ⟨by omega, by omega⟩ hC ok2 fun zo gar hD ok3 => ?_
      refine aB (x := false) (OU _) (af rfl ?_)
      have M1 := Bn.dm zo
      have alD := Bn.al2
      obtain ⟨D, hDe⟩ : ∃ D, D = C.aL (dw (atW ep W m) i 2) xa.h := ⟨_, rfl⟩
      rw [← hDe] at M1 alD
      have hD : Aw A.ids D := by rw [hDe]; exact hD
      show wp Tryz.prog _ _ (own (C.aL (dw (atW ep W m) i 2) xa.h) ((zo, oc aC (owC ⟨atW ep W m, i, 0, xa.h, gX W m⟩ q)) :: (gar ++ WL x q mq A.ids (gdW ep W m) (atW ep W m) s [] f i sb (gar0 ++ rest))) H) _
      rw [← hDe]
      obtain ⟨y, hy⟩ : ∃ y : Dq, y = ⟨⟨atW ep W m, i, 0, xa.h, gX W m⟩, 0, [], zo⟩ := ⟨_, rfl⟩
      have M1 : DM D (gdW ep W m) m S' (atW ep W m) (i + 1) 0 (bm f i y) := by rw [hy]; exact M1
      have eo : (zo, oc aC (owC ⟨atW ep W m, i, 0, xa.h, gX W m⟩ q)) = (y.ob, oc aC (owC y.o q)) := by rw [hy]
      have ok3 : Ok A.ids H (keys ((zo, oc aC (owC ⟨atW ep W m, i, 0, xa.h, gX W m⟩ q)) :: (gar ++ WL x q mq A.ids (gdW ep W m) (atW ep W m) s [] f i sb (gar0 ++ rest)))) := ok3
      rw [eo] at ok3 ⊢
      have yz : y.ob = zo := by rw [hy]
      refine aa.2 (eQ (x := s) (T := bI) (c := wC A.ids q (gdW ep W m).pl (atW ep W m) s) hD ok3 rfl (List.mem_cons_of_mem _ (List.mem_append_right _ mW)) rfl ?_)
      obtain ⟨p1, ok4⟩ := aN (A := D) (l' := ((x, oc bI (wC A.ids q (gdW ep W m).pl (atW ep W m) s)) :: ((y.ob, oc aC (owC y.o q)) :: (gar ++ ((gdW ep W m).bl q mq [] ++ (eG (fun i => (f i).bl q) i ++ (gar0 ++ rest)))))) ++ sb) ok3 (aT fun c d c0 cd ca => by
        show c (_ :: (gar ++ ((x, oc bI (wC A.ids q (gdW ep W m).pl (atW ep W m) s)) :: ((gdW ep W m).bl q mq [] ++ (eG (fun i => (f i).bl q) i ++ (sb ++ (gar0 ++ rest))))))) = _
        simp only [List.cons_append, List.append_assoc, cd, ca]; omega)
      rw [p1, ← yz]
      refine K7 (z := y.ob) hD ok4 M.hs ?_ fun s' tl' hs' ok5 => ?_
      · show (l3 i _).length ≤ _; rw [wK]; omega
      refine aa.2 (cA 0 hD ok5 rfl rfl rfl rfl ?_)
      have ok5 : Ok A.ids H (keys (((x, oc bI (wC A.ids q (gdW ep W m).pl (atW ep W m) s')) :: ((y.ob, oc aC (owC y.o q)) :: (gar ++ ((gdW ep W m).bl q mq [] ++ (eG (fun i => (f i).bl q) i ++ (gar0 ++ rest)))))) ++ tl')) := ok5
      show wp Tryz.prog _ _ (own D (((x, oc bI (wC A.ids q (gdW ep W m).pl (atW ep W m) s')) :: ((y.ob, oc aC (owC y.o q)) :: (gar ++ ((gdW ep W m).bl q mq [] ++ (eG (fun i => (f i).bl q) i ++ (gar0 ++ rest)))))) ++ tl') H) _
      obtain ⟨p2, ok6⟩ := aN (A := D) (l' := WL x q mq A.ids (gdW ep W m) (atW ep W m) s' [] (bm f i y) (i + 1) tl' (gar ++ (gar0 ++ rest))) ok5 (aT fun c d c0 cd ca => by
        show _ = c ((x, oc bI (wC A.ids q (gdW ep W m).pl (atW ep W m) s')) :: ((gdW ep W m).bl q mq [] ++ (eG (fun k => (bm f i y k).bl q) (i + 1) ++ (tl' ++ _))))
        have hb : c (y.bl q) = d (y.ob, oc aC (owC y.o q)) := by show c (_ :: []) = _; rw [cd, c0]; rfl
        rw [AN]
        simp only [List.cons_append, List.append_assoc, cd, ca, hb]; omega)
      rw [p2]
      refine cR ?_
      have en1 : w64 ((i : Int) + 1) = ((i + 1 : Nat) : Int) := by rw [aE (by omega) (by omega)]; omega
      show wp Tryz.prog (.loop 512 fN [.pointer _, .int .i64 (w64 ((i : Int) + 1))] _) L _ _
      rw [en1]
      exact ih (i + 1) (by omega) D S' (bm f i y) s' tl' _ _ (by rw [alD.ids, hB]) ⟨hD, ok6, M1, by rw [IU]; exact hs'⟩ (List.mem_append_right _ (List.mem_append_right _ hpl))
  exact loop W 0 (by omega) A S0g _ _ _ _ _ rfl M0 hpl
end
section
variable {I : List Nat} {A : Ar} {x q mq n : Nat} {S : Sg} {f : Nat → Dq} {s : Sl} {sb rest : Bl}
theorem MkI.lw {ep : Bool} {W m : Int} {H : Heap} (M : MkI I A H ep W m x q mq n S f s sb rest) : LW I H (gdW ep W m) m (atW ep W m) x q mq s sb n 0 A S (fun _ => []) f [] rest := ⟨M.aw, M.ok, gd0, M.dm.di, M.hs⟩
end
theorem th1 (ep : Bool) (w m : Int) : 1 ≤ (gdW ep w m).th := by show 1 ≤ imax 1 (mH 2 64); decide
set_option maxHeartbeats 1000000 in
theorem C7 (H : Heap) : Det Tryz.prog jV [] H (.bool true) H := by
  refine qe fun L => ?_
  unfold ni
  refine aR (y7 false 2 64 (by decide) (by decide) H) ?_
  rintro v K ⟨A, x, q, mq, S, f, s, sb, rest, rfl, rfl, hI, M⟩
  refine ⟨some ⟨x, 0, none⟩, rfl, ?_⟩
  refine aB (x := false) (LZ _) (af rfl ?_)
  have E := M.lw
  have us := M.dm.us
  obtain ⟨m1, m2, m3, m4⟩ := M.dm.em 0 (by decide)
  have th := th1 false ((2 : Nat) : Int) 64
  generalize gdW false ((2 : Nat) : Int) 64 = g at *
  generalize atW false ((2 : Nat) : Int) 64 = at_ at *
  clear M
  refine aa.2 (Mp E ?_)
  refine aa.2 (Oh E (by decide) ?_)
  refine E.Ld (w := 0) (by decide) fun z E1 => ?_
  refine Ot E1 (fS rfl ?_)
  refine E1.Jw (w := 0) (by decide) (by omega) (by rw [m1, m4]; decide) fun N B S' l' o' al cp now e' fr P hW E2 => ?_
  have pu := P.us
  refine af rfl ?_
  refine aa.2 (OK E2 (aa.2 (NZ E2 ?_)))
  refine aa.2 (OK E2 (aa.2 (NZ E2 ?_)))
  refine E2.CF (wk := ((1 : Nat) : Int)) (vic := ((0 : Nat) : Int)) fun z1 s1 tl1 hs1 E3 => ?_
  refine N3 E3 (fS rfl (Oe E3 (fS rfl ?_)))
  refine E3.CF (wk := ((1 : Nat) : Int)) (vic := ((0 : Nat) : Int)) fun z2 s2 tl2 hs2 E4 => ?_
  refine aB (x := false) (OA _) (af rfl ?_)
  refine aB (x := false) (OA _) (af rfl ?_)
  refine aa.2 (Mp E4 ?_)
  have E4' : LW A.ids H g 64 at_ x q mq s sb 2 0 B S' l' (bm f 0 ⟨o', (f 0).t, (f 0).xs ++ [77], (f 0).ob⟩) e' ((stB z2 q (dD at_ ((1 : Nat) : Int) ((0 : Nat) : Int) 0 0) s2 .nilIface :: tl2) ++ (stB z1 q (dD at_ ((1 : Nat) : Int) ((0 : Nat) : Int) 0 0) s1 .nilIface :: (tl1 ++ (fr ++ rest)))) := E4
  refine E4'.Dw hs1 (by decide) (by decide) (by omega) (fun h => (by cases h)) fun N5 B5 y5 fr5 P5 st5 E5 => ?_
  have hk5 := P5.hk
  have hv5 := P5.hv
  have us5 := P5.ub
  rw [bf] at hk5 hv5
  have hk5 : y5.ok = true := hk5.trans (by show (((f 0).xs ++ [77] != []) && (decide ((0 : Int) ≤ 0) || _)) = true; rw [m1]; rfl)
  have hv5 : y5.v = 77 := (hv5 hk5).trans (by show ((f 0).xs ++ [77]).headD 0 = 77; rw [m1]; rfl)
  refine af rfl ?_
  rw [hk5, if_pos rfl] at E5 ⊢
  refine aa.2 (Mp E5 ?_)
  refine E5.Dw (pre := fr5) hs2 (by decide) (by decide) (by omega) (fun h => (by cases h)) fun N6 B6 y6 fr6 P6 st6 E6 => ?_
  have hk6 := P6.hk
  rw [bf, bf] at hk6
  have hk6 : y6.ok = false := hk6.trans (by show ((((f 0).xs ++ [77]).tail != []) && _) = false; rw [m1]; rfl)
  refine af rfl ?_
  rw [hk6, if_neg (by decide)] at E6 ⊢
  refine E6.zK (st5.in fr6 _) P5.lv ?_
  refine E6.zK (st6.in [] _) P6.lv ?_
  rw [hk5, hk6]
  refine av rfl (av (j7 hv5) ?_)
  exact ⟨H, B7 E6.aw E6.ok hI, rfl, rfl⟩
section
variable {A B : Ar} {g : Gd} {m : Int} {S : Sg} {l : Int → List (Int × Int)} {v at_ ex : Int} {q mq ob n N w : Nat} {f : Nat → Dq} {al : Option Al}
end
section
variable {A B : Ar} {g : Gd} {m : Int} {S : Sg} {l : Int → List (Int × Int)} {at_ n h T Bw E0 u i w v O : Int} {pl : Pl}
end
noncomputable def bY (x28 : Option Addr) (y1 : HL Sh1.T [(.leaf .bool), (.leaf .ptr), (.leaf .ptr), (.leaf (.int .i64)), (.leaf (.int .i64))]) (x54 : Int) : Tree :=
 lkN x28 fun x196 =>
 .ld x196 .ptr fun x198 =>
 .call cu [(.pointer x198)] (.one (.leaf (.int .i64))) fun x199 =>
 bif (decide ((x199 : Int) > (w64 (x54 + 1)))) then (
 .ret (.bool false))
 else (
 lkN x28 fun x205 =>
 .ld x205 .ptr fun x207 =>
 .call cI [(.pointer x207)] (.one (.leaf .bool)) fun x208 =>
 bif x208 then (
 .ret (.bool false))
 else (
 .again 768 [(.bool y1.1), (.pointer y1.2.1), (.pointer y1.2.2.1), (.int .i64 y1.2.2.2.1), (.int .i64 (w64 (y1.2.2.2.2.1 + 1)))]))
noncomputable def fp (x28 : Option Addr) (y1 : HL Sh1.T [(.leaf .bool), (.leaf .ptr), (.leaf .ptr), (.leaf (.int .i64)), (.leaf (.int .i64))]) (x54 : Int) : Tree :=
 lkN x28 fun x196 =>
 .ld x196 .ptr fun x198 =>
 .call cu [(.pointer x198)] (.one (.leaf (.int .i64))) fun x199 =>
 bif (decide ((x199 : Int) > (w64 (x54 + 1)))) then (
 .ret (.bool false))
 else (
 lkN x28 fun x205 =>
 .ld x205 .ptr fun x207 =>
 .call cI [(.pointer x207)] (.one (.leaf .bool)) fun x208 =>
 bif x208 then (
 .ret (.bool false))
 else (
 .again 768 [(.bool y1.1), (.pointer none), (.pointer y1.2.2.1), (.int .i64 y1.2.2.2.1), (.int .i64 (w64 (y1.2.2.2.2.1 + 1)))]))
noncomputable def eX (x28 : Option Addr) (y1 : HL Sh1.T [(.leaf .bool), (.leaf .ptr), (.leaf .ptr), (.leaf (.int .i64)), (.leaf (.int .i64))]) (x54 : Int) : Tree :=
 lkN x28 fun x196 =>
 .ld x196 .ptr fun x198 =>
 .call cu [(.pointer x198)] (.one (.leaf (.int .i64))) fun x199 =>
 bif (decide ((x199 : Int) > (w64 (x54 + 1)))) then (
 .ret (.bool false))
 else (
 lkN x28 fun x205 =>
 .ld x205 .ptr fun x207 =>
 .call cI [(.pointer x207)] (.one (.leaf .bool)) fun x208 =>
 bif x208 then (
 .ret (.bool false))
 else (
 .again 768 [(.bool y1.1), (.pointer y1.2.1), (.pointer none), (.int .i64 y1.2.2.2.1), (.int .i64 (w64 (y1.2.2.2.2.1 + 1)))]))
noncomputable def dt (x28 : Option Addr) (y1 : HL Sh1.T [(.leaf .bool), (.leaf .ptr), (.leaf .ptr), (.leaf (.int .i64)), (.leaf (.int .i64))]) (x54 : Int) (x61 : Option Addr) : Tree :=
 lkN x28 fun x196 =>
 .ld x196 .ptr fun x198 =>
 .call cu [(.pointer x198)] (.one (.leaf (.int .i64))) fun x199 =>
 bif (decide ((x199 : Int) > (w64 (x54 + 1)))) then (
 .ret (.bool false))
 else (
 lkN x28 fun x205 =>
 .ld x205 .ptr fun x207 =>
 .call cI [(.pointer x207)] (.one (.leaf .bool)) fun x208 =>
 bif x208 then (
 .ret (.bool false))
 else (
 .again 768 [(.bool y1.1), (.pointer y1.2.1), (.pointer x61), (.int .i64 y1.2.2.2.1), (.int .i64 (w64 (y1.2.2.2.2.1 + 1)))]))
noncomputable def cN (x24 : Int) (x28 : Option Addr) (x11 : Addr) (x12 : Addr) (x14 : Addr) (y1 : HL Sh1.T [(.leaf .bool), (.leaf .ptr), (.leaf .ptr), (.leaf (.int .i64)), (.leaf (.int .i64))]) (x46 : Int) (x49 : Int) (x54 : Int) : Tree :=
 bif (decide ((x49 : Int) > 0)) then (
 .look (opS Tryz.prog (.indexAddr aX (.tmp 0) (.tmp 1)) aF [(.pointer (some x11)), (.int .i64 x49)]) (.one (.leaf .addr)) fun x87 =>
 .ld x87 .ptr fun x88 =>
 lkN x28 fun x90 =>
 .ld x90 .ptr fun x92 =>
 .call gI [(.pointer x88), (.pointer x92)] (.one (.leaf .bool)) fun x93 =>
 bif x93 then (
 .look (opS Tryz.prog (.indexAddr aX (.tmp 0) (.tmp 1)) aF [(.pointer (some x11)), (.int .i64 x49)]) (.one (.leaf .addr)) fun x96 =>
 .ld x96 .ptr fun x97 =>
 .call dy [(.pointer x97)] (.tup [(.leaf (.int .i64)), (.leaf .bool)]) fun x98 =>
 bif x98.2.1 then (
 bif (decide ((x98.1 : Int) < 100)) then (
 .ret (.bool false))
 else (
 bif (decide ((x98.1 : Int) ≥ (w64 (100 + y1.2.2.2.1)))) then (
 .ret (.bool false))
 else (
 .look (opS Tryz.prog (.indexAddr gA (.tmp 0) (.tmp 1)) aF [(.pointer (some x14)), (.int .i64 x49)]) (.one (.leaf .addr)) fun x114 =>
 .ld x114 (.int .i64) fun x115 =>
 bif (decide (((w64 (x98.1 - 100)) : Int) ≤ x115)) then (
 .ret (.bool false))
 else (
 .look (opS Tryz.prog (.indexAddr gA (.tmp 0) (.tmp 1)) aF [(.pointer (some x14)), (.int .i64 x49)]) (.one (.leaf .addr)) fun x121 =>
 .st x121 (.int .i64 (w64 (x98.1 - 100))) <|
 .look (opS Tryz.prog (.indexAddr bX (.tmp 0) (.tmp 1)) aF [(.pointer (some x12)), (.int .i64 (w64 (x98.1 - 100)))]) (.one (.leaf .addr)) fun x124 =>
 .ld x124 (.int .i64) fun x125 =>
 .look (opS Tryz.prog (.indexAddr bX (.tmp 0) (.tmp 1)) aF [(.pointer (some x12)), (.int .i64 (w64 (x98.1 - 100)))]) (.one (.leaf .addr)) fun x127 =>
 .st x127 (.int .i64 (w64 (x125 + 1))) <|
 .look (opS Tryz.prog (.indexAddr aX (.tmp 0) (.tmp 1)) aF [(.pointer (some x11)), (.int .i64 x49)]) (.one (.leaf .addr)) fun x129 =>
 .st x129 (.pointer none) <|
 bY x28 y1 x54))))
 else (
 .look (opS Tryz.prog (.indexAddr aX (.tmp 0) (.tmp 1)) aF [(.pointer (some x11)), (.int .i64 x49)]) (.one (.leaf .addr)) fun x129 =>
 .st x129 (.pointer none) <|
 bY x28 y1 x54))
 else (
 bY x28 y1 x54))
 else (
 .look (opS Tryz.prog (.binOp .neq cz (.tmp 0) (.const (.pointer none)) cz) aO [(.pointer y1.2.1)]) (.one (.leaf .bool)) fun x132 =>
 bif x132 then (
 lkN x28 fun x135 =>
 .ld x135 .ptr fun x137 =>
 .call gU [(.pointer y1.2.1), (.pointer x137)] (.one (.leaf .bool)) fun x138 =>
 bif x138 then (
 .call gY [(.pointer y1.2.1)] (.one (.leaf .bool)) fun x140 =>
 bif (!x140) then (
 .look (opS Tryz.prog (.indexAddr bX (.tmp 0) (.tmp 1)) aF [(.pointer (some x12)), (.int .i64 (w64 (y1.2.2.2.1 - 1)))]) (.one (.leaf .addr)) fun x144 =>
 .st x144 (.int .i64 1) <|
 fp x28 y1 x54)
 else (
 fp x28 y1 x54))
 else (
 bY x28 y1 x54))
 else (
 .look (opS Tryz.prog (.binOp .neq bO (.tmp 0) (.const (.pointer none)) bO) aO [(.pointer y1.2.2.1)]) (.one (.leaf .bool)) fun x147 =>
 bif x147 then (
 lkN x28 fun x150 =>
 .ld x150 .ptr fun x152 =>
 .call iz [(.pointer y1.2.2.1), (.pointer x152)] (.one (.leaf .bool)) fun x153 =>
 bif x153 then (
 .call fR [(.pointer y1.2.2.1)] (.tup [(.leaf (.int .i64)), (.leaf .bool)]) fun x156 =>
 bif x156.2.1 then (
 bif (decide ((x156.1 : Int) < 100)) then (
 .ret (.bool false))
 else (
 bif (decide ((x156.1 : Int) ≥ (w64 (100 + y1.2.2.2.1)))) then (
 .ret (.bool false))
 else (
 .look (opS Tryz.prog (.indexAddr bX (.tmp 0) (.tmp 1)) aF [(.pointer (some x12)), (.int .i64 (w64 (x156.1 - 100)))]) (.one (.leaf .addr)) fun x170 =>
 .ld x170 (.int .i64) fun x171 =>
 .look (opS Tryz.prog (.indexAddr bX (.tmp 0) (.tmp 1)) aF [(.pointer (some x12)), (.int .i64 (w64 (x156.1 - 100)))]) (.one (.leaf .addr)) fun x173 =>
 .st x173 (.int .i64 (w64 (x171 + 1))) <|
 eX x28 y1 x54)))
 else (
 eX x28 y1 x54))
 else (
 bY x28 y1 x54))
 else (
 .look (opS Tryz.prog (.binOp .quo aP (.tmp 0) (.tmp 1) aP) aP [(.int .i64 x46), (.int .i64 (w64 (2 + x24)))]) (.one (.leaf (.int .i64))) fun x177 =>
 bif (decide (((Int.tmod x177 3) : Int) > 0)) then (
 bif (decide ((y1.2.2.2.1 : Int) < 500)) then (
 lkN x28 fun x185 =>
 .ld (x185.add 8) .slice fun x187 =>
 .look (opS Tryz.prog (.indexAddr bN (.tmp 0) (.const (.int .i64 0))) aF [(.slice x187.a x187.len x187.cap)]) (.one (.leaf .addr)) fun x188 =>
 .ld x188 .ptr fun x189 =>
 .call gx [(.pointer x189), (.int .i64 (w64 (100 + y1.2.2.2.1)))] (.one (.leaf .ptr)) fun x192 =>
 lkN x28 fun x196 =>
 .ld x196 .ptr fun x198 =>
 .call cu [(.pointer x198)] (.one (.leaf (.int .i64))) fun x199 =>
 bif (decide ((x199 : Int) > (w64 (x54 + 1)))) then (
 .ret (.bool false))
 else (
 lkN x28 fun x205 =>
 .ld x205 .ptr fun x207 =>
 .call cI [(.pointer x207)] (.one (.leaf .bool)) fun x208 =>
 bif x208 then (
 .ret (.bool false))
 else (
 .again 768 [(.bool y1.1), (.pointer x192), (.pointer y1.2.2.1), (.int .i64 (w64 (y1.2.2.2.1 + 1))), (.int .i64 (w64 (y1.2.2.2.2.1 + 1)))])))
 else (
 lkN x28 fun x56 =>
 .ld (x56.add 8) .slice fun x58 =>
 .look (opS Tryz.prog (.indexAddr bN (.tmp 0) (.const (.int .i64 0))) aF [(.slice x58.a x58.len x58.cap)]) (.one (.leaf .addr)) fun x59 =>
 .ld x59 .ptr fun x60 =>
 .call fA [(.pointer x60)] (.one (.leaf .ptr)) fun x61 =>
 dt x28 y1 x54 x61))
 else (
 lkN x28 fun x56 =>
 .ld (x56.add 8) .slice fun x58 =>
 .look (opS Tryz.prog (.indexAddr bN (.tmp 0) (.const (.int .i64 0))) aF [(.slice x58.a x58.len x58.cap)]) (.one (.leaf .addr)) fun x59 =>
 .ld x59 .ptr fun x60 =>
 .call fA [(.pointer x60)] (.one (.leaf .ptr)) fun x61 =>
 dt x28 y1 x54 x61))))
noncomputable def eU (x24 : Int) (x28 : Option Addr) (x11 : Addr) (x12 : Addr) (y1 : HL Sh1.T [(.leaf .bool), (.leaf .ptr), (.leaf .ptr), (.leaf (.int .i64)), (.leaf (.int .i64))]) : Tree :=
 .call jd [(.pointer x28), (.pointer y1.2.1), (.pointer y1.2.2.1), (.pointer (some x11)), (.pointer (some x12)), (.int .i64 y1.2.2.2.1)] (.one (.leaf .bool)) fun x214 =>
 bif x214 then (
 bif (decide (((w64 (2 + x24)) : Int) ≤ 64)) then (
 .call jV [] (.one (.leaf .bool)) fun x220 =>
 .ret (.bool x220))
 else (
 .ret (.bool false)))
 else (
 .ret (.bool false))
@[reducible] def iF : List Sh1 := [(.leaf .bool), (.leaf .ptr), (.leaf .ptr), (.leaf (.int .i64)), (.leaf (.int .i64))]
noncomputable def gg (p2 : Sl) (x24 : Int) (x28 : Option Addr) (x11 : Addr) (x12 : Addr) (x14 : Addr) (y1 : HL Sh1.T iF) : Tree :=
 bif (decide ((y1.2.2.2.2.1 : Int) < ((p2.len : Nat) : Int))) then (
 bif (decide ((y1.2.2.2.2.1 : Int) < 900)) then (
 .look (opS Tryz.prog (.indexAddr bK (.tmp 0) (.tmp 1)) aF [(.slice p2.a p2.len p2.cap), (.int .i64 y1.2.2.2.2.1)]) (.one (.leaf .addr)) fun x44 =>
 .ld x44 (.int .i64) fun x45 =>
 .cU gf [(.int .i64 x45), (.int .i64 1048576)] (.one (.leaf (.int .i64))) fun x46 =>
 .look (opS Tryz.prog (.binOp .rem aP (.tmp 0) (.tmp 1) aP) aP [(.int .i64 x46), (.int .i64 (w64 (2 + x24)))]) (.one (.leaf (.int .i64))) fun x49 =>
 lkN x28 fun x51 =>
 .ld x51 .ptr fun x53 =>
 .call cu [(.pointer x53)] (.one (.leaf (.int .i64))) fun x54 =>
 bif (decide ((x49 : Int) > 0)) then (
 .look (opS Tryz.prog (.indexAddr aX (.tmp 0) (.tmp 1)) aF [(.pointer (some x11)), (.int .i64 x49)]) (.one (.leaf .addr)) fun x67 =>
 .ld x67 .ptr fun x68 =>
 .look (opS Tryz.prog (.binOp .eql ae (.tmp 0) (.const (.pointer none)) ae) aO [(.pointer x68)]) (.one (.leaf .bool)) fun x69 =>
 bif x69 then (
 lkN x28 fun x73 =>
 .ld (x73.add 7) (.int .i64) fun x75 =>
 lkN x28 fun x77 =>
 .ld (x77.add 1) .ptr fun x79 =>
 .call jo [(.int .i64 x75), (.pointer x79), (.int .i64 x49), (.int .i64 0), (.int .i64 0), (.int .i64 0)] (.one (.leaf .ptr)) fun x81 =>
 .look (opS Tryz.prog (.indexAddr aX (.tmp 0) (.tmp 1)) aF [(.pointer (some x11)), (.int .i64 x49)]) (.one (.leaf .addr)) fun x82 =>
 .st x82 (.pointer x81) <|
 bY x28 y1 x54)
 else (
 cN x24 x28 x11 x12 x14 y1 x46 x49 x54))
 else (
 cN x24 x28 x11 x12 x14 y1 x46 x49 x54))
 else (
 eU x24 x28 x11 x12 y1))
 else (
 eU x24 x28 x11 x12 y1)
noncomputable def jW (p0 : Int) (p1 : Bool) (p2 : Sl) : Tree :=
 .cU gf [(.int .i64 p0), (.int .i64 4)] (.one (.leaf (.int .i64))) fun x24 =>
 .call iM [(.int .i64 (w64 (2 + x24))), (.int .i64 700), (.bool p1)] (.one (.leaf .ptr)) fun x28 =>
 .look (opS Tryz.prog (.binOp .eql fL (.tmp 0) (.const (.pointer none)) fL) aO [(.pointer x28)]) (.one (.leaf .bool)) fun x30 =>
 bif x30 then (
 .ret (.bool false))
 else (
 .dk (.cells #[(.pointer none), (.pointer none), (.pointer none), (.pointer none), (.pointer none), (.pointer none)] aX) fun x11 =>
 .dk (.cells (List.replicate 600 (.int .i64 0)).toArray bX) fun x12 =>
 .dk (.cells #[(.int .i64 0), (.int .i64 0), (.int .i64 0), (.int .i64 0), (.int .i64 0), (.int .i64 0)] gA) fun x14 =>
 .stA x14 [(.int .i64 (-1)), (.int .i64 (-1)), (.int .i64 (-1)), (.int .i64 (-1)), (.int .i64 (-1)), (.int .i64 (-1))] <|
 .loop 768 iF [(.bool false), (.pointer none), (.pointer none), (.int .i64 0), (.int .i64 0)] (gg p2 x24 x28 x11 x12 x14))
theorem mA {p0 : Int} {p1 : Bool} {p2 : Sl} : SpT ia #[(.int .i64 p0), (.bool p1), (.slice p2.a p2.len p2.cap)] (jW p0 p1 p2) := spT cJ Tryz.func4 (by kernel_rfl)
theorem B9 {M J : Type} {X : sB M J} (hX : X.ok) {I : List Nat} {G : Heap} {m m1 : M} {A A1 : Ar} {j : J} {rest : Bl} (hs : X.step m A = (m1, A1)) (hA : Aw I A) (ok : Ok I G (keys (X.bl m j ++ rest))) (rp : X.rep m j) (hi : X.inv m A)
    {L : aZ} {R : Value → Heap → Prop} {k : Bool → Tree} (hk : ∀ j', X.addr j' = X.addr j → Aw I A1 → Ok I G (keys (X.bl m1 j' ++ rest)) → X.rep m1 j' → wp Tryz.prog (k (X.fin m1)) L (own A1 (X.bl m1 j' ++ rest) G) R) :
    wp Tryz.prog (.call X.f [.pointer (some ⟨X.addr j, 0, none⟩), .pointer (aI I)] (.one (.leaf .bool)) k) L (own A (X.bl m j ++ rest) G) R := by
  rw [bP] at ok
  obtain ⟨o1, o2⟩ := ok.split
  refine rh (hX I A _ m j hA o1 rp hi) ?_
  rintro v K ⟨j', rfl, rfl, ha, o3, rp', hA'⟩
  rw [hs] at o3 rp' hA' ⊢
  refine ⟨X.fin m1, rfl, ?_⟩
  rw [← dY]
  exact hk j' ha hA' (by rw [bP]; exact o3.join o2) rp'
def Lu (z ob : Nat) (pp : Pp) : Nat × Obj := (z, oc c7 (ppC ob pp))
def tBl (q : Nat) (z : St) (j : TJ) : Bl := stB j.b q z.x j.s (z.um.val j.u) :: (z.um.bl j.b j.u ++ j.tl)
def KZ (z : St) (j : TJ) : Prop := ir j.tl az (eF j.b) j.s (z.ps.map Sp.f) ∧ z.um.rep j.u
section
variable {L : aZ} {R : Value → Heap → Prop} {G : Heap} {rest pre sb : Bl} {A B : Ar} {I : List Nat} {g : Gd} {at_ : Int} {q mq x n w z1 : Nat} {s : Sl} {e : List LE} {f : Nat → Dq}
end
section
variable {L : aZ} {R : Value → Heap → Prop} {I : List Nat} {H : Heap} {g : Gd} {m at_ : Int} {x q mq : Nat} {s : Sl} {sb : Bl} {S : Sg} {l : Int → List (Int × Int)} {e : List LE} {n h E0 : Int} {z1 z2 ob : Nat} {a b : Bool} {i : Int} {A : Ar} {f : Nat → Dq} {pp : Pp} {z : St} {j : TJ} {rest : Bl} {kp kt : Nat} {T Bw O : Int} {c : Bool} {K : Heap}
end
section
variable {L : aZ} {R : Value → Heap → Prop} {H : Heap} {I : List Nat} {A : Ar} {N : Nat}
theorem JR {t e u T : TypeId} {b : Nat} {g : Nat → Value} {k : Int} {lf : iH} {x : lf.T} {t' : Addr → lf.T → Tree} {l : Bl} {info : TypeInfo} (hA : Aw I A) (ok : Ok I H (keys l)) (hb : (b, oc T (l3 N g)) ∈ l) (hu : Tryz.prog.underlying t = some (.array N e)) (hi : Tryz.prog.info? e = some info) (hs : info.size = 1) (k0 : 0 ≤ k) (k1 : k < N)
    (hx : Lf.dec lf (g k.toNat) = some x) (h : wp Tryz.prog (t' ⟨b, 0 + k.toNat, none⟩ x) L (own A l H) R) :
    wp Tryz.prog (.look (opS Tryz.prog (.indexAddr t (.tmp 0) (.tmp 1)) u [.pointer (some ⟨b, 0, none⟩), .int .i64 k]) (.one (.leaf .addr)) fun y => .ld y lf (t' y)) L (own A l H) R := by
  refine Nx (A := A) (e := e) (n := N) hu hi hs k0 (by omega) ?_
  refine eQ (x := x) hA ok rfl hb ?_ h
  rw [Nat.zero_add, ue (by omega)]; exact hx
theorem BH (ix : Nat) {t e u T : TypeId} {b : Nat} {g : Nat → Value} {k : Int} {v : Value} {t' : Tree} {l : Bl} {info : TypeInfo} (hA : Aw I A) (ok : Ok I H (keys l)) (hb : l[ix]? = some (b, oc T (l3 N g))) (hu : Tryz.prog.underlying t = some (.array N e)) (hi : Tryz.prog.info? e = some info) (hs : info.size = 1) (k0 : 0 ≤ k) (k1 : k < N) (hv : Value.single v = true)
    (h : wp Tryz.prog t' L (own A (l.set ix (b, oc T (l3 N fun j => if j = k.toNat then v else g j))) H) R) :
    wp Tryz.prog (.look (opS Tryz.prog (.indexAddr t (.tmp 0) (.tmp 1)) u [.pointer (some ⟨b, 0, none⟩), .int .i64 k]) (.one (.leaf .addr)) fun y => .st y v t') L (own A l H) R := by
  refine Nx (A := A) (e := e) (n := N) hu hi hs k0 (by omega) ?_
  refine cA ix hA ok rfl hb hv (by rw [wK]; exact decide_eq_true (by omega)) ?_
  rw [Nat.zero_add, I8]; exact h
end
structure MC where
  I : List Nat
  H : Heap
  g : Gd
  m : Int
  at_ : Int
  x : Nat
  q : Nat
  mq : Nat
  ob : Nat
  b6 : Nat
  bs : Nat
  bl : Nat
  s : Sl
  sb : Bl
  n : Nat
  f : Nat → Dq
structure OJ where
  b : Nat
  e : List LE
  j : PsJ
  pf : Nat → Option Addr
def OBl (C : MC) (o : DOw) : OwM → OJ → Bl
  | .no, J => (C.ob, oc aC (owC o C.q)) :: C.g.bl C.q C.mq J.e
  | .push x, J => Ps.bl C.q C.mq x J.j
  | .pop x, J => Pp.bl C.q C.ob x J.b ++ C.g.bl C.q C.mq J.e
def LD (C : MC) (ls : Int → List (Int × Int)) : OwM → OJ → Prop
  | .no, J => GdS J.e ls
  | .push x, J => (mPs C.q C.mq C.ob).rep x J.j ∧ x.g = C.g
  | .pop x, J => GdS J.e ls
def tb (C : MC) (zs : Nat → Option St) (tj : Nat → TJ) (r : Nat) : Bl := match zs r with
  | none => []
  | some z => tBl C.q z (tj r)
def A6 (C : MC) (pf : Nat → Option Addr) : Nat × Obj := (C.b6, oc aX (l3 6 fun r => .pointer (pf r)))
def AS (C : MC) (seen : Nat → Int) : Nat × Obj := (C.bs, oc bX (l3 600 fun u => .int .i64 (seen u)))
def AL (C : MC) (last : Nat → Int) : Nat × Obj := (C.bl, oc gA (l3 6 fun r => .int .i64 (last r)))
def MW (C : MC) : Nat × Obj := (C.x, oc bI (wC C.I C.q C.g.pl C.at_ C.s))
def MLc (C : MC) (o : DOw) (ow : OwM) (J : OJ) (zs : Nat → Option St) (tj : Nat → TJ) (seen last : Nat → Int) (tl : Bl) : Bl :=
  MW C :: A6 C J.pf :: AS C seen :: AL C last :: (OBl C o ow J ++ (fD (fun i => (C.f i).bl C.q) 0 C.n ++ (C.sb ++ (eG (tb C zs tj) 6 ++ tl))))
def ML (C : MC) (D : PD) (J : OJ) (tj : Nat → TJ) (tl : Bl) : Bl := MLc C D.o D.ow J D.zs tj D.seen D.last tl
structure MS (C : MC) (A : Ar) (D : PD) (J : OJ) (tj : Nat → TJ) (tl : Bl) : Prop where
  aw : Aw C.I A
  ok : Ok C.I C.H (keys (ML C D J tj tl))
  hs : dH C.sb cg eP C.s (obs C.f C.n)
  n0 : 0 < C.n
  fo : (C.f 0).ob = C.ob
  px : PX C.g C.m C.at_ A D
  rep : LD C D.ls D.ow J
  tr : ∀ r z, D.zs r = some z → KZ z (tj r)
  rB : ∀ r, 6 ≤ r → D.zs r = none
  pf : ∀ r z, D.zs r = some z → J.pf r = some ⟨(tj r).b, 0, none⟩
section
variable {C : MC} {A B : Ar} {D D' : PD} {J J' : OJ} {tj tj' : Nat → TJ} {tl : Bl} {o : DOw} {ow : OwM} {zs : Nat → Option St} {seen last : Nat → Int} {r : Nat} {z z' : St} {x x' : Ps} {y y' : Pp} {ls : Int → List (Int × Int)}
theorem N4 (R : LD C ls ow J) : ∃ (E : List LE) (fr : Bl), ∀ (c : Bl → Nat) (d : Nat × Obj → Nat), c [] = 0 → (∀ a l, c (a :: l) = d a + c l) → (∀ a b, c (a ++ b) = c a + c b) → c (OBl C o ow J) = c (C.g.bl C.q C.mq E) + c fr := by
  cases ow with
  | no => exact ⟨J.e, [(C.ob, oc aC (owC o C.q))], fun c d c0 cd ca => by show c (_ :: _) = _; simp only [cd, ca, c0]; omega⟩
  | pop y => exact ⟨J.e, Pp.bl C.q C.ob y J.b, fun c d c0 cd ca => by show c (_ ++ _) = _; simp only [cd, ca, c0]; omega⟩
  | push x =>
    obtain ⟨⟨hr, _⟩, hg⟩ := R
    obtain ⟨g, xls, xo, v, t, what, alloc, copy, old, now, bS⟩ := x
    obtain ⟨Jb, Je, ⟨b, ob, e, lj, aj, cj, ov, gar⟩, pf⟩ := J
    have hg : g = C.g := hg
    subst hg
    cases old with
    | none =>
      refine ⟨e, (b, oc aJ (psC ob v t what (alX alloc aj) (cpX copy cj) (gmW none lj ov) now bS)) :: (ob, oc aC (owC xo C.q)) :: (jL alloc aj ++ (jj copy cj ++ gar)), fun c d c0 cd ca => ?_⟩
      show c ((b, oc aJ (psC ob v t what (alX alloc aj) (cpX copy cj) (gmW none lj ov) now bS)) :: (ob, oc aC (owC xo C.q)) :: (C.g.bl C.q C.mq e ++ (jL alloc aj ++ (jj copy cj ++ gar)))) = _
      simp only [cd, ca]
      omega
    | some y =>
      obtain ⟨⟨_, e1, e2⟩, e3⟩ : (mLk C.q C.mq).rep y lj ∧ y.g = C.g := hr
      refine ⟨lj.e, (b, oc aJ (psC ob v t what (alX alloc aj) (cpX copy cj) (gmW (some y) lj ov) now bS)) :: (ob, oc aC (owC xo C.q)) :: (lj.q, oc aH (lkC lj.gq y.work y.first y.times (y.m.val lj.tj lj.sj))) :: (y.m.bl lj.tj lj.sj ++ (lj.gar ++ (jL alloc aj ++ (jj copy cj ++ gar)))), fun c d c0 cd ca => ?_⟩
      show c ((b, oc aJ (psC ob v t what (alX alloc aj) (cpX copy cj) (gmW (some y) lj ov) now bS)) :: (ob, oc aC (owC xo C.q)) :: (((lj.q, oc aH (lkC lj.gq y.work y.first y.times (y.m.val lj.tj lj.sj))) :: (y.g.bl lj.gq lj.mq lj.e ++ (y.m.bl lj.tj lj.sj ++ lj.gar))) ++ (jL alloc aj ++ (jj copy cj ++ gar)))) = _
      rw [e1, e2, e3]
      simp only [cd, ca, List.cons_append, List.append_assoc]
      omega
theorem Cb {p : Nat → Option Addr} (R : LD C ls ow J) : LD C ls ow { J with pf := p } := by
  cases ow <;> exact R
theorem MS.Iy (E : MS C A D J tj tl) (hz : D.zs r = some z) : ∃ (e : List LE) (RT : Bl), (own A (ML C D J tj tl) C.H = own A ((mTs C.g C.q C.mq e).bl z (tj r) ++ RT) C.H ∧ Ok C.I C.H (keys ((mTs C.g C.q C.mq e).bl z (tj r) ++ RT))) ∧
    ∀ B z' j', j'.b = (tj r).b → Ok C.I C.H (keys ((mTs C.g C.q C.mq e).bl z' j' ++ RT)) →
      own B ((mTs C.g C.q C.mq e).bl z' j' ++ RT) C.H = own B (MLc C D.o D.ow J (bm D.zs r (some z')) (bm tj r j') D.seen D.last tl) C.H ∧ Ok C.I C.H (keys (MLc C D.o D.ow J (bm D.zs r (some z')) (bm tj r j') D.seen D.last tl)) := by
  obtain ⟨e, fr, hfr⟩ := N4 (o := D.o) E.rep
  have hr : r < 6 := by
    by_cases h : r < 6
    · exact h
    · have := E.rB r (by omega); rw [hz] at this; cases this
  have et : tb C D.zs tj r = tBl C.q z (tj r) := by unfold tb; rw [hz]
  refine ⟨e, MW C :: A6 C J.pf :: AS C D.seen :: AL C D.last :: (fr ++ (fD (fun i => (C.f i).bl C.q) 0 C.n ++ (C.sb ++ (fD (tb C D.zs tj) r 6 ++ tl)))), ?_, fun B z' j' hj ok => ?_⟩
  · refine aN (A := A) E.ok (aT fun c d c0 cd ca => ?_)
    show c (MW C :: A6 C J.pf :: AS C D.seen :: AL C D.last :: (OBl C D.o D.ow J ++ (fD (fun i => (C.f i).bl C.q) 0 C.n ++ (C.sb ++ (eG (tb C D.zs tj) 6 ++ tl))))) = c ((C.g.bl C.q C.mq e ++ tBl C.q z (tj r)) ++ _)
    simp only [cd, ca, hfr c d c0 cd ca, qn c0 ca (tb C D.zs tj) hr, et]
    omega
  · have et' : tb C (bm D.zs r (some z')) (bm tj r j') r = tBl C.q z' j' := by unfold tb; rw [bf, bf]
    have en : fD (tb C (bm D.zs r (some z')) (bm tj r j')) r 6 = fD (tb C D.zs tj) r 6 := wD (fun i h => by unfold tb; rw [bB _ _ h, bB _ _ h]) 6
    refine aN (A := B) ok (aT fun c d c0 cd ca => ?_)
    show c ((C.g.bl C.q C.mq e ++ tBl C.q z' j') ++ _) = c (MW C :: A6 C J.pf :: AS C D.seen :: AL C D.last :: (OBl C D.o D.ow J ++ (fD (fun i => (C.f i).bl C.q) 0 C.n ++ (C.sb ++ (eG (tb C (bm D.zs r (some z')) (bm tj r j')) 6 ++ tl)))))
    simp only [cd, ca, hfr c d c0 cd ca, qn c0 ca (tb C (bm D.zs r (some z')) (bm tj r j')) hr, et', en]
    omega
theorem MS.JU (E : MS C A D J tj tl) (hx : D.ow = .push x) : ∃ RT : Bl, (own A (ML C D J tj tl) C.H = own A ((mPs C.q C.mq C.ob).bl x J.j ++ RT) C.H ∧ Ok C.I C.H (keys ((mPs C.q C.mq C.ob).bl x J.j ++ RT))) ∧
    ∀ B x' j' o', Ok C.I C.H (keys ((mPs C.q C.mq C.ob).bl x' j' ++ RT)) →
      own B ((mPs C.q C.mq C.ob).bl x' j' ++ RT) C.H = own B (MLc C o' (.push x') { J with j := j' } D.zs tj D.seen D.last tl) C.H ∧ Ok C.I C.H (keys (MLc C o' (.push x') { J with j := j' } D.zs tj D.seen D.last tl)) := by
  refine ⟨MW C :: A6 C J.pf :: AS C D.seen :: AL C D.last :: (fD (fun i => (C.f i).bl C.q) 0 C.n ++ (C.sb ++ (eG (tb C D.zs tj) 6 ++ tl))), ?_, fun B x' j' o' ok => ?_⟩
  · refine aN (A := A) E.ok (aT fun c d c0 cd ca => ?_)
    show c (MW C :: A6 C J.pf :: AS C D.seen :: AL C D.last :: (OBl C D.o D.ow J ++ (fD (fun i => (C.f i).bl C.q) 0 C.n ++ (C.sb ++ (eG (tb C D.zs tj) 6 ++ tl))))) = c (Ps.bl C.q C.mq x J.j ++ _)
    rw [hx]
    show c (MW C :: A6 C J.pf :: AS C D.seen :: AL C D.last :: (Ps.bl C.q C.mq x J.j ++ (fD (fun i => (C.f i).bl C.q) 0 C.n ++ (C.sb ++ (eG (tb C D.zs tj) 6 ++ tl))))) = _
    simp only [cd, ca]
    omega
  · refine aN (A := B) ok (aT fun c d c0 cd ca => ?_)
    show c (Ps.bl C.q C.mq x' j' ++ _) = c (MW C :: A6 C J.pf :: AS C D.seen :: AL C D.last :: (Ps.bl C.q C.mq x' j' ++ (fD (fun i => (C.f i).bl C.q) 0 C.n ++ (C.sb ++ (eG (tb C D.zs tj) 6 ++ tl)))))
    simp only [cd, ca]
    omega
theorem MS.Ie (E : MS C A D J tj tl) (hx : D.ow = .pop y) : ∃ RT : Bl, (own A (ML C D J tj tl) C.H = own A ((mPp C.q C.ob).toR.bl y J.b ++ RT) C.H ∧ Ok C.I C.H (keys ((mPp C.q C.ob).toR.bl y J.b ++ RT))) ∧
    ∀ B y' j' o', Ok C.I C.H (keys ((mPp C.q C.ob).toR.bl y' j' ++ RT)) →
      own B ((mPp C.q C.ob).toR.bl y' j' ++ RT) C.H = own B (MLc C o' (.pop y') { J with b := j' } D.zs tj D.seen D.last tl) C.H ∧ Ok C.I C.H (keys (MLc C o' (.pop y') { J with b := j' } D.zs tj D.seen D.last tl)) := by
  refine ⟨C.g.bl C.q C.mq J.e ++ MW C :: A6 C J.pf :: AS C D.seen :: AL C D.last :: (fD (fun i => (C.f i).bl C.q) 0 C.n ++ (C.sb ++ (eG (tb C D.zs tj) 6 ++ tl))), ?_, fun B y' j' o' ok => ?_⟩
  · refine aN (A := A) E.ok (aT fun c d c0 cd ca => ?_)
    show c (MW C :: A6 C J.pf :: AS C D.seen :: AL C D.last :: (OBl C D.o D.ow J ++ (fD (fun i => (C.f i).bl C.q) 0 C.n ++ (C.sb ++ (eG (tb C D.zs tj) 6 ++ tl))))) = c (Pp.bl C.q C.ob y J.b ++ _)
    rw [hx]
    show c (MW C :: A6 C J.pf :: AS C D.seen :: AL C D.last :: ((Pp.bl C.q C.ob y J.b ++ C.g.bl C.q C.mq J.e) ++ (fD (fun i => (C.f i).bl C.q) 0 C.n ++ (C.sb ++ (eG (tb C D.zs tj) 6 ++ tl))))) = _
    simp only [cd, ca]
    omega
  · refine aN (A := B) ok (aT fun c d c0 cd ca => ?_)
    show c (Pp.bl C.q C.ob y' j' ++ _) = c (MW C :: A6 C J.pf :: AS C D.seen :: AL C D.last :: ((Pp.bl C.q C.ob y' j' ++ C.g.bl C.q C.mq J.e) ++ (fD (fun i => (C.f i).bl C.q) 0 C.n ++ (C.sb ++ (eG (tb C D.zs tj) 6 ++ tl)))))
    simp only [cd, ca]
    omega
end
section
variable {C : MC} {A B : Ar} {D D' : PD} {J J' : OJ} {tj tj' : Nat → TJ} {tl : Bl} {r : Nat} {z z' : St} {x x' : Ps} {y y' : Pp} {L : aZ} {R : Value → Heap → Prop} {K : Bool → Tree} {g : Gd}
theorem Jm (h : tmu A g z ≠ 0) : ¬ (z.um.ji = true ∧ z.x.leaves = true) := fun ⟨a, b⟩ => by
  obtain ⟨x, ps, um⟩ := z
  cases um with
  | no =>
    have b : x.leaves = true := b
    exact h (if_pos b)
  | pin p => cases a
  | se p => cases a
  | one p => cases a
theorem TmP.NP {at_ T O r P : Int} {ph : Oph} {lim : List (Int × Int)} {val : Int → Int} (D : TmP A g at_ ph lim T O val r P z) : tmu A g z ≤ 14 := by
  have no : ∀ {x : Ts} {ps : List Sp}, ps.length ≤ 7 → tmu A g ⟨x, ps, .no⟩ ≤ 14 := fun {x ps} h => by
    show (if x.leaves = true then 0 else _) ≤ 14
    split
    · omega
    · split
      · omega
      · omega
      · show 2 + ps.length ≤ 14; omega
  have pn : ∀ {x : Ts} {ps : List Sp} {p : Pn}, tmu A g ⟨x, ps, .pin p⟩ ≤ 14 := fun {x ps p} => by
    show (if p.e = A.ao g.ta then 12 - p.ph else 14 - p.ph) ≤ 14
    split <;> omega
  cases D with
  | start a => show (if _ then 0 else 14) ≤ 14; split <;> decide
  | pin1 => exact pn
  | pin2 => exact pn
  | rd => exact no (by decide)
  | la => exact no (by decide)
  | bu => exact no (by decide)
  | ho => exact no (by decide)
  | ag => exact no (by decide)
  | lo => exact no (by decide)
  | ta => exact no (by decide)
  | en => exact no (by decide)
  | lv => show (1 : Nat) ≤ 14; decide
  | dn => exact no (by decide)
structure Hn (D D' : PD) : Prop where
  last : D'.last = D.last
  seen : D'.seen = D.seen
  pushed : D'.pushed = D.pushed
  ow : D'.ow = D.ow
  o : D'.o = D.o
  ls : D'.ls = D.ls
  hand : D'.hand = D.hand
theorem MS.mkT {j' : TJ} (E : MS C A D J tj tl) (hz : D.zs r = some z) (px : PX C.g C.m C.at_ B D') (k : Hn D D') (ez : D'.zs = bm D.zs r (some z')) (hB : Aw C.I B) (hj : j'.b = (tj r).b) (rp : KZ z' j') (ok : Ok C.I C.H (keys (MLc C D.o D.ow J (bm D.zs r (some z')) (bm tj r j') D.seen D.last tl))) :
    ML C D' J (bm tj r j') tl = MLc C D.o D.ow J (bm D.zs r (some z')) (bm tj r j') D.seen D.last tl ∧ MS C B D' J (bm tj r j') tl := by
  have eq : ML C D' J (bm tj r j') tl = MLc C D.o D.ow J (bm D.zs r (some z')) (bm tj r j') D.seen D.last tl := by
    unfold ML; rw [k.o, k.ow, ez, k.seen, k.last]
  refine ⟨eq, hB, by rw [eq]; exact ok, E.hs, E.n0, E.fo, px, by rw [k.ls, k.ow]; exact E.rep, fun i z1 h1 => ?_, fun i hi => ?_, fun i z1 h1 => ?_⟩
  · rw [ez] at h1
    by_cases e : i = r
    · subst e; rw [bf] at h1 ⊢; cases h1; exact rp
    · rw [bB _ _ e] at h1 ⊢; exact E.tr i z1 h1
  · rw [ez]
    by_cases e : i = r
    · subst e; have := E.rB i hi; rw [hz] at this; cases this
    · rw [bB _ _ e]; exact E.rB i hi
  · rw [ez] at h1
    by_cases e : i = r
    · subst e; rw [bf, hj]; exact E.pf i z hz
    · rw [bB _ _ e] at h1 ⊢; exact E.pf i z1 h1
theorem Oz {j' : TJ} (h : j'.b = (tj r).b) (i : Nat) : (bm tj r j' i).b = (tj i).b := by
  by_cases e : i = r
  · subst e; rw [bf]; exact h
  · rw [bB _ _ e]
theorem MS.Ny (E : MS C A D J tj tl) (hz : D.zs r = some z) (hn : tmu A C.g z ≠ 0) (hU : D.U + 1 ≤ 800000)
    (hk : ∀ B D' z' tj', MS C B D' J tj' tl → Hn D D' → D'.zs = bm D.zs r (some z') → D'.U = D.U + 1 → B.aD = A.aD + 1 → (z'.um.ji && z'.x.leaves) = decide (tmu B C.g z' = 0) → (∀ i, (tj' i).b = (tj i).b) → wp Tryz.prog (K (z'.um.ji && z'.x.leaves)) L (own B (ML C D' J tj' tl) C.H) R) :
    wp Tryz.prog (.call gI [.pointer (some ⟨(tj r).b, 0, none⟩), .pointer (aI C.I)] (.one (.leaf .bool)) K) L (own A (ML C D J tj tl) C.H) R := by
  obtain ⟨z', B, D', st, iv, us, mu, fin, px, e1, e2, e3, e4, e5, e6, e7, e8, e9⟩ := E.px.LR hz (Jm hn) hU
  obtain ⟨e, RT, ⟨p1, o1⟩, back⟩ := E.Iy hz
  rw [p1]
  refine B9 (X := mTs C.g C.q C.mq e) Ec (j := tj r) st E.aw o1 (E.tr r z hz) iv fun j' ha hB ok3 rp' => ?_
  have ha : j'.b = (tj r).b := ha
  obtain ⟨p2, o2⟩ := back B z' j' ha ok3
  obtain ⟨eq, E'⟩ := E.mkT hz px ⟨e2, e3, e4, e6, e7, e8, e9⟩ e1 hB ha rp' o2
  rw [p2, ← eq]
  exact hk B D' z' _ E' ⟨e2, e3, e4, e6, e7, e8, e9⟩ e1 e5 us fin (Oz ha)
theorem MS.Pq (E : MS C A D J tj tl) (hz : D.zs r = some z) (hn : tmu A C.g z ≠ 0) (hU : D.U + 14 ≤ 800000)
    (hk : ∀ B D' z' tj', MS C B D' J tj' tl → Hn D D' → D'.zs = bm D.zs r (some z') → D'.U ≤ D.U + 14 → (z'.um.ji && z'.x.leaves) = true → (∀ i, (tj' i).b = (tj i).b) → wp Tryz.prog (K true) L (own B (ML C D' J tj' tl) C.H) R) :
    wp Tryz.prog (.call bM [.pointer (aI C.I), .iface ae (.pointer (some ⟨(tj r).b, 0, none⟩))] (.one (.leaf .bool)) K) L (own A (ML C D J tj tl) C.H) R := by
  obtain ⟨e, RT, ⟨p1, o1⟩, back⟩ := E.Iy hz
  have m14 := (E.px.th r z hz).2.2.NP
  rw [p1]
  refine EN (X := mTs C.g C.q C.mq e) Ec (FP C.g C.q C.mq e)
    (F := fun n z1 A1 => ∃ D1, PX C.g C.m C.at_ A1 D1 ∧ Hn D D1 ∧ D1.zs = bm D.zs r (some z1) ∧ tmu A1 C.g z1 = n ∧ n ≠ 0 ∧ D1.U + n ≤ D.U + 14)
    (E := fun z1 A1 => ∃ D1, PX C.g C.m C.at_ A1 D1 ∧ Hn D D1 ∧ D1.zs = bm D.zs r (some z1) ∧ D1.U ≤ D.U + 14 ∧ (z1.um.ji && z1.x.leaves) = true) ?_ (n := tmu A C.g z)
    ⟨D, E.px, ⟨rfl, rfl, rfl, rfl, rfl, rfl, rfl⟩, ?_, rfl, hn, by omega⟩ (by omega) (j := tj r) E.aw o1 (E.tr r z hz) ?_
  · rintro n z1 A1 _ ⟨D1, px1, k1, h1, h2, h3, h4⟩
    have hz1 : D1.zs r = some z1 := by rw [h1, bf]
    obtain ⟨z2, B, D2, st, iv, us, mu, fin, px, e1, e2, e3, e4, e5, e6, e7, e8, e9⟩ := px1.LR hz1 (Jm (by rw [h2]; exact h3)) (by omega)
    have ub := px1.z.us
    have u0 := px1.z.sl.F.us
    have k2 : Hn D D2 := ⟨e2.trans k1.last, e3.trans k1.seen, e4.trans k1.pushed, e6.trans k1.ow, e7.trans k1.o, e8.trans k1.ls, e9.trans k1.hand⟩
    have ez : D2.zs = bm D.zs r (some z2) := by
      rw [e1, h1]; funext i
      by_cases e : i = r
      · subst e; rw [bf, bf]
      · rw [bB _ _ e, bB _ _ e, bB _ _ e]
    refine ⟨iv, z2, B, st, by rw [us, aE (by omega) (by omega)]; exact Int.le_refl _, ?_⟩
    by_cases hm : tmu B C.g z2 = 0
    · exact .inl ⟨fin.trans (decide_eq_true hm), D2, px, k2, ez, by omega, fin.trans (decide_eq_true hm)⟩
    · exact .inr ⟨fin.trans (decide_eq_false hm), tmu B C.g z2, by omega, D2, px, k2, ez, rfl, hm, by omega⟩
  · funext i
    by_cases e : i = r
    · subst e; rw [bf]; exact hz
    · rw [bB _ _ e]
  · rintro z' B j' ⟨D', px, k, ez, hu, hf⟩ ha hB ok3 rp'
    have ha : j'.b = (tj r).b := ha
    obtain ⟨p2, o2⟩ := back B z' j' ha ok3
    obtain ⟨eq, E'⟩ := E.mkT hz px k ez hB ha rp' o2
    rw [p2, ← eq]
    exact hk B D' z' _ E' k ez hu hf (Oz ha)
theorem MS.mkP {j' : PsJ} (E : MS C A D J tj tl) (px : PX C.g C.m C.at_ B D') (zs : D'.zs = D.zs) (last : D'.last = D.last) (seen : D'.seen = D.seen) (hx : D'.ow = .push x') (hB : Aw C.I B) (rp : (mPs C.q C.mq C.ob).rep x' j') (ok : Ok C.I C.H (keys (MLc C D'.o (.push x') { J with j := j' } D.zs tj D.seen D.last tl))) :
    ML C D' { J with j := j' } tj tl = MLc C D'.o (.push x') { J with j := j' } D.zs tj D.seen D.last tl ∧ MS C B D' { J with j := j' } tj tl := by
  have eq : ML C D' { J with j := j' } tj tl = MLc C D'.o (.push x') { J with j := j' } D.zs tj D.seen D.last tl := by
    unfold ML; rw [hx, zs, seen, last]
  have W := px.ow
  rw [hx] at W
  exact ⟨eq, hB, by rw [eq]; exact ok, E.hs, E.n0, E.fo, px, by rw [hx]; exact ⟨rp, W.pg.1⟩, fun i z1 h1 => E.tr i z1 (by rw [← zs]; exact h1), fun i hi => by rw [zs]; exact E.rB i hi, fun i z1 h1 => E.pf i z1 (by rw [← zs]; exact h1)⟩
theorem MS.N9 (E : MS C A D J tj tl) (hx : D.ow = .push x) (hn : x.what ≠ 7) (hU : D.U + 1 ≤ 800000)
    (hk : ∀ B D' x' J', MS C B D' J' tj tl → jn D D' → D'.ow = .push x' → B.aD = A.aD + 1 → J'.j.b = J.j.b → J'.pf = J.pf → wp Tryz.prog (K ((x'.what : Int) == 7)) L (own B (ML C D' J' tj tl) C.H) R) :
    wp Tryz.prog (.call gU [.pointer (some ⟨J.j.b, 0, none⟩), .pointer (aI C.I)] (.one (.leaf .bool)) K) L (own A (ML C D J tj tl) C.H) R := by
  obtain ⟨x', B, D', st, iv, us, mu, px, ow', sm⟩ := E.px.push hx hn E.aw.wf hU
  obtain ⟨RT, ⟨p1, o1⟩, back⟩ := E.JU hx
  have rp := E.rep
  rw [hx] at rp
  rw [p1]
  refine B9 (X := mPs C.q C.mq C.ob) (EM _ _ _) (j := J.j) st E.aw o1 rp.1 iv fun j' ha hB ok3 rp' => ?_
  obtain ⟨p2, o2⟩ := back B x' j' D'.o ok3
  obtain ⟨eq, E'⟩ := E.mkP px sm.zs sm.last sm.seen ow' hB rp' o2
  rw [p2, ← eq]
  exact hk B D' x' _ E' sm ow' us ha rfl
theorem MS.prun (E : MS C A D J tj tl) (hx : D.ow = .push x) (hn : x.what ≠ 7) (hU : D.U + 3001 ≤ 800000)
    (hk : ∀ B D' x' J', MS C B D' J' tj tl → D'.zs = D.zs → D'.last = D.last → D'.seen = D.seen → D'.pushed = D.pushed → D'.U ≤ D.U + 3000 → D'.ow = .push x' → x'.what = 7 → J'.j.b = J.j.b → J'.pf = J.pf → wp Tryz.prog (K true) L (own B (ML C D' J' tj tl) C.H) R) :
    wp Tryz.prog (.call bM [.pointer (aI C.I), .iface cz (.pointer (some ⟨J.j.b, 0, none⟩))] (.one (.leaf .bool)) K) L (own A (ML C D J tj tl) C.H) R := by
  obtain ⟨RT, ⟨p1, o1⟩, back⟩ := E.JU hx
  have rp := E.rep
  rw [hx] at rp
  have W := E.px.ow
  rw [hx] at W
  have m3 := (Gc W E.px.z).2.2.2.1
  rw [p1]
  refine EN (X := mPs C.q C.mq C.ob) (EM _ _ _) (F3 _ _ _)
    (F := fun n x1 A1 => ∃ D1, PX C.g C.m C.at_ A1 D1 ∧ D1.zs = D.zs ∧ D1.last = D.last ∧ D1.seen = D.seen ∧ D1.pushed = D.pushed ∧ D1.ow = .push x1 ∧ pum A1 C.g.w x1 = n ∧ x1.what ≠ 7 ∧ D1.U + n ≤ D.U + 3000)
    (E := fun x1 A1 => ∃ D1, PX C.g C.m C.at_ A1 D1 ∧ D1.zs = D.zs ∧ D1.last = D.last ∧ D1.seen = D.seen ∧ D1.pushed = D.pushed ∧ D1.ow = .push x1 ∧ x1.what = 7 ∧ D1.U ≤ D.U + 3000) ?_ (n := pum A C.g.w x)
    ⟨D, E.px, rfl, rfl, rfl, rfl, hx, rfl, hn, by omega⟩ (by omega) (j := J.j) E.aw o1 rp.1 ?_
  · rintro n x1 A1 hwf ⟨D1, px1, k1, k2, k3, k4, h1, h2, h3, h4⟩
    obtain ⟨x2, B, D2, st, iv, us, mu, px, ow', sm⟩ := px1.push h1 h3 hwf (by omega)
    have ub := px1.z.us
    have ub2 := px1.z.ub
    have u0 := px1.z.sl.F.us
    have sU := sm.U
    refine ⟨iv, x2, B, st, by rw [us, aE (by omega) (by omega)]; exact Int.le_refl _, ?_⟩
    by_cases hm : x2.what = 7
    · exact .inl ⟨by show ((x2.what : Int) == 7) = true; rw [hm]; rfl, D2, px, sm.zs.trans k1, sm.last.trans k2, sm.seen.trans k3, sm.pushed.trans k4, ow', hm, by omega⟩
    · exact .inr ⟨by show ((x2.what : Int) == 7) = false; exact beq_eq_false_iff_ne.2 hm, pum B C.g.w x2, by omega, D2, px, sm.zs.trans k1, sm.last.trans k2, sm.seen.trans k3, sm.pushed.trans k4, ow', rfl, hm, by omega⟩
  · rintro x' B j' ⟨D', px, k1, k2, k3, k4, ow', hw, hu⟩ ha hB ok3 rp'
    obtain ⟨p2, o2⟩ := back B x' j' D'.o ok3
    obtain ⟨eq, E'⟩ := E.mkP px k1 k2 k3 ow' hB rp' o2
    rw [p2, ← eq]
    exact hk B D' x' _ E' k1 k2 k3 k4 hu ow' hw ha rfl
theorem MS.mkQ {j' : Nat} (E : MS C A D J tj tl) (hx0 : D.ow = .pop y) (px : PX C.g C.m C.at_ B D') (zs : D'.zs = D.zs) (last : D'.last = D.last) (seen : D'.seen = D.seen) (ls : D'.ls = D.ls) (hx : D'.ow = .pop y') (hB : Aw C.I B) (ok : Ok C.I C.H (keys (MLc C D'.o (.pop y') { J with b := j' } D.zs tj D.seen D.last tl))) :
    ML C D' { J with b := j' } tj tl = MLc C D'.o (.pop y') { J with b := j' } D.zs tj D.seen D.last tl ∧ MS C B D' { J with b := j' } tj tl := by
  have eq : ML C D' { J with b := j' } tj tl = MLc C D'.o (.pop y') { J with b := j' } D.zs tj D.seen D.last tl := by
    unfold ML; rw [hx, zs, seen, last]
  have rp := E.rep
  rw [hx0] at rp
  exact ⟨eq, hB, by rw [eq]; exact ok, E.hs, E.n0, E.fo, px, by rw [hx, ls]; exact rp, fun i z1 h1 => E.tr i z1 (by rw [← zs]; exact h1), fun i hi => by rw [zs]; exact E.rB i hi, fun i z1 h1 => E.pf i z1 (by rw [← zs]; exact h1)⟩
theorem MS.OL (E : MS C A D J tj tl) (hx : D.ow = .pop y) (hn : y.what ≠ 5) (hU : D.U + 1 ≤ 800000)
    (hk : ∀ B D' y' J', MS C B D' J' tj tl → jn D D' → D'.ow = .pop y' → B.aD = A.aD + 1 → J'.b = J.b → J'.pf = J.pf → wp Tryz.prog (K ((y'.what : Int) == 5)) L (own B (ML C D' J' tj tl) C.H) R) :
    wp Tryz.prog (.call iz [.pointer (some ⟨J.b, 0, none⟩), .pointer (aI C.I)] (.one (.leaf .bool)) K) L (own A (ML C D J tj tl) C.H) R := by
  obtain ⟨y', B, D', st, iv, eo, us, mu, px, ow', o', ls', sm, _⟩ := E.px.pop hx hn E.aw.wf hU
  obtain ⟨RT, ⟨p1, o1⟩, back⟩ := E.Ie hx
  rw [p1]
  refine B9 (X := (mPp C.q C.ob).toR) (Mch.EU J3) (j := J.b) st E.aw o1 trivial iv fun j' ha hB ok3 _ => ?_
  obtain ⟨p2, o2⟩ := back B y' j' D'.o ok3
  obtain ⟨eq, E'⟩ := E.mkQ hx px sm.zs sm.last sm.seen ls' ow' hB o2
  rw [p2, ← eq]
  exact hk B D' y' _ E' sm ow' us ha rfl
theorem MS.Ov (E : MS C A D J tj tl) (hx : D.ow = .pop y) (hn : y.what ≠ 5) (hU : D.U + 6 ≤ 800000)
    (hk : ∀ B D' y' J', MS C B D' J' tj tl → D'.zs = D.zs → D'.last = D.last → D'.seen = D.seen → D'.pushed = D.pushed → D'.U ≤ D.U + 5 → D'.ow = .pop y' → y'.what = 5 → J'.b = J.b → J'.pf = J.pf → (D'.O - D'.T) + D'.hand.length = (D.O - D.T) + D.hand.length → wp Tryz.prog (K true) L (own B (ML C D' J' tj tl) C.H) R) :
    wp Tryz.prog (.call bM [.pointer (aI C.I), .iface bO (.pointer (some ⟨J.b, 0, none⟩))] (.one (.leaf .bool)) K) L (own A (ML C D J tj tl) C.H) R := by
  obtain ⟨RT, ⟨p1, o1⟩, back⟩ := E.Ie hx
  have m5 : ppm y ≤ 5 := by
    unfold ppm
    repeat' split
    all_goals omega
  rw [p1]
  refine EN (X := (mPp C.q C.ob).toR) (Mch.EU J3) (IT C.q C.ob)
    (F := fun n y1 A1 => ∃ D1, PX C.g C.m C.at_ A1 D1 ∧ D1.zs = D.zs ∧ D1.last = D.last ∧ D1.seen = D.seen ∧ D1.pushed = D.pushed ∧ D1.ls = D.ls ∧ D1.ow = .pop y1 ∧ ppm y1 = n ∧ y1.what ≠ 5 ∧ D1.U + n ≤ D.U + 5 ∧ (D1.O - D1.T) + D1.hand.length = (D.O - D.T) + D.hand.length)
    (E := fun y1 A1 => ∃ D1, PX C.g C.m C.at_ A1 D1 ∧ D1.zs = D.zs ∧ D1.last = D.last ∧ D1.seen = D.seen ∧ D1.pushed = D.pushed ∧ D1.ls = D.ls ∧ D1.ow = .pop y1 ∧ y1.what = 5 ∧ D1.U ≤ D.U + 5 ∧ (D1.O - D1.T) + D1.hand.length = (D.O - D.T) + D.hand.length) ?_ (n := ppm y)
    ⟨D, E.px, rfl, rfl, rfl, rfl, rfl, hx, rfl, hn, by omega, rfl⟩ (by omega) (j := J.b) E.aw o1 trivial ?_
  · rintro n y1 A1 hwf ⟨D1, px1, k1, k2, k3, k4, k5, h1, h2, h3, h4, h5⟩
    obtain ⟨y2, B, D2, st, iv, eo, us, mu, px, ow', o', ls', sm, q1, q2⟩ := px1.pop h1 h3 hwf (by omega)
    have ub := px1.z.us
    have ub2 := px1.z.ub
    have u0 := px1.z.sl.F.us
    have sU := sm.U
    have hl : (D2.O - D2.T) + D2.hand.length = (D.O - D.T) + D.hand.length := by
      by_cases hh : D1.hand = []
      · have := q1 hh
        rw [hh] at h5
        have h5 : D1.O - D1.T + 0 = D.O - D.T + D.hand.length := h5
        omega
      · obtain ⟨a, b⟩ := q2 hh
        omega
    refine ⟨iv, y2, B, st, by rw [us, aE (by omega) (by omega)]; exact Int.le_refl _, ?_⟩
    by_cases hm : y2.what = 5
    · exact .inl ⟨by show ((y2.what : Int) == 5) = true; rw [hm]; rfl, D2, px, sm.zs.trans k1, sm.last.trans k2, sm.seen.trans k3, sm.pushed.trans k4, ls'.trans k5, ow', hm, by omega, hl⟩
    · exact .inr ⟨by show ((y2.what : Int) == 5) = false; exact beq_eq_false_iff_ne.2 hm, ppm y2, by omega, D2, px, sm.zs.trans k1, sm.last.trans k2, sm.seen.trans k3, sm.pushed.trans k4, ls'.trans k5, ow', rfl, hm, by omega, hl⟩
  · rintro y' B j' ⟨D', px, k1, k2, k3, k4, k5, ow', hw, hu, hl⟩ ha hB ok3 _
    obtain ⟨p2, o2⟩ := back B y' j' D'.o ok3
    obtain ⟨eq, E'⟩ := E.mkQ hx px k1 k2 k3 k5 ow' hB o2
    rw [p2, ← eq]
    exact hk B D' y' _ E' k1 k2 k3 k4 hu ow' hw ha rfl hl
end
section
variable {C : MC} {A B : Ar} {D D' : PD} {J J' : OJ} {tj tj' : Nat → TJ} {tl : Bl} {r : Nat} {z z' : St} {x x' : Ps} {y y' : Pp} {L : aZ} {R : Value → Heap → Prop} {t : Tree} {g : Gd} {o : DOw} {ow : OwM} {zs : Nat → Option St} {seen last : Nat → Int} {u : TypeId}
theorem Mq {l : Bl} {H : Heap} {I : List Nat} {b q : Nat} {s1 : Sl} {y : Ts} (hA : Aw I A) (ok : Ok I H (keys l)) (hm : stB b q y s1 .nilIface ∈ l) (lv : y.leaves = true) {K : HL Sh1.T [(.leaf (.int .i64)), (.leaf .bool)] → Tree} (hk : wp Tryz.prog (K ((if y.ok = true then y.v else 0), y.ok, ())) L (own A l H) R) :
    wp Tryz.prog (.call dy [.pointer (some ⟨b, 0, none⟩)] (.tup [(.leaf (.int .i64)), (.leaf .bool)]) K) L (own A l H) R := by
  have hm : (b, oc ab (tsC y q s1 .nilIface)) ∈ l := hm
  refine ax (x := ((if y.ok = true then y.v else 0), y.ok, ())) (H' := own A l H) ?_ hk
  refine kc fun L => ?_
  unfold jU
  refine aa.2 (eQ (x := y.ok) hA ok rfl hm rfl ?_)
  cases hk : y.ok with
  | false => exact av rfl (ad ⟨rfl, rfl⟩)
  | true =>
    refine af rfl ?_
    refine aa.2 (eQ (x := .nilIface) hA ok rfl hm rfl ?_)
    refine aB (x := false) (F8 _) (af rfl ?_)
    refine aa.2 (eQ (x := y.leaves) hA ok rfl hm rfl ?_)
    rw [lv]
    refine af rfl ?_
    refine aa.2 (eQ (x := y.v) hA ok rfl hm rfl ?_)
    exact ad ⟨rfl, rfl⟩
theorem xO {k : Int} {K : Option Addr → Tree} (hA : Aw C.I A) (ok : Ok C.I C.H (keys (MLc C o ow J zs tj seen last tl))) (k0 : 0 ≤ k) (k1 : k < 6) (h : wp Tryz.prog (K (J.pf k.toNat)) L (own A (MLc C o ow J zs tj seen last tl) C.H) R) :
    wp Tryz.prog (.look (opS Tryz.prog (.indexAddr aX (.tmp 0) (.tmp 1)) u [(.pointer (some ⟨C.b6, 0, none⟩)), (.int .i64 k)]) (.one (.leaf .addr)) fun a => .ld a .ptr K) L (own A (MLc C o ow J zs tj seen last tl) C.H) R :=
  JR (N := 6) (g := fun r => .pointer (J.pf r)) (x := J.pf k.toNat) (lf := .ptr) (e := ae) (T := aX) hA ok (List.mem_cons_of_mem _ List.mem_cons_self) rfl rfl rfl k0 k1 rfl h
theorem xA {k : Int} {K : Int → Tree} (hA : Aw C.I A) (ok : Ok C.I C.H (keys (MLc C o ow J zs tj seen last tl))) (k0 : 0 ≤ k) (k1 : k < 600) (h : wp Tryz.prog (K (seen k.toNat)) L (own A (MLc C o ow J zs tj seen last tl) C.H) R) :
    wp Tryz.prog (.look (opS Tryz.prog (.indexAddr bX (.tmp 0) (.tmp 1)) u [(.pointer (some ⟨C.bs, 0, none⟩)), (.int .i64 k)]) (.one (.leaf .addr)) fun a => .ld a (.int .i64) K) L (own A (MLc C o ow J zs tj seen last tl) C.H) R :=
  JR (N := 600) (g := fun r => .int .i64 (seen r)) (x := seen k.toNat) (lf := .int .i64) (e := aP) (T := bX) hA ok (List.mem_cons_of_mem _ (List.mem_cons_of_mem _ List.mem_cons_self)) rfl rfl rfl k0 k1 rfl h
theorem Mo {k : Int} {K : Int → Tree} (hA : Aw C.I A) (ok : Ok C.I C.H (keys (MLc C o ow J zs tj seen last tl))) (k0 : 0 ≤ k) (k1 : k < 6) (h : wp Tryz.prog (K (last k.toNat)) L (own A (MLc C o ow J zs tj seen last tl) C.H) R) :
    wp Tryz.prog (.look (opS Tryz.prog (.indexAddr gA (.tmp 0) (.tmp 1)) u [(.pointer (some ⟨C.bl, 0, none⟩)), (.int .i64 k)]) (.one (.leaf .addr)) fun a => .ld a (.int .i64) K) L (own A (MLc C o ow J zs tj seen last tl) C.H) R :=
  JR (N := 6) (g := fun r => .int .i64 (last r)) (x := last k.toNat) (lf := .int .i64) (e := aP) (T := gA) hA ok (List.mem_cons_of_mem _ (List.mem_cons_of_mem _ (List.mem_cons_of_mem _ List.mem_cons_self))) rfl rfl rfl k0 k1 rfl h
theorem wu {k v : Int} (hA : Aw C.I A) (ok : Ok C.I C.H (keys (MLc C o ow J zs tj seen last tl))) (k0 : 0 ≤ k) (k1 : k < 600)
    (h : Ok C.I C.H (keys (MLc C o ow J zs tj (bm seen k.toNat v) last tl)) → wp Tryz.prog t L (own A (MLc C o ow J zs tj (bm seen k.toNat v) last tl) C.H) R) :
    wp Tryz.prog (.look (opS Tryz.prog (.indexAddr bX (.tmp 0) (.tmp 1)) u [(.pointer (some ⟨C.bs, 0, none⟩)), (.int .i64 k)]) (.one (.leaf .addr)) fun a => .st a (.int .i64 v) t) L (own A (MLc C o ow J zs tj seen last tl) C.H) R := by
  have e : (MLc C o ow J zs tj seen last tl).set 2 (C.bs, oc bX (l3 600 fun j => if j = k.toNat then .int .i64 v else .int .i64 (seen j))) = MLc C o ow J zs tj (bm seen k.toNat v) last tl := by
    rw [ve (g := fun a : Int => Value.int .i64 a)]; rfl
  refine BH (N := 600) 2 (g := fun r => .int .i64 (seen r)) (e := aP) (T := bX) hA ok rfl rfl rfl rfl k0 k1 rfl ?_
  rw [e]
  exact h ok
theorem My {k v : Int} (hA : Aw C.I A) (ok : Ok C.I C.H (keys (MLc C o ow J zs tj seen last tl))) (k0 : 0 ≤ k) (k1 : k < 6)
    (h : Ok C.I C.H (keys (MLc C o ow J zs tj seen (bm last k.toNat v) tl)) → wp Tryz.prog t L (own A (MLc C o ow J zs tj seen (bm last k.toNat v) tl) C.H) R) :
    wp Tryz.prog (.look (opS Tryz.prog (.indexAddr gA (.tmp 0) (.tmp 1)) u [(.pointer (some ⟨C.bl, 0, none⟩)), (.int .i64 k)]) (.one (.leaf .addr)) fun a => .st a (.int .i64 v) t) L (own A (MLc C o ow J zs tj seen last tl) C.H) R := by
  have e : (MLc C o ow J zs tj seen last tl).set 3 (C.bl, oc gA (l3 6 fun j => if j = k.toNat then .int .i64 v else .int .i64 (last j))) = MLc C o ow J zs tj seen (bm last k.toNat v) tl := by
    rw [ve (g := fun a : Int => Value.int .i64 a)]; rfl
  refine BH (N := 6) 3 (g := fun r => .int .i64 (last r)) (e := aP) (T := gA) hA ok rfl rfl rfl rfl k0 k1 rfl ?_
  rw [e]
  exact h ok
theorem xR {k : Nat} (ok : Ok C.I C.H (keys (MLc C o ow J zs tj seen last tl))) (k1 : k < 6) (hz : zs k = some z) :
    own A (MLc C o ow J zs tj seen last tl) C.H = own A (MLc C o ow J (bm zs k none) tj seen last (tBl C.q z (tj k) ++ tl)) C.H ∧ Ok C.I C.H (keys (MLc C o ow J (bm zs k none) tj seen last (tBl C.q z (tj k) ++ tl))) := by
  have et : tb C zs tj k = tBl C.q z (tj k) := by unfold tb; rw [hz]
  have et' : tb C (bm zs k none) tj k = [] := by unfold tb; rw [bf]
  have en : fD (tb C (bm zs k none) tj) k 6 = fD (tb C zs tj) k 6 := wD (fun i h => by unfold tb; rw [bB _ _ h]) 6
  refine aN (A := A) ok (aT fun c d c0 cd ca => ?_)
  show c (MW C :: A6 C J.pf :: AS C seen :: AL C last :: (OBl C o ow J ++ (fD (fun i => (C.f i).bl C.q) 0 C.n ++ (C.sb ++ (eG (tb C zs tj) 6 ++ tl))))) = c (MW C :: A6 C J.pf :: AS C seen :: AL C last :: (OBl C o ow J ++ (fD (fun i => (C.f i).bl C.q) 0 C.n ++ (C.sb ++ (eG (tb C (bm zs k none) tj) 6 ++ (tBl C.q z (tj k) ++ tl))))))
  simp only [cd, ca, qn c0 ca (tb C zs tj) k1, qn c0 ca (tb C (bm zs k none) tj) k1, et, et', en, c0]
  omega
theorem Jx {k : Int} (hA : Aw C.I A) (ok : Ok C.I C.H (keys (MLc C o ow J zs tj seen last tl))) (k0 : 0 ≤ k) (k1 : k < 6) (hz : zs k.toNat = some z)
    (h : Ok C.I C.H (keys (MLc C o ow { J with pf := bm J.pf k.toNat none } (bm zs k.toNat none) tj seen last (tBl C.q z (tj k.toNat) ++ tl))) → wp Tryz.prog t L (own A (MLc C o ow { J with pf := bm J.pf k.toNat none } (bm zs k.toNat none) tj seen last (tBl C.q z (tj k.toNat) ++ tl)) C.H) R) :
    wp Tryz.prog (.look (opS Tryz.prog (.indexAddr aX (.tmp 0) (.tmp 1)) u [(.pointer (some ⟨C.b6, 0, none⟩)), (.int .i64 k)]) (.one (.leaf .addr)) fun a => .st a (.pointer none) t) L (own A (MLc C o ow J zs tj seen last tl) C.H) R := by
  have e6 : (MLc C o ow J zs tj seen last tl).set 1 (C.b6, oc aX (l3 6 fun j => if j = k.toNat then .pointer none else .pointer (J.pf j))) = MW C :: A6 C (bm J.pf k.toNat none) :: AS C seen :: AL C last :: (OBl C o ow J ++ (fD (fun i => (C.f i).bl C.q) 0 C.n ++ (C.sb ++ (eG (tb C zs tj) 6 ++ tl)))) := by
    rw [ve (g := fun a : Option Addr => Value.pointer a)]; rfl
  refine BH (N := 6) 1 (g := fun r => .pointer (J.pf r)) (e := ae) (T := aX) hA ok rfl rfl rfl rfl k0 k1 rfl ?_
  rw [e6]
  have ok1 : Ok C.I C.H (keys (MLc C o ow { J with pf := bm J.pf k.toNat none } zs tj seen last tl)) := by
    have eo : OBl C o ow { J with pf := bm J.pf k.toNat none } = OBl C o ow J := by cases ow <;> rfl
    unfold MLc; rw [eo]; exact ok
  have eo : MLc C o ow { J with pf := bm J.pf k.toNat none } zs tj seen last tl = MW C :: A6 C (bm J.pf k.toNat none) :: AS C seen :: AL C last :: (OBl C o ow J ++ (fD (fun i => (C.f i).bl C.q) 0 C.n ++ (C.sb ++ (eG (tb C zs tj) 6 ++ tl)))) := by
    have eo : OBl C o ow { J with pf := bm J.pf k.toNat none } = OBl C o ow J := by cases ow <;> rfl
    unfold MLc; rw [eo]
  obtain ⟨p, o2⟩ := xR (A := A) ok1 (by omega) hz
  rw [← eo, p]
  exact h o2
theorem Mn {k : Int} (hA : Aw C.I A) (ok : Ok C.I C.H (keys (MLc C o ow J zs tj seen last tl))) (k0 : 0 ≤ k) (k1 : k < 6) (hz : zs k.toNat = none)
    (h : ∀ j, KZ ⟨dD C.at_ k 0 0 0, .enter :: st7, .no⟩ j → Ok C.I C.H (keys (MLc C o ow { J with pf := bm J.pf k.toNat (some ⟨j.b, 0, none⟩) } (bm zs k.toNat (some ⟨dD C.at_ k 0 0 0, .enter :: st7, .no⟩)) (bm tj k.toNat j) seen last tl)) → wp Tryz.prog t L (own A (MLc C o ow { J with pf := bm J.pf k.toNat (some ⟨j.b, 0, none⟩) } (bm zs k.toNat (some ⟨dD C.at_ k 0 0 0, .enter :: st7, .no⟩)) (bm tj k.toNat j) seen last tl) C.H) R) :
    wp Tryz.prog (.call jo [.int .i64 C.at_, .pointer (some ⟨C.q, 0, none⟩), .int .i64 k, .int .i64 0, .int .i64 0, .int .i64 0] (.one (.leaf .ptr)) fun v => .look (opS Tryz.prog (.indexAddr aX (.tmp 0) (.tmp 1)) u [(.pointer (some ⟨C.b6, 0, none⟩)), (.int .i64 k)]) (.one (.leaf .addr)) fun a => .st a (.pointer v) t) L (own A (MLc C o ow J zs tj seen last tl) C.H) R := by
  refine AF hA ok fun b s0 t0 hs ok1 => ?_
  obtain ⟨c1, hc1⟩ : ∃ c1 : Nat × Obj, c1 = (b, oc ab (tsC ⟨C.at_, k, 0, 0, 0, false, 0, 0, 0, false⟩ C.q s0 .nilIface)) := ⟨_, rfl⟩
  rw [← hc1] at ok1 ⊢
  obtain ⟨p, o2⟩ := aN (A := A) (l' := MLc C o ow J zs tj seen last (c1 :: (t0 ++ tl))) ok1 (aT fun c d c0 cd ca => by
    show c (c1 :: (t0 ++ (MW C :: A6 C J.pf :: AS C seen :: AL C last :: (OBl C o ow J ++ (fD (fun i => (C.f i).bl C.q) 0 C.n ++ (C.sb ++ (eG (tb C zs tj) 6 ++ tl))))))) = c (MW C :: A6 C J.pf :: AS C seen :: AL C last :: (OBl C o ow J ++ (fD (fun i => (C.f i).bl C.q) 0 C.n ++ (C.sb ++ (eG (tb C zs tj) 6 ++ (c1 :: (t0 ++ tl)))))))
    simp only [cd, ca]
    omega)
  rw [p]
  obtain ⟨z0, hz0⟩ : ∃ z0 : St, z0 = ⟨dD C.at_ k 0 0 0, .enter :: st7, .no⟩ := ⟨_, rfl⟩
  obtain ⟨j0, hj0⟩ : ∃ j0 : TJ, j0 = ⟨b, s0, ⟨0, ⟨0, sl0, []⟩⟩, t0⟩ := ⟨_, rfl⟩
  have eb : j0.b = b := by rw [hj0]
  have e6 : (MLc C o ow J zs tj seen last (c1 :: (t0 ++ tl))).set 1 (C.b6, oc aX (l3 6 fun j => if j = k.toNat then .pointer (some ⟨b, 0, none⟩) else .pointer (J.pf j))) = MW C :: A6 C (bm J.pf k.toNat (some ⟨j0.b, 0, none⟩)) :: AS C seen :: AL C last :: (OBl C o ow J ++ (fD (fun i => (C.f i).bl C.q) 0 C.n ++ (C.sb ++ (eG (tb C zs tj) 6 ++ (c1 :: (t0 ++ tl)))))) := by
    rw [ve (g := fun a : Option Addr => Value.pointer a), eb]; rfl
  refine BH (N := 6) 1 (g := fun r => .pointer (J.pf r)) (e := ae) (T := aX) hA o2 rfl rfl rfl rfl k0 k1 rfl ?_
  rw [e6]
  have eo : OBl C o ow { J with pf := bm J.pf k.toNat (some ⟨j0.b, 0, none⟩) } = OBl C o ow J := by cases ow <;> rfl
  have ok3 : Ok C.I C.H (keys (MW C :: A6 C (bm J.pf k.toNat (some ⟨j0.b, 0, none⟩)) :: AS C seen :: AL C last :: (OBl C o ow J ++ (fD (fun i => (C.f i).bl C.q) 0 C.n ++ (C.sb ++ (eG (tb C zs tj) 6 ++ (c1 :: (t0 ++ tl)))))))) := o2
  have et : tb C zs tj k.toNat = [] := by unfold tb; rw [hz]
  have et' : tb C (bm zs k.toNat (some z0)) (bm tj k.toNat j0) k.toNat = c1 :: t0 := by unfold tb; rw [bf, bf, hz0, hj0, hc1]; rfl
  have en : fD (tb C (bm zs k.toNat (some z0)) (bm tj k.toNat j0)) k.toNat 6 = fD (tb C zs tj) k.toNat 6 := wD (fun i h => by unfold tb; rw [bB _ _ h, bB _ _ h]) 6
  obtain ⟨p4, o4⟩ := aN (A := A) (l' := MLc C o ow { J with pf := bm J.pf k.toNat (some ⟨j0.b, 0, none⟩) } (bm zs k.toNat (some z0)) (bm tj k.toNat j0) seen last tl) ok3 (aT fun c d c0 cd ca => by
    show _ = c (MW C :: A6 C (bm J.pf k.toNat (some ⟨j0.b, 0, none⟩)) :: AS C seen :: AL C last :: (OBl C o ow { J with pf := bm J.pf k.toNat (some ⟨j0.b, 0, none⟩) } ++ (fD (fun i => (C.f i).bl C.q) 0 C.n ++ (C.sb ++ (eG (tb C (bm zs k.toNat (some z0)) (bm tj k.toNat j0)) 6 ++ tl)))))
    simp only [cd, ca, qn c0 ca (tb C zs tj) (show k.toNat < 6 by omega), qn c0 ca (tb C (bm zs k.toNat (some z0)) (bm tj k.toNat j0)) (show k.toNat < 6 by omega), et, et', en, c0, eo]
    omega)
  show wp Tryz.prog t L (own A (MW C :: A6 C (bm J.pf k.toNat (some ⟨j0.b, 0, none⟩)) :: AS C seen :: AL C last :: (OBl C o ow J ++ (fD (fun i => (C.f i).bl C.q) 0 C.n ++ (C.sb ++ (eG (tb C zs tj) 6 ++ (c1 :: (t0 ++ tl)))))))  C.H) R
  rw [p4]
  rw [hz0] at o4 ⊢
  refine h j0 ⟨?_, trivial⟩ o4
  rw [hj0]
  exact hs.at'
theorem Kw {v : Int} {K : Option Addr → Tree} (hA : Aw C.I A) (ok : Ok C.I C.H (keys (MLc C o .no J zs tj seen last tl)))
    {ls : Int → List (Int × Int)} (h : ∀ b, Ok C.I C.H (keys (MLc C o (.push ⟨C.g, ls, o, v, 0, 0, none, none, none, 0, false⟩) { J with j := ⟨b, C.ob, J.e, lj0, (0, 0, 0), (0, 0, 0), .nilIface, []⟩ } zs tj seen last tl)) → wp Tryz.prog (K (some ⟨b, 0, none⟩)) L (own A (MLc C o (.push ⟨C.g, ls, o, v, 0, 0, none, none, none, 0, false⟩) { J with j := ⟨b, C.ob, J.e, lj0, (0, 0, 0), (0, 0, 0), .nilIface, []⟩ } zs tj seen last tl) C.H) R) :
    wp Tryz.prog (.call gx [.pointer (some ⟨C.ob, 0, none⟩), .int .i64 v] (.one (.leaf .ptr)) K) L (own A (MLc C o .no J zs tj seen last tl) C.H) R := by
  refine Af hA ok fun b ok1 => ?_
  obtain ⟨p, o2⟩ := aN (A := A) (l' := MLc C o (.push ⟨C.g, ls, o, v, 0, 0, none, none, none, 0, false⟩) { J with j := ⟨b, C.ob, J.e, lj0, (0, 0, 0), (0, 0, 0), .nilIface, []⟩ } zs tj seen last tl) ok1 (aT fun c d c0 cd ca => by
    show c ((b, oc aJ (psC C.ob v 0 0 none none .nilIface 0 false)) :: (MW C :: A6 C J.pf :: AS C seen :: AL C last :: (((C.ob, oc aC (owC o C.q)) :: C.g.bl C.q C.mq J.e) ++ (fD (fun i => (C.f i).bl C.q) 0 C.n ++ (C.sb ++ (eG (tb C zs tj) 6 ++ tl)))))) =
      c (MW C :: A6 C J.pf :: AS C seen :: AL C last :: (((b, oc aJ (psC C.ob v 0 0 none none .nilIface 0 false)) :: (C.ob, oc aC (owC o C.q)) :: (C.g.bl C.q C.mq J.e ++ ([] ++ ([] ++ [])))) ++ (fD (fun i => (C.f i).bl C.q) 0 C.n ++ (C.sb ++ (eG (tb C zs tj) 6 ++ tl)))))
    simp only [cd, ca, c0, List.cons_append]
    omega)
  rw [p]
  exact h b o2
theorem IZ {K : Option Addr → Tree} (hA : Aw C.I A) (ok : Ok C.I C.H (keys (MLc C o .no J zs tj seen last tl)))
    (h : ∀ b, Ok C.I C.H (keys (MLc C o (.pop ⟨o, 0, 0, 0, false⟩) { J with b := b } zs tj seen last tl)) → wp Tryz.prog (K (some ⟨b, 0, none⟩)) L (own A (MLc C o (.pop ⟨o, 0, 0, 0, false⟩) { J with b := b } zs tj seen last tl) C.H) R) :
    wp Tryz.prog (.call fA [.pointer (some ⟨C.ob, 0, none⟩)] (.one (.leaf .ptr)) K) L (own A (MLc C o .no J zs tj seen last tl) C.H) R := by
  refine Hz hA ok fun b ok1 => ?_
  obtain ⟨p, o2⟩ := aN (A := A) (l' := MLc C o (.pop ⟨o, 0, 0, 0, false⟩) { J with b := b } zs tj seen last tl) ok1 (aT fun c d c0 cd ca => by
    show c ((b, oc c7 [.pointer (some ⟨C.ob, 0, none⟩), .int .i64 0, .int .i64 0, .int .i64 0, .bool false]) :: (MW C :: A6 C J.pf :: AS C seen :: AL C last :: (((C.ob, oc aC (owC o C.q)) :: C.g.bl C.q C.mq J.e) ++ (fD (fun i => (C.f i).bl C.q) 0 C.n ++ (C.sb ++ (eG (tb C zs tj) 6 ++ tl)))))) =
      c (MW C :: A6 C J.pf :: AS C seen :: AL C last :: (([(b, oc c7 [.pointer (some ⟨C.ob, 0, none⟩), .int .i64 0, .int .i64 0, .int .i64 0, .bool false]), (C.ob, oc aC (owC o C.q))] ++ C.g.bl C.q C.mq J.e) ++ (fD (fun i => (C.f i).bl C.q) 0 C.n ++ (C.sb ++ (eG (tb C zs tj) 6 ++ tl)))))
    simp only [cd, ca, c0, List.cons_append]
    omega)
  rw [p]
  exact h b o2
theorem dz (hA : Aw C.I A) (ok : Ok C.I C.H (keys (MLc C o (.push x) J zs tj seen last tl))) (ho : x.o = o) (hg : x.g = C.g) (hol : x.old = none) (hob : J.j.ob = C.ob) : ∃ gar : Bl, own A (MLc C o (.push x) J zs tj seen last tl) C.H = own A (MLc C o .no { J with e := J.j.e } zs tj seen last (gar ++ tl)) C.H ∧ Ok C.I C.H (keys (MLc C o .no { J with e := J.j.e } zs tj seen last (gar ++ tl))) := by
  obtain ⟨g, xls, xo, v, t, what, alloc, copy, old, now, bS⟩ := x
  obtain ⟨Jb, Je, ⟨b, ob, e, lj, aj, cj, ov, gar⟩, pf⟩ := J
  have ho : xo = o := ho
  have hg : g = C.g := hg
  have hol : old = none := hol
  have hob : ob = C.ob := hob
  subst ho; subst hg; subst hol; subst hob
  refine ⟨(b, oc aJ (psC C.ob v t what (alX alloc aj) (cpX copy cj) (gmW none lj ov) now bS)) :: (jL alloc aj ++ (jj copy cj ++ gar)), ?_⟩
  refine aN (A := A) ok (aT fun c d c0 cd ca => ?_)
  show c (MW C :: A6 C pf :: AS C seen :: AL C last :: (((b, oc aJ (psC C.ob v t what (alX alloc aj) (cpX copy cj) (gmW none lj ov) now bS)) :: (C.ob, oc aC (owC xo C.q)) :: (C.g.bl C.q C.mq e ++ (jL alloc aj ++ (jj copy cj ++ gar)))) ++ (fD (fun i => (C.f i).bl C.q) 0 C.n ++ (C.sb ++ (eG (tb C zs tj) 6 ++ tl))))) =
    c (MW C :: A6 C pf :: AS C seen :: AL C last :: (((C.ob, oc aC (owC xo C.q)) :: C.g.bl C.q C.mq e) ++ (fD (fun i => (C.f i).bl C.q) 0 C.n ++ (C.sb ++ (eG (tb C zs tj) 6 ++ (((b, oc aJ (psC C.ob v t what (alX alloc aj) (cpX copy cj) (gmW none lj ov) now bS)) :: (jL alloc aj ++ (jj copy cj ++ gar))) ++ tl))))))
  simp only [cd, ca, List.cons_append]
  omega
theorem Pa (hA : Aw C.I A) (ok : Ok C.I C.H (keys (MLc C o (.pop y) J zs tj seen last tl))) (ho : y.o = o) : own A (MLc C o (.pop y) J zs tj seen last tl) C.H = own A (MLc C o .no J zs tj seen last ([Lu J.b C.ob y] ++ tl)) C.H ∧ Ok C.I C.H (keys (MLc C o .no J zs tj seen last ([Lu J.b C.ob y] ++ tl))) := by
  subst ho
  refine aN (A := A) ok (aT fun c d c0 cd ca => ?_)
  show c (MW C :: A6 C J.pf :: AS C seen :: AL C last :: (([Lu J.b C.ob y, (C.ob, oc aC (owC y.o C.q))] ++ C.g.bl C.q C.mq J.e) ++ (fD (fun i => (C.f i).bl C.q) 0 C.n ++ (C.sb ++ (eG (tb C zs tj) 6 ++ tl))))) =
    c (MW C :: A6 C J.pf :: AS C seen :: AL C last :: (((C.ob, oc aC (owC y.o C.q)) :: C.g.bl C.q C.mq J.e) ++ (fD (fun i => (C.f i).bl C.q) 0 C.n ++ (C.sb ++ (eG (tb C zs tj) 6 ++ ([Lu J.b C.ob y] ++ tl))))))
  simp only [cd, ca, c0, List.cons_append]
  omega
end
theorem JY {L : aZ} {H : Heap} {R : Value → Heap → Prop} {n : Nat} {init : List Value} {body : HL Sh1.T [.leaf .bool, .leaf .ptr, .leaf .ptr, .leaf (.int .i64), .leaf (.int .i64)] → Tree} (I : Bool → Option Addr → Option Addr → Int → Int → Heap → Prop) (m : Bool → Option Addr → Option Addr → Int → Int → Nat) (x0 : Bool) (x1 : Option Addr) (x2 : Option Addr) (x3 : Int) (x4 : Int) (hi : I x0 x1 x2 x3 x4 H)
    (hstep : ∀ (x0 : Bool) (x1 : Option Addr) (x2 : Option Addr) (x3 : Int) (x4 : Int) H', I x0 x1 x2 x3 x4 H' → wp Tryz.prog (body (x0, x1, x2, x3, x4, ())) (L.set n fun gN H'' => ∃ (y0 : Bool) (y1 : Option Addr) (y2 : Option Addr) (y3 : Int) (y4 : Int), gN = [.bool y0, .pointer y1, .pointer y2, .int .i64 y3, .int .i64 y4] ∧ I y0 y1 y2 y3 y4 H'' ∧ m y0 y1 y2 y3 y4 < m x0 x1 x2 x3 x4) H' R) (h0 : init = [.bool x0, .pointer x1, .pointer x2, .int .i64 x3, .int .i64 x4] := by rfl) :
    wp Tryz.prog (.loop n [.leaf .bool, .leaf .ptr, .leaf .ptr, .leaf (.int .i64), .leaf (.int .i64)] init body) L H R := by
  refine kv (fun x K => I x.1 x.2.1 x.2.2.1 x.2.2.2.1 x.2.2.2.2.1 K) (fun x _ => m x.1 x.2.1 x.2.2.1 x.2.2.2.1 x.2.2.2.2.1) (x0, x1, x2, x3, x4, ()) h0 hi ?_
  rintro ⟨x0, x1, x2, x3, x4, u⟩ K hI
  refine Go.Fw.wp_mono _ (hstep x0 x1 x2 x3 x4 K hI) (fun k gN H'' hk => ?_) (fun _ _ h => h)
  unfold aZ.set at *
  split at hk
  · rename_i e; rw [if_pos e]; obtain ⟨y0, y1, y2, y3, y4, h1, h2, h3⟩ := hk; exact ⟨(y0, y1, y2, y3, y4, ()), h1, h2, h3⟩
  · rename_i e; rw [if_neg e]; exact hk
def nd (z : St) : Prop := ¬ (z.um.ji = true ∧ z.x.leaves = true)
section
variable {C : MC} {A B : Ar} {D D' : PD} {J J' : OJ} {tj tj' : Nat → TJ} {tl : Bl} {r : Nat} {z z' : St} {x x' : Ps} {y y' : Pp} {L : aZ} {R : Value → Heap → Prop} {T : Tree} {g : Gd} {u : TypeId}
theorem TmP.NF {at_ TT O r P : Int} {ph : Oph} {lim : List (Int × Int)} {val : Int → Int} (E : TmP A g at_ ph lim TT O val r P z) (hn : nd z) : tmu A g z ≠ 0 := by
  have no : ∀ {x : Ts} {ps : List Sp}, nd ⟨x, ps, .no⟩ → tmu A g ⟨x, ps, .no⟩ ≠ 0 := fun {x ps} h => by
    have hl : x.leaves = false := by
      cases hx : x.leaves with
      | false => rfl
      | true => exact (h ⟨rfl, hx⟩).elim
    show (if x.leaves = true then 0 else _) ≠ 0
    rw [if_neg (by rw [hl]; decide)]
    split
    · decide
    · decide
    · show 2 + ps.length ≠ 0; omega
  have pn : ∀ {x : Ts} {ps : List Sp} {p : Pn}, p.ph ≤ 2 → tmu A g ⟨x, ps, .pin p⟩ ≠ 0 := fun {x ps p} h => by
    show (if p.e = A.ao g.ta then 12 - p.ph else 14 - p.ph) ≠ 0
    split <;> omega
  cases E with
  | start a => exact no hn
  | pin1 => exact pn (show (1 : Nat) ≤ 2 by decide)
  | pin2 => exact pn (show (2 : Nat) ≤ 2 by decide)
  | rd => exact no hn
  | la => exact no hn
  | bu => exact no hn
  | ho => exact no hn
  | ag => exact no hn
  | lo => exact no hn
  | ta => exact no hn
  | en => exact no hn
  | lv => show (1 : Nat) ≠ 0; decide
  | dn => exact no hn
theorem OwI.qo {ls : Int → List (Int × Int)} {TT O Bw : Int} {val : Int → Int} {o : DOw} {ph : Oph} {hand : List Int} (W : OwI A g ls TT O val o (.pop y) ph Bw hand) : y.o = o := by
  cases W <;> rfl
theorem MS.mu (E : MS C A D J tj tl) (hz : D.zs r = some z) (hn : nd z) : tmu A C.g z ≠ 0 := (E.px.th r z hz).2.2.NF hn
theorem OP (h : (z.um.ji && z.x.leaves) = false) : nd z := fun ⟨a, b⟩ => by rw [a, b] at h; cases h
theorem Nz (h : (z.um.ji && z.x.leaves) = true) : z.um = .no ∧ z.x.leaves = true := by
  obtain ⟨h1, h2⟩ := Bool.and_eq_true_iff.1 h
  refine ⟨?_, h2⟩
  revert h1
  cases z.um with
  | no => intro _; rfl
  | pin p => intro h; cases h
  | se p => intro h; cases h
  | one p => intro h; cases h
theorem MS.look (E : MS C A D J tj tl) {was : Int} (hu : A.aD ≤ was + 1) (w0 : 0 ≤ was ∧ was ≤ 900000) (h : wp Tryz.prog T L (own A (ML C D J tj tl) C.H) R) :
    wp Tryz.prog (.look (opS Tryz.prog (.nilCheck (.tmp 0)) aF [(.pointer (some ⟨C.x, 0, none⟩))]) (.one (.leaf .addr)) fun x196 =>
      .ld x196 .ptr fun x198 =>
      .call cu [(.pointer x198)] (.one (.leaf (.int .i64))) fun x199 =>
      bif (decide ((x199 : Int) > (w64 (was + 1)))) then (
        .ret (.bool false))
      else (
        .look (opS Tryz.prog (.nilCheck (.tmp 0)) aF [(.pointer (some ⟨C.x, 0, none⟩))]) (.one (.leaf .addr)) fun x205 =>
        .ld x205 .ptr fun x207 =>
        .call cI [(.pointer x207)] (.one (.leaf .bool)) fun x208 =>
        bif x208 then (
          .ret (.bool false))
        else T)) L (own A (ML C D J tj tl) C.H) R := by
  refine aa.2 (aS 0 (x := aI C.I) E.aw E.ok rfl rfl rfl ?_)
  refine p7 E.aw ?_
  rw [aE (x := was + 1) (by omega) (by omega)]
  refine af (zk (by omega)) ?_
  refine aa.2 (aS 0 (x := aI C.I) E.aw E.ok rfl rfl rfl ?_)
  refine Ct E.aw ?_
  exact af E.px.z.fa h
theorem MS.aD (E : MS C A D J tj tl) : 0 ≤ A.aD ∧ A.aD ≤ D.U := ⟨E.px.z.sl.F.us, E.px.z.us⟩
theorem MS.bS (E : MS C A D J tj tl) (hx : D.ow = .push x) (hw : x.what = 7) {K : Bool → Tree}
    (hy : ∀ tl', MS C A { D with ow := .no, hand := [] } { J with e := J.j.e } tj tl' → wp Tryz.prog (K true) L (own A (ML C { D with ow := .no, hand := [] } { J with e := J.j.e } tj tl') C.H) R)
    (hn : ∀ tl', 1 ≤ D.pushed ∧ D.pushed ≤ 500 → Ok C.I C.H (keys (MLc C D.o .no { J with e := J.j.e } D.zs tj D.seen D.last tl')) → (Ok C.I C.H (keys (MLc C D.o .no { J with e := J.j.e } D.zs tj (bm D.seen (D.pushed - 1).toNat 1) D.last tl')) → MS C A { D with ow := .no, hand := [], seen := bm D.seen (D.pushed - 1).toNat 1 } { J with e := J.j.e } tj tl') → wp Tryz.prog (K false) L (own A (MLc C D.o .no { J with e := J.j.e } D.zs tj D.seen D.last tl') C.H) R) :
    wp Tryz.prog (.call gY [.pointer (some ⟨J.j.b, 0, none⟩)] (.one (.leaf .bool)) K) L (own A (ML C D J tj tl) C.H) R := by
  obtain ⟨_, hls, hol, h1, h2⟩ := E.px.pushed hx hw
  have W := E.px.ow
  rw [hx] at W
  obtain ⟨wg, wo⟩ := W.pg
  have rp := E.rep
  rw [hx] at rp
  obtain ⟨⟨rp, rob⟩, _⟩ := rp
  have ok : Ok C.I C.H (keys (MLc C D.o (.push x) J D.zs tj D.seen D.last tl)) := by have := E.ok; unfold ML at this; rw [hx] at this; exact this
  have eM : ML C D J tj tl = MLc C D.o (.push x) J D.zs tj D.seen D.last tl := by unfold ML; rw [hx]
  rw [eM]
  refine MJ 4 (c := psC J.j.ob x.v x.t x.what (alX x.alloc J.j.aj) (cpX x.copy J.j.cj) (gmW x.old J.j.lj J.j.ov) x.now x.bS) (bS := x.bS) E.aw ok rfl rfl ?_
  obtain ⟨gar, p, o2⟩ := dz E.aw ok wo wg hol rob
  rw [p]
  have rp' : GdS J.j.e D.ls := by rw [hol, hls] at rp; exact rp
  cases hwent : x.bS with
  | true => exact hy _ ⟨E.aw, o2, E.hs, E.n0, E.fo, h1 hwent, rp', E.tr, E.rB, E.pf⟩
  | false =>
    obtain ⟨p1, px⟩ := h2 hwent
    exact hn _ ⟨p1, E.px.vi.pb.2⟩ o2 fun o3 => ⟨E.aw, o3, E.hs, E.n0, E.fo, px, rp', E.tr, E.rB, E.pf⟩
theorem MS.val (E : MS C A D J tj tl) (hx : D.ow = .pop y) (hw : y.what = 5) {K : HL Sh1.T [(.leaf (.int .i64)), (.leaf .bool)] → Tree}
    (hn : ∀ tl', D.T = D.O → D.hand = [] → MS C A { D with ow := .no, hand := [] } J tj tl' → wp Tryz.prog (K (0, false, ())) L (own A (ML C { D with ow := .no, hand := [] } J tj tl') C.H) R)
    (hy : ∀ v tl', (100 ≤ v ∧ v < 100 + D.pushed ∧ D.pushed ≤ 500) → D.hand = [v] → Ok C.I C.H (keys (MLc C D.o .no J D.zs tj D.seen D.last tl')) → (Ok C.I C.H (keys (MLc C D.o .no J D.zs tj (bm D.seen (v - 100).toNat (D.seen (v - 100).toNat + 1)) D.last tl')) → MS C A { D with ow := .no, hand := [], seen := bm D.seen (v - 100).toNat (D.seen (v - 100).toNat + 1) } J tj tl') → wp Tryz.prog (K (v, true, ())) L (own A (MLc C D.o .no J D.zs tj D.seen D.last tl') C.H) R) :
    wp Tryz.prog (.call fR [.pointer (some ⟨J.b, 0, none⟩)] (.tup [(.leaf (.int .i64)), (.leaf .bool)]) K) L (own A (ML C D J tj tl) C.H) R := by
  obtain ⟨hh, h1, h2⟩ := E.px.popped hx hw
  have W := E.px.ow
  rw [hx] at W
  have wo : y.o = D.o := W.qo
  have rp := E.rep
  rw [hx] at rp
  have eM : ML C D J tj tl = MLc C D.o (.pop y) J D.zs tj D.seen D.last tl := by unfold ML; rw [hx]
  have ok := E.ok
  rw [eM] at ok ⊢
  refine Ff 4 (x := y) (ob := C.ob) E.aw ok rfl ?_
  obtain ⟨p, o2⟩ := Pa E.aw ok wo
  rw [p]
  have et : y.told = y.ok := by unfold Pp.told; rw [hw]; show (y.ok && true) = y.ok; rw [Bool.and_true]
  rw [et]
  cases hok : y.ok with
  | false =>
    obtain ⟨hT, px⟩ := h1 hok
    rw [hok] at hh
    exact hn _ hT hh ⟨E.aw, o2, E.hs, E.n0, E.fo, px, rp, E.tr, E.rB, E.pf⟩
  | true =>
    obtain ⟨hT, px⟩ := h2 hok
    rw [hok] at hh
    exact hy y.v _ ⟨hT.1, hT.2, E.px.vi.pb.2⟩ hh o2 fun o3 => ⟨E.aw, o3, E.hs, E.n0, E.fo, px, rp, E.tr, E.rB, E.pf⟩
theorem MS.N8 (E : MS C A D J tj tl) (hz : D.zs r = some z) (hd : (z.um.ji && z.x.leaves) = true) {K : HL Sh1.T [(.leaf (.int .i64)), (.leaf .bool)] → Tree}
    (hn : (∀ p tl', (∀ i, i ≠ r → p i = J.pf i) → Ok C.I C.H (keys (MLc C D.o D.ow { J with pf := p } (bm D.zs r none) tj D.seen D.last tl')) → MS C A { D with zs := bm D.zs r none } { J with pf := p } tj tl') → wp Tryz.prog (K (0, false, ())) L (own A (ML C D J tj tl) C.H) R)
    (hy : ∀ v, (100 ≤ v ∧ v < 100 + D.pushed ∧ D.pushed ≤ 500 ∧ D.last r < v - 100) → (∀ last' p tl', (last' r = v - 100 ∨ last' r = D.last r) → (∀ i, i ≠ r → last' i = D.last i) → (∀ i, i ≠ r → p i = J.pf i) → Ok C.I C.H (keys (MLc C D.o D.ow { J with pf := p } (bm D.zs r none) tj (bm D.seen (v - 100).toNat (D.seen (v - 100).toNat + 1)) last' tl')) → MS C A { D with zs := bm D.zs r none, last := last', seen := bm D.seen (v - 100).toNat (D.seen (v - 100).toNat + 1) } { J with pf := p } tj tl') → wp Tryz.prog (K (v, true, ())) L (own A (ML C D J tj tl) C.H) R) :
    wp Tryz.prog (.call dy [.pointer (some ⟨(tj r).b, 0, none⟩)] (.tup [(.leaf (.int .i64)), (.leaf .bool)]) K) L (own A (ML C D J tj tl) C.H) R := by
  obtain ⟨e1, e2⟩ := Nz hd
  have hr : r < 6 := by
    by_cases h : r < 6
    · exact h
    · have := E.rB r (by omega); rw [hz] at this; cases this
  have et : tb C D.zs tj r = tBl C.q z (tj r) := by unfold tb; rw [hz]
  have hm : stB (tj r).b C.q z.x (tj r).s .nilIface ∈ ML C D J tj tl := by
    refine List.mem_cons_of_mem _ (List.mem_cons_of_mem _ (List.mem_cons_of_mem _ (List.mem_cons_of_mem _ (List.mem_append_right _ (List.mem_append_right _ (List.mem_append_right _ (List.mem_append_left _ (C4.2 ⟨r, hr, ?_⟩))))))))
    rw [et]
    show _ ∈ stB (tj r).b C.q z.x (tj r).s (z.um.val (tj r).u) :: _
    rw [e1]; exact List.mem_cons_self
  have tr' : ∀ i z1, bm D.zs r none i = some z1 → KZ z1 (tj i) := fun i z1 h1 => by
    by_cases e : i = r
    · rw [e, bf] at h1; cases h1
    · rw [bB _ _ e] at h1; exact E.tr i z1 h1
  have rB' : ∀ i, 6 ≤ i → bm D.zs r none i = none := fun i hi => by rw [bB _ _ (by omega)]; exact E.rB i hi
  have pf' : ∀ {p : Nat → Option Addr}, (∀ i, i ≠ r → p i = J.pf i) → ∀ i z1, bm D.zs r none i = some z1 → p i = some ⟨(tj i).b, 0, none⟩ := fun {p} hp i z1 h1 => by
    by_cases e : i = r
    · rw [e, bf] at h1; cases h1
    · rw [bB _ _ e] at h1; rw [hp i e]; exact E.pf i z1 h1
  refine Mq E.aw E.ok hm e2 ?_
  cases hok : z.x.ok with
  | false => exact hn fun p tl' hp o3 => ⟨E.aw, o3, E.hs, E.n0, E.fo, E.px.N7 hz hok, Cb E.rep, tr', rB', pf' hp⟩
  | true =>
    obtain ⟨⟨a, b, c⟩, _⟩ := E.px.Od (last' := D.last) hz hok (.inr rfl) (fun _ _ => rfl)
    refine hy z.x.v ⟨a, b, E.px.vi.pb.2, c⟩ fun last' p tl' l1 l2 hp o3 => ?_
    obtain ⟨_, px⟩ := E.px.Od (last' := last') hz hok l1 l2
    exact ⟨E.aw, o3, E.hs, E.n0, E.fo, px, Cb E.rep, tr', rB', pf' hp⟩
end
theorem L9 (u : TypeId) : opS Tryz.prog (.binOp .eql ae (.tmp 0) (.const (.pointer none)) ae) u [(.pointer none)] = .pure (.value (.bool true)) := by kernel_rfl
theorem L3 (u : TypeId) (a : Addr) : opS Tryz.prog (.binOp .eql ae (.tmp 0) (.const (.pointer none)) ae) u [(.pointer (some a))] = .pure (.value (.bool false)) := by kernel_rfl
theorem FM (u : TypeId) : opS Tryz.prog (.binOp .neq cz (.tmp 0) (.const (.pointer none)) cz) u [(.pointer none)] = .pure (.value (.bool false)) := by kernel_rfl
theorem Mh (u : TypeId) (a : Addr) : opS Tryz.prog (.binOp .neq cz (.tmp 0) (.const (.pointer none)) cz) u [(.pointer (some a))] = .pure (.value (.bool true)) := by kernel_rfl
theorem F7 (u : TypeId) : opS Tryz.prog (.binOp .neq bO (.tmp 0) (.const (.pointer none)) bO) u [(.pointer none)] = .pure (.value (.bool false)) := by kernel_rfl
theorem L8 (u : TypeId) (a : Addr) : opS Tryz.prog (.binOp .neq bO (.tmp 0) (.const (.pointer none)) bO) u [(.pointer (some a))] = .pure (.value (.bool true)) := by kernel_rfl
def HG : OwM → OJ → Option Addr
  | .push _, J => some ⟨J.j.b, 0, none⟩
  | _, _ => none
def Ho : OwM → OJ → Option Addr
  | .pop _, J => some ⟨J.b, 0, none⟩
  | _, _ => none
theorem BS {ow : OwM} {J : OJ} {p : Nat → Option Addr} : HG ow { J with pf := p } = HG ow J := by cases ow <;> rfl
theorem B4 {ow : OwM} {J : OJ} {p : Nat → Option Addr} : Ho ow { J with pf := p } = Ho ow J := by cases ow <;> rfl
def ndO : OwM → Prop
  | .push x => x.what ≠ 7
  | .pop y => y.what ≠ 5
  | .no => True
structure LS (C : MC) (pp qp : Option Addr) (ps i : Int) (A : Ar) (D : PD) (J : OJ) (tj : Nat → TJ) (tl : Bl) : Prop where
  ms : MS C A D J tj tl
  hp : pp = HG D.ow J
  hq : qp = Ho D.ow J
  hs : ps = D.pushed
  hu : D.U ≤ 100000 + i
  nt : ∀ r z, D.zs r = some z → nd z
  no : ndO D.ow
  nn : ∀ r, D.zs r = none → J.pf r = none
def LI (C : MC) (pp qp : Option Addr) (ps i : Int) (K : Heap) : Prop := ∃ A D J tj tl, LS C pp qp ps i A D J tj tl ∧ K = own A (ML C D J tj tl) C.H
section
variable {C : MC} {A B : Ar} {D D' : PD} {J J' : OJ} {tj tj' : Nat → TJ} {tl : Bl} {r : Nat} {z z' : St} {x x' : Ps} {y y' : Pp} {L : aZ} {R : Value → Heap → Prop} {b : Bool} {pp qp : Option Addr} {ps i x24 who v was : Int}
def Ag (C : MC) (L : aZ) (R : Value → Heap → Prop) (b : Bool) (i : Int) : Prop := ∀ pp qp ps K', LI C pp qp ps (i + 1) K' → wp Tryz.prog (.again 768 [.bool b, .pointer pp, .pointer qp, .int .i64 ps, .int .i64 (w64 (i + 1))]) L K' R
theorem AY (S : LS C pp qp ps (i + 1) A D J tj tl) (hu : A.aD ≤ was + 1) (w0 : 0 ≤ was ∧ was ≤ 900000) (hag : Ag C L R b i) : wp Tryz.prog (bY (some ⟨C.x, 0, none⟩) (b, pp, qp, ps, i, ()) was) L (own A (ML C D J tj tl) C.H) R := by
  rw [bY]
  exact S.ms.look hu w0 (hag _ _ _ _ ⟨A, D, J, tj, tl, S, rfl⟩)
theorem L7 (S : LS C none qp ps (i + 1) A D J tj tl) (hu : A.aD ≤ was + 1) (w0 : 0 ≤ was ∧ was ≤ 900000) (hag : Ag C L R b i) : wp Tryz.prog (fp (some ⟨C.x, 0, none⟩) (b, pp, qp, ps, i, ()) was) L (own A (ML C D J tj tl) C.H) R := by
  rw [fp]
  exact S.ms.look hu w0 (hag _ _ _ _ ⟨A, D, J, tj, tl, S, rfl⟩)
theorem Jv (S : LS C pp none ps (i + 1) A D J tj tl) (hu : A.aD ≤ was + 1) (w0 : 0 ≤ was ∧ was ≤ 900000) (hag : Ag C L R b i) : wp Tryz.prog (eX (some ⟨C.x, 0, none⟩) (b, pp, qp, ps, i, ()) was) L (own A (ML C D J tj tl) C.H) R := by
  rw [eX]
  exact S.ms.look hu w0 (hag _ _ _ _ ⟨A, D, J, tj, tl, S, rfl⟩)
theorem Mw {qp' : Option Addr} (S : LS C pp qp' ps (i + 1) A D J tj tl) (hu : A.aD ≤ was + 1) (w0 : 0 ≤ was ∧ was ≤ 900000) (hag : Ag C L R b i) : wp Tryz.prog (dt (some ⟨C.x, 0, none⟩) (b, pp, qp, ps, i, ()) was qp') L (own A (ML C D J tj tl) C.H) R := by
  rw [dt]
  exact S.ms.look hu w0 (hag _ _ _ _ ⟨A, D, J, tj, tl, S, rfl⟩)
set_option maxHeartbeats 1000000 in
theorem NU (S : LS C pp qp ps i A D J tj tl) (hz : D.zs who.toNat = some z) (w1 : 0 < who) (w2 : who < 6) (ib : 0 ≤ i ∧ i < 900) (hag : Ag C L R b i) :
    wp Tryz.prog (cN x24 (some ⟨C.x, 0, none⟩) ⟨C.b6, 0, none⟩ ⟨C.bs, 0, none⟩ ⟨C.bl, 0, none⟩ (b, pp, qp, ps, i, ()) v who A.aD) L (own A (ML C D J tj tl) C.H) R := by
  obtain ⟨ms, hp, hq, hs, hu, nt, no, nn⟩ := S
  obtain ⟨u0, u1⟩ := ms.aD
  have hr : who.toNat < 6 := by omega
  rw [cN]
  refine av (decide_eq_true w1) ?_
  refine xO ms.aw ms.ok (by omega) w2 ?_
  rw [ms.pf _ _ hz]
  refine aa.2 (aS 0 (x := aI C.I) ms.aw ms.ok rfl rfl rfl ?_)
  refine ms.Ny hz (ms.mu hz (nt _ _ hz)) (by omega) fun B D' z' tj' E k ez hU hB fin hb => ?_
  have ez' : D'.zs who.toNat = some z' := by rw [ez, bf]
  have nt' : ∀ i, i ≠ who.toNat → ∀ z1, D'.zs i = some z1 → nd z1 := fun i e z1 h1 => by rw [ez, bB _ _ e] at h1; exact nt _ _ h1
  have nn' : ∀ r, D'.zs r = none → J.pf r = none := fun r h => by
    by_cases e : r = who.toNat
    · rw [e, ez'] at h; cases h
    · rw [ez, bB _ _ e] at h; exact nn r h
  have nn2 : ∀ r, bm D'.zs who.toNat none r = none → bm J.pf who.toNat none r = none := fun r h => by
    by_cases e : r = who.toNat
    · rw [e, bf]
    · rw [bB _ _ e] at h ⊢; exact nn' r h
  cases hf : (z'.um.ji && z'.x.leaves) with
  | false =>
    refine af rfl ?_
    refine AY ⟨E, by rw [k.ow]; exact hp, by rw [k.ow]; exact hq, by rw [k.pushed]; exact hs, by omega, fun r z1 h1 => ?_, by rw [k.ow]; exact no, nn'⟩ (by omega) ⟨u0, by omega⟩ hag
    by_cases e : r = who.toNat
    · subst e; rw [ez'] at h1; cases h1; exact OP hf
    · exact nt' r e z1 h1
  | true =>
    refine av rfl ?_
    refine xO E.aw E.ok (by omega) w2 ?_
    rw [E.pf _ _ ez']
    refine E.N8 ez' hf (fun mk => ?_) (fun vv hv mk => ?_)
    · refine af rfl ?_
      refine Jx E.aw E.ok (by omega) w2 ez' fun ok2 => ?_
      have M := mk _ _ (fun i e => bB _ _ e) ok2
      refine AY (D := { D' with zs := bm D'.zs who.toNat none }) (J := { J with pf := bm J.pf who.toNat none }) ⟨M, by show pp = HG D'.ow _; rw [k.ow, BS]; exact hp, by show qp = Ho D'.ow _; rw [k.ow, B4]; exact hq, by show ps = D'.pushed; rw [k.pushed]; exact hs, by show D'.U ≤ _; omega, fun r z1 h1 => ?_, by show ndO D'.ow; rw [k.ow]; exact no, nn2⟩ (by omega) ⟨u0, by omega⟩ hag
      have h1 : bm D'.zs who.toNat none r = some z1 := h1
      by_cases e : r = who.toNat
      · rw [e, bf] at h1; cases h1
      · rw [bB _ _ e] at h1; exact nt' r e z1 h1
    · obtain ⟨v1, v2, v3, v4⟩ := hv
      have pb := E.px.vi.pb
      have sb := E.px.vi.sb (vv - 100).toNat
      have hsD : ps = D'.pushed := by rw [k.pushed]; exact hs
      refine av rfl ?_
      refine af (decide_eq_false (by show ¬ vv < 100; omega)) ?_
      refine af (decide_eq_false (by show ¬ vv ≥ w64 (100 + ps); rw [aE (by omega) (by omega)]; omega)) ?_
      have ew : w64 (vv - 100) = vv - 100 := aE (by omega) (by omega)
      refine Mo E.aw E.ok (by omega) w2 ?_
      refine af (decide_eq_false (by show ¬ w64 (vv - 100) ≤ D'.last who.toNat; rw [ew]; omega)) ?_
      dsimp only
      rw [ew]
      refine My E.aw E.ok (by omega) w2 fun ok2 => ?_
      refine xA E.aw ok2 (by omega) (by omega) ?_
      rw [aE (x := D'.seen (vv - 100).toNat + 1) (by omega) (by omega)]
      refine wu E.aw ok2 (by omega) (by omega) fun ok3 => ?_
      refine Jx E.aw ok3 (by omega) w2 ez' fun ok4 => ?_
      have M := mk _ _ _ (.inl (bf _ _ _)) (fun i e => bB _ _ e) (fun i e => bB _ _ e) ok4
      refine AY (D := { D' with zs := bm D'.zs who.toNat none, last := bm D'.last who.toNat (vv - 100), seen := bm D'.seen (vv - 100).toNat (D'.seen (vv - 100).toNat + 1) }) (J := { J with pf := bm J.pf who.toNat none }) ⟨M, by show pp = HG D'.ow _; rw [k.ow, BS]; exact hp, by show qp = Ho D'.ow _; rw [k.ow, B4]; exact hq, hsD, by show D'.U ≤ _; omega, fun r z1 h1 => ?_, by show ndO D'.ow; rw [k.ow]; exact no, nn2⟩ (by omega) ⟨u0, by omega⟩ hag
      have h1 : bm D'.zs who.toNat none r = some z1 := h1
      by_cases e : r = who.toNat
      · rw [e, bf] at h1; cases h1
      · rw [bB _ _ e] at h1; exact nt' r e z1 h1
set_option maxHeartbeats 1000000 in
theorem Ox (S : LS C pp qp ps i A D J tj tl) (ib : 0 ≤ i ∧ i < 900) (hw : w64 (2 + x24) = C.g.w) (v0 : 0 ≤ v) (hag : Ag C L R b i) :
    wp Tryz.prog (cN x24 (some ⟨C.x, 0, none⟩) ⟨C.b6, 0, none⟩ ⟨C.bs, 0, none⟩ ⟨C.bl, 0, none⟩ (b, pp, qp, ps, i, ()) v 0 A.aD) L (own A (ML C D J tj tl) C.H) R := by
  obtain ⟨ms, hp, hq, hs, hu, nt, no, nn⟩ := S
  obtain ⟨u0, u1⟩ := ms.aD
  have pb := ms.px.vi.pb
  have wb := ms.px.z.lay.wb
  rw [cN]
  refine af rfl ?_
  cases hx : D.ow with
  | push x =>
    rw [hx] at hp hq no
    have hp : pp = some ⟨J.j.b, 0, none⟩ := hp
    subst hp
    refine aB (x := true) (Mh _ _) (av rfl ?_)
    refine aa.2 (aS 0 (x := aI C.I) ms.aw ms.ok rfl rfl rfl ?_)
    refine ms.N9 hx no (by omega) fun B D' x' J' E sm ow' hB hb hpf => ?_
    have sU := sm.U
    have nt' : ∀ r z1, D'.zs r = some z1 → nd z1 := fun r z1 h1 => nt r z1 (by rw [← sm.zs]; exact h1)
    have nn' : ∀ r, D'.zs r = none → J'.pf r = none := fun r h => by rw [hpf]; exact nn r (by rw [← sm.zs]; exact h)
    cases hf : ((x'.what : Int) == 7) with
    | false =>
      refine af rfl ?_
      refine AY ⟨E, by rw [ow']; show _ = some (⟨J'.j.b, 0, none⟩ : Addr); rw [hb], by rw [ow']; exact hq, by rw [sm.pushed]; exact hs, by omega, nt', by rw [ow']; exact beq_eq_false_iff_ne.1 hf, nn'⟩ (by omega) ⟨u0, by omega⟩ hag
    | true =>
      have hw7 : x'.what = 7 := by simpa using hf
      refine av rfl ?_
      dsimp only
      rw [← hb]
      refine E.bS ow' hw7 (fun tl2 M => ?_) (fun tl2 p1 ok2 mk => ?_)
      · refine af rfl ?_
        exact L7 (D := { D' with ow := .no, hand := [] }) ⟨M, rfl, hq, by show ps = D'.pushed; rw [sm.pushed]; exact hs, by show D'.U ≤ _; omega, nt', trivial, nn'⟩ (by omega) ⟨u0, by omega⟩ hag
      · refine av rfl ?_
        have hsD : ps = D'.pushed := by rw [sm.pushed]; exact hs
        have e1 : w64 (ps - 1) = D'.pushed - 1 := by rw [aE (by omega) (by omega)]; omega
        rw [e1]
        refine wu E.aw ok2 (by omega) (by omega) fun ok3 => ?_
        have M := mk ok3
        exact L7 (D := { D' with ow := .no, hand := [], seen := bm D'.seen (D'.pushed - 1).toNat 1 }) ⟨M, rfl, hq, hsD, by show D'.U ≤ _; omega, nt', trivial, nn'⟩ (by omega) ⟨u0, by omega⟩ hag
  | pop y =>
    rw [hx] at hp hq no
    have hq : qp = some ⟨J.b, 0, none⟩ := hq
    have hp : pp = none := hp
    subst hq; subst hp
    refine aB (x := false) (FM _) (af rfl ?_)
    refine aB (x := true) (L8 _ _) (av rfl ?_)
    refine aa.2 (aS 0 (x := aI C.I) ms.aw ms.ok rfl rfl rfl ?_)
    refine ms.OL hx no (by omega) fun B D' y' J' E sm ow' hB hb hpf => ?_
    have sU := sm.U
    have nt' : ∀ r z1, D'.zs r = some z1 → nd z1 := fun r z1 h1 => nt r z1 (by rw [← sm.zs]; exact h1)
    have nn' : ∀ r, D'.zs r = none → J'.pf r = none := fun r h => by rw [hpf]; exact nn r (by rw [← sm.zs]; exact h)
    have hsD : ps = D'.pushed := by rw [sm.pushed]; exact hs
    cases hf : ((y'.what : Int) == 5) with
    | false =>
      refine af rfl ?_
      refine AY ⟨E, by rw [ow']; rfl, by rw [ow']; show _ = some (⟨J'.b, 0, none⟩ : Addr); rw [hb], hsD, by omega, nt', by rw [ow']; exact beq_eq_false_iff_ne.1 hf, nn'⟩ (by omega) ⟨u0, by omega⟩ hag
    | true =>
      have hw5 : y'.what = 5 := by simpa using hf
      refine av rfl ?_
      dsimp only
      rw [← hb]
      refine E.val ow' hw5 (fun tl2 _ _ M => ?_) (fun vv tl2 hv _ ok2 mk => ?_)
      · refine af rfl ?_
        exact Jv (D := { D' with ow := .no, hand := [] }) ⟨M, rfl, rfl, hsD, by show D'.U ≤ _; omega, nt', trivial, nn'⟩ (by omega) ⟨u0, by omega⟩ hag
      · obtain ⟨v1, v2, v3⟩ := hv
        have sb := E.px.vi.sb (vv - 100).toNat
        refine av rfl ?_
        refine af (decide_eq_false (by show ¬ vv < 100; omega)) ?_
        refine af (decide_eq_false (by show ¬ vv ≥ w64 (100 + ps); rw [aE (by omega) (by omega)]; omega)) ?_
        dsimp only
        rw [aE (x := vv - 100) (by omega) (by omega)]
        refine xA E.aw ok2 (by omega) (by omega) ?_
        rw [aE (x := D'.seen (vv - 100).toNat + 1) (by omega) (by omega)]
        refine wu E.aw ok2 (by omega) (by omega) fun ok3 => ?_
        have M := mk ok3
        exact Jv (D := { D' with ow := .no, hand := [], seen := bm D'.seen (vv - 100).toNat (D'.seen (vv - 100).toNat + 1) }) ⟨M, rfl, rfl, hsD, by show D'.U ≤ _; omega, nt', trivial, nn'⟩ (by omega) ⟨u0, by omega⟩ hag
  | no =>
    rw [hx] at hp hq
    have hq : qp = none := hq
    have hp : pp = none := hp
    subst hq; subst hp
    refine aB (x := false) (FM _) (af rfl ?_)
    refine aB (x := false) (F7 _) (af rfl ?_)
    have eM : ML C D J tj tl = MLc C D.o .no J D.zs tj D.seen D.last tl := by unfold ML; rw [hx]
    have rp := ms.rep
    rw [hx] at rp
    have ok := ms.ok
    rw [eM] at ok
    have ow0 : ∀ {u : TypeId} {K : Option Addr → Tree}, wp Tryz.prog (K (some ⟨C.ob, 0, none⟩)) L (own A (MLc C D.o .no J D.zs tj D.seen D.last tl) C.H) R → wp Tryz.prog (.ld (Addr.add ⟨C.x, 0, none⟩ 8) .slice fun zz => .look (opS Tryz.prog (.indexAddr bN (.tmp 0) (.const (.int .i64 0))) u [.slice zz.a zz.len zz.cap]) (.one (.leaf .addr)) fun y => .ld y .ptr K) L (own A (MLc C D.o .no J D.zs tj D.seen D.last tl) C.H) R := fun {u K} h => by
      simp only [vt]
      refine aS 0 (x := C.s) ms.aw ok rfl rfl rfl ?_
      refine Fb (i := 0) ms.aw ok (ms.hs.mono fun p hp => ?_) (B2 ms.n0) (by rw [ms.fo]; exact h)
      exact List.mem_cons_of_mem _ (List.mem_cons_of_mem _ (List.mem_cons_of_mem _ (List.mem_cons_of_mem _ (List.mem_append_right _ (List.mem_append_right _ (List.mem_append_left _ hp))))))
    have popG : ∀ {u : TypeId}, wp Tryz.prog (.look (opS Tryz.prog (.nilCheck (.tmp 0)) aF [(.pointer (some ⟨C.x, 0, none⟩))]) (.one (.leaf .addr)) fun x56 =>
          .ld (x56.add 8) .slice fun x58 =>
          .look (opS Tryz.prog (.indexAddr bN (.tmp 0) (.const (.int .i64 0))) u [(.slice x58.a x58.len x58.cap)]) (.one (.leaf .addr)) fun x59 =>
          .ld x59 .ptr fun x60 =>
          .call fA [(.pointer x60)] (.one (.leaf .ptr)) fun x61 =>
          dt (some ⟨C.x, 0, none⟩) (b, none, none, ps, i, ()) A.aD x61) L (own A (MLc C D.o .no J D.zs tj D.seen D.last tl) C.H) R := fun {u} => by
      refine aa.2 (ow0 ?_)
      refine IZ ms.aw ok fun bb ok2 => ?_
      exact Mw (D := { D with ow := .pop ⟨D.o, 0, 0, 0, false⟩ }) (J := { J with b := bb }) (qp' := some ⟨bb, 0, none⟩) ⟨⟨ms.aw, ok2, ms.hs, ms.n0, ms.fo, (ms.px.KR hx).2, rp, ms.tr, ms.rB, ms.pf⟩, rfl, rfl, hs, by show D.U ≤ _; omega, nt, (show (0 : Int) ≠ 5 by decide), nn⟩ (by omega) ⟨u0, by omega⟩ hag
    rw [eM]
    refine aB (x := w64 (Int.tdiv v C.g.w)) (by rw [hw]; exact KL (by omega)) ?_
    cases hm : decide (Int.tmod (w64 (Int.tdiv v C.g.w)) 3 > 0) with
    | false => exact af rfl popG
    | true =>
      refine av rfl ?_
      by_cases h5 : ps < 500
      · refine av (decide_eq_true h5) ?_
        refine aa.2 (ow0 ?_)
        have e100 : w64 (100 + ps) = 100 + D.pushed := by rw [aE (by omega) (by omega), hs]
        dsimp only
        rw [e100]
        refine Kw (ls := D.ls) ms.aw ok fun bb ok2 => ?_
        have M : MS C A { D with ow := .push ⟨C.g, D.ls, D.o, 100 + D.pushed, 0, 0, none, none, none, 0, false⟩, hand := [100 + D.pushed], pushed := D.pushed + 1 } { J with j := ⟨bb, C.ob, J.e, lj0, (0, 0, 0), (0, 0, 0), .nilIface, []⟩ } tj tl :=
          ⟨ms.aw, ok2, ms.hs, ms.n0, ms.fo, ms.px.NT hx (by omega), ⟨⟨rp, rfl⟩, rfl⟩, ms.tr, ms.rB, ms.pf⟩
        refine M.look (by omega) ⟨u0, by omega⟩ ?_
        rw [aE (x := ps + 1) (by omega) (by omega)]
        exact hag _ _ _ _ ⟨A, _, _, tj, tl, ⟨M, rfl, rfl, by show ps + 1 = D.pushed + 1; omega, by show D.U ≤ _; omega, nt, (show (0 : Int) ≠ 7 by decide), nn⟩, rfl⟩
      · exact af (decide_eq_false h5) popG
end
@[reducible] def fm : List Sh1 := [(.leaf .bool), (.leaf (.int .i64))]
noncomputable def fM (p0 : Option Addr) (p4 : Option Addr) (p5 : Int) (y3 : HL Sh1.T fm) : Tree :=
 bif (decide ((y3.2.1 : Int) < p5)) then (
 lkN p4 fun x175 =>
 .look (opS Tryz.prog (.indexAddr bX (.tmp 0) (.tmp 1)) aF [(.pointer (some x175)), (.int .i64 y3.2.1)]) (.one (.leaf .addr)) fun x176 =>
 .ld x176 (.int .i64) fun x177 =>
 bif ((x177 : Int) != 1) then (
 .ret (.bool false))
 else (
 .again 2048 [(.bool y3.1), (.int .i64 (w64 (y3.2.1 + 1)))]))
 else (
 lkN p0 fun x180 =>
 .ld x180 .ptr fun x182 =>
 .call cI [(.pointer x182)] (.one (.leaf .bool)) fun x183 =>
 .ret (.bool (!x183)))
@[reducible] def gj : List Sh1 := [(.leaf .bool), (.leaf (.int .i64))]
noncomputable def hM (p0 : Option Addr) (p4 : Option Addr) (p5 : Int) (y2 : HL Sh1.T gj) : Tree :=
 bif (decide ((y2.2.1 : Int) < 100)) then (
 lkN p0 fun x128 =>
 .ld (x128.add 8) .slice fun x130 =>
 .look (opS Tryz.prog (.indexAddr bN (.tmp 0) (.const (.int .i64 0))) aF [(.slice x130.a x130.len x130.cap)]) (.one (.leaf .addr)) fun x131 =>
 .ld x131 .ptr fun x132 =>
 .call fA [(.pointer x132)] (.one (.leaf .ptr)) fun x133 =>
 .look (opS Tryz.prog (.binOp .eql bO (.tmp 0) (.const (.pointer none)) bO) aO [(.pointer x133)]) (.one (.leaf .bool)) fun x135 =>
 bif x135 then (
 .ret (.bool false))
 else (
 lkN p0 fun x138 =>
 .ld x138 .ptr fun x140 =>
 .call bM [(.pointer x140), (.iface bO (.pointer x133))] (.one (.leaf .bool)) fun x143 =>
 bif (!x143) then (
 .ret (.bool false))
 else (
 .call fR [(.pointer x133)] (.tup [(.leaf (.int .i64)), (.leaf .bool)]) fun x148 =>
 bif (!x148.2.1) then (
 .loop 2048 fm [(.bool y2.1), (.int .i64 0)] (fM p0 p4 p5))
 else (
 bif (decide ((x148.1 : Int) ≥ 100)) then (
 bif (decide ((x148.1 : Int) < 600)) then (
 lkN p4 fun x162 =>
 .look (opS Tryz.prog (.indexAddr bX (.tmp 0) (.tmp 1)) aF [(.pointer (some x162)), (.int .i64 (w64 (x148.1 - 100)))]) (.one (.leaf .addr)) fun x163 =>
 .ld x163 (.int .i64) fun x164 =>
 lkN p4 fun x166 =>
 .look (opS Tryz.prog (.indexAddr bX (.tmp 0) (.tmp 1)) aF [(.pointer (some x166)), (.int .i64 (w64 (x148.1 - 100)))]) (.one (.leaf .addr)) fun x167 =>
 .st x167 (.int .i64 (w64 (x164 + 1))) <|
 .again 1408 [(.bool y2.1), (.int .i64 (w64 (y2.2.1 + 1)))])
 else (
 .again 1408 [(.bool y2.1), (.int .i64 (w64 (y2.2.1 + 1)))]))
 else (
 .again 1408 [(.bool y2.1), (.int .i64 (w64 (y2.2.1 + 1)))])))))
 else (
 .loop 2048 fm [(.bool y2.1), (.int .i64 0)] (fM p0 p4 p5))
@[reducible] def cw : List Sh1 := [(.leaf .bool), (.leaf (.int .i64))]
noncomputable def cQ (p0 : Option Addr) (p3 : Option Addr) (p4 : Option Addr) (p5 : Int) (y1 : HL Sh1.T cw) : Tree :=
 bif (decide ((y1.2.1 : Int) < 6)) then (
 lkN p3 fun x80 =>
 .look (opS Tryz.prog (.indexAddr aX (.tmp 0) (.tmp 1)) aF [(.pointer (some x80)), (.int .i64 y1.2.1)]) (.one (.leaf .addr)) fun x81 =>
 .ld x81 .ptr fun x82 =>
 .look (opS Tryz.prog (.binOp .eql ae (.tmp 0) (.const (.pointer none)) ae) aO [(.pointer x82)]) (.one (.leaf .bool)) fun x83 =>
 bif x83 then (
 .again 832 [(.bool y1.1), (.int .i64 (w64 (y1.2.1 + 1)))])
 else (
 lkN p0 fun x85 =>
 .ld x85 .ptr fun x87 =>
 lkN p3 fun x90 =>
 .look (opS Tryz.prog (.indexAddr aX (.tmp 0) (.tmp 1)) aF [(.pointer (some x90)), (.int .i64 y1.2.1)]) (.one (.leaf .addr)) fun x91 =>
 .ld x91 .ptr fun x92 =>
 .call bM [(.pointer x87), (.iface ae (.pointer x92))] (.one (.leaf .bool)) fun x94 =>
 bif (!x94) then (
 .ret (.bool false))
 else (
 lkN p3 fun x99 =>
 .look (opS Tryz.prog (.indexAddr aX (.tmp 0) (.tmp 1)) aF [(.pointer (some x99)), (.int .i64 y1.2.1)]) (.one (.leaf .addr)) fun x100 =>
 .ld x100 .ptr fun x101 =>
 .call dy [(.pointer x101)] (.tup [(.leaf (.int .i64)), (.leaf .bool)]) fun x102 =>
 bif x102.2.1 then (
 bif (decide ((x102.1 : Int) ≥ 100)) then (
 bif (decide ((x102.1 : Int) < 600)) then (
 lkN p4 fun x117 =>
 .look (opS Tryz.prog (.indexAddr bX (.tmp 0) (.tmp 1)) aF [(.pointer (some x117)), (.int .i64 (w64 (x102.1 - 100)))]) (.one (.leaf .addr)) fun x118 =>
 .ld x118 (.int .i64) fun x119 =>
 lkN p4 fun x121 =>
 .look (opS Tryz.prog (.indexAddr bX (.tmp 0) (.tmp 1)) aF [(.pointer (some x121)), (.int .i64 (w64 (x102.1 - 100)))]) (.one (.leaf .addr)) fun x122 =>
 .st x122 (.int .i64 (w64 (x119 + 1))) <|
 .again 832 [(.bool y1.1), (.int .i64 (w64 (y1.2.1 + 1)))])
 else (
 .again 832 [(.bool y1.1), (.int .i64 (w64 (y1.2.1 + 1)))]))
 else (
 .again 832 [(.bool y1.1), (.int .i64 (w64 (y1.2.1 + 1)))]))
 else (
 .again 832 [(.bool y1.1), (.int .i64 (w64 (y1.2.1 + 1)))]))))
 else (
 .loop 1408 gj [(.bool y1.1), (.int .i64 0)] (hM p0 p4 p5))
noncomputable def cK (p0 : Option Addr) (p2 : Option Addr) (p3 : Option Addr) (p4 : Option Addr) (p5 : Int) (x42 : Bool) : Tree :=
 bif x42 then (
 lkN p0 fun x44 =>
 .ld x44 .ptr fun x46 =>
 .call bM [(.pointer x46), (.iface bO (.pointer p2))] (.one (.leaf .bool)) fun x49 =>
 bif (!x49) then (
 .ret (.bool false))
 else (
 .call fR [(.pointer p2)] (.tup [(.leaf (.int .i64)), (.leaf .bool)]) fun x53 =>
 bif x53.2.1 then (
 bif (decide ((x53.1 : Int) ≥ 100)) then (
 bif (decide ((x53.1 : Int) < 600)) then (
 lkN p4 fun x68 =>
 .look (opS Tryz.prog (.indexAddr bX (.tmp 0) (.tmp 1)) aF [(.pointer (some x68)), (.int .i64 (w64 (x53.1 - 100)))]) (.one (.leaf .addr)) fun x69 =>
 .ld x69 (.int .i64) fun x70 =>
 lkN p4 fun x72 =>
 .look (opS Tryz.prog (.indexAddr bX (.tmp 0) (.tmp 1)) aF [(.pointer (some x72)), (.int .i64 (w64 (x53.1 - 100)))]) (.one (.leaf .addr)) fun x73 =>
 .st x73 (.int .i64 (w64 (x70 + 1))) <|
 .loop 832 cw [(.bool false), (.int .i64 0)] (cQ p0 p3 p4 p5))
 else (
 .loop 832 cw [(.bool false), (.int .i64 0)] (cQ p0 p3 p4 p5)))
 else (
 .loop 832 cw [(.bool false), (.int .i64 0)] (cQ p0 p3 p4 p5)))
 else (
 .loop 832 cw [(.bool false), (.int .i64 0)] (cQ p0 p3 p4 p5))))
 else (
 .loop 832 cw [(.bool false), (.int .i64 0)] (cQ p0 p3 p4 p5))
noncomputable def lP (p0 : Option Addr) (p1 : Option Addr) (p2 : Option Addr) (p3 : Option Addr) (p4 : Option Addr) (p5 : Int) : Tree :=
 .look (opS Tryz.prog (.binOp .neq cz (.tmp 0) (.const (.pointer none)) cz) aO [(.pointer p1)]) (.one (.leaf .bool)) fun x24 =>
 bif x24 then (
 lkN p0 fun x26 =>
 .ld x26 .ptr fun x28 =>
 .call bM [(.pointer x28), (.iface cz (.pointer p1))] (.one (.leaf .bool)) fun x31 =>
 bif (!x31) then (
 .ret (.bool false))
 else (
 .call gY [(.pointer p1)] (.one (.leaf .bool)) fun x34 =>
 bif (!x34) then (
 lkN p4 fun x39 =>
 .look (opS Tryz.prog (.indexAddr bX (.tmp 0) (.tmp 1)) aF [(.pointer (some x39)), (.int .i64 (w64 (p5 - 1)))]) (.one (.leaf .addr)) fun x40 =>
 .st x40 (.int .i64 1) <|
 .look (opS Tryz.prog (.binOp .neq bO (.tmp 0) (.const (.pointer none)) bO) aO [(.pointer p2)]) (.one (.leaf .bool)) fun x42 =>
 cK p0 p2 p3 p4 p5 x42)
 else (
 .look (opS Tryz.prog (.binOp .neq bO (.tmp 0) (.const (.pointer none)) bO) aO [(.pointer p2)]) (.one (.leaf .bool)) fun x42 =>
 cK p0 p2 p3 p4 p5 x42)))
 else (
 .look (opS Tryz.prog (.binOp .neq bO (.tmp 0) (.const (.pointer none)) bO) aO [(.pointer p2)]) (.one (.leaf .bool)) fun x42 =>
 cK p0 p2 p3 p4 p5 x42)
theorem oh {p0 : Option Addr} {p1 : Option Addr} {p2 : Option Addr} {p3 : Option Addr} {p4 : Option Addr} {p5 : Int} : SpT jd #[(.pointer p0), (.pointer p1), (.pointer p2), (.pointer p3), (.pointer p4), (.int .i64 p5)] (lP p0 p1 p2 p3 p4 p5) := spT cJ Tryz.func27 (by kernel_rfl)
def DR (C : MC) : Value → Heap → Prop := fun v K => v = .bool true ∧ ∃ A l, K = own A l C.H ∧ Aw C.I A ∧ Ok C.I C.H (keys l)
section
variable {C : MC} {A B : Ar} {D D' : PD} {J J' : OJ} {tj tj' : Nat → TJ} {tl : Bl} {r : Nat} {z z' : St} {x x' : Ps} {y y' : Pp} {L : aZ} {b : Bool} {p5 : Int}
theorem Nv (E : MS C A D J tj tl) (hp : p5 = D.pushed) (hs : ∀ u : Nat, (u : Int) < D.pushed → D.seen u = 1) :
    wp Tryz.prog (.loop 2048 fm [(.bool b), (.int .i64 0)] (fM (some ⟨C.x, 0, none⟩) (some ⟨C.bs, 0, none⟩) p5)) L (own A (ML C D J tj tl) C.H) (DR C) := by
  have pb := E.px.vi.pb
  refine JG (fun _ i K => 0 ≤ i ∧ i ≤ p5 ∧ K = own A (ML C D J tj tl) C.H) (fun _ i => (p5 - i).toNat) b 0 ⟨by omega, by omega, rfl⟩ ?_
  rintro b i K ⟨i0, i1, rfl⟩
  rw [fM]
  by_cases hi : i < p5
  · refine av (decide_eq_true hi) ?_
    refine aa.2 (xA E.aw E.ok i0 (show i < 600 by omega) ?_)
    have e1 := hs i.toNat (by omega)
    refine af (by rw [e1]; rfl) ?_
    refine cR ⟨b, i + 1, by show [_, Value.int .i64 (w64 (i + 1))] = _; rw [aE (by omega) (by omega)], ⟨by omega, by omega, rfl⟩, by omega⟩
  · refine af (decide_eq_false hi) ?_
    refine aa.2 (aS 0 (x := aI C.I) E.aw E.ok rfl rfl rfl ?_)
    refine Ct E.aw ?_
    exact ad ⟨by rw [E.px.z.fa]; rfl, A, _, rfl, E.aw, E.ok⟩
theorem Lw {ls : Int → List (Int × Int)} {T O Bw : Int} {val : Int → Int} {o : DOw} {ph : Oph} {hand : List Int} {g : Gd} (W : OwI A g ls T O val o .no ph Bw hand) : hand = [] := by
  cases W; rfl
theorem O3 {u : TypeId} {R : Value → Heap → Prop} {K : Option Addr → Tree} (ms : MS C A D J tj tl) (h : wp Tryz.prog (K (some ⟨C.ob, 0, none⟩)) L (own A (ML C D J tj tl) C.H) R) : wp Tryz.prog (.ld (Addr.add ⟨C.x, 0, none⟩ 8) .slice fun zz => .look (opS Tryz.prog (.indexAddr bN (.tmp 0) (.const (.int .i64 0))) u [.slice zz.a zz.len zz.cap]) (.one (.leaf .addr)) fun y => .ld y .ptr K) L (own A (ML C D J tj tl) C.H) R := by
  simp only [vt]
  refine aS 0 (x := C.s) ms.aw ms.ok rfl rfl rfl ?_
  refine Fb (i := 0) ms.aw ms.ok (ms.hs.mono fun p hp => ?_) (B2 ms.n0) (by rw [ms.fo]; exact h)
  exact List.mem_cons_of_mem _ (List.mem_cons_of_mem _ (List.mem_cons_of_mem _ (List.mem_cons_of_mem _ (List.mem_append_right _ (List.mem_append_right _ (List.mem_append_left _ hp))))))
theorem MS.KR (ms : MS C A D J tj tl) (hx : D.ow = .no) {R : Value → Heap → Prop} {K : Option Addr → Tree} (h : ∀ bb, MS C A { D with ow := .pop ⟨D.o, 0, 0, 0, false⟩ } { J with b := bb } tj tl → wp Tryz.prog (K (some ⟨bb, 0, none⟩)) L (own A (ML C { D with ow := .pop ⟨D.o, 0, 0, 0, false⟩ } { J with b := bb } tj tl) C.H) R) :
    wp Tryz.prog (.call fA [.pointer (some ⟨C.ob, 0, none⟩)] (.one (.leaf .ptr)) K) L (own A (ML C D J tj tl) C.H) R := by
  have eM : ML C D J tj tl = MLc C D.o .no J D.zs tj D.seen D.last tl := by unfold ML; rw [hx]
  have rp := ms.rep
  rw [hx] at rp
  have ok := ms.ok
  rw [eM] at ok ⊢
  refine IZ ms.aw ok fun bb ok2 => ?_
  exact h bb ⟨ms.aw, ok2, ms.hs, ms.n0, ms.fo, (ms.px.KR hx).2, rp, ms.tr, ms.rB, ms.pf⟩
theorem MS.rm (ms : MS C A D J tj tl) : 0 ≤ D.O - D.T ∧ D.O - D.T ≤ 64 := by
  have := ms.px.x.tb
  have := ms.px.x.rm
  have := jx D.o.h
  omega
set_option maxHeartbeats 1000000 in
theorem Ou (E : MS C A D J tj tl) (hp : p5 = D.pushed) (hx : D.ow = .no) (hz : ∀ r, D.zs r = none) (hU : D.U ≤ 200000) :
    wp Tryz.prog (.loop 1408 gj [(.bool b), (.int .i64 0)] (hM (some ⟨C.x, 0, none⟩) (some ⟨C.bs, 0, none⟩) p5)) L (own A (ML C D J tj tl) C.H) (DR C) := by
  have r64 := E.rm
  refine JG (fun _ i K => 0 ≤ i ∧ i ≤ 64 ∧ ∃ A D J tj tl, MS C A D J tj tl ∧ p5 = D.pushed ∧ D.ow = .no ∧ (∀ r, D.zs r = none) ∧ D.U ≤ 200000 + 10 * i ∧ D.O - D.T + i ≤ 64 ∧ K = own A (ML C D J tj tl) C.H) (fun _ i => (64 - i).toNat) b 0 ⟨by omega, by omega, A, D, J, tj, tl, E, hp, hx, hz, by omega, by omega, rfl⟩ ?_
  clear E hp hx hz hU r64
  rintro b i K ⟨i0, i1, A, D, J, tj, tl, E, hp, hx, hz, hU, hl, rfl⟩
  have pb := E.px.vi.pb
  have r64 := E.rm
  rw [hM]
  refine av (ilt (by show i < 100; omega)) ?_
  refine aa.2 (O3 E ?_)
  refine E.KR hx fun bb E1 => ?_
  refine aB (x := false) (O1 _) (af rfl ?_)
  refine aa.2 (aS 0 (x := aI C.I) E1.aw E1.ok rfl rfl rfl ?_)
  have W := E.px.ow
  rw [hx] at W
  have hh := Lw W
  refine E1.Ov (y := ⟨D.o, 0, 0, 0, false⟩) rfl (show (0 : Int) ≠ 5 by decide) (by show D.U + 6 ≤ _; omega) fun B D' y' J' E2 k1 k2 k3 k4 hu ow' hw hb hpf hlen => ?_
  have k1 : D'.zs = D.zs := k1
  have k3 : D'.seen = D.seen := k3
  have k4 : D'.pushed = D.pushed := k4
  have hu : D'.U ≤ D.U + 5 := hu
  have hlen : D'.O - D'.T + D'.hand.length = D.O - D.T + D.hand.length := hlen
  have hb : J'.b = bb := hb
  rw [hh] at hlen
  have hlen : D'.O - D'.T + D'.hand.length = D.O - D.T + 0 := hlen
  refine af rfl ?_
  dsimp only
  rw [← hb]
  refine E2.val ow' hw (fun tl2 hT _ M => ?_) (fun vv tl2 hv hh2 ok2 mk => ?_)
  · refine av rfl ?_
    refine Nv M (hp.trans k4.symm) fun u hu => ?_
    exact M.px.vi.fin hT (fun r _ => by show thd (D'.zs r) = []; rw [k1, hz r]; rfl) u hu
  · obtain ⟨v1, v2, v3⟩ := hv
    have sb := E2.px.vi.sb (vv - 100).toNat
    rw [hh2] at hlen
    have hlen : D'.O - D'.T + 1 = D.O - D.T + 0 := hlen
    refine af rfl ?_
    refine av (decide_eq_true (by show vv ≥ 100; omega)) ?_
    refine av (decide_eq_true (by show vv < 600; omega)) ?_
    dsimp only
    rw [aE (x := vv - 100) (by omega) (by omega)]
    refine aa.2 (xA E2.aw ok2 (by omega) (by omega) ?_)
    rw [aE (x := D'.seen (vv - 100).toNat + 1) (by omega) (by omega)]
    refine aa.2 (wu E2.aw ok2 (by omega) (by omega) fun ok3 => ?_)
    have M := mk ok3
    refine cR ⟨b, i + 1, by show [_, Value.int .i64 (w64 (i + 1))] = _; rw [aE (by omega) (by omega)], ⟨by omega, by have := E2.rm; omega, B, _, _, _, _, M, hp.trans k4.symm, rfl, fun r => by show D'.zs r = none; rw [k1]; exact hz r, by show D'.U ≤ _; omega, by show D'.O - D'.T + (i + 1) ≤ 64; omega, rfl⟩, by have := E2.rm; omega⟩
set_option maxHeartbeats 1000000 in
theorem Jn (E : MS C A D J tj tl) (hp : p5 = D.pushed) (hx : D.ow = .no) (nt : ∀ r z, D.zs r = some z → nd z) (nn : ∀ r, D.zs r = none → J.pf r = none) (hU : D.U ≤ 150000) :
    wp Tryz.prog (.loop 832 cw [(.bool b), (.int .i64 0)] (cQ (some ⟨C.x, 0, none⟩) (some ⟨C.b6, 0, none⟩) (some ⟨C.bs, 0, none⟩) p5)) L (own A (ML C D J tj tl) C.H) (DR C) := by
  refine JG (fun _ i K => 0 ≤ i ∧ i ≤ 6 ∧ ∃ A D J tj tl, MS C A D J tj tl ∧ p5 = D.pushed ∧ D.ow = .no ∧ (∀ r z, D.zs r = some z → nd z) ∧ (∀ r : Nat, i ≤ r → D.zs r = none → J.pf r = none) ∧ (∀ r : Nat, (r : Int) < i → D.zs r = none) ∧ D.U ≤ 150000 + 20 * i ∧ K = own A (ML C D J tj tl) C.H) (fun _ i => (6 - i).toNat) b 0 ⟨by omega, by omega, A, D, J, tj, tl, E, hp, hx, nt, fun r _ => nn r, fun r h => by omega, by omega, rfl⟩ ?_
  clear E hp hx nt nn hU
  rintro b i K ⟨i0, i1, A, D, J, tj, tl, E, hp, hx, nt, nn, hz, hU, rfl⟩
  have pb := E.px.vi.pb
  rw [cQ]
  by_cases hi : i < 6
  · refine av (ilt hi) ?_
    refine aa.2 (xO E.aw E.ok i0 hi ?_)
    cases hzi : D.zs i.toNat with
    | none =>
      rw [nn i.toNat (by omega) hzi]
      refine aB (x := true) (L9 _) (av rfl ?_)
      refine cR ⟨b, i + 1, by show [_, Value.int .i64 (w64 (i + 1))] = _; rw [aE (by omega) (by omega)], ⟨by omega, by omega, A, D, J, tj, tl, E, hp, hx, nt, fun r h => nn r (by omega), fun r h => ?_, by omega, rfl⟩, by omega⟩
      by_cases e : r = i.toNat
      · rw [e]; exact hzi
      · exact hz r (by omega)
    | some z =>
      rw [E.pf _ _ hzi]
      refine aB (x := false) (L3 _ _) (af rfl ?_)
      refine aa.2 (aS 0 (x := aI C.I) E.aw E.ok rfl rfl rfl ?_)
      refine aa.2 (xO E.aw E.ok i0 hi ?_)
      rw [E.pf _ _ hzi]
      refine E.Pq hzi (E.mu hzi (nt _ _ hzi)) (by omega) fun B D' z' tj' E2 k ez hu hf hb => ?_
      have ez' : D'.zs i.toNat = some z' := by rw [ez, bf]
      have hp' : p5 = D'.pushed := by rw [k.pushed]; exact hp
      have nt' : ∀ r z1, bm D'.zs i.toNat none r = some z1 → nd z1 := fun r z1 h1 => by
        by_cases e : r = i.toNat
        · rw [e, bf] at h1; cases h1
        · rw [bB _ _ e, ez, bB _ _ e] at h1; exact nt r z1 h1
      have nn' : ∀ r : Nat, i + 1 ≤ r → bm D'.zs i.toNat none r = none → J.pf r = none := fun r h h1 => by
        rw [bB _ _ (by omega), ez, bB _ _ (by omega)] at h1; exact nn r (by omega) h1
      have hz' : ∀ r : Nat, (r : Int) < i + 1 → bm D'.zs i.toNat none r = none := fun r h => by
        by_cases e : r = i.toNat
        · rw [e, bf]
        · rw [bB _ _ e, ez, bB _ _ e]; exact hz r (by omega)
      refine af rfl ?_
      refine aa.2 (xO E2.aw E2.ok i0 hi ?_)
      rw [E2.pf _ _ ez']
      refine E2.N8 ez' hf (fun mk => ?_) (fun vv hv mk => ?_)
      · refine af rfl ?_
        obtain ⟨p, o2⟩ := xR (A := B) E2.ok (by omega) ez'
        have M := mk J.pf _ (fun _ _ => rfl) o2
        refine cR ⟨b, i + 1, by show [_, Value.int .i64 (w64 (i + 1))] = _; rw [aE (by omega) (by omega)], ⟨by omega, by omega, B, _, _, _, _, M, hp', by show D'.ow = .no; rw [k.ow]; exact hx, nt', nn', hz', by show D'.U ≤ _; omega, p⟩, by omega⟩
      · obtain ⟨v1, v2, v3, v4⟩ := hv
        have sb := E2.px.vi.sb (vv - 100).toNat
        refine av rfl ?_
        refine av (decide_eq_true (by show vv ≥ 100; omega)) ?_
        refine av (decide_eq_true (by show vv < 600; omega)) ?_
        dsimp only
        rw [aE (x := vv - 100) (by omega) (by omega)]
        refine aa.2 (xA E2.aw E2.ok (by omega) (by omega) ?_)
        rw [aE (x := D'.seen (vv - 100).toNat + 1) (by omega) (by omega)]
        refine aa.2 (wu E2.aw E2.ok (by omega) (by omega) fun ok3 => ?_)
        obtain ⟨p, o2⟩ := xR (A := B) ok3 (by omega) ez'
        have M := mk D'.last J.pf _ (.inr rfl) (fun _ _ => rfl) (fun _ _ => rfl) o2
        refine cR ⟨b, i + 1, by show [_, Value.int .i64 (w64 (i + 1))] = _; rw [aE (by omega) (by omega)], ⟨by omega, by omega, B, _, _, _, _, M, hp', by show D'.ow = .no; rw [k.ow]; exact hx, nt', nn', hz', by show D'.U ≤ _; omega, p⟩, by omega⟩
  · refine af (decide_eq_false hi) ?_
    exact Ou E hp hx (fun r => by
      by_cases h : (r : Int) < i
      · exact hz r h
      · exact E.rB r (by omega)) (by omega)
theorem BQ (E : MS C A D J tj tl) (hp : p5 = D.pushed) (hx : D.ow = .no) (nt : ∀ r z, D.zs r = some z → nd z) (nn : ∀ r, D.zs r = none → J.pf r = none) (hU : D.U ≤ 150000) {qp : Option Addr} :
    wp Tryz.prog (cK (some ⟨C.x, 0, none⟩) qp (some ⟨C.b6, 0, none⟩) (some ⟨C.bs, 0, none⟩) p5 false) L (own A (ML C D J tj tl) C.H) (DR C) := by
  rw [cK]
  exact af rfl (Jn E hp hx nt nn hU)
set_option maxHeartbeats 1000000 in
theorem Kv (E : MS C A D J tj tl) (hp : p5 = D.pushed) (hx : D.ow = .pop y) (hk : y.what ≠ 5) (nt : ∀ r z, D.zs r = some z → nd z) (nn : ∀ r, D.zs r = none → J.pf r = none) (hU : D.U ≤ 140000) :
    wp Tryz.prog (cK (some ⟨C.x, 0, none⟩) (some ⟨J.b, 0, none⟩) (some ⟨C.b6, 0, none⟩) (some ⟨C.bs, 0, none⟩) p5 true) L (own A (ML C D J tj tl) C.H) (DR C) := by
  have pb := E.px.vi.pb
  rw [cK]
  refine av rfl ?_
  refine aa.2 (aS 0 (x := aI C.I) E.aw E.ok rfl rfl rfl ?_)
  refine E.Ov hx hk (by omega) fun B D' y' J' E2 k1 k2 k3 k4 hu ow' hw hb hpf hlen => ?_
  have nt' : ∀ r z1, D'.zs r = some z1 → nd z1 := fun r z1 h1 => nt r z1 (by rw [← k1]; exact h1)
  have nn' : ∀ r, D'.zs r = none → J'.pf r = none := fun r h => by rw [hpf]; exact nn r (by rw [← k1]; exact h)
  refine af rfl ?_
  rw [← hb]
  refine E2.val ow' hw (fun tl2 _ _ M => ?_) (fun vv tl2 hv _ ok2 mk => ?_)
  · refine af rfl ?_
    exact Jn M (hp.trans k4.symm) rfl nt' nn' (by show D'.U ≤ _; omega)
  · obtain ⟨v1, v2, v3⟩ := hv
    have sb := E2.px.vi.sb (vv - 100).toNat
    refine av rfl ?_
    refine av (decide_eq_true (by show vv ≥ 100; omega)) ?_
    refine av (decide_eq_true (by show vv < 600; omega)) ?_
    dsimp only
    rw [aE (x := vv - 100) (by omega) (by omega)]
    refine aa.2 (xA E2.aw ok2 (by omega) (by omega) ?_)
    rw [aE (x := D'.seen (vv - 100).toNat + 1) (by omega) (by omega)]
    refine aa.2 (wu E2.aw ok2 (by omega) (by omega) fun ok3 => ?_)
    have M := mk ok3
    have U' : D'.U ≤ 150000 := by omega
    have hp' : p5 = D'.pushed := hp.trans k4.symm
    exact Jn (D := { D' with ow := .no, hand := [], seen := bm D'.seen (vv - 100).toNat (D'.seen (vv - 100).toNat + 1) }) (J := J') (tj := tj) (tl := tl2) (A := B) M hp' rfl nt' nn' U'
set_option maxHeartbeats 1000000 in
theorem BX {pp qp : Option Addr} {i : Int} (S : LS C pp qp p5 i A D J tj tl) (ib : i ≤ 900) :
    cB Tryz.prog jd #[(.pointer (some ⟨C.x, 0, none⟩)), (.pointer pp), (.pointer qp), (.pointer (some ⟨C.b6, 0, none⟩)), (.pointer (some ⟨C.bs, 0, none⟩)), (.int .i64 p5)] (own A (ML C D J tj tl) C.H) (DR C) := by
  obtain ⟨E, hp, hq, hs, hu, nt, no, nn⟩ := S
  have pb := E.px.vi.pb
  refine oh fun L => ?_
  unfold lP
  cases hx : D.ow with
  | no =>
    rw [hx] at hp hq
    have hp : pp = none := hp
    have hq : qp = none := hq
    subst hp; subst hq
    refine aB (x := false) (FM _) (af rfl ?_)
    refine aB (x := false) (F7 _) ?_
    exact BQ E hs hx nt nn (by omega)
  | pop y =>
    rw [hx] at hp hq no
    have hp : pp = none := hp
    have hq : qp = some ⟨J.b, 0, none⟩ := hq
    subst hp; subst hq
    refine aB (x := false) (FM _) (af rfl ?_)
    refine aB (x := true) (L8 _ _) ?_
    exact Kv E hs hx no nt nn (by omega)
  | push x =>
    rw [hx] at hp hq no
    have hp : pp = some ⟨J.j.b, 0, none⟩ := hp
    have hq : qp = none := hq
    subst hp; subst hq
    refine aB (x := true) (Mh _ _) (av rfl ?_)
    refine aa.2 (aS 0 (x := aI C.I) E.aw E.ok rfl rfl rfl ?_)
    refine E.prun hx no (by omega) fun B D' x' J' E2 k1 k2 k3 k4 hu2 ow' hw hb hpf => ?_
    have nt' : ∀ r z1, D'.zs r = some z1 → nd z1 := fun r z1 h1 => nt r z1 (by rw [← k1]; exact h1)
    have nn' : ∀ r, D'.zs r = none → J'.pf r = none := fun r h => by rw [hpf]; exact nn r (by rw [← k1]; exact h)
    refine af rfl ?_
    rw [← hb]
    refine E2.bS ow' hw (fun tl2 M => ?_) (fun tl2 p1 ok2 mk => ?_)
    · refine af rfl ?_
      refine aB (x := false) (F7 _) ?_
      exact BQ M (hs.trans k4.symm) rfl nt' nn' (by show D'.U ≤ _; omega)
    · refine av rfl ?_
      have e1 : w64 (p5 - 1) = D'.pushed - 1 := by rw [aE (by omega) (by omega), k4, hs]
      rw [e1]
      refine aa.2 (wu E2.aw ok2 (by omega) (by omega) fun ok3 => ?_)
      have M := mk ok3
      refine aB (x := false) (F7 _) ?_
      exact BQ M (hs.trans k4.symm) rfl nt' nn' (by show D'.U ≤ _; omega)
end
section
variable {A B C : Ar} {g : Gd} {m : Int} {S S' : Sg} {l : Int → List (Int × Int)} {at_ ex k : Int} {n : Nat} {f : Nat → Dq} {us : List (Int × Int)}
end
section
variable {L : aZ} {R : Value → Heap → Prop} {G : Heap} {rest sb : Bl} {A : Ar} {I : List Nat} {g : Gd} {m : Int} {S : Sg} {l : Int → List (Int × Int)} {at_ ex : Int} {q mq x n : Nat} {s : Sl} {e : List LE} {f : Nat → Dq} {us : List (Int × Int)}
end
section
variable {C : MC} {A B : Ar} {D D' : PD} {J J' : OJ} {tj tj' : Nat → TJ} {tl : Bl} {L : aZ} {R : Value → Heap → Prop} {b : Bool} {pp qp : Option Addr} {ps i x24 : Int}
theorem J4 (S : LS C pp qp ps i A D J tj tl) (ib : i ≤ 900) (hI : ∀ y ∈ C.I, C.H y = none) (hw : w64 (2 + x24) = C.g.w) (hR : R (.bool true) C.H) :
    wp Tryz.prog (eU x24 (some ⟨C.x, 0, none⟩) ⟨C.b6, 0, none⟩ ⟨C.bs, 0, none⟩ (b, pp, qp, ps, i, ())) L (own A (ML C D J tj tl) C.H) R := by
  have wb := S.ms.px.z.lay.wb
  rw [eU]
  refine aR (BX S ib) ?_
  rintro v K ⟨rfl, A', l, rfl, hA, ok⟩
  refine ⟨true, rfl, ?_⟩
  refine av rfl ?_
  refine av (decide_eq_true (by rw [hw]; omega)) ?_
  refine ax (x := true) (C7 _) ?_
  exact ⟨C.H, B7 hA ok hI, hR⟩
set_option maxHeartbeats 1000000 in
theorem OM {z : Sl} {zs : List Int} (hz : Gu C.H z.a z.len zs) (S : LS C pp qp ps i A D J tj tl) (ib : 0 ≤ i ∧ i ≤ 900) (hI : ∀ y ∈ C.I, C.H y = none) (hw : w64 (2 + x24) = C.g.w) (hR : R (.bool true) C.H)
    (hag : i < 900 → Ag C L R b i) :
    wp Tryz.prog (gg z x24 (some ⟨C.x, 0, none⟩) ⟨C.b6, 0, none⟩ ⟨C.bs, 0, none⟩ ⟨C.bl, 0, none⟩ (b, pp, qp, ps, i, ())) L (own A (ML C D J tj tl) C.H) R := by
  have E := S.ms
  obtain ⟨u0, u1⟩ := E.aD
  have hu := S.hu
  have wb := E.px.z.lay.wb
  rw [gg]
  by_cases h1 : i < ((z.len : Nat) : Int)
  rotate_left
  · exact af (decide_eq_false h1) (J4 S ib.2 hI hw hR)
  refine av (decide_eq_true h1) ?_
  by_cases h2 : i < 900
  rotate_left
  · exact af (decide_eq_false h2) (J4 S ib.2 hI hw hR)
  have hag := hag h2
  refine av (decide_eq_true h2) ?_
  refine MD hz (B7 E.aw E.ok hI) ib.1 h1 ?_
  refine F4 (by decide) (by decide) ?_
  obtain ⟨v, hv⟩ : ∃ v, v = zs.getD i.toNat 0 % 1048576 := ⟨_, rfl⟩
  have v0 : 0 ≤ v := by rw [hv]; exact Int.emod_nonneg _ (by decide)
  rw [← hv]
  refine aB (x := v % C.g.w) (by rw [hw, wX (by omega), Int.tmod_eq_emod_of_nonneg v0]) ?_
  have m0 := Int.emod_nonneg v (b := C.g.w) (by omega)
  have m1 := Int.emod_lt_of_pos v (b := C.g.w) (by omega)
  refine aa.2 (aS 0 (x := aI C.I) E.aw E.ok rfl rfl rfl ?_)
  refine p7 E.aw ?_
  by_cases h0 : v % C.g.w = 0
  · rw [h0]
    refine af rfl ?_
    exact Ox S ⟨ib.1, h2⟩ hw v0 hag
  · obtain ⟨r, hr⟩ : ∃ r : Nat, v % C.g.w = (r : Int) := ⟨(v % C.g.w).toNat, by omega⟩
    rw [hr]
    refine av (decide_eq_true (by show (r : Int) > 0; omega)) ?_
    refine xO E.aw E.ok (by omega) (by omega) ?_
    cases hzr : D.zs r with
    | none =>
      have e0 : J.pf ((r : Int)).toNat = none := S.nn r hzr
      rw [e0]
      refine aB (x := true) (L9 _) (av rfl ?_)
      refine aa.2 (aS 0 (x := C.at_) E.aw E.ok rfl rfl rfl ?_)
      refine aa.2 (aS 0 (x := some ⟨C.q, 0, none⟩) E.aw E.ok rfl rfl rfl ?_)
      refine Mn E.aw E.ok (by omega) (by omega) hzr fun j rp ok2 => ?_
      have M : MS C A { D with zs := bm D.zs r (some ⟨dD C.at_ r 0 0 0, .enter :: st7, .no⟩) } { J with pf := bm J.pf r (some ⟨j.b, 0, none⟩) } (bm tj r j) tl := by
        refine ⟨E.aw, ok2, E.hs, E.n0, E.fo, E.px.OZ hzr (by omega) (by omega), Cb E.rep, fun k z1 h => ?_, fun k hk => ?_, fun k z1 h => ?_⟩
        · have h : bm D.zs r (some ⟨dD C.at_ r 0 0 0, .enter :: st7, .no⟩) k = some z1 := h
          by_cases e : k = r
          · subst e; rw [bf] at h ⊢; cases h; exact rp
          · rw [bB _ _ e] at h ⊢; exact E.tr k z1 h
        · show bm D.zs r (some ⟨dD C.at_ r 0 0 0, .enter :: st7, .no⟩) k = none
          rw [bB _ _ (by omega)]; exact E.rB k hk
        · have h : bm D.zs r (some ⟨dD C.at_ r 0 0 0, .enter :: st7, .no⟩) k = some z1 := h
          show bm J.pf r (some ⟨j.b, 0, none⟩) k = some ⟨(bm tj r j k).b, 0, none⟩
          by_cases e : k = r
          · subst e; rw [bf, bf]
          · rw [bB _ _ e] at h; rw [bB _ _ e, bB _ _ e]; exact E.pf k z1 h
      refine AY (D := { D with zs := bm D.zs r (some ⟨dD C.at_ r 0 0 0, .enter :: st7, .no⟩) }) (J := { J with pf := bm J.pf r (some ⟨j.b, 0, none⟩) }) (tj := bm tj r j) ⟨M, by show pp = HG D.ow _; rw [BS]; exact S.hp, by show qp = Ho D.ow _; rw [B4]; exact S.hq, S.hs, by show D.U ≤ _; omega, fun k z1 h => ?_, S.no, fun k h => ?_⟩ (by omega) ⟨u0, by omega⟩ hag
      · have h : bm D.zs r (some ⟨dD C.at_ r 0 0 0, .enter :: st7, .no⟩) k = some z1 := h
        by_cases e : k = r
        · subst e; rw [bf] at h; cases h; exact fun hh => (by cases hh.2)
        · rw [bB _ _ e] at h; exact S.nt k z1 h
      · have h : bm D.zs r (some ⟨dD C.at_ r 0 0 0, .enter :: st7, .no⟩) k = none := h
        show bm J.pf r (some ⟨j.b, 0, none⟩) k = none
        by_cases e : k = r
        · rw [e, bf] at h; cases h
        · rw [bB _ _ e] at h ⊢; exact S.nn k h
    | some z1 =>
      have e0 : J.pf ((r : Int)).toNat = some ⟨(tj r).b, 0, none⟩ := E.pf r z1 hzr
      rw [e0]
      refine aB (x := false) (L3 _ _) (af rfl ?_)
      exact NU (who := (r : Int)) S hzr (by omega) (by omega) ⟨ib.1, h2⟩ hag
end
def J0 : OJ := ⟨0, [], ⟨0, 0, [], lj0, (0, 0, 0), (0, 0, 0), .nilIface, []⟩, fun _ => none⟩
def Ln : Nat → TJ := fun _ => ⟨0, sl0, ⟨0, ⟨0, sl0, []⟩⟩, []⟩
theorem LF {A : Ar} {g : Gd} {m at_ : Int} {S : Sg} {n : Nat} {f : Nat → Dq} (M : DM A g m S at_ n 0 f) (hn : 0 < n) (wb : 2 ≤ g.w ∧ g.w ≤ 5) (mb : 0 ≤ m ∧ m ≤ 700) (hu : A.aD ≤ 100000) :
    PX g m at_ A ⟨S, .no, fun _ => [], 0, 0, fun _ => 0, (f 0).o, .no, 0, [], fun _ => none, fun _ => 0, fun _ => -1, fun _ => 0, 0, 100, 100000⟩ := by
  have X := M.di.gi
  obtain ⟨_, e2, e3, e4⟩ := M.em 0 hn
  have e1 := (M.em 0 hn).1
  have Q := M.di.dq 0 hn
  have oa := M.di.oa 0 hn
  have ow : (f 0).o.work = 0 := M.di.ow 0 hn
  have op := M.di.op 0 hn
  have sz := jx (f 0).o.h
  have u0 := X.u0
  have nu := X.nu
  have l0 := X.l0
  have r0 : 0 ≤ A.nR := by rw [X.nR]; exact Gn _ _
  refine ⟨⟨X.sl, X.fa, ⟨X.ta, X.c0, M.di.da.lo, M.di.da.hi, X.rb, wb, mb⟩, hu, (show (100000 : Int) ≤ 800000 by decide), ⟨by omega, by omega⟩, X.eb, ⟨.nil, fun q h => (by cases h)⟩⟩, ⟨?_, ?_, Q.hs, ⟨(show (0 : Int) ≤ 0 by decide), (show (0 : Int) ≤ 0 by decide), (show (0 : Int) ≤ 2000 by decide)⟩, by show (0 : Int) - 0 ≤ au (opC (f 0).o.h); omega, fun j a b => ?_⟩, ?_, ⟨oa, ow, op⟩, .idle e3, fun r z h => (by cases h), VI.init⟩
  · have := Q.r0; rw [oa, ow, e2] at this; exact this
  · have := Q.r2; rw [oa, ow] at this; exact this
  · have a : 0 ≤ j := a
    have b : j < 0 := b
    omega
  · have := Q.r1; rw [oa, ow, e3] at this; exact this
theorem Nc {n : Nat} {v : Value} : List.replicate n v = l3 n fun _ => v := by
  unfold l3; rw [List.map_const', List.length_range]
set_option maxHeartbeats 4000000 in
theorem zi (p0 : Int) (ep : Bool) (z : Sl) (zs : List Int) (H : Heap) (hz : Gu H z.a z.len zs) : Det Tryz.prog ia [.int .i64 p0, .bool ep, .slice z.a z.len z.cap] H (.bool true) H := by
  refine mA fun L => ?_
  unfold jW
  refine F4 (by decide) (by decide) ?_
  have p1 := Int.emod_nonneg p0 (b := 4) (by decide)
  have p2 := Int.emod_lt_of_pos p0 (b := 4) (by decide)
  obtain ⟨x24, hx24⟩ : ∃ x24, x24 = p0 % 4 := ⟨_, rfl⟩
  rw [← hx24] at p1 p2 ⊢
  obtain ⟨W, hW⟩ : ∃ W : Nat, w64 (2 + x24) = (W : Int) ∧ 2 ≤ W ∧ W ≤ 5 := ⟨(2 + x24).toNat, by rw [aE (by omega) (by omega)]; omega, by omega, by omega⟩
  rw [hW.1]
  refine aR (y7 ep W 700 ⟨by omega, by omega⟩ ⟨by omega, by decide⟩ H) ?_
  rintro v K ⟨A, x, q, mq, S, f, s, sb, rest, rfl, rfl, hI, M⟩
  refine ⟨some ⟨x, 0, none⟩, rfl, ?_⟩
  refine aB (x := false) (LZ _) (af rfl ?_)
  refine cL (c := [.pointer none, .pointer none, .pointer none, .pointer none, .pointer none, .pointer none]) M.aw M.ok fun b6 ok1 => ?_
  refine cL (c := List.replicate 600 (.int .i64 0)) M.aw ok1 fun bs ok2 => ?_
  refine cL (c := [.int .i64 0, .int .i64 0, .int .i64 0, .int .i64 0, .int .i64 0, .int .i64 0]) M.aw ok2 fun bl ok3 => ?_
  refine j9 0 M.aw ok3 rfl rfl rfl rfl ?_
  have us := M.dm.us
  have px := LF M.dm (by omega) (show 2 ≤ (W : Int) ∧ (W : Int) ≤ 5 by omega) (by decide) (by omega)
  have n0 : 0 < W := by omega
  obtain ⟨D0, hD0⟩ : ∃ D0 : PD, D0 = ⟨S, .no, fun _ => [], 0, 0, fun _ => 0, (f 0).o, .no, 0, [], fun _ => none, fun _ => 0, fun _ => -1, fun _ => 0, 0, 100, 100000⟩ := ⟨_, rfl⟩
  obtain ⟨C, hC⟩ : ∃ C : MC, C = ⟨A.ids, H, gdW ep W 700, 700, atW ep W 700, x, q, mq, (f 0).ob, b6, bs, bl, s, sb, W, f⟩ := ⟨_, rfl⟩
  have ok4 : Ok A.ids H (keys ((bl, oc gA [.int .i64 (-1), .int .i64 (-1), .int .i64 (-1), .int .i64 (-1), .int .i64 (-1), .int .i64 (-1)]) :: (bs, oc bX (List.replicate 600 (.int .i64 0))) :: (b6, oc aX [.pointer none, .pointer none, .pointer none, .pointer none, .pointer none, .pointer none]) :: WL x q mq A.ids (gdW ep W 700) (atW ep W 700) s [] f W sb rest)) := ok3
  obtain ⟨pm, ok5⟩ := aN (A := A) (l' := ML C D0 J0 Ln rest) ok4 (aT fun c d c0 cd ca => by
    rw [hC, hD0, Nc]
    show c ((bl, oc gA [.int .i64 (-1), .int .i64 (-1), .int .i64 (-1), .int .i64 (-1), .int .i64 (-1), .int .i64 (-1)]) :: (bs, oc bX (l3 600 fun _ => .int .i64 0)) :: (b6, oc aX [.pointer none, .pointer none, .pointer none, .pointer none, .pointer none, .pointer none]) :: (x, oc bI (wC A.ids q (gdW ep W 700).pl (atW ep W 700) s)) :: ((gdW ep W 700).bl q mq [] ++ (eG (fun i => (f i).bl q) W ++ (sb ++ rest)))) =
      c ((x, oc bI (wC A.ids q (gdW ep W 700).pl (atW ep W 700) s)) :: (b6, oc aX [.pointer none, .pointer none, .pointer none, .pointer none, .pointer none, .pointer none]) :: (bs, oc bX (l3 600 fun _ => .int .i64 0)) :: (bl, oc gA [.int .i64 (-1), .int .i64 (-1), .int .i64 (-1), .int .i64 (-1), .int .i64 (-1), .int .i64 (-1)]) :: (((((f 0).ob, oc aC (owC (f 0).o q))) :: (gdW ep W 700).bl q mq []) ++ (fD (fun i => (f i).bl q) 0 W ++ (sb ++ ([] ++ rest)))))
    have hb : c ((f 0).bl q) = d ((f 0).ob, oc aC (owC (f 0).o q)) := by show c (_ :: []) = _; rw [cd, c0]; rfl
    simp only [List.cons_append, List.nil_append, cd, ca, c0, qn c0 ca (fun i => (f i).bl q) n0, hb]
    omega)
  have M0 : MS C A D0 J0 Ln rest := by
    subst hC; subst hD0
    exact ⟨M.aw, ok5, M.hs, n0, rfl, px, gd0, fun r z h => (by cases h), fun _ _ => rfl, fun r z h => (by cases h)⟩
  have hw : w64 (2 + x24) = C.g.w := by rw [hC]; exact hW.1
  have eA : A.ids = C.I := by rw [hC]
  have eH : H = C.H := by rw [hC]
  have S0 : LS C none none 0 0 A D0 J0 Ln rest := by
    refine ⟨M0, ?_, ?_, ?_, ?_, fun r z h => ?_, ?_, fun _ _ => rfl⟩
    · rw [hD0]; rfl
    · rw [hD0]; rfl
    · rw [hD0]
    · rw [hD0]; show (100000 : Int) ≤ 100000 + 0; decide
    · rw [hD0] at h; cases h
    · rw [hD0]; trivial
  show wp Tryz.prog _ L (own A ((bl, oc gA [.int .i64 (-1), .int .i64 (-1), .int .i64 (-1), .int .i64 (-1), .int .i64 (-1), .int .i64 (-1)]) :: (bs, oc bX (List.replicate 600 (.int .i64 0))) :: (b6, oc aX [.pointer none, .pointer none, .pointer none, .pointer none, .pointer none, .pointer none]) :: WL x q mq A.ids (gdW ep W 700) (atW ep W 700) s [] f W sb rest) H) _
  rw [pm]
  have ex : x = C.x := by rw [hC]
  have e6 : b6 = C.b6 := by rw [hC]
  have es : bs = C.bs := by rw [hC]
  have el : bl = C.bl := by rw [hC]
  rw [ex, e6, es, el, eH]
  rw [eH] at hz
  rw [eA, eH] at hI
  clear hC hD0 pm ok5 ok4 ok3 ok2 ok1 M px us
  refine JY (fun _ pp qp ps i K => 0 ≤ i ∧ i ≤ 900 ∧ LI C pp qp ps i K) (fun _ _ _ _ i => (900 - i).toNat) false none none 0 0 ⟨by decide, by decide, A, D0, J0, Ln, rest, S0, rfl⟩ ?_
  rintro b pp qp ps i K ⟨i0, i1, A1, D1, J1, tj1, tl1, S1, rfl⟩
  refine OM hz S1 ⟨i0, i1⟩ hI hw ⟨rfl, rfl⟩ fun h2 pp' qp' ps' K' LI' => ?_
  refine cR ⟨b, pp', qp', ps', i + 1, by show [_, _, _, _, Value.int .i64 (w64 (i + 1))] = _; rw [aE (by omega) (by omega)], ⟨by omega, by omega, LI'⟩, by omega⟩
theorem ThiefMixes_det (p0 : Int) (ep : Bool) (z : Sl) (zs : List Int) (H : Heap) (hz : Gu H z.a z.len zs) : Det Tryz.prog ia [.int .i64 p0, .bool ep, .slice z.a z.len z.cap] H (.bool true) H := zi p0 ep z zs H hz
end Go.Proofs.YtjnacjniiogjcaaGreat
