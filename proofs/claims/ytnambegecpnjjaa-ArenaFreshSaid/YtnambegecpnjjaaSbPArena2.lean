import Derived.Test.YtnambegecpnjjaaSbPArena
set_option linter.unusedVariables false
set_option maxRecDepth 20000
namespace Go.Proofs.Ytnambegecpnjjaa
open Go Go.Fw

theorem bornOk_first {A : Ar} {r w : Nat} {fr : Bool} (hm : A.made r w fr) {h : Int} (ho : openOk h = true) (hf : opB h + sizeF (opC h) ≤ w) : A.bornOk h := by
  refine ⟨ho, by rw [hm.words]; simpa using hf, ?_, ?_⟩
  · rw [hm.gens]
    show (0 : Int) < opG h
    unfold opG; rw [ho, if_pos rfl]
    obtain ⟨⟨_, _, h3, _⟩, _⟩ := open_ok ho
    omega
  · intro i _
    rw [hm.busy, List.getD_eq_getElem?_getD, List.getElem?_replicate]
    split <;> rfl

theorem bornOk_next {A : Ar} (hA : A.wf) {h k : Int} (hb : A.bornOk k) (ho : openOk h = true) (hne : opB h ≠ opB k) (hf : opB h + sizeF (opC h) ≤ A.words.length) (hg : alGet A.gens (opB h) = none)
    (hd : opB k + sizeF (opC k) ≤ opB h) (hfree : A.free h) : (A.bornF k).bornOk h := by
  have o1 := opB_nat h
  have o2 := opB_nat k
  have o3 := size_opC k
  refine ⟨ho, by rw [bornF_wl]; exact hf, ?_, ?_⟩
  · rw [bornF_gens, alGet_put, if_neg hne, hg]
    show (0 : Int) < opG h
    unfold opG; rw [ho, if_pos rfl]
    obtain ⟨⟨_, _, h3, _⟩, _⟩ := open_ok ho
    omega
  · intro i hi
    have := hfree i hi
    rw [List.getD_eq_getElem?_getD] at this ⊢
    rw [bornF_busy, setN_get, if_neg (by omega)]
    exact this

end Go.Proofs.Ytnambegecpnjjaa
