/- FnExactDecodePage's plain law: its walk's function comes to true. -/
import Derived.Test.YtlopmffdebhpfaaG3
import Derived.Test.YtlopmffdebhpfaaDec
namespace Go.Proofs.Ytlopmffdebhpfaa.Pure
open Go.RowKit Go.Proofs.Ytlopmffdebhpfaa.G Go.Proofs.YtlopmffdebhpfaaW.PrintWords Go.Proofs.YtlopmffdebhpfaaW.PrintLast

theorem decV_len {id : Int} {l : List Int} (hl : l.length ≤ 1048576) : (decV id l).2.1.length ≤ 1048576 := by
  unfold decV
  split
  · show (bodyOf l).length ≤ _
    unfold bodyOf
    rw [List.length_drop, List.length_take]
    omega
  · simp
theorem FnExactDecodePage : laws_FnExactDecodePage.Pure := by
  intro a0 l1 ha hm hs hw
  have hb := By.of_wf hw
  refine Cv.get ?_
  unfold laws_FnExactDecodePage.f
  by_cases hlen : (l1.length : Int) > 1048576
  · exact Cv.pos hlen (Cv.of rfl)
  refine Cv.neg hlen ?_
  have hl : l1.length ≤ 1048576 := by omega
  have hd := decV_len (id := a0) hl
  refine Cv.bind (toB (by omega)) (Cv.bind (spec_dec hb) (Cv.bind (toB (by omega)) (Cv.bind (impl_dec hb) ?_)))
  refine Cv.pos rfl (Cv.bind (eqB (by omega)) (Cv.pos (decide_eq_true rfl) ?_))
  refine Cv.succ (f := fun k => (laws_toByteS.f k l1).bind fun t197 => ((laws_eqByteS.f k l1 t197).bind fun t200 => (if t200 = true then ((laws_markByteS.f k l1 1).bind fun bt201 => (if bt201.1 < 0 then (laws_FnExactDecodePage.j1 k a0 l1 (decV a0 l1).1 (decV a0 l1).2.1 (decV a0 l1).2.2 (decV a0 l1).2.1 true) else (if (decV a0 l1).1 = (decV a0 l1).1 then ((laws_eqByteS.f k (decV a0 l1).2.1 (decV a0 l1).2.1).bind fun t203 => (if t203 = true then (laws_FnExactDecodePage.j1 k a0 l1 (decV a0 l1).1 (decV a0 l1).2.1 (decV a0 l1).2.2 (decV a0 l1).2.1 ((decV a0 l1).2.2 != (decV a0 l1).2.2)) else (laws_FnExactDecodePage.j1 k a0 l1 (decV a0 l1).1 (decV a0 l1).2.1 (decV a0 l1).2.2 (decV a0 l1).2.1 true))) else (laws_FnExactDecodePage.j1 k a0 l1 (decV a0 l1).1 (decV a0 l1).2.1 (decV a0 l1).2.2 (decV a0 l1).2.1 true)))) else (some false)))) ?_ (fun k => ?_)
  · refine Cv.bind (toB (by omega)) (Cv.bind (eqB (by omega)) (Cv.pos (decide_eq_true rfl) (Cv.bind (markB (by omega)) (Cv.neg (by omega) (Cv.pos rfl (Cv.bind (eqB (by omega)) (Cv.pos (decide_eq_true rfl) ?_)))))))
    refine Cv.succ (f := fun k => (laws_markByteS.f k (decV a0 l1).2.1 1).bind fun bt204 => ((laws_heldByteS.f k bt204.2 1).bind fun t206 => (if t206 < 0 then (some false) else (if t206 = bt204.1 then ((laws_toByteS.f k l1).bind fun t207 => ((impl_DecodePage.f k a0 t207).bind fun bt210 => (if bt210.1 = (decV a0 l1).1 then ((laws_eqByteS.f k bt210.2.1 (decV a0 l1).2.1).bind fun t215 => (if t215 = true then (if (bt210.2.2 != (decV a0 l1).2.2) = true then (some false) else (some true)) else (some false))) else (some false)))) else (some false))))) ?_ (fun k => ?_)
    · refine Cv.bind (markB (by omega)) (Cv.bind (heldB (by omega)) (Cv.neg (by omega) (Cv.pos rfl (Cv.bind (toB (by omega)) (Cv.bind (impl_dec hb) (Cv.pos rfl (Cv.bind (eqB (by omega)) (Cv.pos (decide_eq_true rfl) (Cv.neg (by simp) (Cv.of rfl))))))))))
    · conv => lhs; unfold laws_FnExactDecodePage.j1
      dsimp only
      rw [if_neg (by simp)]
  · conv => lhs; unfold laws_FnExactDecodePage.j0
    dsimp only
    rw [if_neg (by simp)]
end Go.Proofs.Ytlopmffdebhpfaa.Pure
