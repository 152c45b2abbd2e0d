/- A store of a whole struct or of some of its cells into a block that the call has made, as one step: of a plain region and of a region that draws its order. -/
import Derived.Test.YtlopmffdebhpfaaBase
namespace Go.Proofs.Ytlopmffdebhpfaa.G
open Go.RowKit Go.Proofs.YtlopmffdebhpfaaW.PrintWords Go.Proofs.YtlopmffdebhpfaaW.PrintLast Go.Proofs.YtlopmffdebhpfaaW.PrintMore

theorem run_store_blk {P : Program} {W : World} {g : Nat} {e : TypeId} {cur : Array Value} (t : TypeId) (u : Value) (cs' : Array Value) (o : Nat) (seg : List Value) (hh : W.heap[g]? = some (.cells cur e (0, 0))) (hu : u.cells.toList = seg) (ht : (P.info? t).map (·.size) = some seg.length)
    (hfit : o + seg.length ≤ cur.size) (h1 : seg.all (fun q => q.oneCell') = true) (hcs : cs' = (cur.toList.take o ++ seg ++ cur.toList.drop (o + seg.length)).toArray) :
    ∃ w1, (Instr.storeAt t (.pointer (some ⟨g, o, none⟩)) u).run P W = .ok () w1 ∧ w1.heap[g]? = some (.cells cs' e (0, 0)) ∧ W.grownBy w1 (some g) := by
  refine ⟨_, run_store_run t u seg hh hu ht hfit (fun q hq => by simpa using List.all_eq_true.1 h1 q hq), ?_, ?_⟩
  · obtain ⟨cur', h3, h4, h5⟩ := setCells_row seg o W cur hh hfit
    rw [h3]
    have : cur' = cs' := by
      apply Array.ext'
      rw [h5, hcs]
    rw [this]
  · obtain ⟨s1, s2, s3, s4⟩ := setCells_same g seg o W
    exact ⟨s1, s2, s3, by rw [s4]; exact Nat.le_refl _, fun k _ hk => setCells_far _ _ k (fun he => hk (by rw [he]))⟩

section
variable {P : Program} {ops : Array Oper} {rest : List Oper} {o : Oper} {a : Act} {Q : Exit → Act → World → Prop}
/-- In a plain region. -/
theorem store_blk {W : World} (hgd : o.guard = none) (hN : o.dst = none) (t : TypeId) (p x : Operand) (ho : o.op = .store t p x) {g off : Nat} {u : Value} (cs' : Array Value) (hp : a.eval p = .pointer (some ⟨g, off, none⟩)) (hx : a.eval x = u)
    {e : TypeId} {cur : Array Value} (hh : W.heap[g]? = some (.cells cur e (0, 0))) (seg : List Value) (hu : u.cells.toList = seg) (ht : (P.info? t).map (·.size) = some seg.length)
    (hfit : off + seg.length ≤ cur.size) (h1 : seg.all (fun q => q.oneCell') = true) (hcs : cs' = (cur.toList.take off ++ seg ++ cur.toList.drop (off + seg.length)).toArray)
    (h : ∀ w1, w1.heap[g]? = some (.cells cs' e (0, 0)) → W.grownBy w1 (some g) → wpList P ops Q rest a w1) : wpList P ops Q (o :: rest) a W := by
  obtain ⟨w1, hr, h2, h3⟩ := run_store_blk (P := P) t u cs' off seg hh hu ht hfit h1 hcs
  refine wpList_plain hgd fun K hK => ?_
  unfold Oper.wp execOp
  simp only [ho, hp, hx, Sem.run_bind, Sem.run_pure, Result.andThen_ok, hr]
  show K (a.put o.dst undef) w1
  rw [hN]
  exact hK _ _ (h _ h2 h3)
/-- In a region that draws its order. -/
theorem store_blk_step {W : World} {K : Act → World → Prop} (hw : Region.wanted o (yielded ops a.tmps) = true) (hN : o.dst = none) (t : TypeId) (p x : Operand) (ho : o.op = .store t p x) {g off : Nat} {u : Value} (cs' : Array Value) (hp : a.eval p = .pointer (some ⟨g, off, none⟩)) (hx : a.eval x = u)
    {e : TypeId} {cur : Array Value} (hh : W.heap[g]? = some (.cells cur e (0, 0))) (seg : List Value) (hu : u.cells.toList = seg) (ht : (P.info? t).map (·.size) = some seg.length)
    (hfit : off + seg.length ≤ cur.size) (h1 : seg.all (fun q => q.oneCell') = true) (hcs : cs' = (cur.toList.take off ++ seg ++ cur.toList.drop (off + seg.length)).toArray)
    (h : ∀ w1, w1.heap[g]? = some (.cells cs' e (0, 0)) → W.grownBy w1 (some g) → K a w1) : if Region.wanted o (yielded ops a.tmps) = true then Oper.wp P o a W K Q else K (a.put none undef) W := by
  obtain ⟨w1, hr, h2, h3⟩ := run_store_blk (P := P) t u cs' off seg hh hu ht hfit h1 hcs
  rw [if_pos hw]
  unfold Oper.wp execOp
  simp only [ho, hp, hx, Sem.run_bind, Sem.run_pure, Result.andThen_ok, hr]
  show K (a.put o.dst undef) w1
  rw [hN]
  exact h _ h2 h3
end
end Go.Proofs.Ytlopmffdebhpfaa.G
