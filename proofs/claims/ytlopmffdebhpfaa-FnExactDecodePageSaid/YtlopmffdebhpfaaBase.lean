/- Laws of this project's own: the builtin copy into a row that the call made, from a place on; small lemmas on rows of numbers. -/
import Derived.Test.YtlopmffdebhpfaaG0
namespace Go.Proofs.Ytlopmffdebhpfaa.G
open Go.RowKit Go.Proofs.YtlopmffdebhpfaaW.PrintWords Go.Proofs.YtlopmffdebhpfaaW.PrintLast Go.Proofs.YtlopmffdebhpfaaW.PrintMore

/-- ys laid over xs from place o on. -/
def spl (xs : List Int) (o : Nat) (ys : List Int) : List Int := xs.take o ++ ys ++ xs.drop (o + ys.length)
theorem spl_length (xs : List Int) (o : Nat) (ys : List Int) (h : o + ys.length ≤ xs.length) : (spl xs o ys).length = xs.length := by
  simp only [spl, List.length_append, List.length_take, List.length_drop]
  omega

theorem take_splice {α : Type} (l m : List α) (n off k : Nat) (hm : m.length = k) (h1 : off + k ≤ n) (h2 : n ≤ l.length) : (l.take off ++ m ++ l.drop (off + k)).take n = l.take off ++ m ++ (l.drop (off + k)).take (n - (off + k)) := by
  have hl : (l.take off ++ m).length = off + k := by rw [List.length_append, List.length_take, hm]; omega
  rw [List.take_append, hl, List.take_of_length_le (by omega)]

theorem run_copy_at {P : Program} (t t' ty e : TypeId) (ht : P.underlying t = some (.slice e)) (hinfo : (P.info? e).map (·.size) = some 1) (W : World) {k : IntKind} {base g cap off : Nat} {ok : Nat → Prop} {xs ys : List Int} {A dA : Option Addr} {c dc : Nat}
    (HO : Kd.R (Kd.int k) e W base ok (.slice (some ⟨g, 0, none⟩) xs.length cap) xs) (HR : Kd.C (Kd.int k) W A ys.length ys) (hoff : off + ys.length ≤ xs.length) (hdA : 0 < ys.length → dA = some ⟨g, off, none⟩) :
    ∃ w1, (Builtin.copy_ #[t, t'] ty #[.slice dA (xs.length - off) dc, .slice A ys.length c]).run P W = .ok (.int .i64 (ys.length : Int)) w1 ∧
      Kd.R (Kd.int k) e w1 base ok (.slice (some ⟨g, 0, none⟩) xs.length cap) (spl xs off ys) ∧ W.grownBy w1 (some g) := by
  have hR := Kd.reads_of_C (enc := Value.int k) (d := 0) (h1 := fun _ => rfl) HR
  have hown := Kd.own_of_R HO
  rcases Nat.eq_zero_or_pos ys.length with h0 | hp
  · have hy := List.eq_nil_of_length_eq_zero h0
    subst hy
    refine ⟨W, ?_, by rw [show spl xs off [] = xs by simp [spl]]; exact HO, World.grownBy.refl W _⟩
    exact run_copy_none W t t' ty e dA A (xs.length - off) dc 0 c ht hinfo (by simp)
  · obtain ⟨ad, hA, hc⟩ := hR.2.2 hp
    rcases hown.2 with ⟨hv, _⟩ | ⟨g', cap', cur, hv, hb, hh, hnc, hcm, hcs, htake⟩
    · cases hv
    injection hv with hv1 _ hv2
    injection hv1 with hv1
    injection hv1 with hv1
    subst hv1; subst hv2
    rw [hA, hdA hp]
    have hcs1 : cur.size = cap := by omega
    have hkl : (encs (Value.int k) ys).length = ys.length := encs_length ys
    have hsrc : ∀ j u, (encs (Value.int k) ys)[j]? = some u → W.cell? (ad.add j) = some u := by
      intro j u hu
      have hj : j < ys.length := by
        have := (List.getElem?_eq_some_iff.1 hu).1
        rwa [hkl] at this
      rw [encs_get (d := 0) _ j hj] at hu
      rw [hc j hj, ← hu]
    have hr := run_copy_cells (P := P) W t t' ty e g off (xs.length - off) dc ad ys.length c (encs (Value.int k) ys) ht hinfo (by rw [hkl]; exact (Nat.min_eq_left (by omega)).symm) hsrc
      (fun j hj => by rw [cell_of_row W g _ cur e (0, 0) hh]; simp; omega) (fun j _ => blk_frozen hh _) (by intro u hu; simp only [encs, List.mem_map] at hu; obtain ⟨q, _, rfl⟩ := hu; rfl)
    obtain ⟨cur', h3, h4, h5⟩ := setCells_row (encs (Value.int k) ys) off W cur hh (by rw [hkl]; omega)
    obtain ⟨s1, s2, s3, s4⟩ := setCells_same g (encs (Value.int k) ys) off W
    refine ⟨_, by rw [hr, hkl]; rfl, Kd.R_of_own ?_ HO.1, ⟨s1, s2, s3, by rw [s4]; exact Nat.le_refl _, fun i _ hk => setCells_far _ _ i (fun he => hk (by rw [he]))⟩⟩
    have hln := spl_length xs off ys hoff
    rw [hln]
    refine ⟨by rw [encs_length, hln, Nat.mul_one], .inr ⟨g, cap, cur', rfl, hb, h3, hnc, hcm, by rw [h4, hcs], ?_⟩⟩
    rw [h5, Nat.mul_one]
    have htk : cur.toList.take xs.length = encs (Value.int k) xs := by rw [← htake, Nat.mul_one]
    have e1 : cur.toList.take off = encs (Value.int k) (xs.take off) := by
      rw [encs, List.map_take, ← encs, ← htk, List.take_take, Nat.min_eq_left (by omega)]
    have e2 : (cur.toList.drop (off + ys.length)).take (xs.length - (off + ys.length)) = encs (Value.int k) (xs.drop (off + ys.length)) := by
      rw [encs, List.map_drop, ← encs, ← htk, List.drop_take]
    have hlt : cur.toList.length = cap := by rw [Array.length_toList]; exact hcs1
    rw [hkl, take_splice cur.toList (encs (Value.int k) ys) xs.length off ys.length hkl hoff (by omega), e1, e2, spl, encs_append, encs_append]

/-- A cut of a row that begins at its block's head. -/
theorem cut_own {P : Program} (t e : TypeId) {i : TypeInfo} (ht : P.underlying t = some (.slice e)) (hi : P.info? e = some i) (hsz : i.size = 1) (g n cap m : Nat) (hm : m ≤ n) (hc : m < cap) (W : World) :
    (Instr.slice t (.slice (some ⟨g, 0, none⟩) n cap) (some (.int .i64 (m : Int))) none none).run P W = .ok (.slice (some ⟨g, m, none⟩) (n - m) (cap - m)) W := by
  have hel : P.elem t = e := by simp [Program.elem, ht]
  have hu : P.underlying t = some (.slice (P.elem t)) := by rw [hel]; exact ht
  rw [run_slice_l W t (some ⟨g, 0, none⟩) n cap hu .i64 (m : Int) (Int.natCast_nonneg _) (by omega), hel]
  have hne : ¬ cap = m := by omega
  simp [sizeOf, typeInfo, hi, hsz, sliced, Result.andThen, hne, add_plain]

section
variable {P : Program} {ops : Array Oper} {Q : Exit → Act → World → Prop}
/-- copy as a step of a region that draws its order. -/
theorem copy_step {oi : Oper} {N : Option Tmp} {a : Act} {w w1 : World} {K : Act → World → Prop} (hw : Region.wanted oi (yielded ops a.tmps) = true) (hN : oi.dst = N) (s x : Operand) (t t' : TypeId)
    (ho : oi.op = .call { callee := .builtin .copy, args := #[s, x], argTypes := #[t, t'] }) (dv sv n : Value) (hs : a.eval s = dv) (hx : a.eval x = sv) (hr : (Builtin.copy_ #[t, t'] oi.type #[dv, sv]).run P w = .ok n w1) (h : K (a.put N n) w1) :
    if Region.wanted oi (yielded ops a.tmps) = true then Oper.wp P oi a w K Q else K (a.put N undef) w := by
  refine value_ hw hN ?_ h
  unfold execOp
  simp only [ho, resolve, invoke, builtin, Sem.run_bind, Sem.run_pure, Result.andThen_ok, List.map_toArray, List.map_cons, List.map_nil, hs, hx, hr]
/-- copy in a plain region. -/
theorem copy_list {rest : List Oper} {o : Oper} {a : Act} {W w1 : World} (hgd : o.guard = none) (s x : Operand) (t t' : TypeId) (ho : o.op = .call { callee := .builtin .copy, args := #[s, x], argTypes := #[t, t'] })
    (dv sv n : Value) (hs : a.eval s = dv) (hx : a.eval x = sv) (hr : (Builtin.copy_ #[t, t'] o.type #[dv, sv]).run P W = .ok n w1) (h : wpList P ops Q rest (a.put o.dst n) w1) : wpList P ops Q (o :: rest) a W := by
  refine wpList_plain hgd fun K hK => ?_
  unfold Oper.wp execOp
  simp only [ho, resolve, invoke, builtin, Sem.run_bind, Sem.run_pure, Result.andThen_ok, List.map_toArray, List.map_cons, List.map_nil, hs, hx, hr]
  exact hK _ _ h
end
end Go.Proofs.Ytlopmffdebhpfaa.G
