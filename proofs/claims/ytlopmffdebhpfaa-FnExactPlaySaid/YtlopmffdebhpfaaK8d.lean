/- The law FnExactPlay is true of every argument: its row, out of the walk. Conditions: none beyond the given statement. -/
import Derived.Test.YtlopmffdebhpfaaK8a
import Derived.Test.YtlopmffdebhpfaaK8c
import Derived.Test.YtlopmffdebhpfaaK8b
import Derived.Lib.SmallJoins
import Derived.Test.YtlopmffdebhpfaaRows
import Derived.WalkKit
import Derived.ProofKit
import Derived.OpenShut
import Derived.ShutString
import Derived.ChangeOld
import Derived.Below
import Derived.SizedLaws
import Derived.Test.YtlopmffdebhpfaaK8WSized
/-! ## DiskP -/
namespace Go.Proofs.Ytlopmffdebhpfaa.Pure
open Go.RowKit Go.Proofs.Ytlopmffdebhpfaa.G Go.Proofs.YtlopmffdebhpfaaW.PrintWords Go.Proofs.YtlopmffdebhpfaaW.PrintLast Go.Proofs.YtlopmffdebhpfaaW.PrintMore

theorem Cv.step {α : Type} {f g : Nat → Option α} {v : α} (hs : ∀ k, g (k + 1) = f k) (h : Cv f v) : Cv g v := Cv.succ h hs
theorem getD_mid {α : Type} (pre r : List α) (x z : α) : (pre ++ x :: r).getD ((pre.length : Int)).toNat z = x := by
  rw [Int.toNat_natCast, List.getD_eq_getElem?_getD, List.getElem?_append_right (Nat.le_refl _), Nat.sub_self]
  rfl
theorem mid_len {α : Type} (pre r : List α) (x : α) : ((pre ++ x :: r).length : Int) = pre.length + r.length + 1 := by simp; omega
theorem snoc_len {α : Type} (pre : List α) (x : α) : (((pre ++ [x]).length : Nat) : Int) = (pre.length : Int) + 1 := by simp
theorem mid_snoc {α : Type} (pre r : List α) (x : α) : pre ++ x :: r = (pre ++ [x]) ++ r := by simp
theorem set_mid {α : Type} (pre r : List α) (x y : α) : (pre ++ x :: r).set ((pre.length : Int)).toNat y = (pre ++ [y]) ++ r := by
  rw [Int.toNat_natCast, List.set_append_right _ _ (Nat.le_refl _), Nat.sub_self, List.set_cons_zero, List.append_assoc, List.singleton_append]
/-- A pending write, as the other package's type. -/
def cv (q : S184) : S185 := ⟨q.f0, q.f1⟩
theorem toSS_l0 : ∀ (r pre : List (List Int)), (∀ l ∈ r, l.length ≤ 281474976710656) → (pre ++ r).length ≤ 11728124029610 →
    Cv (fun k => laws_toByteSS.l0 k (pre ++ r) (pre ++ List.replicate r.length []) (pre.length : Int)) (pre ++ r)
  | [], pre, h, hm => by
    refine Cv.step (fun k => laws_toByteSS.l0.eq_2 _ _ _ k) (Cv.neg (by simp) (Cv.of ?_))
    simp
  | x :: r, pre, h, hm => by
    have h1 := mid_len pre r x
    have h2 : ((pre ++ List.replicate (x :: r).length ([] : List Int)).length : Int) = pre.length + r.length + 1 := by simp; omega
    refine Cv.step (fun k => laws_toByteSS.l0.eq_2 _ _ _ k) (Cv.pos (by omega) (Cv.pos (by omega) ?_))
    rw [show rd_L2 (pre ++ x :: r) (pre.length : Int) = x from getD_mid _ _ _ _]
    refine Cv.bind (toB (h x List.mem_cons_self)) (Cv.pos (by omega) ?_)
    rw [w64 (by omega) (by omega), List.length_cons, List.replicate_succ, set_mid, mid_snoc]
    have ih := toSS_l0 r (pre ++ [x]) (fun l hl => h l (List.mem_cons_of_mem _ hl)) (by simpa using hm)
    rw [snoc_len] at ih
    exact ih
theorem toSS {ls : List (List Int)} (h : ∀ l ∈ ls, l.length ≤ 281474976710656) (hm : ls.length ≤ 11728124029610) : Cv (fun k => laws_toByteSS.f k ls) ls := by
  unfold laws_toByteSS.f
  refine Cv.pos (by omega) (Cv.pos (by omega) ?_)
  have := toSS_l0 ls [] h (by simpa using hm)
  simpa using this
theorem toPS_l0 : ∀ (r pre : List S184), (∀ l ∈ r, l.f1.length ≤ 281474976710656) → (pre ++ r).length ≤ 8796093022208 →
    Cv (fun k => laws_toPendS.l0 k (pre ++ r) (pre.map cv ++ List.replicate r.length z185) (pre.length : Int)) ((pre ++ r).map cv)
  | [], pre, h, hm => by
    refine Cv.step (fun k => laws_toPendS.l0.eq_2 _ _ _ k) (Cv.neg (by simp) (Cv.of ?_))
    simp
  | x :: r, pre, h, hm => by
    have h1 := mid_len pre r x
    have h2 : ((pre.map cv ++ List.replicate (x :: r).length z185).length : Int) = pre.length + r.length + 1 := by simp; omega
    refine Cv.step (fun k => laws_toPendS.l0.eq_2 _ _ _ k) (Cv.pos (by omega) (Cv.pos (by omega) ?_))
    rw [show rd_T184 (pre ++ x :: r) (pre.length : Int) = x from getD_mid _ _ _ _]
    refine Cv.bind (v := (x.f0, x.f1)) ?_ (Cv.pos (by omega) ?_)
    · unfold laws_toPend.f
      exact Cv.bind (toB (h x List.mem_cons_self)) (Cv.of rfl)
    rw [w64 (by omega) (by omega), List.length_cons, List.replicate_succ]
    have hset := set_mid (pre.map cv) (List.replicate r.length z185) z185 (⟨x.f0, x.f1⟩ : S185)
    rw [List.length_map] at hset
    rw [hset, mid_snoc]
    have ih := toPS_l0 r (pre ++ [x]) (fun l hl => h l (List.mem_cons_of_mem _ hl)) (by simpa using hm)
    rw [snoc_len, List.map_append] at ih
    exact ih
theorem toPS {ls : List S184} (h : ∀ l ∈ ls, l.f1.length ≤ 281474976710656) (hm : ls.length ≤ 8796093022208) : Cv (fun k => laws_toPendS.f k ls) (ls.map cv) := by
  unfold laws_toPendS.f
  refine Cv.pos (by omega) (Cv.pos (by omega) ?_)
  have := toPS_l0 ls [] h (by simpa using hm)
  simpa using this
theorem toD {ls : List (List Int)} {ps : List S184} (h : ∀ l ∈ ls, l.length ≤ 281474976710656) (hm : ls.length ≤ 11728124029610) (h' : ∀ l ∈ ps, l.f1.length ≤ 281474976710656) (hm' : ps.length ≤ 8796093022208) : Cv (fun k => laws_toDisk.f k ls ps) (ls, ps.map cv) := by
  unfold laws_toDisk.f
  exact Cv.bind (toSS h hm) (Cv.bind (toPS h' hm') (Cv.of rfl))

/-! ### sizes -/
def totP4 : List S184 → Nat
  | [] => 0
  | p :: r => p.f1.length + totP4 r
theorem szSS_l0 : ∀ (r pre : List (List Int)) (a : Int), 0 ≤ a → a ≤ 1048576 → (∀ l ∈ r, l.length ≤ 9223372036854775807) → (pre ++ r).length ≤ 9223372036854775806 →
    ∃ s, Cv (fun k => laws_szByteSS.l0 k (pre ++ r) a (pre.length : Int)) s ∧ s ≤ 1048576 ∧ (0 ≤ s → (totL r : Int) + s = a)
  | [], pre, a, h0, ha, hr, hm => ⟨a, Cv.step (fun k => laws_szByteSS.l0.eq_2 _ _ _ k) (Cv.neg (by simp) (Cv.of rfl)), ha, fun _ => by simp [totL]⟩
  | x :: r, pre, a, h0, ha, hr, hm => by
    have h1 := mid_len pre r x
    have hx := hr x List.mem_cons_self
    have hw : wrap64 (a - (x.length : Int)) = a - x.length := w64 (by omega) (by omega)
    by_cases hneg : a - (x.length : Int) < 0
    · refine ⟨-1, Cv.step (fun k => laws_szByteSS.l0.eq_2 _ _ _ k) (Cv.pos (by omega) (Cv.pos (by omega) ?_)), by omega, fun h => by omega⟩
      rw [show rd_L2 (pre ++ x :: r) (pre.length : Int) = x from getD_mid _ _ _ _]
      refine Cv.bind (v := -1) (Cv.of ?_) (Cv.pos (by decide) (Cv.of rfl))
      unfold laws_szByteS.f
      rw [hw, if_pos hneg]
    · obtain ⟨s, hs, hs1, hs2⟩ := szSS_l0 r (pre ++ [x]) (a - x.length) (by omega) (by omega) (fun l hl => hr l (List.mem_cons_of_mem _ hl)) (by simpa using hm)
      refine ⟨s, Cv.step (fun k => laws_szByteSS.l0.eq_2 _ _ _ k) (Cv.pos (by omega) (Cv.pos (by omega) ?_)), hs1, fun h => by have := hs2 h; simp only [totL]; omega⟩
      rw [show rd_L2 (pre ++ x :: r) (pre.length : Int) = x from getD_mid _ _ _ _]
      refine Cv.bind (v := a - (x.length : Int)) (Cv.of ?_) (Cv.neg hneg ?_)
      · unfold laws_szByteS.f
        rw [hw, if_neg hneg]
      · rw [w64 (by omega) (by omega)]
        rw [snoc_len, ← mid_snoc] at hs
        exact hs
theorem szSS {ls : List (List Int)} {a : Int} (h0 : 0 ≤ a) (ha : a ≤ 1048576) (hr : ∀ l ∈ ls, l.length ≤ 9223372036854775807) (hm : ls.length ≤ 9223372036854775807) :
    ∃ s, Cv (fun k => laws_szByteSS.f k ls a) s ∧ s ≤ 1048576 ∧ (0 ≤ s → (totL ls : Int) + ls.length + s = a) := by
  have hw : wrap64 (a - (ls.length : Int)) = a - ls.length := w64 (by omega) (by omega)
  by_cases hneg : a - (ls.length : Int) < 0
  · refine ⟨-1, ?_, by omega, fun h => by omega⟩
    unfold laws_szByteSS.f
    rw [hw]
    exact Cv.pos hneg (Cv.of rfl)
  · obtain ⟨s, hs, h1, h2⟩ := szSS_l0 ls [] (a - ls.length) (by omega) (by omega) hr (by simp; omega)
    refine ⟨s, ?_, h1, fun h => by have := h2 h; omega⟩
    unfold laws_szByteSS.f
    rw [hw]
    exact Cv.neg hneg hs
theorem szPS_l0 : ∀ (r pre : List S184) (a : Int), 0 ≤ a → a ≤ 1048576 → (∀ l ∈ r, l.f1.length ≤ 9223372036854775807) → (pre ++ r).length ≤ 9223372036854775806 →
    ∃ s, Cv (fun k => laws_szPendS.l0 k (pre ++ r) a (pre.length : Int)) s ∧ s ≤ 1048576 ∧ (0 ≤ s → (totP4 r : Int) + s = a)
  | [], pre, a, h0, ha, hr, hm => ⟨a, Cv.step (fun k => laws_szPendS.l0.eq_2 _ _ _ k) (Cv.neg (by simp) (Cv.of rfl)), ha, fun _ => by simp [totP4]⟩
  | x :: r, pre, a, h0, ha, hr, hm => by
    have h1 := mid_len pre r x
    have hx := hr x List.mem_cons_self
    have hw : wrap64 (a - (x.f1.length : Int)) = a - x.f1.length := w64 (by omega) (by omega)
    by_cases hneg : a - (x.f1.length : Int) < 0
    · refine ⟨-1, Cv.step (fun k => laws_szPendS.l0.eq_2 _ _ _ k) (Cv.pos (by omega) (Cv.pos (by omega) ?_)), by omega, fun h => by omega⟩
      rw [show rd_T184 (pre ++ x :: r) (pre.length : Int) = x from getD_mid _ _ _ _]
      refine Cv.bind (v := -1) (Cv.of ?_) (Cv.pos (by decide) (Cv.of rfl))
      unfold laws_szPend.f laws_szByteS.f
      rw [hw, if_pos hneg, Option.bind_some, if_pos (by decide)]
    · obtain ⟨s, hs, hs1, hs2⟩ := szPS_l0 r (pre ++ [x]) (a - x.f1.length) (by omega) (by omega) (fun l hl => hr l (List.mem_cons_of_mem _ hl)) (by simpa using hm)
      refine ⟨s, Cv.step (fun k => laws_szPendS.l0.eq_2 _ _ _ k) (Cv.pos (by omega) (Cv.pos (by omega) ?_)), hs1, fun h => by have := hs2 h; simp only [totP4]; omega⟩
      rw [show rd_T184 (pre ++ x :: r) (pre.length : Int) = x from getD_mid _ _ _ _]
      refine Cv.bind (v := a - (x.f1.length : Int)) (Cv.of ?_) (Cv.neg hneg ?_)
      · unfold laws_szPend.f laws_szByteS.f
        rw [hw, if_neg hneg, Option.bind_some, if_neg hneg]
      · rw [w64 (by omega) (by omega)]
        rw [snoc_len, ← mid_snoc] at hs
        exact hs
theorem szPS {ls : List S184} {a : Int} (h0 : 0 ≤ a) (ha : a ≤ 1048576) (hr : ∀ l ∈ ls, l.f1.length ≤ 9223372036854775807) (hm : ls.length ≤ 9223372036854775807) :
    ∃ s, Cv (fun k => laws_szPendS.f k ls a) s ∧ s ≤ 1048576 ∧ (0 ≤ s → (totP4 ls : Int) + ls.length + s = a) := by
  have hw : wrap64 (a - (ls.length : Int)) = a - ls.length := w64 (by omega) (by omega)
  by_cases hneg : a - (ls.length : Int) < 0
  · refine ⟨-1, ?_, by omega, fun h => by omega⟩
    unfold laws_szPendS.f
    rw [hw]
    exact Cv.pos hneg (Cv.of rfl)
  · obtain ⟨s, hs, h1, h2⟩ := szPS_l0 ls [] (a - ls.length) (by omega) (by omega) hr (by simp; omega)
    refine ⟨s, ?_, h1, fun h => by have := h2 h; omega⟩
    unfold laws_szPendS.f
    rw [hw]
    exact Cv.neg hneg hs
theorem szD {ls : List (List Int)} {ps : List S184} {a : Int} (h0 : 0 ≤ a) (ha : a ≤ 1048576) (hr : ∀ l ∈ ls, l.length ≤ 9223372036854775807) (hm : ls.length ≤ 9223372036854775807) (hr' : ∀ l ∈ ps, l.f1.length ≤ 9223372036854775807) (hm' : ps.length ≤ 9223372036854775807) :
    ∃ s, Cv (fun k => laws_szDisk.f k ls ps a) s ∧ s ≤ 1048576 ∧ (0 ≤ s → (totL ls : Int) + ls.length + (totP4 ps + ps.length) + s = a) := by
  obtain ⟨s, hs, h1, h2⟩ := szSS h0 ha hr hm
  by_cases hneg : s < 0
  · refine ⟨-1, ?_, by omega, fun h => by omega⟩
    unfold laws_szDisk.f
    exact Cv.bind hs (Cv.pos hneg (Cv.of rfl))
  · obtain ⟨t, ht, h3, h4⟩ := szPS (a := s) (by omega) h1 hr' hm'
    by_cases hneg2 : t < 0
    · refine ⟨-1, ?_, by omega, fun h => by omega⟩
      unfold laws_szDisk.f
      exact Cv.bind hs (Cv.neg hneg (Cv.bind ht (Cv.pos hneg2 (Cv.of rfl))))
    · refine ⟨t, ?_, h3, fun h => by have := h2 (by omega); have := h4 h; omega⟩
      unfold laws_szDisk.f
      exact Cv.bind hs (Cv.neg hneg (Cv.bind ht (Cv.neg hneg2 (Cv.of rfl))))
theorem le_totL {l : List Int} : ∀ {ls : List (List Int)}, l ∈ ls → l.length ≤ totL ls
  | x :: r, h => by
    rcases List.mem_cons.1 h with rfl | h
    · simp [totL]
    · have := le_totL h
      simp only [totL]
      omega
theorem le_totP4 {q : S184} : ∀ {ls : List S184}, q ∈ ls → q.f1.length ≤ totP4 ls
  | x :: r, h => by
    rcases List.mem_cons.1 h with rfl | h
    · simp [totP4]
    · have := le_totP4 h
      simp only [totP4]
      omega
theorem totP_cv : ∀ (ps : List S184), totP (ps.map cv) = totP4 ps + ps.length
  | [] => rfl
  | p :: r => by
    simp only [List.map_cons, totP, totP4, totP_cv r, cv, List.length_cons]
    omega

/-! ### comparisons -/
theorem eqSS_l0 : ∀ (r pre : List (List Int)), (∀ l ∈ r, l.length ≤ 9223372036854775806) → (pre ++ r).length ≤ 9223372036854775806 → Cv (fun k => laws_eqByteSS.l0 k (pre ++ r) (pre ++ r) (pre.length : Int)) true
  | [], pre, h, hm => Cv.step (fun k => laws_eqByteSS.l0.eq_2 _ _ _ k) (Cv.neg (by simp) (Cv.of rfl))
  | x :: r, pre, h, hm => by
    have h1 := mid_len pre r x
    refine Cv.step (fun k => laws_eqByteSS.l0.eq_2 _ _ _ k) (Cv.pos (by omega) (Cv.pos (by omega) (Cv.pos (by omega) ?_)))
    rw [show rd_L2 (pre ++ x :: r) (pre.length : Int) = x from getD_mid _ _ _ _]
    refine Cv.bind (eqB (h x List.mem_cons_self)) (Cv.pos (decide_eq_true rfl) ?_)
    rw [w64 (by omega) (by omega), mid_snoc, ← snoc_len pre x]
    exact eqSS_l0 r (pre ++ [x]) (fun l hl => h l (List.mem_cons_of_mem _ hl)) (by simpa using hm)
theorem eqPS_l0 : ∀ (r pre : List S185), (∀ l ∈ r, l.f1.length ≤ 9223372036854775806) → (pre ++ r).length ≤ 9223372036854775806 → Cv (fun k => laws_eqPendS.l0 k (pre ++ r) (pre ++ r) (pre.length : Int)) true
  | [], pre, h, hm => Cv.step (fun k => laws_eqPendS.l0.eq_2 _ _ _ k) (Cv.neg (by simp) (Cv.of rfl))
  | x :: r, pre, h, hm => by
    have h1 := mid_len pre r x
    refine Cv.step (fun k => laws_eqPendS.l0.eq_2 _ _ _ k) (Cv.pos (by omega) (Cv.pos (by omega) (Cv.pos (by omega) ?_)))
    rw [show rd_T185 (pre ++ x :: r) (pre.length : Int) = x from getD_mid _ _ _ _]
    refine Cv.bind (v := true) ?_ (Cv.pos rfl ?_)
    · unfold laws_eqPend.f
      exact Cv.pos rfl (Cv.bind (eqB (h x List.mem_cons_self)) (Cv.pos (decide_eq_true rfl) (Cv.of rfl)))
    rw [w64 (by omega) (by omega), mid_snoc, ← snoc_len pre x]
    exact eqPS_l0 r (pre ++ [x]) (fun l hl => h l (List.mem_cons_of_mem _ hl)) (by simpa using hm)
theorem eqD {ls : List (List Int)} {ps : List S185} (h : ∀ l ∈ ls, l.length ≤ 9223372036854775806) (hm : ls.length ≤ 9223372036854775806) (h' : ∀ l ∈ ps, l.f1.length ≤ 9223372036854775806) (hm' : ps.length ≤ 9223372036854775806) : Cv (fun k => laws_eqDisk.f k ls ps ls ps) true := by
  unfold laws_eqDisk.f
  refine Cv.bind (v := true) ?_ (Cv.pos rfl (Cv.bind (v := true) ?_ (Cv.pos rfl (Cv.of rfl))))
  · unfold laws_eqByteSS.f
    exact Cv.pos rfl (eqSS_l0 ls [] h (by simpa using hm))
  · unfold laws_eqPendS.f
    exact Cv.pos rfl (eqPS_l0 ps [] h' (by simpa using hm'))

/-! ### valid disks -/
def okP (n : Nat) (p : S185) : Prop := 0 ≤ p.f0 ∧ p.f0 < (n : Int) ∧ p.f1.length = 64
instance (n : Nat) (p : S185) : Decidable (okP n p) := by unfold okP; exact inferInstance
def okDisk (safe : List (List Int)) (ps : List S185) : Prop := 1 ≤ safe.length ∧ safe.length ≤ 4096 ∧ ps.length ≤ 5000 ∧ (∀ l ∈ safe, l.length = 64) ∧ ∀ p ∈ ps, okP safe.length p
instance (safe : List (List Int)) (ps : List S185) : Decidable (okDisk safe ps) := by unfold okDisk; exact inferInstance
theorem impl_ok_l1 (safe : List (List Int)) (ps : List S185) : ∀ (r pre : List S185), (pre ++ r).length ≤ 9223372036854775806 → Cv (fun k => impl_DiskOk.l1 k (pre ++ r) ((pre ++ r).length : Int) (pre.length : Int) safe ps) (decide (∀ p ∈ r, okP safe.length p))
  | [], pre, hm => Cv.step (fun k => impl_DiskOk.l1.eq_2 _ _ _ _ _ k) (Cv.neg (by simp) (Cv.of (by simp)))
  | x :: r, pre, hm => by
    have h1 := mid_len pre r x
    refine Cv.step (fun k => impl_DiskOk.l1.eq_2 _ _ _ _ _ k) (Cv.pos (by omega) (Cv.pos (by omega) (Cv.pos (by omega) ?_)))
    rw [show rd_T185 (pre ++ x :: r) (pre.length : Int) = x from getD_mid _ _ _ _]
    by_cases h : okP safe.length x
    · have hh := h
      unfold okP at hh
      refine Cv.neg (by omega) (Cv.neg (by omega) (Cv.pos (by omega) ?_))
      have ih := impl_ok_l1 safe ps r (pre ++ [x]) (by simpa using hm)
      rw [← mid_snoc, snoc_len] at ih
      rw [w64 (by omega) (by omega)]
      have e : decide (∀ p ∈ x :: r, okP safe.length p) = decide (∀ p ∈ r, okP safe.length p) := by simp [h]
      rw [e]
      exact ih
    · rw [decide_eq_false (fun hall => h (hall x List.mem_cons_self))]
      unfold okP at h
      by_cases g1 : x.f0 < 0
      · exact Cv.pos g1 (Cv.of rfl)
      · by_cases g2 : x.f0 ≥ (safe.length : Int)
        · exact Cv.neg g1 (Cv.pos g2 (Cv.of rfl))
        · exact Cv.neg g1 (Cv.neg g2 (Cv.neg (by omega) (Cv.of rfl)))
theorem impl_ok_l0 (safe : List (List Int)) (ps : List S185) (hp : ps.length ≤ 9223372036854775806) : ∀ (r pre : List (List Int)), (pre ++ r).length ≤ 9223372036854775806 → Cv (fun k => impl_DiskOk.l0 k (pre ++ r) ((pre ++ r).length : Int) (pre.length : Int) safe ps) (decide ((∀ l ∈ r, l.length = 64) ∧ ∀ p ∈ ps, okP safe.length p))
  | [], pre, hm => by
    refine Cv.step (fun k => impl_DiskOk.l0.eq_2 _ _ _ _ _ k) (Cv.neg (by simp) ?_)
    have h := impl_ok_l1 safe ps ps [] (by simpa using hp)
    simpa using h
  | x :: r, pre, hm => by
    have h1 := mid_len pre r x
    refine Cv.step (fun k => impl_DiskOk.l0.eq_2 _ _ _ _ _ k) (Cv.pos (by omega) (Cv.pos (by omega) (Cv.pos (by omega) ?_)))
    rw [show rd_L2 (pre ++ x :: r) (pre.length : Int) = x from getD_mid _ _ _ _]
    by_cases h : x.length = 64
    · refine Cv.pos (by omega) ?_
      have ih := impl_ok_l0 safe ps hp r (pre ++ [x]) (by simpa using hm)
      rw [← mid_snoc, snoc_len] at ih
      rw [w64 (by omega) (by omega)]
      have e : decide ((∀ l ∈ x :: r, l.length = 64) ∧ ∀ p ∈ ps, okP safe.length p) = decide ((∀ l ∈ r, l.length = 64) ∧ ∀ p ∈ ps, okP safe.length p) := by simp [h]
      rw [e]
      exact ih
    · rw [decide_eq_false (fun hall => h (hall.1 x List.mem_cons_self))]
      exact Cv.neg (by omega) (Cv.of rfl)
theorem impl_ok {safe : List (List Int)} {ps : List S185} : Cv (fun k => impl_DiskOk.f k safe ps) (decide (okDisk safe ps)) := by
  have hj : ∀ (c : Bool), c = true → Cv (fun k => impl_DiskOk.j0 k c safe ps) false := fun c hc => Cv.step (fun k => impl_DiskOk.j0.eq_2 _ _ _ k) (Cv.pos hc (Cv.of rfl))
  unfold impl_DiskOk.f
  by_cases h1 : (safe.length : Int) < 1
  · rw [decide_eq_false (p := okDisk safe ps) (fun h => by unfold okDisk at h; omega)]
    exact Cv.pos h1 (hj _ rfl)
  refine Cv.neg h1 ?_
  by_cases h2 : (safe.length : Int) > 4096
  · rw [decide_eq_false (p := okDisk safe ps) (fun h => by unfold okDisk at h; omega)]
    exact Cv.pos h2 (hj _ rfl)
  refine Cv.neg h2 ?_
  by_cases h3 : (ps.length : Int) > 5000
  · rw [decide_eq_false (p := okDisk safe ps) (fun h => by unfold okDisk at h; omega)]
    exact hj _ (decide_eq_true h3)
  · rw [show decide ((ps.length : Int) > 5000) = false from decide_eq_false h3]
    refine Cv.step (fun k => impl_DiskOk.j0.eq_2 _ _ _ k) (Cv.neg (by decide) ?_)
    have h := impl_ok_l0 safe ps (by omega) safe [] (by simp; omega)
    have e : decide (okDisk safe ps) = decide ((∀ l ∈ safe, l.length = 64) ∧ ∀ p ∈ ps, okP safe.length p) := by
      have g1 : 1 ≤ safe.length := by omega
      have g2 : safe.length ≤ 4096 := by omega
      have g3 : ps.length ≤ 5000 := by omega
      unfold okDisk
      simp [g1, g2, g3]
    rw [e]
    exact h
theorem spec_ok_l1 (safe : List (List Int)) : ∀ (r pre : List S185), (pre ++ r).length ≤ 9223372036854775806 → Cv (fun k => spec_DiskOk.l1 k (safe.length : Int) (pre.length : Int) safe (pre ++ r)) (decide (∀ p ∈ r, okP safe.length p))
  | [], pre, hm => Cv.step (fun k => spec_DiskOk.l1.eq_2 _ _ _ _ k) (Cv.neg (by simp) (Cv.of (by simp)))
  | x :: r, pre, hm => by
    have h1 := mid_len pre r x
    refine Cv.step (fun k => spec_DiskOk.l1.eq_2 _ _ _ _ k) (Cv.pos (by omega) (Cv.pos (by omega) ?_))
    rw [show rd_T185 (pre ++ x :: r) (pre.length : Int) = x from getD_mid _ _ _ _]
    by_cases h : okP safe.length x
    · have hh := h
      unfold okP at hh
      refine Cv.neg (by omega) (Cv.neg (by omega) (Cv.pos (by omega) ?_))
      have ih := spec_ok_l1 safe r (pre ++ [x]) (by simpa using hm)
      rw [← mid_snoc, snoc_len] at ih
      rw [w64 (by omega) (by omega)]
      have e : decide (∀ p ∈ x :: r, okP safe.length p) = decide (∀ p ∈ r, okP safe.length p) := by simp [h]
      rw [e]
      exact ih
    · rw [decide_eq_false (fun hall => h (hall x List.mem_cons_self))]
      unfold okP at h
      by_cases g1 : x.f0 < 0
      · exact Cv.pos g1 (Cv.of rfl)
      · by_cases g2 : x.f0 ≥ (safe.length : Int)
        · exact Cv.neg g1 (Cv.pos g2 (Cv.of rfl))
        · exact Cv.neg g1 (Cv.neg g2 (Cv.neg (by omega) (Cv.of rfl)))
theorem spec_ok_l0 (ps : List S185) (hp : ps.length ≤ 9223372036854775806) : ∀ (r pre : List (List Int)), (pre ++ r).length ≤ 9223372036854775806 → Cv (fun k => spec_DiskOk.l0 k ((pre ++ r).length : Int) (pre.length : Int) (pre ++ r) ps) (decide ((∀ l ∈ r, l.length = 64) ∧ ∀ p ∈ ps, okP (pre ++ r).length p))
  | [], pre, hm => by
    refine Cv.step (fun k => spec_DiskOk.l0.eq_2 _ _ _ _ k) (Cv.neg (by simp) ?_)
    have h := spec_ok_l1 (pre ++ []) ps [] (by simpa using hp)
    simpa using h
  | x :: r, pre, hm => by
    have h1 := mid_len pre r x
    refine Cv.step (fun k => spec_DiskOk.l0.eq_2 _ _ _ _ k) (Cv.pos (by omega) (Cv.pos (by omega) (Cv.pos (by omega) ?_)))
    rw [show rd_L2 (pre ++ x :: r) (pre.length : Int) = x from getD_mid _ _ _ _]
    by_cases h : x.length = 64
    · refine Cv.pos (by omega) ?_
      have ih := spec_ok_l0 ps hp r (pre ++ [x]) (by simpa using hm)
      rw [← mid_snoc, snoc_len] at ih
      rw [w64 (by omega) (by omega)]
      have e : decide ((∀ l ∈ x :: r, l.length = 64) ∧ ∀ p ∈ ps, okP (pre ++ x :: r).length p) = decide ((∀ l ∈ r, l.length = 64) ∧ ∀ p ∈ ps, okP (pre ++ x :: r).length p) := by simp [h]
      rw [e]
      exact ih
    · rw [decide_eq_false (fun hall => h (hall.1 x List.mem_cons_self))]
      exact Cv.neg (by omega) (Cv.of rfl)
theorem spec_ok {safe : List (List Int)} {ps : List S185} : Cv (fun k => spec_DiskOk.f k safe ps) (decide (okDisk safe ps)) := by
  have hj : ∀ (c : Bool), c = true → Cv (fun k => spec_DiskOk.j0 k (safe.length : Int) c safe ps) false := fun c hc => Cv.step (fun k => spec_DiskOk.j0.eq_2 _ _ _ _ k) (Cv.pos hc (Cv.of rfl))
  unfold spec_DiskOk.f
  by_cases h1 : (safe.length : Int) < 1
  · rw [decide_eq_false (p := okDisk safe ps) (fun h => by unfold okDisk at h; omega)]
    exact Cv.pos h1 (hj _ rfl)
  refine Cv.neg h1 ?_
  by_cases h2 : (safe.length : Int) > 4096
  · rw [decide_eq_false (p := okDisk safe ps) (fun h => by unfold okDisk at h; omega)]
    exact Cv.pos h2 (hj _ rfl)
  refine Cv.neg h2 ?_
  by_cases h3 : (ps.length : Int) > 5000
  · rw [decide_eq_false (p := okDisk safe ps) (fun h => by unfold okDisk at h; omega)]
    exact hj _ (decide_eq_true h3)
  · rw [show decide ((ps.length : Int) > 5000) = false from decide_eq_false h3]
    refine Cv.step (fun k => spec_DiskOk.j0.eq_2 _ _ _ _ k) (Cv.neg (by decide) ?_)
    have h := spec_ok_l0 ps (by omega) safe [] (by simp; omega)
    have e : decide (okDisk safe ps) = decide ((∀ l ∈ safe, l.length = 64) ∧ ∀ p ∈ ps, okP safe.length p) := by
      have g1 : 1 ≤ safe.length := by omega
      have g2 : safe.length ≤ 4096 := by omega
      have g3 : ps.length ≤ 5000 := by omega
      unfold okDisk
      simp [g1, g2, g3]
    rw [e]
    exact h

/-! ### what sectors hold now -/
/-! ### ReadSector -/
theorem rows_len {w : World} {A : Option Addr} {n : Nat} {xs : List (List Int)} (h : Kd.C (Kd.slice 5 (Kd.int .u8)) w A n xs) : ∀ l ∈ xs, l.length ≤ 9223372036854775807 := by
  intro l hl
  obtain ⟨i, hi⟩ := List.getElem?_of_mem hl
  have hn : 0 < n := by
    have := (List.getElem?_eq_some_iff.1 hi).1
    rw [h.1] at this
    omega
  obtain ⟨ad, _, hc⟩ := h.2.2 hn
  obtain ⟨c, _, ⟨A', c', _, _, hC⟩, _⟩ := hc i l hi
  exact hC.2.1
theorem pends_len {w : World} {A : Option Addr} {n : Nat} {xs : List S184} (h : Kd.C k184 w A n xs) : ∀ q ∈ xs, q.f1.length ≤ 9223372036854775807 := by
  intro q hq
  obtain ⟨i, hi⟩ := List.getElem?_of_mem hq
  have hn : 0 < n := by
    have := (List.getElem?_eq_some_iff.1 hi).1
    rw [h.1] at this
    omega
  obtain ⟨ad, _, hc⟩ := h.2.2 hn
  obtain ⟨c, _, hK, _⟩ := hc i q hi
  obtain ⟨A', c', _, _, hC⟩ := k184_open hK
  exact hC.2.1
end Go.Proofs.Ytlopmffdebhpfaa.Pure

/-! ## G40 -/
namespace Go.Proofs.Ytlopmffdebhpfaa.G
open Go.RowKit Go.Proofs.YtlopmffdebhpfaaW.PrintWords Go.Proofs.YtlopmffdebhpfaaW.PrintLast Go.Proofs.YtlopmffdebhpfaaW.PrintMore
attribute [local go_sem] max2_int min2_int max_two min_two max_three min_three max_four min_four
set_option linter.unusedVariables false
set_option linter.unusedSimpArgs false

/-! ### laws_markOp: function 40 -/
end Go.Proofs.Ytlopmffdebhpfaa.G

/-! ## DoP -/
namespace Go.Proofs.Ytlopmffdebhpfaa.Pure
open Go.RowKit Go.Proofs.Ytlopmffdebhpfaa.G Go.Proofs.YtlopmffdebhpfaaW.PrintWords Go.Proofs.YtlopmffdebhpfaaW.PrintLast Go.Proofs.YtlopmffdebhpfaaW.PrintMore
theorem toO {kd at_ : Int} {l : List Int} (hm : l.length ≤ 281474976710656) : Cv (fun k => laws_toOp.f k kd at_ l) (kd, at_, l) := by
  unfold laws_toOp.f
  exact Cv.bind (toB hm) (Cv.of rfl)
theorem eqO {kd at_ : Int} {l : List Int} (hm : l.length ≤ 9223372036854775806) : Cv (fun k => laws_eqOp.f k kd at_ l kd at_ l) true := by
  unfold laws_eqOp.f
  exact Cv.pos rfl (Cv.pos rfl (Cv.bind (eqB hm) (Cv.pos (decide_eq_true rfl) (Cv.of rfl))))
theorem szO {kd at_ a : Int} {l : List Int} (h0 : 0 ≤ a) (ha : a ≤ 1048576) (hl : l.length ≤ 9223372036854775807) : ∃ s, laws_szOp.f kd at_ l a = some s ∧ s ≤ 1048576 ∧ (0 ≤ s → (l.length : Int) + s = a) := by
  unfold laws_szOp.f laws_szByteS.f
  rw [w64 (n := a - (l.length : Int)) (by omega) (by omega)]
  by_cases h : a - (l.length : Int) < 0
  · exact ⟨-1, by rw [if_pos h]; rfl, by omega, fun h => by omega⟩
  · refine ⟨a - l.length, ?_, by omega, fun _ => by omega⟩
    rw [if_neg h]
    show (if a - (l.length : Int) < 0 then some (-1) else some (a - (l.length : Int))) = _
    rw [if_neg h]
theorem heldB_at {n : Nat} {m : Int} (h0 : 0 ≤ m) (h1 : m + n ≤ 4611686018427387904) : Cv (fun k => laws_heldByteS.f k (marks n m) m) (m + n) :=
  Cv.from (m := n + 1) (fun k => by
    have h := held_l0 k n [] m h0 (by omega) (by simp; omega)
    unfold laws_heldByteS.f
    exact h)
theorem heldSS_l0 : ∀ (ls pre : List (List Int)) (m : Int), 0 ≤ m → m + totL ls ≤ 4611686018427387904 → pre.length + ls.length ≤ 4611686018427387904 → Cv (fun k => laws_heldByteSS.l0 k (pre ++ mkSS ls m) m (pre.length : Int)) (m + totL ls)
  | [], pre, m, h0, h1, hm => Cv.step (fun k => laws_heldByteSS.l0.eq_2 _ _ _ k) (Cv.neg (by simp [mkSS]) (Cv.of (by simp [totL])))
  | x :: r, pre, m, h0, h1, hm => by
    have h2 := mid_len pre (mkSS r (m + x.length)) (marks x.length m)
    have h3 : (x :: r).length = r.length + 1 := rfl
    have h4 : totL (x :: r) = x.length + totL r := rfl
    rw [mkSS_length] at h2
    show Cv (fun k => laws_heldByteSS.l0 k (pre ++ marks x.length m :: mkSS r (m + x.length)) m (pre.length : Int)) _
    refine Cv.step (fun k => laws_heldByteSS.l0.eq_2 _ _ _ k) (Cv.pos (by omega) (Cv.pos (by omega) ?_))
    rw [show rd_L2 (pre ++ marks x.length m :: mkSS r (m + x.length)) (pre.length : Int) = marks x.length m from getD_mid _ _ _ _]
    refine Cv.bind (heldB_at h0 (by omega)) (Cv.neg (by omega) ?_)
    rw [w64 (by omega) (by omega), mid_snoc, ← snoc_len pre (marks x.length m)]
    have ih := heldSS_l0 r (pre ++ [marks x.length m]) (m + x.length) (by omega) (by omega) (by simp; omega)
    rw [show m + (totL (x :: r) : Int) = m + x.length + totL r by omega]
    exact ih
theorem heldPS_l0 : ∀ (ls pre : List S185) (m : Int), 0 ≤ m → m + totP ls ≤ 4611686018427387904 → pre.length + ls.length ≤ 4611686018427387904 → Cv (fun k => laws_heldPendS.l0 k (pre ++ mkPS ls m) m (pre.length : Int)) (m + totP ls)
  | [], pre, m, h0, h1, hm => Cv.step (fun k => laws_heldPendS.l0.eq_2 _ _ _ k) (Cv.neg (by simp [mkPS]) (Cv.of (by simp [totP])))
  | x :: r, pre, m, h0, h1, hm => by
    have h2 := mid_len pre (mkPS r (m + ((1 + x.f1.length : Nat) : Int))) (⟨m, marks x.f1.length (m + 1)⟩ : S185)
    have h3 : (x :: r).length = r.length + 1 := rfl
    have h4 : totP (x :: r) = (1 + x.f1.length) + totP r := rfl
    rw [mkPS_length] at h2
    show Cv (fun k => laws_heldPendS.l0 k (pre ++ (⟨m, marks x.f1.length (m + 1)⟩ : S185) :: mkPS r (m + ((1 + x.f1.length : Nat) : Int))) m (pre.length : Int)) _
    refine Cv.step (fun k => laws_heldPendS.l0.eq_2 _ _ _ k) (Cv.pos (by omega) (Cv.pos (by omega) ?_))
    rw [show rd_T185 (pre ++ (⟨m, marks x.f1.length (m + 1)⟩ : S185) :: mkPS r (m + ((1 + x.f1.length : Nat) : Int))) (pre.length : Int) = ⟨m, marks x.f1.length (m + 1)⟩ from getD_mid _ _ _ _]
    refine Cv.pos rfl ?_
    rw [w64 (n := m + 1) (by omega) (by omega)]
    refine Cv.bind (heldB_at (by omega) (by omega)) (Cv.neg (by omega) ?_)
    rw [w64 (by omega) (by omega), mid_snoc, ← snoc_len pre (⟨m, marks x.f1.length (m + 1)⟩ : S185)]
    have ih := heldPS_l0 r (pre ++ [⟨m, marks x.f1.length (m + 1)⟩]) (m + ((1 + x.f1.length : Nat) : Int)) (by omega) (by omega) (by simp; omega)
    rw [show m + (totP (x :: r) : Int) = m + ((1 + x.f1.length : Nat) : Int) + totP r by omega, show m + 1 + (x.f1.length : Int) = m + ((1 + x.f1.length : Nat) : Int) by omega]
    exact ih
theorem heldD {ls : List (List Int)} {ps : List S185} (h : 1 + (totL ls : Int) + totP ps ≤ 4611686018427387904) (hl : ls.length ≤ 4611686018427387904) (hp : ps.length ≤ 4611686018427387904) : Cv (fun k => laws_heldDisk.f k (mkSS ls 1) (mkPS ps (1 + totL ls)) 1) (1 + (totL ls : Int) + totP ps) := by
  unfold laws_heldDisk.f
  refine Cv.bind (v := 1 + (totL ls : Int)) ?_ (Cv.neg (by omega) (Cv.bind (v := 1 + (totL ls : Int) + totP ps) ?_ (Cv.neg (by omega) (Cv.of rfl))))
  · unfold laws_heldByteSS.f
    exact heldSS_l0 ls [] 1 (by omega) (by omega) (by simpa using hl)
  · unfold laws_heldPendS.f
    exact heldPS_l0 ps [] (1 + totL ls) (by omega) (by omega) (by simpa using hp)
theorem totL_bd {B : Nat} : ∀ {ls : List (List Int)}, (∀ l ∈ ls, l.length ≤ B) → totL ls ≤ ls.length * B
  | [], _ => by simp [totL]
  | x :: r, h => by
    have h1 := totL_bd (ls := r) (fun l hl => h l (List.mem_cons_of_mem _ hl))
    have h2 := h x List.mem_cons_self
    simp only [totL, List.length_cons, Nat.add_mul, Nat.one_mul]
    omega
theorem totP_bd {B : Nat} : ∀ {ps : List S185}, (∀ p ∈ ps, p.f1.length ≤ B) → totP ps ≤ ps.length * (1 + B)
  | [], _ => by simp [totP]
  | x :: r, h => by
    have h1 := totP_bd (ps := r) (fun l hl => h l (List.mem_cons_of_mem _ hl))
    have h2 := h x List.mem_cons_self
    simp only [totP, List.length_cons, Nat.add_mul (r.length) 1, Nat.one_mul]
    omega
end Go.Proofs.Ytlopmffdebhpfaa.Pure

/-! ## PlayP -/
namespace Go.Proofs.Ytlopmffdebhpfaa.Pure
open Go.RowKit Go.Proofs.Ytlopmffdebhpfaa.G Go.Proofs.YtlopmffdebhpfaaW.PrintWords Go.Proofs.YtlopmffdebhpfaaW.PrintLast Go.Proofs.YtlopmffdebhpfaaW.PrintMore
/-- An op, as the other package's type. -/
def cvO (q : S59) : S63 := ⟨q.f0, q.f1, q.f2⟩
def totO4 : List S59 → Nat
  | [] => 0
  | o :: r => o.f2.length + totO4 r
theorem szOS_l0 : ∀ (r pre : List S59) (a : Int), 0 ≤ a → a ≤ 1048576 → (∀ l ∈ r, l.f2.length ≤ 9223372036854775807) → (pre ++ r).length ≤ 9223372036854775806 →
    ∃ s, Cv (fun k => laws_szOpS.l0 k (pre ++ r) a (pre.length : Int)) s ∧ s ≤ 1048576 ∧ (0 ≤ s → (totO4 r : Int) + s = a)
  | [], pre, a, h0, ha, hr, hm => ⟨a, Cv.step (fun k => laws_szOpS.l0.eq_2 _ _ _ k) (Cv.neg (by simp) (Cv.of rfl)), ha, fun _ => by simp [totO4]⟩
  | x :: r, pre, a, h0, ha, hr, hm => by
    have h1 := mid_len pre r x
    have hx := hr x List.mem_cons_self
    obtain ⟨s1, hs1, b1, b2⟩ := szO (kd := x.f0) (at_ := x.f1) h0 ha hx
    by_cases hneg : s1 < 0
    · refine ⟨-1, Cv.step (fun k => laws_szOpS.l0.eq_2 _ _ _ k) (Cv.pos (by omega) (Cv.pos (by omega) ?_)), by omega, fun h => by omega⟩
      rw [show rd_T59 (pre ++ x :: r) (pre.length : Int) = x from getD_mid _ _ _ _]
      exact Cv.bind (Cv.of hs1) (Cv.pos hneg (Cv.of rfl))
    · have b3 := b2 (by omega)
      obtain ⟨s, hs, hs1', hs2⟩ := szOS_l0 r (pre ++ [x]) s1 (by omega) (by omega) (fun l hl => hr l (List.mem_cons_of_mem _ hl)) (by simpa using hm)
      refine ⟨s, Cv.step (fun k => laws_szOpS.l0.eq_2 _ _ _ k) (Cv.pos (by omega) (Cv.pos (by omega) ?_)), hs1', fun h => by have := hs2 h; simp only [totO4]; omega⟩
      rw [show rd_T59 (pre ++ x :: r) (pre.length : Int) = x from getD_mid _ _ _ _]
      refine Cv.bind (Cv.of hs1) (Cv.neg hneg ?_)
      rw [w64 (by omega) (by omega)]
      rw [snoc_len, ← mid_snoc] at hs
      exact hs
theorem szOS {ls : List S59} {a : Int} (h0 : 0 ≤ a) (ha : a ≤ 1048576) (hr : ∀ l ∈ ls, l.f2.length ≤ 9223372036854775807) (hm : ls.length ≤ 9223372036854775807) :
    ∃ s, Cv (fun k => laws_szOpS.f k ls a) s ∧ s ≤ 1048576 ∧ (0 ≤ s → (totO4 ls : Int) + ls.length + s = a) := by
  have hw : wrap64 (a - (ls.length : Int)) = a - ls.length := w64 (by omega) (by omega)
  by_cases hneg : a - (ls.length : Int) < 0
  · refine ⟨-1, ?_, by omega, fun h => by omega⟩
    unfold laws_szOpS.f
    rw [hw]
    exact Cv.pos hneg (Cv.of rfl)
  · obtain ⟨s, hs, h1, h2⟩ := szOS_l0 ls [] (a - ls.length) (by omega) (by omega) hr (by simp; omega)
    refine ⟨s, ?_, h1, fun h => by have := h2 h; omega⟩
    unfold laws_szOpS.f
    rw [hw]
    exact Cv.neg hneg hs
theorem toOS_l0 : ∀ (r pre : List S59), (∀ l ∈ r, l.f2.length ≤ 281474976710656) → (pre ++ r).length ≤ 7036874417766 →
    Cv (fun k => laws_toOpS.l0 k (pre ++ r) (pre.map cvO ++ List.replicate r.length z63) (pre.length : Int)) ((pre ++ r).map cvO)
  | [], pre, h, hm => by
    refine Cv.step (fun k => laws_toOpS.l0.eq_2 _ _ _ k) (Cv.neg (by simp) (Cv.of ?_))
    simp
  | x :: r, pre, h, hm => by
    have h1 := mid_len pre r x
    have h2 : ((pre.map cvO ++ List.replicate (x :: r).length z63).length : Int) = pre.length + r.length + 1 := by simp; omega
    refine Cv.step (fun k => laws_toOpS.l0.eq_2 _ _ _ k) (Cv.pos (by omega) (Cv.pos (by omega) ?_))
    rw [show rd_T59 (pre ++ x :: r) (pre.length : Int) = x from getD_mid _ _ _ _]
    refine Cv.bind (v := (x.f0, x.f1, x.f2)) (toO (h x List.mem_cons_self)) (Cv.pos (by omega) ?_)
    rw [w64 (by omega) (by omega), List.length_cons, List.replicate_succ]
    have hset := set_mid (pre.map cvO) (List.replicate r.length z63) z63 (⟨x.f0, x.f1, x.f2⟩ : S63)
    rw [List.length_map] at hset
    rw [hset, mid_snoc]
    have ih := toOS_l0 r (pre ++ [x]) (fun l hl => h l (List.mem_cons_of_mem _ hl)) (by simpa using hm)
    rw [snoc_len, List.map_append] at ih
    exact ih
theorem toOS {ls : List S59} (h : ∀ l ∈ ls, l.f2.length ≤ 281474976710656) (hm : ls.length ≤ 7036874417766) : Cv (fun k => laws_toOpS.f k ls) (ls.map cvO) := by
  unfold laws_toOpS.f
  refine Cv.pos (by omega) (Cv.pos (by omega) ?_)
  have := toOS_l0 ls [] h (by simpa using hm)
  simpa using this
theorem eqOS_l0 : ∀ (r pre : List S63), (∀ l ∈ r, l.f2.length ≤ 9223372036854775806) → (pre ++ r).length ≤ 9223372036854775806 → Cv (fun k => laws_eqOpS.l0 k (pre ++ r) (pre ++ r) (pre.length : Int)) true
  | [], pre, h, hm => Cv.step (fun k => laws_eqOpS.l0.eq_2 _ _ _ k) (Cv.neg (by simp) (Cv.of rfl))
  | x :: r, pre, h, hm => by
    have h1 := mid_len pre r x
    refine Cv.step (fun k => laws_eqOpS.l0.eq_2 _ _ _ k) (Cv.pos (by omega) (Cv.pos (by omega) (Cv.pos (by omega) ?_)))
    rw [show rd_T63 (pre ++ x :: r) (pre.length : Int) = x from getD_mid _ _ _ _]
    refine Cv.bind (v := true) (eqO (h x List.mem_cons_self)) (Cv.pos rfl ?_)
    rw [w64 (by omega) (by omega), mid_snoc, ← snoc_len pre x]
    exact eqOS_l0 r (pre ++ [x]) (fun l hl => h l (List.mem_cons_of_mem _ hl)) (by simpa using hm)
theorem eqOS {ls : List S63} (h : ∀ l ∈ ls, l.f2.length ≤ 9223372036854775806) (hm : ls.length ≤ 9223372036854775806) : Cv (fun k => laws_eqOpS.f k ls ls) true := by
  unfold laws_eqOpS.f
  exact Cv.pos rfl (eqOS_l0 ls [] h (by simpa using hm))
theorem le_totO4 {q : S59} : ∀ {ls : List S59}, q ∈ ls → q.f2.length ≤ totO4 ls
  | x :: r, h => by
    rcases List.mem_cons.1 h with rfl | h
    · simp [totO4]
    · have := le_totO4 h
      simp only [totO4]
      omega
theorem totO_cv : ∀ (ps : List S59), totO (ps.map cvO) = totO4 ps + 2 * ps.length
  | [] => rfl
  | p :: r => by
    simp only [List.map_cons, totO, totO4, totO_cv r, cvO, List.length_cons]
    omega
theorem ops_len {w : World} {A : Option Addr} {n : Nat} {xs : List S59} (h : Kd.C k59 w A n xs) : ∀ q ∈ xs, q.f2.length ≤ 9223372036854775807 := by
  intro q hq
  obtain ⟨i, hi⟩ := List.getElem?_of_mem hq
  have hn : 0 < n := by
    have := (List.getElem?_eq_some_iff.1 hi).1
    rw [h.1] at this
    omega
  obtain ⟨ad, _, hc⟩ := h.2.2 hn
  obtain ⟨c, _, hK, _⟩ := hc i q hi
  obtain ⟨A', c', _, _, hC⟩ := k59_open hK
  exact hC.2.1
theorem playL_bd : ∀ (ops : List S63) (d : List (List Int) × List S185), Plays d.1.length d.2 → Bd d.1 d.2 → (playL ops d).1.1.length = d.1.length ∧ Plays d.1.length (playL ops d).1.2 ∧ Bd (playL ops d).1.1 (playL ops d).1.2
  | [], d, h, hb => ⟨rfl, h, hb⟩
  | o :: r, d, h, hb => by
    have h1 := doV_plays o.f0 o.f1 o.f2 h
    have h2 := doV_Bd o.f0 o.f1 o.f2 hb
    unfold playL
    split
    · have ih := playL_bd r (doV d.1 d.2 o.f0 o.f1 o.f2).1 (by rw [h1.1]; exact h1.2) h2
      rw [h1.1] at ih
      exact ih
    · exact ⟨h1.1, h1.2, h2⟩
theorem playOf_bd {ok : Bool} {safe : List (List Int)} {ps : List S185} {ops : List S63} {n : Int} (hp : ps.length ≤ 1048576) (h : ok = true → Plays safe.length ps) (hb : Bd safe ps) :
    (playOf ok safe ps ops n).1.1.length = safe.length ∧ (playOf ok safe ps ops n).1.2.length ≤ 1048576 ∧ Bd (playOf ok safe ps ops n).1.1 (playOf ok safe ps ops n).1.2 := by
  unfold playOf
  split
  · split
    · have h1 := playL_bd (ops.take n.toNat) (safe, ps) (h (by assumption)) hb
      exact ⟨h1.1, Nat.le_trans h1.2.1.1 (by decide), h1.2.2⟩
    · exact ⟨rfl, hp, hb⟩
  · exact ⟨rfl, hp, hb⟩
end Go.Proofs.Ytlopmffdebhpfaa.Pure

/-! ## Open -/
namespace Go.Proofs.Ytlopmffdebhpfaa.G
open Go.RowKit Go.ChangeShapes Go.WideShapes Go.ChangeAt Go.Proofs.YtlopmffdebhpfaaW.PrintWords Go.Proofs.YtlopmffdebhpfaaW.PrintLast Go.Proofs.YtlopmffdebhpfaaW.PrintMore
section
variable {H : Type} {enc : TypeId × Value → H} {P : Program} {w : World} {base : Nat} {spare : Nat → Bool} {held : Bool}
theorem choose_list {α : Type} (n : Nat) (R : Nat → α → Prop) (h : ∀ i, i < n → ∃ x, R i x) : ∃ xs : List α, xs.length = n ∧ ∀ i x, xs[i]? = some x → R i x := by
  induction n with
  | zero => exact ⟨[], rfl, fun i x hx => by simp at hx⟩
  | succ n ih =>
    obtain ⟨xs, hl, hx⟩ := ih (fun i hi => h i (by omega))
    obtain ⟨y, hy⟩ := h n (by omega)
    refine ⟨xs ++ [y], by simp [hl], fun i x hi => ?_⟩
    rcases Nat.lt_or_ge i xs.length with h1 | h1
    · rw [List.getElem?_append_left h1] at hi
      exact hx i x hi
    · rw [List.getElem?_append_right h1] at hi
      have h2 : i - xs.length = 0 := by
        have := (List.getElem?_eq_some_iff.1 hi).1
        simp at this
        omega
      rw [h2] at hi
      obtain rfl : y = x := by simpa using hi
      rw [show i = n by omega]
      exact hy
/-- A slice's reading tells a row that is read. -/
theorem open_rows {α : Type} (d : Kd α) (wf : α → Prop) {t e : TypeId} {fuel : Nat} {cs : List Value} {x : DataW H × List MemPlace} (ht : P.underlying t = some (.slice e)) (hsz : P.cellsOf e = d.sz)
    (hel : ∀ n cs y, DataW.trod enc P w base spare held n e cs = some y → ∃ z, d.K w z cs ∧ wf z) (h : DataW.trod enc P w base spare held fuel t cs = some x) :
    ∃ A c zs, cs = [.slice A zs.length c] ∧ zs.length ≤ c ∧ Kd.C d w A zs.length zs ∧ ∀ z ∈ zs, wf z := by
  rcases DataW.trod_slice ht h with ⟨rfl, _⟩ | ⟨a, len, cap, elems, rest, n, _, rfl, _, _, hl, hm, hlen, hE, _⟩
  · exact ⟨none, 0, [], rfl, Nat.le_refl _, ⟨rfl, Nat.zero_le _, fun h0 => absurd h0 (Nat.lt_irrefl 0)⟩, fun z hz => by cases hz⟩
  have hpick : ∀ i, i < len → ∃ z : α, wf z ∧ ∃ c, c.length = d.sz ∧ d.K w z c ∧ ∀ j u, c[j]? = some u → w.cell? (a.add (i * d.sz + j)) = some u := by
    intro i hi
    have h1 := hE i hi
    rw [List.getElem?_eq_getElem (by omega), Option.bind_eq_some_iff] at h1
    obtain ⟨c, hc, hy⟩ := h1
    obtain ⟨z, hK, hz⟩ := hel n c _ hy
    obtain ⟨_, hcl, hcc⟩ := World.cells?_some hc
    refine ⟨z, hz, c, by rw [hcl, hsz], hK, fun j u hu => ?_⟩
    have hj : j < P.cellsOf e := by
      have := (List.getElem?_eq_some_iff.1 hu).1
      omega
    have h2 := hcc j hj
    rw [hu] at h2
    rw [← h2, hsz]
    by_cases z1 : i * d.sz = 0 <;> by_cases z2 : j = 0 <;> simp [Addr.add, z1, z2, Nat.add_assoc]
  obtain ⟨zs, hzl, hzs⟩ := choose_list len _ hpick
  refine ⟨some a, cap, zs, by rw [hzl], by omega, ⟨rfl, by rw [hzl]; exact Nat.le_trans hl hm, fun _ => ⟨a, rfl, fun j p hp => (hzs j p hp).2⟩⟩, fun z hz => ?_⟩
  obtain ⟨i, hi⟩ := List.getElem?_of_mem hz
  exact (hzs i z hi).1
theorem open_el_int {k : IntKind} {e : TypeId} (he : P.underlying e = some (.int k)) (n : Nat) (cs : List Value) (y : DataW H × List MemPlace) (h : DataW.trod enc P w base spare held n e cs = some y) : ∃ z, (Kd.int k).K w z cs ∧ (Lit.int k z).wf = true := by
  obtain ⟨m, rfl, _, hw⟩ := DataW.trod_int he h
  exact ⟨m, rfl, hw⟩
theorem two_of_length {α : Type} : ∀ {l : List α}, l.length = 2 → ∃ u v, l = [u, v]
  | [u, v], _ => ⟨u, v, rfl⟩
/-- A row of bytes. -/
def Wb (l : List Int) : Prop := ∀ x ∈ l, (Lit.int .u8 x).wf = true
theorem open_el_bytes {t e : TypeId} (ht : P.underlying t = some (.slice e)) (he : P.underlying e = some (.int .u8)) (hc : P.cellsOf e = 1) (n : Nat) (cs : List Value) (y : DataW H × List MemPlace) (h : DataW.trod enc P w base spare held n t cs = some y) : ∃ z, (Kd.slice e (Kd.int .u8)).K w z cs ∧ Wb z := by
  obtain ⟨A, c, zs, rfl, hl, hC, hw⟩ := open_rows (Kd.int .u8) (fun x => (Lit.int .u8 x).wf = true) ht hc (open_el_int he) h
  exact ⟨zs, ⟨A, c, rfl, hl, hC⟩, hw⟩
theorem open_el_pend (n : Nat) (cs : List Value) (y : DataW H × List MemPlace) (h : DataW.trod enc Try.prog w base spare held n 184 cs = some y) : ∃ z, k184.K w z cs ∧ ((Lit.int .i64 z.f0).wf = true ∧ Wb z.f1) := by
  obtain ⟨y0, y1, m, _, hlen, h0, h1⟩ := trod_struct2 Try.underlying184 h
  obtain ⟨a, ha, _, hw⟩ := DataW.trod_int Try.underlying3 h0
  obtain ⟨z, hK, hz⟩ := open_el_bytes Try.underlying22 Try.underlying5 (by kernel_rfl) m _ _ h1
  obtain ⟨A, c, hb, hl, hC⟩ := hK
  have h3 : Try.prog.cellsOf 3 = 1 := by kernel_rfl
  have h22 : Try.prog.cellsOf 22 = 1 := by kernel_rfl
  have h184 : Try.prog.cellsOf 184 = 2 := by kernel_rfl
  rw [h184] at hlen
  rw [h3] at ha
  rw [h22] at hb
  obtain ⟨u, v, rfl⟩ := two_of_length hlen
  have ha' : u = .int .i64 a := by simpa using ha
  have hb' : v = .slice A z.length c := by simpa using hb
  rw [ha', hb']
  exact ⟨⟨a, z⟩, k184_mk w ⟨a, z⟩ hl hC, hw, hz⟩
/-- A disk that came in, opened. -/
structure ODisk (w : World) where
  A0 : Option Addr
  c0 : Nat
  A1 : Option Addr
  c1 : Nat
  l0 : List (List Int)
  l1 : List S184
  hc0 : l0.length ≤ c0
  hc1 : l1.length ≤ c1
  hr0 : Kd.C (Kd.slice 5 (Kd.int .u8)) w A0 l0.length l0
  hr1 : Kd.C k184 w A1 l1.length l1
  hw0 : ∀ l ∈ l0, Wb l
  hw1 : ∀ q ∈ l1, (Lit.int .i64 q.f0).wf = true ∧ Wb q.f1
def ODisk.v {w : World} (o : ODisk w) : Value := .agg #[.slice o.A0 o.l0.length o.c0, .slice o.A1 o.l1.length o.c1]
set_option maxRecDepth 100000 in
/-- A disk by value: its sectors and its pending writes. -/
theorem open_disk {r : Reach} {b0 : Nat} {v : Value} {d : DataW H} {p : List MemPlace} (hv : Value.okWide Try.prog w r b0 39 v) (h : DataW.Trod enc Try.prog w base spare held 39 v d p) : ∃ o : ODisk w, v = o.v := by
  obtain ⟨v0, v1, y0, y1, n, rfl, _, _, h0, h1⟩ := Go.Joins.open_agg2 Try.underlying39 (by kernel_rfl) (by kernel_rfl) hv h
  obtain ⟨A0, c0, l0, e0, hl0, hC0, hw0⟩ := open_rows (Kd.slice 5 (Kd.int .u8)) Wb Try.underlying36 (by kernel_rfl) (open_el_bytes Try.underlying22 Try.underlying5 (by kernel_rfl)) h0
  obtain ⟨A1, c1, l1, e1, hl1, hC1, hw1⟩ := open_rows k184 (fun q => (Lit.int .i64 q.f0).wf = true ∧ Wb q.f1) Try.underlying37 (by kernel_rfl) open_el_pend h1
  injection e0 with e0
  injection e1 with e1
  subst e0
  subst e1
  exact ⟨⟨A0, c0, A1, c1, l0, l1, hl0, hl1, hC0, hC1, hw0, hw1⟩, rfl⟩
end
end Go.Proofs.Ytlopmffdebhpfaa.G

/-! ## OpenO -/
namespace Go.Proofs.Ytlopmffdebhpfaa.G
open Go.RowKit Go.ChangeShapes Go.WideShapes Go.ChangeAt Go.Proofs.YtlopmffdebhpfaaW.PrintWords Go.Proofs.YtlopmffdebhpfaaW.PrintLast Go.Proofs.YtlopmffdebhpfaaW.PrintMore
structure OOp (w : World) where
  kd : Int
  at_ : Int
  Ad : Option Addr
  cd : Nat
  dat : List Int
  hk : (Lit.int .i64 kd).wf = true
  ha : (Lit.int .i64 at_).wf = true
  hcd : dat.length ≤ cd
  hrd : Kd.C (Kd.int .u8) w Ad dat.length dat
  hwd : Wb dat
def OOp.v {w : World} (o : OOp w) : Value := .agg #[.int .i64 o.kd, .int .i64 o.at_, .slice o.Ad o.dat.length o.cd]
section
variable {H : Type} {enc : TypeId × Value → H} {w : World} {base : Nat} {spare : Nat → Bool} {held : Bool}
end
end Go.Proofs.Ytlopmffdebhpfaa.G

/-! ## OpenQ -/
namespace Go.Proofs.Ytlopmffdebhpfaa.G
open Go.RowKit Go.ChangeShapes Go.WideShapes Go.ChangeAt Go.Proofs.YtlopmffdebhpfaaW.PrintWords Go.Proofs.YtlopmffdebhpfaaW.PrintLast Go.Proofs.YtlopmffdebhpfaaW.PrintMore
structure OOps (w : World) where
  Ap : Option Addr
  cp : Nat
  lo : List S59
  hcp : lo.length ≤ cp
  hrp : Kd.C k59 w Ap lo.length lo
  hw : ∀ o ∈ lo, (Lit.int .i64 o.f0).wf = true ∧ (Lit.int .i64 o.f1).wf = true ∧ Wb o.f2
def OOps.v {w : World} (o : OOps w) : Value := .slice o.Ap o.lo.length o.cp
theorem three_of_length {α : Type} : ∀ {l : List α}, l.length = 3 → ∃ u v x, l = [u, v, x]
  | [u, v, x], _ => ⟨u, v, x, rfl⟩
section
variable {H : Type} {enc : TypeId × Value → H} {w : World} {base : Nat} {spare : Nat → Bool} {held : Bool}
theorem trod_struct3' {P : Program} {t : TypeId} {f0 f1 f2 : Field} {fuel : Nat} {cs : List Value} {x : DataW H × List MemPlace} (ht : P.underlying t = some (.struct #[f0, f1, f2])) (h : DataW.trod enc P w base spare held fuel t cs = some x) :
    ∃ y0 y1 y2 n, cs.length = P.cellsOf t ∧ DataW.trod enc P w base spare held n f0.type ((cs.drop f0.offset).take (P.cellsOf f0.type)) = some y0 ∧ DataW.trod enc P w base spare held n f1.type ((cs.drop f1.offset).take (P.cellsOf f1.type)) = some y1 ∧ DataW.trod enc P w base spare held n f2.type ((cs.drop f2.offset).take (P.cellsOf f2.type)) = some y2 := by
  obtain ⟨xs, n, _, rfl, hl, hlen, hf⟩ := DataW.trod_struct ht h
  match xs, hlen with
  | [y0, y1, y2], _ => exact ⟨y0, y1, y2, n, hl, by simpa using hf 0 f0 rfl, by simpa using hf 1 f1 rfl, by simpa using hf 2 f2 rfl⟩
theorem open_el_op (n : Nat) (cs : List Value) (y : DataW H × List MemPlace) (h : DataW.trod enc Try.prog w base spare held n 59 cs = some y) : ∃ z, k59.K w z cs ∧ ((Lit.int .i64 z.f0).wf = true ∧ (Lit.int .i64 z.f1).wf = true ∧ Wb z.f2) := by
  obtain ⟨y0, y1, y2, m, hlen, h0, h1, h2⟩ := trod_struct3' Try.underlying59 h
  obtain ⟨a, ha, _, hw⟩ := DataW.trod_int Try.underlying3 h0
  obtain ⟨b, hb1, _, hw1⟩ := DataW.trod_int Try.underlying3 h1
  obtain ⟨z, hK, hz⟩ := open_el_bytes Try.underlying22 Try.underlying5 (by kernel_rfl) m _ _ h2
  obtain ⟨A, c, hb, hl, hC⟩ := hK
  have h3 : Try.prog.cellsOf 3 = 1 := by kernel_rfl
  have h22 : Try.prog.cellsOf 22 = 1 := by kernel_rfl
  have h59 : Try.prog.cellsOf 59 = 3 := by kernel_rfl
  rw [h59] at hlen
  rw [h3] at ha hb1
  rw [h22] at hb
  obtain ⟨u, v, x, rfl⟩ := three_of_length hlen
  have ha' : u = .int .i64 a := by simpa using ha
  have hb1' : v = .int .i64 b := by simpa using hb1
  have hb' : x = .slice A z.length c := by simpa using hb
  rw [ha', hb1', hb']
  exact ⟨⟨a, b, z⟩, k59_mk w ⟨a, b, z⟩ hl hC, hw, hw1, hz⟩
set_option maxRecDepth 100000 in
theorem open_ops {r : Reach} {b0 : Nat} {v : Value} {d : DataW H} {p : List MemPlace} (hv : Value.okWide Try.prog w r b0 68 v) (h : DataW.Trod enc Try.prog w base spare held 68 v d p) : ∃ o : OOps w, v = o.v := by
  obtain ⟨a, len, cap, rfl⟩ := okWide_slice Try.underlying68 hv
  obtain ⟨fuel, hf⟩ := h
  obtain ⟨A, c, zs, e, hl, hC, hw⟩ := open_rows k59 (fun z => (Lit.int .i64 z.f0).wf = true ∧ (Lit.int .i64 z.f1).wf = true ∧ Wb z.f2) Try.underlying68 (by kernel_rfl) open_el_op hf
  simp [Value.cells] at e
  obtain ⟨rfl, rfl, rfl⟩ := e
  exact ⟨⟨a, cap, zs, hl, hC, hw⟩, rfl⟩
end
end Go.Proofs.Ytlopmffdebhpfaa.G

/-! ## PureFnExactPlay -/
namespace Go.Proofs.Ytlopmffdebhpfaa.Pure
open Go.RowKit Go.Proofs.Ytlopmffdebhpfaa.G Go.Proofs.YtlopmffdebhpfaaW.PrintWords Go.Proofs.YtlopmffdebhpfaaW.PrintLast Go.Proofs.YtlopmffdebhpfaaW.PrintMore
theorem FnExactPlay (w : World) (o : ODisk w) (q : OOps w) (n : Int) (_hn : (Lit.int .i64 n).wf = true) : Calls Try.prog 8 #[o.v, q.v, .int .i64 n] w fun e w' => e = .returned (.bool true) ∧ Below w.heap.size w w' := by
  obtain ⟨A0, c0, A1, c1, l0, l1, hc0, hc1, hr0, hr1, hw0, hw1'⟩ := o
  obtain ⟨Ap, cp, lo, hcd, hrd, hwo⟩ := q
  have hw1 := fun q hq => (hw1' q hq).1
  show Calls Try.prog 8 #[.agg #[.slice A0 l0.length c0, .slice A1 l1.length c1], .slice Ap lo.length cp, .int .i64 n] w _
  obtain ⟨s, hs, h1, h2⟩ := szD (ls := l0) (ps := l1) (a := 1048576) (by decide) (by decide) (rows_len hr0) hr0.2.1 (pends_len hr1) hr1.2.1
  obtain ⟨k, hk⟩ := hs.get
  by_cases hneg : s < 0
  · exact laws_FnExactPlay.small k A0 c0 l0 A1 c1 l1 Ap cp lo n s w hr0 hc0 hr1 hc1 hrd hcd hk hneg
  have htot := h2 (by omega)
  obtain ⟨s2, hs2, h3, h4⟩ := szOS (a := s) (ls := lo) (by omega) h1 (ops_len hrd) hrd.2.1
  obtain ⟨ks, hks⟩ := hs2.get
  by_cases hneg2 : s2 < 0
  · exact laws_FnExactPlay.small2 k ks A0 c0 l0 A1 c1 l1 Ap cp lo n s s2 w hr0 hc0 hr1 hc1 hrd hcd hk hneg hks hneg2
  have htot2 := h4 (by omega)
  have hl0 : ∀ l ∈ l0, l.length ≤ 1048576 := fun l hl => by have := le_totL hl; omega
  have hl1 : ∀ q ∈ l1, q.f1.length ≤ 1048576 := fun q hq => by have := le_totP4 hq; omega
  have hlo : ∀ q ∈ lo, q.f2.length ≤ 1048576 := fun q hq => by have := le_totO4 hq; omega
  have hq1 : ∀ q ∈ l1.map cv, q.f1.length ≤ 1048576 := fun q hq => by
    obtain ⟨p, hp, rfl⟩ := List.mem_map.1 hq
    exact hl1 p hp
  have hqo : ∀ q ∈ lo.map cvO, q.f2.length ≤ 1048576 := fun q hq => by
    obtain ⟨p, hp, rfl⟩ := List.mem_map.1 hq
    exact hlo p hp
  have hm1 : (l1.map cv).length = l1.length := List.length_map _
  have hm2 : (lo.map cvO).length = lo.length := List.length_map _
  obtain ⟨k2, hk2⟩ := (toD (ls := l0) (ps := l1) (fun l hl => by have := hl0 l hl; omega) (by omega) (fun l hl => by have := hl1 l hl; omega) (by omega)).get
  obtain ⟨k3, hk3⟩ := (toOS (ls := lo) (fun l hl => by have := hlo l hl; omega) (by omega)).get
  obtain ⟨k4, hk4⟩ := (spec_ok (safe := l0) (ps := l1.map cv)).get
  obtain ⟨k5, hk5⟩ := (impl_ok (safe := l0) (ps := l1.map cv)).get
  have hpl : decide (okDisk l0 (l1.map cv)) = true → Plays l0.length (l1.map cv) := fun h => by
    have h' := of_decide_eq_true h
    exact ⟨h'.2.2.1, fun p hp => ⟨(h'.2.2.2.2 p hp).1, (h'.2.2.2.2 p hp).2.1⟩⟩
  obtain ⟨b1, b3, b2, b4⟩ := playOf_bd (ops := lo.map cvO) (n := n) (show (l1.map cv).length ≤ 1048576 by omega) hpl ⟨hl0, hq1⟩
  obtain ⟨⟨⟨e0, e1⟩, rn⟩, hres⟩ : ∃ r, playOf (decide (okDisk l0 (l1.map cv))) l0 (l1.map cv) (lo.map cvO) n = r := ⟨_, rfl⟩
  rw [hres] at b1 b2 b3 b4
  dsimp only at b1 b2 b3 b4
  have t0 : (1 : Int) + (totL e0 : Int) + totP e1 ≤ 4611686018427387904 := by
    have q0 := totL_bd b2
    have q1 := totP_bd b4
    have q2 : e0.length * 1048576 ≤ 1048576 * 1048576 := Nat.mul_le_mul_right _ (by omega)
    have q3 : e1.length * (1 + 1048576) ≤ 1048577 * (1 + 1048576) := Nat.mul_le_mul_right _ (by omega)
    omega
  obtain ⟨K6, hK6⟩ := eqD (ls := l0) (ps := l1.map cv) (fun l hl => by have := hl0 l hl; omega) (by omega) (fun l hl => by have := hq1 l hl; omega) (by omega)
  obtain ⟨K6', hK6'⟩ := eqD (ls := e0) (ps := e1) (fun l hl => by have := b2 l hl; omega) (by omega) (fun l hl => by have := b4 l hl; omega) (by omega)
  obtain ⟨k7, hk7⟩ := (eqOS (ls := lo.map cvO) (fun l hl => by have := hqo l hl; omega) (by omega)).get
  have tcv := totP_cv l1
  have tco := totO_cv lo
  obtain ⟨k9, hk9⟩ := (heldD (ls := e0) (ps := e1) t0 (by omega) (by omega)).get
  refine laws_FnExactPlay.full k ks k2 k3 k4 k5 (max K6 K6') k7 k9 A0 c0 l0 A1 c1 l1 Ap cp lo n s s2 l0 (l1.map cv) (lo.map cvO) e0 e1 rn w hr0 hc0 hr1 hc1 hrd hcd hk hneg hks hneg2 hk2 hk3 ?_ (hK6 _ (by omega)) (hK6' _ (by omega)) hk7 (by omega) t0 hk9
  refine ⟨by omega, by omega, hl0, hq1, fun p hp => ?_, fun o ho => ?_, _, hk4, hk5, hpl, hres⟩
  · obtain ⟨q, hq, rfl⟩ := List.mem_map.1 hp
    exact hw1 q hq
  · obtain ⟨q, hq, rfl⟩ := List.mem_map.1 ho
    exact (hwo q hq).2.1
end Go.Proofs.Ytlopmffdebhpfaa.Pure

/-! ## LawFnExactPlay -/
namespace Go.Proofs.Ytlopmffdebhpfaa.fnExactPlay
open Go.ChangeShapes Go.WideShapes Go.ChangeAt Go.RowKit
open Go.ChangeMaps (open_string shut_string)
set_option linter.unusedVariables false
theorem own : ownKnob Try.prog.godebug = none := by kernel_rfl
theorem laidOut : laidOutB Try.prog = true := by kernel_rfl
set_option maxRecDepth 100000 in
theorem lifted (os : Os) (started : os.Started) (H : Type) (enc : TypeId × Value → H) :
    ReturnsInHanded {} Try.checked os 8 .any (Rows.fnExactPlaySpec.pre6 enc Try.prog Try.f8 Rows.fnExactPlayRow.domain false) (Rows.fnExactPlaySpec.post enc Try.prog Try.f8 false true false false) := by
  refine returnsInHanded_of_change_sized (C := Try.checked) own started (by kernel_rfl) Try.func8
    (ChangeSpec.witness6 (enc := enc) (C := Try.checked) false ⟨#[], #[.agg #[.slice none 0 0, .slice none 0 0], .slice none 0 0, .int .i64 0], []⟩ 8 (by kernel_rfl) (by kernel_rfl) (by kernel_rfl) (by kernel_rfl)) ?_
  intro W base args ds gs before hval0 hW hcnd hsz0 _
  have hval : ∀ (j : Nat) t v, Try.f8.params[j]? = some t → args[j]? = some v → Value.okWide Try.prog W .any base t v := hval0
  have hW' := hW
  obtain ⟨p, q, hA0, hV, rfl, hfz, hnd⟩ := hW
  have hA : DataW.TrodAll enc Try.prog W 0 (fun _ => true) true Try.f8.params.toList args.toList ds p := hA0
  rw [Try.params8] at hA hval
  obtain ⟨v0, vs0, d0, ds0, p0, q0, hargs, rfl, rfl, h0, r0⟩ := trodAll_cons hA
  obtain ⟨v1, vs1, d1, ds1, p1, q1, rfl, rfl, rfl, h1, r1⟩ := trodAll_cons r0
  obtain ⟨v2, vs2, d2, ds2, p2, q2, rfl, rfl, rfl, h2, r2⟩ := trodAll_cons r1
  obtain ⟨rfl, rfl, rfl⟩ := trodAll_nil r2
  obtain rfl : args = #[v0, v1, v2] := by cases args; simp_all
  obtain ⟨rfl, rfl⟩ := trodVars_none hV
  have k0 := h0
  have lt0 : ∀ x ∈ p0, x.block < W.heap.size := by obtain ⟨m, hm⟩ := k0; exact DataW.trod_lt m _ _ _ hm
  obtain ⟨o0, rfl⟩ := G.open_disk (hval 0 39 v0 rfl rfl) h0
  have k1 := h1
  have lt1 : ∀ x ∈ p1, x.block < W.heap.size := by obtain ⟨m, hm⟩ := k1; exact DataW.trod_lt m _ _ _ hm
  obtain ⟨o1, rfl⟩ := G.open_ops (hval 1 68 v1 rfl rfl) h1
  obtain ⟨a2, rfl, rfl, rfl, w2⟩ := open_int Try.underlying3 (hval 2 3 v2 rfl rfl) h2
  clear hA0 hval0 hsz0
  refine (Pure.FnExactPlay W o0 o1 _ w2).mono fun e W' ⟨he, bel⟩ => ?_
  subst he
  exact ⟨_, rfl, _, _, _, [], _, [], hW', trodAll_mk1 (shut_bool Try.underlying4 _), (trodAll_cons_mk (Below.trod laidOut (by kernel_rfl) (of_decide_eq_true (by kernel_rfl)) k0 bel lt0) (trodAll_cons_mk (Below.trod laidOut (by kernel_rfl) (of_decide_eq_true (by kernel_rfl)) k1 bel lt1) (trodAll_cons_mk (shut_int Try.underlying3 w2) trodAll_mk0))), rfl, bel.frame _, fun h => by cases h⟩
theorem over : Rows.fnExactPlayRow.holds Try.pinned (OpenSpec.ofChange Rows.fnExactPlaySpec) :=
  OpenClaim.holds_of_wide 8 Try.f8 rfl rfl rfl rfl rfl rfl rfl ⟨rfl, rfl, rfl, rfl, rfl⟩ rfl rfl rfl rfl rfl (by kernel_rfl) Try.func8 (by kernel_rfl)
    (of_decide_eq_true (by kernel_rfl)) (by unfold Func.isWrapper; first | (rw [if_pos (by decide +kernel)]; kernel_rfl) | (rw [if_neg (by decide +kernel)]; exact ⟨rfl, rfl⟩))
    (fun os started H enc _ => lifted os started H enc)
theorem proved : Rows.FnExactPlaySaid := over
#print axioms proved
end Go.Proofs.Ytlopmffdebhpfaa.fnExactPlay
namespace Go.Proofs.Ytlopmffdebhpfaa
/-- The row, under a short name, for the claim. -/
theorem fnExactPlay_holds : Rows.FnExactPlaySaid := fnExactPlay.proved
end Go.Proofs.Ytlopmffdebhpfaa
