/- Texts of this proof, joined in their build order: Head PageB G130 G79 G131 Parse Err Page Enc G15 G17 G18 G19 Dec Mark G85 G138 G86. -/
import Derived.Test.YtlopmffdebhpfaaK5a
import Derived.Test.YtlopmffdebhpfaaProg
import Derived.WalkKit
import Derived.LaidEql
import Derived.Stop.Asserts
import Derived.RowKitTokens
import Derived.KernelRfl
/-! ## Head -/
namespace Go.Proofs.Ytlopmffdebhpfaa.G
open Go.RowKit Go.Proofs.YtlopmffdebhpfaaW.PrintWords Go.Proofs.YtlopmffdebhpfaaW.PrintLast Go.Proofs.YtlopmffdebhpfaaW.PrintMore
attribute [local go_sem] max2_int min2_int max_two min_two max_three min_three max_four min_four
set_option linter.unusedVariables false
set_option linter.unusedSimpArgs false

/-! ### impl_head_bytes: function 134 -/
def impl_head_bytes.f (k : Nat) (a0_0 : Int) (a0_1 : Int) (a0_2 : Int) : Option (List Int) := (impl_low.f k a0_0 4).bind fun t731 => ((impl_low.f k a0_2 2).bind fun t737 => ((impl_low.f k 0 4).bind fun t740 => ((bytes_Join.f (([t731, (([(a0_1) % 256, 0] : List Int)), t737, t740] : List (List Int))) ([] : List Int)).bind fun t746 => (some t746))))
set_option maxRecDepth 100000 in
theorem impl_head_bytes.mono : ∀ a0 a1 a2 k, LeO (impl_head_bytes.f k a0 a1 a2) (impl_head_bytes.f (k + 1) a0 a1 a2) := by
  intro a0 a1 a2 k
  unfold impl_head_bytes.f
  repeat' first
      | (with_reducible exact impl_low.mono _ _ _)
      | (with_reducible exact LeO.refl _)
      | (with_reducible exact LeO.none _)
      | (with_reducible refine LeO.ite ?_ ?_)
      | (with_reducible refine LeO.bind ?_ (fun _ => ?_))
      | exact impl_low.mono _ _ _
      | exact LeO.none _
      | refine LeO.ite ?_ ?_
      | refine LeO.bind ?_ (fun _ => ?_)
def impl_head_bytes.T1 : Bool × List (List Nat × List Nat) := (true, [([], []), ([0], [0]), ([1], [1]), ([], []), ([3], [3]), ([4], [4]), ([5], [5]), ([], []), ([7], [7]), ([8, 2], [8]), ([9], []), ([2, 6, 9, 10], [2, 6, 9, 10]), ([11, 10], [11]), ([12, 12, 0, 1, 2, 3, 4, 5, 6, 7, 8, 9, 10, 11, 12], [12])])
def impl_head_bytes.B1 : List Nat := [0, 1, 3, 0, 8, 24, 56, 0, 128, 391, 903, 2047, 4095, 8191]
theorem impl_head_bytes.tab1 : rtab .any (opsOf Try.f134 1) = impl_head_bytes.T1 := by kernel_rfl
theorem impl_head_bytes.bits1 : waitsOk impl_head_bytes.T1.2 impl_head_bytes.B1 = true := by kernel_rfl
set_option maxHeartbeats 8000000 in
set_option maxRecDepth 100000 in
theorem impl_head_bytes.calls (k : Nat) (a0_0 : Int) (a0_1 : Int) (a0_2 : Int) (r : List Int) (w : World) (h : impl_head_bytes.f k a0_0 a0_1 a0_2 = some r) :
    Calls Try.prog 134 #[.agg #[.int .i64 a0_0, .int .i64 a0_1, .int .i64 a0_2]] w fun e w' => ∃ v0_ : Value, e = .returned (v0_) ∧ Kd.V (Kd.int .u8) 5 w' w.heap.size (fun k_ => w.heap.size ≤ k_) v0_ r ∧ Below w.heap.size w w' := by
  have hu100 := Try.underlying100
  have HB := Aside0.mk (Below.refl w.heap.size w)
  have H : ((impl_low.f k a0_0 4).bind fun t731 => ((impl_low.f k a0_2 2).bind fun t737 => ((impl_low.f k 0 4).bind fun t740 => ((bytes_Join.f (([t731, (([(a0_1) % 256, 0] : List Int)), t737, t740] : List (List Int))) ([] : List Int)).bind fun t746 => (some t746))))) = some r := h
  clear h
  replace H := Option.bind_eq_some_iff.mp H
  obtain ⟨t731, A20, H⟩ := H
  replace H : ((impl_low.f k a0_2 2).bind fun t737 => ((impl_low.f k 0 4).bind fun t740 => ((bytes_Join.f (([t731, (([(a0_1) % 256, 0] : List Int)), t737, t740] : List (List Int))) ([] : List Int)).bind fun t746 => (some t746)))) = some r := H
  have A2 := Aside0.mk A20
  clear A20
  obtain ⟨y734, hy734⟩ : ∃ y_ : List Int, y_ = (([(a0_1) % 256, 0] : List Int)) := ⟨_, rfl⟩
  replace H : ((impl_low.f k a0_2 2).bind fun t737 => ((impl_low.f k 0 4).bind fun t740 => ((bytes_Join.f (([t731, y734, t737, t740] : List (List Int))) ([] : List Int)).bind fun t746 => (some t746)))) = some r := by first | (rw [hy734]; with_reducible exact H) | (have H2_ := (Option.bind_some _ _).symm.trans H; rw [hy734]; with_reducible exact H2_) | (have H2_ := (Option.bind_some _ _).symm.trans H; with_reducible exact H2_) | with_reducible exact H | (rw [hy734]; exact H) | exact H
  have Ny734 := Aside0.mk hy734
  clear hy734
  replace H := Option.bind_eq_some_iff.mp H
  obtain ⟨t737, A30, H⟩ := H
  replace H : ((impl_low.f k 0 4).bind fun t740 => ((bytes_Join.f (([t731, y734, t737, t740] : List (List Int))) ([] : List Int)).bind fun t746 => (some t746))) = some r := H
  have A3 := Aside0.mk A30
  clear A30
  replace H := Option.bind_eq_some_iff.mp H
  obtain ⟨t740, A40, H⟩ := H
  replace H : ((bytes_Join.f (([t731, y734, t737, t740] : List (List Int))) ([] : List Int)).bind fun t746 => (some t746)) = some r := H
  have A4 := Aside0.mk A40
  clear A40
  obtain ⟨y743, hy743⟩ : ∃ y_ : List (List Int), y_ = (([t731, y734, t737, t740] : List (List Int))) := ⟨_, rfl⟩
  replace H : ((bytes_Join.f y743 ([] : List Int)).bind fun t746 => (some t746)) = some r := by first | (rw [hy743]; with_reducible exact H) | (have H2_ := (Option.bind_some _ _).symm.trans H; rw [hy743]; with_reducible exact H2_) | (have H2_ := (Option.bind_some _ _).symm.trans H; with_reducible exact H2_) | with_reducible exact H | (rw [hy743]; exact H) | exact H
  have Ny743 := Aside0.mk hy743
  clear hy743
  replace H := Option.bind_eq_some_iff.mp H
  obtain ⟨t746, A50, H⟩ := H
  replace H : (some t746) = some r := H
  have A5 := Aside0.mk A50
  clear A50
  obtain rfl := Option.some.inj H
  go_enter Try.func134, Try.ntmps134
  try go_wp2_with (first | ((with_reducible refine gate_dst (N := 1) rfl ?_); refine box_event ?hg (N := 1) ?hd (cs := #[.int .i64 a0_0, .int .i64 a0_1, .int .i64 a0_2]) (t := 100) ?hr ?_; (case hd => rfl); (case hg => rfl); (case hr => first | (go_simp; done) | (go_simp; rfl)); intro gb730 hg w6 hbox hb; have n0_ := Aside0.mk (below_step (by repeat (first | (with_reducible first | exact HB.out | apply below_alloc | apply pw_below_drewN | apply below_drew1) | exact HB.out)) hb); have n1_ := Aside0.mk (hbox); have n2_ := Aside0.mk ((by rw [hg]; exact (below_size (by repeat (first | (with_reducible first | exact HB.out | apply below_alloc | apply pw_below_drewN | apply below_drew1) | exact HB.out))) : w.heap.size ≤ gb730)); have n3_ := Aside0.mk ((by rw [hg]; exact (below_size (by repeat (first | (with_reducible first | exact HB.out | apply below_alloc | apply pw_below_drewN | apply below_drew1) | exact HB.out))) : w.heap.size ≤ gb730)); clear HB; have HB := n0_; have BK730 := n1_; have GW730 := n2_; have GE730 := n3_; clear n0_ n1_ n2_ n3_; clear hb hbox hg))
  have n0_ := Aside0.mk (blk_drew BK730.out)
  have n1_ := Aside0.mk (below_drew1 HB.out)
  clear BK730
  clear HB
  have BK730 := n0_
  have HB := n1_
  clear n0_ n1_
  refine start_ (n := 14) (S := fun w' => True) (ds := []) #[false, false, false, false, false, false, false, false, false, false, false, false, false, false] (by kernel_rfl) rfl rfl trivial (fun hHeld => ?_); refine with_tabW impl_head_bytes.tab1 impl_head_bytes.bits1 (fun HT_ HW_ => ?_)
  generalize w6.drew = w7 at BK730 HB hHeld ⊢
  refine pure_ (i := 0) (N := some 3) (v := ?_) (a' := ?_) #[true, false, false, false, false, false, false, false, false, false, false, false, false, false] rfl rfl (any_of HT_.out (by kernel_rfl)) (fun _ _ _ h => h) (Or.inl ⟨by rfl, ?_⟩) ?_ ?_
  rotate_left
  · intro w'
    go_simp
    with_reducible rfl
  rotate_left
  · simp only [Act.put, List.setIfInBounds_toArray, List.set_cons_zero, List.set_cons_succ, i64_w, i32_w]
    rfl
  refine pure_ (i := 3) (N := some 6) (v := ?_) (a' := ?_) #[true, false, false, true, false, false, false, false, false, false, false, false, false, false] rfl rfl (any_of HT_.out (by kernel_rfl)) (fun _ _ _ h => h) (Or.inl ⟨by rfl, ?_⟩) ?_ ?_
  rotate_left
  · intro w'
    go_simp
    with_reducible rfl
  rotate_left
  · simp only [Act.put, List.setIfInBounds_toArray, List.set_cons_zero, List.set_cons_succ, i64_w, i32_w]
    rfl
  refine pure_ (i := 7) (N := some 10) (v := ?_) (a' := ?_) #[true, false, false, true, false, false, false, true, false, false, false, false, false, false] rfl rfl (any_of HT_.out (by kernel_rfl)) (fun _ _ _ h => h) (Or.inl ⟨by rfl, ?_⟩) ?_ ?_
  rotate_left
  · intro w'
    go_simp
    with_reducible rfl
  rotate_left
  · simp only [Act.put, List.setIfInBounds_toArray, List.set_cons_zero, List.set_cons_succ, i64_w, i32_w]
    rfl
  refine inv_at [1, 2, 4, 5, 6, 8, 9, 10, 11, 12, 13] (fun a0_ b a w' => ∃ (v732 : Value) (v735 : Value) (v738 : Value) (v741 : Value) (v744 : Value) (v747 : Value) (m13_ : Value), a = putSel a0_ b [(1, 4, .int .i64 a0_0), (2, 5, v732), (4, 7, .int .i64 a0_1), (5, 8, .int .u8 ((a0_1) % 256)), (6, 9, v735), (8, 11, .int .i64 a0_2), (9, 12, v738), (10, 13, v741), (11, 14, v744), (12, 15, v747), (13, 2, m13_)] ∧ (w'.heap[gb730]? = some (.cells #[.int .i64 a0_0, .int .i64 a0_1, .int .i64 a0_2] 100 (0, 0))) ∧ (Below w.heap.size w w') ∧ (b 2 = true → b 11 = false → Kd.R (Kd.int .u8) 5 w' w.heap.size (fun _ => True) v732 t731) ∧ (b 6 = true → b 11 = false → Kd.R (Kd.int .u8) 5 w' w.heap.size (fun _ => True) v735 y734) ∧ (b 9 = true → b 11 = false → Kd.R (Kd.int .u8) 5 w' w.heap.size (fun _ => True) v738 t737) ∧ (b 10 = true → b 11 = false → Kd.R (Kd.int .u8) 5 w' w.heap.size (fun _ => True) v741 t740) ∧ (b 11 = true → Kd.N (Kd.slice 5 (Kd.int .u8)) 22 w' w.heap.size (fun k_ => k_ ≠ gb730) v744 y743) ∧ (b 12 = true → Kd.V (Kd.int .u8) 5 w' w.heap.size (fun k_ => w.heap.size ≤ k_) v747 t746) ∧ (b 13 = true → (m13_ : Value) = v747)) HT_.out HW_.out (by kernel_rfl) (by kernel_rfl) ?_ ?_ ?_
  · exact ⟨.bool false, .bool false, .bool false, .bool false, .bool false, .bool false, .bool false, by simp only [putSel, Bool.false_eq_true, if_false], BK730.out, HB.out, fun h_ => absurd h_ (by decide), fun h_ => absurd h_ (by decide), fun h_ => absurd h_ (by decide), fun h_ => absurd h_ (by decide), fun h_ => absurd h_ (by decide), fun h_ => absurd h_ (by decide), fun h_ => absurd h_ (by decide)⟩
  · skip
    clear BK730 HB
    refine steps_cons ?_ ?_
    · rintro b a w' ⟨v732, v735, v738, v741, v744, v747, m13_, ha, Q_BK730, Q_HB, Q_HO733, Q_HO736, Q_HO739, Q_HO742, Q_HO745, Q_HO748, Q_X13_⟩ hb_ hon hoff
      refine ⟨_, rfl, fun K hK => ?_⟩
      have e3 : a.tmps[3]? = some (.pointer (some ⟨gb730, 0, none⟩)) := by rw [ha]; exact (putSel_off rfl).trans rfl
      replace ha := Aside0.mk ha
      have BK730 := Aside0.mk Q_BK730
      have HB := Aside0.mk Q_HB
      have hc0_ : w'.cell? ⟨gb730, 0, none⟩ = some (.int .i64 a0_0) := (blk_cell BK730.out 0).trans rfl
      have hc1_ : w'.cell? ⟨gb730, 1, none⟩ = some (.int .i64 a0_1) := (blk_cell BK730.out 1).trans rfl
      have hc2_ : w'.cell? ⟨gb730, 2, none⟩ = some (.int .i64 a0_2) := (blk_cell BK730.out 2).trans rfl
      refine value_ (w1 := w') (v := .int .i64 a0_0) (by rfl) rfl ?_ ?_
      · go_simp
        (try simp only [i64_w])
        try rfl
      refine hK.out _ _ ⟨v732, v735, v738, v741, v744, v747, m13_, (by rw [ha.out]; exact putSel_upk 0 hb_ rfl rfl rfl), Q_BK730, Q_HB, fun h0_ _ => absurd ((hoff 2 (by kernel_rfl)).symm.trans h0_) (by decide), Q_HO736, fun h0_ _ => absurd ((hoff 9 (by kernel_rfl)).symm.trans h0_) (by decide), fun h0_ _ => absurd ((hoff 10 (by kernel_rfl)).symm.trans h0_) (by decide), fun h0_ => absurd ((hoff 11 (by kernel_rfl)).symm.trans h0_) (by decide), fun h0_ => absurd ((hoff 12 (by kernel_rfl)).symm.trans h0_) (by decide), fun h0_ => absurd ((hoff 13 (by kernel_rfl)).symm.trans h0_) (by decide)⟩
    refine steps_cons ?_ ?_
    · rintro b a w' ⟨v732, v735, v738, v741, v744, v747, m13_, ha, Q_BK730, Q_HB, Q_HO733, Q_HO736, Q_HO739, Q_HO742, Q_HO745, Q_HO748, Q_X13_⟩ hb_ hon hoff
      refine ⟨_, rfl, fun K hK => ?_⟩
      have e4 : a.tmps[4]? = some (.int .i64 a0_0) := by rw [ha]; exact putSel_on (e := (1, 4, .int .i64 a0_0)) 0 rfl rfl (hon 1 (by kernel_rfl)) rfl
      replace ha := Aside0.mk ha
      have BK730 := Aside0.mk Q_BK730
      have HB := Aside0.mk Q_HB
      refine goes_ Try.func135 (by kernel_rfl) rfl #[.int .i64 a0_0, .int .i64 4] (by rfl) rfl rfl (by first | (simp only [List.map_toArray, List.map_cons, List.map_nil, Act.eval, Array.getD_eq_getD_getElem?, Option.getD_some, e4]; done) | (simp only [List.map_toArray, List.map_cons, List.map_nil, Act.eval, Array.getD_eq_getD_getElem?, Option.getD_some, e4]; rfl)) ?_
      with_reducible refine (impl_low.calls k a0_0 4 t731 _ A2.out).mono ?_
      rintro e w8 ⟨v732, rfl, ho0, hb⟩
      refine ⟨_, rfl, ?_⟩
      have n0_ := Aside0.mk (Kd.R_lower ho0 (below_size (by repeat (first | (with_reducible first | exact HB.out | apply below_alloc | apply pw_below_drewN | apply below_drew1 | refine below_set ?_ GE730.out) | exact HB.out))))
      have n1_ := Aside0.mk (blk_below (g := gb730) (o := .cells #[.int .i64 a0_0, .int .i64 a0_1, .int .i64 a0_2] 100 (0, 0)) (by (with_reducible repeat (first | refine blk_drewN ?_ _ | refine blk_drew ?_ | refine blk_alloc ?_ _)); exact BK730.out) hb)
      have n2_ := Aside0.mk (below_step (by repeat (first | (with_reducible first | exact HB.out | apply below_alloc | apply pw_below_drewN | apply below_drew1 | refine below_set ?_ GE730.out) | exact HB.out)) hb)
      have z_HO736 := fun (h0_ : b 6 = true) (h1_ : b 11 = false) => (show Kd.R (Kd.int .u8) 5 w8 w.heap.size (fun _ => True) v735 y734 from by first | exact (Kd.R_elder' (by (with_reducible repeat (first | apply Kd.R_alloc | apply Kd.R_drewN | apply Kd.R_drew)); exact (Q_HO736 h0_ h1_)) (Kd.R_base ho0) hb) | exact Kd.R_mono (Kd.R_elder' (by (with_reducible repeat (first | apply Kd.R_alloc | apply Kd.R_drewN | apply Kd.R_drew)); exact (Q_HO736 h0_ h1_)) (Kd.R_base ho0) hb) (fun _ h_ => by first | trivial | exact h_ | exact h_.1))
      clear BK730
      clear HB
      have HO733 := n0_
      have BK730 := n1_
      have HB := n2_
      clear n0_ n1_ n2_
      (try clear hb)
      (try clear hb2)
      (try clear hk)
      (try clear hi)
      (try clear ho0)
      refine hK.out _ _ ⟨v732, v735, v738, v741, v744, v747, m13_, (by rw [ha.out]; exact putSel_upk 1 hb_ rfl rfl rfl), (by (with_reducible repeat (first | refine blk_drewN ?_ _ | refine blk_drew ?_ | refine blk_alloc ?_ _)); exact BK730.out), (by repeat (first | (with_reducible first | exact HB.out | apply below_alloc | apply pw_below_drewN | apply below_drew1 | refine below_set ?_ GE730.out) | exact HB.out)), fun _ _ => (by (with_reducible repeat (first | apply Kd.R_alloc | apply Kd.R_drewN | apply Kd.R_drew)); exact HO733.out), z_HO736, fun h0_ _ => absurd ((hoff 9 (by kernel_rfl)).symm.trans h0_) (by decide), fun h0_ _ => absurd ((hoff 10 (by kernel_rfl)).symm.trans h0_) (by decide), fun h0_ => absurd ((hoff 11 (by kernel_rfl)).symm.trans h0_) (by decide), fun h0_ => absurd ((hoff 12 (by kernel_rfl)).symm.trans h0_) (by decide), fun h0_ => absurd ((hoff 13 (by kernel_rfl)).symm.trans h0_) (by decide)⟩
    refine steps_cons ?_ ?_
    · rintro b a w' ⟨v732, v735, v738, v741, v744, v747, m13_, ha, Q_BK730, Q_HB, Q_HO733, Q_HO736, Q_HO739, Q_HO742, Q_HO745, Q_HO748, Q_X13_⟩ hb_ hon hoff
      refine ⟨_, rfl, fun K hK => ?_⟩
      have e6 : a.tmps[6]? = some (.pointer (some ⟨gb730, 1, none⟩)) := by rw [ha]; exact (putSel_off rfl).trans rfl
      replace ha := Aside0.mk ha
      have BK730 := Aside0.mk Q_BK730
      have HB := Aside0.mk Q_HB
      have hc0_ : w'.cell? ⟨gb730, 0, none⟩ = some (.int .i64 a0_0) := (blk_cell BK730.out 0).trans rfl
      have hc1_ : w'.cell? ⟨gb730, 1, none⟩ = some (.int .i64 a0_1) := (blk_cell BK730.out 1).trans rfl
      have hc2_ : w'.cell? ⟨gb730, 2, none⟩ = some (.int .i64 a0_2) := (blk_cell BK730.out 2).trans rfl
      refine value_ (w1 := w') (v := .int .i64 a0_1) (by rfl) rfl ?_ ?_
      · go_simp
        (try simp only [i64_w])
        try rfl
      refine hK.out _ _ ⟨v732, v735, v738, v741, v744, v747, m13_, (by rw [ha.out]; exact putSel_upk 2 hb_ rfl rfl rfl), Q_BK730, Q_HB, Q_HO733, fun h0_ _ => absurd ((hoff 6 (by kernel_rfl)).symm.trans h0_) (by decide), Q_HO739, Q_HO742, fun h0_ => absurd ((hoff 11 (by kernel_rfl)).symm.trans h0_) (by decide), fun h0_ => absurd ((hoff 12 (by kernel_rfl)).symm.trans h0_) (by decide), fun h0_ => absurd ((hoff 13 (by kernel_rfl)).symm.trans h0_) (by decide)⟩
    refine steps_cons ?_ ?_
    · rintro b a w' ⟨v732, v735, v738, v741, v744, v747, m13_, ha, Q_BK730, Q_HB, Q_HO733, Q_HO736, Q_HO739, Q_HO742, Q_HO745, Q_HO748, Q_X13_⟩ hb_ hon hoff
      refine ⟨_, rfl, fun K hK => ?_⟩
      have e7 : a.tmps[7]? = some (.int .i64 a0_1) := by rw [ha]; exact putSel_on (e := (4, 7, .int .i64 a0_1)) 2 rfl rfl (hon 4 (by kernel_rfl)) rfl
      replace ha := Aside0.mk ha
      have BK730 := Aside0.mk Q_BK730
      have HB := Aside0.mk Q_HB
      refine value_ (w1 := w') (v := .int .u8 ((a0_1) % 256)) (by rfl) rfl ?_ ?_
      · go_simp
        (try simp only [i64_w])
        try rfl
      refine hK.out _ _ ⟨v732, v735, v738, v741, v744, v747, m13_, (by rw [ha.out]; exact putSel_upk 3 hb_ rfl rfl rfl), Q_BK730, Q_HB, Q_HO733, fun h0_ _ => absurd ((hoff 6 (by kernel_rfl)).symm.trans h0_) (by decide), Q_HO739, Q_HO742, fun h0_ => absurd ((hoff 11 (by kernel_rfl)).symm.trans h0_) (by decide), fun h0_ => absurd ((hoff 12 (by kernel_rfl)).symm.trans h0_) (by decide), fun h0_ => absurd ((hoff 13 (by kernel_rfl)).symm.trans h0_) (by decide)⟩
    refine steps_cons ?_ ?_
    · rintro b a w' ⟨v732, v735, v738, v741, v744, v747, m13_, ha, Q_BK730, Q_HB, Q_HO733, Q_HO736, Q_HO739, Q_HO742, Q_HO745, Q_HO748, Q_X13_⟩ hb_ hon hoff
      refine ⟨_, rfl, fun K hK => ?_⟩
      have e8 : a.tmps[8]? = some (.int .u8 ((a0_1) % 256)) := by rw [ha]; exact putSel_on (e := (5, 8, .int .u8 ((a0_1) % 256))) 3 rfl rfl (hon 5 (by kernel_rfl)) rfl
      replace ha := Aside0.mk ha
      have BK730 := Aside0.mk Q_BK730
      have HB := Aside0.mk Q_HB
      refine Kd.R_lit_step (Kd.int .u8) _ 5 ?hg (N := 9) ?hd (xs := ([(a0_1) % 256, 0] : List Int)) (inner := [.int .u8 ((a0_1) % 256), .int .u8 0]) (ok := fun _ => True) (okp := fun _ => True) ?hr ?hp (fun _ hk => hk) trivial (Below.refl _ _) (Nat.le_refl _) (by simp) ?_; (case hd => rfl); (case hg => rfl); (case hr => first | (go_simp; done) | (go_simp; rfl)); (case hp => exact (Reps.one (show Kd.M (Kd.int .u8) _ _ _ ((a0_1) % 256) [.int .u8 ((a0_1) % 256)] from rfl) (Reps.one (show Kd.M (Kd.int .u8) _ _ _ 0 [.int .u8 0] from rfl) (Reps.none _ _))))
      intro v735 w8 ho9 hb hg_ hnew_
      clear hg_ hnew_
      (first | rw [← Ny734.out] at ho9 | (simp only [Int.reduceToNat] at ho9; rw [← Ny734.out] at ho9))
      have n0_ := Aside0.mk (Kd.R_lower ho9 (below_size (by repeat (first | (with_reducible first | exact HB.out | apply below_alloc | apply pw_below_drewN | apply below_drew1 | refine below_set ?_ GE730.out) | exact HB.out))))
      have n1_ := Aside0.mk (blk_below (g := gb730) (o := .cells #[.int .i64 a0_0, .int .i64 a0_1, .int .i64 a0_2] 100 (0, 0)) (by (with_reducible repeat (first | refine blk_drewN ?_ _ | refine blk_drew ?_ | refine blk_alloc ?_ _)); exact BK730.out) hb)
      have n2_ := Aside0.mk (below_step (by repeat (first | (with_reducible first | exact HB.out | apply below_alloc | apply pw_below_drewN | apply below_drew1 | refine below_set ?_ GE730.out) | exact HB.out)) hb)
      have z_HO733 := fun (h0_ : b 2 = true) (h1_ : b 11 = false) => (show Kd.R (Kd.int .u8) 5 w8 w.heap.size (fun _ => True) v732 t731 from by first | exact (Kd.R_elder' (by (with_reducible repeat (first | apply Kd.R_alloc | apply Kd.R_drewN | apply Kd.R_drew)); exact (Q_HO733 h0_ h1_)) (Kd.R_base ho9) hb) | exact Kd.R_mono (Kd.R_elder' (by (with_reducible repeat (first | apply Kd.R_alloc | apply Kd.R_drewN | apply Kd.R_drew)); exact (Q_HO733 h0_ h1_)) (Kd.R_base ho9) hb) (fun _ h_ => by first | trivial | exact h_ | exact h_.1))
      have z_HO739 := fun (h0_ : b 9 = true) (h1_ : b 11 = false) => (show Kd.R (Kd.int .u8) 5 w8 w.heap.size (fun _ => True) v738 t737 from by first | exact (Kd.R_elder' (by (with_reducible repeat (first | apply Kd.R_alloc | apply Kd.R_drewN | apply Kd.R_drew)); exact (Q_HO739 h0_ h1_)) (Kd.R_base ho9) hb) | exact Kd.R_mono (Kd.R_elder' (by (with_reducible repeat (first | apply Kd.R_alloc | apply Kd.R_drewN | apply Kd.R_drew)); exact (Q_HO739 h0_ h1_)) (Kd.R_base ho9) hb) (fun _ h_ => by first | trivial | exact h_ | exact h_.1))
      have z_HO742 := fun (h0_ : b 10 = true) (h1_ : b 11 = false) => (show Kd.R (Kd.int .u8) 5 w8 w.heap.size (fun _ => True) v741 t740 from by first | exact (Kd.R_elder' (by (with_reducible repeat (first | apply Kd.R_alloc | apply Kd.R_drewN | apply Kd.R_drew)); exact (Q_HO742 h0_ h1_)) (Kd.R_base ho9) hb) | exact Kd.R_mono (Kd.R_elder' (by (with_reducible repeat (first | apply Kd.R_alloc | apply Kd.R_drewN | apply Kd.R_drew)); exact (Q_HO742 h0_ h1_)) (Kd.R_base ho9) hb) (fun _ h_ => by first | trivial | exact h_ | exact h_.1))
      clear BK730
      clear HB
      have HO736 := n0_
      have BK730 := n1_
      have HB := n2_
      clear n0_ n1_ n2_
      clear hb ho9
      refine hK.out _ _ ⟨v732, v735, v738, v741, v744, v747, m13_, (by rw [ha.out]; exact putSel_upk 4 hb_ rfl rfl rfl), (by (with_reducible repeat (first | refine blk_drewN ?_ _ | refine blk_drew ?_ | refine blk_alloc ?_ _)); exact BK730.out), (by repeat (first | (with_reducible first | exact HB.out | apply below_alloc | apply pw_below_drewN | apply below_drew1 | refine below_set ?_ GE730.out) | exact HB.out)), z_HO733, fun _ _ => (by (with_reducible repeat (first | apply Kd.R_alloc | apply Kd.R_drewN | apply Kd.R_drew)); exact HO736.out), z_HO739, z_HO742, fun h0_ => absurd ((hoff 11 (by kernel_rfl)).symm.trans h0_) (by decide), fun h0_ => absurd ((hoff 12 (by kernel_rfl)).symm.trans h0_) (by decide), fun h0_ => absurd ((hoff 13 (by kernel_rfl)).symm.trans h0_) (by decide)⟩
    refine steps_cons ?_ ?_
    · rintro b a w' ⟨v732, v735, v738, v741, v744, v747, m13_, ha, Q_BK730, Q_HB, Q_HO733, Q_HO736, Q_HO739, Q_HO742, Q_HO745, Q_HO748, Q_X13_⟩ hb_ hon hoff
      refine ⟨_, rfl, fun K hK => ?_⟩
      have e10 : a.tmps[10]? = some (.pointer (some ⟨gb730, 2, none⟩)) := by rw [ha]; exact (putSel_off rfl).trans rfl
      replace ha := Aside0.mk ha
      have BK730 := Aside0.mk Q_BK730
      have HB := Aside0.mk Q_HB
      have hc0_ : w'.cell? ⟨gb730, 0, none⟩ = some (.int .i64 a0_0) := (blk_cell BK730.out 0).trans rfl
      have hc1_ : w'.cell? ⟨gb730, 1, none⟩ = some (.int .i64 a0_1) := (blk_cell BK730.out 1).trans rfl
      have hc2_ : w'.cell? ⟨gb730, 2, none⟩ = some (.int .i64 a0_2) := (blk_cell BK730.out 2).trans rfl
      refine value_ (w1 := w') (v := .int .i64 a0_2) (by rfl) rfl ?_ ?_
      · go_simp
        (try simp only [i64_w])
        try rfl
      refine hK.out _ _ ⟨v732, v735, v738, v741, v744, v747, m13_, (by rw [ha.out]; exact putSel_upk 5 hb_ rfl rfl rfl), Q_BK730, Q_HB, Q_HO733, Q_HO736, fun h0_ _ => absurd ((hoff 9 (by kernel_rfl)).symm.trans h0_) (by decide), fun h0_ _ => absurd ((hoff 10 (by kernel_rfl)).symm.trans h0_) (by decide), fun h0_ => absurd ((hoff 11 (by kernel_rfl)).symm.trans h0_) (by decide), fun h0_ => absurd ((hoff 12 (by kernel_rfl)).symm.trans h0_) (by decide), fun h0_ => absurd ((hoff 13 (by kernel_rfl)).symm.trans h0_) (by decide)⟩
    refine steps_cons ?_ ?_
    · rintro b a w' ⟨v732, v735, v738, v741, v744, v747, m13_, ha, Q_BK730, Q_HB, Q_HO733, Q_HO736, Q_HO739, Q_HO742, Q_HO745, Q_HO748, Q_X13_⟩ hb_ hon hoff
      refine ⟨_, rfl, fun K hK => ?_⟩
      have e11 : a.tmps[11]? = some (.int .i64 a0_2) := by rw [ha]; exact putSel_on (e := (8, 11, .int .i64 a0_2)) 5 rfl rfl (hon 8 (by kernel_rfl)) rfl
      replace ha := Aside0.mk ha
      have BK730 := Aside0.mk Q_BK730
      have HB := Aside0.mk Q_HB
      have HO733 := Aside0.mk (Q_HO733 (hon 2 (by kernel_rfl)) (hoff 11 (by kernel_rfl)))
      refine goes_ Try.func135 (by kernel_rfl) rfl #[.int .i64 a0_2, .int .i64 2] (by rfl) rfl rfl (by first | (simp only [List.map_toArray, List.map_cons, List.map_nil, Act.eval, Array.getD_eq_getD_getElem?, Option.getD_some, e11]; done) | (simp only [List.map_toArray, List.map_cons, List.map_nil, Act.eval, Array.getD_eq_getD_getElem?, Option.getD_some, e11]; rfl)) ?_
      with_reducible refine (impl_low.calls k a0_2 2 t737 _ A3.out).mono ?_
      rintro e w10 ⟨v738, rfl, ho0, hb⟩
      refine ⟨_, rfl, ?_⟩
      have n0_ := Aside0.mk (Kd.R_elder' (by (with_reducible repeat (first | apply Kd.R_alloc | apply Kd.R_drewN | apply Kd.R_drew)); exact HO733.out) (Kd.R_base ho0) hb)
      have n1_ := Aside0.mk (Kd.R_lower (Kd.R_new' ho0 (Kd.R_lt (by (with_reducible repeat (first | apply Kd.R_alloc | apply Kd.R_drewN | apply Kd.R_drew)); exact HO733.out))) (below_size (by repeat (first | (with_reducible first | exact HB.out | apply below_alloc | apply pw_below_drewN | apply below_drew1 | refine below_set ?_ GE730.out) | exact HB.out))))
      have n2_ := Aside0.mk (blk_below (g := gb730) (o := .cells #[.int .i64 a0_0, .int .i64 a0_1, .int .i64 a0_2] 100 (0, 0)) (by (with_reducible repeat (first | refine blk_drewN ?_ _ | refine blk_drew ?_ | refine blk_alloc ?_ _)); exact BK730.out) hb)
      have n3_ := Aside0.mk (below_step (by repeat (first | (with_reducible first | exact HB.out | apply below_alloc | apply pw_below_drewN | apply below_drew1 | refine below_set ?_ GE730.out) | exact HB.out)) hb)
      have z_HO736 := fun (h0_ : b 6 = true) (h1_ : b 11 = false) => (show Kd.R (Kd.int .u8) 5 w10 w.heap.size (fun _ => True) v735 y734 from by first | exact (Kd.R_elder' (by (with_reducible repeat (first | apply Kd.R_alloc | apply Kd.R_drewN | apply Kd.R_drew)); exact (Q_HO736 h0_ h1_)) (Kd.R_base ho0) hb) | exact Kd.R_mono (Kd.R_elder' (by (with_reducible repeat (first | apply Kd.R_alloc | apply Kd.R_drewN | apply Kd.R_drew)); exact (Q_HO736 h0_ h1_)) (Kd.R_base ho0) hb) (fun _ h_ => by first | trivial | exact h_ | exact h_.1))
      clear HO733
      clear BK730
      clear HB
      have HO733 := n0_
      have HO739 := n1_
      have BK730 := n2_
      have HB := n3_
      clear n0_ n1_ n2_ n3_
      (try clear hb)
      (try clear hb2)
      (try clear hk)
      (try clear hi)
      (try clear ho0)
      refine hK.out _ _ ⟨v732, v735, v738, v741, v744, v747, m13_, (by rw [ha.out]; exact putSel_upk 6 hb_ rfl rfl rfl), (by (with_reducible repeat (first | refine blk_drewN ?_ _ | refine blk_drew ?_ | refine blk_alloc ?_ _)); exact BK730.out), (by repeat (first | (with_reducible first | exact HB.out | apply below_alloc | apply pw_below_drewN | apply below_drew1 | refine below_set ?_ GE730.out) | exact HB.out)), fun _ _ => (by (with_reducible repeat (first | apply Kd.R_alloc | apply Kd.R_drewN | apply Kd.R_drew)); exact Kd.R_mono HO733.out (fun _ _ => trivial)), z_HO736, fun _ _ => (by (with_reducible repeat (first | apply Kd.R_alloc | apply Kd.R_drewN | apply Kd.R_drew)); exact Kd.R_mono HO739.out (fun _ _ => trivial)), fun h0_ _ => absurd ((hoff 10 (by kernel_rfl)).symm.trans h0_) (by decide), fun h0_ => absurd ((hoff 11 (by kernel_rfl)).symm.trans h0_) (by decide), fun h0_ => absurd ((hoff 12 (by kernel_rfl)).symm.trans h0_) (by decide), fun h0_ => absurd ((hoff 13 (by kernel_rfl)).symm.trans h0_) (by decide)⟩
    refine steps_cons ?_ ?_
    · rintro b a w' ⟨v732, v735, v738, v741, v744, v747, m13_, ha, Q_BK730, Q_HB, Q_HO733, Q_HO736, Q_HO739, Q_HO742, Q_HO745, Q_HO748, Q_X13_⟩ hb_ hon hoff
      refine ⟨_, rfl, fun K hK => ?_⟩
      replace ha := Aside0.mk ha
      have BK730 := Aside0.mk Q_BK730
      have HB := Aside0.mk Q_HB
      have HO733 := Aside0.mk (Q_HO733 (hon 2 (by kernel_rfl)) (hoff 11 (by kernel_rfl)))
      have HO739 := Aside0.mk (Q_HO739 (hon 9 (by kernel_rfl)) (hoff 11 (by kernel_rfl)))
      refine goes_ Try.func135 (by kernel_rfl) rfl #[.int .i64 0, .int .i64 4] (by rfl) rfl rfl (by first | (simp only [List.map_toArray, List.map_cons, List.map_nil, Act.eval, Array.getD_eq_getD_getElem?, Option.getD_some]; done) | (simp only [List.map_toArray, List.map_cons, List.map_nil, Act.eval, Array.getD_eq_getD_getElem?, Option.getD_some]; rfl)) ?_
      with_reducible refine (impl_low.calls k 0 4 t740 _ A4.out).mono ?_
      rintro e w11 ⟨v741, rfl, ho0, hb⟩
      refine ⟨_, rfl, ?_⟩
      have n0_ := Aside0.mk (Kd.R_elder' (by (with_reducible repeat (first | apply Kd.R_alloc | apply Kd.R_drewN | apply Kd.R_drew)); exact HO733.out) (Kd.R_base ho0) hb)
      have n1_ := Aside0.mk (Kd.R_elder' (by (with_reducible repeat (first | apply Kd.R_alloc | apply Kd.R_drewN | apply Kd.R_drew)); exact HO739.out) (Kd.R_base ho0) hb)
      have n2_ := Aside0.mk (Kd.R_lower (Kd.R_new' (Kd.R_new' ho0 (Kd.R_lt (by (with_reducible repeat (first | apply Kd.R_alloc | apply Kd.R_drewN | apply Kd.R_drew)); exact HO733.out))) (Kd.R_lt (by (with_reducible repeat (first | apply Kd.R_alloc | apply Kd.R_drewN | apply Kd.R_drew)); exact HO739.out))) (below_size (by repeat (first | (with_reducible first | exact HB.out | apply below_alloc | apply pw_below_drewN | apply below_drew1 | refine below_set ?_ GE730.out) | exact HB.out))))
      have n3_ := Aside0.mk (blk_below (g := gb730) (o := .cells #[.int .i64 a0_0, .int .i64 a0_1, .int .i64 a0_2] 100 (0, 0)) (by (with_reducible repeat (first | refine blk_drewN ?_ _ | refine blk_drew ?_ | refine blk_alloc ?_ _)); exact BK730.out) hb)
      have n4_ := Aside0.mk (below_step (by repeat (first | (with_reducible first | exact HB.out | apply below_alloc | apply pw_below_drewN | apply below_drew1 | refine below_set ?_ GE730.out) | exact HB.out)) hb)
      have z_HO736 := fun (h0_ : b 6 = true) (h1_ : b 11 = false) => (show Kd.R (Kd.int .u8) 5 w11 w.heap.size (fun _ => True) v735 y734 from by first | exact (Kd.R_elder' (by (with_reducible repeat (first | apply Kd.R_alloc | apply Kd.R_drewN | apply Kd.R_drew)); exact (Q_HO736 h0_ h1_)) (Kd.R_base ho0) hb) | exact Kd.R_mono (Kd.R_elder' (by (with_reducible repeat (first | apply Kd.R_alloc | apply Kd.R_drewN | apply Kd.R_drew)); exact (Q_HO736 h0_ h1_)) (Kd.R_base ho0) hb) (fun _ h_ => by first | trivial | exact h_ | exact h_.1))
      clear HO733
      clear HO739
      clear BK730
      clear HB
      have HO733 := n0_
      have HO739 := n1_
      have HO742 := n2_
      have BK730 := n3_
      have HB := n4_
      clear n0_ n1_ n2_ n3_ n4_
      (try clear hb)
      (try clear hb2)
      (try clear hk)
      (try clear hi)
      (try clear ho0)
      refine hK.out _ _ ⟨v732, v735, v738, v741, v744, v747, m13_, (by rw [ha.out]; exact putSel_upk 7 hb_ rfl rfl rfl), (by (with_reducible repeat (first | refine blk_drewN ?_ _ | refine blk_drew ?_ | refine blk_alloc ?_ _)); exact BK730.out), (by repeat (first | (with_reducible first | exact HB.out | apply below_alloc | apply pw_below_drewN | apply below_drew1 | refine below_set ?_ GE730.out) | exact HB.out)), fun _ _ => (by (with_reducible repeat (first | apply Kd.R_alloc | apply Kd.R_drewN | apply Kd.R_drew)); exact Kd.R_mono HO733.out (fun _ _ => trivial)), z_HO736, fun _ _ => (by (with_reducible repeat (first | apply Kd.R_alloc | apply Kd.R_drewN | apply Kd.R_drew)); exact Kd.R_mono HO739.out (fun _ _ => trivial)), fun _ _ => (by (with_reducible repeat (first | apply Kd.R_alloc | apply Kd.R_drewN | apply Kd.R_drew)); exact Kd.R_mono HO742.out (fun _ _ => trivial)), fun h0_ => absurd ((hoff 11 (by kernel_rfl)).symm.trans h0_) (by decide), fun h0_ => absurd ((hoff 12 (by kernel_rfl)).symm.trans h0_) (by decide), fun h0_ => absurd ((hoff 13 (by kernel_rfl)).symm.trans h0_) (by decide)⟩
    refine steps_cons ?_ ?_
    · rintro b a w' ⟨v732, v735, v738, v741, v744, v747, m13_, ha, Q_BK730, Q_HB, Q_HO733, Q_HO736, Q_HO739, Q_HO742, Q_HO745, Q_HO748, Q_X13_⟩ hb_ hon hoff
      refine ⟨_, rfl, fun K hK => ?_⟩
      have e5 : a.tmps[5]? = some (v732) := by rw [ha]; exact putSel_on (e := (2, 5, v732)) 1 rfl rfl (hon 2 (by kernel_rfl)) rfl
      have e9 : a.tmps[9]? = some (v735) := by rw [ha]; exact putSel_on (e := (6, 9, v735)) 4 rfl rfl (hon 6 (by kernel_rfl)) rfl
      have e12 : a.tmps[12]? = some (v738) := by rw [ha]; exact putSel_on (e := (9, 12, v738)) 6 rfl rfl (hon 9 (by kernel_rfl)) rfl
      have e13 : a.tmps[13]? = some (v741) := by rw [ha]; exact putSel_on (e := (10, 13, v741)) 7 rfl rfl (hon 10 (by kernel_rfl)) rfl
      replace ha := Aside0.mk ha
      have BK730 := Aside0.mk Q_BK730
      have HB := Aside0.mk Q_HB
      have HO733 := Aside0.mk (Q_HO733 (hon 2 (by kernel_rfl)) hb_)
      have HO736 := Aside0.mk (Q_HO736 (hon 6 (by kernel_rfl)) hb_)
      have HO739 := Aside0.mk (Q_HO739 (hon 9 (by kernel_rfl)) hb_)
      have HO742 := Aside0.mk (Q_HO742 (hon 10 (by kernel_rfl)) hb_)
      obtain ⟨Ao14, co14, eo14⟩ := Kd.R_slice HO733.out
      (first | subst eo14 | (injection eo14 with f1_ f2_ f3_; have f4_ := f1_.symm; have f5_ := f3_.symm; clear f1_ f2_ f3_; subst f4_; subst f5_))
      obtain ⟨Ao15, co15, eo15⟩ := Kd.R_slice HO736.out
      (first | subst eo15 | (injection eo15 with f1_ f2_ f3_; have f4_ := f1_.symm; have f5_ := f3_.symm; clear f1_ f2_ f3_; subst f4_; subst f5_))
      obtain ⟨Ao16, co16, eo16⟩ := Kd.R_slice HO739.out
      (first | subst eo16 | (injection eo16 with f1_ f2_ f3_; have f4_ := f1_.symm; have f5_ := f3_.symm; clear f1_ f2_ f3_; subst f4_; subst f5_))
      obtain ⟨Ao17, co17, eo17⟩ := Kd.R_slice HO742.out
      (first | subst eo17 | (injection eo17 with f1_ f2_ f3_; have f4_ := f1_.symm; have f5_ := f3_.symm; clear f1_ f2_ f3_; subst f4_; subst f5_))
      refine Kd.N_lit_step (Kd.slice 5 (Kd.int .u8)) _ 22 ?hg (N' := 14) ?hd (xs := ([t731, y734, t737, t740] : List (List Int))) (inner := [.slice Ao14 t731.length co14, .slice Ao15 y734.length co15, .slice Ao16 t737.length co16, .slice Ao17 t740.length co17]) (ok := (fun k_ => k_ ≠ gb730)) (okp := (fun k_ => k_ ≠ gb730)) ?hr ?hp (fun _ hk => hk) ((show ∀ k_, w'.heap.size ≤ k_ → (fun k_ => k_ ≠ gb730) k_ from fun k_ hk => Kd.freshB (g := gb730) (o := .cells #[.int .i64 a0_0, .int .i64 a0_1, .int .i64 a0_2] 100 (0, 0)) (by (with_reducible repeat (first | refine blk_drewN ?_ _ | refine blk_drew ?_ | refine blk_alloc ?_ _)); exact BK730.out) k_ hk) _ (Nat.le_refl _)) (Below.refl _ _) (Nat.le_refl _) (by simp) ?_; (case hd => rfl); (case hg => rfl); (case hr => first | (go_simp; done) | (go_simp; rfl)); (case hp => exact (Reps.one (show Kd.FK (Kd.slice 5 (Kd.int .u8)) _ _ t731 [.slice Ao14 t731.length co14] from (Kd.FK_slice_mk (Kd.R_reads' (Kd.R_mono (ok' := (fun k_ => k_ ≠ gb730)) (Kd.R_types (HO733.out) BK730.out (by decide)) (fun k_ hk => hk.2))).2.1 (Kd.R_F (Kd.R_mono (ok' := (fun k_ => k_ ≠ gb730)) (Kd.R_types (HO733.out) BK730.out (by decide)) (fun k_ hk => hk.2))))) (Reps.one (show Kd.FK (Kd.slice 5 (Kd.int .u8)) _ _ y734 [.slice Ao15 y734.length co15] from (Kd.FK_slice_mk (Kd.R_reads' (Kd.R_mono (ok' := (fun k_ => k_ ≠ gb730)) (Kd.R_types (HO736.out) BK730.out (by decide)) (fun k_ hk => hk.2))).2.1 (Kd.R_F (Kd.R_mono (ok' := (fun k_ => k_ ≠ gb730)) (Kd.R_types (HO736.out) BK730.out (by decide)) (fun k_ hk => hk.2))))) (Reps.one (show Kd.FK (Kd.slice 5 (Kd.int .u8)) _ _ t737 [.slice Ao16 t737.length co16] from (Kd.FK_slice_mk (Kd.R_reads' (Kd.R_mono (ok' := (fun k_ => k_ ≠ gb730)) (Kd.R_types (HO739.out) BK730.out (by decide)) (fun k_ hk => hk.2))).2.1 (Kd.R_F (Kd.R_mono (ok' := (fun k_ => k_ ≠ gb730)) (Kd.R_types (HO739.out) BK730.out (by decide)) (fun k_ hk => hk.2))))) (Reps.one (show Kd.FK (Kd.slice 5 (Kd.int .u8)) _ _ t740 [.slice Ao17 t740.length co17] from (Kd.FK_slice_mk (Kd.R_reads' (Kd.R_mono (ok' := (fun k_ => k_ ≠ gb730)) (Kd.R_types (HO742.out) BK730.out (by decide)) (fun k_ hk => hk.2))).2.1 (Kd.R_F (Kd.R_mono (ok' := (fun k_ => k_ ≠ gb730)) (Kd.R_types (HO742.out) BK730.out (by decide)) (fun k_ hk => hk.2))))) (Reps.none _ _))))))
      intro v744 w18 ho19 hb hg_ hnew_
      clear hg_ hnew_
      (first | rw [← Ny743.out] at ho19 | (simp only [Int.reduceToNat] at ho19; rw [← Ny743.out] at ho19))
      have n0_ := Aside0.mk (Kd.N_lower ho19 (below_size (by repeat (first | (with_reducible first | exact HB.out | apply below_alloc | apply pw_below_drewN | apply below_drew1 | refine below_set ?_ GE730.out) | exact HB.out))))
      have n1_ := Aside0.mk (blk_below (g := gb730) (o := .cells #[.int .i64 a0_0, .int .i64 a0_1, .int .i64 a0_2] 100 (0, 0)) (by (with_reducible repeat (first | refine blk_drewN ?_ _ | refine blk_drew ?_ | refine blk_alloc ?_ _)); exact BK730.out) hb)
      have n2_ := Aside0.mk (below_step (by repeat (first | (with_reducible first | exact HB.out | apply below_alloc | apply pw_below_drewN | apply below_drew1 | refine below_set ?_ GE730.out) | exact HB.out)) hb)
      clear BK730
      clear HB
      clear HO733
      clear HO736
      clear HO739
      clear HO742
      have HO745 := n0_
      have BK730 := n1_
      have HB := n2_
      clear n0_ n1_ n2_
      clear hb ho19
      refine hK.out _ _ ⟨.slice Ao14 t731.length co14, .slice Ao15 y734.length co15, .slice Ao16 t737.length co16, .slice Ao17 t740.length co17, v744, v747, m13_, (by rw [ha.out]; exact putSel_upk 8 hb_ rfl rfl rfl), (by (with_reducible repeat (first | refine blk_drewN ?_ _ | refine blk_drew ?_ | refine blk_alloc ?_ _)); exact BK730.out), (by repeat (first | (with_reducible first | exact HB.out | apply below_alloc | apply pw_below_drewN | apply below_drew1 | refine below_set ?_ GE730.out) | exact HB.out)), fun _ h1_ => absurd ((up_self b 11).symm.trans h1_) (by decide), fun _ h1_ => absurd ((up_self b 11).symm.trans h1_) (by decide), fun _ h1_ => absurd ((up_self b 11).symm.trans h1_) (by decide), fun _ h1_ => absurd ((up_self b 11).symm.trans h1_) (by decide), fun _ => (by (with_reducible repeat (first | apply Kd.N_alloc | apply Kd.N_drewN | apply Kd.N_drew)); exact HO745.out), fun h0_ => absurd ((hoff 12 (by kernel_rfl)).symm.trans h0_) (by decide), fun h0_ => absurd ((hoff 13 (by kernel_rfl)).symm.trans h0_) (by decide)⟩
    refine steps_cons ?_ ?_
    · rintro b a w' ⟨v732, v735, v738, v741, v744, v747, m13_, ha, Q_BK730, Q_HB, Q_HO733, Q_HO736, Q_HO739, Q_HO742, Q_HO745, Q_HO748, Q_X13_⟩ hb_ hon hoff
      refine ⟨_, rfl, fun K hK => ?_⟩
      have e14 : a.tmps[14]? = some (v744) := by rw [ha]; exact putSel_on (e := (11, 14, v744)) 8 rfl rfl (hon 11 (by kernel_rfl)) rfl
      replace ha := Aside0.mk ha
      have BK730 := Aside0.mk Q_BK730
      have HB := Aside0.mk Q_HB
      have HO745 := Aside0.mk (Q_HO745 (hon 11 (by kernel_rfl)))
      obtain ⟨Ao20, co20, eo20⟩ := Kd.N_slice HO745.out
      (first | subst eo20 | (injection eo20 with f1_ f2_ f3_; have f4_ := f1_.symm; have f5_ := f3_.symm; clear f1_ f2_ f3_; subst f4_; subst f5_))
      refine goes_ Try.func153 (by kernel_rfl) rfl #[.slice Ao20 y743.length co20, .slice none 0 0] (by rfl) rfl rfl (by first | (simp only [List.map_toArray, List.map_cons, List.map_nil, Act.eval, Array.getD_eq_getD_getElem?, Option.getD_some, e14]; done) | (simp only [List.map_toArray, List.map_cons, List.map_nil, Act.eval, Array.getD_eq_getD_getElem?, Option.getD_some, e14]; rfl)) ?_
      refine (bytes_Join.calls _ _ y743 _ _ ([] : List Int) t746 _ ?side1 ?side2 ?side3 ?side4 A5.out).mono ?_
      (case side1 => repeat (first | exact (Kd.N_reads' HO745.out).2.2 | (with_reducible refine Kd.C_alloc ?_ _) | (with_reducible refine Kd.C_drewN ?_ _) | (with_reducible refine Kd.C_drew ?_)))
      (case side2 => exact (Kd.N_reads' HO745.out).2.1)
      (case side3 => exact Kd.C_nil _ _)
      (case side4 => exact Nat.le_refl _)
      rintro e w21 ⟨v747, rfl, ho0, hb⟩
      refine ⟨_, rfl, ?_⟩
      have n0_ := Aside0.mk (Kd.N_below HO745.out hb)
      have n1_ := Aside0.mk (Kd.V_mono (ok' := fun k_ => w.heap.size ≤ k_) ho0 (fun k_ hk_ => Nat.le_trans HB.out.size hk_))
      have n2_ := Aside0.mk (blk_below (g := gb730) (o := .cells #[.int .i64 a0_0, .int .i64 a0_1, .int .i64 a0_2] 100 (0, 0)) (by (with_reducible repeat (first | refine blk_drewN ?_ _ | refine blk_drew ?_ | refine blk_alloc ?_ _)); exact BK730.out) hb)
      have n3_ := Aside0.mk (below_step (by repeat (first | (with_reducible first | exact HB.out | apply below_alloc | apply pw_below_drewN | apply below_drew1 | refine below_set ?_ GE730.out) | exact HB.out)) hb)
      clear HO745
      clear BK730
      clear HB
      have HO745 := n0_
      have HO748 := n1_
      have BK730 := n2_
      have HB := n3_
      clear n0_ n1_ n2_ n3_
      (try clear hb)
      (try clear hb2)
      (try clear hk)
      (try clear hi)
      (try clear ho0)
      refine hK.out _ _ ⟨v732, v735, v738, v741, .slice Ao20 y743.length co20, v747, m13_, (by rw [ha.out]; exact putSel_upk 9 hb_ rfl rfl rfl), (by (with_reducible repeat (first | refine blk_drewN ?_ _ | refine blk_drew ?_ | refine blk_alloc ?_ _)); exact BK730.out), (by repeat (first | (with_reducible first | exact HB.out | apply below_alloc | apply pw_below_drewN | apply below_drew1 | refine below_set ?_ GE730.out) | exact HB.out)), fun _ h1_ => absurd ((hon 11 (by kernel_rfl)).symm.trans h1_) (by decide), fun _ h1_ => absurd ((hon 11 (by kernel_rfl)).symm.trans h1_) (by decide), fun _ h1_ => absurd ((hon 11 (by kernel_rfl)).symm.trans h1_) (by decide), fun _ h1_ => absurd ((hon 11 (by kernel_rfl)).symm.trans h1_) (by decide), fun _ => (by (with_reducible repeat (first | apply Kd.N_alloc | apply Kd.N_drewN | apply Kd.N_drew)); exact HO745.out), fun _ => HO748.out, fun h0_ => absurd ((hoff 13 (by kernel_rfl)).symm.trans h0_) (by decide)⟩
    refine steps_cons ?_ ?_
    · rintro b a w' ⟨v732, v735, v738, v741, v744, v747, m13_, ha, Q_BK730, Q_HB, Q_HO733, Q_HO736, Q_HO739, Q_HO742, Q_HO745, Q_HO748, Q_X13_⟩ hb_ hon hoff
      refine ⟨_, rfl, fun K hK => ?_⟩
      have e15 : a.tmps[15]? = some (v747) := by rw [ha]; exact putSel_on (e := (12, 15, v747)) 9 rfl rfl (hon 12 (by kernel_rfl)) rfl
      replace ha := Aside0.mk ha
      have BK730 := Aside0.mk Q_BK730
      have HB := Aside0.mk Q_HB
      have HO745 := Aside0.mk (Q_HO745 (hon 11 (by kernel_rfl)))
      have HO748 := Aside0.mk (Q_HO748 (hon 12 (by kernel_rfl)))
      refine value_ (w1 := w') (v := v747) (by rfl) rfl ?_ ?_
      · go_simp
        (try simp only [i64_w])
        try rfl
      refine hK.out _ _ ⟨v732, v735, v738, v741, v744, v747, (v747), (by rw [ha.out]; exact putSel_upk 10 hb_ rfl rfl rfl), Q_BK730, Q_HB, fun _ h1_ => absurd ((hon 11 (by kernel_rfl)).symm.trans h1_) (by decide), fun _ h1_ => absurd ((hon 11 (by kernel_rfl)).symm.trans h1_) (by decide), fun _ h1_ => absurd ((hon 11 (by kernel_rfl)).symm.trans h1_) (by decide), fun _ h1_ => absurd ((hon 11 (by kernel_rfl)).symm.trans h1_) (by decide), Q_HO745, Q_HO748, fun _ => rfl⟩
    exact steps_nil
  rintro b a w21 hall ⟨v732, v735, v738, v741, v744, v747, m13_, ha, Q_BK730, Q_HB, Q_HO733, Q_HO736, Q_HO739, Q_HO742, Q_HO745, Q_HO748, Q_X13_⟩
  clear BK730 HB
  have hb1_ := hall 1 (by kernel_rfl)
  have hb2_ := hall 2 (by kernel_rfl)
  have hb4_ := hall 4 (by kernel_rfl)
  have hb5_ := hall 5 (by kernel_rfl)
  have hb6_ := hall 6 (by kernel_rfl)
  have hb8_ := hall 8 (by kernel_rfl)
  have hb9_ := hall 9 (by kernel_rfl)
  have hb10_ := hall 10 (by kernel_rfl)
  have hb11_ := hall 11 (by kernel_rfl)
  have hb12_ := hall 12 (by kernel_rfl)
  have hb13_ := hall 13 (by kernel_rfl)
  subst ha
  obtain rfl := Q_X13_ hb13_
  simp only [putSel, hb1_, hb2_, hb4_, hb5_, hb6_, hb8_, hb9_, hb10_, hb11_, hb12_, hb13_, if_true, Act.put, List.setIfInBounds_toArray, List.set_cons_zero, List.set_cons_succ]
  have BK730 := Aside0.mk Q_BK730
  clear Q_BK730
  have HB := Aside0.mk Q_HB
  clear Q_HB
  clear Q_HO733
  clear Q_HO736
  clear Q_HO739
  clear Q_HO742
  have HO745 := Aside0.mk (Q_HO745 hb11_)
  clear Q_HO745
  have HO748 := Aside0.mk (Q_HO748 hb12_)
  clear Q_HO748
  clear hall hb1_ hb2_ hb4_ hb5_ hb6_ hb8_ hb9_ hb10_ hb11_ hb12_ hb13_
  try go_wp2
  go_ret
  exact ⟨_, by first | rfl | (simp [errW_none, errW_some] <;> rfl) | (simp [*, errW_none, errW_some] <;> rfl), HO748.out, by repeat (first | (with_reducible first | exact HB.out | apply below_alloc | apply pw_below_drewN | apply below_drew1 | refine below_set ?_ GE730.out) | exact HB.out)⟩

end Go.Proofs.Ytlopmffdebhpfaa.G

/-! ## PageB -/
namespace Go.Proofs.Ytlopmffdebhpfaa.G
open Go.RowKit Go.Proofs.YtlopmffdebhpfaaW.PrintWords Go.Proofs.YtlopmffdebhpfaaW.PrintLast Go.Proofs.YtlopmffdebhpfaaW.PrintMore
set_option linter.unusedVariables false
set_option linter.unusedSimpArgs false

/-- The page's bytes: the head at 4, the body at 16, the checksum of all behind it at 0. -/
def pageRest (hb l3 : List Int) : List Int := spl (spl (List.replicate 256 0) 4 hb) 16 l3
def impl_page_bytes.f (k : Nat) (a0 : Int) (a1 : Int) (a2 : Int) (l3 : List Int) : Option (List Int) :=
  (impl_head_bytes.f k a0 a1 a2).bind fun hb => if hb.length ≤ 252 then (if l3.length ≤ 240 then ((impl_Crc32.f k ((pageRest hb l3).drop 4)).bind fun c => ((impl_low.f k c 4).bind fun lb => (if lb.length ≤ 256 then (some (spl (pageRest hb l3) 0 lb)) else none))) else none) else none
theorem impl_page_bytes.mono : ∀ a0 a1 a2 a3 k, LeO (impl_page_bytes.f k a0 a1 a2 a3) (impl_page_bytes.f (k + 1) a0 a1 a2 a3) := by
  intro a0 a1 a2 a3 k
  unfold impl_page_bytes.f
  refine LeO.bind (impl_head_bytes.mono _ _ _ _) (fun _ => LeO.ite (LeO.ite (LeO.bind (impl_Crc32.mono _ _) (fun _ => LeO.bind (impl_low.mono _ _ _) (fun _ => LeO.refl _))) (LeO.refl _)) (LeO.refl _))
theorem pageRest_length (hb l3 : List Int) (h1 : hb.length ≤ 252) (h2 : l3.length ≤ 240) : (pageRest hb l3).length = 256 := by
  unfold pageRest
  have h0 : (List.replicate 256 (0 : Int)).length = 256 := List.length_replicate ..
  have h3 := spl_length (List.replicate 256 (0 : Int)) 4 hb (by omega)
  rw [spl_length _ _ _ (by omega), h3, h0]

def impl_page_bytes.T2 : Bool × List (List Nat × List Nat) := (true, [([], []), ([0], [0]), ([], []), ([2], [2]), ([3], [3]), ([1, 4, 4], [1, 4])])
def impl_page_bytes.B2 : List Nat := [0, 1, 0, 4, 12, 31]
theorem impl_page_bytes.tab2 : rtab .any (opsOf Try.f80 2) = impl_page_bytes.T2 := by kernel_rfl
theorem impl_page_bytes.bits2 : waitsOk impl_page_bytes.T2.2 impl_page_bytes.B2 = true := by kernel_rfl
def impl_page_bytes.T3 : Bool × List (List Nat × List Nat) := (true, [([], []), ([0], [0]), ([], []), ([2], [2]), ([1, 3], [1, 3])])
def impl_page_bytes.B3 : List Nat := [0, 1, 0, 4, 15]
theorem impl_page_bytes.tab3 : rtab .any (opsOf Try.f80 3) = impl_page_bytes.T3 := by kernel_rfl
theorem impl_page_bytes.bits3 : waitsOk impl_page_bytes.T3.2 impl_page_bytes.B3 = true := by kernel_rfl
set_option maxHeartbeats 4000000 in
set_option maxRecDepth 100000 in
theorem impl_page_bytes.calls (k : Nat) (a0 a1 a2 : Int) (A3 : Option Addr) (c3 : Nat) (l3 : List Int) (r : List Int) (w : World) (hr3 : Kd.C (Kd.int .u8) w A3 l3.length l3) (hc3 : l3.length ≤ c3) (h : impl_page_bytes.f k a0 a1 a2 l3 = some r) :
    Calls Try.prog 80 #[.agg #[.int .i64 a0, .int .i64 a1, .int .i64 a2, .slice A3 l3.length c3]] w fun e w' => ∃ v0_ : Value, e = .returned (v0_) ∧ Kd.R (Kd.int .u8) 5 w' w.heap.size (fun _ => True) v0_ r ∧ Below w.heap.size w w' := by
  have hu102 := Try.underlying102
  have hu100 := Try.underlying100
  unfold impl_page_bytes.f at h
  obtain ⟨hb, H1, h⟩ := Option.bind_eq_some_iff.mp h
  split at h
  case isFalse => cases h
  rename_i hb252
  split at h
  case isFalse => cases h
  rename_i hl240
  obtain ⟨crc, H2, h⟩ := Option.bind_eq_some_iff.mp h
  obtain ⟨lb, H3, h⟩ := Option.bind_eq_some_iff.mp h
  split at h
  case isFalse => cases h
  rename_i hlb
  obtain rfl := Option.some.inj h
  clear h
  have A1 := Aside0.mk H1
  have A2 := Aside0.mk H2
  have A3' := Aside0.mk H3
  clear H1 H2 H3
  have HR3 := Aside0.mk hr3
  have HC3 := Aside0.mk hc3
  clear hr3 hc3
  have L1 := Aside0.mk hb252
  have L2 := Aside0.mk hl240
  have L3 := Aside0.mk hlb
  clear hb252 hl240 hlb
  obtain ⟨i0, hi0, _, hsz0, _⟩ := info_parts info5
  have HI := Aside0.mk hi0
  have HZ := Aside0.mk hsz0
  clear hi0 hsz0
  go_enter Try.func80, Try.ntmps80
  go_wp2_with (first | ((with_reducible refine gate_dst (N := 1) rfl ?_); refine box_event ?hg (N := 1) ?hd (cs := #[.int .i64 a0, .int .i64 a1, .int .i64 a2, .slice A3 l3.length c3]) (t := 102) ?hr ?_; (case hd => rfl); (case hg => rfl); (case hr => first | (go_simp; done) | (go_simp; rfl)); intro gb hgb w6 hbox hbel; have BK := Aside0.mk hbox; have HB := Aside0.mk hbel; have GB := Aside0.mk hgb; clear hbox hbel hgb) | ((with_reducible refine gate_dst (N := 4) rfl ?_); refine Kd.R_make (Kd.int .u8) _ 5 rfl (N := 4) rfl 22 _ _ rfl 256 rfl rfl Try.underlying22 (.int .u8 0) 1 info5 rfl (by decide) (by omega) 0 (ok := fun _ => True) (okp := fun _ => True) rfl (fun _ hk => hk) trivial (by decide) (by decide) (Below.refl _ _) (Nat.le_refl _) ?_; intro v7 w7 ho7 hb7 hg7 hn7; have HM := Aside0.mk ho7; have HM2 := Aside0.mk hb7; clear ho7 hb7 hg7 hn7; obtain ⟨g, cap, ev, _, _, _⟩ := Kd.R_form HM.out (by decide); subst ev; rw [show (List.replicate (256 : Int).toNat (0 : Int)).length = 256 from rfl] at HM ⊢))
  have HGB : Aside0 (w6.heap.size ≤ g) := ⟨Kd.R_base HM.out g rfl⟩
  have HCAP : Aside0 (256 ≤ cap) := ⟨(Kd.R_reads' HM.out).2.1⟩
  have HSZ : Aside0 (w.heap.size ≤ w6.heap.size) := ⟨HB.out.size⟩
  have HGW : Aside0 (w.heap.size ≤ g) := ⟨Nat.le_trans HB.out.size HGB.out⟩
  have HB7 := Aside0.mk (below_step HB.out HM2.out)
  have BK7 := Aside0.mk (blk_below BK.out HM2.out)
  have hgne : Aside0 (gb ≠ g) := ⟨by have := HGB.out; have := blk_lt BK.out; omega⟩
  clear HB BK HM2
  have hsl4 : ∀ W, (Instr.slice 22 (.slice (some ⟨g, 0, none⟩) 256 cap) (some (.int .i64 4)) none none).run Try.prog W = .ok (.slice (some ⟨g, 4, none⟩) 252 (cap - 4)) W := cut_own 22 5 Try.underlying22 HI.out HZ.out g 256 cap 4 (by decide) (by have := HCAP.out; omega)
  have hsl16 : ∀ W, (Instr.slice 22 (.slice (some ⟨g, 0, none⟩) 256 cap) (some (.int .i64 16)) none none).run Try.prog W = .ok (.slice (some ⟨g, 16, none⟩) 240 (cap - 16)) W := cut_own 22 5 Try.underlying22 HI.out HZ.out g 256 cap 16 (by decide) (by have := HCAP.out; omega)
  refine start_ (n := 6) (S := fun w' => w'.heap[gb]? = some (.cells #[.int .i64 a0, .int .i64 a1, .int .i64 a2, .slice A3 l3.length c3] 102 (0, 0))) (ds := []) #[false, false, false, false, false, false] (by kernel_rfl) rfl rfl (BK7.out) (fun hHeld => ?_); refine with_tabW impl_page_bytes.tab2 impl_page_bytes.bits2 (fun HT_ HW_ => ?_)
  have HM8 : Aside0 (Kd.R (Kd.int .u8) 5 w7.drew w6.heap.size (fun _ => True) (.slice (some ⟨g, 0, none⟩) 256 cap) (List.replicate (256 : Int).toNat 0)) := ⟨Kd.R_drew HM.out⟩
  have HB8 : Aside0 (Below w.heap.size w w7.drew) := ⟨below_drew1 HB7.out⟩
  clear HM HB7 BK7
  generalize w7.drew = w8 at HM8 HB8 hHeld ⊢
  refine pure_ (i := 0) (N := some 5) (v := ?_) (a' := ?_) #[true, false, false, false, false, false] rfl rfl (any_of HT_.out (by kernel_rfl)) (fun _ _ _ h => h) (Or.inl ⟨by rfl, ?_⟩) ?_ ?_
  rotate_left
  · intro w'
    go_simp
    with_reducible rfl
  rotate_left
  · simp only [Act.put, List.setIfInBounds_toArray, List.set_cons_zero, List.set_cons_succ, i64_w, i32_w]
    rfl
  refine pure_ (i := 1) (N := some 6) (v := ?_) (a' := ?_) #[true, true, false, false, false, false] rfl rfl (any_of HT_.out (by kernel_rfl)) (fun _ _ _ h => h) (Or.inl ⟨by rfl, ?_⟩) ?_ ?_
  rotate_left
  · intro w'
    go_simp
    with_reducible rfl
  rotate_left
  · simp only [Act.put, List.setIfInBounds_toArray, List.set_cons_zero, List.set_cons_succ, i64_w, i32_w]
    rfl
  refine pure_ (i := 2) (N := some 7) (v := ?_) (a' := ?_) #[true, true, true, false, false, false] rfl rfl (any_of HT_.out (by kernel_rfl)) (fun _ _ _ h => h) (Or.inl ⟨by rfl, ?_⟩) ?_ ?_
  rotate_left
  · intro w'
    go_simp
    with_reducible rfl
  rotate_left
  · simp only [Act.put, List.setIfInBounds_toArray, List.set_cons_zero, List.set_cons_succ, i64_w, i32_w]
    rfl
  refine take_ (i := 3) (N := some 8) (v := ?_) (a' := ?_) #[true, true, true, true, false, false] rfl rfl (take_ofW HT_.out HW_.out (by kernel_rfl)) (fun _ _ _ h => h) (Or.inl ⟨by rfl, ?_⟩) hHeld ?_ ?_
  rotate_left
  · intro w' s0
    have hc0_ : w'.cell? ⟨gb, 0, none⟩ = some (.int .i64 a0) := (blk_cell s0 0).trans rfl
    have hc1_ : w'.cell? ⟨gb, 1, none⟩ = some (.int .i64 a1) := (blk_cell s0 1).trans rfl
    have hc2_ : w'.cell? ⟨gb, 2, none⟩ = some (.int .i64 a2) := (blk_cell s0 2).trans rfl
    clear s0
    go_simp
    with_reducible rfl
  rotate_left
  · simp only [Act.put, List.setIfInBounds_toArray, List.set_cons_zero, List.set_cons_succ, i64_w, i32_w]
    rfl
  refine one_ (i := 4) (N := some 9) #[true, true, true, true, true, false] rfl rfl (one_of HT_.out (by kernel_rfl)) (by decide) (fun K hK => ?_)
  refine goes_ Try.func134 (by kernel_rfl) rfl #[.agg #[.int .i64 a0, .int .i64 a1, .int .i64 a2]] (by rfl) rfl rfl (by first | rfl | (simp only [List.map_toArray, List.map_cons, List.map_nil]; first | done | rfl)) ?_
  refine (impl_head_bytes.calls k a0 a1 a2 hb _ A1.out).mono ?_
  rintro e w9 ⟨v9, rfl, hv9, hb9⟩
  refine ⟨_, rfl, ?_⟩
  have HM9 := Aside0.mk (Kd.R_below HM8.out hb9)
  have HB9 := Aside0.mk (below_step HB8.out hb9)
  have HV9 := Aside0.mk hv9
  have HD9 := Aside0.mk (hb9.block gb (blk_lt hHeld) |>.trans hHeld)
  have HN9 : Aside0 (g < w8.heap.size) := ⟨Kd.R_lt HM8.out g rfl⟩
  clear hHeld hb9 hv9 HM8 HB8
  obtain ⟨A9, c9, ev9⟩ := Kd.V_slice HV9.out
  subst ev9
  refine hK.out _ _ (HD9.out) (fun hHeld => ?_)
  clear hK K
  refine norm_ (a' := ?_) ?_ ?_
  rotate_left
  · show Act.put _ (some 9) _ = _
    simp only [Act.put, List.setIfInBounds_toArray, List.set_cons_zero, List.set_cons_succ, i64_w, i32_w]
    rfl
  refine one_ (i := 5) (N := some 10) #[true, true, true, true, true, true] rfl rfl (one_of HT_.out (by kernel_rfl)) (by decide) (fun K hK => ?_)
  obtain ⟨w10, hrun10, hR10, hG10⟩ := run_copy_at (P := Try.prog) 22 22 3 5 Try.underlying22 (by kernel_rfl) w9 (off := 4) (xs := List.replicate (256 : Int).toNat 0) (ys := hb) (A := A9) (dA := some ⟨g, 4, none⟩) (c := c9) (dc := cap - 4) HM9.out (Kd.V_reads' HV9.out).2.2 (by have := L1.out; show 4 + hb.length ≤ 256; omega) (fun _ => rfl)
  refine copy_step (by rfl) rfl (.tmp 6) (.tmp 9) 22 22 rfl _ _ _ rfl rfl hrun10 ?_
  have HM10 := Aside0.mk hR10
  have HB10 := Aside0.mk (HB9.out.grown hG10 HB9.out.size (by intro q hq; cases hq; exact HGW.out))
  have HD10 := Aside0.mk (blk_grown HD9.out hG10 (by intro e; exact hgne.out (Option.some.inj e)))
  clear HM9 HB9 HD9 HV9 hrun10 hR10 hG10
  refine hK.out _ _ (HD10.out) (fun hHeld => ?_)
  clear hK K
  refine norm_ (a' := ?_) ?_ ?_
  rotate_left
  · show Act.put _ (some 10) _ = _
    simp only [Act.put, List.setIfInBounds_toArray, List.set_cons_zero, List.set_cons_succ, i64_w, i32_w]
    rfl
  refine done_ (done_of HT_.out (by kernel_rfl)) ?_

  try clear hHeld
  go_wp2_with fail
  have hsl16' := hsl16
  refine start_ (n := 5) (S := fun w' => w'.heap[gb]? = some (.cells #[.int .i64 a0, .int .i64 a1, .int .i64 a2, .slice A3 l3.length c3] 102 (0, 0))) (ds := []) #[false, false, false, false, false] (by kernel_rfl) rfl rfl (HD10.out) (fun hHeld => ?_); refine with_tabW impl_page_bytes.tab3 impl_page_bytes.bits3 (fun HT_ HW_ => ?_)
  have HM11 : Aside0 (Kd.R (Kd.int .u8) 5 w10.drew w6.heap.size (fun _ => True) (.slice (some ⟨g, 0, none⟩) 256 cap) (spl (List.replicate (256 : Int).toNat 0) 4 hb)) := ⟨Kd.R_drew HM10.out⟩
  have HB11 : Aside0 (Below w.heap.size w w10.drew) := ⟨below_drew1 HB10.out⟩
  clear HM10 HB10 HD10
  generalize w10.drew = w11 at HM11 HB11 hHeld ⊢
  refine pure_ (i := 0) (N := some 11) (v := ?_) (a' := ?_) #[true, false, false, false, false] rfl rfl (any_of HT_.out (by kernel_rfl)) (fun _ _ _ h => h) (Or.inl ⟨by rfl, ?_⟩) ?_ ?_
  rotate_left
  · intro w'
    go_simp
    with_reducible rfl
  rotate_left
  · simp only [Act.put, List.setIfInBounds_toArray, List.set_cons_zero, List.set_cons_succ, i64_w, i32_w]
    rfl
  refine pure_ (i := 1) (N := some 12) (v := ?_) (a' := ?_) #[true, true, false, false, false] rfl rfl (any_of HT_.out (by kernel_rfl)) (fun _ _ _ h => h) (Or.inl ⟨by rfl, ?_⟩) ?_ ?_
  rotate_left
  · intro w'
    go_simp
    with_reducible rfl
  rotate_left
  · simp only [Act.put, List.setIfInBounds_toArray, List.set_cons_zero, List.set_cons_succ, i64_w, i32_w]
    rfl
  refine pure_ (i := 2) (N := some 13) (v := ?_) (a' := ?_) #[true, true, true, false, false] rfl rfl (any_of HT_.out (by kernel_rfl)) (fun _ _ _ h => h) (Or.inl ⟨by rfl, ?_⟩) ?_ ?_
  rotate_left
  · intro w'
    go_simp
    with_reducible rfl
  rotate_left
  · simp only [Act.put, List.setIfInBounds_toArray, List.set_cons_zero, List.set_cons_succ, i64_w, i32_w]
    rfl
  refine take_ (i := 3) (N := some 14) (v := ?_) (a' := ?_) #[true, true, true, true, false] rfl rfl (take_ofW HT_.out HW_.out (by kernel_rfl)) (fun _ _ _ h => h) (Or.inl ⟨by rfl, ?_⟩) hHeld ?_ ?_
  rotate_left
  · intro w' s0
    have hc3_ : w'.cell? ⟨gb, 3, none⟩ = some (.slice A3 l3.length c3) := (blk_cell s0 3).trans rfl
    clear s0
    go_simp
    with_reducible rfl
  rotate_left
  · simp only [Act.put, List.setIfInBounds_toArray, List.set_cons_zero, List.set_cons_succ, i64_w, i32_w]
    rfl
  refine one_ (i := 4) (N := some 15) #[true, true, true, true, true] rfl rfl (one_of HT_.out (by kernel_rfl)) (by decide) (fun K hK => ?_)
  have hx11 : (spl (List.replicate (256 : Int).toNat 0) 4 hb).length = 256 := spl_length _ _ _ (by have := L1.out; show 4 + hb.length ≤ 256; omega)
  have hm11 := HM11.out
  rw [show (256 : Nat) = (spl (List.replicate (256 : Int).toNat 0) 4 hb).length from hx11.symm] at hm11
  obtain ⟨w12, hrun12, hR12, hG12⟩ := run_copy_at (P := Try.prog) 22 22 3 5 Try.underlying22 (by kernel_rfl) w11 (off := 16) (ys := l3) (A := A3) (dA := some ⟨g, 16, none⟩) (c := c3) (dc := cap - 16) hm11 (Kd.C_below HR3.out HB11.out) (by have := L2.out; rw [hx11]; omega) (fun _ => rfl)
  rw [hx11] at hrun12 hR12
  refine copy_step (by rfl) rfl (.tmp 12) (.tmp 14) 22 22 rfl _ _ _ rfl rfl hrun12 ?_
  have HM12 := Aside0.mk hR12
  have HB12 := Aside0.mk (HB11.out.grown hG12 HB11.out.size (by intro q hq; cases hq; exact HGW.out))
  have HD12 := Aside0.mk (blk_grown hHeld hG12 (by intro e; exact hgne.out (Option.some.inj e)))
  clear HM11 HB11 hHeld hrun12 hR12 hG12 hx11 hm11
  refine hK.out _ _ (HD12.out) (fun hHeld => ?_)
  clear hK K
  refine norm_ (a' := ?_) ?_ ?_
  rotate_left
  · show Act.put _ (some 15) _ = _
    simp only [Act.put, List.setIfInBounds_toArray, List.set_cons_zero, List.set_cons_succ, i64_w, i32_w]
    rfl
  refine done_ (done_of HT_.out (by kernel_rfl)) ?_
  try clear hHeld
  have hPL : Aside0 ((pageRest hb l3).length = 256) := ⟨pageRest_length hb l3 L1.out L2.out⟩
  have HM13 : Aside0 (Kd.R (Kd.int .u8) 5 w12 w6.heap.size (fun _ => True) (.slice (some ⟨g, 0, none⟩) 256 cap) (pageRest hb l3)) := HM12
  clear HM12
  have HC13 : Aside0 (Kd.C (Kd.int .u8) w12 (some ⟨g, 4, none⟩) ((pageRest hb l3).drop 4).length ((pageRest hb l3).drop 4)) := ⟨by
    have h1 := (Kd.R_reads' HM13.out).2.2
    have h2 := Kd.C_drop (c := cap) h1 (m := 4) (by have := hPL.out; omega) (by have := hPL.out; have := HCAP.out; omega)
    rw [if_neg (by have := HCAP.out; omega)] at h2
    exact h2⟩
  have hdl : ((pageRest hb l3).drop 4).length = 252 := by rw [List.length_drop, hPL.out]
  have HDL := Aside0.mk hdl
  clear hdl
  go_wp2_with fail
  have hcr := impl_Crc32.calls k (some ⟨g, 4, none⟩) (cap - 4) ((pageRest hb l3).drop 4) crc w12 HC13.out (by have := HDL.out; have := HCAP.out; omega) A2.out
  rw [HDL.out] at hcr
  refine hcr.mono ?_
  clear hcr
  rintro e w13 ⟨rfl, hd13⟩
  have HM14 := Aside0.mk (Kd.R_below HM13.out hd13.below)
  have HB14 := Aside0.mk (below_step HB12.out hd13.below)
  clear HM13 HC13 HB12 hd13 HD12
  go_wp2_with fail
  refine (impl_low.calls k crc 4 lb w13 A3'.out).mono ?_
  rintro e w14 ⟨v14, rfl, ho14, hb14⟩
  have HM15 := Aside0.mk (Kd.R_below HM14.out hb14)
  have HB15 := Aside0.mk (below_step HB14.out hb14)
  have HO15 := Aside0.mk ho14
  clear HM14 HB14 ho14 hb14
  obtain ⟨A15, c15, ev15⟩ := Kd.R_slice HO15.out
  subst ev15
  obtain ⟨w16, hrun16, hR16, hG16⟩ : ∃ w1, (Builtin.copy_ #[22, 22] 3 #[.slice (some ⟨g, 0, none⟩) 256 cap, .slice A15 lb.length c15]).run Try.prog w14 = .ok (.int .i64 (lb.length : Int)) w1 ∧
      Kd.R (Kd.int .u8) 5 w1 w6.heap.size (fun _ => True) (.slice (some ⟨g, 0, none⟩) 256 cap) (spl (pageRest hb l3) 0 lb) ∧ w14.grownBy w1 (some g) := by
    have hm := HM15.out
    rw [show (256 : Nat) = (pageRest hb l3).length from hPL.out.symm] at hm ⊢
    have hq := run_copy_at (P := Try.prog) 22 22 3 5 Try.underlying22 (by kernel_rfl) w14 (off := 0) (ys := lb) (dc := cap) (c := c15) (dA := some ⟨g, 0, none⟩) hm (Kd.R_reads' HO15.out).2.2 (by have := L3.out; have := hPL.out; omega) (fun _ => rfl)
    rw [Nat.sub_zero] at hq
    with_reducible exact hq
  have HM16 := Aside0.mk hR16
  have HB16 := Aside0.mk (HB15.out.grown hG16 HB15.out.size (by intro q hq; cases hq; exact HGW.out))
  have HRUN := Aside0.mk hrun16
  clear HM15 HB15 HO15 hR16 hG16 hrun16
  go_wp2_with ((with_reducible refine gate_dst (N := 21) rfl ?_); refine copy_list rfl (.tmp 16) (.tmp 20) 22 22 rfl _ _ _ rfl rfl HRUN.out ?_)
  go_ret
  exact ⟨_, rfl, Kd.R_lower HM16.out HSZ.out, HB16.out⟩
end Go.Proofs.Ytlopmffdebhpfaa.G

/-! ## G130 -/
namespace Go.Proofs.Ytlopmffdebhpfaa.G
open Go.RowKit Go.Proofs.YtlopmffdebhpfaaW.PrintWords Go.Proofs.YtlopmffdebhpfaaW.PrintLast Go.Proofs.YtlopmffdebhpfaaW.PrintMore
attribute [local go_sem] max2_int min2_int max_two min_two max_three min_three max_four min_four
set_option linter.unusedVariables false
set_option linter.unusedSimpArgs false

/-! ### impl_numberAt: function 130 -/
def impl_numberAt.l0 : Nat → Int → List Int → Int → Int → Option (Int)
  | 0, _, _, _, _ => none
  | k + 1, x3, x6, x7, x8 => if x8 < x7 then (if 0 ≤ x8 then (if x8 < (x6.length : Int) then (if 0 ≤ (wrap64 (8 * x8)) then (impl_numberAt.l0 k (Go.bits .or .i64 x3 (shl .i64 (wrap64 (rd x6 x8)) (wrap64 (8 * x8)))) x6 x7 (wrap64 (x8 + 1))) else (none)) else (none)) else (none)) else (some x3)
def impl_numberAt.f (k : Nat) (l0 : List Int) : Option (Int) := impl_numberAt.l0 k 0 l0 (l0.length : Int) 0
set_option maxRecDepth 100000 in
theorem impl_numberAt.mono_l : ∀ k, (∀ y0 y1 y2 y3, LeO (impl_numberAt.l0 k y0 y1 y2 y3) (impl_numberAt.l0 (k + 1) y0 y1 y2 y3))
  | 0 => fun _ _ _ _ r h => by simp [impl_numberAt.l0] at h
  | k + 1 => by
    have ih0 := impl_numberAt.mono_l k
    · intro y0 y1 y2 y3
      unfold impl_numberAt.l0
      repeat' first
      | (with_reducible exact ih0 _ _ _ _)
      | (with_reducible exact LeO.refl _)
      | (with_reducible exact LeO.none _)
      | (with_reducible refine LeO.ite ?_ ?_)
      | (with_reducible refine LeO.bind ?_ (fun _ => ?_))
      | exact ih0 _ _ _ _
      | exact LeO.none _
      | refine LeO.ite ?_ ?_
      | refine LeO.bind ?_ (fun _ => ?_)
set_option maxRecDepth 100000 in
theorem impl_numberAt.mono : ∀ a0 k, LeO (impl_numberAt.f k a0) (impl_numberAt.f (k + 1) a0) := by
  intro a0 k
  have ih0 := impl_numberAt.mono_l k
  unfold impl_numberAt.f
  repeat' first
      | (with_reducible exact ih0 _ _ _ _)
      | (with_reducible exact LeO.refl _)
      | (with_reducible exact LeO.none _)
      | (with_reducible refine LeO.ite ?_ ?_)
      | (with_reducible refine LeO.bind ?_ (fun _ => ?_))
      | exact ih0 _ _ _ _
      | exact LeO.none _
      | refine LeO.ite ?_ ?_
      | refine LeO.bind ?_ (fun _ => ?_)
set_option maxHeartbeats 8000000 in
set_option maxRecDepth 100000 in
theorem impl_numberAt.calls (k : Nat) (A0 : Option Addr) (c0 : Nat) (l0 : List Int) (r : Int) (w : World) (hr0 : Kd.C (Kd.int .u8) w A0 l0.length l0) (hc0 : l0.length ≤ c0) (h : impl_numberAt.f k l0 = some r) :
    Calls Try.prog 130 #[.slice A0 l0.length c0] w fun e w' => e = .returned (.int .i64 r) ∧ Drawn0 w w' := by
  have HR0 := Aside0.mk hr0
  have HC0 := Aside0.mk hc0
  clear hr0 hc0
  have H : (impl_numberAt.l0 k 0 l0 (l0.length : Int) 0) = some r := h
  clear h
  have H' := Aside0.mk H
  clear H
  go_enter Try.func130, Try.ntmps130
  go_wp2
  go_loopg [3, 8] k (fun kq v3 v8 w' => ∃ (x3_1 : Int) (x8_1 : Int), v3 = .int .i64 x3_1 ∧ v8 = .int .i64 x8_1 ∧ Aside0 (impl_numberAt.l0 kq x3_1 l0 (l0.length : Int) x8_1 = some r) ∧ Aside0 (kq ≤ k) ∧ Drawn0 w w')
  case atStart => exact ⟨(0), (0), (by first | rfl | (simp; done) | (simp [*]; done)), (by first | rfl | (simp; done) | (simp [*]; done)), H', ⟨Nat.le_refl _⟩, by repeat (first | exact Drawn0.refl _ | apply Drawn0.step)⟩
  case round =>
    clear H'
    try clear c1
    obtain ⟨x3_1, x8_1, rfl, rfl, HA, HK1, ⟨m1, rfl⟩⟩ := hrel
    cases gk with
    | zero => exact absurd HA.out (by simp [impl_numberAt.l0])
    | succ k1 =>
      have H := HA.out
      clear HA
      simp only [impl_numberAt.l0] at H
      by_cases c2 : x8_1 < (l0.length : Int)
      · rw [if_pos c2] at H
        have c2b0 : decide (x8_1 < (l0.length : Int)) = true := decide_eq_true c2
        clear c2
        by_cases c3 : 0 ≤ x8_1
        · rw [if_pos c3] at H
          have c3b0 : decide (0 ≤ x8_1) = true := decide_eq_true c3
          clear c3
          by_cases c4 : x8_1 < (l0.length : Int)
          · rw [if_pos c4] at H
            have c4b0 : decide (x8_1 < (l0.length : Int)) = true := decide_eq_true c4
            clear c4
            obtain ⟨ji5, hji5⟩ : ∃ j_ : Int, (wrap64 (8 * x8_1)) = j_ := ⟨_, rfl⟩
            replace H : (if 0 ≤ (ji5) then (impl_numberAt.l0 k1 (Go.bits .or .i64 x3_1 (shl .i64 (wrap64 (rd l0 x8_1)) (ji5))) l0 (l0.length : Int) (wrap64 (x8_1 + 1))) else (none)) = some r := by first | (rw [hji5] at H; exact H) | (simp only [hji5] at H ⊢; exact H)
            have hji5w : (IntKind.i64.wrap (8 * x8_1)) = ji5 := (i64_w _).trans hji5
            by_cases c6 : 0 ≤ (ji5)
            · rw [if_pos c6] at H
              have c6b0 := eq_true c6
              have c6b1 : decide (0 ≤ (ji5)) = true := decide_eq_true c6
              clear c6
              obtain ⟨ji7, hji7⟩ : ∃ j_ : Int, (shl .i64 (wrap64 (rd l0 x8_1)) (ji5)) = j_ := ⟨_, rfl⟩
              replace H : (impl_numberAt.l0 k1 (Go.bits .or .i64 x3_1 (ji7)) l0 (l0.length : Int) (wrap64 (x8_1 + 1))) = some r := by first | (rw [hji7] at H; exact H) | (simp only [hji7] at H ⊢; exact H)
              have hji7_ : (IntKind.i64.wrap ((wrap64 (rd l0 x8_1)) * 2 ^ min (ji5).toNat 64)) = ji7 := hji7
              have hji7z : (ji5) ≤ 64 → (IntKind.i64.wrap ((wrap64 (rd l0 x8_1)) * 2 ^ (ji5).toNat)) = ji7 := shl_small hji7
              have hji7y : (wrap64 ((wrap64 (rd l0 x8_1)) * 2 ^ min (ji5).toNat 64)) = ji7 := (i64_w _).symm.trans hji7_
              have hji7x : (ji5) ≤ 64 → (wrap64 ((wrap64 (rd l0 x8_1)) * 2 ^ (ji5).toNat)) = ji7 := fun h_ => (i64_w _).symm.trans (hji7z h_)
              have H' := Aside0.mk H
              clear H
              have p450 : 0 ≤ (x8_1 : Int) := of_decide_eq_true (by first | (with_reducible assumption) | assumption)
              have q450 : x8_1 < (l0.length : Int) := of_decide_eq_true (by first | (with_reducible assumption) | assumption)
              obtain ⟨ad450, e450, hx450_0⟩ := Kd.at_int HR0.out x8_1 p450 q450
              cases e450
              replace p450 := eq_true p450
              replace q450 := eq_true q450
              go_wp2
              go_roundg k1
              case measure => have := HK1.out; omega
              case rel => exact ⟨(Go.bits .or .i64 x3_1 (ji7)), (wrap64 (x8_1 + 1)), (by first | rfl | (simp; done) | (simp only [← hji7] <;> (first | rfl | simp)) | (simp [*]; done)), (by first | rfl | (simp; done) | (simp [*]; done)), H', ⟨by have := HK1.out; omega⟩, by repeat (first | exact Drawn0.refl _ | apply Drawn0.step)⟩
            · rw [if_neg c6] at H
              exact absurd H (by simp)
          · rw [if_neg c4] at H
            exact absurd H (by simp)
        · rw [if_neg c3] at H
          exact absurd H (by simp)
      · rw [if_neg c2] at H
        have c2b0 : decide (x8_1 < (l0.length : Int)) = false := decide_eq_false c2
        clear c2
        obtain rfl := Option.some.inj H
        go_wp2
        go_ret
        exact ⟨by first | rfl | (simp; done) | (simp [*]; done), by repeat (first | exact Drawn0.refl _ | apply Drawn0.step)⟩

end Go.Proofs.Ytlopmffdebhpfaa.G

/-! ## G79 -/
namespace Go.Proofs.Ytlopmffdebhpfaa.G
open Go.RowKit Go.Proofs.YtlopmffdebhpfaaW.PrintWords Go.Proofs.YtlopmffdebhpfaaW.PrintLast Go.Proofs.YtlopmffdebhpfaaW.PrintMore
attribute [local go_sem] max2_int min2_int max_two min_two max_three min_three max_four min_four
set_option linter.unusedVariables false
set_option linter.unusedSimpArgs false

/-! ### impl_head_valid: function 79 -/
def impl_head_valid.f (a0_0 : Int) (a0_1 : Int) (a0_2 : Int) : Option (Bool) := if a0_0 ≥ 0 then (if a0_0 ≤ 1023 then (if a0_1 ≥ 1 then (if a0_1 ≤ 4 then (some (decide (a0_2 ≤ 240))) else (some false)) else (some false)) else (some false)) else (some false)
set_option maxHeartbeats 8000000 in
set_option maxRecDepth 100000 in
theorem impl_head_valid.calls (a0_0 : Int) (a0_1 : Int) (a0_2 : Int) (r : Bool) (w : World) (h : impl_head_valid.f a0_0 a0_1 a0_2 = some r) :
    Calls Try.prog 79 #[.agg #[.int .i64 a0_0, .int .i64 a0_1, .int .i64 a0_2]] w fun e w' => e = .returned (.bool r) ∧ Below w.heap.size w w' := by
  have hu100 := Try.underlying100
  have HB := Aside0.mk (Below.refl w.heap.size w)
  have H : (if a0_0 ≥ 0 then (if a0_0 ≤ 1023 then (if a0_1 ≥ 1 then (if a0_1 ≤ 4 then (some (decide (a0_2 ≤ 240))) else (some false)) else (some false)) else (some false)) else (some false)) = some r := h
  clear h
  by_cases c2 : a0_0 ≥ 0
  · rw [if_pos c2] at H
    have c2b0 : decide (0 ≤ a0_0) = true := decide_eq_true c2
    clear c2
    by_cases c3 : a0_0 ≤ 1023
    · rw [if_pos c3] at H
      have c3b0 : decide (a0_0 ≤ 1023) = true := decide_eq_true c3
      clear c3
      by_cases c4 : a0_1 ≥ 1
      · rw [if_pos c4] at H
        have c4b0 : decide (1 ≤ a0_1) = true := decide_eq_true c4
        clear c4
        by_cases c5 : a0_1 ≤ 4
        · rw [if_pos c5] at H
          have c5b0 : decide (a0_1 ≤ 4) = true := decide_eq_true c5
          clear c5
          obtain rfl := Option.some.inj H
          go_enter Try.func79, Try.ntmps79
          go_wp2_with (first | ((with_reducible refine gate_dst (N := 1) rfl ?_); refine box_event ?hg (N := 1) ?hd (cs := #[.int .i64 a0_0, .int .i64 a0_1, .int .i64 a0_2]) (t := 100) ?hr ?_; (case hd => rfl); (case hg => rfl); (case hr => first | (go_simp; done) | (go_simp; rfl)); intro gb729 hg w6 hbox hb; have n0_ := Aside0.mk (below_step (by repeat (first | (with_reducible first | exact HB.out | apply below_alloc | apply pw_below_drewN | apply below_drew1) | exact HB.out)) hb); have n1_ := Aside0.mk (hbox); have n2_ := Aside0.mk ((by rw [hg]; exact (below_size (by repeat (first | (with_reducible first | exact HB.out | apply below_alloc | apply pw_below_drewN | apply below_drew1) | exact HB.out))) : w.heap.size ≤ gb729)); have n3_ := Aside0.mk ((by rw [hg]; exact (below_size (by repeat (first | (with_reducible first | exact HB.out | apply below_alloc | apply pw_below_drewN | apply below_drew1) | exact HB.out))) : w.heap.size ≤ gb729)); clear HB; have HB := n0_; have BK729 := n1_; have GW729 := n2_; have GE729 := n3_; clear n0_ n1_ n2_ n3_; clear hb hbox hg; have hcz7_0 : w6.cell? ⟨gb729, 0, none⟩ = some (.int .i64 a0_0) := (blk_cell BK729.out 0).trans rfl; have hcz7_1 : w6.cell? ⟨gb729, 1, none⟩ = some (.int .i64 a0_1) := (blk_cell BK729.out 1).trans rfl; have hcz7_2 : w6.cell? ⟨gb729, 2, none⟩ = some (.int .i64 a0_2) := (blk_cell BK729.out 2).trans rfl; have hfz7_0 := blk_frozen BK729.out 0; have hfz7_1 := blk_frozen BK729.out 1; have hfz7_2 := blk_frozen BK729.out 2))
          go_ret
          exact ⟨by first | rfl | (simp [errW_none, errW_some] <;> rfl) | (simp [*, errW_none, errW_some] <;> rfl), by repeat (first | (with_reducible first | exact HB.out | apply below_alloc | apply pw_below_drewN | apply below_drew1 | refine below_set ?_ GE729.out) | exact HB.out)⟩
        · rw [if_neg c5] at H
          have c5b0 : decide (a0_1 ≤ 4) = false := decide_eq_false c5
          clear c5
          obtain rfl := Option.some.inj H
          go_enter Try.func79, Try.ntmps79
          go_wp2_with (first | ((with_reducible refine gate_dst (N := 1) rfl ?_); refine box_event ?hg (N := 1) ?hd (cs := #[.int .i64 a0_0, .int .i64 a0_1, .int .i64 a0_2]) (t := 100) ?hr ?_; (case hd => rfl); (case hg => rfl); (case hr => first | (go_simp; done) | (go_simp; rfl)); intro gb729 hg w8 hbox hb; have n0_ := Aside0.mk (below_step (by repeat (first | (with_reducible first | exact HB.out | apply below_alloc | apply pw_below_drewN | apply below_drew1) | exact HB.out)) hb); have n1_ := Aside0.mk (hbox); have n2_ := Aside0.mk ((by rw [hg]; exact (below_size (by repeat (first | (with_reducible first | exact HB.out | apply below_alloc | apply pw_below_drewN | apply below_drew1) | exact HB.out))) : w.heap.size ≤ gb729)); have n3_ := Aside0.mk ((by rw [hg]; exact (below_size (by repeat (first | (with_reducible first | exact HB.out | apply below_alloc | apply pw_below_drewN | apply below_drew1) | exact HB.out))) : w.heap.size ≤ gb729)); clear HB; have HB := n0_; have BK729 := n1_; have GW729 := n2_; have GE729 := n3_; clear n0_ n1_ n2_ n3_; clear hb hbox hg; have hcz9_0 : w8.cell? ⟨gb729, 0, none⟩ = some (.int .i64 a0_0) := (blk_cell BK729.out 0).trans rfl; have hcz9_1 : w8.cell? ⟨gb729, 1, none⟩ = some (.int .i64 a0_1) := (blk_cell BK729.out 1).trans rfl; have hcz9_2 : w8.cell? ⟨gb729, 2, none⟩ = some (.int .i64 a0_2) := (blk_cell BK729.out 2).trans rfl; have hfz9_0 := blk_frozen BK729.out 0; have hfz9_1 := blk_frozen BK729.out 1; have hfz9_2 := blk_frozen BK729.out 2))
          go_ret
          exact ⟨by first | rfl | (simp [errW_none, errW_some] <;> rfl) | (simp [*, errW_none, errW_some] <;> rfl), by repeat (first | (with_reducible first | exact HB.out | apply below_alloc | apply pw_below_drewN | apply below_drew1 | refine below_set ?_ GE729.out) | exact HB.out)⟩
      · rw [if_neg c4] at H
        have c4b0 : decide (1 ≤ a0_1) = false := decide_eq_false c4
        clear c4
        obtain rfl := Option.some.inj H
        go_enter Try.func79, Try.ntmps79
        go_wp2_with (first | ((with_reducible refine gate_dst (N := 1) rfl ?_); refine box_event ?hg (N := 1) ?hd (cs := #[.int .i64 a0_0, .int .i64 a0_1, .int .i64 a0_2]) (t := 100) ?hr ?_; (case hd => rfl); (case hg => rfl); (case hr => first | (go_simp; done) | (go_simp; rfl)); intro gb729 hg w10 hbox hb; have n0_ := Aside0.mk (below_step (by repeat (first | (with_reducible first | exact HB.out | apply below_alloc | apply pw_below_drewN | apply below_drew1) | exact HB.out)) hb); have n1_ := Aside0.mk (hbox); have n2_ := Aside0.mk ((by rw [hg]; exact (below_size (by repeat (first | (with_reducible first | exact HB.out | apply below_alloc | apply pw_below_drewN | apply below_drew1) | exact HB.out))) : w.heap.size ≤ gb729)); have n3_ := Aside0.mk ((by rw [hg]; exact (below_size (by repeat (first | (with_reducible first | exact HB.out | apply below_alloc | apply pw_below_drewN | apply below_drew1) | exact HB.out))) : w.heap.size ≤ gb729)); clear HB; have HB := n0_; have BK729 := n1_; have GW729 := n2_; have GE729 := n3_; clear n0_ n1_ n2_ n3_; clear hb hbox hg; have hcz11_0 : w10.cell? ⟨gb729, 0, none⟩ = some (.int .i64 a0_0) := (blk_cell BK729.out 0).trans rfl; have hcz11_1 : w10.cell? ⟨gb729, 1, none⟩ = some (.int .i64 a0_1) := (blk_cell BK729.out 1).trans rfl; have hcz11_2 : w10.cell? ⟨gb729, 2, none⟩ = some (.int .i64 a0_2) := (blk_cell BK729.out 2).trans rfl; have hfz11_0 := blk_frozen BK729.out 0; have hfz11_1 := blk_frozen BK729.out 1; have hfz11_2 := blk_frozen BK729.out 2))
        go_ret
        exact ⟨by first | rfl | (simp [errW_none, errW_some] <;> rfl) | (simp [*, errW_none, errW_some] <;> rfl), by repeat (first | (with_reducible first | exact HB.out | apply below_alloc | apply pw_below_drewN | apply below_drew1 | refine below_set ?_ GE729.out) | exact HB.out)⟩
    · rw [if_neg c3] at H
      have c3b0 : decide (a0_0 ≤ 1023) = false := decide_eq_false c3
      clear c3
      obtain rfl := Option.some.inj H
      go_enter Try.func79, Try.ntmps79
      go_wp2_with (first | ((with_reducible refine gate_dst (N := 1) rfl ?_); refine box_event ?hg (N := 1) ?hd (cs := #[.int .i64 a0_0, .int .i64 a0_1, .int .i64 a0_2]) (t := 100) ?hr ?_; (case hd => rfl); (case hg => rfl); (case hr => first | (go_simp; done) | (go_simp; rfl)); intro gb729 hg w12 hbox hb; have n0_ := Aside0.mk (below_step (by repeat (first | (with_reducible first | exact HB.out | apply below_alloc | apply pw_below_drewN | apply below_drew1) | exact HB.out)) hb); have n1_ := Aside0.mk (hbox); have n2_ := Aside0.mk ((by rw [hg]; exact (below_size (by repeat (first | (with_reducible first | exact HB.out | apply below_alloc | apply pw_below_drewN | apply below_drew1) | exact HB.out))) : w.heap.size ≤ gb729)); have n3_ := Aside0.mk ((by rw [hg]; exact (below_size (by repeat (first | (with_reducible first | exact HB.out | apply below_alloc | apply pw_below_drewN | apply below_drew1) | exact HB.out))) : w.heap.size ≤ gb729)); clear HB; have HB := n0_; have BK729 := n1_; have GW729 := n2_; have GE729 := n3_; clear n0_ n1_ n2_ n3_; clear hb hbox hg; have hcz13_0 : w12.cell? ⟨gb729, 0, none⟩ = some (.int .i64 a0_0) := (blk_cell BK729.out 0).trans rfl; have hcz13_1 : w12.cell? ⟨gb729, 1, none⟩ = some (.int .i64 a0_1) := (blk_cell BK729.out 1).trans rfl; have hcz13_2 : w12.cell? ⟨gb729, 2, none⟩ = some (.int .i64 a0_2) := (blk_cell BK729.out 2).trans rfl; have hfz13_0 := blk_frozen BK729.out 0; have hfz13_1 := blk_frozen BK729.out 1; have hfz13_2 := blk_frozen BK729.out 2))
      go_ret
      exact ⟨by first | rfl | (simp [errW_none, errW_some] <;> rfl) | (simp [*, errW_none, errW_some] <;> rfl), by repeat (first | (with_reducible first | exact HB.out | apply below_alloc | apply pw_below_drewN | apply below_drew1 | refine below_set ?_ GE729.out) | exact HB.out)⟩
  · rw [if_neg c2] at H
    have c2b0 : decide (0 ≤ a0_0) = false := decide_eq_false c2
    clear c2
    obtain rfl := Option.some.inj H
    go_enter Try.func79, Try.ntmps79
    go_wp2_with (first | ((with_reducible refine gate_dst (N := 1) rfl ?_); refine box_event ?hg (N := 1) ?hd (cs := #[.int .i64 a0_0, .int .i64 a0_1, .int .i64 a0_2]) (t := 100) ?hr ?_; (case hd => rfl); (case hg => rfl); (case hr => first | (go_simp; done) | (go_simp; rfl)); intro gb729 hg w14 hbox hb; have n0_ := Aside0.mk (below_step (by repeat (first | (with_reducible first | exact HB.out | apply below_alloc | apply pw_below_drewN | apply below_drew1) | exact HB.out)) hb); have n1_ := Aside0.mk (hbox); have n2_ := Aside0.mk ((by rw [hg]; exact (below_size (by repeat (first | (with_reducible first | exact HB.out | apply below_alloc | apply pw_below_drewN | apply below_drew1) | exact HB.out))) : w.heap.size ≤ gb729)); have n3_ := Aside0.mk ((by rw [hg]; exact (below_size (by repeat (first | (with_reducible first | exact HB.out | apply below_alloc | apply pw_below_drewN | apply below_drew1) | exact HB.out))) : w.heap.size ≤ gb729)); clear HB; have HB := n0_; have BK729 := n1_; have GW729 := n2_; have GE729 := n3_; clear n0_ n1_ n2_ n3_; clear hb hbox hg; have hcz15_0 : w14.cell? ⟨gb729, 0, none⟩ = some (.int .i64 a0_0) := (blk_cell BK729.out 0).trans rfl; have hcz15_1 : w14.cell? ⟨gb729, 1, none⟩ = some (.int .i64 a0_1) := (blk_cell BK729.out 1).trans rfl; have hcz15_2 : w14.cell? ⟨gb729, 2, none⟩ = some (.int .i64 a0_2) := (blk_cell BK729.out 2).trans rfl; have hfz15_0 := blk_frozen BK729.out 0; have hfz15_1 := blk_frozen BK729.out 1; have hfz15_2 := blk_frozen BK729.out 2))
    go_ret
    exact ⟨by first | rfl | (simp [errW_none, errW_some] <;> rfl) | (simp [*, errW_none, errW_some] <;> rfl), by repeat (first | (with_reducible first | exact HB.out | apply below_alloc | apply pw_below_drewN | apply below_drew1 | refine below_set ?_ GE729.out) | exact HB.out)⟩

end Go.Proofs.Ytlopmffdebhpfaa.G

/-! ## G131 -/
namespace Go.Proofs.Ytlopmffdebhpfaa.G
open Go.RowKit Go.Proofs.YtlopmffdebhpfaaW.PrintWords Go.Proofs.YtlopmffdebhpfaaW.PrintLast Go.Proofs.YtlopmffdebhpfaaW.PrintMore
attribute [local go_sem] max2_int min2_int max_two min_two max_three min_three max_four min_four
set_option linter.unusedVariables false
set_option linter.unusedSimpArgs false

/-! ### bytes_Equal: function 131 -/
def bytes_Equal.f (l0 : List Int) (l1 : List Int) : Option (Bool) := some ((strOfNums l0).toList == (strOfNums l1).toList)
set_option maxHeartbeats 8000000 in
set_option maxRecDepth 100000 in
theorem bytes_Equal.calls (A0 : Option Addr) (c0 : Nat) (l0 : List Int) (A1 : Option Addr) (c1 : Nat) (l1 : List Int) (r : Bool) (w : World) (hr0 : Kd.C (Kd.int .u8) w A0 l0.length l0) (hc0 : l0.length ≤ c0) (hr1 : Kd.C (Kd.int .u8) w A1 l1.length l1) (hc1 : l1.length ≤ c1) (h : bytes_Equal.f l0 l1 = some r) :
    Calls Try.prog 131 #[.slice A0 l0.length c0, .slice A1 l1.length c1] w fun e w' => e = .returned (.bool r) ∧ Drawn0 w w' := by
  have HR0 := Aside0.mk hr0
  have HC0 := Aside0.mk hc0
  clear hr0 hc0
  have HR1 := Aside0.mk hr1
  have HC1 := Aside0.mk hc1
  clear hr1 hc1
  have H : (some ((strOfNums l0).toList == (strOfNums l1).toList)) = some r := h
  clear h
  obtain rfl := Option.some.inj H
  have hcv3 := Kd.C_string (P := Try.prog) (A := A0) (c := c0) Try.underlying22 Try.underlying5 Try.underlying9 HR0.out
  have hcv4 := Kd.C_string (P := Try.prog) (A := A1) (c := c1) Try.underlying22 Try.underlying5 Try.underlying9 HR1.out
  go_enter Try.func131, Try.ntmps131
  go_wp2
  go_ret
  exact ⟨by first | rfl | (simp; done) | (simp [*]; done), by repeat (first | exact Drawn0.refl _ | apply Drawn0.step)⟩

end Go.Proofs.Ytlopmffdebhpfaa.G

/-! ## Parse -/
namespace Go.Proofs.Ytlopmffdebhpfaa.G
open Go.RowKit Go.Proofs.YtlopmffdebhpfaaW.PrintWords Go.Proofs.YtlopmffdebhpfaaW.PrintLast Go.Proofs.YtlopmffdebhpfaaW.PrintMore
set_option linter.unusedVariables false
set_option linter.unusedSimpArgs false

def errNoPageS : ByteArray := { data := #[110, 111, 32, 115, 117, 99, 104, 32, 112, 97, 103, 101] }
def errFormS : ByteArray := { data := #[110, 111, 32, 112, 97, 103, 101, 32, 111, 102, 32, 116, 104, 105, 115, 32, 105, 100] }
/-- The fault's value: none, no such page, no page of this id. -/
def perr : Nat → Value
  | 0 => .nilIface
  | 1 => .iface 108 (.string { data := #[110, 111, 32, 115, 117, 99, 104, 32, 112, 97, 103, 101] })
  | _ => .iface 108 (.string { data := #[110, 111, 32, 112, 97, 103, 101, 32, 111, 102, 32, 116, 104, 105, 115, 32, 105, 100] })
/-- The fault's number, the head's three numbers, the body. -/
def impl_parsePage.f (k : Nat) (a0 : Int) (l1 : List Int) : Option (Nat × Int × Int × Int × List Int) :=
  if l1.length = 256 then
    (impl_numberAt.f k ((l1.take 12).drop 10)).bind fun sz =>
    (impl_head_valid.f a0 (wrap64 (rd l1 8)) sz).bind fun hv =>
    if hv = true then
      (if 0 ≤ sz ∧ sz ≤ 240 then
        (impl_page_bytes.f k a0 (wrap64 (rd l1 8)) sz ((l1.take (16 + sz).toNat).drop 16)).bind fun pb =>
        (bytes_Equal.f pb l1).bind fun eq => if eq = true then some (0, a0, wrap64 (rd l1 8), sz, (l1.take (16 + sz).toNat).drop 16) else some (2, 0, 0, 0, [])
      else none)
    else some (2, 0, 0, 0, [])
  else some (1, 0, 0, 0, [])
theorem impl_parsePage.mono : ∀ a0 a1 k, LeO (impl_parsePage.f k a0 a1) (impl_parsePage.f (k + 1) a0 a1) := by
  intro a0 a1 k
  unfold impl_parsePage.f
  exact LeO.ite (LeO.bind (impl_numberAt.mono _ _) (fun _ => LeO.bind (LeO.refl _) (fun _ => LeO.ite (LeO.ite (LeO.bind (impl_page_bytes.mono _ _ _ _ _) (fun _ => LeO.refl _)) (LeO.refl _)) (LeO.refl _)))) (LeO.refl _)
theorem results_cell_slot {P : Program} {fn : Func} {p q : Tmp} {ty : TypeId} (h : fn.results = #[.cell p ty, .tmp q]) (tmps : Array Value) (w : World) (g : Nat) (t : TypeId) (cs : Array Value) (fr : Nat × Nat) (d : TypeDesc) (v : Value)
    (hp : tmps.getD p undef = .pointer (some ⟨g, 0, none⟩)) (hv : tmps.getD q undef = v) (hg : w.heap[g]? = some (.cells cs t fr))
    (hu : P.underlying ty = some d) (hd : (match d with | .struct _ | .array _ _ => true | _ => false) = true) (hi : (P.info? ty).map (·.size) = some cs.size) :
    (results fn tmps).run P w = .ok (.tuple #[.agg cs, v]) w := by
  have hp' : tmps[p]?.getD undef = .pointer (some ⟨g, 0, none⟩) := by simpa using hp
  have hv' : tmps[q]?.getD undef = v := by simpa using hv
  simp [results, h, hp', hv', asAddr, run_loadVar_row w g t ty cs fr d hg hu hd hi]

def impl_parsePage.T3 : Bool × List (List Nat × List Nat) := (true, [([], []), ([], []), ([1], [1]), ([2], [2]), ([3], [3]), ([], []), ([5], [5]), ([6], [6]), ([0, 4, 7], [0, 4, 7]), ([], []), ([9, 8, 7, 0, 1, 2, 3, 4, 5, 6, 7, 8, 9], [8, 9])])
def impl_parsePage.B3 : List Nat := [0, 0, 2, 6, 14, 0, 32, 96, 255, 0, 1023]
theorem impl_parsePage.tab3 : rtab .any (opsOf Try.f70 3) = impl_parsePage.T3 := by kernel_rfl
theorem impl_parsePage.bits3 : waitsOk impl_parsePage.T3.2 impl_parsePage.B3 = true := by kernel_rfl
def impl_parsePage.T6 : Bool × List (List Nat × List Nat) := (true, [([], []), ([], []), ([], []), ([2], [2]), ([3], [3]), ([1, 4], [1, 4]), ([0, 5], [0, 5]), ([], []), ([7, 6, 0, 1, 2, 3, 4, 5, 6, 7], [6, 7])])
def impl_parsePage.B6 : List Nat := [0, 0, 0, 4, 12, 30, 63, 0, 255]
theorem impl_parsePage.tab6 : rtab .any (opsOf Try.f70 6) = impl_parsePage.T6 := by kernel_rfl
theorem impl_parsePage.bits6 : waitsOk impl_parsePage.T6.2 impl_parsePage.B6 = true := by kernel_rfl
set_option maxHeartbeats 4000000 in
set_option maxRecDepth 100000 in
theorem impl_parsePage.calls (k : Nat) (a0 : Int) (A1 : Option Addr) (c1 : Nat) (l1 : List Int) (r : Nat × Int × Int × Int × List Int) (w : World) (ok : Nat → Prop) (hF : Kd.F (Kd.int .u8) w ok A1 l1.length l1) (hc1 : l1.length ≤ c1) (h : impl_parsePage.f k a0 l1 = some r) :
    Calls Try.prog 70 #[.int .i64 a0, .slice A1 l1.length c1] w fun e w' => ∃ A c, e = .returned (.tuple #[.agg #[.int .i64 r.2.1, .int .i64 r.2.2.1, .int .i64 r.2.2.2.1, .slice A r.2.2.2.2.length c], perr r.1]) ∧ r.2.2.2.2.length ≤ c ∧ Kd.F (Kd.int .u8) w' ok A r.2.2.2.2.length r.2.2.2.2 ∧ Below w.heap.size w w' := by
  have hu102 := Try.underlying102
  have hu100 := Try.underlying100
  unfold impl_parsePage.f at h
  by_cases hl : l1.length = 256
  case neg =>
    rw [if_neg hl] at h
    obtain rfl := Option.some.inj h
    clear h
    have c3b0 : ((l1.length : Int) == 256) = false := beq_eq_false_iff_ne.mpr (by omega)
    have c3b1 : ((l1.length : Int) != 256) = true := bne_iff_ne.mpr (by omega)
    go_enter Try.func70, Try.ntmps70
    go_wp2_with (first | ((with_reducible refine gate_dst (N := 4) rfl ?_); refine box_event ?hg (N := 4) ?hd (cs := #[.int .i64 0, .int .i64 0, .int .i64 0, .slice none 0 0]) (t := 102) ?hr ?_; (case hd => rfl); (case hg => rfl); (case hr => first | (go_simp; done) | (go_simp; rfl)); intro gr hgr w6 hbox hbel; have BK := Aside0.mk hbox; have HB := Aside0.mk hbel; have GB := Aside0.mk hgr; clear hbox hbel hgr) | ((with_reducible refine gate_ (.store 102 (.tmp 4) (.tmp 11)) rfl ?_); refine store_blk rfl rfl 102 (.tmp 4) (.tmp 11) rfl (off := 0) (u := .agg #[.int .i64 0, .int .i64 0, .int .i64 0, .slice none 0 0]) #[.int .i64 0, .int .i64 0, .int .i64 0, .slice none 0 0] rfl rfl BK.out [.int .i64 0, .int .i64 0, .int .i64 0, .slice none 0 0] rfl (by kernel_rfl) (Nat.le_of_ble_eq_true rfl) rfl rfl ?_; intro w7 hblk hgrw; have BK2 := Aside0.mk hblk; have HB2 := Aside0.mk (HB.out.grown hgrw HB.out.size (by intro q hq; cases hq; exact Nat.le_of_eq GB.out.symm)); clear hblk hgrw))
    refine bodyPost_ret (results_cell_slot rfl _ _ gr 102 #[.int .i64 0, .int .i64 0, .int .i64 0, .slice none 0 0] (0, 0) _ _ rfl rfl BK2.out Try.underlying102 rfl (by kernel_rfl)) rfl ?_
    exact ⟨none, 0, rfl, Nat.le_refl _, Kd.F_nil _ _ _, HB2.out⟩
  rw [if_pos hl] at h
  obtain ⟨sz, H1, h⟩ := Option.bind_eq_some_iff.mp h
  obtain ⟨hv, H2, h⟩ := Option.bind_eq_some_iff.mp h
  have N1 := Aside0.mk H1
  have N2 := Aside0.mk H2
  clear H1 H2
  have H := Aside0.mk h
  clear h
  have c3b0 : ((l1.length : Int) == 256) = true := beq_iff_eq.mpr (by omega)
  have c3b1 : ((l1.length : Int) != 256) = false := bne_eq_false_iff_eq.mpr (by omega)
  have q8a : decide (8 < (l1.length : Int)) = true := decide_eq_true (by omega)
  have q8b : decide (8 < l1.length) = true := decide_eq_true (by omega)
  have q8c : (8 < l1.length) = True := eq_true (by omega)
  have q8d : ((8 : Int) < (l1.length : Int)) = True := eq_true (by omega)
  obtain ⟨ad, rfl, hx8⟩ := Kd.at_int (Kd.F_now hF) 8 (by omega) (by omega)
  (try simp only [show (8 : Int).toNat = 8 from rfl, Nat.reduceMul, Nat.reduceEqDiff, Go.Addr.add, ↓reduceIte] at hx8)
  have HX8 := Aside0.mk hx8
  clear hx8
  obtain ⟨i0, hi0, _, hsz0, _⟩ := info_parts info5
  have HI := Aside0.mk hi0
  have HZ := Aside0.mk hsz0
  clear hi0 hsz0
  have HF := Aside0.mk hF
  have HC := Aside0.mk hc1
  have HL := Aside0.mk hl
  clear hF hc1 hl
  obtain ⟨A2, hcut2, hF2⟩ : ∃ A2, (∀ W : World, (Instr.slice 22 (.slice (some ad) l1.length c1) (some (.int .i64 10)) (some (.int .i64 12)) none).run Try.prog W = .ok (.slice A2 2 (c1 - 10)) W) ∧ Kd.F (Kd.int .u8) w ok A2 ((l1.take 12).drop 10).length ((l1.take 12).drop 10) := by
    refine ⟨_, cut_mid 22 5 .i64 .i64 Try.underlying22 HI.out 1 HZ.out (some ad) l1.length c1 10 12 (by decide) (by decide) (by have := HL.out; omega) HC.out, ?_⟩
    exact Kd.F_mid HF.out (by decide) (by have := HL.out; omega) HC.out
  have hln2 : ((l1.take 12).drop 10).length = 2 := by rw [List.length_drop, List.length_take, HL.out]; rfl
  have HF2 := Aside0.mk hF2
  have HLN := Aside0.mk hln2
  clear hF2 hln2
  go_enter Try.func70, Try.ntmps70
  go_wp2_with (first | ((with_reducible refine gate_dst (N := 4) rfl ?_); refine box_event ?hg (N := 4) ?hd (cs := #[.int .i64 0, .int .i64 0, .int .i64 0, .slice none 0 0]) (t := 102) ?hr ?_; (case hd => rfl); (case hg => rfl); (case hr => first | (go_simp; done) | (go_simp; rfl)); intro gr hgr w6 hbox hbel; have BK := Aside0.mk hbox; have HB := Aside0.mk hbel; have GB := Aside0.mk hgr; clear hbox hbel hgr))
  refine start_ (n := 11) (S := fun w' => w'.heap[gr]? = some (.cells #[.int .i64 0, .int .i64 0, .int .i64 0, .slice none 0 0] 102 (0, 0)) ∧ Below w.heap.size w w') (ds := []) #[false, false, false, false, false, false, false, false, false, false, false] (by kernel_rfl) rfl rfl (⟨blk_drew BK.out, below_drew1 HB.out⟩) (fun hHeld => ?_); refine with_tabW impl_parsePage.tab3 impl_parsePage.bits3 (fun HT_ HW_ => ?_)
  clear BK HB
  refine pure_ (i := 0) (N := some 13) (v := ?_) (a' := ?_) #[true, false, false, false, false, false, false, false, false, false, false] rfl rfl (any_of HT_.out (by kernel_rfl)) (fun _ _ _ h => h) (Or.inl ⟨by rfl, ?_⟩) ?_ ?_
  rotate_left
  · intro w'
    go_simp
    with_reducible rfl
  rotate_left
  · simp only [Act.put, List.setIfInBounds_toArray, List.set_cons_zero, List.set_cons_succ, i64_w, i32_w]
    rfl
  refine pure_ (i := 1) (N := some 14) (v := ?_) (a' := ?_) #[true, true, false, false, false, false, false, false, false, false, false] rfl rfl (any_of HT_.out (by kernel_rfl)) (fun _ _ _ h => h) (Or.inl ⟨by rfl, ?_⟩) ?_ ?_
  rotate_left
  · intro w'
    go_simp
    with_reducible rfl
  rotate_left
  · simp only [Act.put, List.setIfInBounds_toArray, List.set_cons_zero, List.set_cons_succ, i64_w, i32_w]
    rfl
  refine pure_ (i := 2) (N := some 15) (v := ?_) (a' := ?_) #[true, true, true, false, false, false, false, false, false, false, false] rfl rfl (any_of HT_.out (by kernel_rfl)) (fun _ _ _ h => h) (Or.inl ⟨by rfl, ?_⟩) ?_ ?_
  rotate_left
  · intro w'
    go_simp
    with_reducible rfl
  rotate_left
  · simp only [Act.put, List.setIfInBounds_toArray, List.set_cons_zero, List.set_cons_succ, i64_w, i32_w]
    rfl
  refine take_ (i := 3) (N := some 16) (v := ?_) (a' := ?_) #[true, true, true, true, false, false, false, false, false, false, false] rfl rfl (take_ofW HT_.out HW_.out (by kernel_rfl)) (fun _ _ _ h => h) (Or.inl ⟨by rfl, ?_⟩) hHeld ?_ ?_
  rotate_left
  · intro w' s0
    have hc8_ : w'.cell? ⟨ad.block, ad.off + 8, none⟩ = some (.int .u8 (rd l1 8)) := (s0.2.cell (World.block_lt_of_cell? w _ HX8.out)).trans HX8.out
    clear s0
    go_simp
    with_reducible rfl
  rotate_left
  · simp only [Act.put, List.setIfInBounds_toArray, List.set_cons_zero, List.set_cons_succ, i64_w, i32_w]
    rfl
  refine pure_ (i := 4) (N := some 17) (v := ?_) (a' := ?_) #[true, true, true, true, true, false, false, false, false, false, false] rfl rfl (any_of HT_.out (by kernel_rfl)) (fun _ _ _ h => h) (Or.inl ⟨by rfl, ?_⟩) ?_ ?_
  rotate_left
  · intro w'
    go_simp
    with_reducible rfl
  rotate_left
  · simp only [Act.put, List.setIfInBounds_toArray, List.set_cons_zero, List.set_cons_succ, i64_w, i32_w]
    rfl
  refine pure_ (i := 5) (N := some 18) (v := ?_) (a' := ?_) #[true, true, true, true, true, true, false, false, false, false, false] rfl rfl (any_of HT_.out (by kernel_rfl)) (fun _ _ _ h => h) (Or.inl ⟨by rfl, ?_⟩) ?_ ?_
  rotate_left
  · intro w'
    go_simp
    with_reducible rfl
  rotate_left
  · simp only [Act.put, List.setIfInBounds_toArray, List.set_cons_zero, List.set_cons_succ, i64_w, i32_w]
    rfl
  refine pure_ (i := 6) (N := some 19) (v := ?_) (a' := ?_) #[true, true, true, true, true, true, true, false, false, false, false] rfl rfl (any_of HT_.out (by kernel_rfl)) (fun _ _ _ h => h) (Or.inl ⟨by rfl, ?_⟩) ?_ ?_
  rotate_left
  · intro w'
    go_simp
    with_reducible rfl
  rotate_left
  · simp only [Act.put, List.setIfInBounds_toArray, List.set_cons_zero, List.set_cons_succ, i64_w, i32_w]
    rfl
  refine join_ 1 #[true, true, true, true, true, true, true, true, true, true, false] (fun g : Nat => [(20, .int .i64 sz), (21, .agg #[.int .i64 a0, .int .i64 (wrap64 (rd l1 8)), .int .i64 sz]), (6, .pointer (some ⟨g, 0, none⟩))]) (fun g w' => w'.heap[g]? = some (.cells #[.int .i64 0, .int .i64 0, .int .i64 0] 100 (0, 0)) ∧ (w'.heap[gr]? = some (.cells #[.int .i64 0, .int .i64 0, .int .i64 0, .slice none 0 0] 102 (0, 0)) ∧ Below w.heap.size w w') ∧ w.heap.size ≤ g ∧ g ≠ gr) ?_ ?_
  rotate_left
  · intro hK0
    refine two_ (i := 7) (j := 9) (Ni := some 20) (Nj := some 6) #[true, true, true, true, true, true, true, true, false, false, false] #[true, true, true, true, true, true, true, false, false, true, false] rfl rfl rfl rfl (two_of HT_.out (by kernel_rfl)) (by decide) (by decide) (fun K hK => ?_) (fun K hK => ?_)
    · refine goes_ Try.func130 (by kernel_rfl) rfl #[.slice A2 2 (c1 - 10)] (by rfl) rfl rfl (by first | rfl | (simp only [List.map_toArray, List.map_cons, List.map_nil]; first | done | rfl)) ?_
      have hcr := impl_numberAt.calls k A2 (c1 - 10) ((l1.take 12).drop 10) sz _ (Kd.C_below (Kd.F_now HF2.out) hHeld.2) (by have := HLN.out; have := HC.out; have := HL.out; omega) N1.out
      rw [HLN.out] at hcr
      refine hcr.mono ?_
      clear hcr
      rintro e w9 ⟨rfl, hd9⟩
      refine ⟨_, rfl, ?_⟩
      have S9 := Aside0.mk (And.intro (blk_below hHeld.1 hd9.below) (below_step hHeld.2 hd9.below))
      clear hHeld hd9
      refine hK.out _ _ (S9.out) (fun hHeld => ?_)
      clear hK K
      refine norm_ (a' := ?_) ?_ ?_
      rotate_left
      · show Act.put _ (some 20) _ = _
        simp only [Act.put, List.setIfInBounds_toArray, List.set_cons_zero, List.set_cons_succ, i64_w, i32_w]
        rfl
      refine pure_ (i := 8) (N := some 21) (v := ?_) (a' := ?_) #[true, true, true, true, true, true, true, true, true, false, false] rfl rfl (any_of HT_.out (by kernel_rfl)) (fun _ _ _ h => h) (Or.inl ⟨by rfl, ?_⟩) ?_ ?_
      rotate_left
      · intro w'
        go_simp
        with_reducible rfl
      rotate_left
      · simp only [Act.put, List.setIfInBounds_toArray, List.set_cons_zero, List.set_cons_succ, i64_w, i32_w]
        rfl
      refine one_ (i := 9) (N := some 6) #[true, true, true, true, true, true, true, true, true, true, false] rfl rfl (one_of HT_.out (by kernel_rfl)) (by decide) (fun K hK => ?_)
      refine box_step (by rfl) (N := 6) rfl (cs := #[.int .i64 0, .int .i64 0, .int .i64 0]) (t := 100) ?hr ?_
      case hr => first | (go_simp; done) | (go_simp; rfl)
      intro gh hgh w10 hbox hbel
      have S10 := Aside0.mk (And.intro hbox (And.intro (And.intro (blk_below S9.out.1 hbel) (below_step S9.out.2 hbel)) (And.intro (show w.heap.size ≤ gh by rw [hgh]; exact S9.out.2.size) (show gh ≠ gr by have := blk_lt S9.out.1; omega))))
      clear hHeld hbox hbel hgh S9
      refine hK.out _ _ S10.out.2.1 (fun hHeld => ?_)
      clear hK K
      exact hK0 gh _ S10.out
    · refine box_step (by rfl) (N := 6) rfl (cs := #[.int .i64 0, .int .i64 0, .int .i64 0]) (t := 100) ?hr ?_
      case hr => first | (go_simp; done) | (go_simp; rfl)
      intro gh hgh w10 hbox hbel
      have S10 := Aside0.mk (And.intro hbox (And.intro (And.intro (blk_below hHeld.1 hbel) (below_step hHeld.2 hbel)) (And.intro (show w.heap.size ≤ gh by rw [hgh]; exact hHeld.2.size) (show gh ≠ gr by have := blk_lt hHeld.1; omega))))
      clear hHeld hbox hbel hgh
      refine hK.out _ _ (S10.out.2.1) (fun hHeld => ?_)
      clear hK K
      refine norm_ (a' := ?_) ?_ ?_
      rotate_left
      · show Act.put _ (some 6) _ = _
        simp only [Act.put, List.setIfInBounds_toArray, List.set_cons_zero, List.set_cons_succ, i64_w, i32_w]
        rfl
      refine one_ (i := 7) (N := some 20) #[true, true, true, true, true, true, true, true, false, true, false] rfl rfl (one_of HT_.out (by kernel_rfl)) (by decide) (fun K hK => ?_)
      refine goes_ Try.func130 (by kernel_rfl) rfl #[.slice A2 2 (c1 - 10)] (by rfl) rfl rfl (by first | rfl | (simp only [List.map_toArray, List.map_cons, List.map_nil]; first | done | rfl)) ?_
      have hcr := impl_numberAt.calls k A2 (c1 - 10) ((l1.take 12).drop 10) sz _ (Kd.C_below (Kd.F_now HF2.out) hHeld.2) (by have := HLN.out; have := HC.out; have := HL.out; omega) N1.out
      rw [HLN.out] at hcr
      refine hcr.mono ?_
      clear hcr
      rintro e w9 ⟨rfl, hd9⟩
      refine ⟨_, rfl, ?_⟩
      have S9 := Aside0.mk (And.intro (blk_below S10.out.1 hd9.below) (And.intro (And.intro (blk_below hHeld.1 hd9.below) (below_step hHeld.2 hd9.below)) S10.out.2.2))
      clear hHeld hd9 S10
      refine hK.out _ _ (S9.out.2.1) (fun hHeld => ?_)
      clear hK K
      refine norm_ (a' := ?_) ?_ ?_
      rotate_left
      · show Act.put _ (some 20) _ = _
        simp only [Act.put, List.setIfInBounds_toArray, List.set_cons_zero, List.set_cons_succ, i64_w, i32_w]
        rfl
      refine pure_ (i := 8) (N := some 21) (v := ?_) (a' := ?_) #[true, true, true, true, true, true, true, true, true, true, false] rfl rfl (any_of HT_.out (by kernel_rfl)) (fun _ _ _ h => h) (Or.inl ⟨by rfl, ?_⟩) ?_ ?_
      rotate_left
      · intro w'
        go_simp
        with_reducible rfl
      rotate_left
      · simp only [Act.put, List.setIfInBounds_toArray, List.set_cons_zero, List.set_cons_succ, i64_w, i32_w]
        rfl
      exact hK0 gh _ S9.out
  rintro gh w11 ⟨hb11, ⟨hr11, hB11⟩, hge11, hne11⟩
  refine norm_ (a' := ?_) ?_ ?_
  rotate_left
  · skip
    simp only [putAll, Act.put, List.setIfInBounds_toArray, List.set_cons_zero, List.set_cons_succ, i64_w, i32_w]
    rfl
  have hHeld := And.intro hr11 hB11
  refine one_ (i := 10) (N := none) #[true, true, true, true, true, true, true, true, true, true, true] rfl rfl (one_of HT_.out (by kernel_rfl)) (by decide) (fun K hK => ?_)
  refine store_blk_step (by rfl) rfl 100 (.tmp 6) (.tmp 21) rfl (off := 0) (u := .agg #[.int .i64 a0, .int .i64 (wrap64 (rd l1 8)), .int .i64 sz]) #[.int .i64 a0, .int .i64 (wrap64 (rd l1 8)), .int .i64 sz] rfl rfl hb11 [.int .i64 a0, .int .i64 (wrap64 (rd l1 8)), .int .i64 sz] rfl (by kernel_rfl) (Nat.le_of_ble_eq_true rfl) rfl rfl ?_
  intro w12 hblk hgrw
  have BH := Aside0.mk hblk
  have HB := Aside0.mk (hB11.grown hgrw hB11.size (by intro q hq; cases hq; exact hge11))
  have BK := Aside0.mk (blk_grown hr11 hgrw (by intro e; exact hne11 (Option.some.inj e).symm))
  have HNE : Aside0 (gh ≠ gr) := ⟨hne11⟩
  have HGE : Aside0 (w.heap.size ≤ gh) := ⟨hge11⟩
  clear hblk hgrw hb11 hr11 hB11 hge11 hne11 hHeld
  refine hK.out _ _ (⟨BK.out, HB.out⟩) (fun hHeld => ?_)
  clear hK K
  refine done_ (done_of HT_.out (by kernel_rfl)) ?_
  try clear hHeld
  have hcz0 : w12.cell? ⟨gh, 0, none⟩ = some (.int .i64 a0) := (blk_cell BH.out 0).trans rfl
  have hcz1 : w12.cell? ⟨gh, 1, none⟩ = some (.int .i64 (wrap64 (rd l1 8))) := (blk_cell BH.out 1).trans rfl
  have hcz2 : w12.cell? ⟨gh, 2, none⟩ = some (.int .i64 sz) := (blk_cell BH.out 2).trans rfl
  go_wp2_with fail
  refine (impl_head_valid.calls a0 _ sz hv _ N2.out).mono ?_
  rintro e w13 ⟨rfl, hb13⟩
  have BH2 := Aside0.mk (blk_below BH.out hb13)
  have HB2 := Aside0.mk (below_step HB.out hb13)
  have BK2 := Aside0.mk (blk_below BK.out hb13)
  clear BH HB BK hb13 hcz0 hcz1 hcz2
  have HGR : Aside0 (w.heap.size ≤ gr) := ⟨Nat.le_of_eq GB.out.symm⟩
  cases hv with
  | false =>
    have h := H.out
    rw [if_neg (by decide)] at h
    obtain rfl := Option.some.inj h
    clear h H
    go_wp2_with (first | ((with_reducible refine gate_ (.store 102 (.tmp 4) (.tmp 25)) rfl ?_); refine store_blk rfl rfl 102 (.tmp 4) (.tmp 25) rfl (off := 0) (u := .agg #[.int .i64 0, .int .i64 0, .int .i64 0, .slice none 0 0]) #[.int .i64 0, .int .i64 0, .int .i64 0, .slice none 0 0] rfl rfl BK2.out [.int .i64 0, .int .i64 0, .int .i64 0, .slice none 0 0] rfl (by kernel_rfl) (Nat.le_of_ble_eq_true rfl) rfl rfl ?_; intro w14 hblk hgrw; have BK3 := Aside0.mk hblk; have HB3 := Aside0.mk (HB2.out.grown hgrw HB2.out.size (by intro q hq; cases hq; exact HGR.out)); clear hblk hgrw))
    refine bodyPost_ret (results_cell_slot rfl _ _ gr 102 #[.int .i64 0, .int .i64 0, .int .i64 0, .slice none 0 0] (0, 0) _ _ rfl rfl BK3.out Try.underlying102 rfl (by kernel_rfl)) rfl ?_
    first | exact ⟨none, 0, rfl, Nat.le_refl _, Kd.F_nil _ _ _, HB3.out⟩ | exact ⟨none, ⟨0, rfl⟩, Kd.F_nil _ _ _, HB3.out⟩
  | true =>
    have h := H.out
    rw [if_pos rfl] at h
    clear H
    split at h
    case isFalse => cases h
    rename_i hsz
    obtain ⟨pb, H1, h⟩ := Option.bind_eq_some_iff.mp h
    obtain ⟨eq, H2, h⟩ := Option.bind_eq_some_iff.mp h
    have N3 := Aside0.mk H1
    have N4 := Aside0.mk H2
    have H := Aside0.mk h
    clear H1 H2 h
    obtain ⟨A3, hcut3, hF3⟩ : ∃ A3, (∀ W : World, (Instr.slice 22 (.slice (some ad) l1.length c1) (some (.int .i64 16)) (some (.int .i64 (16 + sz))) none).run Try.prog W = .ok (.slice A3 ((l1.take (16 + sz).toNat).drop 16).length (c1 - 16)) W) ∧ Kd.F (Kd.int .u8) w ok A3 ((l1.take (16 + sz).toNat).drop 16).length ((l1.take (16 + sz).toNat).drop 16) := by
      have hln : ((l1.take (16 + sz).toNat).drop 16).length = (16 + sz).toNat - (16 : Int).toNat := by rw [List.length_drop, List.length_take, HL.out]; omega
      refine ⟨_, fun W => (cut_mid 22 5 .i64 .i64 Try.underlying22 HI.out 1 HZ.out (some ad) l1.length c1 16 (16 + sz) (by decide) (by omega) (by have := HL.out; omega) HC.out W).trans (by rw [hln]; rfl), ?_⟩
      exact Kd.F_mid HF.out (by omega) (by have := HL.out; omega) HC.out
    have hwr : wrap64 (16 + sz) = 16 + sz := by unfold wrap64; omega
    have hbl : Aside0 (((l1.take (16 + sz).toNat).drop 16).length ≤ c1 - 16) := ⟨by rw [List.length_drop, List.length_take, HL.out]; have := HL.out; have := HC.out; omega⟩
    have HF3 := Aside0.mk hF3
    clear hF3
    generalize hbody : (l1.take (16 + sz).toNat).drop 16 = body at N3 H hcut3 hbl HF3
    clear hbody
    have hcz0 : w13.cell? ⟨gh, 0, none⟩ = some (.int .i64 a0) := (blk_cell BH2.out 0).trans rfl
    have hcz1 : w13.cell? ⟨gh, 1, none⟩ = some (.int .i64 (wrap64 (rd l1 8))) := (blk_cell BH2.out 1).trans rfl
    have hcz2 : w13.cell? ⟨gh, 2, none⟩ = some (.int .i64 sz) := (blk_cell BH2.out 2).trans rfl
    go_wp2_with fail
    refine start_ (n := 9) (S := fun w' => w'.heap[gh]? = some (.cells #[.int .i64 a0, .int .i64 (wrap64 (rd l1 8)), .int .i64 sz] 100 (0, 0)) ∧ w'.heap[gr]? = some (.cells #[.int .i64 0, .int .i64 0, .int .i64 0, .slice none 0 0] 102 (0, 0)) ∧ Below w.heap.size w w') (ds := []) #[false, false, false, false, false, false, false, false, false] (by kernel_rfl) rfl rfl (⟨blk_drew BH2.out, blk_drew BK2.out, below_drew1 HB2.out⟩) (fun hHeld => ?_); refine with_tabW impl_parsePage.tab6 impl_parsePage.bits6 (fun HT_ HW_ => ?_)
    clear BH2 BK2 HB2 hcz0 hcz1 hcz2
    refine take_ (i := 0) (N := some 27) (v := ?_) (a' := ?_) #[true, false, false, false, false, false, false, false, false] rfl rfl (take_ofW HT_.out HW_.out (by kernel_rfl)) (fun _ _ _ h => h) (Or.inl ⟨by rfl, ?_⟩) hHeld ?_ ?_
    rotate_left
    · intro w' s0
      have hcz0 : w'.cell? ⟨gh, 0, none⟩ = some (.int .i64 a0) := (blk_cell s0.1 0).trans rfl
      have hcz1 : w'.cell? ⟨gh, 1, none⟩ = some (.int .i64 (wrap64 (rd l1 8))) := (blk_cell s0.1 1).trans rfl
      have hcz2 : w'.cell? ⟨gh, 2, none⟩ = some (.int .i64 sz) := (blk_cell s0.1 2).trans rfl
      clear s0
      go_simp
      with_reducible rfl
    rotate_left
    · simp only [Act.put, List.setIfInBounds_toArray, List.set_cons_zero, List.set_cons_succ, i64_w, i32_w]
      rfl
    refine pure_ (i := 1) (N := some 28) (v := ?_) (a' := ?_) #[true, true, false, false, false, false, false, false, false] rfl rfl (any_of HT_.out (by kernel_rfl)) (fun _ _ _ h => h) (Or.inl ⟨by rfl, ?_⟩) ?_ ?_
    rotate_left
    · intro w'
      go_simp
      with_reducible rfl
    rotate_left
    · simp only [Act.put, List.setIfInBounds_toArray, List.set_cons_zero, List.set_cons_succ, i64_w, i32_w]
      rfl
    refine pure_ (i := 2) (N := some 29) (v := ?_) (a' := ?_) #[true, true, true, false, false, false, false, false, false] rfl rfl (any_of HT_.out (by kernel_rfl)) (fun _ _ _ h => h) (Or.inl ⟨by rfl, ?_⟩) ?_ ?_
    rotate_left
    · intro w'
      go_simp
      with_reducible rfl
    rotate_left
    · simp only [Act.put, List.setIfInBounds_toArray, List.set_cons_zero, List.set_cons_succ, i64_w, i32_w]
      rfl
    refine take_ (i := 3) (N := some 30) (v := ?_) (a' := ?_) #[true, true, true, true, false, false, false, false, false] rfl rfl (take_ofW HT_.out HW_.out (by kernel_rfl)) (fun _ _ _ h => h) (Or.inl ⟨by rfl, ?_⟩) hHeld ?_ ?_
    rotate_left
    · intro w' s0
      have hcz0 : w'.cell? ⟨gh, 0, none⟩ = some (.int .i64 a0) := (blk_cell s0.1 0).trans rfl
      have hcz1 : w'.cell? ⟨gh, 1, none⟩ = some (.int .i64 (wrap64 (rd l1 8))) := (blk_cell s0.1 1).trans rfl
      have hcz2 : w'.cell? ⟨gh, 2, none⟩ = some (.int .i64 sz) := (blk_cell s0.1 2).trans rfl
      clear s0
      go_simp
      with_reducible rfl
    rotate_left
    · simp only [Act.put, List.setIfInBounds_toArray, List.set_cons_zero, List.set_cons_succ, i64_w, i32_w]
      rfl
    refine pure_ (i := 4) (N := some 31) (v := ?_) (a' := ?_) #[true, true, true, true, true, false, false, false, false] rfl rfl (any_of HT_.out (by kernel_rfl)) (fun _ _ _ h => h) (Or.inl ⟨by rfl, ?_⟩) ?_ ?_
    rotate_left
    · intro w'
      go_simp
      simp only [i64_w, hwr]
      with_reducible rfl
    rotate_left
    · simp only [Act.put, List.setIfInBounds_toArray, List.set_cons_zero, List.set_cons_succ, i64_w, i32_w]
      rfl
    refine pure_ (i := 5) (N := some 32) (v := ?_) (a' := ?_) #[true, true, true, true, true, true, false, false, false] rfl rfl (any_of HT_.out (by kernel_rfl)) (fun _ _ _ h => h) (Or.inl ⟨by rfl, ?_⟩) ?_ ?_
    rotate_left
    · intro w'
      go_simp
      with_reducible rfl
    rotate_left
    · simp only [Act.put, List.setIfInBounds_toArray, List.set_cons_zero, List.set_cons_succ, i64_w, i32_w]
      rfl
    refine pure_ (i := 6) (N := some 33) (v := ?_) (a' := ?_) #[true, true, true, true, true, true, true, false, false] rfl rfl (any_of HT_.out (by kernel_rfl)) (fun _ _ _ h => h) (Or.inl ⟨by rfl, ?_⟩) ?_ ?_
    rotate_left
    · intro w'
      go_simp
      with_reducible rfl
    rotate_left
    · simp only [Act.put, List.setIfInBounds_toArray, List.set_cons_zero, List.set_cons_succ, i64_w, i32_w]
      rfl
    refine one_ (i := 7) (N := some 7) #[true, true, true, true, true, true, true, true, false] rfl rfl (one_of HT_.out (by kernel_rfl)) (by decide) (fun K hK => ?_)
    refine box_step (by rfl) (N := 7) rfl (cs := #[.int .i64 0, .int .i64 0, .int .i64 0, .slice none 0 0]) (t := 102) ?hr ?_
    case hr => first | (go_simp; done) | (go_simp; rfl)
    intro gp hgp w14 hbox hbel
    have BP0 := Aside0.mk hbox
    have S14 := Aside0.mk (And.intro (blk_below hHeld.1 hbel) (And.intro (blk_below hHeld.2.1 hbel) (below_step hHeld.2.2 hbel)))
    have HGP : Aside0 (w.heap.size ≤ gp) := ⟨by rw [hgp]; exact hHeld.2.2.size⟩
    have HNP : Aside0 (gp ≠ gr) := ⟨by have := blk_lt hHeld.2.1; omega⟩
    have HNH : Aside0 (gp ≠ gh) := ⟨by have := blk_lt hHeld.1; omega⟩
    clear hbox hbel hHeld hgp
    refine hK.out _ _ (S14.out) (fun hHeld => ?_)
    clear hK K
    refine norm_ (a' := ?_) ?_ ?_
    rotate_left
    · show Act.put _ (some 7) _ = _
      simp only [Act.put, List.setIfInBounds_toArray, List.set_cons_zero, List.set_cons_succ, i64_w, i32_w]
      rfl
    refine one_ (i := 8) (N := none) #[true, true, true, true, true, true, true, true, true] rfl rfl (one_of HT_.out (by kernel_rfl)) (by decide) (fun K hK => ?_)
    refine store_blk_step (by rfl) rfl 102 (.tmp 7) (.tmp 33) rfl (off := 0) (u := .agg #[.int .i64 a0, .int .i64 (wrap64 (rd l1 8)), .int .i64 sz, .slice A3 body.length (c1 - 16)]) #[.int .i64 a0, .int .i64 (wrap64 (rd l1 8)), .int .i64 sz, .slice A3 body.length (c1 - 16)] rfl rfl BP0.out [.int .i64 a0, .int .i64 (wrap64 (rd l1 8)), .int .i64 sz, .slice A3 body.length (c1 - 16)] rfl (by kernel_rfl) (Nat.le_of_ble_eq_true rfl) rfl rfl ?_
    intro w15 hblk hgrw
    have BP := Aside0.mk hblk
    have HB3 := Aside0.mk (S14.out.2.2.grown hgrw S14.out.2.2.size (by intro q hq; cases hq; exact HGP.out))
    have BK3 := Aside0.mk (blk_grown S14.out.2.1 hgrw (by intro e; exact HNP.out (Option.some.inj e).symm))
    have BH3 := Aside0.mk (blk_grown S14.out.1 hgrw (by intro e; exact HNH.out (Option.some.inj e).symm))
    clear hblk hgrw BP0 S14 hHeld
    refine hK.out _ _ (⟨BH3.out, BK3.out, HB3.out⟩) (fun hHeld => ?_)
    clear hK K
    refine done_ (done_of HT_.out (by kernel_rfl)) ?_
    try clear hHeld
    have hcw0 : w15.cell? ⟨gp, 0, none⟩ = some (.int .i64 a0) := (blk_cell BP.out 0).trans rfl
    have hcw1 : w15.cell? ⟨gp, 1, none⟩ = some (.int .i64 (wrap64 (rd l1 8))) := (blk_cell BP.out 1).trans rfl
    have hcw2 : w15.cell? ⟨gp, 2, none⟩ = some (.int .i64 sz) := (blk_cell BP.out 2).trans rfl
    have hcw3 : w15.cell? ⟨gp, 3, none⟩ = some (.slice A3 body.length (c1 - 16)) := (blk_cell BP.out 3).trans rfl
    go_wp2_with fail
    refine (impl_page_bytes.calls k a0 _ sz A3 (c1 - 16) body pb _ (Kd.C_below (Kd.F_now HF3.out) HB3.out) hbl.out N3.out).mono ?_
    rintro e w16 ⟨v16, rfl, ho16, hb16⟩
    have HO16 := Aside0.mk ho16
    have BP4 := Aside0.mk (blk_below BP.out hb16)
    have BK4 := Aside0.mk (blk_below BK3.out hb16)
    have HB4 := Aside0.mk (below_step HB3.out hb16)
    clear ho16 hb16 BP BK3 BH3 HB3 hcw0 hcw1 hcw2 hcw3
    obtain ⟨A16, c16, ev16⟩ := Kd.R_slice HO16.out
    subst ev16
    go_wp2_with fail
    refine (bytes_Equal.calls A16 c16 pb (some ad) c1 l1 eq w16 (Kd.R_reads' HO16.out).2.2 (Kd.R_reads' HO16.out).2.1 (Kd.C_below (Kd.F_now HF.out) HB4.out) HC.out N4.out).mono ?_
    rintro e w17 ⟨rfl, hd17⟩
    have BP5 := Aside0.mk (blk_below BP4.out hd17.below)
    have BK5 := Aside0.mk (blk_below BK4.out hd17.below)
    have HB5 := Aside0.mk (below_step HB4.out hd17.below)
    clear hd17 HO16 BP4 BK4 HB4
    cases eq with
    | false =>
      have h := H.out
      rw [if_neg (by decide)] at h
      obtain rfl := Option.some.inj h
      clear h H
      go_wp2_with (first | ((with_reducible refine gate_ (.store 102 (.tmp 4) (.tmp 39)) rfl ?_); refine store_blk rfl rfl 102 (.tmp 4) (.tmp 39) rfl (off := 0) (u := .agg #[.int .i64 0, .int .i64 0, .int .i64 0, .slice none 0 0]) #[.int .i64 0, .int .i64 0, .int .i64 0, .slice none 0 0] rfl rfl BK5.out [.int .i64 0, .int .i64 0, .int .i64 0, .slice none 0 0] rfl (by kernel_rfl) (Nat.le_of_ble_eq_true rfl) rfl rfl ?_; intro w18 hblk hgrw; have BK6 := Aside0.mk hblk; have HG6 := Aside0.mk hgrw; have HB6 := Aside0.mk (HB5.out.grown hgrw HB5.out.size (by intro q hq; cases hq; exact HGR.out)); clear hblk hgrw))
      refine bodyPost_ret (results_cell_slot rfl _ _ gr 102 #[.int .i64 0, .int .i64 0, .int .i64 0, .slice none 0 0] (0, 0) _ _ rfl rfl BK6.out Try.underlying102 rfl (by kernel_rfl)) rfl ?_
      first | exact ⟨none, 0, rfl, Nat.le_refl _, Kd.F_nil _ _ _, HB6.out⟩ | exact ⟨none, ⟨0, rfl⟩, Kd.F_nil _ _ _, HB6.out⟩
    | true =>
      have h := H.out
      rw [if_pos rfl] at h
      obtain rfl := Option.some.inj h
      clear h H
      have hcw0 : w17.cell? ⟨gp, 0, none⟩ = some (.int .i64 a0) := (blk_cell BP5.out 0).trans rfl
      have hcw1 : w17.cell? ⟨gp, 1, none⟩ = some (.int .i64 (wrap64 (rd l1 8))) := (blk_cell BP5.out 1).trans rfl
      have hcw2 : w17.cell? ⟨gp, 2, none⟩ = some (.int .i64 sz) := (blk_cell BP5.out 2).trans rfl
      have hcw3 : w17.cell? ⟨gp, 3, none⟩ = some (.slice A3 body.length (c1 - 16)) := (blk_cell BP5.out 3).trans rfl
      go_wp2_with (first | ((with_reducible refine gate_ (.store 102 (.tmp 4) (.tmp 41)) rfl ?_); refine store_blk rfl rfl 102 (.tmp 4) (.tmp 41) rfl (off := 0) (u := .agg #[.int .i64 a0, .int .i64 (wrap64 (rd l1 8)), .int .i64 sz, .slice A3 body.length (c1 - 16)]) #[.int .i64 a0, .int .i64 (wrap64 (rd l1 8)), .int .i64 sz, .slice A3 body.length (c1 - 16)] rfl rfl BK5.out [.int .i64 a0, .int .i64 (wrap64 (rd l1 8)), .int .i64 sz, .slice A3 body.length (c1 - 16)] rfl (by kernel_rfl) (Nat.le_of_ble_eq_true rfl) rfl rfl ?_; intro w18 hblk hgrw; have BK6 := Aside0.mk hblk; have HG6 := Aside0.mk hgrw; have HB6 := Aside0.mk (HB5.out.grown hgrw HB5.out.size (by intro q hq; cases hq; exact HGR.out)); clear hblk hgrw))
      refine bodyPost_ret (results_cell_slot rfl _ _ gr 102 #[.int .i64 a0, .int .i64 (wrap64 (rd l1 8)), .int .i64 sz, .slice A3 body.length (c1 - 16)] (0, 0) _ _ rfl rfl BK6.out Try.underlying102 rfl (by kernel_rfl)) rfl ?_
      exact ⟨A3, c1 - 16, rfl, hbl.out, Kd.F_mono (Kd.F_grown (ok := fun k => ok k ∧ k < w.heap.size) (Kd.F_below (Kd.F_bound HF3.out) HB5.out) HG6.out (fun q hq e => by cases e; exact absurd hq.2 (by have := GB.out; omega))) (fun _ hk => hk.1), HB6.out⟩
end Go.Proofs.Ytlopmffdebhpfaa.G

/-! ## Err -/
namespace Go.Proofs.Ytlopmffdebhpfaa.G
open Go.RowKit Go.Extern.Stop Go.Stop Go.Extern
theorem run_equalIn_iface_string {P : Program} (w : World) (d : Nat) {ti tn : TypeId} {ms : Array (String × TypeId)} {i : TypeInfo} (a b : ByteArray)
    (hi : P.underlying ti = some (.interface ms)) (hn : P.underlying tn = some .string) (hinfo : P.info? tn = some i) (hcomp : i.comparable = true) :
    (Op.equalIn (d + 2) ti (.iface tn (.string a)) (.iface tn (.string b))).run P w = .ok (a == b) w := by
  simp [Op.equalIn, run_underlying hi, run_underlying hn, typeInfo, hinfo, hcomp]
theorem run_eql_iface_string {P : Program} (w : World) {ti tn : TypeId} {ms : Array (String × TypeId)} {i : TypeInfo} (a b : ByteArray)
    (hi : P.underlying ti = some (.interface ms)) (hn : P.underlying tn = some .string) (hinfo : P.info? tn = some i) (hcomp : i.comparable = true) :
    (binOp .eql ti (.iface tn (.string a)) (.iface tn (.string b))).run P w = .ok (.bool (a == b)) w := by
  simp only [binOp]
  simp [Op.equal, Op.maxDepth, run_equalIn_iface_string w 9998 a b hi hn hinfo hcomp]

theorem isTypeOf (v : Value) (w : World) : (Extern.ReflectliteType.typeOf #[.iface 108 v]).run Try.prog w = .ok (.iface 205 (.agg #[.pointer (some ⟨1, 108, none⟩)])) w := by kernel_rfl
theorem isComparable (w : World) : ((Extern.ReflectliteType.method fun t => do Extern.Rtype.noPackHeld "Comparable" t; (fun a => Value.bool a.comparable) <$> typeInfo t) #[.agg #[.pointer (some ⟨1, 108, none⟩)]]).run Try.prog w = .ok (.bool true) w := by kernel_rfl
theorem isMethodComparable (v : Value) (w : World) : (Go.method 379 205 v "Comparable").run Try.prog w = .ok (229, v) w := by kernel_rfl
theorem isComp : (Try.prog.info? 108).map (·.comparable) = some true := by kernel_rfl
theorem noIs (v : Value) (xT : TypeId) (w : World) : (Instr.typeAssert (.iface 108 v) xT 207 true).run Try.prog w = .ok (.tuple #[.nilIface, .bool false]) w := run_typeAssert_lacksB Try.underlying207 (by kernel_rfl) (by kernel_rfl) v xT w
theorem noUnwrap (v : Value) (xT : TypeId) (w : World) : (Instr.typeAssert (.iface 108 v) xT 210 true).run Try.prog w = .ok (.tuple #[.nilIface, .bool false]) w := run_typeAssert_lacksB Try.underlying210 (by kernel_rfl) (by kernel_rfl) v xT w
theorem noUnwraps (v : Value) (xT : TypeId) (w : World) : (Instr.typeAssert (.iface 108 v) xT 212 true).run Try.prog w = .ok (.tuple #[.nilIface, .bool false]) w := run_typeAssert_lacksB Try.underlying212 (by kernel_rfl) (by kernel_rfl) v xT w

theorem is_nil (b : ByteArray) (w : World) : Calls Try.prog 71 #[.nilIface, .iface 108 (.string b)] w fun e w' => e = .returned (.bool false) ∧ w = w' := by
  have hn := run_eql_iface_nil_left (P := Try.prog) w 108 (.string b) Try.underlying104
  go_enter Try.func71, Try.ntmps71
  go_wp2
  go_ret
  exact ⟨rfl, rfl⟩

set_option maxRecDepth 100000 in
theorem is_any (a b : ByteArray) (c : Bool) (hc : (a == b) = c) (w : World) : Calls Try.prog 71 #[.iface 108 (.string a), .iface 108 (.string b)] w fun e w' => e = .returned (.bool c) ∧ w = w' := by
  obtain ⟨i, hi, hcmp⟩ := Option.map_eq_some_iff.1 isComp
  have h8 := @run_callFunc_extern Try.prog 132 _ Extern.ReflectliteType.typeOf Try.func132 (by kernel_rfl) (by kernel_rfl) (by kernel_rfl) (by kernel_rfl)
  have h32 := @run_callFunc_extern Try.prog 229 _ (Extern.ReflectliteType.method fun t => do Extern.Rtype.noPackHeld "Comparable" t; pure (.bool (← typeInfo t).comparable)) Try.func229 (by kernel_rfl) (by kernel_rfl) (by kernel_rfl) (by kernel_rfl)
  have tT := isTypeOf
  have cT := isComparable
  have mR := isMethodComparable
  have nE := noIs
  have uE := noUnwrap
  have vE := noUnwraps
  have heq := fun w => run_eql_iface_string (P := Try.prog) w a b Try.underlying104 Try.underlying108 hi hcmp
  rw [hc] at heq
  clear hc hi hcmp
  cases c
  · go_enter Try.func71, Try.ntmps71
    go_wp2
    refine wp_loop_rounds 1 ?_
    rw [rounds_succ]
    go_wp2
    go_ret
    exact ⟨rfl, rfl⟩
  · go_enter Try.func71, Try.ntmps71
    go_wp2
    refine wp_loop_rounds 1 ?_
    rw [rounds_succ]
    go_wp2
    go_ret
    exact ⟨rfl, rfl⟩
end Go.Proofs.Ytlopmffdebhpfaa.G

/-! ## Page -/
namespace Go.Proofs.Ytlopmffdebhpfaa.G
open Go.RowKit Go.Proofs.YtlopmffdebhpfaaW.PrintWords Go.Proofs.YtlopmffdebhpfaaW.PrintLast Go.Proofs.YtlopmffdebhpfaaW.PrintMore
set_option linter.unusedVariables false
set_option linter.unusedSimpArgs false

theorem F_of_C {k : IntKind} {w : World} {A : Option Addr} {xs : List Int} (h : Kd.C (Kd.int k) w A xs.length xs) : Kd.F (Kd.int k) w (fun _ => True) A xs.length xs := by
  intro W' hW
  obtain ⟨_, h2, h3⟩ := C_cells h
  refine C_of_cells h2 (fun hp => ?_)
  obtain ⟨ad, e, hc⟩ := h3 hp
  refine ⟨ad, e, fun j x hx => ?_⟩
  have h4 := hc j x hx
  exact (World.cell?_of_block (hW _ trivial (World.block_lt_of_cell? w _ h4))).trans h4

def impl_DecodePage.f (k : Nat) (a0 : Int) (l1 : List Int) : Option (Int × List Int × Bool) :=
  (impl_parsePage.f k a0 l1).bind fun p => if p.1 = 0 then ((bytes_Clone.f p.2.2.2.2).bind fun b => some (p.2.2.1, b, true)) else some (0, [], false)
theorem impl_DecodePage.mono : ∀ a0 a1 k, LeO (impl_DecodePage.f k a0 a1) (impl_DecodePage.f (k + 1) a0 a1) := by
  intro a0 a1 k
  unfold impl_DecodePage.f
  exact LeO.bind (impl_parsePage.mono _ _ _) (fun _ => LeO.refl _)

def impl_DecodePage.T4 : Bool × List (List Nat × List Nat) := (true, [([], []), ([0], [0]), ([1], [1]), ([], []), ([3], [3]), ([4], [4]), ([2, 5, 0, 1, 2], [2]), ([5, 6, 0, 1, 2, 3, 4, 5, 6], [5]), ([7, 0, 1, 2, 3, 4, 5, 6, 7], [])])
def impl_DecodePage.B4 : List Nat := [0, 1, 3, 0, 8, 24, 63, 127, 255]
theorem impl_DecodePage.tab4 : rtab .any (opsOf Try.f16 4) = impl_DecodePage.T4 := by kernel_rfl
theorem impl_DecodePage.bits4 : waitsOk impl_DecodePage.T4.2 impl_DecodePage.B4 = true := by kernel_rfl
set_option maxHeartbeats 4000000 in
set_option maxRecDepth 100000 in
theorem impl_DecodePage.calls (k : Nat) (a0 : Int) (A1 : Option Addr) (c1 : Nat) (l1 : List Int) (r1 : Int) (r2 : List Int) (r3 : Bool) (w : World) (hr1 : Kd.C (Kd.int .u8) w A1 l1.length l1) (hc1 : l1.length ≤ c1) (h : impl_DecodePage.f k a0 l1 = some (r1, r2, r3)) :
    Calls Try.prog 16 #[.int .i64 a0, .slice A1 l1.length c1] w fun e w' => ∃ v1_ : Value, e = .returned (.tuple #[.int .i64 r1, v1_, .bool r3]) ∧ Kd.R (Kd.int .u8) 5 w' w.heap.size (fun _ => True) v1_ r2 ∧ Below w.heap.size w w' := by
  have hu102 := Try.underlying102
  have hu100 := Try.underlying100
  unfold impl_DecodePage.f at h
  obtain ⟨p, H1, h⟩ := Option.bind_eq_some_iff.mp h
  have N1 := Aside0.mk H1
  have H := Aside0.mk h
  have HF := Aside0.mk (F_of_C hr1)
  have HC := Aside0.mk hc1
  clear H1 h hr1 hc1
  obtain ⟨tag, id, kind, size, body⟩ := p
  simp only at H
  go_enter Try.func16, Try.ntmps16
  go_wp2_with fail
  refine (impl_parsePage.calls k a0 A1 c1 l1 _ _ (fun _ => True) (Kd.F_below HF.out (by first | exact Below.refl _ _ | exact below_drew1 (Below.refl _ _))) HC.out N1.out).mono ?_
  rintro e w5 ⟨A5, c5, rfl, hc5, hf5, hb5⟩
  have HF5 := Aside0.mk hf5
  have HC5 := Aside0.mk hc5
  have HB := Aside0.mk hb5
  clear hf5 hc5 hb5 HF
  simp only at HF5 HC5 ⊢
  generalize he : perr tag = ve
  go_wp2_with (first | ((with_reducible refine gate_dst (N := 7) rfl ?_); refine box_event ?hg (N := 7) ?hd (cs := #[.int .i64 0, .int .i64 0, .int .i64 0, .slice none 0 0]) (t := 102) ?hr ?_; (case hd => rfl); (case hg => rfl); (case hr => first | (go_simp; done) | (go_simp; rfl)); intro gp hgr w6 hbox hbel; have BP0 := Aside0.mk hbox; have HB1 := Aside0.mk (below_step HB.out hbel); have HL := Aside0.mk hbel; have GP := Aside0.mk hgr; clear hbox hbel hgr) | ((with_reducible refine gate_ (.store 102 (.tmp 7) (.tmp 13)) rfl ?_); refine store_blk rfl rfl 102 (.tmp 7) (.tmp 13) rfl (off := 0) (u := .agg #[.int .i64 id, .int .i64 kind, .int .i64 size, .slice A5 body.length c5]) #[.int .i64 id, .int .i64 kind, .int .i64 size, .slice A5 body.length c5] rfl rfl BP0.out [.int .i64 id, .int .i64 kind, .int .i64 size, .slice A5 body.length c5] rfl (by kernel_rfl) (Nat.le_of_ble_eq_true rfl) rfl rfl ?_; intro w7 hblk hgrw; have BP := Aside0.mk hblk; have HB2 := Aside0.mk (HB1.out.grown hgrw HB1.out.size (by intro q hq; cases hq; exact (by rw [GP.out]; exact HB.out.size))); have HF7 := Aside0.mk (Kd.F_mono (Kd.F_grown (ok := fun k => True ∧ k < w5.heap.size) (Kd.F_below (Kd.F_bound HF5.out) HL.out) hgrw (fun q hq e => by cases e; exact absurd hq.2 (by rw [GP.out]; exact Nat.lt_irrefl _))) (fun _ _ => trivial)); clear hblk hgrw))
  cases tag with
  | succ n =>
    have h := H.out
    rw [if_neg (by omega)] at h
    simp only [Option.some.injEq, Prod.mk.injEq] at h
    obtain ⟨rfl, rfl, rfl⟩ := h
    cases n with
    | zero =>
      simp only [perr] at he
      subst he
      refine (is_any _ _ true (by decide) _).mono ?_
      rintro e w9 ⟨rfl, rfl⟩
      go_wp2_with fail
      go_ret3
      exact ⟨_, rfl, Kd.R_nil _ _ _ _ _, HB2.out⟩
    | succ n =>
      simp only [perr] at he
      subst he
      refine (is_any _ _ false (by decide) _).mono ?_
      rintro e w9 ⟨rfl, rfl⟩
      go_wp2_with fail
      refine (is_any _ _ true (by decide) _).mono ?_
      rintro e w9 ⟨rfl, rfl⟩
      go_wp2_with fail
      go_ret3
      exact ⟨_, rfl, Kd.R_nil _ _ _ _ _, HB2.out⟩
  | zero =>
    have h := H.out
    rw [if_pos rfl] at h
    obtain ⟨b, H2, h⟩ := Option.bind_eq_some_iff.mp h
    simp only [Option.some.injEq, Prod.mk.injEq] at h
    obtain ⟨rfl, rfl, rfl⟩ := h
    have N2 := Aside0.mk H2
    clear H2 H
    simp only [perr] at he
    subst he
    refine (is_nil _ _).mono ?_
    rintro e w9 ⟨rfl, rfl⟩
    go_wp2_with fail
    refine (is_nil _ _).mono ?_
    rintro e w9 ⟨rfl, rfl⟩
    go_wp2_with fail
    refine start_ (n := 9) (S := fun w' => w'.heap[gp]? = some (.cells #[.int .i64 id, .int .i64 kind, .int .i64 size, .slice A5 body.length c5] 102 (0, 0))) (ds := []) #[false, false, false, false, false, false, false, false, false] (by kernel_rfl) rfl rfl (blk_drew BP.out) (fun hHeld => ?_); refine with_tabW impl_DecodePage.tab4 impl_DecodePage.bits4 (fun HT_ HW_ => ?_)
    have HB3 := Aside0.mk (below_drew1 HB2.out)
    have HF8 := Aside0.mk (Kd.F_drew HF7.out)
    clear HB2 HF7 BP
    generalize World.drew _ = w8 at HB3 HF8 hHeld ⊢
    refine pure_ (i := 0) (N := some 23) (v := ?_) (a' := ?_) #[true, false, false, false, false, false, false, false, false] rfl rfl (any_of HT_.out (by kernel_rfl)) (fun _ _ _ h => h) (Or.inl ⟨by rfl, ?_⟩) ?_ ?_
    rotate_left
    · intro w'
      go_simp
      with_reducible rfl
    rotate_left
    · simp only [Act.put, List.setIfInBounds_toArray, List.set_cons_zero, List.set_cons_succ, i64_w, i32_w]
      rfl
    refine pure_ (i := 1) (N := some 24) (v := ?_) (a' := ?_) #[true, true, false, false, false, false, false, false, false] rfl rfl (any_of HT_.out (by kernel_rfl)) (fun _ _ _ h => h) (Or.inl ⟨by rfl, ?_⟩) ?_ ?_
    rotate_left
    · intro w'
      go_simp
      with_reducible rfl
    rotate_left
    · simp only [Act.put, List.setIfInBounds_toArray, List.set_cons_zero, List.set_cons_succ, i64_w, i32_w]
      rfl
    refine take_ (i := 2) (N := some 25) (v := ?_) (a' := ?_) #[true, true, true, false, false, false, false, false, false] rfl rfl (take_ofW HT_.out HW_.out (by kernel_rfl)) (fun _ _ _ h => h) (Or.inl ⟨by rfl, ?_⟩) hHeld ?_ ?_
    rotate_left
    · intro w' s0
      have hcz0 : w'.cell? ⟨gp, 0, none⟩ = some (.int .i64 id) := (blk_cell s0 0).trans rfl
      have hcz1 : w'.cell? ⟨gp, 1, none⟩ = some (.int .i64 kind) := (blk_cell s0 1).trans rfl
      have hcz2 : w'.cell? ⟨gp, 2, none⟩ = some (.int .i64 size) := (blk_cell s0 2).trans rfl
      have hcz3 : w'.cell? ⟨gp, 3, none⟩ = some (.slice A5 body.length c5) := (blk_cell s0 3).trans rfl
      clear s0
      go_simp
      with_reducible rfl
    rotate_left
    · simp only [Act.put, List.setIfInBounds_toArray, List.set_cons_zero, List.set_cons_succ, i64_w, i32_w]
      rfl
    refine pure_ (i := 3) (N := some 26) (v := ?_) (a' := ?_) #[true, true, true, true, false, false, false, false, false] rfl rfl (any_of HT_.out (by kernel_rfl)) (fun _ _ _ h => h) (Or.inl ⟨by rfl, ?_⟩) ?_ ?_
    rotate_left
    · intro w'
      go_simp
      with_reducible rfl
    rotate_left
    · simp only [Act.put, List.setIfInBounds_toArray, List.set_cons_zero, List.set_cons_succ, i64_w, i32_w]
      rfl
    refine take_ (i := 4) (N := some 27) (v := ?_) (a' := ?_) #[true, true, true, true, true, false, false, false, false] rfl rfl (take_ofW HT_.out HW_.out (by kernel_rfl)) (fun _ _ _ h => h) (Or.inl ⟨by rfl, ?_⟩) hHeld ?_ ?_
    rotate_left
    · intro w' s0
      have hcz0 : w'.cell? ⟨gp, 0, none⟩ = some (.int .i64 id) := (blk_cell s0 0).trans rfl
      have hcz1 : w'.cell? ⟨gp, 1, none⟩ = some (.int .i64 kind) := (blk_cell s0 1).trans rfl
      have hcz2 : w'.cell? ⟨gp, 2, none⟩ = some (.int .i64 size) := (blk_cell s0 2).trans rfl
      have hcz3 : w'.cell? ⟨gp, 3, none⟩ = some (.slice A5 body.length c5) := (blk_cell s0 3).trans rfl
      clear s0
      go_simp
      with_reducible rfl
    rotate_left
    · simp only [Act.put, List.setIfInBounds_toArray, List.set_cons_zero, List.set_cons_succ, i64_w, i32_w]
      rfl
    refine one_ (i := 5) (N := some 28) #[true, true, true, true, true, true, false, false, false] rfl rfl (one_of HT_.out (by kernel_rfl)) (by decide) (fun K hK => ?_)
    refine goes_ Try.func72 (by kernel_rfl) rfl #[.slice A5 body.length c5] (by rfl) rfl rfl (by first | rfl | (simp only [List.map_toArray, List.map_cons, List.map_nil]; first | done | rfl)) ?_
    refine (bytes_Clone.calls A5 c5 body b _ (Kd.F_now HF8.out) HC5.out N2.out).mono ?_
    rintro e w9 ⟨v9, rfl, ho9, hb9⟩
    refine ⟨_, rfl, ?_⟩
    have HO9 := Aside0.mk (Kd.R_lower ho9 HB3.out.size)
    have HB9 := Aside0.mk (below_step HB3.out hb9)
    have HD9 := Aside0.mk (blk_below hHeld hb9)
    clear ho9 hb9 hHeld HB3 HF8
    refine hK.out _ _ (HD9.out) (fun hHeld => ?_)
    clear hK K
    refine norm_ (a' := ?_) ?_ ?_
    rotate_left
    · show Act.put _ (some 28) _ = _
      simp only [Act.put, List.setIfInBounds_toArray, List.set_cons_zero, List.set_cons_succ, i64_w, i32_w]
      rfl
    refine pure_ (i := 6) (N := some 4) (v := ?_) (a' := ?_) #[true, true, true, true, true, true, true, false, false] rfl rfl (any_of HT_.out (by kernel_rfl)) (fun _ _ _ h => h) (Or.inl ⟨by rfl, ?_⟩) ?_ ?_
    rotate_left
    · intro w'
      go_simp
      with_reducible rfl
    rotate_left
    · simp only [Act.put, List.setIfInBounds_toArray, List.set_cons_zero, List.set_cons_succ, i64_w, i32_w]
      rfl
    refine pure_ (i := 7) (N := some 5) (v := ?_) (a' := ?_) #[true, true, true, true, true, true, true, true, false] rfl rfl (any_of HT_.out (by kernel_rfl)) (fun _ _ _ h => h) (Or.inl ⟨by rfl, ?_⟩) ?_ ?_
    rotate_left
    · intro w'
      go_simp
      with_reducible rfl
    rotate_left
    · simp only [Act.put, List.setIfInBounds_toArray, List.set_cons_zero, List.set_cons_succ, i64_w, i32_w]
      rfl
    refine pure_ (i := 8) (N := some 6) (v := ?_) (a' := ?_) #[true, true, true, true, true, true, true, true, true] rfl rfl (any_of HT_.out (by kernel_rfl)) (fun _ _ _ h => h) (Or.inl ⟨by rfl, ?_⟩) ?_ ?_
    rotate_left
    · intro w'
      go_simp
      with_reducible rfl
    rotate_left
    · simp only [Act.put, List.setIfInBounds_toArray, List.set_cons_zero, List.set_cons_succ, i64_w, i32_w]
      rfl
    refine done_ (done_of HT_.out (by kernel_rfl)) ?_
    try clear hHeld
    go_wp2_with fail
    go_ret3
    exact ⟨_, rfl, HO9.out, HB9.out⟩

def impl_EncodePage.f (k : Nat) (a0 : Int) (a1 : Int) (l2 : List Int) : Option (List Int × Bool) :=
  (impl_head_valid.f a0 a1 (l2.length : Int)).bind fun hv => if hv = true then ((impl_page_bytes.f k a0 a1 (l2.length : Int) l2).bind fun pb => some (pb, true)) else some ([], false)
theorem impl_EncodePage.mono : ∀ a0 a1 a2 k, LeO (impl_EncodePage.f k a0 a1 a2) (impl_EncodePage.f (k + 1) a0 a1 a2) := by
  intro a0 a1 a2 k
  unfold impl_EncodePage.f
  exact LeO.bind (LeO.refl _) (fun _ => LeO.ite (LeO.bind (impl_page_bytes.mono _ _ _ _ _) (fun _ => LeO.refl _)) (LeO.refl _))
set_option maxHeartbeats 4000000 in
set_option maxRecDepth 100000 in
theorem impl_EncodePage.calls (k : Nat) (a0 : Int) (a1 : Int) (A2 : Option Addr) (c2 : Nat) (l2 : List Int) (r1 : List Int) (r2 : Bool) (w : World) (hr2 : Kd.C (Kd.int .u8) w A2 l2.length l2) (hc2 : l2.length ≤ c2) (h : impl_EncodePage.f k a0 a1 l2 = some (r1, r2)) :
    Calls Try.prog 22 #[.int .i64 a0, .int .i64 a1, .slice A2 l2.length c2] w fun e w' => ∃ v0_ : Value, e = .returned (.tuple #[v0_, .bool r2]) ∧ Kd.R (Kd.int .u8) 5 w' w.heap.size (fun _ => True) v0_ r1 ∧ Below w.heap.size w w' := by
  have hu102 := Try.underlying102
  have hu100 := Try.underlying100
  unfold impl_EncodePage.f at h
  obtain ⟨hv, H1, h⟩ := Option.bind_eq_some_iff.mp h
  have N1 := Aside0.mk H1
  have H := Aside0.mk h
  have HR := Aside0.mk hr2
  have HC := Aside0.mk hc2
  clear H1 h hr2 hc2
  go_enter Try.func22, Try.ntmps22
  go_wp2_with (first | ((with_reducible refine gate_dst (N := 8) rfl ?_); refine box_event ?hg (N := 8) ?hd (cs := #[.int .i64 0, .int .i64 0, .int .i64 0, .slice none 0 0]) (t := 102) ?hr ?_; (case hd => rfl); (case hg => rfl); (case hr => first | (go_simp; done) | (go_simp; rfl)); intro gp hgr w6 hbox hbel; have BP0 := Aside0.mk hbox; have HB1 := Aside0.mk hbel; have GP := Aside0.mk hgr; clear hbox hbel hgr) | ((with_reducible refine gate_ (.store 102 (.tmp 8) (.tmp 15)) rfl ?_); refine store_blk rfl rfl 102 (.tmp 8) (.tmp 15) rfl (off := 0) (u := .agg #[.int .i64 a0, .int .i64 a1, .int .i64 (l2.length : Int), .slice A2 l2.length c2]) #[.int .i64 a0, .int .i64 a1, .int .i64 (l2.length : Int), .slice A2 l2.length c2] rfl rfl BP0.out [.int .i64 a0, .int .i64 a1, .int .i64 (l2.length : Int), .slice A2 l2.length c2] rfl (by kernel_rfl) (Nat.le_of_ble_eq_true rfl) rfl rfl ?_; intro w7 hblk hgrw; have BP := Aside0.mk hblk; have HB2 := Aside0.mk (HB1.out.grown hgrw HB1.out.size (by intro q hq; cases hq; exact Nat.le_of_eq GP.out.symm)); have hcz0 : w7.cell? ⟨gp, 0, none⟩ = some (.int .i64 a0) := (blk_cell BP.out 0).trans rfl; have hcz1 : w7.cell? ⟨gp, 1, none⟩ = some (.int .i64 a1) := (blk_cell BP.out 1).trans rfl; have hcz2 : w7.cell? ⟨gp, 2, none⟩ = some (.int .i64 (l2.length : Int)) := (blk_cell BP.out 2).trans rfl; have hcz3 : w7.cell? ⟨gp, 3, none⟩ = some (.slice A2 l2.length c2) := (blk_cell BP.out 3).trans rfl; clear hblk hgrw))
  refine (impl_head_valid.calls a0 a1 _ hv _ N1.out).mono ?_
  rintro e w8 ⟨rfl, hb8⟩
  have BP2 := Aside0.mk (blk_below BP.out hb8)
  have HB3 := Aside0.mk (below_step HB2.out hb8)
  clear hb8 BP HB2 hcz0 hcz1 hcz2 hcz3
  cases hv with
  | false =>
    have h := H.out
    rw [if_neg (by decide)] at h
    simp only [Option.some.injEq, Prod.mk.injEq] at h
    obtain ⟨rfl, rfl⟩ := h
    go_wp2_with fail
    go_ret2
    exact ⟨_, rfl, Kd.R_nil _ _ _ _ _, HB3.out⟩
  | true =>
    have h := H.out
    rw [if_pos rfl] at h
    obtain ⟨pb, H2, h⟩ := Option.bind_eq_some_iff.mp h
    simp only [Option.some.injEq, Prod.mk.injEq] at h
    obtain ⟨rfl, rfl⟩ := h
    have N2 := Aside0.mk H2
    clear H2 H
    have hcz0 : w8.cell? ⟨gp, 0, none⟩ = some (.int .i64 a0) := (blk_cell BP2.out 0).trans rfl
    have hcz1 : w8.cell? ⟨gp, 1, none⟩ = some (.int .i64 a1) := (blk_cell BP2.out 1).trans rfl
    have hcz2 : w8.cell? ⟨gp, 2, none⟩ = some (.int .i64 (l2.length : Int)) := (blk_cell BP2.out 2).trans rfl
    have hcz3 : w8.cell? ⟨gp, 3, none⟩ = some (.slice A2 l2.length c2) := (blk_cell BP2.out 3).trans rfl
    go_wp2_with fail
    refine (impl_page_bytes.calls k a0 a1 _ A2 c2 l2 pb _ (Kd.C_below HR.out HB3.out) HC.out N2.out).mono ?_
    rintro e w9 ⟨v9, rfl, ho9, hb9⟩
    have HO9 := Aside0.mk (Kd.R_lower ho9 HB3.out.size)
    have HB9 := Aside0.mk (below_step HB3.out hb9)
    clear ho9 hb9
    go_wp2_with fail
    go_ret2
    exact ⟨_, rfl, HO9.out, HB9.out⟩
end Go.Proofs.Ytlopmffdebhpfaa.G

/-! ## Enc -/
namespace Go.Proofs.Ytlopmffdebhpfaa.Pure
open Go.RowKit Go.Proofs.Ytlopmffdebhpfaa.G Go.Proofs.YtlopmffdebhpfaaW.PrintWords Go.Proofs.YtlopmffdebhpfaaW.PrintLast Go.Proofs.YtlopmffdebhpfaaW.PrintMore

/-- A number in n bytes. -/
def leN : Nat → Nat → List Int
  | 0, _ => []
  | n + 1, v => ((v % 256 : Nat) : Int) :: leN n (v / 256)
theorem leN_length : ∀ (n v : Nat), (leN n v).length = n
  | 0, _ => rfl
  | n + 1, v => by simp [leN, leN_length n]
theorem leN_by : ∀ (n v : Nat), By (leN n v)
  | 0, _ => By.nil
  | n + 1, v => By.cons ⟨by omega, by omega⟩ (leN_by n _)

theorem spec_num_l0 (k n : Nat) (hn : n < 1000) : ∀ (m v i : Nat) (acc : List Int), i + m = n → v < 2 ^ 63 → acc.length + m < 1000 → spec_l2Num.l0 (k + m + 1) (v : Int) (n : Int) acc (i : Int) = some (acc ++ leN m v)
  | 0, v, i, acc, hi, hv, hl => by
    unfold spec_l2Num.l0
    rw [if_neg (by omega)]
    simp [leN]
  | m + 1, v, i, acc, hi, hv, hl => by
    unfold spec_l2Num.l0
    rw [if_pos (by omega), if_pos (by omega), w64 (n := (i : Int) + 1) (by omega) (by omega)]
    rw [show Int.tdiv (v : Int) 256 = ((v / 256 : Nat) : Int) from rfl, w64 (by omega) (by omega), show Int.tmod (v : Int) 256 = ((v % 256 : Nat) : Int) from rfl]
    rw [show ((v % 256 : Nat) : Int) % 256 = ((v % 256 : Nat) : Int) by omega]
    have ih := spec_num_l0 k n hn m (v / 256) (i + 1) (acc ++ [((v % 256 : Nat) : Int)]) (by omega) (by omega) (by simp; omega)
    rw [show (((i + 1 : Nat)) : Int) = (i : Int) + 1 by omega] at ih
    rw [show k + (m + 1) = k + m + 1 by omega, ih]
    simp [leN]
theorem spec_num {v n : Nat} (hv : v < 2 ^ 63) (hn : n < 999) : Cv (fun k => spec_l2Num.f k (v : Int) (n : Int)) (leN n v) :=
  Cv.from (m := n + 1) (fun k => by
    have h := spec_num_l0 k n (by omega) n v 0 [] (by omega) hv (by simp; omega)
    unfold spec_l2Num.f
    exact h)

theorem impl_low_l0 (k v n : Nat) (hn : n ≤ 8) (hv : v < 2 ^ 63) : ∀ (m i : Nat) (pre : List Int), i + m = n → pre.length = i → impl_low.l0 (k + m + 1) (v : Int) (pre ++ List.replicate m 0) (n : Int) (i : Int) = some (pre ++ leN m (v / 2 ^ (8 * i)))
  | 0, i, pre, hi, hp => by
    unfold impl_low.l0
    rw [if_neg (by omega)]
    simp [leN]
  | m + 1, i, pre, hi, hp => by
    unfold impl_low.l0
    have hlen : (pre ++ List.replicate (m + 1) (0 : Int)).length = n := by simp; omega
    rw [w64 (n := 8 * (i : Int)) (by omega) (by omega)]
    rw [if_pos (by omega), if_pos (by omega), if_pos (by omega), if_pos (by omega), w64 (n := (i : Int) + 1) (by omega) (by omega)]
    have e1 : shr .i64 (v : Int) (8 * (i : Int)) % 256 = ((v / 2 ^ (8 * i) % 256 : Nat) : Int) := by
      unfold shr
      rw [show (8 * (i : Int)).toNat = 8 * i by omega, show min (8 * i) IntKind.i64.bits = 8 * i from Nat.min_eq_left (by show 8 * i ≤ 64; omega)]
      rw [show ((2 : Int) ^ (8 * i)) = ((2 ^ (8 * i) : Nat) : Int) by push_cast; rfl]
      rfl
    rw [e1]
    have e2 : (pre ++ List.replicate (m + 1) (0 : Int)).set ((i : Int)).toNat ((v / 2 ^ (8 * i) % 256 : Nat) : Int) = (pre ++ [((v / 2 ^ (8 * i) % 256 : Nat) : Int)]) ++ List.replicate m 0 := by
      rw [Int.toNat_natCast, List.set_append_right _ _ (by omega), show i - pre.length = 0 by omega, List.replicate_succ, List.set_cons_zero, List.append_assoc, List.singleton_append]
    rw [e2]
    have ih := impl_low_l0 k v n hn hv m (i + 1) (pre ++ [((v / 2 ^ (8 * i) % 256 : Nat) : Int)]) (by omega) (by simp; omega)
    rw [show (((i + 1 : Nat)) : Int) = (i : Int) + 1 by omega] at ih
    rw [show k + (m + 1) = k + m + 1 by omega, ih]
    simp only [leN, List.append_assoc, List.singleton_append]
    rw [show 8 * (i + 1) = 8 * i + 8 by omega, Nat.pow_add, ← Nat.div_div_eq_div_mul]
theorem impl_num {v n : Nat} (hv : v < 2 ^ 63) (hn : n ≤ 8) : Cv (fun k => impl_low.f k (v : Int) (n : Int)) (leN n v) :=
  Cv.from (m := n + 1) (fun k => by
    have h := impl_low_l0 k v n hn hv n 0 [] (by omega) rfl
    unfold impl_low.f
    rw [if_pos (by omega), if_pos (by omega), Option.bind_some, Int.toNat_natCast, List.length_replicate, ← Nat.add_assoc]
    simpa using h)

/-- The page's bytes behind the checksum; the page. -/
def restOf (id kind : Nat) (body : List Int) : List Int := leN 4 id ++ ([((kind % 256 : Nat) : Int), 0] ++ (leN 2 body.length ++ ([0, 0, 0, 0] ++ (body ++ List.replicate (240 - body.length) 0))))
def pageOf (id kind : Nat) (body : List Int) : List Int := leN 4 (crc (restOf id kind body)) ++ restOf id kind body
theorem zeros4 : leN 4 0 = [0, 0, 0, 0] := rfl
theorem restOf_length (id kind : Nat) {body : List Int} (h : body.length ≤ 240) : (restOf id kind body).length = 252 := by
  simp [restOf, leN_length]; omega
theorem restOf_by (id kind : Nat) {body : List Int} (h : By body) : By (restOf id kind body) := by
  refine (leN_by _ _).append (By.append (By.cons ⟨by omega, by omega⟩ (By.cons (by decide) By.nil)) ((leN_by _ _).append (By.append (By.zeros 4) (By.append h (By.zeros _)))))
theorem pageOf_length (id kind : Nat) {body : List Int} (h : body.length ≤ 240) : (pageOf id kind body).length = 256 := by
  simp [pageOf, leN_length, restOf_length id kind h]
theorem pageOf_by (id kind : Nat) {body : List Int} (h : By body) : By (pageOf id kind body) := (leN_by _ _).append (restOf_by _ _ h)

theorem head_bytes {id kind size : Nat} (hi : id < 2 ^ 32) (hs : size < 2 ^ 16) : Cv (fun k => impl_head_bytes.f k (id : Int) (kind : Int) (size : Int)) (leN 4 id ++ ([((kind % 256 : Nat) : Int), 0] ++ (leN 2 size ++ [0, 0, 0, 0]))) := by
  unfold impl_head_bytes.f
  refine Cv.bind (impl_num (n := 4) (by omega) (by omega)) ?_
  refine Cv.bind (impl_num (n := 2) (by omega) (by omega)) ?_
  refine Cv.bind (impl_num (v := 0) (n := 4) (by omega) (by omega)) ?_
  refine Cv.of ?_
  unfold bytes_Join.f
  rw [if_pos]
  · simp only [Option.bind_some, Option.some.injEq, zeros4]
    simp
  · refine ⟨by simp, rfl, by simp, by simp [leN_length], ?_⟩
    have hall : ∀ l ∈ [leN 4 id, [(kind : Int) % 256, 0], leN 2 size, leN 4 0], By l := by
      intro l hl
      simp only [List.mem_cons, List.not_mem_nil, or_false] at hl
      rcases hl with rfl | rfl | rfl | rfl
      · exact leN_by _ _
      · exact By.cons ⟨by omega, by omega⟩ (By.cons (by decide) By.nil)
      · exact leN_by _ _
      · exact leN_by _ _
    exact hall
theorem spl_mid (a b c y : List Int) (o : Nat) (ho : a.length = o) (hy : y.length = b.length) : spl (a ++ (b ++ c)) o y = a ++ (y ++ c) := by
  subst ho
  unfold spl
  rw [List.take_left', hy, List.append_assoc]
  · congr 2
    rw [← List.append_assoc, ← List.length_append, List.drop_left']
    rfl
  · rfl

theorem page_bytes {id kind : Nat} {body : List Int} (hi : id < 2 ^ 32) (hb : By body) (hl : body.length ≤ 240) : Cv (fun k => impl_page_bytes.f k (id : Int) (kind : Int) (body.length : Int) body) (pageOf id kind body) := by
  unfold impl_page_bytes.f
  refine Cv.bind (head_bytes hi (by omega)) ?_
  refine Cv.pos (by simp [leN_length]) (Cv.pos hl ?_)
  have e1 : pageRest (leN 4 id ++ ([((kind % 256 : Nat) : Int), 0] ++ (leN 2 body.length ++ [0, 0, 0, 0]))) body = [0, 0, 0, 0] ++ restOf id kind body := by
    have hz : List.replicate 256 (0 : Int) = List.replicate 4 0 ++ (List.replicate 12 0 ++ (List.replicate body.length 0 ++ List.replicate (240 - body.length) 0)) := by
      rw [List.replicate_append_replicate, List.replicate_append_replicate, List.replicate_append_replicate]
      congr 1
      omega
    unfold pageRest
    rw [hz, spl_mid _ _ _ _ 4 (by simp) (by simp [leN_length]), ← List.append_assoc, spl_mid _ _ _ _ 16 (by simp [leN_length]) (by simp)]
    simp [restOf, List.append_assoc, List.replicate_succ]
  rw [e1]
  have e2 : ([0, 0, 0, 0] ++ restOf id kind body).drop 4 = restOf id kind body := rfl
  rw [e2]
  refine Cv.bind (impl_crc (restOf_by _ _ hb) (by rw [restOf_length _ _ hl]; decide)) ?_
  refine Cv.bind (impl_num (n := 4) (by have := crc_lt (restOf_by id kind hb); omega) (by omega)) ?_
  refine Cv.pos (by simp [leN_length]) (Cv.of ?_)
  unfold spl pageOf
  rw [leN_length]
  simp

/-! ### the document's page -/
def okPage (id kind : Int) (n : Nat) : Prop := 0 ≤ id ∧ id ≤ 1023 ∧ 1 ≤ kind ∧ kind ≤ 4 ∧ n ≤ 240
instance (id kind : Int) (n : Nat) : Decidable (okPage id kind n) := by unfold okPage; exact inferInstance
theorem spec_pad (k : Nat) (g : List Int → Option (List Int × Bool)) (hg : True) : ∀ (m : Nat) (x : List Int), x.length + m = 252 → spec_EncodePage.l0 (k + m) x = spec_EncodePage.l0 k (x ++ List.replicate m 0)
  | 0, x, h => by simp
  | m + 1, x, h => by
    have ih := spec_pad k g hg m (x ++ [0]) (by simp; omega)
    rw [show k + (m + 1) = (k + m) + 1 by omega]
    conv => lhs; unfold spec_EncodePage.l0
    rw [if_pos (by omega), if_pos (by omega), ih, List.append_assoc]
    rfl
theorem spec_tail {x : List Int} (hb : By x) (hx : x.length ≤ 252) : Cv (fun k => spec_EncodePage.l0 k x) (leN 4 (crc (x ++ List.replicate (252 - x.length) 0)) ++ (x ++ List.replicate (252 - x.length) 0), true) := by
  have hb2 : By (x ++ List.replicate (252 - x.length) 0) := hb.append (By.zeros _)
  have hlen : (x ++ List.replicate (252 - x.length) (0 : Int)).length = 252 := by simp; omega
  have h1 : Cv (fun k => spec_EncodePage.l0 k (x ++ List.replicate (252 - x.length) 0)) (leN 4 (crc (x ++ List.replicate (252 - x.length) 0)) ++ (x ++ List.replicate (252 - x.length) 0), true) := by
    refine Cv.succ (f := fun k => (spec_Crc32.f k (x ++ List.replicate (252 - x.length) 0)).bind fun t138 => ((spec_l2Num.f k t138 4).bind fun t139 => (if t139.length + (x ++ List.replicate (252 - x.length) (0 : Int)).length < 140737488355328 then (some ((t139 ++ (x ++ List.replicate (252 - x.length) 0)), true)) else (none)))) ?_ (fun k => ?_)
    · refine Cv.bind (spec_crc hb2 (by omega)) (Cv.bind (spec_num (n := 4) (by have := crc_lt hb2; omega) (by omega)) ?_)
      exact Cv.pos (by rw [leN_length, hlen]; decide) (Cv.of rfl)
    · conv => lhs; unfold spec_EncodePage.l0
      rw [if_neg (by omega)]
  obtain ⟨K, hK⟩ := h1
  refine ⟨K + (252 - x.length), fun k hk => ?_⟩
  obtain ⟨j, rfl⟩ : ∃ j, k = j + (252 - x.length) := ⟨k - (252 - x.length), by omega⟩
  show spec_EncodePage.l0 (j + (252 - x.length)) x = _
  rw [spec_pad j (fun _ => none) trivial (252 - x.length) x (by omega)]
  exact hK j (by omega)
theorem spec_j0_true (x0 x1 : Int) (x2 : List Int) : Cv (fun k => spec_EncodePage.j0 k x0 x1 x2 true) ([], false) :=
  Cv.from (m := 1) (fun k => by unfold spec_EncodePage.j0; dsimp only; rw [if_pos rfl])
theorem spec_j0_false {id kind : Nat} {body : List Int} (hi : id ≤ 1023) (hb : By body) (hl : body.length ≤ 240) : Cv (fun k => spec_EncodePage.j0 k (id : Int) (kind : Int) body false) (pageOf id kind body, true) := by
  refine Cv.succ (f := fun k => (spec_l2Num.f k (id : Int) 4).bind fun t111 => ((some (([((kind : Int)) % 256, 0] : List Int) : List Int)).bind fun y114 => (if t111.length + y114.length < 140737488355328 then ((some (t111 ++ y114 : List Int)).bind fun y117 => ((spec_l2Num.f k (body.length : Int) 2).bind fun t120 => (if y117.length + t120.length < 140737488355328 then ((some (y117 ++ t120 : List Int)).bind fun y123 => ((some (([0, 0, 0, 0] : List Int) : List Int)).bind fun y126 => (if y123.length + y126.length < 140737488355328 then ((some (y123 ++ y126 : List Int)).bind fun y129 => (if y129.length + body.length < 140737488355328 then (spec_EncodePage.l0 k (y129 ++ body)) else (none))) else (none)))) else (none)))) else (none)))) ?_ (fun k => ?_)
  · refine Cv.bind (spec_num (n := 4) (by omega) (by omega)) ?_
    refine Cv.bind (Cv.of rfl) ?_
    refine Cv.pos (by simp [leN_length]) ?_
    refine Cv.bind (Cv.of rfl) ?_
    refine Cv.bind (spec_num (n := 2) (by omega) (by omega)) ?_
    refine Cv.pos (by simp [leN_length]) ?_
    refine Cv.bind (Cv.of rfl) ?_
    refine Cv.bind (Cv.of rfl) ?_
    refine Cv.pos (by simp [leN_length]) ?_
    refine Cv.bind (Cv.of rfl) ?_
    refine Cv.pos (by simp [leN_length]; omega) ?_
    have hx : By (leN 4 id ++ [((kind : Int)) % 256, 0] ++ leN 2 body.length ++ [0, 0, 0, 0] ++ body) :=
      ((((leN_by _ _).append (By.cons ⟨by omega, by omega⟩ (By.cons (by decide) By.nil))).append (leN_by _ _)).append (By.zeros 4)).append hb
    have hlen : (leN 4 id ++ [((kind : Int)) % 256, 0] ++ leN 2 body.length ++ [0, 0, 0, 0] ++ body).length = 12 + body.length := by simp [leN_length]; omega
    have h := spec_tail hx (by omega)
    have e : (leN 4 id ++ [((kind : Int)) % 256, 0] ++ leN 2 body.length ++ [0, 0, 0, 0] ++ body) ++ List.replicate (252 - (leN 4 id ++ [((kind : Int)) % 256, 0] ++ leN 2 body.length ++ [0, 0, 0, 0] ++ body).length) 0 = restOf id kind body := by
      rw [hlen, show 252 - (12 + body.length) = 240 - body.length by omega]
      simp [restOf, List.append_assoc]
    rw [e] at h
    exact h
  · conv => lhs; unfold spec_EncodePage.j0
    dsimp only
    rw [if_neg (by decide)]
/-- What EncodePage gives. -/
def encV (id kind : Int) (body : List Int) : List Int × Bool := if okPage id kind body.length then (pageOf id.toNat kind.toNat body, true) else ([], false)
theorem spec_enc {id kind : Int} {body : List Int} (hb : By body) : Cv (fun k => spec_EncodePage.f k id kind body) (encV id kind body) := by
  unfold spec_EncodePage.f encV
  by_cases h1 : id < 0
  · rw [if_neg (by unfold okPage; omega)]
    exact Cv.pos h1 (spec_j0_true _ _ _)
  refine Cv.neg h1 ?_
  by_cases h2 : id > 1023
  · rw [if_neg (by unfold okPage; omega)]
    exact Cv.pos h2 (spec_j0_true _ _ _)
  refine Cv.neg h2 ?_
  by_cases h3 : kind < 1
  · rw [if_neg (by unfold okPage; omega)]
    exact Cv.pos h3 (spec_j0_true _ _ _)
  refine Cv.neg h3 ?_
  by_cases h4 : kind > 4
  · rw [if_neg (by unfold okPage; omega)]
    exact Cv.pos h4 (spec_j0_true _ _ _)
  refine Cv.neg h4 ?_
  by_cases h5 : (body.length : Int) > 240
  · rw [if_neg (by unfold okPage; omega), decide_eq_true h5]
    exact spec_j0_true _ _ _
  · rw [if_pos (by unfold okPage; omega), decide_eq_false h5]
    obtain ⟨i, rfl⟩ := Int.eq_ofNat_of_zero_le (show 0 ≤ id by omega)
    obtain ⟨q, rfl⟩ := Int.eq_ofNat_of_zero_le (show 0 ≤ kind by omega)
    exact spec_j0_false (by omega) hb (by omega)
theorem valid_eq (id kind size : Int) : impl_head_valid.f id kind size = some (decide (0 ≤ id ∧ id ≤ 1023 ∧ 1 ≤ kind ∧ kind ≤ 4 ∧ size ≤ 240)) := by
  unfold impl_head_valid.f
  split
  · split
    · split
      · split
        · simp_all
        · rw [decide_eq_false (by omega)]
      · rw [decide_eq_false (by omega)]
    · rw [decide_eq_false (by omega)]
  · rw [decide_eq_false (by omega)]
theorem impl_enc {id kind : Int} {body : List Int} (hb : By body) : Cv (fun k => impl_EncodePage.f k id kind body) (encV id kind body) := by
  unfold impl_EncodePage.f encV
  refine Cv.bind (Cv.of (valid_eq _ _ _)) ?_
  by_cases h : okPage id kind body.length
  · rw [if_pos h]
    unfold okPage at h
    refine Cv.pos (decide_eq_true (by omega)) ?_
    obtain ⟨i, rfl⟩ := Int.eq_ofNat_of_zero_le (show 0 ≤ id by omega)
    obtain ⟨q, rfl⟩ := Int.eq_ofNat_of_zero_le (show 0 ≤ kind by omega)
    exact Cv.bind (page_bytes (by omega) hb (by omega)) (Cv.of rfl)
  · rw [if_neg h]
    unfold okPage at h
    exact Cv.neg (by rw [decide_eq_true_eq]; omega) (Cv.of rfl)
end Go.Proofs.Ytlopmffdebhpfaa.Pure

/-! ## G15 -/
namespace Go.Proofs.Ytlopmffdebhpfaa.G
open Go.RowKit Go.Proofs.YtlopmffdebhpfaaW.PrintWords Go.Proofs.YtlopmffdebhpfaaW.PrintLast Go.Proofs.YtlopmffdebhpfaaW.PrintMore
attribute [local go_sem] max2_int min2_int max_two min_two max_three min_three max_four min_four
set_option linter.unusedVariables false
set_option linter.unusedSimpArgs false

/-! ### laws_toByteS: function 15 -/
def laws_toByteS.l0 : Nat → List Int → List Int → Int → Option (List Int)
  | 0, _, _, _ => none
  | k + 1, x0, x3, x4 => if x4 < (x0.length : Int) then (if 0 ≤ x4 then (if x4 < (x3.length : Int) then (laws_toByteS.l0 k x0 (x3.set (x4 : Int).toNat (rd x0 x4)) (wrap64 (x4 + 1))) else (none)) else (none)) else (some x3)
def laws_toByteS.f (k : Nat) (l0 : List Int) : Option (List Int) := if 0 ≤ (l0.length : Int) then (if ((l0.length : Int) : Int).toNat ≤ 281474976710656 then (laws_toByteS.l0 k l0 (List.replicate ((l0.length : Int) : Int).toNat 0) 0) else (none)) else (none)
set_option maxRecDepth 100000 in
theorem laws_toByteS.mono_l : ∀ k, (∀ y0 y1 y2, LeO (laws_toByteS.l0 k y0 y1 y2) (laws_toByteS.l0 (k + 1) y0 y1 y2))
  | 0 => fun _ _ _ r h => by simp [laws_toByteS.l0] at h
  | k + 1 => by
    have ih0 := laws_toByteS.mono_l k
    · intro y0 y1 y2
      unfold laws_toByteS.l0
      repeat' first
      | (with_reducible exact ih0 _ _ _)
      | (with_reducible exact LeO.refl _)
      | (with_reducible exact LeO.none _)
      | (with_reducible refine LeO.ite ?_ ?_)
      | (with_reducible refine LeO.bind ?_ (fun _ => ?_))
      | exact ih0 _ _ _
      | exact LeO.none _
      | refine LeO.ite ?_ ?_
      | refine LeO.bind ?_ (fun _ => ?_)
set_option maxRecDepth 100000 in
theorem laws_toByteS.mono : ∀ a0 k, LeO (laws_toByteS.f k a0) (laws_toByteS.f (k + 1) a0) := by
  intro a0 k
  have ih0 := laws_toByteS.mono_l k
  unfold laws_toByteS.f
  repeat' first
      | (with_reducible exact ih0 _ _ _)
      | (with_reducible exact LeO.refl _)
      | (with_reducible exact LeO.none _)
      | (with_reducible refine LeO.ite ?_ ?_)
      | (with_reducible refine LeO.bind ?_ (fun _ => ?_))
      | exact ih0 _ _ _
      | exact LeO.none _
      | refine LeO.ite ?_ ?_
      | refine LeO.bind ?_ (fun _ => ?_)
set_option maxHeartbeats 8000000 in
set_option maxRecDepth 100000 in
theorem laws_toByteS.calls (k : Nat) (A0 : Option Addr) (c0 : Nat) (l0 : List Int) (r : List Int) (w : World) (hr0 : Kd.C (Kd.int .u8) w A0 l0.length l0) (hc0 : l0.length ≤ c0) (h : laws_toByteS.f k l0 = some r) :
    Calls Try.prog 15 #[.slice A0 l0.length c0] w fun e w' => ∃ v0_ : Value, e = .returned (v0_) ∧ Kd.R (Kd.int .u8) 5 w' w.heap.size (fun _ => True) v0_ r ∧ Below w.heap.size w w' := by
  have HR0 := Aside0.mk hr0
  have HC0 := Aside0.mk hc0
  clear hr0 hc0
  have HB := Aside0.mk (Below.refl w.heap.size w)
  have H : (if 0 ≤ (l0.length : Int) then (if ((l0.length : Int) : Int).toNat ≤ 281474976710656 then (laws_toByteS.l0 k l0 (List.replicate ((l0.length : Int) : Int).toNat 0) 0) else (none)) else (none)) = some r := h
  clear h
  by_cases c2 : 0 ≤ (l0.length : Int)
  · rw [if_pos c2] at H
    have c2b0 := eq_true c2
    have c2b1 : decide (0 ≤ (l0.length : Int)) = true := decide_eq_true c2
    clear c2
    by_cases c3 : ((l0.length : Int) : Int).toNat ≤ 281474976710656
    · rw [if_pos c3] at H
      have c3b0 := eq_true c3
      have c3b1 : decide (((l0.length : Int) : Int).toNat ≤ 281474976710656) = true := decide_eq_true c3
      clear c3
      obtain ⟨y171, hy171⟩ : ∃ y_ : List Int, y_ = (List.replicate ((l0.length : Int) : Int).toNat 0) := ⟨_, rfl⟩
      replace H : (laws_toByteS.l0 k l0 y171 0) = some r := by first | (rw [hy171]; with_reducible exact H) | (have H2_ := (Option.bind_some _ _).symm.trans H; rw [hy171]; with_reducible exact H2_) | (have H2_ := (Option.bind_some _ _).symm.trans H; with_reducible exact H2_) | with_reducible exact H | (rw [hy171]; exact H) | exact H
      have Ny171 := Aside0.mk hy171
      clear hy171
      have H' := Aside0.mk H
      clear H
      go_enter Try.func15, Try.ntmps15
      go_wp2_with (first | ((with_reducible refine gate_dst (N := 7) rfl ?_); refine Kd.R_make (Kd.int .u8) _ 5 rfl (N := 7) rfl 22 _ _ rfl (l0.length : Int) rfl rfl Try.underlying22 (.int .u8 0) 1 info5 rfl (by decide) (by omega) 0 (ok := fun _ => True) (okp := fun _ => True) rfl (fun _ hk => hk) trivial (of_decide_eq_true (by first | (with_reducible assumption) | assumption)) (Nat.le_trans (Nat.mul_le_mul_right _ (of_decide_eq_true (by first | (with_reducible assumption) | assumption) : (l0.length : Int).toNat ≤ 281474976710656)) (by omega)) (Below.refl _ _) (Nat.le_refl _) ?_; intro v172 w4 ho5 hb hg_ hnew_; clear hg_ hnew_; (first | rw [← Ny171.out] at ho5 | (simp only [Int.reduceToNat] at ho5; rw [← Ny171.out] at ho5)); have n0_ := Aside0.mk (Kd.R_lower ho5 (below_size (by repeat (first | (with_reducible first | exact HB.out | apply below_alloc | apply pw_below_drewN | apply below_drew1) | exact HB.out)))); have n1_ := Aside0.mk (below_step (by repeat (first | (with_reducible first | exact HB.out | apply below_alloc | apply pw_below_drewN | apply below_drew1) | exact HB.out)) hb); clear HB; have HO173 := n0_; have HB := n1_; clear n0_ n1_; clear hb ho5))
      go_loopg [4] k (fun kq v4 w' => ∃ (x3_1 : List Int) (x4_1 : Int), v4 = .int .i64 x4_1 ∧ Aside0 (laws_toByteS.l0 kq l0 x3_1 x4_1 = some r) ∧ Aside0 (kq ≤ k) ∧ Aside0 (Kd.R (Kd.int .u8) 5 w' w.heap.size (fun _ => True) v172 x3_1) ∧ Aside0 (Below w.heap.size w w'))
      case atStart => exact ⟨(y171), (0), (by first | rfl | (simp; done) | (simp [*]; done)), H', ⟨Nat.le_refl _⟩, ⟨by (with_reducible repeat (first | apply Kd.R_alloc | apply Kd.R_drewN | apply Kd.R_drew)); exact HO173.out⟩, ⟨by repeat (first | (with_reducible first | exact HB.out | apply below_alloc | apply pw_below_drewN | apply below_drew1) | exact HB.out)⟩⟩
      case round =>
        clear H'
        try clear c1
        try clear c2
        try clear c2b0
        try clear c2b1
        try clear p2
        try clear c3
        try clear c3b0
        try clear c3b1
        obtain ⟨x3_1, x4_1, rfl, HA, HK1, HO_3, HB⟩ := hrel
        cases gk with
        | zero => exact absurd HA.out (by simp [laws_toByteS.l0])
        | succ k1 =>
          have H := HA.out
          clear HA
          simp only [laws_toByteS.l0] at H
          by_cases c6 : x4_1 < (l0.length : Int)
          · rw [if_pos c6] at H
            have c6b0 : decide (x4_1 < (l0.length : Int)) = true := decide_eq_true c6
            clear c6
            by_cases c7 : 0 ≤ x4_1
            · rw [if_pos c7] at H
              have c7b0 : decide (0 ≤ x4_1) = true := decide_eq_true c7
              clear c7
              by_cases c8 : x4_1 < (x3_1.length : Int)
              · rw [if_pos c8] at H
                have c8b0 : decide (x4_1 < (x3_1.length : Int)) = true := decide_eq_true c8
                clear c8
                obtain ⟨y175, hy175⟩ : ∃ y_ : List Int, y_ = (x3_1.set (x4_1 : Int).toNat (rd l0 x4_1)) := ⟨_, rfl⟩
                replace H : (laws_toByteS.l0 k1 l0 y175 (wrap64 (x4_1 + 1))) = some r := by first | (rw [hy175]; with_reducible exact H) | (have H2_ := (Option.bind_some _ _).symm.trans H; rw [hy175]; with_reducible exact H2_) | (have H2_ := (Option.bind_some _ _).symm.trans H; with_reducible exact H2_) | with_reducible exact H | (rw [hy175]; exact H) | exact H
                have Ny175 := Aside0.mk hy175
                clear hy175
                have H' := Aside0.mk H
                clear H
                have p174 : 0 ≤ (x4_1 : Int) := of_decide_eq_true (by first | (with_reducible assumption) | assumption)
                have q174 : x4_1 < (l0.length : Int) := of_decide_eq_true (by first | (with_reducible assumption) | assumption)
                obtain ⟨ad174, e174, hx174_0⟩ := Kd.at_int HR0.out x4_1 p174 q174
                cases e174
                replace hx174_0 := (HB.out.cell (World.block_lt_of_cell? w _ hx174_0)).trans hx174_0
                replace p174 := eq_true p174
                replace q174 := eq_true q174
                have p9 : 0 ≤ (x4_1 : Int) := of_decide_eq_true (by first | (with_reducible assumption) | assumption)
                have q9 : (x4_1 : Int) < ((x3_1.length : Int) : Int) := of_decide_eq_true (by first | (with_reducible assumption) | assumption)
                obtain ⟨go9, co9, eo9, gb9, gl9, cl9, HG9⟩ := Kd.R_form HO_3.out (by omega)
                (first | cases eo9 | (injection eo9 with ea_ en_ ec_; (first | subst ea_ | (injection ea_ with ea_; subst ea_)); subst ec_; clear en_))
                have GB9 := Aside0.mk gb9
                have GG9 := Aside0.mk HG9
                clear gb9 gl9 HG9
                obtain ⟨hx9_0, hf9_0⟩ := Kd.R_celln 0 HO_3.out (x4_1 : Int) p9 q9
                replace p9 := eq_true p9
                replace q9 := eq_true q9
                have HP10 := Kd.R_putg HO_3.out (x4_1 : Int) (rd l0 x4_1)
                go_wp2_with (first | ((with_reducible refine gate_store (t := 5) (p := 20) rfl ?_); refine store_event (t := 5) (p := 20) (v := ?vo_w11) (w1 := (wr.setCell ⟨go9, (x4_1 : Int).toNat, none⟩ (.int .u8 (rd l0 x4_1)))) ?hg ?ho ?hn ?hr ?_; (case ho => rfl); (case hg => rfl); (case hn => rfl); (case hr => first | (go_simp; done) | (go_simp; rfl)); intro w11 hw; have hg : wr.grownBy w11 (some go9) := (by rw [hw]; exact HP10.2); have hp_ : Kd.R (Kd.int .u8) 5 w11 w.heap.size (fun _ => True) (.slice (some ⟨go9, 0, none⟩) x3_1.length co9) y175 := (by rw [hw, Ny175.out]; exact HP10.1); clear HP10; have n0_ := Aside0.mk (hp_); have n1_ := Aside0.mk ((by rw [hw]; exact below_set (HB.out) GB9.out : Below w.heap.size w w11)); clear HO_3; clear HB; have HO_3 := n0_; have HB := n1_; clear n0_ n1_; clear hg hw hp_))
                go_roundg k1
                case measure => have := HK1.out; omega
                case rel => exact ⟨(y175), (wrap64 (x4_1 + 1)), (by first | rfl | (simp; done) | (simp [*]; done)), H', ⟨by have := HK1.out; omega⟩, ⟨by (with_reducible repeat (first | apply Kd.R_alloc | apply Kd.R_drewN | apply Kd.R_drew)); exact HO_3.out⟩, ⟨by repeat (first | (with_reducible first | exact HB.out | apply below_alloc | apply pw_below_drewN | apply below_drew1) | exact HB.out)⟩⟩
              · rw [if_neg c8] at H
                exact absurd H (by simp)
            · rw [if_neg c7] at H
              exact absurd H (by simp)
          · rw [if_neg c6] at H
            have c6b0 : decide (x4_1 < (l0.length : Int)) = false := decide_eq_false c6
            clear c6
            obtain rfl := Option.some.inj H
            go_wp2
            go_ret
            exact ⟨_, by first | rfl | (simp [errW_none, errW_some] <;> rfl) | (simp [*, errW_none, errW_some] <;> rfl), by (with_reducible repeat (first | apply Kd.R_alloc | apply Kd.R_drewN | apply Kd.R_drew)); exact HO_3.out, by repeat (first | (with_reducible first | exact HB.out | apply below_alloc | apply pw_below_drewN | apply below_drew1) | exact HB.out)⟩
    · rw [if_neg c3] at H
      exact absurd H (by simp)
  · rw [if_neg c2] at H
    exact absurd H (by simp)

end Go.Proofs.Ytlopmffdebhpfaa.G

/-! ## G17 -/
namespace Go.Proofs.Ytlopmffdebhpfaa.G
open Go.RowKit Go.Proofs.YtlopmffdebhpfaaW.PrintWords Go.Proofs.YtlopmffdebhpfaaW.PrintLast Go.Proofs.YtlopmffdebhpfaaW.PrintMore
attribute [local go_sem] max2_int min2_int max_two min_two max_three min_three max_four min_four
set_option linter.unusedVariables false
set_option linter.unusedSimpArgs false

/-! ### laws_eqByteS: function 17 -/
def laws_eqByteS.l0 : Nat → List Int → List Int → Int → Option (Bool)
  | 0, _, _, _ => none
  | k + 1, x0, x1, x5 => if x5 < (x0.length : Int) then (if 0 ≤ x5 then (if x5 < (x1.length : Int) then (if (rd x0 x5) = (rd x1 x5) then (laws_eqByteS.l0 k x0 x1 (wrap64 (x5 + 1))) else (some false)) else (none)) else (none)) else (some true)
def laws_eqByteS.f (k : Nat) (l0 : List Int) (l1 : List Int) : Option (Bool) := if (l0.length : Int) = (l1.length : Int) then (laws_eqByteS.l0 k l0 l1 0) else (some false)
set_option maxRecDepth 100000 in
theorem laws_eqByteS.mono_l : ∀ k, (∀ y0 y1 y2, LeO (laws_eqByteS.l0 k y0 y1 y2) (laws_eqByteS.l0 (k + 1) y0 y1 y2))
  | 0 => fun _ _ _ r h => by simp [laws_eqByteS.l0] at h
  | k + 1 => by
    have ih0 := laws_eqByteS.mono_l k
    · intro y0 y1 y2
      unfold laws_eqByteS.l0
      repeat' first
      | (with_reducible exact ih0 _ _ _)
      | (with_reducible exact LeO.refl _)
      | (with_reducible exact LeO.none _)
      | (with_reducible refine LeO.ite ?_ ?_)
      | (with_reducible refine LeO.bind ?_ (fun _ => ?_))
      | exact ih0 _ _ _
      | exact LeO.none _
      | refine LeO.ite ?_ ?_
      | refine LeO.bind ?_ (fun _ => ?_)
set_option maxRecDepth 100000 in
theorem laws_eqByteS.mono : ∀ a0 a1 k, LeO (laws_eqByteS.f k a0 a1) (laws_eqByteS.f (k + 1) a0 a1) := by
  intro a0 a1 k
  have ih0 := laws_eqByteS.mono_l k
  unfold laws_eqByteS.f
  repeat' first
      | (with_reducible exact ih0 _ _ _)
      | (with_reducible exact LeO.refl _)
      | (with_reducible exact LeO.none _)
      | (with_reducible refine LeO.ite ?_ ?_)
      | (with_reducible refine LeO.bind ?_ (fun _ => ?_))
      | exact ih0 _ _ _
      | exact LeO.none _
      | refine LeO.ite ?_ ?_
      | refine LeO.bind ?_ (fun _ => ?_)
set_option maxHeartbeats 8000000 in
set_option maxRecDepth 100000 in
theorem laws_eqByteS.calls (k : Nat) (A0 : Option Addr) (c0 : Nat) (l0 : List Int) (A1 : Option Addr) (c1 : Nat) (l1 : List Int) (r : Bool) (w : World) (hr0 : Kd.C (Kd.int .u8) w A0 l0.length l0) (hc0 : l0.length ≤ c0) (hr1 : Kd.C (Kd.int .u8) w A1 l1.length l1) (hc1 : l1.length ≤ c1) (h : laws_eqByteS.f k l0 l1 = some r) :
    Calls Try.prog 17 #[.slice A0 l0.length c0, .slice A1 l1.length c1] w fun e w' => e = .returned (.bool r) ∧ Drawn0 w w' := by
  have HR0 := Aside0.mk hr0
  have HC0 := Aside0.mk hc0
  clear hr0 hc0
  have HR1 := Aside0.mk hr1
  have HC1 := Aside0.mk hc1
  clear hr1 hc1
  have H : (if (l0.length : Int) = (l1.length : Int) then (laws_eqByteS.l0 k l0 l1 0) else (some false)) = some r := h
  clear h
  by_cases c3 : (l0.length : Int) = (l1.length : Int)
  · rw [if_pos c3] at H
    have c3b0 : ((l0.length : Int) == (l1.length : Int)) = true := beq_iff_eq.mpr c3
    have c3b1 : ((l0.length : Int) != (l1.length : Int)) = false := bne_eq_false_iff_eq.mpr c3
    have c3b2 : (l0.length == l1.length) = true := by first | simpa using c3 | (simp at c3 ⊢; omega)
    clear c3
    have H' := Aside0.mk H
    clear H
    go_enter Try.func17, Try.ntmps17
    go_wp2
    repeat (go_quiet (fail); try go_wp2)
    go_loopg [5] k (fun kq v5 w' => ∃ (x5_1 : Int), v5 = .int .i64 x5_1 ∧ Aside0 (laws_eqByteS.l0 kq l0 l1 x5_1 = some r) ∧ Aside0 (kq ≤ k) ∧ Drawn0 w w')
    case atStart => exact ⟨(0), (by first | rfl | (simp; done) | (simp [*]; done)), H', ⟨Nat.le_refl _⟩, by repeat (first | exact Drawn0.refl _ | apply Drawn0.step)⟩
    case round =>
      clear H'
      try clear c1
      try clear p2
      try clear c3
      try clear c3b0
      try clear c3b1
      try clear c3b2
      obtain ⟨x5_1, rfl, HA, HK1, ⟨m1, rfl⟩⟩ := hrel
      cases gk with
      | zero => exact absurd HA.out (by simp [laws_eqByteS.l0])
      | succ k1 =>
        have H := HA.out
        clear HA
        simp only [laws_eqByteS.l0] at H
        by_cases c4 : x5_1 < (l0.length : Int)
        · rw [if_pos c4] at H
          have c4b0 : decide (x5_1 < (l0.length : Int)) = true := decide_eq_true c4
          clear c4
          by_cases c5 : 0 ≤ x5_1
          · rw [if_pos c5] at H
            have c5b0 : decide (0 ≤ x5_1) = true := decide_eq_true c5
            clear c5
            by_cases c6 : x5_1 < (l1.length : Int)
            · rw [if_pos c6] at H
              have c6b0 : decide (x5_1 < (l1.length : Int)) = true := decide_eq_true c6
              clear c6
              by_cases c7 : (rd l0 x5_1) = (rd l1 x5_1)
              · rw [if_pos c7] at H
                have c7b0 : ((rd l0 x5_1) == (rd l1 x5_1)) = true := beq_iff_eq.mpr c7
                have c7b1 : ((rd l0 x5_1) != (rd l1 x5_1)) = false := bne_eq_false_iff_eq.mpr c7
                clear c7
                have H' := Aside0.mk H
                clear H
                have p176 : 0 ≤ (x5_1 : Int) := of_decide_eq_true (by first | (with_reducible assumption) | assumption)
                have q176 : x5_1 < (l0.length : Int) := of_decide_eq_true (by first | (with_reducible assumption) | assumption)
                obtain ⟨ad176, e176, hx176_0⟩ := Kd.at_int HR0.out x5_1 p176 q176
                cases e176
                replace p176 := eq_true p176
                replace q176 := eq_true q176
                have p177 : 0 ≤ (x5_1 : Int) := of_decide_eq_true (by first | (with_reducible assumption) | assumption)
                have q177 : x5_1 < (l1.length : Int) := of_decide_eq_true (by first | (with_reducible assumption) | assumption)
                obtain ⟨ad177, e177, hx177_0⟩ := Kd.at_int HR1.out x5_1 p177 q177
                cases e177
                replace p177 := eq_true p177
                replace q177 := eq_true q177
                go_wp2
                repeat (go_quiet (fail); try go_wp2)
                go_roundg k1
                case measure => have := HK1.out; omega
                case rel => exact ⟨(wrap64 (x5_1 + 1)), (by first | rfl | (simp; done) | (simp [*]; done)), H', ⟨by have := HK1.out; omega⟩, by repeat (first | exact Drawn0.refl _ | apply Drawn0.step)⟩
              · rw [if_neg c7] at H
                have c7b0 : ((rd l0 x5_1) == (rd l1 x5_1)) = false := beq_eq_false_iff_ne.mpr c7
                have c7b1 : ((rd l0 x5_1) != (rd l1 x5_1)) = true := bne_iff_ne.mpr c7
                obtain rfl := Option.some.inj H
                have p176 : 0 ≤ (x5_1 : Int) := of_decide_eq_true (by first | (with_reducible assumption) | assumption)
                have q176 : x5_1 < (l0.length : Int) := of_decide_eq_true (by first | (with_reducible assumption) | assumption)
                obtain ⟨ad176, e176, hx176_0⟩ := Kd.at_int HR0.out x5_1 p176 q176
                cases e176
                replace p176 := eq_true p176
                replace q176 := eq_true q176
                have p177 : 0 ≤ (x5_1 : Int) := of_decide_eq_true (by first | (with_reducible assumption) | assumption)
                have q177 : x5_1 < (l1.length : Int) := of_decide_eq_true (by first | (with_reducible assumption) | assumption)
                obtain ⟨ad177, e177, hx177_0⟩ := Kd.at_int HR1.out x5_1 p177 q177
                cases e177
                replace p177 := eq_true p177
                replace q177 := eq_true q177
                go_wp2
                repeat (go_quiet (fail); try go_wp2)
                go_ret
                exact ⟨by first | rfl | (simp; done) | (simp [*]; done), by repeat (first | exact Drawn0.refl _ | apply Drawn0.step)⟩
            · rw [if_neg c6] at H
              exact absurd H (by simp)
          · rw [if_neg c5] at H
            exact absurd H (by simp)
        · rw [if_neg c4] at H
          have c4b0 : decide (x5_1 < (l0.length : Int)) = false := decide_eq_false c4
          clear c4
          obtain rfl := Option.some.inj H
          go_wp2
          repeat (go_quiet (fail); try go_wp2)
          go_ret
          exact ⟨by first | rfl | (simp; done) | (simp [*]; done), by repeat (first | exact Drawn0.refl _ | apply Drawn0.step)⟩
  · rw [if_neg c3] at H
    have c3b0 : ((l0.length : Int) == (l1.length : Int)) = false := beq_eq_false_iff_ne.mpr c3
    have c3b1 : ((l0.length : Int) != (l1.length : Int)) = true := bne_iff_ne.mpr c3
    have c3b2 : (l0.length == l1.length) = false := by first | simpa using c3 | (simp at c3 ⊢; omega)
    obtain rfl := Option.some.inj H
    go_enter Try.func17, Try.ntmps17
    go_wp2
    repeat (go_quiet (fail); try go_wp2)
    go_ret
    exact ⟨by first | rfl | (simp; done) | (simp [*]; done), by repeat (first | exact Drawn0.refl _ | apply Drawn0.step)⟩

end Go.Proofs.Ytlopmffdebhpfaa.G

/-! ## G18 -/
namespace Go.Proofs.Ytlopmffdebhpfaa.G
open Go.RowKit Go.Proofs.YtlopmffdebhpfaaW.PrintWords Go.Proofs.YtlopmffdebhpfaaW.PrintLast Go.Proofs.YtlopmffdebhpfaaW.PrintMore
attribute [local go_sem] max2_int min2_int max_two min_two max_three min_three max_four min_four
set_option linter.unusedVariables false
set_option linter.unusedSimpArgs false

/-! ### laws_markByteS: function 18 -/
def laws_markByteS.l0 : Nat → List Int → Int → Int → Option (Int × List Int)
  | 0, _, _, _ => none
  | k + 1, x0, x1, x5 => if x5 < (x0.length : Int) then (if 0 ≤ x5 then (laws_markByteS.l0 k (x0.set (x5 : Int).toNat ((x1) % 256)) (wrap64 (x1 + 1)) (wrap64 (x5 + 1))) else (none)) else (some (x1, x0))
def laws_markByteS.f (k : Nat) (l0 : List Int) (a1 : Int) : Option (Int × List Int) := laws_markByteS.l0 k l0 a1 0
set_option maxRecDepth 100000 in
theorem laws_markByteS.mono_l : ∀ k, (∀ y0 y1 y2, LeO (laws_markByteS.l0 k y0 y1 y2) (laws_markByteS.l0 (k + 1) y0 y1 y2))
  | 0 => fun _ _ _ r h => by simp [laws_markByteS.l0] at h
  | k + 1 => by
    have ih0 := laws_markByteS.mono_l k
    · intro y0 y1 y2
      unfold laws_markByteS.l0
      repeat' first
      | (with_reducible exact ih0 _ _ _)
      | (with_reducible exact LeO.refl _)
      | (with_reducible exact LeO.none _)
      | (with_reducible refine LeO.ite ?_ ?_)
      | (with_reducible refine LeO.bind ?_ (fun _ => ?_))
      | exact ih0 _ _ _
      | exact LeO.none _
      | refine LeO.ite ?_ ?_
      | refine LeO.bind ?_ (fun _ => ?_)
set_option maxRecDepth 100000 in
theorem laws_markByteS.mono : ∀ a0 a1 k, LeO (laws_markByteS.f k a0 a1) (laws_markByteS.f (k + 1) a0 a1) := by
  intro a0 a1 k
  have ih0 := laws_markByteS.mono_l k
  unfold laws_markByteS.f
  repeat' first
      | (with_reducible exact ih0 _ _ _)
      | (with_reducible exact LeO.refl _)
      | (with_reducible exact LeO.none _)
      | (with_reducible refine LeO.ite ?_ ?_)
      | (with_reducible refine LeO.bind ?_ (fun _ => ?_))
      | exact ih0 _ _ _
      | exact LeO.none _
      | refine LeO.ite ?_ ?_
      | refine LeO.bind ?_ (fun _ => ?_)
set_option maxHeartbeats 8000000 in
set_option maxRecDepth 100000 in
theorem laws_markByteS.calls (k : Nat) (P0_ : Nat → Prop) (u9000_ : Value) (l0 : List Int) (a1 : Int) (r1 : Int) (r2 : List Int) (w0 w : World) (hB : Below w0.heap.size w0 w) (ho0 : Kd.R (Kd.int .u8) 5 w w0.heap.size P0_ u9000_ l0) (h : laws_markByteS.f k l0 a1 = some (r1, r2)) :
    Calls Try.prog 18 #[u9000_, .int .i64 a1] w fun e w' => e = .returned (.int .i64 r1) ∧ Kd.R (Kd.int .u8) 5 w' w0.heap.size (fun k_ => (P0_ k_ ∨ w.heap.size ≤ k_)) u9000_ r2 ∧ Below w0.heap.size w0 w' ∧ Kept w w' (fun k_ => P0_ k_) := by
  have HO0 := Aside0.mk (show Kd.R (Kd.int .u8) 5 w w0.heap.size (fun k_ => (P0_ k_ ∨ w.heap.size ≤ k_)) u9000_ l0 from Kd.R_mono ho0 (fun k_ hk => (.inl hk)))
  have HK := Aside0.mk (Kept.refl w (fun k_ => P0_ k_))
  have HW0 := Aside0.mk hB.size
  have HB := Aside0.mk hB
  clear hB
  have H : (laws_markByteS.l0 k l0 a1 0) = some (r1, r2) := h
  clear h
  have H' := Aside0.mk H
  clear H
  go_enter Try.func18, Try.ntmps18
  go_wp2
  go_loopg [1, 5] k (fun kq v1 v5 w' => ∃ (x0_1 : List Int) (x1_1 : Int) (x5_1 : Int), v1 = .int .i64 x1_1 ∧ v5 = .int .i64 x5_1 ∧ Aside0 (laws_markByteS.l0 kq x0_1 x1_1 x5_1 = some (r1, r2)) ∧ Aside0 (kq ≤ k) ∧ Aside0 (Kd.R (Kd.int .u8) 5 w' w0.heap.size (fun k_ => (P0_ k_ ∨ w.heap.size ≤ k_)) u9000_ x0_1) ∧ Aside0 (Kept w w' (fun k_ => P0_ k_)) ∧ Aside0 (Below w0.heap.size w0 w'))
  case atStart => exact ⟨(l0), (a1), (0), (by first | rfl | (simp; done) | (simp [*]; done)), (by first | rfl | (simp; done) | (simp [*]; done)), H', ⟨Nat.le_refl _⟩, ⟨by (with_reducible repeat (first | apply Kd.R_alloc | apply Kd.R_drewN | apply Kd.R_drew)); exact HO0.out⟩, ⟨by repeat (first | (with_reducible first | exact HK.out | apply Kept.alloc | apply Kept.drewN | apply Kept.drew) | exact HK.out)⟩, ⟨by repeat (first | (with_reducible first | exact HB.out | apply below_alloc | apply pw_below_drewN | apply below_drew1) | exact HB.out)⟩⟩
  case round =>
    clear H'
    try clear c1
    try clear p2
    obtain ⟨x0_1, x1_1, x5_1, rfl, rfl, HA, HK1, HO_0, HK, HB⟩ := hrel
    cases gk with
    | zero => exact absurd HA.out (by simp [laws_markByteS.l0])
    | succ k1 =>
      have H := HA.out
      clear HA
      simp only [laws_markByteS.l0] at H
      by_cases c3 : x5_1 < (x0_1.length : Int)
      · rw [if_pos c3] at H
        have c3b0 : decide (x5_1 < (x0_1.length : Int)) = true := decide_eq_true c3
        clear c3
        by_cases c4 : 0 ≤ x5_1
        · rw [if_pos c4] at H
          have c4b0 : decide (0 ≤ x5_1) = true := decide_eq_true c4
          clear c4
          obtain ⟨y178, hy178⟩ : ∃ y_ : List Int, y_ = (x0_1.set (x5_1 : Int).toNat ((x1_1) % 256)) := ⟨_, rfl⟩
          replace H : (laws_markByteS.l0 k1 y178 (wrap64 (x1_1 + 1)) (wrap64 (x5_1 + 1))) = some (r1, r2) := by first | (rw [hy178]; with_reducible exact H) | (have H2_ := (Option.bind_some _ _).symm.trans H; rw [hy178]; with_reducible exact H2_) | (have H2_ := (Option.bind_some _ _).symm.trans H; with_reducible exact H2_) | with_reducible exact H | (rw [hy178]; exact H) | exact H
          have Ny178 := Aside0.mk hy178
          clear hy178
          have H' := Aside0.mk H
          clear H
          obtain ⟨Ao6, co6, eo6⟩ := Kd.R_slice HO_0.out
          subst eo6
          have p5 : 0 ≤ (x5_1 : Int) := of_decide_eq_true (by first | (with_reducible assumption) | assumption)
          have q5 : (x5_1 : Int) < ((x0_1.length : Int) : Int) := of_decide_eq_true (by first | (with_reducible assumption) | assumption)
          obtain ⟨go5, co5, eo5, gb5, gl5, cl5, HG5⟩ := Kd.R_form HO_0.out (by omega)
          (first | cases eo5 | (injection eo5 with ea_ en_ ec_; (first | subst ea_ | (injection ea_ with ea_; subst ea_)); subst ec_; clear en_))
          have GB5 := Aside0.mk gb5
          have GG5 := Aside0.mk HG5
          clear gb5 gl5 HG5
          have HMgo5 := Aside0.mk (show (P0_ go5 ∨ w.heap.size ≤ go5) from (HO_0.out.1 _ rfl))
          obtain ⟨hx5_0, hf5_0⟩ := Kd.R_celln 0 HO_0.out (x5_1 : Int) p5 q5
          replace p5 := eq_true p5
          replace q5 := eq_true q5
          have HP7 := Kd.R_putg HO_0.out (x5_1 : Int) ((x1_1) % 256)
          go_wp2_with (first | ((with_reducible refine gate_store (t := 5) (p := 16) rfl ?_); refine store_event (t := 5) (p := 16) (v := ?vo_w8) (w1 := (wr.setCell ⟨go5, (x5_1 : Int).toNat, none⟩ (.int .u8 ((x1_1) % 256)))) ?hg ?ho ?hn ?hr ?_; (case ho => rfl); (case hg => rfl); (case hn => rfl); (case hr => first | (go_simp; done) | (go_simp; rfl)); intro w8 hw; have hg : wr.grownBy w8 (some go5) := (by rw [hw]; exact HP7.2); have hp_ : Kd.R (Kd.int .u8) 5 w8 w0.heap.size (fun k_ => (P0_ k_ ∨ w.heap.size ≤ k_)) (.slice (some ⟨go5, 0, none⟩) x0_1.length co6) y178 := (by rw [hw, Ny178.out]; exact HP7.1); clear HP7; have n0_ := Aside0.mk (hp_); have n1_ := Aside0.mk ((by rw [hw]; exact below_set (HB.out) GB5.out : Below w0.heap.size w0 w8)); have n2_ := Aside0.mk (Kept.of_grown (S := (fun k_ => P0_ k_)) hg (by repeat (first | (with_reducible first | exact HK.out | apply Kept.alloc | apply Kept.drewN | apply Kept.drew) | exact HK.out)) (fun k_ e_ => (HO_0.out.1 k_ e_))); clear HO_0; clear HB; clear HK; have HO_0 := n0_; have HB := n1_; have HK := n2_; clear n0_ n1_ n2_; clear hg hw hp_))
          go_roundg k1
          case measure => have := HK1.out; omega
          case rel => exact ⟨(y178), (wrap64 (x1_1 + 1)), (wrap64 (x5_1 + 1)), (by first | rfl | (simp; done) | (simp [*]; done)), (by first | rfl | (simp; done) | (simp [*]; done)), H', ⟨by have := HK1.out; omega⟩, ⟨by (with_reducible repeat (first | apply Kd.R_alloc | apply Kd.R_drewN | apply Kd.R_drew)); exact HO_0.out⟩, ⟨by repeat (first | (with_reducible first | exact HK.out | apply Kept.alloc | apply Kept.drewN | apply Kept.drew) | exact HK.out)⟩, ⟨by repeat (first | (with_reducible first | exact HB.out | apply below_alloc | apply pw_below_drewN | apply below_drew1) | exact HB.out)⟩⟩
        · rw [if_neg c4] at H
          exact absurd H (by simp)
      · rw [if_neg c3] at H
        have c3b0 : decide (x5_1 < (x0_1.length : Int)) = false := decide_eq_false c3
        clear c3
        simp only [Option.some.injEq, Prod.mk.injEq] at H
        obtain ⟨rfl, rfl⟩ := H
        obtain ⟨Ao9, co9, eo9⟩ := Kd.R_slice HO_0.out
        subst eo9
        go_wp2
        go_ret
        exact ⟨by first | rfl | (simp [errW_none, errW_some] <;> rfl) | (simp [*, errW_none, errW_some] <;> rfl), by (with_reducible repeat (first | apply Kd.R_alloc | apply Kd.R_drewN | apply Kd.R_drew)); exact HO_0.out, by repeat (first | (with_reducible first | exact HB.out | apply below_alloc | apply pw_below_drewN | apply below_drew1) | exact HB.out), by repeat (first | (with_reducible first | exact HK.out | apply Kept.alloc | apply Kept.drewN | apply Kept.drew) | exact HK.out)⟩

end Go.Proofs.Ytlopmffdebhpfaa.G

/-! ## G19 -/
namespace Go.Proofs.Ytlopmffdebhpfaa.G
open Go.RowKit Go.Proofs.YtlopmffdebhpfaaW.PrintWords Go.Proofs.YtlopmffdebhpfaaW.PrintLast Go.Proofs.YtlopmffdebhpfaaW.PrintMore
attribute [local go_sem] max2_int min2_int max_two min_two max_three min_three max_four min_four
set_option linter.unusedVariables false
set_option linter.unusedSimpArgs false

/-! ### laws_heldByteS: function 19 -/
def laws_heldByteS.l0 : Nat → List Int → Int → Int → Option (Int)
  | 0, _, _, _ => none
  | k + 1, x0, x1, x5 => if x5 < (x0.length : Int) then (if 0 ≤ x5 then (if (rd x0 x5) = ((x1) % 256) then (laws_heldByteS.l0 k x0 (wrap64 (x1 + 1)) (wrap64 (x5 + 1))) else (some (-1))) else (none)) else (some x1)
def laws_heldByteS.f (k : Nat) (l0 : List Int) (a1 : Int) : Option (Int) := laws_heldByteS.l0 k l0 a1 0
set_option maxRecDepth 100000 in
theorem laws_heldByteS.mono_l : ∀ k, (∀ y0 y1 y2, LeO (laws_heldByteS.l0 k y0 y1 y2) (laws_heldByteS.l0 (k + 1) y0 y1 y2))
  | 0 => fun _ _ _ r h => by simp [laws_heldByteS.l0] at h
  | k + 1 => by
    have ih0 := laws_heldByteS.mono_l k
    · intro y0 y1 y2
      unfold laws_heldByteS.l0
      repeat' first
      | (with_reducible exact ih0 _ _ _)
      | (with_reducible exact LeO.refl _)
      | (with_reducible exact LeO.none _)
      | (with_reducible refine LeO.ite ?_ ?_)
      | (with_reducible refine LeO.bind ?_ (fun _ => ?_))
      | exact ih0 _ _ _
      | exact LeO.none _
      | refine LeO.ite ?_ ?_
      | refine LeO.bind ?_ (fun _ => ?_)
set_option maxRecDepth 100000 in
theorem laws_heldByteS.mono : ∀ a0 a1 k, LeO (laws_heldByteS.f k a0 a1) (laws_heldByteS.f (k + 1) a0 a1) := by
  intro a0 a1 k
  have ih0 := laws_heldByteS.mono_l k
  unfold laws_heldByteS.f
  repeat' first
      | (with_reducible exact ih0 _ _ _)
      | (with_reducible exact LeO.refl _)
      | (with_reducible exact LeO.none _)
      | (with_reducible refine LeO.ite ?_ ?_)
      | (with_reducible refine LeO.bind ?_ (fun _ => ?_))
      | exact ih0 _ _ _
      | exact LeO.none _
      | refine LeO.ite ?_ ?_
      | refine LeO.bind ?_ (fun _ => ?_)
set_option maxHeartbeats 8000000 in
set_option maxRecDepth 100000 in
theorem laws_heldByteS.calls (k : Nat) (A0 : Option Addr) (c0 : Nat) (l0 : List Int) (a1 : Int) (r : Int) (w : World) (hr0 : Kd.C (Kd.int .u8) w A0 l0.length l0) (hc0 : l0.length ≤ c0) (h : laws_heldByteS.f k l0 a1 = some r) :
    Calls Try.prog 19 #[.slice A0 l0.length c0, .int .i64 a1] w fun e w' => e = .returned (.int .i64 r) ∧ Drawn0 w w' := by
  have HR0 := Aside0.mk hr0
  have HC0 := Aside0.mk hc0
  clear hr0 hc0
  have H : (laws_heldByteS.l0 k l0 a1 0) = some r := h
  clear h
  have H' := Aside0.mk H
  clear H
  go_enter Try.func19, Try.ntmps19
  go_wp2
  go_loopg [1, 5] k (fun kq v1 v5 w' => ∃ (x1_1 : Int) (x5_1 : Int), v1 = .int .i64 x1_1 ∧ v5 = .int .i64 x5_1 ∧ Aside0 (laws_heldByteS.l0 kq l0 x1_1 x5_1 = some r) ∧ Aside0 (kq ≤ k) ∧ Drawn0 w w')
  case atStart => exact ⟨(a1), (0), (by first | rfl | (simp; done) | (simp [*]; done)), (by first | rfl | (simp; done) | (simp [*]; done)), H', ⟨Nat.le_refl _⟩, by repeat (first | exact Drawn0.refl _ | apply Drawn0.step)⟩
  case round =>
    clear H'
    try clear c1
    try clear p2
    obtain ⟨x1_1, x5_1, rfl, rfl, HA, HK1, ⟨m1, rfl⟩⟩ := hrel
    cases gk with
    | zero => exact absurd HA.out (by simp [laws_heldByteS.l0])
    | succ k1 =>
      have H := HA.out
      clear HA
      simp only [laws_heldByteS.l0] at H
      by_cases c3 : x5_1 < (l0.length : Int)
      · rw [if_pos c3] at H
        have c3b0 : decide (x5_1 < (l0.length : Int)) = true := decide_eq_true c3
        clear c3
        by_cases c4 : 0 ≤ x5_1
        · rw [if_pos c4] at H
          have c4b0 : decide (0 ≤ x5_1) = true := decide_eq_true c4
          clear c4
          by_cases c5 : (rd l0 x5_1) = ((x1_1) % 256)
          · rw [if_pos c5] at H
            have c5b0 : ((rd l0 x5_1) == ((x1_1) % 256)) = true := beq_iff_eq.mpr c5
            have c5b1 : ((rd l0 x5_1) != ((x1_1) % 256)) = false := bne_eq_false_iff_eq.mpr c5
            clear c5
            have H' := Aside0.mk H
            clear H
            have p179 : 0 ≤ (x5_1 : Int) := of_decide_eq_true (by first | (with_reducible assumption) | assumption)
            have q179 : x5_1 < (l0.length : Int) := of_decide_eq_true (by first | (with_reducible assumption) | assumption)
            obtain ⟨ad179, e179, hx179_0⟩ := Kd.at_int HR0.out x5_1 p179 q179
            cases e179
            replace p179 := eq_true p179
            replace q179 := eq_true q179
            go_wp2
            go_roundg k1
            case measure => have := HK1.out; omega
            case rel => exact ⟨(wrap64 (x1_1 + 1)), (wrap64 (x5_1 + 1)), (by first | rfl | (simp; done) | (simp [*]; done)), (by first | rfl | (simp; done) | (simp [*]; done)), H', ⟨by have := HK1.out; omega⟩, by repeat (first | exact Drawn0.refl _ | apply Drawn0.step)⟩
          · rw [if_neg c5] at H
            have c5b0 : ((rd l0 x5_1) == ((x1_1) % 256)) = false := beq_eq_false_iff_ne.mpr c5
            have c5b1 : ((rd l0 x5_1) != ((x1_1) % 256)) = true := bne_iff_ne.mpr c5
            obtain rfl := Option.some.inj H
            have p179 : 0 ≤ (x5_1 : Int) := of_decide_eq_true (by first | (with_reducible assumption) | assumption)
            have q179 : x5_1 < (l0.length : Int) := of_decide_eq_true (by first | (with_reducible assumption) | assumption)
            obtain ⟨ad179, e179, hx179_0⟩ := Kd.at_int HR0.out x5_1 p179 q179
            cases e179
            replace p179 := eq_true p179
            replace q179 := eq_true q179
            go_wp2
            go_ret
            exact ⟨by first | rfl | (simp; done) | (simp [*]; done), by repeat (first | exact Drawn0.refl _ | apply Drawn0.step)⟩
        · rw [if_neg c4] at H
          exact absurd H (by simp)
      · rw [if_neg c3] at H
        have c3b0 : decide (x5_1 < (l0.length : Int)) = false := decide_eq_false c3
        clear c3
        obtain rfl := Option.some.inj H
        go_wp2
        go_ret
        exact ⟨by first | rfl | (simp; done) | (simp [*]; done), by repeat (first | exact Drawn0.refl _ | apply Drawn0.step)⟩

end Go.Proofs.Ytlopmffdebhpfaa.G

/-! ## Dec -/
namespace Go.Proofs.Ytlopmffdebhpfaa.Pure
open Go.RowKit Go.Proofs.Ytlopmffdebhpfaa.G Go.Proofs.YtlopmffdebhpfaaW.PrintWords Go.Proofs.YtlopmffdebhpfaaW.PrintLast Go.Proofs.YtlopmffdebhpfaaW.PrintMore

theorem low2 {a b : Int} (ha : 0 ≤ a ∧ a < 256) (hb : 0 ≤ b ∧ b < 256) : Cv (fun k => spec_l2Low.f k [a, b]) (a + 256 * b) :=
  Cv.from (m := 3) (fun k => by
    unfold spec_l2Low.f
    rw [show wrap64 (((([a, b] : List Int).length : Nat) : Int) - 1) = 1 from by unfold wrap64; simp]
    rw [show k + 3 = k + 2 + 1 from rfl]
    unfold spec_l2Low.l0
    rw [if_pos (by decide), if_pos (by decide), if_pos (by simp), show rd [a, b] 1 = b from rfl, show wrap64 (1 - 1) = 0 from by unfold wrap64; omega]
    unfold spec_l2Low.l0
    rw [if_pos (by decide), if_pos (by decide), if_pos (by simp), show rd [a, b] 0 = a from rfl, show wrap64 (0 - 1) = -1 from by unfold wrap64; omega]
    unfold spec_l2Low.l0
    rw [if_neg (by decide)]
    rw [w64 (n := b) (by omega) (by omega), w64 (n := a) (by omega) (by omega), show wrap64 (0 * 256) = 0 from by unfold wrap64; omega, w64 (n := 0 + b) (by omega) (by omega), w64 (n := (0 + b) * 256) (by omega) (by omega), w64 (by omega) (by omega)]
    congr 1
    omega)
theorem or_i64 (a b : Nat) (ha : a < 2 ^ 32) (hb : b < 2 ^ 32) : Go.bits .or .i64 a b = ((a ||| b : Nat) : Int) :=
  (bits_nat .i64 32 (by decide) (fun n h0 h1 => by rw [IntKind.wrap_i64]; omega) a b ha hb).2
theorem num2 {a b : Int} (ha : 0 ≤ a ∧ a < 256) (hb : 0 ≤ b ∧ b < 256) : Cv (fun k => impl_numberAt.f k [a, b]) (a + 256 * b) :=
  Cv.from (m := 3) (fun k => by
    obtain ⟨x, rfl⟩ := Int.eq_ofNat_of_zero_le ha.1
    obtain ⟨y, rfl⟩ := Int.eq_ofNat_of_zero_le hb.1
    have hx : x < 256 := by omega
    have hy : y < 256 := by omega
    unfold impl_numberAt.f
    rw [show k + 3 = k + 2 + 1 from rfl]
    unfold impl_numberAt.l0
    rw [if_pos (by simp), if_pos (by decide), if_pos (by simp), if_pos (by unfold wrap64; omega), show rd [(x : Int), (y : Int)] 0 = (x : Int) from rfl, show wrap64 (0 + 1) = 1 from by unfold wrap64; omega, show wrap64 (8 * 0) = 0 from by unfold wrap64; omega]
    have e1 : shl .i64 (wrap64 (x : Int)) 0 = (x : Int) := by
      unfold shl
      rw [w64 (by omega) (by omega), IntKind.wrap_i64]
      simp only [Int.toNat_zero, Nat.zero_min, Int.pow_zero]
      omega
    have e2 : Go.bits .or .i64 0 (x : Int) = (x : Int) := by
      have := or_i64 0 x (by decide) (by omega)
      simpa using this
    rw [e1, e2]
    unfold impl_numberAt.l0
    rw [if_pos (by simp), if_pos (by decide), if_pos (by simp), if_pos (by unfold wrap64; omega), show rd [(x : Int), (y : Int)] 1 = (y : Int) from rfl, show wrap64 (1 + 1) = 2 from by unfold wrap64; omega, show wrap64 (8 * 1) = 8 from by unfold wrap64; omega]
    have e3 : shl .i64 (wrap64 (y : Int)) 8 = ((y * 256 : Nat) : Int) := by
      unfold shl
      rw [w64 (by omega) (by omega), IntKind.wrap_i64, show min ((8 : Int)).toNat IntKind.i64.bits = 8 from rfl, show ((2 : Int) ^ 8) = 256 from rfl]
      omega
    have e4 : Go.bits .or .i64 (x : Int) ((y * 256 : Nat) : Int) = ((x + 256 * y : Nat) : Int) := by
      rw [or_i64 x (y * 256) (by omega) (by omega), Nat.or_comm]
      have h := Nat.two_pow_add_eq_or_of_lt (i := 8) (b := x) (by omega) y
      rw [show 2 ^ 8 * y = y * 256 by omega] at h
      rw [← h]
      congr 1
      omega
    rw [e3, e4]
    unfold impl_numberAt.l0
    rw [if_neg (by simp)]
    congr 1
    )

theorem same_l0 (k : Nat) : ∀ (a b pa pb : List Int), pa.length = pb.length → a.length = b.length → (pa ++ a).length ≤ 9223372036854775806 →
    spec_l2Same.l0 (k + a.length + 1) (pa ++ a) (pb ++ b) (pa.length : Int) = some (decide (a = b))
  | [], [], pa, pb, hp, hl, hm => by
    unfold spec_l2Same.l0
    rw [if_neg (by simp)]
    simp
  | [], y :: b, pa, pb, hp, hl, hm => by simp at hl
  | x :: a, [], pa, pb, hp, hl, hm => by simp at hl
  | x :: a, y :: b, pa, pb, hp, hl, hm => by
    have h1 : (pa ++ x :: a).length = pa.length + a.length + 1 := by simp; omega
    have h2 : (pb ++ y :: b).length = pa.length + b.length + 1 := by simp; omega
    rw [show k + (x :: a).length + 1 = (k + a.length + 1) + 1 by simp; omega]
    conv => lhs; unfold spec_l2Same.l0
    rw [if_pos (by omega), if_pos (by omega), if_pos (by omega), rd_mid]
    have e : rd (pb ++ y :: b) (pa.length : Int) = y := by rw [hp]; exact rd_mid _ _ _
    rw [e]
    by_cases hxy : x = y
    · rw [if_pos hxy, w64 (by omega) (by omega)]
      have ih := same_l0 k a b (pa ++ [x]) (pb ++ [y]) (by simp [hp]) (by simpa using hl) (by simpa using hm)
      rw [List.append_assoc, List.append_assoc, List.singleton_append, List.singleton_append, show (((pa ++ [x]).length : Nat) : Int) = (pa.length : Int) + 1 by simp] at ih
      rw [ih]
      subst hxy
      simp
    · rw [if_neg hxy, decide_eq_false (by simp [hxy])]
theorem same {a b : List Int} (hm : a.length ≤ 9223372036854775806) : Cv (fun k => spec_l2Same.f k a b) (decide (a = b)) := by
  unfold spec_l2Same.f
  by_cases h : (a.length : Int) = (b.length : Int)
  · exact Cv.pos h (Cv.from (m := a.length + 1) (fun k => same_l0 k a b [] [] rfl (by omega) (by simpa using hm)))
  · refine Cv.neg h (Cv.of ?_)
    rw [decide_eq_false (fun e => h (by rw [e]))]
theorem eq_l0 (k : Nat) : ∀ (a b pa pb : List Int), pa.length = pb.length → a.length = b.length → (pa ++ a).length ≤ 9223372036854775806 →
    laws_eqByteS.l0 (k + a.length + 1) (pa ++ a) (pb ++ b) (pa.length : Int) = some (decide (a = b))
  | [], [], pa, pb, hp, hl, hm => by
    unfold laws_eqByteS.l0
    rw [if_neg (by simp)]
    simp
  | [], y :: b, pa, pb, hp, hl, hm => by simp at hl
  | x :: a, [], pa, pb, hp, hl, hm => by simp at hl
  | x :: a, y :: b, pa, pb, hp, hl, hm => by
    have h1 : (pa ++ x :: a).length = pa.length + a.length + 1 := by simp; omega
    have h2 : (pb ++ y :: b).length = pa.length + b.length + 1 := by simp; omega
    rw [show k + (x :: a).length + 1 = (k + a.length + 1) + 1 by simp; omega]
    conv => lhs; unfold laws_eqByteS.l0
    rw [if_pos (by omega), if_pos (by omega), if_pos (by omega), rd_mid]
    have e : rd (pb ++ y :: b) (pa.length : Int) = y := by rw [hp]; exact rd_mid _ _ _
    rw [e]
    by_cases hxy : x = y
    · rw [if_pos hxy, w64 (by omega) (by omega)]
      have ih := eq_l0 k a b (pa ++ [x]) (pb ++ [y]) (by simp [hp]) (by simpa using hl) (by simpa using hm)
      rw [List.append_assoc, List.append_assoc, List.singleton_append, List.singleton_append, show (((pa ++ [x]).length : Nat) : Int) = (pa.length : Int) + 1 by simp] at ih
      rw [ih]
      subst hxy
      simp
    · rw [if_neg hxy, decide_eq_false (by simp [hxy])]
theorem eqB {a b : List Int} (hm : a.length ≤ 9223372036854775806) : Cv (fun k => laws_eqByteS.f k a b) (decide (a = b)) := by
  unfold laws_eqByteS.f
  by_cases h : (a.length : Int) = (b.length : Int)
  · exact Cv.pos h (Cv.from (m := a.length + 1) (fun k => eq_l0 k a b [] [] rfl (by omega) (by simpa using hm)))
  · refine Cv.neg h (Cv.of ?_)
    rw [decide_eq_false (fun e => h (by rw [e]))]
theorem toB_l0 (k : Nat) : ∀ (r pre : List Int), (pre ++ r).length ≤ 9223372036854775806 →
    laws_toByteS.l0 (k + r.length + 1) (pre ++ r) (pre ++ List.replicate r.length 0) (pre.length : Int) = some (pre ++ r)
  | [], pre, hm => by
    unfold laws_toByteS.l0
    rw [if_neg (by simp)]
    simp
  | x :: r, pre, hm => by
    have h1 : (pre ++ x :: r).length = pre.length + r.length + 1 := by simp; omega
    have h2 : (pre ++ List.replicate (x :: r).length (0 : Int)).length = pre.length + r.length + 1 := by simp; omega
    rw [show k + (x :: r).length + 1 = (k + r.length + 1) + 1 by simp; omega]
    conv => lhs; unfold laws_toByteS.l0
    rw [if_pos (by omega), if_pos (by omega), if_pos (by omega), rd_mid, w64 (by omega) (by omega)]
    have e : (pre ++ List.replicate (x :: r).length (0 : Int)).set ((pre.length : Int)).toNat x = (pre ++ [x]) ++ List.replicate r.length 0 := by
      rw [Int.toNat_natCast, List.set_append_right _ _ (Nat.le_refl _), Nat.sub_self, List.length_cons, List.replicate_succ, List.set_cons_zero, List.append_assoc, List.singleton_append]
    rw [e]
    have ih := toB_l0 k r (pre ++ [x]) (by simpa using hm)
    rw [List.append_assoc, List.singleton_append, show (((pre ++ [x]).length : Nat) : Int) = (pre.length : Int) + 1 by simp] at ih
    rw [ih]
theorem toB {l : List Int} (hm : l.length ≤ 281474976710656) : Cv (fun k => laws_toByteS.f k l) l := by
  unfold laws_toByteS.f
  refine Cv.pos (by omega) (Cv.pos (by omega) (Cv.from (m := l.length + 1) (fun k => ?_)))
  have h := toB_l0 k l [] (by simp; omega)
  simpa [← Nat.add_assoc] using h
def marks : Nat → Int → List Int
  | 0, _ => []
  | n + 1, m => (m % 256) :: marks n (m + 1)
theorem marks_length : ∀ (n : Nat) (m : Int), (marks n m).length = n
  | 0, _ => rfl
  | n + 1, m => by simp [marks, marks_length n]
theorem mark_l0 (k : Nat) : ∀ (r pre : List Int) (m : Int), 0 ≤ m → m + r.length ≤ 9223372036854775806 → (pre ++ r).length ≤ 9223372036854775806 →
    laws_markByteS.l0 (k + r.length + 1) (pre ++ r) m (pre.length : Int) = some (m + r.length, pre ++ marks r.length m)
  | [], pre, m, h0, h1, hm => by
    unfold laws_markByteS.l0
    rw [if_neg (by simp)]
    simp [marks]
  | x :: r, pre, m, h0, h1, hm => by
    have h2 : (pre ++ x :: r).length = pre.length + r.length + 1 := by simp; omega
    have h3 : (x :: r).length = r.length + 1 := rfl
    rw [show k + (x :: r).length + 1 = (k + r.length + 1) + 1 by simp; omega]
    conv => lhs; unfold laws_markByteS.l0
    rw [if_pos (by omega), if_pos (by omega), w64 (n := m + 1) (by omega) (by omega), w64 (by omega) (by omega)]
    have e : (pre ++ x :: r).set ((pre.length : Int)).toNat (m % 256) = (pre ++ [m % 256]) ++ r := by
      rw [Int.toNat_natCast, List.set_append_right _ _ (Nat.le_refl _), Nat.sub_self, List.set_cons_zero, List.append_assoc, List.singleton_append]
    rw [e]
    have ih := mark_l0 k r (pre ++ [m % 256]) (m + 1) (by omega) (by omega) (by simpa using hm)
    rw [show (((pre ++ [m % 256]).length : Nat) : Int) = (pre.length : Int) + 1 by simp] at ih
    rw [ih, List.append_assoc, List.singleton_append]
    simp only [marks, List.length_cons]
    congr 2
    omega
theorem markB {l : List Int} (hm : l.length ≤ 281474976710656) : Cv (fun k => laws_markByteS.f k l 1) (1 + (l.length : Int), marks l.length 1) :=
  Cv.from (m := l.length + 1) (fun k => by
    have h := mark_l0 k l [] 1 (by omega) (by omega) (by simp; omega)
    unfold laws_markByteS.f
    exact h)
theorem held_l0 (k : Nat) : ∀ (n : Nat) (pre : List Int) (m : Int), 0 ≤ m → m + n ≤ 9223372036854775806 → pre.length + n ≤ 9223372036854775806 →
    laws_heldByteS.l0 (k + n + 1) (pre ++ marks n m) m (pre.length : Int) = some (m + n)
  | 0, pre, m, h0, h1, hm => by
    unfold laws_heldByteS.l0
    rw [if_neg (by simp [marks])]
    simp
  | n + 1, pre, m, h0, h1, hm => by
    have h2 : (pre ++ marks (n + 1) m).length = pre.length + n + 1 := by simp [marks_length]; omega
    rw [show k + (n + 1) + 1 = (k + n + 1) + 1 by omega]
    conv => lhs; unfold laws_heldByteS.l0
    have e : rd (pre ++ marks (n + 1) m) (pre.length : Int) = m % 256 := rd_mid pre _ _
    rw [if_pos (by omega), if_pos (by omega), e, if_pos rfl, w64 (n := m + 1) (by omega) (by omega), w64 (by omega) (by omega)]
    have ih := held_l0 k n (pre ++ [m % 256]) (m + 1) (by omega) (by omega) (by simp; omega)
    rw [show (((pre ++ [m % 256]).length : Nat) : Int) = (pre.length : Int) + 1 by simp, List.append_assoc, List.singleton_append] at ih
    rw [show marks (n + 1) m = (m % 256) :: marks n (m + 1) from rfl, ih]
    congr 1
    omega
theorem heldB {n : Nat} (hm : n ≤ 281474976710656) : Cv (fun k => laws_heldByteS.f k (marks n 1) 1) (1 + (n : Int)) :=
  Cv.from (m := n + 1) (fun k => by
    have h := held_l0 k n [] 1 (by omega) (by omega) (by simp; omega)
    unfold laws_heldByteS.f
    exact h)

theorem toList_loop (bs : ByteArray) : ∀ (n i : Nat) (r : List UInt8), i + n = bs.size → ByteArray.toList.loop bs i r = r.reverse ++ bs.data.toList.drop i
  | 0, i, r, h => by
    unfold ByteArray.toList.loop
    rw [if_neg (by omega), List.drop_eq_nil_of_le (by rw [Array.length_toList]; show bs.size ≤ i; omega), List.append_nil]
  | n + 1, i, r, h => by
    unfold ByteArray.toList.loop
    rw [if_pos (by omega), toList_loop bs n (i + 1) _ (by omega)]
    have hi : i < bs.data.toList.length := by rw [Array.length_toList]; show i < bs.size; omega
    rw [List.drop_eq_getElem_cons hi, List.reverse_cons, List.append_assoc, List.singleton_append]
    congr 2
    have hs : i < bs.data.size := by simpa using hi
    show bs.data[i]! = _
    rw [getElem!_pos bs.data i hs]
    simp
theorem toList_data (bs : ByteArray) : bs.toList = bs.data.toList := by
  unfold ByteArray.toList
  rw [toList_loop bs bs.size 0 [] (by omega)]
  simp
theorem str_eq {a b : List Int} (ha : By a) (hb : By b) : ((strOfNums a).toList == (strOfNums b).toList) = decide (a = b) := by
  rw [toList_data, toList_data, strOfNums_data, strOfNums_data]
  by_cases h : a = b
  · subst h
    simp
  · rw [decide_eq_false h]
    refine beq_eq_false_iff_ne.mpr (fun e => h (bytesOf_inj ha hb e))

/-! ### reading -/
def sizeOf2 (l : List Int) : Int := rd l 10 + 256 * rd l 11
def bodyOf (l : List Int) : List Int := (l.take (16 + sizeOf2 l).toNat).drop 16
/-- What DecodePage gives. -/
def decV (id : Int) (l : List Int) : Int × List Int × Bool :=
  if l.length = 256 ∧ sizeOf2 l ≤ 240 ∧ 0 ≤ id ∧ id ≤ 1023 ∧ 1 ≤ rd l 8 ∧ rd l 8 ≤ 4 ∧ pageOf id.toNat (rd l 8).toNat (bodyOf l) = l then (rd l 8, bodyOf l, true) else (0, [], false)
theorem decV_pos {id : Int} {l : List Int} (h : l.length = 256 ∧ sizeOf2 l ≤ 240 ∧ 0 ≤ id ∧ id ≤ 1023 ∧ 1 ≤ rd l 8 ∧ rd l 8 ≤ 4 ∧ pageOf id.toNat (rd l 8).toNat (bodyOf l) = l) : decV id l = (rd l 8, bodyOf l, true) := if_pos h
theorem decV_neg {id : Int} {l : List Int} (h : ¬ (l.length = 256 ∧ sizeOf2 l ≤ 240 ∧ 0 ≤ id ∧ id ≤ 1023 ∧ 1 ≤ rd l 8 ∧ rd l 8 ≤ 4 ∧ pageOf id.toNat (rd l 8).toNat (bodyOf l) = l)) : decV id l = (0, [], false) := if_neg h
theorem mid2 {l : List Int} (h : l.length = 256) : (l.take 12).drop 10 = [rd l 10, rd l 11] := by
  apply List.ext_getElem
  · simp [h]
  · intro i h1 h2
    have hi : i < 2 := by simpa using h2
    simp only [List.getElem_drop, List.getElem_take]
    rcases i with _ | _ | i
    · simp [rd, List.getD_eq_getElem?_getD, h]
    · simp [rd, List.getD_eq_getElem?_getD, h]
    · omega
theorem bodyOf_length {l : List Int} (h : l.length = 256) (h0 : 0 ≤ sizeOf2 l) (h1 : sizeOf2 l ≤ 240) : (((bodyOf l).length : Nat) : Int) = sizeOf2 l := by
  unfold bodyOf
  rw [List.length_drop, List.length_take, h]
  omega
theorem spec_dec {id : Int} {l : List Int} (hb : By l) : Cv (fun k => spec_DecodePage.f k id l) (decV id l) := by
  unfold spec_DecodePage.f
  refine Cv.bind (Cv.of rfl) ?_
  by_cases hl : (l.length : Int) = 256
  case neg =>
    rw [decV_neg (fun h => hl (by omega))]
    exact Cv.neg hl (Cv.of rfl)
  have hl' : l.length = 256 := by omega
  have b8 := By_rd hb 8
  have b10 := By_rd hb 10
  have b11 := By_rd hb 11
  refine Cv.pos hl (Cv.pos (by decide) (Cv.pos (by omega) ?_))
  rw [mid2 hl']
  refine Cv.bind (low2 b10 b11) ?_
  rw [show rd l 10 + 256 * rd l 11 = sizeOf2 l from rfl]
  have hs0 : 0 ≤ sizeOf2 l := by unfold sizeOf2; omega
  by_cases hs : sizeOf2 l > 240
  · rw [decV_neg (fun h => by omega)]
    exact Cv.pos hs (Cv.of rfl)
  refine Cv.neg hs (Cv.pos (by omega) ?_)
  rw [w64 (n := 16 + sizeOf2 l) (by omega) (by omega), w64 (n := rd l 8) (by omega) (by omega)]
  refine Cv.pos (by omega) (Cv.pos (by omega) ?_)
  rw [show (l.take (16 + sizeOf2 l).toNat).drop 16 = bodyOf l from rfl]
  have hbb : By (bodyOf l) := (hb.take _).drop _
  have hbl := bodyOf_length hl' hs0 (by omega)
  refine Cv.bind (spec_enc hbb) ?_
  unfold encV
  by_cases hok : okPage id (rd l 8) (bodyOf l).length
  · rw [if_pos hok]
    unfold okPage at hok
    refine Cv.pos rfl (Cv.bind (same (by rw [pageOf_length _ _ (by omega)]; decide)) ?_)
    by_cases he : pageOf id.toNat (rd l 8).toNat (bodyOf l) = l
    · rw [decV_pos ⟨hl', by omega, by omega, by omega, by omega, by omega, he⟩]
      refine Cv.pos (decide_eq_true he) (Cv.bind (v := bodyOf l) (Cv.of ?_) (Cv.of rfl))
      unfold spec_l1Bytes.f
      rw [Option.bind_some, if_pos (by simp; omega)]
      rfl
    · rw [decV_neg (fun h => he h.2.2.2.2.2.2)]
      exact Cv.neg (fun e => he (of_decide_eq_true e)) (Cv.of rfl)
  · rw [if_neg hok, decV_neg]
    · exact Cv.neg (by decide) (Cv.of rfl)
    · unfold okPage at hok
      intro h
      omega
theorem impl_dec {id : Int} {l : List Int} (hb : By l) : Cv (fun k => impl_DecodePage.f k id l) (decV id l) := by
  have b8 := By_rd hb 8
  have b10 := By_rd hb 10
  have b11 := By_rd hb 11
  have hs0 : 0 ≤ sizeOf2 l := by unfold sizeOf2; omega
  have key : Cv (fun k => impl_parsePage.f k id l) (if l.length = 256 then (if 0 ≤ id ∧ id ≤ 1023 ∧ 1 ≤ rd l 8 ∧ rd l 8 ≤ 4 ∧ sizeOf2 l ≤ 240 then (if pageOf id.toNat (rd l 8).toNat (bodyOf l) = l then (0, id, rd l 8, sizeOf2 l, bodyOf l) else (2, 0, 0, 0, [])) else (2, 0, 0, 0, [])) else (1, 0, 0, 0, [])) := by
    unfold impl_parsePage.f
    by_cases hl : l.length = 256
    case neg =>
      rw [if_neg hl]
      exact Cv.neg hl (Cv.of rfl)
    rw [if_pos hl]
    refine Cv.pos hl ?_
    rw [mid2 hl]
    refine Cv.bind (num2 b10 b11) ?_
    rw [show rd l 10 + 256 * rd l 11 = sizeOf2 l from rfl, w64 (n := rd l 8) (by omega) (by omega)]
    refine Cv.bind (Cv.of (valid_eq _ _ _)) ?_
    by_cases hok : 0 ≤ id ∧ id ≤ 1023 ∧ 1 ≤ rd l 8 ∧ rd l 8 ≤ 4 ∧ sizeOf2 l ≤ 240
    case neg =>
      rw [if_neg hok]
      exact Cv.neg (by rw [decide_eq_true_eq]; exact hok) (Cv.of rfl)
    rw [if_pos hok]
    refine Cv.pos (decide_eq_true hok) (Cv.pos (by omega) ?_)
    rw [show (l.take (16 + sizeOf2 l).toNat).drop 16 = bodyOf l from rfl]
    have hbb : By (bodyOf l) := (hb.take _).drop _
    have hbl := bodyOf_length hl hs0 (by omega)
    have hp : Cv (fun k => impl_page_bytes.f k id (rd l 8) (sizeOf2 l) (bodyOf l)) (pageOf id.toNat (rd l 8).toNat (bodyOf l)) := by
      have h := page_bytes (id := id.toNat) (kind := (rd l 8).toNat) (body := bodyOf l) (by omega) hbb (by omega)
      rw [Int.toNat_of_nonneg hok.1, Int.toNat_of_nonneg b8.1, hbl] at h
      exact h
    refine Cv.bind hp ?_
    refine Cv.bind (v := decide (pageOf id.toNat (rd l 8).toNat (bodyOf l) = l)) (Cv.of ?_) ?_
    · unfold bytes_Equal.f
      rw [str_eq (pageOf_by _ _ hbb) hb]
    · by_cases he : pageOf id.toNat (rd l 8).toNat (bodyOf l) = l
      · rw [if_pos he]
        exact Cv.pos (decide_eq_true he) (Cv.of rfl)
      · rw [if_neg he]
        exact Cv.neg (by rw [decide_eq_true_eq]; exact he) (Cv.of rfl)
  have hkey := key
  clear key
  unfold impl_DecodePage.f
  by_cases hl : l.length = 256
  case neg =>
    rw [if_neg hl] at hkey
    rw [decV_neg (fun h => hl h.1)]
    exact Cv.bind hkey (Cv.neg (by decide) (Cv.of rfl))
  rw [if_pos hl] at hkey
  by_cases hok : 0 ≤ id ∧ id ≤ 1023 ∧ 1 ≤ rd l 8 ∧ rd l 8 ≤ 4 ∧ sizeOf2 l ≤ 240
  case neg =>
    rw [if_neg hok] at hkey
    rw [decV_neg (fun h => hok ⟨h.2.2.1, h.2.2.2.1, h.2.2.2.2.1, h.2.2.2.2.2.1, h.2.1⟩)]
    exact Cv.bind hkey (Cv.neg (by decide) (Cv.of rfl))
  rw [if_pos hok] at hkey
  by_cases he : pageOf id.toNat (rd l 8).toNat (bodyOf l) = l
  · rw [if_pos he] at hkey
    rw [decV_pos ⟨hl, hok.2.2.2.2, hok.1, hok.2.1, hok.2.2.1, hok.2.2.2.1, he⟩]
    refine Cv.bind hkey (Cv.pos rfl (Cv.bind (v := bodyOf l) (Cv.of ?_) (Cv.of rfl)))
    have hbl := bodyOf_length hl hs0 (by omega)
    unfold bytes_Clone.f
    rw [if_pos (by show (bodyOf l).length ≤ _; omega)]
  · rw [if_neg he] at hkey
    rw [decV_neg (fun h => he h.2.2.2.2.2.2)]
    exact Cv.bind hkey (Cv.neg (by decide) (Cv.of rfl))
end Go.Proofs.Ytlopmffdebhpfaa.Pure

/-! ## Mark -/
namespace Go.Proofs.Ytlopmffdebhpfaa.G
open Go.RowKit Go.Proofs.YtlopmffdebhpfaaW.PrintWords Go.Proofs.YtlopmffdebhpfaaW.PrintLast Go.Proofs.YtlopmffdebhpfaaW.PrintMore
open Go.Proofs.Ytlopmffdebhpfaa.Pure (marks marks_length mark_l0 Cv)
set_option linter.unusedVariables false
set_option linter.unusedSimpArgs false
/-- The numbers in rows. -/
def totL : List (List Int) → Nat
  | [] => 0
  | l :: r => l.length + totL r
def mkSS : List (List Int) → Int → List (List Int)
  | [], _ => []
  | l :: r, m => marks l.length m :: mkSS r (m + l.length)
theorem totL_snoc : ∀ (a : List (List Int)) (l : List Int), totL (a ++ [l]) = totL a + l.length
  | [], l => by simp [totL]
  | x :: a, l => by
    have := totL_snoc a l
    simp only [List.cons_append, totL, this]
    omega
theorem mkSS_length : ∀ (a : List (List Int)) (m : Int), (mkSS a m).length = a.length
  | [], _ => rfl
  | x :: a, m => by simp [mkSS, mkSS_length a]
theorem mkSS_snoc : ∀ (a : List (List Int)) (l : List Int) (m : Int), mkSS (a ++ [l]) m = mkSS a m ++ [marks l.length (m + totL a)]
  | [], l, m => by simp [mkSS, totL]
  | x :: a, l, m => by
    simp only [List.cons_append, mkSS, mkSS_snoc a l, totL]
    congr 4
    omega
theorem totL_take_le (ls : List (List Int)) (n : Nat) : totL (ls.take n) ≤ totL ls := by
  induction ls generalizing n with
  | nil => simp
  | cons l r ih =>
    cases n with
    | zero => simp [totL]
    | succ n => simp only [List.take_succ_cons, totL]; have := ih n; omega
theorem take_snoc_getD {α : Type} (ls : List α) (z : α) (n : Nat) (h : n < ls.length) : ls.take (n + 1) = ls.take n ++ [ls.getD n z] := by
  rw [List.take_add_one, List.getElem?_eq_getElem h, List.getD_eq_getElem?_getD, List.getElem?_eq_getElem h]
  rfl
theorem cur_getD {α : Type} (a ls : List α) (z : α) (n : Nat) (ha : a.length = n) : (a ++ ls.drop n).getD n z = ls.getD n z := by
  rw [List.getD_eq_getElem?_getD, List.getElem?_append_right (by omega), List.getElem?_drop, List.getD_eq_getElem?_getD]
  congr 2
  omega
theorem cur_set {α : Type} (a ls : List α) (x : α) (n : Nat) (ha : a.length = n) (h : n < ls.length) : (a ++ ls.drop n).set n x = (a ++ [x]) ++ ls.drop (n + 1) := by
  rw [List.set_append_right _ _ (by omega), show n - a.length = 0 by omega, List.drop_eq_getElem_cons h, List.set_cons_zero, List.append_assoc, List.singleton_append]
theorem keptTrans {w W W2 : World} {P S : Nat → Prop} (h : Kept w W P) (h2 : Kept W W2 S) (hs : ∀ k, S k → P k) : Kept w W2 P :=
  ⟨Nat.le_trans h.1 h2.1, fun i hi hn => (h2.2 i (Nat.lt_of_lt_of_le hi h.1) (fun hk => hn (hs i hk))).trans (h.2 i hi hn)⟩
theorem markB_at {l : List Int} {m : Int} (h0 : 0 ≤ m) (h1 : m + l.length ≤ 9223372036854775806) : ∃ k, laws_markByteS.f k l m = some (m + l.length, marks l.length m) := by
  refine ⟨0 + l.length + 1, ?_⟩
  have h := mark_l0 0 l [] m h0 h1 (by simp; omega)
  unfold laws_markByteS.f
  exact h
set_option maxHeartbeats 4000000 in
set_option maxRecDepth 100000 in
theorem laws_markByteSS.calls (P : Nat → Prop) (v : Value) (ls : List (List Int)) (m : Int) (w0 w : World) (hB : Below w0.heap.size w0 w) (ho : Kd.S (Kd.slice 5 (Kd.int .u8)) 22 w w0.heap.size P v ls) (h0 : 0 ≤ m) (h1 : m + totL ls ≤ 4611686018427387904) :
    Calls Try.prog 93 #[v, .int .i64 m] w fun e w' => e = .returned (.int .i64 (m + totL ls)) ∧ Kd.S (Kd.slice 5 (Kd.int .u8)) 22 w' w0.heap.size P v (mkSS ls m) ∧ Below w0.heap.size w0 w' ∧ Kept w w' P := by
  obtain ⟨A, c, rfl⟩ := Kd.S_slice ho
  have HX : Aside0 (ls.length ≤ 9223372036854775807) := ⟨(Kd.S_reads' ho).2.2.2.1⟩
  have HS0 := Aside0.mk ho
  have HB0 := Aside0.mk hB
  have HM0 := Aside0.mk h0
  have HM1 := Aside0.mk h1
  clear ho hB h0 h1
  go_enter Try.func93, Try.ntmps93
  go_wp2_with fail
  go_loopg [1, 5] ls.length (fun gk v1 v5 w' => ∃ x : Int, v1 = .int .i64 (m + totL (ls.take x.toNat)) ∧ v5 = .int .i64 x ∧ Aside0 (0 ≤ x ∧ (gk : Int) + x = (ls.length : Int)) ∧ Aside0 (Kd.S (Kd.slice 5 (Kd.int .u8)) 22 w' w0.heap.size P (.slice A ls.length c) (mkSS (ls.take x.toNat) m ++ ls.drop x.toNat)) ∧ Aside0 (Below w0.heap.size w0 w') ∧ Aside0 (Kept w w' P))
  case atStart =>
    exact ⟨0, by simp [totL], rfl, ⟨by omega⟩, ⟨by simpa [mkSS] using HS0.out⟩, HB0, ⟨Kept.refl _ _⟩⟩
  case round =>
    clear HS0 HB0
    obtain ⟨x, rfl, rfl, HXK, HS, HB, HK⟩ := hrel
    cases gk with
    | zero =>
      have hx : x = (ls.length : Int) := by have := HXK.out; omega
      subst hx
      have c4b0 : decide ((ls.length : Int) < (ls.length : Int)) = false := decide_eq_false (by omega)
      have HS2 := HS.out
      rw [Int.toNat_natCast, List.take_length, List.drop_length, List.append_nil] at HS2
      go_wp2_with fail
      go_ret
      exact ⟨by first | rfl | (rw [Int.toNat_natCast, List.take_length]; rfl), HS2, HB.out, HK.out⟩
    | succ gk =>
      have p0 : 0 ≤ x := HXK.out.1
      have q0 : x < (ls.length : Int) := by have := HXK.out; omega
      have HP0 := Aside0.mk p0
      have HQ0 := Aside0.mk q0
      have hxl : x.toNat < ls.length := by omega
      have hml : (mkSS (ls.take x.toNat) m).length = x.toNat := by rw [mkSS_length, List.length_take]; omega
      have hpos : 0 < (mkSS (ls.take x.toNat) m ++ ls.drop x.toNat).length := by simp [mkSS_length]; omega
      obtain ⟨g, cap, ev, _⟩ := Kd.S_form HS.out hpos
      injection ev with ev1 ev2 ev3
      subst ev1
      subst ev3
      obtain ⟨oki, cc, _, hM, hcc, hoki, hH⟩ := Kd.S_lend HS.out ([] : List Int) x p0 q0
      obtain ⟨vi, rfl, hRi⟩ := hM
      rw [cur_getD _ _ _ _ hml] at hRi
      have hcell := hcc 0 vi rfl
      rw [show (Kd.slice 5 (Kd.int .u8)).sz = 1 from rfl, Nat.mul_one, Nat.add_zero] at hcell
      clear hcc
      have htot : totL (ls.take (x.toNat + 1)) = totL (ls.take x.toNat) + (ls.getD x.toNat []).length := by rw [take_snoc_getD ls [] _ hxl, totL_snoc]
      have hle := totL_take_le ls (x.toNat + 1)
      obtain ⟨k, hf⟩ := markB_at (l := ls.getD x.toNat []) (m := m + totL (ls.take x.toNat)) (by have := HM0.out; omega) (by have := HM1.out; omega)
      have hsn := take_snoc_getD ls [] _ hxl
      generalize ls.getD x.toNat [] = li at hRi htot hf hsn
      have HSN := Aside0.mk hsn
      have HF := Aside0.mk hf
      have HRI := Aside0.mk hRi
      have HH := Aside0.mk hH
      have HOK := Aside0.mk hoki
      have HTOT := Aside0.mk htot
      have HML := Aside0.mk hml
      have HXL := Aside0.mk hxl
      clear hsn hf hRi hH hoki htot hle hml hxl hpos ev2 HS
      have c4b0 : decide (x < (ls.length : Int)) = true := decide_eq_true q0
      have c4b1 : decide (0 ≤ x) = true := decide_eq_true p0
      replace p0 := eq_true p0
      replace q0 := eq_true q0
      go_wp2_with fail
      refine (laws_markByteS.calls k (fun k_ => some k_ = vi.ownBlock) vi li (m + totL (ls.take x.toNat)) _ _ w0 _ HB.out (Kd.R_tight rfl HRI.out) HF.out).mono ?_
      rintro e w2 ⟨rfl, hy, hb, hkp⟩
      have HS2 := Kd.H_back (Kd.H_step HH.out (fun k_ hk hn hlt => hkp.2 k_ hlt (fun e => hn (HRI.out.1 k_ e.symm)))) (x' := marks li.length (m + totL (ls.take x.toNat))) ⟨vi, rfl, Kd.R_reok rfl hy (fun k_ e_ => HRI.out.1 k_ e_)⟩ (fun _ hk => hk)
      rw [cur_set _ _ _ _ HML.out HXL.out] at HS2
      have HS3 := Aside0.mk HS2
      have HB3 := Aside0.mk hb
      have HK3 := Aside0.mk (keptTrans HK.out hkp (fun k_ hk => (HOK.out k_ (HRI.out.1 k_ hk.symm)).1))
      clear hy hb hkp HS2 HB HK HH HRI
      go_wp2_with fail
      go_roundg gk
      case measure => omega
      case rel =>
        have hw1 : wrap64 (x + 1) = x + 1 := by have := HP0.out; have := HQ0.out; have := HX.out; unfold wrap64; omega
        have ht1 : (x + 1).toNat = x.toNat + 1 := by have := HP0.out; omega
        refine ⟨x + 1, ?_, by first | rfl | (rw [hw1]), ⟨by have := HXK.out; omega⟩, ⟨?_⟩, HB3, HK3⟩
        · rw [ht1, HTOT.out]
          congr 1
          omega
        · rw [ht1, HSN.out, mkSS_snoc]
          exact HS3.out
def totP : List S185 → Nat
  | [] => 0
  | p :: r => (1 + p.f1.length) + totP r
def mkPS : List S185 → Int → List S185
  | [], _ => []
  | p :: r, m => ⟨m, marks p.f1.length (m + 1)⟩ :: mkPS r (m + ((1 + p.f1.length : Nat) : Int))
theorem totP_snoc : ∀ (a : List S185) (l : S185), totP (a ++ [l]) = totP a + (1 + l.f1.length)
  | [], l => by simp [totP]
  | x :: a, l => by
    have := totP_snoc a l
    simp only [List.cons_append, totP, this]
    omega
theorem mkPS_length : ∀ (a : List S185) (m : Int), (mkPS a m).length = a.length
  | [], _ => rfl
  | x :: a, m => by simp [mkPS, mkPS_length a]
theorem mkPS_snoc : ∀ (a : List S185) (l : S185) (m : Int), mkPS (a ++ [l]) m = mkPS a m ++ [⟨m + totP a, marks l.f1.length (m + totP a + 1)⟩]
  | [], l, m => by simp [mkPS, totP]
  | x :: a, l, m => by
    simp only [List.cons_append, mkPS, mkPS_snoc a l, totP]
    have e : m + ((1 + x.f1.length : Nat) : Int) + (totP a : Int) = m + (((1 + x.f1.length) + totP a : Nat) : Int) := by omega
    rw [e]
theorem totP_take_le (ls : List S185) (n : Nat) : totP (ls.take n) ≤ totP ls := by
  induction ls generalizing n with
  | nil => simp
  | cons l r ih =>
    cases n with
    | zero => simp [totP]
    | succ n => simp only [List.take_succ_cons, totP]; have := ih n; omega
set_option maxHeartbeats 4000000 in
set_option maxRecDepth 100000 in
theorem laws_markPendS.calls (P : Nat → Prop) (v : Value) (ls : List S185) (m : Int) (w0 w : World) (hB : Below w0.heap.size w0 w) (ho : Kd.S k185 185 w w0.heap.size P v ls) (h0 : 0 ≤ m) (h1 : m + totP ls ≤ 4611686018427387904) :
    Calls Try.prog 94 #[v, .int .i64 m] w fun e w' => e = .returned (.int .i64 (m + totP ls)) ∧ Kd.S k185 185 w' w0.heap.size P v (mkPS ls m) ∧ Below w0.heap.size w0 w' ∧ Kept w w' P := by
  have hu185 := Try.underlying185
  obtain ⟨A, c, rfl⟩ := Kd.S_slice ho
  have HX : Aside0 (ls.length ≤ 9223372036854775807) := ⟨(Kd.S_reads' ho).2.2.2.1⟩
  have HS0 := Aside0.mk ho
  have HB0 := Aside0.mk hB
  have HM0 := Aside0.mk h0
  have HM1 := Aside0.mk h1
  clear ho hB h0 h1
  go_enter Try.func94, Try.ntmps94
  go_wp2_with fail
  go_loopg [1, 5] ls.length (fun gk v1 v5 w' => ∃ x : Int, v1 = .int .i64 (m + totP (ls.take x.toNat)) ∧ v5 = .int .i64 x ∧ Aside0 (0 ≤ x ∧ (gk : Int) + x = (ls.length : Int)) ∧ Aside0 (Kd.S k185 185 w' w0.heap.size P (.slice A ls.length c) (mkPS (ls.take x.toNat) m ++ ls.drop x.toNat)) ∧ Aside0 (Below w0.heap.size w0 w') ∧ Aside0 (Kept w w' P))
  case atStart =>
    exact ⟨0, by simp [totP], rfl, ⟨by omega⟩, ⟨by simpa [mkPS] using HS0.out⟩, HB0, ⟨Kept.refl _ _⟩⟩
  case round =>
    clear HS0 HB0
    obtain ⟨x, rfl, rfl, HXK, HS, HB, HK⟩ := hrel
    cases gk with
    | zero =>
      have hx : x = (ls.length : Int) := by have := HXK.out; omega
      subst hx
      have c4b0 : decide ((ls.length : Int) < (ls.length : Int)) = false := decide_eq_false (by omega)
      have HS2 := HS.out
      rw [Int.toNat_natCast, List.take_length, List.drop_length, List.append_nil] at HS2
      go_wp2_with fail
      go_ret
      exact ⟨by first | rfl | (rw [Int.toNat_natCast, List.take_length]; rfl), HS2, HB.out, HK.out⟩
    | succ gk =>
      have p0 : 0 ≤ x := HXK.out.1
      have q0 : x < (ls.length : Int) := by have := HXK.out; omega
      have HP0 := Aside0.mk p0
      have HQ0 := Aside0.mk q0
      have hxl : x.toNat < ls.length := by omega
      have hml : (mkPS (ls.take x.toNat) m).length = x.toNat := by rw [mkPS_length, List.length_take]; omega
      have hpos : 0 < (mkPS (ls.take x.toNat) m ++ ls.drop x.toNat).length := by simp [mkPS_length]; omega
      obtain ⟨g, cap, ev, _⟩ := Kd.S_form HS.out hpos
      injection ev with ev1 ev2 ev3
      subst ev1
      subst ev3
      have HPG : Aside0 (P g) := ⟨(Kd.S_R HS.out).1 g (by simp [Value.ownBlock])⟩
      have HGW : Aside0 (w0.heap.size ≤ g) := ⟨Kd.S_base HS.out g (by simp [Value.ownBlock])⟩
      obtain ⟨oki, cc, _, hM, hcc, hoki, hH⟩ := Kd.S_lend HS.out z185 x p0 q0
      rw [cur_getD _ _ _ _ hml] at hM
      obtain ⟨vi, rfl, hRi⟩ := k185_openM hM
      have hcell0 := hcc 0 _ rfl
      have hfr0 : wr.frozen? ⟨g, x.toNat * 2, none⟩ = false := by
        obtain ⟨_, _, _, _, hfr⟩ := Kd.R_elem (Kd.S_R HS.out) z185 x p0 q0
        have := hfr 0
        simpa [show k185.sz = 2 from rfl] using this
      rw [show k185.sz = 2 from rfl, Nat.add_zero] at hcell0
      clear hcc
      have htot : totP (ls.take (x.toNat + 1)) = totP (ls.take x.toNat) + (1 + (ls.getD x.toNat z185).f1.length) := by rw [take_snoc_getD ls z185 _ hxl, totP_snoc]
      have hle := totP_take_le ls (x.toNat + 1)
      have hsn := take_snoc_getD ls z185 _ hxl
      generalize ls.getD x.toNat z185 = li at hRi htot hsn hcell0 hM hH
      obtain ⟨k, hf⟩ := markB_at (l := li.f1) (m := m + totP (ls.take x.toNat) + 1) (by have := HM0.out; omega) (by have := HM1.out; omega)
      have hcs := cur_set (mkPS (ls.take x.toNat) m) ls (⟨m + totP (ls.take x.toNat), li.f1⟩ : S185) x.toNat hml hxl
      have HWR : Aside0 (wrap64 (m + totP (ls.take x.toNat) + 1) = m + totP (ls.take x.toNat) + 1) := ⟨by have := HM0.out; have := HM1.out; unfold wrap64; omega⟩
      have HSN := Aside0.mk hsn
      have HF := Aside0.mk hf
      have HRI := Aside0.mk hRi
      have HH := Aside0.mk hH
      have HOK := Aside0.mk hoki
      have HTOT := Aside0.mk htot
      have HML := Aside0.mk hml
      have HXL := Aside0.mk hxl
      have HCS := Aside0.mk hcs
      clear hcs hsn hf hRi hH hoki htot hle hml hxl hpos ev2 HS hM
      have c4b0 : decide (x < (ls.length : Int)) = true := decide_eq_true q0
      have c4b1 : decide (0 ≤ x) = true := decide_eq_true p0
      replace p0 := eq_true p0
      replace q0 := eq_true q0
      generalize hmm : m + (totP (ls.take x.toNat) : Int) = mm at HF HWR HCS ⊢
      have HMM := Aside0.mk hmm
      clear hmm
      go_wp2_with (first | ((with_reducible refine gate_ (.store 3 (.tmp 16) (.tmp 14)) rfl ?_); refine Kd.H_store k185 w0.heap.size rfl rfl 3 (.tmp 16) (.tmp 14) rfl 185 x 0 (mkPS (ls.take x.toNat) m ++ ls.drop x.toNat) (⟨mm, li.f1⟩ : S185) (.int .i64 mm) [.int .i64 mm] [.int .i64 li.f0, vi] P oki oki rfl rfl rfl rfl (by kernel_rfl) (by simp [Value.oneCell']) HH.out HP0.out HQ0.out (Nat.le_of_ble_eq_true rfl) (k185_mkM _ _ _ _ HRI.out) (fun _ h => h) HB.out ?_; intro w1 hs1 hb1 hg1; rw [HCS.out] at hs1; have HS1 := Aside0.mk hs1; have HB1 := Aside0.mk hb1; have HK1 := Aside0.mk (keptTrans HK.out (Kept.of_grown hg1 (Kept.refl _ (fun k_ => k_ = g)) (fun k_ e_ => .inl (Option.some.inj e_).symm)) (fun k_ e_ => by rw [e_]; exact HPG.out)); clear hs1 hb1 hg1; obtain ⟨oki2, cc2, hcl2, hM2, hcc2, hoki2, hH2⟩ := Kd.S_lend HS1.out z185 x HP0.out HQ0.out; have hM3 := hM2; rw [show ((mkPS (ls.take x.toNat) m ++ [(⟨mm, li.f1⟩ : S185)]) ++ ls.drop (x.toNat + 1)).getD x.toNat z185 = ⟨mm, li.f1⟩ from by { rw [List.append_assoc, List.getD_eq_getElem?_getD, List.getElem?_append_right (Nat.le_of_eq HML.out), HML.out, Nat.sub_self]; rfl }] at hM3; obtain ⟨vj, ecc, hRj⟩ := k185_openM hM3; subst ecc; have hcell1 := hcc2 1 _ rfl; rw [show k185.sz = 2 from rfl] at hcell1; have HRJ := Aside0.mk hRj; have HH2 := Aside0.mk hH2; have HOK2 := Aside0.mk hoki2; clear hcl2 hM2 hcc2 hoki2 hH2 hM3 hRj))
      have hwr2 := HWR.out
      (try rw [hwr2])
      with_reducible refine (laws_markByteS.calls k (fun k_ => some k_ = vj.ownBlock) vj li.f1 (mm + 1) _ _ w0 _ HB1.out (Kd.R_tight rfl HRJ.out) HF.out).mono ?_
      rintro e w2 ⟨rfl, hy, hb, hkp⟩
      have HS2 := Kd.H_back (Kd.H_step HH2.out (fun k_ hk hn hlt => hkp.2 k_ hlt (fun e => hn (HRJ.out.1 k_ e.symm)))) (x' := (⟨mm, marks li.f1.length (mm + 1)⟩ : S185)) (k185_mkM _ _ _ _ (Kd.R_reok rfl hy (fun k_ e_ => HRJ.out.1 k_ e_))) (fun _ hk => hk)
      rw [List.append_assoc, List.set_append_right _ _ (Nat.le_of_eq HML.out), HML.out, Nat.sub_self, List.singleton_append, List.set_cons_zero] at HS2
      have HS3 := Aside0.mk HS2
      have HB3 := Aside0.mk hb
      have HK3 := Aside0.mk (keptTrans HK1.out hkp (fun k_ hk => (HOK2.out k_ (HRJ.out.1 k_ hk.symm)).1))
      clear hy hb hkp HS2 HB HK HH HRI HRJ HH2 HB1 HK1 HS1
      go_wp2_with fail
      go_roundg gk
      case measure => omega
      case rel =>
        have hw1 : wrap64 (x + 1) = x + 1 := by have := HP0.out; have := HQ0.out; have := HX.out; unfold wrap64; omega
        have ht1 : (x + 1).toNat = x.toNat + 1 := by have := HP0.out; omega
        refine ⟨x + 1, ?_, by first | rfl | (rw [hw1]), ⟨by have := HXK.out; omega⟩, ⟨?_⟩, HB3, HK3⟩
        · rw [ht1, HTOT.out, ← HMM.out]
          congr 1
          omega
        · rw [ht1, HSN.out, mkPS_snoc, HMM.out, List.append_assoc]
          exact HS3.out
end Go.Proofs.Ytlopmffdebhpfaa.G

/-! ## G85 -/
namespace Go.Proofs.Ytlopmffdebhpfaa.G
open Go.RowKit Go.Proofs.YtlopmffdebhpfaaW.PrintWords Go.Proofs.YtlopmffdebhpfaaW.PrintLast Go.Proofs.YtlopmffdebhpfaaW.PrintMore
attribute [local go_sem] max2_int min2_int max_two min_two max_three min_three max_four min_four
set_option linter.unusedVariables false
set_option linter.unusedSimpArgs false

/-! ### laws_toByteSS: function 85 -/
def laws_toByteSS.l0 : Nat → List (List Int) → List (List Int) → Int → Option ((List (List Int)))
  | 0, _, _, _ => none
  | k + 1, x0, x3, x4 => if x4 < (x0.length : Int) then (if 0 ≤ x4 then ((laws_toByteS.f k (rd_L2 x0 x4)).bind fun t373 => (if x4 < (x3.length : Int) then (laws_toByteSS.l0 k x0 (x3.set (x4 : Int).toNat t373) (wrap64 (x4 + 1))) else (none))) else (none)) else (some x3)
def laws_toByteSS.f (k : Nat) (l0 : List (List Int)) : Option ((List (List Int))) := if 0 ≤ (l0.length : Int) then (if ((l0.length : Int) : Int).toNat ≤ 11728124029610 then (laws_toByteSS.l0 k l0 (List.replicate ((l0.length : Int) : Int).toNat []) 0) else (none)) else (none)
set_option maxRecDepth 100000 in
theorem laws_toByteSS.mono_l : ∀ k, (∀ y0 y1 y2, LeO (laws_toByteSS.l0 k y0 y1 y2) (laws_toByteSS.l0 (k + 1) y0 y1 y2))
  | 0 => fun _ _ _ r h => by simp [laws_toByteSS.l0] at h
  | k + 1 => by
    have ih0 := laws_toByteSS.mono_l k
    · intro y0 y1 y2
      unfold laws_toByteSS.l0
      repeat' first
      | (with_reducible exact ih0 _ _ _)
      | (with_reducible exact laws_toByteS.mono _ _)
      | (with_reducible exact LeO.refl _)
      | (with_reducible exact LeO.none _)
      | (with_reducible refine LeO.ite ?_ ?_)
      | (with_reducible refine LeO.bind ?_ (fun _ => ?_))
      | exact ih0 _ _ _
      | exact laws_toByteS.mono _ _
      | exact LeO.none _
      | refine LeO.ite ?_ ?_
      | refine LeO.bind ?_ (fun _ => ?_)
set_option maxRecDepth 100000 in
theorem laws_toByteSS.mono : ∀ a0 k, LeO (laws_toByteSS.f k a0) (laws_toByteSS.f (k + 1) a0) := by
  intro a0 k
  have ih0 := laws_toByteSS.mono_l k
  unfold laws_toByteSS.f
  repeat' first
      | (with_reducible exact ih0 _ _ _)
      | (with_reducible exact laws_toByteS.mono _ _)
      | (with_reducible exact LeO.refl _)
      | (with_reducible exact LeO.none _)
      | (with_reducible refine LeO.ite ?_ ?_)
      | (with_reducible refine LeO.bind ?_ (fun _ => ?_))
      | exact ih0 _ _ _
      | exact laws_toByteS.mono _ _
      | exact LeO.none _
      | refine LeO.ite ?_ ?_
      | refine LeO.bind ?_ (fun _ => ?_)
set_option maxHeartbeats 8000000 in
set_option maxRecDepth 100000 in
theorem laws_toByteSS.calls (k : Nat) (A0 : Option Addr) (c0 : Nat) (l0 : List (List Int)) (r : List (List Int)) (w : World) (hr0 : Kd.C (Kd.slice 5 (Kd.int .u8)) w A0 l0.length l0) (hc0 : l0.length ≤ c0) (h : laws_toByteSS.f k l0 = some r) :
    Calls Try.prog 85 #[.slice A0 l0.length c0] w fun e w' => ∃ v0_ : Value, e = .returned (v0_) ∧ Kd.S (Kd.slice 5 (Kd.int .u8)) 22 w' w.heap.size (fun _ => True) v0_ r ∧ Below w.heap.size w w' := by
  have HR0 := Aside0.mk hr0
  have HC0 := Aside0.mk hc0
  clear hr0 hc0
  have HB := Aside0.mk (Below.refl w.heap.size w)
  have H : (if 0 ≤ (l0.length : Int) then (if ((l0.length : Int) : Int).toNat ≤ 11728124029610 then (laws_toByteSS.l0 k l0 (List.replicate ((l0.length : Int) : Int).toNat []) 0) else (none)) else (none)) = some r := h
  clear h
  by_cases c2 : 0 ≤ (l0.length : Int)
  · rw [if_pos c2] at H
    have c2b0 := eq_true c2
    have c2b1 : decide (0 ≤ (l0.length : Int)) = true := decide_eq_true c2
    clear c2
    by_cases c3 : ((l0.length : Int) : Int).toNat ≤ 11728124029610
    · rw [if_pos c3] at H
      have c3b0 := eq_true c3
      have c3b1 : decide (((l0.length : Int) : Int).toNat ≤ 11728124029610) = true := decide_eq_true c3
      clear c3
      obtain ⟨y369, hy369⟩ : ∃ y_ : List (List Int), y_ = (List.replicate ((l0.length : Int) : Int).toNat []) := ⟨_, rfl⟩
      replace H : (laws_toByteSS.l0 k l0 y369 0) = some r := by first | (rw [hy369]; with_reducible exact H) | (have H2_ := (Option.bind_some _ _).symm.trans H; rw [hy369]; with_reducible exact H2_) | (have H2_ := (Option.bind_some _ _).symm.trans H; with_reducible exact H2_) | with_reducible exact H | (rw [hy369]; exact H) | exact H
      have Ny369 := Aside0.mk hy369
      clear hy369
      have H' := Aside0.mk H
      clear H
      go_enter Try.func85, Try.ntmps85
      go_wp2_with (first | ((with_reducible refine gate_dst (N := 7) rfl ?_); refine Kd.S_make (Kd.slice 5 (Kd.int .u8)) _ 22 rfl (N := 7) rfl 36 _ _ rfl (l0.length : Int) rfl rfl Try.underlying36 (.slice none 0 0) 24 info22 rfl (by decide) (by omega) [] (ok := fun _ => True) (okp := fun _ => True) ⟨_, rfl, Kd.R_nil _ _ _ _ _⟩ (fun _ hk => hk) trivial (of_decide_eq_true (by first | (with_reducible assumption) | assumption)) (Nat.le_trans (Nat.mul_le_mul_right _ (of_decide_eq_true (by first | (with_reducible assumption) | assumption) : (l0.length : Int).toNat ≤ 11728124029610)) (by omega)) (Below.refl _ _) (Nat.le_refl _) ?_; intro v370 w4 ho5 hb hg_ hnew_; clear hg_ hnew_; (first | rw [← Ny369.out] at ho5 | (simp only [Int.reduceToNat] at ho5; rw [← Ny369.out] at ho5)); have n0_ := Aside0.mk (Kd.S_lower ho5 (below_size (by repeat (first | (with_reducible first | exact HB.out | apply below_alloc | apply pw_below_drewN | apply below_drew1) | exact HB.out)))); have n1_ := Aside0.mk (below_step (by repeat (first | (with_reducible first | exact HB.out | apply below_alloc | apply pw_below_drewN | apply below_drew1) | exact HB.out)) hb); clear HB; have HO371 := n0_; have HB := n1_; clear n0_ n1_; clear hb ho5))
      go_loopg [4] k (fun kq v4 w' => ∃ (x3_1 : List (List Int)) (x4_1 : Int), v4 = .int .i64 x4_1 ∧ Aside0 (laws_toByteSS.l0 kq l0 x3_1 x4_1 = some r) ∧ Aside0 (kq ≤ k) ∧ Aside0 (Kd.S (Kd.slice 5 (Kd.int .u8)) 22 w' w.heap.size (fun _ => True) v370 x3_1) ∧ Aside0 (Below w.heap.size w w'))
      case atStart => exact ⟨(y369), (0), (by first | rfl | (simp; done) | (simp [*]; done)), H', ⟨Nat.le_refl _⟩, ⟨by (with_reducible repeat (first | apply Kd.S_alloc | apply Kd.S_drewN | apply Kd.S_drew)); exact HO371.out⟩, ⟨by repeat (first | (with_reducible first | exact HB.out | apply below_alloc | apply pw_below_drewN | apply below_drew1) | exact HB.out)⟩⟩
      case round =>
        clear H'
        try clear c2
        try clear c2b0
        try clear c2b1
        try clear p2
        try clear c3
        try clear c3b0
        try clear c3b1
        obtain ⟨x3_1, x4_1, rfl, HA, HK1, HO_3, HB⟩ := hrel
        cases gk with
        | zero => exact absurd HA.out (by simp [laws_toByteSS.l0])
        | succ k1 =>
          have H := HA.out
          clear HA
          simp only [laws_toByteSS.l0] at H
          by_cases c6 : x4_1 < (l0.length : Int)
          · rw [if_pos c6] at H
            have c6b0 : decide (x4_1 < (l0.length : Int)) = true := decide_eq_true c6
            clear c6
            by_cases c7 : 0 ≤ x4_1
            · rw [if_pos c7] at H
              have c7b0 : decide (0 ≤ x4_1) = true := decide_eq_true c7
              clear c7
              replace H := Option.bind_eq_some_iff.mp H
              obtain ⟨t373, A80, H⟩ := H
              replace H : (if x4_1 < (x3_1.length : Int) then (laws_toByteSS.l0 k1 l0 (x3_1.set (x4_1 : Int).toNat t373) (wrap64 (x4_1 + 1))) else (none)) = some r := H
              have A8 := Aside0.mk A80
              clear A80
              by_cases c9 : x4_1 < (x3_1.length : Int)
              · rw [if_pos c9] at H
                have c9b0 : decide (x4_1 < (x3_1.length : Int)) = true := decide_eq_true c9
                clear c9
                obtain ⟨y376, hy376⟩ : ∃ y_ : List (List Int), y_ = (x3_1.set (x4_1 : Int).toNat t373) := ⟨_, rfl⟩
                replace H : (laws_toByteSS.l0 k1 l0 y376 (wrap64 (x4_1 + 1))) = some r := by first | (rw [hy376]; with_reducible exact H) | (have H2_ := (Option.bind_some _ _).symm.trans H; rw [hy376]; with_reducible exact H2_) | (have H2_ := (Option.bind_some _ _).symm.trans H; with_reducible exact H2_) | with_reducible exact H | (rw [hy376]; exact H) | exact H
                have Ny376 := Aside0.mk hy376
                clear hy376
                have H' := Aside0.mk H
                clear H
                have p372 : 0 ≤ (x4_1 : Int) := of_decide_eq_true (by first | (with_reducible assumption) | assumption)
                have q372 : x4_1 < (l0.length : Int) := of_decide_eq_true (by first | (with_reducible assumption) | assumption)
                obtain ⟨ad372, A372_0, c372_0, e372, hx372_0, hl372_0, hi372_0⟩ := at_L2 HR0.out x4_1 p372 q372
                cases e372
                replace hx372_0 := (HB.out.cell (World.block_lt_of_cell? w _ hx372_0)).trans hx372_0
                have HR372_0 := Aside0.mk hi372_0
                have HC372_0 := Aside0.mk hl372_0
                clear hi372_0 hl372_0
                replace p372 := eq_true p372
                replace q372 := eq_true q372
                go_wp2_with (first | ((with_reducible refine gate_callee (f := 15) rfl ?_); refine goesL_ (some 20) rfl rfl Try.func15 (by kernel_rfl) rfl #[.slice A372_0 (rd_L2 l0 x4_1).length c372_0] rfl (by (try simp only [List.map_toArray, List.map_cons, List.map_nil]); first | done | rfl | (simp only [List.length_drop, List.length_take]; rfl)) ?_; (with_reducible refine (laws_toByteS.calls k1 _ _ (rd_L2 l0 x4_1) t373 _ ?side1 ?side2 A8.out).mono ?_); (case side1 => repeat (first | exact (Kd.C_below HR372_0.out HB.out) | (with_reducible refine Kd.C_alloc ?_ _) | (with_reducible refine Kd.C_drewN ?_ _) | (with_reducible refine Kd.C_drew ?_))); (case side2 => exact HC372_0.out); rintro e w11 ⟨v374, rfl, ho0, hb⟩; refine ⟨_, rfl, ?_⟩; have n0_ := Aside0.mk (Kd.S_elder' (by (with_reducible repeat (first | apply Kd.S_alloc | apply Kd.S_drewN | apply Kd.S_drew)); exact HO_3.out) (Kd.R_base ho0) hb); have n1_ := Aside0.mk (Kd.R_lower ho0 (below_size (by repeat (first | (with_reducible first | exact HB.out | apply below_alloc | apply pw_below_drewN | apply below_drew1) | exact HB.out)))); have n2_ := Aside0.mk (below_step (by repeat (first | (with_reducible first | exact HB.out | apply below_alloc | apply pw_below_drewN | apply below_drew1) | exact HB.out)) hb); clear HO_3; clear HB; have HO_3 := n0_; have HO375 := n1_; have HB := n2_; clear n0_ n1_ n2_; (try clear hb); (try clear hb2); (try clear hk); (try clear hi); (try clear ho0); have p10 : 0 ≤ (x4_1 : Int) := of_decide_eq_true (by first | (with_reducible assumption) | assumption); have q10 : (x4_1 : Int) < ((x3_1.length : Int) : Int) := of_decide_eq_true (by first | (with_reducible assumption) | assumption); obtain ⟨go10, co10, eo10, gb10, gl10, cl10, HG10⟩ := Kd.S_form HO_3.out (by omega); (first | cases eo10 | (injection eo10 with ea_ en_ ec_; (first | subst ea_ | (injection ea_ with ea_; subst ea_)); subst ec_; clear en_)); have GB10 := Aside0.mk gb10; have GG10 := Aside0.mk HG10; clear gb10 gl10 HG10; obtain ⟨_, ce10, hcl10, hM10, hcc10, hfr10, _, _⟩ := Kd.S_elem HO_3.out [] (x4_1 : Int) p10 q10; obtain ⟨ve10_0, rfl, ge10_0⟩ := hM10; have hx10_0 := hcc10 0 _ rfl; have hf10_0 := hfr10 0; (try simp only [show ((Kd.slice 5 (Kd.int .u8))).sz = 1 from rfl, Nat.mul_one, Nat.add_zero] at hx10_0); (try simp only [show ((Kd.slice 5 (Kd.int .u8))).sz = 1 from rfl, Nat.mul_one, Nat.add_zero] at hf10_0); (try clear hcl10); (try clear hcc10); (try clear hfr10); (try clear hM10); replace p10 := eq_true p10; replace q10 := eq_true q10; have n_ := Aside0.mk (Kd.S_mono (ok' := (fun k_ => some k_ ≠ (v374 : Value).ownBlock)) HO_3.out (fun k_ hk => hk.2)); clear HO_3; have HO_3 := n_; clear n_; have HX12 := Aside0.mk (show Kd.S (Kd.slice 5 (Kd.int .u8)) 22 w11 w.heap.size (fun k_ => ((fun _ => True)) k_ ∧ ¬ ((fun k_ => some k_ = (v374 : Value).ownBlock)) k_) (.slice (some ⟨go10, 0, none⟩) x3_1.length co10) x3_1 from (by (with_reducible repeat (first | apply Kd.S_alloc | apply Kd.S_drewN | apply Kd.S_drew)); exact Kd.S_mono HO_3.out (fun k_ hk => ⟨trivial, fun e_ => hk e_⟩))); obtain ⟨oki12, ce12, hcl12, hM12, hcc12, hfr12, hoki12, hH12⟩ := Kd.S_elem HX12.out [] (x4_1 : Int) (of_decide_eq_true (by first | (with_reducible assumption) | assumption)) (by have h_ : (x4_1 : Int) < ((x3_1.length : Int) : Int) := of_decide_eq_true (by first | (with_reducible assumption) | assumption); first | exact h_ | (have e_ := (Kd.S_reads' HO_3.out).1; omega) | simpa using h_); obtain ⟨ve12_0, rfl, ge12_0⟩ := hM12; have HP12 := Kd.S_seg hH12 (of_decide_eq_true (by first | (with_reducible assumption) | assumption)) (by have h_ : (x4_1 : Int) < ((x3_1.length : Int) : Int) := of_decide_eq_true (by first | (with_reducible assumption) | assumption); first | exact h_ | (have e_ := (Kd.S_reads' HO_3.out).1; omega) | simpa using h_) (seg := [v374]) (j := 0) (show 1 ≤ 1 from by decide) (x' := t373) (Kd.M_row (Kd.R_mono (Kd.R_tight rfl (Kd.R_mono (ok' := fun k_ => ((fun _ => True)) k_ ∧ k_ ≠ go10) (Kd.R_apart' (HO375.out) (Kd.S_typed HO_3.out) (by decide)) (fun k_ hk => ⟨trivial, fun e_ => (hk.2) (by rw [e_]; rfl)⟩))) (fun _ h_ => Or.inr (h_)))) (fun _ hk => hk) (fun k_ hk_ => ((Kd.R_mono (ok' := fun k_ => ((fun _ => True)) k_ ∧ k_ ≠ go10) (Kd.R_apart' (HO375.out) (Kd.S_typed HO_3.out) (by decide)) (fun k_ hk => ⟨trivial, fun e_ => (hk.2) (by rw [e_]; rfl)⟩))).1 k_ hk_.symm); have hx12_0 := hcc12 0 _ rfl; (try simp only [show ((Kd.slice 5 (Kd.int .u8))).sz = 1 from rfl, Nat.mul_one, Nat.add_zero] at hx12_0); have hf12_0 := hfr12 0; (try simp only [show ((Kd.slice 5 (Kd.int .u8))).sz = 1 from rfl, Nat.mul_one, Nat.add_zero] at hf12_0); (try clear hcl12); (try clear hcc12); (try clear hfr12); (try clear hM12); (try clear hoki12); (try clear hH12); (try simp only [show ((Kd.slice 5 (Kd.int .u8))).sz = 1 from rfl, Nat.mul_one, Nat.add_zero] at HP12)) | ((with_reducible refine gate_store (t := 22) (p := 21) rfl ?_); refine store_event (t := 22) (p := 21) (v := ?vo_w13) (w1 := (w11.setCell ⟨go10, (x4_1 : Int).toNat, none⟩ (v374))) ?hg ?ho ?hn ?hr ?_; (case ho => rfl); (case hg => rfl); (case hn => rfl); (case hr => first | (go_simp; done) | (go_simp; rfl) | (obtain ⟨Aq_, cq_, eq_⟩ := Kd.R_slice HO375.out; subst eq_; first | (go_simp; done) | (go_simp; rfl))); intro w13 hw; have hg : w11.grownBy w13 (some go10) := (by rw [hw]; exact HP12.2); have hp_ : Kd.S (Kd.slice 5 (Kd.int .u8)) 22 w13 w.heap.size (fun _ => True) (.slice (some ⟨go10, 0, none⟩) x3_1.length co10) y376 := (by rw [hw, Ny376.out]; exact HP12.1); clear HP12; have n0_ := Aside0.mk (hp_); have n1_ := Aside0.mk ((by rw [hw]; exact below_set (HB.out) GB10.out : Below w.heap.size w w13)); clear HO_3; clear HB; clear HO375; have HO_3 := n0_; have HB := n1_; clear n0_ n1_; clear hg hw hp_))
                go_roundg k1
                case measure => have := HK1.out; omega
                case rel => exact ⟨(y376), (wrap64 (x4_1 + 1)), (by first | rfl | (simp; done) | (simp [*]; done)), H', ⟨by have := HK1.out; omega⟩, ⟨by (with_reducible repeat (first | apply Kd.S_alloc | apply Kd.S_drewN | apply Kd.S_drew)); exact HO_3.out⟩, ⟨by repeat (first | (with_reducible first | exact HB.out | apply below_alloc | apply pw_below_drewN | apply below_drew1) | exact HB.out)⟩⟩
              · rw [if_neg c9] at H
                exact absurd H (by simp)
            · rw [if_neg c7] at H
              exact absurd H (by simp)
          · rw [if_neg c6] at H
            have c6b0 : decide (x4_1 < (l0.length : Int)) = false := decide_eq_false c6
            clear c6
            obtain rfl := Option.some.inj H
            go_wp2
            go_ret
            exact ⟨_, by first | rfl | (simp [errW_none, errW_some] <;> rfl) | (simp [*, errW_none, errW_some] <;> rfl), by (with_reducible repeat (first | apply Kd.S_alloc | apply Kd.S_drewN | apply Kd.S_drew)); exact HO_3.out, by repeat (first | (with_reducible first | exact HB.out | apply below_alloc | apply pw_below_drewN | apply below_drew1) | exact HB.out)⟩
    · rw [if_neg c3] at H
      exact absurd H (by simp)
  · rw [if_neg c2] at H
    exact absurd H (by simp)

end Go.Proofs.Ytlopmffdebhpfaa.G

/-! ## G138 -/
namespace Go.Proofs.Ytlopmffdebhpfaa.G
open Go.RowKit Go.Proofs.YtlopmffdebhpfaaW.PrintWords Go.Proofs.YtlopmffdebhpfaaW.PrintLast Go.Proofs.YtlopmffdebhpfaaW.PrintMore
attribute [local go_sem] max2_int min2_int max_two min_two max_three min_three max_four min_four
set_option linter.unusedVariables false
set_option linter.unusedSimpArgs false

/-! ### laws_toPend: function 138 -/
def laws_toPend.f (k : Nat) (a0_0 : Int) (l0_1 : List Int) : Option (Int × List Int) := (laws_toByteS.f k l0_1).bind fun t380 => (some (a0_0, t380))
set_option maxRecDepth 100000 in
theorem laws_toPend.mono : ∀ a0 a1 k, LeO (laws_toPend.f k a0 a1) (laws_toPend.f (k + 1) a0 a1) := by
  intro a0 a1 k
  unfold laws_toPend.f
  repeat' first
      | (with_reducible exact laws_toByteS.mono _ _)
      | (with_reducible exact LeO.refl _)
      | (with_reducible exact LeO.none _)
      | (with_reducible refine LeO.ite ?_ ?_)
      | (with_reducible refine LeO.bind ?_ (fun _ => ?_))
      | exact laws_toByteS.mono _ _
      | exact LeO.none _
      | refine LeO.ite ?_ ?_
      | refine LeO.bind ?_ (fun _ => ?_)
set_option maxHeartbeats 8000000 in
set_option maxRecDepth 100000 in
theorem laws_toPend.calls (k : Nat) (a0_0 : Int) (A0_1 : Option Addr) (c0_1 : Nat) (l0_1 : List Int) (r1 : Int) (r2 : List Int) (w : World) (hr0_1 : Kd.C (Kd.int .u8) w A0_1 l0_1.length l0_1) (hc0_1 : l0_1.length ≤ c0_1) (h : laws_toPend.f k a0_0 l0_1 = some (r1, r2)) :
    Calls Try.prog 138 #[.agg #[.int .i64 a0_0, .slice A0_1 l0_1.length c0_1]] w fun e w' => ∃ v1_ : Value, e = .returned (.agg #[.int .i64 r1, v1_]) ∧ Kd.R (Kd.int .u8) 5 w' w.heap.size (fun _ => True) v1_ r2 ∧ Below w.heap.size w w' := by
  have hu184 := Try.underlying184
  have hu185 := Try.underlying185
  have HR0_1 := Aside0.mk hr0_1
  have HC0_1 := Aside0.mk hc0_1
  clear hr0_1 hc0_1
  have HB := Aside0.mk (Below.refl w.heap.size w)
  have H : ((laws_toByteS.f k l0_1).bind fun t380 => (some (a0_0, t380))) = some (r1, r2) := h
  clear h
  replace H := Option.bind_eq_some_iff.mp H
  obtain ⟨t380, A20, H⟩ := H
  replace H : (some (a0_0, t380)) = some (r1, r2) := H
  have A2 := Aside0.mk A20
  clear A20
  simp only [Option.some.injEq, Prod.mk.injEq] at H
  obtain ⟨rfl, rfl⟩ := H
  go_enter Try.func138, Try.ntmps138
  go_wp2_with (first | ((with_reducible refine gate_dst (N := 1) rfl ?_); refine box_event ?hg (N := 1) ?hd (cs := #[.int .i64 a0_0, .slice A0_1 l0_1.length c0_1]) (t := 184) ?hr ?_; (case hd => rfl); (case hg => rfl); (case hr => first | (go_simp; done) | (go_simp; rfl)); intro gb377 hg w3 hbox hb; have n0_ := Aside0.mk (below_step (by repeat (first | (with_reducible first | exact HB.out | apply below_alloc | apply pw_below_drewN | apply below_drew1) | exact HB.out)) hb); have n1_ := Aside0.mk (hbox); have n2_ := Aside0.mk ((by rw [hg]; exact (below_size (by repeat (first | (with_reducible first | exact HB.out | apply below_alloc | apply pw_below_drewN | apply below_drew1) | exact HB.out))) : w.heap.size ≤ gb377)); have n3_ := Aside0.mk ((by rw [hg]; exact (below_size (by repeat (first | (with_reducible first | exact HB.out | apply below_alloc | apply pw_below_drewN | apply below_drew1) | exact HB.out))) : w.heap.size ≤ gb377)); clear HB; have HB := n0_; have BK377 := n1_; have GW377 := n2_; have GE377 := n3_; clear n0_ n1_ n2_ n3_; clear hb hbox hg) | ((with_reducible refine gate_dst (N := 2) rfl ?_); refine box_event ?hg (N := 2) ?hd (cs := #[.int .i64 0, .slice none 0 0]) (t := 185) ?hr ?_; (case hd => rfl); (case hg => rfl); (case hr => first | (go_simp; done) | (go_simp; rfl)); intro gb378 hg w4 hbox hb; have n0_ := Aside0.mk (blk_below (g := gb377) (o := .cells #[.int .i64 a0_0, .slice A0_1 l0_1.length c0_1] 184 (0, 0)) (by (with_reducible repeat (first | refine blk_drewN ?_ _ | refine blk_drew ?_ | refine blk_alloc ?_ _)); exact BK377.out) hb); have n1_ := Aside0.mk (below_step (by repeat (first | (with_reducible first | exact HB.out | apply below_alloc | apply pw_below_drewN | apply below_drew1 | refine below_set ?_ GE377.out) | exact HB.out)) hb); have n2_ := Aside0.mk (hbox); have n3_ := Aside0.mk ((by rw [hg]; exact (below_size (by repeat (first | (with_reducible first | exact HB.out | apply below_alloc | apply pw_below_drewN | apply below_drew1 | refine below_set ?_ GE377.out) | exact HB.out))) : w.heap.size ≤ gb378)); have n4_ := Aside0.mk ((by rw [hg]; exact (below_size (by repeat (first | (with_reducible first | exact HB.out | apply below_alloc | apply pw_below_drewN | apply below_drew1 | refine below_set ?_ GE377.out) | exact HB.out))) : w.heap.size ≤ gb378)); have n5_ := Aside0.mk ((by rw [hg]; exact Nat.ne_of_lt (blk_lt (g := gb377) (o := .cells #[.int .i64 a0_0, .slice A0_1 l0_1.length c0_1] 184 (0, 0)) (by (with_reducible repeat (first | refine blk_drewN ?_ _ | refine blk_drew ?_ | refine blk_alloc ?_ _)); exact BK377.out)) : gb377 ≠ gb378)); have n6_ := Aside0.mk ((by rw [hg]; exact Nat.ne_of_gt (blk_lt (g := gb377) (o := .cells #[.int .i64 a0_0, .slice A0_1 l0_1.length c0_1] 184 (0, 0)) (by (with_reducible repeat (first | refine blk_drewN ?_ _ | refine blk_drew ?_ | refine blk_alloc ?_ _)); exact BK377.out)) : gb378 ≠ gb377)); clear BK377; clear HB; have BK377 := n0_; have HB := n1_; have BK378 := n2_; have GW378 := n3_; have GE378 := n4_; have NB377_378 := n5_; have NB378_377 := n6_; clear n0_ n1_ n2_ n3_ n4_ n5_ n6_; clear hb hbox hg) | ((with_reducible refine gate_dst (N := 3) rfl ?_); refine box_event ?hg (N := 3) ?hd (cs := #[.int .i64 0, .slice none 0 0]) (t := 185) ?hr ?_; (case hd => rfl); (case hg => rfl); (case hr => first | (go_simp; done) | (go_simp; rfl)); intro gb379 hg w5 hbox hb; have n0_ := Aside0.mk (blk_below (g := gb377) (o := .cells #[.int .i64 a0_0, .slice A0_1 l0_1.length c0_1] 184 (0, 0)) (by (with_reducible repeat (first | refine blk_drewN ?_ _ | refine blk_drew ?_ | refine blk_alloc ?_ _)); exact BK377.out) hb); have n1_ := Aside0.mk (blk_below (g := gb378) (o := .cells #[.int .i64 0, .slice none 0 0] 185 (0, 0)) (by (with_reducible repeat (first | refine blk_drewN ?_ _ | refine blk_drew ?_ | refine blk_alloc ?_ _)); exact BK378.out) hb); have n2_ := Aside0.mk (below_step (by repeat (first | (with_reducible first | exact HB.out | apply below_alloc | apply pw_below_drewN | apply below_drew1 | refine below_set ?_ GE377.out | refine below_set ?_ GE378.out) | exact HB.out)) hb); have n3_ := Aside0.mk (hbox); have n4_ := Aside0.mk ((by rw [hg]; exact (below_size (by repeat (first | (with_reducible first | exact HB.out | apply below_alloc | apply pw_below_drewN | apply below_drew1 | refine below_set ?_ GE377.out | refine below_set ?_ GE378.out) | exact HB.out))) : w.heap.size ≤ gb379)); have n5_ := Aside0.mk ((by rw [hg]; exact (below_size (by repeat (first | (with_reducible first | exact HB.out | apply below_alloc | apply pw_below_drewN | apply below_drew1 | refine below_set ?_ GE377.out | refine below_set ?_ GE378.out) | exact HB.out))) : w.heap.size ≤ gb379)); have n6_ := Aside0.mk ((by rw [hg]; exact Nat.ne_of_lt (blk_lt (g := gb377) (o := .cells #[.int .i64 a0_0, .slice A0_1 l0_1.length c0_1] 184 (0, 0)) (by (with_reducible repeat (first | refine blk_drewN ?_ _ | refine blk_drew ?_ | refine blk_alloc ?_ _)); exact BK377.out)) : gb377 ≠ gb379)); have n7_ := Aside0.mk ((by rw [hg]; exact Nat.ne_of_gt (blk_lt (g := gb377) (o := .cells #[.int .i64 a0_0, .slice A0_1 l0_1.length c0_1] 184 (0, 0)) (by (with_reducible repeat (first | refine blk_drewN ?_ _ | refine blk_drew ?_ | refine blk_alloc ?_ _)); exact BK377.out)) : gb379 ≠ gb377)); have n8_ := Aside0.mk ((by rw [hg]; exact Nat.ne_of_lt (blk_lt (g := gb378) (o := .cells #[.int .i64 0, .slice none 0 0] 185 (0, 0)) (by (with_reducible repeat (first | refine blk_drewN ?_ _ | refine blk_drew ?_ | refine blk_alloc ?_ _)); exact BK378.out)) : gb378 ≠ gb379)); have n9_ := Aside0.mk ((by rw [hg]; exact Nat.ne_of_gt (blk_lt (g := gb378) (o := .cells #[.int .i64 0, .slice none 0 0] 185 (0, 0)) (by (with_reducible repeat (first | refine blk_drewN ?_ _ | refine blk_drew ?_ | refine blk_alloc ?_ _)); exact BK378.out)) : gb379 ≠ gb378)); clear BK377; clear BK378; clear HB; have BK377 := n0_; have BK378 := n1_; have HB := n2_; have BK379 := n3_; have GW379 := n4_; have GE379 := n5_; have NB377_379 := n6_; have NB379_377 := n7_; have NB378_379 := n8_; have NB379_378 := n9_; clear n0_ n1_ n2_ n3_ n4_ n5_ n6_ n7_ n8_ n9_; clear hb hbox hg; have hnb6 := NB377_378.out; have hnc6 := NB378_377.out; have hnb7 := NB377_379.out; have hnc7 := NB379_377.out; have hcz8_0 : w5.cell? ⟨gb377, 0, none⟩ = some (.int .i64 a0_0) := (blk_cell BK377.out 0).trans rfl; have hcz8_1 : w5.cell? ⟨gb377, 1, none⟩ = some (.slice A0_1 l0_1.length c0_1) := (blk_cell BK377.out 1).trans rfl; have hfz8_0 := blk_frozen BK377.out 0; have hfz8_1 := blk_frozen BK377.out 1; have hnb9 := NB379_378.out; have hnc9 := NB378_379.out; have hcz10_0 : w5.cell? ⟨gb379, 0, none⟩ = some (.int .i64 0) := (blk_cell BK379.out 0).trans rfl; have hcz10_1 : w5.cell? ⟨gb379, 1, none⟩ = some (.slice none 0 0) := (blk_cell BK379.out 1).trans rfl; have hfz10_0 := blk_frozen BK379.out 0; have hfz10_1 := blk_frozen BK379.out 1) | ((with_reducible refine gate_callee (f := 15) rfl ?_); refine goesL_ (some 9) rfl rfl Try.func15 (by kernel_rfl) rfl #[.slice A0_1 l0_1.length c0_1] rfl (by (try simp only [List.map_toArray, List.map_cons, List.map_nil]); first | done | rfl | (simp only [List.length_drop, List.length_take]; rfl)) ?_; (with_reducible refine (laws_toByteS.calls k _ _ l0_1 t380 _ ?side1 ?side2 A2.out).mono ?_); (case side1 => exact Kd.C_below HR0_1.out (by repeat (first | (with_reducible first | exact HB.out | apply below_alloc | apply pw_below_drewN | apply below_drew1 | refine below_set ?_ GE377.out | refine below_set ?_ GE378.out | refine below_set ?_ GE379.out) | exact HB.out))); (case side2 => exact HC0_1.out); rintro e w11 ⟨v381, rfl, ho0, hb⟩; refine ⟨_, rfl, ?_⟩; have n0_ := Aside0.mk (Kd.R_lower ho0 (below_size (by repeat (first | (with_reducible first | exact HB.out | apply below_alloc | apply pw_below_drewN | apply below_drew1 | refine below_set ?_ GE377.out | refine below_set ?_ GE378.out | refine below_set ?_ GE379.out) | exact HB.out)))); have n1_ := Aside0.mk (blk_below (g := gb377) (o := .cells #[.int .i64 a0_0, .slice A0_1 l0_1.length c0_1] 184 (0, 0)) (by (with_reducible repeat (first | refine blk_drewN ?_ _ | refine blk_drew ?_ | refine blk_alloc ?_ _)); refine blk_far ?_ NB377_379.out _; (with_reducible repeat (first | refine blk_drewN ?_ _ | refine blk_drew ?_ | refine blk_alloc ?_ _)); exact BK377.out) hb); have n2_ := Aside0.mk (blk_below (g := gb378) (o := .cells #[.int .i64 0, .slice none 0 0] 185 (0, 0)) (by (with_reducible repeat (first | refine blk_drewN ?_ _ | refine blk_drew ?_ | refine blk_alloc ?_ _)); refine blk_far ?_ NB378_379.out _; (with_reducible repeat (first | refine blk_drewN ?_ _ | refine blk_drew ?_ | refine blk_alloc ?_ _)); exact BK378.out) hb); have n3_ := Aside0.mk (blk_below (g := gb379) (o := .cells #[.int .i64 a0_0, .slice none 0 0] 185 (0, 0)) (by (with_reducible repeat (first | refine blk_drewN ?_ _ | refine blk_drew ?_ | refine blk_alloc ?_ _)); refine blk_put (cs := #[.int .i64 0, .slice none 0 0]) ?_ 0 _ rfl; (with_reducible repeat (first | refine blk_drewN ?_ _ | refine blk_drew ?_ | refine blk_alloc ?_ _)); exact BK379.out) hb); have n4_ := Aside0.mk (below_step (by repeat (first | (with_reducible first | exact HB.out | apply below_alloc | apply pw_below_drewN | apply below_drew1 | refine below_set ?_ GE377.out | refine below_set ?_ GE378.out | refine below_set ?_ GE379.out) | exact HB.out)) hb); clear BK377; clear BK378; clear BK379; clear HB; have HO382 := n0_; have BK377 := n1_; have BK378 := n2_; have BK379 := n3_; have HB := n4_; clear n0_ n1_ n2_ n3_ n4_; (try clear hb); (try clear hb2); (try clear hk); (try clear hi); (try clear ho0); obtain ⟨Ao12, co12, eo12⟩ := Kd.R_slice HO382.out; subst eo12; have hcz13_0 : w11.cell? ⟨gb379, 0, none⟩ = some (.int .i64 a0_0) := (blk_cell BK379.out 0).trans rfl; have hcz13_1 : w11.cell? ⟨gb379, 1, none⟩ = some (.slice none 0 0) := (blk_cell BK379.out 1).trans rfl; have hfz13_0 := blk_frozen BK379.out 0; have hfz13_1 := blk_frozen BK379.out 1; have hcz14_0 : w11.cell? ⟨gb378, 0, none⟩ = some (.int .i64 0) := (blk_cell BK378.out 0).trans rfl; have hcz14_1 : w11.cell? ⟨gb378, 1, none⟩ = some (.slice none 0 0) := (blk_cell BK378.out 1).trans rfl; have hfz14_0 := blk_frozen BK378.out 0; have hfz14_1 := blk_frozen BK378.out 1))
  refine bodyPost_ret (results_cell_row rfl _ _ gb378 185 #[.int .i64 a0_0, .slice Ao12 t380.length co12] (0, 0) _ rfl (by (with_reducible repeat (first | refine blk_drewN ?_ _ | refine blk_drew ?_ | refine blk_alloc ?_ _)); refine blk_put (cs := #[.int .i64 a0_0, .slice none 0 0]) ?_ 1 _ rfl; (with_reducible repeat (first | refine blk_drewN ?_ _ | refine blk_drew ?_ | refine blk_alloc ?_ _)); refine blk_put (cs := #[.int .i64 0, .slice none 0 0]) ?_ 0 _ rfl; (with_reducible repeat (first | refine blk_drewN ?_ _ | refine blk_drew ?_ | refine blk_alloc ?_ _)); refine blk_far ?_ NB378_379.out _; (with_reducible repeat (first | refine blk_drewN ?_ _ | refine blk_drew ?_ | refine blk_alloc ?_ _)); exact BK378.out) Try.underlying185 rfl (by kernel_rfl)) rfl ?_
  exact ⟨_, by first | rfl | (simp [errW_none, errW_some] <;> rfl) | (simp [*, errW_none, errW_some] <;> rfl), by (with_reducible repeat (first | apply Kd.R_alloc | apply Kd.R_drewN | apply Kd.R_drew)); exact Kd.R_mono (Kd.R_far (p := ⟨gb378, 1, none⟩) (Kd.R_far (p := ⟨gb378, 0, none⟩) (Kd.R_far (p := ⟨gb379, 1, none⟩) (Kd.R_types (Kd.R_types HO382.out BK379.out (by decide)) BK378.out (by decide)) (fun _ hk => hk.1.2) (.slice Ao12 t380.length co12)) (fun _ hk => hk.2) (.int .i64 a0_0)) (fun _ hk => hk.2) (.slice Ao12 t380.length co12)) (fun _ hk => trivial), by repeat (first | (with_reducible first | exact HB.out | apply below_alloc | apply pw_below_drewN | apply below_drew1 | refine below_set ?_ GE377.out | refine below_set ?_ GE378.out | refine below_set ?_ GE379.out) | exact HB.out)⟩

end Go.Proofs.Ytlopmffdebhpfaa.G

/-! ## G86 -/
namespace Go.Proofs.Ytlopmffdebhpfaa.G
open Go.RowKit Go.Proofs.YtlopmffdebhpfaaW.PrintWords Go.Proofs.YtlopmffdebhpfaaW.PrintLast Go.Proofs.YtlopmffdebhpfaaW.PrintMore
attribute [local go_sem] max2_int min2_int max_two min_two max_three min_three max_four min_four
set_option linter.unusedVariables false
set_option linter.unusedSimpArgs false

/-! ### laws_toPendS: function 86 -/
def laws_toPendS.l0 : Nat → List (S184) → List (S185) → Int → Option ((List (S185)))
  | 0, _, _, _ => none
  | k + 1, x0, x3, x4 => if x4 < (x0.length : Int) then (if 0 ≤ x4 then ((laws_toPend.f k ((rd_T184 x0 x4).f0) ((rd_T184 x0 x4).f1)).bind fun bt387 => (if x4 < (x3.length : Int) then (laws_toPendS.l0 k x0 (x3.set (x4 : Int).toNat (⟨bt387.1, bt387.2⟩ : S185)) (wrap64 (x4 + 1))) else (none))) else (none)) else (some x3)
def laws_toPendS.f (k : Nat) (l0 : List (S184)) : Option ((List (S185))) := if 0 ≤ (l0.length : Int) then (if ((l0.length : Int) : Int).toNat ≤ 8796093022208 then (laws_toPendS.l0 k l0 (List.replicate ((l0.length : Int) : Int).toNat z185) 0) else (none)) else (none)
set_option maxRecDepth 100000 in
theorem laws_toPendS.mono_l : ∀ k, (∀ y0 y1 y2, LeO (laws_toPendS.l0 k y0 y1 y2) (laws_toPendS.l0 (k + 1) y0 y1 y2))
  | 0 => fun _ _ _ r h => by simp [laws_toPendS.l0] at h
  | k + 1 => by
    have ih0 := laws_toPendS.mono_l k
    · intro y0 y1 y2
      unfold laws_toPendS.l0
      repeat' first
      | (with_reducible exact ih0 _ _ _)
      | (with_reducible exact laws_toPend.mono _ _ _)
      | (with_reducible exact LeO.refl _)
      | (with_reducible exact LeO.none _)
      | (with_reducible refine LeO.ite ?_ ?_)
      | (with_reducible refine LeO.bind ?_ (fun _ => ?_))
      | exact ih0 _ _ _
      | exact laws_toPend.mono _ _ _
      | exact LeO.none _
      | refine LeO.ite ?_ ?_
      | refine LeO.bind ?_ (fun _ => ?_)
set_option maxRecDepth 100000 in
theorem laws_toPendS.mono : ∀ a0 k, LeO (laws_toPendS.f k a0) (laws_toPendS.f (k + 1) a0) := by
  intro a0 k
  have ih0 := laws_toPendS.mono_l k
  unfold laws_toPendS.f
  repeat' first
      | (with_reducible exact ih0 _ _ _)
      | (with_reducible exact laws_toPend.mono _ _ _)
      | (with_reducible exact LeO.refl _)
      | (with_reducible exact LeO.none _)
      | (with_reducible refine LeO.ite ?_ ?_)
      | (with_reducible refine LeO.bind ?_ (fun _ => ?_))
      | exact ih0 _ _ _
      | exact laws_toPend.mono _ _ _
      | exact LeO.none _
      | refine LeO.ite ?_ ?_
      | refine LeO.bind ?_ (fun _ => ?_)
set_option maxHeartbeats 8000000 in
set_option maxRecDepth 100000 in
theorem laws_toPendS.calls (k : Nat) (A0 : Option Addr) (c0 : Nat) (l0 : List (S184)) (r : List (S185)) (w : World) (hr0 : Kd.C k184 w A0 l0.length l0) (hc0 : l0.length ≤ c0) (h : laws_toPendS.f k l0 = some r) :
    Calls Try.prog 86 #[.slice A0 l0.length c0] w fun e w' => ∃ v0_ : Value, e = .returned (v0_) ∧ Kd.S k185 185 w' w.heap.size (fun _ => True) v0_ r ∧ Below w.heap.size w w' := by
  have hu184 := Try.underlying184
  have hu185 := Try.underlying185
  have HR0 := Aside0.mk hr0
  have HC0 := Aside0.mk hc0
  clear hr0 hc0
  have HB := Aside0.mk (Below.refl w.heap.size w)
  have H : (if 0 ≤ (l0.length : Int) then (if ((l0.length : Int) : Int).toNat ≤ 8796093022208 then (laws_toPendS.l0 k l0 (List.replicate ((l0.length : Int) : Int).toNat z185) 0) else (none)) else (none)) = some r := h
  clear h
  by_cases c2 : 0 ≤ (l0.length : Int)
  · rw [if_pos c2] at H
    have c2b0 := eq_true c2
    have c2b1 : decide (0 ≤ (l0.length : Int)) = true := decide_eq_true c2
    clear c2
    by_cases c3 : ((l0.length : Int) : Int).toNat ≤ 8796093022208
    · rw [if_pos c3] at H
      have c3b0 := eq_true c3
      have c3b1 : decide (((l0.length : Int) : Int).toNat ≤ 8796093022208) = true := decide_eq_true c3
      clear c3
      obtain ⟨y383, hy383⟩ : ∃ y_ : List (S185), y_ = (List.replicate ((l0.length : Int) : Int).toNat z185) := ⟨_, rfl⟩
      replace H : (laws_toPendS.l0 k l0 y383 0) = some r := by first | (rw [hy383]; with_reducible exact H) | (have H2_ := (Option.bind_some _ _).symm.trans H; rw [hy383]; with_reducible exact H2_) | (have H2_ := (Option.bind_some _ _).symm.trans H; with_reducible exact H2_) | with_reducible exact H | (rw [hy383]; exact H) | exact H
      have Ny383 := Aside0.mk hy383
      clear hy383
      have H' := Aside0.mk H
      clear H
      go_enter Try.func86, Try.ntmps86
      go_wp2_with (first | ((with_reducible refine gate_dst (N := 7) rfl ?_); refine Kd.S_make k185 _ 185 rfl (N := 7) rfl 42 _ _ rfl (l0.length : Int) rfl rfl Try.underlying42 (.agg #[(.int .i64 0), (.slice none 0 0)]) 32 info185 rfl (by decide) (by omega) z185 (ok := fun _ => True) (okp := fun _ => True) (k185_mkM _ _ _ z185 (Kd.R_nil _ _ _ _ _)) (fun _ hk => hk) trivial (of_decide_eq_true (by first | (with_reducible assumption) | assumption)) (Nat.le_trans (Nat.mul_le_mul_right _ (of_decide_eq_true (by first | (with_reducible assumption) | assumption) : (l0.length : Int).toNat ≤ 8796093022208)) (by omega)) (Below.refl _ _) (Nat.le_refl _) ?_; intro v384 w4 ho5 hb hg_ hnew_; clear hg_ hnew_; (first | rw [← Ny383.out] at ho5 | (simp only [Int.reduceToNat] at ho5; rw [← Ny383.out] at ho5)); have n0_ := Aside0.mk (Kd.S_lower ho5 (below_size (by repeat (first | (with_reducible first | exact HB.out | apply below_alloc | apply pw_below_drewN | apply below_drew1) | exact HB.out)))); have n1_ := Aside0.mk (below_step (by repeat (first | (with_reducible first | exact HB.out | apply below_alloc | apply pw_below_drewN | apply below_drew1) | exact HB.out)) hb); clear HB; have HO385 := n0_; have HB := n1_; clear n0_ n1_; clear hb ho5))
      go_loopg [4] k (fun kq v4 w' => ∃ (x3_1 : List (S185)) (x4_1 : Int), v4 = .int .i64 x4_1 ∧ Aside0 (laws_toPendS.l0 kq l0 x3_1 x4_1 = some r) ∧ Aside0 (kq ≤ k) ∧ Aside0 (Kd.S k185 185 w' w.heap.size (fun _ => True) v384 x3_1) ∧ Aside0 (Below w.heap.size w w'))
      case atStart => exact ⟨(y383), (0), (by first | rfl | (simp; done) | (simp [*]; done)), H', ⟨Nat.le_refl _⟩, ⟨by (with_reducible repeat (first | apply Kd.S_alloc | apply Kd.S_drewN | apply Kd.S_drew)); exact HO385.out⟩, ⟨by repeat (first | (with_reducible first | exact HB.out | apply below_alloc | apply pw_below_drewN | apply below_drew1) | exact HB.out)⟩⟩
      case round =>
        clear H'
        try clear c2
        try clear c2b0
        try clear c2b1
        try clear p2
        try clear c3
        try clear c3b0
        try clear c3b1
        obtain ⟨x3_1, x4_1, rfl, HA, HK1, HO_3, HB⟩ := hrel
        cases gk with
        | zero => exact absurd HA.out (by simp [laws_toPendS.l0])
        | succ k1 =>
          have H := HA.out
          clear HA
          simp only [laws_toPendS.l0] at H
          by_cases c6 : x4_1 < (l0.length : Int)
          · rw [if_pos c6] at H
            have c6b0 : decide (x4_1 < (l0.length : Int)) = true := decide_eq_true c6
            clear c6
            by_cases c7 : 0 ≤ x4_1
            · rw [if_pos c7] at H
              have c7b0 : decide (0 ≤ x4_1) = true := decide_eq_true c7
              clear c7
              replace H := Option.bind_eq_some_iff.mp H
              obtain ⟨⟨t387, t388⟩, A80, H⟩ := H
              replace H : (if x4_1 < (x3_1.length : Int) then (laws_toPendS.l0 k1 l0 (x3_1.set (x4_1 : Int).toNat (⟨t387, t388⟩ : S185)) (wrap64 (x4_1 + 1))) else (none)) = some r := H
              have A8 := Aside0.mk A80
              clear A80
              by_cases c9 : x4_1 < (x3_1.length : Int)
              · rw [if_pos c9] at H
                have c9b0 : decide (x4_1 < (x3_1.length : Int)) = true := decide_eq_true c9
                clear c9
                obtain ⟨y391, hy391⟩ : ∃ y_ : List (S185), y_ = (x3_1.set (x4_1 : Int).toNat (⟨t387, t388⟩ : S185)) := ⟨_, rfl⟩
                replace H : (laws_toPendS.l0 k1 l0 y391 (wrap64 (x4_1 + 1))) = some r := by first | (rw [hy391]; with_reducible exact H) | (have H2_ := (Option.bind_some _ _).symm.trans H; rw [hy391]; with_reducible exact H2_) | (have H2_ := (Option.bind_some _ _).symm.trans H; with_reducible exact H2_) | with_reducible exact H | (rw [hy391]; exact H) | exact H
                have Ny391 := Aside0.mk hy391
                clear hy391
                have H' := Aside0.mk H
                clear H
                have p386 : 0 ≤ (x4_1 : Int) := of_decide_eq_true (by first | (with_reducible assumption) | assumption)
                have q386 : x4_1 < (l0.length : Int) := of_decide_eq_true (by first | (with_reducible assumption) | assumption)
                obtain ⟨ad386, A386_1, c386_1, e386, hx386_0, hx386_1, hl386_1, hi386_1⟩ := at_T184 HR0.out x4_1 p386 q386
                cases e386
                replace hx386_0 := (HB.out.cell (World.block_lt_of_cell? w _ hx386_0)).trans hx386_0
                replace hx386_1 := (HB.out.cell (World.block_lt_of_cell? w _ hx386_1)).trans hx386_1
                have HR386_1 := Aside0.mk hi386_1
                have HC386_1 := Aside0.mk hl386_1
                clear hi386_1 hl386_1
                replace p386 := eq_true p386
                replace q386 := eq_true q386
                go_wp2_with (first | ((with_reducible refine gate_callee (f := 138) rfl ?_); refine goesL_ (some 20) rfl rfl Try.func138 (by kernel_rfl) rfl #[.agg #[.int .i64 ((rd_T184 l0 x4_1).f0), .slice A386_1 ((rd_T184 l0 x4_1).f1).length c386_1]] rfl (by (try simp only [List.map_toArray, List.map_cons, List.map_nil]); first | done | rfl | (simp only [List.length_drop, List.length_take]; rfl)) ?_; (with_reducible refine (laws_toPend.calls k1 ((rd_T184 l0 x4_1).f0) _ _ ((rd_T184 l0 x4_1).f1) t387 t388 _ ?side1 ?side2 A8.out).mono ?_); (case side1 => repeat (first | exact (Kd.C_below HR386_1.out HB.out) | (with_reducible refine Kd.C_alloc ?_ _) | (with_reducible refine Kd.C_drewN ?_ _) | (with_reducible refine Kd.C_drew ?_))); (case side2 => exact HC386_1.out); rintro e w11 ⟨v389, rfl, ho0, hb⟩; refine ⟨_, rfl, ?_⟩; have n0_ := Aside0.mk (Kd.S_elder' (by (with_reducible repeat (first | apply Kd.S_alloc | apply Kd.S_drewN | apply Kd.S_drew)); exact HO_3.out) (Kd.R_base ho0) hb); have n1_ := Aside0.mk (Kd.R_lower ho0 (below_size (by repeat (first | (with_reducible first | exact HB.out | apply below_alloc | apply pw_below_drewN | apply below_drew1) | exact HB.out)))); have n2_ := Aside0.mk (below_step (by repeat (first | (with_reducible first | exact HB.out | apply below_alloc | apply pw_below_drewN | apply below_drew1) | exact HB.out)) hb); clear HO_3; clear HB; have HO_3 := n0_; have HO390 := n1_; have HB := n2_; clear n0_ n1_ n2_; (try clear hb); (try clear hb2); (try clear hk); (try clear hi); (try clear ho0); have p10 : 0 ≤ (x4_1 : Int) := of_decide_eq_true (by first | (with_reducible assumption) | assumption); have q10 : (x4_1 : Int) < ((x3_1.length : Int) : Int) := of_decide_eq_true (by first | (with_reducible assumption) | assumption); obtain ⟨go10, co10, eo10, gb10, gl10, cl10, HG10⟩ := Kd.S_form HO_3.out (by omega); (first | cases eo10 | (injection eo10 with ea_ en_ ec_; (first | subst ea_ | (injection ea_ with ea_; subst ea_)); subst ec_; clear en_)); have GB10 := Aside0.mk gb10; have GG10 := Aside0.mk HG10; clear gb10 gl10 HG10; obtain ⟨_, ce10, hcl10, hM10, hcc10, hfr10, _, _⟩ := Kd.S_elem HO_3.out z185 (x4_1 : Int) p10 q10; obtain ⟨ve10_1, rfl, ge10_1⟩ := k185_openM hM10; have hx10_0 : w11.cell? ⟨go10, (x4_1 : Int).toNat * 2, none⟩ = some (.int .i64 ((rd_T185 x3_1 x4_1).f0)) := hcc10 0 _ rfl; have hx10_1 : w11.cell? ⟨go10, (x4_1 : Int).toNat * 2 + 1, none⟩ = some (ve10_1) := hcc10 1 _ rfl; have hf10_0 : w11.frozen? ⟨go10, (x4_1 : Int).toNat * 2, none⟩ = false := hfr10 0; have hf10_1 : w11.frozen? ⟨go10, (x4_1 : Int).toNat * 2 + 1, none⟩ = false := hfr10 1; (try clear hcl10); (try clear hcc10); (try clear hfr10); (try clear hM10); replace p10 := eq_true p10; replace q10 := eq_true q10; have n_ := Aside0.mk (Kd.S_mono (ok' := (fun k_ => some k_ ≠ (v389 : Value).ownBlock)) HO_3.out (fun k_ hk => hk.2)); clear HO_3; have HO_3 := n_; clear n_; have HX12 := Aside0.mk (show Kd.S k185 185 w11 w.heap.size (fun k_ => ((fun _ => True)) k_ ∧ ¬ ((fun k_ => some k_ = (v389 : Value).ownBlock)) k_) (.slice (some ⟨go10, 0, none⟩) x3_1.length co10) x3_1 from (by (with_reducible repeat (first | apply Kd.S_alloc | apply Kd.S_drewN | apply Kd.S_drew)); exact Kd.S_mono HO_3.out (fun k_ hk => ⟨trivial, fun e_ => hk e_⟩))); obtain ⟨oki12, ce12, hcl12, hM12, hcc12, hfr12, hoki12, hH12⟩ := Kd.S_elem HX12.out z185 (x4_1 : Int) (of_decide_eq_true (by first | (with_reducible assumption) | assumption)) (by have h_ : (x4_1 : Int) < ((x3_1.length : Int) : Int) := of_decide_eq_true (by first | (with_reducible assumption) | assumption); first | exact h_ | (have e_ := (Kd.S_reads' HO_3.out).1; omega) | simpa using h_); obtain ⟨ve12_1, rfl, ge12_1⟩ := k185_openM hM12; have HP12 := Kd.S_seg hH12 (of_decide_eq_true (by first | (with_reducible assumption) | assumption)) (by have h_ : (x4_1 : Int) < ((x3_1.length : Int) : Int) := of_decide_eq_true (by first | (with_reducible assumption) | assumption); first | exact h_ | (have e_ := (Kd.S_reads' HO_3.out).1; omega) | simpa using h_) (seg := [.int .i64 t387, v389]) (j := 0) (show 2 ≤ 2 from by decide) (x' := (⟨t387, t388⟩ : S185)) (k185_mkM _ _ _ (⟨t387, t388⟩ : S185) (Kd.R_mono (Kd.R_tight rfl (Kd.R_mono (ok' := fun k_ => ((fun _ => True)) k_ ∧ k_ ≠ go10) (Kd.R_apart' (HO390.out) (Kd.S_typed HO_3.out) (by decide)) (fun k_ hk => ⟨trivial, fun e_ => (hk.2) (by rw [e_]; rfl)⟩))) (fun _ h_ => Or.inr (h_)))) (fun _ hk => hk) (fun k_ hk_ => ((Kd.R_mono (ok' := fun k_ => ((fun _ => True)) k_ ∧ k_ ≠ go10) (Kd.R_apart' (HO390.out) (Kd.S_typed HO_3.out) (by decide)) (fun k_ hk => ⟨trivial, fun e_ => (hk.2) (by rw [e_]; rfl)⟩))).1 k_ hk_.symm); have hx12_0 := hcc12 0 _ rfl; (try simp only [show (k185).sz = 2 from rfl, Nat.mul_one, Nat.add_zero] at hx12_0); have hf12_0 := hfr12 0; (try simp only [show (k185).sz = 2 from rfl, Nat.mul_one, Nat.add_zero] at hf12_0); have hx12_1 := hcc12 1 _ rfl; (try simp only [show (k185).sz = 2 from rfl, Nat.mul_one, Nat.add_zero] at hx12_1); have hf12_1 := hfr12 1; (try simp only [show (k185).sz = 2 from rfl, Nat.mul_one, Nat.add_zero] at hf12_1); (try clear hcl12); (try clear hcc12); (try clear hfr12); (try clear hM12); (try clear hoki12); (try clear hH12)) | ((with_reducible refine gate_store (t := 185) (p := 21) rfl ?_); refine store_event (t := 185) (p := 21) (v := ?vo_w13) (w1 := ((w11.setCell ⟨go10, (x4_1 : Int).toNat * 2, none⟩ (.int .i64 t387)).setCell ⟨go10, (x4_1 : Int).toNat * 2 + 1, none⟩ (v389))) ?hg ?ho ?hn ?hr ?_; (case ho => rfl); (case hg => rfl); (case hn => rfl); (case hr => first | (go_simp; done) | (go_simp; rfl) | (obtain ⟨Aq_, cq_, eq_⟩ := Kd.R_slice HO390.out; subst eq_; first | (go_simp; done) | (go_simp; rfl))); intro w13 hw; have hg : w11.grownBy w13 (some go10) := (by rw [hw]; exact HP12.2); have hp_ : Kd.S k185 185 w13 w.heap.size (fun _ => True) (.slice (some ⟨go10, 0, none⟩) x3_1.length co10) y391 := (by rw [hw, Ny391.out]; exact HP12.1); clear HP12; have n0_ := Aside0.mk (hp_); have n1_ := Aside0.mk ((by rw [hw]; exact below_set (below_set (HB.out) GB10.out) GB10.out : Below w.heap.size w w13)); clear HO_3; clear HB; clear HO390; have HO_3 := n0_; have HB := n1_; clear n0_ n1_; clear hg hw hp_))
                go_roundg k1
                case measure => have := HK1.out; omega
                case rel => exact ⟨(y391), (wrap64 (x4_1 + 1)), (by first | rfl | (simp; done) | (simp [*]; done)), H', ⟨by have := HK1.out; omega⟩, ⟨by (with_reducible repeat (first | apply Kd.S_alloc | apply Kd.S_drewN | apply Kd.S_drew)); exact HO_3.out⟩, ⟨by repeat (first | (with_reducible first | exact HB.out | apply below_alloc | apply pw_below_drewN | apply below_drew1) | exact HB.out)⟩⟩
              · rw [if_neg c9] at H
                exact absurd H (by simp)
            · rw [if_neg c7] at H
              exact absurd H (by simp)
          · rw [if_neg c6] at H
            have c6b0 : decide (x4_1 < (l0.length : Int)) = false := decide_eq_false c6
            clear c6
            obtain rfl := Option.some.inj H
            go_wp2
            go_ret
            exact ⟨_, by first | rfl | (simp [errW_none, errW_some] <;> rfl) | (simp [*, errW_none, errW_some] <;> rfl), by (with_reducible repeat (first | apply Kd.S_alloc | apply Kd.S_drewN | apply Kd.S_drew)); exact HO_3.out, by repeat (first | (with_reducible first | exact HB.out | apply below_alloc | apply pw_below_drewN | apply below_drew1) | exact HB.out)⟩
    · rw [if_neg c3] at H
      exact absurd H (by simp)
  · rw [if_neg c2] at H
    exact absurd H (by simp)

end Go.Proofs.Ytlopmffdebhpfaa.G
