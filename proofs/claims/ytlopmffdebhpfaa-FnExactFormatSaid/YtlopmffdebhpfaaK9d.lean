/- The law FnExactFormat is true of every argument: its row, out of the walk. Conditions: none beyond the given statement. -/
import Derived.Test.YtlopmffdebhpfaaK9a
import Derived.Test.YtlopmffdebhpfaaK9c
import Derived.Test.YtlopmffdebhpfaaK9b
import Derived.BigQuiet
import Derived.Lib.SmallJoins
import Derived.Test.YtlopmffdebhpfaaRows
import Derived.WalkKit
import Derived.ProofKit
import Derived.OpenShut
import Derived.ShutString
import Derived.ChangeOld
import Derived.Below
import Derived.SizedLaws
import Derived.Test.YtlopmffdebhpfaaK9WSized
/-! ## SOps -/
namespace Go.Proofs.Ytlopmffdebhpfaa.G
open Go.RowKit Go.Proofs.YtlopmffdebhpfaaW.PrintWords Go.Proofs.YtlopmffdebhpfaaW.PrintLast Go.Proofs.YtlopmffdebhpfaaW.PrintMore
attribute [local go_sem] max2_int min2_int max_two min_two max_three min_three max_four min_four
set_option linter.unusedVariables false
set_option linter.unusedSimpArgs false

/-! ### impl_SuperOps: function 116 -/
def impl_SuperOps.f (k : Nat) (a0_0 : Int) (a0_1 : Int) (a0_2 : Int) (a0_3 : Int) : Option ((List (S63)) × Bool) := (impl_SuperV.f a0_0 a0_1 a0_2 a0_3).bind fun t715 => (if t715 = true then ((impl_low.f k a0_0 8).bind fun t716 => ((impl_low.f k a0_1 4).bind fun t719 => ((impl_low.f k a0_2 4).bind fun t722 => ((impl_low.f k a0_3 4).bind fun t725 => ((bytes_Join.f (([t716, t719, t722, t725] : List (List Int))) ([] : List Int)).bind fun t731 => ((impl_PageOps.f k (Int.tmod a0_0 2) 1 t731).bind fun bt734 => (some (bt734.1, bt734.2)))))))) else (some (([] : List (S63)), false)))
def impl_SuperOps.T3 : Bool × List (List Nat × List Nat) := (true, [([], []), ([0], [0]), ([1], [1]), ([], []), ([3], [3]), ([4], [4]), ([], []), ([6], [6]), ([7, 5], [7]), ([], []), ([9], [9]), ([10, 8], [10]), ([], []), ([12], [12]), ([13, 11], [13]), ([5, 8, 11, 14], [5, 8, 11, 14]), ([15, 14], [15]), ([2, 16, 16], [2, 16]), ([17], [17]), ([17], [17]), ([18, 17, 0, 1, 2, 3, 4, 5, 6, 7, 8, 9, 10, 11, 12, 13, 14, 15, 16, 17, 18, 19], [18]), ([19, 20, 0, 1, 2, 3, 4, 5, 6, 7, 8, 9, 10, 11, 12, 13, 14, 15, 16, 17, 18, 19, 20], [19])])
def impl_SuperOps.B3 : List Nat := [0, 1, 3, 0, 8, 24, 0, 64, 248, 0, 512, 2040, 0, 4096, 16376, 32760, 65528, 131071, 262143, 262143, 1048575, 2097151]
theorem impl_SuperOps.tab3 : rtab .any (opsOf Try.f116 3) = impl_SuperOps.T3 := by kernel_rfl
theorem impl_SuperOps.bits3 : waitsOk impl_SuperOps.T3.2 impl_SuperOps.B3 = true := by kernel_rfl
set_option maxHeartbeats 8000000 in
set_option maxRecDepth 100000 in
theorem impl_SuperOps.calls (k : Nat) (a0_0 : Int) (a0_1 : Int) (a0_2 : Int) (a0_3 : Int) (r1 : List (S63)) (r2 : Bool) (w : World) (h : impl_SuperOps.f k a0_0 a0_1 a0_2 a0_3 = some (r1, r2)) :
    Calls Try.prog 116 #[.agg #[.int .i64 a0_0, .int .i64 a0_1, .int .i64 a0_2, .int .i64 a0_3]] w fun e w' => ∃ v0_ : Value, e = .returned (.tuple #[v0_, .bool r2]) ∧ Kd.S k63 63 w' w.heap.size (fun _ => True) v0_ r1 ∧ Below w.heap.size w w' := by
  have hu81 := Try.underlying81
  have HB := Aside0.mk (Below.refl w.heap.size w)
  have H : ((impl_SuperV.f a0_0 a0_1 a0_2 a0_3).bind fun t715 => (if t715 = true then ((impl_low.f k a0_0 8).bind fun t716 => ((impl_low.f k a0_1 4).bind fun t719 => ((impl_low.f k a0_2 4).bind fun t722 => ((impl_low.f k a0_3 4).bind fun t725 => ((bytes_Join.f (([t716, t719, t722, t725] : List (List Int))) ([] : List Int)).bind fun t731 => ((impl_PageOps.f k (Int.tmod a0_0 2) 1 t731).bind fun bt734 => (some (bt734.1, bt734.2)))))))) else (some (([] : List (S63)), false)))) = some (r1, r2) := h
  clear h
  replace H := Option.bind_eq_some_iff.mp H
  obtain ⟨t715, A20, H⟩ := H
  replace H : (if t715 = true then ((impl_low.f k a0_0 8).bind fun t716 => ((impl_low.f k a0_1 4).bind fun t719 => ((impl_low.f k a0_2 4).bind fun t722 => ((impl_low.f k a0_3 4).bind fun t725 => ((bytes_Join.f (([t716, t719, t722, t725] : List (List Int))) ([] : List Int)).bind fun t731 => ((impl_PageOps.f k (Int.tmod a0_0 2) 1 t731).bind fun bt734 => (some (bt734.1, bt734.2)))))))) else (some (([] : List (S63)), false))) = some (r1, r2) := H
  have A2 := Aside0.mk A20
  clear A20
  by_cases c3 : t715 = true
  · subst c3
    have H1 : ((impl_low.f k a0_0 8).bind fun t716 => ((impl_low.f k a0_1 4).bind fun t719 => ((impl_low.f k a0_2 4).bind fun t722 => ((impl_low.f k a0_3 4).bind fun t725 => ((bytes_Join.f (([t716, t719, t722, t725] : List (List Int))) ([] : List Int)).bind fun t731 => ((impl_PageOps.f k (Int.tmod a0_0 2) 1 t731).bind fun bt734 => (some (bt734.1, bt734.2)))))))) = some (r1, r2) := by rw [if_pos rfl] at H; exact H
    clear H
    have H := H1
    clear H1
    replace H := Option.bind_eq_some_iff.mp H
    obtain ⟨t716, A40, H⟩ := H
    replace H : ((impl_low.f k a0_1 4).bind fun t719 => ((impl_low.f k a0_2 4).bind fun t722 => ((impl_low.f k a0_3 4).bind fun t725 => ((bytes_Join.f (([t716, t719, t722, t725] : List (List Int))) ([] : List Int)).bind fun t731 => ((impl_PageOps.f k (Int.tmod a0_0 2) 1 t731).bind fun bt734 => (some (bt734.1, bt734.2))))))) = some (r1, r2) := H
    have A4 := Aside0.mk A40
    clear A40
    replace H := Option.bind_eq_some_iff.mp H
    obtain ⟨t719, A50, H⟩ := H
    replace H : ((impl_low.f k a0_2 4).bind fun t722 => ((impl_low.f k a0_3 4).bind fun t725 => ((bytes_Join.f (([t716, t719, t722, t725] : List (List Int))) ([] : List Int)).bind fun t731 => ((impl_PageOps.f k (Int.tmod a0_0 2) 1 t731).bind fun bt734 => (some (bt734.1, bt734.2)))))) = some (r1, r2) := H
    have A5 := Aside0.mk A50
    clear A50
    replace H := Option.bind_eq_some_iff.mp H
    obtain ⟨t722, A60, H⟩ := H
    replace H : ((impl_low.f k a0_3 4).bind fun t725 => ((bytes_Join.f (([t716, t719, t722, t725] : List (List Int))) ([] : List Int)).bind fun t731 => ((impl_PageOps.f k (Int.tmod a0_0 2) 1 t731).bind fun bt734 => (some (bt734.1, bt734.2))))) = some (r1, r2) := H
    have A6 := Aside0.mk A60
    clear A60
    replace H := Option.bind_eq_some_iff.mp H
    obtain ⟨t725, A70, H⟩ := H
    replace H : ((bytes_Join.f (([t716, t719, t722, t725] : List (List Int))) ([] : List Int)).bind fun t731 => ((impl_PageOps.f k (Int.tmod a0_0 2) 1 t731).bind fun bt734 => (some (bt734.1, bt734.2)))) = some (r1, r2) := H
    have A7 := Aside0.mk A70
    clear A70
    obtain ⟨y728, hy728⟩ : ∃ y_ : List (List Int), y_ = (([t716, t719, t722, t725] : List (List Int))) := ⟨_, rfl⟩
    replace H : ((bytes_Join.f y728 ([] : List Int)).bind fun t731 => ((impl_PageOps.f k (Int.tmod a0_0 2) 1 t731).bind fun bt734 => (some (bt734.1, bt734.2)))) = some (r1, r2) := by first | (rw [hy728]; with_reducible exact H) | (have H2_ := (Option.bind_some _ _).symm.trans H; rw [hy728]; with_reducible exact H2_) | (have H2_ := (Option.bind_some _ _).symm.trans H; with_reducible exact H2_) | with_reducible exact H | (rw [hy728]; exact H) | exact H
    have Ny728 := Aside0.mk hy728
    clear hy728
    replace H := Option.bind_eq_some_iff.mp H
    obtain ⟨t731, A80, H⟩ := H
    replace H : ((impl_PageOps.f k (Int.tmod a0_0 2) 1 t731).bind fun bt734 => (some (bt734.1, bt734.2))) = some (r1, r2) := H
    have A8 := Aside0.mk A80
    clear A80
    replace H := Option.bind_eq_some_iff.mp H
    obtain ⟨⟨t734, t735⟩, A90, H⟩ := H
    replace H : (some (t734, t735)) = some (r1, r2) := H
    have A9 := Aside0.mk A90
    clear A90
    simp only [Option.some.injEq, Prod.mk.injEq] at H
    obtain ⟨rfl, rfl⟩ := H
    go_enter Try.func116, Try.ntmps116
    try go_wp2_with (first | ((with_reducible refine gate_dst (N := 1) rfl ?_); refine box_event ?hg (N := 1) ?hd (cs := #[.int .i64 a0_0, .int .i64 a0_1, .int .i64 a0_2, .int .i64 a0_3]) (t := 81) ?hr ?_; (case hd => rfl); (case hg => rfl); (case hr => first | (go_simp; done) | (go_simp; rfl)); intro gb714 hg w10 hbox hb; have n0_ := Aside0.mk (below_step (by repeat (first | (with_reducible first | exact HB.out | apply below_alloc | apply pw_below_drewN | apply below_drew1) | exact HB.out)) hb); have n1_ := Aside0.mk (hbox); have n2_ := Aside0.mk ((by rw [hg]; exact (below_size (by repeat (first | (with_reducible first | exact HB.out | apply below_alloc | apply pw_below_drewN | apply below_drew1) | exact HB.out))) : w.heap.size ≤ gb714)); have n3_ := Aside0.mk ((by rw [hg]; exact (below_size (by repeat (first | (with_reducible first | exact HB.out | apply below_alloc | apply pw_below_drewN | apply below_drew1) | exact HB.out))) : w.heap.size ≤ gb714)); clear HB; have HB := n0_; have BK714 := n1_; have GW714 := n2_; have GE714 := n3_; clear n0_ n1_ n2_ n3_; clear hb hbox hg; have hcz11_0 : w10.cell? ⟨gb714, 0, none⟩ = some (.int .i64 a0_0) := (blk_cell BK714.out 0).trans rfl; have hcz11_1 : w10.cell? ⟨gb714, 1, none⟩ = some (.int .i64 a0_1) := (blk_cell BK714.out 1).trans rfl; have hcz11_2 : w10.cell? ⟨gb714, 2, none⟩ = some (.int .i64 a0_2) := (blk_cell BK714.out 2).trans rfl; have hcz11_3 : w10.cell? ⟨gb714, 3, none⟩ = some (.int .i64 a0_3) := (blk_cell BK714.out 3).trans rfl; have hfz11_0 := blk_frozen BK714.out 0; have hfz11_1 := blk_frozen BK714.out 1; have hfz11_2 := blk_frozen BK714.out 2; have hfz11_3 := blk_frozen BK714.out 3) | ((with_reducible refine gate_callee (f := 151) rfl ?_); refine goesL_ (some 5) rfl rfl Try.func151 (by kernel_rfl) rfl #[.agg #[.int .i64 a0_0, .int .i64 a0_1, .int .i64 a0_2, .int .i64 a0_3]] rfl (by (try simp only [List.map_toArray, List.map_cons, List.map_nil]); first | done | rfl | (simp only [List.length_drop, List.length_take]; rfl)) ?_; (with_reducible refine (impl_SuperV.calls a0_0 a0_1 a0_2 a0_3 true _ A2.out).mono ?_); rintro e w12 ⟨rfl, hb⟩; refine ⟨_, rfl, ?_⟩; have n0_ := Aside0.mk (blk_below (g := gb714) (o := .cells #[.int .i64 a0_0, .int .i64 a0_1, .int .i64 a0_2, .int .i64 a0_3] 81 (0, 0)) (by (with_reducible repeat (first | refine blk_drewN ?_ _ | refine blk_drew ?_ | refine blk_alloc ?_ _)); exact BK714.out) hb); have n1_ := Aside0.mk (below_step (by repeat (first | (with_reducible first | exact HB.out | apply below_alloc | apply pw_below_drewN | apply below_drew1 | refine below_set ?_ GE714.out) | exact HB.out)) hb); clear BK714; clear HB; have BK714 := n0_; have HB := n1_; clear n0_ n1_; (try clear hb); (try clear hb2); (try clear hk); (try clear hi)))
    have n0_ := Aside0.mk (blk_drew BK714.out)
    have n1_ := Aside0.mk (below_drew1 HB.out)
    clear BK714
    clear HB
    have BK714 := n0_
    have HB := n1_
    clear n0_ n1_
    refine start_ (n := 22) (S := fun w' => w'.cell? ⟨gb714, 0, none⟩ = some (.int .i64 a0_0) ∧ w'.cell? ⟨gb714, 1, none⟩ = some (.int .i64 a0_1) ∧ w'.cell? ⟨gb714, 2, none⟩ = some (.int .i64 a0_2) ∧ w'.cell? ⟨gb714, 3, none⟩ = some (.int .i64 a0_3)) (ds := []) #[false, false, false, false, false, false, false, false, false, false, false, false, false, false, false, false, false, false, false, false, false, false] (by kernel_rfl) rfl rfl ⟨(blk_cell BK714.out 0).trans rfl, (blk_cell BK714.out 1).trans rfl, (blk_cell BK714.out 2).trans rfl, (blk_cell BK714.out 3).trans rfl⟩ (fun hHeld => ?_); refine with_tabW impl_SuperOps.tab3 impl_SuperOps.bits3 (fun HT_ HW_ => ?_)
    generalize w12.drew = w13 at BK714 HB hHeld ⊢
    refine pure_ (i := 0) (N := some 7) (v := ?_) (a' := ?_) #[true, false, false, false, false, false, false, false, false, false, false, false, false, false, false, false, false, false, false, false, false, false] rfl rfl (any_of HT_.out (by kernel_rfl)) (fun _ _ _ h => h) (Or.inl ⟨by rfl, ?_⟩) ?_ ?_
    rotate_left
    · intro w'
      go_simp
      with_reducible rfl
    rotate_left
    · simp only [Act.put, List.setIfInBounds_toArray, List.set_cons_zero, List.set_cons_succ, i64_w, i32_w]
      rfl
    refine pure_ (i := 3) (N := some 10) (v := ?_) (a' := ?_) #[true, false, false, true, false, false, false, false, false, false, false, false, false, false, false, false, false, false, false, false, false, false] rfl rfl (any_of HT_.out (by kernel_rfl)) (fun _ _ _ h => h) (Or.inl ⟨by rfl, ?_⟩) ?_ ?_
    rotate_left
    · intro w'
      go_simp
      with_reducible rfl
    rotate_left
    · simp only [Act.put, List.setIfInBounds_toArray, List.set_cons_zero, List.set_cons_succ, i64_w, i32_w]
      rfl
    refine pure_ (i := 6) (N := some 13) (v := ?_) (a' := ?_) #[true, false, false, true, false, false, true, false, false, false, false, false, false, false, false, false, false, false, false, false, false, false] rfl rfl (any_of HT_.out (by kernel_rfl)) (fun _ _ _ h => h) (Or.inl ⟨by rfl, ?_⟩) ?_ ?_
    rotate_left
    · intro w'
      go_simp
      with_reducible rfl
    rotate_left
    · simp only [Act.put, List.setIfInBounds_toArray, List.set_cons_zero, List.set_cons_succ, i64_w, i32_w]
      rfl
    refine pure_ (i := 9) (N := some 16) (v := ?_) (a' := ?_) #[true, false, false, true, false, false, true, false, false, true, false, false, false, false, false, false, false, false, false, false, false, false] rfl rfl (any_of HT_.out (by kernel_rfl)) (fun _ _ _ h => h) (Or.inl ⟨by rfl, ?_⟩) ?_ ?_
    rotate_left
    · intro w'
      go_simp
      with_reducible rfl
    rotate_left
    · simp only [Act.put, List.setIfInBounds_toArray, List.set_cons_zero, List.set_cons_succ, i64_w, i32_w]
      rfl
    refine pure_ (i := 12) (N := some 19) (v := ?_) (a' := ?_) #[true, false, false, true, false, false, true, false, false, true, false, false, true, false, false, false, false, false, false, false, false, false] rfl rfl (any_of HT_.out (by kernel_rfl)) (fun _ _ _ h => h) (Or.inl ⟨by rfl, ?_⟩) ?_ ?_
    rotate_left
    · intro w'
      go_simp
      with_reducible rfl
    rotate_left
    · simp only [Act.put, List.setIfInBounds_toArray, List.set_cons_zero, List.set_cons_succ, i64_w, i32_w]
      rfl
    refine take_ (i := 1) (N := some 8) (v := ?_) (a' := ?_) #[true, true, false, true, false, false, true, false, false, true, false, false, true, false, false, false, false, false, false, false, false, false] rfl rfl (take_ofW HT_.out HW_.out (by kernel_rfl)) (fun _ _ _ h => h) (Or.inl ⟨by rfl, ?_⟩) hHeld ?_ ?_
    rotate_left
    · rintro w' ⟨s0, s1, s2, s3⟩
      go_simp
      with_reducible rfl
    rotate_left
    · simp only [Act.put, List.setIfInBounds_toArray, List.set_cons_zero, List.set_cons_succ, i64_w, i32_w]
      rfl
    refine pure_ (i := 2) (N := some 9) (v := ?_) (a' := ?_) #[true, true, true, true, false, false, true, false, false, true, false, false, true, false, false, false, false, false, false, false, false, false] rfl rfl (any_of HT_.out (by kernel_rfl)) (fun _ _ _ h => h) (Or.inl ⟨by rfl, ?_⟩) ?_ ?_
    rotate_left
    · intro w'
      go_simp
      with_reducible rfl
    rotate_left
    · simp only [Act.put, List.setIfInBounds_toArray, List.set_cons_zero, List.set_cons_succ, i64_w, i32_w]
      rfl
    refine take_ (i := 4) (N := some 11) (v := ?_) (a' := ?_) #[true, true, true, true, true, false, true, false, false, true, false, false, true, false, false, false, false, false, false, false, false, false] rfl rfl (take_ofW HT_.out HW_.out (by kernel_rfl)) (fun _ _ _ h => h) (Or.inl ⟨by rfl, ?_⟩) hHeld ?_ ?_
    rotate_left
    · rintro w' ⟨s0, s1, s2, s3⟩
      go_simp
      with_reducible rfl
    rotate_left
    · simp only [Act.put, List.setIfInBounds_toArray, List.set_cons_zero, List.set_cons_succ, i64_w, i32_w]
      rfl
    refine take_ (i := 7) (N := some 14) (v := ?_) (a' := ?_) #[true, true, true, true, true, false, true, true, false, true, false, false, true, false, false, false, false, false, false, false, false, false] rfl rfl (take_ofW HT_.out HW_.out (by kernel_rfl)) (fun _ _ _ h => h) (Or.inl ⟨by rfl, ?_⟩) hHeld ?_ ?_
    rotate_left
    · rintro w' ⟨s0, s1, s2, s3⟩
      go_simp
      with_reducible rfl
    rotate_left
    · simp only [Act.put, List.setIfInBounds_toArray, List.set_cons_zero, List.set_cons_succ, i64_w, i32_w]
      rfl
    refine take_ (i := 10) (N := some 17) (v := ?_) (a' := ?_) #[true, true, true, true, true, false, true, true, false, true, true, false, true, false, false, false, false, false, false, false, false, false] rfl rfl (take_ofW HT_.out HW_.out (by kernel_rfl)) (fun _ _ _ h => h) (Or.inl ⟨by rfl, ?_⟩) hHeld ?_ ?_
    rotate_left
    · rintro w' ⟨s0, s1, s2, s3⟩
      go_simp
      with_reducible rfl
    rotate_left
    · simp only [Act.put, List.setIfInBounds_toArray, List.set_cons_zero, List.set_cons_succ, i64_w, i32_w]
      rfl
    refine take_ (i := 13) (N := some 20) (v := ?_) (a' := ?_) #[true, true, true, true, true, false, true, true, false, true, true, false, true, true, false, false, false, false, false, false, false, false] rfl rfl (take_ofW HT_.out HW_.out (by kernel_rfl)) (fun _ _ _ h => h) (Or.inl ⟨by rfl, ?_⟩) hHeld ?_ ?_
    rotate_left
    · rintro w' ⟨s0, s1, s2, s3⟩
      go_simp
      with_reducible rfl
    rotate_left
    · simp only [Act.put, List.setIfInBounds_toArray, List.set_cons_zero, List.set_cons_succ, i64_w, i32_w]
      rfl
    refine one_ (i := 5) (N := some 12) #[true, true, true, true, true, true, true, true, false, true, true, false, true, true, false, false, false, false, false, false, false, false] rfl rfl (one_of HT_.out (by kernel_rfl)) (by decide) (fun K hK => ?_)
    refine goes_ Try.func135 (by kernel_rfl) rfl #[.int .i64 a0_0, .int .i64 8] (by rfl) rfl rfl (by (try simp only [List.map_toArray, List.map_cons, List.map_nil]); first | done | rfl | (simp only [List.length_drop, List.length_take]; rfl)) ?_
    with_reducible refine (impl_low.calls k a0_0 8 t716 _ A4.out).mono ?_
    rintro e w14 ⟨v717, rfl, ho0, hb⟩
    refine ⟨_, rfl, ?_⟩
    have n0_ := Aside0.mk (Kd.R_lower (Kd.R_newM (M := fun k_ => (w.heap.size ≤ k_)) ho0 (below_size (by repeat (first | (with_reducible first | exact HB.out | apply below_alloc | apply pw_below_drewN | apply below_drew1 | refine below_set ?_ GE714.out) | exact HB.out))) (fun k_ h_ => h_)) (below_size (by repeat (first | (with_reducible first | exact HB.out | apply below_alloc | apply pw_below_drewN | apply below_drew1 | refine below_set ?_ GE714.out) | exact HB.out))))
    have n1_ := Aside0.mk (blk_below (g := gb714) (o := .cells #[.int .i64 a0_0, .int .i64 a0_1, .int .i64 a0_2, .int .i64 a0_3] 81 (0, 0)) (by (with_reducible repeat (first | refine blk_drewN ?_ _ | refine blk_drew ?_ | refine blk_alloc ?_ _)); exact BK714.out) hb)
    have n2_ := Aside0.mk (below_step (by repeat (first | (with_reducible first | exact HB.out | apply below_alloc | apply pw_below_drewN | apply below_drew1 | refine below_set ?_ GE714.out) | exact HB.out)) hb)
    clear BK714
    clear HB
    have HO718 := n0_
    have BK714 := n1_
    have HB := n2_
    clear n0_ n1_ n2_
    (try clear hb)
    (try clear hb2)
    (try clear hk)
    (try clear hi)
    (try clear ho0)
    refine hK.out _ _ ⟨(blk_cell BK714.out 0).trans rfl, (blk_cell BK714.out 1).trans rfl, (blk_cell BK714.out 2).trans rfl, (blk_cell BK714.out 3).trans rfl⟩ (fun hHeld => ?_)
    clear hK K
    refine norm_ (a' := ?_) ?_ ?_
    rotate_left
    · show Act.put _ (some 12) _ = _
      simp only [Act.put, List.setIfInBounds_toArray, List.set_cons_zero, List.set_cons_succ, i64_w, i32_w]
      rfl
    refine one_ (i := 8) (N := some 15) #[true, true, true, true, true, true, true, true, true, true, true, false, true, true, false, false, false, false, false, false, false, false] rfl rfl (one_of HT_.out (by kernel_rfl)) (by decide) (fun K hK => ?_)
    refine goes_ Try.func135 (by kernel_rfl) rfl #[.int .i64 a0_1, .int .i64 4] (by rfl) rfl rfl (by (try simp only [List.map_toArray, List.map_cons, List.map_nil]); first | done | rfl | (simp only [List.length_drop, List.length_take]; rfl)) ?_
    with_reducible refine (impl_low.calls k a0_1 4 t719 _ A5.out).mono ?_
    rintro e w15 ⟨v720, rfl, ho0, hb⟩
    refine ⟨_, rfl, ?_⟩
    have n0_ := Aside0.mk (Kd.R_elder' (by (with_reducible repeat (first | apply Kd.R_alloc | apply Kd.R_drewN | apply Kd.R_drew)); exact HO718.out) (Kd.R_base ho0) hb)
    have n1_ := Aside0.mk (Kd.R_lower (Kd.R_new' (Kd.R_newM (M := fun k_ => (w.heap.size ≤ k_)) ho0 (below_size (by repeat (first | (with_reducible first | exact HB.out | apply below_alloc | apply pw_below_drewN | apply below_drew1 | refine below_set ?_ GE714.out) | exact HB.out))) (fun k_ h_ => h_)) (Kd.R_lt (by (with_reducible repeat (first | apply Kd.R_alloc | apply Kd.R_drewN | apply Kd.R_drew)); exact HO718.out))) (below_size (by repeat (first | (with_reducible first | exact HB.out | apply below_alloc | apply pw_below_drewN | apply below_drew1 | refine below_set ?_ GE714.out) | exact HB.out))))
    have n2_ := Aside0.mk (blk_below (g := gb714) (o := .cells #[.int .i64 a0_0, .int .i64 a0_1, .int .i64 a0_2, .int .i64 a0_3] 81 (0, 0)) (by (with_reducible repeat (first | refine blk_drewN ?_ _ | refine blk_drew ?_ | refine blk_alloc ?_ _)); exact BK714.out) hb)
    have n3_ := Aside0.mk (below_step (by repeat (first | (with_reducible first | exact HB.out | apply below_alloc | apply pw_below_drewN | apply below_drew1 | refine below_set ?_ GE714.out) | exact HB.out)) hb)
    clear HO718
    clear BK714
    clear HB
    have HO718 := n0_
    have HO721 := n1_
    have BK714 := n2_
    have HB := n3_
    clear n0_ n1_ n2_ n3_
    (try clear hb)
    (try clear hb2)
    (try clear hk)
    (try clear hi)
    (try clear ho0)
    refine hK.out _ _ ⟨(blk_cell BK714.out 0).trans rfl, (blk_cell BK714.out 1).trans rfl, (blk_cell BK714.out 2).trans rfl, (blk_cell BK714.out 3).trans rfl⟩ (fun hHeld => ?_)
    clear hK K
    refine norm_ (a' := ?_) ?_ ?_
    rotate_left
    · show Act.put _ (some 15) _ = _
      simp only [Act.put, List.setIfInBounds_toArray, List.set_cons_zero, List.set_cons_succ, i64_w, i32_w]
      rfl
    refine one_ (i := 11) (N := some 18) #[true, true, true, true, true, true, true, true, true, true, true, true, true, true, false, false, false, false, false, false, false, false] rfl rfl (one_of HT_.out (by kernel_rfl)) (by decide) (fun K hK => ?_)
    refine goes_ Try.func135 (by kernel_rfl) rfl #[.int .i64 a0_2, .int .i64 4] (by rfl) rfl rfl (by (try simp only [List.map_toArray, List.map_cons, List.map_nil]); first | done | rfl | (simp only [List.length_drop, List.length_take]; rfl)) ?_
    with_reducible refine (impl_low.calls k a0_2 4 t722 _ A6.out).mono ?_
    rintro e w16 ⟨v723, rfl, ho0, hb⟩
    refine ⟨_, rfl, ?_⟩
    have n0_ := Aside0.mk (Kd.R_elder' (by (with_reducible repeat (first | apply Kd.R_alloc | apply Kd.R_drewN | apply Kd.R_drew)); exact HO718.out) (Kd.R_base ho0) hb)
    have n1_ := Aside0.mk (Kd.R_elder' (by (with_reducible repeat (first | apply Kd.R_alloc | apply Kd.R_drewN | apply Kd.R_drew)); exact HO721.out) (Kd.R_base ho0) hb)
    have n2_ := Aside0.mk (Kd.R_lower (Kd.R_new' (Kd.R_new' (Kd.R_newM (M := fun k_ => (w.heap.size ≤ k_)) ho0 (below_size (by repeat (first | (with_reducible first | exact HB.out | apply below_alloc | apply pw_below_drewN | apply below_drew1 | refine below_set ?_ GE714.out) | exact HB.out))) (fun k_ h_ => h_)) (Kd.R_lt (by (with_reducible repeat (first | apply Kd.R_alloc | apply Kd.R_drewN | apply Kd.R_drew)); exact HO718.out))) (Kd.R_lt (by (with_reducible repeat (first | apply Kd.R_alloc | apply Kd.R_drewN | apply Kd.R_drew)); exact HO721.out))) (below_size (by repeat (first | (with_reducible first | exact HB.out | apply below_alloc | apply pw_below_drewN | apply below_drew1 | refine below_set ?_ GE714.out) | exact HB.out))))
    have n3_ := Aside0.mk (blk_below (g := gb714) (o := .cells #[.int .i64 a0_0, .int .i64 a0_1, .int .i64 a0_2, .int .i64 a0_3] 81 (0, 0)) (by (with_reducible repeat (first | refine blk_drewN ?_ _ | refine blk_drew ?_ | refine blk_alloc ?_ _)); exact BK714.out) hb)
    have n4_ := Aside0.mk (below_step (by repeat (first | (with_reducible first | exact HB.out | apply below_alloc | apply pw_below_drewN | apply below_drew1 | refine below_set ?_ GE714.out) | exact HB.out)) hb)
    clear HO718
    clear HO721
    clear BK714
    clear HB
    have HO718 := n0_
    have HO721 := n1_
    have HO724 := n2_
    have BK714 := n3_
    have HB := n4_
    clear n0_ n1_ n2_ n3_ n4_
    (try clear hb)
    (try clear hb2)
    (try clear hk)
    (try clear hi)
    (try clear ho0)
    refine hK.out _ _ ⟨(blk_cell BK714.out 0).trans rfl, (blk_cell BK714.out 1).trans rfl, (blk_cell BK714.out 2).trans rfl, (blk_cell BK714.out 3).trans rfl⟩ (fun hHeld => ?_)
    clear hK K
    refine norm_ (a' := ?_) ?_ ?_
    rotate_left
    · show Act.put _ (some 18) _ = _
      simp only [Act.put, List.setIfInBounds_toArray, List.set_cons_zero, List.set_cons_succ, i64_w, i32_w]
      rfl
    refine one_ (i := 14) (N := some 21) #[true, true, true, true, true, true, true, true, true, true, true, true, true, true, true, false, false, false, false, false, false, false] rfl rfl (one_of HT_.out (by kernel_rfl)) (by decide) (fun K hK => ?_)
    refine goes_ Try.func135 (by kernel_rfl) rfl #[.int .i64 a0_3, .int .i64 4] (by rfl) rfl rfl (by (try simp only [List.map_toArray, List.map_cons, List.map_nil]); first | done | rfl | (simp only [List.length_drop, List.length_take]; rfl)) ?_
    with_reducible refine (impl_low.calls k a0_3 4 t725 _ A7.out).mono ?_
    rintro e w17 ⟨v726, rfl, ho0, hb⟩
    refine ⟨_, rfl, ?_⟩
    have n0_ := Aside0.mk (Kd.R_elder' (by (with_reducible repeat (first | apply Kd.R_alloc | apply Kd.R_drewN | apply Kd.R_drew)); exact HO718.out) (Kd.R_base ho0) hb)
    have n1_ := Aside0.mk (Kd.R_elder' (by (with_reducible repeat (first | apply Kd.R_alloc | apply Kd.R_drewN | apply Kd.R_drew)); exact HO721.out) (Kd.R_base ho0) hb)
    have n2_ := Aside0.mk (Kd.R_elder' (by (with_reducible repeat (first | apply Kd.R_alloc | apply Kd.R_drewN | apply Kd.R_drew)); exact HO724.out) (Kd.R_base ho0) hb)
    have n3_ := Aside0.mk (Kd.R_lower (Kd.R_new' (Kd.R_new' (Kd.R_new' (Kd.R_newM (M := fun k_ => (w.heap.size ≤ k_)) ho0 (below_size (by repeat (first | (with_reducible first | exact HB.out | apply below_alloc | apply pw_below_drewN | apply below_drew1 | refine below_set ?_ GE714.out) | exact HB.out))) (fun k_ h_ => h_)) (Kd.R_lt (by (with_reducible repeat (first | apply Kd.R_alloc | apply Kd.R_drewN | apply Kd.R_drew)); exact HO718.out))) (Kd.R_lt (by (with_reducible repeat (first | apply Kd.R_alloc | apply Kd.R_drewN | apply Kd.R_drew)); exact HO721.out))) (Kd.R_lt (by (with_reducible repeat (first | apply Kd.R_alloc | apply Kd.R_drewN | apply Kd.R_drew)); exact HO724.out))) (below_size (by repeat (first | (with_reducible first | exact HB.out | apply below_alloc | apply pw_below_drewN | apply below_drew1 | refine below_set ?_ GE714.out) | exact HB.out))))
    have n4_ := Aside0.mk (blk_below (g := gb714) (o := .cells #[.int .i64 a0_0, .int .i64 a0_1, .int .i64 a0_2, .int .i64 a0_3] 81 (0, 0)) (by (with_reducible repeat (first | refine blk_drewN ?_ _ | refine blk_drew ?_ | refine blk_alloc ?_ _)); exact BK714.out) hb)
    have n5_ := Aside0.mk (below_step (by repeat (first | (with_reducible first | exact HB.out | apply below_alloc | apply pw_below_drewN | apply below_drew1 | refine below_set ?_ GE714.out) | exact HB.out)) hb)
    clear HO718
    clear HO721
    clear HO724
    clear BK714
    clear HB
    have HO718 := n0_
    have HO721 := n1_
    have HO724 := n2_
    have HO727 := n3_
    have BK714 := n4_
    have HB := n5_
    clear n0_ n1_ n2_ n3_ n4_ n5_
    (try clear hb)
    (try clear hb2)
    (try clear hk)
    (try clear hi)
    (try clear ho0)
    obtain ⟨Ao18, co18, eo18⟩ := Kd.R_slice HO718.out
    (first | subst eo18 | (injection eo18 with f1_ f2_ f3_; have f4_ := f1_.symm; have f5_ := f3_.symm; clear f1_ f2_ f3_; subst f4_; subst f5_))
    obtain ⟨Ao19, co19, eo19⟩ := Kd.R_slice HO721.out
    (first | subst eo19 | (injection eo19 with f1_ f2_ f3_; have f4_ := f1_.symm; have f5_ := f3_.symm; clear f1_ f2_ f3_; subst f4_; subst f5_))
    obtain ⟨Ao20, co20, eo20⟩ := Kd.R_slice HO724.out
    (first | subst eo20 | (injection eo20 with f1_ f2_ f3_; have f4_ := f1_.symm; have f5_ := f3_.symm; clear f1_ f2_ f3_; subst f4_; subst f5_))
    obtain ⟨Ao21, co21, eo21⟩ := Kd.R_slice HO727.out
    (first | subst eo21 | (injection eo21 with f1_ f2_ f3_; have f4_ := f1_.symm; have f5_ := f3_.symm; clear f1_ f2_ f3_; subst f4_; subst f5_))
    refine hK.out _ _ ⟨(blk_cell BK714.out 0).trans rfl, (blk_cell BK714.out 1).trans rfl, (blk_cell BK714.out 2).trans rfl, (blk_cell BK714.out 3).trans rfl⟩ (fun hHeld => ?_)
    clear hK K
    refine norm_ (a' := ?_) ?_ ?_
    rotate_left
    · show Act.put _ (some 21) _ = _
      simp only [Act.put, List.setIfInBounds_toArray, List.set_cons_zero, List.set_cons_succ, i64_w, i32_w]
      rfl
    refine one_ (i := 15) (N := some 22) #[true, true, true, true, true, true, true, true, true, true, true, true, true, true, true, true, false, false, false, false, false, false] rfl rfl (one_of HT_.out (by kernel_rfl)) (by decide) (fun K hK => ?_)
    refine Kd.N_lit_step (Kd.slice 5 (Kd.int .u8)) _ 22 ?hg (N' := 22) ?hd (xs := ([t716, t719, t722, t725] : List (List Int))) (inner := [.slice Ao18 t716.length co18, .slice Ao19 t719.length co19, .slice Ao20 t722.length co20, .slice Ao21 t725.length co21]) (ok := (fun k_ => (w.heap.size ≤ k_) ∧ k_ ≠ gb714)) (okp := (fun k_ => (w.heap.size ≤ k_) ∧ k_ ≠ gb714)) ?hr ?hp (fun _ hk => hk) ((show ∀ k_, w17.heap.size ≤ k_ → (fun k_ => (w.heap.size ≤ k_) ∧ k_ ≠ gb714) k_ from fun k_ hk => ⟨(Nat.le_trans (below_size (by repeat (first | (with_reducible first | exact HB.out | apply below_alloc | apply pw_below_drewN | apply below_drew1 | refine below_set ?_ GE714.out) | exact HB.out))) hk), Kd.freshB (g := gb714) (o := .cells #[.int .i64 a0_0, .int .i64 a0_1, .int .i64 a0_2, .int .i64 a0_3] 81 (0, 0)) (by (with_reducible repeat (first | refine blk_drewN ?_ _ | refine blk_drew ?_ | refine blk_alloc ?_ _)); exact BK714.out) k_ hk⟩) _ (Nat.le_refl _)) (Below.refl _ _) (Nat.le_refl _) (by simp) ?_; (case hd => rfl); (case hg => rfl); (case hr => first | (go_simp; done) | (go_simp; rfl)); (case hp => exact (Reps.one (show Kd.FK (Kd.slice 5 (Kd.int .u8)) _ _ t716 [.slice Ao18 t716.length co18] from (Kd.FK_slice_mk (Kd.R_reads' (Kd.R_mono (ok' := (fun k_ => (w.heap.size ≤ k_) ∧ k_ ≠ gb714)) (Kd.R_types (HO718.out) BK714.out (by decide)) (fun k_ hk => ⟨hk.1.1.1.1.1, hk.2⟩))).2.1 (Kd.R_F (Kd.R_mono (ok' := (fun k_ => (w.heap.size ≤ k_) ∧ k_ ≠ gb714)) (Kd.R_types (HO718.out) BK714.out (by decide)) (fun k_ hk => ⟨hk.1.1.1.1.1, hk.2⟩))))) (Reps.one (show Kd.FK (Kd.slice 5 (Kd.int .u8)) _ _ t719 [.slice Ao19 t719.length co19] from (Kd.FK_slice_mk (Kd.R_reads' (Kd.R_mono (ok' := (fun k_ => (w.heap.size ≤ k_) ∧ k_ ≠ gb714)) (Kd.R_types (HO721.out) BK714.out (by decide)) (fun k_ hk => ⟨hk.1.1.1.1.1, hk.2⟩))).2.1 (Kd.R_F (Kd.R_mono (ok' := (fun k_ => (w.heap.size ≤ k_) ∧ k_ ≠ gb714)) (Kd.R_types (HO721.out) BK714.out (by decide)) (fun k_ hk => ⟨hk.1.1.1.1.1, hk.2⟩))))) (Reps.one (show Kd.FK (Kd.slice 5 (Kd.int .u8)) _ _ t722 [.slice Ao20 t722.length co20] from (Kd.FK_slice_mk (Kd.R_reads' (Kd.R_mono (ok' := (fun k_ => (w.heap.size ≤ k_) ∧ k_ ≠ gb714)) (Kd.R_types (HO724.out) BK714.out (by decide)) (fun k_ hk => ⟨hk.1.1.1.1.1, hk.2⟩))).2.1 (Kd.R_F (Kd.R_mono (ok' := (fun k_ => (w.heap.size ≤ k_) ∧ k_ ≠ gb714)) (Kd.R_types (HO724.out) BK714.out (by decide)) (fun k_ hk => ⟨hk.1.1.1.1.1, hk.2⟩))))) (Reps.one (show Kd.FK (Kd.slice 5 (Kd.int .u8)) _ _ t725 [.slice Ao21 t725.length co21] from (Kd.FK_slice_mk (Kd.R_reads' (Kd.R_mono (ok' := (fun k_ => (w.heap.size ≤ k_) ∧ k_ ≠ gb714)) (Kd.R_types (HO727.out) BK714.out (by decide)) (fun k_ hk => ⟨hk.1.1.1.1.1, hk.2⟩))).2.1 (Kd.R_F (Kd.R_mono (ok' := (fun k_ => (w.heap.size ≤ k_) ∧ k_ ≠ gb714)) (Kd.R_types (HO727.out) BK714.out (by decide)) (fun k_ hk => ⟨hk.1.1.1.1.1, hk.2⟩))))) (Reps.none _ _))))))
    intro v729 w22 ho23 hb hg_ hnew_
    clear hg_ hnew_
    (first | rw [← Ny728.out] at ho23 | (simp only [Int.reduceToNat] at ho23; rw [← Ny728.out] at ho23))
    have n0_ := Aside0.mk (Kd.N_lower ho23 (below_size (by repeat (first | (with_reducible first | exact HB.out | apply below_alloc | apply pw_below_drewN | apply below_drew1 | refine below_set ?_ GE714.out) | exact HB.out))))
    have n1_ := Aside0.mk (blk_below (g := gb714) (o := .cells #[.int .i64 a0_0, .int .i64 a0_1, .int .i64 a0_2, .int .i64 a0_3] 81 (0, 0)) (by (with_reducible repeat (first | refine blk_drewN ?_ _ | refine blk_drew ?_ | refine blk_alloc ?_ _)); exact BK714.out) hb)
    have n2_ := Aside0.mk (below_step (by repeat (first | (with_reducible first | exact HB.out | apply below_alloc | apply pw_below_drewN | apply below_drew1 | refine below_set ?_ GE714.out) | exact HB.out)) hb)
    clear BK714
    clear HB
    clear HO718
    clear HO721
    clear HO724
    clear HO727
    have HO730 := n0_
    have BK714 := n1_
    have HB := n2_
    clear n0_ n1_ n2_
    clear hb ho23
    obtain ⟨Ao24, co24, eo24⟩ := Kd.N_slice HO730.out
    (first | subst eo24 | (injection eo24 with f1_ f2_ f3_; have f4_ := f1_.symm; have f5_ := f3_.symm; clear f1_ f2_ f3_; subst f4_; subst f5_))
    refine hK.out _ _ ⟨(blk_cell BK714.out 0).trans rfl, (blk_cell BK714.out 1).trans rfl, (blk_cell BK714.out 2).trans rfl, (blk_cell BK714.out 3).trans rfl⟩ (fun hHeld => ?_)
    clear hK K
    refine norm_ (a' := ?_) ?_ ?_
    rotate_left
    · show Act.put _ (some 22) _ = _
      simp only [Act.put, List.setIfInBounds_toArray, List.set_cons_zero, List.set_cons_succ, i64_w, i32_w]
      rfl
    refine one_ (i := 16) (N := some 23) #[true, true, true, true, true, true, true, true, true, true, true, true, true, true, true, true, true, false, false, false, false, false] rfl rfl (one_of HT_.out (by kernel_rfl)) (by decide) (fun K hK => ?_)
    refine goes_ Try.func153 (by kernel_rfl) rfl #[.slice Ao24 y728.length co24, .slice none 0 0] (by rfl) rfl rfl (by (try simp only [List.map_toArray, List.map_cons, List.map_nil]); first | done | rfl | (simp only [List.length_drop, List.length_take]; rfl)) ?_
    refine (bytes_Join.calls _ _ y728 _ _ ([] : List Int) t731 _ ?side1 ?side2 ?side3 ?side4 A8.out).mono ?_
    (case side1 => repeat (first | exact (Kd.N_reads' HO730.out).2.2 | (with_reducible refine Kd.C_alloc ?_ _) | (with_reducible refine Kd.C_drewN ?_ _) | (with_reducible refine Kd.C_drew ?_)))
    (case side2 => exact (Kd.N_reads' HO730.out).2.1)
    (case side3 => exact Kd.C_nil _ _)
    (case side4 => exact Nat.le_refl _)
    rintro e w25 ⟨v732, rfl, ho0, hb⟩
    refine ⟨_, rfl, ?_⟩
    have n0_ := Aside0.mk (Kd.N_below (by (with_reducible repeat (first | apply Kd.N_alloc | apply Kd.N_drewN | apply Kd.N_drew)); exact HO730.out) hb)
    have n1_ := Aside0.mk (Kd.V_mono (ok' := fun k_ => w.heap.size ≤ k_) ho0 (fun k_ hk_ => Nat.le_trans HB.out.size hk_))
    have n2_ := Aside0.mk (blk_below (g := gb714) (o := .cells #[.int .i64 a0_0, .int .i64 a0_1, .int .i64 a0_2, .int .i64 a0_3] 81 (0, 0)) (by (with_reducible repeat (first | refine blk_drewN ?_ _ | refine blk_drew ?_ | refine blk_alloc ?_ _)); exact BK714.out) hb)
    have n3_ := Aside0.mk (below_step (by repeat (first | (with_reducible first | exact HB.out | apply below_alloc | apply pw_below_drewN | apply below_drew1 | refine below_set ?_ GE714.out) | exact HB.out)) hb)
    clear HO730
    clear BK714
    clear HB
    have HO730 := n0_
    have HO733 := n1_
    have BK714 := n2_
    have HB := n3_
    clear n0_ n1_ n2_ n3_
    (try clear hb)
    (try clear hb2)
    (try clear hk)
    (try clear hi)
    (try clear ho0)
    obtain ⟨Ao26, co26, eo26⟩ := Kd.V_slice HO733.out
    (first | subst eo26 | (injection eo26 with f1_ f2_ f3_; have f4_ := f1_.symm; have f5_ := f3_.symm; clear f1_ f2_ f3_; subst f4_; subst f5_))
    refine hK.out _ _ ⟨(blk_cell BK714.out 0).trans rfl, (blk_cell BK714.out 1).trans rfl, (blk_cell BK714.out 2).trans rfl, (blk_cell BK714.out 3).trans rfl⟩ (fun hHeld => ?_)
    clear hK K
    refine norm_ (a' := ?_) ?_ ?_
    rotate_left
    · show Act.put _ (some 23) _ = _
      simp only [Act.put, List.setIfInBounds_toArray, List.set_cons_zero, List.set_cons_succ, i64_w, i32_w]
      rfl
    refine one_ (i := 17) (N := some 24) #[true, true, true, true, true, true, true, true, true, true, true, true, true, true, true, true, true, true, false, false, false, false] rfl rfl (one_of HT_.out (by kernel_rfl)) (by decide) (fun K hK => ?_)
    refine goes_ Try.func152 (by kernel_rfl) rfl #[.int .i64 (Int.tmod a0_0 2), .int .i64 1, .slice Ao26 t731.length co26] (by rfl) rfl rfl (by (try simp only [List.map_toArray, List.map_cons, List.map_nil]); first | done | rfl | (simp only [List.length_drop, List.length_take]; rfl)) ?_
    with_reducible refine (impl_PageOps.calls k (Int.tmod a0_0 2) 1 _ _ t731 t734 t735 _ ?side1 ?side2 A9.out).mono ?_
    (case side1 => repeat (first | exact (Kd.V_reads' HO733.out).2.2 | (with_reducible refine Kd.C_alloc ?_ _) | (with_reducible refine Kd.C_drewN ?_ _) | (with_reducible refine Kd.C_drew ?_)))
    (case side2 => exact (Kd.V_reads' HO733.out).2.1)
    rintro e w27 ⟨v736, rfl, ho0, hb⟩
    refine ⟨_, rfl, ?_⟩
    have n0_ := Aside0.mk (Kd.N_below (by (with_reducible repeat (first | apply Kd.N_alloc | apply Kd.N_drewN | apply Kd.N_drew)); exact HO730.out) hb)
    have n1_ := Aside0.mk (Kd.V_below HO733.out hb)
    have n2_ := Aside0.mk (Kd.S_lower ho0 (below_size (by repeat (first | (with_reducible first | exact HB.out | apply below_alloc | apply pw_below_drewN | apply below_drew1 | refine below_set ?_ GE714.out) | exact HB.out))))
    have n3_ := Aside0.mk (blk_below (g := gb714) (o := .cells #[.int .i64 a0_0, .int .i64 a0_1, .int .i64 a0_2, .int .i64 a0_3] 81 (0, 0)) (by (with_reducible repeat (first | refine blk_drewN ?_ _ | refine blk_drew ?_ | refine blk_alloc ?_ _)); exact BK714.out) hb)
    have n4_ := Aside0.mk (below_step (by repeat (first | (with_reducible first | exact HB.out | apply below_alloc | apply pw_below_drewN | apply below_drew1 | refine below_set ?_ GE714.out) | exact HB.out)) hb)
    clear HO730
    clear HO733
    clear BK714
    clear HB
    have HO730 := n0_
    have HO733 := n1_
    have HO737 := n2_
    have BK714 := n3_
    have HB := n4_
    clear n0_ n1_ n2_ n3_ n4_
    (try clear hb)
    (try clear hb2)
    (try clear hk)
    (try clear hi)
    (try clear ho0)
    refine hK.out _ _ ⟨(blk_cell BK714.out 0).trans rfl, (blk_cell BK714.out 1).trans rfl, (blk_cell BK714.out 2).trans rfl, (blk_cell BK714.out 3).trans rfl⟩ (fun hHeld => ?_)
    clear hK K
    refine norm_ (a' := ?_) ?_ ?_
    rotate_left
    · show Act.put _ (some 24) _ = _
      simp only [Act.put, List.setIfInBounds_toArray, List.set_cons_zero, List.set_cons_succ, i64_w, i32_w]
      rfl
    refine pure_ (i := 18) (N := some 25) (v := ?_) (a' := ?_) #[true, true, true, true, true, true, true, true, true, true, true, true, true, true, true, true, true, true, true, false, false, false] rfl rfl (any_of HT_.out (by kernel_rfl)) (fun _ _ _ h => h) (Or.inl ⟨by rfl, ?_⟩) ?_ ?_
    rotate_left
    · intro w'
      go_simp
      with_reducible rfl
    rotate_left
    · simp only [Act.put, List.setIfInBounds_toArray, List.set_cons_zero, List.set_cons_succ, i64_w, i32_w]
      rfl
    refine pure_ (i := 19) (N := some 26) (v := ?_) (a' := ?_) #[true, true, true, true, true, true, true, true, true, true, true, true, true, true, true, true, true, true, true, true, false, false] rfl rfl (any_of HT_.out (by kernel_rfl)) (fun _ _ _ h => h) (Or.inl ⟨by rfl, ?_⟩) ?_ ?_
    rotate_left
    · intro w'
      go_simp
      with_reducible rfl
    rotate_left
    · simp only [Act.put, List.setIfInBounds_toArray, List.set_cons_zero, List.set_cons_succ, i64_w, i32_w]
      rfl
    refine pure_ (i := 20) (N := some 2) (v := ?_) (a' := ?_) #[true, true, true, true, true, true, true, true, true, true, true, true, true, true, true, true, true, true, true, true, true, false] rfl rfl (any_of HT_.out (by kernel_rfl)) (fun _ _ _ h => h) (Or.inl ⟨by rfl, ?_⟩) ?_ ?_
    rotate_left
    · intro w'
      go_simp
      with_reducible rfl
    rotate_left
    · simp only [Act.put, List.setIfInBounds_toArray, List.set_cons_zero, List.set_cons_succ, i64_w, i32_w]
      rfl
    refine pure_ (i := 21) (N := some 3) (v := ?_) (a' := ?_) #[true, true, true, true, true, true, true, true, true, true, true, true, true, true, true, true, true, true, true, true, true, true] rfl rfl (any_of HT_.out (by kernel_rfl)) (fun _ _ _ h => h) (Or.inl ⟨by rfl, ?_⟩) ?_ ?_
    rotate_left
    · intro w'
      go_simp
      with_reducible rfl
    rotate_left
    · simp only [Act.put, List.setIfInBounds_toArray, List.set_cons_zero, List.set_cons_succ, i64_w, i32_w]
      rfl
    refine done_ (done_of HT_.out (by kernel_rfl)) ?_
    try go_wp2
    go_ret2
    exact ⟨_, by first | rfl | (simp [errW_none, errW_some] <;> rfl) | (simp [*, errW_none, errW_some] <;> rfl), by (with_reducible repeat (first | apply Kd.S_alloc | apply Kd.S_drewN | apply Kd.S_drew)); exact HO737.out, by repeat (first | (with_reducible first | exact HB.out | apply below_alloc | apply pw_below_drewN | apply below_drew1 | refine below_set ?_ GE714.out) | exact HB.out)⟩
  · replace c3 := Bool.eq_false_iff.mpr c3
    subst c3
    have H1 : (some (([] : List (S63)), false)) = some (r1, r2) := by rw [if_neg (show ¬ (false = true) by decide)] at H; exact H
    clear H
    have H := H1
    clear H1
    simp only [Option.some.injEq, Prod.mk.injEq] at H
    obtain ⟨rfl, rfl⟩ := H
    go_enter Try.func116, Try.ntmps116
    go_wp2_with (first | ((with_reducible refine gate_dst (N := 1) rfl ?_); refine box_event ?hg (N := 1) ?hd (cs := #[.int .i64 a0_0, .int .i64 a0_1, .int .i64 a0_2, .int .i64 a0_3]) (t := 81) ?hr ?_; (case hd => rfl); (case hg => rfl); (case hr => first | (go_simp; done) | (go_simp; rfl)); intro gb714 hg w28 hbox hb; have n0_ := Aside0.mk (below_step (by repeat (first | (with_reducible first | exact HB.out | apply below_alloc | apply pw_below_drewN | apply below_drew1) | exact HB.out)) hb); have n1_ := Aside0.mk (hbox); have n2_ := Aside0.mk ((by rw [hg]; exact (below_size (by repeat (first | (with_reducible first | exact HB.out | apply below_alloc | apply pw_below_drewN | apply below_drew1) | exact HB.out))) : w.heap.size ≤ gb714)); have n3_ := Aside0.mk ((by rw [hg]; exact (below_size (by repeat (first | (with_reducible first | exact HB.out | apply below_alloc | apply pw_below_drewN | apply below_drew1) | exact HB.out))) : w.heap.size ≤ gb714)); clear HB; have HB := n0_; have BK714 := n1_; have GW714 := n2_; have GE714 := n3_; clear n0_ n1_ n2_ n3_; clear hb hbox hg; have hcz29_0 : w28.cell? ⟨gb714, 0, none⟩ = some (.int .i64 a0_0) := (blk_cell BK714.out 0).trans rfl; have hcz29_1 : w28.cell? ⟨gb714, 1, none⟩ = some (.int .i64 a0_1) := (blk_cell BK714.out 1).trans rfl; have hcz29_2 : w28.cell? ⟨gb714, 2, none⟩ = some (.int .i64 a0_2) := (blk_cell BK714.out 2).trans rfl; have hcz29_3 : w28.cell? ⟨gb714, 3, none⟩ = some (.int .i64 a0_3) := (blk_cell BK714.out 3).trans rfl; have hfz29_0 := blk_frozen BK714.out 0; have hfz29_1 := blk_frozen BK714.out 1; have hfz29_2 := blk_frozen BK714.out 2; have hfz29_3 := blk_frozen BK714.out 3) | ((with_reducible refine gate_callee (f := 151) rfl ?_); refine goesL_ (some 5) rfl rfl Try.func151 (by kernel_rfl) rfl #[.agg #[.int .i64 a0_0, .int .i64 a0_1, .int .i64 a0_2, .int .i64 a0_3]] rfl (by (try simp only [List.map_toArray, List.map_cons, List.map_nil]); first | done | rfl | (simp only [List.length_drop, List.length_take]; rfl)) ?_; (with_reducible refine (impl_SuperV.calls a0_0 a0_1 a0_2 a0_3 false _ A2.out).mono ?_); rintro e w30 ⟨rfl, hb⟩; refine ⟨_, rfl, ?_⟩; have n0_ := Aside0.mk (blk_below (g := gb714) (o := .cells #[.int .i64 a0_0, .int .i64 a0_1, .int .i64 a0_2, .int .i64 a0_3] 81 (0, 0)) (by (with_reducible repeat (first | refine blk_drewN ?_ _ | refine blk_drew ?_ | refine blk_alloc ?_ _)); exact BK714.out) hb); have n1_ := Aside0.mk (below_step (by repeat (first | (with_reducible first | exact HB.out | apply below_alloc | apply pw_below_drewN | apply below_drew1 | refine below_set ?_ GE714.out) | exact HB.out)) hb); clear BK714; clear HB; have BK714 := n0_; have HB := n1_; clear n0_ n1_; (try clear hb); (try clear hb2); (try clear hk); (try clear hi)))
    go_ret2
    exact ⟨_, by first | rfl | (simp [errW_none, errW_some] <;> rfl) | (simp [*, errW_none, errW_some] <;> rfl), by first | exact Kd.S_nil _ _ _ _ _ | exact Kd.N_nil _ _ _ _ _ | exact Kd.V_nil _ _ _ _ _ | exact Kd.Q_nil _ _ _ _ _ | exact Kd.R_nil _ _ _ _ _, by repeat (first | (with_reducible first | exact HB.out | apply below_alloc | apply pw_below_drewN | apply below_drew1 | refine below_set ?_ GE714.out) | exact HB.out)⟩

end Go.Proofs.Ytlopmffdebhpfaa.G

/-! ## G115 -/
namespace Go.Proofs.Ytlopmffdebhpfaa.G
open Go.RowKit Go.Proofs.YtlopmffdebhpfaaW.PrintWords Go.Proofs.YtlopmffdebhpfaaW.PrintLast Go.Proofs.YtlopmffdebhpfaaW.PrintMore
attribute [local go_sem] max2_int min2_int max_two min_two max_three min_three max_four min_four
set_option linter.unusedVariables false
set_option linter.unusedSimpArgs false

/-! ### impl_NewDisk: function 115 -/
mutual
def impl_NewDisk.j0 : Nat → Int → Bool → Option ((List (List Int)) × (List (S185)) × Bool)
  | 0, _, _ => none
  | k + 1, x0, x10 => if x10 = true then (some (([] : List (List Int)), ([] : List (S185)), false)) else (impl_NewDisk.l0 k x0 0 ([] : List (List Int)))
def impl_NewDisk.l0 : Nat → Int → Int → List (List Int) → Option ((List (List Int)) × (List (S185)) × Bool)
  | 0, _, _, _ => none
  | k + 1, x12, x13, x690000 => if x13 < x12 then (if 64 ≤ 281474976710656 then (if x690000.length < 5864062014805 then (impl_NewDisk.l0 k x12 (wrap64 (x13 + 1)) (x690000 ++ [(List.replicate 64 0)])) else (none)) else (none)) else (some (x690000, ([] : List (S185)), true))
end
def impl_NewDisk.f (k : Nat) (a0 : Int) : Option ((List (List Int)) × (List (S185)) × Bool) := if a0 < 1 then (impl_NewDisk.j0 k a0 true) else (impl_NewDisk.j0 k a0 (decide (a0 > 4096)))
set_option maxHeartbeats 8000000 in
set_option maxRecDepth 100000 in
theorem impl_NewDisk.calls (k : Nat) (a0 : Int) (r1 : List (List Int)) (r2 : List (S185)) (r3 : Bool) (w : World) (h : impl_NewDisk.f k a0 = some (r1, r2, r3)) :
    Calls Try.prog 115 #[.int .i64 a0] w fun e w' => ∃ v0_ v1_ : Value, e = .returned (.tuple #[.agg #[v0_, v1_], .bool r3]) ∧ Kd.S (Kd.slice 5 (Kd.int .u8)) 22 w' w.heap.size (fun _ => True) v0_ r1 ∧ Kd.S k185 185 w' w.heap.size (fun _ => True) v1_ r2 ∧ Below w.heap.size w w' := by
  have hu44 := Try.underlying44
  have HB := Aside0.mk (Below.refl w.heap.size w)
  have H : (if a0 < 1 then (impl_NewDisk.j0 k a0 true) else (impl_NewDisk.j0 k a0 (decide (a0 > 4096)))) = some (r1, r2, r3) := h
  clear h
  have HC2 := Aside0.mk H
  clear H
  go_enter Try.func115, Try.ntmps115
  go_upto_region 1 with (first | ((with_reducible refine gate_dst (N := 2) rfl ?_); refine box_event ?hg (N := 2) ?hd (cs := #[.slice none 0 0, .slice none 0 0]) (t := 44) ?hr ?_; (case hd => rfl); (case hg => rfl); (case hr => first | (go_simp; done) | (go_simp; rfl)); intro gb688 hg w3 hbox hb; have n0_ := Aside0.mk (below_step (by repeat (first | (with_reducible first | exact HB.out | apply below_alloc | apply pw_below_drewN | apply below_drew1) | exact HB.out)) hb); have n1_ := Aside0.mk (hbox); have n2_ := Aside0.mk ((by rw [hg]; exact (below_size (by repeat (first | (with_reducible first | exact HB.out | apply below_alloc | apply pw_below_drewN | apply below_drew1) | exact HB.out))) : w.heap.size ≤ gb688)); have n3_ := Aside0.mk ((by rw [hg]; exact (below_size (by repeat (first | (with_reducible first | exact HB.out | apply below_alloc | apply pw_below_drewN | apply below_drew1) | exact HB.out))) : w.heap.size ≤ gb688)); clear HB; have HB := n0_; have BK688 := n1_; have GW688 := n2_; have GE688 := n3_; clear n0_ n1_ n2_ n3_; clear hb hbox hg))
  (try simp only [Act.put, List.setIfInBounds_toArray, List.set_cons_zero, List.set_cons_succ])
  go_cut [10] (fun v10 wc => ∃ (kq : Nat) (x10_1 : Bool), v10 = .bool x10_1 ∧ Aside0 (impl_NewDisk.j0 kq a0 x10_1 = some (r1, r2, r3)) ∧ Aside0 (kq ≤ k) ∧ Aside0 (wc.heap[gb688]? = some (.cells #[(.slice none 0 0), (.slice none 0 0)] 44 (0, 0))) ∧ Aside0 (Below w.heap.size w wc))
  case first =>
    have H := HC2.out
    clear HC2
    by_cases c4 : a0 < 1
    · rw [if_pos c4] at H
      have c4b0 : decide (a0 < 1) = true := decide_eq_true c4
      clear c4
      (first | rw [c4b0] | (simp only [i64_w, i32_w]; rw [c4b0]) | skip)
      have H' := Aside0.mk H
      clear H
      go_wp2
      go_meet
      case rel => exact ⟨_, (true), (by first | rfl | (simp; done) | (simp [*]; done)), H', ⟨by first | omega | exact Nat.le_refl _⟩, ⟨by (with_reducible repeat (first | refine blk_drewN ?_ _ | refine blk_drew ?_ | refine blk_alloc ?_ _)); exact BK688.out⟩, ⟨by repeat (first | (with_reducible first | exact HB.out | apply below_alloc | apply pw_below_drewN | apply below_drew1 | refine below_set ?_ GE688.out) | exact HB.out)⟩⟩
    · rw [if_neg c4] at H
      have c4b0 : decide (a0 < 1) = false := decide_eq_false c4
      clear c4
      (first | rw [c4b0] | (simp only [i64_w, i32_w]; rw [c4b0]) | skip)
      have H' := Aside0.mk H
      clear H
      go_wp2
      go_meet
      case rel => exact ⟨_, (decide (a0 > 4096)), (by first | rfl | (simp; done) | (simp [*]; done)), H', ⟨by first | omega | exact Nat.le_refl _⟩, ⟨by (with_reducible repeat (first | refine blk_drewN ?_ _ | refine blk_drew ?_ | refine blk_alloc ?_ _)); exact BK688.out⟩, ⟨by repeat (first | (with_reducible first | exact HB.out | apply below_alloc | apply pw_below_drewN | apply below_drew1 | refine below_set ?_ GE688.out) | exact HB.out)⟩⟩
  case rest =>
    clear HC2
    try clear c1
    try clear p2
    try clear c4
    try clear c4b0
    obtain ⟨kq, x10_1, rfl, HA, HJ1, BK688, HB⟩ := hcut
    cases kq with
    | zero => exact absurd HA.out (by simp [impl_NewDisk.j0])
    | succ kj1 =>
      have H := HA.out
      clear HA
      simp only [impl_NewDisk.j0] at H
      by_cases c5 : x10_1 = true
      · subst c5
        have H1 : (some (([] : List (List Int)), ([] : List (S185)), false)) = some (r1, r2, r3) := by rw [if_pos rfl] at H; exact H
        clear H
        have H := H1
        clear H1
        simp only [Option.some.injEq, Prod.mk.injEq] at H
        obtain ⟨rfl, rfl, rfl⟩ := H
        have hcz6_0 : wc.cell? ⟨gb688, 0, none⟩ = some (.slice none 0 0) := (blk_cell BK688.out 0).trans rfl
        have hcz6_1 : wc.cell? ⟨gb688, 1, none⟩ = some (.slice none 0 0) := (blk_cell BK688.out 1).trans rfl
        have hfz6_0 := blk_frozen BK688.out 0
        have hfz6_1 := blk_frozen BK688.out 1
        go_wp2
        refine bodyPost_ret (results_ct rfl _ _ gb688 44 #[.slice none 0 0, .slice none 0 0] (0, 0) _ rfl (by (with_reducible repeat (first | refine blk_drewN ?_ _ | refine blk_drew ?_ | refine blk_alloc ?_ _)); refine blk_put (cs := #[.slice none 0 0, .slice none 0 0]) ?_ 1 _ rfl; (with_reducible repeat (first | refine blk_drewN ?_ _ | refine blk_drew ?_ | refine blk_alloc ?_ _)); refine blk_put (cs := #[.slice none 0 0, .slice none 0 0]) ?_ 0 _ rfl; (with_reducible repeat (first | refine blk_drewN ?_ _ | refine blk_drew ?_ | refine blk_alloc ?_ _)); exact BK688.out) Try.underlying44 rfl (by kernel_rfl)) rfl ?_
        exact ⟨_, _, by first | rfl | (simp [errW_none, errW_some] <;> rfl) | (simp [*, errW_none, errW_some] <;> rfl), by first | exact Kd.S_nil _ _ _ _ _ | exact Kd.N_nil _ _ _ _ _ | exact Kd.V_nil _ _ _ _ _ | exact Kd.Q_nil _ _ _ _ _ | exact Kd.R_nil _ _ _ _ _, by first | exact Kd.S_nil _ _ _ _ _ | exact Kd.N_nil _ _ _ _ _ | exact Kd.V_nil _ _ _ _ _ | exact Kd.Q_nil _ _ _ _ _ | exact Kd.R_nil _ _ _ _ _, by repeat (first | (with_reducible first | exact HB.out | apply below_alloc | apply pw_below_drewN | apply below_drew1 | refine below_set ?_ GE688.out) | exact HB.out)⟩
      · replace c5 := Bool.eq_false_iff.mpr c5
        subst c5
        have H1 : (impl_NewDisk.l0 kj1 a0 0 ([] : List (List Int))) = some (r1, r2, r3) := by rw [if_neg (show ¬ (false = true) by decide)] at H; exact H
        clear H
        have H := H1
        clear H1
        have H' := Aside0.mk H
        clear H
        go_wp2_with (first | ((with_reducible refine gate_dst (N := 4) rfl ?_); refine box_event ?hg (N := 4) ?hd (cs := #[.slice none 0 0, .slice none 0 0]) (t := 44) ?hr ?_; (case hd => rfl); (case hg => rfl); (case hr => first | (go_simp; done) | (go_simp; rfl)); intro gb689 hg w7 hbox hb; have n0_ := Aside0.mk (blk_below (g := gb688) (o := .cells #[.slice none 0 0, .slice none 0 0] 44 (0, 0)) (by (with_reducible repeat (first | refine blk_drewN ?_ _ | refine blk_drew ?_ | refine blk_alloc ?_ _)); exact BK688.out) hb); have n1_ := Aside0.mk (below_step (by repeat (first | (with_reducible first | exact HB.out | apply below_alloc | apply pw_below_drewN | apply below_drew1 | refine below_set ?_ GE688.out) | exact HB.out)) hb); have n2_ := Aside0.mk (hbox); have n3_ := Aside0.mk ((by rw [hg]; exact (below_size (by repeat (first | (with_reducible first | exact HB.out | apply below_alloc | apply pw_below_drewN | apply below_drew1 | refine below_set ?_ GE688.out) | exact HB.out))) : w.heap.size ≤ gb689)); have n4_ := Aside0.mk ((by rw [hg]; exact (below_size (by repeat (first | (with_reducible first | exact HB.out | apply below_alloc | apply pw_below_drewN | apply below_drew1 | refine below_set ?_ GE688.out) | exact HB.out))) : w.heap.size ≤ gb689)); have n5_ := Aside0.mk ((by rw [hg]; exact Nat.ne_of_lt (blk_lt (g := gb688) (o := .cells #[.slice none 0 0, .slice none 0 0] 44 (0, 0)) (by (with_reducible repeat (first | refine blk_drewN ?_ _ | refine blk_drew ?_ | refine blk_alloc ?_ _)); exact BK688.out)) : gb688 ≠ gb689)); have n6_ := Aside0.mk ((by rw [hg]; exact Nat.ne_of_gt (blk_lt (g := gb688) (o := .cells #[.slice none 0 0, .slice none 0 0] 44 (0, 0)) (by (with_reducible repeat (first | refine blk_drewN ?_ _ | refine blk_drew ?_ | refine blk_alloc ?_ _)); exact BK688.out)) : gb689 ≠ gb688)); clear BK688; clear HB; have BK688 := n0_; have HB := n1_; have BK689 := n2_; have GW689 := n3_; have GE689 := n4_; have NB688_689 := n5_; have NB689_688 := n6_; clear n0_ n1_ n2_ n3_ n4_ n5_ n6_; clear hb hbox hg))
        go_loopg [13] kj1 (fun kq v13 w' => ∃ (x13_2 : Int) (x690000_2 : List (List Int)) (u690000 : Value), v13 = .int .i64 x13_2 ∧ Aside0 (impl_NewDisk.l0 kq a0 x13_2 x690000_2 = some (r1, r2, r3)) ∧ Aside0 (kq ≤ kj1) ∧ Aside0 (Kd.S (Kd.slice 5 (Kd.int .u8)) 22 w' w.heap.size (fun _ => True) u690000 x690000_2) ∧ Aside0 (w'.heap[gb688]? = some (.cells #[(.slice none 0 0), (.slice none 0 0)] 44 (0, 0))) ∧ Aside0 (w'.heap[gb689]? = some (.cells #[u690000, (.slice none 0 0)] 44 (0, 0))) ∧ Aside0 (Below w.heap.size w w'))
        case atStart => exact ⟨(0), (([] : List (List Int))), (.slice none 0 0), (by first | rfl | (simp; done) | (simp [*]; done)), H', ⟨Nat.le_refl _⟩, ⟨by first | exact Kd.S_nil _ _ _ _ _ | exact Kd.N_nil _ _ _ _ _ | exact Kd.V_nil _ _ _ _ _ | exact Kd.Q_nil _ _ _ _ _ | exact Kd.R_nil _ _ _ _ _⟩, ⟨by (with_reducible repeat (first | refine blk_drewN ?_ _ | refine blk_drew ?_ | refine blk_alloc ?_ _)); exact BK688.out⟩, ⟨by (with_reducible repeat (first | refine blk_drewN ?_ _ | refine blk_drew ?_ | refine blk_alloc ?_ _)); exact BK689.out⟩, ⟨by repeat (first | (with_reducible first | exact HB.out | apply below_alloc | apply pw_below_drewN | apply below_drew1 | refine below_set ?_ GE688.out | refine below_set ?_ GE689.out) | exact HB.out)⟩⟩
        case round =>
          clear H'
          try clear c1
          try clear p2
          try clear c4
          try clear c4b0
          try clear c5
          try clear hcz6_0
          try clear hcz6_1
          try clear hfz6_0
          try clear hfz6_1
          try clear p2
          obtain ⟨x13_2, x690000_2, u690000, rfl, HA, HK2, HO_690000, BK688, BK689, HB⟩ := hrel
          cases gk with
          | zero => exact absurd HA.out (by simp [impl_NewDisk.l0])
          | succ k2 =>
            have H := HA.out
            clear HA
            simp only [impl_NewDisk.l0] at H
            by_cases c8 : x13_2 < a0
            · rw [if_pos c8] at H
              have c8b0 : decide (x13_2 < a0) = true := decide_eq_true c8
              clear c8
              by_cases c9 : 64 ≤ 281474976710656
              · rw [if_pos c9] at H
                have c9b0 := eq_true c9
                have c9b1 : decide (64 ≤ 281474976710656) = true := decide_eq_true c9
                clear c9
                obtain ⟨y690, hy690⟩ : ∃ y_ : List Int, y_ = (List.replicate 64 0) := ⟨_, rfl⟩
                replace H : (if x690000_2.length < 5864062014805 then (impl_NewDisk.l0 k2 a0 (wrap64 (x13_2 + 1)) (x690000_2 ++ [y690])) else (none)) = some (r1, r2, r3) := by first | (rw [hy690]; with_reducible exact H) | (have H2_ := (Option.bind_some _ _).symm.trans H; rw [hy690]; with_reducible exact H2_) | (have H2_ := (Option.bind_some _ _).symm.trans H; with_reducible exact H2_) | with_reducible exact H | (rw [hy690]; exact H) | exact H
                have Ny690 := Aside0.mk hy690
                clear hy690
                by_cases c10 : x690000_2.length < 5864062014805
                · rw [if_pos c10] at H
                  have LMc10 := Aside0.mk c10
                  clear c10
                  obtain ⟨y693, hy693⟩ : ∃ y_ : List (List Int), y_ = (x690000_2 ++ [y690]) := ⟨_, rfl⟩
                  replace H : (impl_NewDisk.l0 k2 a0 (wrap64 (x13_2 + 1)) y693) = some (r1, r2, r3) := by first | (rw [hy693]; with_reducible exact H) | (have H2_ := (Option.bind_some _ _).symm.trans H; rw [hy693]; with_reducible exact H2_) | (have H2_ := (Option.bind_some _ _).symm.trans H; with_reducible exact H2_) | with_reducible exact H | (rw [hy693]; exact H) | exact H
                  have Ny693 := Aside0.mk hy693
                  clear hy693
                  have H' := Aside0.mk H
                  clear H
                  try go_wp2
                  have n0_ := Aside0.mk (Kd.S_drew HO_690000.out)
                  have n1_ := Aside0.mk (blk_drew BK688.out)
                  have n2_ := Aside0.mk (blk_drew BK689.out)
                  have n3_ := Aside0.mk (below_drew1 HB.out)
                  clear HO_690000
                  clear BK688
                  clear BK689
                  clear HB
                  have HO_690000 := n0_
                  have BK688 := n1_
                  have BK689 := n2_
                  have HB := n3_
                  clear n0_ n1_ n2_ n3_
                  refine start_ (n := 7) (S := fun w' => w'.cell? ⟨gb689, 0, none⟩ = some (u690000) ∧ w'.cell? ⟨gb689, 1, none⟩ = some (.slice none 0 0)) (ds := [6]) #[false, false, false, false, false, false, false] (by kernel_rfl) rfl rfl ⟨(blk_cell BK689.out 0).trans rfl, (blk_cell BK689.out 1).trans rfl⟩ (fun hHeld => ?_)
                  generalize wr.drew = w11 at HO_690000 BK688 BK689 HB hHeld ⊢
                  refine pure_ (i := 0) (N := some 15) (v := ?_) (a' := ?_) #[true, false, false, false, false, false, false] rfl rfl (by kernel_rfl) (fun _ _ _ h => h) (Or.inl ⟨by rfl, ?_⟩) ?_ ?_
                  rotate_left
                  · intro w'
                    go_simp
                    with_reducible rfl
                  rotate_left
                  · simp only [Act.put, List.setIfInBounds_toArray, List.set_cons_zero, List.set_cons_succ, i64_w, i32_w]
                    rfl
                  refine take_ (i := 1) (N := some 16) (v := ?_) (a' := ?_) #[true, true, false, false, false, false, false] rfl rfl (by kernel_rfl) (fun _ _ _ h => h) (Or.inl ⟨by rfl, ?_⟩) hHeld ?_ ?_
                  rotate_left
                  · rintro w' ⟨s0, s1⟩
                    go_simp
                    with_reducible rfl
                  rotate_left
                  · simp only [Act.put, List.setIfInBounds_toArray, List.set_cons_zero, List.set_cons_succ, i64_w, i32_w]
                    rfl
                  refine one_ (i := 2) (N := some 17) #[true, true, true, false, false, false, false] rfl rfl (by kernel_rfl) (by decide) (fun K hK => ?_)
                  refine Kd.R_make_step (Kd.int .u8) _ 5 (by rfl) (N := 17) rfl 22 _ _ rfl 64 rfl rfl Try.underlying22 (.int .u8 0) 1 info5 rfl (by decide) (by omega) 0 (ok := fun _ => True) (okp := fun _ => True) rfl (fun _ hk => hk) trivial (by omega) (by omega) (Below.refl _ _) (Nat.le_refl _) ?_
                  intro v691 w12 ho13 hb hg_ hnew_
                  clear hg_ hnew_
                  (first | rw [← Ny690.out] at ho13 | (simp only [Int.reduceToNat] at ho13; rw [← Ny690.out] at ho13))
                  have n0_ := Aside0.mk (Kd.S_elder' (by (with_reducible repeat (first | apply Kd.S_alloc | apply Kd.S_drewN | apply Kd.S_drew)); exact HO_690000.out) (Kd.R_base ho13) hb)
                  have n1_ := Aside0.mk (Kd.R_lower ho13 (below_size (by repeat (first | (with_reducible first | exact HB.out | apply below_alloc | apply pw_below_drewN | apply below_drew1 | refine below_set ?_ GE688.out | refine below_set ?_ GE689.out) | exact HB.out))))
                  have n2_ := Aside0.mk (blk_below (g := gb688) (o := .cells #[.slice none 0 0, .slice none 0 0] 44 (0, 0)) (by (with_reducible repeat (first | refine blk_drewN ?_ _ | refine blk_drew ?_ | refine blk_alloc ?_ _)); exact BK688.out) hb)
                  have n3_ := Aside0.mk (blk_below (g := gb689) (o := .cells #[u690000, .slice none 0 0] 44 (0, 0)) (by (with_reducible repeat (first | refine blk_drewN ?_ _ | refine blk_drew ?_ | refine blk_alloc ?_ _)); exact BK689.out) hb)
                  have n4_ := Aside0.mk (below_step (by repeat (first | (with_reducible first | exact HB.out | apply below_alloc | apply pw_below_drewN | apply below_drew1 | refine below_set ?_ GE688.out | refine below_set ?_ GE689.out) | exact HB.out)) hb)
                  clear HO_690000
                  clear BK688
                  clear BK689
                  clear HB
                  have HO_690000 := n0_
                  have HO692 := n1_
                  have BK688 := n2_
                  have BK689 := n3_
                  have HB := n4_
                  clear n0_ n1_ n2_ n3_ n4_
                  clear hb ho13
                  obtain ⟨Ao15, co15, eo15⟩ := Kd.R_slice HO692.out
                  (first | subst eo15 | (injection eo15 with f1_ f2_ f3_; have f4_ := f1_.symm; have f5_ := f3_.symm; clear f1_ f2_ f3_; subst f4_; subst f5_))
                  refine hK.out _ _ ⟨(blk_cell BK689.out 0).trans rfl, (blk_cell BK689.out 1).trans rfl⟩ (fun hHeld => ?_)
                  clear hK K
                  refine norm_ (a' := ?_) ?_ ?_
                  rotate_left
                  · show Act.put _ (some 17) _ = _
                    simp only [Act.put, List.setIfInBounds_toArray, List.set_cons_zero, List.set_cons_succ, i64_w, i32_w]
                    rfl
                  refine one_ (i := 3) (N := some 18) #[true, true, true, true, false, false, false] rfl rfl (by kernel_rfl) (by decide) (fun K hK => ?_)
                  refine value_ (w1 := ?_) (v := ?_) (by rfl) rfl ?_ ?_
                  rotate_left 2
                  · go_simp
                    constructor
                    · rfl
                    · rfl
                  refine hK.out _ _ ⟨(blk_cell (blk_alloc BK689.out _) 0).trans rfl, (blk_cell (blk_alloc BK689.out _) 1).trans rfl⟩ (fun hHeld => ?_)
                  clear hK K
                  refine norm_ (a' := ?_) ?_ ?_
                  rotate_left
                  · show Act.put _ (some 18) _ = _
                    simp only [Act.put, List.setIfInBounds_toArray, List.set_cons_zero, List.set_cons_succ, i64_w, i32_w]
                    rfl
                  refine one_ (i := 4) (N := some 19) #[true, true, true, true, true, false, false] rfl rfl (by kernel_rfl) (by decide) (fun K hK => ?_)
                  refine Kd.S_append_step (Kd.slice 5 (Kd.int .u8)) (w0 := w) w.heap.size (by rfl) (.tmp 16) (.tmp 18) 36 22 (.slice none 0 0) 24 rfl Try.underlying36 info22 rfl (by decide) (by omega) u690000 x690000_2 y690 [.slice Ao15 y690.length co15] (fun _ => True) (fun k_ => some k_ = (.slice Ao15 y690.length co15 : Value).ownBlock) rfl rfl ?aP (fun k_ hk_ => ((Kd.R_mono (ok' := fun k_ => ((fun _ => True)) k_ ∧ some k_ ≠ (u690000 : Value).ownBlock) (Kd.R_apart' (HO692.out) (Kd.S_typed HO_690000.out) (by decide)) (fun k_ hk => ⟨trivial, hk.2⟩))).1 k_ hk_.symm) ?aF ?aO ?aB ?aS ?aL ?_
                  (case aP => exact Kd.M_row (Kd.R_mono (Kd.R_tight rfl (Kd.R_mono (ok' := fun k_ => ((fun _ => True)) k_ ∧ some k_ ≠ (u690000 : Value).ownBlock) (Kd.R_apart' (HO692.out) (Kd.S_typed HO_690000.out) (by decide)) (fun k_ hk => ⟨trivial, hk.2⟩))) (fun _ h_ => h_)))
                  (case aB => exact (by repeat (first | (with_reducible first | exact HB.out | apply below_alloc | apply pw_below_drewN | apply below_drew1 | refine below_set ?_ GE688.out | refine below_set ?_ GE689.out) | exact HB.out)))
                  (case aF => exact (fun _ _ => trivial))
                  (case aO => exact (by (with_reducible repeat (first | apply Kd.S_alloc | apply Kd.S_drewN | apply Kd.S_drew)); exact Kd.S_mono HO_690000.out (fun k_ hk => ⟨trivial, fun e_ => hk.2 e_⟩)))
                  (case aS => exact (below_size (by repeat (first | (with_reducible first | exact HB.out | apply below_alloc | apply pw_below_drewN | apply below_drew1 | refine below_set ?_ GE688.out | refine below_set ?_ GE689.out) | exact HB.out))))
                  (case aL => have := LMc10.out; omega)
                  intro v694 w14 ho hb hg hat
                  rw [← Ny693.out] at ho
                  have n0_ := Aside0.mk (blk_grown (g := gb688) (o := .cells #[.slice none 0 0, .slice none 0 0] 44 (0, 0)) (by (with_reducible repeat (first | refine blk_drewN ?_ _ | refine blk_drew ?_ | refine blk_alloc ?_ _)); exact BK688.out) hg (Kd.S_ne HO_690000.out BK688.out (by decide)))
                  have n1_ := Aside0.mk (blk_grown (g := gb689) (o := .cells #[u690000, .slice none 0 0] 44 (0, 0)) (by (with_reducible repeat (first | refine blk_drewN ?_ _ | refine blk_drew ?_ | refine blk_alloc ?_ _)); exact BK689.out) hg (Kd.S_ne HO_690000.out BK689.out (by decide)))
                  have n2_ := Aside0.mk (hb)
                  have n3_ := Aside0.mk (ho)
                  clear BK688
                  clear BK689
                  clear HB
                  clear HO_690000
                  clear HO692
                  have BK688 := n0_
                  have BK689 := n1_
                  have HB := n2_
                  have HO695 := n3_
                  clear n0_ n1_ n2_ n3_
                  clear ho hb hg hat
                  obtain ⟨Ao16, co16, eo16⟩ := Kd.S_slice HO695.out
                  (first | subst eo16 | (injection eo16 with f1_ f2_ f3_; have f4_ := f1_.symm; have f5_ := f3_.symm; clear f1_ f2_ f3_; subst f4_; subst f5_))
                  refine hK.out _ _ ⟨(blk_cell BK689.out 0).trans rfl, (blk_cell BK689.out 1).trans rfl⟩ (fun hHeld => ?_)
                  clear hK K
                  refine norm_ (a' := ?_) ?_ ?_
                  rotate_left
                  · show Act.put _ (some 19) _ = _
                    simp only [Act.put, List.setIfInBounds_toArray, List.set_cons_zero, List.set_cons_succ, i64_w, i32_w]
                    rfl
                  refine pure_ (i := 5) (N := some 20) (v := ?_) (a' := ?_) #[true, true, true, true, true, true, false] rfl rfl (by kernel_rfl) (fun _ _ _ h => h) (Or.inl ⟨by rfl, ?_⟩) ?_ ?_
                  rotate_left
                  · intro w'
                    go_simp
                    with_reducible rfl
                  rotate_left
                  · simp only [Act.put, List.setIfInBounds_toArray, List.set_cons_zero, List.set_cons_succ, i64_w, i32_w]
                    rfl
                  refine last_ (i := 6) (N := none) #[true, true, true, true, true, true, true] rfl rfl (by kernel_rfl) (by decide) (fun K hK => ?_)
                  have hs17 : w14.cell? ⟨gb689, 0, none⟩ = some (u690000) := (blk_cell BK689.out 0).trans rfl
                  have hfs17 := blk_frozen BK689.out 0
                  have hns17_0 := NB688_689.out
                  have hms17_0 := NB689_688.out
                  refine skip_ (w1 := ?_) (by rfl) rfl ?_ ?_
                  rotate_left
                  · go_simp
                    rfl
                  refine hK.out _ _ ?_
                  clear hK K
                  refine done_ (by kernel_rfl) ?_
                  try go_wp2
                  go_roundg k2
                  case measure => have := HJ1.out; have := HK2.out; omega
                  case rel => exact ⟨(wrap64 (x13_2 + 1)), (y693), (.slice Ao16 y693.length co16), (by first | rfl | (simp; done) | (simp [*]; done)), H', ⟨by have := HJ1.out; have := HK2.out; omega⟩, ⟨by (with_reducible repeat (first | apply Kd.S_alloc | apply Kd.S_drewN | apply Kd.S_drew)); exact Kd.S_mono (Kd.S_far (p := ⟨gb689, 0, none⟩) (Kd.S_types HO695.out BK689.out (by decide)) (fun _ hk => hk.2) (.slice Ao16 y693.length co16)) (fun _ hk => trivial)⟩, ⟨by (with_reducible repeat (first | refine blk_drewN ?_ _ | refine blk_drew ?_ | refine blk_alloc ?_ _)); refine blk_far ?_ NB688_689.out _; (with_reducible repeat (first | refine blk_drewN ?_ _ | refine blk_drew ?_ | refine blk_alloc ?_ _)); exact BK688.out⟩, ⟨by (with_reducible repeat (first | refine blk_drewN ?_ _ | refine blk_drew ?_ | refine blk_alloc ?_ _)); refine blk_put (cs := #[u690000, .slice none 0 0]) ?_ 0 _ rfl; (with_reducible repeat (first | refine blk_drewN ?_ _ | refine blk_drew ?_ | refine blk_alloc ?_ _)); exact BK689.out⟩, ⟨by repeat (first | (with_reducible first | exact HB.out | apply below_alloc | apply pw_below_drewN | apply below_drew1 | refine below_set ?_ GE688.out | refine below_set ?_ GE689.out) | exact HB.out)⟩⟩
                · rw [if_neg c10] at H
                  exact absurd H (by simp)
              · rw [if_neg c9] at H
                exact absurd H (by simp)
            · rw [if_neg c8] at H
              have c8b0 : decide (x13_2 < a0) = false := decide_eq_false c8
              clear c8
              simp only [Option.some.injEq, Prod.mk.injEq] at H
              obtain ⟨rfl, rfl, rfl⟩ := H
              have hnb18 := NB689_688.out
              have hnc18 := NB688_689.out
              have hcz19_0 : wr.cell? ⟨gb689, 0, none⟩ = some (u690000) := (blk_cell BK689.out 0).trans rfl
              have hcz19_1 : wr.cell? ⟨gb689, 1, none⟩ = some (.slice none 0 0) := (blk_cell BK689.out 1).trans rfl
              have hfz19_0 := blk_frozen BK689.out 0
              have hfz19_1 := blk_frozen BK689.out 1
              obtain ⟨Ao20, co20, eo20⟩ := Kd.S_slice HO_690000.out
              subst eo20
              have hcz21_0 : wr.cell? ⟨gb688, 0, none⟩ = some (.slice none 0 0) := (blk_cell BK688.out 0).trans rfl
              have hcz21_1 : wr.cell? ⟨gb688, 1, none⟩ = some (.slice none 0 0) := (blk_cell BK688.out 1).trans rfl
              have hfz21_0 := blk_frozen BK688.out 0
              have hfz21_1 := blk_frozen BK688.out 1
              go_wp2
              refine bodyPost_ret (results_ct rfl _ _ gb688 44 #[.slice Ao20 x690000_2.length co20, .slice none 0 0] (0, 0) _ rfl (by (with_reducible repeat (first | refine blk_drewN ?_ _ | refine blk_drew ?_ | refine blk_alloc ?_ _)); refine blk_put (cs := #[.slice Ao20 x690000_2.length co20, .slice none 0 0]) ?_ 1 _ rfl; (with_reducible repeat (first | refine blk_drewN ?_ _ | refine blk_drew ?_ | refine blk_alloc ?_ _)); refine blk_put (cs := #[.slice none 0 0, .slice none 0 0]) ?_ 0 _ rfl; (with_reducible repeat (first | refine blk_drewN ?_ _ | refine blk_drew ?_ | refine blk_alloc ?_ _)); exact BK688.out) Try.underlying44 rfl (by kernel_rfl)) rfl ?_
              exact ⟨_, _, by first | rfl | (simp [errW_none, errW_some] <;> rfl) | (simp [*, errW_none, errW_some] <;> rfl), by (with_reducible repeat (first | apply Kd.S_alloc | apply Kd.S_drewN | apply Kd.S_drew)); exact Kd.S_mono (Kd.S_far (p := ⟨gb688, 1, none⟩) (Kd.S_far (p := ⟨gb688, 0, none⟩) (Kd.S_types HO_690000.out BK688.out (by decide)) (fun _ hk => hk.2) (.slice Ao20 x690000_2.length co20)) (fun _ hk => hk.2) (.slice none 0 0)) (fun _ hk => trivial), by first | exact Kd.S_nil _ _ _ _ _ | exact Kd.N_nil _ _ _ _ _ | exact Kd.V_nil _ _ _ _ _ | exact Kd.Q_nil _ _ _ _ _ | exact Kd.R_nil _ _ _ _ _, by repeat (first | (with_reducible first | exact HB.out | apply below_alloc | apply pw_below_drewN | apply below_drew1 | refine below_set ?_ GE688.out | refine below_set ?_ GE689.out) | exact HB.out)⟩

end Go.Proofs.Ytlopmffdebhpfaa.G

/-! ## Do2 -/
namespace Go.Proofs.Ytlopmffdebhpfaa.G
open Go.RowKit Go.Proofs.YtlopmffdebhpfaaW.PrintWords Go.Proofs.YtlopmffdebhpfaaW.PrintLast Go.Proofs.YtlopmffdebhpfaaW.PrintMore
set_option linter.unusedVariables false
set_option linter.unusedSimpArgs false
/-- Every block of type 63 or 5 stands as it stood. -/
def KeptT (w w1 : World) : Prop := ∀ (q : Nat) (cs : Array Value) (t : TypeId) (f : Nat × Nat), w.heap[q]? = some (.cells cs t f) → t = 63 ∨ t = 5 → w1.heap[q]? = some (.cells cs t f)
section
variable {w W w1 : World} {g b n t : Nat} {cs : Array Value} {f : Nat × Nat} {m : Int → Option Int}
theorem KeptT.refl (w : World) : KeptT w w := fun _ _ _ _ h _ => h
theorem KeptT.trans {w2 : World} (h : KeptT w W) (h2 : KeptT W w2) : KeptT w w2 := fun q c t f hq ht => h2 q c t f (h q c t f hq ht) ht
theorem KeptT.below (h : KeptT w W) (hb : Below W.heap.size W w1) : KeptT w w1 := fun q c t f hq ht => by
  have h1 := h q c t f hq ht
  exact (hb.block q (by rcases Nat.lt_or_ge q W.heap.size with hl | hl; exact hl; rw [Array.getElem?_eq_none hl] at h1; cases h1)).trans h1
theorem KeptT.drew (h : KeptT w W) : KeptT w W.drew := h
theorem KeptT.drewN (h : KeptT w W) (k : Nat) : KeptT w (W.drewN k) := h
theorem KeptT.grown (h : KeptT w W) (hg : W.grownBy w1 (some g)) (hb : W.heap[g]? = some (.cells cs t f)) (ht : t ≠ 63 ∧ t ≠ 5) : KeptT w w1 := fun q c t' f' hq hq' => by
  have h1 := h q c t' f' hq hq'
  have hl : q < W.heap.size := by
    rcases Nat.lt_or_ge q W.heap.size with hl | hl
    · exact hl
    · rw [Array.getElem?_eq_none hl] at h1
      cases h1
  refine (hg.block q hl (fun e => ?_)).trans h1
  injection e with e
  subst e
  rw [hb] at h1
  injection h1 with h1
  injection h1 with _ h1
  rcases hq' with rfl | rfl
  · exact ht.1 h1
  · exact ht.2 h1
theorem KeptT.row {row : Option Nat} (h : KeptT w W) (hg : W.grownBy w1 row) (hr : ∀ q, row = some q → ∃ cs, W.heap[q]? = some (.cells cs t (0, 0))) (ht : t ≠ 63 ∧ t ≠ 5) : KeptT w w1 := by
  cases row with
  | some g =>
    obtain ⟨cs, hb⟩ := hr g rfl
    exact h.grown hg hb ht
  | none =>
    intro q c t' f' hq hq'
    have h1 := h q c t' f' hq hq'
    have hl : q < W.heap.size := by
      rcases Nat.lt_or_ge q W.heap.size with hl | hl
      · exact hl
      · rw [Array.getElem?_eq_none hl] at h1
        cases h1
    exact (hg.block q hl (fun e => by cases e)).trans h1
theorem KeptT.set (h : KeptT w W) (hb : W.heap[g]? = some (.cells cs t f)) (ht : t ≠ 63 ∧ t ≠ 5) (i : Nat) (u : Value) : KeptT w (W.setCell ⟨g, i, none⟩ u) := fun q c t' f' hq hq' => by
  have h1 := h q c t' f' hq hq'
  refine (Below.heap_setCell _ _ _ _ (fun e => ?_)).trans h1
  have e' : q = g := e
  subst e'
  rw [hb] at h1
  injection h1 with h1
  injection h1 with _ h1
  rcases hq' with rfl | rfl
  · exact ht.1 h1
  · exact ht.2 h1
theorem KeptT.map (h : KeptT w W) (hg : W.grownBy w1 (some b)) (hl : LMap W b n m) : KeptT w w1 := fun q c t' f' hq hq' => by
  have h1 := h q c t' f' hq hq'
  have hlt : q < W.heap.size := by
    rcases Nat.lt_or_ge q W.heap.size with hl | hl
    · exact hl
    · rw [Array.getElem?_eq_none hl] at h1
      cases h1
  have hf := hq'
  refine (hg.block q hlt (fun e => ?_)).trans h1
  injection e with e
  subst e
  obtain ⟨D, ⟨es, clock, h3, _⟩, _⟩ := hl
  rw [h3] at h1
  cases h1
end
def impl_doK.T7 : Bool × List (List Nat × List Nat) := (true, [([], []), ([0], [0]), ([1], [1]), ([2], [2]), ([], []), ([4], [4]), ([], []), ([6], [6]), ([7], [7]), ([8], [8]), ([9], [9]), ([10], [10]), ([3, 5, 11, 0, 1, 2, 3, 4, 5, 6, 7, 8, 9, 10, 11], [3, 5, 11])])
def impl_doK.B7 : List Nat := [0, 1, 3, 7, 0, 16, 0, 64, 192, 448, 960, 1984, 4095]
theorem impl_doK.tab7 : rtab .any (opsOf Try.f110 7) = impl_doK.T7 := by kernel_rfl
theorem impl_doK.bits7 : waitsOk impl_doK.T7.2 impl_doK.B7 = true := by kernel_rfl
def impl_doK.T8 : Bool × List (List Nat × List Nat) := (true, [([], []), ([], []), ([1], [1]), ([2], [2]), ([3], [3]), ([4], [4]), ([], []), ([6], [6]), ([], []), ([8], [8]), ([9], [9]), ([7, 10], [7, 10]), ([11], [11]), ([5, 12, 10], [5, 12]), ([0, 0, 1, 2, 3, 4, 5, 6, 7, 8, 9, 10, 11, 12, 13], [0]), ([14, 0, 1, 2, 3, 4, 5, 6, 7, 8, 9, 10, 11, 12, 13], [14]), ([15, 0, 1, 2, 3, 4, 5, 6, 7, 8, 9, 10, 11, 12, 13], [15]), ([16, 13, 13, 0, 1, 2, 3, 4, 5, 6, 7, 8, 9, 10, 11, 12, 13], [13, 16])])
def impl_doK.B8 : List Nat := [0, 0, 2, 6, 14, 30, 0, 64, 0, 256, 768, 1984, 4032, 8190, 16383, 32767, 65535, 131071]
theorem impl_doK.tab8 : rtab .any (opsOf Try.f110 8) = impl_doK.T8 := by kernel_rfl
theorem impl_doK.bits8 : waitsOk impl_doK.T8.2 impl_doK.B8 = true := by kernel_rfl
def impl_doK.T16 : Bool × List (List Nat × List Nat) := (true, [([], []), ([0], [0]), ([1], [1]), ([2], [2]), ([3], [3]), ([], []), ([5], [5]), ([], []), ([7], [7]), ([4, 6, 0, 1, 2, 3, 4, 5, 6, 7, 8], [4, 6]), ([9, 8, 0, 1, 2, 3, 4, 5, 6, 7, 8], [8, 9])])
def impl_doK.B16 : List Nat := [0, 1, 3, 7, 15, 0, 32, 0, 128, 511, 1023]
theorem impl_doK.tab16 : rtab .any (opsOf Try.f110 16) = impl_doK.T16 := by kernel_rfl
theorem impl_doK.bits16 : waitsOk impl_doK.T16.2 impl_doK.B16 = true := by kernel_rfl
set_option maxHeartbeats 16000000 in
set_option maxRecDepth 100000 in
theorem impl_doK.calls (g b : Nat) (safe : List (List Int)) (ps : List S185) (kind at_ : Int) (Ad : Option Addr) (cd : Nat) (data : List Int) (w0 w : World) (hD : DevOk w w0.heap.size g b safe ps) (hB : Below w0.heap.size w0 w) (hr : ∀ W', Kept w W' (fun q => q = g ∨ q = b) → Kd.C (Kd.int .u8) W' Ad data.length data) (hc : data.length ≤ cd) (hwa : (Lit.int .i64 at_).wf = true)
    (hps : ps.length ≤ 1048576) (hsl : safe.length ≤ 1048576) (hrg : ∀ p ∈ ps, 0 ≤ p.f0 ∧ p.f0 < (safe.length : Int)) :
    Calls Try.prog 110 #[.pointer (some ⟨g, 0, none⟩), .agg #[.int .i64 kind, .int .i64 at_, .slice Ad data.length cd]] w fun e w' => e = .returned (.bool (doV safe ps kind at_ data).2) ∧ DevOk w' w0.heap.size g b (doV safe ps kind at_ data).1.1 (doV safe ps kind at_ data).1.2 ∧ Below w0.heap.size w0 w' ∧ KeptT w w' := by
  have hu44 := Try.underlying44
  have hu63 := Try.underlying63
  have hu159 := Try.underlying159
  have hu185 := Try.underlying185
  obtain ⟨⟨⟨sf, pf⟩, rf⟩, hdo⟩ : ∃ r, doV safe ps kind at_ data = r := ⟨_, rfl⟩
  rw [hdo]
  dsimp only
  obtain ⟨A0, c0, A1, c1, P, Q, hd, hdk, hl, hgb, hg, hbb⟩ := hD
  have HDO := Aside0.mk hdo
  have HR := Aside0.mk hr
  have HC := Aside0.mk hc
  have HWA := Aside0.mk hwa
  have HPS := Aside0.mk hps
  have HSL := Aside0.mk hsl
  have HRG := Aside0.mk hrg
  have HGB := Aside0.mk hgb
  have HG := Aside0.mk hg
  have HBB := Aside0.mk hbb
  have HB := Aside0.mk hB
  have HQ := Aside0.mk (KeptT.refl w)
  have HD := Aside0.mk hdk
  have HL := Aside0.mk hl
  have HDV := Aside0.mk hd
  have HDVW := Aside0.mk (show w.heap[g]? = _ from hd)
  clear hr hc hwa hps hsl hrg hg hbb hB hdk hl hd hdo
  go_enter_defers Try.func110, Try.ntmps110
  go_wp2_with (first | ((with_reducible refine gate_dst (N := 3) rfl ?_); refine box_event ?hg (N := 3) ?hd (cs := #[.int .i64 kind, .int .i64 at_, .slice Ad data.length cd]) (t := 63) ?hr ?_; (case hd => rfl); (case hg => rfl); (case hr => first | (go_simp; done) | (go_simp; rfl)); intro g3 hgr w1 hbox hbel; have BP := Aside0.mk hbox; have HQ := Aside0.mk (KeptT.below HQ.out hbel); have HK := Aside0.mk (Kept.below (Kept.refl w (fun q => q = g ∨ q = b)) hbel); have HDV := Aside0.mk (show IsDev w1 g b A0 safe.length c0 A1 ps.length c1 from blk_below HDV.out hbel); have NPG : Aside0 (g3 ≠ g) := ⟨by have := blk_lt (show w.heap[g]? = _ from HDVW.out); omega⟩; have HD := Aside0.mk (IsDisk_below HD.out hbel); have HL := Aside0.mk (LMap_step HL.out (hbel.block b (LMap_lt HL.out))); have HB := Aside0.mk (below_step HB.out hbel); have hc0 : w1.cell? ⟨g, 0, none⟩ = some (.int .i32 0) := (blk_cell HDV.out 0).trans rfl; have hf0 := blk_frozen HDV.out 0; clear hbox hbel hgr))
  refine (Go.MuLone.lock_free muLib ⟨g, 0, none⟩ _ hc0 hf0).mono ?_
  rintro e w2 ⟨rfl, hw1⟩
  have BG : Aside0 (w2.heap[g]? = some (.cells #[.int .i32 1, .int .u32 0, .slice A0 safe.length c0, .slice A1 ps.length c1, .map (some b)] 159 (0, 0))) := ⟨by rw [hw1]; exact blk_put HDV.out 0 _ rfl⟩
  have HB := Aside0.mk (show Below w0.heap.size w0 w2 by rw [hw1]; exact below_set HB.out HG.out)
  have HQ := Aside0.mk (show KeptT w w2 by rw [hw1]; exact KeptT.set HQ.out (show w1.heap[g]? = _ from HDV.out) (by decide) 0 _)
  have HK := Aside0.mk (show Kept w w2 (fun q => q = g ∨ q = b) by rw [hw1]; exact Kept.setCell HK.out (.inl (.inl rfl)) _)
  have HL := Aside0.mk (show LMap w2 b ps.length (lastM ps) from by rw [hw1]; exact LMap_set HL.out HGB.out)
  have HD := Aside0.mk (show IsDisk w2 w0.heap.size P Q (.slice A0 safe.length c0) (.slice A1 ps.length c1) safe ps by rw [hw1]; exact D_set HD.out HDV.out (by decide))
  have BP : Aside0 (w2.heap[g3]? = some (.cells #[.int .i64 kind, .int .i64 at_, .slice Ad data.length cd] 63 (0, 0))) := ⟨by rw [hw1]; exact (Below.heap_setCell _ _ _ _ NPG.out).trans BP.out⟩
  clear hc0 hf0 hw1 HDV
  have cg0 : w2.cell? ⟨g, 0, none⟩ = some (.int .i32 1) := (blk_cell BG.out 0).trans rfl
  have cg1 : w2.cell? ⟨g, 1, none⟩ = some (.int .u32 0) := (blk_cell BG.out 1).trans rfl
  have cg2 : w2.cell? ⟨g, 2, none⟩ = some (.slice A0 safe.length c0) := (blk_cell BG.out 2).trans rfl
  have cg3 : w2.cell? ⟨g, 3, none⟩ = some (.slice A1 ps.length c1) := (blk_cell BG.out 3).trans rfl
  have cg4 : w2.cell? ⟨g, 4, none⟩ = some (.map (some b)) := (blk_cell BG.out 4).trans rfl
  have fg0 := blk_frozen BG.out 0
  have cp0 : w2.cell? ⟨g3, 0, none⟩ = some (.int .i64 kind) := (blk_cell BP.out 0).trans rfl
  have cp1 : w2.cell? ⟨g3, 1, none⟩ = some (.int .i64 at_) := (blk_cell BP.out 1).trans rfl
  have cp2 : w2.cell? ⟨g3, 2, none⟩ = some (.slice Ad data.length cd) := (blk_cell BP.out 2).trans rfl
  have hdo := HDO.out
  unfold doV at hdo
  clear HDO
  by_cases k1 : kind = 1
  · rw [if_pos k1] at hdo
    have e1 : (kind == 1) = true := beq_iff_eq.mpr k1
    clear k1
    by_cases h0 : at_ < 0
    · rw [if_pos h0] at hdo
      have d0 : decide (at_ < 0) = true := decide_eq_true h0
      clear h0
      obtain ⟨⟨rfl, rfl⟩, rfl⟩ : (safe = sf ∧ ps = pf) ∧ false = rf := by simpa using hdo
      clear hdo
      go_wp2_with fail
      go_quiet (fail)
      go_wp2_with fail
      refine leaves_cons (f := 140) (args := #[.pointer (some ⟨g, 0, none⟩)]) (by simp) (by simp [go_sem]) ?_
      refine (Go.MuLone.unlock_deferred muLib ⟨g, 0, none⟩ .returning _ (by first | exact cg0 | simpa using cg0) (by first | exact fg0 | simpa using fg0)).mono ?_
      rintro e u' w'' ⟨rfl, rfl, hw2⟩
      refine ⟨_, results_tmp rfl _ _ _, rfl, ?_⟩
      have hdu := dev_unlock (blk_drewN BG.out _) ⟨HD.out.1, Kd.S_drewN HD.out.2.1 _, Kd.S_drewN HD.out.2.2 _⟩ (LMap_step HL.out rfl) HGB.out HG.out HBB.out (pw_below_drewN HB.out _) hw2
      exact ⟨hdu.1, hdu.2, by rw [hw2]; exact KeptT.set (KeptT.drewN HQ.out _) (blk_drewN BG.out _) (by decide) 0 _⟩
    rw [if_neg h0] at hdo
    have d0 : decide (at_ < 0) = false := decide_eq_false h0
    by_cases h1 : (safe.length : Int) ≤ at_
    · rw [if_pos h1] at hdo
      have d1 : decide ((safe.length : Int) ≤ at_) = true := decide_eq_true h1
      clear h0 h1
      obtain ⟨⟨rfl, rfl⟩, rfl⟩ : (safe = sf ∧ ps = pf) ∧ false = rf := by simpa using hdo
      clear hdo
      go_wp2_with fail
      go_quiet (fail)
      go_wp2_with fail
      refine leaves_cons (f := 140) (args := #[.pointer (some ⟨g, 0, none⟩)]) (by simp) (by simp [go_sem]) ?_
      refine (Go.MuLone.unlock_deferred muLib ⟨g, 0, none⟩ .returning _ (by first | exact cg0 | simpa using cg0) (by first | exact fg0 | simpa using fg0)).mono ?_
      rintro e u' w'' ⟨rfl, rfl, hw2⟩
      refine ⟨_, results_tmp rfl _ _ _, rfl, ?_⟩
      have hdu := dev_unlock (blk_drewN BG.out _) ⟨HD.out.1, Kd.S_drewN HD.out.2.1 _, Kd.S_drewN HD.out.2.2 _⟩ (LMap_step HL.out rfl) HGB.out HG.out HBB.out (pw_below_drewN HB.out _) hw2
      exact ⟨hdu.1, hdu.2, by rw [hw2]; exact KeptT.set (KeptT.drewN HQ.out _) (blk_drewN BG.out _) (by decide) 0 _⟩
    rw [if_neg h1] at hdo
    have d1 : decide ((safe.length : Int) ≤ at_) = false := decide_eq_false h1
    by_cases h2 : data.length = 64
    case neg =>
      rw [if_neg h2] at hdo
      have d2 : ((data.length : Int) != 64) = true := bne_iff_ne.mpr (by omega)
      have d3 : ((data.length : Int) == 64) = false := beq_eq_false_iff_ne.mpr (by omega)
      clear h0 h1 h2
      obtain ⟨⟨rfl, rfl⟩, rfl⟩ : (safe = sf ∧ ps = pf) ∧ false = rf := by simpa using hdo
      clear hdo
      go_wp2_with fail
      go_quiet (fail)
      go_wp2_with fail
      refine leaves_cons (f := 140) (args := #[.pointer (some ⟨g, 0, none⟩)]) (by simp) (by simp [go_sem]) ?_
      refine (Go.MuLone.unlock_deferred muLib ⟨g, 0, none⟩ .returning _ (by first | exact cg0 | simpa using cg0) (by first | exact fg0 | simpa using fg0)).mono ?_
      rintro e u' w'' ⟨rfl, rfl, hw2⟩
      refine ⟨_, results_tmp rfl _ _ _, rfl, ?_⟩
      have hdu := dev_unlock (blk_drewN BG.out _) ⟨HD.out.1, Kd.S_drewN HD.out.2.1 _, Kd.S_drewN HD.out.2.2 _⟩ (LMap_step HL.out rfl) HGB.out HG.out HBB.out (pw_below_drewN HB.out _) hw2
      exact ⟨hdu.1, hdu.2, by rw [hw2]; exact KeptT.set (KeptT.drewN HQ.out _) (blk_drewN BG.out _) (by decide) 0 _⟩
    rw [if_pos h2] at hdo
    have d2 : ((data.length : Int) != 64) = false := bne_eq_false_iff_eq.mpr (by omega)
    have d3 : ((data.length : Int) == 64) = true := beq_iff_eq.mpr (by omega)
    by_cases h3 : 5000 ≤ ps.length
    · rw [if_pos h3] at hdo
      have d4 : decide ((5000 : Int) ≤ (ps.length : Int)) = true := decide_eq_true (by omega)
      clear h0 h1 h2 h3
      obtain ⟨⟨rfl, rfl⟩, rfl⟩ : (safe = sf ∧ ps = pf) ∧ false = rf := by simpa using hdo
      clear hdo
      go_wp2_with fail
      go_quiet (fail)
      go_wp2_with fail
      refine leaves_cons (f := 140) (args := #[.pointer (some ⟨g, 0, none⟩)]) (by simp) (by simp [go_sem]) ?_
      refine (Go.MuLone.unlock_deferred muLib ⟨g, 0, none⟩ .returning _ (by first | exact cg0 | simpa using cg0) (by first | exact fg0 | simpa using fg0)).mono ?_
      rintro e u' w'' ⟨rfl, rfl, hw2⟩
      refine ⟨_, results_tmp rfl _ _ _, rfl, ?_⟩
      have hdu := dev_unlock (blk_drewN BG.out _) ⟨HD.out.1, Kd.S_drewN HD.out.2.1 _, Kd.S_drewN HD.out.2.2 _⟩ (LMap_step HL.out rfl) HGB.out HG.out HBB.out (pw_below_drewN HB.out _) hw2
      exact ⟨hdu.1, hdu.2, by rw [hw2]; exact KeptT.set (KeptT.drewN HQ.out _) (blk_drewN BG.out _) (by decide) 0 _⟩
    rw [if_neg h3] at hdo
    have d4 : decide ((5000 : Int) ≤ (ps.length : Int)) = false := decide_eq_false (by omega)
    have HDL := Aside0.mk h2
    clear h0 h1 h2 h3
    obtain ⟨⟨rfl, rfl⟩, rfl⟩ : (safe = sf ∧ ps ++ [⟨at_, data⟩] = pf) ∧ true = rf := by simpa using hdo
    clear hdo
    go_wp2_with fail
    go_quiet (fail)
    go_wp2_with fail
    have BG := Aside0.mk (blk_drewN BG.out nq)
    have BP := Aside0.mk (blk_drewN BP.out nq)
    have HD := Aside0.mk (show IsDisk (w2.drewN nq) w0.heap.size P Q (.slice A0 safe.length c0) (.slice A1 ps.length c1) safe ps from ⟨HD.out.1, Kd.S_drewN HD.out.2.1 _, Kd.S_drewN HD.out.2.2 _⟩)
    have HL := Aside0.mk (show LMap (w2.drewN nq) b ps.length (lastM ps) from LMap_step HL.out rfl)
    have HB := Aside0.mk (pw_below_drewN HB.out nq)
    have HK := Aside0.mk (Kept.drewN HK.out nq)
    have HQ := Aside0.mk (KeptT.drewN HQ.out nq)
    clear cg0 cg1 cg2 cg3 cg4 cp0 cp1 cp2 fg0 d0 d1 d2 d3 d4
    generalize w2.drewN nq = w3 at BG BP HD HL HB HK HQ ⊢
    refine start_ (n := 13) (S := fun w' => w'.cell? ⟨g, 3, none⟩ = some (.slice A1 ps.length c1) ∧ w'.cell? ⟨g, 4, none⟩ = some (.map (some b)) ∧ w'.cell? ⟨g3, 1, none⟩ = some (.int .i64 at_)) (ds := [12]) #[false, false, false, false, false, false, false, false, false, false, false, false, false] (by kernel_rfl) rfl rfl (⟨(blk_cell BG.out 3).trans rfl, (blk_cell BG.out 4).trans rfl, (blk_cell BP.out 1).trans rfl⟩) (fun hHeld => ?_); refine with_tabW impl_doK.tab7 impl_doK.bits7 (fun HT_ HW_ => ?_)
    have BG := Aside0.mk (blk_drew BG.out)
    have BP := Aside0.mk (blk_drew BP.out)
    have HL := Aside0.mk (show LMap _ b ps.length (lastM ps) from LMap_step HL.out rfl)
    have HB := Aside0.mk (below_drew1 HB.out)
    have HK := Aside0.mk (Kept.drew HK.out)
    have HQ := Aside0.mk (KeptT.drew HQ.out)
    have HD := Aside0.mk (show IsDisk w3.drew w0.heap.size P Q (.slice A0 safe.length c0) (.slice A1 ps.length c1) safe ps from ⟨HD.out.1, Kd.S_drew HD.out.2.1, Kd.S_drew HD.out.2.2⟩)
    refine pure_ (i := 0) (N := some 47) (v := ?_) (a' := ?_) #[true, false, false, false, false, false, false, false, false, false, false, false, false] rfl rfl (any_of HT_.out (by kernel_rfl)) (fun _ _ _ h => keep_defer rfl (by decide) h) (Or.inl ⟨by rfl, ?_⟩) ?_ ?_
    rotate_left
    · intro w'
      go_simp
      with_reducible rfl
    rotate_left
    · simp only [Act.put, List.setIfInBounds_toArray, List.set_cons_zero, List.set_cons_succ, i64_w, i32_w]
      rfl
    refine pure_ (i := 1) (N := some 48) (v := ?_) (a' := ?_) #[true, true, false, false, false, false, false, false, false, false, false, false, false] rfl rfl (any_of HT_.out (by kernel_rfl)) (fun _ _ _ h => keep_defer rfl (by decide) h) (Or.inl ⟨by rfl, ?_⟩) ?_ ?_
    rotate_left
    · intro w'
      go_simp
      with_reducible rfl
    rotate_left
    · simp only [Act.put, List.setIfInBounds_toArray, List.set_cons_zero, List.set_cons_succ, i64_w, i32_w]
      rfl
    refine pure_ (i := 2) (N := some 49) (v := ?_) (a' := ?_) #[true, true, true, false, false, false, false, false, false, false, false, false, false] rfl rfl (any_of HT_.out (by kernel_rfl)) (fun _ _ _ h => keep_defer rfl (by decide) h) (Or.inl ⟨by rfl, ?_⟩) ?_ ?_
    rotate_left
    · intro w'
      go_simp
      with_reducible rfl
    rotate_left
    · simp only [Act.put, List.setIfInBounds_toArray, List.set_cons_zero, List.set_cons_succ, i64_w, i32_w]
      rfl
    refine pure_ (i := 4) (N := some 51) (v := ?_) (a' := ?_) #[true, true, true, false, true, false, false, false, false, false, false, false, false] rfl rfl (any_of HT_.out (by kernel_rfl)) (fun _ _ _ h => keep_defer rfl (by decide) h) (Or.inl ⟨by rfl, ?_⟩) ?_ ?_
    rotate_left
    · intro w'
      go_simp
      with_reducible rfl
    rotate_left
    · simp only [Act.put, List.setIfInBounds_toArray, List.set_cons_zero, List.set_cons_succ, i64_w, i32_w]
      rfl
    refine pure_ (i := 6) (N := some 53) (v := ?_) (a' := ?_) #[true, true, true, false, true, false, true, false, false, false, false, false, false] rfl rfl (any_of HT_.out (by kernel_rfl)) (fun _ _ _ h => keep_defer rfl (by decide) h) (Or.inl ⟨by rfl, ?_⟩) ?_ ?_
    rotate_left
    · intro w'
      go_simp
      with_reducible rfl
    rotate_left
    · simp only [Act.put, List.setIfInBounds_toArray, List.set_cons_zero, List.set_cons_succ, i64_w, i32_w]
      rfl
    refine pure_ (i := 7) (N := some 54) (v := ?_) (a' := ?_) #[true, true, true, false, true, false, true, true, false, false, false, false, false] rfl rfl (any_of HT_.out (by kernel_rfl)) (fun _ _ _ h => keep_defer rfl (by decide) h) (Or.inl ⟨by rfl, ?_⟩) ?_ ?_
    rotate_left
    · intro w'
      go_simp
      with_reducible rfl
    rotate_left
    · simp only [Act.put, List.setIfInBounds_toArray, List.set_cons_zero, List.set_cons_succ, i64_w, i32_w]
      rfl
    refine pure_ (i := 8) (N := some 55) (v := ?_) (a' := ?_) #[true, true, true, false, true, false, true, true, true, false, false, false, false] rfl rfl (any_of HT_.out (by kernel_rfl)) (fun _ _ _ h => keep_defer rfl (by decide) h) (Or.inl ⟨by rfl, ?_⟩) ?_ ?_
    rotate_left
    · intro w'
      go_simp
      with_reducible rfl
    rotate_left
    · simp only [Act.put, List.setIfInBounds_toArray, List.set_cons_zero, List.set_cons_succ, i64_w, i32_w]
      rfl
    refine pure_ (i := 9) (N := some 56) (v := ?_) (a' := ?_) #[true, true, true, false, true, false, true, true, true, true, false, false, false] rfl rfl (any_of HT_.out (by kernel_rfl)) (fun _ _ _ h => keep_defer rfl (by decide) h) (Or.inl ⟨by rfl, ?_⟩) ?_ ?_
    rotate_left
    · intro w'
      go_simp
      with_reducible rfl
    rotate_left
    · simp only [Act.put, List.setIfInBounds_toArray, List.set_cons_zero, List.set_cons_succ, i64_w, i32_w]
      rfl
    refine take_ (i := 3) (N := some 50) (v := ?_) (a' := ?_) #[true, true, true, true, true, false, true, true, true, true, false, false, false] rfl rfl (take_ofW HT_.out HW_.out (by kernel_rfl)) (fun _ _ _ h => keep_defer rfl (by decide) h) (Or.inl ⟨by rfl, ?_⟩) hHeld ?_ ?_
    rotate_left
    · intro w' s0
      obtain ⟨s0, s1, s2⟩ := s0
      go_simp
      with_reducible rfl
    rotate_left
    · simp only [Act.put, List.setIfInBounds_toArray, List.set_cons_zero, List.set_cons_succ, i64_w, i32_w]
      rfl
    refine take_ (i := 5) (N := some 52) (v := ?_) (a' := ?_) #[true, true, true, true, true, true, true, true, true, true, false, false, false] rfl rfl (take_ofW HT_.out HW_.out (by kernel_rfl)) (fun _ _ _ h => keep_defer rfl (by decide) h) (Or.inl ⟨by rfl, ?_⟩) hHeld ?_ ?_
    rotate_left
    · intro w' s0
      obtain ⟨s0, s1, s2⟩ := s0
      go_simp
      with_reducible rfl
    rotate_left
    · simp only [Act.put, List.setIfInBounds_toArray, List.set_cons_zero, List.set_cons_succ, i64_w, i32_w]
      rfl
    refine take_ (i := 10) (N := some 57) (v := ?_) (a' := ?_) #[true, true, true, true, true, true, true, true, true, true, true, false, false] rfl rfl (take_ofW HT_.out HW_.out (by kernel_rfl)) (fun _ _ _ h => keep_defer rfl (by decide) h) (Or.inl ⟨by rfl, ?_⟩) hHeld ?_ ?_
    rotate_left
    · intro w' s0
      obtain ⟨s0, s1, s2⟩ := s0
      go_simp
      with_reducible rfl
    rotate_left
    · simp only [Act.put, List.setIfInBounds_toArray, List.set_cons_zero, List.set_cons_succ, i64_w, i32_w]
      rfl
    refine pure_ (i := 11) (N := some 58) (v := ?_) (a' := ?_) #[true, true, true, true, true, true, true, true, true, true, true, true, false] rfl rfl (any_of HT_.out (by kernel_rfl)) (fun _ _ _ h => keep_defer rfl (by decide) h) (Or.inl ⟨by rfl, ?_⟩) ?_ ?_
    rotate_left
    · intro w'
      go_simp
      with_reducible rfl
    rotate_left
    · simp only [Act.put, List.setIfInBounds_toArray, List.set_cons_zero, List.set_cons_succ, i64_w, i32_w]
      rfl
    refine last_ (i := 12) (N := none) #[true, true, true, true, true, true, true, true, true, true, true, true, true] rfl rfl (one_of HT_.out (by kernel_rfl)) (by decide) (fun K hK => ?_)
    refine map_put_step (by rfl) rfl (.tmp 50) (.tmp 52) (.tmp 58) rfl (b := b) (n := ps.length) (y := at_) (c := (ps.length : Int)) rfl rfl rfl HL.out (by have := HPS.out; unfold maxLen; omega) HWA.out (WalkArith.wf_i64 (by have := HPS.out; omega)) ?_
    intro w5 hmap hgrw
    have HQ := Aside0.mk (KeptT.map HQ.out hgrw HL.out)
    have HD := Aside0.mk (show IsDisk w5 w0.heap.size P Q (.slice A0 safe.length c0) (.slice A1 ps.length c1) safe ps from ⟨HD.out.1, S_map HD.out.2.1 HL.out hgrw, S_map HD.out.2.2 HL.out hgrw⟩)
    have BG := Aside0.mk (blk_grown BG.out hgrw (fun e => LMap_ne HL.out BG.out (Option.some.inj e)))
    have BP := Aside0.mk (blk_grown BP.out hgrw (fun e => LMap_ne HL.out BP.out (Option.some.inj e)))
    have HB := Aside0.mk (HB.out.grown hgrw HB.out.size (by intro q hq; cases hq; exact HBB.out))
    have HK := Aside0.mk (keptTrans HK.out (Kept.of_grown hgrw (Kept.refl _ (fun k_ => k_ = b)) (fun k_ e_ => .inl (Option.some.inj e_).symm)) (fun k_ e_ => .inr e_))
    have HL := Aside0.mk hmap
    clear hmap hgrw hHeld
    refine hK.out _ _ ?_
    clear hK K
    refine done_ (done_of HT_.out (by kernel_rfl)) ?_
    try clear hHeld
    go_wp2_with fail
    obtain ⟨N0, hN0⟩ : ∃ N, N = w5.heap.size := ⟨_, rfl⟩
    have HN0 : Aside0 (N0 ≤ w5.heap.size) := ⟨Nat.le_of_eq hN0⟩
    have HDJ := Aside0.mk HD.out.1
    have HS0 := Aside0.mk (Kd.S_mono (Kd.S_bound HD.out.2.1) (ok' := fun q => P q ∧ q < N0) (fun q hq => ⟨hq.1, by have := hq.2.2.1; omega⟩))
    have HS1 := Aside0.mk (Kd.S_mono HD.out.2.2 (ok' := fun q => Q q ∨ N0 ≤ q) (fun q hq => .inl hq))
    clear hN0 HD
    refine start_ (n := 18) (S := fun w' => w'.cell? ⟨g, 3, none⟩ = some (.slice A1 ps.length c1) ∧ w'.cell? ⟨g3, 1, none⟩ = some (.int .i64 at_) ∧ w'.cell? ⟨g3, 2, none⟩ = some (.slice Ad data.length cd)) (ds := [17]) #[false, false, false, false, false, false, false, false, false, false, false, false, false, false, false, false, false, false] (by kernel_rfl) rfl rfl (⟨(blk_cell BG.out 3).trans rfl, (blk_cell BP.out 1).trans rfl, (blk_cell BP.out 2).trans rfl⟩) (fun hHeld => ?_); refine with_tabW impl_doK.tab8 impl_doK.bits8 (fun HT_ HW_ => ?_)
    have BG := Aside0.mk (blk_drew BG.out)
    have BP := Aside0.mk (blk_drew BP.out)
    have HL := Aside0.mk (show LMap _ b (ps.length + 1) (fun z => if z = at_ then some (ps.length : Int) else lastM ps z) from LMap_step HL.out rfl)
    have HB := Aside0.mk (below_drew1 HB.out)
    have HK := Aside0.mk (Kept.drew HK.out)
    have HQ := Aside0.mk (KeptT.drew HQ.out)
    have HS0 := Aside0.mk (Kd.S_drew HS0.out)
    have HS1 := Aside0.mk (Kd.S_drew HS1.out)
    refine pure_ (i := 0) (N := some 59) (v := ?_) (a' := ?_) #[true, false, false, false, false, false, false, false, false, false, false, false, false, false, false, false, false, false] rfl rfl (any_of HT_.out (by kernel_rfl)) (fun _ _ _ h => keep_defer rfl (by decide) h) (Or.inl ⟨by rfl, ?_⟩) ?_ ?_
    rotate_left
    · intro w'
      go_simp
      with_reducible rfl
    rotate_left
    · simp only [Act.put, List.setIfInBounds_toArray, List.set_cons_zero, List.set_cons_succ, i64_w, i32_w]
      rfl
    refine pure_ (i := 1) (N := some 60) (v := ?_) (a' := ?_) #[true, true, false, false, false, false, false, false, false, false, false, false, false, false, false, false, false, false] rfl rfl (any_of HT_.out (by kernel_rfl)) (fun _ _ _ h => keep_defer rfl (by decide) h) (Or.inl ⟨by rfl, ?_⟩) ?_ ?_
    rotate_left
    · intro w'
      go_simp
      with_reducible rfl
    rotate_left
    · simp only [Act.put, List.setIfInBounds_toArray, List.set_cons_zero, List.set_cons_succ, i64_w, i32_w]
      rfl
    refine pure_ (i := 2) (N := some 61) (v := ?_) (a' := ?_) #[true, true, true, false, false, false, false, false, false, false, false, false, false, false, false, false, false, false] rfl rfl (any_of HT_.out (by kernel_rfl)) (fun _ _ _ h => keep_defer rfl (by decide) h) (Or.inl ⟨by rfl, ?_⟩) ?_ ?_
    rotate_left
    · intro w'
      go_simp
      with_reducible rfl
    rotate_left
    · simp only [Act.put, List.setIfInBounds_toArray, List.set_cons_zero, List.set_cons_succ, i64_w, i32_w]
      rfl
    refine pure_ (i := 3) (N := some 62) (v := ?_) (a' := ?_) #[true, true, true, true, false, false, false, false, false, false, false, false, false, false, false, false, false, false] rfl rfl (any_of HT_.out (by kernel_rfl)) (fun _ _ _ h => keep_defer rfl (by decide) h) (Or.inl ⟨by rfl, ?_⟩) ?_ ?_
    rotate_left
    · intro w'
      go_simp
      with_reducible rfl
    rotate_left
    · simp only [Act.put, List.setIfInBounds_toArray, List.set_cons_zero, List.set_cons_succ, i64_w, i32_w]
      rfl
    refine pure_ (i := 4) (N := some 63) (v := ?_) (a' := ?_) #[true, true, true, true, true, false, false, false, false, false, false, false, false, false, false, false, false, false] rfl rfl (any_of HT_.out (by kernel_rfl)) (fun _ _ _ h => keep_defer rfl (by decide) h) (Or.inl ⟨by rfl, ?_⟩) ?_ ?_
    rotate_left
    · intro w'
      go_simp
      with_reducible rfl
    rotate_left
    · simp only [Act.put, List.setIfInBounds_toArray, List.set_cons_zero, List.set_cons_succ, i64_w, i32_w]
      rfl
    refine pure_ (i := 6) (N := some 65) (v := ?_) (a' := ?_) #[true, true, true, true, true, false, true, false, false, false, false, false, false, false, false, false, false, false] rfl rfl (any_of HT_.out (by kernel_rfl)) (fun _ _ _ h => keep_defer rfl (by decide) h) (Or.inl ⟨by rfl, ?_⟩) ?_ ?_
    rotate_left
    · intro w'
      go_simp
      with_reducible rfl
    rotate_left
    · simp only [Act.put, List.setIfInBounds_toArray, List.set_cons_zero, List.set_cons_succ, i64_w, i32_w]
      rfl
    refine pure_ (i := 8) (N := some 67) (v := ?_) (a' := ?_) #[true, true, true, true, true, false, true, false, true, false, false, false, false, false, false, false, false, false] rfl rfl (any_of HT_.out (by kernel_rfl)) (fun _ _ _ h => keep_defer rfl (by decide) h) (Or.inl ⟨by rfl, ?_⟩) ?_ ?_
    rotate_left
    · intro w'
      go_simp
      with_reducible rfl
    rotate_left
    · simp only [Act.put, List.setIfInBounds_toArray, List.set_cons_zero, List.set_cons_succ, i64_w, i32_w]
      rfl
    refine take_ (i := 5) (N := some 64) (v := ?_) (a' := ?_) #[true, true, true, true, true, true, true, false, true, false, false, false, false, false, false, false, false, false] rfl rfl (take_ofW HT_.out HW_.out (by kernel_rfl)) (fun _ _ _ h => keep_defer rfl (by decide) h) (Or.inl ⟨by rfl, ?_⟩) hHeld ?_ ?_
    rotate_left
    · intro w' s0
      obtain ⟨s0, s1, s2⟩ := s0
      go_simp
      with_reducible rfl
    rotate_left
    · simp only [Act.put, List.setIfInBounds_toArray, List.set_cons_zero, List.set_cons_succ, i64_w, i32_w]
      rfl
    refine take_ (i := 7) (N := some 66) (v := ?_) (a' := ?_) #[true, true, true, true, true, true, true, true, true, false, false, false, false, false, false, false, false, false] rfl rfl (take_ofW HT_.out HW_.out (by kernel_rfl)) (fun _ _ _ h => keep_defer rfl (by decide) h) (Or.inl ⟨by rfl, ?_⟩) hHeld ?_ ?_
    rotate_left
    · intro w' s0
      obtain ⟨s0, s1, s2⟩ := s0
      go_simp
      with_reducible rfl
    rotate_left
    · simp only [Act.put, List.setIfInBounds_toArray, List.set_cons_zero, List.set_cons_succ, i64_w, i32_w]
      rfl
    refine take_ (i := 9) (N := some 68) (v := ?_) (a' := ?_) #[true, true, true, true, true, true, true, true, true, true, false, false, false, false, false, false, false, false] rfl rfl (take_ofW HT_.out HW_.out (by kernel_rfl)) (fun _ _ _ h => keep_defer rfl (by decide) h) (Or.inl ⟨by rfl, ?_⟩) hHeld ?_ ?_
    rotate_left
    · intro w' s0
      obtain ⟨s0, s1, s2⟩ := s0
      go_simp
      with_reducible rfl
    rotate_left
    · simp only [Act.put, List.setIfInBounds_toArray, List.set_cons_zero, List.set_cons_succ, i64_w, i32_w]
      rfl
    refine one_ (i := 10) (N := some 69) #[true, true, true, true, true, true, true, true, true, true, true, false, false, false, false, false, false, false] rfl rfl (one_of HT_.out (by kernel_rfl)) (by decide) (fun K hK => ?_)
    refine goes_ Try.func90 (by kernel_rfl) rfl #[.slice Ad data.length cd] (by rfl) rfl rfl (by first | rfl | (simp only [List.map_toArray, List.map_cons, List.map_nil]; first | done | rfl)) ?_
    refine (slices_Clone_byte_byte.calls Ad cd data data _ (HR.out _ HK.out) HC.out (by unfold slices_Clone_byte_byte.f; rw [if_pos (by have := HDL.out; omega)])).mono ?_
    rintro e w6 ⟨v, rfl, ho, hb⟩
    refine ⟨_, rfl, ?_⟩
    have HQ := Aside0.mk (KeptT.below HQ.out hb)
    have HCD := Aside0.mk (Kd.R_lower ho HB.out.size)
    have HCB : Aside0 (∀ q, v.ownBlock = some q → N0 ≤ q) := ⟨fun q hq => Nat.le_trans HN0.out (Kd.R_base ho q hq)⟩
    have HS1 := Aside0.mk (Kd.S_elder' HS1.out (Kd.R_base ho) hb)
    have HS0 := Aside0.mk (Kd.S_below HS0.out hb)
    have HN0 : Aside0 (N0 ≤ w6.heap.size) := ⟨Nat.le_trans HN0.out hb.size⟩
    have BG := Aside0.mk (blk_below BG.out hb)
    have BP := Aside0.mk (blk_below BP.out hb)
    have HL := Aside0.mk (LMap_step HL.out (hb.block b (LMap_lt HL.out)))
    have HB := Aside0.mk (below_step HB.out hb)
    clear hb ho hHeld
    obtain ⟨Ac, cc, rfl⟩ := Kd.R_slice HCD.out
    refine hK.out _ _ (⟨(blk_cell BG.out 3).trans rfl, (blk_cell BP.out 1).trans rfl, (blk_cell BP.out 2).trans rfl⟩) (fun hHeld => ?_)
    clear hK K
    refine norm_ (a' := ?_) ?_ ?_
    rotate_left
    · show Act.put _ (some 69) _ = _
      simp only [Act.put, List.setIfInBounds_toArray, List.set_cons_zero, List.set_cons_succ, i64_w, i32_w]
      rfl
    refine pure_ (i := 11) (N := some 70) (v := ?_) (a' := ?_) #[true, true, true, true, true, true, true, true, true, true, true, true, false, false, false, false, false, false] rfl rfl (any_of HT_.out (by kernel_rfl)) (fun _ _ _ h => keep_defer rfl (by decide) h) (Or.inl ⟨by rfl, ?_⟩) ?_ ?_
    rotate_left
    · intro w'
      go_simp
      with_reducible rfl
    rotate_left
    · simp only [Act.put, List.setIfInBounds_toArray, List.set_cons_zero, List.set_cons_succ, i64_w, i32_w]
      rfl
    refine one_ (i := 12) (N := some 71) #[true, true, true, true, true, true, true, true, true, true, true, true, true, false, false, false, false, false] rfl rfl (one_of HT_.out (by kernel_rfl)) (by decide) (fun K hK => ?_)
    refine value_ (w1 := ?_) (v := ?_) (by rfl) rfl ?_ ?_
    rotate_left 2
    · go_simp
      constructor
      · rfl
      · rfl
    refine hK.out _ _ (⟨(blk_cell (blk_alloc BG.out _) 3).trans rfl, (blk_cell (blk_alloc BP.out _) 1).trans rfl, (blk_cell (blk_alloc BP.out _) 2).trans rfl⟩) (fun hHeld => ?_)
    clear hK K
    refine norm_ (a' := ?_) ?_ ?_
    rotate_left
    · show Act.put _ (some 71) _ = _
      simp only [Act.put, List.setIfInBounds_toArray, List.set_cons_zero, List.set_cons_succ, i64_w, i32_w]
      rfl
    refine one_ (i := 13) (N := some 72) #[true, true, true, true, true, true, true, true, true, true, true, true, true, true, false, false, false, false] rfl rfl (one_of HT_.out (by kernel_rfl)) (by decide) (fun K hK => ?_)
    refine Kd.S_append_step k185 (w0 := w0) w0.heap.size (by rfl) (.tmp 64) (.tmp 71) 42 185 (.agg #[(.int .i64 0), (.slice none 0 0)]) 32 rfl Try.underlying42 info185 rfl (by decide) (by omega) (.slice A1 ps.length c1) ps (⟨at_, data⟩ : S185) [.int .i64 at_, .slice Ac data.length cc] (fun q => Q q ∨ N0 ≤ q) (fun q => some q = (.slice Ac data.length cc : Value).ownBlock) rfl rfl ?aP (fun q hq => ⟨.inr (HCB.out q hq.symm), ((Kd.R_apart' HCD.out (Kd.S_typed HS1.out) (by decide)).1 q hq.symm).2⟩) ?aF ?aO ?aB ?aS ?aL ?_
    (case aP => exact k185_mkM _ _ _ (⟨at_, data⟩ : S185) (Kd.R_tight rfl HCD.out))
    (case aB => exact HB.out)
    (case aF => exact (fun q hq => .inr (Nat.le_trans HN0.out hq)))
    (case aO => exact Kd.S_mono HS1.out (fun q hq => ⟨hq.1, fun e_ => hq.2 e_⟩))
    (case aS => exact HB.out.size)
    (case aL => have := HPS.out; omega)
    intro v7 w7 ho hb hg hat
    have HQ := Aside0.mk (KeptT.row HQ.out hg (Kd.S_typed HS1.out) (by decide))
    have BG := Aside0.mk (blk_grown BG.out hg (Kd.S_ne HS1.out BG.out (by decide)))
    have BP := Aside0.mk (blk_grown BP.out hg (Kd.S_ne HS1.out BP.out (by decide)))
    have HL := Aside0.mk (LMap_step HL.out (hg.block b (LMap_lt HL.out) (LMap_own HL.out HS1.out)))
    have HS0 := Aside0.mk (Kd.S_over' HS0.out (Kd.S_typed HS1.out) (by decide) hg)
    have HN0 : Aside0 (N0 ≤ w7.heap.size) := ⟨Nat.le_trans HN0.out hg.size⟩
    have HS1 := Aside0.mk ho
    have HB := Aside0.mk hb
    clear ho hb hg hat hHeld HCD
    obtain ⟨A6, c6, rfl⟩ := Kd.S_slice HS1.out
    refine hK.out _ _ (⟨(blk_cell BG.out 3).trans rfl, (blk_cell BP.out 1).trans rfl, (blk_cell BP.out 2).trans rfl⟩) (fun hHeld => ?_)
    clear hK K
    refine norm_ (a' := ?_) ?_ ?_
    rotate_left
    · show Act.put _ (some 72) _ = _
      simp only [Act.put, List.setIfInBounds_toArray, List.set_cons_zero, List.set_cons_succ, i64_w, i32_w]
      rfl
    refine pure_ (i := 14) (N := some 73) (v := ?_) (a' := ?_) #[true, true, true, true, true, true, true, true, true, true, true, true, true, true, true, false, false, false] rfl rfl (any_of HT_.out (by kernel_rfl)) (fun _ _ _ h => keep_defer rfl (by decide) h) (Or.inl ⟨by rfl, ?_⟩) ?_ ?_
    rotate_left
    · intro w'
      go_simp
      with_reducible rfl
    rotate_left
    · simp only [Act.put, List.setIfInBounds_toArray, List.set_cons_zero, List.set_cons_succ, i64_w, i32_w]
      rfl
    refine pure_ (i := 15) (N := some 74) (v := ?_) (a' := ?_) #[true, true, true, true, true, true, true, true, true, true, true, true, true, true, true, true, false, false] rfl rfl (any_of HT_.out (by kernel_rfl)) (fun _ _ _ h => keep_defer rfl (by decide) h) (Or.inl ⟨by rfl, ?_⟩) ?_ ?_
    rotate_left
    · intro w'
      go_simp
      with_reducible rfl
    rotate_left
    · simp only [Act.put, List.setIfInBounds_toArray, List.set_cons_zero, List.set_cons_succ, i64_w, i32_w]
      rfl
    refine pure_ (i := 16) (N := some 75) (v := ?_) (a' := ?_) #[true, true, true, true, true, true, true, true, true, true, true, true, true, true, true, true, true, false] rfl rfl (any_of HT_.out (by kernel_rfl)) (fun _ _ _ h => keep_defer rfl (by decide) h) (Or.inl ⟨by rfl, ?_⟩) ?_ ?_
    rotate_left
    · intro w'
      go_simp
      with_reducible rfl
    rotate_left
    · simp only [Act.put, List.setIfInBounds_toArray, List.set_cons_zero, List.set_cons_succ, i64_w, i32_w]
      rfl
    refine last_ (i := 17) (N := none) #[true, true, true, true, true, true, true, true, true, true, true, true, true, true, true, true, true, true] rfl rfl (one_of HT_.out (by kernel_rfl)) (by decide) (fun K hK => ?_)
    refine store_blk_step (by rfl) rfl 42 (.tmp 75) (.tmp 72) rfl (off := 3) (u := .slice A6 (ps ++ [(⟨at_, data⟩ : S185)]).length c6) #[.int .i32 1, .int .u32 0, .slice A0 safe.length c0, .slice A6 (ps ++ [(⟨at_, data⟩ : S185)]).length c6, .map (some b)] rfl rfl BG.out [.slice A6 (ps ++ [(⟨at_, data⟩ : S185)]).length c6] rfl (by kernel_rfl) (Nat.le_of_ble_eq_true rfl) rfl rfl ?_
    intro w10 hblk hgrw
    have HQ := Aside0.mk (KeptT.grown HQ.out hgrw BG.out (by decide))
    have HS1 := Aside0.mk (S_off HS1.out BG.out (by decide) hgrw)
    have HS0 := Aside0.mk (S_off HS0.out BG.out (by decide) hgrw)
    have HL := Aside0.mk (LMap_step HL.out (hgrw.block b (LMap_lt HL.out) (fun e => HGB.out (Option.some.inj e).symm)))
    have HB := Aside0.mk (HB.out.grown hgrw HB.out.size (by intro q hq; cases hq; exact HG.out))
    have BG := Aside0.mk hblk
    clear hblk hgrw hHeld BP
    refine hK.out _ _ ?_
    clear hK K
    refine done_ (done_of HT_.out (by kernel_rfl)) ?_
    try clear hHeld
    have cg0 : w10.cell? ⟨g, 0, none⟩ = some (.int .i32 1) := (blk_cell BG.out 0).trans rfl
    have fg0 := blk_frozen BG.out 0
    have HD := Aside0.mk (show IsDisk w10 w0.heap.size (fun q => P q ∧ q < N0) (fun q => Q q ∨ N0 ≤ q) (.slice A0 safe.length c0) (.slice A6 (ps ++ [(⟨at_, data⟩ : S185)]).length c6) safe (ps ++ [(⟨at_, data⟩ : S185)]) from ⟨fun q h1 h2 => h2.elim (HDJ.out q h1.1) (fun h3 => by have := h1.2; omega), HS0.out, HS1.out⟩)
    have HL := Aside0.mk (show LMap w10 b (ps ++ [(⟨at_, data⟩ : S185)]).length (lastM (ps ++ [(⟨at_, data⟩ : S185)])) from by rw [lastM_snoc, List.length_append]; exact HL.out)
    go_wp2_with fail
    refine leaves_cons (f := 140) (args := #[.pointer (some ⟨g, 0, none⟩)]) (by simp) (by simp [go_sem]) ?_
    refine (Go.MuLone.unlock_deferred muLib ⟨g, 0, none⟩ .returning _ (by first | exact cg0 | simpa using cg0) (by first | exact fg0 | simpa using fg0)).mono ?_
    rintro e u' w'' ⟨rfl, rfl, hw2⟩
    refine ⟨_, results_tmp rfl _ _ _, rfl, ?_⟩
    have hdu := dev_unlock BG.out HD.out HL.out HGB.out HG.out HBB.out HB.out hw2
    exact ⟨hdu.1, hdu.2, by rw [hw2]; exact KeptT.set HQ.out BG.out (by decide) 0 _⟩
  rw [if_neg k1] at hdo
  have e1 : (kind == 1) = false := beq_eq_false_iff_ne.mpr k1
  clear k1
  by_cases k2 : kind = 2
  case neg =>
    rw [if_neg k2] at hdo
    have e2 : (kind == 2) = false := beq_eq_false_iff_ne.mpr k2
    clear k2
    obtain ⟨⟨rfl, rfl⟩, rfl⟩ : (safe = sf ∧ ps = pf) ∧ false = rf := by simpa using hdo
    clear hdo
    go_wp2_with fail
    refine leaves_cons (f := 140) (args := #[.pointer (some ⟨g, 0, none⟩)]) (by simp) (by simp [go_sem]) ?_
    refine (Go.MuLone.unlock_deferred muLib ⟨g, 0, none⟩ .returning _ (by first | exact cg0 | simpa using cg0) (by first | exact fg0 | simpa using fg0)).mono ?_
    rintro e u' w'' ⟨rfl, rfl, hw2⟩
    refine ⟨_, results_tmp rfl _ _ _, rfl, ?_⟩
    have hdu := dev_unlock BG.out HD.out HL.out HGB.out HG.out HBB.out HB.out hw2
    exact ⟨hdu.1, hdu.2, by rw [hw2]; exact KeptT.set HQ.out BG.out (by decide) 0 _⟩
  rw [if_pos k2] at hdo
  have e2 : (kind == 2) = true := beq_iff_eq.mpr k2
  clear k2
  by_cases h0 : at_ = 0
  case neg =>
    rw [if_neg h0] at hdo
    have d0 : (at_ != 0) = true := bne_iff_ne.mpr h0
    have d1 : (at_ == 0) = false := beq_eq_false_iff_ne.mpr h0
    clear h0
    obtain ⟨⟨rfl, rfl⟩, rfl⟩ : (safe = sf ∧ ps = pf) ∧ false = rf := by simpa using hdo
    clear hdo
    go_wp2_with fail
    refine leaves_cons (f := 140) (args := #[.pointer (some ⟨g, 0, none⟩)]) (by simp) (by simp [go_sem]) ?_
    refine (Go.MuLone.unlock_deferred muLib ⟨g, 0, none⟩ .returning _ (by first | exact cg0 | simpa using cg0) (by first | exact fg0 | simpa using fg0)).mono ?_
    rintro e u' w'' ⟨rfl, rfl, hw2⟩
    refine ⟨_, results_tmp rfl _ _ _, rfl, ?_⟩
    have hdu := dev_unlock BG.out HD.out HL.out HGB.out HG.out HBB.out HB.out hw2
    exact ⟨hdu.1, hdu.2, by rw [hw2]; exact KeptT.set HQ.out BG.out (by decide) 0 _⟩
  rw [if_pos h0] at hdo
  have d0 : (at_ != 0) = false := bne_eq_false_iff_eq.mpr h0
  have d1 : (at_ == 0) = true := beq_iff_eq.mpr h0
  clear h0
  by_cases h1 : data.length = 0
  case neg =>
    rw [if_neg h1] at hdo
    have d2 : decide (0 < (data.length : Int)) = true := decide_eq_true (by omega)
    have d3 : decide (0 < data.length) = true := decide_eq_true (by omega)
    clear h1
    obtain ⟨⟨rfl, rfl⟩, rfl⟩ : (safe = sf ∧ ps = pf) ∧ false = rf := by simpa using hdo
    clear hdo
    go_wp2_with fail
    refine leaves_cons (f := 140) (args := #[.pointer (some ⟨g, 0, none⟩)]) (by simp) (by simp [go_sem]) ?_
    refine (Go.MuLone.unlock_deferred muLib ⟨g, 0, none⟩ .returning _ (by first | exact cg0 | simpa using cg0) (by first | exact fg0 | simpa using fg0)).mono ?_
    rintro e u' w'' ⟨rfl, rfl, hw2⟩
    refine ⟨_, results_tmp rfl _ _ _, rfl, ?_⟩
    have hdu := dev_unlock BG.out HD.out HL.out HGB.out HG.out HBB.out HB.out hw2
    exact ⟨hdu.1, hdu.2, by rw [hw2]; exact KeptT.set HQ.out BG.out (by decide) 0 _⟩
  rw [if_pos h1] at hdo
  have d2 : decide (0 < (data.length : Int)) = false := decide_eq_false (by omega)
  have d3 : decide (0 < data.length) = false := decide_eq_false (by omega)
  clear h1
  obtain ⟨⟨rfl, rfl⟩, rfl⟩ : (syncL safe ps = sf ∧ [] = pf) ∧ true = rf := by simpa using hdo
  clear hdo
  obtain ⟨f, HT0⟩ := HD.out.2.2
  have HT := Aside0.mk HT0
  have HS := Aside0.mk HD.out.2.1
  have HDJ := Aside0.mk HD.out.1
  clear HT0 HD
  go_wp2_with fail
  go_loopg [93] ps.length (fun gk v93 w' => ∃ x : Int, v93 = .int .i64 x ∧ Aside0 (0 ≤ x ∧ (gk : Int) + x = (ps.length : Int)) ∧ Aside0 (Kd.S (Kd.slice 5 (Kd.int .u8)) 22 w' w0.heap.size (fun q => P q ∨ (Q q ∧ f q < x.toNat ∧ some q ≠ (.slice A1 ps.length c1 : Value).ownBlock)) (.slice A0 safe.length c0) (syncL safe (ps.take x.toNat))) ∧ Aside0 ((Kd.tag f k185).R 185 w' w0.heap.size Q (.slice A1 ps.length c1) ps.zipIdx) ∧
    Aside0 (w'.heap[g]? = some (.cells #[.int .i32 1, .int .u32 0, .slice A0 safe.length c0, .slice A1 ps.length c1, .map (some b)] 159 (0, 0))) ∧ Aside0 (LMap w' b ps.length (lastM ps)) ∧ Aside0 (Below w0.heap.size w0 w') ∧ Aside0 (KeptT w w'))
  case atStart =>
    exact ⟨0, rfl, ⟨by omega⟩, ⟨Kd.S_mono HS.out (ok' := fun q => P q ∨ (Q q ∧ f q < (0 : Int).toNat ∧ some q ≠ (.slice A1 ps.length c1 : Value).ownBlock)) (fun q hq => Or.inl hq)⟩, HT, BG, HL, HB, HQ⟩
  case round =>
    clear HS HT BG HL HB HQ cg0 cg1 cg2 cg3 cg4 cp0 cp1 cp2 fg0 d0 d1 d2 d3
    obtain ⟨x, rfl, HXK, HS, HT, BG, HL, HB, HQ⟩ := hrel
    cases gk with
    | zero =>
      have hx : x = (ps.length : Int) := by have := HXK.out; omega
      subst hx
      have c4b0 : decide ((ps.length : Int) < (ps.length : Int)) = false := decide_eq_false (by omega)
      have hs := HS.out
      rw [Int.toNat_natCast, List.take_length] at hs
      have HS0 := Aside0.mk hs
      clear hs HS HT
      have cg0 : wr.cell? ⟨g, 0, none⟩ = some (.int .i32 1) := (blk_cell BG.out 0).trans rfl
      have cg1 : wr.cell? ⟨g, 1, none⟩ = some (.int .u32 0) := (blk_cell BG.out 1).trans rfl
      have cg2 : wr.cell? ⟨g, 2, none⟩ = some (.slice A0 safe.length c0) := (blk_cell BG.out 2).trans rfl
      have cg3 : wr.cell? ⟨g, 3, none⟩ = some (.slice A1 ps.length c1) := (blk_cell BG.out 3).trans rfl
      have cg4 : wr.cell? ⟨g, 4, none⟩ = some (.map (some b)) := (blk_cell BG.out 4).trans rfl
      have fg0 := blk_frozen BG.out 0
      go_wp2_with (first | ((with_reducible refine gate_ (.store 42 (.tmp 111) (.const (.slice none 0 0))) rfl ?_); refine store_blk rfl rfl 42 (.tmp 111) (.const (.slice none 0 0)) rfl (off := 3) (u := .slice none 0 0) #[.int .i32 1, .int .u32 0, .slice A0 safe.length c0, .slice none 0 0, .map (some b)] rfl rfl BG.out [.slice none 0 0] rfl (by kernel_rfl) (Nat.le_of_ble_eq_true rfl) rfl rfl ?_; intro w8 hblk hgrw; have HQ := Aside0.mk (KeptT.grown HQ.out hgrw BG.out (by decide)); have HS0 := Aside0.mk (S_off HS0.out BG.out (by decide) hgrw); have HL := Aside0.mk (LMap_step HL.out (hgrw.block b (LMap_lt HL.out) (fun e => HGB.out (Option.some.inj e).symm))); have HB := Aside0.mk (HB.out.grown hgrw HB.out.size (by intro q hq; cases hq; exact HG.out)); have BG := Aside0.mk hblk; have cg4 : w8.cell? ⟨g, 4, none⟩ = some (.map (some b)) := (blk_cell BG.out 4).trans rfl; obtain ⟨w9, hclr, hmap, hgm⟩ := LMap_clear HL.out 0; have HQ := Aside0.mk (KeptT.map HQ.out hgm HL.out); have HS0 := Aside0.mk (S_map HS0.out HL.out hgm); have BG := Aside0.mk (blk_grown BG.out hgm (fun e => HGB.out (Option.some.inj e))); have HB := Aside0.mk (HB.out.grown hgm HB.out.size (by intro q hq; cases hq; exact HBB.out)); have HL := Aside0.mk hmap; clear hblk hgrw hmap hgm))
      have cg0 : w9.cell? ⟨g, 0, none⟩ = some (.int .i32 1) := (blk_cell BG.out 0).trans rfl
      have fg0 := blk_frozen BG.out 0
      have hsl2 : (syncL safe ps).length = safe.length := syncL_length _ _
      have BG : Aside0 (w9.heap[g]? = some (.cells #[.int .i32 1, .int .u32 0, .slice A0 (syncL safe ps).length c0, .slice none ([] : List S185).length 0, .map (some b)] 159 (0, 0))) := ⟨by rw [hsl2]; exact BG.out⟩
      have HD := Aside0.mk (show IsDisk w9 w0.heap.size _ (fun _ => False) (.slice A0 (syncL safe ps).length c0) (.slice none ([] : List S185).length 0) (syncL safe ps) [] from ⟨fun _ _ h => h, by rw [hsl2]; exact HS0.out, Kd.S_nil _ _ _ _ _⟩)
      have HL := Aside0.mk (show LMap w9 b ([] : List S185).length (lastM []) from HL.out)
      clear hsl2
      refine leaves_cons (f := 140) (args := #[.pointer (some ⟨g, 0, none⟩)]) (by simp) (by simp [go_sem]) ?_
      refine (Go.MuLone.unlock_deferred muLib ⟨g, 0, none⟩ .returning _ (by first | exact cg0 | simpa using cg0) (by first | exact fg0 | simpa using fg0)).mono ?_
      rintro e u' w'' ⟨rfl, rfl, hw2⟩
      refine ⟨_, results_tmp rfl _ _ _, rfl, ?_⟩
      have hdu := dev_unlock BG.out HD.out HL.out HGB.out HG.out HBB.out HB.out hw2
      exact ⟨hdu.1, hdu.2, by rw [hw2]; exact KeptT.set HQ.out BG.out (by decide) 0 _⟩
    | succ gk =>
      have p0 : 0 ≤ x := HXK.out.1
      have q0 : x < (ps.length : Int) := by have := HXK.out; omega
      have c4b0 : decide (x < (ps.length : Int)) = true := decide_eq_true q0
      have c4b1 : decide (0 ≤ x) = true := decide_eq_true p0
      obtain ⟨gq, cq, eq, eqr⟩ := Kd.R_form HT.out (by rw [List.length_zipIdx]; omega)
      injection eq with eq1 eq2 eq3
      clear eq2 eq3 eqr
      obtain ⟨ad, had⟩ : ∃ ad : Addr, A1 = some ad := ⟨_, eq1⟩
      subst had
      obtain ⟨c, hcl, hM, hcc⟩ := Kd.R_getA HT.out (z185, 0) x p0 (by omega)
      have hze : ps.zipIdx.getD x.toNat (z185, 0) = (rd_T185 ps x, x.toNat) := by
        have hq : x.toNat < ps.length := by omega
        simp [rd_T185, List.getD_eq_getElem?_getD, List.getElem?_zipIdx, List.getElem?_eq_getElem hq]
      rw [hze] at hM
      obtain ⟨ve, hce, hE⟩ := k185_openM hM
      obtain ⟨Ae, ce, rfl⟩ := Kd.R_slice hE
      have hx0 : wr.cell? (ad.add (x.toNat * 2)) = some (.int .i64 (rd_T185 ps x).f0) := hcc 0 _ (by rw [hce]; rfl)
      have hx1 : wr.cell? ⟨(ad.add (x.toNat * 2)).block, (ad.add (x.toNat * 2)).off + 1, none⟩ = some (.slice Ae (rd_T185 ps x).f1.length ce) := by
        have h1 := hcc 1 _ (by rw [hce]; rfl)
        obtain ⟨gz, rfl⟩ := Kd.R_head HT.out
        have e2 : ((⟨gz, 0, none⟩ : Addr).add (x.toNat * (Kd.tag f k185).sz + 1)) = ⟨((⟨gz, 0, none⟩ : Addr).add (x.toNat * 2)).block, ((⟨gz, 0, none⟩ : Addr).add (x.toNat * 2)).off + 1, none⟩ := by
          rw [add_at, add_at]
          rfl
        rw [← e2]
        exact h1
      have HE := Aside0.mk (Kd.R_tight rfl hE)
      have HEO : Aside0 (∀ q, some q = (.slice Ae (rd_T185 ps x).f1.length ce : Value).ownBlock → (Q q ∧ some q ≠ (.slice (some ad) ps.length c1 : Value).ownBlock) ∧ f q = x.toNat) := ⟨fun q hq => hE.1 q hq.symm⟩
      have hpr := HRG.out _ (getD_mem (z := z185) p0 q0)
      have HPR := Aside0.mk (show 0 ≤ (rd_T185 ps x).f0 ∧ (rd_T185 ps x).f0 < (safe.length : Int) from hpr)
      have hsl2 : (syncL safe (ps.take x.toNat)).length = safe.length := syncL_length _ _
      obtain ⟨gs, cs, es, esr⟩ := Kd.S_form HS.out (by rw [hsl2]; have := hpr; omega)
      injection es with es1 es2 es3
      clear es2 es3 esr
      subst es1
      have HP0 := Aside0.mk p0
      have HQ0 := Aside0.mk q0
      have HSN := Aside0.mk hsl2
      clear hcl hM hcc hze hce hE hpr hsl2 eq1
      replace p0 := eq_true p0
      replace q0 := eq_true q0
      have cg0 : wr.cell? ⟨g, 0, none⟩ = some (.int .i32 1) := (blk_cell BG.out 0).trans rfl
      have cg1 : wr.cell? ⟨g, 1, none⟩ = some (.int .u32 0) := (blk_cell BG.out 1).trans rfl
      have cg2 : wr.cell? ⟨g, 2, none⟩ = some (.slice (some ⟨gs, 0, none⟩) safe.length c0) := (blk_cell BG.out 2).trans rfl
      have cg3 : wr.cell? ⟨g, 3, none⟩ = some (.slice (some ad) ps.length c1) := (blk_cell BG.out 3).trans rfl
      have cg4 : wr.cell? ⟨g, 4, none⟩ = some (.map (some b)) := (blk_cell BG.out 4).trans rfl
      have fg0 := blk_frozen BG.out 0
      go_wp2_with (first | ((with_reducible refine gate_dst (N := 6) rfl ?_); refine box_event ?hg (N := 6) ?hd (cs := #[.int .i64 0, .slice none 0 0]) (t := 185) ?hr ?_; (case hd => rfl); (case hg => rfl); (case hr => first | (go_simp; done) | (go_simp; rfl)); intro gp hgr w4 hbox hbel; have BE := Aside0.mk hbox; have HQ := Aside0.mk (KeptT.below HQ.out hbel); have GP := Aside0.mk hgr; have GPw : Aside0 (w0.heap.size ≤ gp) := ⟨by rw [hgr]; exact HB.out.size⟩; have HT := Aside0.mk (Kd.R_mono (Kd.R_below (Kd.R_bound HT.out) hbel) (ok' := fun q => Q q ∧ q ≠ gp) (fun q hq => ⟨hq.1, by have := hq.2.2.1; omega⟩)); have HS := Aside0.mk (Kd.S_below HS.out hbel); have HE := Aside0.mk (Kd.R_below HE.out hbel); have BG := Aside0.mk (blk_below BG.out hbel); have HL := Aside0.mk (LMap_step HL.out (hbel.block b (LMap_lt HL.out))); have HB := Aside0.mk (below_step HB.out hbel); clear hbox hbel hgr) | ((with_reducible refine gate_ (.store 185 (.tmp 6) (.tmp 96)) rfl ?_); refine store_blk rfl rfl 185 (.tmp 6) (.tmp 96) rfl (off := 0) (u := .agg #[.int .i64 (rd_T185 ps x).f0, .slice Ae (rd_T185 ps x).f1.length ce]) #[.int .i64 (rd_T185 ps x).f0, .slice Ae (rd_T185 ps x).f1.length ce] rfl rfl BE.out [.int .i64 (rd_T185 ps x).f0, .slice Ae (rd_T185 ps x).f1.length ce] rfl (by kernel_rfl) (Nat.le_of_ble_eq_true rfl) rfl rfl ?_; intro w5 hblk hgrw; have HQ := Aside0.mk (KeptT.grown HQ.out hgrw BE.out (by decide)); have HT := Aside0.mk (Kd.R_mono (Kd.R_grown HT.out hgrw (fun q hq e => hq.2 (Option.some.inj e))) (ok' := Q) (fun q hq => hq.1)); have HS := Aside0.mk (S_off HS.out BE.out (by decide) hgrw); have HE := Aside0.mk (R_off HE.out BE.out (by decide) hgrw); have BG := Aside0.mk (blk_off BG.out BE.out (by decide) hgrw); have HL := Aside0.mk (LMap_step HL.out (hgrw.block b (LMap_lt HL.out) (fun e => LMap_ne HL.out BE.out (Option.some.inj e).symm))); have HB := Aside0.mk (HB.out.grown hgrw HB.out.size (by intro q hq; cases hq; exact GPw.out)); have BE := Aside0.mk hblk; clear hblk hgrw))
      have r0 : 0 ≤ (rd_T185 ps x).f0 := HPR.out.1
      have r1 : (rd_T185 ps x).f0 < (safe.length : Int) := HPR.out.2
      have r2 : decide ((rd_T185 ps x).f0 < (safe.length : Int)) = true := decide_eq_true r1
      have r3 : decide (0 ≤ (rd_T185 ps x).f0) = true := decide_eq_true r0
      have HR0 := Aside0.mk r0
      have HR1 := Aside0.mk r1
      replace r0 := eq_true r0
      replace r1 := eq_true r1
      refine start_ (n := 11) (S := fun w' => w'.cell? ⟨g, 2, none⟩ = some (.slice (some ⟨gs, 0, none⟩) safe.length c0) ∧ w'.cell? ⟨gp, 0, none⟩ = some (.int .i64 (rd_T185 ps x).f0) ∧ w'.cell? ⟨gp, 1, none⟩ = some (.slice Ae (rd_T185 ps x).f1.length ce)) (ds := [10]) #[false, false, false, false, false, false, false, false, false, false, false] (by kernel_rfl) rfl rfl (⟨(blk_cell BG.out 2).trans rfl, (blk_cell BE.out 0).trans rfl, (blk_cell BE.out 1).trans rfl⟩) (fun hHeld => ?_); refine with_tabW impl_doK.tab16 impl_doK.bits16 (fun HT_ HW_ => ?_)
      have HQ := Aside0.mk (KeptT.drew HQ.out)
      have BG := Aside0.mk (blk_drew BG.out)
      have HL := Aside0.mk (show LMap _ b ps.length (lastM ps) from LMap_step HL.out rfl)
      have HB := Aside0.mk (below_drew1 HB.out)
      have HT := Aside0.mk (Kd.R_drew HT.out)
      have HS := Aside0.mk (Kd.S_drew HS.out)
      have HE := Aside0.mk (Kd.R_drew HE.out)
      refine pure_ (i := 0) (N := some 97) (v := ?_) (a' := ?_) #[true, false, false, false, false, false, false, false, false, false, false] rfl rfl (any_of HT_.out (by kernel_rfl)) (fun _ _ _ h => keep_defer rfl (by decide) h) (Or.inl ⟨by rfl, ?_⟩) ?_ ?_
      rotate_left
      · intro w'
        go_simp
        with_reducible rfl
      rotate_left
      · simp only [Act.put, List.setIfInBounds_toArray, List.set_cons_zero, List.set_cons_succ, i64_w, i32_w]
        rfl
      refine pure_ (i := 1) (N := some 98) (v := ?_) (a' := ?_) #[true, true, false, false, false, false, false, false, false, false, false] rfl rfl (any_of HT_.out (by kernel_rfl)) (fun _ _ _ h => keep_defer rfl (by decide) h) (Or.inl ⟨by rfl, ?_⟩) ?_ ?_
      rotate_left
      · intro w'
        go_simp
        with_reducible rfl
      rotate_left
      · simp only [Act.put, List.setIfInBounds_toArray, List.set_cons_zero, List.set_cons_succ, i64_w, i32_w]
        rfl
      refine pure_ (i := 2) (N := some 99) (v := ?_) (a' := ?_) #[true, true, true, false, false, false, false, false, false, false, false] rfl rfl (any_of HT_.out (by kernel_rfl)) (fun _ _ _ h => keep_defer rfl (by decide) h) (Or.inl ⟨by rfl, ?_⟩) ?_ ?_
      rotate_left
      · intro w'
        go_simp
        with_reducible rfl
      rotate_left
      · simp only [Act.put, List.setIfInBounds_toArray, List.set_cons_zero, List.set_cons_succ, i64_w, i32_w]
        rfl
      refine pure_ (i := 3) (N := some 100) (v := ?_) (a' := ?_) #[true, true, true, true, false, false, false, false, false, false, false] rfl rfl (any_of HT_.out (by kernel_rfl)) (fun _ _ _ h => keep_defer rfl (by decide) h) (Or.inl ⟨by rfl, ?_⟩) ?_ ?_
      rotate_left
      · intro w'
        go_simp
        with_reducible rfl
      rotate_left
      · simp only [Act.put, List.setIfInBounds_toArray, List.set_cons_zero, List.set_cons_succ, i64_w, i32_w]
        rfl
      refine pure_ (i := 5) (N := some 102) (v := ?_) (a' := ?_) #[true, true, true, true, false, true, false, false, false, false, false] rfl rfl (any_of HT_.out (by kernel_rfl)) (fun _ _ _ h => keep_defer rfl (by decide) h) (Or.inl ⟨by rfl, ?_⟩) ?_ ?_
      rotate_left
      · intro w'
        go_simp
        with_reducible rfl
      rotate_left
      · simp only [Act.put, List.setIfInBounds_toArray, List.set_cons_zero, List.set_cons_succ, i64_w, i32_w]
        rfl
      refine pure_ (i := 7) (N := some 104) (v := ?_) (a' := ?_) #[true, true, true, true, false, true, false, true, false, false, false] rfl rfl (any_of HT_.out (by kernel_rfl)) (fun _ _ _ h => keep_defer rfl (by decide) h) (Or.inl ⟨by rfl, ?_⟩) ?_ ?_
      rotate_left
      · intro w'
        go_simp
        with_reducible rfl
      rotate_left
      · simp only [Act.put, List.setIfInBounds_toArray, List.set_cons_zero, List.set_cons_succ, i64_w, i32_w]
        rfl
      refine take_ (i := 4) (N := some 101) (v := ?_) (a' := ?_) #[true, true, true, true, true, true, false, true, false, false, false] rfl rfl (take_ofW HT_.out HW_.out (by kernel_rfl)) (fun _ _ _ h => keep_defer rfl (by decide) h) (Or.inl ⟨by rfl, ?_⟩) hHeld ?_ ?_
      rotate_left
      · intro w' s0
        obtain ⟨s0, s1, s2⟩ := s0
        go_simp
        with_reducible rfl
      rotate_left
      · simp only [Act.put, List.setIfInBounds_toArray, List.set_cons_zero, List.set_cons_succ, i64_w, i32_w]
        rfl
      refine take_ (i := 6) (N := some 103) (v := ?_) (a' := ?_) #[true, true, true, true, true, true, true, true, false, false, false] rfl rfl (take_ofW HT_.out HW_.out (by kernel_rfl)) (fun _ _ _ h => keep_defer rfl (by decide) h) (Or.inl ⟨by rfl, ?_⟩) hHeld ?_ ?_
      rotate_left
      · intro w' s0
        obtain ⟨s0, s1, s2⟩ := s0
        go_simp
        with_reducible rfl
      rotate_left
      · simp only [Act.put, List.setIfInBounds_toArray, List.set_cons_zero, List.set_cons_succ, i64_w, i32_w]
        rfl
      refine take_ (i := 8) (N := some 105) (v := ?_) (a' := ?_) #[true, true, true, true, true, true, true, true, true, false, false] rfl rfl (take_ofW HT_.out HW_.out (by kernel_rfl)) (fun _ _ _ h => keep_defer rfl (by decide) h) (Or.inl ⟨by rfl, ?_⟩) hHeld ?_ ?_
      rotate_left
      · intro w' s0
        obtain ⟨s0, s1, s2⟩ := s0
        go_simp
        with_reducible rfl
      rotate_left
      · simp only [Act.put, List.setIfInBounds_toArray, List.set_cons_zero, List.set_cons_succ, i64_w, i32_w]
        rfl
      refine pure_ (i := 9) (N := some 106) (v := ?_) (a' := ?_) #[true, true, true, true, true, true, true, true, true, true, false] rfl rfl (any_of HT_.out (by kernel_rfl)) (fun _ _ _ h => keep_defer rfl (by decide) h) (Or.inl ⟨by rfl, ?_⟩) ?_ ?_
      rotate_left
      · intro w'
        go_simp
        with_reducible rfl
      rotate_left
      · simp only [Act.put, List.setIfInBounds_toArray, List.set_cons_zero, List.set_cons_succ, i64_w, i32_w]
        rfl
      refine last_ (i := 10) (N := none) #[true, true, true, true, true, true, true, true, true, true, true] rfl rfl (one_of HT_.out (by kernel_rfl)) (by decide) (fun K hK => ?_)
      refine S_put_step (base := w0.heap.size) (g := gs) (n := safe.length) (cap := c0) (by rfl) rfl 22 (.tmp 106) (.tmp 105) rfl (rd_T185 ps x).f0 (syncL safe (ps.take x.toNat)) (rd_T185 ps x).f1 (.slice Ae (rd_T185 ps x).f1.length ce) _ (fun q => some q = (.slice Ae (rd_T185 ps x).f1.length ce : Value).ownBlock) (by first | rfl | simp [Act.eval, Addr.add, *]) rfl rfl (by kernel_rfl) rfl HS.out HR0.out (by have := HR1.out; omega) HE.out (fun q hq h => by have h2 := HEO.out q hq; rcases h with h | h; exact HDJ.out q h h2.1.1; have := h.2.1; omega) ?_
      intro w7 hs hgrw
      obtain ⟨cells, hcs⟩ := Kd.S_typed HS.out gs rfl
      have HQ := Aside0.mk (KeptT.grown HQ.out hgrw hcs (by decide))
      have HT := Aside0.mk (R_off HT.out hcs (show ∀ q, q ∈ [185, 5] → q ≠ 22 by decide) hgrw)
      have BG := Aside0.mk (blk_off BG.out hcs (by decide) hgrw)
      have HL := Aside0.mk (LMap_step HL.out (hgrw.block b (LMap_lt HL.out) (fun e => LMap_ne HL.out hcs (Option.some.inj e).symm)))
      have HB := Aside0.mk (HB.out.grown hgrw HB.out.size (by intro q hq; cases hq; exact Kd.S_base HS.out gs rfl))
      have HS := Aside0.mk (Kd.S_mono hs (ok' := fun q => P q ∨ (Q q ∧ f q < (x + 1).toNat ∧ some q ≠ (.slice (some ad) ps.length c1 : Value).ownBlock)) (fun q hq => by
        have := HP0.out
        rcases hq with (hq | hq) | hq
        · exact .inl hq
        · exact .inr ⟨hq.1, by have := hq.2.1; omega, hq.2.2⟩
        · have h2 := HEO.out q hq
          exact .inr ⟨h2.1.1, by omega, h2.1.2⟩))
      clear hs hgrw hcs hHeld HE
      refine hK.out _ _ ?_
      clear hK K
      refine done_ (done_of HT_.out (by kernel_rfl)) ?_
      try clear hHeld
      go_wp2_with fail
      go_roundg gk
      case measure => omega
      case rel =>
        have hw1 : wrap64 (x + 1) = x + 1 := by have := HP0.out; have := HQ0.out; have := HPS.out; unfold wrap64; omega
        exact ⟨x + 1, by first | rfl | (rw [hw1]), ⟨by have := HXK.out; omega⟩, ⟨by rw [take_snoc (z := z185) HP0.out HQ0.out, syncL_snoc]; exact HS.out⟩, HT, BG, HL, HB, HQ⟩
end Go.Proofs.Ytlopmffdebhpfaa.G

/-! ## Fmt -/
namespace Go.Proofs.Ytlopmffdebhpfaa.G
open Go.RowKit Go.Proofs.YtlopmffdebhpfaaW.PrintWords Go.Proofs.YtlopmffdebhpfaaW.PrintLast Go.Proofs.YtlopmffdebhpfaaW.PrintMore
set_option linter.unusedVariables false
set_option linter.unusedSimpArgs false
attribute [local go_sem] max2_int min2_int max_two min_two max_three min_three max_four min_four
/-- Ops one after the other, whatever each answers. -/
def playA (ops : List S63) (d : List (List Int) × List S185) : List (List Int) × List S185 := ops.foldl (fun d o => (doV d.1 d.2 o.f0 o.f1 o.f2).1) d
set_option maxHeartbeats 8000000 in
set_option maxRecDepth 100000 in
theorem impl_Format.early (pages : Int) (w : World) (hp : pages < 8 ∨ 1024 < pages) :
    Calls Try.prog 49 #[.int .i64 pages] w fun e w' => e = .returned (.tuple #[.agg #[.slice none 0 0, .slice none 0 0], .bool false]) ∧ Below w.heap.size w w' := by
  have hu44 := Try.underlying44
  go_enter Try.func49, Try.ntmps49
  by_cases h8 : pages < 8
  · have d0 : decide (pages < 8) = true := decide_eq_true h8
    clear hp
    go_wp2_with (first | ((with_reducible refine gate_dst (N := 2) rfl ?_); refine box_event ?hg (N := 2) ?hd (cs := #[.slice none 0 0, .slice none 0 0]) (t := 44) ?hr ?_; (case hd => rfl); (case hg => rfl); (case hr => first | (go_simp; done) | (go_simp; rfl)); intro g2 hgr w1 hbox hbel; have B2 := Aside0.mk hbox; have G2w : Aside0 (w.heap.size ≤ g2) := ⟨by rw [hgr]; exact Nat.le_refl _⟩; have HB := Aside0.mk hbel; clear hbox hbel hgr) | ((with_reducible refine gate_ (.store 44 (.tmp 2) (.tmp 17)) rfl ?_); refine store_blk rfl rfl 44 (.tmp 2) (.tmp 17) rfl (off := 0) (u := .agg #[.slice none 0 0, .slice none 0 0]) #[.slice none 0 0, .slice none 0 0] rfl rfl B2.out [.slice none 0 0, .slice none 0 0] rfl (by kernel_rfl) (Nat.le_of_ble_eq_true rfl) rfl rfl ?_; intro w9 hblk hgrw; have HB := Aside0.mk (HB.out.grown hgrw HB.out.size (by intro q hq; cases hq; exact G2w.out)); have B2 := Aside0.mk hblk; clear hblk hgrw))
    refine bodyPost_ret (results_cell_slot rfl _ _ g2 44 #[.slice none 0 0, .slice none 0 0] (0, 0) _ _ rfl rfl B2.out Try.underlying44 rfl (by kernel_rfl)) rfl ?_
    exact ⟨rfl, HB.out⟩
  · have d0 : decide (pages < 8) = false := decide_eq_false h8
    have d1 : decide (1024 < pages) = true := decide_eq_true (by omega)
    clear hp
    go_wp2_with (first | ((with_reducible refine gate_dst (N := 2) rfl ?_); refine box_event ?hg (N := 2) ?hd (cs := #[.slice none 0 0, .slice none 0 0]) (t := 44) ?hr ?_; (case hd => rfl); (case hg => rfl); (case hr => first | (go_simp; done) | (go_simp; rfl)); intro g2 hgr w1 hbox hbel; have B2 := Aside0.mk hbox; have G2w : Aside0 (w.heap.size ≤ g2) := ⟨by rw [hgr]; exact Nat.le_refl _⟩; have HB := Aside0.mk hbel; clear hbox hbel hgr) | ((with_reducible refine gate_ (.store 44 (.tmp 2) (.tmp 17)) rfl ?_); refine store_blk rfl rfl 44 (.tmp 2) (.tmp 17) rfl (off := 0) (u := .agg #[.slice none 0 0, .slice none 0 0]) #[.slice none 0 0, .slice none 0 0] rfl rfl B2.out [.slice none 0 0, .slice none 0 0] rfl (by kernel_rfl) (Nat.le_of_ble_eq_true rfl) rfl rfl ?_; intro w9 hblk hgrw; have HB := Aside0.mk (HB.out.grown hgrw HB.out.size (by intro q hq; cases hq; exact G2w.out)); have B2 := Aside0.mk hblk; clear hblk hgrw))
    refine bodyPost_ret (results_cell_slot rfl _ _ g2 44 #[.slice none 0 0, .slice none 0 0] (0, 0) _ _ rfl rfl B2.out Try.underlying44 rfl (by kernel_rfl)) rfl ?_
    exact ⟨rfl, HB.out⟩
/-- A new disk's sectors and its empty row of writes are apart. -/
theorem new_apart {w : World} {base : Nat} {v0 v1 : Value} {safe : List (List Int)} (h0 : Kd.S (Kd.slice 5 (Kd.int .u8)) 22 w base (fun _ => True) v0 safe) (h1 : Kd.S k185 185 w base (fun _ => True) v1 []) : ∃ P Q, IsDisk w base P Q v0 v1 safe [] := by
  refine ⟨_, _, fun q hq hq2 => ?_, Kd.S_bound h0, S_nil_own h1⟩
  obtain ⟨_, _, _, t, ht, cs, hc⟩ := hq
  obtain ⟨cs2, hc2⟩ := Kd.S_typed h1 q hq2.symm
  have e := blk_type hc hc2
  simp [Kd.slice, Kd.int, Kd.scalar] at ht
  omega
theorem S_keptT {w w1 : World} {base : Nat} {ok : Nat → Prop} {v : Value} {xs : List S63} (h : Kd.S k63 63 w base ok v xs) (hk : KeptT w w1) : Kd.S k63 63 w1 base ok v xs :=
  Kd.S_mono (Kd.S_step (Kd.S_bound h) (fun q hq _ => by
    obtain ⟨_, _, _, t, ht, cs, hc⟩ := hq
    rw [hc]
    exact hk q cs t (0, 0) hc (by simp [k63, Kd.iso, Kd.pair, Kd.slice, Kd.int, Kd.scalar] at ht; omega))) (fun _ hq => hq.1)
theorem lend63c {W : World} {base g n cap : Nat} {P : Nat → Prop} {xs : List S63} {x : Int} (h : Kd.S k63 63 W base P (.slice (some ⟨g, 0, none⟩) n cap) xs) (h0 : 0 ≤ x) (h1 : x < (n : Int)) :
    ∃ (oki : Nat → Prop) (vi : Value), W.cell? ⟨g, x.toNat * 3, none⟩ = some (.int .i64 (rd_T63 xs x).f0) ∧ W.cell? ⟨g, x.toNat * 3 + 1, none⟩ = some (.int .i64 (rd_T63 xs x).f1) ∧ W.cell? ⟨g, x.toNat * 3 + 2, none⟩ = some vi ∧ Kd.R (Kd.int .u8) 5 W base oki vi (rd_T63 xs x).f2 := by
  obtain ⟨oki, cc, _, hM, hcc, hoki, hH⟩ := Kd.S_lend h z63 x h0 h1
  obtain ⟨vi, rfl, hRi⟩ := k63_openM hM
  exact ⟨oki, vi, hcc 0 _ rfl, hcc 1 _ rfl, hcc 2 _ rfl, hRi⟩
theorem DevOk_row {w w1 : World} {base g b : Nat} {safe : List (List Int)} {ps : List S185} {row : Option Nat} (h : DevOk w base g b safe ps) (hg : w.grownBy w1 row) (hr : ∀ q, row = some q → ∃ cs, w.heap[q]? = some (.cells cs 63 (0, 0))) : DevOk w1 base g b safe ps := by
  cases row with
  | none => exact DevOk_below h ((Below.refl w.heap.size w).grown hg (Nat.le_refl _) (by intro q hq; cases hq))
  | some q =>
    obtain ⟨cs, hb⟩ := hr q rfl
    obtain ⟨A0, c0, A1, c1, P, Q, h1, h2, h3, h4⟩ := h
    exact ⟨A0, c0, A1, c1, P, Q, blk_off h1 hb (by decide) hg, D_off h2 hb (by decide) hg, LMap_step h3 (hg.block b (LMap_lt h3) (fun e => LMap_ne h3 hb (Option.some.inj e).symm)), h4⟩
set_option maxHeartbeats 8000000 in
set_option maxRecDepth 100000 in
theorem impl_Format.main (k k2 : Nat) (pages : Int) (safe : List (List Int)) (ops : List S63) (ok1 ok2 : Bool) (w : World) (h8 : ¬ pages < 8) (h9 : ¬ 1024 < pages) (hnd : impl_NewDisk.f k (4 * pages) = some (safe, [], ok1)) (hso : impl_SuperOps.f k2 1 0 2 0 = some (ops, ok2)) (hol : ops.length ≤ 1000) (hsl : safe.length ≤ 1048576) (hwo : ∀ o ∈ ops, (Lit.int .i64 o.f1).wf = true) :
    Calls Try.prog 49 #[.int .i64 pages] w fun e w' => ∃ v0 v1 : Value, ∃ P Q, e = .returned (.tuple #[.agg #[v0, v1], .bool true]) ∧ IsDisk w' w.heap.size P Q v0 v1 (playA (ops ++ [⟨2, 0, []⟩]) (safe, [])).1 (playA (ops ++ [⟨2, 0, []⟩]) (safe, [])).2 ∧ Below w.heap.size w w' := by
  have hu44 := Try.underlying44
  have hu63 := Try.underlying63
  have hu159 := Try.underlying159
  obtain ⟨⟨SF, PF⟩, hres⟩ : ∃ r, playA (ops ++ [⟨2, 0, []⟩]) (safe, []) = r := ⟨_, rfl⟩
  rw [hres]
  dsimp only
  have HRES := Aside0.mk hres
  have N1 := Aside0.mk hnd
  have N2 := Aside0.mk hso
  have HOL := Aside0.mk hol
  have HSL := Aside0.mk hsl
  have HWO := Aside0.mk hwo
  have d0 : decide (pages < 8) = false := decide_eq_false h8
  have d1 : decide (1024 < pages) = false := decide_eq_false h9
  have HWR : Aside0 (wrap64 (4 * pages) = 4 * pages) := ⟨by unfold wrap64; omega⟩
  clear hres hnd hso hol hsl hwo h8 h9
  go_enter Try.func49, Try.ntmps49
  go_wp2_with (first | ((with_reducible refine gate_dst (N := 2) rfl ?_); refine box_event ?hg (N := 2) ?hd (cs := #[.slice none 0 0, .slice none 0 0]) (t := 44) ?hr ?_; (case hd => rfl); (case hg => rfl); (case hr => first | (go_simp; done) | (go_simp; rfl)); intro g2 hgr w1 hbox hbel; have B2 := Aside0.mk hbox; have G2w : Aside0 (w.heap.size ≤ g2) := ⟨by rw [hgr]; exact Nat.le_refl _⟩; have HB := Aside0.mk hbel; clear hbox hbel hgr))
  (try rw [HWR.out])
  refine (impl_NewDisk.calls k (4 * pages) safe [] ok1 _ N1.out).mono ?_
  rintro e w3 ⟨v0, v1, rfl, hs0, hs1, hb⟩
  obtain ⟨P, Q, hd⟩ := new_apart hs0 hs1
  obtain ⟨Y0, yc0, rfl⟩ := Kd.S_slice hs0
  obtain ⟨Y1, yc1, rfl⟩ := Kd.S_slice hs1
  have HD := Aside0.mk hd
  have HX := Aside0.mk hb
  clear hs0 hs1 hd hb
  go_wp2_with (first | ((with_reducible refine gate_dst (N := 4) rfl ?_); refine box_event ?hg (N := 4) ?hd (cs := #[.slice none 0 0, .slice none 0 0]) (t := 44) ?hr ?_; (case hd => rfl); (case hg => rfl); (case hr => first | (go_simp; done) | (go_simp; rfl)); intro g4 hgr w4a hbox hbel; have B4z := Aside0.mk hbox; have G4w : Aside0 (w1.heap.size ≤ g4) := ⟨by rw [hgr]; exact HX.out.size⟩; have HD := Aside0.mk (IsDisk_below HD.out hbel); have HX := Aside0.mk (below_step HX.out hbel); clear hbox hbel hgr) | ((with_reducible refine gate_ (.store 44 (.tmp 4) (.tmp 22)) rfl ?_); refine store_blk rfl rfl 44 (.tmp 4) (.tmp 22) rfl (off := 0) (u := .agg #[.slice Y0 safe.length yc0, .slice Y1 ([] : List S185).length yc1]) #[.slice Y0 safe.length yc0, .slice Y1 ([] : List S185).length yc1] rfl rfl B4z.out [.slice Y0 safe.length yc0, .slice Y1 ([] : List S185).length yc1] rfl (by kernel_rfl) (Nat.le_of_ble_eq_true rfl) rfl rfl ?_; intro w4 hblk hgrw; have HD := Aside0.mk (D_off HD.out B4z.out (by decide) hgrw); have HX := Aside0.mk (HX.out.grown hgrw HX.out.size (by intro q hq; cases hq; exact G4w.out)); have B4 := Aside0.mk hblk; clear hblk hgrw))
  refine (impl_SuperOps.calls k2 1 0 2 0 ops ok2 _ N2.out).mono ?_
  rintro e w5 ⟨vo, rfl, ho, hb⟩
  obtain ⟨Ao, co, rfl⟩ := Kd.S_slice ho
  have HO := Aside0.mk (Kd.S_lower ho HX.out.size)
  have HD := Aside0.mk (IsDisk_below HD.out hb)
  have B4 := Aside0.mk (blk_below B4.out hb)
  have HX := Aside0.mk (below_step HX.out hb)
  clear ho hb
  have c40 : w5.cell? ⟨g4, 0, none⟩ = some (.slice Y0 safe.length yc0) := (blk_cell B4.out 0).trans rfl
  have c41 : w5.cell? ⟨g4, 1, none⟩ = some (.slice Y1 ([] : List S185).length yc1) := (blk_cell B4.out 1).trans rfl
  go_wp2_with fail
  refine (impl_deviceOf.calls Y0 safe.length yc0 Y1 yc1 [] _ (Kd.S_reads' HD.out.2.2).2.2 (Kd.S_reads' HD.out.2.2).2.1 (fun p hp => by cases hp)).mono ?_
  rintro e w6 ⟨g, bm, rfl, hdev, hmap, hg, hbm, hgb, hb⟩
  have HDV := Aside0.mk (show DevOk w6 w1.heap.size g bm safe [] from ⟨Y0, yc0, Y1, yc1, P, Q, hdev, IsDisk_below HD.out hb, hmap, hgb, Nat.le_trans HX.out.size hg, Nat.le_trans HX.out.size hbm⟩)
  have HO := Aside0.mk (Kd.S_below HO.out hb)
  have HX := Aside0.mk (below_step HX.out hb)
  clear hdev hmap hg hbm hgb hb HD c40 c41
  go_wp2_with (first | ((with_reducible refine gate_builtin (b := .append) (xs := #[.tmp 31, .tmp 33]) rfl ?_); at_builtin; refine Kd.S_append k63 (w0 := w1) w1.heap.size rfl (.tmp 31) (.tmp 33) 72 63 (.agg #[(.int .i64 0), (.int .i64 0), (.slice none 0 0)]) 40 rfl Try.underlying72 info63 rfl (by decide) (by omega) (.slice Ao ops.length co) ops (⟨2, 0, ([] : List Int)⟩ : S63) [.int .i64 2, .int .i64 0, .slice none 0 0] (fun _ => True) (fun _ => False) rfl rfl ?aP (fun k_ hk_ => hk_.elim) ?aF ?aO ?aB ?aS ?aL ?_; (case aP => exact k63_mkM _ _ _ (⟨2, 0, ([] : List Int)⟩ : S63) (Kd.R_nil _ _ _ _ _)); (case aF => exact (fun _ _ => trivial)); (case aO => exact Kd.S_mono HO.out (fun k_ hk => ⟨trivial, fun e_ => e_⟩)); (case aB => exact HX.out); (case aS => exact HX.out.size); (case aL => have := HOL.out; omega); intro vo w7 ho hb hg hat; have HDV := Aside0.mk (DevOk_row HDV.out hg (Kd.S_typed HO.out)); have HX := Aside0.mk hb; obtain ⟨L, hL⟩ : ∃ L : List S63, L = ops ++ [⟨2, 0, []⟩] := ⟨_, rfl⟩; rw [← hL] at ho; obtain ⟨An, cn, eo⟩ := Kd.S_slice ho; subst eo; have HOA := Aside0.mk ho; have HLL := Aside0.mk hL; clear ho hb hg hat hL))
  have HPA := Aside0.mk (show playA L (safe, []) = (SF, PF) by rw [HLL.out]; exact HRES.out)
  have HWL : Aside0 (∀ o ∈ L, (Lit.int .i64 o.f1).wf = true) := ⟨fun o ho => by
    rw [HLL.out] at ho
    rcases List.mem_append.1 ho with h | h
    · exact HWO.out o h
    · rw [List.mem_singleton.1 h]
      rfl⟩
  have HLN : Aside0 (L.length ≤ 1001) := ⟨by rw [HLL.out, List.length_append]; have := HOL.out; simp; omega⟩
  go_loopg [36] L.length (fun gk v36 w' => ∃ (x : Nat) (sf : List (List Int)) (pf : List S185), v36 = .int .i64 (x : Int) ∧ Aside0 (gk + x = L.length) ∧ Aside0 (DevOk w' w1.heap.size g bm sf pf) ∧ Aside0 (playA (L.drop x) (sf, pf) = (SF, PF)) ∧ Aside0 (sf.length ≤ 1048576 ∧ Plays sf.length pf) ∧ Aside0 (Kd.S k63 63 w' w1.heap.size (fun _ => True) (.slice An L.length cn) L) ∧ Aside0 (Below w1.heap.size w1 w'))
  case atStart =>
    exact ⟨0, safe, [], rfl, ⟨rfl⟩, HDV, HPA, ⟨HSL.out, Nat.zero_le _, fun p hp => by cases hp⟩, HOA, HX⟩
  case round =>
    clear HDV HX HPA HOA HO
    obtain ⟨x, sf, pf, rfl, HXK, HDV, HPL, HPS, HOA, HX⟩ := hrel
    cases gk with
    | zero =>
      have hx : x = L.length := by have := HXK.out; omega
      have dz : decide ((x : Int) < (L.length : Int)) = false := decide_eq_false (by omega)
      have dz2 : decide (x < L.length) = false := decide_eq_false (by omega)
      have hp := HPL.out
      rw [hx, List.drop_length] at hp
      injection hp with e1 e2
      subst e1 e2
      clear hx
      obtain ⟨Z0, zc0, Z1, zc1, P2, Q2, hdv, hdk, _⟩ := HDV.out
      have cg2 : wr.cell? ⟨g, 2, none⟩ = some (.slice Z0 sf.length zc0) := (blk_cell hdv 2).trans rfl
      have cg3 : wr.cell? ⟨g, 3, none⟩ = some (.slice Z1 pf.length zc1) := (blk_cell hdv 3).trans rfl
      have HDK := Aside0.mk hdk
      have B2 := Aside0.mk (blk_below B2.out HX.out)
      clear hdv hdk
      go_wp2_with (first | ((with_reducible refine gate_ (.store 44 (.tmp 2) (.tmp 47)) rfl ?_); refine store_blk rfl rfl 44 (.tmp 2) (.tmp 47) rfl (off := 0) (u := .agg #[.slice Z0 sf.length zc0, .slice Z1 pf.length zc1]) #[.slice Z0 sf.length zc0, .slice Z1 pf.length zc1] rfl rfl B2.out [.slice Z0 sf.length zc0, .slice Z1 pf.length zc1] rfl (by kernel_rfl) (Nat.le_of_ble_eq_true rfl) rfl rfl ?_; intro w9 hblk hgrw; have HDK := Aside0.mk (D_lower (D_off HDK.out B2.out (by decide) hgrw) HB.out.size); have HBF := Aside0.mk (Below.grown (below_step HB.out HX.out) hgrw (below_step HB.out HX.out).size (by intro q hq; cases hq; exact G2w.out)); have B2 := Aside0.mk hblk; clear hblk hgrw))
      refine bodyPost_ret (results_cell_slot rfl _ _ g2 44 #[.slice Z0 sf.length zc0, .slice Z1 pf.length zc1] (0, 0) _ _ rfl rfl B2.out Try.underlying44 rfl (by kernel_rfl)) rfl ?_
      exact ⟨_, _, P2, Q2, rfl, HDK.out, HBF.out⟩
    | succ gk =>
      have hx : x < L.length := by have := HXK.out; omega
      have q0 : (x : Int) < (L.length : Int) := by omega
      have p0 : 0 ≤ (x : Int) := by omega
      have dz : decide ((x : Int) < (L.length : Int)) = true := decide_eq_true q0
      have dz2 : decide (x < L.length) = true := decide_eq_true hx
      have dz3 : decide (0 ≤ (x : Int)) = true := decide_eq_true p0
      have hdrop : L.drop x = rd_T63 L (x : Int) :: L.drop (x + 1) := by
        rw [List.drop_eq_getElem_cons hx]
        congr 1
        show _ = L.getD ((x : Int)).toNat z63
        rw [Int.toNat_natCast, List.getD_eq_getElem?_getD, List.getElem?_eq_getElem hx]
        rfl
      have HDR := Aside0.mk hdrop
      have HPos : 0 < L.length := by omega
      obtain ⟨gr, cap, ev, _⟩ := Kd.S_form HOA.out HPos
      injection ev with ev1 ev2 ev3
      subst ev1
      subst ev3
      obtain ⟨oki, vi, hx0, hx1, hx2, hRi⟩ := lend63c HOA.out p0 q0
      obtain ⟨A5, c5', evi⟩ := Kd.R_slice hRi
      subst evi
      have hl5 := (Kd.R_reads' hRi).2.1
      have HRI := Aside0.mk hRi
      have HL5 := Aside0.mk hl5
      have HWA5 : Aside0 ((Lit.int .i64 (rd_T63 L (x : Int)).f1).wf = true) := ⟨HWL.out _ (getD_mem (z := z63) p0 q0)⟩
      have HX0 := Aside0.mk hx
      simp only [Int.toNat_natCast] at hx0 hx1 hx2
      clear hRi hl5 hdrop HPos ev2 hx
      replace p0 := eq_true p0
      replace q0 := eq_true q0
      go_wp2_with (first | ((with_reducible refine gate_dst (N := 10) rfl ?_); refine box_event ?hg (N := 10) ?hd (cs := #[.int .i64 0, .int .i64 0, .slice none 0 0]) (t := 63) ?hr ?_; (case hd => rfl); (case hg => rfl); (case hr => first | (go_simp; done) | (go_simp; rfl)); intro g10 hgr w8a hbox hbel; have B10 := Aside0.mk hbox; have G10w : Aside0 (w1.heap.size ≤ g10) := ⟨by rw [hgr]; exact HX.out.size⟩; have HOA := Aside0.mk (Kd.S_mono (ok' := fun q => True ∧ q ≠ g10) (Kd.S_below (Kd.S_bound HOA.out) hbel) (fun q hq => ⟨trivial, by have := hq.2.2.1; omega⟩)); have HRI := Aside0.mk (Kd.R_mono (ok' := fun q => True ∧ q ≠ g10) (Kd.R_below (Kd.R_bound HRI.out) hbel) (fun q hq => ⟨trivial, by have := hq.2.2.1; omega⟩)); have HDV := Aside0.mk (DevOk_below HDV.out hbel); have HX := Aside0.mk (below_step HX.out hbel); clear hbox hbel hgr) | ((with_reducible refine gate_ (.store 63 (.tmp 10) (.tmp 39)) rfl ?_); refine store_blk rfl rfl 63 (.tmp 10) (.tmp 39) rfl (off := 0) (u := .agg #[.int .i64 (rd_T63 L (x : Int)).f0, .int .i64 (rd_T63 L (x : Int)).f1, .slice A5 (rd_T63 L (x : Int)).f2.length c5']) #[.int .i64 (rd_T63 L (x : Int)).f0, .int .i64 (rd_T63 L (x : Int)).f1, .slice A5 (rd_T63 L (x : Int)).f2.length c5'] rfl rfl B10.out [.int .i64 (rd_T63 L (x : Int)).f0, .int .i64 (rd_T63 L (x : Int)).f1, .slice A5 (rd_T63 L (x : Int)).f2.length c5'] rfl (by kernel_rfl) (Nat.le_of_ble_eq_true rfl) rfl rfl ?_; intro w8 hblk hgrw; have HOA := Aside0.mk (Kd.S_mono (ok' := fun _ => True) (S_offB HOA.out hgrw) (fun _ _ => trivial)); have HRI := Aside0.mk (Kd.R_grown HRI.out hgrw (fun q hq e => hq.2 (Option.some.inj e))); have HDV := Aside0.mk (DevOk_row HDV.out hgrw (fun q hq => ⟨_, by cases hq; exact B10.out⟩)); have HX := Aside0.mk (HX.out.grown hgrw HX.out.size (by intro q hq; cases hq; exact G10w.out)); have B10 := Aside0.mk hblk; have ca0 : w8.cell? ⟨g10, 0, none⟩ = some (.int .i64 (rd_T63 L (x : Int)).f0) := (blk_cell B10.out 0).trans rfl; have ca1 : w8.cell? ⟨g10, 1, none⟩ = some (.int .i64 (rd_T63 L (x : Int)).f1) := (blk_cell B10.out 1).trans rfl; have ca2 : w8.cell? ⟨g10, 2, none⟩ = some (.slice A5 (rd_T63 L (x : Int)).f2.length c5') := (blk_cell B10.out 2).trans rfl; clear hblk hgrw))
      obtain ⟨⟨⟨s2, p2⟩, r2⟩, hdv2⟩ : ∃ r, doV sf pf (rd_T63 L (x : Int)).f0 (rd_T63 L (x : Int)).f1 (rd_T63 L (x : Int)).f2 = r := ⟨_, rfl⟩
      have hinv := doV_plays (rd_T63 L (x : Int)).f0 (rd_T63 L (x : Int)).f1 (rd_T63 L (x : Int)).f2 HPS.out.2
      rw [hdv2] at hinv
      have HPS2 := Aside0.mk (show s2.length ≤ 1048576 ∧ Plays s2.length p2 from ⟨by rw [hinv.1]; exact HPS.out.1, by rw [hinv.1]; exact hinv.2⟩)
      have hcall := impl_doK.calls g bm sf pf (rd_T63 L (x : Int)).f0 (rd_T63 L (x : Int)).f1 A5 c5' (rd_T63 L (x : Int)).f2 w1 _ HDV.out HX.out (fun W' hk => ?hrd) HL5.out HWA5.out (Nat.le_trans HPS.out.2.1 (by decide)) HPS.out.1 HPS.out.2.2
      case hrd =>
        obtain ⟨Z0, zc0, Z1, zc1, P2, Q2, hdv, _, hlm, _⟩ := HDV.out
        exact (Kd.R_reads' (Kd.R_kept (Kd.R_bound HRI.out) hk (fun q hq hs => by
          obtain ⟨_, _, _, t, ht, cs, hc⟩ := hq
          rcases hs with rfl | rfl
          · have e := blk_type hdv hc
            simp [Kd.int, Kd.scalar] at ht
            omega
          · exact LMap_ne hlm hc rfl))).2.2
      rw [hdv2] at hcall
      refine hcall.mono ?_
      clear hcall hinv
      rintro e w9 ⟨rfl, hdv, hb, hkt⟩
      have hp := HPL.out
      rw [HDR.out] at hp
      have hp2 : playA (L.drop (x + 1)) (s2, p2) = (SF, PF) := by
        have h2 : playA (rd_T63 L (x : Int) :: L.drop (x + 1)) (sf, pf) = playA (L.drop (x + 1)) ((doV sf pf (rd_T63 L (x : Int)).f0 (rd_T63 L (x : Int)).f1 (rd_T63 L (x : Int)).f2).1) := rfl
        rw [h2, hdv2] at hp
        exact hp
      have HPL := Aside0.mk hp2
      have HDV := Aside0.mk hdv
      have HX := Aside0.mk hb
      have HOA := Aside0.mk (S_keptT HOA.out hkt)
      clear hdv hb hdv2 hx0 hx1 hx2 hp hp2 hkt
      go_wp2_with fail
      go_roundg gk
      case measure => omega
      case rel =>
        have hw1 : wrap64 ((x : Int) + 1) = ((x + 1 : Nat) : Int) := by have := HX0.out; have := HLN.out; unfold wrap64; omega
        exact ⟨x + 1, s2, p2, by first | rfl | (rw [hw1]), ⟨by have := HXK.out; omega⟩, HDV, HPL, HPS2, HOA, HX⟩
end Go.Proofs.Ytlopmffdebhpfaa.G

/-! ## Law9 -/
namespace Go.Proofs.Ytlopmffdebhpfaa.G
open Go.RowKit Go.Proofs.YtlopmffdebhpfaaW.PrintWords Go.Proofs.YtlopmffdebhpfaaW.PrintLast Go.Proofs.YtlopmffdebhpfaaW.PrintMore
set_option linter.unusedVariables false
set_option linter.unusedSimpArgs false

theorem lt_below {S : Nat → Prop} {w w1 w2 : World} (h : ∀ q, S q → q < w.heap.size) (hb : Below w2.heap.size w2 w1) (e : w.heap.size = w2.heap.size) : ∀ q, S q → q < w1.heap.size := fun q hq => Nat.lt_of_lt_of_le (h q hq) (e ▸ hb.size)
theorem S_tightG {α : Type} {d : Kd α} {e : Nat} {w : World} {base : Nat} {ok : Nat → Prop} {v : Value} {xs : List α} (h : Kd.S d e w base ok v xs) : ∃ P, Kd.S d e w base P v xs ∧ ∀ q, P q → base ≤ q ∧ q < w.heap.size := ⟨_, Kd.S_bound h, fun q hq => ⟨hq.2.1, hq.2.2.1⟩⟩
/-- What impl.Format returns. -/
def FmtR (pages : Int) (e0 : List (List Int)) (e1 : List S185) (rb : Bool) : Prop := ∀ w, Calls Try.prog 49 #[.int .i64 pages] w fun e w' => ∃ v0 v1 : Value, ∃ P Q, e = .returned (.tuple #[.agg #[v0, v1], .bool rb]) ∧ IsDisk w' w.heap.size P Q v0 v1 e0 e1 ∧ Below w.heap.size w w'
set_option maxHeartbeats 16000000 in
set_option maxRecDepth 100000 in
theorem laws_FnExactFormat.full (k k6 k9 : Nat) (pages : Int) (e0 : List (List Int)) (e1 : List S185) (rb : Bool) (w : World) (hsf : spec_Format.f k pages = some (e0, e1, rb)) (hif : FmtR pages e0 e1 rb)
    (hee : laws_eqDisk.f k6 e0 e1 e0 e1 = some true) (hsum2 : 1 + (totL e0 : Int) + totP e1 ≤ 4611686018427387904) (hhd : laws_heldDisk.f k9 (mkSS e0 1) (mkPS e1 (1 + totL e0)) 1 = some (1 + (totL e0 : Int) + totP e1)) :
    Calls Try.prog 9 #[.int .i64 pages] w fun e w' => e = .returned (.bool true) ∧ Below w.heap.size w w' := by
  have hu44 := Try.underlying44
  have NF := Aside0.mk hsf
  have NI := Aside0.mk hif
  have N6 := Aside0.mk hee
  have NS2 := Aside0.mk hsum2
  have N9 := Aside0.mk hhd
  have x4 : decide ((1 + (totL e0 : Int) + totP e1) < 0) = false := decide_eq_false (by omega)
  have x5 : (rb != rb) = false := by simp
  have HB := Aside0.mk (Below.refl w.heap.size w)
  clear hsf hif hee hsum2 hhd
  go_enter Try.func9, Try.ntmps9
  go_wp2_with fail
  refine (spec_Format.calls k pages e0 e1 rb _ NF.out).mono ?_
  rintro e w1 ⟨v0, v1, rfl, hs0, hs1, hb⟩
  obtain ⟨W0, wc0, rfl⟩ := Kd.S_slice hs0
  obtain ⟨W1, wc1, rfl⟩ := Kd.S_slice hs1
  obtain ⟨PW0, hp0, hq0⟩ := S_tightG hs0
  obtain ⟨PW1, hp1, hq1⟩ := S_tightG hs1
  have LTWN : Aside0 (∀ q, PW0 q ∨ PW1 q → q < w1.heap.size) := ⟨fun q h => h.elim (fun h => (hq0 q h).2) (fun h => (hq1 q h).2)⟩
  have HW0N := Aside0.mk (Kd.S_lower hp0 HB.out.size)
  have HW1N := Aside0.mk (Kd.S_lower hp1 HB.out.size)
  clear hs0 hs1 hp0 hp1 hq0 hq1
  replace HB := Aside0.mk (below_step HB.out hb)
  clear hb
  have HW0 := HW0N
  have HW1 := HW1N
  have LTW := LTWN
  clear HW0N HW1N LTWN
  go_wp2_with (first | ((with_reducible refine gate_dst (N := 3) rfl ?_); refine box_event ?hg (N := 3) ?hd (cs := #[.slice none 0 0, .slice none 0 0]) (t := 44) ?hr ?_; (case hd => rfl); (case hg => rfl); (case hr => first | (go_simp; done) | (go_simp; rfl)); intro g3 hgr w2 hbox hbel; have B3z := Aside0.mk hbox; have Gg3w : Aside0 (w.heap.size ≤ g3) := ⟨by rw [hgr]; exact HB.out.size⟩; replace HB := Aside0.mk (below_step HB.out hbel); replace HW0 := Aside0.mk (Kd.S_below HW0.out hbel); replace HW1 := Aside0.mk (Kd.S_below HW1.out hbel); replace LTW := Aside0.mk (lt_below LTW.out hbel rfl); clear hbox hbel hgr) | ((with_reducible refine gate_ (.store 44 (.tmp 3) (.tmp 14)) rfl ?_); refine store_blk rfl rfl 44 (.tmp 3) (.tmp 14) rfl (off := 0) (u := .agg #[.slice W0 e0.length wc0, .slice W1 e1.length wc1]) #[.slice W0 e0.length wc0, .slice W1 e1.length wc1] rfl rfl B3z.out [.slice W0 e0.length wc0, .slice W1 e1.length wc1] rfl (by kernel_rfl) (Nat.le_of_ble_eq_true rfl) rfl rfl ?_; intro w3 hblk hgrw; replace B3 := Aside0.mk hblk; replace HB := Aside0.mk (HB.out.grown hgrw HB.out.size (by intro q hq; cases hq; exact Gg3w.out)); replace HW0 := Aside0.mk (S_off HW0.out B3z.out (by decide) hgrw); replace HW1 := Aside0.mk (S_off HW1.out B3z.out (by decide) hgrw); replace LTW := Aside0.mk (fun q h => Nat.lt_of_lt_of_le (LTW.out q h) hgrw.size); clear hblk hgrw))
  refine (NI.out _).mono ?_
  rintro e w4 ⟨v0, v1, P2, Q2, rfl, hd, hb⟩
  obtain ⟨X0, xc0, rfl⟩ := Kd.S_slice hd.2.1
  obtain ⟨X1, xc1, rfl⟩ := Kd.S_slice hd.2.2
  obtain ⟨PX, QX, hd_, hT_, hq_⟩ := D_tight hd
  clear hd hT_
  have NWX : Aside0 (∀ q, PW0 q ∨ PW1 q → ¬ (PX q ∨ QX q)) := ⟨fun q h h' => Nat.lt_irrefl _ (Nat.lt_of_lt_of_le (LTW.out q h) (hq_ q h').2.1)⟩
  have HX := Aside0.mk (D_lower hd_ HB.out.size)
  clear hd_ hq_
  replace HB := Aside0.mk (below_step HB.out hb)
  replace HW0 := Aside0.mk (Kd.S_below HW0.out hb)
  replace HW1 := Aside0.mk (Kd.S_below HW1.out hb)
  replace LTW := Aside0.mk (lt_below LTW.out hb rfl)
  replace B3 := Aside0.mk (blk_below B3.out hb)
  clear hb
  go_wp2_with (first | ((with_reducible refine gate_dst (N := 5) rfl ?_); refine box_event ?hg (N := 5) ?hd (cs := #[.slice none 0 0, .slice none 0 0]) (t := 44) ?hr ?_; (case hd => rfl); (case hg => rfl); (case hr => first | (go_simp; done) | (go_simp; rfl)); intro g5 hgr w5 hbox hbel; have B5z := Aside0.mk hbox; have Gg5w : Aside0 (w.heap.size ≤ g5) := ⟨by rw [hgr]; exact HB.out.size⟩; have Ng3g5 : Aside0 (g3 ≠ g5) := ⟨by have := blk_lt B3.out; omega⟩; replace HB := Aside0.mk (below_step HB.out hbel); replace HW0 := Aside0.mk (Kd.S_below HW0.out hbel); replace HW1 := Aside0.mk (Kd.S_below HW1.out hbel); replace LTW := Aside0.mk (lt_below LTW.out hbel rfl); replace B3 := Aside0.mk (blk_below B3.out hbel); replace HX := Aside0.mk (IsDisk_below HX.out hbel); clear hbox hbel hgr) | ((with_reducible refine gate_ (.store 44 (.tmp 5) (.tmp 19)) rfl ?_); refine store_blk rfl rfl 44 (.tmp 5) (.tmp 19) rfl (off := 0) (u := .agg #[.slice X0 e0.length xc0, .slice X1 e1.length xc1]) #[.slice X0 e0.length xc0, .slice X1 e1.length xc1] rfl rfl B5z.out [.slice X0 e0.length xc0, .slice X1 e1.length xc1] rfl (by kernel_rfl) (Nat.le_of_ble_eq_true rfl) rfl rfl ?_; intro w6 hblk hgrw; replace B5 := Aside0.mk hblk; replace HB := Aside0.mk (HB.out.grown hgrw HB.out.size (by intro q hq; cases hq; exact Gg5w.out)); replace HW0 := Aside0.mk (S_off HW0.out B5z.out (by decide) hgrw); replace HW1 := Aside0.mk (S_off HW1.out B5z.out (by decide) hgrw); replace LTW := Aside0.mk (fun q h => Nat.lt_of_lt_of_le (LTW.out q h) hgrw.size); replace B3 := Aside0.mk (blk_grown B3.out hgrw (fun e => Ng3g5.out (Option.some.inj e))); replace HX := Aside0.mk (D_off HX.out B5z.out (by decide) hgrw); have cg50 : w6.cell? ⟨g5, 0, none⟩ = some (.slice X0 e0.length xc0) := (blk_cell B5.out 0).trans rfl; have cg51 : w6.cell? ⟨g5, 1, none⟩ = some (.slice X1 e1.length xc1) := (blk_cell B5.out 1).trans rfl; have cg30 : w6.cell? ⟨g3, 0, none⟩ = some (.slice W0 e0.length wc0) := (blk_cell B3.out 0).trans rfl; have cg31 : w6.cell? ⟨g3, 1, none⟩ = some (.slice W1 e1.length wc1) := (blk_cell B3.out 1).trans rfl; clear hblk hgrw))
  refine (laws_eqDisk.calls k6 X0 xc0 e0 X1 xc1 e1 W0 wc0 e0 W1 wc1 e1 true _ (Kd.S_reads' HX.out.2.1).2.2 (Kd.S_reads' HX.out.2.1).2.1 (Kd.S_reads' HX.out.2.2).2.2 (Kd.S_reads' HX.out.2.2).2.1 (Kd.S_reads' HW0.out).2.2 (Kd.S_reads' HW0.out).2.1 (Kd.S_reads' HW1.out).2.2 (Kd.S_reads' HW1.out).2.1 N6.out).mono ?_
  rintro e w7 ⟨rfl, hb⟩
  replace HB := Aside0.mk (below_step HB.out hb)
  replace HW0 := Aside0.mk (Kd.S_below HW0.out hb)
  replace HW1 := Aside0.mk (Kd.S_below HW1.out hb)
  replace LTW := Aside0.mk (lt_below LTW.out hb rfl)
  replace B3 := Aside0.mk (blk_below B3.out hb)
  replace HX := Aside0.mk (IsDisk_below HX.out hb)
  replace B5 := Aside0.mk (blk_below B5.out hb)
  clear hb
  clear cg50 cg51 cg30 cg31
  have cg50 : w7.cell? ⟨g5, 0, none⟩ = some (.slice X0 e0.length xc0) := (blk_cell B5.out 0).trans rfl
  have cg51 : w7.cell? ⟨g5, 1, none⟩ = some (.slice X1 e1.length xc1) := (blk_cell B5.out 1).trans rfl
  go_wp2_with fail
  obtain ⟨P5, Q5, hd4, hT4, hq4⟩ := D_tight HX.out
  refine (laws_markDisk.calls P5 Q5 (.slice X0 e0.length xc0) (.slice X1 e1.length xc1) e0 e1 1 w _ HB.out hd4 (by decide) (by have := NS2.out; omega)).mono ?_
  rintro e w8 ⟨rfl, hd, hb, hk⟩
  replace B3 := Aside0.mk (blk_keptT B3.out hk hT4 (by decide))
  replace B5 := Aside0.mk (blk_keptT B5.out hk hT4 (by decide))
  replace HW0 := Aside0.mk (Kd.S_kept HW0.out hk (fun q h h' => NWX.out q (.inl h) (hq4 q h').1))
  replace HW1 := Aside0.mk (Kd.S_kept HW1.out hk (fun q h h' => NWX.out q (.inr h) (hq4 q h').1))
  replace HB := Aside0.mk hb
  have HM := Aside0.mk hd
  clear hb hk hd hd4 hT4 hq4 HX LTW cg50 cg51
  have cg50 : w8.cell? ⟨g5, 0, none⟩ = some (.slice X0 e0.length xc0) := (blk_cell B5.out 0).trans rfl
  have cg51 : w8.cell? ⟨g5, 1, none⟩ = some (.slice X1 e1.length xc1) := (blk_cell B5.out 1).trans rfl
  go_wp2_with fail
  have hh := laws_heldDisk.calls k9 X0 xc0 (mkSS e0 1) X1 xc1 (mkPS e1 (1 + totL e0)) 1 _ _ (Kd.S_reads' HM.out.2.1).2.2 (by rw [mkSS_length]; exact (Kd.S_reads' HM.out.2.1).2.1) (Kd.S_reads' HM.out.2.2).2.2 (by rw [mkPS_length]; exact (Kd.S_reads' HM.out.2.2).2.1) N9.out
  rw [mkSS_length, mkPS_length] at hh
  refine hh.mono ?_
  clear hh
  rintro e w9 ⟨rfl, hb⟩
  replace HB := Aside0.mk (below_step HB.out hb)
  replace HW0 := Aside0.mk (Kd.S_below HW0.out hb)
  replace HW1 := Aside0.mk (Kd.S_below HW1.out hb)
  replace B3 := Aside0.mk (blk_below B3.out hb)
  clear hb HM B5 cg50 cg51
  have x6 : ((1 + (totL e0 : Int) + totP e1) != (1 + (totL e0 : Int) + totP e1)) = false := by simp
  go_wp2_with fail
  refine (NI.out _).mono ?_
  rintro e w10 ⟨v0, v1, P3, Q3, rfl, hd, hb⟩
  obtain ⟨H0, hc0, rfl⟩ := Kd.S_slice hd.2.1
  obtain ⟨H1, hc1, rfl⟩ := Kd.S_slice hd.2.2
  have HHN := Aside0.mk (D_lower hd HB.out.size)
  clear hd
  replace HB := Aside0.mk (below_step HB.out hb)
  replace HW0 := Aside0.mk (Kd.S_below HW0.out hb)
  replace HW1 := Aside0.mk (Kd.S_below HW1.out hb)
  replace B3 := Aside0.mk (blk_below B3.out hb)
  clear hb
  have HH := HHN
  clear HHN
  go_wp2_with (first | ((with_reducible refine gate_dst (N := 9) rfl ?_); refine box_event ?hg (N := 9) ?hd (cs := #[.slice none 0 0, .slice none 0 0]) (t := 44) ?hr ?_; (case hd => rfl); (case hg => rfl); (case hr => first | (go_simp; done) | (go_simp; rfl)); intro g9 hgr w11 hbox hbel; have B9z := Aside0.mk hbox; have Gg9w : Aside0 (w.heap.size ≤ g9) := ⟨by rw [hgr]; exact HB.out.size⟩; have Ng3g9 : Aside0 (g3 ≠ g9) := ⟨by have := blk_lt B3.out; omega⟩; replace HB := Aside0.mk (below_step HB.out hbel); replace HW0 := Aside0.mk (Kd.S_below HW0.out hbel); replace HW1 := Aside0.mk (Kd.S_below HW1.out hbel); replace B3 := Aside0.mk (blk_below B3.out hbel); replace HH := Aside0.mk (IsDisk_below HH.out hbel); clear hbox hbel hgr) | ((with_reducible refine gate_ (.store 44 (.tmp 9) (.tmp 44)) rfl ?_); refine store_blk rfl rfl 44 (.tmp 9) (.tmp 44) rfl (off := 0) (u := .agg #[.slice H0 e0.length hc0, .slice H1 e1.length hc1]) #[.slice H0 e0.length hc0, .slice H1 e1.length hc1] rfl rfl B9z.out [.slice H0 e0.length hc0, .slice H1 e1.length hc1] rfl (by kernel_rfl) (Nat.le_of_ble_eq_true rfl) rfl rfl ?_; intro w12 hblk hgrw; replace B9 := Aside0.mk hblk; replace HB := Aside0.mk (HB.out.grown hgrw HB.out.size (by intro q hq; cases hq; exact Gg9w.out)); replace HW0 := Aside0.mk (S_off HW0.out B9z.out (by decide) hgrw); replace HW1 := Aside0.mk (S_off HW1.out B9z.out (by decide) hgrw); replace B3 := Aside0.mk (blk_grown B3.out hgrw (fun e => Ng3g9.out (Option.some.inj e))); replace HH := Aside0.mk (D_off HH.out B9z.out (by decide) hgrw); have cg90 : w12.cell? ⟨g9, 0, none⟩ = some (.slice H0 e0.length hc0) := (blk_cell B9.out 0).trans rfl; have cg91 : w12.cell? ⟨g9, 1, none⟩ = some (.slice H1 e1.length hc1) := (blk_cell B9.out 1).trans rfl; have cg30 : w12.cell? ⟨g3, 0, none⟩ = some (.slice W0 e0.length wc0) := (blk_cell B3.out 0).trans rfl; have cg31 : w12.cell? ⟨g3, 1, none⟩ = some (.slice W1 e1.length wc1) := (blk_cell B3.out 1).trans rfl; clear hblk hgrw))
  refine (laws_eqDisk.calls k6 H0 hc0 e0 H1 hc1 e1 W0 wc0 e0 W1 wc1 e1 true _ (Kd.S_reads' HH.out.2.1).2.2 (Kd.S_reads' HH.out.2.1).2.1 (Kd.S_reads' HH.out.2.2).2.2 (Kd.S_reads' HH.out.2.2).2.1 (Kd.S_reads' HW0.out).2.2 (Kd.S_reads' HW0.out).2.1 (Kd.S_reads' HW1.out).2.2 (Kd.S_reads' HW1.out).2.1 N6.out).mono ?_
  rintro e w13 ⟨rfl, hb⟩
  replace HB := Aside0.mk (below_step HB.out hb)
  replace HW0 := Aside0.mk (Kd.S_below HW0.out hb)
  replace HW1 := Aside0.mk (Kd.S_below HW1.out hb)
  replace B3 := Aside0.mk (blk_below B3.out hb)
  replace HH := Aside0.mk (IsDisk_below HH.out hb)
  replace B9 := Aside0.mk (blk_below B9.out hb)
  clear hb
  clear cg90 cg91 cg30 cg31
  go_wp2_with fail
  go_ret
  exact ⟨rfl, HB.out⟩
end Go.Proofs.Ytlopmffdebhpfaa.G

/-! ## PureFnExactFormat -/
namespace Go.Proofs.Ytlopmffdebhpfaa.Pure
open Go.RowKit Go.Proofs.Ytlopmffdebhpfaa.G Go.Proofs.YtlopmffdebhpfaaW.PrintWords Go.Proofs.YtlopmffdebhpfaaW.PrintLast Go.Proofs.YtlopmffdebhpfaaW.PrintMore
/-- A new disk's sectors. -/
def news (n : Nat) : List (List Int) := List.replicate n (List.replicate 64 0)
theorem specN_l0 : ∀ (j i : Nat), i + j ≤ 1000000 → Cv (fun k => spec_NewDisk.l0 k ((i + j : Nat) : Int) (i : Int) (news i) []) (news (i + j), [], true)
  | 0, i, h => Cv.step (fun k => spec_NewDisk.l0.eq_2 _ _ _ _ k) (Cv.neg (by omega) (Cv.of rfl))
  | j + 1, i, h => by
    refine Cv.step (fun k => spec_NewDisk.l0.eq_2 _ _ _ _ k) (Cv.pos (by omega) (Cv.pos (by decide) (Cv.pos (by simp [news]; omega) ?_)))
    rw [w64 (by omega) (by omega), show (i : Int) + 1 = ((i + 1 : Nat) : Int) by omega, show news i ++ [List.replicate 64 0] = news (i + 1) from List.replicate_succ'.symm, show i + (j + 1) = (i + 1) + j by omega]
    exact specN_l0 j (i + 1) (by omega)
theorem implN_l0 : ∀ (j i : Nat), i + j ≤ 1000000 → Cv (fun k => impl_NewDisk.l0 k ((i + j : Nat) : Int) (i : Int) (news i)) (news (i + j), [], true)
  | 0, i, h => Cv.step (fun k => impl_NewDisk.l0.eq_2 _ _ _ k) (Cv.neg (by omega) (Cv.of rfl))
  | j + 1, i, h => by
    refine Cv.step (fun k => impl_NewDisk.l0.eq_2 _ _ _ k) (Cv.pos (by omega) (Cv.pos (by decide) (Cv.pos (by simp [news]; omega) ?_)))
    rw [w64 (by omega) (by omega), show (i : Int) + 1 = ((i + 1 : Nat) : Int) by omega, show news i ++ [List.replicate 64 0] = news (i + 1) from List.replicate_succ'.symm, show i + (j + 1) = (i + 1) + j by omega]
    exact implN_l0 j (i + 1) (by omega)
theorem specN {n : Nat} (h0 : 1 ≤ n) (h1 : n ≤ 4096) : Cv (fun k => spec_NewDisk.f k (n : Int)) (news n, [], true) := by
  unfold spec_NewDisk.f
  refine Cv.bind (Cv.of rfl) (Cv.bind (Cv.of rfl) (Cv.neg (by omega) ?_))
  rw [decide_eq_false (show ¬ (n : Int) > 4096 by omega)]
  refine Cv.step (fun k => spec_NewDisk.j0.eq_2 _ _ _ _ k) (Cv.neg (by decide) ?_)
  have h := specN_l0 n 0 (by omega)
  rw [Nat.zero_add] at h
  exact h
theorem implN {n : Nat} (h0 : 1 ≤ n) (h1 : n ≤ 4096) : Cv (fun k => impl_NewDisk.f k (n : Int)) (news n, [], true) := by
  unfold impl_NewDisk.f
  refine Cv.neg (by omega) ?_
  rw [decide_eq_false (show ¬ (n : Int) > 4096 by omega)]
  refine Cv.step (fun k => impl_NewDisk.j0.eq_2 _ _ k) (Cv.neg (by decide) ?_)
  have h := implN_l0 n 0 (by omega)
  rw [Nat.zero_add] at h
  exact h
def opsT (x : Option (List S63 × Bool)) : Option (List (Int × Int × List Int) × Bool) := x.map (fun r => (r.1.map (fun o => (o.f0, o.f1, o.f2)), r.2))
def chk (x : Option (List S63 × Bool)) : Bool := match x with
  | none => false
  | some (ops, _) => ops.length == 4 && ops.all (fun o => o.f0 == 1 && (decide (0 ≤ o.f1) && (decide (o.f1 < 32) && o.f2.length == 64)))
set_option maxRecDepth 1000000 in
theorem ops_both : opsT (spec_SuperOps.f 20000 1 0 2 0) = opsT (impl_SuperOps.f 20000 1 0 2 0) := by decide +kernel
set_option maxRecDepth 1000000 in
theorem ops_good : chk (impl_SuperOps.f 20000 1 0 2 0) = true := by decide +kernel
theorem map_inj : ∀ (a b : List S63), a.map (fun o => (o.f0, o.f1, o.f2)) = b.map (fun o => (o.f0, o.f1, o.f2)) → a = b
  | [], [], _ => rfl
  | [], _ :: _, h => by cases h
  | _ :: _, [], h => by cases h
  | ⟨x0, x1, x2⟩ :: a, ⟨y0, y1, y2⟩ :: b, h => by
    simp only [List.map_cons, List.cons.injEq, Prod.mk.injEq] at h
    obtain ⟨⟨rfl, rfl, rfl⟩, h⟩ := h
    rw [map_inj a b h]
/-- The superblock's ops: alike on both sides, four writes of whole sectors. -/
theorem sup_ops : ∃ ops b, spec_SuperOps.f 20000 1 0 2 0 = some (ops, b) ∧ impl_SuperOps.f 20000 1 0 2 0 = some (ops, b) ∧ ops.length = 4 ∧ ∀ o ∈ ops, o.f0 = 1 ∧ 0 ≤ o.f1 ∧ o.f1 < 32 ∧ o.f2.length = 64 := by
  have h1 := ops_good
  have h2 := ops_both
  generalize impl_SuperOps.f 20000 1 0 2 0 = x at h1 h2 ⊢
  generalize spec_SuperOps.f 20000 1 0 2 0 = y at h2 ⊢
  match x, y, h1, h2 with
  | none, _, h1, _ => cases h1
  | some _, none, _, h2 => cases h2
  | some (ops, b), some (ops2, b2), h1, h2 =>
    simp only [opsT, Option.map_some, Option.some.injEq, Prod.mk.injEq] at h2
    obtain ⟨h3, rfl⟩ := h2
    obtain rfl := map_inj _ _ h3
    simp only [chk, Bool.and_eq_true, List.all_eq_true, decide_eq_true_eq, beq_iff_eq] at h1
    exact ⟨_, _, rfl, rfl, h1.1, fun o ho => h1.2 o ho⟩
/-- Writes that all go well, and a sync: Play's disk is that of all ops. -/
theorem play_all : ∀ (r : List S63) (d : List (List Int) × List S185), (∀ o ∈ r, o.f0 = 1 ∧ 0 ≤ o.f1 ∧ o.f1 < (d.1.length : Int) ∧ o.f2.length = 64) → d.2.length + r.length ≤ 5000 → (playL (r ++ [⟨2, 0, []⟩]) d).1 = playA (r ++ [⟨2, 0, []⟩]) d
  | [], d, _, _ => by
    have e : doV d.1 d.2 2 0 [] = ((syncL d.1 d.2, []), true) := by simp [doV]
    simp [playL, playA, e]
  | o :: r, d, h, hl => by
    obtain ⟨h1, h2, h3, h4⟩ := h o List.mem_cons_self
    have hl' : d.2.length + (r.length + 1) ≤ 5000 := hl
    have e : doV d.1 d.2 o.f0 o.f1 o.f2 = ((d.1, d.2 ++ [⟨o.f1, o.f2⟩]), true) := by
      unfold doV
      rw [if_pos h1, if_neg (by omega), if_neg (by omega), if_pos h4, if_neg (by omega)]
    show (playL (o :: (r ++ [⟨2, 0, []⟩])) d).1 = playA (o :: (r ++ [⟨2, 0, []⟩])) d
    have ih := play_all r (d.1, d.2 ++ [⟨o.f1, o.f2⟩]) (fun p hp => h p (List.mem_cons_of_mem _ hp)) (by simp; omega)
    unfold playL
    rw [e, if_pos rfl]
    dsimp only
    rw [ih]
    show _ = playA (r ++ [⟨2, 0, []⟩]) (doV d.1 d.2 o.f0 o.f1 o.f2).1
    rw [e]
theorem mono_le {α : Type} {f : Nat → Option α} (hm : ∀ k, LeO (f k) (f (k + 1))) {v : α} {a b : Nat} (h : f a = some v) (hab : a ≤ b) : f b = some v := by
  obtain ⟨j, rfl⟩ : ∃ j, b = a + j := ⟨b - a, by omega⟩
  clear hab
  induction j with
  | zero => exact h
  | succ j ih => exact hm _ _ ih
theorem FnExactFormat (w : World) (pages : Int) (_hp : (Lit.int .i64 pages).wf = true) : Calls Try.prog 9 #[.int .i64 pages] w fun e w' => e = .returned (.bool true) ∧ Below w.heap.size w w' := by
  by_cases hearly : pages < 8 ∨ 1024 < pages
  · have hs : Cv (fun k => spec_Format.f k pages) ([], [], false) := by
      unfold spec_Format.f
      by_cases h8 : pages < 8
      · exact Cv.pos h8 (Cv.step (fun k => spec_Format.j0.eq_2 _ _ k) (Cv.pos rfl (Cv.of rfl)))
      · refine Cv.neg h8 ?_
        rw [decide_eq_true (show pages > 1024 by omega)]
        exact Cv.step (fun k => spec_Format.j0.eq_2 _ _ k) (Cv.pos rfl (Cv.of rfl))
    obtain ⟨k, hk⟩ := hs.get
    obtain ⟨k6, hk6⟩ := (eqD (ls := []) (ps := []) (fun l hl => by cases hl) (by decide) (fun l hl => by cases hl) (by decide)).get
    obtain ⟨k9, hk9⟩ := (heldD (ls := []) (ps := []) (by decide) (by decide) (by decide)).get
    refine laws_FnExactFormat.full k k6 k9 pages [] [] false w hk (fun w => (impl_Format.early pages w hearly).mono ?_) hk6 (by decide) hk9
    rintro e w' ⟨rfl, hb⟩
    exact ⟨_, _, fun _ => False, fun _ => False, rfl, ⟨fun _ h => h.elim, Kd.S_nil _ _ _ _ _, Kd.S_nil _ _ _ _ _⟩, hb⟩
  · obtain ⟨n, hn⟩ : ∃ n : Nat, (n : Int) = 4 * pages := ⟨(4 * pages).toNat, by omega⟩
    obtain ⟨ops, b, hso, hio, hlen, hops⟩ := sup_ops
    obtain ⟨ki, hki⟩ := (implN (n := n) (by omega) (by omega)).get
    obtain ⟨ks, hks⟩ := specN (n := n) (by omega) (by omega)
    rw [hn] at hki
    have hsl : (news n).length = n := List.length_replicate
    have hmem : ∀ l ∈ news n, l.length = 64 := fun l hl => by rw [(List.mem_replicate.1 hl).2, List.length_replicate]
    have hbd : Bd (news n) [] := ⟨fun l hl => by rw [hmem l hl]; decide, fun p hp => by cases hp⟩
    have hok : okDisk (news n) [] := ⟨by omega, by omega, by decide, hmem, fun p hp => by cases hp⟩
    have hLl : (ops ++ [(⟨2, 0, []⟩ : S63)]).length = 5 := by rw [List.length_append, hlen]; rfl
    have hplay : (playOf (decide (okDisk (news n) [])) (news n) [] (ops ++ [⟨2, 0, []⟩]) 5).1 = playA (ops ++ [⟨2, 0, []⟩]) (news n, []) := by
      unfold playOf
      rw [if_pos (decide_eq_true hok), if_pos (by omega), List.take_of_length_le (by rw [hLl]; decide)]
      exact play_all ops (news n, []) (fun o ho => by have h := hops o ho; exact ⟨h.1, h.2.1, by show o.f1 < ((news n).length : Int); omega, h.2.2.2⟩) (by simp; omega)
    obtain ⟨⟨e0, e1⟩, hres⟩ : ∃ r, playA (ops ++ [⟨2, 0, []⟩]) (news n, []) = r := ⟨_, rfl⟩
    have hpb := playOf_bd (ok := decide (okDisk (news n) [])) (ops := ops ++ [⟨2, 0, []⟩]) (n := 5) (safe := news n) (ps := []) (by decide) (fun _ => ⟨Nat.zero_le _, fun p hp => by cases hp⟩) hbd
    rw [hplay, hres] at hpb
    obtain ⟨b1, b3, b2, b4⟩ := hpb
    dsimp only at b1 b2 b3 b4
    have t0 : (1 : Int) + (totL e0 : Int) + totP e1 ≤ 4611686018427387904 := by
      have q0 := totL_bd b2
      have q1 := totP_bd b4
      have q2 : e0.length * 1048576 ≤ 1048576 * 1048576 := Nat.mul_le_mul_right _ (by omega)
      have q3 : e1.length * (1 + 1048576) ≤ 1048577 * (1 + 1048576) := Nat.mul_le_mul_right _ (by omega)
      omega
    obtain ⟨k6, hk6⟩ := (eqD (ls := e0) (ps := e1) (fun l hl => by have := b2 l hl; omega) (by omega) (fun l hl => by have := b4 l hl; omega) (by omega)).get
    obtain ⟨k9, hk9⟩ := (heldD (ls := e0) (ps := e1) t0 (by omega) (by omega)).get
    have hspec : spec_Format.f (max ks 20000 + 1) pages = some (e0, e1, true) := by
      unfold spec_Format.f
      rw [if_neg (by omega), decide_eq_false (show ¬ pages > 1024 by omega)]
      rw [spec_Format.j0.eq_2, if_neg (by decide), w64 (by omega) (by omega), ← hn, show spec_NewDisk.f (max ks 20000) (n : Int) = some (news n, [], true) from hks _ (Nat.le_max_left _ _), Option.bind_some]
      have hm : spec_SuperOps.f (max ks 20000) 1 0 2 0 = some (ops, b) := mono_le (f := fun k => spec_SuperOps.f k 1 0 2 0) (fun k => spec_SuperOps.mono 1 0 2 0 k) hso (Nat.le_max_right _ _)
      rw [hm, Option.bind_some]
      dsimp only
      rw [if_pos (by omega)]
      have hpf : spec_PlayF.f (news n) [] (ops ++ [⟨2, 0, []⟩]) 5 = some (e0, e1, (playOf (decide (okDisk (news n) [])) (news n) [] (ops ++ [⟨2, 0, []⟩]) 5).2) := by
        unfold spec_PlayF.f
        rw [if_pos ⟨by omega, by decide, hbd⟩, hplay, hres]
      rw [hpf]
      rfl
    refine laws_FnExactFormat.full _ k6 k9 pages e0 e1 true w hspec (fun w => ?_) hk6 t0 hk9
    have h := impl_Format.main ki 20000 pages (news n) ops true b w (by omega) (by omega) hki hio (by omega) (by omega) (fun o ho => by have h := hops o ho; exact WalkArith.wf_i64 (by omega))
    rw [hres] at h
    exact h
end Go.Proofs.Ytlopmffdebhpfaa.Pure

/-! ## Open -/
namespace Go.Proofs.Ytlopmffdebhpfaa.G
open Go.RowKit Go.ChangeShapes Go.WideShapes Go.ChangeAt Go.Proofs.YtlopmffdebhpfaaW.PrintWords Go.Proofs.YtlopmffdebhpfaaW.PrintLast Go.Proofs.YtlopmffdebhpfaaW.PrintMore
section
variable {H : Type} {enc : TypeId × Value → H} {P : Program} {w : World} {base : Nat} {spare : Nat → Bool} {held : Bool}
/-- A row of bytes. -/
def Wb (l : List Int) : Prop := ∀ x ∈ l, (Lit.int .u8 x).wf = true
/-- A disk that came in, opened. -/
structure ODisk (w : World) where
  A0 : Option Addr
  c0 : Nat
  A1 : Option Addr
  c1 : Nat
  l0 : List (List Int)
  l1 : List S184
  hc0 : l0.length ≤ c0
  hc1 : l1.length ≤ c1
  hr0 : Kd.C (Kd.slice 5 (Kd.int .u8)) w A0 l0.length l0
  hr1 : Kd.C k184 w A1 l1.length l1
  hw0 : ∀ l ∈ l0, Wb l
  hw1 : ∀ q ∈ l1, (Lit.int .i64 q.f0).wf = true ∧ Wb q.f1
def ODisk.v {w : World} (o : ODisk w) : Value := .agg #[.slice o.A0 o.l0.length o.c0, .slice o.A1 o.l1.length o.c1]
end
end Go.Proofs.Ytlopmffdebhpfaa.G

/-! ## LawFnExactFormat -/
namespace Go.Proofs.Ytlopmffdebhpfaa.fnExactFormat
open Go.ChangeShapes Go.WideShapes Go.ChangeAt Go.RowKit
open Go.ChangeMaps (open_string shut_string)
set_option linter.unusedVariables false
theorem own : ownKnob Try.prog.godebug = none := by kernel_rfl
theorem laidOut : laidOutB Try.prog = true := by kernel_rfl
set_option maxRecDepth 100000 in
theorem lifted (os : Os) (started : os.Started) (H : Type) (enc : TypeId × Value → H) :
    ReturnsInHanded {} Try.checked os 9 .any (Rows.fnExactFormatSpec.pre6 enc Try.prog Try.f9 Rows.fnExactFormatRow.domain false) (Rows.fnExactFormatSpec.post enc Try.prog Try.f9 false true false false) := by
  refine returnsInHanded_of_change_sized (C := Try.checked) own started (by kernel_rfl) Try.func9
    (ChangeSpec.witness6 (enc := enc) (C := Try.checked) false ⟨#[], #[.int .i64 0], []⟩ 8 (by kernel_rfl) (by kernel_rfl) (by kernel_rfl) (by kernel_rfl)) ?_
  intro W base args ds gs before hval0 hW hcnd hsz0 _
  have hval : ∀ (j : Nat) t v, Try.f9.params[j]? = some t → args[j]? = some v → Value.okWide Try.prog W .any base t v := hval0
  have hW' := hW
  obtain ⟨p, q, hA0, hV, rfl, hfz, hnd⟩ := hW
  have hA : DataW.TrodAll enc Try.prog W 0 (fun _ => true) true Try.f9.params.toList args.toList ds p := hA0
  rw [Try.params9] at hA hval
  obtain ⟨v0, vs0, d0, ds0, p0, q0, hargs, rfl, rfl, h0, r0⟩ := trodAll_cons hA
  obtain ⟨rfl, rfl, rfl⟩ := trodAll_nil r0
  obtain rfl : args = #[v0] := by cases args; simp_all
  obtain ⟨rfl, rfl⟩ := trodVars_none hV
  obtain ⟨a0, rfl, rfl, rfl, w0⟩ := open_int Try.underlying3 (hval 0 3 v0 rfl rfl) h0
  clear hA0 hval0 hsz0
  refine (Pure.FnExactFormat W _ w0).mono fun e W' ⟨he, bel⟩ => ?_
  subst he
  exact ⟨_, rfl, _, _, _, [], _, [], hW', trodAll_mk1 (shut_bool Try.underlying4 _), (trodAll_cons_mk (shut_int Try.underlying3 w0) trodAll_mk0), rfl, bel.frame _, fun h => by cases h⟩
theorem over : Rows.fnExactFormatRow.holds Try.pinned (OpenSpec.ofChange Rows.fnExactFormatSpec) :=
  OpenClaim.holds_of_wide 9 Try.f9 rfl rfl rfl rfl rfl rfl rfl ⟨rfl, rfl, rfl, rfl, rfl⟩ rfl rfl rfl rfl rfl (by kernel_rfl) Try.func9 (by kernel_rfl)
    (of_decide_eq_true (by kernel_rfl)) (by unfold Func.isWrapper; first | (rw [if_pos (by decide +kernel)]; kernel_rfl) | (rw [if_neg (by decide +kernel)]; exact ⟨rfl, rfl⟩))
    (fun os started H enc _ => lifted os started H enc)
theorem proved : Rows.FnExactFormatSaid := over
#print axioms proved
end Go.Proofs.Ytlopmffdebhpfaa.fnExactFormat
namespace Go.Proofs.Ytlopmffdebhpfaa
/-- The row, under a short name, for the claim. -/
theorem fnExactFormat_holds : Rows.FnExactFormatSaid := fnExactFormat.proved
end Go.Proofs.Ytlopmffdebhpfaa
